/- The abstract machine, second part: operations that write, calls, one operation of a region. Conditions: none. -/
import Derived.Test.YtpkhdnaeaeiidaaDoorKa
import Derived.Laws.MakeOwn
import Derived.Laws.Tables
set_option linter.unusedSimpArgs false
set_option linter.unusedVariables false

/- The abstract machine, its thirteenth part: an operation that makes a new block. Conditions: the check. -/
namespace Go.Absw
open Go

/-- The blocks of all tokens. -/
def blks (τ : Tau) (tk : Nat → Tok) (b : Nat) : Prop := ∃ t, (tk t).c.live = true ∧ ∃ k, τ t = some k ∧ k.b = b

/-- From one state and world to the next. -/
structure Nxt (τ : Tau) (σ : St) (C : Cells) (w : World) (τ' : Tau) (σ' : St) (C' : Cells) (w' : World) : Prop where
  stp : Stp (blks τ σ.tk) C w C' w'
  own : ∀ t k', (σ'.tk t).c.live = true → τ' t = some k' → ((σ.tk t).c.live = true ∧ ∃ k, τ t = some k ∧ k.b = k'.b) ∨ w.heap.size ≤ k'.b
  le : ∀ t, σ.S t ≤ σ'.S t
  same : ∀ t, σ'.S t = σ.S t → τ' t = τ t

theorem Nxt.blks {τ τ' : Tau} {σ σ' : St} {C C' : Cells} {w w' : World} (h : Nxt τ σ C w τ' σ' C' w') (b : Nat) (hb : blks τ' σ'.tk b) : Go.Absw.blks τ σ.tk b ∨ w.heap.size ≤ b := by
  obtain ⟨t, hl, k', hk', rfl⟩ := hb
  rcases h.own t k' hl hk' with ⟨h1, h2⟩ | h1
  · exact .inl ⟨t, h1, h2⟩
  · exact .inr h1

theorem Nxt.refl (τ : Tau) (σ : St) (C : Cells) (w : World) : Nxt τ σ C w τ σ C w := ⟨Stp.refl _ _ _, fun t k' hl hk' => .inl ⟨hl, k', hk', rfl⟩, fun _ => Nat.le_refl _, fun _ _ => rfl⟩
theorem Nxt.trans {τ τ₁ τ₂ : Tau} {σ σ₁ σ₂ : St} {C C₁ C₂ : Cells} {w w₁ w₂ : World} (h : Nxt τ σ C w τ₁ σ₁ C₁ w₁) (k : Nxt τ₁ σ₁ C₁ w₁ τ₂ σ₂ C₂ w₂) : Nxt τ σ C w τ₂ σ₂ C₂ w₂ where
  stp := h.stp.trans k.stp h.blks
  own := fun t k2 hl hk2 => by
    rcases k.own t k2 hl hk2 with ⟨h1, k1, h2, h3⟩ | h1
    · rcases h.own t k1 h1 h2 with ⟨g1, k0, g2, g3⟩ | g1
      · exact .inl ⟨g1, k0, g2, g3.trans h3⟩
      · exact .inr (by omega)
    · exact .inr (Nat.le_trans h.stp.size h1)
  le := fun t => Nat.le_trans (h.le t) (k.le t)
  same := fun t ht => by
    have h1 := h.le t
    have h2 := k.le t
    exact (k.same t (by omega)).trans (h.same t (by omega))

/-- An operation goes through and leaves the state σ'. -/
def OpOk (G : Env) (C : Cells) (τ : Tau) (σ σ' : St) (o : Oper) (a : Act) (w : World) : Prop :=
  ∀ (K : Act → World → Prop) (Q : Exit → Act → World → Prop),
    (∀ a' w' C' τ', Core G C' τ' σ' a'.tmps w' → a'.defers = a.defers → a'.tmps.size = a.tmps.size → Nxt τ σ C w τ' σ' C' w' → K a' w') → o.wp G.P a w K Q

theorem put_size (a : Act) (d : Option Tmp) (v : Value) : (a.put d v).tmps.size = a.tmps.size := by cases d <;> simp [Act.put]
theorem put_defers' (a : Act) (d : Option Tmp) (v : Value) : (a.put d v).defers = a.defers := by cases d <;> rfl
theorem slots_put {C : Cells} {S : Nat → Nat} {τ : Tau} {w : World} {σ : St} {a : Act} {d : Option Nat} {v : Value} {p : PV} (h : ∀ n, RP C S τ w (a.tmps.getD n undef) (σ.sl n)) (hv : d ≠ none → RP C S τ w v p)
    (hd : ∀ n, d = some n → n < a.tmps.size) (n : Nat) : RP C S τ w ((a.put d v).tmps.getD n undef) ((σ.put d p).sl n) := by
  cases d with
  | none => exact h n
  | some d =>
    simp only [Act.put, St.put]
    by_cases hn : n = d
    · subst hn
      rw [if_pos rfl]
      have hlt := hd n rfl
      have : (a.tmps.setIfInBounds n v).getD n undef = v := by simp [Array.getD, hlt]
      rw [this]
      exact hv (by simp)
    · rw [if_neg hn]
      have : (a.tmps.setIfInBounds d v).getD n undef = a.tmps.getD n undef := by
        simp only [Array.getD_eq_getD_getElem?]
        rw [Array.getElem?_setIfInBounds_ne (fun e => hn e.symm)]
      rw [this]
      exact h n

theorem put_S (σ : St) (d : Option Nat) (p : PV) : (σ.put d p).S = σ.S := by cases d <;> rfl
theorem put_tk (σ : St) (d : Option Nat) (p : PV) : (σ.put d p).tk = σ.tk := by cases d <;> rfl

/-- A read-only operation. -/
theorem opR {G : Env} {C : Cells} {τ : Tau} {σ : St} {o : Oper} {a : Act} {w : World} {k : RK} {args : List PArg} (hc : chkR G.P o k args = true) (h : Core G C τ σ a.tmps w) {foot : List Nat} {q : PV}
    (hsem : semR σ foot k (args.map (·.val G σ foot)) = some q) (hd : ∀ n, o.dst = some n → n < a.tmps.size) : OpOk G C τ σ (σ.put o.dst q) o a w := by
  intro K Q hK
  obtain ⟨u, h1, h2⟩ := semR_sound hc h hsem
  unfold Oper.wp
  rw [h1]
  refine hK _ _ C τ ?_ (put_defers' ..) (put_size ..) ⟨Stp.refl _ _ _, fun t k' hl hk' => .inl ⟨by rw [put_tk] at hl; exact hl, k', hk', rfl⟩, fun t => by rw [put_S]; exact Nat.le_refl _, fun t _ => rfl⟩
  refine ⟨fun n => ?_, fun t => ?_, ?_, h.lt, h.glob⟩
  · rw [put_S]; exact slots_put h.slots (fun _ => h2) hd n
  · rw [put_S, put_tk]; exact h.toks t
  · rw [put_tk]; exact h.dist

/-! ### a new block -/
structure NewB (w w' : World) (o : Obj) : Prop where
  os : w'.os = w.os
  tape : w'.tape = w.tape
  output : w'.output = w.output
  heap : w'.heap = w.heap.push o

theorem NewB.old {w w' : World} {o : Obj} (h : NewB w w' o) {b : Nat} (hb : b < w.heap.size) : w'.heap[b]? = w.heap[b]? := by
  rw [h.heap, Array.getElem?_push]; simp [Nat.ne_of_lt hb]
theorem NewB.new {w w' : World} {o : Obj} (h : NewB w w' o) : w'.heap[w.heap.size]? = some o := by rw [h.heap]; simp
theorem NewB.cell {w w' : World} {o : Obj} (h : NewB w w' o) {b n : Nat} (hb : b < w.heap.size) : w'.cell? ⟨b, n, none⟩ = w.cell? ⟨b, n, none⟩ := by
  simp [World.cell?, h.old hb]
theorem NewB.stp {w w' : World} {o : Obj} (h : NewB w w' o) {C : Cells} (hC : ∀ b n, C b n → b < w.heap.size) (W : Nat → Prop) : Stp W C w C w' :=
  ⟨h.os, h.tape, h.output, by rw [h.heap]; simp, fun b hb _ => h.old hb, fun _ _ h => h, fun _ _ h => .inl h, fun b n hb => h.cell (hC b n hb)⟩
theorem NewB.alloc (w : World) (o : Obj) : NewB w (w.alloc o) o := ⟨rfl, rfl, rfl, rfl⟩

def tau1 (τ : Tau) (id : Nat) (k : Blk) : Tau := fun t => if t = id then some k else τ t
theorem tau1_same (τ : Tau) (id : Nat) (k : Blk) : tau1 τ id k id = some k := by simp [tau1]
theorem tau1_other (τ : Tau) {id t : Nat} (k : Blk) (h : t ≠ id) : tau1 τ id k t = τ t := by simp [tau1, h]

theorem setT_S (σ : St) (id : Nat) (x : Tok) (t : Nat) : (σ.setT id x).S t = if t = id then x.st else σ.S t := by
  simp only [St.S, St.setT]; split <;> rfl

/-- A token gets a new block. -/
theorem core_new {G : Env} {C : Cells} {τ : Tau} {σ : St} {a : Act} {w w' : World} (h : Core G C τ σ a.tmps w) {ob : Obj} (hn : NewB w w' ob) {id : Nat} {k : Blk} (hk : k.b = w.heap.size) {c : TC}
    (hT : TR C (σ.setT id ⟨(σ.tk id).st + 1, c⟩).S (tau1 τ id k) w' id c) {d : Option Nat} {v : Value} {p : PV} (hv : RP C (σ.setT id ⟨(σ.tk id).st + 1, c⟩).S (tau1 τ id k) w' v p)
    (hd : ∀ n, d = some n → n < a.tmps.size) :
    Core G C (tau1 τ id k) ((σ.setT id ⟨(σ.tk id).st + 1, c⟩).put d p) (a.put d v).tmps w' ∧ Nxt τ σ C w (tau1 τ id k) ((σ.setT id ⟨(σ.tk id).st + 1, c⟩).put d p) C w' := by
  have hS : ∀ t, σ.S t ≤ (σ.setT id ⟨(σ.tk id).st + 1, c⟩).S t := by
    intro t; rw [setT_S]; split
    · subst_vars; simp [St.S]
    · exact Nat.le_refl _
  have hτ : ∀ t, (σ.setT id ⟨(σ.tk id).st + 1, c⟩).S t = σ.S t → tau1 τ id k t = τ t := by
    intro t ht
    by_cases e : t = id
    · subst e; rw [setT_S, if_pos rfl] at ht; simp [St.S] at ht
    · exact tau1_other τ k e
  refine ⟨?_, hn.stp h.lt _, ?_, fun t => by rw [put_S]; exact hS t, fun t => by rw [put_S]; exact hτ t⟩
  · refine Core.step (A := [id]) h (hn.stp h.lt _) (fun t ht => ?_) (fun t => ?_) (fun t => ?_) (fun t ht => ?_) (fun t ht hl k' hk' => ?_) (fun b o hb => ?_) (fun n => ?_)
    · have : t ≠ id := by simpa using ht
      exact ⟨by rw [put_tk]; simp [St.setT, this], tau1_other τ k this⟩
    · rw [put_S]; exact hS t
    · rw [put_S]; exact hτ t
    · have : t = id := by simpa using ht
      subst this
      rw [put_S, put_tk]
      simpa [St.setT] using hT
    · have : t = id := by simpa using ht
      subst this
      rw [tau1_same] at hk'; cases hk'
      exact .inr ⟨by omega, fun t' ht' _ _ _ _ => (List.mem_singleton.1 ht').symm⟩
    · have := h.lt b o hb
      rw [hn.heap]; simp; omega
    · rw [put_S]
      exact slots_put (σ := σ.setT id _) (fun n => (h.slots n).mono (fun _ _ h => h) (fun b o hb => hn.cell (h.lt b o hb)) hS hτ) (fun _ => hv) hd n
  · intro t k' hl hk'
    rw [put_tk] at hl
    by_cases e : t = id
    · subst e; rw [tau1_same] at hk'; cases hk'; exact .inr (by omega)
    · rw [tau1_other τ k e] at hk'
      simp only [St.setT, if_neg e] at hl
      exact .inl ⟨hl, k', hk', rfl⟩
end Go.Absw

/- The abstract machine, its fourteenth part: variables, composite slices, bytes of strings, make. Conditions: the check. -/
namespace Go.Absw
open Go

section
variable {C : Cells} {S : Nat → Nat} {τ : Tau} {w : World}

/-- A row in a new block out of its cells. -/
theorem TR_row {w' : World} {vs : Array Value} {e : TypeId} {fr : Nat × Nat} {k : Blk} {id sz n : Nat} {ys : List FV} (hτ : τ id = some k) (hsz : k.sz = sz) (hb : w'.heap[k.b]? = some (.cells vs e fr)) (hf : NoFr vs.size fr)
    (hcap : vs.size = k.cap * sz) (hn : n ≤ k.cap) (hm : k.cap ≤ maxLen) (hl : ys.length = n * sz) (h1 : ∀ (i : Nat) v, vs[i]? = some v → v.oneCell' = true)
    (hr : ∀ (i : Nat) y, ys[i]? = some y → ∃ v, vs[i]? = some v ∧ RF C w' v y) (hC : ∀ o, ¬ C k.b o) : TR C S τ w' id (.row e sz 0 0 (chunk sz n ys)) := by
  refine .inr ⟨k, vs, fr, hτ, hsz, hb, hf, hcap, by rw [chunk_length]; exact hn, hm, chunk_len hl, h1, fun i j c y hc hy => ?_, fun o ho => absurd ho (hC o), Nat.zero_le _, fun o ho => by omega⟩
  have := chunk_get sz n ys i c hc
  subst this
  rw [List.getElem?_take] at hy
  split at hy
  · rw [List.getElem?_drop] at hy
    exact hr _ y hy
  · cases hy
end

section
variable {G : Env} {C : Cells} {τ : Tau} {σ : St} {a : Act} {w : World}

theorem zero_cells {P : Program} {ty : TypeId} {z : List FV} (hz : zeroIs P ty z = true) (w : World) : ∃ zv, (zeroValue ty).run P w = .ok zv w ∧ valsOk zv.cells.toList z = true ∧ ∃ i, P.info? ty = some i ∧ i.zero = some zv := by
  unfold zeroIs at hz
  split at hz
  · rename_i i hi
    split at hz
    · rename_i v hv
      exact ⟨v, by simp [zeroValue, typeInfo, hi, hv], hz, i, hi, hv⟩
    · cases hz
  · cases hz

theorem RL.mono {C C' : Cells} {S S' : Nat → Nat} {τ τ' : Tau} {w w' : World} (hC : ∀ b o, C b o → C' b o) (hw : ∀ b o, C b o → w'.cell? ⟨b, o, none⟩ = w.cell? ⟨b, o, none⟩)
    (hS : ∀ t, S t ≤ S' t) (hτ : ∀ t, S' t = S t → τ' t = τ t) {vs : List Value} {xs : List PV} (h : RL C S τ w vs xs) : RL C' S' τ' w' vs xs :=
  ⟨h.len, h.one, fun i v x hv hx => (h.rel i v x hv hx).mono hC hw hS hτ⟩

/-- A variable in a new block. -/
theorem new_box (h : Core G C τ σ a.tmps w) {vs : Array Value} {cs : List PV} (hr : RL C σ.S τ w vs.toList cs) (id : Nat) (ty : TypeId) {d : Option Nat} (hd : ∀ n, d = some n → n < a.tmps.size) :
    ∃ C' τ', Core G C' τ' ((σ.setT id ⟨(σ.tk id).st + 1, .box ty false cs⟩).put d (.ptr id 0 0 ((σ.tk id).st + 1))) (a.put d (.pointer (some ⟨w.heap.size, 0, none⟩))).tmps (w.alloc (.cells vs ty)) ∧
      Nxt τ σ C w τ' ((σ.setT id ⟨(σ.tk id).st + 1, .box ty false cs⟩).put d (.ptr id 0 0 ((σ.tk id).st + 1))) C' (w.alloc (.cells vs ty)) := by
  have hn := NewB.alloc w (.cells vs ty)
  have hS : ∀ t, σ.S t ≤ (σ.setT id ⟨(σ.tk id).st + 1, .box ty false cs⟩).S t := by
    intro t; rw [setT_S]; split
    · subst_vars; simp [St.S]
    · exact Nat.le_refl _
  have hτ : ∀ t, (σ.setT id ⟨(σ.tk id).st + 1, .box ty false cs⟩).S t = σ.S t → tau1 τ id ⟨w.heap.size, 0, 0⟩ t = τ t := by
    intro t ht
    by_cases e : t = id
    · subst e; rw [setT_S, if_pos rfl] at ht; simp [St.S] at ht
    · exact tau1_other τ _ e
  have hr' := hr.mono (fun _ _ h => h) (fun b o hb => hn.cell (h.lt b o hb)) hS hτ
  refine ⟨C, _, core_new h hn (k := ⟨w.heap.size, 0, 0⟩) rfl ?_ ?_ hd⟩
  · refine ⟨_, vs, (0, 0), tau1_same _ _ _, hn.new, .inr (Nat.le_refl _), by simpa using hr'.len, fun i v hv => hr'.one i v (by simpa using hv), fun i v x hv hx => hr'.rel i v x (by simpa using hv) hx, fun o ho => ?_, fun hz => by cases hz⟩
    exact absurd (h.lt _ _ ho) (Nat.lt_irrefl _)
  · exact .ptr _ _ _ _ _ rfl (by rw [setT_S, if_pos rfl]; exact Nat.le_refl _) (fun _ => ⟨_, tau1_same _ _ _, by simp⟩)

/-- A row in a new block. -/
theorem new_row (h : Core G C τ σ a.tmps w) {w' : World} {vs : Array Value} {fr : Nat × Nat} {e : TypeId} (hn : NewB w w' (.cells vs e fr)) (hf : NoFr vs.size fr) {ys : List FV} {sz n cap : Nat} (hcap : vs.size = cap * sz) (hle : n ≤ cap) (hm : cap ≤ maxLen)
    (hl : ys.length = n * sz) (h1 : ∀ (i : Nat) v, vs[i]? = some v → v.oneCell' = true) (hr : ∀ (i : Nat) y, ys[i]? = some y → ∃ v, vs[i]? = some v ∧ RF C w v y) (id : Nat) {d : Option Nat} (hd : ∀ n, d = some n → n < a.tmps.size) :
    ∃ C' τ', Core G C' τ' ((σ.setT id ⟨(σ.tk id).st + 1, .row e sz 0 0 (chunk sz n ys)⟩).put d (.ts id 0 n ((σ.tk id).st + 1))) (a.put d (.slice (some ⟨w.heap.size, 0, none⟩) n cap)).tmps w' ∧
      Nxt τ σ C w τ' ((σ.setT id ⟨(σ.tk id).st + 1, .row e sz 0 0 (chunk sz n ys)⟩).put d (.ts id 0 n ((σ.tk id).st + 1))) C' w' := by
  refine ⟨C, _, core_new h hn (k := ⟨w.heap.size, cap, sz⟩) rfl ?_ ?_ hd⟩
  · refine TR_row (tau1_same _ _ _) rfl hn.new hf hcap hle hm hl h1 (fun i y hy => ?_) (fun o ho => ?_)
    · obtain ⟨v, hv, hr'⟩ := hr i y hy
      exact ⟨v, hv, hr'.mono (fun _ _ h => h) (fun b o hb => hn.cell (h.lt b o hb))⟩
    · exact absurd (h.lt _ _ ho) (Nat.lt_irrefl _)
  · exact .ts _ _ _ _ _ rfl (by rw [setT_S, if_pos rfl]; exact Nat.le_refl _) (fun _ => .inr ⟨_, 0, tau1_same _ _ _, by simp, by simpa using hle, fun _ => by simp⟩)

/-! ### a row of zeros -/
theorem flatten_get {z : List FV} : ∀ (n i : Nat) (y : FV), (List.replicate n z).flatten[i]? = some y → i < n * z.length ∧ z[i % z.length]? = some y
  | 0, i, y, h => by simp at h
  | n + 1, i, y, h => by
    simp only [List.replicate_succ, List.flatten_cons] at h
    by_cases hi : i < z.length
    · rw [List.getElem?_append_left hi] at h
      rw [Nat.mod_eq_of_lt hi]
      exact ⟨by rw [Nat.add_mul]; omega, h⟩
    · rw [List.getElem?_append_right (by omega)] at h
      obtain ⟨h1, h2⟩ := flatten_get n _ y h
      refine ⟨by rw [Nat.add_mul]; omega, ?_⟩
      rw [Nat.mod_eq_sub_mod (by omega)]
      exact h2
theorem flatten_len (z : List FV) (n : Nat) : (List.replicate n z).flatten.length = n * z.length := by
  induction n with
  | zero => simp
  | succ n ih => rw [List.replicate_succ, List.flatten_cons, List.length_append, ih, Nat.add_mul]; omega

theorem made_RL {C : Cells} {S : Nat → Nat} {τ : Tau} {w : World} {zv : Value} {z : List FV} (hz : valsOk zv.cells.toList z = true) (n : Nat) :
    RL C S τ w (madeCells zv.cells (n * z.length)).toList ((List.replicate n z).flatten.map .f) := by
  obtain ⟨h1, h2⟩ := valsOk_RF (C := C) (w := w) hz
  have hsz : zv.cells.size = z.length := by simpa using h1
  have get : ∀ (i : Nat) v, (madeCells zv.cells (n * z.length)).toList[i]? = some v → ∃ j, j = i % z.length ∧ zv.cells.toList[j]? = some v := by
    intro i v hv
    have hi := (List.getElem?_eq_some_iff.1 hv).1
    simp only [madeCells, Array.toList_map, Array.toList_range, List.getElem?_map] at hv
    obtain ⟨k, hk, rfl⟩ := Option.map_eq_some_iff.1 hv
    obtain ⟨hk1, rfl⟩ := List.getElem?_eq_some_iff.1 hk
    simp only [List.getElem_range]
    simp only [List.length_range] at hk1
    have hp : 0 < z.length := by
      rcases Nat.eq_zero_or_pos z.length with h0 | h0
      · rw [h0, Nat.mul_zero] at hk1; omega
      · exact h0
    have hlt : i % z.length < zv.cells.size := by rw [hsz]; exact Nat.mod_lt _ hp
    refine ⟨i % z.length, rfl, ?_⟩
    rw [hsz, getElem!_pos zv.cells _ hlt]
    simp [hlt]
  refine ⟨by simp [size_madeCells, flatten_len], fun i v hv => ?_, fun i v x hv hx => ?_⟩
  · obtain ⟨j, _, hj⟩ := get i v hv
    have hlt : j < z.length := by rw [← h1]; exact (List.getElem?_eq_some_iff.1 hj).1
    exact (h2 j v _ hj (List.getElem?_eq_getElem hlt)).one
  · rw [List.getElem?_map] at hx
    obtain ⟨y, hy, rfl⟩ := Option.map_eq_some_iff.1 hx
    obtain ⟨_, hy2⟩ := flatten_get n i y hy
    obtain ⟨j, hj1, hj⟩ := get i v hv
    rw [← hj1] at hy2
    exact .f _ _ (h2 j v y hj hy2)
end
end Go.Absw

/- The abstract machine, its fifteenth part: every operation that makes a block. Conditions: the check. -/
namespace Go.Absw
open Go

def elemPlaces (sz : Nat) : List Nat → List (Nat × Nat) → Bool
  | [], [] => true
  | i :: r, p :: q => i * sz == p.1 && sz == p.2 && elemPlaces sz r q
  | _, _ => false
theorem elemPlaces_spec {sz : Nat} : ∀ {is : List Nat} {ps : List (Nat × Nat)}, elemPlaces sz is ps = true → is.length = ps.length ∧ ∀ (n : Nat) i p, is[n]? = some i → ps[n]? = some p → some (i * sz, sz) = some p
  | [], [], _ => ⟨rfl, fun n i p h => by simp at h⟩
  | i :: r, p :: q, h => by
    simp only [elemPlaces, Bool.and_eq_true, beq_iff_eq] at h
    obtain ⟨h1, h2⟩ := elemPlaces_spec h.2
    refine ⟨by simp [h1], fun n i' p' hi hp => ?_⟩
    cases n with
    | zero => simp at hi hp; subst hi; subst hp; rw [h.1.1]; congr 1; exact Prod.ext rfl h.1.2
    | succ n => simp at hi hp; exact h2 n i' p' hi hp
  | [], _ :: _, h => by simp [elemPlaces] at h
  | _ :: _, [], h => by simp [elemPlaces] at h

def sliceOf (P : Program) (t e : TypeId) : Bool := match P.underlying t with | some (.slice e') => e' == e | _ => false
theorem sliceOf_spec {P : Program} {t e : TypeId} (h : sliceOf P t e = true) : P.underlying t = some (.slice e) := by
  unfold sliceOf at h; split at h
  · rename_i e' he; simp only [beq_iff_eq] at h; exact h ▸ he
  · cases h
def bytesIs (P : Program) (t : TypeId) (n : Nat) : Bool := match P.info? t with | some i => i.bytes == n | none => false

def chkA (P : Program) (o : Oper) (k : AK) (args : List PArg) : Bool :=
  match o.op with
  | .alloc t => match k with | .alloc ty z => t == ty && zeroIs P t z && args.isEmpty | _ => false
  | .box t x => match k with | .box ty n => t == ty && opdsOk [x] args | _ => false
  | .buildSlice t len parts => match k with
    | .bsl e sz n z ps => sliceOf P t e && sizeIs P e sz && zeroIs P e z && z.length == sz && len == n && decide (n * sz ≤ 16777216 ∧ n ≤ 16777216) && elemPlaces sz (parts.toList.map (·.1)) ps && opdsOk (parts.toList.map (·.2)) args
    | _ => false
  | .convert s d x => match k with
    | .s2b e => strT P s && sliceOf P d e && intT P e .u8 && opdsOk [x] args
    | _ => false
  | .makeSlice t l c => match k with
    | .mks e sz bytes z => sliceOf P t e && sizeIs P e sz && bytesIs P e bytes && zeroIs P e z && z.length == sz && opdsOk [l, c] args
    | _ => false
  | _ => false

section
variable {G : Env} {C : Cells} {τ : Tau} {σ : St} {a : Act} {w : World}

theorem run_v' {P : Program} {s : Sem Value} {u : Value} {w w' : World} (h : s.run P w = .ok u w') : (do pure (.value (← s)) : Sem Next).run P w = .ok (.value u) w' := by
  simp [h]

theorem opA_fin {o : Oper} {σ' : St} {u : Value} {w' : World} (hr : (execOp a.eval o).run G.P w = .ok (.value u) w')
    (hh : ∃ C' τ', Core G C' τ' σ' (a.put o.dst u).tmps w' ∧ Nxt τ σ C w τ' σ' C' w') : OpOk G C τ σ σ' o a w := by
  intro K Q hK
  obtain ⟨C', τ', h1, h2⟩ := hh
  unfold Oper.wp
  rw [hr]
  exact hK _ _ C' τ' h1 (put_defers' ..) (put_size ..) h2

theorem ofBytes_get (s : List UInt8) (i : Nat) (y : FV) (h : (s.map fun b => FV.int .u8 b.toNat)[i]? = some y) : ∃ b, s[i]? = some b ∧ y = .int .u8 b.toNat := by
  rw [List.getElem?_map] at h
  obtain ⟨b, hb, rfl⟩ := Option.map_eq_some_iff.1 h
  exact ⟨b, hb, rfl⟩
theorem ofBytes_chunk : ∀ s : List UInt8, ofBytes s = chunk 1 s.length (s.map fun b => FV.int .u8 b.toNat)
  | [] => rfl
  | b :: s => by
    simp only [ofBytes, List.map_cons, List.length_cons, chunk, List.take_succ_cons, List.take_zero, List.drop_succ_cons, List.drop_zero]
    rw [← ofBytes_chunk s]
    rfl

def byteCells (l : List UInt8) (cap : Nat) : Array Value := l.toArray.map (fun b => Value.int .u8 (b.toNat : Int)) ++ Array.replicate (cap - l.length) (.int .u8 0)
def byteWorld (w : World) (l : List UInt8) (cap : Nat) (e : TypeId) : World := ({ w with drawn := w.drawn + 1, heap := w.heap.push (.cells (byteCells l cap) e) } : World).freeze { block := w.heap.size, off := (byteCells l cap).size } 1
theorem byteB_new (w : World) (l : List UInt8) (cap : Nat) (e : TypeId) : NewB w (byteWorld w l cap e) (.cells (byteCells l cap) e ((byteCells l cap).size, (byteCells l cap).size + 1)) := by
  refine ⟨rfl, rfl, rfl, ?_⟩
  simp only [byteWorld, World.freeze, if_neg (show ¬ (1 = 0) by omega)]
  apply Array.ext_getElem?
  intro i
  rw [Array.getElem?_modify, Array.getElem?_push, Array.getElem?_push]
  by_cases hi : i = w.heap.size
  · subst hi; simp
  · simp [hi, Ne.symm hi]
theorem shape_push (os : Os) (tape : Nat → Question → Nat) (n : Nat) (out : Array (Nat × ByteArray)) (h : Array Obj) (cs : Array Value) (e : TypeId) :
    World.shape? ⟨h.push (.cells cs e), tape, n, os, out⟩ h.size = some (e, cs.size) := by simp [World.shape?]

theorem opA {o : Oper} {k : AK} {args : List PArg} (hc : chkA G.P o k args = true) (h : Core G C τ σ a.tmps w) {foot : List Nat} {id : Nat} {p : PV} {c : TC}
    (hsem : semA id ((σ.tk id).st + 1) k (args.map (·.val G σ foot)) = some (p, c)) (hd : ∀ n, o.dst = some n → n < a.tmps.size) :
    OpOk G C τ σ ((σ.setT id ⟨(σ.tk id).st + 1, c⟩).put o.dst p) o a w := by
  obtain ⟨dst, op, ty, pos, after, guard⟩ := o
  cases op <;> simp only [chkA] at hc
  case alloc t =>
    cases k <;> first | (simp at hc; done) | skip
    rename_i ty' z
    simp only [Bool.and_eq_true, beq_iff_eq] at hc
    obtain ⟨⟨rfl, hz⟩, ha⟩ := hc
    have : args = [] := by simpa using ha
    subst this
    simp only [List.map_nil, semA, Option.some.injEq, Prod.mk.injEq] at hsem
    obtain ⟨rfl, rfl⟩ := hsem
    obtain ⟨zv, hz1, hz2, _⟩ := zero_cells hz w
    refine opA_fin (u := .pointer (some ⟨w.heap.size, 0, none⟩)) (w' := w.alloc (.cells zv.cells t)) ?_ (new_box h (valsOk_RL hz2) id t hd)
    simp [execOp, Instr.alloc, hz1, newVar, newRow]
  case box t x =>
    cases k <;> first | (simp at hc; done) | skip
    rename_i ty' n
    simp only [Bool.and_eq_true, beq_iff_eq] at hc
    obtain ⟨rfl, hc⟩ := hc
    obtain ⟨q, rfl, hq⟩ := opds1 (P := G.P) h foot hc
    simp only [List.map_cons, List.map_nil, semA] at hsem
    split at hsem
    · rename_i cs hcs
      split at hsem
      · simp only [Option.some.injEq, Prod.mk.injEq] at hsem
        obtain ⟨rfl, rfl⟩ := hsem
        refine opA_fin (u := .pointer (some ⟨w.heap.size, 0, none⟩)) (w' := w.alloc (.cells (a.eval x).cells t)) ?_ (new_box h (RL.cells hq hcs) id t hd)
        simp [execOp, Instr.box, newVar, newRow]
      · cases hsem
    · cases hsem
  case buildSlice t len parts =>
    cases k <;> first | (simp at hc; done) | skip
    rename_i e sz n z ps
    simp only [Bool.and_eq_true, beq_iff_eq, decide_eq_true_eq] at hc
    obtain ⟨⟨⟨⟨⟨⟨⟨h1, h2⟩, h3⟩, h4⟩, rfl⟩, h6⟩, h7⟩, h8⟩ := hc
    obtain ⟨e1, e2⟩ := opds_RP (G := G) h foot h8
    obtain ⟨p1, p2⟩ := elemPlaces_spec h7
    simp only [List.length_map] at p1 e1
    simp only [semA] at hsem
    split at hsem
    case h_2 => cases hsem
    rename_i cs hcs
    split at hsem
    case h_2 => cases hsem
    rename_i ys hys
    split at hsem
    case isFalse => cases hsem
    rename_i hyl
    simp only [Option.some.injEq, Prod.mk.injEq] at hsem
    obtain ⟨rfl, rfl⟩ := hsem
    obtain ⟨zv, hz1, hz2, i, hi1, hi2⟩ := zero_cells h3 w
    have key := fill_sound (place := fun i => some (i * sz, sz)) (vs := (parts.toList.map (·.2)).map a.eval) (made_RL (C := C) (S := σ.S) (τ := τ) (w := w) hz2 len) hcs (is := parts.toList.map (·.1)) (by simp only [List.length_map]; exact p1)
      (by simp only [List.length_map]; exact p1) p2 (fun n v x hv hx => by
        rw [List.getElem?_map] at hv hx
        obtain ⟨o', ho', rfl⟩ := Option.map_eq_some_iff.1 hv
        obtain ⟨p', hp', rfl⟩ := Option.map_eq_some_iff.1 hx
        exact e2 n o' p' ho' hp')
    obtain ⟨cs', f1, f2⟩ := key
    rw [zip_map] at f1
    have hcsv := fvs_spec hys
    have hcl : cs'.size = len * sz := by have := f2.len; rw [hcsv] at this; simp only [List.length_map, Array.length_toList] at this; omega
    have hsz := run_sizeOf h2 w
    have hparts : (parts.map fun (x : Nat × Operand) => (x.1, a.eval x.2)).toList = parts.toList.map fun p => (p.1, a.eval p.2) := by simp
    have h6' : ¬ (len * sz > 2 ^ 24) := by omega
    have hrow : (Instr.buildSlice t len (parts.map fun (x : Nat × Operand) => (x.1, a.eval x.2))).run G.P w = .ok (.slice (some ⟨w.heap.size, 0, none⟩) len len) (w.alloc (.cells cs' e)) := by
      rw [h4] at f1
      by_cases h0 : len * sz = 0
      · have hz0 : ∀ zc : Array Value, (Array.range (len * sz)).map (fun i => zc[i % zc.size]!) = #[] := by intro zc; rw [h0]; simp
        unfold madeCells at f1
        rw [hz0] at f1
        simp only [Instr.buildSlice, Sem.run_bind, run_underlying (sliceOf_spec h1), Result.andThen_ok, hsz, if_neg h6', if_pos h0, Sem.run_pure, hz0, hparts]
        rw [f1]
        simp [newRow]
      · unfold madeCells at f1
        simp only [Instr.buildSlice, Sem.run_bind, run_underlying (sliceOf_spec h1), Result.andThen_ok, hsz, if_neg h6', if_neg h0, Sem.run_pure, hz1, hparts]
        rw [f1]
        simp [newRow]
    have hcsl : cs'.size = ys.length := by rw [hcl, hyl]
    refine opA_fin (u := .slice (some ⟨w.heap.size, 0, none⟩) len len) (w' := w.alloc (.cells cs' e)) ?_ (new_row h (NewB.alloc w (.cells cs' e)) (.inr (Nat.le_refl _)) hcl (Nat.le_refl _) (by simp only [maxLen]; omega) hyl
      (fun i v hv => f2.one i v (by simpa using hv)) (fun i y hy => ?_) id hd)
    · simp only [execOp]
      exact run_v' hrow
    · have hlt : i < cs'.size := by rw [hcsl]; exact (List.getElem?_eq_some_iff.1 hy).1
      refine ⟨cs'[i], by simp [hlt], ?_⟩
      exact (f2.rel i cs'[i] (.f y) (by simp [hlt]) (by rw [hcsv, List.getElem?_map, hy]; rfl)).toF
  case convert s d x =>
    cases k <;> first | (simp at hc; done) | skip
    rename_i e
    simp only [Bool.and_eq_true] at hc
    obtain ⟨⟨⟨h1, h2⟩, h3⟩, hc⟩ := hc
    obtain ⟨q, rfl, hq⟩ := opds1 (P := G.P) h foot hc
    simp only [List.map_cons, List.map_nil] at hsem
    generalize hqv : q.val G σ foot = pv at *
    have hpv : ∃ l, pv = .f (.str l) := by
      cases pv with
      | f y => cases y with
        | str l => exact ⟨l, rfl⟩
        | _ => simp [semA] at hsem
      | _ => simp [semA] at hsem
    obtain ⟨l, rfl⟩ := hpv
    simp only [semA] at hsem
    split at hsem
    case isFalse => cases hsem
    rename_i hl
    simp only [Option.some.injEq, Prod.mk.injEq] at hsem
    obtain ⟨rfl, rfl⟩ := hsem
    have hx := hq.fStr
    have hl' : l.length ≤ maxLen := by simp only [i64max] at hl; simp only [maxLen]; omega
    have hge := grownCap_ge w l.length 0 e
    have hcm := grownCap_le_maxLen w l.length 0 e hl'
    rw [ofBytes_chunk]
    have hnb := byteB_new w l (grownCap w l.length 0 e) e
    have hcs : (byteCells l (grownCap w l.length 0 e)).size = grownCap w l.length 0 e := by simp [byteCells]; omega
    refine opA_fin (u := .slice (some ⟨w.heap.size, 0, none⟩) l.length (grownCap w l.length 0 e)) (w' := _) ?_ (new_row h hnb (show NoFr _ _ from .inl (Nat.le_refl _)) (by rw [hcs, Nat.mul_one]) hge hcm (by simp)
      (fun i v hv => ?_) (fun i y hy => ?_) id hd)
    · simp only [execOp, hx]
      refine run_v' ?_
      simp only [convert, Sem.run_bind, run_underlying (strT_spec h1), run_underlying (sliceOf_spec h2), run_underlying (intT_spec h3), Result.andThen_ok, Conv.stringToBytes, run_choose, Question.forced, size_mk, Bool.false_eq_true, if_false]
      simp only [newRow, markStringish, Sem.run_bind, run_newObj, Result.andThen_ok, Sem.run_pure, run_shape]
      rw [shape_push]
      rfl
    · unfold byteCells at hv
      rw [Array.getElem?_append] at hv
      split at hv
      · simp only [Array.getElem?_map] at hv
        obtain ⟨b, _, rfl⟩ := Option.map_eq_some_iff.1 hv
        rfl
      · rw [Array.getElem?_replicate] at hv
        split at hv
        · cases hv; rfl
        · cases hv
    · obtain ⟨b, hb, rfl⟩ := ofBytes_get l i y hy
      have hlt := (List.getElem?_eq_some_iff.1 hb).1
      refine ⟨.int .u8 b.toNat, ?_, .int _ _⟩
      unfold byteCells
      rw [Array.getElem?_append_left (by simpa using hlt)]
      simp [hb]
  case makeSlice t l c =>
    cases k <;> first | (simp at hc; done) | skip
    rename_i e sz bytes z
    simp only [Bool.and_eq_true, beq_iff_eq] at hc
    obtain ⟨⟨⟨⟨⟨h1, h2⟩, h3⟩, h4⟩, rfl⟩, hc⟩ := hc
    obtain ⟨q1, q2, rfl, hq1, hq2⟩ := opds2 (P := G.P) h foot hc
    simp only [List.map_cons, List.map_nil] at hsem
    generalize q1.val G σ foot = p1 at *
    generalize q2.val G σ foot = p2 at *
    have hpv1 : ∃ k n, p1 = .f (.int k n) := by
      cases p1 with
      | f y => cases y with
        | int k n => exact ⟨k, n, rfl⟩
        | _ => simp [semA] at hsem
      | _ => simp [semA] at hsem
    have hpv2 : ∃ k n, p2 = .f (.int k n) := by
      obtain ⟨k, n, rfl⟩ := hpv1
      cases p2 with
      | f y => cases y with
        | int k n => exact ⟨k, n, rfl⟩
        | _ => simp [semA] at hsem
      | _ => simp [semA] at hsem
    obtain ⟨k1, n, rfl⟩ := hpv1
    obtain ⟨k2, m, rfl⟩ := hpv2
    simp only [semA] at hsem
    split at hsem
    case isFalse => cases hsem
    rename_i hnm
    obtain ⟨rfl, hn0, hnb, hnm⟩ := hnm
    simp only [Option.some.injEq, Prod.mk.injEq] at hsem
    obtain ⟨rfl, rfl⟩ := hsem
    obtain ⟨zv, hz1, hz2, i, hi1, hi2⟩ := zero_cells h4 w
    have hszi : i.size = z.length := by simpa [sizeIs, hi1] using h2
    have hbyi : i.bytes = bytes := by simpa [bytesIs, hi1] using h3
    have hnm' : n ≤ 9223372036854775807 := by simpa [i64max] using hnm
    have hrun := run_make (P := G.P) w t e i zv (sliceOf_spec h1) hi1 hi2 k1 k2 n n hn0 (Int.le_refl _) (by rw [hbyi, Int.mul_comm]; omega) hnm'
    rw [hszi] at hrun
    have hRL := made_RL (C := C) (S := σ.S) (τ := τ) (w := w) hz2 n.toNat
    have hch : List.replicate n.toNat z = chunk z.length n.toNat (List.replicate n.toNat z).flatten := by
      generalize n.toNat = m
      clear hRL hrun
      induction m with
      | zero => rfl
      | succ m ih => rw [List.replicate_succ, List.flatten_cons]; simp only [chunk]; rw [List.take_left, List.drop_left, ← ih]
    rw [hch]
    refine opA_fin (u := .slice (some ⟨w.heap.size, 0, none⟩) n.toNat n.toNat) (w' := _) ?_ (new_row h (NewB.alloc w (.cells _ e)) (show NoFr _ (0, 0) from .inr (Nat.le_refl _)) (size_madeCells _ _) (Nat.le_refl _) (by simp only [maxLen]; omega) (flatten_len _ _)
      (fun i v hv => hRL.one i v (by simpa using hv)) (fun i y hy => ?_) id hd)
    · simp only [execOp, hq1.fInt, hq2.fInt]
      exact run_v' hrun
    · have hlt : i < n.toNat * z.length := by rw [← flatten_len]; exact (List.getElem?_eq_some_iff.1 hy).1
      have hlt' : i < (madeCells zv.cells (n.toNat * z.length)).size := by rw [size_madeCells]; exact hlt
      refine ⟨(madeCells zv.cells (n.toNat * z.length))[i], by simp [hlt'], ?_⟩
      exact (hRL.rel i _ (.f y) (by simp [hlt']) (by rw [List.getElem?_map, hy]; rfl)).toF
  all_goals exact absurd hc (by simp)
end
end Go.Absw

/- The abstract machine, its sixteenth part: a store. Conditions: the check. -/
namespace Go.Absw
open Go

theorem run_storeN (P : Program) (g o : Nat) (t : TypeId) (fz : Nat × Nat) : ∀ (vs : List Value) (i : Nat) (cur : Array Value) (w : World), w.heap[g]? = some (.cells cur t fz) → NoFr cur.size fz → o + i + vs.length ≤ cur.size → (∀ (j : Nat) v, vs[j]? = some v → v.oneCell' = true) →
    (storeCells ⟨g, o, none⟩ vs i).run P w = .ok () (w.setRow g (Absw.splice cur.toList (o + i) vs).toArray)
  | [], i, cur, w, hg, _, _, _ => by
    simp only [storeCells, Absw.splice, List.append_nil, List.length_nil, Nat.add_zero, List.take_append_drop, Array.toArray_toList]
    rw [setRow_self w g cur t fz hg]
    rfl
  | v :: rest, i, cur, w, hg, hfz, hl, h1 => by
    have hi : o + i < cur.size := by simp at hl; omega
    have hcell : w.cell? ⟨g, o + i, none⟩ = some cur[o + i] := by simp [World.cell?, hg, hi]
    have hfro : w.frozen? ⟨g, o + i, none⟩ = false := by
      obtain ⟨lo, hi'⟩ := fz
      simp only [World.frozen?, hg, Bool.and_eq_false_iff, decide_eq_false_iff_not]
      simp only [NoFr] at hfz
      omega
    have hst : (store ((⟨g, o, none⟩ : Addr).add i) v).run P w = .ok () (w.setRow g (cur.setIfInBounds (o + i) v)) := by
      rw [add_lit, run_store P w _ v _ (h1 0 v rfl), hcell]
      simp [hfro, setCell_eq_setRow w g (o + i) cur t fz v hg]
    have ih := run_storeN P g o t fz rest (i + 1) (cur.setIfInBounds (o + i) v) (w.setRow g (cur.setIfInBounds (o + i) v)) (setRow_heap w g cur _ t _ hg) (by simpa using hfz) (by simp at hl ⊢; omega) (fun j x hx => h1 (j + 1) x (by simpa using hx))
    simp only [storeCells, Sem.run_bind, hst, Result.andThen_ok, ih, setRow_setRow]
    congr 3
    simp only [List.length_cons] at hl
    have hl' : o + i < cur.toList.length := by simpa using hi
    have hcs : cur.toList.length = cur.size := by simp
    apply List.ext_getElem?
    intro j
    rw [Array.toList_setIfInBounds, splice_get (by rw [List.length_set]; omega), splice_get (by simp only [List.length_cons]; omega)]
    by_cases h2 : o + (i + 1) ≤ j ∧ j < o + (i + 1) + rest.length
    · rw [if_pos h2, if_pos (by simp only [List.length_cons]; omega), show j - (o + i) = (j - (o + (i + 1))) + 1 by omega]
      rfl
    · rw [if_neg h2]
      by_cases h3 : j = o + i
      · subst h3
        rw [if_pos (by simp), List.getElem?_set_self hl', Nat.sub_self]; rfl
      · rw [if_neg (by simp only [List.length_cons]; omega), List.getElem?_set_ne (fun e => h3 e.symm)]

section
variable {G : Env} {C : Cells} {τ : Tau} {σ : St} {a : Act} {w : World}

/-- A token's block is written in place. -/
theorem core_upd (h : Core G C τ σ a.tmps w) {t : Nat} {k : Blk} (hl : (σ.tk t).c.live = true) (hk : τ t = some k) {vs vs' : Array Value} {e : TypeId} {fr : Nat × Nat} (hb : w.heap[k.b]? = some (.cells vs e fr))
    {w' : World} (hw' : w' = w.setRow k.b vs') (hC : ∀ o, C k.b o → vs'[o]? = vs[o]?) {st : Nat} (hst : (σ.tk t).st ≤ st) {c : TC}
    (hT : ∀ w', (∀ b o, C b o → w'.cell? ⟨b, o, none⟩ = w.cell? ⟨b, o, none⟩) → w'.heap[k.b]? = some (.cells vs' e fr) → TR C (σ.setT t ⟨st, c⟩).S τ w' t c) {d : Option Nat} {v : Value} {p : PV}
    (hv : ∀ w', (∀ b o, C b o → w'.cell? ⟨b, o, none⟩ = w.cell? ⟨b, o, none⟩) → d ≠ none → RP C (σ.setT t ⟨st, c⟩).S τ w' v p) (hd : ∀ n, d = some n → n < a.tmps.size) :
    Core G C τ ((σ.setT t ⟨st, c⟩).put d p) (a.put d v).tmps w' ∧ Nxt τ σ C w τ ((σ.setT t ⟨st, c⟩).put d p) C w' := by
  subst hw'
  have hcell : ∀ b o, C b o → (w.setRow k.b vs').cell? ⟨b, o, none⟩ = w.cell? ⟨b, o, none⟩ := by
    intro b o ho
    by_cases e' : b = k.b
    · subst e'; rw [cell_setRow_same w _ _ vs vs' e fr hb, hC o ho, cell_of hb]
    · exact cell_setRow_other w k.b vs' ⟨b, o, none⟩ e'
  have hstp : ∀ W : Nat → Prop, W k.b → Stp W C w C (w.setRow k.b vs') := fun W hW =>
    ⟨rfl, rfl, rfl, by simp [World.setRow], fun b _ hn => setRow_other w k.b b vs' (fun e => hn (e ▸ hW)), fun _ _ h => h, fun _ _ h => .inl h, hcell⟩
  have hS : ∀ u, σ.S u ≤ (σ.setT t ⟨st, c⟩).S u := by
    intro u; rw [setT_S]; split
    · subst_vars; exact hst
    · exact Nat.le_refl _
  refine ⟨?_, hstp _ ⟨t, hl, k, hk, rfl⟩, ?_, fun t => by rw [put_S]; exact hS t, fun t _ => rfl⟩
  · refine Core.step (A := [t]) h (hstp _ ⟨t, List.mem_singleton.2 rfl, hl, k, hk, rfl⟩) (fun u hu => ?_) (fun u => ?_) (fun u _ => rfl) (fun u hu => ?_) (fun u hu hlu k' hk' => ?_) (fun b o hb' => ?_) (fun n => ?_)
    · have : u ≠ t := by simpa using hu
      exact ⟨by rw [put_tk]; simp [St.setT, this], rfl⟩
    · rw [put_S]; exact hS u
    · have : u = t := by simpa using hu
      subst this
      rw [put_S, put_tk]
      have := hT _ hcell (setRow_heap w k.b vs vs' e fr hb)
      simpa [St.setT] using this
    · have : u = t := by simpa using hu
      subst this
      exact .inl ⟨hl, k', hk', rfl⟩
    · have := h.lt b o hb'
      simpa [World.setRow] using this
    · rw [put_S]
      exact slots_put (σ := σ.setT t _) (fun n => (h.slots n).mono (fun _ _ h => h) hcell hS (fun u _ => rfl)) (hv _ hcell) hd n
  · intro u k' hlu hk'
    rw [put_tk] at hlu
    by_cases e' : u = t
    · subst e'; exact .inl ⟨hl, k', hk', rfl⟩
    · simp only [St.setT, if_neg e'] at hlu
      exact .inl ⟨hlu, k', hk', rfl⟩

def chkW (P : Program) (o : Oper) (n : Nat) (args : List PArg) : Bool :=
  match o.op with
  | .store t x v => sizeIs P t n && opdsOk [x, v] args && o.dst.isNone
  | _ => false

/-- A store's effect on the state. -/
def stepW (σ : St) (foot : List Nat) (n : Nat) : List PV → Option St
  | [.ptr t i o s, v] => match v.cells with
    | some xs => if xs.length = n then (semW σ foot t i o s xs).map fun c => σ.setT t ⟨(σ.tk t).st, c⟩ else none
    | none => none
  | _ => none

theorem setT_put_none (σ : St) (p : PV) : σ.put none p = σ := rfl

theorem opW {o : Oper} {n : Nat} {args : List PArg} (hc : chkW G.P o n args = true) (h : Core G C τ σ a.tmps w) {foot : List Nat} {σ' : St}
    (hsem : stepW σ foot n (args.map (·.val G σ foot)) = some σ') : OpOk G C τ σ σ' o a w := by
  obtain ⟨dst, op, ty, pos, after, guard⟩ := o
  cases op <;> simp only [chkW] at hc
  case store t x v =>
    simp only [Bool.and_eq_true] at hc
    obtain ⟨⟨h1, h2⟩, h3⟩ := hc
    obtain rfl : dst = none := by simpa using h3
    obtain ⟨q1, q2, rfl, hq1, hq2⟩ := opds2 (P := G.P) h foot h2
    simp only [List.map_cons, List.map_nil] at hsem
    generalize q1.val G σ foot = p1 at *
    generalize q2.val G σ foot = p2 at *
    cases p1 with
    | ptr tt i off s =>
      simp only [stepW] at hsem
      split at hsem
      case h_2 => cases hsem
      rename_i xs hxs
      split at hsem
      case isFalse => cases hsem
      rename_i hlen
      obtain ⟨c, hc', rfl⟩ := Option.map_eq_some_iff.1 hsem
      have hRL := RL.cells hq2 hxs
      have hsz : (a.eval v).cells.size = n := by have := hRL.len; simp only [Array.length_toList] at this; omega
      have fin : ∀ {k : Blk} {vs : Array Value} {e : TypeId} {fr : Nat × Nat} {o' : Nat}, a.eval x = .pointer (some ⟨k.b, o', none⟩) → w.heap[k.b]? = some (.cells vs e fr) → NoFr vs.size fr → o' + n ≤ vs.size →
          (execOp a.eval ⟨none, .store t x v, ty, pos, after, guard⟩).run G.P w = .ok .skip (w.setRow k.b (Absw.splice vs.toList o' (a.eval v).cells.toList).toArray) := by
        intro k vs e fr o' hx hb hf hle
        have hst := run_storeN G.P k.b o' e fr (a.eval v).cells.toList 0 vs w hb hf (by simp only [Array.length_toList]; omega) (fun j u hu => hRL.one j u hu)
        simp only [Nat.add_zero] at hst
        simp [execOp, Instr.storeAt, hx, Instr.sureAddr, storeVar, run_sizeOf h1, hsz, hst]
      unfold semW at hc'
      split at hc'
      · rename_i ty' cs hlk
        split at hc'
        case isFalse => cases hc'
        rename_i hi
        obtain ⟨rfl, hle⟩ := hi
        cases hc'
        obtain ⟨hst, hcc, _⟩ := look_ne hlk (by simp)
        have ht := h.toks tt
        rw [hcc] at ht
        obtain ⟨k, vs, fr, b1, b2, b3, b4, b5, b6, b7, b8⟩ := ht
        have hx : a.eval x = .pointer (some ⟨k.b, off, none⟩) := by
          generalize a.eval x = u at hq1 ⊢
          cases hq1 with
          | ptr v' t' i' o' s' g1 g2 g3 => obtain ⟨k', e1, e2⟩ := g3 hst; rw [b1] at e1; cases e1; simpa using e2
        have hnC : ∀ o, ¬ C k.b o := fun o ho => by have := b7 o ho; cases this
        intro K Q hK
        unfold Oper.wp
        rw [fin hx b2 b3 (by omega)]
        have hvl : vs.toList.length = vs.size := by simp
        have key := core_upd (d := none) (p := .dead) (v := undef) h (t := tt) (by rw [hcc]; rfl) b1 b2 rfl (fun o ho => absurd ho (hnC o)) (Nat.le_refl (σ.tk tt).st) (c := .box ty' false (Absw.splice cs off xs)) (vs' := (Absw.splice vs.toList off (a.eval v).cells.toList).toArray) (fun w' hw' hb' => ?_) (fun _ _ hn => absurd rfl hn) (fun n hn => by cases hn)
        · exact hK _ _ C τ key.1 rfl rfl key.2
        · have hS : ∀ u, σ.S u ≤ (σ.setT tt ⟨(σ.tk tt).st, .box ty' false (Absw.splice cs off xs)⟩).S u := by
            intro u; rw [setT_S]; split
            · subst_vars; exact Nat.le_refl _
            · exact Nat.le_refl _
          have hRLc : RL C σ.S τ w vs.toList cs := ⟨by simpa using b4, fun i v hv => b5 i v (by simpa using hv), fun i v x hv hx => b6 i v x (by simpa using hv) hx⟩
          have hnew := (hRLc.splice hRL hle).mono (C' := C) (S' := (σ.setT tt ⟨(σ.tk tt).st, .box ty' false (Absw.splice cs off xs)⟩).S) (τ' := τ) (w' := w') (fun _ _ h => h) hw' hS (fun _ _ => rfl)
          refine ⟨k, _, fr, b1, hb', ?_, by simpa using hnew.len, fun i v hv => hnew.one i v (by simpa using hv), fun i v x hv hx => hnew.rel i v x (by simpa using hv) hx, fun o ho => absurd ho (hnC o), fun hz => by cases hz⟩
          have : (Absw.splice vs.toList off (a.eval v).cells.toList).length = vs.size := by rw [splice_length (by simp only [Array.length_toList]; omega)]; simp
          simpa [this] using b3
      · rename_i e sz l u ys hlk
        split at hc'
        case h_2 => cases hc'
        rename_i zs c0 hzs hc0
        split at hc'
        case isFalse => cases hc'
        rename_i hcond
        obtain ⟨hu, hle⟩ := hcond
        cases hc'
        obtain ⟨hst, hcc, _⟩ := look_ne hlk (by simp)
        have ht := h.toks tt
        rw [hcc] at ht
        have hi := (List.getElem?_eq_some_iff.1 hc0).1
        rcases ht with ⟨_, q2⟩ | ⟨k, vs, fr, g1, g2, g3, g4, g5, g6, g7, g8, g9, g10, g11, g12, g13⟩
        · rw [q2] at hi; simp at hi
        have hc0l : c0.length = sz := g8 _ (List.mem_of_getElem? hc0)
        have hxs' := fvs_spec hzs
        have hxl : xs.length = zs.length := by rw [hxs']; simp
        have hx : a.eval x = .pointer (some ⟨k.b, i * sz + off, none⟩) := by
          generalize a.eval x = u at hq1 ⊢
          cases hq1 with
          | ptr v' t' i' o' s' a1 a2 a3 => obtain ⟨k', e1, e2⟩ := a3 hst; rw [g1] at e1; cases e1; rw [g2] at e2; exact e2
        have hin : i * sz + off + n ≤ vs.size := by
          have h1 : (i + 1) * sz ≤ ys.length * sz := Nat.mul_le_mul_right _ hi
          have h2 : ys.length * sz ≤ k.cap * sz := Nat.mul_le_mul_right _ g6
          rw [Nat.add_mul] at h1
          omega
        have hus : u * sz ≤ i * sz := Nat.mul_le_mul_right _ hu
        intro K Q hK
        unfold Oper.wp
        rw [fin hx g3 g4 hin]
        have hvl : vs.toList.length = vs.size := by simp
        have hsp : i * sz + off + (a.eval v).cells.toList.length ≤ vs.toList.length := by simp only [Array.length_toList]; omega
        have key := core_upd (d := none) (p := .dead) (v := undef) h (t := tt) (by rw [hcc]; rfl) g1 g3 rfl (vs' := (Absw.splice vs.toList (i * sz + off) (a.eval v).cells.toList).toArray) (fun o ho => ?_) (Nat.le_refl (σ.tk tt).st) (c := .row e sz l u (ys.set i (Absw.splice c0 off zs))) (fun w' hw' hb' => ?_) (fun _ _ hn => absurd rfl hn) (fun n hn => by cases hn)
        · exact hK _ _ C τ key.1 rfl rfl key.2
        · have := g11 o ho
          rw [List.getElem?_toArray, splice_get hsp, if_neg (by omega)]
          simp
        · refine .inr ⟨k, _, fr, g1, g2, hb', ?_, ?_, by simpa using g6, g7, ?_, ?_, ?_, fun o ho => g11 o ho, by simpa using g12, fun o ho => g13 o ho⟩
          · simpa [splice_length hsp] using g4
          · simpa [splice_length hsp] using g5
          · intro c hcm
            rcases List.mem_or_eq_of_mem_set hcm with hm | rfl
            · exact g8 c hm
            · rw [splice_length hle]; exact hc0l
          · intro j v' hv'
            rw [List.getElem?_toArray, splice_get hsp] at hv'
            split at hv'
            · exact hRL.one _ v' hv'
            · exact g9 j v' (by simpa using hv')
          · intro i' j c y hci hcy
            have hjl : j < c.length := (List.getElem?_eq_some_iff.1 hcy).1
            rw [List.getElem?_toArray, splice_get hsp]
            have hnl : (a.eval v).cells.toList.length = zs.length := by rw [hRL.len, hxl]
            by_cases hii : i' = i
            · subst hii
              rw [List.getElem?_set_self hi] at hci
              cases hci
              rw [splice_length hle] at hjl
              rw [splice_get hle] at hcy
              rw [hnl]
              by_cases hj : off ≤ j ∧ j < off + zs.length
              · rw [if_pos hj] at hcy
                rw [if_pos (by omega), show i' * sz + j - (i' * sz + off) = j - off by omega]
                have hlt : j - off < (a.eval v).cells.toList.length := by omega
                refine ⟨_, List.getElem?_eq_getElem hlt, ?_⟩
                have := hRL.rel (j - off) _ (.f y) (List.getElem?_eq_getElem hlt) (by rw [hxs', List.getElem?_map, hcy]; rfl)
                exact this.toF.mono (fun _ _ h => h) hw'
              · rw [if_neg hj] at hcy
                rw [if_neg (by omega)]
                obtain ⟨v', a1, a2⟩ := g10 i' j c0 y hc0 hcy
                exact ⟨v', by simpa using a1, a2.mono (fun _ _ h => h) hw'⟩
            · rw [List.getElem?_set_ne (fun e => hii e.symm)] at hci
              have hcl := g8 c (List.mem_of_getElem? hci)
              rw [if_neg ?_]
              · obtain ⟨v', a1, a2⟩ := g10 i' j c y hci hcy
                exact ⟨v', by simpa using a1, a2.mono (fun _ _ h => h) hw'⟩
              · rintro ⟨h1, h2⟩
                rw [hnl] at h2
                rcases Nat.lt_or_gt_of_ne hii with hlt | hgt
                · have : (i' + 1) * sz ≤ i * sz := Nat.mul_le_mul_right _ hlt
                  rw [Nat.add_mul] at this; omega
                · have : (i + 1) * sz ≤ i' * sz := Nat.mul_le_mul_right _ hgt
                  rw [Nat.add_mul] at this; omega
      · cases hc'
    | _ => simp [stepW] at hsem
  all_goals exact absurd hc (by simp)
end
end Go.Absw

/- The abstract machine, its seventeenth part: append. Conditions: the check. -/
namespace Go.Absw
open Go

section
variable {P : Program} {G : Env} {C : Cells} {τ : Tau} {σ : St} {tm : Array Value} {w : World}

/-- What is appended, as cells. -/
structure Src (P : Program) (C : Cells) (w : World) (sz : Nat) (x : Value) (ys : List (List FV)) (news : List Value) : Prop where
  len : news.length = ys.length * sz
  szs : ∀ c ∈ ys, c.length = sz
  one : ∀ (i : Nat) v, news[i]? = some v → v.oneCell' = true
  rel : ∀ (i j : Nat) c y, ys[i]? = some c → c[j]? = some y → ∃ v, news[i * sz + j]? = some v ∧ RF C w v y
  runLen : ∀ w', (Builtin.lenOf x).run P w' = .ok ys.length w'
  runCells : ∀ w' : World, w'.heap = w.heap → (Builtin.firstCells sz ys.length x).run P w' = .ok news.toArray w'

theorem cell_heap {w w' : World} (h : w'.heap = w.heap) (a : Addr) : w'.cell? a = w.cell? a := by simp [World.cell?, h]

theorem src_nil (sz : Nat) (a : Option Addr) (cap : Nat) : Src P C w sz (.slice a 0 cap) [] [] := by
  refine ⟨by simp, by simp, by simp, by simp, fun w' => rfl, fun w' _ => ?_⟩
  cases a with
  | none => rfl
  | some a => simp [Builtin.firstCells, loadCells, loadCellsFrom]

theorem src_cells (b o cap sz : Nat) (ys : List (List FV)) (hsz : ∀ c ∈ ys, c.length = sz) (hc : ∀ (i j : Nat) c y, ys[i]? = some c → c[j]? = some y → ∃ u, w.cell? ⟨b, o + i * sz + j, none⟩ = some u ∧ RF C w u y) :
    ∃ news, Src P C w sz (.slice (some ⟨b, o, none⟩) ys.length cap) ys news := by
  have at_ : ∀ q, q < ys.length * sz → ∃ i j c y u, q = i * sz + j ∧ ys[i]? = some c ∧ c[j]? = some y ∧ w.cell? ⟨b, o + q, none⟩ = some u ∧ RF C w u y := by
    intro q hq
    have hp : 0 < sz := by
      rcases Nat.eq_zero_or_pos sz with h0 | h0
      · rw [h0] at hq; simp at hq
      · exact h0
    have hi : q / sz < ys.length := Nat.div_lt_of_lt_mul (by rw [Nat.mul_comm]; exact hq)
    have hc1 := List.getElem?_eq_getElem hi
    have hl := hsz _ (List.mem_of_getElem? hc1)
    have hj : q % sz < ys[q / sz].length := by rw [hl]; exact Nat.mod_lt _ hp
    have hc2 := List.getElem?_eq_getElem hj
    obtain ⟨u, hu, hr⟩ := hc _ _ _ _ hc1 hc2
    have hq' : q = q / sz * sz + q % sz := by rw [Nat.mul_comm]; exact (Nat.div_add_mod q sz).symm
    exact ⟨_, _, _, _, u, hq', hc1, hc2, by rw [Nat.add_assoc, ← hq'] at hu; exact hu, hr⟩
  refine ⟨(List.range (ys.length * sz)).map fun q => (w.cell? ⟨b, o + q, none⟩).getD undef, by simp, hsz, fun i v hv => ?_, fun i j c y hi hj => ?_, fun w' => rfl, fun w' hw' => ?_⟩
  · rw [List.getElem?_map] at hv
    obtain ⟨q, hq, rfl⟩ := Option.map_eq_some_iff.1 hv
    obtain ⟨hq1, rfl⟩ := List.getElem?_eq_some_iff.1 hq
    simp only [List.getElem_range]
    obtain ⟨_, _, _, _, u, _, _, _, hu, hr⟩ := at_ i (by simpa using hq1)
    rw [hu]; exact hr.one
  · obtain ⟨u, hu, hr⟩ := hc i j c y hi hj
    have hlt : i * sz + j < ys.length * sz := idx_lt (List.getElem?_eq_some_iff.1 hi).1 (by rw [← hsz c (List.mem_of_getElem? hi)]; exact (List.getElem?_eq_some_iff.1 hj).1)
    refine ⟨u, ?_, hr⟩
    rw [List.getElem?_map, List.getElem?_range hlt]
    simp only [Option.map_some, ← Nat.add_assoc]
    rw [hu]; rfl
  · have := run_loadCells (P := P) w' ⟨b, o, none⟩ (ys.length * sz) (fun q => (w.cell? ⟨b, o + q, none⟩).getD undef) (fun q hq => by
      obtain ⟨_, _, _, _, u, _, _, _, hu, _⟩ := at_ q hq
      rw [add_lit, cell_heap hw', hu]; rfl)
    exact this

theorem src_str (s : List UInt8) : Src P C w 1 (.string ⟨s.toArray⟩) (ofBytes s) (s.map fun b => .int .u8 b.toNat) := by
  refine ⟨by simp [ofBytes], by simp [ofBytes], fun i v hv => ?_, fun i j c y hi hj => ?_, fun w' => ?_, fun w' _ => ?_⟩
  · rw [List.getElem?_map] at hv
    obtain ⟨b, _, rfl⟩ := Option.map_eq_some_iff.1 hv
    rfl
  · simp only [ofBytes, List.getElem?_map] at hi
    obtain ⟨b, hb, rfl⟩ := Option.map_eq_some_iff.1 hi
    cases j with
    | succ j => simp at hj
    | zero =>
      simp at hj
      subst hj
      exact ⟨_, by rw [Nat.mul_one, Nat.add_zero, List.getElem?_map, hb]; rfl, .int _ _⟩
  · simp [Builtin.lenOf, size_mk, ofBytes]
  · simp only [Builtin.firstCells, Sem.run_pure]
    congr 1
    have : (⟨s.toArray⟩ : ByteArray).extract 0 (ofBytes s).length = ⟨s.toArray⟩ := by
      rw [extract_mk s 0 _ (by simp [ofBytes])]
      simp [ofBytes]
    rw [this]
    simp

theorem srcOf_spec (h : Core G C τ σ tm w) {foot : List Nat} {sz : Nat} {v : Value} {p : PV} (hv : RP C σ.S τ w v p) {ys : List (List FV)} (hs : srcOf σ foot sz p = some ys) : ∃ news, Src P C w sz v ys news := by
  have gen : rowOf σ foot p = some ys → (∀ s, p ≠ .f (.str s)) → (∀ b o cap sz', v = .slice (some ⟨b, o, none⟩) ys.length cap → (∀ c ∈ ys, c.length = sz') → ys ≠ [] → sz' = sz) → ∃ news, Src P C w sz v ys news := by
    intro h1 h2 h3
    rcases rowOf_cells h hv h1 h2 with ⟨rfl, a, cap, rfl⟩ | ⟨b, o, cap, sz', rfl, hsz, hc⟩
    · exact ⟨[], src_nil sz a cap⟩
    · by_cases hne : ys = []
      · subst hne; exact ⟨[], src_nil sz _ cap⟩
      · have := h3 b o cap sz' rfl hsz hne
        subst this
        exact src_cells b o cap sz' ys hsz hc
  unfold srcOf at hs
  split at hs
  · cases hs; exact gen rfl (by simp) (fun _ _ _ _ _ _ h => absurd rfl h)
  · split at hs
    · rename_i sz' xs hsz
      subst hsz
      cases hs
      refine gen rfl (by simp) (fun b o cap sz'' _ h2 h3 => ?_)
      cases hv with
      | f v y hy =>
        cases hy with
        | sl a cap' _ _ us hcap hsz hA hrr =>
          obtain ⟨c, hc⟩ := List.exists_mem_of_ne_nil _ h3
          rw [← h2 c hc, hsz c hc]
    · cases hs
  · split at hs
    · rename_i s hsz
      subst hsz
      cases hs
      rw [hv.fStr]
      exact ⟨_, src_str s⟩
    · cases hs
  · rename_i t off len s
    split at hs
    · rename_i e sz' l u xs hl
      split at hs
      · rename_i hc
        obtain ⟨rfl, hc⟩ := hc
        cases hs
        refine gen (by simp only [rowOf, hl]; rw [if_pos hc]) (by simp) (fun b o cap sz'' _ h2 h3 => ?_)
        obtain ⟨_, hcc, _⟩ := look_ne hl (by simp)
        have ht := h.toks t
        rw [hcc] at ht
        obtain ⟨c, hcm⟩ := List.exists_mem_of_ne_nil _ h3
        rcases ht with ⟨_, rfl⟩ | ⟨k, vs, fr, g1, g2, g3, g4, g5, g6, g7, g8, _⟩
        · simp at h3
        · rw [← h2 c hcm]
          exact g8 c (List.drop_subset _ _ (List.take_subset _ _ hcm))
      · cases hs
    · cases hs
  · cases hs

/-! ### the two ways of an append -/
def srcT (P : Program) (t : TypeId) : Bool := match P.underlying t with | some (.slice _) => true | some .string => true | _ => false

theorem run_app_room {t tx ty e : TypeId} {i : TypeInfo} (ht : P.underlying t = some (.slice e)) (htx : srcT P tx = true) (hi : P.info? e = some i) {x : Value} {ys : List (List FV)} {news : List Value} (hx : Src P C w i.size x ys news)
    {base : Option Addr} {sLen sCap : Nat} (hle : sLen + ys.length ≤ sCap) {w' : World} (hst : match base with | none => w' = w | some a => (storeCells (a.add (sLen * i.size)) news).run P w = .ok () w') :
    (Builtin.append_ #[t, tx] ty #[.slice base sLen sCap, x]).run P w = .ok (.slice base (sLen + ys.length) sCap) w' := by
  have hl := hx.runLen w
  have hc := hx.runCells w rfl
  unfold srcT at htx
  split at htx
  case h_3 => cases htx
  all_goals
    rename_i hd1
    cases base with
    | none =>
      subst hst
      simp [Builtin.append_, run_underlying ht, run_underlying hd1, sizeOf, typeInfo, hi, hl, hle, hc]
    | some a =>
      simp only at hst
      simp [Builtin.append_, run_underlying ht, run_underlying hd1, sizeOf, typeInfo, hi, hl, hle, hc, hst]

theorem run_app_grow {t tx ty e : TypeId} {i : TypeInfo} {z : Value} (ht : P.underlying t = some (.slice e)) (htx : srcT P tx = true) (hi : P.info? e = some i) (hz : i.zero = some z) {x : Value} {ys : List (List FV)} {news : List Value} (hx : Src P C w i.size x ys news)
    {base : Option Addr} {sLen sCap : Nat} (hg : sCap < sLen + ys.length) (hbytes : (sLen + ys.length) * i.bytes ≤ 140737488355328) (h63 : sLen + ys.length ≤ i64max)
    {olds : List Value} (hold : ∀ w' : World, w'.heap = w.heap → (Builtin.firstCells i.size sLen (.slice base sLen sCap)).run P w' = .ok olds.toArray w') :
    (Builtin.append_ #[t, tx] ty #[.slice base sLen sCap, x]).run P w = .ok (.slice (some ⟨w.heap.size, 0, none⟩) (sLen + ys.length) (grownCap w (sLen + ys.length) sCap e))
      (w.drew.alloc (.cells (olds.toArray ++ news.toArray ++ Builtin.zeroCells z.cells (grownCap w (sLen + ys.length) sCap e - (sLen + ys.length))) e)) := by
  have hl := hx.runLen w
  have hc := hx.runCells w.drew rfl
  have ho := hold w.drew rfl
  have hn : ¬ (sLen + ys.length ≤ sCap) := by omega
  have hmx : IntKind.i64.max = 9223372036854775807 := by decide
  simp only [i64max] at h63
  have h63' : ¬ (9223372036854775807 < ((sLen : Int) + (ys.length : Int))) := by omega
  have h48' : ¬ (281474976710656 < Builtin.nextslicecap (sLen + ys.length) sCap * i.bytes) := by have := growslice_fits hg hbytes; omega
  unfold srcT at htx
  split at htx
  case h_3 => cases htx
  all_goals
    rename_i hd1
    simp [Builtin.append_, run_underlying ht, run_underlying hd1, sizeOf, typeInfo, zeroValue, hi, hz, hl, hn, h63', h48', Question.forced, hc, ho, newRow, grownCap]
    congr 2
    apply Array.ext'
    simp
end
end Go.Absw

/- The abstract machine, its eighteenth part: append, as an operation. Conditions: the check. -/
namespace Go.Absw
open Go

def zeroSz (P : Program) (e : TypeId) (sz : Nat) : Bool := match P.info? e with
  | some i => match i.zero with
    | some v => v.cells.size == sz && v.cells.all (·.oneCell')
    | none => false
  | none => false
def chkApp (P : Program) (o : Oper) (e sz bytes : Nat) (args : List PArg) : Bool := match o.op with
  | .call c => match c.callee with
    | .builtin .append => match c.argTypes.toList with
      | [t, tx] => match c.args.toList with
        | [s, x] => sliceOf P t e && srcT P tx && sizeIs P e sz && bytesIs P e bytes && zeroSz P e sz && opdsOk [s, x] args
        | _ => false
      | _ => false
    | _ => false
  | _ => false

def tauO (τ : Tau) (id : Nat) (k : Option Blk) : Tau := fun t => if t = id then k else τ t

section
variable {G : Env} {C : Cells} {τ : Tau} {σ : St} {a : Act} {w : World}

/-- A token becomes a nil row. -/
theorem core_nil (h : Core G C τ σ a.tmps w) {id e sz : Nat} {st : Nat} (hst : (σ.tk id).st < st) {d : Option Nat} (hd : ∀ n, d = some n → n < a.tmps.size) :
    ∃ C' τ', Core G C' τ' ((σ.setT id ⟨st, .row e sz 0 0 []⟩).put d (.ts id 0 0 st)) (a.put d (.slice none 0 0)).tmps w ∧ Nxt τ σ C w τ' ((σ.setT id ⟨st, .row e sz 0 0 []⟩).put d (.ts id 0 0 st)) C' w := by
  have hS : ∀ t, σ.S t ≤ (σ.setT id ⟨st, .row e sz 0 0 []⟩).S t := by
    intro t; rw [setT_S]; split
    · subst_vars; exact Nat.le_of_lt hst
    · exact Nat.le_refl _
  have hτ : ∀ t, (σ.setT id ⟨st, .row e sz 0 0 []⟩).S t = σ.S t → tauO τ id none t = τ t := by
    intro t ht
    by_cases e : t = id
    · subst e; rw [setT_S, if_pos rfl] at ht; simp only [St.S] at ht; omega
    · simp [tauO, e]
  refine ⟨C, tauO τ id none, ?_, Stp.refl _ _ _, ?_, fun t => by rw [put_S]; exact hS t, fun t => by rw [put_S]; exact hτ t⟩
  · refine Core.step (A := [id]) h (Stp.refl _ _ _) (fun t ht => ?_) (fun t => ?_) (fun t => ?_) (fun t ht => ?_) (fun t ht hl k' hk' => ?_) h.lt (fun n => ?_)
    · have : t ≠ id := by simpa using ht
      exact ⟨by rw [put_tk]; simp [St.setT, this], by simp [tauO, this]⟩
    · rw [put_S]; exact hS t
    · rw [put_S]; exact hτ t
    · have : t = id := by simpa using ht
      subst this
      rw [put_S, put_tk]
      have : TR C (σ.setT t ⟨st, .row e sz 0 0 []⟩).S (tauO τ t none) w t (.row e sz 0 0 []) := .inl ⟨by simp [tauO], rfl⟩
      simpa [St.setT] using this
    · have : t = id := by simpa using ht
      subst this
      simp [tauO] at hk'
    · rw [put_S]
      exact slots_put (σ := σ.setT id _) (fun n => (h.slots n).mono (fun _ _ h => h) (fun _ _ _ => rfl) hS hτ) (fun _ => .ts _ _ _ _ _ rfl (by rw [setT_S, if_pos rfl]; exact Nat.le_refl _) (fun _ => .inl ⟨by simp [tauO], rfl, rfl, rfl⟩)) hd n
  · intro t k' hl hk'
    rw [put_tk] at hl
    by_cases e' : t = id
    · subst e'; simp [tauO] at hk'
    · simp only [tauO, if_neg e'] at hk'
      simp only [St.setT, if_neg e'] at hl
      exact .inl ⟨hl, k', hk', rfl⟩

theorem zeroCells_one {z : Value} {sz : Nat} (hz : z.cells.size = sz) (h1 : z.cells.all (·.oneCell') = true) (n : Nat) : (Builtin.zeroCells z.cells n).size = n * sz ∧ ∀ (i : Nat) v, (Builtin.zeroCells z.cells n)[i]? = some v → v.oneCell' = true := by
  refine ⟨by simp [Builtin.zeroCells, hz], fun i v hv => ?_⟩
  simp only [Builtin.zeroCells, Array.getElem?_map] at hv
  obtain ⟨k, hk, rfl⟩ := Option.map_eq_some_iff.1 hv
  have hki : k < n * z.cells.size := by
    have := Array.mem_of_getElem? hk
    simpa using this
  have hp : 0 < z.cells.size := by
    rcases Nat.eq_zero_or_pos z.cells.size with h0 | h0
    · rw [h0, Nat.mul_zero] at hki; omega
    · exact h0
  have hlt := Nat.mod_lt k hp
  rw [getElem!_pos z.cells _ hlt]
  exact Array.all_eq_true.1 h1 _ hlt

/-- Elements ahead, then what is appended. -/
theorem row_cells {w' : World} {olds news : List Value} {sz n : Nat} {xs ys : List (List FV)} (hn : n ≤ xs.length) (hol : olds.length = n * sz) (hszx : ∀ c ∈ xs, c.length = sz) (hszy : ∀ c ∈ ys, c.length = sz)
    (hox : ∀ (i j : Nat) c y, i < n → xs[i]? = some c → c[j]? = some y → ∃ v, olds[i * sz + j]? = some v ∧ RF C w' v y)
    (hny : ∀ (i j : Nat) c y, ys[i]? = some c → c[j]? = some y → ∃ v, news[i * sz + j]? = some v ∧ RF C w' v y) (rest : List Value) :
    ∀ (i j : Nat) c y, (xs.take n ++ ys)[i]? = some c → c[j]? = some y → ∃ v, (olds ++ news ++ rest)[i * sz + j]? = some v ∧ RF C w' v y := by
  intro i j c y hi hj
  have ht : (xs.take n).length = n := by rw [List.length_take]; omega
  by_cases h1 : i < n
  · rw [List.getElem?_append_left (by omega), List.getElem?_take, if_pos h1] at hi
    obtain ⟨v, hv, hr⟩ := hox i j c y h1 hi hj
    refine ⟨v, ?_, hr⟩
    have hlt := (List.getElem?_eq_some_iff.1 hv).1
    rw [List.append_assoc, List.getElem?_append_left hlt]
    exact hv
  · rw [List.getElem?_append_right (by omega), ht] at hi
    obtain ⟨v, hv, hr⟩ := hny (i - n) j c y hi hj
    refine ⟨v, ?_, hr⟩
    have hlt := (List.getElem?_eq_some_iff.1 hv).1
    have he : i * sz + j = olds.length + ((i - n) * sz + j) := by
      rw [hol, ← Nat.add_assoc, ← Nat.add_mul]
      congr 2
      omega
    rw [he, List.append_assoc, List.getElem?_append_right (by omega), Nat.add_sub_cancel_left, List.getElem?_append_left hlt]
    exact hv

theorem RP.fNils {C : Cells} {S : Nat → Nat} {τ : Tau} {w : World} {v : Value} (h : RP C S τ w v (.f .nils)) : v = .slice none 0 0 := by
  cases h with | f v y hy => cases hy; rfl

theorem opApp {o : Oper} {e sz bytes : Nat} {args : List PArg} (hc : chkApp G.P o e sz bytes args = true) (h : Core G C τ σ a.tmps w) {foot : List Nat} {nid t : Nat} {c : TC} {p : PV}
    (hsem : semApp σ foot nid e sz bytes (args.map (·.val G σ foot)) = some (t, c, p)) (hd : ∀ n, o.dst = some n → n < a.tmps.size) :
    OpOk G C τ σ ((σ.setT t ⟨(σ.tk t).st + 1, c⟩).put o.dst p) o a w := by
  obtain ⟨dst, op, ty, pos, after, guard⟩ := o
  cases op <;> simp only [chkApp] at hc
  case call cl =>
    obtain ⟨callee, cargs, argTypes⟩ := cl
    simp only at hc
    split at hc
    case h_2 => cases hc
    split at hc
    case h_2 => cases hc
    rename_i ts tt tx hts
    split at hc
    case h_2 => cases hc
    rename_i xs s x hcs
    simp only [Bool.and_eq_true] at hc
    obtain ⟨⟨⟨⟨⟨h1, h2⟩, h3⟩, h4⟩, h5⟩, h6⟩ := hc
    obtain rfl : argTypes = #[tt, tx] := by apply Array.ext'; simpa using hts
    obtain rfl : cargs = #[s, x] := by apply Array.ext'; simpa using hcs
    obtain ⟨q1, q2, rfl, hq1, hq2⟩ := opds2 (P := G.P) h foot h6
    simp only [List.map_cons, List.map_nil] at hsem
    generalize hqv1 : q1.val G σ foot = p1 at *
    generalize hqv2 : q2.val G σ foot = p2 at *
    unfold zeroSz at h5
    split at h5
    case h_2 => cases h5
    rename_i i hi
    split at h5
    case h_2 => cases h5
    rename_i z hz
    simp only [Bool.and_eq_true, beq_iff_eq] at h5
    obtain ⟨hz1, hz2⟩ := h5
    have hszi : i.size = sz := by simpa [sizeIs, hi] using h3
    have hbyi : i.bytes = bytes := by simpa [bytesIs, hi] using h4
    have hu := sliceOf_spec h1
    have exec : ∀ {u : Value} {w' : World}, (Builtin.append_ #[tt, tx] ty #[a.eval s, a.eval x]).run G.P w = .ok u w' → (execOp a.eval ⟨dst, .call ⟨.builtin .append, #[s, x], #[tt, tx]⟩, ty, pos, after, guard⟩).run G.P w = .ok (.value u) w' := by
      intro u w' hr
      simp [execOp, resolve, invoke, builtin, hr]
    have grow : ∀ {base : Option Addr} {sLen sCap : Nat} {xs ys : List (List FV)} {news olds : List Value} (id u : Nat), a.eval s = .slice base sLen sCap → Src G.P C w sz (a.eval x) ys news → sCap < sLen + ys.length →
        (sLen + ys.length) * bytes ≤ 140737488355328 → sLen + ys.length ≤ i64max → (∀ w' : World, w'.heap = w.heap → (Builtin.firstCells sz sLen (.slice base sLen sCap)).run G.P w' = .ok olds.toArray w') →
        sLen ≤ xs.length → olds.length = sLen * sz → (∀ c ∈ xs, c.length = sz) → (∀ (i : Nat) v, olds[i]? = some v → v.oneCell' = true) →
        (∀ (i j : Nat) c y, i < sLen → xs[i]? = some c → c[j]? = some y → ∃ v, olds[i * sz + j]? = some v ∧ RF C w v y) → u ≤ sLen →
        OpOk G C τ σ ((σ.setT id ⟨(σ.tk id).st + 1, .row e sz 0 u (xs.take sLen ++ ys)⟩).put dst (.ts id 0 (sLen + ys.length) ((σ.tk id).st + 1))) ⟨dst, .call ⟨.builtin .append, #[s, x], #[tt, tx]⟩, ty, pos, after, guard⟩ a w := by
      intro base sLen sCap xs ys news olds id u hs hsrc hg hby h63 hold hle hol hszx hone hox hu'
      have hx' : Src G.P C w i.size (a.eval x) ys news := hszi ▸ hsrc
      have hrun := run_app_grow (ty := ty) hu h2 hi hz hx' hg (hbyi ▸ hby) h63 (hszi ▸ hold)
      rw [← hs] at hrun
      generalize hcap : grownCap w (sLen + ys.length) sCap e = cap at hrun
      have hge : sLen + ys.length ≤ cap := hcap ▸ grownCap_ge w _ _ _
      have hmax : cap ≤ maxLen := hcap ▸ grownCap_le_maxLen w _ _ _ (by simp only [i64max] at h63; simp only [maxLen]; omega)
      obtain ⟨zc1, zc2⟩ := zeroCells_one hz1 hz2 (cap - (sLen + ys.length))
      generalize hzc : Builtin.zeroCells z.cells (cap - (sLen + ys.length)) = zc at hrun zc1 zc2
      have hnb : NewB w (w.drew.alloc (.cells (olds.toArray ++ news.toArray ++ zc) e)) (.cells (olds.toArray ++ news.toArray ++ zc) e) := ⟨rfl, rfl, rfl, rfl⟩
      have hsize : (olds.toArray ++ news.toArray ++ zc).size = cap * sz := by
        simp only [Array.size_append, List.size_toArray, hol, hsrc.len, zc1, ← Nat.add_mul]
        congr 1; omega
      have htl : (xs.take sLen).length = sLen := by rw [List.length_take]; omega
      have hl : (olds.toArray ++ news.toArray ++ zc) = (olds ++ news ++ zc.toList).toArray := by apply Array.ext'; simp
      refine opA_fin (exec hrun) ⟨C, _, core_new h hnb (k := ⟨w.heap.size, cap, sz⟩) rfl ?_ ?_ hd⟩
      · refine .inr ⟨⟨w.heap.size, cap, sz⟩, _, (0, 0), tau1_same _ _ _, rfl, hnb.new, .inr (Nat.le_refl _), hsize, by rw [List.length_append, htl]; exact hge, hmax, ?_, ?_, ?_, ?_, by rw [List.length_append, htl]; omega, fun o ho => by omega⟩
        · intro c hc
          rcases List.mem_append.1 hc with hm | hm
          · exact hszx c (List.take_subset _ _ hm)
          · exact hsrc.szs c hm
        · intro j v hv
          rw [hl, List.getElem?_toArray] at hv
          rw [List.getElem?_append] at hv
          split at hv
          · rw [List.getElem?_append] at hv
            split at hv
            · exact hone _ v hv
            · exact hsrc.one _ v hv
          · exact zc2 _ v (by simpa using hv)
        · have key := row_cells (C := C) (w' := w) hle hol hszx hsrc.szs hox hsrc.rel zc.toList
          intro i' j c y hi' hj
          obtain ⟨v, hv, hr⟩ := key i' j c y hi' hj
          exact ⟨v, by rw [hl, List.getElem?_toArray]; exact hv, hr.mono (fun _ _ h => h) (fun b o hb => hnb.cell (h.lt b o hb))⟩
        · intro o ho
          exact absurd (h.lt _ _ ho) (Nat.lt_irrefl _)
      · exact .ts _ _ _ _ _ rfl (by rw [setT_S, if_pos rfl]; exact Nat.le_refl _) (fun _ => .inr ⟨_, 0, tau1_same _ _ _, by simp, by simpa using hge, fun _ => by simp⟩)
    cases p1 with
    | f y =>
      cases y with
      | nils =>
        have hs : a.eval s = .slice none 0 0 := hq1.fNils
        simp only [semApp] at hsem
        split at hsem
        case h_2 => cases hsem
        rename_i ys hys
        split at hsem
        case isFalse => cases hsem
        rename_i hcond
        simp only [Option.some.injEq, Prod.mk.injEq] at hsem
        obtain ⟨rfl, rfl, rfl⟩ := hsem
        obtain ⟨news, hsrc⟩ := srcOf_spec (P := G.P) h hq2 hys
        by_cases h0 : ys.length = 0
        · obtain rfl : ys = [] := List.eq_nil_of_length_eq_zero h0
          have hx' : Src G.P C w i.size (a.eval x) [] news := hszi ▸ hsrc
          have hrun := run_app_room (ty := ty) (base := none) (sLen := 0) (sCap := 0) (w' := w) hu h2 hi hx' (Nat.le_refl _) rfl
          rw [← hs] at hrun
          exact opA_fin (exec hrun) (core_nil h (Nat.lt_succ_self _) hd)
        · have := grow (base := none) (sLen := 0) (sCap := 0) (xs := []) (olds := []) nid 0 hs hsrc (by omega) (by simpa using hcond.1) (by simpa using hcond.2) (fun w' _ => rfl) (Nat.le_refl _) (by simp) (by simp) (by simp) (by simp) (Nat.le_refl _)
          simpa using this
      | _ => simp [semApp] at hsem
    | ts t' off n st =>
      cases off with
      | succ off => simp [semApp] at hsem
      | zero =>
        simp only [semApp] at hsem
        split at hsem
        case h_2 => cases hsem
        rename_i e' sz' l' u xs hlk
        split at hsem
        case h_2 => cases hsem
        rename_i ys hys
        split at hsem
        case isFalse => cases hsem
        rename_i hcond
        obtain ⟨rfl, rfl, hn, hun, hby, h63⟩ := hcond
        simp only [Option.some.injEq, Prod.mk.injEq] at hsem
        obtain ⟨rfl, rfl, rfl⟩ := hsem
        obtain ⟨news, hsrc⟩ := srcOf_spec (P := G.P) h hq2 hys
        have hx' : Src G.P C w i.size (a.eval x) ys news := hszi ▸ hsrc
        obtain ⟨hst, hcc, _⟩ := look_ne hlk (by simp)
        have ht := h.toks t'
        rw [hcc] at ht
        have hview : (τ t' = none ∧ a.eval s = .slice none 0 0 ∧ n = 0) ∨ ∃ k o, τ t' = some k ∧ a.eval s = .slice (some ⟨k.b, o, none⟩) n k.cap ∧ n ≤ k.cap ∧ (0 < k.cap → o = 0) := by
          generalize a.eval s = v at hq1 ⊢
          cases hq1 with
          | ts v t off len s h1 hle hv =>
            rcases hv hst with ⟨e1, e2, _, e4⟩ | ⟨k, o, e1, e2, e3, e4⟩
            · exact .inl ⟨e1, e2, e4⟩
            · exact .inr ⟨k, o, e1, by simpa using e2, by simpa using e3, fun hp => by simpa using e4 hp⟩
        rcases hview with ⟨e1, e2, rfl⟩ | ⟨k, o, e1, e2, e3, e4⟩
        · have hxs : xs = [] := by
            rcases ht with ⟨_, q2⟩ | ⟨k, vs, fr, q1, _⟩
            · exact q2
            · rw [e1] at q1; cases q1
          subst hxs
          obtain rfl : u = 0 := by omega
          by_cases h0 : ys.length = 0
          · obtain rfl : ys = [] := List.eq_nil_of_length_eq_zero h0
            have hrun := run_app_room (ty := ty) (base := none) (sLen := 0) (sCap := 0) (w' := w) hu h2 hi hx' (Nat.le_refl _) rfl
            rw [← e2] at hrun
            exact opA_fin (exec hrun) (core_nil h (Nat.lt_succ_self _) hd)
          · exact grow (base := none) (sLen := 0) (sCap := 0) (xs := []) (olds := []) t' 0 e2 hsrc (by omega) hby h63 (fun w' _ => rfl) (Nat.le_refl _) (by simp) (by simp) (by simp) (by simp) (Nat.le_refl _)
        · rcases ht with ⟨q1, _⟩ | ⟨k', vs, fr, g1, g2, g3, g4, g5, g6, g7, g8, g9, g10, g11, g12, g13⟩
          · rw [e1] at q1; cases q1
          · rw [e1] at g1; cases g1
            have hnc : n * sz ≤ k.cap * sz := Nat.mul_le_mul_right _ e3
            by_cases hroom : n + ys.length ≤ k.cap
            · -- in place
              have hnl : news.length = ys.length * sz := hsrc.len
              have hfit : n * sz + news.length ≤ vs.size := by
                rw [hnl, g5, ← Nat.add_mul]; exact Nat.mul_le_mul_right _ hroom
              have hstore : (storeCells ((⟨k.b, o, none⟩ : Addr).add (n * sz)) news).run G.P w = .ok () (w.setRow k.b (Absw.splice vs.toList (n * sz) news).toArray) := by
                have := run_storeN G.P k.b (o + n * sz) e fr news 0 vs w g3 g4
                by_cases hp : 0 < k.cap
                · rw [e4 hp] at this ⊢
                  rw [add_lit]
                  have := this (by simpa using hfit) (fun j v hv => hsrc.one j v hv)
                  simpa using this
                · have h0 : n = 0 ∧ ys.length = 0 := by omega
                  have hnil : news = [] := List.eq_nil_of_length_eq_zero (by rw [hnl, h0.2, Nat.zero_mul])
                  subst hnil
                  have hv0 : vs.toList = [] := List.eq_nil_of_length_eq_zero (by simp only [Array.length_toList, g5]; rw [show k.cap = 0 by omega, Nat.zero_mul])
                  have hsv : (Absw.splice vs.toList (n * sz) []).toArray = vs := by rw [hv0]; apply Array.ext'; simp [Absw.splice, hv0]
                  rw [hsv, setRow_self w k.b vs e fr g3]
                  rfl
              have hrun := run_app_room (ty := ty) (base := some ⟨k.b, o, none⟩) (sLen := n) (sCap := k.cap) (w' := _) hu h2 hi hx' hroom (by rw [hszi]; exact hstore)
              rw [← e2] at hrun
              have hsp : n * sz + news.length ≤ vs.toList.length := by simpa using hfit
              have hus : u * sz ≤ n * sz := Nat.mul_le_mul_right _ hun
              have htl : (xs.take n).length = n := by rw [List.length_take]; omega
              refine opA_fin (exec hrun) ⟨C, τ, core_upd h (t := t') (by rw [hcc]; rfl) e1 g3 rfl (fun o' ho => ?_) (Nat.le_succ _) (fun w' hw' hb' => ?_) (fun w' hw' _ => ?_) hd⟩
              · have := g11 o' ho
                rw [List.getElem?_toArray, splice_get hsp, if_neg (by omega)]
                simp
              · have hsl := splice_length hsp
                refine .inr ⟨k, _, fr, e1, g2, hb', by simpa [hsl] using g4, by simpa [hsl] using g5, by rw [List.length_append, htl]; exact hroom, g7, ?_, ?_, ?_, fun o' ho => g11 o' ho, by rw [List.length_append, htl]; omega, fun o' ho => by omega⟩
                · intro c hc
                  rcases List.mem_append.1 hc with hm | hm
                  · exact g8 c (List.take_subset _ _ hm)
                  · exact hsrc.szs c hm
                · intro j v hv
                  rw [List.getElem?_toArray, splice_get hsp] at hv
                  split at hv
                  · exact hsrc.one _ v hv
                  · exact g9 j v (by simpa using hv)
                · have key := row_cells (C := C) (w' := w) (olds := vs.toList.take (n * sz)) (news := news) (rest := vs.toList.drop (n * sz + news.length)) hn (by rw [List.length_take]; simp only [Array.length_toList]; omega) g8 hsrc.szs
                    (fun i' j c y hi' hx hj => by
                      obtain ⟨v, hv, hr⟩ := g10 i' j c y hx hj
                      have hjl : j < sz := by rw [← g8 c (List.mem_of_getElem? hx)]; exact (List.getElem?_eq_some_iff.1 hj).1
                      exact ⟨v, by rw [List.getElem?_take, if_pos (idx_lt hi' hjl)]; simpa using hv, hr⟩) hsrc.rel
                  intro i' j c y hi' hj
                  obtain ⟨v, hv, hr⟩ := key i' j c y hi' hj
                  exact ⟨v, by rw [List.getElem?_toArray]; exact hv, hr.mono (fun _ _ h => h) hw'⟩
              · exact .ts _ _ _ _ _ rfl (by rw [setT_S, if_pos rfl]; exact Nat.le_refl _) (fun _ => .inr ⟨k, o, e1, by simp, by simpa using hroom, fun hp => by simpa using e4 hp⟩)
            · -- a new block
              have hv0 : ∀ w' : World, w'.heap = w.heap → (Builtin.firstCells sz n (.slice (some ⟨k.b, o, none⟩) n k.cap)).run G.P w' = .ok (vs.toList.take (n * sz)).toArray w' := by
                intro w' hw'
                simp only [Builtin.firstCells]
                have hlen : (vs.toList.take (n * sz)).length = n * sz := by rw [List.length_take]; simp only [Array.length_toList]; omega
                have := run_loadCells_list (P := G.P) w' ⟨k.b, o, none⟩ (vs.toList.take (n * sz)) (fun j v hv => by
                  rw [List.getElem?_take] at hv
                  split at hv
                  · rename_i hj
                    have hp : 0 < k.cap := by
                      rcases Nat.eq_zero_or_pos k.cap with h0 | h0
                      · rw [h0] at e3; have : n = 0 := by omega
                        subst this; simp at hj
                      · exact h0
                    rw [add_lit, cell_heap hw', e4 hp, Nat.zero_add, cell_of g3]
                    simpa using hv
                  · cases hv)
                rw [hlen] at this
                exact this
              refine grow (olds := vs.toList.take (n * sz)) t' u e2 hsrc (by omega) hby h63 hv0 hn (by rw [List.length_take]; simp only [Array.length_toList]; omega) g8 (fun j v hv => ?_) (fun i' j c y hi' hx hj => ?_) hun
              · rw [List.getElem?_take] at hv
                split at hv
                · exact g9 j v (by simpa using hv)
                · cases hv
              · obtain ⟨v, hv, hr⟩ := g10 i' j c y hx hj
                have hjl : j < sz := by rw [← g8 c (List.mem_of_getElem? hx)]; exact (List.getElem?_eq_some_iff.1 hj).1
                exact ⟨v, by rw [List.getElem?_take, if_pos (idx_lt hi' hjl)]; simpa using hv, hr⟩
    | _ => simp [semApp] at hsem
  all_goals exact absurd hc (by simp)
/-- What an append comes to. -/
theorem semApp_out {foot : List Nat} {nid e sz bytes t : Nat} {c : TC} {p : PV} {as : List PV} (h : semApp σ foot nid e sz bytes as = some (t, c, p)) :
    ∃ u xs, c = .row e sz 0 u xs ∧ p = .ts t 0 xs.length ((σ.tk t).st + 1) := by
  unfold semApp at h
  split at h
  · split at h
    · split at h
      · simp only [Option.some.injEq, Prod.mk.injEq] at h
        obtain ⟨rfl, rfl, rfl⟩ := h
        exact ⟨0, _, rfl, rfl⟩
      · cases h
    · cases h
  · split at h
    · split at h
      · split at h
        · rename_i hc
          simp only [Option.some.injEq, Prod.mk.injEq] at h
          obtain ⟨rfl, rfl, rfl⟩ := h
          refine ⟨_, _, rfl, ?_⟩
          rw [List.length_append, List.length_take, Nat.min_eq_left hc.2.2.1]
        · cases h
      · cases h
    · cases h
  · cases h

/-- A row that nobody writes any more. -/
theorem core_lock {tm : Array Value} {t : Nat} {e : TypeId} {sz l u : Nat} {xs : List (List FV)} (hr : (σ.tk t).c = .row e sz l u xs) (h : Core G C τ σ tm w) :
    ∃ C', Core G C' τ (σ.setT t ⟨(σ.tk t).st, .row e sz xs.length xs.length xs⟩) tm w ∧ Stp (blksOf τ σ.tk [t]) C w C' w := by
  have hS : (σ.setT t ⟨(σ.tk t).st, .row e sz xs.length xs.length xs⟩).S = σ.S := by
    funext u'
    rw [setT_S]
    split
    · rename_i e; rw [e]; rfl
    · rfl
  have etk : ∀ u', (σ.setT t ⟨(σ.tk t).st, .row e sz xs.length xs.length xs⟩).tk u' = if u' = t then ⟨(σ.tk t).st, .row e sz xs.length xs.length xs⟩ else σ.tk u' := fun _ => rfl
  have ht := h.toks t
  rw [hr] at ht
  have hlive : (σ.tk t).c.live = true := by rw [hr]; rfl
  rcases ht with ⟨g1, g2⟩ | ⟨k, vs, fr, g1, g2, g3, g4, g5, g6, g7, g8, g9, g10, g11, g12, g13⟩
  · subst g2
    refine ⟨C, ?_, Stp.refl _ _ _⟩
    refine Core.step (A := [t]) h (Stp.refl _ _ _) (fun t' ht' => ?_) (fun t' => by rw [hS]; exact Nat.le_refl _) (fun _ _ => rfl) (fun t' ht' => ?_) (fun t' ht' hl k' hk' => ?_) h.lt (fun n => ?_)
    · have : t' ≠ t := by simpa using ht'
      exact ⟨by rw [etk, if_neg this], rfl⟩
    · have : t' = t := by simpa using ht'
      subst this
      rw [etk, if_pos rfl]
      exact .inl ⟨g1, rfl⟩
    · have : t' = t := by simpa using ht'
      subst this
      rw [g1] at hk'; cases hk'
    · rw [hS]; exact h.slots n
  · let C' : Cells := fun b o => C b o ∨ (b = k.b ∧ o < xs.length * sz)
    have hstp : Stp (blksOf τ σ.tk [t]) C w C' w := ⟨rfl, rfl, rfl, Nat.le_refl _, fun _ _ _ => rfl, fun b o h => .inl h, fun b o h => h.elim .inl fun h => .inr (.inl ⟨t, by simp, hlive, k, g1, h.1.symm⟩), fun _ _ _ => rfl⟩
    have hsub : ∀ b o, C b o → C' b o := fun b o h => .inl h
    have hmul : ∀ {x y : Nat}, x ≤ y → x * sz ≤ y * sz := fun h => Nat.mul_le_mul_right _ h
    refine ⟨C', ?_, hstp⟩
    refine Core.step (A := [t]) h hstp (fun t' ht' => ?_) (fun t' => by rw [hS]; exact Nat.le_refl _) (fun _ _ => rfl) (fun t' ht' => ?_) (fun t' ht' hl k' hk' => ?_) (fun b o hb => ?_) (fun n => ?_)
    · have : t' ≠ t := by simpa using ht'
      exact ⟨by rw [etk, if_neg this], rfl⟩
    · have : t' = t := by simpa using ht'
      subst this
      rw [etk, if_pos rfl]
      refine .inr ⟨k, vs, fr, g1, g2, g3, g4, g5, g6, g7, g8, g9, fun i j c y hc hy => ?_, fun o ho => ?_, Nat.le_refl _, fun o ho => .inr ⟨rfl, ho⟩⟩
      · obtain ⟨v, hv, hrf⟩ := g10 i j c y hc hy
        exact ⟨v, hv, hrf.mono hsub (fun _ _ _ => rfl)⟩
      · rcases ho with ho | ho
        · exact Nat.lt_of_lt_of_le (g11 o ho) (hmul g12)
        · exact ho.2
    · have : t' = t := by simpa using ht'
      subst this
      exact .inl ⟨hlive, k', hk', rfl⟩
    · rcases hb with hb | ⟨rfl, _⟩
      · exact h.lt b o hb
      · exact (Array.getElem?_eq_some_iff.1 g3).1
    · rw [hS]; exact (h.slots n).mono hsub (fun _ _ _ => rfl) (fun _ => Nat.le_refl _) (fun _ _ => rfl)

theorem opLockz {o : Oper} {t e sz u d : Nat} {xs : List (List FV)} (hop : OpOk G C τ σ ((σ.setT t ⟨(σ.tk t).st + 1, .row e sz 0 u xs⟩).put (some d) (.ts t 0 xs.length ((σ.tk t).st + 1))) o a w) :
    OpOk G C τ σ ((σ.setT t ⟨(σ.tk t).st + 1, .gone⟩).put (some d) (.f (.sl sz xs))) o a w := by
  intro K Q hK
  refine hop K Q (fun a' w' C' τ' hcore h1 h2 hN => ?_)
  have hrow' : (((σ.setT t ⟨(σ.tk t).st + 1, .row e sz 0 u xs⟩).put (some d) (.ts t 0 xs.length ((σ.tk t).st + 1))).tk t).c = .row e sz 0 u xs := by
    rw [put_tk]; show (if t = t then _ else _ : Tok).c = _; rw [if_pos rfl]
  have hst' : (((σ.setT t ⟨(σ.tk t).st + 1, .row e sz 0 u xs⟩).put (some d) (.ts t 0 xs.length ((σ.tk t).st + 1))).tk t).st = (σ.tk t).st + 1 := by
    rw [put_tk]; show (if t = t then _ else _ : Tok).st = _; rw [if_pos rfl]
  have hsl' : ((σ.setT t ⟨(σ.tk t).st + 1, .row e sz 0 u xs⟩).put (some d) (.ts t 0 xs.length ((σ.tk t).st + 1))).sl d = .ts t 0 xs.length ((σ.tk t).st + 1) := if_pos rfl
  obtain ⟨C2, hL, hstp⟩ := core_lock hrow' hcore
  rw [hst'] at hL
  generalize hσ1 : ((σ.setT t ⟨(σ.tk t).st + 1, .row e sz 0 u xs⟩).put (some d) (.ts t 0 xs.length ((σ.tk t).st + 1))) = σ1 at *
  have hslot := frzC_RP hL [t] (some sz) (hL.slots d)
  have hfr : frzC (σ1.setT t ⟨(σ.tk t).st + 1, .row e sz xs.length xs.length xs⟩) [t] (some sz) ((σ1.setT t ⟨(σ.tk t).st + 1, .row e sz xs.length xs.length xs⟩).sl d) = .f (.sl sz xs) := by
    have e1 : (σ1.setT t ⟨(σ.tk t).st + 1, .row e sz xs.length xs.length xs⟩).sl d = .ts t 0 xs.length ((σ.tk t).st + 1) := hsl'
    have e2 : look (σ1.setT t ⟨(σ.tk t).st + 1, .row e sz xs.length xs.length xs⟩) [t] t ((σ.tk t).st + 1) = .row e sz xs.length xs.length xs := by
      simp [look, St.setT]
    rw [e1]
    simp only [frzC, e2]
    simp
  rw [hfr] at hslot
  have hS1 : σ1.S = (σ.setT t ⟨(σ.tk t).st + 1, .gone⟩).S := by
    rw [← hσ1, put_S]; funext v; rw [setT_S, setT_S]
  have hSL : (σ1.setT t ⟨(σ.tk t).st + 1, .row e sz xs.length xs.length xs⟩).S = σ1.S := by
    funext v; rw [setT_S]; split
    · rename_i ev; rw [ev]; exact hst'.symm
    · rfl
  have htk1 : ∀ v, v ≠ t → σ1.tk v = σ.tk v := by
    intro v hv; rw [← hσ1, put_tk]; show (if v = t then _ else _ : Tok) = _; rw [if_neg hv]
  have hgone : ∀ v, ((σ.setT t ⟨(σ.tk t).st + 1, .gone⟩).put (some d) (.f (.sl sz xs))).tk v = if v = t then ⟨(σ.tk t).st + 1, .gone⟩ else σ.tk v := fun _ => rfl
  have hSG : ((σ.setT t ⟨(σ.tk t).st + 1, .gone⟩).put (some d) (.f (.sl sz xs))).S = σ1.S := by rw [put_S, hS1]
  have hcoreF : Core G C2 τ' ((σ.setT t ⟨(σ.tk t).st + 1, .gone⟩).put (some d) (.f (.sl sz xs))) a'.tmps w' := by
    refine Core.step (A := [t]) hL (Stp.refl _ _ _) (fun v hv => ?_) (fun v => by rw [hSG, hSL]; exact Nat.le_refl _) (fun _ _ => rfl) (fun v hv => ?_) (fun v hv hl => ?_) hL.lt (fun n => ?_)
    · have hv' : v ≠ t := by simpa using hv
      refine ⟨?_, rfl⟩
      rw [hgone, if_neg hv']
      show _ = (if v = t then _ else _ : Tok)
      rw [if_neg hv', htk1 v hv']
    · have hv' : v = t := by simpa using hv
      rw [hgone, if_pos hv']; trivial
    · have hv' : v = t := by simpa using hv
      rw [hgone, if_pos hv'] at hl; cases hl
    · rw [hSG, ← hSL]
      by_cases hn : n = d
      · subst hn
        have : ((σ.setT t ⟨(σ.tk t).st + 1, .gone⟩).put (some n) (.f (.sl sz xs))).sl n = .f (.sl sz xs) := if_pos rfl
        rw [this]; exact hslot
      · have e1 : ((σ.setT t ⟨(σ.tk t).st + 1, .gone⟩).put (some d) (.f (.sl sz xs))).sl n = σ.sl n := if_neg hn
        have e2 : (σ1.setT t ⟨(σ.tk t).st + 1, .row e sz xs.length xs.length xs⟩).sl n = σ.sl n := by
          rw [← hσ1]; exact if_neg hn
        have := hL.slots n
        rw [e2] at this
        rw [e1]; exact this
  refine hK a' w' C2 τ' hcoreF h1 h2 (hN.trans ⟨hstp.wider (fun b ⟨v, _, hl, hk⟩ => ⟨v, hl, hk⟩), fun v k' hl hk' => ?_, fun v => by rw [hSG]; exact Nat.le_refl _, fun _ _ => rfl⟩)
  rw [hgone] at hl
  by_cases hv : v = t
  · rw [if_pos hv] at hl; cases hl
  · rw [if_neg hv] at hl
    exact .inl ⟨by rw [htk1 v hv]; exact hl, k', hk', rfl⟩

theorem opAppz {o : Oper} {e sz bytes : Nat} {args : List PArg} (hc : chkApp G.P o e sz bytes args = true) (h : Core G C τ σ a.tmps w) {foot : List Nat} {nid : Nat} {q : Nat × TC × PV}
    (hsem : semApp σ foot nid e sz bytes (args.map (·.val G σ foot)) = some q) (hd : ∀ n, o.dst = some n → n < a.tmps.size) {σ' : St} (hz : apz σ o.dst q = some σ') : OpOk G C τ σ σ' o a w := by
  obtain ⟨t, c, p⟩ := q
  have hop := opApp hc h hsem hd
  obtain ⟨u, xs, rfl, rfl⟩ := semApp_out hsem
  unfold apz at hz
  split at hz
  case h_2 => cases hz
  rename_i e' sz' l' u' xs' d hrow hdst
  simp only [TC.row.injEq] at hrow
  obtain ⟨_, rfl, _, _, rfl⟩ := hrow
  simp only [Option.some.injEq] at hz
  subst hz
  rw [hdst] at hop
  exact opLockz hop

theorem opAz {o : Oper} {nid : Nat} {d : Option Nat} {q : PV × TC} (hop : OpOk G C τ σ ((σ.setT nid ⟨(σ.tk nid).st + 1, q.2⟩).put d q.1) o a w) {σ' : St} (hz : azp σ nid d q = some σ') : OpOk G C τ σ σ' o a w := by
  obtain ⟨p, c⟩ := q
  unfold azp at hz
  split at hz
  case h_2 => cases hz
  rename_i t off n s e sz l u xs d h1 h2
  simp only at h1 h2
  subst h1 h2
  split at hz
  case isFalse => cases hz
  rename_i hh
  obtain ⟨rfl, rfl, rfl, rfl, rfl⟩ := hh
  simp only [Option.some.injEq] at hz
  subst hz
  exact opLockz hop
end
end Go.Absw

/- The abstract machine, its nineteenth part: a function's contract, and the names of tokens on both sides of a call. Conditions: none. -/
namespace Go.Absw
open Go

def ctk (l : List TC) : Nat → Tok := fun n => ⟨0, l.getD n .gone⟩
def otk (o : Out) : Nat → Tok := fun n => (o.toks ++ o.news).getD n ⟨0, .gone⟩
def okF (P : Program) (f : FuncId) : Bool := match P.funcs[f]? with
  | some fn => fn.body.isSome && fn.name != "runtime.NumGoroutine"
  | none => false

/-- The contract: called with such arguments and such tokens, in whatever world, the function returns just this. -/
def CT (G : Env) (f : FuncId) (i : Inp) (o : Out) : Prop :=
  okF G.P f = true ∧
  ∀ (w : World) (C : Cells) (τ : Tau) (vs : Array Value), vs.size = i.args.length → (∀ (n : Nat) v p, vs[n]? = some v → i.args[n]? = some p → RP C (fun _ => 0) τ w v p) →
    (∀ t, TR C (fun _ => 0) τ w t (ctk i.toks t).c) →
    (∀ t t' k k', (ctk i.toks t).c.live = true → (ctk i.toks t').c.live = true → τ t = some k → τ t' = some k' → k.b = k'.b → t = t') →
    (∀ b o, C b o → b < w.heap.size) → GlobOK G C w →
    Calls G.P f vs w fun e w' => ∃ v C' τ', e = .returned v ∧ RP C' (fun t => (otk o t).st) τ' w' v o.res ∧ (∀ t, TR C' (fun t => (otk o t).st) τ' w' t (otk o t).c) ∧
      (∀ t t' k k', (otk o t).c.live = true → (otk o t').c.live = true → τ' t = some k → τ' t' = some k' → k.b = k'.b → t = t') ∧
      (∀ t, t < i.toks.length → (otk o t).st = 0 → τ' t = τ t) ∧
      (∀ t, (otk o t).c.live = true → ∀ k', τ' t = some k' → ((ctk i.toks t).c.live = true ∧ ∃ k, τ t = some k ∧ k.b = k'.b) ∨ w.heap.size ≤ k'.b) ∧
      Stp (blks τ (ctk i.toks)) C w C' w' ∧ (∀ b o, C' b o → b < w'.heap.size)

section
variable {C : Cells} {S S' : Nat → Nat} {τ τ' : Tau} {w : World} {m : Nat → Option (Nat × Nat)} {md : Nat → Option (Nat × Nat × Nat)}

theorem dnL_length : ∀ xs : List PV, (dnL md xs).length = xs.length
  | [] => rfl
  | _ :: r => by simp [dnL, dnL_length r]
theorem dnL_get : ∀ (xs : List PV) (i : Nat), (dnL md xs)[i]? = (xs[i]?).map (dn md)
  | [], i => by simp [dnL]
  | x :: r, 0 => by simp [dnL]
  | x :: r, i + 1 => by simp [dnL, dnL_get r i]
theorem upL_length : ∀ xs : List PV, (upL m xs).length = xs.length
  | [] => rfl
  | _ :: r => by simp [upL, upL_length r]
theorem upL_get : ∀ (xs : List PV) (i : Nat), (upL m xs)[i]? = (xs[i]?).map (up m)
  | [], i => by simp [upL]
  | x :: r, 0 => by simp [upL]
  | x :: r, i + 1 => by simp [upL, upL_get r i]

theorem dn_RP (hm : ∀ t n c d, md t = some (n, c, d) → c = S t ∧ S' n = d ∧ τ' n = τ t) {v : Value} {p : PV} (h : RP C S τ w v p) : RP C S' τ' w v (dn md p) := by
  induction h with
  | f v x h => simp only [dn]; exact .f v x h
  | ag vs xs hs h1 hr ih =>
    simp only [dn]
    refine .ag vs _ (by rw [dnL_length]; exact hs) h1 (fun i v x hv hx => ?_)
    rw [dnL_get] at hx
    obtain ⟨y, hy, rfl⟩ := Option.map_eq_some_iff.1 hx
    exact ih i v y hv hy
  | tup vs xs hs hr ih =>
    simp only [dn]
    refine .tup vs _ (by rw [dnL_length]; exact hs) (fun i v x hv hx => ?_)
    rw [dnL_get] at hx
    obtain ⟨y, hy, rfl⟩ := Option.map_eq_some_iff.1 hx
    exact ih i v y hv hy
  | ptr v t i o s h1 hle h =>
    simp only [dn]
    split
    · rename_i n c d hmt
      obtain ⟨e1, e2, e3⟩ := hm t n c d hmt
      split
      · rename_i hs
        refine .ptr v n i o d h1 (Nat.le_of_eq e2.symm) (fun _ => ?_)
        rw [e3]; exact h (hs.trans e1)
      · exact .dead v
    · exact .dead v
  | fp b o p c us hc hr => simp only [dn]; exact .fp b o p c us hc hr
  | ts v t off len s h1 hle h =>
    simp only [dn]
    split
    · rename_i n c d hmt
      obtain ⟨e1, e2, e3⟩ := hm t n c d hmt
      split
      · rename_i hs
        refine .ts v n off len d h1 (Nat.le_of_eq e2.symm) (fun _ => ?_)
        rw [e3]; exact h (hs.trans e1)
      · exact .dead v
    · exact .dead v
  | fn f vs us xs ys hs hs' hr hr' ih ih' =>
    simp only [dn]
    refine .fn f vs us _ _ (by rw [dnL_length]; exact hs) (by rw [dnL_length]; exact hs') (fun i v x hv hx => ?_) (fun i v x hv hx => ?_)
    · rw [dnL_get] at hx
      obtain ⟨y, hy, rfl⟩ := Option.map_eq_some_iff.1 hx
      exact ih i v y hv hy
    · rw [dnL_get] at hx
      obtain ⟨y, hy, rfl⟩ := Option.map_eq_some_iff.1 hx
      exact ih' i v y hv hy
  | ifc t v x h ih => simp only [dn]; exact .ifc t v _ ih
  | dead v => simp only [dn]; exact .dead v

theorem up_RP (hm : ∀ t n c, m t = some (n, c) → S' n = S t + c ∧ τ' n = τ t) {v : Value} {p : PV} (h : RP C S τ w v p) : RP C S' τ' w v (up m p) := by
  induction h with
  | f v x h => simp only [up]; exact .f v x h
  | ag vs xs hs h1 hr ih =>
    simp only [up]
    refine .ag vs _ (by rw [upL_length]; exact hs) h1 (fun i v x hv hx => ?_)
    rw [upL_get] at hx
    obtain ⟨y, hy, rfl⟩ := Option.map_eq_some_iff.1 hx
    exact ih i v y hv hy
  | tup vs xs hs hr ih =>
    simp only [up]
    refine .tup vs _ (by rw [upL_length]; exact hs) (fun i v x hv hx => ?_)
    rw [upL_get] at hx
    obtain ⟨y, hy, rfl⟩ := Option.map_eq_some_iff.1 hx
    exact ih i v y hv hy
  | ptr v t i o s h1 hle h =>
    simp only [up]
    split
    · rename_i n c hmt
      obtain ⟨e1, e2⟩ := hm t n c hmt
      refine .ptr v n i o _ h1 (by omega) (fun hs => ?_)
      rw [e2]; exact h (by omega)
    · exact .dead v
  | fp b o p c us hc hr => simp only [up]; exact .fp b o p c us hc hr
  | ts v t off len s h1 hle h =>
    simp only [up]
    split
    · rename_i n c hmt
      obtain ⟨e1, e2⟩ := hm t n c hmt
      refine .ts v n off len _ h1 (by omega) (fun hs => ?_)
      rw [e2]; exact h (by omega)
    · exact .dead v
  | fn f vs us xs ys hs hs' hr hr' ih ih' =>
    simp only [up]
    refine .fn f vs us _ _ (by rw [upL_length]; exact hs) (by rw [upL_length]; exact hs') (fun i v x hv hx => ?_) (fun i v x hv hx => ?_)
    · rw [upL_get] at hx
      obtain ⟨y, hy, rfl⟩ := Option.map_eq_some_iff.1 hx
      exact ih i v y hv hy
    · rw [upL_get] at hx
      obtain ⟨y, hy, rfl⟩ := Option.map_eq_some_iff.1 hx
      exact ih' i v y hv hy
  | ifc t v x h ih => simp only [up]; exact .ifc t v _ ih
  | dead v => simp only [up]; exact .dead v

theorem dnC_TR (hm : ∀ t n c d, md t = some (n, c, d) → c = S t ∧ S' n = d ∧ τ' n = τ t) {t t' : Nat} (ht : τ' t' = τ t) {c : TC} (h : TR C S τ w t c) : TR C S' τ' w t' (dnC md c) := by
  cases c with
  | gone => trivial
  | box ty fz cs =>
    obtain ⟨k, vs, fr, h1, h2, h3, h4, h5, h6, h7, h8⟩ := h
    refine ⟨k, vs, fr, ht.trans h1, h2, h3, by rw [dnL_length]; exact h4, h5, fun i v x hv hx => ?_, h7, h8⟩
    rw [dnL_get] at hx
    obtain ⟨y, hy, rfl⟩ := Option.map_eq_some_iff.1 hx
    exact dn_RP hm (h6 i v y hv hy)
  | row e sz l u xs =>
    rcases h with ⟨h1, h2⟩ | ⟨k, vs, fr, h1, h2⟩
    · exact .inl ⟨ht.trans h1, h2⟩
    · exact .inr ⟨k, vs, fr, ht.trans h1, h2⟩
theorem upC_TR (hm : ∀ t n c, m t = some (n, c) → S' n = S t + c ∧ τ' n = τ t) {t t' : Nat} (ht : τ' t' = τ t) {c : TC} (h : TR C S τ w t c) : TR C S' τ' w t' (upC m c) := by
  cases c with
  | gone => trivial
  | box ty fz cs =>
    obtain ⟨k, vs, fr, h1, h2, h3, h4, h5, h6, h7, h8⟩ := h
    refine ⟨k, vs, fr, ht.trans h1, h2, h3, by rw [upL_length]; exact h4, h5, fun i v x hv hx => ?_, h7, h8⟩
    rw [upL_get] at hx
    obtain ⟨y, hy, rfl⟩ := Option.map_eq_some_iff.1 hx
    exact up_RP hm (h6 i v y hv hy)
  | row e sz l u xs =>
    rcases h with ⟨h1, h2⟩ | ⟨k, vs, fr, h1, h2⟩
    · exact .inl ⟨ht.trans h1, h2⟩
    · exact .inr ⟨k, vs, fr, ht.trans h1, h2⟩
theorem dnC_live (c : TC) : (dnC md c).live = c.live := by cases c <;> rfl
theorem upC_live (c : TC) : (upC m c).live = c.live := by cases c <;> rfl
end

theorem pos_some : ∀ {A : List Nat} {t n : Nat}, pos A t = some n → A[n]? = some t
  | [], t, n, h => by simp [pos] at h
  | a :: r, t, n, h => by
    simp only [pos] at h
    split at h
    · rename_i e; cases h; simp [e]
    · obtain ⟨m, hm, rfl⟩ := Option.map_eq_some_iff.1 h
      simpa using pos_some hm
theorem pos_none : ∀ {A : List Nat} {t : Nat}, pos A t = none → t ∉ A
  | [], t, h => by simp
  | a :: r, t, h => by
    simp only [pos] at h
    split at h
    · cases h
    · rename_i e
      have := pos_none (A := r) (t := t) (by simpa using h)
      simp [e, this]
theorem pos_of_get : ∀ {A : List Nat} {t n : Nat}, A.Nodup → A[n]? = some t → pos A t = some n
  | [], t, n, _, h => by simp at h
  | a :: r, t, 0, hn, h => by simp at h; simp [pos, h]
  | a :: r, t, n + 1, hn, h => by
    simp at h
    have hmem : t ∈ r := List.mem_of_getElem? h
    have hne : t ≠ a := by rintro rfl; exact (List.nodup_cons.1 hn).1 hmem
    simp only [pos, if_neg hne]
    rw [pos_of_get (List.nodup_cons.1 hn).2 h]; rfl
end Go.Absw

/- The abstract machine, its twentieth part: a call by its contract. Conditions: the check. -/
namespace Go.Absw
open Go

def methOk (P : Program) (t : TypeId) (m : String) (f : FuncId) : Bool := match P.info? t with
  | some i => match i.methods.find? (·.name == m) with
    | some x => x.path.isEmpty && (match x.func with
      | some (f', false) => f' == f && (match P.underlying t with | some (.pointer _) => false | some _ => true | none => false)
      | _ => false)
    | none => false
  | none => false
def chkCall (P : Program) (o : Oper) (k : CK) (args : List PArg) : Bool := match o.op with
  | .call c => match c.callee with
    | .value f => match k with
      | .f => opdsOk (f :: c.args.toList) args
      | _ => false
    | .invoke r m => match k with
      | .inv m' t f => m == m' && opdsOk (r :: c.args.toList) args && methOk P t m f
      | _ => false
    | _ => false
  | _ => false

section
variable {G : Env} {C : Cells} {τ : Tau} {σ : St} {a : Act} {w : World}

/-- Arguments of a call, value by value. -/
def RPs (C : Cells) (S : Nat → Nat) (τ : Tau) (w : World) (vs : Array Value) (ps : List PV) : Prop :=
  vs.size = ps.length ∧ ∀ (n : Nat) v p, vs[n]? = some v → ps[n]? = some p → RP C S τ w v p

theorem RPs.append {S : Nat → Nat} {vs us : Array Value} {xs ys : List PV} (h : RPs C S τ w vs xs) (h' : RPs C S τ w us ys) : RPs C S τ w (vs ++ us) (xs ++ ys) := by
  refine ⟨by simp [h.1, h'.1], fun n v p hv hp => ?_⟩
  by_cases hn : n < vs.size
  · rw [Array.getElem?_append_left hn] at hv
    rw [List.getElem?_append_left (by rw [← h.1]; exact hn)] at hp
    exact h.2 n v p hv hp
  · rw [Array.getElem?_append_right (by omega)] at hv
    rw [List.getElem?_append_right (by rw [← h.1]; omega)] at hp
    rw [h.1] at hv
    exact h'.2 _ v p hv hp

theorem run_callFunc {P : Program} {f : FuncId} (hf : okF P f = true) (vs : Array Value) (w : World) : (callFunc f vs).run P w = .ok (.enter f vs) w := by
  unfold okF at hf
  split at hf
  case h_2 => cases hf
  rename_i fn hfn
  simp only [Bool.and_eq_true, bne_iff_ne] at hf
  obtain ⟨hb, hne⟩ := hf
  obtain ⟨c, hc⟩ := Option.isSome_iff_exists.1 hb
  simp [callFunc, hfn, hne, hc]

theorem callee_inv {m : String} {t : TypeId} {f g : FuncId} {ps as : List PV} (h : callee (.inv m t f) ps = some (g, as)) : g = f := by
  cases ps with
  | nil => simp [callee] at h
  | cons p r =>
    cases p with
    | f x =>
      cases x with
      | ifa t' xs =>
        simp only [callee] at h
        by_cases ht : t = t'
        · rw [if_pos ht] at h; cases h; rfl
        · rw [if_neg ht] at h; cases h
      | ifs t' y =>
        simp only [callee] at h
        by_cases ht : t = t'
        · rw [if_pos ht] at h; cases h; rfl
        · rw [if_neg ht] at h; cases h
      | _ => simp [callee] at h
    | _ => simp [callee] at h

/-- The call comes to the function. -/
theorem enter_sound {o : Oper} {k : CK} {args : List PArg} (hc : chkCall G.P o k args = true) (h : Core G C τ σ a.tmps w) {foot : List Nat} {f : FuncId} {as : List PV}
    (hf : callee k (args.map (·.val G σ foot)) = some (f, as)) (hok : okF G.P f = true) : ∃ vs, (execOp a.eval o).run G.P w = .ok (.enter f vs) w ∧ RPs C σ.S τ w vs as := by
  obtain ⟨dst, op, ty, pos, after, guard⟩ := o
  cases op <;> simp only [chkCall] at hc
  case call cl =>
    obtain ⟨cal, cargs, argTypes⟩ := cl
    simp only at hc
    have rest : ∀ {x : Operand} {q : PArg} {r : List PArg}, args = q :: r → opdsOk (x :: cargs.toList) args = true → RP C σ.S τ w (a.eval x) (q.val G σ foot) ∧ RPs C σ.S τ w (cargs.map a.eval) (r.map (·.val G σ foot)) := by
      intro x q r hr ho
      rw [hr] at ho
      obtain ⟨e1, e2⟩ := opds_RP (G := G) h foot ho
      refine ⟨e2 0 x q rfl rfl, by simpa using e1, fun n v p hv hp => ?_⟩
      rw [Array.getElem?_map] at hv
      rw [List.getElem?_map] at hp
      obtain ⟨y, hy, rfl⟩ := Option.map_eq_some_iff.1 hv
      obtain ⟨z, hz, rfl⟩ := Option.map_eq_some_iff.1 hp
      exact e2 (n + 1) y z (by simpa using hy) (by simpa using hz)
    cases cal with
    | value fo =>
      cases k with
      | f =>
        simp only at hc
        cases hargs : args with
        | nil => rw [hargs] at hf; simp [callee] at hf
        | cons q r =>
          obtain ⟨h1, h2⟩ := rest hargs hc
          rw [hargs] at hf
          simp only [List.map_cons] at hf
          generalize q.val G σ foot = p at h1 hf
          generalize r.map (·.val G σ foot) = ps at h2 hf
          generalize hu : a.eval fo = u at h1
          cases h1 with
          | f v x hx =>
            cases hx with
            | fn fn =>
              cases fn with
              | func g =>
                simp only [callee, Option.some.injEq, Prod.mk.injEq] at hf
                obtain ⟨rfl, rfl⟩ := hf
                refine ⟨cargs.map a.eval, ?_, h2⟩
                simp [execOp, resolve, hu, Deferred.ofValue, invoke, run_callFunc hok]
              | _ => simp [callee] at hf
            | _ => simp [callee] at hf
          | fn fn vs us xs ys hs hs' hr hr' =>
            cases fn with
            | func g =>
              simp only [callee, Option.some.injEq, Prod.mk.injEq] at hf
              obtain ⟨rfl, rfl⟩ := hf
              refine ⟨vs ++ cargs.map a.eval ++ us, ?_, (RPs.append ⟨hs, hr⟩ h2).append ⟨hs', hr'⟩⟩
              simp [execOp, resolve, hu, Deferred.ofValue, invoke, run_callFunc hok]
            | _ => simp [callee] at hf
          | _ => simp [callee] at hf
      | _ => simp at hc
    | invoke ro m =>
      cases k with
      | inv m' t g =>
        simp only [Bool.and_eq_true, beq_iff_eq] at hc
        obtain ⟨⟨rfl, hc1⟩, hc2⟩ := hc
        cases hargs : args with
        | nil => rw [hargs] at hf; simp [callee] at hf
        | cons q r =>
          obtain ⟨h1, h2⟩ := rest hargs hc1
          rw [hargs] at hf
          simp only [List.map_cons] at hf
          generalize q.val G σ foot = p at h1 hf
          generalize r.map (·.val G σ foot) = ps at h2 hf
          generalize hu : a.eval ro = u at h1
          have hgf := callee_inv hf
          subst hgf
          have meth : ∀ v : Value, (method (G.P.types.size + Made.depth) t v m).run G.P w = .ok (f, v) w := by
            intro v
            unfold methOk at hc2
            split at hc2
            case h_2 => cases hc2
            rename_i i hi
            split at hc2
            case h_2 => cases hc2
            rename_i xm hxm
            simp only [Bool.and_eq_true] at hc2
            obtain ⟨hp, hf'⟩ := hc2
            have hpath : xm.path.toList = [] := by simpa using hp
            split at hf'
            case h_2 => cases hf'
            rename_i f' hfn
            simp only [Bool.and_eq_true, beq_iff_eq] at hf'
            obtain ⟨rfl, hf'⟩ := hf'
            rw [show G.P.types.size + Made.depth = (G.P.types.size + 99) + 1 from rfl, method]
            simp only [Sem.run_bind, typeInfo, run_program, Result.andThen_ok, hi, Sem.run_pure, hxm, hpath, follow, hfn]
            split at hf'
            · cases hf'
            · rename_i d hd hu'
              simp only [receiverAt, Sem.run_bind, run_underlying hu', Result.andThen_ok]
              cases d <;> first | rfl | exact absurd rfl (hd _)
            · cases hf'
          have exec : ∀ v : Value, u = .iface t v → (execOp a.eval ⟨dst, .call ⟨.invoke ro m, cargs, argTypes⟩, ty, pos, after, guard⟩).run G.P w = .ok (.enter f (#[v] ++ cargs.map a.eval)) w := by
            intro v hv
            rw [hv] at hu
            have hex : (#[Value.iface t v] ++ cargs.map a.eval).extract 1 (#[Value.iface t v] ++ cargs.map a.eval).size = cargs.map a.eval := by
              apply Array.ext'
              simp
              rw [List.take_of_length_le (by simp)]
            have h0 : (#[Value.iface t v] ++ cargs.map a.eval)[0]? = some (.iface t v) := by rw [Array.getElem?_append_left (by simp)]; rfl
            simp only [execOp, resolve, hu, Sem.run_bind, Sem.run_pure, Result.andThen_ok, invoke]
            rw [h0]
            simp only [hex, callMethod, Sem.run_bind, run_program, meth, Result.andThen_ok]
            exact run_callFunc hok _ w
          cases h1 with
          | f v x hx =>
            cases hx with
            | ifa t' vs xs hs hr =>
              simp only [callee] at hf
              by_cases ht : t = t'
              · rw [if_pos ht] at hf
                subst ht
                simp only [Option.some.injEq, Prod.mk.injEq] at hf
                obtain ⟨_, rfl⟩ := hf
                refine ⟨_, exec _ rfl, RPs.append (vs := #[.agg vs]) (xs := [.ag (xs.map .f)]) ⟨rfl, fun n v p hv hp => ?_⟩ h2⟩
                cases n with
                | succ n => simp at hv
                | zero =>
                  simp at hv hp
                  subst hv; subst hp
                  refine .ag vs _ (by simpa using hs) (fun i v hv => ?_) (fun i v x hv hx => ?_)
                  · have hlt : i < xs.length := by rw [← hs]; exact (Array.getElem?_eq_some_iff.1 hv).1
                    exact (hr i v _ hv (List.getElem?_eq_getElem hlt)).one
                  · rw [List.getElem?_map] at hx
                    obtain ⟨y, hy, rfl⟩ := Option.map_eq_some_iff.1 hx
                    exact .f _ _ (hr i v y hv hy)
              · rw [if_neg ht] at hf; cases hf
            | ifs t' v x hx =>
              simp only [callee] at hf
              by_cases ht : t = t'
              · rw [if_pos ht] at hf
                subst ht
                simp only [Option.some.injEq, Prod.mk.injEq] at hf
                obtain ⟨_, rfl⟩ := hf
                refine ⟨_, exec _ rfl, RPs.append (vs := #[v]) (xs := [.f x]) ⟨rfl, fun n v p hv hp => ?_⟩ h2⟩
                cases n with
                | succ n => simp at hv
                | zero => simp at hv hp; subst hv; subst hp; exact .f _ _ hx
              · rw [if_neg ht] at hf; cases hf
            | _ => simp [callee] at hf
          | _ => simp [callee] at hf
      | _ => simp at hc
    | builtin b => simp at hc
  all_goals exact absurd hc (by simp)
end
end Go.Absw

/- The abstract machine, its twenty-first part: a call, as an operation. Conditions: the check, and the callee's contract. -/
namespace Go.Absw
open Go

section
variable {G : Env} {C : Cells} {τ : Tau} {σ : St} {a : Act} {w : World}

theorem opCall {o : Oper} {k : CK} {args : List PArg} (hc : chkCall G.P o k args = true) (h : Core G C τ σ a.tmps w) {foot : List Nat} {f : FuncId} {as : List PV} {A N : List Nat} {out : Out} {σ' : St}
    (hf : callee k (args.map (·.val G σ foot)) = some (f, as)) (hct : CT G f (callInp σ A as) out) (hN : (A ++ N).Nodup) (hst : stepCall σ A N o.dst out = some σ') (hd : ∀ n, o.dst = some n → n < a.tmps.size) :
    OpOk G C τ σ σ' o a w := by
  obtain ⟨hok, hct⟩ := hct
  obtain ⟨vs, hrun, hvs⟩ := enter_sound hc h hf hok
  unfold stepCall at hst
  split at hst
  case isFalse => cases hst
  rename_i hl
  obtain ⟨hl1, hl2⟩ := hl
  simp only [Option.some.injEq] at hst
  have hA : A.Nodup := (List.nodup_append.1 hN).1
  have hNn : N.Nodup := (List.nodup_append.1 hN).2.1
  -- the callee's names
  have mdn : ∀ t n c d, mDn σ A t = some (n, c, d) → c = σ.S t ∧ A[n]? = some t ∧ d = 0 := by
    intro t n c d hm
    simp only [mDn] at hm
    obtain ⟨m, hm1, hm2⟩ := Option.map_eq_some_iff.1 hm
    cases hm2
    exact ⟨rfl, pos_some hm1, rfl⟩
  let τc : Tau := fun n => match A[n]? with | some t => τ t | none => none
  have hτc : ∀ {n t : Nat}, A[n]? = some t → τc n = τ t := by intro n t hn; simp only [τc, hn]
  have hdn : ∀ t n c d, mDn σ A t = some (n, c, d) → c = σ.S t ∧ (fun _ : Nat => 0) n = d ∧ τc n = τ t := fun t n c d hm => ⟨(mdn t n c d hm).1, (mdn t n c d hm).2.2.symm, hτc (mdn t n c d hm).2.1⟩
  have hctk : ∀ n, (∃ t, A[n]? = some t ∧ (ctk (callInp σ A as).toks n).c = dnC (mDn σ A) (σ.tk t).c) ∨ (A[n]? = none ∧ (ctk (callInp σ A as).toks n).c = .gone) := by
    intro n
    simp only [ctk, callInp, List.getD_eq_getElem?_getD, List.getElem?_map]
    cases A[n]? with
    | none => exact .inr ⟨rfl, rfl⟩
    | some t => exact .inl ⟨t, rfl, rfl⟩
  have hblk : ∀ b, blks τc (ctk (callInp σ A as).toks) b → blksOf τ σ.tk (A ++ N) b := by
    rintro b ⟨n, hl, k', hk', rfl⟩
    rcases hctk n with ⟨t, h1, h2⟩ | ⟨_, h2⟩
    · rw [h2, dnC_live] at hl
      exact ⟨t, List.mem_append.2 (.inl (List.mem_of_getElem? h1)), hl, k', hτc h1 ▸ hk', rfl⟩
    · rw [h2] at hl; cases hl
  have key := hct w C τc vs (by simp only [callInp, dnL_length]; exact hvs.1) (fun n v p hv hp => by
      simp only [callInp, dnL_get] at hp
      obtain ⟨y, hy, rfl⟩ := Option.map_eq_some_iff.1 hp
      exact dn_RP hdn (hvs.2 n v y hv hy))
    (fun n => by
      rcases hctk n with ⟨t, h1, h2⟩ | ⟨_, h2⟩
      · rw [h2]; exact dnC_TR hdn (hτc h1) (h.toks t)
      · rw [h2]; trivial)
    (fun n n' k' k'' hln hln' hkn hkn' hb => by
      rcases hctk n with ⟨t, h1, h2⟩ | ⟨_, h2⟩
      · rcases hctk n' with ⟨t', h1', h2'⟩ | ⟨_, h2'⟩
        · rw [h2, dnC_live] at hln
          rw [h2', dnC_live] at hln'
          have := h.dist t t' k' k'' hln hln' (hτc h1 ▸ hkn) (hτc h1' ▸ hkn') hb
          subst this
          have e1 := pos_of_get hA h1
          have e2 := pos_of_get hA h1'
          rw [e1] at e2
          exact Option.some.inj e2
        · rw [h2'] at hln'; cases hln'
      · rw [h2] at hln; cases hln)
    h.lt h.glob
  intro K Q hK
  unfold Oper.wp
  rw [hrun]
  refine Calls.mono key (fun e w' he => ?_)
  obtain ⟨v, C', τ', rfl, hres, htr, hdist, hsame, hplace, hstp, hlt⟩ := he
  simp only
  -- the caller's names
  have hpos : ∀ u n, pos (A ++ N) u = some n → (A ++ N)[n]? = some u ∧ n < (out.toks ++ out.news).length := by
    intro u n hn
    have := pos_some hn
    have hlt := (List.getElem?_eq_some_iff.1 this).1
    exact ⟨this, by simp only [List.length_append] at hlt ⊢; omega⟩
  have mup : ∀ n u, (A ++ N)[n]? = some u → ∃ c, mUp σ A N n = some (u, c) ∧ σ.S u ≤ c ∧ ((n < A.length ∧ c = σ.S u) ∨ (A.length ≤ n ∧ c = σ.S u + 1)) := by
    intro n u hn
    simp only [mUp]
    by_cases hlt : n < A.length
    · rw [List.getElem?_append_left hlt] at hn
      rw [hn]
      exact ⟨_, rfl, Nat.le_refl _, .inl ⟨hlt, rfl⟩⟩
    · rw [List.getElem?_append_right (by omega)] at hn
      have hnone : A[n]? = none := List.getElem?_eq_none (by omega)
      rw [hnone, hn]
      exact ⟨_, rfl, Nat.le_succ _, .inr ⟨by omega, rfl⟩⟩
  have mup' : ∀ t n c, mUp σ A N t = some (n, c) → (A ++ N)[t]? = some n := by
    intro t n c hm
    simp only [mUp] at hm
    split at hm
    · rename_i u hu
      cases hm
      rw [List.getElem?_append_left (List.getElem?_eq_some_iff.1 hu).1]; exact hu
    · rename_i hu
      obtain ⟨u, hu', hu2⟩ := Option.map_eq_some_iff.1 hm
      cases hu2
      rw [List.getElem?_append_right (List.getElem?_eq_none_iff.1 hu)]; exact hu'
  have hnew : ∀ u n, pos (A ++ N) u = some n → ∃ c, mUp σ A N n = some (u, c) ∧ newT σ A N (out.toks ++ out.news) u = ⟨(otk out n).st + c, upC (mUp σ A N) (otk out n).c⟩ := by
    intro u n hn
    obtain ⟨h1, h2⟩ := hpos u n hn
    obtain ⟨c, h3, _, _⟩ := mup n u h1
    refine ⟨c, h3, ?_⟩
    simp only [newT, hn, List.getElem?_eq_getElem h2, h3, otk, List.getD_eq_getElem?_getD, Option.getD_some]
  have hold : ∀ u, pos (A ++ N) u = none → newT σ A N (out.toks ++ out.news) u = σ.tk u := by
    intro u hu; simp only [newT, hu]
  let τ'' : Tau := fun u => match pos (A ++ N) u with | some n => τ' n | none => τ u
  have hτ1 : ∀ {u n : Nat}, pos (A ++ N) u = some n → τ'' u = τ' n := by intro u n hn; simp only [τ'', hn]
  have hτ0 : ∀ {u : Nat}, pos (A ++ N) u = none → τ'' u = τ u := by intro u hn; simp only [τ'', hn]
  -- the new state's stamps
  let σ1 : St := ⟨σ.sl, newT σ A N (out.toks ++ out.news)⟩
  have hS1 : ∀ u n, pos (A ++ N) u = some n → ∃ c, mUp σ A N n = some (u, c) ∧ σ1.S u = (otk out n).st + c := by
    intro u n hn
    obtain ⟨c, h1, h2⟩ := hnew u n hn
    exact ⟨c, h1, by simp only [St.S, σ1, h2]⟩
  have hup : ∀ t n c, mUp σ A N t = some (n, c) → σ1.S n = (otk out t).st + c ∧ τ'' n = τ' t := by
    intro t n c hm
    have h1 := mup' t n c hm
    have h2 := pos_of_get hN h1
    obtain ⟨c', h3, h4⟩ := hS1 n t h2
    rw [hm] at h3
    cases h3
    exact ⟨h4, hτ1 h2⟩
  have hSle : ∀ u, σ.S u ≤ σ1.S u := by
    intro u
    cases hp : pos (A ++ N) u with
    | none => simp only [St.S, σ1, hold u hp]; exact Nat.le_refl _
    | some n =>
      obtain ⟨c, h1, h2⟩ := hS1 u n hp
      obtain ⟨c', h3, h4, _⟩ := mup n u (hpos u n hp).1
      rw [h1] at h3; cases h3
      omega
  have hτsame : ∀ u, σ1.S u = σ.S u → τ'' u = τ u := by
    intro u hu
    cases hp : pos (A ++ N) u with
    | none => exact hτ0 hp
    | some n =>
      obtain ⟨c, h1, h2⟩ := hS1 u n hp
      obtain ⟨c', h3, h4, h5⟩ := mup n u (hpos u n hp).1
      rw [h1] at h3; cases h3
      rcases h5 with ⟨h6, h7⟩ | ⟨h6, h7⟩
      · have hst0 : (otk out n).st = 0 := by omega
        have hAn : A[n]? = some u := by have := (hpos u n hp).1; rwa [List.getElem?_append_left h6] at this
        rw [hτ1 hp, hsame n (by simp only [callInp, List.length_map]; exact h6) hst0, hτc hAn]
      · omega
  have hfin : Core G C' τ'' σ' (a.put o.dst v).tmps w' := by
    subst hst
    refine Core.step (A := A ++ N) h (hstp.wider hblk) (fun u hu => ?_) (fun u => ?_) (fun u => ?_) (fun u hu => ?_) (fun u hu hlu k' hk' => ?_) hlt (fun n => ?_)
    · have hp : pos (A ++ N) u = none := by
        cases hp : pos (A ++ N) u with
        | none => rfl
        | some n => exact absurd (List.mem_of_getElem? (pos_some hp)) hu
      exact ⟨by rw [put_tk]; exact hold u hp, hτ0 hp⟩
    · rw [put_S]; exact hSle u
    · rw [put_S]; exact hτsame u
    · obtain ⟨n, hn⟩ := List.getElem?_of_mem hu
      have hp := pos_of_get hN hn
      obtain ⟨c, h1, h2⟩ := hnew u n hp
      rw [put_S, put_tk]
      show TR C' σ1.S τ'' w' u (newT σ A N (out.toks ++ out.news) u).c
      rw [h2]
      exact upC_TR hup (hτ1 hp) (htr n)
    · obtain ⟨n, hn⟩ := List.getElem?_of_mem hu
      have hp := pos_of_get hN hn
      obtain ⟨c, h1, h2⟩ := hnew u n hp
      rw [put_tk] at hlu
      have hlu' : (newT σ A N (out.toks ++ out.news) u).c.live = true := hlu
      rw [h2, upC_live] at hlu'
      rw [hτ1 hp] at hk'
      rcases hplace n hlu' k' hk' with ⟨g1, k, g2, g3⟩ | g1
      · left
        rcases hctk n with ⟨t, e1, e2⟩ | ⟨_, e2⟩
        · rw [e2, dnC_live] at g1
          have : t = u := by
            have hlt := (List.getElem?_eq_some_iff.1 e1).1
            rw [List.getElem?_append_left hlt, e1] at hn
            exact Option.some.inj hn
          subst this
          exact ⟨g1, k, hτc e1 ▸ g2, g3⟩
        · rw [e2] at g1; cases g1
      · right
        refine ⟨g1, fun u' hu' hlu'' k'' hk'' hb => ?_⟩
        obtain ⟨n', hn'⟩ := List.getElem?_of_mem hu'
        have hp' := pos_of_get hN hn'
        obtain ⟨c', h1', h2'⟩ := hnew u' n' hp'
        rw [put_tk] at hlu''
        have hlu3 : (newT σ A N (out.toks ++ out.news) u').c.live = true := hlu''
        rw [h2', upC_live] at hlu3
        rw [hτ1 hp'] at hk''
        have := hdist n n' k' k'' hlu' hlu3 hk' hk'' hb
        subst this
        rw [hn] at hn'
        exact Option.some.inj hn'
    · rw [put_S]
      exact slots_put (σ := σ1) (fun n => (h.slots n).mono hstp.sub hstp.cell hSle hτsame) (fun _ => up_RP hup hres) hd n
  refine hK _ _ C' τ'' hfin (put_defers' ..) (put_size ..) ⟨hstp.wider fun b hb => ?_, fun u k' hlu hk' => ?_, fun t => by subst hst; rw [put_S]; exact hSle t, fun t => by subst hst; rw [put_S]; exact hτsame t⟩
  · obtain ⟨t, _, h1, h2⟩ := hblk b hb
    exact ⟨t, h1, h2⟩
  · subst hst
    rw [put_tk] at hlu
    cases hp : pos (A ++ N) u with
    | none =>
      have hlu' : (newT σ A N (out.toks ++ out.news) u).c.live = true := hlu
      rw [hold u hp] at hlu'
      exact .inl ⟨hlu', k', hτ0 hp ▸ hk', rfl⟩
    | some n =>
      obtain ⟨c, h1, h2⟩ := hnew u n hp
      have hlu' : (newT σ A N (out.toks ++ out.news) u).c.live = true := hlu
      rw [h2, upC_live] at hlu'
      rw [hτ1 hp] at hk'
      rcases hplace n hlu' k' hk' with ⟨g1, k, g2, g3⟩ | g1
      · left
        rcases hctk n with ⟨t, e1, e2⟩ | ⟨_, e2⟩
        · rw [e2, dnC_live] at g1
          have : t = u := by
            have hlt := (List.getElem?_eq_some_iff.1 e1).1
            have hn := (hpos u n hp).1
            rw [List.getElem?_append_left hlt, e1] at hn
            exact Option.some.inj hn
          subst this
          exact ⟨g1, k, hτc e1 ▸ g2, g3⟩
        · rw [e2] at g1; cases g1
      · exact .inr g1
end
end Go.Absw

/- The abstract machine, its twenty-second part: one operation of a region, with its guard; what it looks at. Conditions: the check. -/
namespace Go.Absw
open Go

def PArg.rd : PArg → List Nat
  | .s n => [n]
  | .z n _ => [n]
  | _ => []
def POp.rd (po : POp) : List Nat := (match po.guard with | some (s, _) => [s] | none => []) ++ (po.args.map PArg.rd).flatten
def POp.wf (po : POp) : List Nat := match po.k with
  | .r _ => []
  | .a _ => [po.nid]
  | .az _ => [po.nid]
  | .call _ A N => A ++ N
  | _ => po.foot

/-- Is the operation wanted? -/
def gval (po : POp) (σ : St) : Option Bool := match po.guard with
  | none => some true
  | some (s, want) => match σ.sl s with
    | .f (.bool b) => some (b == want)
    | .tup [] => some false
    | _ => none
def POp.vals (G : Env) (po : POp) (σ : St) : List PV := po.args.map (·.val G σ po.foot)
/-- An operation that is no call. -/
def lstep (G : Env) (po : POp) (σ : St) : Option St := match po.k with
  | .r k => (semR σ po.foot k (po.vals G σ)).map (σ.put po.dst)
  | .a k => (semA po.nid ((σ.tk po.nid).st + 1) k (po.vals G σ)).map fun x => (σ.setT po.nid ⟨(σ.tk po.nid).st + 1, x.2⟩).put po.dst x.1
  | .st n => stepW σ po.foot n (po.vals G σ)
  | .app e sz b => (semApp σ po.foot po.nid e sz b (po.vals G σ)).map fun x => (σ.setT x.1 ⟨(σ.tk x.1).st + 1, x.2.1⟩).put po.dst x.2.2
  | .appz e sz b => (semApp σ po.foot po.nid e sz b (po.vals G σ)).bind (apz σ po.dst)
  | .az k => (semA po.nid ((σ.tk po.nid).st + 1) k (po.vals G σ)).bind (azp σ po.nid po.dst)
  | .call _ _ _ => none

inductive Lst (G : Env) (po : POp) (σ : St) : St → Prop
  | skip (h : gval po σ = some false) : Lst G po σ (σ.put po.dst (.tup []))
  | det {σ' : St} (h : gval po σ = some true) (h' : lstep G po σ = some σ') : Lst G po σ σ'
  | call {k : CK} {A N : List Nat} {f : FuncId} {as : List PV} {out : Out} {σ' : St} (h : gval po σ = some true) (hk : po.k = .call k A N)
      (hf : callee k (po.vals G σ) = some (f, as)) (hc : CT G f (callInp σ A as) out) (hs : stepCall σ A N po.dst out = some σ') : Lst G po σ σ'

def guardOk (ops : Array Oper) (o : Oper) (po : POp) : Bool := match o.guard, po.guard with
  | none, none => true
  | some (j, b), some (s, b') => b == b' && (match (ops[j]?).bind (·.dst) with | some d => d == s | none => false)
  | _, _ => false
def shapeOk (po : POp) : Bool := match po.k with
  | .r _ => true
  | .a _ => po.foot.contains po.nid
  | .st _ => po.dst.isNone
  | .app _ _ _ => po.foot.contains po.nid
  | .appz _ _ _ => po.foot.contains po.nid
  | .az _ => po.foot.contains po.nid
  | .call _ A N => decide ((A ++ N).Nodup) && (A ++ N).all po.foot.contains
def kindOk (P : Program) (o : Oper) (po : POp) : Bool := match po.k with
  | .r k => chkR P o k po.args
  | .a k => chkA P o k po.args
  | .st n => chkW P o n po.args
  | .app e sz b => chkApp P o e sz b po.args
  | .appz e sz b => chkApp P o e sz b po.args
  | .az k => chkA P o k po.args
  | .call k A N => chkCall P o k po.args
def dstOk (o : Oper) (po : POp) (n : Nat) : Bool := match o.dst, po.dst with
  | none, none => true
  | some d, some d' => d == d' && decide (d < n)
  | _, _ => false
def chkOp (P : Program) (ops : Array Oper) (n : Nat) (o : Oper) (po : POp) : Bool :=
  guardOk ops o po && shapeOk po && kindOk P o po && dstOk o po n

theorem dstOk_spec {o : Oper} {po : POp} {n : Nat} (h : dstOk o po n = true) : o.dst = po.dst ∧ ∀ d, o.dst = some d → d < n := by
  unfold dstOk at h
  split at h
  · rename_i h1 h2; exact ⟨by rw [h1, h2], fun d hd => by rw [h1] at hd; cases hd⟩
  · rename_i d d' h1 h2
    simp only [Bool.and_eq_true, beq_iff_eq, decide_eq_true_eq] at h
    obtain ⟨rfl, h⟩ := h
    exact ⟨by rw [h1, h2], fun e he => by rw [h1] at he; cases he; exact h⟩
  · cases h

section
variable {G : Env} {C : Cells} {τ : Tau} {σ : St} {a : Act} {w : World} {ops : Array Oper}

theorem guard_spec {o : Oper} {po : POp} {b : Bool} (hg : guardOk ops o po = true) (h : Core G C τ σ a.tmps w) (hv : gval po σ = some b) : Region.wanted o (yielded ops a.tmps) = b := by
  unfold guardOk at hg
  split at hg
  · rename_i h1 h2
    simp only [gval, h2, Option.some.injEq] at hv
    subst hv
    simp [Region.wanted, h1]
  · rename_i j b1 s b2 h1 h2
    simp only [Bool.and_eq_true, beq_iff_eq] at hg
    obtain ⟨rfl, hg⟩ := hg
    split at hg
    case h_2 => cases hg
    rename_i d hd
    have hds : d = s := by simpa using hg
    subst hds
    simp only [gval, h2] at hv
    have hs := h.slots d
    simp only [Region.wanted, h1, yielded, hd, Option.bind_some]
    rw [Array.getD_eq_getD_getElem?] at hs
    split at hv
    · rename_i bb hbb
      rw [hbb] at hs
      simp only [Option.some.injEq] at hv
      subst hv
      generalize hx : (a.tmps[d]?).getD undef = x at hs
      cases hs with
      | f v x hf =>
        cases hf
        cases hq : a.tmps[d]? with
        | none => rw [hq] at hx; simp [undef] at hx
        | some y => rw [hq] at hx; simp at hx; subst hx; cases bb <;> cases b1 <;> rfl
    · rename_i hbb
      rw [hbb] at hs
      simp only [Option.some.injEq] at hv
      subst hv
      generalize hx : (a.tmps[d]?).getD undef = x at hs
      cases hs with
      | tup vs xs hsz hr =>
        cases hq : a.tmps[d]? with
        | none => rfl
        | some y => rw [hq] at hx; simp at hx; subst hx; rfl
    · cases hv
  · cases hg

/-- Where the operation goes through to, as the walk of a region wants it. -/
theorem opStep {i : Nat} {o : Oper} {po : POp} (hi : ops[i]? = some o) (hc : chkOp G.P ops a.tmps.size o po = true) (h : Core G C τ σ a.tmps w) {σ' : St} (hl : Lst G po σ σ')
    {K : Act → World → Prop} {Q : Exit → Act → World → Prop}
    (hK : ∀ a' w' C' τ', Core G C' τ' σ' a'.tmps w' → a'.defers = a.defers → a'.tmps.size = a.tmps.size → Nxt τ σ C w τ' σ' C' w' → K a' w') : wpOp G.P ops Q i K a w := by
  simp only [chkOp, Bool.and_eq_true] at hc
  obtain ⟨⟨⟨h1, h2⟩, h3⟩, h4⟩ := hc
  obtain ⟨e1, e2⟩ := dstOk_spec h4
  unfold wpOp
  simp only [hi]
  cases hl with
  | skip hg =>
    rw [guard_spec h1 h hg]
    simp only [Bool.false_eq_true, if_false]
    refine hK _ _ C τ ⟨fun n => ?_, fun t => ?_, ?_, h.lt, h.glob⟩ (put_defers' ..) (put_size ..) ⟨Stp.refl _ _ _, fun t k' hl hk' => .inl ⟨by rw [put_tk] at hl; exact hl, k', hk', rfl⟩, fun t => by rw [put_S]; exact Nat.le_refl _, fun t _ => rfl⟩
    · rw [put_S, ← e1]
      exact slots_put h.slots (fun _ => .tup #[] [] rfl (fun i v x hv => by simp at hv)) e2 n
    · rw [put_S, put_tk]; exact h.toks t
    · rw [put_tk]; exact h.dist
  | det hg hs =>
    rw [guard_spec h1 h hg]
    simp only [if_true]
    left
    have key : OpOk G C τ σ σ' o a w := by
      unfold lstep at hs
      unfold kindOk at h3
      split at hs
      · rename_i k hk
        simp only [hk] at h3
        obtain ⟨q, hq, rfl⟩ := Option.map_eq_some_iff.1 hs
        rw [← e1]
        exact opR h3 h hq e2
      · rename_i k hk
        simp only [hk] at h3
        obtain ⟨q, hq, rfl⟩ := Option.map_eq_some_iff.1 hs
        rw [← e1]
        exact opA h3 h hq e2
      · rename_i n hk
        simp only [hk] at h3
        exact opW h3 h hs
      · rename_i e sz b hk
        simp only [hk] at h3
        obtain ⟨q, hq, rfl⟩ := Option.map_eq_some_iff.1 hs
        rw [← e1]
        exact opApp h3 h hq e2
      · rename_i e sz b hk
        simp only [hk] at h3
        obtain ⟨q, hq, hz⟩ := Option.bind_eq_some_iff.1 hs
        rw [← e1] at hz
        exact opAppz h3 h hq e2 hz
      · rename_i k hk
        simp only [hk] at h3
        obtain ⟨q, hq, hz⟩ := Option.bind_eq_some_iff.1 hs
        rw [← e1] at hz
        exact opAz (opA h3 h hq e2) hz
      · cases hs
    exact key K Q hK
  | call hg hk hf hct hs =>
    rw [guard_spec h1 h hg]
    simp only [if_true]
    left
    unfold kindOk at h3
    unfold shapeOk at h2
    simp only [hk, Bool.and_eq_true, decide_eq_true_eq] at h2 h3
    rw [← e1] at hs
    exact opCall h3 h hf hct h2.1 hs e2 K Q hK
end

/-! ### locality -/
structure Agree (po : POp) (σ σ₂ : St) : Prop where
  sl : ∀ n ∈ po.rd, σ.sl n = σ₂.sl n
  tk : ∀ t ∈ po.foot, σ.tk t = σ₂.tk t

section
variable {G : Env} {po : POp} {σ σ₂ σ' : St}

theorem look_congr {foot : List Nat} (h : ∀ t ∈ foot, σ.tk t = σ₂.tk t) : look σ foot = look σ₂ foot := by
  funext t s
  unfold look
  split
  · rename_i ht; rw [h t (by simpa using ht)]
  · rfl
theorem cur_congr {foot : List Nat} (h : ∀ t ∈ foot, σ.tk t = σ₂.tk t) : cur σ foot = cur σ₂ foot := by
  funext t s
  unfold cur
  cases ht : foot.contains t
  · rfl
  · rw [h t (by simpa using ht)]
theorem frzC_congr {foot : List Nat} (h : ∀ t ∈ foot, σ.tk t = σ₂.tk t) : frzC σ foot = frzC σ₂ foot := by
  funext s p
  simp only [frzC, look_congr h]
theorem frzL_congr {foot : List Nat} (h : ∀ t ∈ foot, σ.tk t = σ₂.tk t) : ∀ (s : List (Option Nat)) (p : List PV), frzL σ foot s p = frzL σ₂ foot s p
  | [], p => by simp [frzL]
  | _ :: _, [] => by simp [frzL]
  | _ :: r, _ :: q => by simp only [frzL, frzC_congr h, frzL_congr h r q]
theorem frzV_congr {foot : List Nat} (h : ∀ t ∈ foot, σ.tk t = σ₂.tk t) (s : List (Option Nat)) (p : PV) : frzV σ foot s p = frzV σ₂ foot s p := by
  cases s with
  | nil => rfl
  | cons a r => simp only [frzV, frzC_congr h, frzL_congr h]
theorem vals_congr (h : Agree po σ σ₂) : po.vals G σ = po.vals G σ₂ := by
  unfold POp.vals
  refine List.map_congr_left fun x hx => ?_
  have hr : ∀ n ∈ x.rd, σ.sl n = σ₂.sl n := fun n hn => h.sl n (by unfold POp.rd; exact List.mem_append.2 (.inr (List.mem_flatten.2 ⟨_, List.mem_map.2 ⟨x, hx, rfl⟩, hn⟩)))
  cases x <;> simp only [PArg.val]
  · exact hr _ (by simp [PArg.rd])
  · rw [hr _ (by simp [PArg.rd]), frzV_congr h.tk]
theorem gval_congr (h : Agree po σ σ₂) : gval po σ = gval po σ₂ := by
  unfold gval
  cases hg : po.guard with
  | none => rfl
  | some x =>
    obtain ⟨s, b⟩ := x
    simp only
    rw [h.sl s (by simp [POp.rd, hg])]
theorem rowOf_congr {foot : List Nat} (h : ∀ t ∈ foot, σ.tk t = σ₂.tk t) : rowOf σ foot = rowOf σ₂ foot := by
  funext p; simp only [rowOf, look_congr h]
theorem okLen_congr {foot : List Nat} (h : ∀ t ∈ foot, σ.tk t = σ₂.tk t) : okLen σ foot = okLen σ₂ foot := by
  funext p; simp only [okLen, cur_congr h]
theorem srcOf_congr {foot : List Nat} (h : ∀ t ∈ foot, σ.tk t = σ₂.tk t) : srcOf σ foot = srcOf σ₂ foot := by
  funext n p; simp only [srcOf, look_congr h]
theorem semR_congr {foot : List Nat} (h : ∀ t ∈ foot, σ.tk t = σ₂.tk t) (k : RK) (as : List PV) : semR σ foot k as = semR σ₂ foot k as := by
  unfold semR
  simp only [look_congr h, cur_congr h, rowOf_congr h, okLen_congr h]
theorem semW_congr {foot : List Nat} (h : ∀ t ∈ foot, σ.tk t = σ₂.tk t) (t i o s : Nat) (xs : List PV) : semW σ foot t i o s xs = semW σ₂ foot t i o s xs := by
  unfold semW
  simp only [look_congr h]
theorem semW_foot {foot : List Nat} {t i o s : Nat} {xs : List PV} {c : TC} (h : semW σ foot t i o s xs = some c) : t ∈ foot := by
  unfold semW look at h
  by_cases ht : foot.contains t = true
  · simpa using ht
  · rw [if_neg ht] at h; cases h
theorem semApp_congr {foot : List Nat} (h : ∀ t ∈ foot, σ.tk t = σ₂.tk t) {nid : Nat} (hn : nid ∈ foot) (e sz b : Nat) (as : List PV) : semApp σ foot nid e sz b as = semApp σ₂ foot nid e sz b as := by
  unfold semApp
  simp only [look_congr h, srcOf_congr h, h nid hn]
  split
  · rfl
  · rename_i t n s x
    cases hl : look σ₂ foot t s with
    | row e' sz' l u xs =>
      have ht : t ∈ foot := by
        unfold look at hl
        by_cases ht : foot.contains t = true
        · simpa using ht
        · rw [if_neg ht] at hl; cases hl
      simp only [h t ht]
    | _ => rfl
  · rfl
theorem semApp_foot {foot : List Nat} {nid : Nat} (hn : nid ∈ foot) {e sz b : Nat} {as : List PV} {t : Nat} {c : TC} {p : PV} (h : semApp σ foot nid e sz b as = some (t, c, p)) : t ∈ foot := by
  unfold semApp at h
  split at h
  · split at h
    · split at h
      · simp only [Option.some.injEq, Prod.mk.injEq] at h; exact h.1 ▸ hn
      · cases h
    · cases h
  · rename_i t' n s x
    split at h
    · rename_i hl
      have ht : t' ∈ foot := by
        unfold look at hl
        by_cases ht : foot.contains t' = true
        · simpa using ht
        · rw [if_neg ht] at hl; cases hl
      split at h
      · split at h
        · simp only [Option.some.injEq, Prod.mk.injEq] at h; exact h.1 ▸ ht
        · cases h
      · cases h
    · cases h
  · cases h
end
end Go.Absw

/- The abstract machine, its twenty-third part: an operation changes its own places alone, and that by what stands in its own places. Conditions: its shape. -/
namespace Go.Absw
open Go

section
variable {G : Env} {po : POp} {σ σ₂ σ' : St}

theorem put_sl (σ : St) (d : Option Nat) (p : PV) (n : Nat) : (σ.put d p).sl n = if d = some n then p else σ.sl n := by
  cases d with
  | none => simp [St.put]
  | some d =>
    simp only [St.put, Option.some.injEq]
    by_cases h : n = d
    · rw [if_pos h, if_pos h.symm]
    · rw [if_neg h, if_neg (fun e => h e.symm)]
theorem setT_sl (σ : St) (t : Nat) (x : Tok) : (σ.setT t x).sl = σ.sl := rfl
theorem setT_tk (σ : St) (t u : Nat) (x : Tok) : (σ.setT t x).tk u = if u = t then x else σ.tk u := rfl

theorem newT_other {A N : List Nat} {toks : List Tok} {u : Nat} (h : u ∉ A ++ N) : newT σ A N toks u = σ.tk u := by
  unfold newT
  cases hp : pos (A ++ N) u with
  | none => rfl
  | some n => exact absurd (List.mem_of_getElem? (pos_some hp)) h

theorem apz_out2 {σ σ₂ σ' : St} {d : Option Nat} {t : Nat} {c : TC} {p : PV} (h : apz σ d (t, c, p) = some σ') : ∃ d' sz xs, d = some d' ∧ σ' = (σ.setT t ⟨(σ.tk t).st + 1, .gone⟩).put (some d') (.f (.sl sz xs)) ∧
    apz σ₂ d (t, c, p) = some ((σ₂.setT t ⟨(σ₂.tk t).st + 1, .gone⟩).put (some d') (.f (.sl sz xs))) := by
  cases d with
  | none => cases c <;> cases h
  | some d =>
    cases c with
    | row e sz l u xs =>
      simp only [apz, Option.some.injEq] at h
      exact ⟨d, sz, xs, rfl, h.symm, rfl⟩
    | gone => cases h
    | box ty fz cs => cases h
theorem apz_out {σ σ' : St} {d : Option Nat} {t : Nat} {c : TC} {p : PV} (h : apz σ d (t, c, p) = some σ') : ∃ d' sz xs, d = some d' ∧ σ' = (σ.setT t ⟨(σ.tk t).st + 1, .gone⟩).put (some d') (.f (.sl sz xs)) := by
  obtain ⟨d', sz, xs, h1, h2, _⟩ := apz_out2 (σ₂ := σ) h
  exact ⟨d', sz, xs, h1, h2⟩

theorem azp_out2 {σ σ₂ σ' : St} {nid : Nat} {d : Option Nat} {q : PV × TC} (h : azp σ nid d q = some σ') (hn : σ.tk nid = σ₂.tk nid) : ∃ d' sz xs, d = some d' ∧ σ' = (σ.setT nid ⟨(σ.tk nid).st + 1, .gone⟩).put (some d') (.f (.sl sz xs)) ∧
    azp σ₂ nid d q = some ((σ₂.setT nid ⟨(σ₂.tk nid).st + 1, .gone⟩).put (some d') (.f (.sl sz xs))) := by
  obtain ⟨p, c⟩ := q
  unfold azp at h
  split at h
  case h_2 => cases h
  rename_i t off n s e sz l u xs d h1 h2
  simp only at h1 h2
  subst h1 h2
  split at h
  case isFalse => cases h
  rename_i hh
  simp only [Option.some.injEq] at h
  refine ⟨d, sz, xs, rfl, h.symm, ?_⟩
  unfold azp
  simp only
  rw [if_pos (by rw [← hn]; exact hh)]

/-- What is not the operation's own stays. -/
theorem Lst.frame (hs : shapeOk po = true) (hl : Lst G po σ σ') : (∀ n, po.dst ≠ some n → σ'.sl n = σ.sl n) ∧ (∀ t, t ∉ po.wf → σ'.tk t = σ.tk t) := by
  cases hl with
  | skip hg => exact ⟨fun n hn => by rw [put_sl, if_neg hn], fun t ht => by rw [put_tk]⟩
  | det hg h =>
    unfold lstep at h
    unfold shapeOk at hs
    split at h
    · obtain ⟨q, _, rfl⟩ := Option.map_eq_some_iff.1 h
      exact ⟨fun n hn => by rw [put_sl, if_neg hn], fun t ht => by rw [put_tk]⟩
    · rename_i k hk
      obtain ⟨q, _, rfl⟩ := Option.map_eq_some_iff.1 h
      refine ⟨fun n hn => by rw [put_sl, if_neg hn]; rfl, fun t ht => ?_⟩
      simp only [POp.wf, hk, List.mem_singleton] at ht
      rw [put_tk, setT_tk, if_neg ht]
    · rename_i n hk
      unfold stepW at h
      split at h
      case h_2 => cases h
      split at h
      case h_2 => cases h
      split at h
      case isFalse => cases h
      obtain ⟨c, hc, rfl⟩ := Option.map_eq_some_iff.1 h
      have := semW_foot hc
      refine ⟨fun n _ => rfl, fun u hu => ?_⟩
      simp only [POp.wf, hk] at hu
      rw [setT_tk, if_neg (by rintro rfl; exact hu this)]
    · rename_i e sz b hk
      simp only [hk] at hs
      obtain ⟨q, hq, rfl⟩ := Option.map_eq_some_iff.1 h
      obtain ⟨t, c, p⟩ := q
      have := semApp_foot (by simpa using hs) hq
      refine ⟨fun n hn => by rw [put_sl, if_neg hn]; rfl, fun u hu => ?_⟩
      simp only [POp.wf, hk] at hu
      rw [put_tk, setT_tk, if_neg (by rintro rfl; exact hu this)]
    · rename_i e sz b hk
      simp only [hk] at hs
      obtain ⟨q, hq, hz⟩ := Option.bind_eq_some_iff.1 h
      obtain ⟨t, c, p⟩ := q
      have := semApp_foot (by simpa using hs) hq
      obtain ⟨d, sz', xs, hd, rfl⟩ := apz_out hz
      refine ⟨fun n hn => ?_, fun u hu => ?_⟩
      · rw [hd] at hn
        rw [put_sl, if_neg hn]; rfl
      · simp only [POp.wf, hk] at hu
        rw [put_tk, setT_tk, if_neg (by rintro rfl; exact hu this)]
    · rename_i k hk
      obtain ⟨q, hq, hz⟩ := Option.bind_eq_some_iff.1 h
      obtain ⟨d, sz', xs, hd, rfl, _⟩ := azp_out2 (σ₂ := σ) hz rfl
      refine ⟨fun n hn => ?_, fun u hu => ?_⟩
      · rw [hd] at hn
        rw [put_sl, if_neg hn]; rfl
      · simp only [POp.wf, hk, List.mem_singleton] at hu
        rw [put_tk, setT_tk, if_neg hu]
    · cases h
  | call hg hk hf hc h =>
    unfold stepCall at h
    split at h
    case isFalse => cases h
    simp only [Option.some.injEq] at h
    subst h
    refine ⟨fun n hn => by rw [put_sl, if_neg hn], fun t ht => ?_⟩
    simp only [POp.wf, hk] at ht
    rw [put_tk]
    exact newT_other ht

/-- The same operation from a state that is alike in what it looks at. -/
theorem Lst.loc (hs : shapeOk po = true) (hl : Lst G po σ σ') (ha : Agree po σ σ₂) :
    Lst G po σ₂ ⟨fun n => if po.dst = some n then σ'.sl n else σ₂.sl n, fun t => if po.wf.contains t then σ'.tk t else σ₂.tk t⟩ := by
  have hv := vals_congr (G := G) ha
  have hgv := gval_congr ha
  -- a state of the right kind is the one wanted
  have fin : ∀ σ₂' : St, Lst G po σ₂ σ₂' → (∀ n, po.dst = some n → σ₂'.sl n = σ'.sl n) → (∀ t ∈ po.wf, σ₂'.tk t = σ'.tk t) →
      Lst G po σ₂ ⟨fun n => if po.dst = some n then σ'.sl n else σ₂.sl n, fun t => if po.wf.contains t then σ'.tk t else σ₂.tk t⟩ := by
    intro σ₂' h2 h3 h4
    obtain ⟨f1, f2⟩ := h2.frame hs
    have : (⟨fun n => if po.dst = some n then σ'.sl n else σ₂.sl n, fun t => if po.wf.contains t then σ'.tk t else σ₂.tk t⟩ : St) = σ₂' := by
      cases σ₂' with
      | mk sl tk =>
        congr 1
        · funext n
          by_cases hn : po.dst = some n
          · rw [if_pos hn]; exact (h3 n hn).symm
          · rw [if_neg hn]; exact (f1 n hn).symm
        · funext t
          by_cases ht : po.wf.contains t = true
          · rw [if_pos ht]; exact (h4 t (by simpa using ht)).symm
          · rw [if_neg ht]; exact (f2 t (by simpa using ht)).symm
    rw [this]; exact h2
  cases hl with
  | skip hg =>
    refine fin _ (.skip (hgv ▸ hg)) (fun n hn => by rw [put_sl, put_sl, if_pos hn, if_pos hn]) (fun t ht => ?_)
    rw [put_tk, put_tk]
    unfold POp.wf at ht
    unfold shapeOk at hs
    have : t ∈ po.foot := by
      split at ht
      · simp at ht
      · rename_i hk; simp only [hk] at hs; simp only [List.mem_singleton] at ht; subst ht; simpa using hs
      · rename_i hk; simp only [hk] at hs; simp only [List.mem_singleton] at ht; subst ht; simpa using hs
      · rename_i hk
        simp only [hk, Bool.and_eq_true, List.all_eq_true] at hs
        simpa using hs.2 t ht
      · exact ht
    exact (ha.tk t this).symm
  | det hg h =>
    have hlst : ∀ σ₂', lstep G po σ₂ = some σ₂' → Lst G po σ₂ σ₂' := fun σ₂' h => .det (hgv ▸ hg) h
    unfold lstep at h hlst
    unfold shapeOk at hs
    split at h
    · rename_i k hk
      obtain ⟨q, hq, rfl⟩ := Option.map_eq_some_iff.1 h
      rw [semR_congr ha.tk, hv] at hq
      simp only [hk, hq, Option.map_some] at hlst
      exact fin _ (hlst _ rfl) (fun n hn => by rw [put_sl, put_sl, if_pos hn, if_pos hn]) (fun t ht => by simp [POp.wf, hk] at ht)
    · rename_i k hk
      simp only [hk] at hs
      obtain ⟨q, hq, rfl⟩ := Option.map_eq_some_iff.1 h
      have hn := ha.tk po.nid (by simpa using hs)
      rw [hv, hn] at hq
      simp only [hk, hq, Option.map_some] at hlst
      refine fin _ (hlst _ rfl) (fun n hn => by rw [put_sl, put_sl, if_pos hn, if_pos hn]) (fun t ht => ?_)
      simp only [POp.wf, hk, List.mem_singleton] at ht
      subst ht
      rw [put_tk, put_tk, setT_tk, setT_tk, if_pos rfl, if_pos rfl, hn]
    · rename_i n hk
      simp only [hk, ← hv] at hlst
      unfold stepW at h hlst
      split at h
      case h_2 => cases h
      rename_i t i o s v hvals
      simp only [hvals] at hlst
      split at h
      case h_2 => cases h
      rename_i xs hxs
      simp only [hxs] at hlst
      split at h
      case isFalse => cases h
      rename_i hlen
      obtain ⟨c, hc, rfl⟩ := Option.map_eq_some_iff.1 h
      have hft := semW_foot hc
      rw [semW_congr ha.tk] at hc
      rw [if_pos hlen, hc, Option.map_some] at hlst
      refine fin _ (hlst _ rfl) (fun n hn => ?_) (fun u hu => ?_)
      · rw [setT_sl, setT_sl]
        simp only [hk] at hs
        rw [hn] at hs
        cases hs
      · rw [setT_tk, setT_tk]
        by_cases e : u = t
        · rw [if_pos e, if_pos e, ha.tk t hft]
        · rw [if_neg e, if_neg e]
          simp only [POp.wf, hk] at hu
          exact (ha.tk u hu).symm
    · rename_i e sz b hk
      simp only [hk] at hs
      obtain ⟨q, hq, rfl⟩ := Option.map_eq_some_iff.1 h
      obtain ⟨t, c, p⟩ := q
      have hnid : po.nid ∈ po.foot := by simpa using hs
      have hft := semApp_foot hnid hq
      rw [semApp_congr ha.tk hnid, hv] at hq
      simp only [hk, hq, Option.map_some] at hlst
      refine fin _ (hlst _ rfl) (fun n hn => by rw [put_sl, put_sl, if_pos hn, if_pos hn]) (fun u hu => ?_)
      rw [put_tk, put_tk, setT_tk, setT_tk]
      by_cases e : u = t
      · rw [if_pos e, if_pos e, ha.tk t hft]
      · rw [if_neg e, if_neg e]
        simp only [POp.wf, hk] at hu
        exact (ha.tk u hu).symm
    · rename_i e sz b hk
      simp only [hk] at hs
      obtain ⟨q, hq, hz⟩ := Option.bind_eq_some_iff.1 h
      obtain ⟨t, c, p⟩ := q
      have hnid : po.nid ∈ po.foot := by simpa using hs
      have hft := semApp_foot hnid hq
      rw [semApp_congr ha.tk hnid, hv] at hq
      simp only [hk, hq, Option.bind_some] at hlst
      obtain ⟨d, sz', xs, hd, rfl, hz2⟩ := apz_out2 hz (σ₂ := σ₂)
      refine fin _ (hlst _ hz2) (fun n hn => ?_) (fun u hu => ?_)
      · rw [hd] at hn
        rw [put_sl, put_sl, if_pos hn, if_pos hn]
      · rw [put_tk, put_tk, setT_tk, setT_tk]
        by_cases e : u = t
        · rw [if_pos e, if_pos e, ha.tk t hft]
        · rw [if_neg e, if_neg e]
          simp only [POp.wf, hk] at hu
          exact (ha.tk u hu).symm
    · rename_i k hk
      simp only [hk] at hs
      obtain ⟨q, hq, hz⟩ := Option.bind_eq_some_iff.1 h
      have hn := ha.tk po.nid (by simpa using hs)
      rw [hv, hn] at hq
      simp only [hk, hq, Option.bind_some] at hlst
      obtain ⟨d, sz', xs, hd, rfl, hz2⟩ := azp_out2 (σ₂ := σ₂) hz hn
      refine fin _ (hlst _ hz2) (fun n hn => ?_) (fun u hu => ?_)
      · rw [hd] at hn
        rw [put_sl, put_sl, if_pos hn, if_pos hn]
      · simp only [POp.wf, hk, List.mem_singleton] at hu
        subst hu
        rw [put_tk, put_tk, setT_tk, setT_tk, if_pos rfl, if_pos rfl, hn]
    · cases h
  | @call k A N f as out σ' hg hk hf hc h =>
    unfold shapeOk at hs
    simp only [hk, Bool.and_eq_true, List.all_eq_true, decide_eq_true_eq] at hs
    obtain ⟨hnd, hsub⟩ := hs
    have hA : ∀ t ∈ A ++ N, σ.tk t = σ₂.tk t := fun t ht => ha.tk t (by simpa using hsub t ht)
    have hm : mDn σ A = mDn σ₂ A := by
      funext t
      unfold mDn
      cases hp : pos A t with
      | none => rfl
      | some n => rw [hA t (List.mem_append.2 (.inl (List.mem_of_getElem? (pos_some hp))))]
    have hci : callInp σ A as = callInp σ₂ A as := by
      unfold callInp
      rw [hm]
      congr 1
      exact List.map_congr_left fun t ht => by rw [hA t (List.mem_append.2 (.inl ht))]
    have hmu : mUp σ A N = mUp σ₂ A N := by
      funext t
      unfold mUp
      cases hp : A[t]? with
      | some u => simp only [hA u (List.mem_append.2 (.inl (List.mem_of_getElem? hp)))]
      | none =>
        simp only
        cases hq : N[t - A.length]? with
        | none => rfl
        | some u => simp only [Option.map_some, hA u (List.mem_append.2 (.inr (List.mem_of_getElem? hq)))]
    have hnt : ∀ u ∈ A ++ N, newT σ A N (out.toks ++ out.news) u = newT σ₂ A N (out.toks ++ out.news) u := by
      intro u hu
      unfold newT
      rw [hmu, hA u hu]
    unfold stepCall at h
    split at h
    case isFalse => cases h
    rename_i hlen
    simp only [Option.some.injEq] at h
    subst h
    refine fin _ (.call (hgv ▸ hg) hk (hv ▸ hf) (hci ▸ hc) (by unfold stepCall; rw [if_pos hlen])) (fun n hn => by rw [put_sl, put_sl, if_pos hn, if_pos hn, hmu]) (fun t ht => ?_)
    simp only [POp.wf, hk] at ht
    rw [put_tk, put_tk]
    exact (hnt t ht).symm
end
end Go.Absw
