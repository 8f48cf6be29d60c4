/- Contracts of Parse and of the laws' helpers. Conditions: told at each. -/
import Derived.Test.YtpkhdnaeaeiidaaDoorXc
import Derived.Test.YtpkhdnaeaeiidaaDoorTc
import Derived.Lib.OthersKept
import Derived.WalkKit
import Derived.BigCall
import Derived.KernelRfl
set_option linter.unusedSimpArgs false
set_option linter.unusedVariables false

/- strings.indexFunc at a string of ASCII with the closure that vm.number hands it, and its contract; contracts out of calls in the model. -/
namespace Go.Absw
open Go Go.Proofs Go.RowKit
set_option maxRecDepth 100000

def ndIdx : List UInt8 → Nat → Int
  | [], _ => -1
  | b :: r, i => if b.toNat < 48 ∨ 57 < b.toNat then (i : Int) else ndIdx r (i + 1)

theorem call76 (r : Int) (w : World) : Calls Tryd.prog 76 #[.int .i32 r] w fun e w' => e = .returned (.bool (decide (r < 48) || decide (57 < r))) ∧ Below w.heap.size w w' := by
  by_cases h1 : r < 48
  · go_enter Tryd.func76, Tryd.ntmps76
    go_wp2
    go_ret
    exact ⟨by simp [h1], Below.refl _ _⟩
  · by_cases h2 : 57 < r
    · go_enter Tryd.func76, Tryd.ntmps76
      go_wp2
      go_ret
      exact ⟨by simp [h1, h2], Below.refl _ _⟩
    · go_enter Tryd.func76, Tryd.ntmps76
      go_wp2
      go_ret
      exact ⟨by simp [h1, h2], Below.refl _ _⟩

set_option maxHeartbeats 4000000 in
theorem call90a (S : ByteArray) (s : List UInt8) (hsz : S.size = s.length) (hat : ∀ i (h : i < S.size), S[i]'h = s[i]'(by omega)) (has : ∀ b ∈ s, b.toNat < 128) (w : World) :
    Calls Tryd.prog 90 #[.string S, .func (.func 76) #[] #[], .bool true] w fun e w' => e = .returned (.int .i64 (ndIdx s 0)) ∧ Below w.heap.size w w' := by
  go_enter Tryd.func90, Tryd.ntmps90
  go_wp2
  go_loopw [] (fun wx => ∃ pos : Nat, pos ≤ S.size ∧ wx.heap[w.heap.size]? = some (.stringIter S pos) ∧ Below w.heap.size w wx ∧ ndIdx (s.drop pos) pos = ndIdx s 0)
    (fun wr => S.size - wr.iterPos w.heap.size)
  case atStart => exact ⟨0, Nat.zero_le _, World.iter_heap w S 0, (Below.refl _ w).alloc (Nat.le_refl _) _, rfl⟩
  case round =>
    obtain ⟨pos, hps, hit, hbw, hix⟩ := hrel
    have hmu : wr.iterPos w.heap.size = pos := by simp [World.iterPos, hit]
    by_cases hp : pos < S.size
    · have hpl : pos < s.length := by omega
      have hb := has s[pos] (List.getElem_mem hpl)
      have hnx : ∀ ty, (Instr.next (.pointer (some ⟨w.heap.size, 0, none⟩)) true ty).run Tryd.prog wr = _ := fun ty => Lib.run_next_ascii_at wr w.heap.size S pos ty hit hp (by rw [hat pos hp]; exact hb)
      rw [hat pos hp] at hnx
      have hit2 := Lib.iterAt_heap wr w.heap.size S pos (pos + 1) hit
      have hbw2 := Lib.below_iterAt hbw (k := w.heap.size) (Nat.le_refl _) S (pos + 1)
      obtain ⟨W, hWd⟩ : ∃ W, wr.iterAt w.heap.size S (pos + 1) = W := ⟨_, rfl⟩
      rw [hWd] at hnx hit2 hbw2
      rw [List.drop_eq_getElem_cons hpl, ndIdx] at hix
      have cS := call76 (s[pos].toNat : Int) W
      have hWs : w.heap.size ≤ W.heap.size := hbw2.size
      obtain ⟨n, hn⟩ : ∃ n, s[pos].toNat = n := ⟨_, rfl⟩
      rw [hn] at hix cS hnx
      clear has hat
      by_cases hd : n < 48 ∨ 57 < n
      · have hd' : (decide ((n : Int) < 48) || decide (57 < (n : Int))) = true := by simp; omega
        rw [hd'] at cS
        rw [if_pos hd] at hix
        go_wp2_with (go_at_call 76; refine cS.mono ?_; rintro e W' ⟨rfl, hb2⟩)
        go_ret
        exact ⟨by rw [← hix] <;> rfl, hbw2.trans (hb2.mono hWs)⟩
      · have hd' : (decide ((n : Int) < 48) || decide (57 < (n : Int))) = false := by simp; omega
        rw [hd'] at cS
        rw [if_neg hd] at hix
        go_wp2_with (go_at_call 76; refine cS.mono ?_; rintro e W' ⟨rfl, hb2⟩)
        have hit3 : W'.heap[w.heap.size]? = _ := (hb2.block _ (by have := Array.getElem?_eq_some_iff.1 hit2; exact this.1)).trans hit2
        go_roundw
        case rel => exact ⟨pos + 1, by omega, hit3, hbw2.trans (hb2.mono hWs), hix⟩
        case measure =>
          have : W'.iterPos w.heap.size = pos + 1 := by simp [World.iterPos, hit3]
          rw [hmu, this]; omega
    · have hnx : ∀ ty, (Instr.next (.pointer (some ⟨w.heap.size, 0, none⟩)) true ty).run Tryd.prog wr = _ := fun ty => Lib.run_next_end_at wr w.heap.size S pos ty hit hp
      rw [List.drop_eq_nil_of_le (by omega), ndIdx] at hix
      go_wp2
      go_ret
      exact ⟨by rw [← hix] <;> rfl, hbw⟩

theorem call90 (s : List UInt8) (has : ∀ b ∈ s, b.toNat < 128) (w : World) :
    Calls Tryd.prog 90 #[.string ⟨s.toArray⟩, .func (.func 76) #[] #[], .bool true] w fun e w' => e = .returned (.int .i64 (ndIdx s 0)) ∧ Below w.heap.size w w' :=
  call90a ⟨s.toArray⟩ s rfl (fun i h => rfl) has w

theorem ct_of_calls {G : Env} {f : FuncId} {args : List PV} {res : PV} (hok : okF G.P f = true)
    (h : ∀ (w : World) (C : Cells) (τ : Tau) (vs : Array Value), vs.size = args.length → (∀ (n : Nat) v p, vs[n]? = some v → args[n]? = some p → RP C (fun _ => 0) τ w v p) →
      Calls G.P f vs w fun e w' => ∃ v, e = .returned v ∧ (∀ C' S' τ' w', RP C' S' τ' w' v res) ∧ Below w.heap.size w w') : CT G f ⟨args, []⟩ ⟨res, [], []⟩ := by
  have gone : ∀ t, (otk (⟨res, [], []⟩ : Out) t).c = .gone := fun t => by simp [otk]
  refine ⟨hok, fun w C τ vs hvs hargs htoks hdist hlt hglob => ?_⟩
  refine (h w C τ vs hvs hargs).mono ?_
  rintro e w' ⟨v, rfl, hr, hb⟩
  refine ⟨v, C, τ, rfl, hr _ _ _ _, fun t => ?_, fun t t' k k' hl => ?_, fun t ht => absurd ht (by simp), fun t hl => ?_, ?_, fun b o hc => Nat.lt_of_lt_of_le (hlt b o hc) hb.size⟩
  · rw [gone]; trivial
  · rw [gone] at hl; cases hl
  · rw [gone] at hl; cases hl
  · exact ⟨hb.os, hb.tape, hb.output, hb.size, fun b hbk _ => hb.block b hbk, fun _ _ h => h, fun _ _ h => .inl h, fun b o hc => World.cell?_of_block (w := w) (hb.block b (hlt b o hc))⟩

theorem str_arg {C : Cells} {S : Nat → Nat} {τ : Tau} {w : World} {v : Value} {s : List UInt8} (h : RP C S τ w v (.f (.str s))) : v = .string ⟨s.toArray⟩ := by
  cases h with | f _ _ h => cases h; rfl

theorem fn_arg {C : Cells} {S : Nat → Nat} {τ : Tau} {w : World} {v : Value} {f : Fn} (h : RP C S τ w v (.f (.fn f))) : v = .func f #[] #[] := by
  cases h with | f _ _ h => cases h; rfl
theorem bool_arg {C : Cells} {S : Nat → Nat} {τ : Tau} {w : World} {v : Value} {b : Bool} (h : RP C S τ w v (.f (.bool b))) : v = .bool b := by
  cases h with | f _ _ h => cases h; rfl

theorem indexFunc_str_ct {G : Env} (hP : G.P = Tryd.prog) (s : List UInt8) (has : ∀ b ∈ s, b.toNat < 128) :
    CT G 90 ⟨[.f (.str s), .f (.fn (.func 76)), .f (.bool true)], []⟩ ⟨.f (.int .i64 (ndIdx s 0)), [], []⟩ := by
  refine ct_of_calls (by rw [hP]; kernel_rfl) fun w C τ vs hs ha => ?_
  have e : vs = #[.string ⟨s.toArray⟩, .func (.func 76) #[] #[], .bool true] := by
    have h3 : vs.size = 3 := hs
    have e0 := str_arg (ha 0 vs[0] _ (by simp) rfl)
    have e1 : vs[1] = .func (.func 76) #[] #[] := fn_arg (ha 1 vs[1] _ (by simp) rfl)
    have e2 : vs[2] = .bool true := bool_arg (ha 2 vs[2] _ (by simp) rfl)
    apply Array.ext
    · simp [h3]
    · intro i h1 h2
      match i, h2 with
      | 0, _ => exact e0
      | 1, _ => exact e1
      | 2, _ => exact e2
  subst e
  rw [hP]
  refine (call90 s has w).mono ?_
  rintro e w' ⟨rfl, hb⟩
  exact ⟨_, rfl, fun _ _ _ _ => .f _ _ (.int _ _), hb⟩

theorem ndIdx_neg : ∀ (s : List UInt8) (i : Nat), ndIdx s i < 0 ↔ s.all (fun b => 48 ≤ b.toNat && b.toNat ≤ 57) = true
  | [], i => by simp [ndIdx]
  | b :: r, i => by
    rw [ndIdx, List.all_cons]
    by_cases h : b.toNat < 48 ∨ 57 < b.toNat
    · rw [if_pos h]
      constructor
      · intro h'; omega
      · intro h'; simp at h'; omega
    · rw [if_neg h, ndIdx_neg r]
      have : (decide (48 ≤ b.toNat) && decide (b.toNat ≤ 57)) = true := by simp; omega
      rw [this, Bool.true_and]
end Go.Absw

/- Contracts of vm.token, of the string functions that vm.number calls, and of vm.number. -/
namespace Go.Absw
open Go Go.Proofs
set_option maxRecDepth 100000

def blank (b : UInt8) : Bool := decide (b.toNat = 32) || decide (b.toNat = 10)
def ink (b : UInt8) : Bool := decide (33 ≤ b.toNat) && decide (b.toNat ≤ 126)
def tokA (s : List UInt8) (a : Nat) : Nat := a + ((s.drop a).takeWhile blank).length
def tokW (s : List UInt8) (a : Nat) : List UInt8 := (s.drop a).takeWhile ink

theorem drop_cons (s : List UInt8) (i : Nat) (h : i < s.length) : s.drop i = s[i] :: s.drop (i + 1) := List.drop_eq_getElem_cons h
theorem take_tw (p : UInt8 → Bool) (l : List UInt8) : l.take (l.takeWhile p).length = l.takeWhile p := (List.prefix_iff_eq_take.1 (List.takeWhile_prefix p)).symm
theorem tw_le (p : UInt8 → Bool) (l : List UInt8) : (l.takeWhile p).length ≤ l.length := (List.takeWhile_prefix p).length_le

theorem tokA_le (s : List UInt8) (a : Nat) (h : a ≤ s.length) : tokA s a ≤ s.length := by
  have := tw_le blank (s.drop a)
  rw [List.length_drop] at this
  unfold tokA; omega
theorem tokA_ge (s : List UInt8) (a : Nat) : a ≤ tokA s a := by unfold tokA; omega
theorem tokW_le (s : List UInt8) (a : Nat) (h : a ≤ s.length) : a + (tokW s a).length ≤ s.length := by
  have := tw_le ink (s.drop a)
  rw [List.length_drop] at this
  unfold tokW; omega
theorem tokW_ink (s : List UInt8) (a : Nat) : ∀ b ∈ tokW s a, 33 ≤ b.toNat ∧ b.toNat ≤ 126 := by
  intro b hb
  have := List.all_takeWhile (l := s.drop a) (p := ink)
  have := List.all_eq_true.1 this b hb
  simp [ink] at this; exact this

theorem nthN {α : Type} (l : List α) (i : Nat) (h : i < l.length) : nth l (i : Int) = some l[i] := by simp [nth, h]

theorem token_ct {G : Env} (hP : G.P = Tryd.prog) (s : List UInt8) (hs : s.length < 1000000000) (a : Nat) (ha : a ≤ s.length) :
    CT G 59 ⟨[.f (.str s), .f (.int .i64 a)], []⟩ ⟨.tup [.f (.int .i64 (tokA s a)), .f (.str (tokW s (tokA s a)))], [], []⟩ := by
  refine ct_of_body (N := []) (pc := f59pc) (rs := f59rs) (by rw [hP]; exact f59ok) ?_
  rw [entry_mk]
  have tail : ∀ (l : List (Nat × PV)) (b : List (Nat × Tok)), lkS l 0 = .f (.str s) → lkS l 1 = .f (.int .i64 (tokA s a)) →
      pwp G (.seq (.region f59r3 []) (.seq (.block 2 (.loop f59l1)) (.seq (.region f59r6 [[], [], [], [], [1, 2, 3], [0], [0, 1, 2, 3, 4, 5]]) (.ret)))) (retQ 0 [] f59rs (· = ⟨.tup [.f (.int .i64 (tokA s a)), .f (.str (tokW s (tokA s a)))], [], []⟩)) (mkSt l b) := by
    intro l b h0 h1
    have hA := tokA_le s a ha
    have hWl := tokW_le s (tokA s a) hA
    have hfin : ∀ (l : List (Nat × PV)) (b : List (Nat × Tok)), lkS l 0 = .f (.str s) → lkS l 1 = .f (.int .i64 (tokA s a)) → lkS l 6 = .f (.int .i64 ((tokA s a + (tokW s (tokA s a)).length : Nat) : Int)) →
        pwp G (.seq (.region f59r6 [[], [], [], [], [1, 2, 3], [0], [0, 1, 2, 3, 4, 5]]) (.ret)) (retQ 0 [] f59rs (· = ⟨.tup [.f (.int .i64 (tokA s a)), .f (.str (tokW s (tokA s a)))], [], []⟩)) (mkSt l b) := by
      intro l b h0 h1 h6
      have hW : List.take (tokW s (tokA s a)).length (List.drop (tokA s a) s) = tokW s (tokA s a) := take_tw ink _
      generalize tokW s (tokA s a) = W at *
      generalize tokA s a = A at *
      have u1 : (A : Int) ≤ A + W.length := by omega
      have u2 : ((A : Int) + W.length) ≤ s.length := by omega
      have u3 : (0 : Int) ≤ A + W.length := by omega
      have u4 : ((A : Int) + W.length).toNat - A = W.length := by omega
      simp [f59r6, retQ, outSt, f59rs, rvals, RArg.val, resPV, h0, h1, h6, bnds, u1, u2, u3, u4, hW]
    generalize tokA s a = A at *
    simp [f59r3, h0, h1]
    unfold f59l1
    refine pwp_loop (α := Nat) (fun i => mkSt [(0, .f (.str s)), (1, .f (.int .i64 A)), (6, .f (.int .i64 i))] []) (fun i => i ≤ s.length ∧ i + (tokW s i).length = A + (tokW s A).length) (fun i => s.length - i) A ⟨hA, rfl⟩ (by simp [keepSt, h0, h1]) ?_
    rintro i ⟨hi, hix⟩
    by_cases hlt : i < s.length
    · have hlt' : (i : Int) < s.length := by omega
      have hd := drop_cons s i hlt
      have hn := nthN s i hlt
      by_cases hb : ink s[i] = true
      · have hix' : i + 1 + (tokW s (i + 1)).length = A + (tokW s A).length := by
          rw [← hix]; unfold tokW; rw [hd, List.takeWhile_cons, if_pos hb, List.length_cons]; omega
        have w1 : IntKind.i64.wrap ((i : Int) + 1) = (i : Int) + 1 := w64 (by omega)
        simp only [ink, Bool.and_eq_true, decide_eq_true_eq] at hb
        have c1 : (33 : Int) ≤ s[i].toNat := by omega
        have c2 : (s[i].toNat : Int) ≤ 126 := by omega
        have c3 : ((s[i].toNat : Int) ≥ 33) = True := by simp; omega
        generalize s[i] = bb at *
        simp [f59r4, binF, binI, hlt', hlt, hn, c1, c2, c3]
        simp [f59r5, binF, binI, w1, keepSt]
        exact ⟨i + 1, ⟨by omega, hix'⟩, by omega, rfl⟩
      · have hix' : i = A + (tokW s A).length := by
          rw [← hix]; unfold tokW; rw [hd, List.takeWhile_cons, if_neg hb]; simp
        simp only [ink, Bool.and_eq_true, decide_eq_true_eq] at hb
        generalize s[i] = bb at *
        by_cases c : 33 ≤ bb.toNat
        · have c1 : (33 : Int) ≤ bb.toNat := by omega
          have c2 : ¬ (bb.toNat : Int) ≤ 126 := by omega
          simp [f59r4, binF, binI, hlt', hlt, hn, c1, c2, c, show ¬ bb.toNat ≤ 126 by omega]
          exact hfin _ _ rfl rfl (by rw [← hix']; rfl)
        · have c1 : ¬ (33 : Int) ≤ bb.toNat := by omega
          simp [f59r4, binF, binI, hlt', hlt, hn, c1, c]
          exact hfin _ _ rfl rfl (by rw [← hix']; rfl)
    · have hlt' : ¬ (i : Int) < s.length := by omega
      have hi2 : i = s.length := by omega
      have hix' : i = A + (tokW s A).length := by
        rw [← hix]; unfold tokW; rw [List.drop_eq_nil_of_le (by omega)]; simp
      simp [f59r4, binF, binI, hlt', hlt]
      exact hfin _ _ rfl rfl (by rw [← hix']; rfl)
  simp [f59pc, f59r0]
  unfold f59l0
  refine pwp_loop (α := Nat) (fun i => mkSt [(0, .f (.str s)), (1, .f (.int .i64 i))] []) (fun i => i ≤ s.length ∧ tokA s i = tokA s a) (fun i => s.length - i) a ⟨ha, rfl⟩ (by simp [keepSt]) ?_
  rintro i ⟨hi, hix⟩
  by_cases hlt : i < s.length
  · have hlt' : (i : Int) < s.length := by omega
    have hd := drop_cons s i hlt
    have hn := nthN s i hlt
    by_cases hb : blank s[i] = true
    · have hix' : tokA s (i + 1) = tokA s a := by
        rw [← hix]; unfold tokA; rw [hd, List.takeWhile_cons, if_pos hb, List.length_cons]; omega
      have w1 : IntKind.i64.wrap ((i : Int) + 1) = (i : Int) + 1 := w64 (by omega)
      simp only [blank, Bool.or_eq_true, decide_eq_true_eq] at hb
      by_cases h32 : s[i].toNat = 32
      · simp [f59r1, binF, binI, hlt', hlt, hn, h32]
        simp [f59r2, binF, binI, w1, keepSt]
        exact ⟨i + 1, ⟨by omega, hix'⟩, by omega, rfl⟩
      · have h10 : s[i].toNat = 10 := by omega
        simp [f59r1, binF, binI, hlt', hlt, hn, h10]
        simp [f59r2, binF, binI, w1, keepSt]
        exact ⟨i + 1, ⟨by omega, hix'⟩, by omega, rfl⟩
    · have hix' : tokA s i = i := by unfold tokA; rw [hd, List.takeWhile_cons, if_neg hb]; simp
      simp only [blank, Bool.or_eq_true, decide_eq_true_eq] at hb
      simp [f59r1, binF, binI, hlt', hlt, hn, show ¬ (s[i].toNat : Int) = 32 by omega, show ¬ s[i].toNat = 32 by omega, show ¬ (s[i].toNat : Int) = 10 by omega, show ¬ s[i].toNat = 10 by omega]
      exact tail _ _ rfl (by rw [← hix, hix']; rfl)
  · have hlt' : ¬ (i : Int) < s.length := by omega
    have hix' : tokA s i = i := by unfold tokA; rw [List.drop_eq_nil_of_le (by omega)]; simp
    simp [f59r1, binF, binI, hlt', hlt]
    exact tail _ _ rfl (by rw [← hix, hix']; rfl)

def tpF (s p : List UInt8) : List UInt8 := if s.take p.length = p then s.drop p.length else s
theorem hasPrefix_ct {G : Env} (hP : G.P = Tryd.prog) (s p : List UInt8) : CT G 89 ⟨[.f (.str s), .f (.str p)], []⟩ ⟨.f (.bool (decide (s.take p.length = p))), [], []⟩ := by
  refine ct_of_body (N := []) (pc := f89pc) (rs := f89rs) (by rw [hP]; exact f89ok) ?_
  rw [entry_mk]
  by_cases h : p.length ≤ s.length
  · have h1 : (p.length : Int) ≤ s.length := by omega
    have h2 : (0 : Int) ≤ p.length := by omega
    simp [f89pc, f89r0, f89r1, binF, binI, binS, h, h1, h2, bnds, retQ, outSt, f89rs, rvals, RArg.val, resPV]
  · have h1 : ¬ (p.length : Int) ≤ s.length := by omega
    have hne : ¬ s.take p.length = p := by
      intro e
      have := congrArg List.length e
      rw [List.length_take] at this; omega
    simp [f89pc, f89r0, f89r1, binF, binI, binS, h, h1, hne, retQ, outSt, f89rs, rvals, RArg.val, resPV]

theorem trimPrefixL_ct {G : Env} (hP : G.P = Tryd.prog) (s p : List UInt8) : CT G 81 ⟨[.f (.str s), .f (.str p)], []⟩ ⟨.f (.str (tpF s p)), [], []⟩ := by
  refine ct_of_body (N := []) (pc := f81pc) (rs := f81rs) (by rw [hP]; exact f81ok) ?_
  rw [entry_mk]
  simp [f81pc, f81r0, f81r1]
  refine pCall_pure (hasPrefix_ct hP s p) rfl rfl rfl ?_
  by_cases h : s.take p.length = p
  · have hl : p.length ≤ s.length := by
      have := congrArg List.length h
      rw [List.length_take] at this; omega
    have h1 : (p.length : Int) ≤ s.length := by omega
    have h2 : (0 : Int) ≤ p.length := by omega
    have h3 : List.take (s.length - p.length) (List.drop p.length s) = List.drop p.length s := List.take_of_length_le (by simp)
    simp [f81r2, retQ, outSt, f81rs, rvals, RArg.val, resPV, h, bnds, hl, h1, h2, h3, tpF]
  · simp [f81r3, retQ, outSt, f81rs, rvals, RArg.val, resPV, h, tpF]

theorem trimPrefix_ct {G : Env} (hP : G.P = Tryd.prog) (s p : List UInt8) : CT G 74 ⟨[.f (.str s), .f (.str p)], []⟩ ⟨.f (.str (tpF s p)), [], []⟩ := by
  refine ct_of_body (N := []) (pc := f74pc) (rs := f74rs) (by rw [hP]; exact f74ok) ?_
  rw [entry_mk]
  simp [f74pc, f74r0, f74r1]
  refine pCall_pure (trimPrefixL_ct hP s p) rfl rfl rfl ?_
  simp [retQ, outSt, f74rs, rvals, RArg.val, resPV]

theorem indexFuncS_ct {G : Env} (hP : G.P = Tryd.prog) (s : List UInt8) (has : ∀ b ∈ s, b.toNat < 128) :
    CT G 82 ⟨[.f (.str s), .f (.fn (.func 76))], []⟩ ⟨.f (.int .i64 (ndIdx s 0)), [], []⟩ := by
  refine ct_of_body (N := []) (pc := f82pc) (rs := f82rs) (by rw [hP]; exact f82ok) ?_
  rw [entry_mk]
  simp [f82pc, f82r0, f82r1]
  refine pCall_pure (indexFunc_str_ct hP s has) rfl rfl rfl ?_
  simp [retQ, outSt, f82rs, rvals, RArg.val, resPV]

theorem containsS_ct {G : Env} (hP : G.P = Tryd.prog) (s : List UInt8) (has : ∀ b ∈ s, b.toNat < 128) :
    CT G 75 ⟨[.f (.str s), .f (.fn (.func 76))], []⟩ ⟨.f (.bool (decide (0 ≤ ndIdx s 0))), [], []⟩ := by
  refine ct_of_body (N := []) (pc := f75pc) (rs := f75rs) (by rw [hP]; exact f75ok) ?_
  rw [entry_mk]
  simp [f75pc, f75r0, f75r1]
  refine pCall_pure (indexFuncS_ct hP s has) rfl rfl rfl ?_
  simp [retQ, outSt, f75rs, rvals, RArg.val, resPV, binF, binI]
end Go.Absw

/- Contracts of strconv.Atoi (at one to seven digits, with or without a minus sign) and of vm.number. -/
namespace Go.Absw
open Go Go.Proofs
set_option maxRecDepth 100000

def isDig (b : UInt8) : Bool := decide (48 ≤ b.toNat) && decide (b.toNat ≤ 57)
def decN : List UInt8 → Int → Int
  | [], a => a
  | b :: r, a => decN r (a * 10 + ((b.toNat : Int) - 48))
def atoiF (s : List UInt8) : Int := if s.head? = some 45 then -(decN (s.drop 1) 0) else decN s 0

theorem decN_bnd : ∀ (l : List UInt8) (a : Int), (∀ b ∈ l, isDig b = true) → 0 ≤ a → 0 ≤ decN l a ∧ decN l a < (a + 1) * 10 ^ l.length
  | [], a, _, h0 => by simp [decN]; omega
  | b :: r, a, hd, h0 => by
    have hb := hd b (by simp)
    simp [isDig] at hb
    have := decN_bnd r (a * 10 + ((b.toNat : Int) - 48)) (fun x hx => hd x (by simp [hx])) (by omega)
    rw [decN]
    refine ⟨this.1, Int.lt_of_lt_of_le this.2 ?_⟩
    rw [List.length_cons, Int.pow_succ, ← Int.mul_assoc, Int.mul_right_comm]
    refine Int.mul_le_mul_of_nonneg_right (by omega) (Int.le_of_lt (Int.pow_pos (by omega)))

theorem decN_app (l : List UInt8) (b : UInt8) : ∀ a, decN (l ++ [b]) a = decN l a * 10 + ((b.toNat : Int) - 48) := by
  induction l with
  | nil => intro a; rfl
  | cons c r ih => intro a; rw [List.cons_append, decN, decN, ih]

theorem wrap_u8 {n : Int} (h : 0 ≤ n ∧ n < 256) : IntKind.u8.wrap n = n := by simp [IntKind.wrap, IntKind.bits, IntKind.signed]; omega
theorem pow7 (n : Nat) (h : n ≤ 7) : (10 : Int) ^ n ≤ 10000000 := by
  match n, h with
  | 0, _ | 1, _ | 2, _ | 3, _ | 4, _ | 5, _ | 6, _ | 7, _ => decide

/-- The loop over the digits and what follows it. -/
theorem atoi_tail {G : Env} (s d : List UInt8) (hd : ∀ b ∈ d, isDig b = true) (h7 : d.length ≤ 7) (h1 : 1 ≤ d.length) (hne : 1 ≤ s.length)
    (hval : atoiF s = if s.head? = some 45 then -(decN d 0) else decN d 0)
    (l : List (Nat × PV)) (t : List (Nat × Tok)) (h0 : lkS l 0 = .f (.str d)) (h5 : lkS l 5 = .f (.str s)) :
    pwp G (.seq (.region f83r8 []) (.seq (.seq (.region f83r9 []) (.block 0 (.loop f83l0))) (.seq (.seq (.region f83r17 []) (.cond (.s 66) (.region f83r18 []) (.skip))) (.seq (.region f83r19 []) (.ret)))))
      (retQ 0 [] f83rs (· = ⟨.tup [.f (.int .i64 (atoiF s)), .f .nili], [], []⟩)) (mkSt l t) := by
  have hsz : d.length ≤ i64max := by simp [i64max]; omega
  simp [f83r8, f83r9, h0, h5, hsz]
  unfold f83l0
  have hv : ∀ i, i ≤ d.length → 0 ≤ decN (d.take i) 0 ∧ decN (d.take i) 0 < 10000000 := by
    intro i hi
    have h := decN_bnd (d.take i) 0 (fun b hb => hd b (List.mem_of_mem_take hb)) (by omega)
    have := pow7 (d.take i).length (by rw [List.length_take]; omega)
    omega
  have hfin : ∀ (l : List (Nat × PV)) (t : List (Nat × Tok)), lkS l 5 = .f (.str s) → lkS l 6 = .f (.int .i64 (decN d 0)) →
      pwp G (.seq (.seq (.region f83r17 []) (.cond (.s 66) (.region f83r18 []) (.skip))) (.seq (.region f83r19 []) (.ret))) (retQ 0 [] f83rs (· = ⟨.tup [.f (.int .i64 (atoiF s)), .f .nili], [], []⟩)) (mkSt l t) := by
    intro l t h5 h6
    have hb := hv d.length (Nat.le_refl _)
    rw [List.take_length] at hb
    obtain ⟨c, r, rfl⟩ : ∃ c r, s = c :: r := by cases s with | nil => simp at hne | cons c r => exact ⟨c, r, rfl⟩
    have hn : nth (c :: r) (0 : Int) = some c := rfl
    rw [hval]
    by_cases hc : c = 45
    · subst hc
      have w : IntKind.i64.wrap (-(decN d 0)) = -(decN d 0) := w64 (by omega)
      simp [f83r17, f83r18, f83r19, retQ, outSt, f83rs, rvals, RArg.val, resPV, h5, h6, hn, binF, binI, unF, w]
    · have hc' : ¬ (c.toNat : Int) = 45 := fun e => hc (UInt8.toNat_inj.1 (by simpa using (by omega : c.toNat = 45)))
      have hc2 : ¬ c.toNat = 45 := by omega
      simp [f83r17, f83r19, retQ, outSt, f83rs, rvals, RArg.val, resPV, h5, h6, hn, binF, binI, hc, hc', hc2]
  refine pwp_loop (α := Nat) (fun i => mkSt [(5, .f (.str s)), (6, .f (.int .i64 (decN (d.take i) 0))), (47, .ts 147 0 d.length 0), (48, .f (.int .i64 d.length)), (49, .f (.int .i64 i))] [(147, ⟨0, .row 5 1 0 0 (ofBytes d)⟩)]) (fun i => i ≤ d.length) (fun i => d.length - i) 0 (by simp) (by simp [keepSt, decN, h5]) ?_
  intro i hi
  simp [f83r10, binF, binI]
  refine ccase_i (fun h => ?_) (fun h => ?_)
  · have h : i < d.length := by simp at h; omega
    have hb := hd d[i] (List.getElem_mem h)
    simp [isDig] at hb
    have hrow : (ofBytes d)[i]? = some [.int .u8 d[i].toNat] := by simp [ofBytes, h]
    have hrow2 : ∀ h', (ofBytes d)[i]'h' = [.int .u8 d[i].toNat] := fun h' => by simp [ofBytes]
    have hlen : (ofBytes d).length = d.length := by simp [ofBytes]
    have hnx : decN (d.take (i + 1)) 0 = decN (d.take i) 0 * 10 + ((d[i].toNat : Int) - 48) := by
      rw [List.take_succ_eq_append_getElem h, decN_app]
    have hv1 := hv i hi
    have hv2 := hv (i + 1) h
    generalize hbb : d[i].toNat = n at *
    have w1 : IntKind.u8.wrap ((n : Int) - 48) = (n : Int) - 48 := wrap_u8 (by omega)
    have w2 : IntKind.i64.wrap (decN (d.take i) 0 * 10) = decN (d.take i) 0 * 10 := w64 (by omega)
    have w3 : IntKind.i64.wrap ((n : Int) - 48) = (n : Int) - 48 := w64 (by omega)
    have w4 : IntKind.i64.wrap (decN (d.take i) 0 * 10 + ((n : Int) - 48)) = decN (d.take (i + 1)) 0 := by rw [hnx]; exact w64 (by omega)
    have w5 : IntKind.i64.wrap ((i : Int) + 1) = (i : Int) + 1 := w64 (by omega)
    have c1 : ¬ (9 : Int) < (n : Int) - 48 := by omega
    simp [f83r11, f83r12, f83r13, binF, binI, hrow, hrow2, hlen, h, w1, c1]
    simp [f83r15, f83r16, binF, binI, w2, w3, w4, w5, keepSt]
    exact ⟨i + 1, by omega, by omega, rfl⟩
  · have h : i = d.length := by simp at h; omega
    subst h
    simp
    exact hfin _ _ rfl rfl

theorem tp45 (s : List UInt8) : (∃ d, s = 45 :: d ∧ tpF s [45] = d) ∨ (s.head? ≠ some 45 ∧ tpF s [45] = s) := by
  cases s with
  | nil => right; simp [tpF]
  | cons c r =>
    by_cases h : c = 45
    · left; subst h; exact ⟨r, rfl, by simp [tpF]⟩
    · right; exact ⟨by simp [h], by simp [tpF, h]⟩

theorem atoiL_ct {G : Env} (hP : G.P = Tryd.prog) (s : List UInt8) (hd : ∀ b ∈ tpF s [45], isDig b = true) (h1 : 1 ≤ (tpF s [45]).length) (h7 : (tpF s [45]).length ≤ 7) :
    CT G 83 ⟨[.f (.str s)], []⟩ ⟨.tup [.f (.int .i64 (atoiF s)), .f .nili], [], []⟩ := by
  refine ct_of_body (N := []) (pc := f83pc) (rs := f83rs) (by rw [hP]; exact f83ok) ?_
  rw [entry_mk]
  obtain ⟨d, rfl, ed⟩ | ⟨hne, ed⟩ := tp45 s
  · rw [ed] at hd h1 h7
    have c0 : (0 : Int) < d.length + 1 := by omega
    have c1 : (d.length : Int) + 1 < 19 := by omega
    have c2 : ¬ (d.length : Int) < 1 := by omega
    have c3 : ¬ d.length < 1 := by omega
    have c4 : ¬ d = [] := by rintro rfl; simp at h1
    have hn : nth (45 :: d) (0 : Int) = some 45 := rfl
    have e1 : (0 : Int) ≤ (d.length : Int) + 1 := by omega
    have e2 : (1 : Int) ≤ (d.length : Int) + 1 := by omega
    simp [f83pc, f83r0, f83r1, f83r2, f83r3, f83r4, binF, binI, c0, c1, hn]
    simp [f83r5, f83r6, binF, binI, bnds, c2, c3, c4, e1, e2]
    exact atoi_tail (45 :: d) d hd h7 h1 (by simp) (by simp [atoiF]) _ _ rfl rfl
  · rw [ed] at hd h1 h7
    obtain ⟨c, r, rfl⟩ : ∃ c r, s = c :: r := by cases s with | nil => simp at h1 | cons c r => exact ⟨c, r, rfl⟩
    have hc := hd c (by simp)
    simp [isDig] at hc
    have c0 : (0 : Int) < r.length + 1 := by omega
    have c1 : (r.length : Int) + 1 < 19 := by simp at h7; omega
    have hn : nth (c :: r) (0 : Int) = some c := rfl
    have n1 : ¬ (c.toNat : Int) = 45 := by omega
    have n2 : ¬ c.toNat = 45 := by omega
    have n3 : ¬ (c.toNat : Int) = 43 := by omega
    have n4 : ¬ c.toNat = 43 := by omega
    simp [f83pc, f83r0, f83r1, f83r2, f83r3, f83r4, binF, binI, c0, c1, hn, n1, n2, n3, n4]
    exact atoi_tail (c :: r) (c :: r) hd h7 h1 (by simp) (by have hc45 := hne; simp at hc45; simp [atoiF, hc45]) _ _ rfl rfl

theorem atoi_ct {G : Env} (hP : G.P = Tryd.prog) (s : List UInt8) (hd : ∀ b ∈ tpF s [45], isDig b = true) (h1 : 1 ≤ (tpF s [45]).length) (h7 : (tpF s [45]).length ≤ 7) :
    CT G 77 ⟨[.f (.str s)], []⟩ ⟨.tup [.f (.int .i64 (atoiF s)), .f .nili], [], []⟩ := by
  refine ct_of_body (N := []) (pc := f77pc) (rs := f77rs) (by rw [hP]; exact f77ok) ?_
  rw [entry_mk]
  simp [f77pc, f77r0, f77r1]
  refine pCall_pure (atoiL_ct hP s hd h1 h7) rfl rfl rfl ?_
  simp [f77r2, f77r4, retQ, outSt, f77rs, rvals, RArg.val, resPV]

def numberF (s : List UInt8) : Option Int :=
  if (tpF s [45]).length < 1 ∨ 7 < (tpF s [45]).length ∨ (tpF s [45]).all isDig = false then none else some (atoiF s)

theorem number_ct {G : Env} (hP : G.P = Tryd.prog) (s : List UInt8) (has : ∀ b ∈ s, b.toNat < 128) :
    CT G 62 ⟨[.f (.str s)], []⟩ ⟨.tup [.f (.int .i64 ((numberF s).getD 0)), .f (.bool (numberF s).isSome)], [], []⟩ := by
  refine ct_of_body (N := []) (pc := f62pc) (rs := f62rs) (by rw [hP]; exact f62ok) ?_
  rw [entry_mk]
  simp [f62pc, f62r0, f62r1]
  refine pCall_pure (trimPrefix_ct hP s [45]) rfl rfl rfl ?_
  have hsub : ∀ b ∈ tpF s [45], b.toNat < 128 := by
    intro b hb; unfold tpF at hb
    split at hb
    · exact has b (List.mem_of_mem_drop hb)
    · exact has b hb
  by_cases h1 : (tpF s [45]).length < 1
  · have h1' : ((tpF s [45]).length : Int) < 1 := by omega
    have hN : numberF s = none := by unfold numberF; rw [if_pos (.inl h1)]
    simp [f62r2, f62r3, retQ, outSt, f62rs, rvals, RArg.val, resPV, binF, binI, h1, h1', hN]
  have h1' : ¬ ((tpF s [45]).length : Int) < 1 := by omega
  by_cases h7 : 7 < (tpF s [45]).length
  · have h7' : (7 : Int) < ((tpF s [45]).length : Int) := by omega
    have hN : numberF s = none := by unfold numberF; rw [if_pos (.inr (.inl h7))]
    simp [f62r2, f62r3, retQ, outSt, f62rs, rvals, RArg.val, resPV, binF, binI, h1, h1', h7, h7', hN]
  have h7' : ¬ (7 : Int) < ((tpF s [45]).length : Int) := by omega
  simp [f62r2, binF, binI, h1, h1', h7, h7']
  refine pCall_pure (containsS_ct hP (tpF s [45]) hsub) rfl rfl rfl ?_
  have hall := ndIdx_neg (tpF s [45]) 0
  by_cases ha : (tpF s [45]).all isDig = true
  · have hN : numberF s = some (atoiF s) := by unfold numberF; rw [if_neg (by simp [h1, h7]; simpa using ha)]
    have hc : ¬ 0 ≤ ndIdx (tpF s [45]) 0 := by have := hall.2 ha; omega
    simp [hc, f62r4]
    refine pCall_pure (atoi_ct hP s (List.all_eq_true.1 ha) (by omega) (by omega)) rfl rfl rfl ?_
    simp [f62r5, retQ, outSt, f62rs, rvals, RArg.val, resPV, hN]
  · have hN : numberF s = none := by unfold numberF; rw [if_pos (.inr (.inr (by simpa using ha)))]
    have hc : 0 ≤ ndIdx (tpF s [45]) 0 := by
      by_cases h : 0 ≤ ndIdx (tpF s [45]) 0
      · exact h
      · exact absurd (hall.1 (by omega)) ha
    simp [hc, f62r3, retQ, outSt, f62rs, rvals, RArg.val, resPV, hN]
end Go.Absw

/- Contracts of the closure in vm.Parse and of slices.IndexFunc over the table of words. -/
namespace Go.Absw
open Go Go.Proofs
set_option maxRecDepth 100000

structure OpD where
  word : List UInt8
  a : Int
  b : Int
  c : Int
  deriving DecidableEq, Inhabited
def encO (o : OpD) : List FV := [.str o.word, iI o.a, iI o.b, iI o.c]
def opsT : List OpD := [⟨[115, 116, 111, 112], 1, 0, 0⟩, ⟨[108, 111, 97, 100], 2, 3, 0⟩, ⟨[97, 100, 100], 2, 2, 2⟩, ⟨[115, 117, 98], 2, 2, 2⟩, ⟨[115, 105, 122, 101], 2, 4, 0⟩, ⟨[103, 101, 116], 2, 4, 5⟩,
  ⟨[106, 117, 109, 112], 6, 0, 0⟩, ⟨[108, 101, 115, 115], 2, 2, 6⟩, ⟨[115, 97, 109, 101], 2, 2, 6⟩]
theorem sortsT_ops : sortsT = opsT.flatMap encO := rfl

def opIx (w : List UInt8) : List OpD → Nat → Int
  | [], _ => -1
  | o :: r, n => if o.word = w then n else opIx w r (n + 1)

theorem wordIs_ct {G : Env} (hP : G.P = Tryd.prog) (o : OpD) (w : List UInt8) :
    CT G 61 ⟨[.ag ((encO o).map .f), .ptr 0 0 0 0], [.box 9 false [.f (.str w)]]⟩ ⟨.f (.bool (decide (o.word = w))), [⟨0, .box 9 false [.f (.str w)]⟩], []⟩ := by
  refine ct_of_body (N := []) (pc := f61pc) (rs := f61rs) (by rw [hP]; exact f61ok) ?_
  rw [entry_mk]
  simp [f61pc, f61r0, f61r1, encO, iI, binF, binS, retQ, outSt, f61rs, rvals, RArg.val, resPV, List.range_succ]

theorem opIndex_ct {G : Env} (hP : G.P = Tryd.prog) (l : List OpD) (hl : l.length < 1000000) (w : List UInt8) :
    CT G 60 ⟨[.f (.sl 4 (l.map encO)), .fn (.func 61) [] [.ptr 0 0 0 0]], [.box 9 false [.f (.str w)]]⟩ ⟨.f (iI (opIx w l 0)), [⟨0, .box 9 false [.f (.str w)]⟩], []⟩ := by
  refine ct_of_body (N := []) (pc := f60pc) (rs := f60rs) (by rw [hP]; exact f60ok) ?_
  rw [entry_mk]
  simp [f60pc, f60r0, f60r1]
  unfold f60l0
  refine pwp_loop (α := Nat) (fun i => mkSt [(0, .f (.sl 4 (l.map encO))), (1, .fn (.func 61) [] [.ptr 0 0 0 0]), (7, .f (iI l.length)), (8, .f (iI i))] [(0, ⟨0, .box 9 false [.f (.str w)]⟩)])
    (fun i => i ≤ l.length ∧ opIx w (l.drop i) i = opIx w l 0) (fun i => l.length - i) 0 (by simp) (by simp [keepSt, iI]) ?_
  rintro i ⟨hi, hix⟩
  simp [f60r2, binF, binI, iI]
  refine ccase_i (fun h => ?_) (fun h => ?_)
  · simp at h
    have hn : nth (l.map encO) (i : Int) = some (encO l[i]) := by simp [nth, h]
    have hd : l.drop i = l[i] :: l.drop (i + 1) := List.drop_eq_getElem_cons h
    rw [hd, opIx] at hix
    have hw : IntKind.i64.wrap ((i : Int) + 1) = (i : Int) + 1 := w64 (by omega)
    generalize l[i] = q at hn hix
    have he : (encO q).length = 4 := rfl
    simp [f60r3, f60r4, hn, getN, he]
    refine pCall_tok (wordIs_ct hP q w) rfl ?_ ⟨rfl, rfl⟩ ?_
    · simp [callInp, mDn, pos, List.take_of_length_le, he]
    · by_cases hq : q.word = w
      · rw [if_pos hq] at hix
        simp [newT, pos, mUp, upC, hq, f60r5, retQ, outSt, f60rs, rvals, RArg.val, resPV, List.range_succ, hix]
      · rw [if_neg hq] at hix
        simp [newT, pos, mUp, upC, hq, f60r6, binF, binI, hw, keepSt]
        exact ⟨i + 1, ⟨by omega, hix⟩, by omega, rfl⟩
  · simp at h
    have : i = l.length := by omega
    subst this
    simp [opIx] at hix
    simp [f60r7, retQ, outSt, f60rs, rvals, RArg.val, resPV, List.range_succ, hix]
end Go.Absw

/- Contract of vm.Parse. -/
namespace Go.Absw
open Go Go.Proofs
set_option maxRecDepth 100000

inductive ArgR where
  | bad (at' : Nat)
  | ok (v : List Int) (at' : Nat) (w : List UInt8)
/-- The numbers of an instruction, read one after the other. -/
def argF (s : List UInt8) : List Int → Nat → List Int → Nat → List UInt8 → ArgR
  | [], _, v, a, w => .ok v a w
  | l :: r, k, v, a, w => if l = 0 then argF s r (k + 1) v a w else
    match numberF (tokW s (tokA s (a + w.length))) with
    | none => .bad (tokA s (a + w.length))
    | some n => argF s r (k + 1) (v.set k n) (tokA s (a + w.length)) (tokW s (tokA s (a + w.length)))

structure PRes where
  p : Option (List Ins)
  place : Int
  err : Int
  deriving DecidableEq

def opArgs (o : OpD) : List Int := [o.a, o.b, o.c]
def goF (s : List UInt8) : Nat → List Ins → Nat → List UInt8 → PRes
  | 0, _, _, _ => ⟨none, 0, 0⟩
  | f + 1, p, a, w =>
    if w = [] then (if a < s.length then ⟨none, a, 2⟩ else if validF p = 0 then ⟨some p, 0, 0⟩ else ⟨none, 0, validF p⟩)
    else if opIx w opsT 0 < 0 then ⟨none, a, 2⟩
    else match argF s (opArgs (nth0 opsT (opIx w opsT 0))) 0 [0, 0, 0] a w with
    | .bad a' => ⟨none, a', 2⟩
    | .ok v a' w' => goF s f (p ++ [⟨opIx w opsT 0, v.getD 0 0, v.getD 1 0, v.getD 2 0⟩]) (tokA s (a' + w'.length)) (tokW s (tokA s (a' + w'.length)))
def parseF (s : List UInt8) : PRes := if 8192 < s.length then ⟨none, 8192, 4⟩ else goF s (s.length + 2) [] (tokA s 0) (tokW s (tokA s 0))
def encPo : Option (List Ins) → FV
  | none => encP []
  | some p => encP p
def parseOut (r : PRes) : Out := ⟨.tup [.f (encPo r.p), .f (iI r.place), .f (iI r.err)], [], []⟩

theorem opIx_lt (w : List UInt8) : ∀ (l : List OpD) (n : Nat), opIx w l n < (n : Int) + l.length
  | [], n => by simp [opIx]; omega
  | o :: r, n => by
    rw [opIx]
    split
    · simp
      omega
    · have := opIx_lt w r (n + 1)
      simp at this ⊢
      omega

theorem op_get : ∀ m : Nat, m < 9 → ∃ ls : List Int, ls.length = 3 ∧ opArgs (nth0 opsT (m : Int)) = ls ∧ getN (sortsT.map .f) (m * 4 + 1) 3 = some (.ag (ls.map fun n => .f (.int .i64 n))) := by
  intro m hm
  match m, hm with
  | 0, _ | 1, _ | 2, _ | 3, _ | 4, _ | 5, _ | 6, _ | 7, _ | 8, _ => exact ⟨_, rfl, rfl, rfl⟩

theorem parse_ct {G : Env} (hP : G.P = Tryd.prog) (s : List UInt8) (hsz : s.length < 1000000000) : CT G 28 ⟨[.f (.str s)], []⟩ (parseOut (parseF s)) := by
  refine ct_of_body (N := []) (pc := f28pc) (rs := f28rs) (by rw [hP]; exact f28ok) ?_
  rw [entry_mk]
  by_cases hlim : 8192 < s.length
  · have h' : (8192 : Int) < s.length := by omega
    have hr : parseF s = ⟨none, 8192, 4⟩ := by unfold parseF; rw [if_pos hlim]
    simp [f28pc, f28r0, f28r1, f28r2, binF, binI, hlim, h', ghSt, hr]
    simp [retQ, outSt, f28rs, rvals, RArg.val, resPV, parseOut, encPo, iI, encP]
  have h' : ¬ (8192 : Int) < s.length := by omega
  have hr : parseF s = goF s (s.length + 2) [] (tokA s 0) (tokW s (tokA s 0)) := by unfold parseF; rw [if_neg hlim]
  rw [hr]
  simp [f28pc, f28r0, f28r1, f28r3, f28r4, binF, binI, hlim, h', ghSt]
  have ht0 := token_ct hP s hsz 0 (Nat.zero_le _)
  refine pCall_pure ht0 rfl rfl rfl ?_
  simp
  unfold f28l0
  refine pwp_loop (α := Nat × List Ins × Nat × List UInt8) (fun x => mkSt [(0, .f (.str s)), (5, .ts 105 0 x.2.1.length 0), (6, .f (.int .i64 x.2.2.1)), (7, .ptr 107 0 0 0)] [(105, ⟨0, .row 104 4 0 0 (x.2.1.map encI)⟩), (107, ⟨0, .box 9 false [.f (.str x.2.2.2)]⟩)])
    (fun x => goF s x.1 x.2.1 x.2.2.1 x.2.2.2 = goF s (s.length + 2) [] (tokA s 0) (tokW s (tokA s 0)) ∧ x.2.2.1 + x.2.2.2.length ≤ s.length ∧ s.length < x.2.2.1 + x.1 ∧ x.2.1.length ≤ x.2.2.1 ∧ ∀ b ∈ x.2.2.2, b.toNat < 128)
    (fun x => x.1) (s.length + 2, [], tokA s 0, tokW s (tokA s 0)) ?_ ?_ ?_
  · have h1 := tokA_le s 0 (Nat.zero_le _)
    have h2 := tokW_le s (tokA s 0) h1
    have h3 := tokW_ink s (tokA s 0)
    exact ⟨rfl, h2, by simp; omega, by simp, fun b hb => by have := h3 b hb; omega⟩
  · simp [keepSt]
  rintro ⟨f, p, a, w⟩ ⟨hgo, hle, hfu, hpl, hw⟩
  simp only at hgo hle hfu hpl hw
  obtain ⟨f, rfl⟩ : ∃ f', f = f' + 1 := ⟨f - 1, by omega⟩
  rw [← hgo]
  clear hgo hr ht0
  simp [f28r5, binF, binS]
  refine ccase_i (fun hw0 => ?_) (fun hw0 => ?_)
  · simp at hw0
    have hix := opIx_lt w opsT 0
    simp [f28r6]
    refine pCall_pure (sorts_ct hP) rfl rfl rfl ?_
    have hT : sortsT.length = 36 := rfl
    have hfv : fvs? (sortsT.map PV.f) = some sortsT := rfl
    have htk : List.take 36 (sortsT.map PV.f) = sortsT.map PV.f := rfl
    have hch : chunk 4 9 sortsT = opsT.map encO := rfl
    simp [ghSt, hT, hfv, htk, hch, f28r7]
    refine pCall_tok (opIndex_ct hP opsT (by decide) w) rfl ?_ ⟨rfl, rfl⟩ ?_
    · simp [callInp, mDn, pos]; rfl
    simp [newT, pos, mUp, upC, f28r8, binF, binI, iI]
    by_cases hneg : opIx w opsT 0 < 0
    · simp [hneg, f28r9, ghSt]
      simp [retQ, outSt, f28rs, rvals, RArg.val, resPV, parseOut, goF, hw0, hneg, encPo, iI, encP]
    obtain ⟨m, hm⟩ : ∃ m : Nat, opIx w opsT 0 = m := ⟨(opIx w opsT 0).toNat, by omega⟩
    have hm9 : m < 9 := by
      have h9 : ((0 : Nat) : Int) + (opsT.length : Int) = 9 := rfl
      rw [h9] at hix; omega
    have hm9' : (m : Int) < 9 := by omega
    have hwp : 1 ≤ w.length := by cases w with | nil => exact absurd rfl hw0 | cons x y => simp
    obtain ⟨ls, hls, hABC, hget⟩ := op_get m hm9
    have hgo : goF s (f + 1) p a w = match argF s ls 0 [0, 0, 0] a w with
      | .bad a' => ⟨none, a', 2⟩
      | .ok v a' w' => goF s f (p ++ [⟨m, v.getD 0 0, v.getD 1 0, v.getD 2 0⟩]) (tokA s (a' + w'.length)) (tokW s (tokA s (a' + w'.length))) := by
      rw [goF, if_neg hw0, hm, if_neg (by omega), hABC]
    generalize goF s (f + 1) p a w = R at hgo ⊢
    rw [hm] at hneg ⊢
    simp [hneg, f28r10, f28r11, hm9', hget, hm9]
    unfold f28l1
    refine pwp_loop (α := Nat × List Int × Nat × List UInt8) (fun x => mkSt [(0, .f (.str s)), (5, .ts 105 0 p.length 0), (6, .f (.int .i64 x.2.2.1)), (7, .ptr 107 0 0 0), (9, .f (.int .i64 m)), (10, .ptr 110 0 0 0), (36, .ag (ls.map fun n => .f (.int .i64 n))), (37, .f (.int .i64 x.1))]
        [(105, ⟨0, .row 104 4 0 0 (p.map encI)⟩), (107, ⟨0, .box 9 false [.f (.str x.2.2.2)]⟩), (110, ⟨0, .box 109 false (x.2.1.map fun n => .f (.int .i64 n))⟩)])
      (fun x => x.1 ≤ 3 ∧ x.2.1.length = 3 ∧ argF s (ls.drop x.1) x.1 x.2.1 x.2.2.1 x.2.2.2 = argF s ls 0 [0, 0, 0] a w ∧ x.2.2.1 + x.2.2.2.length ≤ s.length ∧ a + w.length ≤ x.2.2.1 + x.2.2.2.length ∧ ∀ b ∈ x.2.2.2, b.toNat < 128)
      (fun x => 3 - x.1) (0, [0, 0, 0], a, w) ⟨by simp, rfl, rfl, hle, Nat.le_refl _, hw⟩ (by simp [keepSt, iI]) ?_
    rintro ⟨k, v, a', w'⟩ ⟨hk, hv, hF, hle', hge', hw'⟩
    simp only at hk hv hF hle' hge' hw'
    simp [f28r12, binF, binI]
    refine ccase_i (fun h => ?_) (fun h => ?_)
    · have hk3 : k < 3 := by simp at h; omega
      have hkl : k < ls.length := by omega
      rw [List.drop_eq_getElem_cons hkl, argF] at hF
      have w1 : IntKind.i64.wrap ((k : Int) + 1) = (k : Int) + 1 := w64 (by omega)
      have hk3' : (k : Int) < 3 := by omega
      obtain ⟨L, hLg⟩ : ∃ L, ∀ h', ls[k]'h' = L := ⟨ls[k], fun _ => rfl⟩
      rw [hLg] at hF
      by_cases hL : L = 0
      · subst hL
        rw [if_pos rfl] at hF
        simp [f28r13, f28r14, f28r20, binF, binI, hk3, hk3', hkl, hLg, keepSt, w1]
        exact ⟨k + 1, v, a', w', ⟨by omega, hv, hF, hle', hge', hw'⟩, by omega, rfl⟩
      · rw [if_neg hL] at hF
        have hA := tokA_le s (a' + w'.length) hle'
        have hAg := tokA_ge s (a' + w'.length)
        have hWl := tokW_le s (tokA s (a' + w'.length)) hA
        have hWi := tokW_ink s (tokA s (a' + w'.length))
        have w2 : IntKind.i64.wrap ((a' : Int) + w'.length) = ((a' + w'.length : Nat) : Int) := by rw [w64 (by omega)]; omega
        have htk := token_ct hP s hsz (a' + w'.length) hle'
        generalize tokW s (tokA s (a' + w'.length)) = W at *
        generalize tokA s (a' + w'.length) = A at *
        simp [f28r13, f28r14, f28r15, binF, binI, hk3, hk3', hkl, hLg, hL, w2]
        refine pCall_pure htk rfl rfl rfl ?_
        simp [f28r16]
        refine pCall_pure (number_ct hP W (fun b hb => by have := hWi b hb; omega)) rfl rfl rfl ?_
        cases hN : numberF W with
        | none =>
          rw [hN] at hF
          rw [← hF] at hgo
          simp [f28r17, f28r18, unF, ghSt]
          simp [retQ, outSt, f28rs, rvals, RArg.val, resPV, hgo, parseOut, encPo, encP, iI]
        | some n =>
          rw [hN] at hF
          have hk2 : k ≤ 2 := by omega
          have hset : List.take k (v.map fun n => PV.f (.int .i64 n)) ++ PV.f (.int .i64 n) :: List.drop (k + 1) (v.map fun n => PV.f (.int .i64 n)) = (v.set k n).map fun n => PV.f (.int .i64 n) := by
            rw [List.map_set, List.set_eq_take_append_cons_drop, if_pos (by simp; omega)]
          simp [f28r17, f28r19, f28r20, unF, binF, binI, hk3, hk3', hk2, w1, keepSt, hv]
          exact ⟨k + 1, v.set k n, A, W, ⟨by omega, by simp [hv], hF, hWl, by omega, fun b hb => by have := hWi b hb; omega⟩, by omega, by rw [hset, dnL_map_g (m := _) (g := fun n => FV.int .i64 n)]; rfl⟩
    · have hk3 : k = 3 := by simp at h; omega
      subst hk3
      rw [List.drop_eq_nil_of_le (by omega), argF] at hF
      rw [← hF] at hgo
      simp only at hgo
      obtain ⟨x, y, z, rfl⟩ : ∃ x y z, v = [x, y, z] := by
        match v, hv with
        | [x, y, z], _ => exact ⟨x, y, z, rfl⟩
      have hA := tokA_le s (a' + w'.length) hle'
      have hAg := tokA_ge s (a' + w'.length)
      have hWl := tokW_le s (tokA s (a' + w'.length)) hA
      have hWi := tokW_ink s (tokA s (a' + w'.length))
      have w2 : IntKind.i64.wrap ((a' : Int) + w'.length) = ((a' + w'.length : Nat) : Int) := by rw [w64 (by omega)]; omega
      have htk := token_ct hP s hsz (a' + w'.length) hle'
      generalize tokW s (tokA s (a' + w'.length)) = W at *
      generalize tokA s (a' + w'.length) = A at *
      have hszp : (p.length + 1) * 32 ≤ 140737488355328 ∧ p.length + 1 ≤ i64max := by simp [i64max]; omega
      have htkp : List.take p.length (p.map encI) = p.map encI := List.take_of_length_le (by simp)
      simp [f28r21, f28r22, hszp, htkp, binF, binI, w2]
      refine pCall_pure htk rfl rfl rfl ?_
      simp [keepSt]
      refine ⟨f, p ++ [⟨m, x, y, z⟩], A, W, ⟨by rw [hgo]; simp, hWl, by omega, by simp; omega, fun b hb => by have := hWi b hb; omega⟩, by omega, ?_⟩
      simp [encI, iI]
  · simp at hw0
    subst hw0
    have htkp : List.take p.length (p.map encI) = p.map encI := List.take_of_length_le (by simp)
    by_cases ha : a < s.length
    · have ha' : (a : Int) < s.length := by omega
      have hg : goF s (f + 1) p a [] = ⟨none, a, 2⟩ := by rw [goF, if_pos rfl, if_pos ha]
      rw [hg]
      simp [f28r23, f28r24, binF, binI, ha, ha', ghSt]
      simp [retQ, outSt, f28rs, rvals, RArg.val, resPV, parseOut, encPo, encP, iI]
    have ha' : ¬ (a : Int) < s.length := by omega
    simp [f28r23, f28r25, binF, binI, ha, ha', ghSt, htkp]
    refine pCall_pure (valid_ct hP p (by omega)) rfl rfl rfl ?_
    by_cases hv : validF p = 0
    · have hg : goF s (f + 1) p a [] = ⟨some p, 0, 0⟩ := by rw [goF, if_pos rfl, if_neg ha, if_pos hv]
      rw [hg]
      simp [f28r26, f28r28, binF, binI, iI, hv, ghSt, htkp]
      simp [retQ, outSt, f28rs, rvals, RArg.val, resPV, parseOut, encPo, encP, iI, htkp]
    · have hg : goF s (f + 1) p a [] = ⟨none, 0, validF p⟩ := by rw [goF, if_pos rfl, if_neg ha, if_neg hv]
      rw [hg]
      simp [f28r26, f28r27, binF, binI, iI, hv, ghSt]
      simp [retQ, outSt, f28rs, rvals, RArg.val, resPV, parseOut, encPo, encP, iI]
end Go.Absw

/- Contracts of ends and lives. -/
namespace Go.Absw
open Go Go.Proofs
set_option maxRecDepth 100000

@[simp] theorem sR_mki_ag1 {σ : St} {ft : List Nat} (t : TypeId) (x : FV) : semR σ ft (.mki t) [.ag [.f x]] = some (.f (.ifa t [x])) := rfl

def sch1 : Sch := ⟨0, [⟨[97], 0, 2, [⟨[105, 100], [], [], 0, 0, 0, [], []⟩]⟩], [], []⟩
def wd1 : Wd := [[[5], [9]]]
def endsF (s : List UInt8) (code steps : Int) : Bool :=
  decide ((parseF s).err = 0) && decide ((parseF s).place = 0) && decide ((runF sch1 ((parseF s).p.getD []) wd1 100).2.2 = 0) &&
    decide ((runF sch1 ((parseF s).p.getD []) wd1 100).1 = code) && decide ((runF sch1 ((parseF s).p.getD []) wd1 100).2.1 = steps)

theorem goF_len (s : List UInt8) : ∀ (f : Nat) (p : List Ins) (a : Nat) (w : List UInt8), ((goF s f p a w).p.getD []).length ≤ 128
  | 0, _, _, _ => by simp [goF]
  | f + 1, p, a, w => by
    unfold goF
    split
    · split
      · simp
      · split
        · rename_i h; simpa using (valid_ok h).1
        · simp
    · split
      · simp
      · split
        · simp
        · exact goF_len s f _ _ _
theorem parseF_len (s : List UInt8) : ((parseF s).p.getD []).length ≤ 128 := by
  unfold parseF
  split
  · simp
  · exact goF_len s _ _ _ _
theorem encPo_get (o : Option (List Ins)) : encPo o = encP (o.getD []) := by cases o <;> rfl

theorem ends_ct {G : Env} (hP : G.P = Tryd.prog) (s : List UInt8) (hs : s.length < 1000000000) (code steps : Int) :
    CT G 42 ⟨[.f (.str s), .f (iI code), .f (iI steps)], []⟩ ⟨.f (.bool (endsF s code steps)), [], []⟩ := by
  refine ct_of_body (N := []) (pc := f42pc) (rs := f42rs) (by rw [hP]; exact f42ok) ?_
  rw [entry_mk]
  have hrun := run_ct hP sch1 ((parseF s).p.getD []) wd1 100 (by have := parseF_len s; omega) (by simp [In64])
  simp [f42pc, f42r0, f42r1, f42r2, iI]
  refine pCall_pure (parse_ct hP s hs) rfl rfl rfl ?_
  simp [f42r3, encPo_get, iI, getN]
  refine pCall_pure hrun rfl rfl rfl ?_
  simp [iI]
  by_cases h1 : (parseF s).err = 0
  case neg => simp [f42r4, retQ, outSt, f42rs, rvals, RArg.val, resPV, binF, binI, endsF, h1]
  by_cases h2 : (parseF s).place = 0
  case neg => simp [f42r4, retQ, outSt, f42rs, rvals, RArg.val, resPV, binF, binI, endsF, h1, h2]
  by_cases h3 : (runF sch1 ((parseF s).p.getD []) wd1 100).2.2 = 0
  case neg => simp [f42r4, retQ, outSt, f42rs, rvals, RArg.val, resPV, binF, binI, endsF, h1, h2, h3]
  by_cases h4 : (runF sch1 ((parseF s).p.getD []) wd1 100).1 = code
  case neg => simp [f42r4, retQ, outSt, f42rs, rvals, RArg.val, resPV, binF, binI, endsF, h1, h2, h3, h4]
  simp [f42r4, retQ, outSt, f42rs, rvals, RArg.val, resPV, binF, binI, endsF, h1, h2, h3, h4]
def txt0 : List UInt8 := [115, 105, 122, 101, 32, 49, 32, 48, 32, 108, 111, 97, 100, 32, 50, 32, 49, 32, 108, 101, 115, 115, 32, 50, 32, 49, 32, 52, 32, 115, 116, 111, 112, 32, 55, 32, 103, 101, 116, 32, 50, 32, 48, 32, 48, 32, 108, 111, 97, 100, 32, 51, 32, 57, 32, 115, 97, 109, 101, 32, 50, 32, 51, 32, 56, 32, 115, 116, 111, 112, 32, 56, 32, 115, 116, 111, 112, 32, 57]
theorem txt0_ends : endsF txt0 9 7 = true := by kernel_rfl
def txt1 : List UInt8 := [103, 101, 116, 32, 48, 32, 48, 32, 48, 32, 115, 116, 111, 112, 32, 51]
theorem txt1_ends : endsF txt1 3 2 = true := by kernel_rfl
def txt2 : List UInt8 := [108, 111, 97, 100, 32, 48, 32, 50, 32, 103, 101, 116, 32, 48, 32, 48, 32, 48]
theorem txt2_ends : endsF txt2 251 2 = true := by kernel_rfl

def prog1 : List Ins := [⟨6, 0, 0, 0⟩]
def sch0 : Sch := ⟨0, [], [], []⟩
theorem prog1_runs : (runF sch0 prog1 [] 1000).2.2 = 23 := by kernel_rfl

theorem lives_ct {G : Env} (hP : G.P = Tryd.prog) : CT G 17 ⟨[], []⟩ ⟨.f (.bool true), [], []⟩ := by
  refine ct_of_body (N := []) (pc := f17pc) (rs := f17rs) (by rw [hP]; exact f17ok) ?_
  rw [entry_mk]
  have hrun := run_ct hP sch0 prog1 [] 1000 (by simp [prog1]) (by simp [In64])
  have e0 := ends_ct hP txt0 (by simp [txt0]) (9) (7)
  have e1 := ends_ct hP txt1 (by simp [txt1]) (3) (2)
  have e2 := ends_ct hP txt2 (by simp [txt2]) (251) (2)
  rw [txt0_ends] at e0
  rw [txt1_ends] at e1
  rw [txt2_ends] at e2
  simp [f17pc, f17r0, f17r1]
  refine pCall_pure hrun rfl rfl rfl ?_
  simp [iI, f17r2, binF, binI, prog1_runs]
  refine pCall_pure e0 rfl rfl rfl ?_
  simp
  refine pCall_pure e1 rfl rfl rfl ?_
  simp
  refine pCall_pure e2 rfl rfl rfl ?_
  simp [retQ, outSt, f17rs, rvals, RArg.val, resPV]
end Go.Absw

/- Plain facts: the made schema, its world and its programs fit each other. -/
namespace Go.Absw
open Go Go.Proofs
set_option maxRecDepth 100000

theorem schN_b (l : List Int) : 1 ≤ schN l ∧ schN l ≤ 3 := by
  have h := at_b l 1 (n := 3) (by omega)
  unfold schN; omega
theorem schF_kinds (l : List Int) : (1 ≤ (schF l).kinds.length ∧ (schF l).kinds.length ≤ 3) ∧ ∀ k ∈ (schF l).kinds, KOk k := by
  have hb := schN_b (l.take 200)
  obtain ⟨h1, h2, _, _⟩ := kindsN_ok (l.take 200) (schN (l.take 200)) hb.2
  have e : (schF l).kinds = (kindsN (l.take 200) (schN (l.take 200))).1 := rfl
  rw [e]
  exact ⟨by omega, h2⟩
theorem schF_lt (l : List Int) : (schF l).kinds.length < 1000 ∧ (schF l).kinds ≠ [] ∧ ∀ k ∈ (schF l).kinds, k.fields ≠ [] ∧ k.fields.length < 1000 := by
  obtain ⟨h1, h2⟩ := schF_kinds l
  refine ⟨by omega, fun e => by rw [e] at h1; simp at h1, fun k hk => ?_⟩
  obtain ⟨_, g2, g3⟩ := h2 k hk
  exact ⟨g2, by omega⟩
theorem nth0_nat {α : Type} [Inhabited α] (c : List α) (b : Nat) (a : α) (h : c[b]? = some a) : nth0 c (b : Int) = a := by
  unfold nth0 nth
  rw [if_pos (by omega)]
  simp [h]
theorem fit_world (x : Sch) (l : List Int) (odd : Bool) : fitW x (worldF x l odd) := by
  refine ⟨by simp [worldF], fun b kd k hb hk rec hr => ?_⟩
  have hlt : b < x.kinds.length := (List.getElem?_eq_some_iff.1 hb).1
  simp only [worldF, List.getElem?_map, List.getElem?_range hlt, Option.map_some, Option.some.injEq] at hk
  subst hk
  simp only [listF, List.mem_map, List.mem_range] at hr
  obtain ⟨i, _, rfl⟩ := hr
  simp only [recF, List.length_map, List.length_range, nfF, nth0_nat x.kinds b kd hb]
theorem loopF_len (k f up g o n c : Int) : (loopF k f up g o n c).length ≤ 11 := by
  unfold loopF
  split <;> simp
theorem progF_len (x : Sch) (l : List Int) : (progF x l).length ≤ 14 := by
  unfold progF
  simp only
  split
  · simp
  · split
    · simp only [List.length_append, List.length_map, List.length_cons, List.length_nil]
      have := loopF_len (progK x l) (progFd x l) (-1) 0 (7 + atF l 4 2) (atF l 2 12 - 2) (1 + atF l 3 3)
      omega
    · split
      · have := at_b l 6 (n := 9) (by omega)
        simp only [List.length_map, List.length_range]
        omega
      · split
        · have := loopF_len (progK x l) (progFd x l) (progUp x l) (if 0 ≤ progUp x l then atF l 6 (nth0 x.kinds (progUp x l)).fields.length else 0) (7 + atF l 4 2) (atF l 2 12 - 2) (1 + atF l 3 3)
          omega
        · have := loopF_len (progK x l) (progFd x l) (-1) 0 (7 + atF l 4 2) (atF l 2 12 - 2) (1 + atF l 3 3)
          omega
end Go.Absw

/- The law VmRuns: it returns true. -/
namespace Go.Absw
open Go Go.Proofs
set_option maxRecDepth 100000

/-- Arguments that read as more are served, too. -/
theorem ct_nil {G : Env} {f : FuncId} {args args' : List PV} {res : PV} (h : CT G f ⟨args, []⟩ ⟨res, [], []⟩) (hl : args'.length = args.length)
    (hw : ∀ (C : Cells) (τ : Tau) (w : World) (n : Nat) (v : Value) p p', args'[n]? = some p' → args[n]? = some p → RP C (fun _ => 0) τ w v p' → RP C (fun _ => 0) τ w v p) : CT G f ⟨args', []⟩ ⟨res, [], []⟩ := by
  refine ⟨h.1, fun w C τ vs hvs hargs => h.2 w C τ vs (hvs.trans hl) fun n v p hv hp => ?_⟩
  have hlt : n < args'.length := by have := (List.getElem?_eq_some_iff.1 hp).1; simp only at *; omega
  exact hw C τ w n v p _ (List.getElem?_eq_getElem hlt) hp (hargs n v _ hv (List.getElem?_eq_getElem hlt))
theorem nils_sl {C : Cells} {S : Nat → Nat} {τ : Tau} {w : World} {v : Value} (sz : Nat) (h : RP C S τ w v (.f .nils)) : RP C S τ w v (.f (.sl sz [])) := by
  cases h with
  | f _ _ h =>
    cases h
    exact .f _ _ (.sl none 0 sz [] (fun _ _ => .nilFunc) (by simp) (by simp) (fun h => absurd rfl h) (by simp))

theorem rrun_nil_ct {G : Env} (hP : G.P = Tryd.prog) (p : List Ins) (most : Int) (hl : p.length < 1000000) (hm : In64 most) :
    CT G 16 ⟨[.ag ((encX sch0).map .f), .f (encP p), .f .nils, .f (iI most)], []⟩ (runOut (runF sch0 p [] most)) := by
  refine ct_nil (rrun_ct hP sch0 p [] most hl hm ⟨rfl, fun b kd k h => by simp [sch0] at h⟩) rfl ?_
  intro C τ w n v p1 p2 h1 h2 hr
  match n, h1, h2 with
  | 0, h1, h2 => simp at h1 h2; subst h1; subst h2; exact hr
  | 1, h1, h2 => simp at h1 h2; subst h1; subst h2; exact hr
  | 2, h1, h2 => simp at h1 h2; subst h1; subst h2; exact nils_sl 1 hr
  | 3, h1, h2 => simp at h1 h2; subst h1; subst h2; exact hr

@[simp] theorem frzX (σ : St) (ft : List Nat) (x : Sch) : frzL σ ft [none, some 4, some 3, some 5] ((encX x).map PV.f) = (encX x).map PV.f := rfl
@[simp] theorem frzW (σ : St) (ft : List Nat) (w : Wd) : frzC σ ft (some 1) (.f (encW w)) = .f (encW w) := rfl

@[simp] theorem frzP (σ : St) (ft : List Nat) (p : List Ins) : frzC σ ft (some 4) (.f (encP p)) = .f (encP p) := rfl

@[simp] theorem takeX (x : Sch) : List.take 4 ((encX x).map PV.f) = (encX x).map PV.f := rfl
@[simp] theorem frzP0 (σ : St) (ft : List Nat) : frzL σ ft [none, some 4, some 3, some 5] [.f (.int .i64 0), .f .nils, .f .nils, .f .nils] = (encX sch0).map PV.f := rfl
@[simp] theorem frzVP (σ : St) (ft : List Nat) (p : List Ins) : frzV σ ft [some 4] (.f (encP p)) = .f (encP p) := rfl
@[simp] theorem frzVW (σ : St) (ft : List Nat) (w : Wd) : frzV σ ft [some 1] (.f (encW w)) = .f (encW w) := rfl

theorem vmRuns_ct {G : Env} (hP : G.P = Tryd.prog) {l m k : List Int} (hl : ∀ n ∈ l, In64 n) (hm : ∀ n ∈ m, In64 n) (hk : ∀ n ∈ k, In64 n)
    (hll : l.length < 1000000000000000000) (hkl : k.length < 1000000000000000000) {at' how by' most : Int} (hat : In64 at') (hhow : In64 how) (hby : In64 by') (hmost : In64 most) :
    CT G 3 ⟨[.f (encL l), .f (encL m), .f (encL k), .f (iI at'), .f (iI how), .f (iI by'), .f (iI most)], []⟩ ⟨.f (.bool true), [], []⟩ := by
  refine ct_of_body (N := []) (pc := f3pc) (rs := f3rs) (by rw [hP]; exact f3ok) ?_
  rw [entry_mk]
  have he : ∀ x, (encX x).length = 4 := fun _ => rfl
  obtain ⟨x1, x2, x3⟩ := schF_lt l
  simp [f3pc, f3r0, f3r1, iI, encL]
  refine pCall_pure (schema_ct hP hl hll) rfl rfl rfl ?_
  generalize schF l = x at *
  simp [f3r2, he, getN, binF, binI]
  refine pCall_pure (world_ct hP hk hkl (decide (at'.tmod 2 = 0)) x1 (fun k h => (x3 k h).2)) rfl rfl rfl ?_
  have hfit := fit_world x k (decide (at'.tmod 2 = 0))
  generalize worldF x k (decide (at'.tmod 2 = 0)) = w at *
  simp [f3r3, he, getN]
  refine pCall_pure (program_ct hP hm x2 x1 x3) rfl rfl rfl ?_
  have hpl := progF_len x m
  generalize progF x m = p at *
  simp [f3r4]
  refine pCall_pure (bent_ct hP (p := p) (by omega) hat hhow hby) rfl rfl rfl ?_
  have hql := bent_len p at' how by'
  generalize bentF p at' how by' = q at *
  have n4 := aroundF_nonneg by' 4
  have l4 := aroundF_lt by' (most := 4) (by omega)
  have htab : ∀ h, [[FV.int .i64 (-1)], [.int .i64 0], [.int .i64 1000001], [.int .i64 most]][(aroundF by' 4).toNat]'h = [.int .i64 (nth0 [-1, 0, 1000001, most] (aroundF by' 4))] :=
    fun h => pickG (fun n => [FV.int .i64 n]) [-1, 0, 1000001, most] _ ⟨n4, by simp; omega⟩ h
  have hb64 : In64 (nth0 [-1, 0, 1000001, most] (aroundF by' 4)) := by
    have := nth0_mem [-1, 0, 1000001, most] (aroundF by' 4) ⟨n4, by simp; omega⟩
    simp only [List.mem_cons, List.not_mem_nil, or_false] at this
    rcases this with h | h | h | h <;> rw [h] <;> first | exact hmost | (simp [In64])
  have ha64 : In64 (aroundF most 40) := aroundF_in most 40 (i64c (by omega))
  simp [f3r5]
  refine pCall_pure (around_ct hP most 40 hmost (i64c (by omega))) rfl rfl rfl ?_
  simp [iI]
  refine pCall_pure (around_ct hP by' 4 hby (i64c (by omega))) rfl rfl rfl ?_
  simp [iI, n4, l4, htab]
  generalize nth0 [-1, 0, 1000001, most] (aroundF by' 4) = b at *
  generalize aroundF most 40 = a at *
  simp [f3r6]
  unfold f3l0
  refine pwp_loop (α := Nat) (fun i => mkSt [(15, .ptr 115 0 0 0), (16, .f (encW w)), (17, .f (encP p)), (18, .ts 148 0 2 0), (19, .ts 157 0 3 0), (20, .f (.int .i64 i))]
    [(115, ⟨0, .box 27 false ((encX x).map .f)⟩), (148, ⟨0, .row 32 1 0 0 [[encP p], [encP q]]⟩), (157, ⟨0, .row 3 1 0 0 [[.int .i64 300], [.int .i64 a], [.int .i64 b]]⟩)]) (fun i => i ≤ 2) (fun i => 2 - i) 0 (by simp) (by simp [keepSt]) ?_
  intro i hi
  simp [f3r7, binF, binI]
  refine ccase_i (fun h => ?_) (fun h => ?_)
  · have hi2 : i < 2 := by simp at h; omega
    have hi2' : (i : Int) < 2 := by omega
    have wi : IntKind.i64.wrap ((i : Int) + 1) = (i : Int) + 1 := w64 (by omega)
    obtain ⟨P, hPl, hPg⟩ : ∃ P : List Ins, P.length < 1000000 ∧ ∀ h, [[encP p], [encP q]][i]'h = [encP P] := by
      match i, hi2 with
      | 0, _ => exact ⟨p, by omega, fun _ => rfl⟩
      | 1, _ => exact ⟨q, by omega, fun _ => rfl⟩
    simp [f3r9]
    unfold f3l1
    refine pwp_loop (α := Nat) (fun n => mkSt [(15, .ptr 115 0 0 0), (16, .f (encW w)), (17, .f (encP p)), (18, .ts 148 0 2 0), (19, .ts 157 0 3 0), (20, .f (.int .i64 i)), (21, .f (.int .i64 n))]
      [(115, ⟨0, .box 27 false ((encX x).map .f)⟩), (148, ⟨0, .row 32 1 0 0 [[encP p], [encP q]]⟩), (157, ⟨0, .row 3 1 0 0 [[.int .i64 300], [.int .i64 a], [.int .i64 b]]⟩)]) (fun n => n ≤ 3) (fun n => 3 - n) 0 (by simp) (by simp [keepSt]) ?_
    intro n hn
    simp [f3r10, binF, binI]
    refine ccase_i (fun h => ?_) (fun h => ?_)
    · have hn3 : n < 3 := by simp at h; omega
      have hn3' : (n : Int) < 3 := by omega
      have wn : IntKind.i64.wrap ((n : Int) + 1) = (n : Int) + 1 := w64 (by omega)
      obtain ⟨v, hv64, hvg⟩ : ∃ v : Int, In64 v ∧ ∀ h, [[FV.int .i64 300], [.int .i64 a], [.int .i64 b]][n]'h = [.int .i64 v] := by
        match n, hn3 with
        | 0, _ => exact ⟨300, by simp [In64], fun _ => rfl⟩
        | 1, _ => exact ⟨a, ha64, fun _ => rfl⟩
        | 2, _ => exact ⟨b, hb64, fun _ => rfl⟩
      simp [f3r12, hn3, hn3', hvg]
      refine join_k (mkSt [(15, .ptr 115 0 0 0), (16, .f (encW w)), (17, .f (encP p)), (18, .ts 148 0 2 0), (19, .ts 157 0 3 0), (20, .f (.int .i64 i)), (21, .f (.int .i64 n)), (22, .f (.int .i64 (if 2000 < v ∧ v ≤ 1000000 then 2000 else v)))]
        [(115, ⟨0, .box 27 false ((encX x).map .f)⟩), (148, ⟨0, .row 32 1 0 0 [[encP p], [encP q]]⟩), (157, ⟨0, .row 3 1 0 0 [[.int .i64 300], [.int .i64 a], [.int .i64 b]]⟩)]) ?_ ?_
      · by_cases c1 : 2000 < v
        · by_cases c2 : v ≤ 1000000
          · simp [f3r13, f3r14, binF, binI, c1, c2, keepSt]
          · simp [f3r13, binF, binI, c1, c2, keepSt]
        · simp [f3r13, binF, binI, c1, keepSt]
      have hs64 : In64 (if 2000 < v ∧ v ≤ 1000000 then 2000 else v) := by split; exact i64c (by omega); exact hv64
      generalize (if 2000 < v ∧ v ≤ 1000000 then 2000 else v) = st at *
      have hr1 := run_ct hP x P w st hPl hs64
      have hr2 := rrun_ct hP x P w st hPl hs64 hfit
      generalize runF x P w st = R at *
      simp [f3r15, he, getN, hi2, hi2', hPg]
      refine pCall_pure (own_ct hP P hPl) rfl rfl rfl ?_
      simp
      refine pCall_pure hr1 rfl rfl rfl ?_
      simp [iI, f3r16, he, getN, hi2, hi2', hPg]
      refine pCall_pure hr2 rfl rfl rfl ?_
      simp [iI, f3r17, f3r11, binF, binI, wn, keepSt]
      exact ⟨n + 1, by omega, by omega, rfl⟩
    · have hn3 : n = 3 := by simp at h; omega
      subst hn3
      simp [f3r8, binF, binI, wi, keepSt]
      exact ⟨i + 1, by omega, by omega, rfl⟩
  · have hi2 : i = 2 := by simp at h; omega
    subst hi2
    have hr1 := run_ct hP sch0 p [] 10 (by omega) (i64c (by omega))
    have hr2 := rrun_nil_ct hP p 10 (by omega) (i64c (by omega))
    generalize runF sch0 p [] 10 = R at *
    simp [f3r19]
    refine pCall_pure (own_ct hP p (by omega)) rfl rfl rfl ?_
    simp
    refine pCall_pure hr1 rfl rfl rfl ?_
    simp [iI, f3r20]
    refine pCall_pure hr2 rfl rfl rfl ?_
    simp [iI, f3r21, binF, binI]
    refine pCall_pure (lives_ct hP) rfl rfl rfl ?_
    simp [retQ, outSt, f3rs, rvals, RArg.val, resPV]
end Go.Absw
