/- What a law's row needs beside its contract. Conditions: told at each. -/
import Derived.Test.YtpkhdnaeaeiidaaDoorRows
import Derived.Test.YtpkhdnaeaeiidaaDoorKc
import Derived.Below
import Derived.Test.YtpkhdnaeaeiidaaDoorXa
import Derived.ProofKit
import Derived.LaidMore
import Derived.OpenShut
import Derived.ChangeSlices
import Derived.SizedLaws
import Derived.Carry
import Derived.Stop.Joined
set_option linter.unusedSimpArgs false
set_option linter.unusedVariables false

/- What a law's row needs beside its contract: the arguments as the abstract machine reads them, the world that the text lays, the way from a contract to the row's end. -/
namespace Go.Proofs.YtpkhdnaeaeiidaaDoor
open Go Go.Absw Go.ChangeShapes Go.WideShapes Go.ChangeAt Go.RowKit
set_option maxRecDepth 100000

theorem own : ownKnob Tryd.prog.godebug = none := by kernel_rfl
theorem laidOut : laidOutB Tryd.prog = true := by kernel_rfl
theorem cells3 : Tryd.prog.cellsOf 3 = 1 := by kernel_rfl
theorem bytes3 : Tryd.prog.bytesOf 3 = 8 := by kernel_rfl
theorem read22 : Tryd.prog.readableRec 22 = true := by kernel_rfl
theorem lt22 : 22 < Tryd.prog.types.size := of_decide_eq_true (by kernel_rfl)
theorem read3 : Tryd.prog.readableRec 3 = true := by kernel_rfl
theorem lt3 : 3 < Tryd.prog.types.size := of_decide_eq_true (by kernel_rfl)

def laidL : List (String × DataW Unit) := [("math/bits.deBruijn32tab", Rows.laid_math_bits_deBruijn32tab), ("math/bits.deBruijn64tab", Rows.laid_math_bits_deBruijn64tab), ("internal/strconv.uint64pow10", Rows.laid_internal_strconv_uint64pow10), ("strconv.ErrRange", Rows.laid_strconv_ErrRange), ("strconv.ErrSyntax", Rows.laid_strconv_ErrSyntax)]

theorem door_met (os : Os) (args : Array Value) : laidMetH Tryd.prog laidL ((World.doorLaid Tryd.prog 400 os).forCall (fun _ _ => 0) ⟨#[], args, []⟩).memory :=
  laidMetH_of_parts3 (fuel := 8) (laidMet_of_run' 8 (by kernel_rfl) (by kernel_rfl)) (by kernel_rfl) (by kernel_rfl)
theorem door_shaped (os : Os) (args : Array Value) : ((World.doorLaid Tryd.prog 400 os).forCall (fun _ _ => 0) ⟨#[], args, []⟩).Shaped Tryd.prog :=
  World.shaped_of_RefB (by kernel_rfl) (by kernel_rfl)

/-- All cells of all blocks there are. -/
def allC (W : World) : Cells := fun b _ => b < W.heap.size
theorem allC_lt (W : World) (b o : Nat) (h : allC W b o) : b < W.heap.size := h
theorem allC_of_cell {W : World} {b o : Nat} {v : Value} (h : W.cell? ⟨b, o, none⟩ = some v) : allC W b o := by
  unfold allC
  cases hb : W.heap[b]? with
  | some x => exact (Array.getElem?_eq_some_iff.1 hb).1
  | none => simp [World.cell?, hb] at h

section
variable {H : Type} {enc : TypeId × Value → H} {W : World}
abbrev TrodIn (enc : TypeId × Value → H) (W : World) (t : TypeId) (v : Value) (d : DataW H) (p : List MemPlace) : Prop := DataW.Trod enc Tryd.prog W 0 (fun _ => true) true t v d p

theorem wf64 {n : Int} (h : (Lit.int .i64 n).wf = true) : In64 n := by
  simp only [Lit.wf, Bool.and_eq_true, decide_eq_true_eq] at h
  exact ⟨h.1, h.2⟩
theorem rd_int {base : Nat} {v : Value} {d : DataW H} {p : List MemPlace} (hval : Value.okWide Tryd.prog W .any base 3 v) (h : TrodIn enc W 3 v d p) : ∃ n : Int, v = .int .i64 n ∧ In64 n := by
  obtain ⟨n, rfl, _, _, hw⟩ := open_int Tryd.underlying3 hval h
  exact ⟨n, rfl, wf64 hw⟩

theorem plain_addr {a : Addr} {v : Value} (h : W.cell? (a.add 0) = some v) : ∃ b o, a = ⟨b, o, none⟩ := by
  have e0 : a.add 0 = a := rfl
  rw [e0] at h
  obtain ⟨b, o, s⟩ := a
  cases s with
  | none => exact ⟨b, o, rfl⟩
  | some x =>
    unfold World.cell? at h
    split at h
    · simp at h
    · cases h

theorem rd_ints {base : Nat} {v : Value} {d : DataW H} {p : List MemPlace} (hval : Value.okWide Tryd.prog W .any base 22 v) (h : TrodIn enc W 22 v d p) {ts : List TypeId} {ds : List (DataW H)} (hs : (DataW.weightsEach Tryd.prog ts ds).all (· ≤ reachBytes) = true) {j : Nat} (ht : ts[j]? = some 22) (hd : ds[j]? = some d) :
    ∃ l : List Int, RP (allC W) (fun _ => 0) (fun _ => none) W v (.f (encL l)) ∧ (∀ n ∈ l, In64 n) ∧ l.length < 1000000000000000000 := by
  obtain ⟨fuel, hf⟩ := h
  obtain ⟨a0, len, cap, rfl⟩ := okWide_slice Tryd.underlying22 hval
  rcases open_ints Tryd.underlying22 Tryd.underlying3 cells3 hf with ⟨hcs, hx⟩ | ⟨a, len', cap', zs, hcs, _, hl, hm, hz, hx, hcell, hwz⟩
  · simp [Value.cells] at hcs
    obtain ⟨rfl, rfl, rfl⟩ := hcs
    refine ⟨[], .f _ _ (.sl none 0 1 [] (fun _ _ => .nilFunc) (by simp) (by simp) (fun h => absurd rfl h) (by simp)), by simp, by simp⟩
  · simp [Value.cells] at hcs
    obtain ⟨rfl, rfl, rfl⟩ := hcs
    simp only [Prod.mk.injEq] at hx
    obtain ⟨rfl, rfl⟩ := hx
    simp only [if_true] at hz
    have hsz := sized_slice hs ht hd Tryd.underlying22
    rw [bytes3] at hsz
    simp only [lits, List.length_map, List.length_take, List.length_drop] at hsz
    have hrb := reachBytes_lt
    have hlen : (zs.take len).length = len := by rw [List.length_take]; omega
    refine ⟨zs.take len, ?_, fun n hn => wf64 (hwz n (List.mem_of_mem_take hn)), by omega⟩
    have hsl := RF.sl (C := allC W) (w := W) (some a) cap 1 ((zs.take len).map fun n => [iI n]) (fun i _ => .int .i64 (zs.getD i 0)) (by simp; omega) (by intro c hc; obtain ⟨n, _, rfl⟩ := List.mem_map.1 hc; rfl)
      (fun hne => ⟨a.block, a.off, ?_, fun i j hi hj => ?_⟩) (fun i j c y hc hy => ?_)
    · rw [List.length_map, hlen] at hsl
      exact .f _ _ hsl
    · have hp : 0 < len := by
        rcases Nat.eq_zero_or_pos len with h | h
        · subst h; simp at hne
        · exact h
      obtain ⟨b, o, rfl⟩ := plain_addr (hcell 0 (by omega))
      rfl
    · have hi' : i < len := by simp at hi; omega
      have hj' : j = 0 := by omega
      subst hj'
      obtain ⟨b, o, rfl⟩ := plain_addr (hcell 0 (by omega))
      have h1 := hcell i (by omega)
      have e1 : (⟨b, o + i * 1 + 0, none⟩ : Addr) = (⟨b, o, none⟩ : Addr).add i := by
        unfold Addr.add
        split
        · rename_i h; subst h; simp
        · simp
      simp only [e1]
      exact ⟨allC_of_cell (e1 ▸ h1), h1⟩
    · rw [List.getElem?_map] at hc
      obtain ⟨n, hn, rfl⟩ := Option.map_eq_some_iff.1 hc
      have hi : zs[i]? = some n := by
        rw [List.getElem?_take] at hn
        split at hn
        · exact hn
        · cases hn
      have hj : j = 0 ∧ y = iI n := by
        match j, hy with
        | 0, hy => simp at hy; exact ⟨rfl, hy.symm⟩
      obtain ⟨rfl, rfl⟩ := hj
      have : zs.getD i 0 = n := by simp [List.getD, hi]
      rw [this]; exact .int _ _
end

/-- A law's contract as a call in the model. -/
theorem call_of_ct' {gl : Nat → List FV} {f : FuncId} {args : List PV} (hct : CT ⟨Tryd.prog, gl⟩ f ⟨args, []⟩ ⟨.f (.bool true), [], []⟩) {W : World} (hgl : GlobOK ⟨Tryd.prog, gl⟩ (allC W) W) {vs : Array Value} (hs : vs.size = args.length)
    (ha : ∀ (n : Nat) v p, vs[n]? = some v → args[n]? = some p → RP (allC W) (fun _ => 0) (fun _ => none) W v p) : Calls Tryd.prog f vs W fun e w' => e = .returned (.bool true) ∧ Below W.heap.size W w' := by
  have gone : ∀ t, (ctk [] t).c = .gone := fun t => by simp [ctk]
  refine (hct.2 W (allC W) (fun _ => none) vs hs ha (fun t => by rw [gone]; trivial) (fun t t' k k' hl => by rw [gone] at hl; cases hl) (allC_lt W) hgl).mono ?_
  rintro e w' ⟨v, C', τ', rfl, hr, _, _, _, _, hstp, _⟩
  refine ⟨?_, ⟨hstp.os, hstp.tape, hstp.output, hstp.size, fun b hb => hstp.blk b hb ?_⟩⟩
  · cases hr with
    | f _ _ h => cases h; rfl
  · rintro ⟨t, hl, _⟩
    rw [gone] at hl; cases hl
theorem call_of_ct {f : FuncId} {args : List PV} (hct : CT ⟨Tryd.prog, fun _ => []⟩ f ⟨args, []⟩ ⟨.f (.bool true), [], []⟩) {W : World} {vs : Array Value} (hs : vs.size = args.length)
    (ha : ∀ (n : Nat) v p, vs[n]? = some v → args[n]? = some p → RP (allC W) (fun _ => 0) (fun _ => none) W v p) : Calls Tryd.prog f vs W fun e w' => e = .returned (.bool true) ∧ Below W.heap.size W w' :=
  call_of_ct' hct ⟨fun g j y h => by simp at h, fun g h => absurd rfl h⟩ hs ha
end Go.Proofs.YtpkhdnaeaeiidaaDoor
