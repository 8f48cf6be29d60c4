/- What a row needs that reads the table of powers of ten. Conditions: told at each. -/
import Derived.Test.YtpkhdnaeaeiidaaDoorRa
import Derived.Test.YtpkhdnaeaeiidaaDoorXi
import Derived.Lib.LaidTab
import Derived.ChangeMaps5
set_option linter.unusedSimpArgs false
set_option linter.unusedVariables false

/- What the rows of laws need that read the table of powers of ten: the package's variables as the machine reads them; a string argument. Conditions: those of the row. -/
namespace Go.Proofs.YtpkhdnaeaeiidaaDoor
open Go Go.Absw Go.ChangeShapes Go.WideShapes Go.ChangeAt Go.RowKit
set_option maxRecDepth 100000

def glT : Nat → List FV := fun g => if g = 0 then powT else []
theorem read9 : Tryd.prog.readableRec 9 = true := by kernel_rfl
theorem lt9 : 9 < Tryd.prog.types.size := of_decide_eq_true (by kernel_rfl)

theorem tab_of_laid {W : World} (h : laidMetH Tryd.prog laidL W) : Lib.TabIs Tryd.prog W "internal/strconv.uint64pow10" .u64 Lib.pow10Tab := by
  obtain ⟨ps, ⟨g0, t0, c0, f0, p0, q0, _, _, _, _, ⟨g1, t1, c1, f1, p1, q1, _, _, _, _, ⟨g', t', cs, fuel, p, q, hg', ht', hvar, hd, _, _⟩, _⟩, _⟩, _⟩ := h
  obtain rfl := Option.some.inj ((show Tryd.prog.globalNamed "internal/strconv.uint64pow10" = some 0 by kernel_rfl).symm.trans hg')
  obtain rfl := Option.some.inj ((show (Tryd.prog.globals[0]?).map (·.type) = some 174 by kernel_rfl).symm.trans ht')
  unfold Lib.TabIs
  rw [hvar, ← Lib.cells_of_tab (k := .u64) (zs := Lib.pow10Tab) Tryd.underlying174 Tryd.underlying149 (by kernel_rfl) (by kernel_rfl) hd]
theorem glob_of_laid {W : World} (h : laidMetH Tryd.prog laidL W) : GlobOK ⟨Tryd.prog, glT⟩ (allC W) W := by
  have ht := tab_of_laid h
  have hc := fun i => World.var?_cell (show Tryd.prog.globalNamed "internal/strconv.uint64pow10" = some 0 by kernel_rfl) ht i
  have hl := Lib.pow10Tab_length
  refine ⟨fun g j y hy => ?_, fun g hg => ?_⟩
  · simp only [glT] at hy
    split at hy
    · rename_i h0
      subst h0
      simp only [powT, List.getElem?_map, Option.map_eq_some_iff] at hy
      obtain ⟨z, hz, rfl⟩ := hy
      have hj : W.cell? ⟨0, j, none⟩ = some (.int .u64 z) := by rw [hc]; simp [hz]
      exact ⟨allC_of_cell hj, _, hj, .int _ _⟩
    · simp at hy
  · simp only [glT] at hg ⊢
    split at hg
    · rename_i h0
      subst h0
      simp only [if_true, powT_len]
      have hj : W.cell? ⟨0, 0, none⟩ = some (.int .u64 1) := by rw [hc]; rfl
      exact ⟨allC_of_cell (o := 0) hj, by rw [hc]; simp [hl]⟩
    · exact absurd rfl hg

section
variable {H : Type} {enc : TypeId × Value → H} {W : World}
theorem rd_str {base : Nat} {v : Value} {d : DataW H} {p : List MemPlace} (hval : Value.okWide Tryd.prog W .any base 9 v) (h : TrodIn enc W 9 v d p) : ∃ s : List UInt8, v = .string ⟨s.toArray⟩ := by
  obtain ⟨s, rfl, _, _, _⟩ := Go.ChangeMaps.open_string Tryd.underlying9 hval h
  exact ⟨s.data.toList, by simp⟩
end
end Go.Proofs.YtpkhdnaeaeiidaaDoor
