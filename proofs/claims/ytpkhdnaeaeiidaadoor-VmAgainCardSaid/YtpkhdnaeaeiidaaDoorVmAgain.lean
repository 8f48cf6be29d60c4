/- The card of VmAgain holds: whatever the input, the law returns true and its arguments read as before. Conditions: those of the card. -/
import Derived.Test.YtpkhdnaeaeiidaaDoorRa
import Derived.Test.YtpkhdnaeaeiidaaDoorRb
import Derived.Test.YtpkhdnaeaeiidaaDoorXj
import Derived.Test.YtpkhdnaeaeiidaaDoorCards
import Derived.Test.YtpkhdnaeaeiidaaDoorTie
import Derived.SevenTiedAt
set_option linter.unusedSimpArgs false
set_option linter.unusedVariables false

/- The row and the card of VmAgain: whatever the input, the law returns true and its arguments read as before. -/
namespace Go.Proofs.YtpkhdnaeaeiidaaDoor
open Go Go.Absw Go.ChangeShapes Go.WideShapes Go.ChangeAt Go.RowKit
set_option maxRecDepth 100000

theorem vmAgain_lifted (os : Os) (started : os.Started) (H : Type) (enc : TypeId × Value → H) :
    ReturnsInHanded {} Tryd.checked os 8 .any (fun w args => (Rows.vmAgainSpec.pre enc Tryd.prog Tryd.f8 [] false w args ∧ laidMetH Tryd.prog laidL w) ∧ sizedMet enc Tryd.prog Tryd.f8 (OpenSpec.ofChange Rows.vmAgainSpec) false w args)
      (Rows.vmAgainSpec.post enc Tryd.prog Tryd.f8 false true false false) := by
  refine returnsInHanded_of_change_and (C := Tryd.checked) (X := fun w _ => laidMetH Tryd.prog laidL w) (fun _ _ _ hh h => h.of_heap hh) own started (by kernel_rfl) Tryd.func8
    (ChangeSpec.witness_shaped (enc := enc) (C := Tryd.checked) (os := os) (X := fun w _ => laidMetH Tryd.prog laidL w) false (World.doorLaid Tryd.prog 400 os) #[.slice none 0 0, .slice none 0 0, .slice none 0 0, .slice none 0 0] 8 rfl (door_shaped os _) (by kernel_rfl) (by kernel_rfl) (by kernel_rfl) (door_met os _)) ?_
  intro W base args ds gs before hval0 hW _ hs hlaid _
  have hval : ∀ (j : Nat) t v, Tryd.f8.params[j]? = some t → args[j]? = some v → Value.okWide Tryd.prog W .any base t v := hval0
  have hW' := hW
  obtain ⟨p, q, hA0, hV, rfl, hfz, hnd⟩ := hW
  have hA : DataW.TrodAll enc Tryd.prog W 0 (fun _ => true) true Tryd.f8.params.toList args.toList ds p := hA0
  rw [Tryd.params8] at hA hval
  obtain ⟨v0, vs0, d0, ds0, p0, q0, ha0, rfl, rfl, h0, hr0⟩ := trodAll_cons hA
  obtain ⟨v1, vs1, d1, ds1, p1, q1, rfl, rfl, rfl, h1, hr1⟩ := trodAll_cons hr0
  obtain ⟨v2, vs2, d2, ds2, p2, q2, rfl, rfl, rfl, h2, hr2⟩ := trodAll_cons hr1
  obtain ⟨v3, vs3, d3, ds3, p3, q3, rfl, rfl, rfl, h3, hr3⟩ := trodAll_cons hr2
  obtain ⟨rfl, rfl, rfl⟩ := trodAll_nil hr3
  obtain ⟨rfl, rfl⟩ := trodVars_none hV
  obtain rfl : args = #[v0, v1, v2, v3] := by cases args; simp_all
  obtain ⟨x0, rx0, hx0, hl0⟩ := rd_ints (hval 0 22 v0 rfl rfl) h0 hs (j := 0) (by rw [Tryd.params8]; rfl) rfl
  obtain ⟨x1, rx1, hx1, hl1⟩ := rd_ints (hval 1 22 v1 rfl rfl) h1 hs (j := 1) (by rw [Tryd.params8]; rfl) rfl
  obtain ⟨x2, rx2, hx2, hl2⟩ := rd_ints (hval 2 22 v2 rfl rfl) h2 hs (j := 2) (by rw [Tryd.params8]; rfl) rfl
  obtain ⟨x3, rx3, hx3, hl3⟩ := rd_ints (hval 3 22 v3 rfl rfl) h3 hs (j := 3) (by rw [Tryd.params8]; rfl) rfl
  have hct := vmAgain_ct (G := ⟨Tryd.prog, glT⟩) rfl rfl hx0 hx1 hx2 hx3 hl0 hl2
  refine (call_of_ct' hct (glob_of_laid hlaid) (vs := #[v0, v1, v2, v3]) rfl (fun n v x hv hx => ?_)).mono ?_
  · match n, hv, hx with
    | 0, hv, hx => simp at hv hx; subst hv; subst hx; exact rx0
    | 1, hv, hx => simp at hv hx; subst hv; subst hx; exact rx1
    | 2, hv, hx => simp at hv hx; subst hv; subst hx; exact rx2
    | 3, hv, hx => simp at hv hx; subst hv; subst hx; exact rx3
  rintro e W' ⟨rfl, hb⟩
  have hlt : ∀ x ∈ p0 ++ (p1 ++ (p2 ++ (p3 ++ []))), x.block < W.heap.size := fun x hx => hW'.lt x (by simpa using hx)
  have keep : ∀ {t : TypeId} {v : Value} {d : DataW H} {ps : List MemPlace}, Tryd.prog.readableRec t = true → t < Tryd.prog.types.size → TrodIn enc W t v d ps → (∀ x ∈ ps, x.block < W.heap.size) → DataW.Trod enc Tryd.prog W' 0 (fun b => decide (b < W.heap.size)) true t v d ps :=
    fun hr ht h hx => Below.trod laidOut hr ht h hb hx
  refine ⟨_, rfl, _, _, _, [], p0 ++ (p1 ++ (p2 ++ (p3 ++ []))), [], hW', ?_, ?_, ?_, hb.frame _, fun h => by cases h⟩
  · exact trodAll_mk1 (shut_bool Tryd.underlying4 true)
  · show DataW.TrodAll enc Tryd.prog W' 0 _ true Tryd.f8.params.toList _ [d0, d1, d2, d3] _
    rw [Tryd.params8]
    exact ⟨_, _, keep read22 lt22 h0 (fun x hx => hlt x (by simp [hx])), ⟨_, _, keep read22 lt22 h1 (fun x hx => hlt x (by simp [hx])), ⟨_, _, keep read22 lt22 h2 (fun x hx => hlt x (by simp [hx])), ⟨_, _, keep read22 lt22 h3 (fun x hx => hlt x (by simp [hx])), rfl, rfl⟩, rfl⟩, rfl⟩, rfl⟩
  · rfl

theorem vmAgain_said : Rows.VmAgainSaid :=
  OpenClaim.holds_of_wide 8 Tryd.f8 rfl rfl rfl rfl rfl rfl rfl ⟨rfl, rfl, rfl, rfl, rfl⟩ rfl rfl rfl rfl rfl (by kernel_rfl) Tryd.func8 (by kernel_rfl)
    (of_decide_eq_true (by kernel_rfl)) (by unfold Func.isWrapper; rw [if_neg (of_decide_eq_false (by kernel_rfl))]; exact ⟨rfl, rfl⟩)
    (fun os started H enc _ => vmAgain_lifted os started H enc)

theorem vmAgain_holds : Rows.VmAgainCardSaid :=
  Claim7.holds_tied_plain_at .later [] _ _ _ _
    vmAgain_said (fun _ h => by cases h) (by kernel_rfl) (fun _ h => by cases h) vmAgain_row_tie rfl ⟨rfl, rfl⟩ (by kernel_rfl) rfl
    (fun f fn hf hfn => by
      obtain rfl : f = 8 := Option.some.inj ((show Tryd.prog.funcNamed "diorama/dioramalaw29.VmAgain" = some 8 by kernel_rfl).symm.trans hf) |>.symm
      obtain rfl : fn = Tryd.f8 := (Option.some.inj (Tryd.func8.symm.trans hfn)).symm
      exact ⟨by kernel_rfl, fun j t ht => by
        rw [Tryd.params8] at ht
        have hm : t ∈ [22, 22, 22, 22] := by simpa using Array.mem_of_getElem? ht
        have hall : ([22, 22, 22, 22].all fun u => !Tryd.prog.wantsStandIn u) = true := by kernel_rfl
        exact (show Tryd.prog.wantsStandIn t = false by simpa using List.all_eq_true.1 hall t hm)⟩)
    (by kernel_rfl)
#print axioms vmAgain_holds
end Go.Proofs.YtpkhdnaeaeiidaaDoor
