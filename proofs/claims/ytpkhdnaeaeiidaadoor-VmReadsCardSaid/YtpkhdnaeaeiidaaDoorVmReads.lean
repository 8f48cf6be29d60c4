/- The card of VmReads holds: whatever the input, the law returns true and its arguments read as before. Conditions: those of the card. -/
import Derived.Test.YtpkhdnaeaeiidaaDoorRa
import Derived.Test.YtpkhdnaeaeiidaaDoorRb
import Derived.Test.YtpkhdnaeaeiidaaDoorXi
import Derived.Test.YtpkhdnaeaeiidaaDoorCards
import Derived.Test.YtpkhdnaeaeiidaaDoorTie
import Derived.SevenTiedAt
set_option linter.unusedSimpArgs false
set_option linter.unusedVariables false

/- The row and the card of VmReads: whatever the input, the law returns true and its arguments read as before. -/
namespace Go.Proofs.YtpkhdnaeaeiidaaDoor
open Go Go.Absw Go.ChangeShapes Go.WideShapes Go.ChangeAt Go.RowKit
set_option maxRecDepth 100000

theorem vmReads_lifted (os : Os) (started : os.Started) (H : Type) (enc : TypeId × Value → H) :
    ReturnsInHanded {} Tryd.checked os 7 .any (fun w args => (Rows.vmReadsSpec.pre enc Tryd.prog Tryd.f7 [] false w args ∧ laidMetH Tryd.prog laidL w) ∧ sizedMet enc Tryd.prog Tryd.f7 (OpenSpec.ofChange Rows.vmReadsSpec) false w args)
      (Rows.vmReadsSpec.post enc Tryd.prog Tryd.f7 false true false false) := by
  refine returnsInHanded_of_change_and (C := Tryd.checked) (X := fun w _ => laidMetH Tryd.prog laidL w) (fun _ _ _ hh h => h.of_heap hh) own started (by kernel_rfl) Tryd.func7
    (ChangeSpec.witness_shaped (enc := enc) (C := Tryd.checked) (os := os) (X := fun w _ => laidMetH Tryd.prog laidL w) false (World.doorLaid Tryd.prog 400 os) #[.slice none 0 0, .slice none 0 0, .int .i64 0, .int .i64 0, .int .i64 0, .string ⟨#[]⟩] 8 rfl (door_shaped os _) (by kernel_rfl) (by kernel_rfl) (by kernel_rfl) (door_met os _)) ?_
  intro W base args ds gs before hval0 hW _ hs hlaid _
  have hval : ∀ (j : Nat) t v, Tryd.f7.params[j]? = some t → args[j]? = some v → Value.okWide Tryd.prog W .any base t v := hval0
  have hW' := hW
  obtain ⟨p, q, hA0, hV, rfl, hfz, hnd⟩ := hW
  have hA : DataW.TrodAll enc Tryd.prog W 0 (fun _ => true) true Tryd.f7.params.toList args.toList ds p := hA0
  rw [Tryd.params7] at hA hval
  obtain ⟨v0, vs0, d0, ds0, p0, q0, ha0, rfl, rfl, h0, hr0⟩ := trodAll_cons hA
  obtain ⟨v1, vs1, d1, ds1, p1, q1, rfl, rfl, rfl, h1, hr1⟩ := trodAll_cons hr0
  obtain ⟨v2, vs2, d2, ds2, p2, q2, rfl, rfl, rfl, h2, hr2⟩ := trodAll_cons hr1
  obtain ⟨v3, vs3, d3, ds3, p3, q3, rfl, rfl, rfl, h3, hr3⟩ := trodAll_cons hr2
  obtain ⟨v4, vs4, d4, ds4, p4, q4, rfl, rfl, rfl, h4, hr4⟩ := trodAll_cons hr3
  obtain ⟨v5, vs5, d5, ds5, p5, q5, rfl, rfl, rfl, h5, hr5⟩ := trodAll_cons hr4
  obtain ⟨rfl, rfl, rfl⟩ := trodAll_nil hr5
  obtain ⟨rfl, rfl⟩ := trodVars_none hV
  obtain rfl : args = #[v0, v1, v2, v3, v4, v5] := by cases args; simp_all
  obtain ⟨x0, rx0, hx0, hl0⟩ := rd_ints (hval 0 22 v0 rfl rfl) h0 hs (j := 0) (by rw [Tryd.params7]; rfl) rfl
  obtain ⟨x1, rx1, hx1, hl1⟩ := rd_ints (hval 1 22 v1 rfl rfl) h1 hs (j := 1) (by rw [Tryd.params7]; rfl) rfl
  obtain ⟨x2, rfl, hx2⟩ := rd_int (hval 2 3 v2 rfl rfl) h2
  obtain ⟨x3, rfl, hx3⟩ := rd_int (hval 3 3 v3 rfl rfl) h3
  obtain ⟨x4, rfl, hx4⟩ := rd_int (hval 4 3 v4 rfl rfl) h4
  obtain ⟨x5, rfl⟩ := rd_str (hval 5 9 v5 rfl rfl) h5
  have hct := vmReads_ct (G := ⟨Tryd.prog, glT⟩) rfl rfl hx0 hx1 hl0 hx2 hx3 hx4 x5
  refine (call_of_ct' hct (glob_of_laid hlaid) (vs := #[v0, v1, .int .i64 x2, .int .i64 x3, .int .i64 x4, .string ⟨x5.toArray⟩]) rfl (fun n v x hv hx => ?_)).mono ?_
  · match n, hv, hx with
    | 0, hv, hx => simp at hv hx; subst hv; subst hx; exact rx0
    | 1, hv, hx => simp at hv hx; subst hv; subst hx; exact rx1
    | 2, hv, hx => simp at hv hx; subst hv; subst hx; exact .f _ _ (.int _ _)
    | 3, hv, hx => simp at hv hx; subst hv; subst hx; exact .f _ _ (.int _ _)
    | 4, hv, hx => simp at hv hx; subst hv; subst hx; exact .f _ _ (.int _ _)
    | 5, hv, hx => simp at hv hx; subst hv; subst hx; exact .f _ _ (.str _)
  rintro e W' ⟨rfl, hb⟩
  have hlt : ∀ x ∈ p0 ++ (p1 ++ (p2 ++ (p3 ++ (p4 ++ (p5 ++ []))))), x.block < W.heap.size := fun x hx => hW'.lt x (by simpa using hx)
  have keep : ∀ {t : TypeId} {v : Value} {d : DataW H} {ps : List MemPlace}, Tryd.prog.readableRec t = true → t < Tryd.prog.types.size → TrodIn enc W t v d ps → (∀ x ∈ ps, x.block < W.heap.size) → DataW.Trod enc Tryd.prog W' 0 (fun b => decide (b < W.heap.size)) true t v d ps :=
    fun hr ht h hx => Below.trod laidOut hr ht h hb hx
  refine ⟨_, rfl, _, _, _, [], p0 ++ (p1 ++ (p2 ++ (p3 ++ (p4 ++ (p5 ++ []))))), [], hW', ?_, ?_, ?_, hb.frame _, fun h => by cases h⟩
  · exact trodAll_mk1 (shut_bool Tryd.underlying4 true)
  · show DataW.TrodAll enc Tryd.prog W' 0 _ true Tryd.f7.params.toList _ [d0, d1, d2, d3, d4, d5] _
    rw [Tryd.params7]
    exact ⟨_, _, keep read22 lt22 h0 (fun x hx => hlt x (by simp [hx])), ⟨_, _, keep read22 lt22 h1 (fun x hx => hlt x (by simp [hx])), ⟨_, _, keep read3 lt3 h2 (fun x hx => hlt x (by simp [hx])), ⟨_, _, keep read3 lt3 h3 (fun x hx => hlt x (by simp [hx])), ⟨_, _, keep read3 lt3 h4 (fun x hx => hlt x (by simp [hx])), ⟨_, _, keep read9 lt9 h5 (fun x hx => hlt x (by simp [hx])), rfl, rfl⟩, rfl⟩, rfl⟩, rfl⟩, rfl⟩, rfl⟩
  · rfl

theorem vmReads_said : Rows.VmReadsSaid :=
  OpenClaim.holds_of_wide 7 Tryd.f7 rfl rfl rfl rfl rfl rfl rfl ⟨rfl, rfl, rfl, rfl, rfl⟩ rfl rfl rfl rfl rfl (by kernel_rfl) Tryd.func7 (by kernel_rfl)
    (of_decide_eq_true (by kernel_rfl)) (by unfold Func.isWrapper; rw [if_neg (of_decide_eq_false (by kernel_rfl))]; exact ⟨rfl, rfl⟩)
    (fun os started H enc _ => vmReads_lifted os started H enc)

theorem vmReads_holds : Rows.VmReadsCardSaid :=
  Claim7.holds_tied_plain_at .later [] _ _ _ _
    vmReads_said (fun _ h => by cases h) (by kernel_rfl) (fun _ h => by cases h) vmReads_row_tie rfl ⟨rfl, rfl⟩ (by kernel_rfl) rfl
    (fun f fn hf hfn => by
      obtain rfl : f = 7 := Option.some.inj ((show Tryd.prog.funcNamed "diorama/dioramalaw29.VmReads" = some 7 by kernel_rfl).symm.trans hf) |>.symm
      obtain rfl : fn = Tryd.f7 := (Option.some.inj (Tryd.func7.symm.trans hfn)).symm
      exact ⟨by kernel_rfl, fun j t ht => by
        rw [Tryd.params7] at ht
        have hm : t ∈ [22, 22, 3, 3, 3, 9] := by simpa using Array.mem_of_getElem? ht
        have hall : ([22, 22, 3, 3, 3, 9].all fun u => !Tryd.prog.wantsStandIn u) = true := by kernel_rfl
        exact (show Tryd.prog.wantsStandIn t = false by simpa using List.all_eq_true.1 hall t hm)⟩)
    (by kernel_rfl)
#print axioms vmReads_holds
end Go.Proofs.YtpkhdnaeaeiidaaDoor
