/- The card of VmValid holds: whatever the input, the law returns true and its arguments read as before. Conditions: those of the card. -/
import Derived.Test.YtpkhdnaeaeiidaaDoorRa
import Derived.Test.YtpkhdnaeaeiidaaDoorXg
import Derived.Test.YtpkhdnaeaeiidaaDoorCards
import Derived.Test.YtpkhdnaeaeiidaaDoorTie
import Derived.SevenTiedAt
set_option linter.unusedSimpArgs false
set_option linter.unusedVariables false

/- The row and the card of VmValid: whatever the input, the law returns true and its arguments read as before. -/
namespace Go.Proofs.YtpkhdnaeaeiidaaDoor
open Go Go.Absw Go.ChangeShapes Go.WideShapes Go.ChangeAt Go.RowKit
set_option maxRecDepth 100000

theorem vmValid_lifted (os : Os) (started : os.Started) (H : Type) (enc : TypeId × Value → H) :
    ReturnsInHanded {} Tryd.checked os 6 .any (fun w args => (Rows.vmValidSpec.pre enc Tryd.prog Tryd.f6 [] false w args ∧ laidMetH Tryd.prog laidL w) ∧ sizedMet enc Tryd.prog Tryd.f6 (OpenSpec.ofChange Rows.vmValidSpec) false w args)
      (Rows.vmValidSpec.post enc Tryd.prog Tryd.f6 false true false false) := by
  refine returnsInHanded_of_change_and (C := Tryd.checked) (X := fun w _ => laidMetH Tryd.prog laidL w) (fun _ _ _ hh h => h.of_heap hh) own started (by kernel_rfl) Tryd.func6
    (ChangeSpec.witness_shaped (enc := enc) (C := Tryd.checked) (os := os) (X := fun w _ => laidMetH Tryd.prog laidL w) false (World.doorLaid Tryd.prog 400 os) #[.slice none 0 0, .slice none 0 0, .int .i64 0, .int .i64 0, .int .i64 0] 8 rfl (door_shaped os _) (by kernel_rfl) (by kernel_rfl) (by kernel_rfl) (door_met os _)) ?_
  intro W base args ds gs before hval0 hW _ hs _ _
  have hval : ∀ (j : Nat) t v, Tryd.f6.params[j]? = some t → args[j]? = some v → Value.okWide Tryd.prog W .any base t v := hval0
  have hW' := hW
  obtain ⟨p, q, hA0, hV, rfl, hfz, hnd⟩ := hW
  have hA : DataW.TrodAll enc Tryd.prog W 0 (fun _ => true) true Tryd.f6.params.toList args.toList ds p := hA0
  rw [Tryd.params6] at hA hval
  obtain ⟨v0, vs0, d0, ds0, p0, q0, ha0, rfl, rfl, h0, hr0⟩ := trodAll_cons hA
  obtain ⟨v1, vs1, d1, ds1, p1, q1, rfl, rfl, rfl, h1, hr1⟩ := trodAll_cons hr0
  obtain ⟨v2, vs2, d2, ds2, p2, q2, rfl, rfl, rfl, h2, hr2⟩ := trodAll_cons hr1
  obtain ⟨v3, vs3, d3, ds3, p3, q3, rfl, rfl, rfl, h3, hr3⟩ := trodAll_cons hr2
  obtain ⟨v4, vs4, d4, ds4, p4, q4, rfl, rfl, rfl, h4, hr4⟩ := trodAll_cons hr3
  obtain ⟨rfl, rfl, rfl⟩ := trodAll_nil hr4
  obtain ⟨rfl, rfl⟩ := trodVars_none hV
  obtain rfl : args = #[v0, v1, v2, v3, v4] := by cases args; simp_all
  obtain ⟨x0, rx0, hx0, hl0⟩ := rd_ints (hval 0 22 v0 rfl rfl) h0 hs (j := 0) (by rw [Tryd.params6]; rfl) rfl
  obtain ⟨x1, rx1, hx1, hl1⟩ := rd_ints (hval 1 22 v1 rfl rfl) h1 hs (j := 1) (by rw [Tryd.params6]; rfl) rfl
  obtain ⟨x2, rfl, hx2⟩ := rd_int (hval 2 3 v2 rfl rfl) h2
  obtain ⟨x3, rfl, hx3⟩ := rd_int (hval 3 3 v3 rfl rfl) h3
  obtain ⟨x4, rfl, hx4⟩ := rd_int (hval 4 3 v4 rfl rfl) h4
  have hct := vmValid_ct (G := ⟨Tryd.prog, fun _ => []⟩) rfl hx0 hx1 hl0 hx2 hx3 hx4
  refine (call_of_ct hct (vs := #[v0, v1, .int .i64 x2, .int .i64 x3, .int .i64 x4]) rfl (fun n v x hv hx => ?_)).mono ?_
  · match n, hv, hx with
    | 0, hv, hx => simp at hv hx; subst hv; subst hx; exact rx0
    | 1, hv, hx => simp at hv hx; subst hv; subst hx; exact rx1
    | 2, hv, hx => simp at hv hx; subst hv; subst hx; exact .f _ _ (.int _ _)
    | 3, hv, hx => simp at hv hx; subst hv; subst hx; exact .f _ _ (.int _ _)
    | 4, hv, hx => simp at hv hx; subst hv; subst hx; exact .f _ _ (.int _ _)
  rintro e W' ⟨rfl, hb⟩
  have hlt : ∀ x ∈ p0 ++ (p1 ++ (p2 ++ (p3 ++ (p4 ++ [])))), x.block < W.heap.size := fun x hx => hW'.lt x (by simpa using hx)
  have keep : ∀ {t : TypeId} {v : Value} {d : DataW H} {ps : List MemPlace}, Tryd.prog.readableRec t = true → t < Tryd.prog.types.size → TrodIn enc W t v d ps → (∀ x ∈ ps, x.block < W.heap.size) → DataW.Trod enc Tryd.prog W' 0 (fun b => decide (b < W.heap.size)) true t v d ps :=
    fun hr ht h hx => Below.trod laidOut hr ht h hb hx
  refine ⟨_, rfl, _, _, _, [], p0 ++ (p1 ++ (p2 ++ (p3 ++ (p4 ++ [])))), [], hW', ?_, ?_, ?_, hb.frame _, fun h => by cases h⟩
  · exact trodAll_mk1 (shut_bool Tryd.underlying4 true)
  · show DataW.TrodAll enc Tryd.prog W' 0 _ true Tryd.f6.params.toList _ [d0, d1, d2, d3, d4] _
    rw [Tryd.params6]
    exact ⟨_, _, keep read22 lt22 h0 (fun x hx => hlt x (by simp [hx])), ⟨_, _, keep read22 lt22 h1 (fun x hx => hlt x (by simp [hx])), ⟨_, _, keep read3 lt3 h2 (fun x hx => hlt x (by simp [hx])), ⟨_, _, keep read3 lt3 h3 (fun x hx => hlt x (by simp [hx])), ⟨_, _, keep read3 lt3 h4 (fun x hx => hlt x (by simp [hx])), rfl, rfl⟩, rfl⟩, rfl⟩, rfl⟩, rfl⟩
  · rfl

theorem vmValid_said : Rows.VmValidSaid :=
  OpenClaim.holds_of_wide 6 Tryd.f6 rfl rfl rfl rfl rfl rfl rfl ⟨rfl, rfl, rfl, rfl, rfl⟩ rfl rfl rfl rfl rfl (by kernel_rfl) Tryd.func6 (by kernel_rfl)
    (of_decide_eq_true (by kernel_rfl)) (by unfold Func.isWrapper; rw [if_neg (of_decide_eq_false (by kernel_rfl))]; exact ⟨rfl, rfl⟩)
    (fun os started H enc _ => vmValid_lifted os started H enc)

theorem vmValid_holds : Rows.VmValidCardSaid :=
  Claim7.holds_tied_plain_at .later [] _ _ _ _
    vmValid_said (fun _ h => by cases h) (by kernel_rfl) (fun _ h => by cases h) vmValid_row_tie rfl ⟨rfl, rfl⟩ (by kernel_rfl) rfl
    (fun f fn hf hfn => by
      obtain rfl : f = 6 := Option.some.inj ((show Tryd.prog.funcNamed "diorama/dioramalaw29.VmValid" = some 6 by kernel_rfl).symm.trans hf) |>.symm
      obtain rfl : fn = Tryd.f6 := (Option.some.inj (Tryd.func6.symm.trans hfn)).symm
      exact ⟨by kernel_rfl, fun j t ht => by
        rw [Tryd.params6] at ht
        have hm : t ∈ [22, 22, 3, 3, 3] := by simpa using Array.mem_of_getElem? ht
        have hall : ([22, 22, 3, 3, 3].all fun u => !Tryd.prog.wantsStandIn u) = true := by kernel_rfl
        exact (show Tryd.prog.wantsStandIn t = false by simpa using List.all_eq_true.1 hall t hm)⟩)
    (by kernel_rfl)
#print axioms vmValid_holds
end Go.Proofs.YtpkhdnaeaeiidaaDoor
