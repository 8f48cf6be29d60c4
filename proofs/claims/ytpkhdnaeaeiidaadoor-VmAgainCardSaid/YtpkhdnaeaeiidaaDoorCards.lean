/-
  DERIVED. GIVEN WITH THE SEED: THE CARDS: each row of YtpkhdnaeaeiidaaDoorRows.lean that lists a variable, with what it lists TIED to the program's text (the seventh form; the later family's looks); each row that meets fmt, with fmt's text TOLD by the authors' own Lean function (tested against real Go, not proved from fmt's source: count such statements apart). THE CARD IS WHAT COUNTS. Prove the row's statement (the work); the ties are given (YtpkhdnaeaeiidaaDoorTie.lean); close each card by the builder's one call (the guide's Derived/Test/ToyasCard.lean, 'card_holds'). Laid BY PROGRAM, IN A SANDBOX (cutbox-door.mjs). By AI agents, Wed Nov 11 2026. No macro, syntax, notation, axiom, sorry.
-/
import Derived.Test.YtpkhdnaeaeiidaaDoorRows
import GoSem.ClaimSeven
namespace Go.Proofs.YtpkhdnaeaeiidaaDoor
namespace Rows

/-- THE TIED CARD OF 'dioramalaw29.VmRuns'. -/
def vmRunsCard : Claim7 := { stood := { row := vmRunsRow, standIns := [], harness := (true, "57e3cf6bc9528e71c977162a973efeada880ac45482ac323139ff331d17beadd"), looks := true }, kinds := [], alts := [], laidByText := true, laidKinds := [.data, .data, .data, .sentinel, .sentinel], laidTests := true, laidLooks := .later }
def VmRunsCardSaid : Prop := Claim7.holds Tryd.pinned (.plain (OpenSpec.ofChange vmRunsSpec)) vmRunsCard

/-- THE TIED CARD OF 'dioramalaw29.VmSteps'. -/
def vmStepsCard : Claim7 := { stood := { row := vmStepsRow, standIns := [], harness := (true, "57e3cf6bc9528e71c977162a973efeada880ac45482ac323139ff331d17beadd"), looks := true }, kinds := [], alts := [], laidByText := true, laidKinds := [.data, .data, .data, .sentinel, .sentinel], laidTests := true, laidLooks := .later }
def VmStepsCardSaid : Prop := Claim7.holds Tryd.pinned (.plain (OpenSpec.ofChange vmStepsSpec)) vmStepsCard

/-- THE TIED CARD OF 'dioramalaw29.VmKept'. -/
def vmKeptCard : Claim7 := { stood := { row := vmKeptRow, standIns := [], harness := (true, "57e3cf6bc9528e71c977162a973efeada880ac45482ac323139ff331d17beadd"), looks := true }, kinds := [], alts := [], laidByText := true, laidKinds := [.data, .data, .data, .sentinel, .sentinel], laidTests := true, laidLooks := .later }
def VmKeptCardSaid : Prop := Claim7.holds Tryd.pinned (.plain (OpenSpec.ofChange vmKeptSpec)) vmKeptCard

/-- THE TIED CARD OF 'dioramalaw29.VmValid'. -/
def vmValidCard : Claim7 := { stood := { row := vmValidRow, standIns := [], harness := (true, "57e3cf6bc9528e71c977162a973efeada880ac45482ac323139ff331d17beadd"), looks := true }, kinds := [], alts := [], laidByText := true, laidKinds := [.data, .data, .data, .sentinel, .sentinel], laidTests := true, laidLooks := .later }
def VmValidCardSaid : Prop := Claim7.holds Tryd.pinned (.plain (OpenSpec.ofChange vmValidSpec)) vmValidCard

/-- THE TIED CARD OF 'dioramalaw29.VmReads'. -/
def vmReadsCard : Claim7 := { stood := { row := vmReadsRow, standIns := [], harness := (true, "57e3cf6bc9528e71c977162a973efeada880ac45482ac323139ff331d17beadd"), looks := true }, kinds := [], alts := [], laidByText := true, laidKinds := [.data, .data, .data, .sentinel, .sentinel], laidTests := true, laidLooks := .later }
def VmReadsCardSaid : Prop := Claim7.holds Tryd.pinned (.plain (OpenSpec.ofChange vmReadsSpec)) vmReadsCard

/-- THE TIED CARD OF 'dioramalaw29.VmAgain'. -/
def vmAgainCard : Claim7 := { stood := { row := vmAgainRow, standIns := [], harness := (true, "57e3cf6bc9528e71c977162a973efeada880ac45482ac323139ff331d17beadd"), looks := true }, kinds := [], alts := [], laidByText := true, laidKinds := [.data, .data, .data, .sentinel, .sentinel], laidTests := true, laidLooks := .later }
def VmAgainCardSaid : Prop := Claim7.holds Tryd.pinned (.plain (OpenSpec.ofChange vmAgainSpec)) vmAgainCard

/-- THE SECOND FORM's CARD OF 'dioramalaw29.VmRuns'. -/
def vmRunsUptoCard : Claim7 := { stood := { row := vmRunsUptoRow, standIns := [], harness := (true, "57e3cf6bc9528e71c977162a973efeada880ac45482ac323139ff331d17beadd"), looks := true }, kinds := [], alts := [], laidByText := true, laidKinds := [.data, .data, .data, .sentinel, .sentinel], laidTests := true, laidLooks := .later }
def VmRunsUptoCardSaid : Prop := Claim7.holds Tryd.pinned (.plain (OpenSpec.upto vmRunsSpec)) vmRunsUptoCard

/-- THE SECOND FORM's CARD OF 'dioramalaw29.VmSteps'. -/
def vmStepsUptoCard : Claim7 := { stood := { row := vmStepsUptoRow, standIns := [], harness := (true, "57e3cf6bc9528e71c977162a973efeada880ac45482ac323139ff331d17beadd"), looks := true }, kinds := [], alts := [], laidByText := true, laidKinds := [.data, .data, .data, .sentinel, .sentinel], laidTests := true, laidLooks := .later }
def VmStepsUptoCardSaid : Prop := Claim7.holds Tryd.pinned (.plain (OpenSpec.upto vmStepsSpec)) vmStepsUptoCard

/-- THE SECOND FORM's CARD OF 'dioramalaw29.VmKept'. -/
def vmKeptUptoCard : Claim7 := { stood := { row := vmKeptUptoRow, standIns := [], harness := (true, "57e3cf6bc9528e71c977162a973efeada880ac45482ac323139ff331d17beadd"), looks := true }, kinds := [], alts := [], laidByText := true, laidKinds := [.data, .data, .data, .sentinel, .sentinel], laidTests := true, laidLooks := .later }
def VmKeptUptoCardSaid : Prop := Claim7.holds Tryd.pinned (.plain (OpenSpec.upto vmKeptSpec)) vmKeptUptoCard

/-- THE SECOND FORM's CARD OF 'dioramalaw29.VmValid'. -/
def vmValidUptoCard : Claim7 := { stood := { row := vmValidUptoRow, standIns := [], harness := (true, "57e3cf6bc9528e71c977162a973efeada880ac45482ac323139ff331d17beadd"), looks := true }, kinds := [], alts := [], laidByText := true, laidKinds := [.data, .data, .data, .sentinel, .sentinel], laidTests := true, laidLooks := .later }
def VmValidUptoCardSaid : Prop := Claim7.holds Tryd.pinned (.plain (OpenSpec.upto vmValidSpec)) vmValidUptoCard

/-- THE SECOND FORM's CARD OF 'dioramalaw29.VmReads'. -/
def vmReadsUptoCard : Claim7 := { stood := { row := vmReadsUptoRow, standIns := [], harness := (true, "57e3cf6bc9528e71c977162a973efeada880ac45482ac323139ff331d17beadd"), looks := true }, kinds := [], alts := [], laidByText := true, laidKinds := [.data, .data, .data, .sentinel, .sentinel], laidTests := true, laidLooks := .later }
def VmReadsUptoCardSaid : Prop := Claim7.holds Tryd.pinned (.plain (OpenSpec.upto vmReadsSpec)) vmReadsUptoCard

/-- THE SECOND FORM's CARD OF 'dioramalaw29.VmAgain'. -/
def vmAgainUptoCard : Claim7 := { stood := { row := vmAgainUptoRow, standIns := [], harness := (true, "57e3cf6bc9528e71c977162a973efeada880ac45482ac323139ff331d17beadd"), looks := true }, kinds := [], alts := [], laidByText := true, laidKinds := [.data, .data, .data, .sentinel, .sentinel], laidTests := true, laidLooks := .later }
def VmAgainUptoCardSaid : Prop := Claim7.holds Tryd.pinned (.plain (OpenSpec.upto vmAgainSpec)) vmAgainUptoCard
end Rows
end Go.Proofs.YtpkhdnaeaeiidaaDoor
