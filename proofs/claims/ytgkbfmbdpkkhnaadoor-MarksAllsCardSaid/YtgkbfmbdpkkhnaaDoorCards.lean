/-
  DERIVED. GIVEN WITH THE SEED: THE CARDS: each row of YtgkbfmbdpkkhnaaDoorRows.lean that lists a variable, with what it lists TIED to the program's text (the seventh form; the later family's looks); each row that meets fmt, with fmt's text TOLD by the authors' own Lean function (tested against real Go, not proved from fmt's source: count such statements apart). THE CARD IS WHAT COUNTS. Prove the row's statement (the work); the ties are given (YtgkbfmbdpkkhnaaDoorTie.lean); close each card by the builder's one call (the guide's Derived/Test/ToyasCard.lean, 'card_holds'). Laid BY PROGRAM, IN A SANDBOX (cutbox-door.mjs). By AI agents, Wed Nov 11 2026. No macro, syntax, notation, axiom, sorry.
-/
import Derived.Test.YtgkbfmbdpkkhnaaDoorRows
import GoSem.ClaimSeven
namespace Go.Proofs.YtgkbfmbdpkkhnaaDoor
namespace Rows

/-- THE TIED CARD OF 'wharfingerlaw01.WordsPuts'. -/
def wordsPutsCard : Claim7 := { stood := { row := wordsPutsRow, standIns := [], harness := (true, "9a2ebd8189590030d71fa1a0a2eecf34416308c7be7e7db277a9cee4ace3f634"), looks := false }, kinds := [], alts := [], laidByText := true, laidKinds := [.data, .data, .data], laidTests := true, laidLooks := .later }
def WordsPutsCardSaid : Prop := Claim7.holds Tryd.pinned (.plain (OpenSpec.ofChange wordsPutsSpec)) wordsPutsCard

/-- THE TIED CARD OF 'wharfingerlaw04.MarksGets'. -/
def marksGetsCard : Claim7 := { stood := { row := marksGetsRow, standIns := [], harness := (true, "9a2ebd8189590030d71fa1a0a2eecf34416308c7be7e7db277a9cee4ace3f634"), looks := false }, kinds := [], alts := [], laidByText := true, laidKinds := [.data, .data, .data], laidTests := true, laidLooks := .later }
def MarksGetsCardSaid : Prop := Claim7.holds Tryd.pinned (.plain (OpenSpec.ofChange marksGetsSpec)) marksGetsCard

/-- THE TIED CARD OF 'wharfingerlaw09.TimesPuts'. -/
def timesPutsCard : Claim7 := { stood := { row := timesPutsRow, standIns := [], harness := (true, "9a2ebd8189590030d71fa1a0a2eecf34416308c7be7e7db277a9cee4ace3f634"), looks := false }, kinds := [], alts := [], laidByText := true, laidKinds := [.data, .data, .data], laidTests := true, laidLooks := .later }
def TimesPutsCardSaid : Prop := Claim7.holds Tryd.pinned (.plain (OpenSpec.ofChange timesPutsSpec)) timesPutsCard

/-- THE TIED CARD OF 'wharfingerlaw04.MarksAlls'. -/
def marksAllsCard : Claim7 := { stood := { row := marksAllsRow, standIns := [], harness := (true, "9a2ebd8189590030d71fa1a0a2eecf34416308c7be7e7db277a9cee4ace3f634"), looks := false }, kinds := [], alts := [], laidByText := true, laidKinds := [.data, .data, .data], laidTests := true, laidLooks := .later }
def MarksAllsCardSaid : Prop := Claim7.holds Tryd.pinned (.plain (OpenSpec.ofChange marksAllsSpec)) marksAllsCard

/-- THE TIED CARD OF 'wharfingerlaw04.MarksPuts'. -/
def marksPutsCard : Claim7 := { stood := { row := marksPutsRow, standIns := [], harness := (true, "9a2ebd8189590030d71fa1a0a2eecf34416308c7be7e7db277a9cee4ace3f634"), looks := false }, kinds := [], alts := [], laidByText := true, laidKinds := [.data, .data, .data], laidTests := true, laidLooks := .later }
def MarksPutsCardSaid : Prop := Claim7.holds Tryd.pinned (.plain (OpenSpec.ofChange marksPutsSpec)) marksPutsCard

/-- THE TIED CARD OF 'wharfingerlaw08.HandlesPuts'. -/
def handlesPutsCard : Claim7 := { stood := { row := handlesPutsRow, standIns := [], harness := (true, "9a2ebd8189590030d71fa1a0a2eecf34416308c7be7e7db277a9cee4ace3f634"), looks := false }, kinds := [], alts := [], laidByText := true, laidKinds := [.data, .data, .data], laidTests := true, laidLooks := .later }
def HandlesPutsCardSaid : Prop := Claim7.holds Tryd.pinned (.plain (OpenSpec.ofChange handlesPutsSpec)) handlesPutsCard

/-- THE SECOND FORM's CARD OF 'wharfingerlaw01.WordsPuts'. -/
def wordsPutsUptoCard : Claim7 := { stood := { row := wordsPutsUptoRow, standIns := [], harness := (true, "9a2ebd8189590030d71fa1a0a2eecf34416308c7be7e7db277a9cee4ace3f634"), looks := false }, kinds := [], alts := [], laidByText := true, laidKinds := [.data, .data, .data], laidTests := true, laidLooks := .later }
def WordsPutsUptoCardSaid : Prop := Claim7.holds Tryd.pinned (.plain (OpenSpec.upto wordsPutsSpec)) wordsPutsUptoCard

/-- THE SECOND FORM's CARD OF 'wharfingerlaw04.MarksGets'. -/
def marksGetsUptoCard : Claim7 := { stood := { row := marksGetsUptoRow, standIns := [], harness := (true, "9a2ebd8189590030d71fa1a0a2eecf34416308c7be7e7db277a9cee4ace3f634"), looks := false }, kinds := [], alts := [], laidByText := true, laidKinds := [.data, .data, .data], laidTests := true, laidLooks := .later }
def MarksGetsUptoCardSaid : Prop := Claim7.holds Tryd.pinned (.plain (OpenSpec.upto marksGetsSpec)) marksGetsUptoCard

/-- THE SECOND FORM's CARD OF 'wharfingerlaw09.TimesPuts'. -/
def timesPutsUptoCard : Claim7 := { stood := { row := timesPutsUptoRow, standIns := [], harness := (true, "9a2ebd8189590030d71fa1a0a2eecf34416308c7be7e7db277a9cee4ace3f634"), looks := false }, kinds := [], alts := [], laidByText := true, laidKinds := [.data, .data, .data], laidTests := true, laidLooks := .later }
def TimesPutsUptoCardSaid : Prop := Claim7.holds Tryd.pinned (.plain (OpenSpec.upto timesPutsSpec)) timesPutsUptoCard

/-- THE SECOND FORM's CARD OF 'wharfingerlaw04.MarksAlls'. -/
def marksAllsUptoCard : Claim7 := { stood := { row := marksAllsUptoRow, standIns := [], harness := (true, "9a2ebd8189590030d71fa1a0a2eecf34416308c7be7e7db277a9cee4ace3f634"), looks := false }, kinds := [], alts := [], laidByText := true, laidKinds := [.data, .data, .data], laidTests := true, laidLooks := .later }
def MarksAllsUptoCardSaid : Prop := Claim7.holds Tryd.pinned (.plain (OpenSpec.upto marksAllsSpec)) marksAllsUptoCard

/-- THE SECOND FORM's CARD OF 'wharfingerlaw04.MarksPuts'. -/
def marksPutsUptoCard : Claim7 := { stood := { row := marksPutsUptoRow, standIns := [], harness := (true, "9a2ebd8189590030d71fa1a0a2eecf34416308c7be7e7db277a9cee4ace3f634"), looks := false }, kinds := [], alts := [], laidByText := true, laidKinds := [.data, .data, .data], laidTests := true, laidLooks := .later }
def MarksPutsUptoCardSaid : Prop := Claim7.holds Tryd.pinned (.plain (OpenSpec.upto marksPutsSpec)) marksPutsUptoCard

/-- THE SECOND FORM's CARD OF 'wharfingerlaw08.HandlesPuts'. -/
def handlesPutsUptoCard : Claim7 := { stood := { row := handlesPutsUptoRow, standIns := [], harness := (true, "9a2ebd8189590030d71fa1a0a2eecf34416308c7be7e7db277a9cee4ace3f634"), looks := false }, kinds := [], alts := [], laidByText := true, laidKinds := [.data, .data, .data], laidTests := true, laidLooks := .later }
def HandlesPutsUptoCardSaid : Prop := Claim7.holds Tryd.pinned (.plain (OpenSpec.upto handlesPutsSpec)) handlesPutsUptoCard
end Rows
end Go.Proofs.YtgkbfmbdpkkhnaaDoor
