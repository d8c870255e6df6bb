/-
  DERIVED. GIVEN WITH THE SEED: THE CARDS: each row of YtoodmjdafifbmaaDoorRows.lean that lists a variable, with what it lists TIED to the program's text (the seventh form; the later family's looks); each row that meets fmt, with fmt's text TOLD by the authors' own Lean function (tested against real Go, not proved from fmt's source: count such statements apart). THE CARD IS WHAT COUNTS. Prove the row's statement (the work); the ties are given (YtoodmjdafifbmaaDoorTie.lean); close each card by the builder's one call (the guide's Derived/Test/ToyasCard.lean, 'card_holds'). Laid BY PROGRAM, IN A SANDBOX (cutbox-door.mjs). By AI agents, Wed Nov 11 2026. No macro, syntax, notation, axiom, sorry.
-/
import Derived.Test.YtoodmjdafifbmaaDoorRows
import GoSem.ClaimSeven
namespace Go.Proofs.YtoodmjdafifbmaaDoor
namespace Rows

/-- THE TIED CARD OF 'wharfingerlaw07.RepliesPuts'. -/
def repliesPutsCard : Claim7 := { stood := { row := repliesPutsRow, standIns := [], harness := (true, "ef44efa8233838f660af03c717bfb5915df382025ff9faedb484e71a4bc5d3f4"), looks := false }, kinds := [], alts := [], laidByText := true, laidKinds := [.data, .data, .data], laidTests := true, laidLooks := .later }
def RepliesPutsCardSaid : Prop := Claim7.holds Tryd.pinned (.plain (OpenSpec.ofChange repliesPutsSpec)) repliesPutsCard

/-- THE TIED CARD OF 'wharfingerlaw22.CachePlays'. -/
def cachePlaysCard : Claim7 := { stood := { row := cachePlaysRow, standIns := [], harness := (true, "ef44efa8233838f660af03c717bfb5915df382025ff9faedb484e71a4bc5d3f4"), looks := false }, kinds := [], alts := [], laidByText := true, laidKinds := [.data, .data, .data], laidTests := true, laidLooks := .later }
def CachePlaysCardSaid : Prop := Claim7.holds Tryd.pinned (.plain (OpenSpec.ofChange cachePlaysSpec)) cachePlaysCard

/-- THE TIED CARD OF 'wharfingerlaw07.RepliesGets'. -/
def repliesGetsCard : Claim7 := { stood := { row := repliesGetsRow, standIns := [], harness := (true, "ef44efa8233838f660af03c717bfb5915df382025ff9faedb484e71a4bc5d3f4"), looks := false }, kinds := [], alts := [], laidByText := true, laidKinds := [.data, .data, .data], laidTests := true, laidLooks := .later }
def RepliesGetsCardSaid : Prop := Claim7.holds Tryd.pinned (.plain (OpenSpec.ofChange repliesGetsSpec)) repliesGetsCard

/-- THE SECOND FORM's CARD OF 'wharfingerlaw07.RepliesPuts'. -/
def repliesPutsUptoCard : Claim7 := { stood := { row := repliesPutsUptoRow, standIns := [], harness := (true, "ef44efa8233838f660af03c717bfb5915df382025ff9faedb484e71a4bc5d3f4"), looks := false }, kinds := [], alts := [], laidByText := true, laidKinds := [.data, .data, .data], laidTests := true, laidLooks := .later }
def RepliesPutsUptoCardSaid : Prop := Claim7.holds Tryd.pinned (.plain (OpenSpec.upto repliesPutsSpec)) repliesPutsUptoCard

/-- THE SECOND FORM's CARD OF 'wharfingerlaw22.CachePlays'. -/
def cachePlaysUptoCard : Claim7 := { stood := { row := cachePlaysUptoRow, standIns := [], harness := (true, "ef44efa8233838f660af03c717bfb5915df382025ff9faedb484e71a4bc5d3f4"), looks := false }, kinds := [], alts := [], laidByText := true, laidKinds := [.data, .data, .data], laidTests := true, laidLooks := .later }
def CachePlaysUptoCardSaid : Prop := Claim7.holds Tryd.pinned (.plain (OpenSpec.upto cachePlaysSpec)) cachePlaysUptoCard

/-- THE SECOND FORM's CARD OF 'wharfingerlaw07.RepliesGets'. -/
def repliesGetsUptoCard : Claim7 := { stood := { row := repliesGetsUptoRow, standIns := [], harness := (true, "ef44efa8233838f660af03c717bfb5915df382025ff9faedb484e71a4bc5d3f4"), looks := false }, kinds := [], alts := [], laidByText := true, laidKinds := [.data, .data, .data], laidTests := true, laidLooks := .later }
def RepliesGetsUptoCardSaid : Prop := Claim7.holds Tryd.pinned (.plain (OpenSpec.upto repliesGetsSpec)) repliesGetsUptoCard
end Rows
end Go.Proofs.YtoodmjdafifbmaaDoor
