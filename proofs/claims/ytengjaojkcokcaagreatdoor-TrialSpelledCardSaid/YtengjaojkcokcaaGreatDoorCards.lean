/-
  DERIVED. GIVEN WITH THE SEED: THE CARDS: each row of YtengjaojkcokcaaGreatDoorRows.lean that lists a variable, with what it lists TIED to the program's text (the seventh form; the later family's looks); each row that meets fmt, with fmt's text TOLD by the authors' own Lean function (tested against real Go, not proved from fmt's source: count such statements apart). THE CARD IS WHAT COUNTS. Prove the row's statement (the work); the ties are given (YtengjaojkcokcaaGreatDoorTie.lean); close each card by the builder's one call (the guide's Derived/Test/ToyasCard.lean, 'card_holds'). Laid BY PROGRAM, IN A SANDBOX (cutbox-door.mjs). By AI agents, Wed Nov 11 2026. No macro, syntax, notation, axiom, sorry.
-/
import Derived.Test.YtengjaojkcokcaaGreatDoorRows
import GoSem.ClaimSeven
namespace Go.Proofs.YtengjaojkcokcaaGreatDoor
namespace Rows

/-- THE TIED CARD OF 'novaculitelaw04.TrialSpelled'. -/
def trialSpelledCard : Claim7 := { stood := { row := trialSpelledRow, standIns := [], harness := (true, "4c407dfefe293a4af6fb016d36fe8a8f6cdb15a3fa7072f5abca596e7fb57cbe"), looks := false }, kinds := [], alts := [], laidByText := true, laidKinds := [.data, .pinned], laidTests := true, laidLooks := .later }
def TrialSpelledCardSaid : Prop := Claim7.holds Tryz.pinned (.plain (OpenSpec.ofChange trialSpelledSpec)) trialSpelledCard

/-- THE SECOND FORM's CARD OF 'novaculitelaw04.TrialSpelled'. -/
def trialSpelledUptoCard : Claim7 := { stood := { row := trialSpelledUptoRow, standIns := [], harness := (true, "4c407dfefe293a4af6fb016d36fe8a8f6cdb15a3fa7072f5abca596e7fb57cbe"), looks := false }, kinds := [], alts := [], laidByText := true, laidKinds := [.data, .pinned], laidTests := true, laidLooks := .later }
def TrialSpelledUptoCardSaid : Prop := Claim7.holds Tryz.pinned (.plain (OpenSpec.upto trialSpelledSpec)) trialSpelledUptoCard
end Rows
end Go.Proofs.YtengjaojkcokcaaGreatDoor
