/-
  DERIVED. GIVEN WITH THE SEED: THE CARDS: each row of YtkabcjchgaokoaaDoorRows.lean that lists a variable, with what it lists TIED to the program's text (the seventh form; the later family's looks); each row that meets fmt, with fmt's text TOLD by the authors' own Lean function (tested against real Go, not proved from fmt's source: count such statements apart). THE CARD IS WHAT COUNTS. Prove the row's statement (the work); the ties are given (YtkabcjchgaokoaaDoorTie.lean); close each card by the builder's one call (the guide's Derived/Test/ToyasCard.lean, 'card_holds'). Laid BY PROGRAM, IN A SANDBOX (cutbox-door.mjs). By AI agents, Wed Nov 11 2026. No macro, syntax, notation, axiom, sorry.
-/
import Derived.Test.YtkabcjchgaokoaaDoorRows
import GoSem.ClaimSeven
namespace Go.Proofs.YtkabcjchgaokoaaDoor
namespace Rows

/-- THE TIED CARD OF 'topiarylaw06.RegexShows'. -/
def regexShowsCard : Claim7 := { stood := { row := regexShowsRow, standIns := [], harness := (true, "c5b8a33fc80383584c2957dfcd3df46b2b3f85eb5c9da3009e5b3f9102dd9008"), looks := true }, kinds := [], alts := [], laidByText := true, laidKinds := [.data], laidTests := true, laidLooks := .later }
def RegexShowsCardSaid : Prop := Claim7.holds Tryd.pinned (.plain (OpenSpec.ofChange regexShowsSpec)) regexShowsCard

/-- THE TIED CARD OF 'topiarylaw06.RegexBack'. -/
def regexBackCard : Claim7 := { stood := { row := regexBackRow, standIns := [], harness := (true, "c5b8a33fc80383584c2957dfcd3df46b2b3f85eb5c9da3009e5b3f9102dd9008"), looks := true }, kinds := [], alts := [], laidByText := true, laidKinds := [.data], laidTests := true, laidLooks := .later }
def RegexBackCardSaid : Prop := Claim7.holds Tryd.pinned (.plain (OpenSpec.ofChange regexBackSpec)) regexBackCard

/-- THE TIED CARD OF 'topiarylaw06.RegexNormal'. -/
def regexNormalCard : Claim7 := { stood := { row := regexNormalRow, standIns := [], harness := (true, "c5b8a33fc80383584c2957dfcd3df46b2b3f85eb5c9da3009e5b3f9102dd9008"), looks := true }, kinds := [], alts := [], laidByText := true, laidKinds := [.data], laidTests := true, laidLooks := .later }
def RegexNormalCardSaid : Prop := Claim7.holds Tryd.pinned (.plain (OpenSpec.ofChange regexNormalSpec)) regexNormalCard

/-- THE SECOND FORM's CARD OF 'topiarylaw06.RegexShows'. -/
def regexShowsUptoCard : Claim7 := { stood := { row := regexShowsUptoRow, standIns := [], harness := (true, "c5b8a33fc80383584c2957dfcd3df46b2b3f85eb5c9da3009e5b3f9102dd9008"), looks := true }, kinds := [], alts := [], laidByText := true, laidKinds := [.data], laidTests := true, laidLooks := .later }
def RegexShowsUptoCardSaid : Prop := Claim7.holds Tryd.pinned (.plain (OpenSpec.upto regexShowsSpec)) regexShowsUptoCard

/-- THE SECOND FORM's CARD OF 'topiarylaw06.RegexBack'. -/
def regexBackUptoCard : Claim7 := { stood := { row := regexBackUptoRow, standIns := [], harness := (true, "c5b8a33fc80383584c2957dfcd3df46b2b3f85eb5c9da3009e5b3f9102dd9008"), looks := true }, kinds := [], alts := [], laidByText := true, laidKinds := [.data], laidTests := true, laidLooks := .later }
def RegexBackUptoCardSaid : Prop := Claim7.holds Tryd.pinned (.plain (OpenSpec.upto regexBackSpec)) regexBackUptoCard

/-- THE SECOND FORM's CARD OF 'topiarylaw06.RegexNormal'. -/
def regexNormalUptoCard : Claim7 := { stood := { row := regexNormalUptoRow, standIns := [], harness := (true, "c5b8a33fc80383584c2957dfcd3df46b2b3f85eb5c9da3009e5b3f9102dd9008"), looks := true }, kinds := [], alts := [], laidByText := true, laidKinds := [.data], laidTests := true, laidLooks := .later }
def RegexNormalUptoCardSaid : Prop := Claim7.holds Tryd.pinned (.plain (OpenSpec.upto regexNormalSpec)) regexNormalUptoCard
end Rows
end Go.Proofs.YtkabcjchgaokoaaDoor
