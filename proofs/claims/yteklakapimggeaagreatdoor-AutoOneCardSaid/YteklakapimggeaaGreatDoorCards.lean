/-
  DERIVED. GIVEN WITH THE SEED: THE CARDS: each row of YteklakapimggeaaGreatDoorRows.lean that lists a variable, with what it lists TIED to the program's text (the seventh form; the later family's looks); each row that meets fmt, with fmt's text TOLD by the authors' own Lean function (tested against real Go, not proved from fmt's source: count such statements apart). THE CARD IS WHAT COUNTS. Prove the row's statement (the work); the ties are given (YteklakapimggeaaGreatDoorTie.lean); close each card by the builder's one call (the guide's Derived/Test/ToyasCard.lean, 'card_holds'). Laid BY PROGRAM, IN A SANDBOX (cutbox-door.mjs). By AI agents, Wed Nov 11 2026. No macro, syntax, notation, axiom, sorry.
-/
import Derived.Test.YteklakapimggeaaGreatDoorRows
import GoSem.ClaimSeven
namespace Go.Proofs.YteklakapimggeaaGreatDoor
namespace Rows

/-- THE TIED CARD OF 'topiarylaw17.AutoBuilds'. -/
def autoBuildsCard : Claim7 := { stood := { row := autoBuildsRow, standIns := [], harness := (true, "76c85b2aa9e5273fcba45c3c83a0bd4bc8f7964c02e9d78617c9f572c9779800"), looks := true }, kinds := [], alts := [], laidByText := true, laidKinds := [.data, .data, .data], laidTests := true, laidLooks := .later }
def AutoBuildsCardSaid : Prop := Claim7.holds Tryz.pinned (.plain (OpenSpec.ofChange autoBuildsSpec)) autoBuildsCard

/-- THE TIED CARD OF 'topiarylaw17.AutoOne'. -/
def autoOneCard : Claim7 := { stood := { row := autoOneRow, standIns := [], harness := (true, "76c85b2aa9e5273fcba45c3c83a0bd4bc8f7964c02e9d78617c9f572c9779800"), looks := true }, kinds := [], alts := [], laidByText := true, laidKinds := [.data, .data, .data], laidTests := true, laidLooks := .later }
def AutoOneCardSaid : Prop := Claim7.holds Tryz.pinned (.plain (OpenSpec.ofChange autoOneSpec)) autoOneCard

/-- THE TIED CARD OF 'topiarylaw17.AutoWalks'. -/
def autoWalksCard : Claim7 := { stood := { row := autoWalksRow, standIns := [], harness := (true, "76c85b2aa9e5273fcba45c3c83a0bd4bc8f7964c02e9d78617c9f572c9779800"), looks := true }, kinds := [], alts := [], laidByText := true, laidKinds := [.data, .data, .data], laidTests := true, laidLooks := .later }
def AutoWalksCardSaid : Prop := Claim7.holds Tryz.pinned (.plain (OpenSpec.ofChange autoWalksSpec)) autoWalksCard

/-- THE TIED CARD OF 'topiarylaw17.AutoRight'. -/
def autoRightCard : Claim7 := { stood := { row := autoRightRow, standIns := [], harness := (true, "76c85b2aa9e5273fcba45c3c83a0bd4bc8f7964c02e9d78617c9f572c9779800"), looks := true }, kinds := [], alts := [], laidByText := true, laidKinds := [.data, .data, .data], laidTests := true, laidLooks := .later }
def AutoRightCardSaid : Prop := Claim7.holds Tryz.pinned (.plain (OpenSpec.ofChange autoRightSpec)) autoRightCard

/-- THE TIED CARD OF 'topiarylaw17.AutoMaps'. -/
def autoMapsCard : Claim7 := { stood := { row := autoMapsRow, standIns := [], harness := (true, "76c85b2aa9e5273fcba45c3c83a0bd4bc8f7964c02e9d78617c9f572c9779800"), looks := true }, kinds := [], alts := [], laidByText := true, laidKinds := [.data, .data, .data], laidTests := true, laidLooks := .later }
def AutoMapsCardSaid : Prop := Claim7.holds Tryz.pinned (.plain (OpenSpec.ofChange autoMapsSpec)) autoMapsCard

/-- THE SECOND FORM's CARD OF 'topiarylaw17.AutoBuilds'. -/
def autoBuildsUptoCard : Claim7 := { stood := { row := autoBuildsUptoRow, standIns := [], harness := (true, "76c85b2aa9e5273fcba45c3c83a0bd4bc8f7964c02e9d78617c9f572c9779800"), looks := true }, kinds := [], alts := [], laidByText := true, laidKinds := [.data, .data, .data], laidTests := true, laidLooks := .later }
def AutoBuildsUptoCardSaid : Prop := Claim7.holds Tryz.pinned (.plain (OpenSpec.upto autoBuildsSpec)) autoBuildsUptoCard

/-- THE SECOND FORM's CARD OF 'topiarylaw17.AutoOne'. -/
def autoOneUptoCard : Claim7 := { stood := { row := autoOneUptoRow, standIns := [], harness := (true, "76c85b2aa9e5273fcba45c3c83a0bd4bc8f7964c02e9d78617c9f572c9779800"), looks := true }, kinds := [], alts := [], laidByText := true, laidKinds := [.data, .data, .data], laidTests := true, laidLooks := .later }
def AutoOneUptoCardSaid : Prop := Claim7.holds Tryz.pinned (.plain (OpenSpec.upto autoOneSpec)) autoOneUptoCard

/-- THE SECOND FORM's CARD OF 'topiarylaw17.AutoWalks'. -/
def autoWalksUptoCard : Claim7 := { stood := { row := autoWalksUptoRow, standIns := [], harness := (true, "76c85b2aa9e5273fcba45c3c83a0bd4bc8f7964c02e9d78617c9f572c9779800"), looks := true }, kinds := [], alts := [], laidByText := true, laidKinds := [.data, .data, .data], laidTests := true, laidLooks := .later }
def AutoWalksUptoCardSaid : Prop := Claim7.holds Tryz.pinned (.plain (OpenSpec.upto autoWalksSpec)) autoWalksUptoCard

/-- THE SECOND FORM's CARD OF 'topiarylaw17.AutoRight'. -/
def autoRightUptoCard : Claim7 := { stood := { row := autoRightUptoRow, standIns := [], harness := (true, "76c85b2aa9e5273fcba45c3c83a0bd4bc8f7964c02e9d78617c9f572c9779800"), looks := true }, kinds := [], alts := [], laidByText := true, laidKinds := [.data, .data, .data], laidTests := true, laidLooks := .later }
def AutoRightUptoCardSaid : Prop := Claim7.holds Tryz.pinned (.plain (OpenSpec.upto autoRightSpec)) autoRightUptoCard

/-- THE SECOND FORM's CARD OF 'topiarylaw17.AutoMaps'. -/
def autoMapsUptoCard : Claim7 := { stood := { row := autoMapsUptoRow, standIns := [], harness := (true, "76c85b2aa9e5273fcba45c3c83a0bd4bc8f7964c02e9d78617c9f572c9779800"), looks := true }, kinds := [], alts := [], laidByText := true, laidKinds := [.data, .data, .data], laidTests := true, laidLooks := .later }
def AutoMapsUptoCardSaid : Prop := Claim7.holds Tryz.pinned (.plain (OpenSpec.upto autoMapsSpec)) autoMapsUptoCard
end Rows
end Go.Proofs.YteklakapimggeaaGreatDoor
