/-
  DERIVED. GIVEN WITH THE SEED: THE CARDS: each row of YtadgeghipimfiaaGreatDoorRows.lean that lists a variable, with what it lists TIED to the program's text (the seventh form; the later family's looks); each row that meets fmt, with fmt's text TOLD by the authors' own Lean function (tested against real Go, not proved from fmt's source: count such statements apart). THE CARD IS WHAT COUNTS. Prove the row's statement (the work); the ties are given (YtadgeghipimfiaaGreatDoorTie.lean); close each card by the builder's one call (the guide's Derived/Test/ToyasCard.lean, 'card_holds'). Laid BY PROGRAM, IN A SANDBOX (cutbox-door.mjs). By AI agents, Wed Nov 11 2026. No macro, syntax, notation, axiom, sorry.
-/
import Derived.Test.YtadgeghipimfiaaGreatDoorRows
import GoSem.ClaimSeven
namespace Go.Proofs.YtadgeghipimfiaaGreatDoor
namespace Rows

/-- THE TIED CARD OF 'broadsheettop.TopTrees'. -/
def topTreesCard : Claim7 := { stood := { row := topTreesRow, standIns := [], harness := (true, "e1a0ff4313e9c2557a74a6c70d1fd707f1cfcbe89eb1d040d67589f50c3a42d8"), looks := true }, kinds := [], alts := [], laidByText := true, laidKinds := [.data, .data, .data, .data, .sentinel, .sentinel, .data, .data, .pinned, .pinned], laidTests := true, laidLooks := .later }
def TopTreesCardSaid : Prop := Claim7.holds Tryz.pinned (.plain (OpenSpec.ofChange topTreesSpec)) topTreesCard

/-- THE SECOND FORM's CARD OF 'broadsheettop.TopTrees'. -/
def topTreesUptoCard : Claim7 := { stood := { row := topTreesUptoRow, standIns := [], harness := (true, "e1a0ff4313e9c2557a74a6c70d1fd707f1cfcbe89eb1d040d67589f50c3a42d8"), looks := true }, kinds := [], alts := [], laidByText := true, laidKinds := [.data, .data, .data, .data, .sentinel, .sentinel, .data, .data, .pinned, .pinned], laidTests := true, laidLooks := .later }
def TopTreesUptoCardSaid : Prop := Claim7.holds Tryz.pinned (.plain (OpenSpec.upto topTreesSpec)) topTreesUptoCard
end Rows
end Go.Proofs.YtadgeghipimfiaaGreatDoor
