/-
  DERIVED. GIVEN WITH THE SEED: THE CARDS: each row of YteigcnamkfebgaaGreatDoorRows.lean that lists a variable, with what it lists TIED to the program's text (the seventh form; the later family's looks); each row that meets fmt, with fmt's text TOLD by the authors' own Lean function (tested against real Go, not proved from fmt's source: count such statements apart). THE CARD IS WHAT COUNTS. Prove the row's statement (the work); the ties are given (YteigcnamkfebgaaGreatDoorTie.lean); close each card by the builder's one call (the guide's Derived/Test/ToyasCard.lean, 'card_holds'). Laid BY PROGRAM, IN A SANDBOX (cutbox-door.mjs). By AI agents, Wed Nov 11 2026. No macro, syntax, notation, axiom, sorry.
-/
import Derived.Test.YteigcnamkfebgaaGreatDoorRows
import GoSem.ClaimSeven
namespace Go.Proofs.YteigcnamkfebgaaGreatDoor
namespace Rows

/-- THE TIED CARD OF 'voussoirlaw50.InterpretDesign'. -/
def interpretDesignCard : Claim7 := { stood := { row := interpretDesignRow, standIns := [], harness := (true, "b2fa362fee6ede980b44d88affdbcedf96870a7e917b93c39acfd26c9e5bd868"), looks := true }, kinds := [], alts := [], laidByText := true, laidKinds := [.data, .data, .data, .data, .sentinel, .sentinel, .data, .widerDeep, .pinned], laidTests := true, laidLooks := .later }
def InterpretDesignCardSaid : Prop := Claim7.holds Tryz.pinned (.plain (OpenSpec.ofChange interpretDesignSpec)) interpretDesignCard

/-- THE TIED CARD OF 'voussoirlaw50.InterpretConflict'. -/
def interpretConflictCard : Claim7 := { stood := { row := interpretConflictRow, standIns := [], harness := (true, "b2fa362fee6ede980b44d88affdbcedf96870a7e917b93c39acfd26c9e5bd868"), looks := true }, kinds := [], alts := [], laidByText := true, laidKinds := [.data, .data, .data, .data, .sentinel, .sentinel, .data, .widerDeep, .pinned], laidTests := true, laidLooks := .later }
def InterpretConflictCardSaid : Prop := Claim7.holds Tryz.pinned (.plain (OpenSpec.ofChange interpretConflictSpec)) interpretConflictCard

/-- THE TIED CARD OF 'voussoirlaw50.InterpretRemoved'. -/
def interpretRemovedCard : Claim7 := { stood := { row := interpretRemovedRow, standIns := [], harness := (true, "b2fa362fee6ede980b44d88affdbcedf96870a7e917b93c39acfd26c9e5bd868"), looks := true }, kinds := [], alts := [], laidByText := true, laidKinds := [.data, .data, .data, .data, .sentinel, .sentinel, .data, .widerDeep, .pinned], laidTests := true, laidLooks := .later }
def InterpretRemovedCardSaid : Prop := Claim7.holds Tryz.pinned (.plain (OpenSpec.ofChange interpretRemovedSpec)) interpretRemovedCard

/-- THE TIED CARD OF 'voussoirlaw50.InterpretCompleteness'. -/
def interpretCompletenessCard : Claim7 := { stood := { row := interpretCompletenessRow, standIns := [], harness := (true, "b2fa362fee6ede980b44d88affdbcedf96870a7e917b93c39acfd26c9e5bd868"), looks := true }, kinds := [], alts := [], laidByText := true, laidKinds := [.data, .data, .data, .data, .sentinel, .sentinel, .data, .widerDeep, .pinned], laidTests := true, laidLooks := .later }
def InterpretCompletenessCardSaid : Prop := Claim7.holds Tryz.pinned (.plain (OpenSpec.ofChange interpretCompletenessSpec)) interpretCompletenessCard

/-- THE SECOND FORM's CARD OF 'voussoirlaw50.InterpretDesign'. -/
def interpretDesignUptoCard : Claim7 := { stood := { row := interpretDesignUptoRow, standIns := [], harness := (true, "b2fa362fee6ede980b44d88affdbcedf96870a7e917b93c39acfd26c9e5bd868"), looks := true }, kinds := [], alts := [], laidByText := true, laidKinds := [.data, .data, .data, .data, .sentinel, .sentinel, .data, .widerDeep, .pinned], laidTests := true, laidLooks := .later }
def InterpretDesignUptoCardSaid : Prop := Claim7.holds Tryz.pinned (.plain (OpenSpec.upto interpretDesignSpec)) interpretDesignUptoCard

/-- THE SECOND FORM's CARD OF 'voussoirlaw50.InterpretConflict'. -/
def interpretConflictUptoCard : Claim7 := { stood := { row := interpretConflictUptoRow, standIns := [], harness := (true, "b2fa362fee6ede980b44d88affdbcedf96870a7e917b93c39acfd26c9e5bd868"), looks := true }, kinds := [], alts := [], laidByText := true, laidKinds := [.data, .data, .data, .data, .sentinel, .sentinel, .data, .widerDeep, .pinned], laidTests := true, laidLooks := .later }
def InterpretConflictUptoCardSaid : Prop := Claim7.holds Tryz.pinned (.plain (OpenSpec.upto interpretConflictSpec)) interpretConflictUptoCard

/-- THE SECOND FORM's CARD OF 'voussoirlaw50.InterpretRemoved'. -/
def interpretRemovedUptoCard : Claim7 := { stood := { row := interpretRemovedUptoRow, standIns := [], harness := (true, "b2fa362fee6ede980b44d88affdbcedf96870a7e917b93c39acfd26c9e5bd868"), looks := true }, kinds := [], alts := [], laidByText := true, laidKinds := [.data, .data, .data, .data, .sentinel, .sentinel, .data, .widerDeep, .pinned], laidTests := true, laidLooks := .later }
def InterpretRemovedUptoCardSaid : Prop := Claim7.holds Tryz.pinned (.plain (OpenSpec.upto interpretRemovedSpec)) interpretRemovedUptoCard

/-- THE SECOND FORM's CARD OF 'voussoirlaw50.InterpretCompleteness'. -/
def interpretCompletenessUptoCard : Claim7 := { stood := { row := interpretCompletenessUptoRow, standIns := [], harness := (true, "b2fa362fee6ede980b44d88affdbcedf96870a7e917b93c39acfd26c9e5bd868"), looks := true }, kinds := [], alts := [], laidByText := true, laidKinds := [.data, .data, .data, .data, .sentinel, .sentinel, .data, .widerDeep, .pinned], laidTests := true, laidLooks := .later }
def InterpretCompletenessUptoCardSaid : Prop := Claim7.holds Tryz.pinned (.plain (OpenSpec.upto interpretCompletenessSpec)) interpretCompletenessUptoCard
end Rows
end Go.Proofs.YteigcnamkfebgaaGreatDoor
