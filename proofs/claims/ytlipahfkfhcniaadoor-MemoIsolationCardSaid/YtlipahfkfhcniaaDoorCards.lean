/-
  DERIVED. GIVEN WITH THE SEED: THE CARDS: each row of YtlipahfkfhcniaaDoorRows.lean that lists a variable, with what it lists TIED to the program's text (the seventh form; the later family's looks); each row that meets fmt, with fmt's text TOLD by the authors' own Lean function (tested against real Go, not proved from fmt's source: count such statements apart). THE CARD IS WHAT COUNTS. Prove the row's statement (the work); the ties are given (YtlipahfkfhcniaaDoorTie.lean); close each card by the builder's one call (the guide's Derived/Test/ToyasCard.lean, 'card_holds'). Laid BY PROGRAM, IN A SANDBOX (cutbox-door.mjs). By AI agents, Wed Nov 11 2026. No macro, syntax, notation, axiom, sorry.
-/
import Derived.Test.YtlipahfkfhcniaaDoorRows
import GoSem.ClaimSeven
namespace Go.Proofs.YtlipahfkfhcniaaDoor
namespace Rows

/-- THE TIED CARD OF 'voussoirlaw34.MemoRetention'. -/
def memoRetentionCard : Claim7 := { stood := { row := memoRetentionRow, standIns := [], harness := (true, "7d1fc65c88440d83f0063e858c52a0d8ba3d01ad2d2bd79cf93878c81beb5806"), looks := false }, kinds := [], alts := [], laidByText := true, laidKinds := [.data], laidTests := true, laidLooks := .later }
def MemoRetentionCardSaid : Prop := Claim7.holds Tryd.pinned (.plain (OpenSpec.ofChange memoRetentionSpec)) memoRetentionCard

/-- THE TIED CARD OF 'voussoirlaw34.MemoIsolation'. -/
def memoIsolationCard : Claim7 := { stood := { row := memoIsolationRow, standIns := [], harness := (true, "7d1fc65c88440d83f0063e858c52a0d8ba3d01ad2d2bd79cf93878c81beb5806"), looks := false }, kinds := [], alts := [], laidByText := true, laidKinds := [.data], laidTests := true, laidLooks := .later }
def MemoIsolationCardSaid : Prop := Claim7.holds Tryd.pinned (.plain (OpenSpec.ofChange memoIsolationSpec)) memoIsolationCard

/-- THE SECOND FORM's CARD OF 'voussoirlaw34.MemoRetention'. -/
def memoRetentionUptoCard : Claim7 := { stood := { row := memoRetentionUptoRow, standIns := [], harness := (true, "7d1fc65c88440d83f0063e858c52a0d8ba3d01ad2d2bd79cf93878c81beb5806"), looks := false }, kinds := [], alts := [], laidByText := true, laidKinds := [.data], laidTests := true, laidLooks := .later }
def MemoRetentionUptoCardSaid : Prop := Claim7.holds Tryd.pinned (.plain (OpenSpec.upto memoRetentionSpec)) memoRetentionUptoCard

/-- THE SECOND FORM's CARD OF 'voussoirlaw34.MemoIsolation'. -/
def memoIsolationUptoCard : Claim7 := { stood := { row := memoIsolationUptoRow, standIns := [], harness := (true, "7d1fc65c88440d83f0063e858c52a0d8ba3d01ad2d2bd79cf93878c81beb5806"), looks := false }, kinds := [], alts := [], laidByText := true, laidKinds := [.data], laidTests := true, laidLooks := .later }
def MemoIsolationUptoCardSaid : Prop := Claim7.holds Tryd.pinned (.plain (OpenSpec.upto memoIsolationSpec)) memoIsolationUptoCard
end Rows
end Go.Proofs.YtlipahfkfhcniaaDoor
