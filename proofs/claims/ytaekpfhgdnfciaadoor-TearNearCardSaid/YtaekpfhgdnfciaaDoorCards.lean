/-
  DERIVED. GIVEN WITH THE SEED: THE CARDS: each row of YtaekpfhgdnfciaaDoorRows.lean that lists a variable, with what it lists TIED to the program's text (the seventh form; the later family's looks); each row that meets fmt, with fmt's text TOLD by the authors' own Lean function (tested against real Go, not proved from fmt's source: count such statements apart). THE CARD IS WHAT COUNTS. Prove the row's statement (the work); the ties are given (YtaekpfhgdnfciaaDoorTie.lean); close each card by the builder's one call (the guide's Derived/Test/ToyasCard.lean, 'card_holds'). Laid BY PROGRAM, IN A SANDBOX (cutbox-door.mjs). By AI agents, Wed Nov 11 2026. No macro, syntax, notation, axiom, sorry.
-/
import Derived.Test.YtaekpfhgdnfciaaDoorRows
import GoSem.ClaimSeven
namespace Go.Proofs.YtaekpfhgdnfciaaDoor
namespace Rows

/-- THE TIED CARD OF 'strandlinelaw19.ScanTells'. -/
def scanTellsCard : Claim7 := { stood := { row := scanTellsRow, standIns := [], harness := (true, "ed31238aafe72c983f1ab76643f57c5767dbf0739a6b18e344bfebabf5c6abf8"), looks := false }, kinds := [], alts := [], laidByText := true, laidKinds := [.data], laidTests := true, laidLooks := .later }
def ScanTellsCardSaid : Prop := Claim7.holds Tryd.pinned (.plain (OpenSpec.ofChange scanTellsSpec)) scanTellsCard

/-- THE TIED CARD OF 'strandlinelaw19.ScanBack'. -/
def scanBackCard : Claim7 := { stood := { row := scanBackRow, standIns := [], harness := (true, "ed31238aafe72c983f1ab76643f57c5767dbf0739a6b18e344bfebabf5c6abf8"), looks := false }, kinds := [], alts := [], laidByText := true, laidKinds := [.data], laidTests := true, laidLooks := .later }
def ScanBackCardSaid : Prop := Claim7.holds Tryd.pinned (.plain (OpenSpec.ofChange scanBackSpec)) scanBackCard

/-- THE TIED CARD OF 'strandlinelaw19.ScanLost'. -/
def scanLostCard : Claim7 := { stood := { row := scanLostRow, standIns := [], harness := (true, "ed31238aafe72c983f1ab76643f57c5767dbf0739a6b18e344bfebabf5c6abf8"), looks := false }, kinds := [], alts := [], laidByText := true, laidKinds := [.data], laidTests := true, laidLooks := .later }
def ScanLostCardSaid : Prop := Claim7.holds Tryd.pinned (.plain (OpenSpec.ofChange scanLostSpec)) scanLostCard

/-- THE TIED CARD OF 'strandlinelaw20.TearNear'. -/
def tearNearCard : Claim7 := { stood := { row := tearNearRow, standIns := [], harness := (true, "ed31238aafe72c983f1ab76643f57c5767dbf0739a6b18e344bfebabf5c6abf8"), looks := false }, kinds := [], alts := [], laidByText := true, laidKinds := [.data], laidTests := true, laidLooks := .later }
def TearNearCardSaid : Prop := Claim7.holds Tryd.pinned (.plain (OpenSpec.ofChange tearNearSpec)) tearNearCard

/-- THE TIED CARD OF 'strandlinelaw20.TearTells'. -/
def tearTellsCard : Claim7 := { stood := { row := tearTellsRow, standIns := [], harness := (true, "ed31238aafe72c983f1ab76643f57c5767dbf0739a6b18e344bfebabf5c6abf8"), looks := false }, kinds := [], alts := [], laidByText := true, laidKinds := [.data], laidTests := true, laidLooks := .later }
def TearTellsCardSaid : Prop := Claim7.holds Tryd.pinned (.plain (OpenSpec.ofChange tearTellsSpec)) tearTellsCard

/-- THE TIED CARD OF 'strandlinelaw20.TearScans'. -/
def tearScansCard : Claim7 := { stood := { row := tearScansRow, standIns := [], harness := (true, "ed31238aafe72c983f1ab76643f57c5767dbf0739a6b18e344bfebabf5c6abf8"), looks := false }, kinds := [], alts := [], laidByText := true, laidKinds := [.data], laidTests := true, laidLooks := .later }
def TearScansCardSaid : Prop := Claim7.holds Tryd.pinned (.plain (OpenSpec.ofChange tearScansSpec)) tearScansCard

/-- THE SECOND FORM's CARD OF 'strandlinelaw19.ScanTells'. -/
def scanTellsUptoCard : Claim7 := { stood := { row := scanTellsUptoRow, standIns := [], harness := (true, "ed31238aafe72c983f1ab76643f57c5767dbf0739a6b18e344bfebabf5c6abf8"), looks := false }, kinds := [], alts := [], laidByText := true, laidKinds := [.data], laidTests := true, laidLooks := .later }
def ScanTellsUptoCardSaid : Prop := Claim7.holds Tryd.pinned (.plain (OpenSpec.upto scanTellsSpec)) scanTellsUptoCard

/-- THE SECOND FORM's CARD OF 'strandlinelaw19.ScanBack'. -/
def scanBackUptoCard : Claim7 := { stood := { row := scanBackUptoRow, standIns := [], harness := (true, "ed31238aafe72c983f1ab76643f57c5767dbf0739a6b18e344bfebabf5c6abf8"), looks := false }, kinds := [], alts := [], laidByText := true, laidKinds := [.data], laidTests := true, laidLooks := .later }
def ScanBackUptoCardSaid : Prop := Claim7.holds Tryd.pinned (.plain (OpenSpec.upto scanBackSpec)) scanBackUptoCard

/-- THE SECOND FORM's CARD OF 'strandlinelaw19.ScanLost'. -/
def scanLostUptoCard : Claim7 := { stood := { row := scanLostUptoRow, standIns := [], harness := (true, "ed31238aafe72c983f1ab76643f57c5767dbf0739a6b18e344bfebabf5c6abf8"), looks := false }, kinds := [], alts := [], laidByText := true, laidKinds := [.data], laidTests := true, laidLooks := .later }
def ScanLostUptoCardSaid : Prop := Claim7.holds Tryd.pinned (.plain (OpenSpec.upto scanLostSpec)) scanLostUptoCard

/-- THE SECOND FORM's CARD OF 'strandlinelaw20.TearNear'. -/
def tearNearUptoCard : Claim7 := { stood := { row := tearNearUptoRow, standIns := [], harness := (true, "ed31238aafe72c983f1ab76643f57c5767dbf0739a6b18e344bfebabf5c6abf8"), looks := false }, kinds := [], alts := [], laidByText := true, laidKinds := [.data], laidTests := true, laidLooks := .later }
def TearNearUptoCardSaid : Prop := Claim7.holds Tryd.pinned (.plain (OpenSpec.upto tearNearSpec)) tearNearUptoCard

/-- THE SECOND FORM's CARD OF 'strandlinelaw20.TearTells'. -/
def tearTellsUptoCard : Claim7 := { stood := { row := tearTellsUptoRow, standIns := [], harness := (true, "ed31238aafe72c983f1ab76643f57c5767dbf0739a6b18e344bfebabf5c6abf8"), looks := false }, kinds := [], alts := [], laidByText := true, laidKinds := [.data], laidTests := true, laidLooks := .later }
def TearTellsUptoCardSaid : Prop := Claim7.holds Tryd.pinned (.plain (OpenSpec.upto tearTellsSpec)) tearTellsUptoCard

/-- THE SECOND FORM's CARD OF 'strandlinelaw20.TearScans'. -/
def tearScansUptoCard : Claim7 := { stood := { row := tearScansUptoRow, standIns := [], harness := (true, "ed31238aafe72c983f1ab76643f57c5767dbf0739a6b18e344bfebabf5c6abf8"), looks := false }, kinds := [], alts := [], laidByText := true, laidKinds := [.data], laidTests := true, laidLooks := .later }
def TearScansUptoCardSaid : Prop := Claim7.holds Tryd.pinned (.plain (OpenSpec.upto tearScansSpec)) tearScansUptoCard
end Rows
end Go.Proofs.YtaekpfhgdnfciaaDoor
