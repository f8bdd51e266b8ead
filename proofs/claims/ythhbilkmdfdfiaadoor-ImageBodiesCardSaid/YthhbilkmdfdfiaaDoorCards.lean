/-
  DERIVED. GIVEN WITH THE SEED: THE CARDS: each row of YthhbilkmdfdfiaaDoorRows.lean that lists a variable, with what it lists TIED to the program's text (the seventh form; the later family's looks); each row that meets fmt, with fmt's text TOLD by the authors' own Lean function (tested against real Go, not proved from fmt's source: count such statements apart). THE CARD IS WHAT COUNTS. Prove the row's statement (the work); the ties are given (YthhbilkmdfdfiaaDoorTie.lean); close each card by the builder's one call (the guide's Derived/Test/ToyasCard.lean, 'card_holds'). Laid BY PROGRAM, IN A SANDBOX (cutbox-door.mjs). By AI agents, Wed Nov 11 2026. No macro, syntax, notation, axiom, sorry.
-/
import Derived.Test.YthhbilkmdfdfiaaDoorRows
import GoSem.ClaimSeven
namespace Go.Proofs.YthhbilkmdfdfiaaDoor
namespace Rows

/-- THE TIED CARD OF 'strandlinelaw03.CrcSums'. -/
def crcSumsCard : Claim7 := { stood := { row := crcSumsRow, standIns := [], harness := (true, "6220650077ace6d16b794e11e07ddbd6d24244615bb0f8bd60229b679205ff86"), looks := false }, kinds := [], alts := [], laidByText := true, laidKinds := [.data], laidTests := true, laidLooks := .later }
def CrcSumsCardSaid : Prop := Claim7.holds Tryd.pinned (.plain (OpenSpec.ofChange crcSumsSpec)) crcSumsCard

/-- THE TIED CARD OF 'strandlinelaw03.CrcBursts'. -/
def crcBurstsCard : Claim7 := { stood := { row := crcBurstsRow, standIns := [], harness := (true, "6220650077ace6d16b794e11e07ddbd6d24244615bb0f8bd60229b679205ff86"), looks := false }, kinds := [], alts := [], laidByText := true, laidKinds := [.data], laidTests := true, laidLooks := .later }
def CrcBurstsCardSaid : Prop := Claim7.holds Tryd.pinned (.plain (OpenSpec.ofChange crcBurstsSpec)) crcBurstsCard

/-- THE TIED CARD OF 'strandlinelaw03.CrcJoins'. -/
def crcJoinsCard : Claim7 := { stood := { row := crcJoinsRow, standIns := [], harness := (true, "6220650077ace6d16b794e11e07ddbd6d24244615bb0f8bd60229b679205ff86"), looks := false }, kinds := [], alts := [], laidByText := true, laidKinds := [.data], laidTests := true, laidLooks := .later }
def CrcJoinsCardSaid : Prop := Claim7.holds Tryd.pinned (.plain (OpenSpec.ofChange crcJoinsSpec)) crcJoinsCard

/-- THE TIED CARD OF 'strandlinelaw13.FragDecodes'. -/
def fragDecodesCard : Claim7 := { stood := { row := fragDecodesRow, standIns := [], harness := (true, "6220650077ace6d16b794e11e07ddbd6d24244615bb0f8bd60229b679205ff86"), looks := false }, kinds := [], alts := [], laidByText := true, laidKinds := [.data], laidTests := true, laidLooks := .later }
def FragDecodesCardSaid : Prop := Claim7.holds Tryd.pinned (.plain (OpenSpec.ofChange fragDecodesSpec)) fragDecodesCard

/-- THE TIED CARD OF 'strandlinelaw13.FragBursts'. -/
def fragBurstsCard : Claim7 := { stood := { row := fragBurstsRow, standIns := [], harness := (true, "6220650077ace6d16b794e11e07ddbd6d24244615bb0f8bd60229b679205ff86"), looks := false }, kinds := [], alts := [], laidByText := true, laidKinds := [.data], laidTests := true, laidLooks := .later }
def FragBurstsCardSaid : Prop := Claim7.holds Tryd.pinned (.plain (OpenSpec.ofChange fragBurstsSpec)) fragBurstsCard

/-- THE TIED CARD OF 'strandlinelaw13.FragEncodes'. -/
def fragEncodesCard : Claim7 := { stood := { row := fragEncodesRow, standIns := [], harness := (true, "6220650077ace6d16b794e11e07ddbd6d24244615bb0f8bd60229b679205ff86"), looks := false }, kinds := [], alts := [], laidByText := true, laidKinds := [.data], laidTests := true, laidLooks := .later }
def FragEncodesCardSaid : Prop := Claim7.holds Tryd.pinned (.plain (OpenSpec.ofChange fragEncodesSpec)) fragEncodesCard

/-- THE TIED CARD OF 'strandlinelaw18.HeaderDecodes'. -/
def headerDecodesCard : Claim7 := { stood := { row := headerDecodesRow, standIns := [], harness := (true, "6220650077ace6d16b794e11e07ddbd6d24244615bb0f8bd60229b679205ff86"), looks := false }, kinds := [], alts := [], laidByText := true, laidKinds := [.data], laidTests := true, laidLooks := .later }
def HeaderDecodesCardSaid : Prop := Claim7.holds Tryd.pinned (.plain (OpenSpec.ofChange headerDecodesSpec)) headerDecodesCard

/-- THE TIED CARD OF 'strandlinelaw18.HeaderBursts'. -/
def headerBurstsCard : Claim7 := { stood := { row := headerBurstsRow, standIns := [], harness := (true, "6220650077ace6d16b794e11e07ddbd6d24244615bb0f8bd60229b679205ff86"), looks := false }, kinds := [], alts := [], laidByText := true, laidKinds := [.data], laidTests := true, laidLooks := .later }
def HeaderBurstsCardSaid : Prop := Claim7.holds Tryd.pinned (.plain (OpenSpec.ofChange headerBurstsSpec)) headerBurstsCard

/-- THE TIED CARD OF 'strandlinelaw18.HeaderEncodes'. -/
def headerEncodesCard : Claim7 := { stood := { row := headerEncodesRow, standIns := [], harness := (true, "6220650077ace6d16b794e11e07ddbd6d24244615bb0f8bd60229b679205ff86"), looks := false }, kinds := [], alts := [], laidByText := true, laidKinds := [.data], laidTests := true, laidLooks := .later }
def HeaderEncodesCardSaid : Prop := Claim7.holds Tryd.pinned (.plain (OpenSpec.ofChange headerEncodesSpec)) headerEncodesCard

/-- THE TIED CARD OF 'strandlinelaw17.ImageAdds'. -/
def imageAddsCard : Claim7 := { stood := { row := imageAddsRow, standIns := [], harness := (true, "6220650077ace6d16b794e11e07ddbd6d24244615bb0f8bd60229b679205ff86"), looks := false }, kinds := [], alts := [], laidByText := true, laidKinds := [.data], laidTests := true, laidLooks := .later }
def ImageAddsCardSaid : Prop := Claim7.holds Tryd.pinned (.plain (OpenSpec.ofChange imageAddsSpec)) imageAddsCard

/-- THE TIED CARD OF 'strandlinelaw17.ImageMore'. -/
def imageMoreCard : Claim7 := { stood := { row := imageMoreRow, standIns := [], harness := (true, "6220650077ace6d16b794e11e07ddbd6d24244615bb0f8bd60229b679205ff86"), looks := false }, kinds := [], alts := [], laidByText := true, laidKinds := [.data], laidTests := true, laidLooks := .later }
def ImageMoreCardSaid : Prop := Claim7.holds Tryd.pinned (.plain (OpenSpec.ofChange imageMoreSpec)) imageMoreCard

/-- THE TIED CARD OF 'strandlinelaw17.ImageBodies'. -/
def imageBodiesCard : Claim7 := { stood := { row := imageBodiesRow, standIns := [], harness := (true, "6220650077ace6d16b794e11e07ddbd6d24244615bb0f8bd60229b679205ff86"), looks := false }, kinds := [], alts := [], laidByText := true, laidKinds := [.data], laidTests := true, laidLooks := .later }
def ImageBodiesCardSaid : Prop := Claim7.holds Tryd.pinned (.plain (OpenSpec.ofChange imageBodiesSpec)) imageBodiesCard

/-- THE SECOND FORM's CARD OF 'strandlinelaw03.CrcSums'. -/
def crcSumsUptoCard : Claim7 := { stood := { row := crcSumsUptoRow, standIns := [], harness := (true, "6220650077ace6d16b794e11e07ddbd6d24244615bb0f8bd60229b679205ff86"), looks := false }, kinds := [], alts := [], laidByText := true, laidKinds := [.data], laidTests := true, laidLooks := .later }
def CrcSumsUptoCardSaid : Prop := Claim7.holds Tryd.pinned (.plain (OpenSpec.upto crcSumsSpec)) crcSumsUptoCard

/-- THE SECOND FORM's CARD OF 'strandlinelaw03.CrcBursts'. -/
def crcBurstsUptoCard : Claim7 := { stood := { row := crcBurstsUptoRow, standIns := [], harness := (true, "6220650077ace6d16b794e11e07ddbd6d24244615bb0f8bd60229b679205ff86"), looks := false }, kinds := [], alts := [], laidByText := true, laidKinds := [.data], laidTests := true, laidLooks := .later }
def CrcBurstsUptoCardSaid : Prop := Claim7.holds Tryd.pinned (.plain (OpenSpec.upto crcBurstsSpec)) crcBurstsUptoCard

/-- THE SECOND FORM's CARD OF 'strandlinelaw03.CrcJoins'. -/
def crcJoinsUptoCard : Claim7 := { stood := { row := crcJoinsUptoRow, standIns := [], harness := (true, "6220650077ace6d16b794e11e07ddbd6d24244615bb0f8bd60229b679205ff86"), looks := false }, kinds := [], alts := [], laidByText := true, laidKinds := [.data], laidTests := true, laidLooks := .later }
def CrcJoinsUptoCardSaid : Prop := Claim7.holds Tryd.pinned (.plain (OpenSpec.upto crcJoinsSpec)) crcJoinsUptoCard

/-- THE SECOND FORM's CARD OF 'strandlinelaw13.FragDecodes'. -/
def fragDecodesUptoCard : Claim7 := { stood := { row := fragDecodesUptoRow, standIns := [], harness := (true, "6220650077ace6d16b794e11e07ddbd6d24244615bb0f8bd60229b679205ff86"), looks := false }, kinds := [], alts := [], laidByText := true, laidKinds := [.data], laidTests := true, laidLooks := .later }
def FragDecodesUptoCardSaid : Prop := Claim7.holds Tryd.pinned (.plain (OpenSpec.upto fragDecodesSpec)) fragDecodesUptoCard

/-- THE SECOND FORM's CARD OF 'strandlinelaw13.FragBursts'. -/
def fragBurstsUptoCard : Claim7 := { stood := { row := fragBurstsUptoRow, standIns := [], harness := (true, "6220650077ace6d16b794e11e07ddbd6d24244615bb0f8bd60229b679205ff86"), looks := false }, kinds := [], alts := [], laidByText := true, laidKinds := [.data], laidTests := true, laidLooks := .later }
def FragBurstsUptoCardSaid : Prop := Claim7.holds Tryd.pinned (.plain (OpenSpec.upto fragBurstsSpec)) fragBurstsUptoCard

/-- THE SECOND FORM's CARD OF 'strandlinelaw13.FragEncodes'. -/
def fragEncodesUptoCard : Claim7 := { stood := { row := fragEncodesUptoRow, standIns := [], harness := (true, "6220650077ace6d16b794e11e07ddbd6d24244615bb0f8bd60229b679205ff86"), looks := false }, kinds := [], alts := [], laidByText := true, laidKinds := [.data], laidTests := true, laidLooks := .later }
def FragEncodesUptoCardSaid : Prop := Claim7.holds Tryd.pinned (.plain (OpenSpec.upto fragEncodesSpec)) fragEncodesUptoCard

/-- THE SECOND FORM's CARD OF 'strandlinelaw18.HeaderDecodes'. -/
def headerDecodesUptoCard : Claim7 := { stood := { row := headerDecodesUptoRow, standIns := [], harness := (true, "6220650077ace6d16b794e11e07ddbd6d24244615bb0f8bd60229b679205ff86"), looks := false }, kinds := [], alts := [], laidByText := true, laidKinds := [.data], laidTests := true, laidLooks := .later }
def HeaderDecodesUptoCardSaid : Prop := Claim7.holds Tryd.pinned (.plain (OpenSpec.upto headerDecodesSpec)) headerDecodesUptoCard

/-- THE SECOND FORM's CARD OF 'strandlinelaw18.HeaderBursts'. -/
def headerBurstsUptoCard : Claim7 := { stood := { row := headerBurstsUptoRow, standIns := [], harness := (true, "6220650077ace6d16b794e11e07ddbd6d24244615bb0f8bd60229b679205ff86"), looks := false }, kinds := [], alts := [], laidByText := true, laidKinds := [.data], laidTests := true, laidLooks := .later }
def HeaderBurstsUptoCardSaid : Prop := Claim7.holds Tryd.pinned (.plain (OpenSpec.upto headerBurstsSpec)) headerBurstsUptoCard

/-- THE SECOND FORM's CARD OF 'strandlinelaw18.HeaderEncodes'. -/
def headerEncodesUptoCard : Claim7 := { stood := { row := headerEncodesUptoRow, standIns := [], harness := (true, "6220650077ace6d16b794e11e07ddbd6d24244615bb0f8bd60229b679205ff86"), looks := false }, kinds := [], alts := [], laidByText := true, laidKinds := [.data], laidTests := true, laidLooks := .later }
def HeaderEncodesUptoCardSaid : Prop := Claim7.holds Tryd.pinned (.plain (OpenSpec.upto headerEncodesSpec)) headerEncodesUptoCard

/-- THE SECOND FORM's CARD OF 'strandlinelaw17.ImageAdds'. -/
def imageAddsUptoCard : Claim7 := { stood := { row := imageAddsUptoRow, standIns := [], harness := (true, "6220650077ace6d16b794e11e07ddbd6d24244615bb0f8bd60229b679205ff86"), looks := false }, kinds := [], alts := [], laidByText := true, laidKinds := [.data], laidTests := true, laidLooks := .later }
def ImageAddsUptoCardSaid : Prop := Claim7.holds Tryd.pinned (.plain (OpenSpec.upto imageAddsSpec)) imageAddsUptoCard

/-- THE SECOND FORM's CARD OF 'strandlinelaw17.ImageMore'. -/
def imageMoreUptoCard : Claim7 := { stood := { row := imageMoreUptoRow, standIns := [], harness := (true, "6220650077ace6d16b794e11e07ddbd6d24244615bb0f8bd60229b679205ff86"), looks := false }, kinds := [], alts := [], laidByText := true, laidKinds := [.data], laidTests := true, laidLooks := .later }
def ImageMoreUptoCardSaid : Prop := Claim7.holds Tryd.pinned (.plain (OpenSpec.upto imageMoreSpec)) imageMoreUptoCard

/-- THE SECOND FORM's CARD OF 'strandlinelaw17.ImageBodies'. -/
def imageBodiesUptoCard : Claim7 := { stood := { row := imageBodiesUptoRow, standIns := [], harness := (true, "6220650077ace6d16b794e11e07ddbd6d24244615bb0f8bd60229b679205ff86"), looks := false }, kinds := [], alts := [], laidByText := true, laidKinds := [.data], laidTests := true, laidLooks := .later }
def ImageBodiesUptoCardSaid : Prop := Claim7.holds Tryd.pinned (.plain (OpenSpec.upto imageBodiesSpec)) imageBodiesUptoCard
end Rows
end Go.Proofs.YthhbilkmdfdfiaaDoor
