/-
  NARROWER THAN 'FOR EVERY INPUT', by the rows' own cells (each row's printed sentence says how): CrcSums: laid · CrcBursts: laid · CrcJoins: laid · FragDecodes: laid · FragBursts: laid · FragEncodes: laid · HeaderDecodes: laid · HeaderBursts: laid · HeaderEncodes: laid · ImageAdds: laid · ImageMore: laid · ImageBodies: laid.
  DERIVED. THE GIVEN ROWS OF THIS SEAT. 12 by the template 'for every input the law returns true; each argument reads behind the call as it read before'; 0 by the template 'total and deterministic' (their statements: YthhbilkmdfdfiaaDoorTotals.lean).
  GIVEN WITH THE SEED: the statements are not yours to turn. If you find one false, say at which input.
  Laid BY PROGRAM, IN A SANDBOX (cutbox-rows.mjs): the forced cells as the released guide's own fill.sh prints them over the translation 2e2e26bc7ee7ff19… (all of the seat's roots in one cut). By AI agents, Wed Nov 11 2026. No macro, syntax, notation, axiom, sorry.
-/
import Derived.Test.YthhbilkmdfdfiaaDoorChecked
import GoSem.Claim
import GoSem.ClaimJoined
import GoSem.ClaimMapViews
import Derived.JoinedTies
import Derived.KernelRfl
namespace Go.Proofs.YthhbilkmdfdfiaaDoor
/- THE CELL 'sum', in the pinned program and in every row, IS THE sha256 OF THE DUMP (.gsa) THAT YthhbilkmdfdfiaaDoorProg.lean LOADS. Nothing in Lean hashes anything: it is a label: what it is worth is what the hold of that sum in a sandbox is worth. -/
noncomputable def Tryd.pinned : Pinned := { name := "ythhbilkmdfdfiaadoor", sum := "2e2e26bc7ee7ff19f02c57594241db17c02966af92c99fa6b14aa0d0044f201f", checked := Tryd.checked }
namespace Rows
def none {H : Type} : Left H := { results := [], args := [] }

/- WHAT THE LISTED PACKAGE-LEVEL VARIABLES READ AS WHEN THE CALL BEGINS. Each datum BY PROGRAM (the guide's laid-datum.mjs) off the statement by which the dump's own 'gosem.cut.vars' lays the variable. In a bare row this is a premise. The card (YthhbilkmdfdfiaaDoorCards.lean) ties it to the program's text. -/
def laid_strandline_crc_half {H : Type} : DataW H := .agg [.lit (.int .u32 0), .lit (.int .u32 274646895), .lit (.int .u32 549293790), .lit (.int .u32 820201905), .lit (.int .u32 1098587580), .lit (.int .u32 1361435347), .lit (.int .u32 1640403810), .lit (.int .u32 1905808397), .lit (.int .u32 2197175160), .lit (.int .u32 2460548119), .lit (.int .u32 2722870694), .lit (.int .u32 2987750089), .lit (.int .u32 3280807620), .lit (.int .u32 3553878443), .lit (.int .u32 3811616794), .lit (.int .u32 4084100981)]

/-- 'strandlinelaw03.CrcSums': WHATEVER THE INPUT: true; the input reads as it did. -/
def crcSumsSpec : ChangeSpec := { name := "crcSums", fn := fun _ => fun
  | [d1, d2] => { results := [.lit (.bool true)], args := [d1, d2] }
  | _ => none }
def crcSumsRow : OpenClaim := { program := "ythhbilkmdfdfiaadoor", sum := "2e2e26bc7ee7ff19f02c57594241db17c02966af92c99fa6b14aa0d0044f201f", func := "strandline/strandlinelaw03.CrcSums", spec := "crcSums", named := ["strandline/crc.half"], apart := false, laid := [("strandline/crc.half", laid_strandline_crc_half)] }
def CrcSumsSaid : Prop := crcSumsRow.holds Tryd.pinned (OpenSpec.ofChange crcSumsSpec)

/-- ITS FALSE NEIGHBOUR: 'it returns false'. Refute it at one input. -/
def crcSumsWrong : ChangeSpec := { name := "crcSums", fn := fun _ => fun
  | [d1, d2] => { results := [.lit (.bool false)], args := [d1, d2] }
  | _ => none }
def CrcSumsWrongFalsely : Prop := crcSumsRow.holds Tryd.pinned (OpenSpec.ofChange crcSumsWrong)

/-- 'strandlinelaw03.CrcBursts': WHATEVER THE INPUT: true; the input reads as it did. -/
def crcBurstsSpec : ChangeSpec := { name := "crcBursts", fn := fun _ => fun
  | [d1, d2, d3] => { results := [.lit (.bool true)], args := [d1, d2, d3] }
  | _ => none }
def crcBurstsRow : OpenClaim := { program := "ythhbilkmdfdfiaadoor", sum := "2e2e26bc7ee7ff19f02c57594241db17c02966af92c99fa6b14aa0d0044f201f", func := "strandline/strandlinelaw03.CrcBursts", spec := "crcBursts", named := ["strandline/crc.half"], apart := false, laid := [("strandline/crc.half", laid_strandline_crc_half)] }
def CrcBurstsSaid : Prop := crcBurstsRow.holds Tryd.pinned (OpenSpec.ofChange crcBurstsSpec)

/-- ITS FALSE NEIGHBOUR: 'it returns false'. Refute it at one input. -/
def crcBurstsWrong : ChangeSpec := { name := "crcBursts", fn := fun _ => fun
  | [d1, d2, d3] => { results := [.lit (.bool false)], args := [d1, d2, d3] }
  | _ => none }
def CrcBurstsWrongFalsely : Prop := crcBurstsRow.holds Tryd.pinned (OpenSpec.ofChange crcBurstsWrong)

/-- 'strandlinelaw03.CrcJoins': WHATEVER THE INPUT: true; the input reads as it did. -/
def crcJoinsSpec : ChangeSpec := { name := "crcJoins", fn := fun _ => fun
  | [d1, d2, d3] => { results := [.lit (.bool true)], args := [d1, d2, d3] }
  | _ => none }
def crcJoinsRow : OpenClaim := { program := "ythhbilkmdfdfiaadoor", sum := "2e2e26bc7ee7ff19f02c57594241db17c02966af92c99fa6b14aa0d0044f201f", func := "strandline/strandlinelaw03.CrcJoins", spec := "crcJoins", named := ["strandline/crc.half"], apart := false, laid := [("strandline/crc.half", laid_strandline_crc_half)] }
def CrcJoinsSaid : Prop := crcJoinsRow.holds Tryd.pinned (OpenSpec.ofChange crcJoinsSpec)

/-- ITS FALSE NEIGHBOUR: 'it returns false'. Refute it at one input. -/
def crcJoinsWrong : ChangeSpec := { name := "crcJoins", fn := fun _ => fun
  | [d1, d2, d3] => { results := [.lit (.bool false)], args := [d1, d2, d3] }
  | _ => none }
def CrcJoinsWrongFalsely : Prop := crcJoinsRow.holds Tryd.pinned (OpenSpec.ofChange crcJoinsWrong)

/-- 'strandlinelaw13.FragDecodes': WHATEVER THE INPUT: true; the input reads as it did. -/
def fragDecodesSpec : ChangeSpec := { name := "fragDecodes", fn := fun _ => fun
  | [d1, d2] => { results := [.lit (.bool true)], args := [d1, d2] }
  | _ => none }
def fragDecodesRow : OpenClaim := { program := "ythhbilkmdfdfiaadoor", sum := "2e2e26bc7ee7ff19f02c57594241db17c02966af92c99fa6b14aa0d0044f201f", func := "strandline/strandlinelaw13.FragDecodes", spec := "fragDecodes", named := ["strandline/crc.half"], apart := false, laid := [("strandline/crc.half", laid_strandline_crc_half)] }
def FragDecodesSaid : Prop := fragDecodesRow.holds Tryd.pinned (OpenSpec.ofChange fragDecodesSpec)

/-- ITS FALSE NEIGHBOUR: 'it returns false'. Refute it at one input. -/
def fragDecodesWrong : ChangeSpec := { name := "fragDecodes", fn := fun _ => fun
  | [d1, d2] => { results := [.lit (.bool false)], args := [d1, d2] }
  | _ => none }
def FragDecodesWrongFalsely : Prop := fragDecodesRow.holds Tryd.pinned (OpenSpec.ofChange fragDecodesWrong)

/-- 'strandlinelaw13.FragBursts': WHATEVER THE INPUT: true; the input reads as it did. -/
def fragBurstsSpec : ChangeSpec := { name := "fragBursts", fn := fun _ => fun
  | [d1, d2, d3] => { results := [.lit (.bool true)], args := [d1, d2, d3] }
  | _ => none }
def fragBurstsRow : OpenClaim := { program := "ythhbilkmdfdfiaadoor", sum := "2e2e26bc7ee7ff19f02c57594241db17c02966af92c99fa6b14aa0d0044f201f", func := "strandline/strandlinelaw13.FragBursts", spec := "fragBursts", named := ["strandline/crc.half"], apart := false, laid := [("strandline/crc.half", laid_strandline_crc_half)] }
def FragBurstsSaid : Prop := fragBurstsRow.holds Tryd.pinned (OpenSpec.ofChange fragBurstsSpec)

/-- ITS FALSE NEIGHBOUR: 'it returns false'. Refute it at one input. -/
def fragBurstsWrong : ChangeSpec := { name := "fragBursts", fn := fun _ => fun
  | [d1, d2, d3] => { results := [.lit (.bool false)], args := [d1, d2, d3] }
  | _ => none }
def FragBurstsWrongFalsely : Prop := fragBurstsRow.holds Tryd.pinned (OpenSpec.ofChange fragBurstsWrong)

/-- 'strandlinelaw13.FragEncodes': WHATEVER THE INPUT: true; the input reads as it did. -/
def fragEncodesSpec : ChangeSpec := { name := "fragEncodes", fn := fun _ => fun
  | [d1, d2, d3] => { results := [.lit (.bool true)], args := [d1, d2, d3] }
  | _ => none }
def fragEncodesRow : OpenClaim := { program := "ythhbilkmdfdfiaadoor", sum := "2e2e26bc7ee7ff19f02c57594241db17c02966af92c99fa6b14aa0d0044f201f", func := "strandline/strandlinelaw13.FragEncodes", spec := "fragEncodes", named := ["strandline/crc.half"], apart := false, laid := [("strandline/crc.half", laid_strandline_crc_half)] }
def FragEncodesSaid : Prop := fragEncodesRow.holds Tryd.pinned (OpenSpec.ofChange fragEncodesSpec)

/-- ITS FALSE NEIGHBOUR: 'it returns false'. Refute it at one input. -/
def fragEncodesWrong : ChangeSpec := { name := "fragEncodes", fn := fun _ => fun
  | [d1, d2, d3] => { results := [.lit (.bool false)], args := [d1, d2, d3] }
  | _ => none }
def FragEncodesWrongFalsely : Prop := fragEncodesRow.holds Tryd.pinned (OpenSpec.ofChange fragEncodesWrong)

/-- 'strandlinelaw18.HeaderDecodes': WHATEVER THE INPUT: true; the input reads as it did. -/
def headerDecodesSpec : ChangeSpec := { name := "headerDecodes", fn := fun _ => fun
  | [d] => { results := [.lit (.bool true)], args := [d] }
  | _ => none }
def headerDecodesRow : OpenClaim := { program := "ythhbilkmdfdfiaadoor", sum := "2e2e26bc7ee7ff19f02c57594241db17c02966af92c99fa6b14aa0d0044f201f", func := "strandline/strandlinelaw18.HeaderDecodes", spec := "headerDecodes", named := ["strandline/crc.half"], apart := false, laid := [("strandline/crc.half", laid_strandline_crc_half)] }
def HeaderDecodesSaid : Prop := headerDecodesRow.holds Tryd.pinned (OpenSpec.ofChange headerDecodesSpec)

/-- ITS FALSE NEIGHBOUR: 'it returns false'. Refute it at one input. -/
def headerDecodesWrong : ChangeSpec := { name := "headerDecodes", fn := fun _ => fun
  | [d] => { results := [.lit (.bool false)], args := [d] }
  | _ => none }
def HeaderDecodesWrongFalsely : Prop := headerDecodesRow.holds Tryd.pinned (OpenSpec.ofChange headerDecodesWrong)

/-- 'strandlinelaw18.HeaderBursts': WHATEVER THE INPUT: true; the input reads as it did. -/
def headerBurstsSpec : ChangeSpec := { name := "headerBursts", fn := fun _ => fun
  | [d1, d2, d3] => { results := [.lit (.bool true)], args := [d1, d2, d3] }
  | _ => none }
def headerBurstsRow : OpenClaim := { program := "ythhbilkmdfdfiaadoor", sum := "2e2e26bc7ee7ff19f02c57594241db17c02966af92c99fa6b14aa0d0044f201f", func := "strandline/strandlinelaw18.HeaderBursts", spec := "headerBursts", named := ["strandline/crc.half"], apart := false, laid := [("strandline/crc.half", laid_strandline_crc_half)] }
def HeaderBurstsSaid : Prop := headerBurstsRow.holds Tryd.pinned (OpenSpec.ofChange headerBurstsSpec)

/-- ITS FALSE NEIGHBOUR: 'it returns false'. Refute it at one input. -/
def headerBurstsWrong : ChangeSpec := { name := "headerBursts", fn := fun _ => fun
  | [d1, d2, d3] => { results := [.lit (.bool false)], args := [d1, d2, d3] }
  | _ => none }
def HeaderBurstsWrongFalsely : Prop := headerBurstsRow.holds Tryd.pinned (OpenSpec.ofChange headerBurstsWrong)

/-- 'strandlinelaw18.HeaderEncodes': WHATEVER THE INPUT: true; the input reads as it did. -/
def headerEncodesSpec : ChangeSpec := { name := "headerEncodes", fn := fun _ => fun
  | [d1, d2] => { results := [.lit (.bool true)], args := [d1, d2] }
  | _ => none }
def headerEncodesRow : OpenClaim := { program := "ythhbilkmdfdfiaadoor", sum := "2e2e26bc7ee7ff19f02c57594241db17c02966af92c99fa6b14aa0d0044f201f", func := "strandline/strandlinelaw18.HeaderEncodes", spec := "headerEncodes", named := ["strandline/crc.half"], apart := false, laid := [("strandline/crc.half", laid_strandline_crc_half)] }
def HeaderEncodesSaid : Prop := headerEncodesRow.holds Tryd.pinned (OpenSpec.ofChange headerEncodesSpec)

/-- ITS FALSE NEIGHBOUR: 'it returns false'. Refute it at one input. -/
def headerEncodesWrong : ChangeSpec := { name := "headerEncodes", fn := fun _ => fun
  | [d1, d2] => { results := [.lit (.bool false)], args := [d1, d2] }
  | _ => none }
def HeaderEncodesWrongFalsely : Prop := headerEncodesRow.holds Tryd.pinned (OpenSpec.ofChange headerEncodesWrong)

/-- 'strandlinelaw17.ImageAdds': WHATEVER THE INPUT: true; the input reads as it did. -/
def imageAddsSpec : ChangeSpec := { name := "imageAdds", fn := fun _ => fun
  | [d1, d2, d3] => { results := [.lit (.bool true)], args := [d1, d2, d3] }
  | _ => none }
def imageAddsRow : OpenClaim := { program := "ythhbilkmdfdfiaadoor", sum := "2e2e26bc7ee7ff19f02c57594241db17c02966af92c99fa6b14aa0d0044f201f", func := "strandline/strandlinelaw17.ImageAdds", spec := "imageAdds", unfollowed := true, recurses := true, named := ["strandline/crc.half"], apart := false, laid := [("strandline/crc.half", laid_strandline_crc_half)] }
def ImageAddsSaid : Prop := imageAddsRow.holds Tryd.pinned (OpenSpec.ofChange imageAddsSpec)

/-- ITS FALSE NEIGHBOUR: 'it returns false'. Refute it at one input. -/
def imageAddsWrong : ChangeSpec := { name := "imageAdds", fn := fun _ => fun
  | [d1, d2, d3] => { results := [.lit (.bool false)], args := [d1, d2, d3] }
  | _ => none }
def ImageAddsWrongFalsely : Prop := imageAddsRow.holds Tryd.pinned (OpenSpec.ofChange imageAddsWrong)

/-- 'strandlinelaw17.ImageMore': WHATEVER THE INPUT: true; the input reads as it did. -/
def imageMoreSpec : ChangeSpec := { name := "imageMore", fn := fun _ => fun
  | [d1, d2, d3] => { results := [.lit (.bool true)], args := [d1, d2, d3] }
  | _ => none }
def imageMoreRow : OpenClaim := { program := "ythhbilkmdfdfiaadoor", sum := "2e2e26bc7ee7ff19f02c57594241db17c02966af92c99fa6b14aa0d0044f201f", func := "strandline/strandlinelaw17.ImageMore", spec := "imageMore", unfollowed := true, recurses := true, named := ["strandline/crc.half"], apart := false, laid := [("strandline/crc.half", laid_strandline_crc_half)] }
def ImageMoreSaid : Prop := imageMoreRow.holds Tryd.pinned (OpenSpec.ofChange imageMoreSpec)

/-- ITS FALSE NEIGHBOUR: 'it returns false'. Refute it at one input. -/
def imageMoreWrong : ChangeSpec := { name := "imageMore", fn := fun _ => fun
  | [d1, d2, d3] => { results := [.lit (.bool false)], args := [d1, d2, d3] }
  | _ => none }
def ImageMoreWrongFalsely : Prop := imageMoreRow.holds Tryd.pinned (OpenSpec.ofChange imageMoreWrong)

/-- 'strandlinelaw17.ImageBodies': WHATEVER THE INPUT: true; the input reads as it did. -/
def imageBodiesSpec : ChangeSpec := { name := "imageBodies", fn := fun _ => fun
  | [d1, d2] => { results := [.lit (.bool true)], args := [d1, d2] }
  | _ => none }
def imageBodiesRow : OpenClaim := { program := "ythhbilkmdfdfiaadoor", sum := "2e2e26bc7ee7ff19f02c57594241db17c02966af92c99fa6b14aa0d0044f201f", func := "strandline/strandlinelaw17.ImageBodies", spec := "imageBodies", unfollowed := true, recurses := true, named := ["strandline/crc.half"], apart := false, laid := [("strandline/crc.half", laid_strandline_crc_half)] }
def ImageBodiesSaid : Prop := imageBodiesRow.holds Tryd.pinned (OpenSpec.ofChange imageBodiesSpec)

/-- ITS FALSE NEIGHBOUR: 'it returns false'. Refute it at one input. -/
def imageBodiesWrong : ChangeSpec := { name := "imageBodies", fn := fun _ => fun
  | [d1, d2] => { results := [.lit (.bool false)], args := [d1, d2] }
  | _ => none }
def ImageBodiesWrongFalsely : Prop := imageBodiesRow.holds Tryd.pinned (OpenSpec.ofChange imageBodiesWrong)

/- THE SECOND FORM. 'bulk': how many values and letters a reading holds, each counted each time it is reached (what is shared counts as often as it is met; a slice's spare places count too). A statement '..UptoSaid' is the law's where the arguments, and the package variables that the reading takes, are together of bulk at most 1048576: NARROWER than '..Said'. Prove '..Said' where nothing that the law and all that it calls make is longer than what came in: it says more and counts as full. Else prove '..UptoSaid'. A law counts once. -/
mutual
def uptoBulk {H : Type} : DataW H → Nat
  | .lit (.string bytes) => bytes.length + 1
  | .lit _ => 1
  | .nil => 1
  | .ptr d => uptoBulk d + 1
  | .slice elems spare => uptoBulkAll elems + uptoBulkAll spare + 1
  | .agg parts => uptoBulkAll parts + 1
  | .iface _ d => uptoBulk d + 1
  | .map entries => uptoBulkEntries entries + 1
  | .held _ => 1
def uptoBulkAll {H : Type} : List (DataW H) → Nat
  | [] => 0
  | d :: r => uptoBulk d + uptoBulkAll r
def uptoBulkEntries {H : Type} : List (Lit × DataW H) → Nat
  | [] => 0
  | x :: r => uptoBulkEntry x + uptoBulkEntries r
def uptoBulkEntry {H : Type} : Lit × DataW H → Nat
  | (.string bytes, d) => bytes.length + uptoBulk d + 1
  | (_, d) => uptoBulk d + 1
 end
def uptoSmall : (H : Type) → List (DataW H) → Bool := fun _ ds => decide (uptoBulkAll ds ≤ 1048576)
def OpenSpec.upto (s : _root_.Go.ChangeSpec) : _root_.Go.OpenSpec := { _root_.Go.OpenSpec.ofChange s with cond := some uptoSmall }

/-- 'strandlinelaw03.CrcSums', WHERE WHAT IT READS IS OF BULK AT MOST 1048576: true; the input reads as it did. -/
def crcSumsUptoRow : OpenClaim := { program := "ythhbilkmdfdfiaadoor", sum := "2e2e26bc7ee7ff19f02c57594241db17c02966af92c99fa6b14aa0d0044f201f", func := "strandline/strandlinelaw03.CrcSums", spec := "crcSums", named := ["strandline/crc.half"], apart := false, laid := [("strandline/crc.half", laid_strandline_crc_half)], narrowed := true }
def CrcSumsUptoSaid : Prop := crcSumsUptoRow.holds Tryd.pinned (OpenSpec.upto crcSumsSpec)

/-- 'strandlinelaw03.CrcBursts', WHERE WHAT IT READS IS OF BULK AT MOST 1048576: true; the input reads as it did. -/
def crcBurstsUptoRow : OpenClaim := { program := "ythhbilkmdfdfiaadoor", sum := "2e2e26bc7ee7ff19f02c57594241db17c02966af92c99fa6b14aa0d0044f201f", func := "strandline/strandlinelaw03.CrcBursts", spec := "crcBursts", named := ["strandline/crc.half"], apart := false, laid := [("strandline/crc.half", laid_strandline_crc_half)], narrowed := true }
def CrcBurstsUptoSaid : Prop := crcBurstsUptoRow.holds Tryd.pinned (OpenSpec.upto crcBurstsSpec)

/-- 'strandlinelaw03.CrcJoins', WHERE WHAT IT READS IS OF BULK AT MOST 1048576: true; the input reads as it did. -/
def crcJoinsUptoRow : OpenClaim := { program := "ythhbilkmdfdfiaadoor", sum := "2e2e26bc7ee7ff19f02c57594241db17c02966af92c99fa6b14aa0d0044f201f", func := "strandline/strandlinelaw03.CrcJoins", spec := "crcJoins", named := ["strandline/crc.half"], apart := false, laid := [("strandline/crc.half", laid_strandline_crc_half)], narrowed := true }
def CrcJoinsUptoSaid : Prop := crcJoinsUptoRow.holds Tryd.pinned (OpenSpec.upto crcJoinsSpec)

/-- 'strandlinelaw13.FragDecodes', WHERE WHAT IT READS IS OF BULK AT MOST 1048576: true; the input reads as it did. -/
def fragDecodesUptoRow : OpenClaim := { program := "ythhbilkmdfdfiaadoor", sum := "2e2e26bc7ee7ff19f02c57594241db17c02966af92c99fa6b14aa0d0044f201f", func := "strandline/strandlinelaw13.FragDecodes", spec := "fragDecodes", named := ["strandline/crc.half"], apart := false, laid := [("strandline/crc.half", laid_strandline_crc_half)], narrowed := true }
def FragDecodesUptoSaid : Prop := fragDecodesUptoRow.holds Tryd.pinned (OpenSpec.upto fragDecodesSpec)

/-- 'strandlinelaw13.FragBursts', WHERE WHAT IT READS IS OF BULK AT MOST 1048576: true; the input reads as it did. -/
def fragBurstsUptoRow : OpenClaim := { program := "ythhbilkmdfdfiaadoor", sum := "2e2e26bc7ee7ff19f02c57594241db17c02966af92c99fa6b14aa0d0044f201f", func := "strandline/strandlinelaw13.FragBursts", spec := "fragBursts", named := ["strandline/crc.half"], apart := false, laid := [("strandline/crc.half", laid_strandline_crc_half)], narrowed := true }
def FragBurstsUptoSaid : Prop := fragBurstsUptoRow.holds Tryd.pinned (OpenSpec.upto fragBurstsSpec)

/-- 'strandlinelaw13.FragEncodes', WHERE WHAT IT READS IS OF BULK AT MOST 1048576: true; the input reads as it did. -/
def fragEncodesUptoRow : OpenClaim := { program := "ythhbilkmdfdfiaadoor", sum := "2e2e26bc7ee7ff19f02c57594241db17c02966af92c99fa6b14aa0d0044f201f", func := "strandline/strandlinelaw13.FragEncodes", spec := "fragEncodes", named := ["strandline/crc.half"], apart := false, laid := [("strandline/crc.half", laid_strandline_crc_half)], narrowed := true }
def FragEncodesUptoSaid : Prop := fragEncodesUptoRow.holds Tryd.pinned (OpenSpec.upto fragEncodesSpec)

/-- 'strandlinelaw18.HeaderDecodes', WHERE WHAT IT READS IS OF BULK AT MOST 1048576: true; the input reads as it did. -/
def headerDecodesUptoRow : OpenClaim := { program := "ythhbilkmdfdfiaadoor", sum := "2e2e26bc7ee7ff19f02c57594241db17c02966af92c99fa6b14aa0d0044f201f", func := "strandline/strandlinelaw18.HeaderDecodes", spec := "headerDecodes", named := ["strandline/crc.half"], apart := false, laid := [("strandline/crc.half", laid_strandline_crc_half)], narrowed := true }
def HeaderDecodesUptoSaid : Prop := headerDecodesUptoRow.holds Tryd.pinned (OpenSpec.upto headerDecodesSpec)

/-- 'strandlinelaw18.HeaderBursts', WHERE WHAT IT READS IS OF BULK AT MOST 1048576: true; the input reads as it did. -/
def headerBurstsUptoRow : OpenClaim := { program := "ythhbilkmdfdfiaadoor", sum := "2e2e26bc7ee7ff19f02c57594241db17c02966af92c99fa6b14aa0d0044f201f", func := "strandline/strandlinelaw18.HeaderBursts", spec := "headerBursts", named := ["strandline/crc.half"], apart := false, laid := [("strandline/crc.half", laid_strandline_crc_half)], narrowed := true }
def HeaderBurstsUptoSaid : Prop := headerBurstsUptoRow.holds Tryd.pinned (OpenSpec.upto headerBurstsSpec)

/-- 'strandlinelaw18.HeaderEncodes', WHERE WHAT IT READS IS OF BULK AT MOST 1048576: true; the input reads as it did. -/
def headerEncodesUptoRow : OpenClaim := { program := "ythhbilkmdfdfiaadoor", sum := "2e2e26bc7ee7ff19f02c57594241db17c02966af92c99fa6b14aa0d0044f201f", func := "strandline/strandlinelaw18.HeaderEncodes", spec := "headerEncodes", named := ["strandline/crc.half"], apart := false, laid := [("strandline/crc.half", laid_strandline_crc_half)], narrowed := true }
def HeaderEncodesUptoSaid : Prop := headerEncodesUptoRow.holds Tryd.pinned (OpenSpec.upto headerEncodesSpec)

/-- 'strandlinelaw17.ImageAdds', WHERE WHAT IT READS IS OF BULK AT MOST 1048576: true; the input reads as it did. -/
def imageAddsUptoRow : OpenClaim := { program := "ythhbilkmdfdfiaadoor", sum := "2e2e26bc7ee7ff19f02c57594241db17c02966af92c99fa6b14aa0d0044f201f", func := "strandline/strandlinelaw17.ImageAdds", spec := "imageAdds", unfollowed := true, recurses := true, named := ["strandline/crc.half"], apart := false, laid := [("strandline/crc.half", laid_strandline_crc_half)], narrowed := true }
def ImageAddsUptoSaid : Prop := imageAddsUptoRow.holds Tryd.pinned (OpenSpec.upto imageAddsSpec)

/-- 'strandlinelaw17.ImageMore', WHERE WHAT IT READS IS OF BULK AT MOST 1048576: true; the input reads as it did. -/
def imageMoreUptoRow : OpenClaim := { program := "ythhbilkmdfdfiaadoor", sum := "2e2e26bc7ee7ff19f02c57594241db17c02966af92c99fa6b14aa0d0044f201f", func := "strandline/strandlinelaw17.ImageMore", spec := "imageMore", unfollowed := true, recurses := true, named := ["strandline/crc.half"], apart := false, laid := [("strandline/crc.half", laid_strandline_crc_half)], narrowed := true }
def ImageMoreUptoSaid : Prop := imageMoreUptoRow.holds Tryd.pinned (OpenSpec.upto imageMoreSpec)

/-- 'strandlinelaw17.ImageBodies', WHERE WHAT IT READS IS OF BULK AT MOST 1048576: true; the input reads as it did. -/
def imageBodiesUptoRow : OpenClaim := { program := "ythhbilkmdfdfiaadoor", sum := "2e2e26bc7ee7ff19f02c57594241db17c02966af92c99fa6b14aa0d0044f201f", func := "strandline/strandlinelaw17.ImageBodies", spec := "imageBodies", unfollowed := true, recurses := true, named := ["strandline/crc.half"], apart := false, laid := [("strandline/crc.half", laid_strandline_crc_half)], narrowed := true }
def ImageBodiesUptoSaid : Prop := imageBodiesUptoRow.holds Tryd.pinned (OpenSpec.upto imageBodiesSpec)

end Rows
end Go.Proofs.YthhbilkmdfdfiaaDoor
