/-
  NARROWER THAN 'FOR EVERY INPUT', by the rows' own cells (each row's printed sentence says how): ScanTells: laid · ScanBack: laid · ScanLost: laid · TearNear: laid · TearTells: laid · TearScans: laid.
  DERIVED. THE GIVEN ROWS OF THIS SEAT. 6 by the template 'for every input the law returns true; each argument reads behind the call as it read before'; 0 by the template 'total and deterministic' (their statements: YtaekpfhgdnfciaaDoorTotals.lean).
  GIVEN WITH THE SEED: the statements are not yours to turn. If you find one false, say at which input.
  Laid BY PROGRAM, IN A SANDBOX (cutbox-rows.mjs): the forced cells as the released guide's own fill.sh prints them over the translation 89b9b597f5ddd56c… (all of the seat's roots in one cut). By AI agents, Wed Nov 11 2026. No macro, syntax, notation, axiom, sorry.
-/
import Derived.Test.YtaekpfhgdnfciaaDoorChecked
import GoSem.Claim
import GoSem.ClaimJoined
import GoSem.ClaimMapViews
import Derived.JoinedTies
import Derived.KernelRfl
namespace Go.Proofs.YtaekpfhgdnfciaaDoor
/- THE CELL 'sum', in the pinned program and in every row, IS THE sha256 OF THE DUMP (.gsa) THAT YtaekpfhgdnfciaaDoorProg.lean LOADS. Nothing in Lean hashes anything: it is a label: what it is worth is what the hold of that sum in a sandbox is worth. -/
noncomputable def Tryd.pinned : Pinned := { name := "ytaekpfhgdnfciaadoor", sum := "89b9b597f5ddd56c0080fe7a2b908c565310da788247cf9715a02acb8b9751e3", checked := Tryd.checked }
namespace Rows
def none {H : Type} : Left H := { results := [], args := [] }

/- WHAT THE LISTED PACKAGE-LEVEL VARIABLES READ AS WHEN THE CALL BEGINS. Each datum BY PROGRAM (the guide's laid-datum.mjs) off the statement by which the dump's own 'gosem.cut.vars' lays the variable. In a bare row this is a premise. The card (YtaekpfhgdnfciaaDoorCards.lean) ties it to the program's text. -/
def laid_strandline_crc_half {H : Type} : DataW H := .agg [.lit (.int .u32 0), .lit (.int .u32 274646895), .lit (.int .u32 549293790), .lit (.int .u32 820201905), .lit (.int .u32 1098587580), .lit (.int .u32 1361435347), .lit (.int .u32 1640403810), .lit (.int .u32 1905808397), .lit (.int .u32 2197175160), .lit (.int .u32 2460548119), .lit (.int .u32 2722870694), .lit (.int .u32 2987750089), .lit (.int .u32 3280807620), .lit (.int .u32 3553878443), .lit (.int .u32 3811616794), .lit (.int .u32 4084100981)]

/-- 'strandlinelaw19.ScanTells': WHATEVER THE INPUT: true; the input reads as it did. -/
def scanTellsSpec : ChangeSpec := { name := "scanTells", fn := fun _ => fun
  | [d1, d2, d3] => { results := [.lit (.bool true)], args := [d1, d2, d3] }
  | _ => none }
def scanTellsRow : OpenClaim := { program := "ytaekpfhgdnfciaadoor", sum := "89b9b597f5ddd56c0080fe7a2b908c565310da788247cf9715a02acb8b9751e3", func := "strandline/strandlinelaw19.ScanTells", spec := "scanTells", unfollowed := true, recurses := true, named := ["strandline/crc.half"], apart := false, laid := [("strandline/crc.half", laid_strandline_crc_half)] }
def ScanTellsSaid : Prop := scanTellsRow.holds Tryd.pinned (OpenSpec.ofChange scanTellsSpec)

/-- ITS FALSE NEIGHBOUR: 'it returns false'. Refute it at one input. -/
def scanTellsWrong : ChangeSpec := { name := "scanTells", fn := fun _ => fun
  | [d1, d2, d3] => { results := [.lit (.bool false)], args := [d1, d2, d3] }
  | _ => none }
def ScanTellsWrongFalsely : Prop := scanTellsRow.holds Tryd.pinned (OpenSpec.ofChange scanTellsWrong)

/-- 'strandlinelaw19.ScanBack': WHATEVER THE INPUT: true; the input reads as it did. -/
def scanBackSpec : ChangeSpec := { name := "scanBack", fn := fun _ => fun
  | [d1, d2] => { results := [.lit (.bool true)], args := [d1, d2] }
  | _ => none }
def scanBackRow : OpenClaim := { program := "ytaekpfhgdnfciaadoor", sum := "89b9b597f5ddd56c0080fe7a2b908c565310da788247cf9715a02acb8b9751e3", func := "strandline/strandlinelaw19.ScanBack", spec := "scanBack", unfollowed := true, recurses := true, named := ["strandline/crc.half"], apart := false, laid := [("strandline/crc.half", laid_strandline_crc_half)] }
def ScanBackSaid : Prop := scanBackRow.holds Tryd.pinned (OpenSpec.ofChange scanBackSpec)

/-- ITS FALSE NEIGHBOUR: 'it returns false'. Refute it at one input. -/
def scanBackWrong : ChangeSpec := { name := "scanBack", fn := fun _ => fun
  | [d1, d2] => { results := [.lit (.bool false)], args := [d1, d2] }
  | _ => none }
def ScanBackWrongFalsely : Prop := scanBackRow.holds Tryd.pinned (OpenSpec.ofChange scanBackWrong)

/-- 'strandlinelaw19.ScanLost': WHATEVER THE INPUT: true; the input reads as it did. -/
def scanLostSpec : ChangeSpec := { name := "scanLost", fn := fun _ => fun
  | [d1, d2] => { results := [.lit (.bool true)], args := [d1, d2] }
  | _ => none }
def scanLostRow : OpenClaim := { program := "ytaekpfhgdnfciaadoor", sum := "89b9b597f5ddd56c0080fe7a2b908c565310da788247cf9715a02acb8b9751e3", func := "strandline/strandlinelaw19.ScanLost", spec := "scanLost", unfollowed := true, recurses := true, named := ["strandline/crc.half"], apart := false, laid := [("strandline/crc.half", laid_strandline_crc_half)] }
def ScanLostSaid : Prop := scanLostRow.holds Tryd.pinned (OpenSpec.ofChange scanLostSpec)

/-- ITS FALSE NEIGHBOUR: 'it returns false'. Refute it at one input. -/
def scanLostWrong : ChangeSpec := { name := "scanLost", fn := fun _ => fun
  | [d1, d2] => { results := [.lit (.bool false)], args := [d1, d2] }
  | _ => none }
def ScanLostWrongFalsely : Prop := scanLostRow.holds Tryd.pinned (OpenSpec.ofChange scanLostWrong)

/-- 'strandlinelaw20.TearNear': WHATEVER THE INPUT: true; the input reads as it did. -/
def tearNearSpec : ChangeSpec := { name := "tearNear", fn := fun _ => fun
  | [d1, d2] => { results := [.lit (.bool true)], args := [d1, d2] }
  | _ => none }
def tearNearRow : OpenClaim := { program := "ytaekpfhgdnfciaadoor", sum := "89b9b597f5ddd56c0080fe7a2b908c565310da788247cf9715a02acb8b9751e3", func := "strandline/strandlinelaw20.TearNear", spec := "tearNear", unfollowed := true, recurses := true, named := ["strandline/crc.half"], apart := false, laid := [("strandline/crc.half", laid_strandline_crc_half)] }
def TearNearSaid : Prop := tearNearRow.holds Tryd.pinned (OpenSpec.ofChange tearNearSpec)

/-- ITS FALSE NEIGHBOUR: 'it returns false'. Refute it at one input. -/
def tearNearWrong : ChangeSpec := { name := "tearNear", fn := fun _ => fun
  | [d1, d2] => { results := [.lit (.bool false)], args := [d1, d2] }
  | _ => none }
def TearNearWrongFalsely : Prop := tearNearRow.holds Tryd.pinned (OpenSpec.ofChange tearNearWrong)

/-- 'strandlinelaw20.TearTells': WHATEVER THE INPUT: true; the input reads as it did. -/
def tearTellsSpec : ChangeSpec := { name := "tearTells", fn := fun _ => fun
  | [d1, d2, d3] => { results := [.lit (.bool true)], args := [d1, d2, d3] }
  | _ => none }
def tearTellsRow : OpenClaim := { program := "ytaekpfhgdnfciaadoor", sum := "89b9b597f5ddd56c0080fe7a2b908c565310da788247cf9715a02acb8b9751e3", func := "strandline/strandlinelaw20.TearTells", spec := "tearTells", unfollowed := true, recurses := true, named := ["strandline/crc.half"], apart := false, laid := [("strandline/crc.half", laid_strandline_crc_half)] }
def TearTellsSaid : Prop := tearTellsRow.holds Tryd.pinned (OpenSpec.ofChange tearTellsSpec)

/-- ITS FALSE NEIGHBOUR: 'it returns false'. Refute it at one input. -/
def tearTellsWrong : ChangeSpec := { name := "tearTells", fn := fun _ => fun
  | [d1, d2, d3] => { results := [.lit (.bool false)], args := [d1, d2, d3] }
  | _ => none }
def TearTellsWrongFalsely : Prop := tearTellsRow.holds Tryd.pinned (OpenSpec.ofChange tearTellsWrong)

/-- 'strandlinelaw20.TearScans': WHATEVER THE INPUT: true; the input reads as it did. -/
def tearScansSpec : ChangeSpec := { name := "tearScans", fn := fun _ => fun
  | [d1, d2] => { results := [.lit (.bool true)], args := [d1, d2] }
  | _ => none }
def tearScansRow : OpenClaim := { program := "ytaekpfhgdnfciaadoor", sum := "89b9b597f5ddd56c0080fe7a2b908c565310da788247cf9715a02acb8b9751e3", func := "strandline/strandlinelaw20.TearScans", spec := "tearScans", unfollowed := true, recurses := true, named := ["strandline/crc.half"], apart := false, laid := [("strandline/crc.half", laid_strandline_crc_half)] }
def TearScansSaid : Prop := tearScansRow.holds Tryd.pinned (OpenSpec.ofChange tearScansSpec)

/-- ITS FALSE NEIGHBOUR: 'it returns false'. Refute it at one input. -/
def tearScansWrong : ChangeSpec := { name := "tearScans", fn := fun _ => fun
  | [d1, d2] => { results := [.lit (.bool false)], args := [d1, d2] }
  | _ => none }
def TearScansWrongFalsely : Prop := tearScansRow.holds Tryd.pinned (OpenSpec.ofChange tearScansWrong)

/- THE SECOND FORM. 'bulk': how many values and letters a reading holds, each counted each time it is reached (what is shared counts as often as it is met; a slice's spare places count too). A statement '..UptoSaid' is the law's where the arguments, and the package variables that the reading takes, are together of bulk at most 1048576: NARROWER than '..Said'. Prove '..Said' where nothing that the law and all that it calls make is longer than what came in: it says more and counts as full. Else prove '..UptoSaid'. A law counts once. -/
mutual
def uptoBulk {H : Type} : DataW H → Nat
  | .lit (.string bytes) => bytes.length + 1
  | .lit _ => 1
  | .nil => 1
  | .ptr d => uptoBulk d + 1
  | .slice elems spare => uptoBulkAll elems + uptoBulkAll spare + 1
  | .agg parts => uptoBulkAll parts + 1
  | .iface _ d => uptoBulk d + 1
  | .map entries => uptoBulkEntries entries + 1
  | .held _ => 1
def uptoBulkAll {H : Type} : List (DataW H) → Nat
  | [] => 0
  | d :: r => uptoBulk d + uptoBulkAll r
def uptoBulkEntries {H : Type} : List (Lit × DataW H) → Nat
  | [] => 0
  | x :: r => uptoBulkEntry x + uptoBulkEntries r
def uptoBulkEntry {H : Type} : Lit × DataW H → Nat
  | (.string bytes, d) => bytes.length + uptoBulk d + 1
  | (_, d) => uptoBulk d + 1
 end
def uptoSmall : (H : Type) → List (DataW H) → Bool := fun _ ds => decide (uptoBulkAll ds ≤ 1048576)
def OpenSpec.upto (s : _root_.Go.ChangeSpec) : _root_.Go.OpenSpec := { _root_.Go.OpenSpec.ofChange s with cond := some uptoSmall }

/-- 'strandlinelaw19.ScanTells', WHERE WHAT IT READS IS OF BULK AT MOST 1048576: true; the input reads as it did. -/
def scanTellsUptoRow : OpenClaim := { program := "ytaekpfhgdnfciaadoor", sum := "89b9b597f5ddd56c0080fe7a2b908c565310da788247cf9715a02acb8b9751e3", func := "strandline/strandlinelaw19.ScanTells", spec := "scanTells", unfollowed := true, recurses := true, named := ["strandline/crc.half"], apart := false, laid := [("strandline/crc.half", laid_strandline_crc_half)], narrowed := true }
def ScanTellsUptoSaid : Prop := scanTellsUptoRow.holds Tryd.pinned (OpenSpec.upto scanTellsSpec)

/-- 'strandlinelaw19.ScanBack', WHERE WHAT IT READS IS OF BULK AT MOST 1048576: true; the input reads as it did. -/
def scanBackUptoRow : OpenClaim := { program := "ytaekpfhgdnfciaadoor", sum := "89b9b597f5ddd56c0080fe7a2b908c565310da788247cf9715a02acb8b9751e3", func := "strandline/strandlinelaw19.ScanBack", spec := "scanBack", unfollowed := true, recurses := true, named := ["strandline/crc.half"], apart := false, laid := [("strandline/crc.half", laid_strandline_crc_half)], narrowed := true }
def ScanBackUptoSaid : Prop := scanBackUptoRow.holds Tryd.pinned (OpenSpec.upto scanBackSpec)

/-- 'strandlinelaw19.ScanLost', WHERE WHAT IT READS IS OF BULK AT MOST 1048576: true; the input reads as it did. -/
def scanLostUptoRow : OpenClaim := { program := "ytaekpfhgdnfciaadoor", sum := "89b9b597f5ddd56c0080fe7a2b908c565310da788247cf9715a02acb8b9751e3", func := "strandline/strandlinelaw19.ScanLost", spec := "scanLost", unfollowed := true, recurses := true, named := ["strandline/crc.half"], apart := false, laid := [("strandline/crc.half", laid_strandline_crc_half)], narrowed := true }
def ScanLostUptoSaid : Prop := scanLostUptoRow.holds Tryd.pinned (OpenSpec.upto scanLostSpec)

/-- 'strandlinelaw20.TearNear', WHERE WHAT IT READS IS OF BULK AT MOST 1048576: true; the input reads as it did. -/
def tearNearUptoRow : OpenClaim := { program := "ytaekpfhgdnfciaadoor", sum := "89b9b597f5ddd56c0080fe7a2b908c565310da788247cf9715a02acb8b9751e3", func := "strandline/strandlinelaw20.TearNear", spec := "tearNear", unfollowed := true, recurses := true, named := ["strandline/crc.half"], apart := false, laid := [("strandline/crc.half", laid_strandline_crc_half)], narrowed := true }
def TearNearUptoSaid : Prop := tearNearUptoRow.holds Tryd.pinned (OpenSpec.upto tearNearSpec)

/-- 'strandlinelaw20.TearTells', WHERE WHAT IT READS IS OF BULK AT MOST 1048576: true; the input reads as it did. -/
def tearTellsUptoRow : OpenClaim := { program := "ytaekpfhgdnfciaadoor", sum := "89b9b597f5ddd56c0080fe7a2b908c565310da788247cf9715a02acb8b9751e3", func := "strandline/strandlinelaw20.TearTells", spec := "tearTells", unfollowed := true, recurses := true, named := ["strandline/crc.half"], apart := false, laid := [("strandline/crc.half", laid_strandline_crc_half)], narrowed := true }
def TearTellsUptoSaid : Prop := tearTellsUptoRow.holds Tryd.pinned (OpenSpec.upto tearTellsSpec)

/-- 'strandlinelaw20.TearScans', WHERE WHAT IT READS IS OF BULK AT MOST 1048576: true; the input reads as it did. -/
def tearScansUptoRow : OpenClaim := { program := "ytaekpfhgdnfciaadoor", sum := "89b9b597f5ddd56c0080fe7a2b908c565310da788247cf9715a02acb8b9751e3", func := "strandline/strandlinelaw20.TearScans", spec := "tearScans", unfollowed := true, recurses := true, named := ["strandline/crc.half"], apart := false, laid := [("strandline/crc.half", laid_strandline_crc_half)], narrowed := true }
def TearScansUptoSaid : Prop := tearScansUptoRow.holds Tryd.pinned (OpenSpec.upto tearScansSpec)

end Rows
end Go.Proofs.YtaekpfhgdnfciaaDoor
