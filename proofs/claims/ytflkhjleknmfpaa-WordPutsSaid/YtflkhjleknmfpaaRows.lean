/-
  No cell of these rows narrows 'for every input' (looked for: loops, veiled, ifaces, maps, wideKeys, modest, calm, conditions, laid).
  DERIVED. THE GIVEN ROWS OF THIS SEAT. 10 by the template 'for every input the law returns true; each argument reads behind the call as it read before'; 0 by the template 'total and deterministic' (their statements: YtflkhjleknmfpaaTotals.lean).
  GIVEN WITH THE SEED: the statements are not yours to turn. If you find one false, say at which input.
  Laid BY PROGRAM, IN A SANDBOX (cutbox-rows.mjs): the forced cells as the released guide's own fill.sh prints them over the translation 4b78dfac5a003d48… (all of the seat's roots in one cut). By AI agents, Wed Nov 11 2026. No macro, syntax, notation, axiom, sorry.
-/
import Derived.Test.YtflkhjleknmfpaaChecked
import GoSem.Claim
import GoSem.ClaimJoined
import GoSem.ClaimMapViews
import Derived.JoinedTies
import Derived.KernelRfl
namespace Go.Proofs.Ytflkhjleknmfpaa
/- THE CELL 'sum', in the pinned program and in every row, IS THE sha256 OF THE DUMP (.gsa) THAT YtflkhjleknmfpaaProg.lean LOADS. Nothing in Lean hashes anything: it is a label: what it is worth is what the hold of that sum in a sandbox is worth. -/
noncomputable def Try.pinned : Pinned := { name := "ytflkhjleknmfpaa", sum := "4b78dfac5a003d48520646a95de109dffbc4108deae194226ea8e73031e567ae", checked := Try.checked }
namespace Rows
def none {H : Type} : Left H := { results := [], args := [] }

/-- 'strandlinelaw01.WordTurns': WHATEVER THE INPUT: true; the input reads as it did. -/
def wordTurnsSpec : ChangeSpec := { name := "wordTurns", fn := fun _ => fun
  | [d1, d2, d3] => { results := [.lit (.bool true)], args := [d1, d2, d3] }
  | _ => none }
def wordTurnsRow : OpenClaim := { program := "ytflkhjleknmfpaa", sum := "4b78dfac5a003d48520646a95de109dffbc4108deae194226ea8e73031e567ae", func := "strandline/strandlinelaw01.WordTurns", spec := "wordTurns", apart := false }
def WordTurnsSaid : Prop := wordTurnsRow.holds Try.pinned (OpenSpec.ofChange wordTurnsSpec)

/-- ITS FALSE NEIGHBOUR: 'it returns false'. Refute it at one input. -/
def wordTurnsWrong : ChangeSpec := { name := "wordTurns", fn := fun _ => fun
  | [d1, d2, d3] => { results := [.lit (.bool false)], args := [d1, d2, d3] }
  | _ => none }
def WordTurnsWrongFalsely : Prop := wordTurnsRow.holds Try.pinned (OpenSpec.ofChange wordTurnsWrong)

/-- 'strandlinelaw01.WordZigs': WHATEVER THE INPUT: true; the input reads as it did. -/
def wordZigsSpec : ChangeSpec := { name := "wordZigs", fn := fun _ => fun
  | [d1, d2, d3] => { results := [.lit (.bool true)], args := [d1, d2, d3] }
  | _ => none }
def wordZigsRow : OpenClaim := { program := "ytflkhjleknmfpaa", sum := "4b78dfac5a003d48520646a95de109dffbc4108deae194226ea8e73031e567ae", func := "strandline/strandlinelaw01.WordZigs", spec := "wordZigs", apart := false }
def WordZigsSaid : Prop := wordZigsRow.holds Try.pinned (OpenSpec.ofChange wordZigsSpec)

/-- ITS FALSE NEIGHBOUR: 'it returns false'. Refute it at one input. -/
def wordZigsWrong : ChangeSpec := { name := "wordZigs", fn := fun _ => fun
  | [d1, d2, d3] => { results := [.lit (.bool false)], args := [d1, d2, d3] }
  | _ => none }
def WordZigsWrongFalsely : Prop := wordZigsRow.holds Try.pinned (OpenSpec.ofChange wordZigsWrong)

/-- 'strandlinelaw07.SpanBlocks': WHATEVER THE INPUT: true; the input reads as it did. -/
def spanBlocksSpec : ChangeSpec := { name := "spanBlocks", fn := fun _ => fun
  | [d] => { results := [.lit (.bool true)], args := [d] }
  | _ => none }
def spanBlocksRow : OpenClaim := { program := "ytflkhjleknmfpaa", sum := "4b78dfac5a003d48520646a95de109dffbc4108deae194226ea8e73031e567ae", func := "strandline/strandlinelaw07.SpanBlocks", spec := "spanBlocks", apart := false }
def SpanBlocksSaid : Prop := spanBlocksRow.holds Try.pinned (OpenSpec.ofChange spanBlocksSpec)

/-- ITS FALSE NEIGHBOUR: 'it returns false'. Refute it at one input. -/
def spanBlocksWrong : ChangeSpec := { name := "spanBlocks", fn := fun _ => fun
  | [d] => { results := [.lit (.bool false)], args := [d] }
  | _ => none }
def SpanBlocksWrongFalsely : Prop := spanBlocksRow.holds Try.pinned (OpenSpec.ofChange spanBlocksWrong)

/-- 'strandlinelaw01.WordPuts': WHATEVER THE INPUT: true; the input reads as it did. -/
def wordPutsSpec : ChangeSpec := { name := "wordPuts", fn := fun _ => fun
  | [d1, d2, d3] => { results := [.lit (.bool true)], args := [d1, d2, d3] }
  | _ => none }
def wordPutsRow : OpenClaim := { program := "ytflkhjleknmfpaa", sum := "4b78dfac5a003d48520646a95de109dffbc4108deae194226ea8e73031e567ae", func := "strandline/strandlinelaw01.WordPuts", spec := "wordPuts", apart := false }
def WordPutsSaid : Prop := wordPutsRow.holds Try.pinned (OpenSpec.ofChange wordPutsSpec)

/-- ITS FALSE NEIGHBOUR: 'it returns false'. Refute it at one input. -/
def wordPutsWrong : ChangeSpec := { name := "wordPuts", fn := fun _ => fun
  | [d1, d2, d3] => { results := [.lit (.bool false)], args := [d1, d2, d3] }
  | _ => none }
def WordPutsWrongFalsely : Prop := wordPutsRow.holds Try.pinned (OpenSpec.ofChange wordPutsWrong)

/-- 'strandlinelaw07.SpanPlaces': WHATEVER THE INPUT: true; the input reads as it did. -/
def spanPlacesSpec : ChangeSpec := { name := "spanPlaces", fn := fun _ => fun
  | [d1, d2] => { results := [.lit (.bool true)], args := [d1, d2] }
  | _ => none }
def spanPlacesRow : OpenClaim := { program := "ytflkhjleknmfpaa", sum := "4b78dfac5a003d48520646a95de109dffbc4108deae194226ea8e73031e567ae", func := "strandline/strandlinelaw07.SpanPlaces", spec := "spanPlaces", apart := false }
def SpanPlacesSaid : Prop := spanPlacesRow.holds Try.pinned (OpenSpec.ofChange spanPlacesSpec)

/-- ITS FALSE NEIGHBOUR: 'it returns false'. Refute it at one input. -/
def spanPlacesWrong : ChangeSpec := { name := "spanPlaces", fn := fun _ => fun
  | [d1, d2] => { results := [.lit (.bool false)], args := [d1, d2] }
  | _ => none }
def SpanPlacesWrongFalsely : Prop := spanPlacesRow.holds Try.pinned (OpenSpec.ofChange spanPlacesWrong)

/-- 'strandlinelaw07.SpanTouches': WHATEVER THE INPUT: true; the input reads as it did. -/
def spanTouchesSpec : ChangeSpec := { name := "spanTouches", fn := fun _ => fun
  | [d1, d2] => { results := [.lit (.bool true)], args := [d1, d2] }
  | _ => none }
def spanTouchesRow : OpenClaim := { program := "ytflkhjleknmfpaa", sum := "4b78dfac5a003d48520646a95de109dffbc4108deae194226ea8e73031e567ae", func := "strandline/strandlinelaw07.SpanTouches", spec := "spanTouches", apart := false }
def SpanTouchesSaid : Prop := spanTouchesRow.holds Try.pinned (OpenSpec.ofChange spanTouchesSpec)

/-- ITS FALSE NEIGHBOUR: 'it returns false'. Refute it at one input. -/
def spanTouchesWrong : ChangeSpec := { name := "spanTouches", fn := fun _ => fun
  | [d1, d2] => { results := [.lit (.bool false)], args := [d1, d2] }
  | _ => none }
def SpanTouchesWrongFalsely : Prop := spanTouchesRow.holds Try.pinned (OpenSpec.ofChange spanTouchesWrong)

/-- 'strandlinelaw09.CrashAll': WHATEVER THE INPUT: true; the input reads as it did. -/
def crashAllSpec : ChangeSpec := { name := "crashAll", fn := fun _ => fun
  | [d1, d2] => { results := [.lit (.bool true)], args := [d1, d2] }
  | _ => none }
def crashAllRow : OpenClaim := { program := "ytflkhjleknmfpaa", sum := "4b78dfac5a003d48520646a95de109dffbc4108deae194226ea8e73031e567ae", func := "strandline/strandlinelaw09.CrashAll", spec := "crashAll", unfollowed := true, recurses := true, apart := false }
def CrashAllSaid : Prop := crashAllRow.holds Try.pinned (OpenSpec.ofChange crashAllSpec)

/-- ITS FALSE NEIGHBOUR: 'it returns false'. Refute it at one input. -/
def crashAllWrong : ChangeSpec := { name := "crashAll", fn := fun _ => fun
  | [d1, d2] => { results := [.lit (.bool false)], args := [d1, d2] }
  | _ => none }
def CrashAllWrongFalsely : Prop := crashAllRow.holds Try.pinned (OpenSpec.ofChange crashAllWrong)

/-- 'strandlinelaw06.StampSeals': WHATEVER THE INPUT: true; the input reads as it did. -/
def stampSealsSpec : ChangeSpec := { name := "stampSeals", fn := fun _ => fun
  | [d1, d2, d3] => { results := [.lit (.bool true)], args := [d1, d2, d3] }
  | _ => none }
def stampSealsRow : OpenClaim := { program := "ytflkhjleknmfpaa", sum := "4b78dfac5a003d48520646a95de109dffbc4108deae194226ea8e73031e567ae", func := "strandline/strandlinelaw06.StampSeals", spec := "stampSeals", apart := false }
def StampSealsSaid : Prop := stampSealsRow.holds Try.pinned (OpenSpec.ofChange stampSealsSpec)

/-- ITS FALSE NEIGHBOUR: 'it returns false'. Refute it at one input. -/
def stampSealsWrong : ChangeSpec := { name := "stampSeals", fn := fun _ => fun
  | [d1, d2, d3] => { results := [.lit (.bool false)], args := [d1, d2, d3] }
  | _ => none }
def StampSealsWrongFalsely : Prop := stampSealsRow.holds Try.pinned (OpenSpec.ofChange stampSealsWrong)

/-- 'strandlinelaw06.StampReads': WHATEVER THE INPUT: true; the input reads as it did. -/
def stampReadsSpec : ChangeSpec := { name := "stampReads", fn := fun _ => fun
  | [d1, d2, d3] => { results := [.lit (.bool true)], args := [d1, d2, d3] }
  | _ => none }
def stampReadsRow : OpenClaim := { program := "ytflkhjleknmfpaa", sum := "4b78dfac5a003d48520646a95de109dffbc4108deae194226ea8e73031e567ae", func := "strandline/strandlinelaw06.StampReads", spec := "stampReads", apart := false }
def StampReadsSaid : Prop := stampReadsRow.holds Try.pinned (OpenSpec.ofChange stampReadsSpec)

/-- ITS FALSE NEIGHBOUR: 'it returns false'. Refute it at one input. -/
def stampReadsWrong : ChangeSpec := { name := "stampReads", fn := fun _ => fun
  | [d1, d2, d3] => { results := [.lit (.bool false)], args := [d1, d2, d3] }
  | _ => none }
def StampReadsWrongFalsely : Prop := stampReadsRow.holds Try.pinned (OpenSpec.ofChange stampReadsWrong)

/-- 'strandlinelaw09.CrashMixes': WHATEVER THE INPUT: true; the input reads as it did. -/
def crashMixesSpec : ChangeSpec := { name := "crashMixes", fn := fun _ => fun
  | [d1, d2, d3] => { results := [.lit (.bool true)], args := [d1, d2, d3] }
  | _ => none }
def crashMixesRow : OpenClaim := { program := "ytflkhjleknmfpaa", sum := "4b78dfac5a003d48520646a95de109dffbc4108deae194226ea8e73031e567ae", func := "strandline/strandlinelaw09.CrashMixes", spec := "crashMixes", unfollowed := true, recurses := true, apart := false }
def CrashMixesSaid : Prop := crashMixesRow.holds Try.pinned (OpenSpec.ofChange crashMixesSpec)

/-- ITS FALSE NEIGHBOUR: 'it returns false'. Refute it at one input. -/
def crashMixesWrong : ChangeSpec := { name := "crashMixes", fn := fun _ => fun
  | [d1, d2, d3] => { results := [.lit (.bool false)], args := [d1, d2, d3] }
  | _ => none }
def CrashMixesWrongFalsely : Prop := crashMixesRow.holds Try.pinned (OpenSpec.ofChange crashMixesWrong)

/- THE SECOND FORM. 'bulk': how many values and letters a reading holds, each counted each time it is reached (what is shared counts as often as it is met; a slice's spare places count too). A statement '..UptoSaid' is the law's where the arguments, and the package variables that the reading takes, are together of bulk at most 1048576: NARROWER than '..Said'. Prove '..Said' where nothing that the law and all that it calls make is longer than what came in: it says more and counts as full. Else prove '..UptoSaid'. A law counts once. -/
mutual
def uptoBulk {H : Type} : DataW H → Nat
  | .lit (.string bytes) => bytes.length + 1
  | .lit _ => 1
  | .nil => 1
  | .ptr d => uptoBulk d + 1
  | .slice elems spare => uptoBulkAll elems + uptoBulkAll spare + 1
  | .agg parts => uptoBulkAll parts + 1
  | .iface _ d => uptoBulk d + 1
  | .map entries => uptoBulkEntries entries + 1
  | .held _ => 1
def uptoBulkAll {H : Type} : List (DataW H) → Nat
  | [] => 0
  | d :: r => uptoBulk d + uptoBulkAll r
def uptoBulkEntries {H : Type} : List (Lit × DataW H) → Nat
  | [] => 0
  | x :: r => uptoBulkEntry x + uptoBulkEntries r
def uptoBulkEntry {H : Type} : Lit × DataW H → Nat
  | (.string bytes, d) => bytes.length + uptoBulk d + 1
  | (_, d) => uptoBulk d + 1
 end
def uptoSmall : (H : Type) → List (DataW H) → Bool := fun _ ds => decide (uptoBulkAll ds ≤ 1048576)
def OpenSpec.upto (s : _root_.Go.ChangeSpec) : _root_.Go.OpenSpec := { _root_.Go.OpenSpec.ofChange s with cond := some uptoSmall }

/-- 'strandlinelaw01.WordTurns', WHERE WHAT IT READS IS OF BULK AT MOST 1048576: true; the input reads as it did. -/
def wordTurnsUptoRow : OpenClaim := { program := "ytflkhjleknmfpaa", sum := "4b78dfac5a003d48520646a95de109dffbc4108deae194226ea8e73031e567ae", func := "strandline/strandlinelaw01.WordTurns", spec := "wordTurns", apart := false, narrowed := true }
def WordTurnsUptoSaid : Prop := wordTurnsUptoRow.holds Try.pinned (OpenSpec.upto wordTurnsSpec)

/-- 'strandlinelaw01.WordZigs', WHERE WHAT IT READS IS OF BULK AT MOST 1048576: true; the input reads as it did. -/
def wordZigsUptoRow : OpenClaim := { program := "ytflkhjleknmfpaa", sum := "4b78dfac5a003d48520646a95de109dffbc4108deae194226ea8e73031e567ae", func := "strandline/strandlinelaw01.WordZigs", spec := "wordZigs", apart := false, narrowed := true }
def WordZigsUptoSaid : Prop := wordZigsUptoRow.holds Try.pinned (OpenSpec.upto wordZigsSpec)

/-- 'strandlinelaw07.SpanBlocks', WHERE WHAT IT READS IS OF BULK AT MOST 1048576: true; the input reads as it did. -/
def spanBlocksUptoRow : OpenClaim := { program := "ytflkhjleknmfpaa", sum := "4b78dfac5a003d48520646a95de109dffbc4108deae194226ea8e73031e567ae", func := "strandline/strandlinelaw07.SpanBlocks", spec := "spanBlocks", apart := false, narrowed := true }
def SpanBlocksUptoSaid : Prop := spanBlocksUptoRow.holds Try.pinned (OpenSpec.upto spanBlocksSpec)

/-- 'strandlinelaw01.WordPuts', WHERE WHAT IT READS IS OF BULK AT MOST 1048576: true; the input reads as it did. -/
def wordPutsUptoRow : OpenClaim := { program := "ytflkhjleknmfpaa", sum := "4b78dfac5a003d48520646a95de109dffbc4108deae194226ea8e73031e567ae", func := "strandline/strandlinelaw01.WordPuts", spec := "wordPuts", apart := false, narrowed := true }
def WordPutsUptoSaid : Prop := wordPutsUptoRow.holds Try.pinned (OpenSpec.upto wordPutsSpec)

/-- 'strandlinelaw07.SpanPlaces', WHERE WHAT IT READS IS OF BULK AT MOST 1048576: true; the input reads as it did. -/
def spanPlacesUptoRow : OpenClaim := { program := "ytflkhjleknmfpaa", sum := "4b78dfac5a003d48520646a95de109dffbc4108deae194226ea8e73031e567ae", func := "strandline/strandlinelaw07.SpanPlaces", spec := "spanPlaces", apart := false, narrowed := true }
def SpanPlacesUptoSaid : Prop := spanPlacesUptoRow.holds Try.pinned (OpenSpec.upto spanPlacesSpec)

/-- 'strandlinelaw07.SpanTouches', WHERE WHAT IT READS IS OF BULK AT MOST 1048576: true; the input reads as it did. -/
def spanTouchesUptoRow : OpenClaim := { program := "ytflkhjleknmfpaa", sum := "4b78dfac5a003d48520646a95de109dffbc4108deae194226ea8e73031e567ae", func := "strandline/strandlinelaw07.SpanTouches", spec := "spanTouches", apart := false, narrowed := true }
def SpanTouchesUptoSaid : Prop := spanTouchesUptoRow.holds Try.pinned (OpenSpec.upto spanTouchesSpec)

/-- 'strandlinelaw09.CrashAll', WHERE WHAT IT READS IS OF BULK AT MOST 1048576: true; the input reads as it did. -/
def crashAllUptoRow : OpenClaim := { program := "ytflkhjleknmfpaa", sum := "4b78dfac5a003d48520646a95de109dffbc4108deae194226ea8e73031e567ae", func := "strandline/strandlinelaw09.CrashAll", spec := "crashAll", unfollowed := true, recurses := true, apart := false, narrowed := true }
def CrashAllUptoSaid : Prop := crashAllUptoRow.holds Try.pinned (OpenSpec.upto crashAllSpec)

/-- 'strandlinelaw06.StampSeals', WHERE WHAT IT READS IS OF BULK AT MOST 1048576: true; the input reads as it did. -/
def stampSealsUptoRow : OpenClaim := { program := "ytflkhjleknmfpaa", sum := "4b78dfac5a003d48520646a95de109dffbc4108deae194226ea8e73031e567ae", func := "strandline/strandlinelaw06.StampSeals", spec := "stampSeals", apart := false, narrowed := true }
def StampSealsUptoSaid : Prop := stampSealsUptoRow.holds Try.pinned (OpenSpec.upto stampSealsSpec)

/-- 'strandlinelaw06.StampReads', WHERE WHAT IT READS IS OF BULK AT MOST 1048576: true; the input reads as it did. -/
def stampReadsUptoRow : OpenClaim := { program := "ytflkhjleknmfpaa", sum := "4b78dfac5a003d48520646a95de109dffbc4108deae194226ea8e73031e567ae", func := "strandline/strandlinelaw06.StampReads", spec := "stampReads", apart := false, narrowed := true }
def StampReadsUptoSaid : Prop := stampReadsUptoRow.holds Try.pinned (OpenSpec.upto stampReadsSpec)

/-- 'strandlinelaw09.CrashMixes', WHERE WHAT IT READS IS OF BULK AT MOST 1048576: true; the input reads as it did. -/
def crashMixesUptoRow : OpenClaim := { program := "ytflkhjleknmfpaa", sum := "4b78dfac5a003d48520646a95de109dffbc4108deae194226ea8e73031e567ae", func := "strandline/strandlinelaw09.CrashMixes", spec := "crashMixes", unfollowed := true, recurses := true, apart := false, narrowed := true }
def CrashMixesUptoSaid : Prop := crashMixesUptoRow.holds Try.pinned (OpenSpec.upto crashMixesSpec)

end Rows
end Go.Proofs.Ytflkhjleknmfpaa
