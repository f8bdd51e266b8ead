/-
  No cell of these rows narrows 'for every input' (looked for: loops, veiled, ifaces, maps, wideKeys, modest, calm, conditions, laid).
  DERIVED. THE GIVEN ROWS OF THIS SEAT. 16 by the template 'for every input the law returns true; each argument reads behind the call as it read before'; 0 by the template 'total and deterministic' (their statements: YthlpimojojofbaaTotals.lean).
  GIVEN WITH THE SEED: the statements are not yours to turn. If you find one false, say at which input.
  Laid BY PROGRAM, IN A SANDBOX (cutbox-rows.mjs): the forced cells as the released guide's own fill.sh prints them over the translation f60f7c91fc932739… (all of the seat's roots in one cut). By AI agents, Wed Nov 11 2026. No macro, syntax, notation, axiom, sorry.
-/
import Derived.Test.YthlpimojojofbaaChecked
import GoSem.Claim
import GoSem.ClaimJoined
import GoSem.ClaimMapViews
import Derived.JoinedTies
import Derived.KernelRfl
namespace Go.Proofs.Ythlpimojojofbaa
/- THE CELL 'sum', in the pinned program and in every row, IS THE sha256 OF THE DUMP (.gsa) THAT YthlpimojojofbaaProg.lean LOADS. Nothing in Lean hashes anything: it is a label: what it is worth is what the hold of that sum in a sandbox is worth. -/
noncomputable def Try.pinned : Pinned := { name := "ythlpimojojofbaa", sum := "f60f7c91fc9327390c20357ac9f8d99af8b2be5fbcfbaf61780a702b29b0b893", checked := Try.checked }
namespace Rows
def none {H : Type} : Left H := { results := [], args := [] }

/-- 'strandlinelaw07.SpanPlaces': WHATEVER THE INPUT: true; the input reads as it did. -/
def spanPlacesSpec : ChangeSpec := { name := "spanPlaces", fn := fun _ => fun
  | [d1, d2] => { results := [.lit (.bool true)], args := [d1, d2] }
  | _ => none }
def spanPlacesRow : OpenClaim := { program := "ythlpimojojofbaa", sum := "f60f7c91fc9327390c20357ac9f8d99af8b2be5fbcfbaf61780a702b29b0b893", func := "strandline/strandlinelaw07.SpanPlaces", spec := "spanPlaces", apart := false }
def SpanPlacesSaid : Prop := spanPlacesRow.holds Try.pinned (OpenSpec.ofChange spanPlacesSpec)

/-- ITS FALSE NEIGHBOUR: 'it returns false'. Refute it at one input. -/
def spanPlacesWrong : ChangeSpec := { name := "spanPlaces", fn := fun _ => fun
  | [d1, d2] => { results := [.lit (.bool false)], args := [d1, d2] }
  | _ => none }
def SpanPlacesWrongFalsely : Prop := spanPlacesRow.holds Try.pinned (OpenSpec.ofChange spanPlacesWrong)

/-- 'strandlinelaw09.CrashAll': WHATEVER THE INPUT: true; the input reads as it did. -/
def crashAllSpec : ChangeSpec := { name := "crashAll", fn := fun _ => fun
  | [d1, d2] => { results := [.lit (.bool true)], args := [d1, d2] }
  | _ => none }
def crashAllRow : OpenClaim := { program := "ythlpimojojofbaa", sum := "f60f7c91fc9327390c20357ac9f8d99af8b2be5fbcfbaf61780a702b29b0b893", func := "strandline/strandlinelaw09.CrashAll", spec := "crashAll", unfollowed := true, recurses := true, apart := false }
def CrashAllSaid : Prop := crashAllRow.holds Try.pinned (OpenSpec.ofChange crashAllSpec)

/-- ITS FALSE NEIGHBOUR: 'it returns false'. Refute it at one input. -/
def crashAllWrong : ChangeSpec := { name := "crashAll", fn := fun _ => fun
  | [d1, d2] => { results := [.lit (.bool false)], args := [d1, d2] }
  | _ => none }
def CrashAllWrongFalsely : Prop := crashAllRow.holds Try.pinned (OpenSpec.ofChange crashAllWrong)

/-- 'strandlinelaw06.StampSeals': WHATEVER THE INPUT: true; the input reads as it did. -/
def stampSealsSpec : ChangeSpec := { name := "stampSeals", fn := fun _ => fun
  | [d1, d2, d3] => { results := [.lit (.bool true)], args := [d1, d2, d3] }
  | _ => none }
def stampSealsRow : OpenClaim := { program := "ythlpimojojofbaa", sum := "f60f7c91fc9327390c20357ac9f8d99af8b2be5fbcfbaf61780a702b29b0b893", func := "strandline/strandlinelaw06.StampSeals", spec := "stampSeals", apart := false }
def StampSealsSaid : Prop := stampSealsRow.holds Try.pinned (OpenSpec.ofChange stampSealsSpec)

/-- ITS FALSE NEIGHBOUR: 'it returns false'. Refute it at one input. -/
def stampSealsWrong : ChangeSpec := { name := "stampSeals", fn := fun _ => fun
  | [d1, d2, d3] => { results := [.lit (.bool false)], args := [d1, d2, d3] }
  | _ => none }
def StampSealsWrongFalsely : Prop := stampSealsRow.holds Try.pinned (OpenSpec.ofChange stampSealsWrong)

/-- 'strandlinelaw06.StampReads': WHATEVER THE INPUT: true; the input reads as it did. -/
def stampReadsSpec : ChangeSpec := { name := "stampReads", fn := fun _ => fun
  | [d1, d2, d3] => { results := [.lit (.bool true)], args := [d1, d2, d3] }
  | _ => none }
def stampReadsRow : OpenClaim := { program := "ythlpimojojofbaa", sum := "f60f7c91fc9327390c20357ac9f8d99af8b2be5fbcfbaf61780a702b29b0b893", func := "strandline/strandlinelaw06.StampReads", spec := "stampReads", apart := false }
def StampReadsSaid : Prop := stampReadsRow.holds Try.pinned (OpenSpec.ofChange stampReadsSpec)

/-- ITS FALSE NEIGHBOUR: 'it returns false'. Refute it at one input. -/
def stampReadsWrong : ChangeSpec := { name := "stampReads", fn := fun _ => fun
  | [d1, d2, d3] => { results := [.lit (.bool false)], args := [d1, d2, d3] }
  | _ => none }
def StampReadsWrongFalsely : Prop := stampReadsRow.holds Try.pinned (OpenSpec.ofChange stampReadsWrong)

/-- 'strandlinelaw09.CrashMixes': WHATEVER THE INPUT: true; the input reads as it did. -/
def crashMixesSpec : ChangeSpec := { name := "crashMixes", fn := fun _ => fun
  | [d1, d2, d3] => { results := [.lit (.bool true)], args := [d1, d2, d3] }
  | _ => none }
def crashMixesRow : OpenClaim := { program := "ythlpimojojofbaa", sum := "f60f7c91fc9327390c20357ac9f8d99af8b2be5fbcfbaf61780a702b29b0b893", func := "strandline/strandlinelaw09.CrashMixes", spec := "crashMixes", unfollowed := true, recurses := true, apart := false }
def CrashMixesSaid : Prop := crashMixesRow.holds Try.pinned (OpenSpec.ofChange crashMixesSpec)

/-- ITS FALSE NEIGHBOUR: 'it returns false'. Refute it at one input. -/
def crashMixesWrong : ChangeSpec := { name := "crashMixes", fn := fun _ => fun
  | [d1, d2, d3] => { results := [.lit (.bool false)], args := [d1, d2, d3] }
  | _ => none }
def CrashMixesWrongFalsely : Prop := crashMixesRow.holds Try.pinned (OpenSpec.ofChange crashMixesWrong)

/-- 'strandlinelaw15.JoinFeeds': WHATEVER THE INPUT: true; the input reads as it did. -/
def joinFeedsSpec : ChangeSpec := { name := "joinFeeds", fn := fun _ => fun
  | [d] => { results := [.lit (.bool true)], args := [d] }
  | _ => none }
def joinFeedsRow : OpenClaim := { program := "ythlpimojojofbaa", sum := "f60f7c91fc9327390c20357ac9f8d99af8b2be5fbcfbaf61780a702b29b0b893", func := "strandline/strandlinelaw15.JoinFeeds", spec := "joinFeeds", apart := false }
def JoinFeedsSaid : Prop := joinFeedsRow.holds Try.pinned (OpenSpec.ofChange joinFeedsSpec)

/-- ITS FALSE NEIGHBOUR: 'it returns false'. Refute it at one input. -/
def joinFeedsWrong : ChangeSpec := { name := "joinFeeds", fn := fun _ => fun
  | [d] => { results := [.lit (.bool false)], args := [d] }
  | _ => none }
def JoinFeedsWrongFalsely : Prop := joinFeedsRow.holds Try.pinned (OpenSpec.ofChange joinFeedsWrong)

/-- 'strandlinelaw15.JoinAll': WHATEVER THE INPUT: true; the input reads as it did. -/
def joinAllSpec : ChangeSpec := { name := "joinAll", fn := fun _ => fun
  | [d] => { results := [.lit (.bool true)], args := [d] }
  | _ => none }
def joinAllRow : OpenClaim := { program := "ythlpimojojofbaa", sum := "f60f7c91fc9327390c20357ac9f8d99af8b2be5fbcfbaf61780a702b29b0b893", func := "strandline/strandlinelaw15.JoinAll", spec := "joinAll", apart := false }
def JoinAllSaid : Prop := joinAllRow.holds Try.pinned (OpenSpec.ofChange joinAllSpec)

/-- ITS FALSE NEIGHBOUR: 'it returns false'. Refute it at one input. -/
def joinAllWrong : ChangeSpec := { name := "joinAll", fn := fun _ => fun
  | [d] => { results := [.lit (.bool false)], args := [d] }
  | _ => none }
def JoinAllWrongFalsely : Prop := joinAllRow.holds Try.pinned (OpenSpec.ofChange joinAllWrong)

/-- 'strandlinelaw15.JoinBack': WHATEVER THE INPUT: true; the input reads as it did. -/
def joinBackSpec : ChangeSpec := { name := "joinBack", fn := fun _ => fun
  | [d1, d2] => { results := [.lit (.bool true)], args := [d1, d2] }
  | _ => none }
def joinBackRow : OpenClaim := { program := "ythlpimojojofbaa", sum := "f60f7c91fc9327390c20357ac9f8d99af8b2be5fbcfbaf61780a702b29b0b893", func := "strandline/strandlinelaw15.JoinBack", spec := "joinBack", apart := false }
def JoinBackSaid : Prop := joinBackRow.holds Try.pinned (OpenSpec.ofChange joinBackSpec)

/-- ITS FALSE NEIGHBOUR: 'it returns false'. Refute it at one input. -/
def joinBackWrong : ChangeSpec := { name := "joinBack", fn := fun _ => fun
  | [d1, d2] => { results := [.lit (.bool false)], args := [d1, d2] }
  | _ => none }
def JoinBackWrongFalsely : Prop := joinBackRow.holds Try.pinned (OpenSpec.ofChange joinBackWrong)

/-- 'strandlinelaw06.StampBytes': WHATEVER THE INPUT: true; the input reads as it did. -/
def stampBytesSpec : ChangeSpec := { name := "stampBytes", fn := fun _ => fun
  | [d] => { results := [.lit (.bool true)], args := [d] }
  | _ => none }
def stampBytesRow : OpenClaim := { program := "ythlpimojojofbaa", sum := "f60f7c91fc9327390c20357ac9f8d99af8b2be5fbcfbaf61780a702b29b0b893", func := "strandline/strandlinelaw06.StampBytes", spec := "stampBytes", apart := false }
def StampBytesSaid : Prop := stampBytesRow.holds Try.pinned (OpenSpec.ofChange stampBytesSpec)

/-- ITS FALSE NEIGHBOUR: 'it returns false'. Refute it at one input. -/
def stampBytesWrong : ChangeSpec := { name := "stampBytes", fn := fun _ => fun
  | [d] => { results := [.lit (.bool false)], args := [d] }
  | _ => none }
def StampBytesWrongFalsely : Prop := stampBytesRow.holds Try.pinned (OpenSpec.ofChange stampBytesWrong)

/-- 'strandlinelaw09.CrashApplies': WHATEVER THE INPUT: true; the input reads as it did. -/
def crashAppliesSpec : ChangeSpec := { name := "crashApplies", fn := fun _ => fun
  | [d1, d2, d3] => { results := [.lit (.bool true)], args := [d1, d2, d3] }
  | _ => none }
def crashAppliesRow : OpenClaim := { program := "ythlpimojojofbaa", sum := "f60f7c91fc9327390c20357ac9f8d99af8b2be5fbcfbaf61780a702b29b0b893", func := "strandline/strandlinelaw09.CrashApplies", spec := "crashApplies", unfollowed := true, recurses := true, apart := false }
def CrashAppliesSaid : Prop := crashAppliesRow.holds Try.pinned (OpenSpec.ofChange crashAppliesSpec)

/-- ITS FALSE NEIGHBOUR: 'it returns false'. Refute it at one input. -/
def crashAppliesWrong : ChangeSpec := { name := "crashApplies", fn := fun _ => fun
  | [d1, d2, d3] => { results := [.lit (.bool false)], args := [d1, d2, d3] }
  | _ => none }
def CrashAppliesWrongFalsely : Prop := crashAppliesRow.holds Try.pinned (OpenSpec.ofChange crashAppliesWrong)

/-- 'strandlinelaw14.CutPieces': WHATEVER THE INPUT: true; the input reads as it did. -/
def cutPiecesSpec : ChangeSpec := { name := "cutPieces", fn := fun _ => fun
  | [d1, d2] => { results := [.lit (.bool true)], args := [d1, d2] }
  | _ => none }
def cutPiecesRow : OpenClaim := { program := "ythlpimojojofbaa", sum := "f60f7c91fc9327390c20357ac9f8d99af8b2be5fbcfbaf61780a702b29b0b893", func := "strandline/strandlinelaw14.CutPieces", spec := "cutPieces", unfollowed := true, recurses := true, apart := false }
def CutPiecesSaid : Prop := cutPiecesRow.holds Try.pinned (OpenSpec.ofChange cutPiecesSpec)

/-- ITS FALSE NEIGHBOUR: 'it returns false'. Refute it at one input. -/
def cutPiecesWrong : ChangeSpec := { name := "cutPieces", fn := fun _ => fun
  | [d1, d2] => { results := [.lit (.bool false)], args := [d1, d2] }
  | _ => none }
def CutPiecesWrongFalsely : Prop := cutPiecesRow.holds Try.pinned (OpenSpec.ofChange cutPiecesWrong)

/-- 'strandlinelaw14.CutRooms': WHATEVER THE INPUT: true; the input reads as it did. -/
def cutRoomsSpec : ChangeSpec := { name := "cutRooms", fn := fun _ => fun
  | [d] => { results := [.lit (.bool true)], args := [d] }
  | _ => none }
def cutRoomsRow : OpenClaim := { program := "ythlpimojojofbaa", sum := "f60f7c91fc9327390c20357ac9f8d99af8b2be5fbcfbaf61780a702b29b0b893", func := "strandline/strandlinelaw14.CutRooms", spec := "cutRooms", unfollowed := true, recurses := true, apart := false }
def CutRoomsSaid : Prop := cutRoomsRow.holds Try.pinned (OpenSpec.ofChange cutRoomsSpec)

/-- ITS FALSE NEIGHBOUR: 'it returns false'. Refute it at one input. -/
def cutRoomsWrong : ChangeSpec := { name := "cutRooms", fn := fun _ => fun
  | [d] => { results := [.lit (.bool false)], args := [d] }
  | _ => none }
def CutRoomsWrongFalsely : Prop := cutRoomsRow.holds Try.pinned (OpenSpec.ofChange cutRoomsWrong)

/-- 'strandlinelaw16.PlanWrites': WHATEVER THE INPUT: true; the input reads as it did. -/
def planWritesSpec : ChangeSpec := { name := "planWrites", fn := fun _ => fun
  | [d1, d2, d3] => { results := [.lit (.bool true)], args := [d1, d2, d3] }
  | _ => none }
def planWritesRow : OpenClaim := { program := "ythlpimojojofbaa", sum := "f60f7c91fc9327390c20357ac9f8d99af8b2be5fbcfbaf61780a702b29b0b893", func := "strandline/strandlinelaw16.PlanWrites", spec := "planWrites", apart := false }
def PlanWritesSaid : Prop := planWritesRow.holds Try.pinned (OpenSpec.ofChange planWritesSpec)

/-- ITS FALSE NEIGHBOUR: 'it returns false'. Refute it at one input. -/
def planWritesWrong : ChangeSpec := { name := "planWrites", fn := fun _ => fun
  | [d1, d2, d3] => { results := [.lit (.bool false)], args := [d1, d2, d3] }
  | _ => none }
def PlanWritesWrongFalsely : Prop := planWritesRow.holds Try.pinned (OpenSpec.ofChange planWritesWrong)

/-- 'strandlinelaw16.PlanBack': WHATEVER THE INPUT: true; the input reads as it did. -/
def planBackSpec : ChangeSpec := { name := "planBack", fn := fun _ => fun
  | [d1, d2, d3] => { results := [.lit (.bool true)], args := [d1, d2, d3] }
  | _ => none }
def planBackRow : OpenClaim := { program := "ythlpimojojofbaa", sum := "f60f7c91fc9327390c20357ac9f8d99af8b2be5fbcfbaf61780a702b29b0b893", func := "strandline/strandlinelaw16.PlanBack", spec := "planBack", apart := false }
def PlanBackSaid : Prop := planBackRow.holds Try.pinned (OpenSpec.ofChange planBackSpec)

/-- ITS FALSE NEIGHBOUR: 'it returns false'. Refute it at one input. -/
def planBackWrong : ChangeSpec := { name := "planBack", fn := fun _ => fun
  | [d1, d2, d3] => { results := [.lit (.bool false)], args := [d1, d2, d3] }
  | _ => none }
def PlanBackWrongFalsely : Prop := planBackRow.holds Try.pinned (OpenSpec.ofChange planBackWrong)

/-- 'strandlinelaw16.PlanFlats': WHATEVER THE INPUT: true; the input reads as it did. -/
def planFlatsSpec : ChangeSpec := { name := "planFlats", fn := fun _ => fun
  | [d1, d2, d3] => { results := [.lit (.bool true)], args := [d1, d2, d3] }
  | _ => none }
def planFlatsRow : OpenClaim := { program := "ythlpimojojofbaa", sum := "f60f7c91fc9327390c20357ac9f8d99af8b2be5fbcfbaf61780a702b29b0b893", func := "strandline/strandlinelaw16.PlanFlats", spec := "planFlats", apart := false }
def PlanFlatsSaid : Prop := planFlatsRow.holds Try.pinned (OpenSpec.ofChange planFlatsSpec)

/-- ITS FALSE NEIGHBOUR: 'it returns false'. Refute it at one input. -/
def planFlatsWrong : ChangeSpec := { name := "planFlats", fn := fun _ => fun
  | [d1, d2, d3] => { results := [.lit (.bool false)], args := [d1, d2, d3] }
  | _ => none }
def PlanFlatsWrongFalsely : Prop := planFlatsRow.holds Try.pinned (OpenSpec.ofChange planFlatsWrong)

/-- 'strandlinelaw14.CutFrags': WHATEVER THE INPUT: true; the input reads as it did. -/
def cutFragsSpec : ChangeSpec := { name := "cutFrags", fn := fun _ => fun
  | [d1, d2, d3] => { results := [.lit (.bool true)], args := [d1, d2, d3] }
  | _ => none }
def cutFragsRow : OpenClaim := { program := "ythlpimojojofbaa", sum := "f60f7c91fc9327390c20357ac9f8d99af8b2be5fbcfbaf61780a702b29b0b893", func := "strandline/strandlinelaw14.CutFrags", spec := "cutFrags", unfollowed := true, recurses := true, apart := false }
def CutFragsSaid : Prop := cutFragsRow.holds Try.pinned (OpenSpec.ofChange cutFragsSpec)

/-- ITS FALSE NEIGHBOUR: 'it returns false'. Refute it at one input. -/
def cutFragsWrong : ChangeSpec := { name := "cutFrags", fn := fun _ => fun
  | [d1, d2, d3] => { results := [.lit (.bool false)], args := [d1, d2, d3] }
  | _ => none }
def CutFragsWrongFalsely : Prop := cutFragsRow.holds Try.pinned (OpenSpec.ofChange cutFragsWrong)

/- THE SECOND FORM. 'bulk': how many values and letters a reading holds, each counted each time it is reached (what is shared counts as often as it is met; a slice's spare places count too). A statement '..UptoSaid' is the law's where the arguments, and the package variables that the reading takes, are together of bulk at most 1048576: NARROWER than '..Said'. Prove '..Said' where nothing that the law and all that it calls make is longer than what came in: it says more and counts as full. Else prove '..UptoSaid'. A law counts once. -/
mutual
def uptoBulk {H : Type} : DataW H → Nat
  | .lit (.string bytes) => bytes.length + 1
  | .lit _ => 1
  | .nil => 1
  | .ptr d => uptoBulk d + 1
  | .slice elems spare => uptoBulkAll elems + uptoBulkAll spare + 1
  | .agg parts => uptoBulkAll parts + 1
  | .iface _ d => uptoBulk d + 1
  | .map entries => uptoBulkEntries entries + 1
  | .held _ => 1
def uptoBulkAll {H : Type} : List (DataW H) → Nat
  | [] => 0
  | d :: r => uptoBulk d + uptoBulkAll r
def uptoBulkEntries {H : Type} : List (Lit × DataW H) → Nat
  | [] => 0
  | x :: r => uptoBulkEntry x + uptoBulkEntries r
def uptoBulkEntry {H : Type} : Lit × DataW H → Nat
  | (.string bytes, d) => bytes.length + uptoBulk d + 1
  | (_, d) => uptoBulk d + 1
 end
def uptoSmall : (H : Type) → List (DataW H) → Bool := fun _ ds => decide (uptoBulkAll ds ≤ 1048576)
def OpenSpec.upto (s : _root_.Go.ChangeSpec) : _root_.Go.OpenSpec := { _root_.Go.OpenSpec.ofChange s with cond := some uptoSmall }

/-- 'strandlinelaw07.SpanPlaces', WHERE WHAT IT READS IS OF BULK AT MOST 1048576: true; the input reads as it did. -/
def spanPlacesUptoRow : OpenClaim := { program := "ythlpimojojofbaa", sum := "f60f7c91fc9327390c20357ac9f8d99af8b2be5fbcfbaf61780a702b29b0b893", func := "strandline/strandlinelaw07.SpanPlaces", spec := "spanPlaces", apart := false, narrowed := true }
def SpanPlacesUptoSaid : Prop := spanPlacesUptoRow.holds Try.pinned (OpenSpec.upto spanPlacesSpec)

/-- 'strandlinelaw09.CrashAll', WHERE WHAT IT READS IS OF BULK AT MOST 1048576: true; the input reads as it did. -/
def crashAllUptoRow : OpenClaim := { program := "ythlpimojojofbaa", sum := "f60f7c91fc9327390c20357ac9f8d99af8b2be5fbcfbaf61780a702b29b0b893", func := "strandline/strandlinelaw09.CrashAll", spec := "crashAll", unfollowed := true, recurses := true, apart := false, narrowed := true }
def CrashAllUptoSaid : Prop := crashAllUptoRow.holds Try.pinned (OpenSpec.upto crashAllSpec)

/-- 'strandlinelaw06.StampSeals', WHERE WHAT IT READS IS OF BULK AT MOST 1048576: true; the input reads as it did. -/
def stampSealsUptoRow : OpenClaim := { program := "ythlpimojojofbaa", sum := "f60f7c91fc9327390c20357ac9f8d99af8b2be5fbcfbaf61780a702b29b0b893", func := "strandline/strandlinelaw06.StampSeals", spec := "stampSeals", apart := false, narrowed := true }
def StampSealsUptoSaid : Prop := stampSealsUptoRow.holds Try.pinned (OpenSpec.upto stampSealsSpec)

/-- 'strandlinelaw06.StampReads', WHERE WHAT IT READS IS OF BULK AT MOST 1048576: true; the input reads as it did. -/
def stampReadsUptoRow : OpenClaim := { program := "ythlpimojojofbaa", sum := "f60f7c91fc9327390c20357ac9f8d99af8b2be5fbcfbaf61780a702b29b0b893", func := "strandline/strandlinelaw06.StampReads", spec := "stampReads", apart := false, narrowed := true }
def StampReadsUptoSaid : Prop := stampReadsUptoRow.holds Try.pinned (OpenSpec.upto stampReadsSpec)

/-- 'strandlinelaw09.CrashMixes', WHERE WHAT IT READS IS OF BULK AT MOST 1048576: true; the input reads as it did. -/
def crashMixesUptoRow : OpenClaim := { program := "ythlpimojojofbaa", sum := "f60f7c91fc9327390c20357ac9f8d99af8b2be5fbcfbaf61780a702b29b0b893", func := "strandline/strandlinelaw09.CrashMixes", spec := "crashMixes", unfollowed := true, recurses := true, apart := false, narrowed := true }
def CrashMixesUptoSaid : Prop := crashMixesUptoRow.holds Try.pinned (OpenSpec.upto crashMixesSpec)

/-- 'strandlinelaw15.JoinFeeds', WHERE WHAT IT READS IS OF BULK AT MOST 1048576: true; the input reads as it did. -/
def joinFeedsUptoRow : OpenClaim := { program := "ythlpimojojofbaa", sum := "f60f7c91fc9327390c20357ac9f8d99af8b2be5fbcfbaf61780a702b29b0b893", func := "strandline/strandlinelaw15.JoinFeeds", spec := "joinFeeds", apart := false, narrowed := true }
def JoinFeedsUptoSaid : Prop := joinFeedsUptoRow.holds Try.pinned (OpenSpec.upto joinFeedsSpec)

/-- 'strandlinelaw15.JoinAll', WHERE WHAT IT READS IS OF BULK AT MOST 1048576: true; the input reads as it did. -/
def joinAllUptoRow : OpenClaim := { program := "ythlpimojojofbaa", sum := "f60f7c91fc9327390c20357ac9f8d99af8b2be5fbcfbaf61780a702b29b0b893", func := "strandline/strandlinelaw15.JoinAll", spec := "joinAll", apart := false, narrowed := true }
def JoinAllUptoSaid : Prop := joinAllUptoRow.holds Try.pinned (OpenSpec.upto joinAllSpec)

/-- 'strandlinelaw15.JoinBack', WHERE WHAT IT READS IS OF BULK AT MOST 1048576: true; the input reads as it did. -/
def joinBackUptoRow : OpenClaim := { program := "ythlpimojojofbaa", sum := "f60f7c91fc9327390c20357ac9f8d99af8b2be5fbcfbaf61780a702b29b0b893", func := "strandline/strandlinelaw15.JoinBack", spec := "joinBack", apart := false, narrowed := true }
def JoinBackUptoSaid : Prop := joinBackUptoRow.holds Try.pinned (OpenSpec.upto joinBackSpec)

/-- 'strandlinelaw06.StampBytes', WHERE WHAT IT READS IS OF BULK AT MOST 1048576: true; the input reads as it did. -/
def stampBytesUptoRow : OpenClaim := { program := "ythlpimojojofbaa", sum := "f60f7c91fc9327390c20357ac9f8d99af8b2be5fbcfbaf61780a702b29b0b893", func := "strandline/strandlinelaw06.StampBytes", spec := "stampBytes", apart := false, narrowed := true }
def StampBytesUptoSaid : Prop := stampBytesUptoRow.holds Try.pinned (OpenSpec.upto stampBytesSpec)

/-- 'strandlinelaw09.CrashApplies', WHERE WHAT IT READS IS OF BULK AT MOST 1048576: true; the input reads as it did. -/
def crashAppliesUptoRow : OpenClaim := { program := "ythlpimojojofbaa", sum := "f60f7c91fc9327390c20357ac9f8d99af8b2be5fbcfbaf61780a702b29b0b893", func := "strandline/strandlinelaw09.CrashApplies", spec := "crashApplies", unfollowed := true, recurses := true, apart := false, narrowed := true }
def CrashAppliesUptoSaid : Prop := crashAppliesUptoRow.holds Try.pinned (OpenSpec.upto crashAppliesSpec)

/-- 'strandlinelaw14.CutPieces', WHERE WHAT IT READS IS OF BULK AT MOST 1048576: true; the input reads as it did. -/
def cutPiecesUptoRow : OpenClaim := { program := "ythlpimojojofbaa", sum := "f60f7c91fc9327390c20357ac9f8d99af8b2be5fbcfbaf61780a702b29b0b893", func := "strandline/strandlinelaw14.CutPieces", spec := "cutPieces", unfollowed := true, recurses := true, apart := false, narrowed := true }
def CutPiecesUptoSaid : Prop := cutPiecesUptoRow.holds Try.pinned (OpenSpec.upto cutPiecesSpec)

/-- 'strandlinelaw14.CutRooms', WHERE WHAT IT READS IS OF BULK AT MOST 1048576: true; the input reads as it did. -/
def cutRoomsUptoRow : OpenClaim := { program := "ythlpimojojofbaa", sum := "f60f7c91fc9327390c20357ac9f8d99af8b2be5fbcfbaf61780a702b29b0b893", func := "strandline/strandlinelaw14.CutRooms", spec := "cutRooms", unfollowed := true, recurses := true, apart := false, narrowed := true }
def CutRoomsUptoSaid : Prop := cutRoomsUptoRow.holds Try.pinned (OpenSpec.upto cutRoomsSpec)

/-- 'strandlinelaw16.PlanWrites', WHERE WHAT IT READS IS OF BULK AT MOST 1048576: true; the input reads as it did. -/
def planWritesUptoRow : OpenClaim := { program := "ythlpimojojofbaa", sum := "f60f7c91fc9327390c20357ac9f8d99af8b2be5fbcfbaf61780a702b29b0b893", func := "strandline/strandlinelaw16.PlanWrites", spec := "planWrites", apart := false, narrowed := true }
def PlanWritesUptoSaid : Prop := planWritesUptoRow.holds Try.pinned (OpenSpec.upto planWritesSpec)

/-- 'strandlinelaw16.PlanBack', WHERE WHAT IT READS IS OF BULK AT MOST 1048576: true; the input reads as it did. -/
def planBackUptoRow : OpenClaim := { program := "ythlpimojojofbaa", sum := "f60f7c91fc9327390c20357ac9f8d99af8b2be5fbcfbaf61780a702b29b0b893", func := "strandline/strandlinelaw16.PlanBack", spec := "planBack", apart := false, narrowed := true }
def PlanBackUptoSaid : Prop := planBackUptoRow.holds Try.pinned (OpenSpec.upto planBackSpec)

/-- 'strandlinelaw16.PlanFlats', WHERE WHAT IT READS IS OF BULK AT MOST 1048576: true; the input reads as it did. -/
def planFlatsUptoRow : OpenClaim := { program := "ythlpimojojofbaa", sum := "f60f7c91fc9327390c20357ac9f8d99af8b2be5fbcfbaf61780a702b29b0b893", func := "strandline/strandlinelaw16.PlanFlats", spec := "planFlats", apart := false, narrowed := true }
def PlanFlatsUptoSaid : Prop := planFlatsUptoRow.holds Try.pinned (OpenSpec.upto planFlatsSpec)

/-- 'strandlinelaw14.CutFrags', WHERE WHAT IT READS IS OF BULK AT MOST 1048576: true; the input reads as it did. -/
def cutFragsUptoRow : OpenClaim := { program := "ythlpimojojofbaa", sum := "f60f7c91fc9327390c20357ac9f8d99af8b2be5fbcfbaf61780a702b29b0b893", func := "strandline/strandlinelaw14.CutFrags", spec := "cutFrags", unfollowed := true, recurses := true, apart := false, narrowed := true }
def CutFragsUptoSaid : Prop := cutFragsUptoRow.holds Try.pinned (OpenSpec.upto cutFragsSpec)

end Rows
end Go.Proofs.Ythlpimojojofbaa
