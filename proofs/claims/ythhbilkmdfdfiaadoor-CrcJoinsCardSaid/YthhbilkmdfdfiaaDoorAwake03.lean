/- strandlinelaw03's awake: by hand (a literal '[]byte("..")' that the print's rules don't take). -/
import Derived.Test.YthhbilkmdfdfiaaDoorHcrc
import Derived.Test.YthhbilkmdfdfiaaDoorFkCrc
import Derived.Lib.SlBytesConst
import Derived.Lib.SmallJoins
namespace Go.Proofs.YthhbilkmdfdfiaaDoor.F
open Go.RowKit Go.Proofs.YthhbilkmdfdfiaaDoorW.PrintWords Go.Proofs.YthhbilkmdfdfiaaDoorW.PrintLast Go.Proofs.YthhbilkmdfdfiaaDoorW.PrintMore
set_option linter.unusedVariables false
def strandlinelaw03_awake.f : Option Bool := some true
theorem C_cells {w : World} {g : Nat} {k : IntKind} {l : List Int} {t : TypeId} {fr : Nat × Nat} (h : w.heap[g]? = some (.cells (l.map (Value.int k)).toArray t fr)) (hl : l.length ≤ 9223372036854775807) : (Kd.int k).C w (some ⟨g, 0, none⟩) l.length l := by
  refine ⟨rfl, hl, fun _ => ⟨_, rfl, fun j p hj => ⟨[.int k p], rfl, rfl, fun i u hu => ?_⟩⟩⟩
  have hi0 : i = 0 := by have := (List.getElem?_eq_some_iff.1 hu).1; simpa using this
  subst hi0
  have e1 := cell_of_row w g j _ _ _ h
  simp at hu
  subst hu
  have e2 : (Addr.add ⟨g, 0, none⟩ (j * (Kd.int k).sz + 0)) = ⟨g, j, none⟩ := by
    rw [show (Kd.int k).sz = 1 from rfl]
    unfold Addr.add
    by_cases hj0 : j = 0
    · subst hj0; rfl
    · simp [hj0]
  rw [e2, e1]
  simp [hj]
set_option maxRecDepth 100000 in
set_option maxHeartbeats 1000000 in
theorem strandlinelaw03_awake.calls (r : Bool) (w : World) (h : strandlinelaw03_awake.f = some r)
    (hH : Half w := by repeat (first | exact Half.at_ (by assumption) (by assumption) | exact Aside0.out (by assumption) | apply Half.alloc | apply Half.drewN | apply Half.drew)) :
    Calls Tryd.prog 15 #[] w fun e w' => e = .returned (.bool r) ∧ Below w.heap.size w w' := by
  obtain rfl := (Option.some.inj h)
  clear h
  have kc := fun (w : World) (C : Array Value) (n c : Nat) => Lib.run_convert_bytes_const (P := Tryd.prog) w 23 5 C n c Tryd.underlying23 Tryd.underlying5
  go_enter Tryd.func15, Tryd.ntmps15
  go_wp2_with fail
  have hC := C_cells (l := [49, 50, 51, 52, 53, 54, 55, 56, 57]) (blk_new w (.cells #[.int .u8 49, .int .u8 50, .int .u8 51, .int .u8 52, .int .u8 53, .int .u8 54, .int .u8 55, .int .u8 56, .int .u8 57] 5 (9, 10))) (by decide)
  have hB := Aside0.mk (below_alloc (Below.refl w.heap.size w) (.cells #[.int .u8 49, .int .u8 50, .int .u8 51, .int .u8 52, .int .u8 53, .int .u8 54, .int .u8 55, .int .u8 56, .int .u8 57] 5 (9, 10)))
  replace hH := hH.alloc (.cells #[.int .u8 49, .int .u8 50, .int .u8 51, .int .u8 52, .int .u8 53, .int .u8 54, .int .u8 55, .int .u8 56, .int .u8 57] 5 (9, 10))
  generalize w.alloc (.cells #[.int .u8 49, .int .u8 50, .int .u8 51, .int .u8 52, .int .u8 53, .int .u8 54, .int .u8 55, .int .u8 56, .int .u8 57] 5 (9, 10)) = W1 at hC hB hH ⊢
  clear kc
  refine (of_calls _ 9 [49, 50, 51, 52, 53, 54, 55, 56, 57] W1 hC (by decide) (by decide) hH).mono ?_
  rintro e w4 ⟨rfl, ⟨n1, rfl⟩⟩
  have em : moreI 0 [49, 50, 51, 52, 53, 54, 55, 56, 57] = 3808858755 := by decide +kernel
  rw [em]
  clear em hC hH
  go_wp2_with fail
  refine (crc_Mask.calls 7 2727406296 _ (by decide +kernel)).mono ?_
  rintro e w5 ⟨rfl, ⟨n2, rfl⟩⟩
  go_wp2_with fail
  refine (crc_Unmask.calls 2727406296 7 _ (by decide +kernel)).mono ?_
  rintro e w6 ⟨rfl, ⟨n3, rfl⟩⟩
  go_wp2
  go_ret
  exact ⟨rfl, pw_below_drewN hB.out _⟩
end Go.Proofs.YthhbilkmdfdfiaaDoor.F
