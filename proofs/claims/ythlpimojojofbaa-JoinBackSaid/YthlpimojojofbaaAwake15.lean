/- strandlinelaw15's awake: by hand (two literals '[]byte("..")' that the print's rules don't take). -/
import Derived.Test.YthlpimojojofbaaHjoin2
import Derived.Lib.SlBytesConst
import Derived.Lib.SmallJoins
namespace Go.Proofs.Ythlpimojojofbaa.F
open Go.RowKit Go.Proofs.YthlpimojojofbaaW.PrintWords Go.Proofs.YthlpimojojofbaaW.PrintLast Go.Proofs.YthlpimojojofbaaW.PrintMore
set_option linter.unusedVariables false
def strandlinelaw15_awake.f : Option Bool := some true
theorem C_one {w : World} {g : Nat} {k : IntKind} {z : Int} {t : TypeId} {fr : Nat × Nat} (h : w.heap[g]? = some (.cells #[.int k z] t fr)) : (Kd.int k).C w (some ⟨g, 0, none⟩) 1 [z] := by
  refine ⟨rfl, by omega, fun _ => ⟨_, rfl, fun j p hj => ⟨[.int k p], rfl, rfl, fun i u hu => ?_⟩⟩⟩
  have hj0 : j = 0 := by have := (List.getElem?_eq_some_iff.1 hj).1; simpa using this
  have hi0 : i = 0 := by have := (List.getElem?_eq_some_iff.1 hu).1; simpa using this
  subst hj0 hi0
  have e1 := cell_of_row w g 0 _ _ _ h
  simp at hj hu
  subst hj hu
  exact e1
set_option maxRecDepth 100000 in
set_option maxHeartbeats 1000000 in
theorem strandlinelaw15_awake.calls (r : Bool) (w : World) (h : strandlinelaw15_awake.f = some r) :
    Calls Try.prog 41 #[] w fun e w' => e = .returned (.bool r) ∧ Below w.heap.size w w' := by
  obtain rfl := (Option.some.inj h)
  clear h
  have kc := fun (w : World) (C : Array Value) (n c : Nat) => Lib.run_convert_bytes_const (P := Try.prog) w 35 5 C n c Try.underlying35 Try.underlying5
  have kc2 := fun (C : Array Value) (n c : Nat) => Joins.run_convert_bytes_const_at (P := Try.prog) (w.alloc (.cells #[.int .u8 97] 5 (1, 2))) 35 5 C n c (w.heap.size + 1) (by simp) Try.underlying35 Try.underlying5
  go_enter Try.func41, Try.ntmps41
  go_wp2_with fail
  obtain ⟨W1, hW1⟩ : ∃ W1, (w.alloc (.cells #[.int .u8 97] 5 (1, 2))) = W1 := ⟨_, rfl⟩
  have a1 := blk_new w (.cells #[.int .u8 97] 5 (1, 2))
  have z1 : W1.heap.size = w.heap.size + 1 := by rw [← hW1]; simp
  have B1 : Below w.heap.size w W1 := by rw [← hW1]; exact below_alloc (Below.refl _ _) _
  rw [hW1] at a1 ⊢
  clear hW1 kc kc2
  obtain ⟨W2, hW2⟩ : ∃ W2, (W1.alloc (.cells #[.int .u8 98] 5 (1, 2))) = W2 := ⟨_, rfl⟩
  have a2 := blk_new W1 (.cells #[.int .u8 98] 5 (1, 2))
  replace a1 := blk_alloc a1 (.cells #[.int .u8 98] 5 (1, 2))
  have z2 : W2.heap.size = w.heap.size + 1 + 1 := by rw [← hW2]; simp; omega
  have B2 : Below w.heap.size w W2 := by rw [← hW2]; exact below_alloc B1 _
  rw [hW2] at a1 a2 ⊢
  rw [z1] at a2
  clear hW2 B1
  obtain ⟨o3, ho3⟩ : ∃ o3, (Obj.cells #[.int .i64 2, .int .u32 0, .slice (some ⟨w.heap.size, 0, none⟩) 1 1, .int .i64 4, .int .u32 0, .slice (some ⟨w.heap.size + 1, 0, none⟩) 1 1] 66) = o3 := ⟨_, rfl⟩
  rw [ho3]
  have a3 := blk_new W2 o3
  replace a1 := blk_alloc a1 o3
  replace a2 := blk_alloc a2 o3
  have B3 : Below w.heap.size w (W2.alloc o3) := below_alloc B2 _
  rw [z2] at a3
  generalize W2.alloc o3 = W3 at a1 a2 a3 B3 ⊢
  rw [← ho3] at a3
  clear ho3 B2 z2 z1
  have CF : Kd.C k66 W3 (some ⟨w.heap.size + 1 + 1, 0, none⟩) 2 [⟨2, 0, [97]⟩, ⟨4, 0, [98]⟩] := by
    refine ⟨rfl, by omega, fun _ => ⟨_, rfl, fun j p hj => ?_⟩⟩
    have hj2 : j = 0 ∨ j = 1 := by have := (List.getElem?_eq_some_iff.1 hj).1; simp at this; omega
    rcases hj2 with rfl | rfl
    · have e : p = ⟨2, 0, [97]⟩ := by simpa using hj.symm
      subst e
      refine ⟨_, rfl, k66_mk W3 ⟨2, 0, [97]⟩ (Nat.le_refl 1) (C_one a1), fun i u hu => ?_⟩
      have hi : i < 3 := (List.getElem?_eq_some_iff.1 hu).1
      have e1 := cell_of_row W3 (w.heap.size + 1 + 1) i _ _ _ a3
      have e2 : (Addr.add ⟨w.heap.size + 1 + 1, 0, none⟩ (0 * 3 + i)) = ⟨w.heap.size + 1 + 1, i, none⟩ := by
        rcases (show i = 0 ∨ i = 1 ∨ i = 2 by omega) with rfl | rfl | rfl <;> rfl
      show W3.cell? (Addr.add ⟨w.heap.size + 1 + 1, 0, none⟩ (0 * 3 + i)) = some u
      rw [e2, e1, ← hu]
      rcases (show i = 0 ∨ i = 1 ∨ i = 2 by omega) with rfl | rfl | rfl <;> rfl
    · have e : p = ⟨4, 0, [98]⟩ := by simpa using hj.symm
      subst e
      refine ⟨_, rfl, k66_mk W3 ⟨4, 0, [98]⟩ (Nat.le_refl 1) (C_one a2), fun i u hu => ?_⟩
      have hi : i < 3 := (List.getElem?_eq_some_iff.1 hu).1
      have e1 := cell_of_row W3 (w.heap.size + 1 + 1) (3 + i) _ _ _ a3
      have e2 : (Addr.add ⟨w.heap.size + 1 + 1, 0, none⟩ (1 * 3 + i)) = ⟨w.heap.size + 1 + 1, 3 + i, none⟩ := by
        rcases (show i = 0 ∨ i = 1 ∨ i = 2 by omega) with rfl | rfl | rfl <;> rfl
      show W3.cell? (Addr.add ⟨w.heap.size + 1 + 1, 0, none⟩ (1 * 3 + i)) = some u
      rw [e2, e1, ← hu]
      rcases (show i = 0 ∨ i = 1 ∨ i = 2 by omega) with rfl | rfl | rfl <;> rfl
  clear a1 a2 a3
  refine (join_Join.calls _ _ [⟨2, 0, [97]⟩, ⟨4, 0, [98]⟩] [[97, 98]] 0 _ CF (Nat.le_refl 2) (by decide)).mono ?_
  rintro e w4 ⟨v4, rfl, hS, hb⟩
  have B4 := Aside0.mk (B3.trans (hb.mono B3.size))
  have hN := Kd.S_N (Kd.S_bound hS)
  obtain ⟨Ao, co, eo⟩ := Kd.N_slice hN
  subst eo
  obtain ⟨ad, A5, c5, e5, x5, l5, g5⟩ := at_L3 (Kd.N_reads' hN).2.2 0 (by omega) (by decide)
  subst e5
  have x5' : w4.cell? ad = some (.slice A5 2 c5) := by
    have := x5
    rw [show ((0 : Int)).toNat = 0 from rfl, Addr.add_zero'] at this
    exact this
  have hcv : Sem.run Try.prog (convert 35 9 (.slice A5 2 c5)) w4 = .ok (.string { data := #[97, 98] }) w4 := Kd.C_string (P := Try.prog) (A := A5) (c := c5) Try.underlying35 Try.underlying5 Try.underlying9 g5
  clear x5 l5 g5 hS hb hN CF B3
  simp only [List.length_cons, List.length_nil]
  go_wp2
  go_ret
  exact ⟨rfl, B4.out⟩
end Go.Proofs.Ythlpimojojofbaa.F
