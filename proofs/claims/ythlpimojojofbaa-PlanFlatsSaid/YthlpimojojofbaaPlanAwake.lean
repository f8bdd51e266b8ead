/- does plan answer at all? -/
import Derived.Test.YthlpimojojofbaaFlat
import Derived.Test.YthlpimojojofbaaStampBytes
namespace Go.Proofs.Ythlpimojojofbaa.O
open Go.RowKit Go.Proofs.YthlpimojojofbaaW.PrintWords Go.Proofs.YthlpimojojofbaaW.PrintLast Go.Proofs.YthlpimojojofbaaW.PrintMore Go.Proofs.Ythlpimojojofbaa.F Go.Proofs.Ythlpimojojofbaa.F.Nums Go.Proofs.Ythlpimojojofbaa.Plain
set_option linter.unusedVariables false
set_option linter.unusedSimpArgs false
def awF : List Int := flatP 3 [120] 0 2
set_option maxRecDepth 100000 in
theorem awF_B : (bodyF 3 awF 2 16).getD 0 0 = 120 := by decide +kernel
set_option maxRecDepth 100000 in
theorem awF_1 : (oksF 3 awF 2 16).getD 1 false = true := by decide +kernel
set_option maxRecDepth 100000 in
theorem awF_2 : (oksF 3 awF 2 16).getD 2 false = false := by decide +kernel
set_option maxRecDepth 100000 in
set_option maxHeartbeats 4000000 in
theorem awake16 (w : World) : Calls Try.prog 64 #[] w fun e w' => e = .returned (.bool true) ∧ Below w.heap.size w w' := by
  have kc := fun (w : World) (C : Array Value) (n c : Nat) => Lib.run_convert_bytes_const (P := Try.prog) w 35 5 C n c Try.underlying35 Try.underlying5
  go_enter Try.func64, Try.ntmps64
  go_wp2_with fail
  have a1 := C_one (blk_new w (.cells #[.int .u8 120] 5 (1, 2)))
  have H := (Own.start w).to (below_alloc (Below.refl w.heap.size w) (.cells #[.int .u8 120] 5 (1, 2)))
  generalize w.alloc (.cells #[.int .u8 120] 5 (1, 2)) = W1 at a1 H ⊢
  clear kc
  refine (write_calls 3 (by decide) (by decide) [120] 50 60 0 2 (by decide) (by decide) (by decide) _ 1 _ a1 (by decide) (by decide)).mono ?_
  rintro e W ⟨v, rfl, ho, hb⟩
  replace H := H.addRow hb ho
  clear hb a1 ho
  rw [show flatP 3 [120] 0 (2 - 0) = awF from rfl] at H
  obtain ⟨A3, c3, rfl⟩ := H.row_slice .head
  have hf : awF.length = 64 * 2 := flatP_len _ _ _ _
  have hfb : Bytes awF := flatP_bytes (by intro c hc; simp at hc; subst hc; decide) _ _ _
  have F1 := fun W h1 h2 => flat_calls 3 awF 2 hf hfb A3 c3 W h1 h2 (by decide)
  have hB := awF_B
  have h1 := awF_1
  have h2 := awF_2
  have lB : (bodyF 3 awF 2 16).length = 832 := bodyF_len hf 16
  have lO : (oksF 3 awF 2 16).length = 16 := oksF_len 16
  generalize bodyF 3 awF 2 16 = B at *
  generalize oksF 3 awF 2 16 = O at *
  generalize awF = fl at *
  have cB : (nums .u8 B)[0]? = some (.int .u8 120) := by rw [← hB]; exact nums_at 0 (by omega)
  have c1 : (bools O)[1]? = some (.bool true) := by rw [← h1]; exact bools_at 1 (by omega)
  have c2 : (bools O)[2]? = some (.bool false) := by rw [← h2]; exact bools_at 2 (by omega)
  clear hf hfb
  go_wp2_with (first
    | (go_at_call 69; (with_reducible refine (F1 _ (H.rd .head).1 (H.rd .head).2.1).mono ?_); rintro e W ⟨v1, v2, rfl, K⟩; replace H := H.addOwn K; clear K F1; dsimp only [List.cons_append, List.nil_append] at H; obtain ⟨g1, p1, r1, rfl, q1, -, -, t1, H⟩ := H.row_blk .head (by decide); obtain ⟨g2, p2, r2, rfl, q2, -, -, t2, H⟩ := H.row_blk (.tail .head) (by decide); have d0 : r1[0]? = some (.int .u8 120) := (by rw [← cB, ← t1, List.getElem?_take_of_lt (by decide)]); have d1 : r2[1]? = some (.bool true) := (by rw [← c1, ← t2, List.getElem?_take_of_lt (by decide)]); have d2 : r2[2]? = some (.bool false) := (by rw [← c2, ← t2, List.getElem?_take_of_lt (by decide)]); clear q1 q2 t1 t2)
    | ((with_reducible refine gate_dst (N := 36) rfl ?_); refine gate_guard (by rfl) ?_; refine l_load1 rfl H 5 _ rfl _ _ rfl (by (repeat (first | exact In.head | apply In.tail))) _ Try.underlying5 rfl _ (by first | rfl | assumption | exact nums_at _ (by omega)) ?_)
    | ((with_reducible refine gate_dst (N := 42) rfl ?_); refine gate_guard (by rfl) ?_; refine l_load1 rfl H 4 _ rfl _ _ rfl (by (repeat (first | exact In.head | apply In.tail))) _ Try.underlying4 rfl _ (by first | rfl | assumption | exact nums_at _ (by omega)) ?_)
    | ((with_reducible refine gate_dst (N := 47) rfl ?_); refine gate_guard (by rfl) ?_; refine l_load1 rfl H 4 _ rfl _ _ rfl (by (repeat (first | exact In.head | apply In.tail))) _ Try.underlying4 rfl _ (by first | rfl | assumption | exact nums_at _ (by omega)) ?_))
  go_ret
  exact ⟨rfl, H.below⟩
end Go.Proofs.Ythlpimojojofbaa.O
