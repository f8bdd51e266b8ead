/- strandlinelaw09's awake. -/
import Derived.Test.YthlpimojojofbaaCrashTears
namespace Go.Proofs.Ythlpimojojofbaa.O
open Go.RowKit Go.Proofs.YthlpimojojofbaaW.PrintWords Go.Proofs.YthlpimojojofbaaW.PrintLast Go.Proofs.YthlpimojojofbaaW.PrintMore Go.Proofs.Ythlpimojojofbaa.F Go.Proofs.Ythlpimojojofbaa.Plain
set_option linter.unusedVariables false
set_option linter.unusedSimpArgs false
set_option maxRecDepth 100000 in
set_option maxHeartbeats 4000000 in
theorem awake09 (w : World) : Calls Try.prog 29 #[] w fun e w' => e = .returned (.bool true) ∧ Below w.heap.size w w' := by
  have H := Own.start w
  go_enter Try.func29, Try.ntmps29
  go_wp2_with (first
    | (go_at_call 24; (with_reducible refine (all_calls 3 3 8 (by decide) (by decide) (by decide) _).mono ?_); rintro e W ⟨gs, v, hl, rfl, K⟩; obtain ⟨A1, c1, rfl⟩ := K.row_slice .head; replace H := H.to K.below; clear K hl)
    | (go_at_call 27; (with_reducible refine (tears_calls 2 5 2 4 (by decide) (by decide) (by decide) _).mono ?_); rintro e W ⟨gs, v, hl, rfl, K⟩; rw [tall_len] at K; obtain ⟨A1, c1, rfl⟩ := K.row_slice .head; replace H := H.to K.below; clear K hl))
  have heq : ∀ W, (Op.equalIn 10000 43 (.agg (nums .u8 (2 :: 1 :: zs 62)).toArray) (.agg #[(.int .u8 2), (.int .u8 1), (.int .u8 0), (.int .u8 0), (.int .u8 0), (.int .u8 0), (.int .u8 0), (.int .u8 0), (.int .u8 0), (.int .u8 0), (.int .u8 0), (.int .u8 0), (.int .u8 0), (.int .u8 0), (.int .u8 0), (.int .u8 0), (.int .u8 0), (.int .u8 0), (.int .u8 0), (.int .u8 0), (.int .u8 0), (.int .u8 0), (.int .u8 0), (.int .u8 0), (.int .u8 0), (.int .u8 0), (.int .u8 0), (.int .u8 0), (.int .u8 0), (.int .u8 0), (.int .u8 0), (.int .u8 0), (.int .u8 0), (.int .u8 0), (.int .u8 0), (.int .u8 0), (.int .u8 0), (.int .u8 0), (.int .u8 0), (.int .u8 0), (.int .u8 0), (.int .u8 0), (.int .u8 0), (.int .u8 0), (.int .u8 0), (.int .u8 0), (.int .u8 0), (.int .u8 0), (.int .u8 0), (.int .u8 0), (.int .u8 0), (.int .u8 0), (.int .u8 0), (.int .u8 0), (.int .u8 0), (.int .u8 0), (.int .u8 0), (.int .u8 0), (.int .u8 0), (.int .u8 0), (.int .u8 0), (.int .u8 0), (.int .u8 0), (.int .u8 0)])).run Try.prog W = .ok true W := fun W => eq_same (2 :: 1 :: zs 62) rfl (fun c hc => by simp [zs] at hc; omega) W
  refine (mix_calls (1 :: 1 :: zs 62) (2 :: 2 :: zs 62) rfl rfl 1 1 rfl (by decide) W).mono ?_
  rintro e W' ⟨rfl, hb⟩
  replace H := H.to hb
  clear hb
  rw [show (2 :: 2 :: zs 62).take 1 ++ (1 :: 1 :: zs 62).drop 1 = 2 :: 1 :: zs 62 from rfl]
  generalize hM : (nums .u8 (2 :: 1 :: zs 62)).toArray = M at heq ⊢
  clear hM
  go_wp2
  go_ret
  exact ⟨rfl, H.below⟩
end Go.Proofs.Ythlpimojojofbaa.O
