/- Texts of mine put together: RowScanLost. -/
import Derived.Test.YtaekpfhgdnfciaaDoorCards
import Derived.Test.YtaekpfhgdnfciaaDoorTie
import Derived.Test.YtaekpfhgdnfciaaDoorPkScanLost3
import Derived.Test.YtaekpfhgdnfciaaDoorPkScanLost16
import Derived.SevenTiedAt
import Derived.WalkKit
import Derived.ProofKit
import Derived.OpenShut
import Derived.ShutString
import Derived.ChangeOld
import Derived.Below
import Derived.SizedLaws
import Derived.Lib.SmallJoins
section
/- 'strandlinelaw19.ScanLost': whatever the input: true; the input reads as it did; the listed table tied to the program's text. -/
namespace Go.Proofs.YtaekpfhgdnfciaaDoor.scanLost
open Go.ChangeShapes Go.WideShapes Go.ChangeAt Go.RowKit Go.Joins Go.Proofs.YtaekpfhgdnfciaaDoor.Door Go.Proofs.YtaekpfhgdnfciaaDoorW.PrintWords
open Go.ChangeMaps (open_string shut_string)
set_option linter.unusedVariables false
set_option maxRecDepth 100000 in
set_option maxHeartbeats 4000000 in
theorem lifted (os : Os) (started : os.Started) (H : Type) (enc : TypeId × Value → H) :
    ReturnsInHanded {} Tryd.checked os 5 .any (fun w args => (Rows.scanLostSpec.pre enc Tryd.prog Tryd.f5 [] false w args ∧ laidMetH Tryd.prog laid1 w) ∧ sizedMet enc Tryd.prog Tryd.f5 (OpenSpec.ofChange Rows.scanLostSpec) false w args)
      (Rows.scanLostSpec.post enc Tryd.prog Tryd.f5 false true false false) := by
  refine returnsInHanded_of_change_and (C := Tryd.checked) (X := fun w _ => laidMetH Tryd.prog laid1 w) (fun _ _ _ hh h => h.of_heap hh) own started (by kernel_rfl) Tryd.func5
    (ChangeSpec.witness_shaped (enc := enc) (C := Tryd.checked) (os := os) (X := fun w _ => laidMetH Tryd.prog laid1 w) false (World.doorLaid Tryd.prog 400 os) #[(.agg #[.int .u64 0, .slice none 0 0, .int .u64 0]), (.agg #[.slice none 0 0, .int .i64 0, .int .i64 0])] 8 rfl (World.shaped_of_RefB (by kernel_rfl) (by kernel_rfl)) (by kernel_rfl) (by kernel_rfl) (by kernel_rfl) (door_met os _)) ?_
  intro W base args ds gs before hval0 hW _ hsz0 hL _
  have hsz : (DataW.weightsEach Tryd.prog (Tryd.f5.params.toList ++ Rows.scanLostSpec.plain.varTypes Tryd.prog) (ds ++ gs)).all (· ≤ reachBytes) = true := hsz0
  have hval : ∀ (j : Nat) t v, Tryd.f5.params[j]? = some t → args[j]? = some v → Value.okWide Tryd.prog W .any base t v := hval0
  have hW' := hW
  obtain ⟨p, q, hA0, hV, rfl, hfz, hnd⟩ := hW
  have hA : DataW.TrodAll enc Tryd.prog W 0 (fun _ => true) true Tryd.f5.params.toList args.toList ds p := hA0
  rw [Tryd.params5] at hA hval hsz
  obtain ⟨v0, vs0, d0, ds0, p0, q0, hargs, rfl, rfl, h0, r0⟩ := trodAll_cons hA
  obtain ⟨v1, vs1, d1, ds1, p1, q1, rfl, rfl, rfl, h1, r1⟩ := trodAll_cons r0
  obtain ⟨rfl, rfl, rfl⟩ := trodAll_nil r1
  obtain rfl : args = #[v0, v1] := by cases args; simp_all
  obtain ⟨rfl, rfl⟩ := trodVars_none hV
  have k0 := h0
  have lt0 : ∀ x ∈ p0, x.block < W.heap.size := by obtain ⟨m, hm⟩ := k0; exact DataW.trod_lt m _ _ _ hm
  obtain ⟨t0, u0, A0, l0, c0, rfl, hc0, hC0, hB0, hr0, y0, z0⟩ := F.open_synced (hval 0 44 v0 rfl rfl) h0 (F.fit_arg hsz 0 (t := 44) (d := d0) rfl rfl)
  have k1 := h1
  have lt1 : ∀ x ∈ p1, x.block < W.heap.size := by obtain ⟨m, hm⟩ := k1; exact DataW.trod_lt m _ _ _ hm
  obtain ⟨A1, l1, c1, t1, u1, rfl, hc1, hC1, hB1⟩ := F.open_crash (hval 1 46 v1 rfl rfl) h1 (F.fit_arg hsz 1 (t := 46) (d := d1) rfl rfl)
  clear hA0 hval0 hsz0
  have x0 := F.wf_u64 y0
  have x1 := F.wf_u64 z0
  obtain ⟨N0, rfl⟩ : ∃ N : Nat, u0 = (N : Int) := ⟨u0.toNat, by omega⟩
  have z2 : Tryd.prog.bytesOf 5 = 1 := by kernel_rfl
  have z3 : reachBytes = 140737488351232 := by decide
  have z4 : Tryd.prog.bytesOf 38 = 24 := by kernel_rfl
  rw [z4, z3] at hr0
  refine (O.scanLost_law t0 N0 l0 _ _ _ _ l1 t1 u1 W x0 (by omega) hC0 hc0 (fun x hx => O.bytes_of_wf (hB0 x hx).1) (fun x hx => by have := (hB0 x hx).2; rw [z2, z3] at this; omega) (by omega) hC1 hc1 hB1 (half_of hL)).mono fun e W' ⟨he, bel⟩ => ?_
  subst he
  exact ⟨_, rfl, _, _, _, [], _, [], hW', trodAll_mk1 (shut_bool Tryd.underlying4 _), (trodAll_cons_mk (Below.trod laidOut (by kernel_rfl) (of_decide_eq_true (by kernel_rfl)) k0 bel lt0) (trodAll_cons_mk (Below.trod laidOut (by kernel_rfl) (of_decide_eq_true (by kernel_rfl)) k1 bel lt1) trodAll_mk0)), rfl, bel.frame _, fun h => by cases h⟩
theorem over : Rows.ScanLostSaid :=
  OpenClaim.holds_of_wide 5 Tryd.f5 rfl rfl rfl rfl rfl rfl rfl ⟨rfl, rfl, rfl, rfl, rfl⟩ rfl rfl rfl rfl rfl (by kernel_rfl) Tryd.func5 (by kernel_rfl)
    (of_decide_eq_true (by kernel_rfl)) (by unfold Func.isWrapper; first | (rw [if_pos (by decide +kernel)]; kernel_rfl) | (rw [if_neg (by decide +kernel)]; exact ⟨rfl, rfl⟩))
    (fun os started H enc _ => lifted os started H enc)
theorem card : Rows.ScanLostCardSaid :=
  Claim7.holds_tied_plain_at .later [] [.data] true Rows.scanLostCard.stood.harness false
    over (fun _ h => by cases h) (by kernel_rfl) (fun _ h => by cases h) scanLost_row_tie rfl ⟨rfl, rfl⟩ (by kernel_rfl) rfl
    (fun f fn hf hfn => by
      obtain rfl : f = 5 := Option.some.inj ((show Tryd.prog.funcNamed "strandline/strandlinelaw19.ScanLost" = some 5 by kernel_rfl).symm.trans hf) |>.symm
      obtain rfl : fn = Tryd.f5 := (Option.some.inj (Tryd.func5.symm.trans hfn)).symm
      exact ⟨by kernel_rfl, fun j t ht => by
        rw [Tryd.params5] at ht
        have hm : t ∈ [44, 46] := by simpa using Array.mem_of_getElem? ht
        have hall : ([44, 46].all fun u => !Tryd.prog.wantsStandIn u) = true := by kernel_rfl
        exact (show Tryd.prog.wantsStandIn t = false by simpa using List.all_eq_true.1 hall t hm)⟩)
    (by kernel_rfl)
end Go.Proofs.YtaekpfhgdnfciaaDoor.scanLost
namespace Go.Proofs.YtaekpfhgdnfciaaDoor
/-- The row, under a short name, for the claim. -/
theorem scanLostCard_holds : Rows.ScanLostCardSaid := scanLost.card
#print axioms scanLostCard_holds
end Go.Proofs.YtaekpfhgdnfciaaDoor
end
