/- Texts of mine put together: ScanBack, RowScanBack. -/
import Derived.Test.YtaekpfhgdnfciaaDoorPkScanBack15
import Derived.Test.YtaekpfhgdnfciaaDoorCards
import Derived.Test.YtaekpfhgdnfciaaDoorTie
import Derived.Test.YtaekpfhgdnfciaaDoorPkScanBack3
import Derived.SevenTiedAt
import Derived.WalkKit
import Derived.ProofKit
import Derived.OpenShut
import Derived.ShutString
import Derived.ChangeOld
import Derived.Below
import Derived.SizedLaws
import Derived.Lib.SmallJoins
section
/- strandlinelaw19.ScanBack: the statement's function. -/
set_option linter.unusedVariables false
set_option linter.unusedSimpArgs false
namespace Go.Proofs.YtaekpfhgdnfciaaDoor.O
open Go.RowKit Go.Proofs.YtaekpfhgdnfciaaDoorW.PrintWords Go.Proofs.YtaekpfhgdnfciaaDoorW.PrintLast Go.Proofs.YtaekpfhgdnfciaaDoorW.PrintMore Go.Proofs.YtaekpfhgdnfciaaDoor.F Go.Proofs.YtaekpfhgdnfciaaDoor.F.Nums Go.Proofs.YtaekpfhgdnfciaaDoor.Plain
set_option maxRecDepth 100000 in
set_option maxHeartbeats 8000000 in
theorem scanBack_law (e64 : Int) (l : List (List Int)) (A : Option Addr) (c : Nat) (w : World) (he : 0 ≤ e64 ∧ e64 ≤ 18446744073709551615) (hC : (Kd.slice 5 (Kd.int .u8)).C w A l.length l) (hc : l.length ≤ c) (hl : ∀ x ∈ l, Bytes x) (hll : ∀ x ∈ l, x.length ≤ 140737488355328) (hn : l.length ≤ 9000000000000) (hH : Half w) :
    Calls Tryd.prog 4 #[.int .u64 e64, .slice A l.length c] w fun e W => e = .returned (.bool true) ∧ Below w.heap.size w W := by
  have H := Own.start w
  have AW := awake19_calls
  have FW := fun W h => few19_calls l A c W h hc hn
  cases hok : Img.layAll e64 l with
  | false =>
    have SC := fun W h => rsectors_nope e64 l A c W hok he hl hll hn h hc
    cases hf : (l.all (fun x => decide (x.length ≤ 512)) && decide (l.length ≤ 100)) with
    | false =>
      rw [hf] at FW
      clear hf hok
      generalize l.length = n at *
      go_enter Tryd.func4, Tryd.ntmps4
      go_wp2_with (first
      | (go_at_call 15; (with_reducible refine (SC _ (Kd.C_below hC H.below)).mono ?_); rintro e W ⟨rfl, hb'⟩; replace H := H.to hb'; clear hb')
      | (go_at_call 16; (with_reducible refine (FW _ (Kd.C_below hC H.below)).mono ?_); rintro e W ⟨rfl, hb'⟩; replace H := H.to hb'; clear hb')
      | (go_at_call 9; (with_reducible refine (AW _ (hH.below H.below)).mono ?_); rintro e W ⟨rfl, hb'⟩; replace H := H.to hb'; clear hb'))
      go_ret
      exact ⟨rfl, H.below⟩
    | true =>
      rw [hf] at FW
      clear hf hok
      generalize l.length = n at *
      go_enter Tryd.func4, Tryd.ntmps4
      go_wp2_with (first
      | (go_at_call 15; (with_reducible refine (SC _ (Kd.C_below hC H.below)).mono ?_); rintro e W ⟨rfl, hb'⟩; replace H := H.to hb'; clear hb')
      | (go_at_call 16; (with_reducible refine (FW _ (Kd.C_below hC H.below)).mono ?_); rintro e W ⟨rfl, hb'⟩; replace H := H.to hb'; clear hb')
      | (go_at_call 9; (with_reducible refine (AW _ (hH.below H.below)).mono ?_); rintro e W ⟨rfl, hb'⟩; replace H := H.to hb'; clear hb'))
      go_ret
      exact ⟨rfl, H.below⟩
  | true =>
    obtain ⟨b, ht, hb⟩ := touch0 (Img.laySt e64 l l.length).2
    have SC := fun W h => rsectors_yes e64 l A c W b hok ht hb he hl hll hn h hc
    cases hf : (l.all (fun x => decide (x.length ≤ 512)) && decide (l.length ≤ 100)) with
    | false =>
      rw [hf] at FW
      clear hf hok ht
      generalize flatW e64 (Img.laySt e64 l l.length).1 b 16 = fl at *
      generalize l.length = n at *
      go_enter Tryd.func4, Tryd.ntmps4
      go_wp2_with (first
      | (go_at_call 15; (with_reducible refine (SC _ (Kd.C_below hC H.below)).mono ?_); rintro e W ⟨v5, rfl, ho, hb'⟩; replace H := H.addRow hb' ho; clear ho hb'; obtain ⟨A5, c5, rfl⟩ := H.row_slice .head)
      | (go_at_call 16; (with_reducible refine (FW _ (Kd.C_below hC H.below)).mono ?_); rintro e W ⟨rfl, hb'⟩; replace H := H.to hb'; clear hb')
      | (go_at_call 9; (with_reducible refine (AW _ (hH.below H.below)).mono ?_); rintro e W ⟨rfl, hb'⟩; replace H := H.to hb'; clear hb'))
      go_ret
      exact ⟨rfl, H.below⟩
    | true =>
      rw [hf] at FW
      by_cases h0 : e64 = 0
      · subst h0
        clear hf hok ht
        generalize flatW 0 (Img.laySt 0 l l.length).1 b 16 = fl at *
        generalize l.length = n at *
        go_enter Tryd.func4, Tryd.ntmps4
        go_wp2_with (first
        | (go_at_call 15; (with_reducible refine (SC _ (Kd.C_below hC H.below)).mono ?_); rintro e W ⟨v5, rfl, ho, hb'⟩; replace H := H.addRow hb' ho; clear ho hb'; obtain ⟨A5, c5, rfl⟩ := H.row_slice .head)
        | (go_at_call 16; (with_reducible refine (FW _ (Kd.C_below hC H.below)).mono ?_); rintro e W ⟨rfl, hb'⟩; replace H := H.to hb'; clear hb')
        | (go_at_call 9; (with_reducible refine (AW _ (hH.below H.below)).mono ?_); rintro e W ⟨rfl, hb'⟩; replace H := H.to hb'; clear hb'))
        go_ret
        exact ⟨rfl, H.below⟩
      · have q1 : (e64 == 0) = false := by simpa using h0
        simp only [Bool.and_eq_true, List.all_eq_true, decide_eq_true_eq] at hf
        obtain ⟨h1, h2, h3, h4⟩ := scan_all e64 he.1 he.2 h0 l hok hf.1 b ht
        have hR := Img.rlay_eq (7000 + l.length) e64 l he.1 hl hll hn (Nat.le_refl _)
        unfold Img.layR at hR
        rw [if_pos hok] at hR
        have RC := fun W h1 => strandlineref17_Lay.calls (7000 + l.length) e64 A c l _ _ _ _ W h1 hc hR
        have KC := fun A1 c1 W (hr : Rd W A1 (nums .u8 (flatW e64 (Img.laySt e64 l l.length).1 b 16))) h h2 => scan_calls e64 he _ 16 (Nat.le_refl _) (flatW_len _ _ _ _) (flatW_bytes (Img.laySt_bytes e64 l hl _) _ _ _) A1 c1 W hr h h2
        have hpl := Img.layPl_len e64 l l.length
        have hn100 := hf.2
        generalize scanM (e64 % 4294967296) (bodyF e64 (flatW e64 (Img.laySt e64 l l.length).1 b 16) 16 16) (oksF e64 (flatW e64 (Img.laySt e64 l l.length).1 b 16) 16 16) = S at *
        clear hok ht hR hf
        generalize Img.layPl e64 l l.length = pl at *
        generalize hfl : flatW e64 (Img.laySt e64 l l.length).1 b 16 = fl at *
        generalize (Img.laySt e64 l l.length).1 = body at *
        generalize (Img.laySt e64 l l.length).2 = en at *
        obtain ⟨s1, s2, s3, s4, s5, s6, s7⟩ := S
        try simp only at h1 h2 h3
        have h1' := h1.symm
        have h2' := h2.symm
        clear h1 h2
        subst h1' h2'
        have SM := fun A1 c1 W (hC1 : (Kd.slice 5 (Kd.int .u8)).C W A1 l.length l) (hc1 : l.length ≤ c1) h => same04_calls l A1 A c1 c W (by omega) hC1 hc1 h hc
        rw [← h3] at h4 RC
        clear h3
        generalize hnl : l.length = n at *
        go_enter Tryd.func4, Tryd.ntmps4
        go_wp2_with (first
    | ((with_reducible refine gate_dst (N := 11) rfl ?_); refine l_allocA rfl H 28 rfl _ zero28 ?_; clear H; intro g11 W H)
    | ((with_reducible refine gate_store (t := 28) (p := 11) rfl ?_); refine l_storeW rfl H 28 _ _ rfl _ rfl _ rfl (by (repeat (first | exact In.head | apply In.tail))) _ size28 (by (first | rfl | assumption | omega | (simp only [nums_length]; omega) | (simp [nums_length, zs]; done) | (simp [nums_length, zs]; omega))) (by (first | rfl | assumption | omega | (simp only [nums_length]; omega) | (simp [nums_length, zs]; done) | (simp [nums_length, zs]; omega))) (by (first | exact nums_one | assumption | (intro u hu; simp at hu; subst hu; rfl) | (intro u hu; simp at hu; rcases hu with rfl | rfl | rfl | rfl | rfl | rfl | rfl <;> rfl) | (intro u hu; simp at hu; rcases hu with rfl | rfl | rfl | rfl <;> rfl) | (intro u hu; simp at hu; rcases hu with rfl | rfl | rfl <;> rfl) | (intro u hu; simp at hu; rcases hu with rfl | rfl <;> rfl))) ?_; clear H; intro W H)
    | ((with_reducible refine gate_dst (N := 43) rfl ?_); refine l_load1 rfl H 25 _ rfl _ _ rfl (by (repeat (first | exact In.head | apply In.tail))) _ Tryd.underlying25 rfl _ (by first | rfl | assumption | exact nums_at _ (by omega)) ?_)
    | ((with_reducible refine gate_dst (N := 49) rfl ?_); refine gate_guard (by rfl) ?_; refine l_load1 rfl H 3 _ rfl _ _ rfl (by (repeat (first | exact In.head | apply In.tail))) _ Tryd.underlying3 rfl _ (by first | rfl | assumption | exact nums_at _ (by omega)) ?_)
    | ((with_reducible refine gate_dst (N := 55) rfl ?_); refine gate_guard (by rfl) ?_; refine l_load1 rfl H 3 _ rfl _ _ rfl (by (repeat (first | exact In.head | apply In.tail))) _ Tryd.underlying3 rfl _ (by first | rfl | assumption | exact nums_at _ (by omega)) ?_)
    | ((with_reducible refine gate_dst (N := 60) rfl ?_); refine gate_guard (by rfl) ?_; refine l_load1 rfl H 26 _ rfl _ _ rfl (by (repeat (first | exact In.head | apply In.tail))) _ Tryd.underlying26 rfl _ (by first | rfl | assumption | exact nums_at _ (by omega)) ?_)
        | (go_at_call 15; (with_reducible refine (SC _ (Kd.C_below hC H.below)).mono ?_); rintro e W ⟨v5, rfl, ho, hb'⟩; replace H := H.addRow hb' ho; clear ho hb'; obtain ⟨A5, c5, rfl⟩ := H.row_slice .head)
        | (go_at_call 16; (with_reducible refine (FW _ (Kd.C_below hC H.below)).mono ?_); rintro e W ⟨rfl, hb'⟩; replace H := H.to hb'; clear hb')
        | (go_at_call 17; (with_reducible refine (RC _ (Kd.C_below hC H.below)).mono ?_); rintro e W ⟨v7, v8, rfl, hR7, hR8, hb'⟩; obtain ⟨A7, c7, rfl, hl7, C7⟩ := Kd.R_reads hR7; replace H := H.addR hb' hR8; rw [hpl] at H; obtain ⟨A8, c8, rfl⟩ := H.row_slice .head; clear hb' hR7 hR8 hl7 C7)
        | (go_at_call 10; (with_reducible refine (KC _ _ _ (H.rd (.tail .head)).1 (H.rd (.tail .head)).2.1 (hH.below H.below)).mono ?_); rintro e W ⟨S, Ar, cr, Ap, cp, cells, D, rfl, rfl, hD, hpl2, hr100, HO⟩; replace H := (H.addOwn HO).perm (List.Perm.cons _ (List.Perm.cons _ List.perm_append_comm)); clear HO; dsimp only [List.cons_append, List.nil_append] at H; dsimp only at hD; simp only [h4, if_true, hnl]; simp only [hnl] at H)
        | (go_at_call 12; (with_reducible refine (SM _ _ _ (by subst hnl; exact hD.C H (by repeat (first|exact In.head|apply In.tail)) (fun r hr => by simp [hr]) (by omega)) (H.rd (n := n) (cc := cr) (by repeat (first|exact In.head|apply In.tail))).2.1 (Kd.C_below hC H.below)).mono ?_); rintro e W ⟨rfl, hb'⟩; replace H := H.to hb'; clear hb'))
        go_loopg [12] n (fun gq v12 w' => ∃ k : Nat, v12 = .int .i64 (k : Int) ∧ k + gq = n ∧ Own w F0 (.blk g11 28 [.slice Ar n cr, .slice Ap n cp, .int .i64 (s7 : Int), .int .i64 1] :: .row (.slice Ar n cr) 38 1 n cells :: .row (.slice Ap n cp) 3 1 n (nums .i64 pl) :: .row (.slice A8 n c8) 3 1 n (nums .i64 pl) :: .row (.slice A5 16 c5) 51 64 16 (nums .u8 fl) :: D) w')
        case atStart => exact ⟨0, rfl, by omega, H⟩
        case round =>
          clear H
          obtain ⟨k, rfl, hk, H⟩ := hrel
          by_cases ck : k < n
          · obtain ⟨gk', rfl⟩ : ∃ q, gk = q + 1 := ⟨gk - 1, by omega⟩
            have q2 : decide (k < n) = true := decide_eq_true ck
            have p0 : ((0 : Int) ≤ (k : Int)) = True := eq_true (by omega)
            have p1 : ((k : Int) < (n : Int)) = True := eq_true (by omega)
            have hz : (nums .i64 pl)[k]? = some (.int .i64 (pl.getD k 0)) := nums_at k (by omega)
            generalize pl.getD k 0 = z at hz
            obtain ⟨a1, rfl⟩ := (H.rd (.tail (.tail .head))).1.some_ (by rw [nums_length]; omega)
            obtain ⟨a2, rfl⟩ := (H.rd (.tail (.tail (.tail .head)))).1.some_ (by rw [nums_length]; omega)
            go_wp2_with fail
            refine start_ (n := 10) (S := Own _ _ _) (ds := []) #[false, false, false, false, false, false, false, false, false, false] (by kernel_rfl) rfl rfl H.drew (fun hHeld => ?_)
            replace H := H.drew
            generalize World.drew _ = W at H hHeld ⊢
            refine pure_ (i := 0) (N := some 72) (v := ?_) (a' := ?_) #[true, false, false, false, false, false, false, false, false, false] rfl rfl (by kernel_rfl) (fun _ _ _ h => h) (Or.inl ⟨by rfl, ?_⟩) ?_ ?_
            rotate_left
            · intro w'
              go_simp
              with_reducible rfl
            rotate_left
            · simp only [Act.put, List.setIfInBounds_toArray, List.set_cons_zero, List.set_cons_succ, i64_w, i32_w]
              rfl
            refine pure_ (i := 2) (N := some 74) (v := ?_) (a' := ?_) #[true, false, true, false, false, false, false, false, false, false] rfl rfl (by kernel_rfl) (fun _ _ _ h => h) (Or.inl ⟨by rfl, ?_⟩) ?_ ?_
            rotate_left
            · intro w'
              go_simp
              with_reducible rfl
            rotate_left
            · simp only [Act.put, List.setIfInBounds_toArray, List.set_cons_zero, List.set_cons_succ, i64_w, i32_w]
              rfl
            refine pure_ (i := 5) (N := some 77) (v := ?_) (a' := ?_) #[true, false, true, false, false, true, false, false, false, false] rfl rfl (by kernel_rfl) (fun _ _ _ h => h) (Or.inl ⟨by rfl, ?_⟩) ?_ ?_
            rotate_left
            · intro w'
              go_simp
              with_reducible rfl
            rotate_left
            · simp only [Act.put, List.setIfInBounds_toArray, List.set_cons_zero, List.set_cons_succ, i64_w, i32_w]
              rfl
            refine pure_ (i := 6) (N := some 78) (v := ?_) (a' := ?_) #[true, false, true, false, false, true, true, false, false, false] rfl rfl (by kernel_rfl) (fun _ _ _ h => h) (Or.inl ⟨by rfl, ?_⟩) ?_ ?_
            rotate_left
            · intro w'
              go_simp
              with_reducible rfl
            rotate_left
            · simp only [Act.put, List.setIfInBounds_toArray, List.set_cons_zero, List.set_cons_succ, i64_w, i32_w]
              rfl
            refine pure_ (i := 7) (N := some 79) (v := ?_) (a' := ?_) #[true, false, true, false, false, true, true, true, false, false] rfl rfl (by kernel_rfl) (fun _ _ _ h => h) (Or.inl ⟨by rfl, ?_⟩) ?_ ?_
            rotate_left
            · intro w'
              go_simp
              with_reducible rfl
            rotate_left
            · simp only [Act.put, List.setIfInBounds_toArray, List.set_cons_zero, List.set_cons_succ, i64_w, i32_w]
              rfl
            refine take_run (i := 1) (N := some 73) (a' := ?_) #[true, true, true, false, false, true, true, true, false, false] rfl rfl (by kernel_rfl) (fun _ _ _ _ h => h) (by rfl) hHeld (.slice (some a1) n cp) (fun X HX => r_loadH 26 _ rfl rfl (HX.heap .head) rfl Tryd.underlying26 rfl) ?_ ?_
            rotate_left
            · simp only [Act.put, List.setIfInBounds_toArray, List.set_cons_zero, List.set_cons_succ, i64_w, i32_w]
              rfl
            refine pure_ (i := 3) (N := some 75) (v := ?_) (a' := ?_) #[true, true, true, true, false, true, true, true, false, false] rfl rfl (by kernel_rfl) (fun _ _ _ h => h) (Or.inl ⟨by rfl, ?_⟩) ?_ ?_
            rotate_left
            · intro w'
              go_simp
              with_reducible rfl
            rotate_left
            · simp only [Act.put, List.setIfInBounds_toArray, List.set_cons_zero, List.set_cons_succ, i64_w, i32_w]
              rfl
            refine take_run (i := 4) (N := some 76) (a' := ?_) #[true, true, true, true, true, true, true, true, false, false] rfl rfl (by kernel_rfl) (fun _ _ _ _ h => h) (by rfl) hHeld (.int .i64 z) (fun X HX => r_loadRd1 3 _ rfl k rfl (HX.rd (.tail (.tail .head))).1 _ Tryd.underlying3 rfl _ hz) ?_ ?_
            rotate_left
            · simp only [Act.put, List.setIfInBounds_toArray, List.set_cons_zero, List.set_cons_succ, i64_w, i32_w]
              rfl
            refine take_run (i := 8) (N := some 80) (a' := ?_) #[true, true, true, true, true, true, true, true, true, false] rfl rfl (by kernel_rfl) (fun _ _ _ _ h => h) (by rfl) hHeld (.int .i64 z) (fun X HX => r_loadRd1 3 _ rfl k rfl (HX.rd (.tail (.tail (.tail .head)))).1 _ Tryd.underlying3 rfl _ hz) ?_ ?_
            rotate_left
            · simp only [Act.put, List.setIfInBounds_toArray, List.set_cons_zero, List.set_cons_succ, i64_w, i32_w]
              rfl
            refine pure_ (i := 9) (N := some 81) (v := ?_) (a' := ?_) #[true, true, true, true, true, true, true, true, true, true] rfl rfl (by kernel_rfl) (fun _ _ _ h => h) (Or.inl ⟨by rfl, ?_⟩) ?_ ?_
            rotate_left
            · intro w'
              go_simp
              with_reducible rfl
            rotate_left
            · simp only [Act.put, List.setIfInBounds_toArray, List.set_cons_zero, List.set_cons_succ, i64_w, i32_w]
              rfl
            refine done_ (by kernel_rfl) ?_
            clear hHeld
            go_wp2_with fail
            go_roundg gk'
            case measure => omega
            case rel => exact ⟨k + 1, by go_num, by omega, H⟩
          · have q2 : decide (k < n) = false := decide_eq_false ck
            obtain rfl : k = n := by omega
            go_wp2_with (first
            | (go_at_call 9; (with_reducible refine (AW _ (hH.below H.below)).mono ?_); rintro e W ⟨rfl, hb'⟩; replace H := H.to hb'; clear hb'))
            go_ret
            exact ⟨rfl, H.below⟩
end Go.Proofs.YtaekpfhgdnfciaaDoor.O
end

section
/- 'strandlinelaw19.ScanBack': whatever the input: true; the input reads as it did; the listed table tied to the program's text. -/
namespace Go.Proofs.YtaekpfhgdnfciaaDoor.scanBack
open Go.ChangeShapes Go.WideShapes Go.ChangeAt Go.RowKit Go.Joins Go.Proofs.YtaekpfhgdnfciaaDoor.Door Go.Proofs.YtaekpfhgdnfciaaDoorW.PrintWords
open Go.ChangeMaps (open_string shut_string)
set_option linter.unusedVariables false
set_option maxRecDepth 100000 in
set_option maxHeartbeats 4000000 in
theorem lifted (os : Os) (started : os.Started) (H : Type) (enc : TypeId × Value → H) :
    ReturnsInHanded {} Tryd.checked os 4 .any (fun w args => (Rows.scanBackSpec.pre enc Tryd.prog Tryd.f4 [] false w args ∧ laidMetH Tryd.prog laid1 w) ∧ sizedMet enc Tryd.prog Tryd.f4 (OpenSpec.ofChange Rows.scanBackSpec) false w args)
      (Rows.scanBackSpec.post enc Tryd.prog Tryd.f4 false true false false) := by
  refine returnsInHanded_of_change_and (C := Tryd.checked) (X := fun w _ => laidMetH Tryd.prog laid1 w) (fun _ _ _ hh h => h.of_heap hh) own started (by kernel_rfl) Tryd.func4
    (ChangeSpec.witness_shaped (enc := enc) (C := Tryd.checked) (os := os) (X := fun w _ => laidMetH Tryd.prog laid1 w) false (World.doorLaid Tryd.prog 400 os) #[.int .u64 0, .slice none 0 0] 8 rfl (World.shaped_of_RefB (by kernel_rfl) (by kernel_rfl)) (by kernel_rfl) (by kernel_rfl) (by kernel_rfl) (door_met os _)) ?_
  intro W base args ds gs before hval0 hW _ hsz0 hL _
  have hsz : (DataW.weightsEach Tryd.prog (Tryd.f4.params.toList ++ Rows.scanBackSpec.plain.varTypes Tryd.prog) (ds ++ gs)).all (· ≤ reachBytes) = true := hsz0
  have hval : ∀ (j : Nat) t v, Tryd.f4.params[j]? = some t → args[j]? = some v → Value.okWide Tryd.prog W .any base t v := hval0
  have hW' := hW
  obtain ⟨p, q, hA0, hV, rfl, hfz, hnd⟩ := hW
  have hA : DataW.TrodAll enc Tryd.prog W 0 (fun _ => true) true Tryd.f4.params.toList args.toList ds p := hA0
  rw [Tryd.params4] at hA hval hsz
  obtain ⟨v0, vs0, d0, ds0, p0, q0, hargs, rfl, rfl, h0, r0⟩ := trodAll_cons hA
  obtain ⟨v1, vs1, d1, ds1, p1, q1, rfl, rfl, rfl, h1, r1⟩ := trodAll_cons r0
  obtain ⟨rfl, rfl, rfl⟩ := trodAll_nil r1
  obtain rfl : args = #[v0, v1] := by cases args; simp_all
  obtain ⟨rfl, rfl⟩ := trodVars_none hV
  obtain ⟨a0, rfl, rfl, rfl, w0⟩ := open_int Tryd.underlying22 (hval 0 22 v0 rfl rfl) h0
  have k1 := h1
  have lt1 : ∀ x ∈ p1, x.block < W.heap.size := by obtain ⟨m, hm⟩ := k1; exact DataW.trod_lt m _ _ _ hm
  obtain ⟨b1, len1, cap1, rfl⟩ := okWide_slice Tryd.underlying25 (hval 1 25 v1 rfl rfl)
  obtain ⟨m1, hm1⟩ := h1
  obtain ⟨A1, l1, c1, e1, hc1, hC1, hB1, hr1⟩ := F.open_C_rows 5 Tryd.underlying25 Tryd.underlying38 Tryd.underlying5 (by kernel_rfl) (by kernel_rfl) hm1 (F.fit_arg hsz 1 (t := 25) (d := d1) rfl rfl)
  simp [Value.cells] at e1
  obtain ⟨rfl, rfl, rfl⟩ := e1
  clear hA0 hval0 hsz0
  have y0 := F.wf_u64 w0
  have z2 : Tryd.prog.bytesOf 5 = 1 := by kernel_rfl
  have z3 : reachBytes = 140737488351232 := by decide
  have z4 : Tryd.prog.bytesOf 38 = 24 := by kernel_rfl
  rw [z4, z3] at hr1
  refine (O.scanBack_law a0 l1 _ _ W y0 hC1 hc1 (fun x hx => O.bytes_of_wf (hB1 x hx).1) (fun x hx => by have := (hB1 x hx).2; rw [z2, z3] at this; omega) (by omega) (half_of hL)).mono fun e W' ⟨he, bel⟩ => ?_
  subst he
  exact ⟨_, rfl, _, _, _, [], _, [], hW', trodAll_mk1 (shut_bool Tryd.underlying4 _), (trodAll_cons_mk (shut_int Tryd.underlying22 w0) (trodAll_cons_mk (Below.trod laidOut (by kernel_rfl) (of_decide_eq_true (by kernel_rfl)) k1 bel lt1) trodAll_mk0)), rfl, bel.frame _, fun h => by cases h⟩
theorem over : Rows.ScanBackSaid :=
  OpenClaim.holds_of_wide 4 Tryd.f4 rfl rfl rfl rfl rfl rfl rfl ⟨rfl, rfl, rfl, rfl, rfl⟩ rfl rfl rfl rfl rfl (by kernel_rfl) Tryd.func4 (by kernel_rfl)
    (of_decide_eq_true (by kernel_rfl)) (by unfold Func.isWrapper; first | (rw [if_pos (by decide +kernel)]; kernel_rfl) | (rw [if_neg (by decide +kernel)]; exact ⟨rfl, rfl⟩))
    (fun os started H enc _ => lifted os started H enc)
theorem card : Rows.ScanBackCardSaid :=
  Claim7.holds_tied_plain_at .later [] [.data] true Rows.scanBackCard.stood.harness false
    over (fun _ h => by cases h) (by kernel_rfl) (fun _ h => by cases h) scanBack_row_tie rfl ⟨rfl, rfl⟩ (by kernel_rfl) rfl
    (fun f fn hf hfn => by
      obtain rfl : f = 4 := Option.some.inj ((show Tryd.prog.funcNamed "strandline/strandlinelaw19.ScanBack" = some 4 by kernel_rfl).symm.trans hf) |>.symm
      obtain rfl : fn = Tryd.f4 := (Option.some.inj (Tryd.func4.symm.trans hfn)).symm
      exact ⟨by kernel_rfl, fun j t ht => by
        rw [Tryd.params4] at ht
        have hm : t ∈ [22, 25] := by simpa using Array.mem_of_getElem? ht
        have hall : ([22, 25].all fun u => !Tryd.prog.wantsStandIn u) = true := by kernel_rfl
        exact (show Tryd.prog.wantsStandIn t = false by simpa using List.all_eq_true.1 hall t hm)⟩)
    (by kernel_rfl)
end Go.Proofs.YtaekpfhgdnfciaaDoor.scanBack
namespace Go.Proofs.YtaekpfhgdnfciaaDoor
/-- The row, under a short name, for the claim. -/
theorem scanBackCard_holds : Rows.ScanBackCardSaid := scanBack.card
#print axioms scanBackCard_holds
end Go.Proofs.YtaekpfhgdnfciaaDoor
end
