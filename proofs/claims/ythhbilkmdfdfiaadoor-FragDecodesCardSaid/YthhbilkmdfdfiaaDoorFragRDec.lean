/- the reference's Decode, by what is owned. -/
import Derived.Test.YthhbilkmdfdfiaaDoorFragLaw
import Derived.Test.YthhbilkmdfdfiaaDoorBurst
set_option linter.unusedVariables false
set_option linter.unusedSimpArgs false
namespace Go.Proofs.YthhbilkmdfdfiaaDoor.O
open Go.RowKit Go.Proofs.YthhbilkmdfdfiaaDoorW.PrintWords Go.Proofs.YthhbilkmdfdfiaaDoorW.PrintLast Go.Proofs.YthhbilkmdfdfiaaDoorW.PrintMore Go.Proofs.YthhbilkmdfdfiaaDoor.F Go.Proofs.YthhbilkmdfdfiaaDoor.F.Nums Go.Proofs.YthhbilkmdfdfiaaDoor.Plain
theorem rget_own {w0 W : World} {F : Nat → Option Obj} {L : List Res} (H : Own w0 F L W) (A : Option Addr) (n c : Nat) (xs : List Int) (hC : (Kd.int .u8).C W A n xs) (hc : n ≤ c) (hb : Bytes xs) (h8 : n ≤ 8) :
    Calls Tryd.prog 59 #[.slice A n c] W fun e W' => e = .returned (.int .u64 (getn xs n : Nat)) ∧ Own w0 F L W' := by
  have hn : xs.length = n := hC.1
  subst hn
  have he := rget_eq (l := xs) (wf_of_bytes hb) 81 (by decide)
  rw [Nat.min_eq_left h8] at he
  refine (strandlineref01_Get.calls 81 A c xs _ W hC hc he).mono ?_
  rintro e W' ⟨rfl, hb⟩
  exact ⟨rfl, H.to hb.below⟩
def anyN (b : List Int) (i : Nat) : Bool := (b.take i).any (· != 0)
theorem anyN_succ (b : List Int) (i : Nat) (h : i < b.length) : anyN b (i + 1) = (anyN b i || (b.getD i 0 != 0)) := by
  unfold anyN
  rw [List.take_add_one, List.any_append, List.getD_eq_getElem?_getD, List.getElem?_eq_getElem h]
  simp
theorem anyN_zs (b : List Int) (h : 11 ≤ b.length) : (anyN b 11 = false) ↔ b.take 11 = zs 11 := by
  unfold anyN
  rw [List.any_eq_false]
  constructor
  · intro h0
    refine List.eq_replicate_iff.2 ⟨by rw [List.length_take]; omega, fun x hx => ?_⟩
    have := h0 x hx
    simpa using this
  · intro h0 x hx
    rw [h0] at hx
    rw [List.eq_of_mem_replicate hx]
    decide
theorem r_loadIx {P : Program} {o : Oper} {a : Act} {W : World} {ad : Addr} {cs : List Value} (ty : TypeId) (x : Operand) (ho : o.op = .load ty x) (off : Nat) (hx : a.eval x = .pointer (some (ad.add off))) (hR : Rd W (some ad) cs)
    (d : TypeDesc) (hu : P.underlying ty = some d) (hd : d.isRow = false) (v : Value) (hv : cs[off]? = some v) : (execOp a.eval o).run P W = .ok (.value v) W := r_loadRd1 ty x ho off hx hR d hu hd v hv
theorem nOf_eq {b : List Int} (hb : Bytes b) (h : 6 ≤ b.length) : (nOf b : Int) = b.getD 4 0 + 256 * b.getD 5 0 := by
  have h4 := hb _ (List.getElem_mem (show 4 < b.length by omega))
  have h5 := hb _ (List.getElem_mem (show 5 < b.length by omega))
  have g4 : b.getD 4 0 = b[4]'(by omega) := by rw [List.getD_eq_getElem?_getD, List.getElem?_eq_getElem]; rfl
  have g5 : b.getD 5 0 = b[5]'(by omega) := by rw [List.getD_eq_getElem?_getD, List.getElem?_eq_getElem]; rfl
  have r0 : rd (b.drop 4) ((0 : Nat) : Int) = b.getD 4 0 := by unfold rd; rw [List.getD_eq_getElem?_getD, List.getD_eq_getElem?_getD, List.getElem?_drop]; rfl
  have r1 : rd (b.drop 4) ((1 : Nat) : Int) = b.getD 5 0 := by unfold rd; rw [List.getD_eq_getElem?_getD, List.getD_eq_getElem?_getD, List.getElem?_drop]; rfl
  have e : nOf b = (0 + (rd (b.drop 4) ((0 : Nat) : Int)).toNat * 256 ^ 0) + (rd (b.drop 4) ((1 : Nat) : Int)).toNat * 256 ^ 1 := rfl
  rw [e, r0, r1, g4, g5]
  omega
/-- by the sum, as strings of bytes: the decoded parts' bytes -/
theorem dec_parts {b : List Int} (hb : Bytes b) : 11 + nOf b ≤ b.length → ((decD b).length = nOf b ∧ (encL (kOf b) (eOf b) (decD b) = b.take (11 + nOf b) ↔ sOf b = sumN ((b.take (11 + nOf b)).drop 4))) := fun h => ⟨by unfold decD; rw [List.length_drop, List.length_take]; omega, enc_dec hb h⟩
set_option maxRecDepth 100000 in
set_option maxHeartbeats 8000000 in
theorem rdecode_calls (b : List Int) (ep : Int) (A : Option Addr) (c : Nat) (w : World) (hC : (Kd.int .u8).C w A b.length b) (hc : b.length ≤ c) (bb : Bytes b) :
    Calls Tryd.prog 27 #[.slice A b.length c, .int .u32 ep] w fun e W => Below w.heap.size w W ∧
      ((decE b ep ≠ 0 ∧ e = .returned (.tuple #[.agg #[.int .i64 0, .int .u32 0, .slice none 0 0], .int .i64 0, .int .i64 (decE b ep)])) ∨
       (decE b ep = 0 ∧ ∃ A' c', e = .returned (.tuple #[.agg #[.int .i64 (kOf b), .int .u32 (eOf b), .slice A' (nOf b) c'], .int .i64 (11 + (nOf b : Int)), .int .i64 0]) ∧ nOf b ≤ c' ∧ (Kd.int .u8).C W A' (nOf b) (decD b))) := by
  have H := Own.start w
  by_cases h11 : b.length < 11
  · have hE : decE b ep = 1 := by unfold decE; rw [if_pos h11]
    rw [hE]
    have q1 : decide ((b.length : Int) < 11) = true := decide_eq_true (by omega)
    generalize b.length = n at *
    go_enter Tryd.func27, Tryd.ntmps27
    go_wp2_with (first
    | ((with_reducible refine gate_dst (N := 4) rfl ?_); refine l_allocA rfl H 37 rfl _ zero37 ?_; clear H; intro g4 W H)
    | ((with_reducible refine gate_store (t := 37) (p := 4) rfl ?_); refine l_storeW rfl H 37 _ _ rfl _ rfl _ rfl (by (repeat (first | exact In.head | apply In.tail))) _ size37 (by (first | rfl | assumption | omega | (simp only [nums_length]; omega) | (simp [nums_length, zs]; done) | (simp [nums_length, zs]; omega))) (by (first | rfl | assumption | omega | (simp only [nums_length]; omega) | (simp [nums_length, zs]; done) | (simp [nums_length, zs]; omega))) (by (first | exact nums_one | (intro u hu; simp at hu; subst hu; rfl) | (intro u hu; simp at hu; rcases hu with rfl | rfl | rfl | rfl | rfl | rfl | rfl <;> rfl) | (intro u hu; simp at hu; rcases hu with rfl | rfl | rfl | rfl <;> rfl) | (intro u hu; simp at hu; rcases hu with rfl | rfl | rfl <;> rfl) | (intro u hu; simp at hu; rcases hu with rfl | rfl <;> rfl))) ?_; clear H; intro W H))
    refine bodyPost_ret (results_ctt (p := 4) (ty := 37) rfl _ _ g4 37 _ (0, 0) _ rfl (H.heap .head) Tryd.underlying37 rfl size37) rfl ?_
    exact ⟨H.below, .inl ⟨by decide, rfl⟩⟩
  have hE0 : decE b ep = if b.take 11 = zs 11 then 7 else if rightF (kOf b) 0 = false ∨ 197 < nOf b ∨ eOf b ≠ ep then 2 else if b.length < 11 + nOf b then 1 else if sOf b ≠ sumN ((b.take (11 + nOf b)).drop 4) then 3 else 0 := by unfold decE; rw [if_neg h11]
  have q1 : decide ((b.length : Int) < 11) = false := decide_eq_false (by omega)
  obtain ⟨ad, rfl⟩ := (Rd.of_C hC).some_ (by rw [nums_length]; omega)
  have hat : ∀ i, i < 11 → (nums .u8 b)[i]? = some (.int .u8 (b.getD i 0)) := fun i hi => nums_at i (by omega)
  have hRb := Rd.of_C hC
  have hany := anyN_succ b
  have hz := anyN_zs b (by omega)
  obtain ⟨bl, hbl⟩ : ∃ x, b.length = x := ⟨_, rfl⟩
  rw [hbl] at hC hc hE0 q1 h11 hany ⊢
  have hlt := nOf_lt bb
  have het := eOf_lt bb
  have hx4 := bb _ (List.getElem_mem (show 4 < b.length by omega))
  have hx5 := bb _ (List.getElem_mem (show 5 < b.length by omega))
  have hkt := bb _ (List.getElem_mem (show 6 < b.length by omega))
  have g6 : kOf b = b[6]'(by omega) := by unfold kOf; rw [List.getD_eq_getElem?_getD, List.getElem?_eq_getElem]; rfl
  have a4 := hat 4 (by decide)
  have a5 := hat 5 (by decide)
  have a6 := hat 6 (by decide)
  have g4' : b.getD 4 0 = b[4]'(by omega) := by rw [List.getD_eq_getElem?_getD, List.getElem?_eq_getElem]; rfl
  have g5' : b.getD 5 0 = b[5]'(by omega) := by rw [List.getD_eq_getElem?_getD, List.getElem?_eq_getElem]; rfl
  have hn45 := nOf_eq bb (by omega)
  rw [← g4'] at hx4
  rw [← g5'] at hx5
  rw [← g6] at hkt
  rw [show b.getD 6 0 = kOf b from rfl] at a6
  have hn2 : ((getn ((b.take 11).drop 7) 4 : Nat) : Int) = eOf b := by unfold eOf; exact congrArg _ (getn_pre 4 (fun j hj => by rw [List.getElem?_drop, List.getElem?_drop, List.getElem?_take_of_lt (by omega)]))
  have hbh : Bytes ((b.take 11).drop 7) := bytes_drop (bytes_take bb 11) 7
  have h117 := cut_C hC 7 11 c (by decide) (by omega) hc
  have hc11 : 11 ≤ c := by omega
  have hdl := dec_parts bb
  obtain ⟨n, hn⟩ : ∃ x, nOf b = x := ⟨_, rfl⟩
  obtain ⟨kk, hkk⟩ : ∃ x, kOf b = x := ⟨_, rfl⟩
  obtain ⟨ee, hee⟩ : ∃ x, eOf b = x := ⟨_, rfl⟩
  obtain ⟨ss, hss⟩ : ∃ x, sOf b = x := ⟨_, rfl⟩
  obtain ⟨dE, hdE⟩ : ∃ x, decE b ep = x := ⟨_, rfl⟩
  have hdd : decD b = (b.take (11 + n)).drop 11 := by unfold decD; rw [hn]
  rw [hn] at hn45 hlt hE0 hdl ⊢
  rw [hkk] at hkt hE0 a6 hdl ⊢
  rw [hee] at het hE0 hn2 hdl ⊢
  rw [hss] at hE0 hdl
  rw [hdE] at hE0 ⊢
  rw [hbl] at hdl
  rw [hdd] at hdl ⊢
  generalize b.getD 4 0 = x4 at hx4 hn45 a4
  generalize b.getD 5 0 = x5 at hx5 hn45 a5
  obtain ⟨D7, hD7⟩ : ∃ D, dropA (some ad) 7 c 1 = D := ⟨_, rfl⟩
  rw [hD7] at h117
  replace hD7 := Aside0.mk hD7
  have HC := Aside0.mk (And.intro hx4 (And.intro hx5 (And.intro hn45 (And.intro hlt (And.intro hkt het)))))
  clear hx4 hx5 hn45 hlt hkt het
  replace hE0 := Aside0.mk hE0
  go_enter Tryd.func27, Tryd.ntmps27
  go_wp2_with (first
    | ((with_reducible refine gate_dst (N := 4) rfl ?_); refine l_allocA rfl H 37 rfl _ zero37 ?_; clear H; intro g4 W H))
  go_loopg [7, 8] 11 (fun gq v7 v8 w' => ∃ i : Nat, v8 = .int .i64 (i : Int) ∧ v7 = .bool (anyN b i) ∧ i + gq = 11 ∧ Own w F0 [.blk g4 37 [.int .i64 0, .int .u32 0, .slice none 0 0]] w')
  case atStart => exact ⟨0, rfl, rfl, by omega, H⟩
  case round =>
    clear H
    obtain ⟨i, rfl, rfl, hi, H⟩ := hrel
    by_cases ci : i < 11
    · obtain ⟨gk', rfl⟩ : ∃ q, gk = q + 1 := ⟨gk - 1, by omega⟩
      have q2 : decide ((i : Int) < 11) = true := decide_eq_true (by omega)
      have q3 : ((0 : Int) ≤ (i : Int)) = True := eq_true (by omega)
      have q4 : ((i : Int) < (bl : Int)) = True := eq_true (by omega)
      have hv := hat i ci
      have ha := hany i (by omega)
      have HI := Aside0.mk (And.intro hi ci)
      clear hi ci
      generalize b.getD i 0 = x at hv ha
      cases h0 : anyN b i with
      | true =>
        rw [h0, Bool.true_or] at ha
        go_wp2
        go_roundg gk'
        case measure => have := HI.out.1; omega
        case rel => exact ⟨i + 1, by have h4 := HI.out.2; rw [w64 (by omega) (by omega)]; rfl, by rw [ha], by have := HI.out.1; omega, H⟩
      | false =>
        rw [h0, Bool.false_or] at ha
        go_wp2_with (first
    | ((with_reducible refine gate_dst (N := 24) rfl ?_); refine gate_guard (by rfl) ?_; refine l_run rfl _ (r_loadIx 5 _ rfl i rfl (hRb.below H.below) _ Tryd.underlying5 rfl _ hv) ?_))
        go_roundg gk'
        case measure => have := HI.out.1; omega
        case rel => exact ⟨i + 1, by have h4 := HI.out.2; rw [w64 (by omega) (by omega)]; rfl, by rw [ha], by have := HI.out.1; omega, H⟩
    · have hi11 : i = 11 := by omega
      rw [← hi11] at hz
      have q2 : decide ((i : Int) < 11) = false := decide_eq_false (by omega)
      clear hi ci hany
      cases h0 : anyN b i with
      | false =>
        have hE0 := hE0.out
        rw [if_pos (by rw [← hi11]; exact hz.1 h0)] at hE0
        subst hE0
        clear hi11 hz
        go_wp2_with (first
    | ((with_reducible refine gate_store (t := 37) (p := 4) rfl ?_); refine l_storeW rfl H 37 _ _ rfl _ rfl _ rfl (by (repeat (first | exact In.head | apply In.tail))) _ size37 (by (first | rfl | assumption | omega | (simp only [nums_length]; omega) | (simp [nums_length, zs]; done) | (simp [nums_length, zs]; omega))) (by (first | rfl | assumption | omega | (simp only [nums_length]; omega) | (simp [nums_length, zs]; done) | (simp [nums_length, zs]; omega))) (by (first | exact nums_one | (intro u hu; simp at hu; subst hu; rfl) | (intro u hu; simp at hu; rcases hu with rfl | rfl | rfl | rfl | rfl | rfl | rfl <;> rfl) | (intro u hu; simp at hu; rcases hu with rfl | rfl | rfl | rfl <;> rfl) | (intro u hu; simp at hu; rcases hu with rfl | rfl | rfl <;> rfl) | (intro u hu; simp at hu; rcases hu with rfl | rfl <;> rfl))) ?_; clear H; intro W H))
        refine bodyPost_ret (results_ctt (p := 4) (ty := 37) rfl _ _ g4 37 _ (0, 0) _ rfl (H.heap .head) Tryd.underlying37 rfl size37) rfl ?_
        exact ⟨H.below, .inl ⟨by decide, rfl⟩⟩
      | true =>
        have hnz : ¬ b.take 11 = zs 11 := fun h => by rw [← hi11] at h; rw [hz.2 h] at h0; cases h0
        replace hE0 := hE0.out
        rw [if_neg hnz] at hE0
        clear hnz hz
        obtain ⟨hx4, hx5, hn45, hlt, hkt, het⟩ := HC.out
        have b4 : ((4 : Int) < (bl : Int)) = True := eq_true (by omega)
        have b5 : ((5 : Int) < (bl : Int)) = True := eq_true (by omega)
        have b6 : ((6 : Int) < (bl : Int)) = True := eq_true (by omega)
        have c1 : wrap64 x4 = x4 := w64 (by omega) (by omega)
        have c2 : wrap64 x5 = x5 := w64 (by omega) (by omega)
        have c3 : wrap64 (256 * x5) = 256 * x5 := w64 (by omega) (by omega)
        have c4 : wrap64 (x4 + 256 * x5) = (n : Int) := by rw [← hn45]; exact w64 (by omega) (by omega)
        have c5 : wrap64 kk = kk := w64 (by omega) (by omega)
        have c6 : IntKind.u32.wrap ee = ee := wu32 het.1 het.2
        have c1' := (i64_w _).trans c1
        have c2' := (i64_w _).trans c2
        have c3' := (i64_w _).trans c3
        have c4' := (i64_w _).trans c4
        have c5' := (i64_w _).trans c5
        clear hx4 hx5 hn45 hlt hkt het g6 g4' g5' hi11 hn hkk hee hss hdE hdd
        go_wp2
        refine start_ (n := 11) (S := Own _ _ _) (ds := []) #[false, false, false, false, false, false, false, false, false, false, false] (by kernel_rfl) rfl rfl H.drew (fun hHeld => ?_)
        replace H := H.drew
        generalize World.drew _ = W at H hHeld ⊢
        refine pure_ (i := 0) (N := some 30) (v := ?_) (a' := ?_) #[true, false, false, false, false, false, false, false, false, false, false] rfl rfl (by kernel_rfl) (fun _ _ _ h => h) (Or.inl ⟨by rfl, ?_⟩) ?_ ?_
        rotate_left
        · intro w'
          go_simp
          with_reducible rfl
        rotate_left
        · simp only [Act.put, List.setIfInBounds_toArray, List.set_cons_zero, List.set_cons_succ, i64_w, i32_w]
          rfl
        refine pure_ (i := 1) (N := some 31) (v := ?_) (a' := ?_) #[true, true, false, false, false, false, false, false, false, false, false] rfl rfl (by kernel_rfl) (fun _ _ _ h => h) (Or.inl ⟨by rfl, ?_⟩) ?_ ?_
        rotate_left
        · intro w'
          go_simp
          with_reducible rfl
        rotate_left
        · simp only [Act.put, List.setIfInBounds_toArray, List.set_cons_zero, List.set_cons_succ, i64_w, i32_w]
          rfl
        refine pure_ (i := 4) (N := some 34) (v := ?_) (a' := ?_) #[true, true, false, false, true, false, false, false, false, false, false] rfl rfl (by kernel_rfl) (fun _ _ _ h => h) (Or.inl ⟨by rfl, ?_⟩) ?_ ?_
        rotate_left
        · intro w'
          go_simp
          with_reducible rfl
        rotate_left
        · simp only [Act.put, List.setIfInBounds_toArray, List.set_cons_zero, List.set_cons_succ, i64_w, i32_w]
          rfl
        refine pure_ (i := 5) (N := some 35) (v := ?_) (a' := ?_) #[true, true, false, false, true, true, false, false, false, false, false] rfl rfl (by kernel_rfl) (fun _ _ _ h => h) (Or.inl ⟨by rfl, ?_⟩) ?_ ?_
        rotate_left
        · intro w'
          go_simp
          with_reducible rfl
        rotate_left
        · simp only [Act.put, List.setIfInBounds_toArray, List.set_cons_zero, List.set_cons_succ, i64_w, i32_w]
          rfl
        refine take_run (i := 2) (N := some 32) (a' := ?_) #[true, true, true, false, true, true, false, false, false, false, false] rfl rfl (by kernel_rfl) (fun _ _ _ _ h => h) (by rfl) hHeld (.int .u8 x4) (fun X HX => r_loadIx 5 _ rfl 4 rfl (hRb.below HX.below) _ Tryd.underlying5 rfl _ a4) ?_ ?_
        rotate_left
        · simp only [Act.put, List.setIfInBounds_toArray, List.set_cons_zero, List.set_cons_succ, i64_w, i32_w]
          rfl
        refine pure_ (i := 3) (N := some 33) (v := ?_) (a' := ?_) #[true, true, true, true, true, true, false, false, false, false, false] rfl rfl (by kernel_rfl) (fun _ _ _ h => h) (Or.inl ⟨by rfl, ?_⟩) ?_ ?_
        rotate_left
        · intro w'
          go_simp
          with_reducible rfl
        rotate_left
        · simp only [Act.put, List.setIfInBounds_toArray, List.set_cons_zero, List.set_cons_succ, i64_w, i32_w]
          rfl
        refine take_run (i := 6) (N := some 36) (a' := ?_) #[true, true, true, true, true, true, true, false, false, false, false] rfl rfl (by kernel_rfl) (fun _ _ _ _ h => h) (by rfl) hHeld (.int .u8 x5) (fun X HX => r_loadIx 5 _ rfl 5 rfl (hRb.below HX.below) _ Tryd.underlying5 rfl _ a5) ?_ ?_
        rotate_left
        · simp only [Act.put, List.setIfInBounds_toArray, List.set_cons_zero, List.set_cons_succ, i64_w, i32_w]
          rfl
        refine pure_ (i := 7) (N := some 37) (v := ?_) (a' := ?_) #[true, true, true, true, true, true, true, true, false, false, false] rfl rfl (by kernel_rfl) (fun _ _ _ h => h) (Or.inl ⟨by rfl, ?_⟩) ?_ ?_
        rotate_left
        · intro w'
          go_simp
          with_reducible rfl
        rotate_left
        · simp only [Act.put, List.setIfInBounds_toArray, List.set_cons_zero, List.set_cons_succ, i64_w, i32_w]
          rfl
        refine pure_ (i := 8) (N := some 38) (v := ?_) (a' := ?_) #[true, true, true, true, true, true, true, true, true, false, false] rfl rfl (by kernel_rfl) (fun _ _ _ h => h) (Or.inl ⟨by rfl, ?_⟩) ?_ ?_
        rotate_left
        · intro w'
          go_simp
          with_reducible rfl
        rotate_left
        · simp only [Act.put, List.setIfInBounds_toArray, List.set_cons_zero, List.set_cons_succ, i64_w, i32_w]
          rfl
        refine pure_ (i := 9) (N := some 39) (v := ?_) (a' := ?_) #[true, true, true, true, true, true, true, true, true, true, false] rfl rfl (by kernel_rfl) (fun _ _ _ h => h) (Or.inl ⟨by rfl, ?_⟩) ?_ ?_
        rotate_left
        · intro w'
          go_simp
          with_reducible rfl
        rotate_left
        · simp only [Act.put, List.setIfInBounds_toArray, List.set_cons_zero, List.set_cons_succ, i64_w, i32_w]
          rfl
        refine pure_ (i := 10) (N := some 9) (v := ?_) (a' := ?_) #[true, true, true, true, true, true, true, true, true, true, true] rfl rfl (by kernel_rfl) (fun _ _ _ h => h) (Or.inl ⟨by rfl, ?_⟩) ?_ ?_
        rotate_left
        · intro w'
          go_simp
          with_reducible rfl
        rotate_left
        · simp only [Act.put, List.setIfInBounds_toArray, List.set_cons_zero, List.set_cons_succ, i64_w, i32_w]
          rfl
        refine done_ (by kernel_rfl) ?_
        clear hHeld
        go_wp2
        refine start_ (n := 11) (S := Own _ _ _) (ds := [10]) #[false, false, false, false, false, false, false, false, false, false, false] (by kernel_rfl) rfl rfl H.drew (fun hHeld => ?_)
        replace H := H.drew
        generalize World.drew _ = W at H hHeld ⊢
        refine pure_ (i := 0) (N := some 40) (v := ?_) (a' := ?_) #[true, false, false, false, false, false, false, false, false, false, false] rfl rfl (by kernel_rfl) (fun _ _ _ h => h) (Or.inl ⟨by rfl, ?_⟩) ?_ ?_
        rotate_left
        · intro w'
          go_simp
          with_reducible rfl
        rotate_left
        · simp only [Act.put, List.setIfInBounds_toArray, List.set_cons_zero, List.set_cons_succ, i64_w, i32_w]
          rfl
        refine pure_ (i := 1) (N := some 41) (v := ?_) (a' := ?_) #[true, true, false, false, false, false, false, false, false, false, false] rfl rfl (by kernel_rfl) (fun _ _ _ h => h) (Or.inl ⟨by rfl, ?_⟩) ?_ ?_
        rotate_left
        · intro w'
          go_simp
          with_reducible rfl
        rotate_left
        · simp only [Act.put, List.setIfInBounds_toArray, List.set_cons_zero, List.set_cons_succ, i64_w, i32_w]
          rfl
        refine pure_ (i := 4) (N := some 44) (v := ?_) (a' := ?_) #[true, true, false, false, true, false, false, false, false, false, false] rfl rfl (by kernel_rfl) (fun _ _ _ h => h) (Or.inl ⟨by rfl, ?_⟩) ?_ ?_
        rotate_left
        · intro w'
          go_simp
          with_reducible rfl
        rotate_left
        · simp only [Act.put, List.setIfInBounds_toArray, List.set_cons_zero, List.set_cons_succ, i64_w, i32_w]
          rfl
        refine take_run (i := 5) (N := some 45) (a' := ?_) #[true, true, false, false, true, true, false, false, false, false, false] rfl rfl (by kernel_rfl) (fun _ _ _ _ h => h) (by rfl) hHeld (.slice D7 (11 - 7) (c - 7)) (fun X HX => by rw [← hD7.out]; exact x_slice_lohi _ _ _ rfl rfl Tryd.underlying23 size5 7 11 rfl rfl (by decide) hc11 X) ?_ ?_
        rotate_left
        · simp only [Act.put, List.setIfInBounds_toArray, List.set_cons_zero, List.set_cons_succ, i64_w, i32_w]
          rfl
        refine take_run (i := 2) (N := some 42) (a' := ?_) #[true, true, true, false, true, true, false, false, false, false, false] rfl rfl (by kernel_rfl) (fun _ _ _ _ h => h) (by rfl) hHeld (.int .u8 kk) (fun X HX => r_loadIx 5 _ rfl 6 rfl (hRb.below HX.below) _ Tryd.underlying5 rfl _ a6) ?_ ?_
        rotate_left
        · simp only [Act.put, List.setIfInBounds_toArray, List.set_cons_zero, List.set_cons_succ, i64_w, i32_w]
          rfl
        refine pure_ (i := 3) (N := some 43) (v := ?_) (a' := ?_) #[true, true, true, true, true, true, false, false, false, false, false] rfl rfl (by kernel_rfl) (fun _ _ _ h => h) (Or.inl ⟨by rfl, ?_⟩) ?_ ?_
        rotate_left
        · intro w'
          go_simp
          with_reducible rfl
        rotate_left
        · simp only [Act.put, List.setIfInBounds_toArray, List.set_cons_zero, List.set_cons_succ, i64_w, i32_w]
          rfl
        refine two_ (i := 6) (j := 9) (Ni := some 46) (Nj := some 10) #[true, true, true, true, true, true, true, false, false, false, false] #[true, true, true, true, true, true, false, false, false, true, false] rfl rfl rfl rfl (by kernel_rfl) (by decide) (by decide) (fun K hK => ?_) (fun K hK => ?_)
        focus
          refine callK_ (rget_own H D7 (11 - 7) (c - 7) _ (Kd.C_below h117 H.below) (Nat.sub_le_sub_right hc11 7) hbh (by decide)) Tryd.func59 (by kernel_rfl) rfl (by rfl) rfl rfl (by (try simp only [List.map_toArray, List.map_cons, List.map_nil]); first | done | rfl) ?_
          rintro e W ⟨rfl, H'⟩
          refine ⟨_, rfl, ?_⟩
          replace H := H'
          clear H'
          rw [hn2]
          refine hK.out _ _ ?_ (fun hHeld => ?_)
          · first | trivial | exact H | exact H.del .head | exact (H.del .head).del .head
          clear hK K
          refine norm_ (a' := ?_) ?_ ?_
          rotate_left
          · show Act.put _ (some 46) _ = _
            simp only [Act.put, List.setIfInBounds_toArray, List.set_cons_zero, List.set_cons_succ, i64_w, i32_w]
            rfl
          refine pure_ (i := 7) (N := some 47) (v := ?_) (a' := ?_) #[true, true, true, true, true, true, true, true, false, false, false] rfl rfl (by kernel_rfl) (fun _ _ _ h => h) (Or.inl ⟨by rfl, ?_⟩) ?_ ?_
          rotate_left
          · intro w'
            go_simp
            with_reducible rfl
          rotate_left
          · simp only [Act.put, List.setIfInBounds_toArray, List.set_cons_zero, List.set_cons_succ, i64_w, i32_w]
            rfl
          refine pure_ (i := 8) (N := some 48) (v := ?_) (a' := ?_) #[true, true, true, true, true, true, true, true, true, false, false] rfl rfl (by kernel_rfl) (fun _ _ _ h => h) (Or.inl ⟨by rfl, ?_⟩) ?_ ?_
          rotate_left
          · intro w'
            go_simp
            with_reducible rfl
          rotate_left
          · simp only [Act.put, List.setIfInBounds_toArray, List.set_cons_zero, List.set_cons_succ, i64_w, i32_w]
            rfl
          refine one_ (i := 9) (N := some 10) #[true, true, true, true, true, true, true, true, true, true, false] rfl rfl (by kernel_rfl) (by decide) (fun K hK => ?_)
          refine wanted_ rfl ?_
          refine w_allocA H 37 rfl _ zero37 ?_
          clear H
          intro g10 W H
          refine hK.out _ _ ?_ (fun hHeld => ?_)
          · first | trivial | exact H | exact H.del .head | exact (H.del .head).del .head
          clear hK K
          refine norm_ (a' := ?_) ?_ ?_
          rotate_left
          · show Act.put _ (some 10) _ = _
            simp only [Act.put, List.setIfInBounds_toArray, List.set_cons_zero, List.set_cons_succ, i64_w, i32_w]
            rfl
        rotate_left
        focus
          refine wanted_ rfl ?_
          refine w_allocA H 37 rfl _ zero37 ?_
          clear H
          intro g10 W H
          refine hK.out _ _ ?_ (fun hHeld => ?_)
          · first | trivial | exact H | exact H.del .head | exact (H.del .head).del .head
          clear hK K
          refine norm_ (a' := ?_) ?_ ?_
          rotate_left
          · show Act.put _ (some 10) _ = _
            simp only [Act.put, List.setIfInBounds_toArray, List.set_cons_zero, List.set_cons_succ, i64_w, i32_w]
            rfl
          refine one_ (i := 6) (N := some 46) #[true, true, true, true, true, true, true, false, false, true, false] rfl rfl (by kernel_rfl) (by decide) (fun K hK => ?_)
          refine callK_ (rget_own H D7 (11 - 7) (c - 7) _ (Kd.C_below h117 H.below) (Nat.sub_le_sub_right hc11 7) hbh (by decide)) Tryd.func59 (by kernel_rfl) rfl (by rfl) rfl rfl (by (try simp only [List.map_toArray, List.map_cons, List.map_nil]); first | done | rfl) ?_
          rintro e W ⟨rfl, H'⟩
          refine ⟨_, rfl, ?_⟩
          replace H := H'
          clear H'
          rw [hn2]
          refine hK.out _ _ ?_ (fun hHeld => ?_)
          · first | trivial | exact H | exact H.del .head | exact (H.del .head).del .head
          clear hK K
          refine norm_ (a' := ?_) ?_ ?_
          rotate_left
          · show Act.put _ (some 46) _ = _
            simp only [Act.put, List.setIfInBounds_toArray, List.set_cons_zero, List.set_cons_succ, i64_w, i32_w]
            rfl
          refine pure_ (i := 7) (N := some 47) (v := ?_) (a' := ?_) #[true, true, true, true, true, true, true, true, false, true, false] rfl rfl (by kernel_rfl) (fun _ _ _ h => h) (Or.inl ⟨by rfl, ?_⟩) ?_ ?_
          rotate_left
          · intro w'
            go_simp
            with_reducible rfl
          rotate_left
          · simp only [Act.put, List.setIfInBounds_toArray, List.set_cons_zero, List.set_cons_succ, i64_w, i32_w]
            rfl
          refine pure_ (i := 8) (N := some 48) (v := ?_) (a' := ?_) #[true, true, true, true, true, true, true, true, true, true, false] rfl rfl (by kernel_rfl) (fun _ _ _ h => h) (Or.inl ⟨by rfl, ?_⟩) ?_ ?_
          rotate_left
          · intro w'
            go_simp
            with_reducible rfl
          rotate_left
          · simp only [Act.put, List.setIfInBounds_toArray, List.set_cons_zero, List.set_cons_succ, i64_w, i32_w]
            rfl
          skip
        all_goals
          refine last_ (i := 10) (N := none) #[true, true, true, true, true, true, true, true, true, true, true] rfl rfl (by kernel_rfl) (by decide) (fun K hK => ?_)
          refine wanted_ rfl ?_
          refine w_storeW H 37 _ _ rfl _ rfl _ rfl (by (repeat (first | exact In.head | apply In.tail))) _ size37 (by (first | rfl | assumption | omega | (simp only [nums_length]; omega) | (simp [nums_length, zs]; done) | (simp [nums_length, zs]; omega))) (by (first | rfl | assumption | omega | (simp only [nums_length]; omega) | (simp [nums_length, zs]; done) | (simp [nums_length, zs]; omega))) (by (first | exact nums_one | (intro u hu; simp at hu; subst hu; rfl) | (intro u hu; simp at hu; rcases hu with rfl | rfl | rfl | rfl | rfl | rfl | rfl <;> rfl) | (intro u hu; simp at hu; rcases hu with rfl | rfl | rfl | rfl <;> rfl) | (intro u hu; simp at hu; rcases hu with rfl | rfl | rfl <;> rfl) | (intro u hu; simp at hu; rcases hu with rfl | rfl <;> rfl))) ?_
          clear H
          intro W H
          refine hK.out _ _ ?_
          clear hK K
          refine done_ (by kernel_rfl) ?_
          clear hHeld
        all_goals
          clear c1 c2 c3 c4 c5 c6 c1' c2' c3' c4' c5' a4 a5 a6 b4 b5 b6 hn2 hbh h117 q1 h0
          obtain ⟨-, -, -, hlt, hkt, het⟩ := HC.out
          replace hE0 := Aside0.mk hE0
          obtain ⟨m, hm⟩ : ∃ m, 11 + n = m := ⟨_, rfl⟩
          have hmi : 11 + (n : Int) = (m : Int) := by omega
          have hw5 : Aside0 (wrap64 (11 + (n : Int)) = (m : Int)) := ⟨by rw [hmi]; exact w64 (by omega) (by omega)⟩
          by_cases hbad : rightF kk 0 = false ∨ 197 < n ∨ ee ≠ ep
          · have hb4 : (decide (197 < (n : Int)) = true) ∨ (decide (197 < (n : Int)) = false ∧ decide (kk < 1) = true) ∨ (decide (197 < (n : Int)) = false ∧ decide (kk < 1) = false ∧ decide (4 < kk) = true) ∨ (decide (197 < (n : Int)) = false ∧ decide (kk < 1) = false ∧ decide (4 < kk) = false ∧ (ee != ep) = true) := by
              by_cases h1 : 197 < n
              · exact .inl (decide_eq_true (by omega))
              have f1 : decide (197 < (n : Int)) = false := decide_eq_false (by omega)
              by_cases h2 : kk < 1
              · exact .inr (.inl ⟨f1, decide_eq_true h2⟩)
              have f2 : decide (kk < 1) = false := decide_eq_false h2
              by_cases h3 : 4 < kk
              · exact .inr (.inr (.inl ⟨f1, f2, decide_eq_true h3⟩))
              have f3 : decide (4 < kk) = false := decide_eq_false h3
              refine .inr (.inr (.inr ⟨f1, f2, f3, ?_⟩))
              rcases hbad with h | h | h
              · unfold rightF at h
                simp at h
                omega
              · exact absurd h h1
              · simp [h]
            replace hE0 := hE0.out
            rw [if_pos hbad] at hE0
            subst hE0
            clear hbad hlt hkt het hm hmi
            rcases hb4 with q5 | ⟨q5, q6⟩ | ⟨q5, q6, q7⟩ | ⟨q5, q6, q7, q8⟩
            all_goals
              go_wp2_with (first
    | ((with_reducible refine gate_dst (N := 53) rfl ?_); refine gate_guard (by rfl) ?_; refine l_load1 rfl H 3 _ rfl _ _ rfl (by (repeat (first | exact In.head | apply In.tail))) _ Tryd.underlying3 rfl _ (by first | rfl | assumption | exact nums_at _ (by omega)) ?_)
    | ((with_reducible refine gate_dst (N := 58) rfl ?_); refine gate_guard (by rfl) ?_; refine l_load1 rfl H 3 _ rfl _ _ rfl (by (repeat (first | exact In.head | apply In.tail))) _ Tryd.underlying3 rfl _ (by first | rfl | assumption | exact nums_at _ (by omega)) ?_)
    | ((with_reducible refine gate_dst (N := 63) rfl ?_); refine gate_guard (by rfl) ?_; refine l_load1 rfl H 22 _ rfl _ _ rfl (by (repeat (first | exact In.head | apply In.tail))) _ Tryd.underlying22 rfl _ (by first | rfl | assumption | exact nums_at _ (by omega)) ?_)
    | ((with_reducible refine gate_store (t := 37) (p := 4) rfl ?_); refine l_storeW rfl H 37 _ _ rfl _ rfl _ rfl (by (repeat (first | exact In.head | apply In.tail))) _ size37 (by (first | rfl | assumption | omega | (simp only [nums_length]; omega) | (simp [nums_length, zs]; done) | (simp [nums_length, zs]; omega))) (by (first | rfl | assumption | omega | (simp only [nums_length]; omega) | (simp [nums_length, zs]; done) | (simp [nums_length, zs]; omega))) (by (first | exact nums_one | (intro u hu; simp at hu; subst hu; rfl) | (intro u hu; simp at hu; rcases hu with rfl | rfl | rfl | rfl | rfl | rfl | rfl <;> rfl) | (intro u hu; simp at hu; rcases hu with rfl | rfl | rfl | rfl <;> rfl) | (intro u hu; simp at hu; rcases hu with rfl | rfl | rfl <;> rfl) | (intro u hu; simp at hu; rcases hu with rfl | rfl <;> rfl))) ?_; clear H; intro W H))
              refine bodyPost_ret (results_ctt (p := 4) (ty := 37) rfl _ _ g4 37 _ (0, 0) _ rfl (H.heap (.tail .head)) Tryd.underlying37 rfl size37) rfl ?_
              exact ⟨H.below, .inl ⟨by decide, rfl⟩⟩
          replace hE0 := hE0.out
          rw [if_neg hbad] at hE0
          replace hE0 := Aside0.mk hE0
          have hgood : 1 ≤ kk ∧ kk ≤ 4 ∧ n ≤ 197 ∧ ee = ep := by
            refine ⟨?_, ?_, ?_, ?_⟩
            · exact Decidable.byContradiction fun h => hbad (.inl (by unfold rightF; simp; omega))
            · exact Decidable.byContradiction fun h => hbad (.inl (by unfold rightF; simp; omega))
            · exact Decidable.byContradiction fun h => hbad (.inr (.inl (by omega)))
            · exact Decidable.byContradiction fun h => hbad (.inr (.inr h))
          obtain ⟨k1, k2, k3, k4⟩ := hgood
          have q5 : decide (197 < (n : Int)) = false := decide_eq_false (by omega)
          have q6 : decide (kk < 1) = false := decide_eq_false (by omega)
          have q7 : decide (4 < kk) = false := decide_eq_false (by omega)
          have q8 : (ee != ep) = false := by simp [k4]
          clear hbad hlt hkt
          have hw5 := hw5.out
          have hw5' := (i64_w _).trans hw5
          have hDm : (b.take (11 + n)).drop 11 = (b.take m).drop 11 := by rw [hm]
          rw [hm] at hE0 hdl
          by_cases g3 : bl < m
          · have hE0 := hE0.out
            rw [if_pos g3] at hE0
            subst hE0
            have q9 : decide (bl < m) = true := decide_eq_true g3
            clear g3 k1 k2 k3 k4 hm hmi hdl het
            go_wp2_with (first
    | ((with_reducible refine gate_dst (N := 53) rfl ?_); refine gate_guard (by rfl) ?_; refine l_load1 rfl H 3 _ rfl _ _ rfl (by (repeat (first | exact In.head | apply In.tail))) _ Tryd.underlying3 rfl _ (by first | rfl | assumption | exact nums_at _ (by omega)) ?_)
    | ((with_reducible refine gate_dst (N := 58) rfl ?_); refine gate_guard (by rfl) ?_; refine l_load1 rfl H 3 _ rfl _ _ rfl (by (repeat (first | exact In.head | apply In.tail))) _ Tryd.underlying3 rfl _ (by first | rfl | assumption | exact nums_at _ (by omega)) ?_)
    | ((with_reducible refine gate_dst (N := 63) rfl ?_); refine gate_guard (by rfl) ?_; refine l_load1 rfl H 22 _ rfl _ _ rfl (by (repeat (first | exact In.head | apply In.tail))) _ Tryd.underlying22 rfl _ (by first | rfl | assumption | exact nums_at _ (by omega)) ?_)
    | ((with_reducible refine gate_store (t := 37) (p := 4) rfl ?_); refine l_storeW rfl H 37 _ _ rfl _ rfl _ rfl (by (repeat (first | exact In.head | apply In.tail))) _ size37 (by (first | rfl | assumption | omega | (simp only [nums_length]; omega) | (simp [nums_length, zs]; done) | (simp [nums_length, zs]; omega))) (by (first | rfl | assumption | omega | (simp only [nums_length]; omega) | (simp [nums_length, zs]; done) | (simp [nums_length, zs]; omega))) (by (first | exact nums_one | (intro u hu; simp at hu; subst hu; rfl) | (intro u hu; simp at hu; rcases hu with rfl | rfl | rfl | rfl | rfl | rfl | rfl <;> rfl) | (intro u hu; simp at hu; rcases hu with rfl | rfl | rfl | rfl <;> rfl) | (intro u hu; simp at hu; rcases hu with rfl | rfl | rfl <;> rfl) | (intro u hu; simp at hu; rcases hu with rfl | rfl <;> rfl))) ?_; clear H; intro W H))
            refine bodyPost_ret (results_ctt (p := 4) (ty := 37) rfl _ _ g4 37 _ (0, 0) _ rfl (H.heap (.tail .head)) Tryd.underlying37 rfl size37) rfl ?_
            exact ⟨H.below, .inl ⟨by decide, rfl⟩⟩
          replace hE0 := hE0.out
          rw [if_neg g3] at hE0
          replace hE0 := Aside0.mk hE0
          have q9 : decide (bl < m) = false := decide_eq_false g3
          have hmb : m ≤ bl := Nat.le_of_not_lt g3
          obtain ⟨hDl, hEq⟩ := hdl hmb
          have h11m : 11 ≤ m := by rw [← hm]; exact Nat.le_add_right 11 n
          have hmn : m - 11 = n := by rw [← hm]; exact Nat.add_sub_cancel_left 11 n
          have hmc : m ≤ c := Nat.le_trans hmb hc
          have hcut2 := cut_C hC 11 m c h11m hmb hc
          rw [hmn] at hcut2
          obtain ⟨D11, hD11⟩ : ∃ D, dropA (some ad) 11 c 1 = D := ⟨_, rfl⟩
          rw [hD11] at hcut2
          replace hD11 := Aside0.mk hD11
          have hCm : (Kd.int .u8).C w (some ad) m (b.take m) := by
            have := (Rd.of_C hC).take m
            rw [nums_take] at this
            exact this.C (by rw [List.length_take, hbl]; exact Nat.min_eq_left hmb) (by have := hC.2.1; omega)
          have hDb : Bytes ((b.take m).drop 11) := bytes_drop (bytes_take bb m) 11
          have hrr : rightF kk ((b.take m).drop 11).length = true := by rw [hDl]; unfold rightF; simp; omega
          have hrb := rbytes_eq kk ee ((b.take m).drop 11) hrr (by omega) hDb
          have heb : Bytes (encL kk ee ((b.take m).drop 11)) := encL_bytes (by omega) hDb
          have hinj : (strOfNums (encL kk ee ((b.take m).drop 11))).toList = (strOfNums (b.take m)).toList → encL kk ee ((b.take m).drop 11) = b.take m := CrcMath.strOfNums_inj heb (bytes_take bb m)
          have RB : ∀ W A c, (Kd.int .u8).C W A n ((b.take m).drop 11) → n ≤ c → Calls Tryd.prog 32 #[.agg #[.int .i64 kk, .int .u32 ee, .slice A n c]] W fun e w' => ∃ v0_ : Value, e = .returned v0_ ∧ Kd.R (Kd.int .u8) 5 w' W.heap.size (fun _ => True) v0_ (encL kk ee ((b.take m).drop 11)) ∧ Below W.heap.size W w' := fun W A c h1 h2 => by
            rw [← hDl] at h1 h2 ⊢
            exact strandlineref13_Bytes.calls _ kk ee A c _ _ W h1 h2 hrb
          clear g3 k1 k4 hm het hrb hrr heb hDb hdl
          replace hDl := Aside0.mk hDl
          replace hDm := Aside0.mk hDm
          replace hmi := Aside0.mk hmi
          have K3 := Aside0.mk k3
          clear k2 k3
          generalize encL kk ee ((b.take m).drop 11) = EL at *
          generalize hDL : (b.take m).drop 11 = DL at *
          generalize hBM : b.take m = BM at *
          go_wp2_with (first
    | ((with_reducible refine gate_dst (N := 53) rfl ?_); refine gate_guard (by rfl) ?_; refine l_load1 rfl H 3 _ rfl _ _ rfl (by (repeat (first | exact In.head | apply In.tail))) _ Tryd.underlying3 rfl _ (by first | rfl | assumption | exact nums_at _ (by omega)) ?_)
    | ((with_reducible refine gate_dst (N := 58) rfl ?_); refine gate_guard (by rfl) ?_; refine l_load1 rfl H 3 _ rfl _ _ rfl (by (repeat (first | exact In.head | apply In.tail))) _ Tryd.underlying3 rfl _ (by first | rfl | assumption | exact nums_at _ (by omega)) ?_)
    | ((with_reducible refine gate_dst (N := 63) rfl ?_); refine gate_guard (by rfl) ?_; refine l_load1 rfl H 22 _ rfl _ _ rfl (by (repeat (first | exact In.head | apply In.tail))) _ Tryd.underlying22 rfl _ (by first | rfl | assumption | exact nums_at _ (by omega)) ?_)
    | ((with_reducible refine gate_dst (N := 74) rfl ?_); refine l_build0 rfl H 23 5 rfl Tryd.underlying23 (by kernel_rfl) ?_; clear H; intro g74 W H)
    | ((with_reducible refine gate_store (t := 23) (p := 80) rfl ?_); refine l_store1 rfl H 23 _ _ rfl _ _ rfl _ (by first | (go_simp; done) | (go_simp; with_reducible rfl)) (by (repeat (first | exact In.head | apply In.tail))) rfl rfl size23 (by (first | rfl | assumption | omega | (simp only [nums_length]; omega) | (simp [nums_length, zs]; done) | (simp [nums_length, zs]; omega))) ?_; clear H; intro W H)
    | ((with_reducible refine gate_dst (N := 78) rfl ?_); refine l_run rfl (.slice D11 n (c - 11)) (by rw [← hmn, ← hD11.out]; exact x_slice_lohi _ _ _ rfl rfl Tryd.underlying23 size5 11 m rfl rfl h11m hmc _) ?_)
    | ((with_reducible refine gate_dst (N := 79) rfl ?_); refine l_append rfl H _ _ 23 5 rfl Tryd.underlying23 _ _ _ inf5 rfl (by decide) (by decide) _ 0 [] rfl .head D11 n (c - 11) (nums .u8 DL) rfl (by rw [nums_length, hcut2.1, Nat.mul_one]) (fun hp => ((Rd.of_C hcut2).below H.below) (by rw [nums_length, hcut2.1]; exact hp)) nums_one (by rw [Nat.zero_add, Nat.mul_one]; exact Nat.le_trans K3.out (by decide)) ?_; clear H; intro v79 W H; obtain ⟨A79, c79, e79⟩ := H.row_slice .head; rw [Nat.zero_add] at e79 H; rw [List.nil_append] at H; subst e79))
          replace H := (show Own w F0 [.row (.slice A79 n c79) 5 1 n (nums .u8 DL), .blk g10 37 [.int .i64 kk, .int .u32 ee, .slice A79 n c79], .blk g4 37 [.int .i64 0, .int .u32 0, .slice none 0 0]] _ from H)
          by_cases g5 : ss = sumN (BM.drop 4)
          · have hE0 := hE0.out
            rw [if_neg (fun h => h g5)] at hE0
            subst hE0
            have hEL := hEq.2 g5
            subst hEL
            clear g5 hEq hinj
            refine start_ (n := 9) (S := Own _ _ _) (ds := []) #[false, false, false, false, false, false, false, false, false] (by kernel_rfl) rfl rfl H.drew (fun hHeld => ?_)
            replace H := H.drew
            generalize World.drew _ = W at H hHeld ⊢
            refine pure_ (i := 3) (N := some 84) (v := ?_) (a' := ?_) #[false, false, false, true, false, false, false, false, false] rfl rfl (by kernel_rfl) (fun _ _ _ h => h) (Or.inl ⟨by rfl, ?_⟩) ?_ ?_
            rotate_left
            · intro w'
              go_simp
              with_reducible rfl
            rotate_left
            · simp only [Act.put, List.setIfInBounds_toArray, List.set_cons_zero, List.set_cons_succ, i64_w, i32_w]
              rfl
            refine pure_ (i := 4) (N := some 85) (v := ?_) (a' := ?_) #[false, false, false, true, true, false, false, false, false] rfl rfl (by kernel_rfl) (fun _ _ _ h => h) (Or.inl ⟨by rfl, ?_⟩) ?_ ?_
            rotate_left
            · intro w'
              go_simp
              with_reducible rfl
            rotate_left
            · simp only [Act.put, List.setIfInBounds_toArray, List.set_cons_zero, List.set_cons_succ, i64_w, i32_w]
              rfl
            refine pure_ (i := 5) (N := some 86) (v := ?_) (a' := ?_) #[false, false, false, true, true, true, false, false, false] rfl rfl (by kernel_rfl) (fun _ _ _ h => h) (Or.inl ⟨by rfl, ?_⟩) ?_ ?_
            rotate_left
            · intro w'
              go_simp
              with_reducible rfl
            rotate_left
            · simp only [Act.put, List.setIfInBounds_toArray, List.set_cons_zero, List.set_cons_succ, i64_w, i32_w]
              rfl
            refine take_run (i := 6) (N := some 87) (a' := ?_) #[false, false, false, true, true, true, true, false, false] rfl rfl (by kernel_rfl) (fun _ _ _ _ h => h) (by rfl) hHeld (.slice (some ad) m c) (fun X HX => x_slice_to _ _ rfl rfl Tryd.underlying23 size5 m rfl hmc X) ?_ ?_
            rotate_left
            · simp only [Act.put, List.setIfInBounds_toArray, List.set_cons_zero, List.set_cons_succ, i64_w, i32_w]
              rfl
            refine take_loadA (i := 0) (N := some 81) (a' := ?_) #[true, false, false, true, true, true, true, false, false] rfl rfl (by kernel_rfl) (fun _ _ _ _ h => h) (by rfl) hHeld 37 _ rfl _ rfl (by (repeat (first | exact In.head | apply In.tail))) _ _ Tryd.underlying37 rfl size37 (by (first | rfl | assumption | omega | (simp only [nums_length]; omega) | (simp [nums_length, zs]; done) | (simp [nums_length, zs]; omega))) ?_ ?_
            rotate_left
            · simp only [Act.put, List.setIfInBounds_toArray, List.set_cons_zero, List.set_cons_succ, i64_w, i32_w]
              rfl
            refine take_run (i := 7) (N := some 88) (a' := ?_) #[true, false, false, true, true, true, true, true, false] rfl rfl (by kernel_rfl) (fun _ _ _ _ h => h) (by rfl) hHeld (.string (strOfNums EL)) (fun X HX => r_strC 23 9 5 _ rfl rfl (Kd.C_below hCm HX.below) Tryd.underlying23 Tryd.underlying5 Tryd.underlying9) ?_ ?_
            rotate_left
            · simp only [Act.put, List.setIfInBounds_toArray, List.set_cons_zero, List.set_cons_succ, i64_w, i32_w]
              rfl
            refine one_ (i := 1) (N := some 82) #[true, true, false, true, true, true, true, true, false] rfl rfl (by kernel_rfl) (by decide) (fun K hK => ?_)
            refine callK_ (RB _ A79 c79 (H.rowC .head).2.2 (H.rowC .head).1) Tryd.func32 (by kernel_rfl) rfl (by rfl) rfl rfl (by (try simp only [List.map_toArray, List.map_cons, List.map_nil]); first | done | rfl) ?_
            rintro e W ⟨v82, rfl, hR, hb⟩
            refine ⟨_, rfl, ?_⟩
            replace H := H.addR hb hR
            clear hR hb
            obtain ⟨A82, c82, rfl⟩ := H.row_slice .head
            refine hK.out _ _ ?_ (fun hHeld => ?_)
            · first | trivial | exact H | exact H.del .head | exact (H.del .head).del .head
            clear hK K
            refine norm_ (a' := ?_) ?_ ?_
            rotate_left
            · show Act.put _ (some 82) _ = _
              simp only [Act.put, List.setIfInBounds_toArray, List.set_cons_zero, List.set_cons_succ, i64_w, i32_w]
              rfl
            refine one_ (i := 2) (N := some 83) #[true, true, true, true, true, true, true, true, false] rfl rfl (by kernel_rfl) (by decide) (fun K hK => ?_)
            refine wanted_ rfl ?_
            refine w_strR H 23 9 5 _ rfl _ rfl (by (repeat (first | exact In.head | apply In.tail))) Tryd.underlying23 Tryd.underlying5 Tryd.underlying9 ?_
            refine hK.out _ _ ?_ (fun hHeld => ?_)
            · first | trivial | exact H | exact H.del .head | exact (H.del .head).del .head
            clear hK K
            refine norm_ (a' := ?_) ?_ ?_
            rotate_left
            · show Act.put _ (some 83) _ = _
              simp only [Act.put, List.setIfInBounds_toArray, List.set_cons_zero, List.set_cons_succ, i64_w, i32_w]
              rfl
            refine pure_ (i := 8) (N := some 89) (v := ?_) (a' := ?_) #[true, true, true, true, true, true, true, true, true] rfl rfl (by kernel_rfl) (fun _ _ _ h => h) (Or.inl ⟨by rfl, ?_⟩) ?_ ?_
            rotate_left
            · intro w'
              go_simp
              with_reducible rfl
            rotate_left
            · simp only [Act.put, List.setIfInBounds_toArray, List.set_cons_zero, List.set_cons_succ, i64_w, i32_w]
              rfl
            refine done_ (by kernel_rfl) ?_
            clear hHeld
            go_wp2_with (first
    | ((with_reducible refine gate_dst (N := 91) rfl ?_); refine l_loadA rfl H 37 _ rfl _ rfl (by (repeat (first | exact In.head | apply In.tail))) _ _ Tryd.underlying37 rfl size37 (by (first | rfl | assumption | omega | (simp only [nums_length]; omega) | (simp [nums_length, zs]; done) | (simp [nums_length, zs]; omega))) ?_)
    | ((with_reducible refine gate_store (t := 37) (p := 4) rfl ?_); refine l_storeW rfl H 37 _ _ rfl _ rfl _ rfl (by (repeat (first | exact In.head | apply In.tail))) _ size37 (by (first | rfl | assumption | omega | (simp only [nums_length]; omega) | (simp [nums_length, zs]; done) | (simp [nums_length, zs]; omega))) (by (first | rfl | assumption | omega | (simp only [nums_length]; omega) | (simp [nums_length, zs]; done) | (simp [nums_length, zs]; omega))) (by (first | exact nums_one | (intro u hu; simp at hu; subst hu; rfl) | (intro u hu; simp at hu; rcases hu with rfl | rfl | rfl | rfl | rfl | rfl | rfl <;> rfl) | (intro u hu; simp at hu; rcases hu with rfl | rfl | rfl | rfl <;> rfl) | (intro u hu; simp at hu; rcases hu with rfl | rfl | rfl <;> rfl) | (intro u hu; simp at hu; rcases hu with rfl | rfl <;> rfl))) ?_; clear H; intro W H))
            refine bodyPost_ret (results_ctt (p := 4) (ty := 37) rfl _ _ g4 37 _ (0, 0) _ rfl (H.heap (.tail (.tail (.tail .head)))) Tryd.underlying37 rfl size37) rfl ?_
            refine ⟨H.below, A79, c79, ?_, (H.rowC (.tail .head)).1, ?_⟩
            · rw [hmi.out]
              rfl
            · rw [hDm.out]
              exact (H.rowC (.tail .head)).2.2
          · have hE0 := hE0.out
            rw [if_pos g5] at hE0
            subst hE0
            have hns : ((strOfNums EL).toList == (strOfNums BM).toList) = false := beq_eq_false_iff_ne.2 (fun h => g5 (hEq.1 (hinj h)))
            clear g5 hEq hinj
            refine start_ (n := 9) (S := Own _ _ _) (ds := []) #[false, false, false, false, false, false, false, false, false] (by kernel_rfl) rfl rfl H.drew (fun hHeld => ?_)
            replace H := H.drew
            generalize World.drew _ = W at H hHeld ⊢
            refine pure_ (i := 3) (N := some 84) (v := ?_) (a' := ?_) #[false, false, false, true, false, false, false, false, false] rfl rfl (by kernel_rfl) (fun _ _ _ h => h) (Or.inl ⟨by rfl, ?_⟩) ?_ ?_
            rotate_left
            · intro w'
              go_simp
              with_reducible rfl
            rotate_left
            · simp only [Act.put, List.setIfInBounds_toArray, List.set_cons_zero, List.set_cons_succ, i64_w, i32_w]
              rfl
            refine pure_ (i := 4) (N := some 85) (v := ?_) (a' := ?_) #[false, false, false, true, true, false, false, false, false] rfl rfl (by kernel_rfl) (fun _ _ _ h => h) (Or.inl ⟨by rfl, ?_⟩) ?_ ?_
            rotate_left
            · intro w'
              go_simp
              with_reducible rfl
            rotate_left
            · simp only [Act.put, List.setIfInBounds_toArray, List.set_cons_zero, List.set_cons_succ, i64_w, i32_w]
              rfl
            refine pure_ (i := 5) (N := some 86) (v := ?_) (a' := ?_) #[false, false, false, true, true, true, false, false, false] rfl rfl (by kernel_rfl) (fun _ _ _ h => h) (Or.inl ⟨by rfl, ?_⟩) ?_ ?_
            rotate_left
            · intro w'
              go_simp
              with_reducible rfl
            rotate_left
            · simp only [Act.put, List.setIfInBounds_toArray, List.set_cons_zero, List.set_cons_succ, i64_w, i32_w]
              rfl
            refine take_run (i := 6) (N := some 87) (a' := ?_) #[false, false, false, true, true, true, true, false, false] rfl rfl (by kernel_rfl) (fun _ _ _ _ h => h) (by rfl) hHeld (.slice (some ad) m c) (fun X HX => x_slice_to _ _ rfl rfl Tryd.underlying23 size5 m rfl hmc X) ?_ ?_
            rotate_left
            · simp only [Act.put, List.setIfInBounds_toArray, List.set_cons_zero, List.set_cons_succ, i64_w, i32_w]
              rfl
            refine take_loadA (i := 0) (N := some 81) (a' := ?_) #[true, false, false, true, true, true, true, false, false] rfl rfl (by kernel_rfl) (fun _ _ _ _ h => h) (by rfl) hHeld 37 _ rfl _ rfl (by (repeat (first | exact In.head | apply In.tail))) _ _ Tryd.underlying37 rfl size37 (by (first | rfl | assumption | omega | (simp only [nums_length]; omega) | (simp [nums_length, zs]; done) | (simp [nums_length, zs]; omega))) ?_ ?_
            rotate_left
            · simp only [Act.put, List.setIfInBounds_toArray, List.set_cons_zero, List.set_cons_succ, i64_w, i32_w]
              rfl
            refine take_run (i := 7) (N := some 88) (a' := ?_) #[true, false, false, true, true, true, true, true, false] rfl rfl (by kernel_rfl) (fun _ _ _ _ h => h) (by rfl) hHeld (.string (strOfNums BM)) (fun X HX => r_strC 23 9 5 _ rfl rfl (Kd.C_below hCm HX.below) Tryd.underlying23 Tryd.underlying5 Tryd.underlying9) ?_ ?_
            rotate_left
            · simp only [Act.put, List.setIfInBounds_toArray, List.set_cons_zero, List.set_cons_succ, i64_w, i32_w]
              rfl
            refine one_ (i := 1) (N := some 82) #[true, true, false, true, true, true, true, true, false] rfl rfl (by kernel_rfl) (by decide) (fun K hK => ?_)
            refine callK_ (RB _ A79 c79 (H.rowC .head).2.2 (H.rowC .head).1) Tryd.func32 (by kernel_rfl) rfl (by rfl) rfl rfl (by (try simp only [List.map_toArray, List.map_cons, List.map_nil]); first | done | rfl) ?_
            rintro e W ⟨v82, rfl, hR, hb⟩
            refine ⟨_, rfl, ?_⟩
            replace H := H.addR hb hR
            clear hR hb
            obtain ⟨A82, c82, rfl⟩ := H.row_slice .head
            refine hK.out _ _ ?_ (fun hHeld => ?_)
            · first | trivial | exact H | exact H.del .head | exact (H.del .head).del .head
            clear hK K
            refine norm_ (a' := ?_) ?_ ?_
            rotate_left
            · show Act.put _ (some 82) _ = _
              simp only [Act.put, List.setIfInBounds_toArray, List.set_cons_zero, List.set_cons_succ, i64_w, i32_w]
              rfl
            refine one_ (i := 2) (N := some 83) #[true, true, true, true, true, true, true, true, false] rfl rfl (by kernel_rfl) (by decide) (fun K hK => ?_)
            refine wanted_ rfl ?_
            refine w_strR H 23 9 5 _ rfl _ rfl (by (repeat (first | exact In.head | apply In.tail))) Tryd.underlying23 Tryd.underlying5 Tryd.underlying9 ?_
            refine hK.out _ _ ?_ (fun hHeld => ?_)
            · first | trivial | exact H | exact H.del .head | exact (H.del .head).del .head
            clear hK K
            refine norm_ (a' := ?_) ?_ ?_
            rotate_left
            · show Act.put _ (some 83) _ = _
              simp only [Act.put, List.setIfInBounds_toArray, List.set_cons_zero, List.set_cons_succ, i64_w, i32_w]
              rfl
            refine pure_ (i := 8) (N := some 89) (v := ?_) (a' := ?_) #[true, true, true, true, true, true, true, true, true] rfl rfl (by kernel_rfl) (fun _ _ _ h => h) (Or.inl ⟨by rfl, ?_⟩) ?_ ?_
            rotate_left
            · intro w'
              go_simp
              with_reducible rfl
            rotate_left
            · simp only [Act.put, List.setIfInBounds_toArray, List.set_cons_zero, List.set_cons_succ, i64_w, i32_w]
              rfl
            refine done_ (by kernel_rfl) ?_
            clear hHeld
            go_wp2_with (first
    | ((with_reducible refine gate_store (t := 37) (p := 4) rfl ?_); refine l_storeW rfl H 37 _ _ rfl _ rfl _ rfl (by (repeat (first | exact In.head | apply In.tail))) _ size37 (by (first | rfl | assumption | omega | (simp only [nums_length]; omega) | (simp [nums_length, zs]; done) | (simp [nums_length, zs]; omega))) (by (first | rfl | assumption | omega | (simp only [nums_length]; omega) | (simp [nums_length, zs]; done) | (simp [nums_length, zs]; omega))) (by (first | exact nums_one | (intro u hu; simp at hu; subst hu; rfl) | (intro u hu; simp at hu; rcases hu with rfl | rfl | rfl | rfl | rfl | rfl | rfl <;> rfl) | (intro u hu; simp at hu; rcases hu with rfl | rfl | rfl | rfl <;> rfl) | (intro u hu; simp at hu; rcases hu with rfl | rfl | rfl <;> rfl) | (intro u hu; simp at hu; rcases hu with rfl | rfl <;> rfl))) ?_; clear H; intro W H))
            refine bodyPost_ret (results_ctt (p := 4) (ty := 37) rfl _ _ g4 37 _ (0, 0) _ rfl (H.heap (.tail (.tail (.tail .head)))) Tryd.underlying37 rfl size37) rfl ?_
            exact ⟨H.below, .inl ⟨by decide, rfl⟩⟩
end Go.Proofs.YthhbilkmdfdfiaaDoor.O
