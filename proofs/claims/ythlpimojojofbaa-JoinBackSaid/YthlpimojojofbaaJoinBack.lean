/- JoinBack: the statement's function. -/
import Derived.Test.YthlpimojojofbaaJoinBackM
import Derived.Test.YthlpimojojofbaaRd
import Derived.Test.YthlpimojojofbaaAwake15
import Derived.Test.YthlpimojojofbaaFkStrandlineref14
import Derived.Test.YthlpimojojofbaaFkStrandlineref04
namespace Go.Proofs.Ythlpimojojofbaa.O
open Go.RowKit Go.Proofs.YthlpimojojofbaaW.PrintWords Go.Proofs.YthlpimojojofbaaW.PrintLast Go.Proofs.YthlpimojojofbaaW.PrintMore Go.Proofs.Ythlpimojojofbaa.F Go.Proofs.Ythlpimojojofbaa.Plain Go.Proofs.Ythlpimojojofbaa.Pure.PureCF Go.Proofs.Ythlpimojojofbaa.Pure.PureJB
set_option linter.unusedVariables false
set_option linter.unusedSimpArgs false
theorem awake15' (w : World) : Calls Try.prog 41 #[] w fun e w' => e = .returned (.bool true) ∧ Below w.heap.size w w' := strandlinelaw15_awake.calls true w rfl
/-- what was frozen is let go -/
theorem Own.loose {w0 W : World} {F F' : Nat → Option Obj} {L : List Res} (H : Own w0 F' L W) (h : Fle F F') : Own w0 F L W :=
  ⟨H.below, fun g o hg => H.holds g o (h g o hg), H.ats, fun y hy k hk => by
    cases hF : F k with
    | none => rfl
    | some o => have := H.apart y hy k hk; rw [h k o hF] at this; exact this, H.sep⟩
/-- a row of one's own whose elements read what the first world holds -/
theorem own_reps {α : Type} {d : Kd α} {w0 W : World} {F : Nat → Option Obj} {L : List Res} {c : Res → List Res} {v : Value} {e n : Nat} {cells : List Value} {xs : List α} (H : Own w0 F L W) (hI : In L (.row v e d.sz n cells) c) (hr : Reps (d.K w0) d.sz xs cells) (hn : xs.length = n) :
    ∃ A c, v = .slice A n c ∧ n ≤ c ∧ d.C W A n xs := by
  subst hn
  obtain ⟨A, c, e1, h1, h2⟩ := OwnRow.reads (R := d.K w0) (ps := xs) ⟨cells, H.at_ hI, hr⟩
  exact ⟨A, c, e1, h1, ReadsRow.imp_ h2 (Below.refl _ _) (fun _ _ hp => d.K_below H.below hp)⟩
theorem r_loadCell {P : Program} {o : Oper} {a : Act} {W : World} {p : Addr} {v : Value} (ty : TypeId) (x : Operand) (ho : o.op = .load ty x) (hx : a.eval x = .pointer (some p)) (hc : W.cell? p = some v) (d : TypeDesc) (hu : P.underlying ty = some d) (hd : d.isRow = false) :
    (execOp a.eval o).run P W = .ok (.value v) W := by
  have hag : (isAgg ty).run P W = .ok false W := by
    unfold isAgg
    rw [Sem.run_bind, run_underlying hu W]
    cases d <;> simp_all
  unfold execOp
  simp [ho, hx, Instr.loadAt, Instr.sureAddr, loadVar, hag, hc]
/-- element k of a row of byte slices -/
theorem bytes_at {w : World} {A : Option Addr} {n : Nat} {l : List (List Int)} (h : Kd.C (Kd.slice 5 (Kd.int .u8)) w A n l) (k : Nat) (hk : k < n) :
    ∃ ad A2 c2, A = some ad ∧ w.cell? (ad.add k) = some (.slice A2 (l.getD k []).length c2) ∧ (l.getD k []).length ≤ c2 ∧ (Kd.int .u8).C w A2 (l.getD k []).length (l.getD k []) := by
  obtain ⟨ad, c, e, _, hK, hc0⟩ := Kd.C_get h [] (k : Int) (by omega) (by omega)
  obtain ⟨A2, c2, rfl, l2, g2⟩ := hK
  have := hc0 0 _ rfl
  rw [Int.toNat_natCast] at this l2 g2
  simp only [Kd.slice, Nat.mul_one, Nat.add_zero] at this
  exact ⟨ad, A2, c2, e, by simpa using this, l2, g2⟩
theorem int_at {w : World} {A : Option Addr} {n : Nat} {l : List Int} (h : (Kd.int .i64).C w A n l) (k : Nat) (hk : k < n) :
    ∃ ad, A = some ad ∧ w.cell? (ad.add k) = some (.int .i64 (l.getD k 0)) := by
  have hl := h.1
  obtain ⟨ad, e, hc⟩ := (Rd.of_C h) (by rw [nums_length]; omega)
  exact ⟨ad, e, hc k _ (nums_at k (by omega))⟩
/-- the bytes from lo to hi of what is read -/
theorem cut_C {w : World} {A : Option Addr} {xs : List Int} (h : (Kd.int .u8).C w A xs.length xs) (lo hi c : Nat) (h1 : lo ≤ hi) (h2 : hi ≤ xs.length) (hc : xs.length ≤ c) : (Kd.int .u8).C w (dropA A lo c 1) (hi - lo) ((xs.take hi).drop lo) := by
  have hm := h.2.1
  have hR := ((Rd.of_C h).take hi).dropA lo c 1 (fun e => by rw [List.length_take, nums_length]; omega)
  rw [nums_take, Nat.mul_one, nums_drop] at hR
  exact hR.C (by rw [List.length_drop, List.length_take, Nat.min_eq_left h2]) (by omega)
theorem piece_at {w : World} {b : Nat} {ok : Nat → Prop} {ad : Addr} {n c : Nat} {ps : List S79} (h : Kd.R k79 79 w b ok (.slice (some ad) n c) ps) (j : Nat) (hj : j < ps.length) :
    w.cell? ⟨(ad.add (j * 4)).block, (ad.add (j * 4)).off + 1, none⟩ = some (.int .i64 (rd_T79 ps j).f1) ∧ w.cell? ⟨(ad.add (j * 4)).block, (ad.add (j * 4)).off + 2, none⟩ = some (.int .i64 (rd_T79 ps j).f2) ∧ w.cell? ⟨(ad.add (j * 4)).block, (ad.add (j * 4)).off + 3, none⟩ = some (.int .i64 (rd_T79 ps j).f3) := by
  obtain ⟨A, c', e, hl, hC⟩ := Kd.R_reads h
  injection e with e1 e2 e3
  subst e1
  obtain ⟨ad', e, x0, x1, x2, x3⟩ := at_T79 hC (j : Int) (by omega) (by omega)
  obtain rfl := Option.some.inj e
  rw [Int.toNat_natCast] at x1 x2 x3
  exact ⟨x1, x2, x3⟩
theorem allF_step (a : Int) (data : List Int) (l : List S66) (ps : List S79) (j : Nat) (hj : j < ps.length) : l ++ (ps.take (j + 1)).map (fragP 0 data) = (l ++ (ps.take j).map (fragP 0 data)) ++ [fragP 0 data (rd_T79 ps j)] := by
  rw [List.take_succ_eq_append_getElem hj, List.map_append, List.append_assoc, rd_at ps j hj]
  rfl
theorem allF_mem (a : Nat → Int) (l : Nat → List Int) (n : Nat) : ∀ f ∈ allF a l n, f.f2.length ≤ 140737488351232 := by
  induction n with
  | zero => intro f hf; cases hf
  | succ n ih =>
    unfold allF
    split
    · rename_i hg
      unfold good at hg
      rw [Bool.and_eq_true] at hg
      have h5 := of_decide_eq_true hg.2
      intro f hf
      rcases List.mem_append.1 hf with hf | hf
      · exact ih f hf
      · obtain ⟨p, _, rfl⟩ := List.mem_map.1 hf
        have : ((fragP 0 (l n) p).f2).length ≤ (l n).length := by
          show (((l n).take p.f3.toNat).drop p.f2.toNat).length ≤ _
          rw [List.length_drop, List.length_take]
          omega
        omega
    · exact ih
namespace JB
theorem same04_l (l : List (List Int)) (hl : l.length < 5000000) (d : Nat) : ∀ (k i : Nat), i ≤ l.length → l.length - i = d → d < k → strandlineref04_Same.l0 k l l i = some true := by
  induction d with
  | zero =>
    intro k i h1 hd hk
    obtain ⟨k, rfl⟩ : ∃ j, k = j + 1 := ⟨k - 1, by omega⟩
    simp only [strandlineref04_Same.l0]
    rw [if_neg (by omega)]
  | succ d ih =>
    intro k i h1 hd hk
    obtain ⟨k, rfl⟩ : ∃ j, k = j + 1 := ⟨k - 1, by omega⟩
    simp only [strandlineref04_Same.l0]
    rw [if_pos (by omega), if_pos (by omega), if_pos (by omega), if_pos trivial, w64 (n := (i : Int) + 1) (by omega) (by omega)]
    exact ih k (i + 1) (by omega) (by omega) (by omega)
theorem same04_eq (l : List (List Int)) (hl : l.length < 5000000) (k : Nat) (hk : l.length < k) : strandlineref04_Same.f k l l = some true := by
  unfold strandlineref04_Same.f
  rw [if_pos rfl]
  exact same04_l l hl l.length k 0 (by omega) (by omega) (by omega)
end JB
set_option maxRecDepth 100000 in
set_option maxHeartbeats 4000000 in
theorem joinBack_law (l : List (List Int)) (at_ : List Int) (A : Option Addr) (c : Nat) (A1 : Option Addr) (c1 : Nat) (w : World) (hr : Kd.C (Kd.slice 5 (Kd.int .u8)) w A l.length l) (hc : l.length ≤ c) (hr1 : (Kd.int .i64).C w A1 at_.length at_) (hc1 : at_.length ≤ c1) :
    Calls Try.prog 10 #[.slice A l.length c, .slice A1 at_.length c1] w fun e w' => e = .returned (.bool true) ∧ Below w.heap.size w w' := by
  have H := Own.start w
  by_cases h5 : 20 < l.length
  · have q1 : decide (20 < (l.length : Int)) = true := decide_eq_true (by omega)
    go_enter Try.func10, Try.ntmps10
    go_wp2_with (first
    | (go_at_call 41; (with_reducible refine (awake15' _).mono ?_); rintro e W ⟨rfl, hb⟩; replace H := H.to hb; clear hb))
    go_ret
    exact ⟨rfl, H.below⟩
  · have q1 : decide (20 < (l.length : Int)) = false := decide_eq_false (by omega)
    obtain ⟨Lf, hLf⟩ : ∃ f : Nat → List Int, (fun k => l.getD k []) = f := ⟨_, rfl⟩
    obtain ⟨af, haf⟩ : ∃ f : Nat → Int, (fun k => if k < at_.length then at_.getD k 0 else 0) = f := ⟨_, rfl⟩
    have HL : ∀ k, k < l.length → ∃ ad A2 c2, A = some ad ∧ (∀ W, Below w.heap.size w W → W.cell? (ad.add k) = some (.slice A2 (Lf k).length c2)) ∧ (Lf k).length ≤ c2 ∧ (Kd.int .u8).C w A2 (Lf k).length (Lf k) := fun k hk => by
      obtain ⟨ad, A2, c2, e, x0, x1, x2⟩ := bytes_at hr k hk
      subst hLf
      exact ⟨ad, A2, c2, e, fun W hB => (hB.cell (World.block_lt_of_cell? w _ x0)).trans x0, x1, x2⟩
    have HA : ∀ k, k < at_.length → ∃ ad, A1 = some ad ∧ ∀ W, Below w.heap.size w W → W.cell? (ad.add k) = some (.int .i64 (af k)) := fun k hk => by
      obtain ⟨ad, e, x0⟩ := int_at hr1 k hk
      subst haf
      dsimp only
      rw [if_pos hk]
      exact ⟨ad, e, fun W hB => (hB.cell (World.block_lt_of_cell? w _ x0)).trans x0⟩
    have HA0 : ∀ k, ¬ k < at_.length → af k = 0 := fun k hk => by subst haf; dsimp only; rw [if_neg hk]
    have hnn : l.length ≤ 20 := by omega
    generalize l.length = n at *
    generalize at_.length = m at *
    clear hr hr1 h5 hLf haf
    go_enter Try.func10, Try.ntmps10
    go_wp2_with fail
    have H1 := (H.cons (r := .row (.slice none 0 0) 35 1 0 []) (Below.refl _ _) (own_nil _ _ _ _) (fun k hk => by cases hk))
    have H2 := (H1.cons (r := .row (.slice none 0 0) 66 3 0 []) (Below.refl _ _) (own_nil _ _ _ _) (fun k hk => by cases hk))
    clear H H1
    go_loopg [5, 6, 7] n (fun gq v5 v6 v7 w' => ∃ (k : Nat) (cA cW : List Value), v7 = .int .i64 (k : Int) ∧ k + gq = n ∧ Reps (k66.K w) 3 (allF af Lf k) cA ∧ Reps ((Kd.slice 5 (Kd.int .u8)).K w) 1 (wantF af Lf k) cW ∧ Own w F0 [.row v5 66 3 (allF af Lf k).length cA, .row v6 35 1 (wantF af Lf k).length cW] w')
    case atStart => exact ⟨0, [], [], rfl, by omega, Reps.none _ _, Reps.none _ _, H2⟩
    case round =>
      clear H2
      obtain ⟨k, cA, cW, rfl, hk, hRA, hRW, H⟩ := hrel
      by_cases ck : k < n
      · obtain ⟨gk', rfl⟩ : ∃ q, gk = q + 1 := ⟨gk - 1, by omega⟩
        have q3 : decide (k < n) = true := decide_eq_true ck
        have p0 : ((0 : Int) ≤ (k : Int)) = True := eq_true (by omega)
        have p1 : ((k : Int) < (n : Int)) = True := eq_true (by omega)
        obtain ⟨ad, A2, c2, rfl, FL, hl2, hCd⟩ := HL k ck
        have hdl := hCd.2.1
        obtain ⟨av, hav⟩ : ∃ x, af k = x := ⟨_, rfl⟩
        obtain ⟨data, hdata⟩ : ∃ x, Lf k = x := ⟨_, rfl⟩
        have hA1 : allF af Lf (k + 1) = if good (af k) (Lf k) = true then allF af Lf k ++ (cutP (af k) (Lf k).length).1.map (fragP 0 (Lf k)) else allF af Lf k := rfl
        have hW1 : wantF af Lf (k + 1) = if good (af k) (Lf k) = true then wantF af Lf k ++ [Lf k] else wantF af Lf k := rfl
        have lA := allF_len af Lf k
        have lW := wantF_len af Lf k
        rw [hdata] at FL hl2 hCd hdl
        rw [hav, hdata] at hA1 hW1
        have hcut := rcut_eq 2000 (by omega) av (data.length : Int) (by omega)
        have hfit := cutP_fit av data
        have hlen := cutP_len av (data.length : Int)
        unfold good at hA1 hW1
        generalize cutP av (data.length : Int) = r at hA1 hW1 hcut hfit hlen
        obtain ⟨ps, e', ok⟩ := r
        dsimp only at hA1 hW1 hcut hfit hlen
        have FC := fun (W : World) => strandlineref14_Cut.calls 2000 av (data.length : Int) _ _ _ W hcut
        have mL := FL _ H.below
        have FL' := FL
        have q4 : ∃ b, decide (k < m) = b := ⟨_, rfl⟩
        obtain ⟨b4, q4⟩ := q4
        have hM : b4 = true → ∃ ad1, A1 = some ad1 ∧ ((k : Int) < (m : Int)) = True ∧ wr.cell? (ad1.add k) = some (.int .i64 av) := fun hb => by
          subst hb
          obtain ⟨ad1, e1, FA⟩ := HA k (of_decide_eq_true q4)
          rw [hav] at FA
          exact ⟨ad1, e1, eq_true (by have := of_decide_eq_true q4; omega), FA _ H.below⟩
        have hM0 : b4 = false → av = 0 := fun hb => by subst hb; rw [← hav]; exact HA0 k (of_decide_eq_false q4)
        clear HL HA HA0 hcut
        rcases ok with _ | _
        · rw [if_neg (by simp)] at hA1 hW1
          rcases b4 with _ | _
          · obtain rfl := hM0 rfl
            clear hM hM0
            go_wp2_with (first
    | (go_at_call 49; (with_reducible refine (FC _).mono ?_); rintro e W ⟨v0, rfl, hR, hb⟩; replace H := H.to hb; clear hb))
            go_roundg gk'
            case measure => omega
            case rel => exact ⟨k + 1, cA, cW, by go_num, by omega, by rw [hA1]; exact hRA, by rw [hW1]; exact hRW, by rw [hA1, hW1]; exact H⟩
          · obtain ⟨ad1, rfl, p2, mA⟩ := hM rfl
            clear hM hM0
            go_wp2_with (first
    | (go_at_call 49; (with_reducible refine (FC _).mono ?_); rintro e W ⟨v0, rfl, hR, hb⟩; replace H := H.to hb; clear hb))
            go_roundg gk'
            case measure => omega
            case rel => exact ⟨k + 1, cA, cW, by go_num, by omega, by rw [hA1]; exact hRA, by rw [hW1]; exact hRW, by rw [hA1, hW1]; exact H⟩
        by_cases c5 : data.length ≤ 512
        · rw [if_pos (by rw [decide_eq_true c5]; rfl)] at hA1 hW1
          have q5 : decide (512 < (data.length : Int)) = false := decide_eq_false (by omega)
          have STEP : Aside0 True := ⟨trivial⟩
          rcases b4 with _ | _
          all_goals first
            | (obtain rfl := hM0 rfl)
            | (obtain ⟨ad1, rfl, p2, mA⟩ := hM rfl)
          all_goals
            clear hM hM0
            go_wp2_with (first
    | (go_at_call 49; (with_reducible refine (FC _).mono ?_); rintro e W ⟨v0, rfl, hR, hb⟩; obtain ⟨Ap, cp, rfl⟩ := Kd.R_slice hR; have HF := H.freezeNew hb; have hSt := Stands.R (F := F0) hR; clear hR hb H; obtain ⟨H, hF⟩ := HF; have mL2 := FL _ H.below; generalize fn F0 wr W = F1 at H hF hSt))
            have H0 : Own w F1 [.row u5 66 3 (allF af Lf k ++ (ps.take 0).map (fragP 0 data)).length cA, .row u6 35 1 (wantF af Lf k).length cW] W := by rw [List.take_zero, List.map_nil, List.append_nil]; exact H
            have hRA0 : Reps (k66.K w) 3 (allF af Lf k ++ (ps.take 0).map (fragP 0 data)) cA := by rw [List.take_zero, List.map_nil, List.append_nil]; exact hRA
            clear H hRA mL mL2
            try clear mA
            go_loopg [5, 12] ps.length (fun gq x5 v12 w' => ∃ (j : Nat) (cB : List Value), v12 = .int .i64 (j : Int) ∧ j + gq = ps.length ∧ Reps (k66.K w) 3 (allF af Lf k ++ (ps.take j).map (fragP 0 data)) cB ∧ Own w F1 [.row x5 66 3 (allF af Lf k ++ (ps.take j).map (fragP 0 data)).length cB, .row u6 35 1 (wantF af Lf k).length cW] w')
            case atStart => exact ⟨0, cA, rfl, by omega, hRA0, H0⟩
            case round =>
              clear H0 hRA0
              obtain ⟨j, cB, rfl, hj, hRB, H⟩ := hrel
              by_cases cj : j < ps.length
              · obtain ⟨gj', rfl⟩ : ∃ q, gk = q + 1 := ⟨gk - 1, by omega⟩
                have q6 : decide (j < ps.length) = true := decide_eq_true cj
                have p3 : ((0 : Int) ≤ (j : Int)) = True := eq_true (by omega)
                have p4 : ((j : Int) < (ps.length : Int)) = True := eq_true (by omega)
                obtain ⟨f1, f2, f3⟩ := hfit j cj
                have hst := allF_step 0 data (allF af Lf k) ps j cj
                obtain ⟨adp, rfl⟩ : ∃ adp, Ap = some adp := by
                  obtain ⟨A9, c9, e9, l9, C9⟩ := Kd.R_reads (H.use hSt)
                  injection e9 with e9 _ _
                  subst e9
                  obtain ⟨ad9, e9, _⟩ := C9.2.2 (by omega)
                  exact ⟨ad9, e9⟩
                have PF := fun (X : World) (L : List Res) (HX : Own w F1 L X) => piece_at (HX.use hSt) j cj
                generalize rd_T79 ps (j : Int) = p at f1 f2 f3 hst PF
                obtain ⟨pa, pk, pf, pt⟩ := p
                dsimp only at f1 f2 f3 hst PF
                obtain ⟨lo, rfl⟩ := Int.eq_ofNat_of_zero_le f1
                obtain ⟨hi, rfl⟩ := Int.eq_ofNat_of_zero_le (show 0 ≤ pt by omega)
                have hcc := cut_C hCd lo hi c2 (by omega) (by omega) hl2
                have hln : ((data.take hi).drop lo).length = hi - lo := by rw [List.length_drop, List.length_take, Nat.min_eq_left (by omega)]
                have hkm : k66.K w (fragP 0 data ⟨pa, pk, (lo : Int), (hi : Int)⟩) [.int .i64 pk, .int .u32 0, .slice (dropA A2 lo c2 1) (hi - lo) (c2 - lo)] := by
                  rw [← hln]
                  refine k66_mk w (fragP 0 data ⟨pa, pk, (lo : Int), (hi : Int)⟩) ?_ ?_
                  · show ((data.take hi).drop lo).length ≤ c2 - lo
                    rw [hln]; omega
                  · show (Kd.int .u8).C w _ ((data.take hi).drop lo).length ((data.take hi).drop lo)
                    rw [hln]; exact hcc
                have hRC := hRB.snoc hkm rfl
                rw [← hst] at hRC
                have lB : (allF af Lf k ++ (ps.take j).map (fragP 0 data)).length ≤ 90 := by rw [List.length_append, List.length_map, List.length_take]; omega
                have lC : (allF af Lf k ++ (ps.take (j + 1)).map (fragP 0 data)).length = (allF af Lf k ++ (ps.take j).map (fragP 0 data)).length + 1 := by rw [hst, List.length_append]; rfl
                generalize allF af Lf k ++ (ps.take j).map (fragP 0 data) = M at H hRB hRC lB lC
                generalize M.length = mm at H lB lC
                clear hRB hst hkm hln hcc hA1 hW1
                go_wp2
                refine start_ (n := 25) (S := Own _ _ _) (ds := [23]) #[false, false, false, false, false, false, false, false, false, false, false, false, false, false, false, false, false, false, false, false, false, false, false, false, false] (by kernel_rfl) rfl rfl H.drew (fun hHeld => ?_)
                replace H := H.drew
                generalize World.drew _ = W at H hHeld ⊢
                refine pure_ (i := 0) (N := some 60) (v := ?_) (a' := ?_) #[true, false, false, false, false, false, false, false, false, false, false, false, false, false, false, false, false, false, false, false, false, false, false, false, false] rfl rfl (by kernel_rfl) (fun _ _ _ h => h) (Or.inl ⟨by rfl, ?_⟩) ?_ ?_
                rotate_left
                · intro w'
                  go_simp
                  with_reducible rfl
                rotate_left
                · simp only [Act.put, List.setIfInBounds_toArray, List.set_cons_zero, List.set_cons_succ, i64_w, i32_w]
                  rfl
                refine pure_ (i := 1) (N := some 61) (v := ?_) (a' := ?_) #[true, true, false, false, false, false, false, false, false, false, false, false, false, false, false, false, false, false, false, false, false, false, false, false, false] rfl rfl (by kernel_rfl) (fun _ _ _ h => h) (Or.inl ⟨by rfl, ?_⟩) ?_ ?_
                rotate_left
                · intro w'
                  go_simp
                  with_reducible rfl
                rotate_left
                · simp only [Act.put, List.setIfInBounds_toArray, List.set_cons_zero, List.set_cons_succ, i64_w, i32_w]
                  rfl
                refine pure_ (i := 2) (N := some 62) (v := ?_) (a' := ?_) #[true, true, true, false, false, false, false, false, false, false, false, false, false, false, false, false, false, false, false, false, false, false, false, false, false] rfl rfl (by kernel_rfl) (fun _ _ _ h => h) (Or.inl ⟨by rfl, ?_⟩) ?_ ?_
                rotate_left
                · intro w'
                  go_simp
                  with_reducible rfl
                rotate_left
                · simp only [Act.put, List.setIfInBounds_toArray, List.set_cons_zero, List.set_cons_succ, i64_w, i32_w]
                  rfl
                refine pure_ (i := 3) (N := some 63) (v := ?_) (a' := ?_) #[true, true, true, true, false, false, false, false, false, false, false, false, false, false, false, false, false, false, false, false, false, false, false, false, false] rfl rfl (by kernel_rfl) (fun _ _ _ h => h) (Or.inl ⟨by rfl, ?_⟩) ?_ ?_
                rotate_left
                · intro w'
                  go_simp
                  with_reducible rfl
                rotate_left
                · simp only [Act.put, List.setIfInBounds_toArray, List.set_cons_zero, List.set_cons_succ, i64_w, i32_w]
                  rfl
                refine pure_ (i := 4) (N := some 64) (v := ?_) (a' := ?_) #[true, true, true, true, true, false, false, false, false, false, false, false, false, false, false, false, false, false, false, false, false, false, false, false, false] rfl rfl (by kernel_rfl) (fun _ _ _ h => h) (Or.inl ⟨by rfl, ?_⟩) ?_ ?_
                rotate_left
                · intro w'
                  go_simp
                  with_reducible rfl
                rotate_left
                · simp only [Act.put, List.setIfInBounds_toArray, List.set_cons_zero, List.set_cons_succ, i64_w, i32_w]
                  rfl
                refine pure_ (i := 6) (N := some 66) (v := ?_) (a' := ?_) #[true, true, true, true, true, false, true, false, false, false, false, false, false, false, false, false, false, false, false, false, false, false, false, false, false] rfl rfl (by kernel_rfl) (fun _ _ _ h => h) (Or.inl ⟨by rfl, ?_⟩) ?_ ?_
                rotate_left
                · intro w'
                  go_simp
                  with_reducible rfl
                rotate_left
                · simp only [Act.put, List.setIfInBounds_toArray, List.set_cons_zero, List.set_cons_succ, i64_w, i32_w]
                  rfl
                refine pure_ (i := 7) (N := some 67) (v := ?_) (a' := ?_) #[true, true, true, true, true, false, true, true, false, false, false, false, false, false, false, false, false, false, false, false, false, false, false, false, false] rfl rfl (by kernel_rfl) (fun _ _ _ h => h) (Or.inl ⟨by rfl, ?_⟩) ?_ ?_
                rotate_left
                · intro w'
                  go_simp
                  with_reducible rfl
                rotate_left
                · simp only [Act.put, List.setIfInBounds_toArray, List.set_cons_zero, List.set_cons_succ, i64_w, i32_w]
                  rfl
                refine pure_ (i := 8) (N := some 68) (v := ?_) (a' := ?_) #[true, true, true, true, true, false, true, true, true, false, false, false, false, false, false, false, false, false, false, false, false, false, false, false, false] rfl rfl (by kernel_rfl) (fun _ _ _ h => h) (Or.inl ⟨by rfl, ?_⟩) ?_ ?_
                rotate_left
                · intro w'
                  go_simp
                  with_reducible rfl
                rotate_left
                · simp only [Act.put, List.setIfInBounds_toArray, List.set_cons_zero, List.set_cons_succ, i64_w, i32_w]
                  rfl
                refine pure_ (i := 10) (N := some 70) (v := ?_) (a' := ?_) #[true, true, true, true, true, false, true, true, true, false, true, false, false, false, false, false, false, false, false, false, false, false, false, false, false] rfl rfl (by kernel_rfl) (fun _ _ _ h => h) (Or.inl ⟨by rfl, ?_⟩) ?_ ?_
                rotate_left
                · intro w'
                  go_simp
                  with_reducible rfl
                rotate_left
                · simp only [Act.put, List.setIfInBounds_toArray, List.set_cons_zero, List.set_cons_succ, i64_w, i32_w]
                  rfl
                refine pure_ (i := 11) (N := some 71) (v := ?_) (a' := ?_) #[true, true, true, true, true, false, true, true, true, false, true, true, false, false, false, false, false, false, false, false, false, false, false, false, false] rfl rfl (by kernel_rfl) (fun _ _ _ h => h) (Or.inl ⟨by rfl, ?_⟩) ?_ ?_
                rotate_left
                · intro w'
                  go_simp
                  with_reducible rfl
                rotate_left
                · simp only [Act.put, List.setIfInBounds_toArray, List.set_cons_zero, List.set_cons_succ, i64_w, i32_w]
                  rfl
                refine pure_ (i := 12) (N := some 72) (v := ?_) (a' := ?_) #[true, true, true, true, true, false, true, true, true, false, true, true, true, false, false, false, false, false, false, false, false, false, false, false, false] rfl rfl (by kernel_rfl) (fun _ _ _ h => h) (Or.inl ⟨by rfl, ?_⟩) ?_ ?_
                rotate_left
                · intro w'
                  go_simp
                  with_reducible rfl
                rotate_left
                · simp only [Act.put, List.setIfInBounds_toArray, List.set_cons_zero, List.set_cons_succ, i64_w, i32_w]
                  rfl
                refine pure_ (i := 13) (N := some 73) (v := ?_) (a' := ?_) #[true, true, true, true, true, false, true, true, true, false, true, true, true, true, false, false, false, false, false, false, false, false, false, false, false] rfl rfl (by kernel_rfl) (fun _ _ _ h => h) (Or.inl ⟨by rfl, ?_⟩) ?_ ?_
                rotate_left
                · intro w'
                  go_simp
                  with_reducible rfl
                rotate_left
                · simp only [Act.put, List.setIfInBounds_toArray, List.set_cons_zero, List.set_cons_succ, i64_w, i32_w]
                  rfl
                refine pure_ (i := 15) (N := some 75) (v := ?_) (a' := ?_) #[true, true, true, true, true, false, true, true, true, false, true, true, true, true, false, true, false, false, false, false, false, false, false, false, false] rfl rfl (by kernel_rfl) (fun _ _ _ h => h) (Or.inl ⟨by rfl, ?_⟩) ?_ ?_
                rotate_left
                · intro w'
                  go_simp
                  with_reducible rfl
                rotate_left
                · simp only [Act.put, List.setIfInBounds_toArray, List.set_cons_zero, List.set_cons_succ, i64_w, i32_w]
                  rfl
                refine pure_ (i := 16) (N := some 76) (v := ?_) (a' := ?_) #[true, true, true, true, true, false, true, true, true, false, true, true, true, true, false, true, true, false, false, false, false, false, false, false, false] rfl rfl (by kernel_rfl) (fun _ _ _ h => h) (Or.inl ⟨by rfl, ?_⟩) ?_ ?_
                rotate_left
                · intro w'
                  go_simp
                  with_reducible rfl
                rotate_left
                · simp only [Act.put, List.setIfInBounds_toArray, List.set_cons_zero, List.set_cons_succ, i64_w, i32_w]
                  rfl
                refine pure_ (i := 17) (N := some 77) (v := ?_) (a' := ?_) #[true, true, true, true, true, false, true, true, true, false, true, true, true, true, false, true, true, true, false, false, false, false, false, false, false] rfl rfl (by kernel_rfl) (fun _ _ _ h => h) (Or.inl ⟨by rfl, ?_⟩) ?_ ?_
                rotate_left
                · intro w'
                  go_simp
                  with_reducible rfl
                rotate_left
                · simp only [Act.put, List.setIfInBounds_toArray, List.set_cons_zero, List.set_cons_succ, i64_w, i32_w]
                  rfl
                refine pure_ (i := 18) (N := some 78) (v := ?_) (a' := ?_) #[true, true, true, true, true, false, true, true, true, false, true, true, true, true, false, true, true, true, true, false, false, false, false, false, false] rfl rfl (by kernel_rfl) (fun _ _ _ h => h) (Or.inl ⟨by rfl, ?_⟩) ?_ ?_
                rotate_left
                · intro w'
                  go_simp
                  with_reducible rfl
                rotate_left
                · simp only [Act.put, List.setIfInBounds_toArray, List.set_cons_zero, List.set_cons_succ, i64_w, i32_w]
                  rfl
                refine take_run (i := 5) (N := some 65) (a' := ?_) #[true, true, true, true, true, true, true, true, true, false, true, true, true, true, false, true, true, true, true, false, false, false, false, false, false] rfl rfl (by kernel_rfl) (fun _ _ _ _ h => h) (by rfl) hHeld (.int .i64 pk) (fun X HX => r_loadCell 3 _ rfl rfl (PF X _ HX).1 _ Try.underlying3 rfl) ?_ ?_
                rotate_left
                · simp only [Act.put, List.setIfInBounds_toArray, List.set_cons_zero, List.set_cons_succ, i64_w, i32_w]
                  rfl
                refine take_run (i := 9) (N := some 69) (a' := ?_) #[true, true, true, true, true, true, true, true, true, true, true, true, true, true, false, true, true, true, true, false, false, false, false, false, false] rfl rfl (by kernel_rfl) (fun _ _ _ _ h => h) (by rfl) hHeld (.slice A2 data.length c2) (fun X HX => r_loadCell 35 _ rfl rfl (FL _ HX.below) _ Try.underlying35 rfl) ?_ ?_
                rotate_left
                · simp only [Act.put, List.setIfInBounds_toArray, List.set_cons_zero, List.set_cons_succ, i64_w, i32_w]
                  rfl
                refine take_run (i := 14) (N := some 74) (a' := ?_) #[true, true, true, true, true, true, true, true, true, true, true, true, true, true, true, true, true, true, true, false, false, false, false, false, false] rfl rfl (by kernel_rfl) (fun _ _ _ _ h => h) (by rfl) hHeld (.int .i64 (lo : Int)) (fun X HX => r_loadCell 3 _ rfl rfl (PF X _ HX).2.1 _ Try.underlying3 rfl) ?_ ?_
                rotate_left
                · simp only [Act.put, List.setIfInBounds_toArray, List.set_cons_zero, List.set_cons_succ, i64_w, i32_w]
                  rfl
                refine take_run (i := 19) (N := some 79) (a' := ?_) #[true, true, true, true, true, true, true, true, true, true, true, true, true, true, true, true, true, true, true, true, false, false, false, false, false] rfl rfl (by kernel_rfl) (fun _ _ _ _ h => h) (by rfl) hHeld (.int .i64 (hi : Int)) (fun X HX => r_loadCell 3 _ rfl rfl (PF X _ HX).2.2 _ Try.underlying3 rfl) ?_ ?_
                rotate_left
                · simp only [Act.put, List.setIfInBounds_toArray, List.set_cons_zero, List.set_cons_succ, i64_w, i32_w]
                  rfl
                refine take_run (i := 20) (N := some 80) (a' := ?_) #[true, true, true, true, true, true, true, true, true, true, true, true, true, true, true, true, true, true, true, true, true, false, false, false, false] rfl rfl (by kernel_rfl) (fun _ _ _ _ h => h) (by rfl) hHeld (.slice (dropA A2 lo c2 1) (hi - lo) (c2 - lo)) (fun X HX => x_slice_lohi _ _ _ rfl rfl Try.underlying35 size5 lo hi rfl rfl (by omega) (by omega) X) ?_ ?_
                rotate_left
                · simp only [Act.put, List.setIfInBounds_toArray, List.set_cons_zero, List.set_cons_succ, i64_w, i32_w]
                  rfl
                refine pure_ (i := 21) (N := some 81) (v := ?_) (a' := ?_) #[true, true, true, true, true, true, true, true, true, true, true, true, true, true, true, true, true, true, true, true, true, true, false, false, false] rfl rfl (by kernel_rfl) (fun _ _ _ h => h) (Or.inl ⟨by rfl, ?_⟩) ?_ ?_
                rotate_left
                · intro w'
                  go_simp
                  with_reducible rfl
                rotate_left
                · simp only [Act.put, List.setIfInBounds_toArray, List.set_cons_zero, List.set_cons_succ, i64_w, i32_w]
                  rfl
                refine one_ (i := 22) (N := some 82) #[true, true, true, true, true, true, true, true, true, true, true, true, true, true, true, true, true, true, true, true, true, true, true, false, false] rfl rfl (by kernel_rfl) (by decide) (fun K hK => ?_)
                refine wanted_ rfl ?_
                refine w_build1A H 57 66 _ rfl Try.underlying57 _ rfl _ _ zs66 rfl (by (first | rfl | assumption | omega | (simp only [nums_length]; omega) | (simp [nums_length, zs]; done) | (simp [nums_length, zs]; omega))) (by decide) (by decide) ?_
                clear H
                intro g82 W H
                refine hK.out _ _ ?_ (fun hHeld => ?_)
                · first | trivial | exact H | exact H.del .head | exact (H.del .head).del .head
                clear hK K
                refine norm_ (a' := ?_) ?_ ?_
                rotate_left
                · show Act.put _ (some 82) _ = _
                  simp only [Act.put, List.setIfInBounds_toArray, List.set_cons_zero, List.set_cons_succ, i64_w, i32_w]
                  rfl
                refine last_ (i := 23) (N := some 83) #[true, true, true, true, true, true, true, true, true, true, true, true, true, true, true, true, true, true, true, true, true, true, true, true, false] rfl rfl (by kernel_rfl) (by decide) (fun K hK => ?_)
                refine wanted_ rfl ?_
                refine w_append1 H _ _ 57 66 rfl Try.underlying57 _ _ _ inf66 rfl (by decide) (by decide) _ _ _ rfl (by (repeat (first | exact In.head | apply In.tail))) _ _ rfl (by (repeat (first | exact In.head | apply In.tail))) (by (first | rfl | assumption | omega | (simp only [nums_length]; omega) | (simp [nums_length, zs]; done) | (simp [nums_length, zs]; omega))) (by (first | exact nums_one | (intro u hu; simp at hu; subst hu; rfl) | (intro u hu; simp at hu; rcases hu with rfl | rfl | rfl | rfl | rfl | rfl | rfl <;> rfl) | (intro u hu; simp at hu; rcases hu with rfl | rfl | rfl | rfl <;> rfl) | (intro u hu; simp at hu; rcases hu with rfl | rfl | rfl <;> rfl) | (intro u hu; simp at hu; rcases hu with rfl | rfl <;> rfl))) (by omega) ?_
                clear H
                intro v83 W H
                refine hK.out _ _ ?_
                clear hK K
                refine norm_ (a' := ?_) ?_ ?_
                rotate_left
                · show Act.put _ (some 83) _ = _
                  simp only [Act.put, List.setIfInBounds_toArray, List.set_cons_zero, List.set_cons_succ, i64_w, i32_w]
                  rfl
                refine pure_ (i := 24) (N := some 5) (v := ?_) (a' := ?_) #[true, true, true, true, true, true, true, true, true, true, true, true, true, true, true, true, true, true, true, true, true, true, true, true, true] rfl rfl (by kernel_rfl) (fun _ _ _ h => h) (Or.inl ⟨by rfl, ?_⟩) ?_ ?_
                rotate_left
                · intro w'
                  go_simp
                  with_reducible rfl
                rotate_left
                · simp only [Act.put, List.setIfInBounds_toArray, List.set_cons_zero, List.set_cons_succ, i64_w, i32_w]
                  rfl
                refine done_ (by kernel_rfl) ?_
                clear hHeld
                go_wp2
                go_roundg gj'
                case measure => omega
                case rel =>
                  rw [← lC] at H
                  exact ⟨j + 1, _, by go_num, by omega, hRC, H.del .head⟩
              · have ej : j = ps.length := by omega
                subst ej
                rw [List.take_length, ← hA1] at H hRB
                have q6 : decide ((ps.length : Int) < (ps.length : Int)) = false := decide_eq_false (by omega)
                have mL := FL _ H.below
                have hkw : (Kd.slice 5 (Kd.int .u8)).K w data [.slice A2 data.length c2] := ⟨A2, c2, rfl, hl2, hCd⟩
                have hRX := hRW.snoc hkw rfl
                rw [← hW1] at hRX
                have lC : (wantF af Lf (k + 1)).length = (wantF af Lf k).length + 1 := by rw [hW1, List.length_append]; rfl
                replace H := H.loose hF
                generalize hmm : (wantF af Lf k).length = mm at H lC lW
                clear hRW hkw hA1 hW1 hSt hF
                go_wp2_with (first
    | ((with_reducible refine gate_dst (N := 88) rfl ?_); refine l_load1 rfl H 35 _ rfl _ _ rfl (by (repeat (first | exact In.head | apply In.tail))) _ Try.underlying35 rfl _ (by first | rfl | assumption | exact nums_at _ (by omega)) ?_)
    | ((with_reducible refine gate_dst (N := 89) rfl ?_); refine l_build11 rfl H 70 35 _ rfl Try.underlying70 _ rfl _ zs35 rfl rfl ?_; clear H; intro g89 W H)
    | ((with_reducible refine gate_dst (N := 90) rfl ?_); refine l_append1 rfl H _ _ 70 35 rfl Try.underlying70 _ _ _ inf35 rfl (by decide) (by decide) _ _ _ rfl (by (repeat (first | exact In.head | apply In.tail))) _ _ rfl (by (repeat (first | exact In.head | apply In.tail))) (by (first | rfl | assumption | omega | (simp only [nums_length]; omega) | (simp [nums_length, zs]; done) | (simp [nums_length, zs]; omega))) (by (first | exact nums_one | (intro u hu; simp at hu; subst hu; rfl) | (intro u hu; simp at hu; rcases hu with rfl | rfl | rfl | rfl | rfl | rfl | rfl <;> rfl) | (intro u hu; simp at hu; rcases hu with rfl | rfl | rfl | rfl <;> rfl) | (intro u hu; simp at hu; rcases hu with rfl | rfl | rfl <;> rfl) | (intro u hu; simp at hu; rcases hu with rfl | rfl <;> rfl))) (by omega) ?_; clear H; intro v90 W H))
                go_roundg gk'
                case measure => omega
                case rel =>
                  rw [← lC] at H
                  exact ⟨k + 1, cB, _, by go_num, by omega, hRB, hRX, H.del .head⟩
        · rw [if_neg (by rw [decide_eq_false c5]; simp)] at hA1 hW1
          have q5 : decide (512 < (data.length : Int)) = true := decide_eq_true (by omega)
          rcases b4 with _ | _
          · obtain rfl := hM0 rfl
            clear hM hM0
            go_wp2_with (first
    | (go_at_call 49; (with_reducible refine (FC _).mono ?_); rintro e W ⟨v0, rfl, hR, hb⟩; replace H := H.to hb; clear hb; have mL2 := FL _ H.below))
            go_roundg gk'
            case measure => omega
            case rel => exact ⟨k + 1, cA, cW, by go_num, by omega, by rw [hA1]; exact hRA, by rw [hW1]; exact hRW, by rw [hA1, hW1]; exact H⟩
          · obtain ⟨ad1, rfl, p2, mA⟩ := hM rfl
            clear hM hM0
            go_wp2_with (first
    | (go_at_call 49; (with_reducible refine (FC _).mono ?_); rintro e W ⟨v0, rfl, hR, hb⟩; replace H := H.to hb; clear hb; have mL2 := FL _ H.below))
            go_roundg gk'
            case measure => omega
            case rel => exact ⟨k + 1, cA, cW, by go_num, by omega, by rw [hA1]; exact hRA, by rw [hW1]; exact hRW, by rw [hA1, hW1]; exact H⟩
      · have ek : k = n := by omega
        subst ek
        have q3 : decide (k < k) = false := decide_eq_false ck
        have lA := allF_len af Lf k
        have lW := wantF_len af Lf k
        have hj : join_Join.f (allF af Lf k) = some (wantF af Lf k, 0) := by
          rw [← join_back af Lf k]
          unfold join_Join.f
          rw [if_pos (by omega), if_pos (List.all_eq_true.2 fun x hx => decide_eq_true (allF_mem af Lf k x hx))]
        have hs := JB.same04_eq (wantF af Lf k) (by omega) 1000 (by omega)
        obtain ⟨A5, c5, rfl, l5, C5⟩ := own_reps (d := k66) H .head hRA rfl
        obtain ⟨A6, c6, rfl, l6, C6⟩ := own_reps (d := Kd.slice 5 (Kd.int .u8)) H (.tail .head) hRW rfl
        have FJ := join_Join.calls A5 c5 (allF af Lf k) (wantF af Lf k) 0 wr C5 l5 hj
        have FS := fun (W : World) (A0 : Option Addr) (c0 : Nat) h0 h1 h2 => strandlineref04_Same.calls 1000 A0 c0 (wantF af Lf k) A6 c6 (wantF af Lf k) true W h0 h1 h2 l6 hs
        clear HL HA HA0 hRA hRW C5 hj hs
        go_wp2_with (first
    | (go_at_call 46; (with_reducible refine FJ.mono ?_); rintro e W ⟨v0, rfl, hS, hb⟩; obtain ⟨A9, c9, rfl, l9, C9⟩ := Kd.R_reads (Kd.S_R hS); have C6' := Kd.C_below C6 hb; replace H := H.to hb; clear hb C6 hS)
    | (go_at_call 48; (with_reducible refine (FS _ _ _ C9 l9 C6').mono ?_); rintro e W ⟨rfl, hd⟩; replace H := H.to hd.below; clear hd)
    | (go_at_call 41; (with_reducible refine (awake15' _).mono ?_); rintro e W ⟨rfl, hb⟩; replace H := H.to hb; clear hb))
        go_ret
        exact ⟨rfl, H.below⟩
end Go.Proofs.Ythlpimojojofbaa.O
