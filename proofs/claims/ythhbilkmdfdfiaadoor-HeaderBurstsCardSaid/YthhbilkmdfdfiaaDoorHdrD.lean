/- header.Decode, by what is owned. -/
import Derived.Test.YthhbilkmdfdfiaaDoorHdrE
import Derived.Test.YthhbilkmdfdfiaaDoorArrEq
set_option linter.unusedVariables false
set_option linter.unusedSimpArgs false
namespace Go.Proofs.YthhbilkmdfdfiaaDoor.O
open Go.RowKit Go.Proofs.YthhbilkmdfdfiaaDoorW.PrintWords Go.Proofs.YthhbilkmdfdfiaaDoorW.PrintLast Go.Proofs.YthhbilkmdfdfiaaDoorW.PrintMore Go.Proofs.YthhbilkmdfdfiaaDoor.F Go.Proofs.YthhbilkmdfdfiaaDoor.F.Nums Go.Proofs.YthhbilkmdfdfiaaDoor.Plain
theorem heq64 (xs ys : List Int) (hx : xs.length = 64) (hy : ys.length = 64) (bx : Bytes xs) (by' : Bytes ys) (W : World) : (Op.equalIn 10000 50 (.agg (nums .u8 xs).toArray) (.agg (nums .u8 ys).toArray)).run Tryd.prog W = .ok (xs == ys) W := equalB 9998 W 50 64 Tryd.underlying50 hx hy bx by'
theorem heq23 (xs ys : List Int) (hx : xs.length = 23) (hy : ys.length = 23) (bx : Bytes xs) (by' : Bytes ys) (W : World) : (Op.equalIn 10000 87 (.agg (nums .u8 xs).toArray) (.agg (nums .u8 ys).toArray)).run Tryd.prog W = .ok (xs == ys) W := equalB 9998 W 87 23 Tryd.underlying87 hx hy bx by'
theorem run_arrayAt23 (ad : Addr) (W : World) : (Instr.arrayAt 87 (.slice (some ad) 23 23)).run Tryd.prog W = .ok (.pointer (some ad)) W := by
  unfold Instr.arrayAt
  simp [Sem.run_bind, run_underlying Tryd.underlying87]
abbrev hV0 : Value := hV 0 0 0 0 0 0 0
def hvS (s : List Int) : Value := hV (epS s) (nS s 13) (nS s 17) (nS s 21) (nS s 25) (nS s 29) (nS s 33)
/-- what Decode answers -/
def decV (s : List Int) : Value := if decH s = 0 then hvS s else hV0
theorem x_arr_hi {P : Program} {o : Oper} {a : Act} {t e : TypeId} {N g : Nat} (x hi : Operand) (ho : o.op = .slice t x none (some hi) none) (off : Nat) (hx : a.eval x = .pointer (some ⟨g, off, none⟩)) (hu : P.underlying t = some (.array N e)) (hz : (P.info? e).map (·.size) = some 1) (h : Nat) (hhi : a.eval hi = .int .i64 (h : Int)) (hh : h ≤ N) (h0 : 0 < N) (W : World) :
    (execOp a.eval o).run P W = .ok (.value (.slice (some ⟨g, off, none⟩) h N)) W := by
  have := x_arr (P := P) x _ _ ho off hx hu hz 0 h (fun W => by simp [Instr.sliceBounds, run_sliceBound, hhi, hh]) h0 W
  simpa using this
theorem number_at (s : List Int) (hl : s.length = 64) (hb : Bytes s) (a : Nat) (ha : a ≤ 60) (z : Int) (hz : z = (a : Int)) (w : World) :
    Calls Tryd.prog 62 #[.agg (nums .u8 s).toArray, .int .i64 z] w fun e W => e = .returned (.int .i64 (nS s a)) ∧ Below w.heap.size w W := by
  subst hz
  exact number_calls s hl hb w a ha
def hcs (ep n13 n17 a b c d : Int) : Nat → List Value
  | 0 => [.int .u64 ep, .int .i64 n13, .int .i64 n17, .int .i64 0, .int .i64 0, .int .i64 0, .int .i64 0]
  | 1 => [.int .u64 ep, .int .i64 n13, .int .i64 n17, .int .i64 a, .int .i64 0, .int .i64 0, .int .i64 0]
  | 2 => [.int .u64 ep, .int .i64 n13, .int .i64 n17, .int .i64 a, .int .i64 b, .int .i64 0, .int .i64 0]
  | 3 => [.int .u64 ep, .int .i64 n13, .int .i64 n17, .int .i64 a, .int .i64 b, .int .i64 c, .int .i64 0]
  | _ => [.int .u64 ep, .int .i64 n13, .int .i64 n17, .int .i64 a, .int .i64 b, .int .i64 c, .int .i64 d]
theorem strd_toList : (strOfNums [115, 116, 114, 100]).toList = [115, 116, 114, 100] := by decide +kernel
theorem strd_eq {x : List Int} (hb : Bytes x) : ((strOfNums x).toList == [115, 116, 114, 100]) = decide (x = [115, 116, 114, 100]) := by
  rw [Bool.eq_iff_iff, beq_iff_eq, decide_eq_true_iff]
  constructor
  · intro h
    exact CrcMath.strOfNums_inj hb (fun c hc => by simp at hc; omega) (h.trans strd_toList.symm)
  · rintro rfl
    exact strd_toList
theorem form_split {s : List Int} (hl : s.length = 64) : s.take 5 = hMagic ↔ s.take 4 = [115, 116, 114, 100] ∧ s.getD 4 0 = 1 := by
  match s, hl with
  | a :: b :: c :: d :: e :: r, _ => simp [hMagic, and_assoc]
set_option maxRecDepth 100000 in
set_option maxHeartbeats 8000000 in
theorem hdecode_calls (s : List Int) (hl : s.length = 64) (hb : Bytes s) (w : World) (hH : Half w) :
    Calls Tryd.prog 34 #[.agg (nums .u8 s).toArray] w fun e W => e = .returned (.tuple #[decV s, .int .i64 (decH s)]) ∧ Below w.heap.size w W := by
  have H := Own.start w
  have hsz : (nums .u8 s).length = 64 := by rw [nums_length, hl]
  have E0 := fun W => heq64 s (zs 64) hl rfl hb (bytes_zs 64) W
  by_cases hz : s = zs 64
  · have hd : decH s = 7 := by unfold decH; rw [if_pos hz]
    have hv : decV s = hV0 := by unfold decV; rw [hd]; rfl
    rw [hd, hv]
    rw [show (s == zs 64) = true by simp [hz]] at E0
    clear hz hd hv
    go_enter Tryd.func34, Tryd.ntmps34
    go_wp2_with (first
    | ((with_reducible refine gate_dst (N := 1) rfl ?_); refine l_boxA rfl H 50 _ rfl _ rfl ?_; clear H; intro g1 W H)
    | ((with_reducible refine gate_dst (N := 2) rfl ?_); refine l_allocA rfl H 54 rfl _ zero54 ?_; clear H; intro g2 W H)
    | ((with_reducible refine gate_dst (N := 6) rfl ?_); refine l_loadA rfl H 50 _ rfl _ rfl (by (repeat (first | exact In.head | apply In.tail))) _ _ Tryd.underlying50 rfl size50 (by (first | rfl | assumption | omega | (simp only [nums_length]; omega) | (simp [nums_length, zs]; done) | (simp [nums_length, zs]; omega))) ?_)
    | ((with_reducible refine gate_store (t := 54) (p := 2) rfl ?_); refine l_storeW rfl H 54 _ _ rfl _ rfl _ rfl (by (repeat (first | exact In.head | apply In.tail))) _ size54 (by (first | rfl | assumption | omega | (simp only [nums_length]; omega) | (simp [nums_length, zs]; done) | (simp [nums_length, zs]; omega))) (by (first | rfl | assumption | omega | (simp only [nums_length]; omega) | (simp [nums_length, zs]; done) | (simp [nums_length, zs]; omega))) (by (first | exact nums_one | assumption | (intro u hu; simp at hu; subst hu; rfl) | (intro u hu; simp at hu; rcases hu with rfl | rfl | rfl | rfl | rfl | rfl | rfl <;> rfl) | (intro u hu; simp at hu; rcases hu with rfl | rfl | rfl | rfl <;> rfl) | (intro u hu; simp at hu; rcases hu with rfl | rfl | rfl <;> rfl) | (intro u hu; simp at hu; rcases hu with rfl | rfl <;> rfl))) ?_; clear H; intro W H)
    | ((with_reducible refine gate_dst (N := 7) rfl ?_); refine l_run rfl (.agg (nums .u8 (zs 64)).toArray) (by kernel_rfl) ?_))
    refine bodyPost_ret (results_ct (p := 2) (ty := 54) rfl _ _ g2 54 _ (0, 0) _ rfl (H.heap .head) Tryd.underlying54 rfl size54) rfl ?_
    exact ⟨rfl, H.below⟩
  rw [show (s == zs 64) = false by simp [hz]] at E0
  have d1 : decH s = if formS s = false then 2 else if nS s 37 ≠ (sumN (s.take 37) : Int) then 3 else if rightS s = false then 2 else 0 := by unfold decH; rw [if_neg hz]
  clear hz
  have l4 : (s.take 4).length = 4 := by rw [List.length_take]; omega
  have k4 : (nums .u8 s)[4]? = some (.int .u8 (s.getD 4 0)) := by rw [nums_at 4 (by omega)]
  have l23 : (s.drop 41).length = 23 := by rw [List.length_drop]; omega
  have E1 := fun W => heq23 (s.drop 41) (zs 23) l23 rfl (bytes_drop hb 41) (bytes_zs 23) W
  have A1 := fun ad W => run_arrayAt23 ad W
  have S1 := strd_eq (bytes_take hb 4)
  have f4 := form_split hl
  obtain ⟨x4, hx4⟩ : ∃ x, s.take 4 = x := ⟨_, rfl⟩
  obtain ⟨v4, hv4⟩ : ∃ x, s.getD 4 0 = x := ⟨_, rfl⟩
  obtain ⟨x23, hx23⟩ : ∃ x, s.drop 41 = x := ⟨_, rfl⟩
  rw [hx4] at S1 f4
  rw [hv4] at k4 f4
  rw [hx23] at E1
  by_cases c1 : x4 = [115, 116, 114, 100]
  · rw [decide_eq_true c1] at S1
    by_cases c2 : v4 = 1
    · have q2 : (v4 == 1) = true := by simp [c2]
      have q2' : (v4 != 1) = false := by simp [c2]
      by_cases c3 : x23 = zs 23
      · have c4 : formS s = true := by
          unfold formS
          rw [decide_eq_true (f4.2 ⟨c1, c2⟩), hx23, decide_eq_true c3]
          rfl
        rw [if_neg (by rw [c4]; decide)] at d1
        rw [show (x23 == zs 23) = true by simp [c3]] at E1
        have N37 := number_at s hl hb 37 (by decide) 37 rfl
        have SC := fun W h => sum_calls s hl hb W h
        have hsb := sumN_lt (s.take 37)
        have w1 : IntKind.i64.wrap (sumN (s.take 37) : Int) = (sumN (s.take 37) : Int) := by rw [IntKind.wrap_i64]; omega
        obtain ⟨n37, hn37⟩ : ∃ x, nS s 37 = x := ⟨_, rfl⟩
        obtain ⟨sm, hsm⟩ : ∃ x, sumN (s.take 37) = x := ⟨_, rfl⟩
        rw [hn37] at N37 d1
        rw [hsm] at SC d1 w1
        clear hsb
        by_cases c5 : n37 = (sm : Int)
        · have q5 : (n37 == (sm : Int)) = true := by simp [c5]
          have q5' : (n37 != (sm : Int)) = false := by simp [c5]
          rw [if_neg (fun h => h c5)] at d1
          have N13 := number_at s hl hb 13 (by decide) 13 rfl
          have N17 := number_at s hl hb 17 (by decide) 17 rfl
          have N21 := number_at s hl hb 21 (by decide) 21 rfl
          have N25 := number_at s hl hb 25 (by decide) 25 rfl
          have N29 := number_at s hl hb 29 (by decide) 29 rfl
          have N33 := number_at s hl hb 33 (by decide) 33 rfl
          have FR := fun W => right_calls (epS s) (nS s 13) (nS s 17) (nS s 21) (nS s 25) (nS s 29) (nS s 33) W
          have hep : ((getn ((s.drop 5).take 8) 8 : Nat) : Int) = epS s := by unfold epS; exact congrArg _ (getn_pre 8 (fun j hj => by rw [List.getElem?_take_of_lt hj]))
          have GF := fun {W : World} {L : List Res} (H : Own w F0 L W) A n c hC hc => get_own H A n c ((s.drop 5).take 8) hC hc (bytes_take (bytes_drop hb 5) 8)
          have hc5 := fun {W : World} {L : List Res} {c : Res → List Res} {g : Nat} (H : Own w F0 L W) (hI : In L (.blk g 50 (nums .u8 s)) c) => H.C hI 5 8 (by omega) (by decide)
          have hv : decV s = if rightS s = false then hV0 else hvS s := by
            unfold decV
            rw [d1]
            cases rightS s
            · rw [if_pos (rfl : false = false), if_neg (show ¬ (2 : Int) = 0 by decide), if_pos (rfl : false = false)]
            · rw [if_neg (show ¬ true = false by decide), if_pos (rfl : (0 : Int) = 0), if_neg (show ¬ true = false by decide)]
          rw [d1, hv]
          unfold hvS
          change ∀ W, Calls _ _ _ W fun e W' => e = .returned (.bool (rightS s)) ∧ _ at FR
          generalize rightS s = RR at *
          clear d1 hv c1 c2 c3 c4 f4 c5 hsm hn37
          generalize epS s = ep at *
          generalize nS s 13 = n13 at *
          generalize nS s 17 = n17 at *
          generalize nS s 21 = n21 at *
          generalize nS s 25 = n25 at *
          generalize nS s 29 = n29 at *
          generalize nS s 33 = n33 at *
          go_enter Tryd.func34, Tryd.ntmps34
          go_wp2_with (first
    | ((with_reducible refine gate_dst (N := 1) rfl ?_); refine l_boxA rfl H 50 _ rfl _ rfl ?_; clear H; intro g1 W H)
    | ((with_reducible refine gate_dst (N := 2) rfl ?_); refine l_allocA rfl H 54 rfl _ zero54 ?_; clear H; intro g2 W H)
    | ((with_reducible refine gate_dst (N := 6) rfl ?_); refine l_loadA rfl H 50 _ rfl _ rfl (by (repeat (first | exact In.head | apply In.tail))) _ _ Tryd.underlying50 rfl size50 (by (first | rfl | assumption | omega | (simp only [nums_length]; omega) | (simp [nums_length, zs]; done) | (simp [nums_length, zs]; omega))) ?_)
    | ((with_reducible refine gate_dst (N := 15) rfl ?_); refine gate_guard (by rfl) ?_; refine l_load1 rfl H 5 _ rfl _ _ rfl (by (repeat (first | exact In.head | apply In.tail))) _ Tryd.underlying5 rfl _ (by first | rfl | assumption | exact nums_at _ (by omega)) ?_)
    | ((with_reducible refine gate_store (t := 54) (p := 2) rfl ?_); refine l_storeW rfl H 54 _ _ rfl _ rfl _ rfl (by (repeat (first | exact In.head | apply In.tail))) _ size54 (by (first | rfl | assumption | omega | (simp only [nums_length]; omega) | (simp [nums_length, zs]; done) | (simp [nums_length, zs]; omega))) (by (first | rfl | assumption | omega | (simp only [nums_length]; omega) | (simp [nums_length, zs]; done) | (simp [nums_length, zs]; omega))) (by (first | exact nums_one | assumption | (intro u hu; simp at hu; subst hu; rfl) | (intro u hu; simp at hu; rcases hu with rfl | rfl | rfl | rfl | rfl | rfl | rfl <;> rfl) | (intro u hu; simp at hu; rcases hu with rfl | rfl | rfl | rfl <;> rfl) | (intro u hu; simp at hu; rcases hu with rfl | rfl | rfl <;> rfl) | (intro u hu; simp at hu; rcases hu with rfl | rfl <;> rfl))) ?_; clear H; intro W H)
    | ((with_reducible refine gate_dst (N := 7) rfl ?_); refine l_run rfl (.agg (nums .u8 (zs 64)).toArray) (by kernel_rfl) ?_)
    | ((with_reducible refine gate_dst (N := 10) rfl ?_); refine l_run rfl (.slice (some ⟨g1, 0, none⟩) 4 64) (x_arr_hi _ _ rfl 0 rfl Tryd.underlying50 size5 4 rfl (by decide) (by decide) _) ?_)
    | ((with_reducible refine gate_dst (N := 11) rfl ?_); refine l_run rfl (.string (strOfNums x4)) (by rw [← hx4]; exact r_strC 23 9 5 _ rfl rfl (by have := H.C (.tail .head) 0 4 (by rw [hl]; decide) (by decide); rwa [List.drop_zero] at this) Tryd.underlying23 Tryd.underlying5 Tryd.underlying9) ?_)
    | ((with_reducible refine gate_dst (N := 19) rfl ?_); refine gate_guard (by rfl) ?_; refine l_run rfl (.slice (some ⟨g1, 41, none⟩) 23 23) (x_arr_lo' _ _ rfl 0 rfl Tryd.underlying50 size5 41 rfl (by decide) _ 41 23 rfl rfl) ?_)
    | ((with_reducible refine gate_dst (N := 21) rfl ?_); refine gate_guard (by rfl) ?_; refine l_run rfl (.agg (nums .u8 x23).toArray) (by rw [← hx23]; exact r_loadRd0 87 _ rfl rfl (by have := H.rdB (.tail .head) 41; rwa [nums_drop] at this) 23 _ Tryd.underlying87 rfl size87 (by decide) (by rw [nums_length]; exact l23)) ?_)
    | ((with_reducible refine gate_dst (N := 22) rfl ?_); refine gate_guard (by rfl) ?_; refine l_run rfl (.agg (nums .u8 (zs 23)).toArray) (by kernel_rfl) ?_))
          refine start_ (n := 6) (S := Own _ _ _) (ds := [3]) #[false, false, false, false, false, false] (by kernel_rfl) rfl rfl H.drew (fun hHeld => ?_)
          replace H := H.drew
          generalize World.drew _ = W at H hHeld ⊢
          refine take_loadA (i := 0) (N := some 26) (a' := ?_) #[true, false, false, false, false, false] rfl rfl (by kernel_rfl) (fun _ _ _ _ h => h) (by rfl) hHeld 50 _ rfl _ rfl (by (repeat (first | exact In.head | apply In.tail))) _ _ Tryd.underlying50 rfl size50 (by (first | rfl | assumption | omega | (simp only [nums_length]; omega) | (simp [nums_length, zs]; done) | (simp [nums_length, zs]; omega))) ?_ ?_
          rotate_left
          · simp only [Act.put, List.setIfInBounds_toArray, List.set_cons_zero, List.set_cons_succ, i64_w, i32_w]
            rfl
          refine take_loadA (i := 2) (N := some 28) (a' := ?_) #[true, false, true, false, false, false] rfl rfl (by kernel_rfl) (fun _ _ _ _ h => h) (by rfl) hHeld 50 _ rfl _ rfl (by (repeat (first | exact In.head | apply In.tail))) _ _ Tryd.underlying50 rfl size50 (by (first | rfl | assumption | omega | (simp only [nums_length]; omega) | (simp [nums_length, zs]; done) | (simp [nums_length, zs]; omega))) ?_ ?_
          rotate_left
          · simp only [Act.put, List.setIfInBounds_toArray, List.set_cons_zero, List.set_cons_succ, i64_w, i32_w]
            rfl
          refine one_ (i := 1) (N := some 27) #[true, true, true, false, false, false] rfl rfl (by kernel_rfl) (by decide) (fun K hK => ?_)
          refine callK_ (N37 W) Tryd.func62 (by kernel_rfl) rfl (by rfl) rfl rfl (by (try simp only [List.map_toArray, List.map_cons, List.map_nil]); first | done | rfl) ?_
          rintro e W ⟨rfl, hb⟩
          refine ⟨_, rfl, ?_⟩
          replace H := H.to hb
          clear hb
          refine hK.out _ _ ?_ (fun hHeld => ?_)
          · first | trivial | exact H | exact H.del .head | exact (H.del .head).del .head
          clear hK K
          refine norm_ (a' := ?_) ?_ ?_
          rotate_left
          · show Act.put _ (some 27) _ = _
            simp only [Act.put, List.setIfInBounds_toArray, List.set_cons_zero, List.set_cons_succ, i64_w, i32_w]
            rfl
          refine last_ (i := 3) (N := some 29) #[true, true, true, true, false, false] rfl rfl (by kernel_rfl) (by decide) (fun K hK => ?_)
          refine callK_ (SC W (hH.below H.below)) Tryd.func63 (by kernel_rfl) rfl (by rfl) rfl rfl (by (try simp only [List.map_toArray, List.map_cons, List.map_nil]); first | done | rfl) ?_
          rintro e W ⟨rfl, hb⟩
          refine ⟨_, rfl, ?_⟩
          replace H := H.to hb
          clear hb
          refine hK.out _ _ ?_
          clear hK K
          refine norm_ (a' := ?_) ?_ ?_
          rotate_left
          · show Act.put _ (some 29) _ = _
            simp only [Act.put, List.setIfInBounds_toArray, List.set_cons_zero, List.set_cons_succ, i64_w, i32_w]
            rfl
          refine pure_ (i := 4) (N := some 30) (v := ?_) (a' := ?_) #[true, true, true, true, true, false] rfl rfl (by kernel_rfl) (fun _ _ _ h => h) (Or.inl ⟨by rfl, ?_⟩) ?_ ?_
          rotate_left
          · intro w'
            go_simp
            with_reducible rfl
          rotate_left
          · simp only [Act.put, List.setIfInBounds_toArray, List.set_cons_zero, List.set_cons_succ, i64_w, i32_w]
            rfl
          refine pure_ (i := 5) (N := some 31) (v := ?_) (a' := ?_) #[true, true, true, true, true, true] rfl rfl (by kernel_rfl) (fun _ _ _ h => h) (Or.inl ⟨by rfl, ?_⟩) ?_ ?_
          rotate_left
          · intro w'
            go_simp
            with_reducible rfl
          rotate_left
          · simp only [Act.put, List.setIfInBounds_toArray, List.set_cons_zero, List.set_cons_succ, i64_w, i32_w]
            rfl
          refine done_ (by kernel_rfl) ?_
          clear hHeld
          go_wp2
          refine start_ (n := 9) (S := Own _ _ _) (ds := []) #[false, false, false, false, false, false, false, false, false] (by kernel_rfl) rfl rfl H.drew (fun hHeld => ?_)
          replace H := H.drew
          generalize World.drew _ = W at H hHeld ⊢
          refine take_run (i := 0) (N := some 33) (a' := ?_) #[true, false, false, false, false, false, false, false, false] rfl rfl (by kernel_rfl) (fun _ _ _ _ h => h) (by rfl) hHeld (.slice (some ⟨g1, 5, none⟩) 8 59) (fun X HX => x_arr_lohi' _ _ _ rfl 0 rfl Tryd.underlying50 size5 5 13 rfl rfl (by decide) (by decide) (by decide) X 5 8 59 rfl rfl rfl) ?_ ?_
          rotate_left
          · simp only [Act.put, List.setIfInBounds_toArray, List.set_cons_zero, List.set_cons_succ, i64_w, i32_w]
            rfl
          refine take_loadA (i := 2) (N := some 35) (a' := ?_) #[true, false, true, false, false, false, false, false, false] rfl rfl (by kernel_rfl) (fun _ _ _ _ h => h) (by rfl) hHeld 50 _ rfl _ rfl (by (repeat (first | exact In.head | apply In.tail))) _ _ Tryd.underlying50 rfl size50 (by (first | rfl | assumption | omega | (simp only [nums_length]; omega) | (simp [nums_length, zs]; done) | (simp [nums_length, zs]; omega))) ?_ ?_
          rotate_left
          · simp only [Act.put, List.setIfInBounds_toArray, List.set_cons_zero, List.set_cons_succ, i64_w, i32_w]
            rfl
          refine take_loadA (i := 4) (N := some 37) (a' := ?_) #[true, false, true, false, true, false, false, false, false] rfl rfl (by kernel_rfl) (fun _ _ _ _ h => h) (by rfl) hHeld 50 _ rfl _ rfl (by (repeat (first | exact In.head | apply In.tail))) _ _ Tryd.underlying50 rfl size50 (by (first | rfl | assumption | omega | (simp only [nums_length]; omega) | (simp [nums_length, zs]; done) | (simp [nums_length, zs]; omega))) ?_ ?_
          rotate_left
          · simp only [Act.put, List.setIfInBounds_toArray, List.set_cons_zero, List.set_cons_succ, i64_w, i32_w]
            rfl
          refine join_ (σ := Nat) 1 #[true, true, true, true, true, true, true, true, false] (fun g4 => [(34, Value.int .u64 ep), (36, Value.int .i64 n13), (38, Value.int .i64 n17), (39, hV ep n13 n17 0 0 0 0), (4, Value.pointer (some ⟨g4, 0, none⟩))]) (fun g4 W => Own w F0 [.blk g4 54 [.int .u64 0, .int .i64 0, .int .i64 0, .int .i64 0, .int .i64 0, .int .i64 0, .int .i64 0], .blk g2 54 [.int .u64 0, .int .i64 0, .int .i64 0, .int .i64 0, .int .i64 0, .int .i64 0, .int .i64 0], .blk g1 50 (nums .u8 s)] W) ?_ (fun hC => ?_)
          rotate_left
          focus
            simp only [putAll, Act.put, List.setIfInBounds_toArray, List.set_cons_zero, List.set_cons_succ] at hC
            refine two_ (i := 1) (j := 7) (Ni := some 34) (Nj := some 4) #[true, true, true, false, true, false, false, false, false] #[true, false, true, false, true, false, false, true, false] rfl rfl rfl rfl (by kernel_rfl) (by decide) (by decide) (fun K hK => ?_) (fun K hK => ?_)
            focus
              refine callK_ (GF H _ _ 59 (hc5 H (by first|exact .tail .head|exact .tail (.tail .head))) (by decide) (by decide)) Tryd.func57 (by kernel_rfl) rfl (by rfl) rfl rfl (by (try simp only [List.map_toArray, List.map_cons, List.map_nil]); first | done | rfl) ?_
              rintro e W ⟨rfl, H'⟩
              refine ⟨_, rfl, ?_⟩
              replace H := H'
              clear H'
              rw [hep]
              refine hK.out _ _ ?_ (fun hHeld => ?_)
              · first | trivial | exact H | exact H.del .head | exact (H.del .head).del .head
              clear hK K
              refine norm_ (a' := ?_) ?_ ?_
              rotate_left
              · show Act.put _ (some 34) _ = _
                simp only [Act.put, List.setIfInBounds_toArray, List.set_cons_zero, List.set_cons_succ, i64_w, i32_w]
                rfl
              refine two_ (i := 3) (j := 7) (Ni := some 36) (Nj := some 4) #[true, true, true, true, true, false, false, false, false] #[true, true, true, false, true, false, false, true, false] rfl rfl rfl rfl (by kernel_rfl) (by decide) (by decide) (fun K hK => ?_) (fun K hK => ?_)
              focus
                refine callK_ (N13 W) Tryd.func62 (by kernel_rfl) rfl (by rfl) rfl rfl (by (try simp only [List.map_toArray, List.map_cons, List.map_nil]); first | done | rfl) ?_
                rintro e W ⟨rfl, hb⟩
                refine ⟨_, rfl, ?_⟩
                replace H := H.to hb
                clear hb
                refine hK.out _ _ ?_ (fun hHeld => ?_)
                · first | trivial | exact H | exact H.del .head | exact (H.del .head).del .head
                clear hK K
                refine norm_ (a' := ?_) ?_ ?_
                rotate_left
                · show Act.put _ (some 36) _ = _
                  simp only [Act.put, List.setIfInBounds_toArray, List.set_cons_zero, List.set_cons_succ, i64_w, i32_w]
                  rfl
                refine two_ (i := 5) (j := 7) (Ni := some 38) (Nj := some 4) #[true, true, true, true, true, true, false, false, false] #[true, true, true, true, true, false, false, true, false] rfl rfl rfl rfl (by kernel_rfl) (by decide) (by decide) (fun K hK => ?_) (fun K hK => ?_)
                focus
                  refine callK_ (N17 W) Tryd.func62 (by kernel_rfl) rfl (by rfl) rfl rfl (by (try simp only [List.map_toArray, List.map_cons, List.map_nil]); first | done | rfl) ?_
                  rintro e W ⟨rfl, hb⟩
                  refine ⟨_, rfl, ?_⟩
                  replace H := H.to hb
                  clear hb
                  refine hK.out _ _ ?_ (fun hHeld => ?_)
                  · first | trivial | exact H | exact H.del .head | exact (H.del .head).del .head
                  clear hK K
                  refine norm_ (a' := ?_) ?_ ?_
                  rotate_left
                  · show Act.put _ (some 38) _ = _
                    simp only [Act.put, List.setIfInBounds_toArray, List.set_cons_zero, List.set_cons_succ, i64_w, i32_w]
                    rfl
                  refine pure_ (i := 6) (N := some 39) (v := ?_) (a' := ?_) #[true, true, true, true, true, true, true, false, false] rfl rfl (by kernel_rfl) (fun _ _ _ h => h) (Or.inl ⟨by rfl, ?_⟩) ?_ ?_
                  rotate_left
                  · intro w'
                    go_simp
                    with_reducible rfl
                  rotate_left
                  · simp only [Act.put, List.setIfInBounds_toArray, List.set_cons_zero, List.set_cons_succ, i64_w, i32_w]
                    rfl
                  refine one_ (i := 7) (N := some 4) #[true, true, true, true, true, true, true, true, false] rfl rfl (by kernel_rfl) (by decide) (fun K hK => ?_)
                  refine wanted_ rfl ?_
                  refine w_allocA H 54 rfl _ zero54 ?_
                  clear H
                  intro g4 W H
                  refine hK.out _ _ ?_ (fun hHeld => ?_)
                  · first | trivial | exact H | exact H.del .head | exact (H.del .head).del .head
                  clear hK K
                  refine norm_ (a' := ?_) ?_ ?_
                  rotate_left
                  · show Act.put _ (some 4) _ = _
                    simp only [Act.put, List.setIfInBounds_toArray, List.set_cons_zero, List.set_cons_succ, i64_w, i32_w]
                    rfl
                rotate_left 1
                focus
                  refine wanted_ rfl ?_
                  refine w_allocA H 54 rfl _ zero54 ?_
                  clear H
                  intro g4 W H
                  refine hK.out _ _ ?_ (fun hHeld => ?_)
                  · first | trivial | exact H | exact H.del .head | exact (H.del .head).del .head
                  clear hK K
                  refine norm_ (a' := ?_) ?_ ?_
                  rotate_left
                  · show Act.put _ (some 4) _ = _
                    simp only [Act.put, List.setIfInBounds_toArray, List.set_cons_zero, List.set_cons_succ, i64_w, i32_w]
                    rfl
                  refine one_ (i := 5) (N := some 38) #[true, true, true, true, true, true, false, true, false] rfl rfl (by kernel_rfl) (by decide) (fun K hK => ?_)
                  refine callK_ (N17 W) Tryd.func62 (by kernel_rfl) rfl (by rfl) rfl rfl (by (try simp only [List.map_toArray, List.map_cons, List.map_nil]); first | done | rfl) ?_
                  rintro e W ⟨rfl, hb⟩
                  refine ⟨_, rfl, ?_⟩
                  replace H := H.to hb
                  clear hb
                  refine hK.out _ _ ?_ (fun hHeld => ?_)
                  · first | trivial | exact H | exact H.del .head | exact (H.del .head).del .head
                  clear hK K
                  refine norm_ (a' := ?_) ?_ ?_
                  rotate_left
                  · show Act.put _ (some 38) _ = _
                    simp only [Act.put, List.setIfInBounds_toArray, List.set_cons_zero, List.set_cons_succ, i64_w, i32_w]
                    rfl
                  refine pure_ (i := 6) (N := some 39) (v := ?_) (a' := ?_) #[true, true, true, true, true, true, true, true, false] rfl rfl (by kernel_rfl) (fun _ _ _ h => h) (Or.inl ⟨by rfl, ?_⟩) ?_ ?_
                  rotate_left
                  · intro w'
                    go_simp
                    with_reducible rfl
                  rotate_left
                  · simp only [Act.put, List.setIfInBounds_toArray, List.set_cons_zero, List.set_cons_succ, i64_w, i32_w]
                    rfl
                rotate_left 1
              rotate_left 2
              focus
                refine wanted_ rfl ?_
                refine w_allocA H 54 rfl _ zero54 ?_
                clear H
                intro g4 W H
                refine hK.out _ _ ?_ (fun hHeld => ?_)
                · first | trivial | exact H | exact H.del .head | exact (H.del .head).del .head
                clear hK K
                refine norm_ (a' := ?_) ?_ ?_
                rotate_left
                · show Act.put _ (some 4) _ = _
                  simp only [Act.put, List.setIfInBounds_toArray, List.set_cons_zero, List.set_cons_succ, i64_w, i32_w]
                  rfl
                refine one_ (i := 3) (N := some 36) #[true, true, true, true, true, false, false, true, false] rfl rfl (by kernel_rfl) (by decide) (fun K hK => ?_)
                refine callK_ (N13 W) Tryd.func62 (by kernel_rfl) rfl (by rfl) rfl rfl (by (try simp only [List.map_toArray, List.map_cons, List.map_nil]); first | done | rfl) ?_
                rintro e W ⟨rfl, hb⟩
                refine ⟨_, rfl, ?_⟩
                replace H := H.to hb
                clear hb
                refine hK.out _ _ ?_ (fun hHeld => ?_)
                · first | trivial | exact H | exact H.del .head | exact (H.del .head).del .head
                clear hK K
                refine norm_ (a' := ?_) ?_ ?_
                rotate_left
                · show Act.put _ (some 36) _ = _
                  simp only [Act.put, List.setIfInBounds_toArray, List.set_cons_zero, List.set_cons_succ, i64_w, i32_w]
                  rfl
                refine one_ (i := 5) (N := some 38) #[true, true, true, true, true, true, false, true, false] rfl rfl (by kernel_rfl) (by decide) (fun K hK => ?_)
                refine callK_ (N17 W) Tryd.func62 (by kernel_rfl) rfl (by rfl) rfl rfl (by (try simp only [List.map_toArray, List.map_cons, List.map_nil]); first | done | rfl) ?_
                rintro e W ⟨rfl, hb⟩
                refine ⟨_, rfl, ?_⟩
                replace H := H.to hb
                clear hb
                refine hK.out _ _ ?_ (fun hHeld => ?_)
                · first | trivial | exact H | exact H.del .head | exact (H.del .head).del .head
                clear hK K
                refine norm_ (a' := ?_) ?_ ?_
                rotate_left
                · show Act.put _ (some 38) _ = _
                  simp only [Act.put, List.setIfInBounds_toArray, List.set_cons_zero, List.set_cons_succ, i64_w, i32_w]
                  rfl
                refine pure_ (i := 6) (N := some 39) (v := ?_) (a' := ?_) #[true, true, true, true, true, true, true, true, false] rfl rfl (by kernel_rfl) (fun _ _ _ h => h) (Or.inl ⟨by rfl, ?_⟩) ?_ ?_
                rotate_left
                · intro w'
                  go_simp
                  with_reducible rfl
                rotate_left
                · simp only [Act.put, List.setIfInBounds_toArray, List.set_cons_zero, List.set_cons_succ, i64_w, i32_w]
                  rfl
              rotate_left 1
            rotate_left 3
            focus
              refine wanted_ rfl ?_
              refine w_allocA H 54 rfl _ zero54 ?_
              clear H
              intro g4 W H
              refine hK.out _ _ ?_ (fun hHeld => ?_)
              · first | trivial | exact H | exact H.del .head | exact (H.del .head).del .head
              clear hK K
              refine norm_ (a' := ?_) ?_ ?_
              rotate_left
              · show Act.put _ (some 4) _ = _
                simp only [Act.put, List.setIfInBounds_toArray, List.set_cons_zero, List.set_cons_succ, i64_w, i32_w]
                rfl
              refine one_ (i := 1) (N := some 34) #[true, true, true, false, true, false, false, true, false] rfl rfl (by kernel_rfl) (by decide) (fun K hK => ?_)
              refine callK_ (GF H _ _ 59 (hc5 H (by first|exact .tail .head|exact .tail (.tail .head))) (by decide) (by decide)) Tryd.func57 (by kernel_rfl) rfl (by rfl) rfl rfl (by (try simp only [List.map_toArray, List.map_cons, List.map_nil]); first | done | rfl) ?_
              rintro e W ⟨rfl, H'⟩
              refine ⟨_, rfl, ?_⟩
              replace H := H'
              clear H'
              rw [hep]
              refine hK.out _ _ ?_ (fun hHeld => ?_)
              · first | trivial | exact H | exact H.del .head | exact (H.del .head).del .head
              clear hK K
              refine norm_ (a' := ?_) ?_ ?_
              rotate_left
              · show Act.put _ (some 34) _ = _
                simp only [Act.put, List.setIfInBounds_toArray, List.set_cons_zero, List.set_cons_succ, i64_w, i32_w]
                rfl
              refine one_ (i := 3) (N := some 36) #[true, true, true, true, true, false, false, true, false] rfl rfl (by kernel_rfl) (by decide) (fun K hK => ?_)
              refine callK_ (N13 W) Tryd.func62 (by kernel_rfl) rfl (by rfl) rfl rfl (by (try simp only [List.map_toArray, List.map_cons, List.map_nil]); first | done | rfl) ?_
              rintro e W ⟨rfl, hb⟩
              refine ⟨_, rfl, ?_⟩
              replace H := H.to hb
              clear hb
              refine hK.out _ _ ?_ (fun hHeld => ?_)
              · first | trivial | exact H | exact H.del .head | exact (H.del .head).del .head
              clear hK K
              refine norm_ (a' := ?_) ?_ ?_
              rotate_left
              · show Act.put _ (some 36) _ = _
                simp only [Act.put, List.setIfInBounds_toArray, List.set_cons_zero, List.set_cons_succ, i64_w, i32_w]
                rfl
              refine one_ (i := 5) (N := some 38) #[true, true, true, true, true, true, false, true, false] rfl rfl (by kernel_rfl) (by decide) (fun K hK => ?_)
              refine callK_ (N17 W) Tryd.func62 (by kernel_rfl) rfl (by rfl) rfl rfl (by (try simp only [List.map_toArray, List.map_cons, List.map_nil]); first | done | rfl) ?_
              rintro e W ⟨rfl, hb⟩
              refine ⟨_, rfl, ?_⟩
              replace H := H.to hb
              clear hb
              refine hK.out _ _ ?_ (fun hHeld => ?_)
              · first | trivial | exact H | exact H.del .head | exact (H.del .head).del .head
              clear hK K
              refine norm_ (a' := ?_) ?_ ?_
              rotate_left
              · show Act.put _ (some 38) _ = _
                simp only [Act.put, List.setIfInBounds_toArray, List.set_cons_zero, List.set_cons_succ, i64_w, i32_w]
                rfl
              refine pure_ (i := 6) (N := some 39) (v := ?_) (a' := ?_) #[true, true, true, true, true, true, true, true, false] rfl rfl (by kernel_rfl) (fun _ _ _ h => h) (Or.inl ⟨by rfl, ?_⟩) ?_ ?_
              rotate_left
              · intro w'
                go_simp
                with_reducible rfl
              rotate_left
              · simp only [Act.put, List.setIfInBounds_toArray, List.set_cons_zero, List.set_cons_succ, i64_w, i32_w]
                rfl
            rotate_left 1
            all_goals exact hC g4 _ H
          clear H hHeld
          rintro g4 W H
          have hHeld := H
          refine norm_ (a' := ?_) ?_ ?_
          rotate_left
          · simp only [putAll, Act.put, List.setIfInBounds_toArray, List.set_cons_zero, List.set_cons_succ, i64_w, i32_w]
            rfl
          refine one_ (i := 8) (N := none) #[true, true, true, true, true, true, true, true, true] rfl rfl (by kernel_rfl) (by decide) (fun K hK => ?_)
          refine wanted_ rfl ?_
          refine w_storeW H 54 _ _ rfl _ rfl _ rfl (by (repeat (first | exact In.head | apply In.tail))) _ size54 (by (first | rfl | assumption | omega | (simp only [nums_length]; omega) | (simp [nums_length, zs]; done) | (simp [nums_length, zs]; omega))) (by (first | rfl | assumption | omega | (simp only [nums_length]; omega) | (simp [nums_length, zs]; done) | (simp [nums_length, zs]; omega))) (by (first | exact nums_one | assumption | (intro u hu; simp at hu; subst hu; rfl) | (intro u hu; simp at hu; rcases hu with rfl | rfl | rfl | rfl | rfl | rfl | rfl <;> rfl) | (intro u hu; simp at hu; rcases hu with rfl | rfl | rfl | rfl <;> rfl) | (intro u hu; simp at hu; rcases hu with rfl | rfl | rfl <;> rfl) | (intro u hu; simp at hu; rcases hu with rfl | rfl <;> rfl))) ?_
          clear H
          intro W H
          refine hK.out _ _ ?_ (fun hHeld => ?_)
          · first | trivial | exact H | exact H.del .head | exact (H.del .head).del .head
          clear hK K
          refine done_ (by kernel_rfl) ?_
          clear hHeld
          all_goals
            go_wp2
            go_loopg [40] 4 (fun gq v40 w' => ∃ k : Nat, v40 = .int .i64 (k : Int) ∧ k + gq = 4 ∧ Own w F0 [.blk g4 54 (hcs ep n13 n17 n21 n25 n29 n33 k), .blk g2 54 [.int .u64 0, .int .i64 0, .int .i64 0, .int .i64 0, .int .i64 0, .int .i64 0, .int .i64 0], .blk g1 50 (nums .u8 s)] w')
            case atStart => exact ⟨0, rfl, rfl, H⟩
            case round =>
              clear H
              obtain ⟨k, rfl, hk, H⟩ := hrel
              by_cases ck : k < 4
              · obtain ⟨gk', rfl⟩ : ∃ q, gk = q + 1 := ⟨gk - 1, by omega⟩
                have HK := Aside0.mk hk
                clear hk
                rcases (show k = 0 ∨ k = 1 ∨ k = 2 ∨ k = 3 by omega) with rfl | rfl | rfl | rfl
                all_goals
                  clear ck
                  simp only [hcs] at H
                  go_wp2_with (first
    | ((with_reducible refine gate_dst (N := 44) rfl ?_); refine l_loadA rfl H 50 _ rfl _ rfl (by (repeat (first | exact In.head | apply In.tail))) _ _ Tryd.underlying50 rfl size50 (by (first | rfl | assumption | omega | (simp only [nums_length]; omega) | (simp [nums_length, zs]; done) | (simp [nums_length, zs]; omega))) ?_)
    | ((with_reducible refine gate_store (t := 3) (p := 51) rfl ?_); refine l_store1 rfl H 3 _ _ rfl _ _ rfl _ (by first | (go_simp; done) | (go_simp; with_reducible rfl)) (by (repeat (first | exact In.head | apply In.tail))) rfl rfl size3 (by (first | rfl | assumption | omega | (simp only [nums_length]; omega) | (simp [nums_length, zs]; done) | (simp [nums_length, zs]; omega))) ?_; clear H; intro W H)
                | (go_at_call 62; (with_reducible refine (N21 _).mono ?_); rintro e W ⟨rfl, hb⟩; replace H := H.to hb; clear hb)
                | (go_at_call 62; (with_reducible refine (N25 _).mono ?_); rintro e W ⟨rfl, hb⟩; replace H := H.to hb; clear hb)
                | (go_at_call 62; (with_reducible refine (N29 _).mono ?_); rintro e W ⟨rfl, hb⟩; replace H := H.to hb; clear hb)
                | (go_at_call 62; (with_reducible refine (N33 _).mono ?_); rintro e W ⟨rfl, hb⟩; replace H := H.to hb; clear hb))
                  go_roundg gk'
                  case measure => have := HK.out; omega
                  case rel => first | exact ⟨1, rfl, by have := HK.out; omega, H⟩ | exact ⟨2, rfl, by have := HK.out; omega, H⟩ | exact ⟨3, rfl, by have := HK.out; omega, H⟩ | exact ⟨4, rfl, by have := HK.out; omega, H⟩
              · obtain rfl : k = 4 := by omega
                clear hk ck
                simp only [hcs] at H
                cases RR with
                | true =>
                  go_wp2_with (first
    | ((with_reducible refine gate_dst (N := 53) rfl ?_); refine l_loadA rfl H 54 _ rfl _ rfl (by (repeat (first | exact In.head | apply In.tail))) _ _ Tryd.underlying54 rfl size54 (by (first | rfl | assumption | omega | (simp only [nums_length]; omega) | (simp [nums_length, zs]; done) | (simp [nums_length, zs]; omega))) ?_)
    | ((with_reducible refine gate_dst (N := 57) rfl ?_); refine l_loadA rfl H 54 _ rfl _ rfl (by (repeat (first | exact In.head | apply In.tail))) _ _ Tryd.underlying54 rfl size54 (by (first | rfl | assumption | omega | (simp only [nums_length]; omega) | (simp [nums_length, zs]; done) | (simp [nums_length, zs]; omega))) ?_)
    | ((with_reducible refine gate_store (t := 54) (p := 2) rfl ?_); refine l_storeW rfl H 54 _ _ rfl _ rfl _ rfl (by (repeat (first | exact In.head | apply In.tail))) _ size54 (by (first | rfl | assumption | omega | (simp only [nums_length]; omega) | (simp [nums_length, zs]; done) | (simp [nums_length, zs]; omega))) (by (first | rfl | assumption | omega | (simp only [nums_length]; omega) | (simp [nums_length, zs]; done) | (simp [nums_length, zs]; omega))) (by (first | exact nums_one | assumption | (intro u hu; simp at hu; subst hu; rfl) | (intro u hu; simp at hu; rcases hu with rfl | rfl | rfl | rfl | rfl | rfl | rfl <;> rfl) | (intro u hu; simp at hu; rcases hu with rfl | rfl | rfl | rfl <;> rfl) | (intro u hu; simp at hu; rcases hu with rfl | rfl | rfl <;> rfl) | (intro u hu; simp at hu; rcases hu with rfl | rfl <;> rfl))) ?_; clear H; intro W H)
                  | (go_at_call 39; (with_reducible refine (FR _).mono ?_); rintro e W ⟨rfl, hb⟩; replace H := H.to hb; clear hb))
                  refine bodyPost_ret (results_ct (p := 2) (ty := 54) rfl _ _ g2 54 _ (0, 0) _ rfl (H.heap (.tail .head)) Tryd.underlying54 rfl size54) rfl ?_
                  exact ⟨rfl, H.below⟩
                | false =>
                  go_wp2_with (first
    | ((with_reducible refine gate_dst (N := 53) rfl ?_); refine l_loadA rfl H 54 _ rfl _ rfl (by (repeat (first | exact In.head | apply In.tail))) _ _ Tryd.underlying54 rfl size54 (by (first | rfl | assumption | omega | (simp only [nums_length]; omega) | (simp [nums_length, zs]; done) | (simp [nums_length, zs]; omega))) ?_)
    | ((with_reducible refine gate_store (t := 54) (p := 2) rfl ?_); refine l_storeW rfl H 54 _ _ rfl _ rfl _ rfl (by (repeat (first | exact In.head | apply In.tail))) _ size54 (by (first | rfl | assumption | omega | (simp only [nums_length]; omega) | (simp [nums_length, zs]; done) | (simp [nums_length, zs]; omega))) (by (first | rfl | assumption | omega | (simp only [nums_length]; omega) | (simp [nums_length, zs]; done) | (simp [nums_length, zs]; omega))) (by (first | exact nums_one | assumption | (intro u hu; simp at hu; subst hu; rfl) | (intro u hu; simp at hu; rcases hu with rfl | rfl | rfl | rfl | rfl | rfl | rfl <;> rfl) | (intro u hu; simp at hu; rcases hu with rfl | rfl | rfl | rfl <;> rfl) | (intro u hu; simp at hu; rcases hu with rfl | rfl | rfl <;> rfl) | (intro u hu; simp at hu; rcases hu with rfl | rfl <;> rfl))) ?_; clear H; intro W H)
                  | (go_at_call 39; (with_reducible refine (FR _).mono ?_); rintro e W ⟨rfl, hb⟩; replace H := H.to hb; clear hb))
                  refine bodyPost_ret (results_ct (p := 2) (ty := 54) rfl _ _ g2 54 _ (0, 0) _ rfl (H.heap (.tail .head)) Tryd.underlying54 rfl size54) rfl ?_
                  exact ⟨rfl, H.below⟩
        · have q5 : (n37 == (sm : Int)) = false := by simp [c5]
          have q5' : (n37 != (sm : Int)) = true := by simp [c5]
          rw [if_pos c5] at d1
          have hv : decV s = hV0 := by unfold decV; rw [d1]; rfl
          rw [d1, hv]
          clear d1 hv c1 c2 c3 c4 f4 c5 hsm hn37
          go_enter Tryd.func34, Tryd.ntmps34
          go_wp2_with (first
    | ((with_reducible refine gate_dst (N := 1) rfl ?_); refine l_boxA rfl H 50 _ rfl _ rfl ?_; clear H; intro g1 W H)
    | ((with_reducible refine gate_dst (N := 2) rfl ?_); refine l_allocA rfl H 54 rfl _ zero54 ?_; clear H; intro g2 W H)
    | ((with_reducible refine gate_dst (N := 6) rfl ?_); refine l_loadA rfl H 50 _ rfl _ rfl (by (repeat (first | exact In.head | apply In.tail))) _ _ Tryd.underlying50 rfl size50 (by (first | rfl | assumption | omega | (simp only [nums_length]; omega) | (simp [nums_length, zs]; done) | (simp [nums_length, zs]; omega))) ?_)
    | ((with_reducible refine gate_dst (N := 15) rfl ?_); refine gate_guard (by rfl) ?_; refine l_load1 rfl H 5 _ rfl _ _ rfl (by (repeat (first | exact In.head | apply In.tail))) _ Tryd.underlying5 rfl _ (by first | rfl | assumption | exact nums_at _ (by omega)) ?_)
    | ((with_reducible refine gate_store (t := 54) (p := 2) rfl ?_); refine l_storeW rfl H 54 _ _ rfl _ rfl _ rfl (by (repeat (first | exact In.head | apply In.tail))) _ size54 (by (first | rfl | assumption | omega | (simp only [nums_length]; omega) | (simp [nums_length, zs]; done) | (simp [nums_length, zs]; omega))) (by (first | rfl | assumption | omega | (simp only [nums_length]; omega) | (simp [nums_length, zs]; done) | (simp [nums_length, zs]; omega))) (by (first | exact nums_one | assumption | (intro u hu; simp at hu; subst hu; rfl) | (intro u hu; simp at hu; rcases hu with rfl | rfl | rfl | rfl | rfl | rfl | rfl <;> rfl) | (intro u hu; simp at hu; rcases hu with rfl | rfl | rfl | rfl <;> rfl) | (intro u hu; simp at hu; rcases hu with rfl | rfl | rfl <;> rfl) | (intro u hu; simp at hu; rcases hu with rfl | rfl <;> rfl))) ?_; clear H; intro W H)
    | ((with_reducible refine gate_dst (N := 7) rfl ?_); refine l_run rfl (.agg (nums .u8 (zs 64)).toArray) (by kernel_rfl) ?_)
    | ((with_reducible refine gate_dst (N := 10) rfl ?_); refine l_run rfl (.slice (some ⟨g1, 0, none⟩) 4 64) (x_arr_hi _ _ rfl 0 rfl Tryd.underlying50 size5 4 rfl (by decide) (by decide) _) ?_)
    | ((with_reducible refine gate_dst (N := 11) rfl ?_); refine l_run rfl (.string (strOfNums x4)) (by rw [← hx4]; exact r_strC 23 9 5 _ rfl rfl (by have := H.C (.tail .head) 0 4 (by rw [hl]; decide) (by decide); rwa [List.drop_zero] at this) Tryd.underlying23 Tryd.underlying5 Tryd.underlying9) ?_)
    | ((with_reducible refine gate_dst (N := 19) rfl ?_); refine gate_guard (by rfl) ?_; refine l_run rfl (.slice (some ⟨g1, 41, none⟩) 23 23) (x_arr_lo' _ _ rfl 0 rfl Tryd.underlying50 size5 41 rfl (by decide) _ 41 23 rfl rfl) ?_)
    | ((with_reducible refine gate_dst (N := 21) rfl ?_); refine gate_guard (by rfl) ?_; refine l_run rfl (.agg (nums .u8 x23).toArray) (by rw [← hx23]; exact r_loadRd0 87 _ rfl rfl (by have := H.rdB (.tail .head) 41; rwa [nums_drop] at this) 23 _ Tryd.underlying87 rfl size87 (by decide) (by rw [nums_length]; exact l23)) ?_)
    | ((with_reducible refine gate_dst (N := 22) rfl ?_); refine gate_guard (by rfl) ?_; refine l_run rfl (.agg (nums .u8 (zs 23)).toArray) (by kernel_rfl) ?_))
          refine start_ (n := 6) (S := Own _ _ _) (ds := [3]) #[false, false, false, false, false, false] (by kernel_rfl) rfl rfl H.drew (fun hHeld => ?_)
          replace H := H.drew
          generalize World.drew _ = W at H hHeld ⊢
          refine take_loadA (i := 0) (N := some 26) (a' := ?_) #[true, false, false, false, false, false] rfl rfl (by kernel_rfl) (fun _ _ _ _ h => h) (by rfl) hHeld 50 _ rfl _ rfl (by (repeat (first | exact In.head | apply In.tail))) _ _ Tryd.underlying50 rfl size50 (by (first | rfl | assumption | omega | (simp only [nums_length]; omega) | (simp [nums_length, zs]; done) | (simp [nums_length, zs]; omega))) ?_ ?_
          rotate_left
          · simp only [Act.put, List.setIfInBounds_toArray, List.set_cons_zero, List.set_cons_succ, i64_w, i32_w]
            rfl
          refine take_loadA (i := 2) (N := some 28) (a' := ?_) #[true, false, true, false, false, false] rfl rfl (by kernel_rfl) (fun _ _ _ _ h => h) (by rfl) hHeld 50 _ rfl _ rfl (by (repeat (first | exact In.head | apply In.tail))) _ _ Tryd.underlying50 rfl size50 (by (first | rfl | assumption | omega | (simp only [nums_length]; omega) | (simp [nums_length, zs]; done) | (simp [nums_length, zs]; omega))) ?_ ?_
          rotate_left
          · simp only [Act.put, List.setIfInBounds_toArray, List.set_cons_zero, List.set_cons_succ, i64_w, i32_w]
            rfl
          refine one_ (i := 1) (N := some 27) #[true, true, true, false, false, false] rfl rfl (by kernel_rfl) (by decide) (fun K hK => ?_)
          refine callK_ (N37 W) Tryd.func62 (by kernel_rfl) rfl (by rfl) rfl rfl (by (try simp only [List.map_toArray, List.map_cons, List.map_nil]); first | done | rfl) ?_
          rintro e W ⟨rfl, hb⟩
          refine ⟨_, rfl, ?_⟩
          replace H := H.to hb
          clear hb
          refine hK.out _ _ ?_ (fun hHeld => ?_)
          · first | trivial | exact H | exact H.del .head | exact (H.del .head).del .head
          clear hK K
          refine norm_ (a' := ?_) ?_ ?_
          rotate_left
          · show Act.put _ (some 27) _ = _
            simp only [Act.put, List.setIfInBounds_toArray, List.set_cons_zero, List.set_cons_succ, i64_w, i32_w]
            rfl
          refine last_ (i := 3) (N := some 29) #[true, true, true, true, false, false] rfl rfl (by kernel_rfl) (by decide) (fun K hK => ?_)
          refine callK_ (SC W (hH.below H.below)) Tryd.func63 (by kernel_rfl) rfl (by rfl) rfl rfl (by (try simp only [List.map_toArray, List.map_cons, List.map_nil]); first | done | rfl) ?_
          rintro e W ⟨rfl, hb⟩
          refine ⟨_, rfl, ?_⟩
          replace H := H.to hb
          clear hb
          refine hK.out _ _ ?_
          clear hK K
          refine norm_ (a' := ?_) ?_ ?_
          rotate_left
          · show Act.put _ (some 29) _ = _
            simp only [Act.put, List.setIfInBounds_toArray, List.set_cons_zero, List.set_cons_succ, i64_w, i32_w]
            rfl
          refine pure_ (i := 4) (N := some 30) (v := ?_) (a' := ?_) #[true, true, true, true, true, false] rfl rfl (by kernel_rfl) (fun _ _ _ h => h) (Or.inl ⟨by rfl, ?_⟩) ?_ ?_
          rotate_left
          · intro w'
            go_simp
            with_reducible rfl
          rotate_left
          · simp only [Act.put, List.setIfInBounds_toArray, List.set_cons_zero, List.set_cons_succ, i64_w, i32_w]
            rfl
          refine pure_ (i := 5) (N := some 31) (v := ?_) (a' := ?_) #[true, true, true, true, true, true] rfl rfl (by kernel_rfl) (fun _ _ _ h => h) (Or.inl ⟨by rfl, ?_⟩) ?_ ?_
          rotate_left
          · intro w'
            go_simp
            with_reducible rfl
          rotate_left
          · simp only [Act.put, List.setIfInBounds_toArray, List.set_cons_zero, List.set_cons_succ, i64_w, i32_w]
            rfl
          refine done_ (by kernel_rfl) ?_
          clear hHeld
          go_wp2_with (first
    | ((with_reducible refine gate_store (t := 54) (p := 2) rfl ?_); refine l_storeW rfl H 54 _ _ rfl _ rfl _ rfl (by (repeat (first | exact In.head | apply In.tail))) _ size54 (by (first | rfl | assumption | omega | (simp only [nums_length]; omega) | (simp [nums_length, zs]; done) | (simp [nums_length, zs]; omega))) (by (first | rfl | assumption | omega | (simp only [nums_length]; omega) | (simp [nums_length, zs]; done) | (simp [nums_length, zs]; omega))) (by (first | exact nums_one | assumption | (intro u hu; simp at hu; subst hu; rfl) | (intro u hu; simp at hu; rcases hu with rfl | rfl | rfl | rfl | rfl | rfl | rfl <;> rfl) | (intro u hu; simp at hu; rcases hu with rfl | rfl | rfl | rfl <;> rfl) | (intro u hu; simp at hu; rcases hu with rfl | rfl | rfl <;> rfl) | (intro u hu; simp at hu; rcases hu with rfl | rfl <;> rfl))) ?_; clear H; intro W H))
          refine bodyPost_ret (results_ct (p := 2) (ty := 54) rfl _ _ g2 54 _ (0, 0) _ rfl (H.heap .head) Tryd.underlying54 rfl size54) rfl ?_
          exact ⟨rfl, H.below⟩
      · have c1' : formS s = false := by
          unfold formS
          rw [hx23, decide_eq_false c3, Bool.and_false]
        rw [if_pos c1'] at d1
        have hv : decV s = hV0 := by unfold decV; rw [d1]; rfl
        rw [d1, hv]
        clear d1 hv c1'
        rw [show (x23 == zs 23) = false by simp [c3]] at E1
        clear c1 c2 c3 f4
        go_enter Tryd.func34, Tryd.ntmps34
        go_wp2_with (first
    | ((with_reducible refine gate_dst (N := 1) rfl ?_); refine l_boxA rfl H 50 _ rfl _ rfl ?_; clear H; intro g1 W H)
    | ((with_reducible refine gate_dst (N := 2) rfl ?_); refine l_allocA rfl H 54 rfl _ zero54 ?_; clear H; intro g2 W H)
    | ((with_reducible refine gate_dst (N := 6) rfl ?_); refine l_loadA rfl H 50 _ rfl _ rfl (by (repeat (first | exact In.head | apply In.tail))) _ _ Tryd.underlying50 rfl size50 (by (first | rfl | assumption | omega | (simp only [nums_length]; omega) | (simp [nums_length, zs]; done) | (simp [nums_length, zs]; omega))) ?_)
    | ((with_reducible refine gate_dst (N := 15) rfl ?_); refine gate_guard (by rfl) ?_; refine l_load1 rfl H 5 _ rfl _ _ rfl (by (repeat (first | exact In.head | apply In.tail))) _ Tryd.underlying5 rfl _ (by first | rfl | assumption | exact nums_at _ (by omega)) ?_)
    | ((with_reducible refine gate_store (t := 54) (p := 2) rfl ?_); refine l_storeW rfl H 54 _ _ rfl _ rfl _ rfl (by (repeat (first | exact In.head | apply In.tail))) _ size54 (by (first | rfl | assumption | omega | (simp only [nums_length]; omega) | (simp [nums_length, zs]; done) | (simp [nums_length, zs]; omega))) (by (first | rfl | assumption | omega | (simp only [nums_length]; omega) | (simp [nums_length, zs]; done) | (simp [nums_length, zs]; omega))) (by (first | exact nums_one | assumption | (intro u hu; simp at hu; subst hu; rfl) | (intro u hu; simp at hu; rcases hu with rfl | rfl | rfl | rfl | rfl | rfl | rfl <;> rfl) | (intro u hu; simp at hu; rcases hu with rfl | rfl | rfl | rfl <;> rfl) | (intro u hu; simp at hu; rcases hu with rfl | rfl | rfl <;> rfl) | (intro u hu; simp at hu; rcases hu with rfl | rfl <;> rfl))) ?_; clear H; intro W H)
    | ((with_reducible refine gate_dst (N := 7) rfl ?_); refine l_run rfl (.agg (nums .u8 (zs 64)).toArray) (by kernel_rfl) ?_)
    | ((with_reducible refine gate_dst (N := 10) rfl ?_); refine l_run rfl (.slice (some ⟨g1, 0, none⟩) 4 64) (x_arr_hi _ _ rfl 0 rfl Tryd.underlying50 size5 4 rfl (by decide) (by decide) _) ?_)
    | ((with_reducible refine gate_dst (N := 11) rfl ?_); refine l_run rfl (.string (strOfNums x4)) (by rw [← hx4]; exact r_strC 23 9 5 _ rfl rfl (by have := H.C (.tail .head) 0 4 (by rw [hl]; decide) (by decide); rwa [List.drop_zero] at this) Tryd.underlying23 Tryd.underlying5 Tryd.underlying9) ?_)
    | ((with_reducible refine gate_dst (N := 19) rfl ?_); refine gate_guard (by rfl) ?_; refine l_run rfl (.slice (some ⟨g1, 41, none⟩) 23 23) (x_arr_lo' _ _ rfl 0 rfl Tryd.underlying50 size5 41 rfl (by decide) _ 41 23 rfl rfl) ?_)
    | ((with_reducible refine gate_dst (N := 21) rfl ?_); refine gate_guard (by rfl) ?_; refine l_run rfl (.agg (nums .u8 x23).toArray) (by rw [← hx23]; exact r_loadRd0 87 _ rfl rfl (by have := H.rdB (.tail .head) 41; rwa [nums_drop] at this) 23 _ Tryd.underlying87 rfl size87 (by decide) (by rw [nums_length]; exact l23)) ?_)
    | ((with_reducible refine gate_dst (N := 22) rfl ?_); refine gate_guard (by rfl) ?_; refine l_run rfl (.agg (nums .u8 (zs 23)).toArray) (by kernel_rfl) ?_))
        refine bodyPost_ret (results_ct (p := 2) (ty := 54) rfl _ _ g2 54 _ (0, 0) _ rfl (H.heap .head) Tryd.underlying54 rfl size54) rfl ?_
        exact ⟨rfl, H.below⟩
    · have c1' : formS s = false := by
        unfold formS
        rw [decide_eq_false (fun h => c2 (f4.1 h).2), Bool.false_and]
      rw [if_pos c1'] at d1
      have hv : decV s = hV0 := by unfold decV; rw [d1]; rfl
      rw [d1, hv]
      clear d1 hv c1'
      have q2 : (v4 == 1) = false := by simp [c2]
      have q2' : (v4 != 1) = true := by simp [c2]
      clear c1 c2 f4
      go_enter Tryd.func34, Tryd.ntmps34
      go_wp2_with (first
    | ((with_reducible refine gate_dst (N := 1) rfl ?_); refine l_boxA rfl H 50 _ rfl _ rfl ?_; clear H; intro g1 W H)
    | ((with_reducible refine gate_dst (N := 2) rfl ?_); refine l_allocA rfl H 54 rfl _ zero54 ?_; clear H; intro g2 W H)
    | ((with_reducible refine gate_dst (N := 6) rfl ?_); refine l_loadA rfl H 50 _ rfl _ rfl (by (repeat (first | exact In.head | apply In.tail))) _ _ Tryd.underlying50 rfl size50 (by (first | rfl | assumption | omega | (simp only [nums_length]; omega) | (simp [nums_length, zs]; done) | (simp [nums_length, zs]; omega))) ?_)
    | ((with_reducible refine gate_dst (N := 15) rfl ?_); refine gate_guard (by rfl) ?_; refine l_load1 rfl H 5 _ rfl _ _ rfl (by (repeat (first | exact In.head | apply In.tail))) _ Tryd.underlying5 rfl _ (by first | rfl | assumption | exact nums_at _ (by omega)) ?_)
    | ((with_reducible refine gate_store (t := 54) (p := 2) rfl ?_); refine l_storeW rfl H 54 _ _ rfl _ rfl _ rfl (by (repeat (first | exact In.head | apply In.tail))) _ size54 (by (first | rfl | assumption | omega | (simp only [nums_length]; omega) | (simp [nums_length, zs]; done) | (simp [nums_length, zs]; omega))) (by (first | rfl | assumption | omega | (simp only [nums_length]; omega) | (simp [nums_length, zs]; done) | (simp [nums_length, zs]; omega))) (by (first | exact nums_one | assumption | (intro u hu; simp at hu; subst hu; rfl) | (intro u hu; simp at hu; rcases hu with rfl | rfl | rfl | rfl | rfl | rfl | rfl <;> rfl) | (intro u hu; simp at hu; rcases hu with rfl | rfl | rfl | rfl <;> rfl) | (intro u hu; simp at hu; rcases hu with rfl | rfl | rfl <;> rfl) | (intro u hu; simp at hu; rcases hu with rfl | rfl <;> rfl))) ?_; clear H; intro W H)
    | ((with_reducible refine gate_dst (N := 7) rfl ?_); refine l_run rfl (.agg (nums .u8 (zs 64)).toArray) (by kernel_rfl) ?_)
    | ((with_reducible refine gate_dst (N := 10) rfl ?_); refine l_run rfl (.slice (some ⟨g1, 0, none⟩) 4 64) (x_arr_hi _ _ rfl 0 rfl Tryd.underlying50 size5 4 rfl (by decide) (by decide) _) ?_)
    | ((with_reducible refine gate_dst (N := 11) rfl ?_); refine l_run rfl (.string (strOfNums x4)) (by rw [← hx4]; exact r_strC 23 9 5 _ rfl rfl (by have := H.C (.tail .head) 0 4 (by rw [hl]; decide) (by decide); rwa [List.drop_zero] at this) Tryd.underlying23 Tryd.underlying5 Tryd.underlying9) ?_))
      refine bodyPost_ret (results_ct (p := 2) (ty := 54) rfl _ _ g2 54 _ (0, 0) _ rfl (H.heap .head) Tryd.underlying54 rfl size54) rfl ?_
      exact ⟨rfl, H.below⟩
  · have c1' : formS s = false := by
      unfold formS
      rw [decide_eq_false (fun h => c1 (f4.1 h).1), Bool.false_and]
    rw [if_pos c1'] at d1
    have hv : decV s = hV0 := by unfold decV; rw [d1]; rfl
    rw [d1, hv]
    clear d1 hv c1'
    rw [decide_eq_false c1] at S1
    clear c1 f4
    go_enter Tryd.func34, Tryd.ntmps34
    go_wp2_with (first
    | ((with_reducible refine gate_dst (N := 1) rfl ?_); refine l_boxA rfl H 50 _ rfl _ rfl ?_; clear H; intro g1 W H)
    | ((with_reducible refine gate_dst (N := 2) rfl ?_); refine l_allocA rfl H 54 rfl _ zero54 ?_; clear H; intro g2 W H)
    | ((with_reducible refine gate_dst (N := 6) rfl ?_); refine l_loadA rfl H 50 _ rfl _ rfl (by (repeat (first | exact In.head | apply In.tail))) _ _ Tryd.underlying50 rfl size50 (by (first | rfl | assumption | omega | (simp only [nums_length]; omega) | (simp [nums_length, zs]; done) | (simp [nums_length, zs]; omega))) ?_)
    | ((with_reducible refine gate_dst (N := 15) rfl ?_); refine gate_guard (by rfl) ?_; refine l_load1 rfl H 5 _ rfl _ _ rfl (by (repeat (first | exact In.head | apply In.tail))) _ Tryd.underlying5 rfl _ (by first | rfl | assumption | exact nums_at _ (by omega)) ?_)
    | ((with_reducible refine gate_store (t := 54) (p := 2) rfl ?_); refine l_storeW rfl H 54 _ _ rfl _ rfl _ rfl (by (repeat (first | exact In.head | apply In.tail))) _ size54 (by (first | rfl | assumption | omega | (simp only [nums_length]; omega) | (simp [nums_length, zs]; done) | (simp [nums_length, zs]; omega))) (by (first | rfl | assumption | omega | (simp only [nums_length]; omega) | (simp [nums_length, zs]; done) | (simp [nums_length, zs]; omega))) (by (first | exact nums_one | assumption | (intro u hu; simp at hu; subst hu; rfl) | (intro u hu; simp at hu; rcases hu with rfl | rfl | rfl | rfl | rfl | rfl | rfl <;> rfl) | (intro u hu; simp at hu; rcases hu with rfl | rfl | rfl | rfl <;> rfl) | (intro u hu; simp at hu; rcases hu with rfl | rfl | rfl <;> rfl) | (intro u hu; simp at hu; rcases hu with rfl | rfl <;> rfl))) ?_; clear H; intro W H)
    | ((with_reducible refine gate_dst (N := 7) rfl ?_); refine l_run rfl (.agg (nums .u8 (zs 64)).toArray) (by kernel_rfl) ?_)
    | ((with_reducible refine gate_dst (N := 10) rfl ?_); refine l_run rfl (.slice (some ⟨g1, 0, none⟩) 4 64) (x_arr_hi _ _ rfl 0 rfl Tryd.underlying50 size5 4 rfl (by decide) (by decide) _) ?_)
    | ((with_reducible refine gate_dst (N := 11) rfl ?_); refine l_run rfl (.string (strOfNums x4)) (by rw [← hx4]; exact r_strC 23 9 5 _ rfl rfl (by have := H.C (.tail .head) 0 4 (by rw [hl]; decide) (by decide); rwa [List.drop_zero] at this) Tryd.underlying23 Tryd.underlying5 Tryd.underlying9) ?_))
    refine bodyPost_ret (results_ct (p := 2) (ty := 54) rfl _ _ g2 54 _ (0, 0) _ rfl (H.heap .head) Tryd.underlying54 rfl size54) rfl ?_
    exact ⟨rfl, H.below⟩
end Go.Proofs.YthhbilkmdfdfiaaDoor.O
