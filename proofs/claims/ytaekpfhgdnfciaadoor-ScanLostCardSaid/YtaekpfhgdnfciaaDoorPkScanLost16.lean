/- Texts of mine put together: AppR, RApply, After, ScanLost, OpenSync, OpenCrash. -/
import Derived.Test.YtaekpfhgdnfciaaDoorPkScanLost15
import Derived.Test.YtaekpfhgdnfciaaDoorPkScanLost3
section
/- What any crash leaves of any sectors: plain. -/
set_option linter.unusedVariables false
set_option linter.unusedSimpArgs false
namespace Go.Proofs.YtaekpfhgdnfciaaDoor.O
open Go.RowKit Go.Proofs.YtaekpfhgdnfciaaDoor.F Go.Proofs.YtaekpfhgdnfciaaDoor.F.Nums Go.Proofs.YtaekpfhgdnfciaaDoorW.PrintWords Go.Proofs.YtaekpfhgdnfciaaDoorW.PrintLast Go.Proofs.YtaekpfhgdnfciaaDoorW.PrintMore Go.Proofs.YtaekpfhgdnfciaaDoor.Plain
def nearN (c : Int) : Nat := (mx 0 (mn c 64)).toNat
theorem nearN_le (c : Int) : nearN c ≤ 64 := by unfold nearN mx mn; split <;> split <;> omega
theorem nearN_max (c : Int) : (nearN c : Int) = max 0 (min c 64) := by unfold nearN mx mn; split <;> split <;> omega
def mixL (xs ys : List Int) (c : Int) : List Int := ys.take (nearN c) ++ xs.drop (nearN c)
theorem mixL_len {xs ys : List Int} (hx : xs.length = 64) (hy : ys.length = 64) (c : Int) : (mixL xs ys c).length = 64 := by
  have := nearN_le c
  unfold mixL
  rw [List.length_append, List.length_take, List.length_drop]
  omega
theorem mixL_0 (xs ys : List Int) : mixL xs ys 0 = xs := by
  unfold mixL
  rw [show nearN 0 = 0 from rfl]
  simp
theorem mixL_64 {xs ys : List Int} (hx : xs.length = 64) (hy : ys.length = 64) : mixL xs ys 64 = ys := by
  unfold mixL
  rw [show nearN 64 = 64 from rfl, List.take_of_length_le (by omega), List.drop_of_length_le (by omega), List.append_nil]
section
variable (fo fn keep : List Int) (torn cut : Int)
def cutAt (k : Nat) : Int := if (k : Int) = torn then cut else if KB.bitb keep k = true then 64 else 0
def outAt (k : Nat) : List Int := mixL (secAt fo k) (secAt fn k) (cutAt keep torn cut k)
def appF : Nat → List Int
  | 0 => []
  | k + 1 => appF k ++ outAt fo fn keep torn cut k
variable {fo fn} {no nn : Nat}
theorem outAt_len (ho : fo.length = 64 * no) (hn : fn.length = 64 * nn) {k : Nat} (h1 : k < no) (h2 : k < nn) : (outAt fo fn keep torn cut k).length = 64 := mixL_len (secAt_len ho h1) (secAt_len hn h2) _
theorem appF_len (ho : fo.length = 64 * no) (hn : fn.length = 64 * nn) (k : Nat) (h1 : k ≤ no) (h2 : k ≤ nn) : (appF fo fn keep torn cut k).length = 64 * k := by
  induction k with
  | zero => rfl
  | succ k ih => rw [appF, List.length_append, ih (by omega) (by omega), outAt_len keep torn cut ho hn (by omega) (by omega)]; omega
end
end Go.Proofs.YtaekpfhgdnfciaaDoor.O
end

section
/- The reference's Apply. -/
set_option linter.unusedVariables false
set_option linter.unusedSimpArgs false
namespace Go.Proofs.YtaekpfhgdnfciaaDoor.O
open Go.RowKit Go.Proofs.YtaekpfhgdnfciaaDoor.F Go.Proofs.YtaekpfhgdnfciaaDoor.F.Nums Go.Proofs.YtaekpfhgdnfciaaDoorW.PrintWords Go.Proofs.YtaekpfhgdnfciaaDoorW.PrintLast Go.Proofs.YtaekpfhgdnfciaaDoorW.PrintMore Go.Proofs.YtaekpfhgdnfciaaDoor.Plain
section
variable {fo fn : List Int} (keep : List Int) (torn cut : Int) {no nn : Nat}
set_option maxRecDepth 100000 in
set_option maxHeartbeats 4000000 in
theorem rapply_calls (n : Nat) (ho : fo.length = 64 * no) (hn : fn.length = 64 * nn) (h1 : n ≤ no) (h2 : n ≤ nn) (hmin : n = no ∨ n = nn) (h100 : n ≤ 100) (hl : ∀ x ∈ keep, (Lit.int .u8 x).wf = true) (A B Ak : Option Addr) (c d ck : Nat) (w : World)
    (hA : Rd w A (nums .u8 fo)) (hB : Rd w B (nums .u8 fn)) (hc : no ≤ c) (hd : nn ≤ d) (hk : (Kd.int .u8).C w Ak keep.length keep) (hck : keep.length ≤ ck) :
    Calls Tryd.prog 37 #[.slice A no c, .slice B nn d, .agg #[.slice Ak keep.length ck, .int .i64 torn, .int .i64 cut]] w fun e W => ∃ v, e = .returned v ∧ Own w F0 [.row v 51 64 n (nums .u8 (appF fo fn keep torn cut n))] W := by
  have H := Own.start w
  have FB := fun (k : Nat) (hk2 : k < 200) (W : World) (hb : Below w.heap.size w W) => strandlineref01_Bit.calls 100 Ak ck keep (k : Int) _ W (Kd.C_below hk hb) hck (KB.rbit_eq hl (k : Int) (by omega) 100 (by decide))
  have hend : ∀ k : Nat, k = n → (k < no ∧ k = nn) ∨ k = no := fun k e => by omega
  generalize keep.length = lk at *
  clear hmin
  go_enter Tryd.func37, Tryd.ntmps37
  go_wp2_with (first
    | ((with_reducible refine gate_dst (N := 5) rfl ?_); refine l_boxA rfl H 46 _ rfl _ rfl ?_; clear H; intro g5 W H))
  go_loopg [7, 8] n (fun gq v7 v8 w' => ∃ k : Nat, v8 = .int .i64 (k : Int) ∧ k + gq = n ∧ Own w F0 [.row v7 51 64 k (nums .u8 (appF fo fn keep torn cut k)), .blk g5 46 [.slice Ak lk ck, .int .i64 torn, .int .i64 cut]] w')
  case atStart => exact ⟨0, rfl, by omega, H.cons (r := .row (.slice none 0 0) 51 64 0 []) (Below.refl _ _) (own_nil _ _ _ _) (fun k hk => by cases hk)⟩
  case round =>
    clear H
    obtain ⟨k, rfl, hkn, H⟩ := hrel
    by_cases ck : k < n
    · obtain ⟨gk', rfl⟩ : ∃ q, gk = q + 1 := ⟨gk - 1, by omega⟩
      have q1 : decide (k < no) = true := decide_eq_true (by omega)
      have q3 : decide (k < nn) = true := decide_eq_true (by omega)
      obtain ⟨ad, rfl⟩ := hA.some_ (by rw [nums_length]; omega)
      obtain ⟨bd, rfl⟩ := hB.some_ (by rw [nums_length]; omega)
      have p0 : ((0 : Int) ≤ (k : Int)) = True := eq_true (by omega)
      have p1 : ((k : Int) < (no : Int)) = True := eq_true (by omega)
      have p2 : ((k : Int) < (nn : Int)) = True := eq_true (by omega)
      have nA : ((nums .u8 fo).drop (k * 64)).take 64 = nums .u8 (secAt fo k) := by rw [nums_drop, nums_take, Nat.mul_comm]; rfl
      have nB : ((nums .u8 fn).drop (k * 64)).take 64 = nums .u8 (secAt fn k) := by rw [nums_drop, nums_take, Nat.mul_comm]; rfl
      have lA := secAt_len ho (show k < no by omega)
      have lB := secAt_len hn (show k < nn by omega)
      have hF : appF fo fn keep torn cut (k + 1) = appF fo fn keep torn cut k ++ mixL (secAt fo k) (secAt fn k) (cutAt keep torn cut k) := rfl
      have hcut : cutAt keep torn cut k = if (k : Int) = torn then cut else if KB.bitb keep k = true then 64 else 0 := rfl
      have FB := FB k (by omega)
      generalize appF fo fn keep torn cut k = af at H hF
      generalize secAt fo k = sa at nA lA hF
      generalize secAt fn k = sb at nB lB hF
      generalize cutAt keep torn cut k = cc at hcut hF
      generalize KB.bitb keep (k : Int) = b at hcut FB
      clear hl hk
      by_cases he : (k : Int) = torn
      · have q2 : ((k : Int) == torn) = true := by simp [he]
        rw [if_pos he] at hcut
        subst hcut
        clear he
        have M := fun W => rmix_calls sa sb lA lB cc _ (nearN_max cc) W
        have lm := mixL_len lA lB cc
        change ∀ W, Calls _ _ _ W (fun e w' => e = .returned (.agg (nums .u8 (mixL sa sb cc)).toArray) ∧ Below W.heap.size W w') at M
        generalize mixL sa sb cc = mm at hF M lm
        go_wp2_with (first
    | ((with_reducible refine gate_dst (N := 23) rfl ?_); refine l_load1 rfl H 3 _ rfl _ _ rfl (by (repeat (first | exact In.head | apply In.tail))) _ Tryd.underlying3 rfl _ (by first | rfl | assumption | exact nums_at _ (by omega)) ?_))
        refine start_ (n := 15) (S := Own _ _ _) (ds := [13]) #[false, false, false, false, false, false, false, false, false, false, false, false, false, false, false] (by kernel_rfl) rfl rfl H.drew (fun hHeld => ?_)
        replace H := H.drew
        generalize World.drew _ = W at H hHeld ⊢
        refine pure_ (i := 0) (N := some 25) (v := ?_) (a' := ?_) #[true, false, false, false, false, false, false, false, false, false, false, false, false, false, false] rfl rfl (by kernel_rfl) (fun _ _ _ h => h) (Or.inl ⟨by rfl, ?_⟩) ?_ ?_
        rotate_left
        · intro w'
          go_simp
          with_reducible rfl
        rotate_left
        · simp only [Act.put, List.setIfInBounds_toArray, List.set_cons_zero, List.set_cons_succ, i64_w, i32_w]
          rfl
        refine pure_ (i := 1) (N := some 26) (v := ?_) (a' := ?_) #[true, true, false, false, false, false, false, false, false, false, false, false, false, false, false] rfl rfl (by kernel_rfl) (fun _ _ _ h => h) (Or.inl ⟨by rfl, ?_⟩) ?_ ?_
        rotate_left
        · intro w'
          go_simp
          with_reducible rfl
        rotate_left
        · simp only [Act.put, List.setIfInBounds_toArray, List.set_cons_zero, List.set_cons_succ, i64_w, i32_w]
          rfl
        refine pure_ (i := 2) (N := some 27) (v := ?_) (a' := ?_) #[true, true, true, false, false, false, false, false, false, false, false, false, false, false, false] rfl rfl (by kernel_rfl) (fun _ _ _ h => h) (Or.inl ⟨by rfl, ?_⟩) ?_ ?_
        rotate_left
        · intro w'
          go_simp
          with_reducible rfl
        rotate_left
        · simp only [Act.put, List.setIfInBounds_toArray, List.set_cons_zero, List.set_cons_succ, i64_w, i32_w]
          rfl
        refine pure_ (i := 3) (N := some 28) (v := ?_) (a' := ?_) #[true, true, true, true, false, false, false, false, false, false, false, false, false, false, false] rfl rfl (by kernel_rfl) (fun _ _ _ h => h) (Or.inl ⟨by rfl, ?_⟩) ?_ ?_
        rotate_left
        · intro w'
          go_simp
          with_reducible rfl
        rotate_left
        · simp only [Act.put, List.setIfInBounds_toArray, List.set_cons_zero, List.set_cons_succ, i64_w, i32_w]
          rfl
        refine pure_ (i := 5) (N := some 30) (v := ?_) (a' := ?_) #[true, true, true, true, false, true, false, false, false, false, false, false, false, false, false] rfl rfl (by kernel_rfl) (fun _ _ _ h => h) (Or.inl ⟨by rfl, ?_⟩) ?_ ?_
        rotate_left
        · intro w'
          go_simp
          with_reducible rfl
        rotate_left
        · simp only [Act.put, List.setIfInBounds_toArray, List.set_cons_zero, List.set_cons_succ, i64_w, i32_w]
          rfl
        refine pure_ (i := 6) (N := some 31) (v := ?_) (a' := ?_) #[true, true, true, true, false, true, true, false, false, false, false, false, false, false, false] rfl rfl (by kernel_rfl) (fun _ _ _ h => h) (Or.inl ⟨by rfl, ?_⟩) ?_ ?_
        rotate_left
        · intro w'
          go_simp
          with_reducible rfl
        rotate_left
        · simp only [Act.put, List.setIfInBounds_toArray, List.set_cons_zero, List.set_cons_succ, i64_w, i32_w]
          rfl
        refine pure_ (i := 7) (N := some 32) (v := ?_) (a' := ?_) #[true, true, true, true, false, true, true, true, false, false, false, false, false, false, false] rfl rfl (by kernel_rfl) (fun _ _ _ h => h) (Or.inl ⟨by rfl, ?_⟩) ?_ ?_
        rotate_left
        · intro w'
          go_simp
          with_reducible rfl
        rotate_left
        · simp only [Act.put, List.setIfInBounds_toArray, List.set_cons_zero, List.set_cons_succ, i64_w, i32_w]
          rfl
        refine pure_ (i := 9) (N := some 34) (v := ?_) (a' := ?_) #[true, true, true, true, false, true, true, true, false, true, false, false, false, false, false] rfl rfl (by kernel_rfl) (fun _ _ _ h => h) (Or.inl ⟨by rfl, ?_⟩) ?_ ?_
        rotate_left
        · intro w'
          go_simp
          with_reducible rfl
        rotate_left
        · simp only [Act.put, List.setIfInBounds_toArray, List.set_cons_zero, List.set_cons_succ, i64_w, i32_w]
          rfl
        refine take_run (i := 4) (N := some 29) (a' := ?_) #[true, true, true, true, true, true, true, true, false, true, false, false, false, false, false] rfl rfl (by kernel_rfl) (fun _ _ _ _ h => h) (by rfl) hHeld (.agg (nums .u8 sa).toArray) (fun X HX => r_loadRdS 51 _ rfl (k * 64) rfl (hA.below HX.below) 64 _ Tryd.underlying51 rfl size51 (by decide) _ nA (by rw [nums_length]; exact lA)) ?_ ?_
        rotate_left
        · simp only [Act.put, List.setIfInBounds_toArray, List.set_cons_zero, List.set_cons_succ, i64_w, i32_w]
          rfl
        refine take_run (i := 8) (N := some 33) (a' := ?_) #[true, true, true, true, true, true, true, true, true, true, false, false, false, false, false] rfl rfl (by kernel_rfl) (fun _ _ _ _ h => h) (by rfl) hHeld (.agg (nums .u8 sb).toArray) (fun X HX => r_loadRdS 51 _ rfl (k * 64) rfl (hB.below HX.below) 64 _ Tryd.underlying51 rfl size51 (by decide) _ nB (by rw [nums_length]; exact lB)) ?_ ?_
        rotate_left
        · simp only [Act.put, List.setIfInBounds_toArray, List.set_cons_zero, List.set_cons_succ, i64_w, i32_w]
          rfl
        refine one_ (i := 10) (N := some 35) #[true, true, true, true, true, true, true, true, true, true, true, false, false, false, false] rfl rfl (by kernel_rfl) (by decide) (fun K hK => ?_)
        refine wanted_ rfl ?_
        refine w_load1 H 3 _ rfl _ _ rfl (by (repeat (first | exact In.head | apply In.tail))) _ Tryd.underlying3 rfl _ (by first | rfl | assumption | exact nums_at _ (by omega)) ?_
        refine hK.out _ _ ?_ (fun hHeld => ?_)
        · first | trivial | exact H | exact H.del .head | exact (H.del .head).del .head | exact H.heap (by (repeat (first | exact In.head | apply In.tail)))
        clear hK K
        refine norm_ (a' := ?_) ?_ ?_
        rotate_left
        · show Act.put _ (some 35) _ = _
          simp only [Act.put, List.setIfInBounds_toArray, List.set_cons_zero, List.set_cons_succ, i64_w, i32_w]
          rfl
        refine one_ (i := 11) (N := some 36) #[true, true, true, true, true, true, true, true, true, true, true, true, false, false, false] rfl rfl (by kernel_rfl) (by decide) (fun K hK => ?_)
        refine callK_ (M W) Tryd.func62 (by kernel_rfl) rfl (by rfl) rfl rfl (by (try simp only [List.map_toArray, List.map_cons, List.map_nil]); first | done | rfl) ?_
        rintro e W ⟨rfl, hb⟩
        refine ⟨_, rfl, ?_⟩
        replace H := H.to hb
        clear hb
        refine hK.out _ _ ?_ (fun hHeld => ?_)
        · first | trivial | exact H | exact H.del .head | exact (H.del .head).del .head | exact H.heap (by (repeat (first | exact In.head | apply In.tail)))
        clear hK K
        refine norm_ (a' := ?_) ?_ ?_
        rotate_left
        · show Act.put _ (some 36) _ = _
          simp only [Act.put, List.setIfInBounds_toArray, List.set_cons_zero, List.set_cons_succ, i64_w, i32_w]
          rfl
        refine one_ (i := 12) (N := some 37) #[true, true, true, true, true, true, true, true, true, true, true, true, true, false, false] rfl rfl (by kernel_rfl) (by decide) (fun K hK => ?_)
        refine wanted_ rfl ?_
        refine w_build1A H 23 51 _ rfl Tryd.underlying23 _ rfl _ _ zs51 rfl (by (first | rfl | assumption | omega | (simp only [nums_length]; omega) | (simp [nums_length, zs]; done) | (simp [nums_length, zs]; omega))) (by decide) (by decide) ?_
        clear H
        intro g37 W H
        refine hK.out _ _ ?_ (fun hHeld => ?_)
        · first | trivial | exact H | exact H.del .head | exact (H.del .head).del .head | exact H.heap (by (repeat (first | exact In.head | apply In.tail)))
        clear hK K
        refine norm_ (a' := ?_) ?_ ?_
        rotate_left
        · show Act.put _ (some 37) _ = _
          simp only [Act.put, List.setIfInBounds_toArray, List.set_cons_zero, List.set_cons_succ, i64_w, i32_w]
          rfl
        refine last_ (i := 13) (N := some 38) #[true, true, true, true, true, true, true, true, true, true, true, true, true, true, false] rfl rfl (by kernel_rfl) (by decide) (fun K hK => ?_)
        refine wanted_ rfl ?_
        refine w_append1 H _ _ 23 51 rfl Tryd.underlying23 _ _ _ inf51 rfl (by decide) (by decide) _ _ _ rfl (by (repeat (first | exact In.head | apply In.tail))) _ _ rfl (by (repeat (first | exact In.head | apply In.tail))) (by (first | rfl | assumption | omega | (simp only [nums_length]; omega) | (simp [nums_length, zs]; done) | (simp [nums_length, zs]; omega))) (by (first | exact nums_one | assumption | (intro u hu; simp at hu; subst hu; rfl) | (intro u hu; simp at hu; rcases hu with rfl | rfl | rfl | rfl | rfl | rfl | rfl <;> rfl) | (intro u hu; simp at hu; rcases hu with rfl | rfl | rfl | rfl <;> rfl) | (intro u hu; simp at hu; rcases hu with rfl | rfl | rfl <;> rfl) | (intro u hu; simp at hu; rcases hu with rfl | rfl <;> rfl))) (by omega) ?_
        clear H
        intro v38 W H
        refine hK.out _ _ ?_
        clear hK K
        refine norm_ (a' := ?_) ?_ ?_
        rotate_left
        · show Act.put _ (some 38) _ = _
          simp only [Act.put, List.setIfInBounds_toArray, List.set_cons_zero, List.set_cons_succ, i64_w, i32_w]
          rfl
        refine pure_ (i := 14) (N := some 7) (v := ?_) (a' := ?_) #[true, true, true, true, true, true, true, true, true, true, true, true, true, true, true] rfl rfl (by kernel_rfl) (fun _ _ _ h => h) (Or.inl ⟨by rfl, ?_⟩) ?_ ?_
        rotate_left
        · intro w'
          go_simp
          with_reducible rfl
        rotate_left
        · simp only [Act.put, List.setIfInBounds_toArray, List.set_cons_zero, List.set_cons_succ, i64_w, i32_w]
          rfl
        refine done_ (by kernel_rfl) ?_
        clear hHeld
        go_wp2
        go_roundg gk'
        case measure => omega
        case rel => exact ⟨k + 1, by go_num, by omega, by rw [hF, ← nums_app]; exact H.del .head⟩
      · have q2 : ((k : Int) == torn) = false := by simp [he]
        rw [if_neg he] at hcut
        clear he
        rcases b with _ | _
        · rw [if_neg (by decide)] at hcut
          subst hcut
          rw [mixL_0] at hF
          go_wp2_with (first
    | ((with_reducible refine gate_dst (N := 23) rfl ?_); refine l_load1 rfl H 3 _ rfl _ _ rfl (by (repeat (first | exact In.head | apply In.tail))) _ Tryd.underlying3 rfl _ (by first | rfl | assumption | exact nums_at _ (by omega)) ?_)
    | ((with_reducible refine gate_dst (N := 40) rfl ?_); refine l_load1 rfl H 38 _ rfl _ _ rfl (by (repeat (first | exact In.head | apply In.tail))) _ Tryd.underlying38 rfl _ (by first | rfl | assumption | exact nums_at _ (by omega)) ?_)
    | ((with_reducible refine gate_dst (N := 55) rfl ?_); refine l_build1A rfl H 23 51 _ rfl Tryd.underlying23 _ rfl _ _ zs51 rfl (by (first | rfl | assumption | omega | (simp only [nums_length]; omega) | (simp [nums_length, zs]; done) | (simp [nums_length, zs]; omega))) (by decide) (by decide) ?_; clear H; intro g55 W H)
    | ((with_reducible refine gate_dst (N := 56) rfl ?_); refine l_append1 rfl H _ _ 23 51 rfl Tryd.underlying23 _ _ _ inf51 rfl (by decide) (by decide) _ _ _ rfl (by (repeat (first | exact In.head | apply In.tail))) _ _ rfl (by (repeat (first | exact In.head | apply In.tail))) (by (first | rfl | assumption | omega | (simp only [nums_length]; omega) | (simp [nums_length, zs]; done) | (simp [nums_length, zs]; omega))) (by (first | exact nums_one | assumption | (intro u hu; simp at hu; subst hu; rfl) | (intro u hu; simp at hu; rcases hu with rfl | rfl | rfl | rfl | rfl | rfl | rfl <;> rfl) | (intro u hu; simp at hu; rcases hu with rfl | rfl | rfl | rfl <;> rfl) | (intro u hu; simp at hu; rcases hu with rfl | rfl | rfl <;> rfl) | (intro u hu; simp at hu; rcases hu with rfl | rfl <;> rfl))) (by omega) ?_; clear H; intro v56 W H)
    | ((with_reducible refine gate_dst (N := 54) rfl ?_); refine l_loadRdS rfl 51 _ rfl (k * 64) rfl (hA.below H.below) 64 _ Tryd.underlying51 rfl size51 (by decide) _ nA (by rw [nums_length]; exact lA) ?_)
    | (go_at_call 63; (with_reducible refine (FB _ H.below).mono ?_); rintro e W ⟨rfl, hb⟩; replace H := H.to hb.below; clear hb))
          go_roundg gk'
          case measure => omega
          case rel => exact ⟨k + 1, by go_num, by omega, by rw [hF, ← nums_app]; exact H.del .head⟩
        · rw [if_pos rfl] at hcut
          subst hcut
          rw [mixL_64 lA lB] at hF
          go_wp2_with (first
    | ((with_reducible refine gate_dst (N := 23) rfl ?_); refine l_load1 rfl H 3 _ rfl _ _ rfl (by (repeat (first | exact In.head | apply In.tail))) _ Tryd.underlying3 rfl _ (by first | rfl | assumption | exact nums_at _ (by omega)) ?_)
    | ((with_reducible refine gate_dst (N := 40) rfl ?_); refine l_load1 rfl H 38 _ rfl _ _ rfl (by (repeat (first | exact In.head | apply In.tail))) _ Tryd.underlying38 rfl _ (by first | rfl | assumption | exact nums_at _ (by omega)) ?_)
    | ((with_reducible refine gate_dst (N := 48) rfl ?_); refine l_build1A rfl H 23 51 _ rfl Tryd.underlying23 _ rfl _ _ zs51 rfl (by (first | rfl | assumption | omega | (simp only [nums_length]; omega) | (simp [nums_length, zs]; done) | (simp [nums_length, zs]; omega))) (by decide) (by decide) ?_; clear H; intro g48 W H)
    | ((with_reducible refine gate_dst (N := 49) rfl ?_); refine l_append1 rfl H _ _ 23 51 rfl Tryd.underlying23 _ _ _ inf51 rfl (by decide) (by decide) _ _ _ rfl (by (repeat (first | exact In.head | apply In.tail))) _ _ rfl (by (repeat (first | exact In.head | apply In.tail))) (by (first | rfl | assumption | omega | (simp only [nums_length]; omega) | (simp [nums_length, zs]; done) | (simp [nums_length, zs]; omega))) (by (first | exact nums_one | assumption | (intro u hu; simp at hu; subst hu; rfl) | (intro u hu; simp at hu; rcases hu with rfl | rfl | rfl | rfl | rfl | rfl | rfl <;> rfl) | (intro u hu; simp at hu; rcases hu with rfl | rfl | rfl | rfl <;> rfl) | (intro u hu; simp at hu; rcases hu with rfl | rfl | rfl <;> rfl) | (intro u hu; simp at hu; rcases hu with rfl | rfl <;> rfl))) (by omega) ?_; clear H; intro v49 W H)
    | ((with_reducible refine gate_dst (N := 47) rfl ?_); refine l_loadRdS rfl 51 _ rfl (k * 64) rfl (hB.below H.below) 64 _ Tryd.underlying51 rfl size51 (by decide) _ nB (by rw [nums_length]; exact lB) ?_)
    | (go_at_call 63; (with_reducible refine (FB _ H.below).mono ?_); rintro e W ⟨rfl, hb⟩; replace H := H.to hb.below; clear hb))
          go_roundg gk'
          case measure => omega
          case rel => exact ⟨k + 1, by go_num, by omega, by rw [hF, ← nums_app]; exact H.del .head⟩
    · have e : k = n := by omega
      rcases hend k e with ⟨e1, e2⟩ | e2
      · have q1 : decide (k < no) = true := decide_eq_true e1
        have q3 : decide (k < nn) = false := decide_eq_false (by omega)
        subst e
        go_wp2
        go_ret
        exact ⟨_, rfl, H.del (.tail .head)⟩
      · have q1 : decide (k < no) = false := decide_eq_false (by omega)
        subst e
        go_wp2
        go_ret
        exact ⟨_, rfl, H.del (.tail .head)⟩
end
end Go.Proofs.YtaekpfhgdnfciaaDoor.O
end

section
/- (Synced).After: what a crash leaves of records of which some were synced. -/
set_option linter.unusedVariables false
set_option linter.unusedSimpArgs false
namespace Go.Proofs.YtaekpfhgdnfciaaDoor.O
open Go.RowKit Go.Proofs.YtaekpfhgdnfciaaDoorW.PrintWords Go.Proofs.YtaekpfhgdnfciaaDoorW.PrintLast Go.Proofs.YtaekpfhgdnfciaaDoorW.PrintMore Go.Proofs.YtaekpfhgdnfciaaDoor.F Go.Proofs.YtaekpfhgdnfciaaDoor.F.Nums Go.Proofs.YtaekpfhgdnfciaaDoor.Plain
theorem getD_take_lt {l : List (List Int)} {s k : Nat} (h : k < s) : (l.take s).getD k [] = l.getD k [] := by
  rw [List.getD_eq_getElem?_getD, List.getD_eq_getElem?_getD, List.getElem?_take_of_lt h]
theorem laySt_take (e64 : Int) (l : List (List Int)) (s : Nat) : ∀ k, k ≤ s → Img.laySt e64 (l.take s) k = Img.laySt e64 l k := by
  intro k
  induction k with
  | zero => intro _; rfl
  | succ k ih =>
    intro h
    simp only [Img.laySt, ih (by omega), getD_take_lt (show k < s by omega)]
theorem layAll_take (e64 : Int) (l : List (List Int)) (s : Nat) (hs : s ≤ l.length) (h : Img.layAll e64 l = true) : Img.layAll e64 (l.take s) = true := by
  rw [Img.layAll_iff] at h ⊢
  intro k hk
  rw [List.length_take] at hk
  have := h k (by omega)
  unfold Img.layOk at this ⊢
  rw [laySt_take e64 l s k (by omega), getD_take_lt (show k < s by omega)]
  exact this
theorem C_rows_take {w : World} {A : Option Addr} {n s : Nat} {l : List (List Int)} (h : Kd.C (Kd.slice 5 (Kd.int .u8)) w A n l) (hs : s ≤ n) : Kd.C (Kd.slice 5 (Kd.int .u8)) w A s (l.take s) := by
  obtain ⟨h1, h2, h3⟩ := h
  refine ⟨by rw [List.length_take]; omega, by omega, fun hp => ?_⟩
  obtain ⟨ad, e, h4⟩ := h3 (by omega)
  refine ⟨ad, e, fun j p hj => h4 j p ?_⟩
  have hlt := (List.getElem?_eq_some_iff.1 hj).1
  rw [List.length_take] at hlt
  rwa [List.getElem?_take_of_lt (by omega)] at hj
/-- what a crash that tears no sector leaves of a sector -/
theorem secAt_crash {fo fn keep : List Int} {torn cut : Int} {n : Nat} (ho : fo.length = 64 * n) (hn : fn.length = 64 * n) (ht : torn < 0) : ∀ m, m ≤ n → ∀ k, k < m → secAt (appF fo fn keep torn cut m) k = secAt fo k ∨ secAt (appF fo fn keep torn cut m) k = secAt fn k := by
  intro m
  induction m with
  | zero => intro _ k hk; omega
  | succ m ih =>
    intro hm k hk
    have hl := appF_len keep torn cut ho hn m (by omega) (by omega)
    by_cases e : k < m
    · have e1 : secAt (appF fo fn keep torn cut (m + 1)) k = secAt (appF fo fn keep torn cut m) k := by
        show secAt (appF fo fn keep torn cut m ++ outAt fo fn keep torn cut m) k = _
        exact secAt_app _ _ k m hl e
      rw [e1]
      exact ih (by omega) k e
    · obtain rfl : k = m := by omega
      have hol := outAt_len keep torn cut ho hn (show k < n by omega) (show k < n by omega)
      have e1 : secAt (appF fo fn keep torn cut (k + 1)) k = outAt fo fn keep torn cut k := by
        show secAt (appF fo fn keep torn cut k ++ outAt fo fn keep torn cut k) k = _
        have := secAt_end (appF fo fn keep torn cut k) (outAt fo fn keep torn cut k) k hl hol []
        rwa [List.append_nil] at this
      rw [e1]
      unfold outAt cutAt
      rw [if_neg (by omega)]
      split
      · right; exact mixL_64 (secAt_len ho (by omega)) (secAt_len hn (by omega))
      · left; exact mixL_0 _ _
theorem appF_bytes {fo fn keep : List Int} {torn cut : Int} (ho : Bytes fo) (hn : Bytes fn) (m : Nat) : Bytes (appF fo fn keep torn cut m) := by
  induction m with
  | zero => intro c hc; cases hc
  | succ m ih =>
    show Bytes (appF fo fn keep torn cut m ++ outAt fo fn keep torn cut m)
    refine bytes_append ih ?_
    unfold outAt mixL
    exact bytes_append (bytes_take (bytes_take (bytes_drop hn _) _) _) (bytes_drop (bytes_take (bytes_drop ho _) _) _)
set_option maxRecDepth 100000 in
set_option maxHeartbeats 8000000 in
theorem after_nope (e64 N : Int) (l : List (List Int)) (A Ak : Option Addr) (c lk ck : Nat) (torn cut : Int) (w : World) (he : 0 ≤ e64 ∧ e64 ≤ 18446744073709551615) (hC : (Kd.slice 5 (Kd.int .u8)).C w A l.length l) (hc : l.length ≤ c) (hl : ∀ x ∈ l, Bytes x) (hll : ∀ x ∈ l, x.length ≤ 140737488355328) (hn : l.length ≤ 9000000000000)
    (hno : Img.layAll e64 l = false ∨ (l.all (fun x => decide (x.length ≤ 512)) && decide (l.length ≤ 100)) = false ∨ e64 = 0) :
    Calls Tryd.prog 18 #[.agg #[.int .u64 e64, .slice A l.length c, .int .u64 N], .agg #[.slice Ak lk ck, .int .i64 torn, .int .i64 cut]] w fun e W => e = .returned (.tuple #[.slice none 0 0, .int .i64 0, .bool false]) ∧ Below w.heap.size w W := by
  have H := Own.start w
  have FW := fun W h => few19_calls l A c W h hc hn
  cases hok : Img.layAll e64 l with
  | false =>
    have SC := fun W h => rsectors_nope e64 l A c W hok he hl hll hn h hc
    cases hf : (l.all (fun x => decide (x.length ≤ 512)) && decide (l.length ≤ 100)) with
    | false =>
      rw [hf] at FW
      clear hf hok hno
      generalize l.length = n at *
      go_enter Tryd.func18, Tryd.ntmps18
      go_wp2_with (first
    | ((with_reducible refine gate_dst (N := 2) rfl ?_); refine l_boxA rfl H 44 _ rfl _ rfl ?_; clear H; intro g2 W H)
    | ((with_reducible refine gate_dst (N := 3) rfl ?_); refine l_boxA rfl H 46 _ rfl _ rfl ?_; clear H; intro g3 W H)
    | ((with_reducible refine gate_dst (N := 14) rfl ?_); refine l_load1 rfl H 22 _ rfl _ _ rfl (by (repeat (first | exact In.head | apply In.tail))) _ Tryd.underlying22 rfl _ (by first | rfl | assumption | exact nums_at _ (by omega)) ?_)
    | ((with_reducible refine gate_dst (N := 16) rfl ?_); refine l_load1 rfl H 25 _ rfl _ _ rfl (by (repeat (first | exact In.head | apply In.tail))) _ Tryd.underlying25 rfl _ (by first | rfl | assumption | exact nums_at _ (by omega)) ?_)
    | ((with_reducible refine gate_dst (N := 21) rfl ?_); refine l_load1 rfl H 25 _ rfl _ _ rfl (by (repeat (first | exact In.head | apply In.tail))) _ Tryd.underlying25 rfl _ (by first | rfl | assumption | exact nums_at _ (by omega)) ?_)
    | ((with_reducible refine gate_dst (N := 30) rfl ?_); refine gate_guard (by rfl) ?_; refine l_load1 rfl H 22 _ rfl _ _ rfl (by (repeat (first | exact In.head | apply In.tail))) _ Tryd.underlying22 rfl _ (by first | rfl | assumption | exact nums_at _ (by omega)) ?_)
      | (go_at_call 15; (with_reducible refine (SC _ (Kd.C_below hC H.below)).mono ?_); rintro e W ⟨rfl, hb'⟩; replace H := H.to hb'; clear hb')
      | (go_at_call 16; (with_reducible refine (FW _ (Kd.C_below hC H.below)).mono ?_); rintro e W ⟨rfl, hb'⟩; replace H := H.to hb'; clear hb'))
      go_ret3
      exact ⟨rfl, H.below⟩
    | true =>
      rw [hf] at FW
      clear hf hok hno
      generalize l.length = n at *
      go_enter Tryd.func18, Tryd.ntmps18
      go_wp2_with (first
    | ((with_reducible refine gate_dst (N := 2) rfl ?_); refine l_boxA rfl H 44 _ rfl _ rfl ?_; clear H; intro g2 W H)
    | ((with_reducible refine gate_dst (N := 3) rfl ?_); refine l_boxA rfl H 46 _ rfl _ rfl ?_; clear H; intro g3 W H)
    | ((with_reducible refine gate_dst (N := 14) rfl ?_); refine l_load1 rfl H 22 _ rfl _ _ rfl (by (repeat (first | exact In.head | apply In.tail))) _ Tryd.underlying22 rfl _ (by first | rfl | assumption | exact nums_at _ (by omega)) ?_)
    | ((with_reducible refine gate_dst (N := 16) rfl ?_); refine l_load1 rfl H 25 _ rfl _ _ rfl (by (repeat (first | exact In.head | apply In.tail))) _ Tryd.underlying25 rfl _ (by first | rfl | assumption | exact nums_at _ (by omega)) ?_)
    | ((with_reducible refine gate_dst (N := 21) rfl ?_); refine l_load1 rfl H 25 _ rfl _ _ rfl (by (repeat (first | exact In.head | apply In.tail))) _ Tryd.underlying25 rfl _ (by first | rfl | assumption | exact nums_at _ (by omega)) ?_)
    | ((with_reducible refine gate_dst (N := 30) rfl ?_); refine gate_guard (by rfl) ?_; refine l_load1 rfl H 22 _ rfl _ _ rfl (by (repeat (first | exact In.head | apply In.tail))) _ Tryd.underlying22 rfl _ (by first | rfl | assumption | exact nums_at _ (by omega)) ?_)
      | (go_at_call 15; (with_reducible refine (SC _ (Kd.C_below hC H.below)).mono ?_); rintro e W ⟨rfl, hb'⟩; replace H := H.to hb'; clear hb')
      | (go_at_call 16; (with_reducible refine (FW _ (Kd.C_below hC H.below)).mono ?_); rintro e W ⟨rfl, hb'⟩; replace H := H.to hb'; clear hb'))
      go_ret3
      exact ⟨rfl, H.below⟩
  | true =>
    obtain ⟨b, ht, hb⟩ := touch0 (Img.laySt e64 l l.length).2
    have SC := fun W h => rsectors_yes e64 l A c W b hok ht hb he hl hll hn h hc
    cases hf : (l.all (fun x => decide (x.length ≤ 512)) && decide (l.length ≤ 100)) with
    | false =>
      rw [hf] at FW
      clear hf hok ht hno
      generalize flatW e64 (Img.laySt e64 l l.length).1 b 16 = fl at *
      generalize l.length = n at *
      go_enter Tryd.func18, Tryd.ntmps18
      go_wp2_with (first
    | ((with_reducible refine gate_dst (N := 2) rfl ?_); refine l_boxA rfl H 44 _ rfl _ rfl ?_; clear H; intro g2 W H)
    | ((with_reducible refine gate_dst (N := 3) rfl ?_); refine l_boxA rfl H 46 _ rfl _ rfl ?_; clear H; intro g3 W H)
    | ((with_reducible refine gate_dst (N := 14) rfl ?_); refine l_load1 rfl H 22 _ rfl _ _ rfl (by (repeat (first | exact In.head | apply In.tail))) _ Tryd.underlying22 rfl _ (by first | rfl | assumption | exact nums_at _ (by omega)) ?_)
    | ((with_reducible refine gate_dst (N := 16) rfl ?_); refine l_load1 rfl H 25 _ rfl _ _ rfl (by (repeat (first | exact In.head | apply In.tail))) _ Tryd.underlying25 rfl _ (by first | rfl | assumption | exact nums_at _ (by omega)) ?_)
    | ((with_reducible refine gate_dst (N := 21) rfl ?_); refine l_load1 rfl H 25 _ rfl _ _ rfl (by (repeat (first | exact In.head | apply In.tail))) _ Tryd.underlying25 rfl _ (by first | rfl | assumption | exact nums_at _ (by omega)) ?_)
    | ((with_reducible refine gate_dst (N := 30) rfl ?_); refine gate_guard (by rfl) ?_; refine l_load1 rfl H 22 _ rfl _ _ rfl (by (repeat (first | exact In.head | apply In.tail))) _ Tryd.underlying22 rfl _ (by first | rfl | assumption | exact nums_at _ (by omega)) ?_)
      | (go_at_call 15; (with_reducible refine (SC _ (Kd.C_below hC H.below)).mono ?_); rintro e W ⟨v7, rfl, ho, hb'⟩; replace H := H.addRow hb' ho; clear ho hb'; obtain ⟨A7, c7, rfl⟩ := H.row_slice .head)
      | (go_at_call 16; (with_reducible refine (FW _ (Kd.C_below hC H.below)).mono ?_); rintro e W ⟨rfl, hb'⟩; replace H := H.to hb'; clear hb'))
      go_ret3
      exact ⟨rfl, H.below⟩
    | true =>
      rw [hf] at FW
      have h0 : e64 = 0 := by rcases hno with h | h | h <;> simp_all
      subst h0
      clear hf hok ht hno
      generalize flatW 0 (Img.laySt 0 l l.length).1 b 16 = fl at *
      generalize l.length = n at *
      go_enter Tryd.func18, Tryd.ntmps18
      go_wp2_with (first
    | ((with_reducible refine gate_dst (N := 2) rfl ?_); refine l_boxA rfl H 44 _ rfl _ rfl ?_; clear H; intro g2 W H)
    | ((with_reducible refine gate_dst (N := 3) rfl ?_); refine l_boxA rfl H 46 _ rfl _ rfl ?_; clear H; intro g3 W H)
    | ((with_reducible refine gate_dst (N := 14) rfl ?_); refine l_load1 rfl H 22 _ rfl _ _ rfl (by (repeat (first | exact In.head | apply In.tail))) _ Tryd.underlying22 rfl _ (by first | rfl | assumption | exact nums_at _ (by omega)) ?_)
    | ((with_reducible refine gate_dst (N := 16) rfl ?_); refine l_load1 rfl H 25 _ rfl _ _ rfl (by (repeat (first | exact In.head | apply In.tail))) _ Tryd.underlying25 rfl _ (by first | rfl | assumption | exact nums_at _ (by omega)) ?_)
    | ((with_reducible refine gate_dst (N := 21) rfl ?_); refine l_load1 rfl H 25 _ rfl _ _ rfl (by (repeat (first | exact In.head | apply In.tail))) _ Tryd.underlying25 rfl _ (by first | rfl | assumption | exact nums_at _ (by omega)) ?_)
    | ((with_reducible refine gate_dst (N := 30) rfl ?_); refine gate_guard (by rfl) ?_; refine l_load1 rfl H 22 _ rfl _ _ rfl (by (repeat (first | exact In.head | apply In.tail))) _ Tryd.underlying22 rfl _ (by first | rfl | assumption | exact nums_at _ (by omega)) ?_)
      | (go_at_call 15; (with_reducible refine (SC _ (Kd.C_below hC H.below)).mono ?_); rintro e W ⟨v7, rfl, ho, hb'⟩; replace H := H.addRow hb' ho; clear ho hb'; obtain ⟨A7, c7, rfl⟩ := H.row_slice .head)
      | (go_at_call 16; (with_reducible refine (FW _ (Kd.C_below hC H.below)).mono ?_); rintro e W ⟨rfl, hb'⟩; replace H := H.to hb'; clear hb'))
      go_ret3
      exact ⟨rfl, H.below⟩
set_option maxRecDepth 100000 in
set_option maxHeartbeats 8000000 in
theorem after_yes (e64 : Int) (N : Nat) (l : List (List Int)) (A Ak : Option Addr) (c ck : Nat) (keep : List Int) (torn cut : Int) (w : World) (s bO bN : Nat) (he : 0 ≤ e64 ∧ e64 ≤ 18446744073709551615) (hN : N ≤ 18446744073709551615) (hC : (Kd.slice 5 (Kd.int .u8)).C w A l.length l) (hc : l.length ≤ c) (hl : ∀ x ∈ l, Bytes x) (hll : ∀ x ∈ l, x.length ≤ 140737488355328)
    (hok : Img.layAll e64 l = true) (hf : (l.all (fun x => decide (x.length ≤ 512)) && decide (l.length ≤ 100)) = true) (h0 : e64 ≠ 0) (hs : s = N % (l.length + 1))
    (htO : tch (cl 0) (cl (Img.laySt e64 l s).2) = (((0 : Nat) : Int), (bO : Int))) (hbO : bO ≤ 16) (htN : tch (cl 0) (cl (Img.laySt e64 l l.length).2) = (((0 : Nat) : Int), (bN : Int))) (hbN : bN ≤ 16)
    (hk : (Kd.int .u8).C w Ak keep.length keep) (hck : keep.length ≤ ck) (hkw : ∀ x ∈ keep, (Lit.int .u8 x).wf = true) :
    Calls Tryd.prog 18 #[.agg #[.int .u64 e64, .slice A l.length c, .int .u64 (N : Int)], .agg #[.slice Ak keep.length ck, .int .i64 torn, .int .i64 cut]] w fun e W => ∃ v, e = .returned (.tuple #[v, .int .i64 (s : Int), .bool true]) ∧
      W.ownsRow w.heap.size 51 64 v 16 (nums .u8 (appF (flatW e64 (Img.laySt e64 l s).1 bO 16) (flatW e64 (Img.laySt e64 l l.length).1 bN 16) keep torn cut 16)) ∧ Below w.heap.size w W := by
  have H := Own.start w
  have hn100 : l.length ≤ 100 := by simp only [Bool.and_eq_true, decide_eq_true_eq] at hf; exact hf.2
  have FW := fun W h => few19_calls l A c W h hc (by omega)
  rw [hf] at FW
  have hsl : s ≤ l.length := by rw [hs]; have := Nat.mod_lt N (show 0 < l.length + 1 by omega); omega
  have q1 : (e64 == 0) = false := by simpa using h0
  have SC := fun W h => rsectors_yes e64 l A c W bN hok htN hbN he hl hll (by omega) h hc
  have hls : (l.take s).length = s := by rw [List.length_take]; omega
  have hst := laySt_take e64 l s s (Nat.le_refl _)
  have SO := fun W h => rsectors_yes e64 (l.take s) A c W bO (layAll_take e64 l s hsl hok) (by rw [hls, hst]; exact htO) hbO he (fun x hx => hl x (List.mem_of_mem_take hx)) (fun x hx => hll x (List.mem_of_mem_take hx)) (by omega) h (by omega)
  rw [hls, hst] at SO
  have hCs := C_rows_take hC hsl
  have AP := fun A1 B1 c1 d1 W hA hB (h3 : 16 ≤ c1) (h4 : 16 ≤ d1) h5 => rapply_calls (fo := flatW e64 (Img.laySt e64 l s).1 bO 16) (fn := flatW e64 (Img.laySt e64 l l.length).1 bN 16) keep torn cut 16 (no := 16) (nn := 16) (flatW_len _ _ _ _) (flatW_len _ _ _ _) (Nat.le_refl _) (Nat.le_refl _) (.inl rfl) (by decide) hkw A1 B1 Ak c1 d1 ck W hA hB h3 h4 h5 hck
  generalize flatW e64 (Img.laySt e64 l s).1 bO 16 = fo at *
  generalize flatW e64 (Img.laySt e64 l l.length).1 bN 16 = fn at *
  clear htO htN hst hls hok hf
  generalize l.take s = ls at *
  generalize l.length = n at *
  generalize keep.length = lk at *
  have w1 : IntKind.i64.wrap ((n : Int) + 1) = ((n + 1 : Nat) : Int) := by rw [IntKind.wrap_i64]; omega
  have w2 : IntKind.u64.wrap ((n + 1 : Nat) : Int) = ((n + 1 : Nat) : Int) := by rw [IntKind.wrap_u64]; omega
  have w3 : IntKind.i64.wrap (s : Int) = (s : Int) := by rw [IntKind.wrap_i64]; omega
  have w4 : wrap64 ((N : Int) % ((n : Int) + 1)) = (s : Int) := by
    have h9 : ((N % (n + 1) : Nat) : Int) = (N : Int) % ((n : Int) + 1) := by push_cast; rfl
    rw [← h9, ← hs]
    exact w64 (by omega) (by omega)
  have hsc : s ≤ c := Nat.le_trans hsl hc
  clear hs
  go_enter Tryd.func18, Tryd.ntmps18
  go_wp2_with (first
    | ((with_reducible refine gate_dst (N := 2) rfl ?_); refine l_boxA rfl H 44 _ rfl _ rfl ?_; clear H; intro g2 W H)
    | ((with_reducible refine gate_dst (N := 3) rfl ?_); refine l_boxA rfl H 46 _ rfl _ rfl ?_; clear H; intro g3 W H)
    | ((with_reducible refine gate_dst (N := 14) rfl ?_); refine l_load1 rfl H 22 _ rfl _ _ rfl (by (repeat (first | exact In.head | apply In.tail))) _ Tryd.underlying22 rfl _ (by first | rfl | assumption | exact nums_at _ (by omega)) ?_)
    | ((with_reducible refine gate_dst (N := 16) rfl ?_); refine l_load1 rfl H 25 _ rfl _ _ rfl (by (repeat (first | exact In.head | apply In.tail))) _ Tryd.underlying25 rfl _ (by first | rfl | assumption | exact nums_at _ (by omega)) ?_)
    | ((with_reducible refine gate_dst (N := 21) rfl ?_); refine l_load1 rfl H 25 _ rfl _ _ rfl (by (repeat (first | exact In.head | apply In.tail))) _ Tryd.underlying25 rfl _ (by first | rfl | assumption | exact nums_at _ (by omega)) ?_)
    | ((with_reducible refine gate_dst (N := 30) rfl ?_); refine gate_guard (by rfl) ?_; refine l_load1 rfl H 22 _ rfl _ _ rfl (by (repeat (first | exact In.head | apply In.tail))) _ Tryd.underlying22 rfl _ (by first | rfl | assumption | exact nums_at _ (by omega)) ?_)
    | ((with_reducible refine gate_dst (N := 34) rfl ?_); refine l_load1 rfl H 42 _ rfl _ _ rfl (by (repeat (first | exact In.head | apply In.tail))) _ Tryd.underlying42 rfl _ (by first | rfl | assumption | exact nums_at _ (by omega)) ?_)
    | ((with_reducible refine gate_dst (N := 36) rfl ?_); refine l_load1 rfl H 25 _ rfl _ _ rfl (by (repeat (first | exact In.head | apply In.tail))) _ Tryd.underlying25 rfl _ (by first | rfl | assumption | exact nums_at _ (by omega)) ?_)
    | (go_at_call 15; (with_reducible refine (SC _ (Kd.C_below hC H.below)).mono ?_); rintro e W ⟨v7, rfl, ho, hb'⟩; replace H := H.addRow hb' ho; clear ho hb'; obtain ⟨A7, c7, rfl⟩ := H.row_slice .head)
    | (go_at_call 16; (with_reducible refine (FW _ (Kd.C_below hC H.below)).mono ?_); rintro e W ⟨rfl, hb'⟩; replace H := H.to hb'; clear hb'))
  rw [w4]
  clear w4
  refine start_ (n := 12) (S := Own _ _ _) (ds := []) #[false, false, false, false, false, false, false, false, false, false, false, false] (by kernel_rfl) rfl rfl H.drew (fun hHeld => ?_)
  replace H := H.drew
  generalize World.drew _ = W at H hHeld ⊢
  refine pure_ (i := 0) (N := some 43) (v := ?_) (a' := ?_) #[true, false, false, false, false, false, false, false, false, false, false, false] rfl rfl (by kernel_rfl) (fun _ _ _ h => h) (Or.inl ⟨by rfl, ?_⟩) ?_ ?_
  rotate_left
  · intro w'
    go_simp
    with_reducible rfl
  rotate_left
  · simp only [Act.put, List.setIfInBounds_toArray, List.set_cons_zero, List.set_cons_succ, i64_w, i32_w]
    rfl
  refine pure_ (i := 2) (N := some 45) (v := ?_) (a' := ?_) #[true, false, true, false, false, false, false, false, false, false, false, false] rfl rfl (by kernel_rfl) (fun _ _ _ h => h) (Or.inl ⟨by rfl, ?_⟩) ?_ ?_
  rotate_left
  · intro w'
    go_simp
    with_reducible rfl
  rotate_left
  · simp only [Act.put, List.setIfInBounds_toArray, List.set_cons_zero, List.set_cons_succ, i64_w, i32_w]
    rfl
  refine pure_ (i := 4) (N := some 47) (v := ?_) (a' := ?_) #[true, false, true, false, true, false, false, false, false, false, false, false] rfl rfl (by kernel_rfl) (fun _ _ _ h => h) (Or.inl ⟨by rfl, ?_⟩) ?_ ?_
  rotate_left
  · intro w'
    go_simp
    with_reducible rfl
  rotate_left
  · simp only [Act.put, List.setIfInBounds_toArray, List.set_cons_zero, List.set_cons_succ, i64_w, i32_w]
    rfl
  refine take_load1 (i := 1) (N := some 44) (a' := ?_) #[true, true, true, false, true, false, false, false, false, false, false, false] rfl rfl (by kernel_rfl) (fun _ _ _ _ h => h) (by rfl) hHeld 22 _ rfl _ _ rfl (by (repeat (first | exact In.head | apply In.tail))) _ Tryd.underlying22 rfl _ (by first | rfl | assumption | exact nums_at _ (by omega)) ?_ ?_
  rotate_left
  · simp only [Act.put, List.setIfInBounds_toArray, List.set_cons_zero, List.set_cons_succ, i64_w, i32_w]
    rfl
  refine one_ (i := 3) (N := some 46) #[true, true, true, true, true, false, false, false, false, false, false, false] rfl rfl (by kernel_rfl) (by decide) (fun K hK => ?_)
  refine wanted_ rfl ?_
  refine w_load1 H 25 _ rfl _ _ rfl (by (repeat (first | exact In.head | apply In.tail))) _ Tryd.underlying25 rfl _ (by first | rfl | assumption | exact nums_at _ (by omega)) ?_
  refine hK.out _ _ ?_ (fun hHeld => ?_)
  · first | trivial | exact H | exact H.del .head | exact (H.del .head).del .head | exact H.heap (by (repeat (first | exact In.head | apply In.tail)))
  clear hK K
  refine norm_ (a' := ?_) ?_ ?_
  rotate_left
  · show Act.put _ (some 46) _ = _
    simp only [Act.put, List.setIfInBounds_toArray, List.set_cons_zero, List.set_cons_succ, i64_w, i32_w]
    rfl
  refine take_run (i := 5) (N := some 48) (a' := ?_) #[true, true, true, true, true, true, false, false, false, false, false, false] rfl rfl (by kernel_rfl) (fun _ _ _ _ h => h) (by rfl) hHeld (.slice A s c) (fun X HX => x_slice_to _ _ rfl rfl Tryd.underlying25 size38 s rfl hsc X) ?_ ?_
  rotate_left
  · simp only [Act.put, List.setIfInBounds_toArray, List.set_cons_zero, List.set_cons_succ, i64_w, i32_w]
    rfl
  refine one_ (i := 6) (N := some 49) #[true, true, true, true, true, true, true, false, false, false, false, false] rfl rfl (by kernel_rfl) (by decide) (fun K hK => ?_)
  refine callK_ (SO _ (Kd.C_below hCs H.below)) Tryd.func15 (by kernel_rfl) rfl (by rfl) rfl rfl (by (try simp only [List.map_toArray, List.map_cons, List.map_nil]); first | done | rfl) ?_
  rintro e W ⟨v10, rfl, ho, hb'⟩
  refine ⟨_, rfl, ?_⟩
  replace H := H.addRow hb' ho
  clear ho hb'
  obtain ⟨A10, c10, rfl⟩ := H.row_slice .head
  refine hK.out _ _ ?_ (fun hHeld => ?_)
  · first | trivial | exact H | exact H.del .head | exact (H.del .head).del .head | exact H.heap (by (repeat (first | exact In.head | apply In.tail)))
  clear hK K
  refine norm_ (a' := ?_) ?_ ?_
  rotate_left
  · show Act.put _ (some 49) _ = _
    simp only [Act.put, List.setIfInBounds_toArray, List.set_cons_zero, List.set_cons_succ, i64_w, i32_w]
    rfl
  refine pure_ (i := 7) (N := some 42) (v := ?_) (a' := ?_) #[true, true, true, true, true, true, true, true, false, false, false, false] rfl rfl (by kernel_rfl) (fun _ _ _ h => h) (Or.inl ⟨by rfl, ?_⟩) ?_ ?_
  rotate_left
  · intro w'
    go_simp
    with_reducible rfl
  rotate_left
  · simp only [Act.put, List.setIfInBounds_toArray, List.set_cons_zero, List.set_cons_succ, i64_w, i32_w]
    rfl
  refine pure_ (i := 8) (N := some 50) (v := ?_) (a' := ?_) #[true, true, true, true, true, true, true, true, true, false, false, false] rfl rfl (by kernel_rfl) (fun _ _ _ h => h) (Or.inl ⟨by rfl, ?_⟩) ?_ ?_
  rotate_left
  · intro w'
    go_simp
    with_reducible rfl
  rotate_left
  · simp only [Act.put, List.setIfInBounds_toArray, List.set_cons_zero, List.set_cons_succ, i64_w, i32_w]
    rfl
  refine pure_ (i := 9) (N := some 51) (v := ?_) (a' := ?_) #[true, true, true, true, true, true, true, true, true, true, false, false] rfl rfl (by kernel_rfl) (fun _ _ _ h => h) (Or.inl ⟨by rfl, ?_⟩) ?_ ?_
  rotate_left
  · intro w'
    go_simp
    with_reducible rfl
  rotate_left
  · simp only [Act.put, List.setIfInBounds_toArray, List.set_cons_zero, List.set_cons_succ, i64_w, i32_w]
    rfl
  refine pure_ (i := 10) (N := some 10) (v := ?_) (a' := ?_) #[true, true, true, true, true, true, true, true, true, true, true, false] rfl rfl (by kernel_rfl) (fun _ _ _ h => h) (Or.inl ⟨by rfl, ?_⟩) ?_ ?_
  rotate_left
  · intro w'
    go_simp
    with_reducible rfl
  rotate_left
  · simp only [Act.put, List.setIfInBounds_toArray, List.set_cons_zero, List.set_cons_succ, i64_w, i32_w]
    rfl
  refine pure_ (i := 11) (N := some 11) (v := ?_) (a' := ?_) #[true, true, true, true, true, true, true, true, true, true, true, true] rfl rfl (by kernel_rfl) (fun _ _ _ h => h) (Or.inl ⟨by rfl, ?_⟩) ?_ ?_
  rotate_left
  · intro w'
    go_simp
    with_reducible rfl
  rotate_left
  · simp only [Act.put, List.setIfInBounds_toArray, List.set_cons_zero, List.set_cons_succ, i64_w, i32_w]
    rfl
  refine done_ (by kernel_rfl) ?_
  clear hHeld
  go_wp2_with (first
    | ((with_reducible refine gate_dst (N := 54) rfl ?_); refine l_loadA rfl H 46 _ rfl _ rfl (by (repeat (first | exact In.head | apply In.tail))) _ _ Tryd.underlying46 rfl size46 (by (first | rfl | assumption | omega | (simp only [nums_length]; omega) | (simp [nums_length, zs]; done) | (simp [nums_length, zs]; omega))) ?_)
    | (go_at_call 37; (with_reducible refine (AP _ _ _ _ _ (H.rd .head).1 (H.rd (.tail .head)).1 (H.rd .head).2.1 (H.rd (.tail .head)).2.1 (Kd.C_below hk H.below)).mono ?_); rintro e W ⟨v4, rfl, HO⟩; replace H := H.addOwn HO; clear HO; dsimp only [List.cons_append, List.nil_append] at H; obtain ⟨A4, c4, rfl⟩ := H.row_slice .head))
  go_ret3
  exact ⟨_, rfl, H.at_ .head, H.below⟩
end Go.Proofs.YtaekpfhgdnfciaaDoor.O
end

section
/- strandlinelaw19.ScanLost: the statement's function. -/
set_option linter.unusedVariables false
set_option linter.unusedSimpArgs false
namespace Go.Proofs.YtaekpfhgdnfciaaDoor.O
open Go.RowKit Go.Proofs.YtaekpfhgdnfciaaDoorW.PrintWords Go.Proofs.YtaekpfhgdnfciaaDoorW.PrintLast Go.Proofs.YtaekpfhgdnfciaaDoorW.PrintMore Go.Proofs.YtaekpfhgdnfciaaDoor.F Go.Proofs.YtaekpfhgdnfciaaDoor.F.Nums Go.Proofs.YtaekpfhgdnfciaaDoor.Plain
set_option maxRecDepth 100000 in
set_option maxHeartbeats 8000000 in
theorem scanLost_law (e64 : Int) (N : Nat) (l : List (List Int)) (A Ak : Option Addr) (c ck : Nat) (keep : List Int) (torn cut : Int) (w : World) (he : 0 ≤ e64 ∧ e64 ≤ 18446744073709551615) (hN : N ≤ 18446744073709551615) (hC : (Kd.slice 5 (Kd.int .u8)).C w A l.length l) (hc : l.length ≤ c) (hl : ∀ x ∈ l, Bytes x) (hll : ∀ x ∈ l, x.length ≤ 140737488355328) (hn : l.length ≤ 9000000000000)
    (hk : (Kd.int .u8).C w Ak keep.length keep) (hck : keep.length ≤ ck) (hkw : ∀ x ∈ keep, (Lit.int .u8 x).wf = true) (hH : Half w) :
    Calls Tryd.prog 5 #[.agg #[.int .u64 e64, .slice A l.length c, .int .u64 (N : Int)], .agg #[.slice Ak keep.length ck, .int .i64 torn, .int .i64 cut]] w fun e W => e = .returned (.bool true) ∧ Below w.heap.size w W := by
  have H := Own.start w
  have AW := awake19_calls
  by_cases hno : Img.layAll e64 l = false ∨ (l.all (fun x => decide (x.length ≤ 512)) && decide (l.length ≤ 100)) = false ∨ e64 = 0
  · have AC := fun W h => after_nope e64 N l A Ak c keep.length ck torn cut W he h hc hl hll hn hno
    clear hno
    generalize l.length = n at *
    generalize keep.length = lk at *
    go_enter Tryd.func5, Tryd.ntmps5
    go_wp2_with (first
    | ((with_reducible refine gate_dst (N := 2) rfl ?_); refine l_boxA rfl H 44 _ rfl _ rfl ?_; clear H; intro g2 W H)
    | ((with_reducible refine gate_dst (N := 3) rfl ?_); refine l_boxA rfl H 46 _ rfl _ rfl ?_; clear H; intro g3 W H)
    | ((with_reducible refine gate_dst (N := 10) rfl ?_); refine l_loadA rfl H 44 _ rfl _ rfl (by (repeat (first | exact In.head | apply In.tail))) _ _ Tryd.underlying44 rfl size44 (by (first | rfl | assumption | omega | (simp only [nums_length]; omega) | (simp [nums_length, zs]; done) | (simp [nums_length, zs]; omega))) ?_)
    | ((with_reducible refine gate_dst (N := 11) rfl ?_); refine l_loadA rfl H 46 _ rfl _ rfl (by (repeat (first | exact In.head | apply In.tail))) _ _ Tryd.underlying46 rfl size46 (by (first | rfl | assumption | omega | (simp only [nums_length]; omega) | (simp [nums_length, zs]; done) | (simp [nums_length, zs]; omega))) ?_)
    | ((with_reducible refine gate_dst (N := 20) rfl ?_); refine gate_guard (by rfl) ?_; refine l_load1 rfl H 3 _ rfl _ _ rfl (by (repeat (first | exact In.head | apply In.tail))) _ Tryd.underlying3 rfl _ (by first | rfl | assumption | exact nums_at _ (by omega)) ?_)
    | (go_at_call 18; (with_reducible refine (AC _ (Kd.C_below hC H.below)).mono ?_); rintro e W ⟨rfl, hb'⟩; replace H := H.to hb'; clear hb')
    | (go_at_call 9; (with_reducible refine (AW _ (hH.below H.below)).mono ?_); rintro e W ⟨rfl, hb'⟩; replace H := H.to hb'; clear hb'))
    go_ret
    exact ⟨rfl, H.below⟩
  · have hok : Img.layAll e64 l = true := by
      cases h : Img.layAll e64 l with
      | true => rfl
      | false => exact absurd (.inl h) hno
    have hf : (l.all (fun x => decide (x.length ≤ 512)) && decide (l.length ≤ 100)) = true := by
      cases h : (l.all (fun x => decide (x.length ≤ 512)) && decide (l.length ≤ 100)) with
      | true => rfl
      | false => exact absurd (.inr (.inl h)) hno
    have h0 : e64 ≠ 0 := fun h => hno (.inr (.inr h))
    clear hno
    obtain ⟨s, hs⟩ : ∃ s, s = N % (l.length + 1) := ⟨_, rfl⟩
    have hsl : s ≤ l.length := by rw [hs]; have := Nat.mod_lt N (show 0 < l.length + 1 by omega); omega
    obtain ⟨bO, htO, hbO⟩ := touch0 (Img.laySt e64 l s).2
    obtain ⟨bN, htN, hbN⟩ := touch0 (Img.laySt e64 l l.length).2
    have AC := fun W h h2 => after_yes e64 N l A Ak c ck keep torn cut W s bO bN he hN h hc hl hll hok hf h0 hs htO hbO htN hbN h2 hck hkw
    clear hs
    by_cases ht : torn < 0
    · simp only [Bool.and_eq_true, List.all_eq_true, decide_eq_true_eq] at hf
      have hEs := Img.laySt_end e64 l s
      have hEn := Img.laySt_end e64 l l.length
      have hbo := Img.tch_secs hEs.1 hEs.2 htO
      have hbn := Img.tch_secs hEn.1 hEn.2 htN
      have hmx := fun k (hk : k < 16) => secAt_crash (keep := keep) (cut := cut) (flatW_len e64 (Img.laySt e64 l s).1 bO 16) (flatW_len e64 (Img.laySt e64 l l.length).1 bN 16) ht 16 (Nat.le_refl _) k hk
      have hfl := appF_len keep torn cut (flatW_len e64 (Img.laySt e64 l s).1 bO 16) (flatW_len e64 (Img.laySt e64 l l.length).1 bN 16) 16 (Nat.le_refl _) (Nat.le_refl _)
      have hfb := appF_bytes (keep := keep) (torn := torn) (cut := cut) (flatW_bytes (Img.laySt_bytes e64 l hl s) e64 bO 16) (flatW_bytes (Img.laySt_bytes e64 l hl l.length) e64 bN 16) 16
      generalize appF (flatW e64 (Img.laySt e64 l s).1 bO 16) (flatW e64 (Img.laySt e64 l l.length).1 bN 16) keep torn cut 16 = fl at *
      rw [hbo, hbn] at hmx
      obtain ⟨m, hsm, hmn, hr, -, -⟩ := Img.scan_mix e64 he.1 he.2 h0 l s hsl hok hf.1 fl hfl hmx
      have KC := fun A1 c1 W (hr : Rd W A1 (nums .u8 fl)) h h2 => scan_calls e64 he fl 16 (Nat.le_refl _) hfl hfb A1 c1 W hr h h2
      have hn100 := hf.2
      have hlm : (l.take m).length = m := by rw [List.length_take]; omega
      have hCm := C_rows_take hC hmn
      generalize scanM (e64 % 4294967296) (bodyF e64 fl 16 16) (oksF e64 fl 16 16) = S at *
      clear hmx hok htO htN hbO hbN hbo hbn hEs hEn hf hfl hfb
      generalize l.take m = lm at *
      have hn9 := hn
      obtain ⟨s1, s2, s3, s4, s5, s6, s7⟩ := S
      try simp only at hr
      subst hr
      have hm100 : m ≤ 100 := by omega
      have SM := fun A1 c1 W (hC1 : (Kd.slice 5 (Kd.int .u8)).C W A1 m s5) (hc1 : m ≤ c1) (h : (Kd.slice 5 (Kd.int .u8)).C W A m s5) => same04_calls s5 A1 A c1 c W (by omega) (hlm.symm ▸ hC1) (hlm.symm ▸ hc1) (hlm.symm ▸ h) (by omega)
      rw [hlm] at SM
      generalize l.length = n at *
      generalize keep.length = lk at *
      have q1 : decide (s ≤ m) = true := decide_eq_true hsm
      have q2 : decide (m ≤ n) = true := decide_eq_true hmn
      have q3 : decide (torn ≥ 0) = false := decide_eq_false (by omega)
      have q4 : decide ((0 : Int) ≤ torn) = false := decide_eq_false (by omega)
      have m1 : (if n < m then (n : Int) else (m : Int)) = (m : Int) := if_neg (by omega)
      have hmc : m ≤ c := by omega
      go_enter Tryd.func5, Tryd.ntmps5
      go_wp2_with (first
    | ((with_reducible refine gate_dst (N := 2) rfl ?_); refine l_boxA rfl H 44 _ rfl _ rfl ?_; clear H; intro g2 W H)
    | ((with_reducible refine gate_dst (N := 3) rfl ?_); refine l_boxA rfl H 46 _ rfl _ rfl ?_; clear H; intro g3 W H)
    | ((with_reducible refine gate_dst (N := 10) rfl ?_); refine l_loadA rfl H 44 _ rfl _ rfl (by (repeat (first | exact In.head | apply In.tail))) _ _ Tryd.underlying44 rfl size44 (by (first | rfl | assumption | omega | (simp only [nums_length]; omega) | (simp [nums_length, zs]; done) | (simp [nums_length, zs]; omega))) ?_)
    | ((with_reducible refine gate_dst (N := 11) rfl ?_); refine l_loadA rfl H 46 _ rfl _ rfl (by (repeat (first | exact In.head | apply In.tail))) _ _ Tryd.underlying46 rfl size46 (by (first | rfl | assumption | omega | (simp only [nums_length]; omega) | (simp [nums_length, zs]; done) | (simp [nums_length, zs]; omega))) ?_)
    | ((with_reducible refine gate_dst (N := 20) rfl ?_); refine gate_guard (by rfl) ?_; refine l_load1 rfl H 3 _ rfl _ _ rfl (by (repeat (first | exact In.head | apply In.tail))) _ Tryd.underlying3 rfl _ (by first | rfl | assumption | exact nums_at _ (by omega)) ?_)
    | ((with_reducible refine gate_dst (N := 25) rfl ?_); refine l_load1 rfl H 22 _ rfl _ _ rfl (by (repeat (first | exact In.head | apply In.tail))) _ Tryd.underlying22 rfl _ (by first | rfl | assumption | exact nums_at _ (by omega)) ?_)
    | ((with_reducible refine gate_dst (N := 8) rfl ?_); refine l_allocA rfl H 28 rfl _ zero28 ?_; clear H; intro g8 W H)
    | ((with_reducible refine gate_store (t := 28) (p := 8) rfl ?_); refine l_storeW rfl H 28 _ _ rfl _ rfl _ rfl (by (repeat (first | exact In.head | apply In.tail))) _ size28 (by (first | rfl | assumption | omega | (simp only [nums_length]; omega) | (simp [nums_length, zs]; done) | (simp [nums_length, zs]; omega))) (by (first | rfl | assumption | omega | (simp only [nums_length]; omega) | (simp [nums_length, zs]; done) | (simp [nums_length, zs]; omega))) (by (first | exact nums_one | assumption | (intro u hu; simp at hu; subst hu; rfl) | (intro u hu; simp at hu; rcases hu with rfl | rfl | rfl | rfl | rfl | rfl | rfl <;> rfl) | (intro u hu; simp at hu; rcases hu with rfl | rfl | rfl | rfl <;> rfl) | (intro u hu; simp at hu; rcases hu with rfl | rfl | rfl <;> rfl) | (intro u hu; simp at hu; rcases hu with rfl | rfl <;> rfl))) ?_; clear H; intro W H)
      | (go_at_call 18; (with_reducible refine (AC _ (Kd.C_below hC H.below) (Kd.C_below hk H.below)).mono ?_); rintro e W ⟨v5, rfl, ho, hb'⟩; replace H := H.addRow hb' ho; clear ho hb'; obtain ⟨A5, c5, rfl⟩ := H.row_slice .head)
      | (go_at_call 10; (with_reducible refine (KC _ _ _ (H.rd .head).1 (H.rd .head).2.1 (hH.below H.below)).mono ?_); rintro e W ⟨S, Ar, cr, Ap, cp, cells, D, rfl, rfl, hD, hpl2, hr100, HO⟩; replace H := (H.addOwn HO).perm (List.Perm.cons _ (List.Perm.cons _ List.perm_append_comm)); clear HO; dsimp only [List.cons_append, List.nil_append] at H; dsimp only at hD; simp only [hlm]; simp only [hlm] at H; generalize (if Img.restB fl 16 (cl (s7 : Int)) = true then (1 : Int) else 2) = kd))
      refine start_ (n := 33) (S := Own _ _ _) (ds := []) #[false, false, false, false, false, false, false, false, false, false, false, false, false, false, false, false, false, false, false, false, false, false, false, false, false, false, false, false, false, false, false, false, false] (by kernel_rfl) rfl rfl H.drew (fun hHeld => ?_)
      replace H := H.drew
      generalize World.drew _ = W at H hHeld ⊢
      refine pure_ (i := 0) (N := some 28) (v := ?_) (a' := ?_) #[true, false, false, false, false, false, false, false, false, false, false, false, false, false, false, false, false, false, false, false, false, false, false, false, false, false, false, false, false, false, false, false, false] rfl rfl (by kernel_rfl) (fun _ _ _ h => h) (Or.inl ⟨by rfl, ?_⟩) ?_ ?_
      rotate_left
      · intro w'
        go_simp
        with_reducible rfl
      rotate_left
      · simp only [Act.put, List.setIfInBounds_toArray, List.set_cons_zero, List.set_cons_succ, i64_w, i32_w]
        rfl
      refine pure_ (i := 3) (N := some 31) (v := ?_) (a' := ?_) #[true, false, false, true, false, false, false, false, false, false, false, false, false, false, false, false, false, false, false, false, false, false, false, false, false, false, false, false, false, false, false, false, false] rfl rfl (by kernel_rfl) (fun _ _ _ h => h) (Or.inl ⟨by rfl, ?_⟩) ?_ ?_
      rotate_left
      · intro w'
        go_simp
        with_reducible rfl
      rotate_left
      · simp only [Act.put, List.setIfInBounds_toArray, List.set_cons_zero, List.set_cons_succ, i64_w, i32_w]
        rfl
      refine one_ (i := 1) (N := some 29) #[true, true, false, true, false, false, false, false, false, false, false, false, false, false, false, false, false, false, false, false, false, false, false, false, false, false, false, false, false, false, false, false, false] rfl rfl (by kernel_rfl) (by decide) (fun K hK => ?_)
      refine wanted_ rfl ?_
      refine w_load1 H 25 _ rfl _ _ rfl (by (repeat (first | exact In.head | apply In.tail))) _ Tryd.underlying25 rfl _ (by first | rfl | assumption | exact nums_at _ (by omega)) ?_
      refine hK.out _ _ ?_ (fun hHeld => ?_)
      · first | trivial | exact H | exact H.del .head | exact (H.del .head).del .head | exact H.heap (by (repeat (first | exact In.head | apply In.tail)))
      clear hK K
      refine norm_ (a' := ?_) ?_ ?_
      rotate_left
      · show Act.put _ (some 29) _ = _
        simp only [Act.put, List.setIfInBounds_toArray, List.set_cons_zero, List.set_cons_succ, i64_w, i32_w]
        rfl
      refine pure_ (i := 2) (N := some 30) (v := ?_) (a' := ?_) #[true, true, true, true, false, false, false, false, false, false, false, false, false, false, false, false, false, false, false, false, false, false, false, false, false, false, false, false, false, false, false, false, false] rfl rfl (by kernel_rfl) (fun _ _ _ h => h) (Or.inl ⟨by rfl, ?_⟩) ?_ ?_
      rotate_left
      · intro w'
        go_simp
        with_reducible rfl
      rotate_left
      · simp only [Act.put, List.setIfInBounds_toArray, List.set_cons_zero, List.set_cons_succ, i64_w, i32_w]
        rfl
      refine pure_ (i := 4) (N := some 32) (v := ?_) (a' := ?_) #[true, true, true, true, true, false, false, false, false, false, false, false, false, false, false, false, false, false, false, false, false, false, false, false, false, false, false, false, false, false, false, false, false] rfl rfl (by kernel_rfl) (fun _ _ _ h => h) (Or.inl ⟨by rfl, ?_⟩) ?_ ?_
      rotate_left
      · intro w'
        go_simp
        with_reducible rfl
      rotate_left
      · simp only [Act.put, List.setIfInBounds_toArray, List.set_cons_zero, List.set_cons_succ, i64_w, i32_w]
        rfl
      refine pure_ (i := 5) (N := some 33) (v := ?_) (a' := ?_) #[true, true, true, true, true, true, false, false, false, false, false, false, false, false, false, false, false, false, false, false, false, false, false, false, false, false, false, false, false, false, false, false, false] rfl rfl (by kernel_rfl) (fun _ _ _ h => h) (Or.inl ⟨by rfl, ?_⟩) ?_ ?_
      rotate_left
      · intro w'
        go_simp
        with_reducible rfl
      rotate_left
      · simp only [Act.put, List.setIfInBounds_toArray, List.set_cons_zero, List.set_cons_succ, i64_w, i32_w]
        rfl
      refine pure_ (i := 6) (N := some 34) (v := ?_) (a' := ?_) #[true, true, true, true, true, true, true, false, false, false, false, false, false, false, false, false, false, false, false, false, false, false, false, false, false, false, false, false, false, false, false, false, false] rfl rfl (by kernel_rfl) (fun _ _ _ h => h) (Or.inl ⟨by rfl, ?_⟩) ?_ ?_
      rotate_left
      · intro w'
        go_simp
        with_reducible rfl
      rotate_left
      · simp only [Act.put, List.setIfInBounds_toArray, List.set_cons_zero, List.set_cons_succ, i64_w, i32_w]
        rfl
      refine pure_ (i := 9) (N := some 37) (v := ?_) (a' := ?_) #[true, true, true, true, true, true, true, false, false, true, false, false, false, false, false, false, false, false, false, false, false, false, false, false, false, false, false, false, false, false, false, false, false] rfl rfl (by kernel_rfl) (fun _ _ _ h => h) (Or.inl ⟨by rfl, ?_⟩) ?_ ?_
      rotate_left
      · intro w'
        go_simp
        with_reducible rfl
      rotate_left
      · simp only [Act.put, List.setIfInBounds_toArray, List.set_cons_zero, List.set_cons_succ, i64_w, i32_w]
        rfl
      refine take_load1 (i := 7) (N := some 35) (a' := ?_) #[true, true, true, true, true, true, true, true, false, true, false, false, false, false, false, false, false, false, false, false, false, false, false, false, false, false, false, false, false, false, false, false, false] rfl rfl (by kernel_rfl) (fun _ _ _ _ h => h) (by rfl) hHeld 25 _ rfl _ _ rfl (by (repeat (first | exact In.head | apply In.tail))) _ Tryd.underlying25 rfl _ (by first | rfl | assumption | exact nums_at _ (by omega)) ?_ ?_
      rotate_left
      · simp only [Act.put, List.setIfInBounds_toArray, List.set_cons_zero, List.set_cons_succ, i64_w, i32_w]
        rfl
      refine pure_ (i := 8) (N := some 36) (v := ?_) (a' := ?_) #[true, true, true, true, true, true, true, true, true, true, false, false, false, false, false, false, false, false, false, false, false, false, false, false, false, false, false, false, false, false, false, false, false] rfl rfl (by kernel_rfl) (fun _ _ _ h => h) (Or.inl ⟨by rfl, ?_⟩) ?_ ?_
      rotate_left
      · intro w'
        go_simp
        with_reducible rfl
      rotate_left
      · simp only [Act.put, List.setIfInBounds_toArray, List.set_cons_zero, List.set_cons_succ, i64_w, i32_w]
        rfl
      refine one_ (i := 10) (N := some 38) #[true, true, true, true, true, true, true, true, true, true, true, false, false, false, false, false, false, false, false, false, false, false, false, false, false, false, false, false, false, false, false, false, false] rfl rfl (by kernel_rfl) (by decide) (fun K hK => ?_)
      refine wanted_ rfl ?_
      refine w_load1 H 25 _ rfl _ _ rfl (by (repeat (first | exact In.head | apply In.tail))) _ Tryd.underlying25 rfl _ (by first | rfl | assumption | exact nums_at _ (by omega)) ?_
      refine hK.out _ _ ?_ (fun hHeld => ?_)
      · first | trivial | exact H | exact H.del .head | exact (H.del .head).del .head | exact H.heap (by (repeat (first | exact In.head | apply In.tail)))
      clear hK K
      refine norm_ (a' := ?_) ?_ ?_
      rotate_left
      · show Act.put _ (some 38) _ = _
        simp only [Act.put, List.setIfInBounds_toArray, List.set_cons_zero, List.set_cons_succ, i64_w, i32_w]
        rfl
      refine pure_ (i := 11) (N := some 39) (v := ?_) (a' := ?_) #[true, true, true, true, true, true, true, true, true, true, true, true, false, false, false, false, false, false, false, false, false, false, false, false, false, false, false, false, false, false, false, false, false] rfl rfl (by kernel_rfl) (fun _ _ _ h => h) (Or.inl ⟨by rfl, ?_⟩) ?_ ?_
      rotate_left
      · intro w'
        go_simp
        with_reducible rfl
      rotate_left
      · simp only [Act.put, List.setIfInBounds_toArray, List.set_cons_zero, List.set_cons_succ, i64_w, i32_w]
        rfl
      refine pure_ (i := 12) (N := some 40) (v := ?_) (a' := ?_) #[true, true, true, true, true, true, true, true, true, true, true, true, true, false, false, false, false, false, false, false, false, false, false, false, false, false, false, false, false, false, false, false, false] rfl rfl (by kernel_rfl) (fun _ _ _ h => h) (Or.inl ⟨by rfl, ?_⟩) ?_ ?_
      rotate_left
      · intro w'
        go_simp
        with_reducible rfl
      rotate_left
      · simp only [Act.put, List.setIfInBounds_toArray, List.set_cons_zero, List.set_cons_succ, i64_w, i32_w]
        rfl
      refine pure_ (i := 13) (N := some 41) (v := ?_) (a' := ?_) #[true, true, true, true, true, true, true, true, true, true, true, true, true, true, false, false, false, false, false, false, false, false, false, false, false, false, false, false, false, false, false, false, false] rfl rfl (by kernel_rfl) (fun _ _ _ h => h) (Or.inl ⟨by rfl, ?_⟩) ?_ ?_
      rotate_left
      · intro w'
        go_simp
        with_reducible rfl
      rotate_left
      · simp only [Act.put, List.setIfInBounds_toArray, List.set_cons_zero, List.set_cons_succ, i64_w, i32_w]
        rfl
      refine pure_ (i := 14) (N := some 42) (v := ?_) (a' := ?_) #[true, true, true, true, true, true, true, true, true, true, true, true, true, true, true, false, false, false, false, false, false, false, false, false, false, false, false, false, false, false, false, false, false] rfl rfl (by kernel_rfl) (fun _ _ _ h => h) (Or.inl ⟨by rfl, ?_⟩) ?_ ?_
      rotate_left
      · intro w'
        go_simp
        with_reducible rfl
      rotate_left
      · simp only [Act.put, List.setIfInBounds_toArray, List.set_cons_zero, List.set_cons_succ, i64_w, i32_w]
        rfl
      refine pure_ (i := 15) (N := some 43) (v := ?_) (a' := ?_) #[true, true, true, true, true, true, true, true, true, true, true, true, true, true, true, true, false, false, false, false, false, false, false, false, false, false, false, false, false, false, false, false, false] rfl rfl (by kernel_rfl) (fun _ _ _ h => h) (Or.inl ⟨by rfl, ?_⟩) ?_ ?_
      rotate_left
      · intro w'
        go_simp
        with_reducible rfl
      rotate_left
      · simp only [Act.put, List.setIfInBounds_toArray, List.set_cons_zero, List.set_cons_succ, i64_w, i32_w]
        rfl
      refine pure_ (i := 17) (N := some 45) (v := ?_) (a' := ?_) #[true, true, true, true, true, true, true, true, true, true, true, true, true, true, true, true, false, true, false, false, false, false, false, false, false, false, false, false, false, false, false, false, false] rfl rfl (by kernel_rfl) (fun _ _ _ h => h) (Or.inl ⟨by rfl, ?_⟩) ?_ ?_
      rotate_left
      · intro w'
        go_simp
        with_reducible rfl
      rotate_left
      · simp only [Act.put, List.setIfInBounds_toArray, List.set_cons_zero, List.set_cons_succ, i64_w, i32_w]
        rfl
      refine pure_ (i := 19) (N := some 47) (v := ?_) (a' := ?_) #[true, true, true, true, true, true, true, true, true, true, true, true, true, true, true, true, false, true, false, true, false, false, false, false, false, false, false, false, false, false, false, false, false] rfl rfl (by kernel_rfl) (fun _ _ _ h => h) (Or.inl ⟨by rfl, ?_⟩) ?_ ?_
      rotate_left
      · intro w'
        go_simp
        with_reducible rfl
      rotate_left
      · simp only [Act.put, List.setIfInBounds_toArray, List.set_cons_zero, List.set_cons_succ, i64_w, i32_w]
        rfl
      refine pure_ (i := 22) (N := some 50) (v := ?_) (a' := ?_) #[true, true, true, true, true, true, true, true, true, true, true, true, true, true, true, true, false, true, false, true, false, false, true, false, false, false, false, false, false, false, false, false, false] rfl rfl (by kernel_rfl) (fun _ _ _ h => h) (Or.inl ⟨by rfl, ?_⟩) ?_ ?_
      rotate_left
      · intro w'
        go_simp
        with_reducible rfl
      rotate_left
      · simp only [Act.put, List.setIfInBounds_toArray, List.set_cons_zero, List.set_cons_succ, i64_w, i32_w]
        rfl
      refine take_load1 (i := 16) (N := some 44) (a' := ?_) #[true, true, true, true, true, true, true, true, true, true, true, true, true, true, true, true, true, true, false, true, false, false, true, false, false, false, false, false, false, false, false, false, false] rfl rfl (by kernel_rfl) (fun _ _ _ _ h => h) (by rfl) hHeld 25 _ rfl _ _ rfl (by (repeat (first | exact In.head | apply In.tail))) _ Tryd.underlying25 rfl _ (by first | rfl | assumption | exact nums_at _ (by omega)) ?_ ?_
      rotate_left
      · simp only [Act.put, List.setIfInBounds_toArray, List.set_cons_zero, List.set_cons_succ, i64_w, i32_w]
        rfl
      refine take_load1 (i := 18) (N := some 46) (a' := ?_) #[true, true, true, true, true, true, true, true, true, true, true, true, true, true, true, true, true, true, true, true, false, false, true, false, false, false, false, false, false, false, false, false, false] rfl rfl (by kernel_rfl) (fun _ _ _ _ h => h) (by rfl) hHeld 25 _ rfl _ _ rfl (by (repeat (first | exact In.head | apply In.tail))) _ Tryd.underlying25 rfl _ (by first | rfl | assumption | exact nums_at _ (by omega)) ?_ ?_
      rotate_left
      · simp only [Act.put, List.setIfInBounds_toArray, List.set_cons_zero, List.set_cons_succ, i64_w, i32_w]
        rfl
      refine take_load1 (i := 20) (N := some 48) (a' := ?_) #[true, true, true, true, true, true, true, true, true, true, true, true, true, true, true, true, true, true, true, true, true, false, true, false, false, false, false, false, false, false, false, false, false] rfl rfl (by kernel_rfl) (fun _ _ _ _ h => h) (by rfl) hHeld 25 _ rfl _ _ rfl (by (repeat (first | exact In.head | apply In.tail))) _ Tryd.underlying25 rfl _ (by first | rfl | assumption | exact nums_at _ (by omega)) ?_ ?_
      rotate_left
      · simp only [Act.put, List.setIfInBounds_toArray, List.set_cons_zero, List.set_cons_succ, i64_w, i32_w]
        rfl
      refine pure_ (i := 21) (N := some 49) (v := ?_) (a' := ?_) #[true, true, true, true, true, true, true, true, true, true, true, true, true, true, true, true, true, true, true, true, true, true, true, false, false, false, false, false, false, false, false, false, false] rfl rfl (by kernel_rfl) (fun _ _ _ h => h) (Or.inl ⟨by rfl, ?_⟩) ?_ ?_
      rotate_left
      · intro w'
        go_simp
        with_reducible rfl
      rotate_left
      · simp only [Act.put, List.setIfInBounds_toArray, List.set_cons_zero, List.set_cons_succ, i64_w, i32_w]
        rfl
      refine one_ (i := 23) (N := some 51) #[true, true, true, true, true, true, true, true, true, true, true, true, true, true, true, true, true, true, true, true, true, true, true, true, false, false, false, false, false, false, false, false, false] rfl rfl (by kernel_rfl) (by decide) (fun K hK => ?_)
      refine wanted_ rfl ?_
      refine w_load1 H 25 _ rfl _ _ rfl (by (repeat (first | exact In.head | apply In.tail))) _ Tryd.underlying25 rfl _ (by first | rfl | assumption | exact nums_at _ (by omega)) ?_
      refine hK.out _ _ ?_ (fun hHeld => ?_)
      · first | trivial | exact H | exact H.del .head | exact (H.del .head).del .head | exact H.heap (by (repeat (first | exact In.head | apply In.tail)))
      clear hK K
      refine norm_ (a' := ?_) ?_ ?_
      rotate_left
      · show Act.put _ (some 51) _ = _
        simp only [Act.put, List.setIfInBounds_toArray, List.set_cons_zero, List.set_cons_succ, i64_w, i32_w]
        rfl
      refine pure_ (i := 24) (N := some 52) (v := ?_) (a' := ?_) #[true, true, true, true, true, true, true, true, true, true, true, true, true, true, true, true, true, true, true, true, true, true, true, true, true, false, false, false, false, false, false, false, false] rfl rfl (by kernel_rfl) (fun _ _ _ h => h) (Or.inl ⟨by rfl, ?_⟩) ?_ ?_
      rotate_left
      · intro w'
        go_simp
        with_reducible rfl
      rotate_left
      · simp only [Act.put, List.setIfInBounds_toArray, List.set_cons_zero, List.set_cons_succ, i64_w, i32_w]
        rfl
      refine pure_ (i := 25) (N := some 53) (v := ?_) (a' := ?_) #[true, true, true, true, true, true, true, true, true, true, true, true, true, true, true, true, true, true, true, true, true, true, true, true, true, true, false, false, false, false, false, false, false] rfl rfl (by kernel_rfl) (fun _ _ _ h => h) (Or.inl ⟨by rfl, ?_⟩) ?_ ?_
      rotate_left
      · intro w'
        go_simp
        with_reducible rfl
      rotate_left
      · simp only [Act.put, List.setIfInBounds_toArray, List.set_cons_zero, List.set_cons_succ, i64_w, i32_w]
        rfl
      refine take_run (i := 26) (N := some 54) (a' := ?_) #[true, true, true, true, true, true, true, true, true, true, true, true, true, true, true, true, true, true, true, true, true, true, true, true, true, true, true, false, false, false, false, false, false] rfl rfl (by kernel_rfl) (fun _ _ _ _ h => h) (by rfl) hHeld (.slice A m c) (fun X HX => x_slice_to _ _ rfl rfl Tryd.underlying25 size38 m rfl hmc X) ?_ ?_
      rotate_left
      · simp only [Act.put, List.setIfInBounds_toArray, List.set_cons_zero, List.set_cons_succ, i64_w, i32_w]
        rfl
      refine one_ (i := 27) (N := some 55) #[true, true, true, true, true, true, true, true, true, true, true, true, true, true, true, true, true, true, true, true, true, true, true, true, true, true, true, true, false, false, false, false, false] rfl rfl (by kernel_rfl) (by decide) (fun K hK => ?_)
      refine callK_ (SM Ar cr _ (by subst hlm; exact hD.C H (by repeat (first|exact In.head|apply In.tail)) (fun r hr => by simp [hr]) (by omega)) (H.rd (n := m) (cc := cr) (by repeat (first|exact In.head|apply In.tail))).2.1 (Kd.C_below hCm H.below)) Tryd.func12 (by kernel_rfl) rfl (by rfl) rfl rfl (by (try simp only [List.map_toArray, List.map_cons, List.map_nil]); first | done | rfl) ?_
      rintro e W ⟨rfl, hb'⟩
      refine ⟨_, rfl, ?_⟩
      replace H := H.to hb'
      clear hb'
      refine hK.out _ _ ?_ (fun hHeld => ?_)
      · first | trivial | exact H | exact H.del .head | exact (H.del .head).del .head | exact H.heap (by (repeat (first | exact In.head | apply In.tail)))
      clear hK K
      refine norm_ (a' := ?_) ?_ ?_
      rotate_left
      · show Act.put _ (some 55) _ = _
        simp only [Act.put, List.setIfInBounds_toArray, List.set_cons_zero, List.set_cons_succ, i64_w, i32_w]
        rfl
      refine pure_ (i := 28) (N := some 56) (v := ?_) (a' := ?_) #[true, true, true, true, true, true, true, true, true, true, true, true, true, true, true, true, true, true, true, true, true, true, true, true, true, true, true, true, true, false, false, false, false] rfl rfl (by kernel_rfl) (fun _ _ _ h => h) (Or.inl ⟨by rfl, ?_⟩) ?_ ?_
      rotate_left
      · intro w'
        go_simp
        with_reducible rfl
      rotate_left
      · simp only [Act.put, List.setIfInBounds_toArray, List.set_cons_zero, List.set_cons_succ, i64_w, i32_w]
        rfl
      refine pure_ (i := 29) (N := some 57) (v := ?_) (a' := ?_) #[true, true, true, true, true, true, true, true, true, true, true, true, true, true, true, true, true, true, true, true, true, true, true, true, true, true, true, true, true, true, false, false, false] rfl rfl (by kernel_rfl) (fun _ _ _ h => h) (Or.inl ⟨by rfl, ?_⟩) ?_ ?_
      rotate_left
      · intro w'
        go_simp
        with_reducible rfl
      rotate_left
      · simp only [Act.put, List.setIfInBounds_toArray, List.set_cons_zero, List.set_cons_succ, i64_w, i32_w]
        rfl
      refine one_ (i := 30) (N := some 58) #[true, true, true, true, true, true, true, true, true, true, true, true, true, true, true, true, true, true, true, true, true, true, true, true, true, true, true, true, true, true, true, false, false] rfl rfl (by kernel_rfl) (by decide) (fun K hK => ?_)
      refine callK_ (AW _ (hH.below H.below)) Tryd.func9 (by kernel_rfl) rfl (by rfl) rfl rfl (by (try simp only [List.map_toArray, List.map_cons, List.map_nil]); first | done | rfl) ?_
      rintro e W ⟨rfl, hb'⟩
      refine ⟨_, rfl, ?_⟩
      replace H := H.to hb'
      clear hb'
      refine hK.out _ _ ?_ (fun hHeld => ?_)
      · first | trivial | exact H | exact H.del .head | exact (H.del .head).del .head | exact H.heap (by (repeat (first | exact In.head | apply In.tail)))
      clear hK K
      refine norm_ (a' := ?_) ?_ ?_
      rotate_left
      · show Act.put _ (some 58) _ = _
        simp only [Act.put, List.setIfInBounds_toArray, List.set_cons_zero, List.set_cons_succ, i64_w, i32_w]
        rfl
      refine pure_ (i := 31) (N := some 59) (v := ?_) (a' := ?_) #[true, true, true, true, true, true, true, true, true, true, true, true, true, true, true, true, true, true, true, true, true, true, true, true, true, true, true, true, true, true, true, true, false] rfl rfl (by kernel_rfl) (fun _ _ _ h => h) (Or.inl ⟨by rfl, ?_⟩) ?_ ?_
      rotate_left
      · intro w'
        go_simp
        with_reducible rfl
      rotate_left
      · simp only [Act.put, List.setIfInBounds_toArray, List.set_cons_zero, List.set_cons_succ, i64_w, i32_w]
        rfl
      refine pure_ (i := 32) (N := some 4) (v := ?_) (a' := ?_) #[true, true, true, true, true, true, true, true, true, true, true, true, true, true, true, true, true, true, true, true, true, true, true, true, true, true, true, true, true, true, true, true, true] rfl rfl (by kernel_rfl) (fun _ _ _ h => h) (Or.inl ⟨by rfl, ?_⟩) ?_ ?_
      rotate_left
      · intro w'
        go_simp
        with_reducible rfl
      rotate_left
      · simp only [Act.put, List.setIfInBounds_toArray, List.set_cons_zero, List.set_cons_succ, i64_w, i32_w]
        rfl
      refine done_ (by kernel_rfl) ?_
      clear hHeld
      go_wp2_with fail
      go_ret
      exact ⟨rfl, H.below⟩
    · have q3 : decide (torn ≥ 0) = true := decide_eq_true (by omega)
      have q4 : decide ((0 : Int) ≤ torn) = true := decide_eq_true (by omega)
      clear hok hf htO htN hn hll hl
      generalize flatW e64 (Img.laySt e64 l s).1 bO 16 = fo at *
      generalize flatW e64 (Img.laySt e64 l l.length).1 bN 16 = fn at *
      generalize appF fo fn keep torn cut 16 = fl at *
      generalize l.length = n at *
      generalize keep.length = lk at *
      go_enter Tryd.func5, Tryd.ntmps5
      go_wp2_with (first
    | ((with_reducible refine gate_dst (N := 2) rfl ?_); refine l_boxA rfl H 44 _ rfl _ rfl ?_; clear H; intro g2 W H)
    | ((with_reducible refine gate_dst (N := 3) rfl ?_); refine l_boxA rfl H 46 _ rfl _ rfl ?_; clear H; intro g3 W H)
    | ((with_reducible refine gate_dst (N := 10) rfl ?_); refine l_loadA rfl H 44 _ rfl _ rfl (by (repeat (first | exact In.head | apply In.tail))) _ _ Tryd.underlying44 rfl size44 (by (first | rfl | assumption | omega | (simp only [nums_length]; omega) | (simp [nums_length, zs]; done) | (simp [nums_length, zs]; omega))) ?_)
    | ((with_reducible refine gate_dst (N := 11) rfl ?_); refine l_loadA rfl H 46 _ rfl _ rfl (by (repeat (first | exact In.head | apply In.tail))) _ _ Tryd.underlying46 rfl size46 (by (first | rfl | assumption | omega | (simp only [nums_length]; omega) | (simp [nums_length, zs]; done) | (simp [nums_length, zs]; omega))) ?_)
    | ((with_reducible refine gate_dst (N := 20) rfl ?_); refine gate_guard (by rfl) ?_; refine l_load1 rfl H 3 _ rfl _ _ rfl (by (repeat (first | exact In.head | apply In.tail))) _ Tryd.underlying3 rfl _ (by first | rfl | assumption | exact nums_at _ (by omega)) ?_)
      | (go_at_call 18; (with_reducible refine (AC _ (Kd.C_below hC H.below) (Kd.C_below hk H.below)).mono ?_); rintro e W ⟨v5, rfl, ho, hb'⟩; replace H := H.addRow hb' ho; clear ho hb'; obtain ⟨A5, c5, rfl⟩ := H.row_slice .head)
      | (go_at_call 9; (with_reducible refine (AW _ (hH.below H.below)).mono ?_); rintro e W ⟨rfl, hb'⟩; replace H := H.to hb'; clear hb'))
      go_ret
      exact ⟨rfl, H.below⟩
end Go.Proofs.YtaekpfhgdnfciaaDoor.O
end

section
/- An argument strandlinelaw19.Synced by value. -/
namespace Go.Proofs.YtaekpfhgdnfciaaDoor.F
open Go.ChangeShapes Go.WideShapes Go.ChangeAt Go.RowKit Go.Joins Go.Deep Go.Proofs.YtaekpfhgdnfciaaDoorW.PrintWords
set_option linter.unusedVariables false
section
variable {H : Type} {enc : TypeId × Value → H} {W : World} {held : Bool}
set_option maxRecDepth 100000 in
theorem open_synced {r : Reach} {b0 : Nat} {v : Value} {d : DataW H} {p : List MemPlace} (hv : Value.okWide Tryd.prog W r b0 44 v) (h : DataW.Trod enc Tryd.prog W 0 (fun _ => true) held 44 v d p) (hw : Fit Tryd.prog 44 d) :
    ∃ (t u : Int) (A : Option Addr) (xs : List (List Int)) (c : Nat), v = .agg #[.int .u64 t, .slice A xs.length c, .int .u64 u] ∧ xs.length ≤ c ∧ (Kd.slice 5 (Kd.int .u8)).C W A xs.length xs ∧ (∀ x ∈ xs, (∀ z ∈ x, (Lit.int .u8 z).wf = true) ∧ x.length * Tryd.prog.bytesOf 5 ≤ reachBytes) ∧ xs.length * Tryd.prog.bytesOf 38 ≤ reachBytes ∧ (Lit.int .u64 t).wf = true ∧ (Lit.int .u64 u).wf = true := by
  simp only [Value.okWide, Tryd.underlying44] at hv
  obtain ⟨cs, rfl, -, -⟩ := hv
  obtain ⟨fuel, hf⟩ := h
  obtain ⟨y0, y1, y2, m, hx, hl, h0, h1, h2⟩ := trod_struct3 Tryd.underlying44 hf
  have hl3 : (Value.agg cs).cells.toList.length = 3 := hl.trans (by kernel_rfl)
  obtain ⟨c0, c1, c2, hcs⟩ : ∃ a b c, (Value.agg cs).cells.toList = [a, b, c] := by
    match h9 : (Value.agg cs).cells.toList, hl3 with
    | [a, b, c], _ => exact ⟨a, b, c, rfl⟩
  rw [hcs] at h0 h1 h2
  rw [show Tryd.prog.cellsOf 22 = 1 by kernel_rfl] at h0
  rw [show Tryd.prog.cellsOf 25 = 1 by kernel_rfl] at h1
  rw [show Tryd.prog.cellsOf 42 = 1 by kernel_rfl] at h2
  obtain ⟨z0, e0, -, u0⟩ := DataW.trod_int Tryd.underlying22 h0
  obtain ⟨z2, e2, -, u2⟩ := DataW.trod_int Tryd.underlying42 h2
  injection hx with hx1 hx2
  subst hx1
  have hf1 : Fit Tryd.prog 25 y1.1 := by
    intro q hq
    refine hw q ?_
    simp only [DataW.weights, Tryd.underlying44]
    simp only [DataW.weightsEach, List.map_cons, List.map_nil, List.mem_append]
    exact Or.inr (Or.inl hq)
  obtain ⟨A, xs, c, e1, l1, g1, b1, n1⟩ := open_C_rows 5 Tryd.underlying25 Tryd.underlying38 Tryd.underlying5 (by kernel_rfl) (by kernel_rfl) h1 hf1
  simp at e0 e1 e2
  subst e0 e1 e2
  refine ⟨z0, z2, A, xs, c, ?_, l1, g1, b1, n1, u0, u2⟩
  have : cs.toList = [.int .u64 z0, .slice A xs.length c, .int .u64 z2] := hcs
  have e9 : cs = [Value.int .u64 z0, .slice A xs.length c, .int .u64 z2].toArray := by rw [← this]
  rw [e9]
end
end Go.Proofs.YtaekpfhgdnfciaaDoor.F
end

section
/- An argument api.Crash by value. -/
namespace Go.Proofs.YtaekpfhgdnfciaaDoor.F
open Go.ChangeShapes Go.WideShapes Go.ChangeAt Go.RowKit Go.Joins Go.Deep Go.Proofs.YtaekpfhgdnfciaaDoorW.PrintWords
set_option linter.unusedVariables false
section
variable {H : Type} {enc : TypeId × Value → H} {W : World} {held : Bool}
set_option maxRecDepth 100000 in
theorem open_crash {r : Reach} {b0 : Nat} {v : Value} {d : DataW H} {p : List MemPlace} (hv : Value.okWide Tryd.prog W r b0 46 v) (h : DataW.Trod enc Tryd.prog W 0 (fun _ => true) held 46 v d p) (hw : Fit Tryd.prog 46 d) :
    ∃ (A : Option Addr) (xs : List Int) (c : Nat) (t u : Int), v = .agg #[.slice A xs.length c, .int .i64 t, .int .i64 u] ∧ xs.length ≤ c ∧ (Kd.int .u8).C W A xs.length xs ∧ (∀ x ∈ xs, (Lit.int .u8 x).wf = true) := by
  simp only [Value.okWide, Tryd.underlying46] at hv
  obtain ⟨cs, rfl, -, -⟩ := hv
  obtain ⟨fuel, hf⟩ := h
  obtain ⟨y0, y1, y2, m, hx, hl, h0, h1, h2⟩ := trod_struct3 Tryd.underlying46 hf
  have hl3 : (Value.agg cs).cells.toList.length = 3 := hl.trans (by kernel_rfl)
  obtain ⟨c0, c1, c2, hcs⟩ : ∃ a b c, (Value.agg cs).cells.toList = [a, b, c] := by
    match h9 : (Value.agg cs).cells.toList, hl3 with
    | [a, b, c], _ => exact ⟨a, b, c, rfl⟩
  rw [hcs] at h0 h1 h2
  rw [show Tryd.prog.cellsOf 3 = 1 by kernel_rfl] at h1 h2
  rw [show Tryd.prog.cellsOf 38 = 1 by kernel_rfl] at h0
  obtain ⟨z1, e1, -, -⟩ := DataW.trod_int Tryd.underlying3 h1
  obtain ⟨z2, e2, -, -⟩ := DataW.trod_int Tryd.underlying3 h2
  injection hx with hx1 hx2
  subst hx1
  have hf0 : Fit Tryd.prog 38 y0.1 := by
    intro q hq
    refine hw q ?_
    simp only [DataW.weights, Tryd.underlying46]
    simp only [DataW.weightsEach, List.map_cons, List.map_nil, List.mem_append]
    exact Or.inl hq
  obtain ⟨A, xs, c, e0, l0, g0, b0, -⟩ := open_C_ints Tryd.underlying38 Tryd.underlying5 (by kernel_rfl) h0 hf0
  simp at e0 e1 e2
  subst e0 e1 e2
  refine ⟨A, xs, c, z1, z2, ?_, l0, g0, b0⟩
  have : cs.toList = [.slice A xs.length c, .int .i64 z1, .int .i64 z2] := hcs
  have e9 : cs = [.slice A xs.length c, .int .i64 z1, .int .i64 z2].toArray := by rw [← this]
  rw [e9]
end
end Go.Proofs.YtaekpfhgdnfciaaDoor.F
end
