/- crash.Apply and the reference's: what any crash leaves of any sectors. -/
import Derived.Test.YthlpimojojofbaaSecs
import Derived.Test.YthlpimojojofbaaCrash
import Derived.Test.YthlpimojojofbaaCrashMix
import Derived.Test.YthlpimojojofbaaCrashKept
set_option linter.unusedVariables false
set_option linter.unusedSimpArgs false
namespace Go.Proofs.Ythlpimojojofbaa.O
open Go.RowKit Go.Proofs.Ythlpimojojofbaa.F Go.Proofs.Ythlpimojojofbaa.F.Nums Go.Proofs.YthlpimojojofbaaW.PrintWords Go.Proofs.YthlpimojojofbaaW.PrintLast Go.Proofs.YthlpimojojofbaaW.PrintMore Go.Proofs.Ythlpimojojofbaa.Plain
def nearN (c : Int) : Nat := (mx 0 (mn c 64)).toNat
theorem nearN_eq (c : Int) : mx 0 (mn c 64) = (nearN c : Int) := by unfold nearN mx mn; split <;> split <;> omega
theorem nearN_le (c : Int) : nearN c ≤ 64 := by unfold nearN mx mn; split <;> split <;> omega
theorem nearN_max (c : Int) : (nearN c : Int) = max 0 (min c 64) := by unfold nearN mx mn; split <;> split <;> omega
def mixL (xs ys : List Int) (c : Int) : List Int := ys.take (nearN c) ++ xs.drop (nearN c)
theorem mixL_len {xs ys : List Int} (hx : xs.length = 64) (hy : ys.length = 64) (c : Int) : (mixL xs ys c).length = 64 := by
  have := nearN_le c
  unfold mixL
  rw [List.length_append, List.length_take, List.length_drop]
  omega
theorem mixL_0 (xs ys : List Int) : mixL xs ys 0 = xs := by
  unfold mixL
  rw [show nearN 0 = 0 from rfl]
  simp
theorem mixL_64 {xs ys : List Int} (hx : xs.length = 64) (hy : ys.length = 64) : mixL xs ys 64 = ys := by
  unfold mixL
  rw [show nearN 64 = 64 from rfl, List.take_of_length_le (by omega), List.drop_of_length_le (by omega), List.append_nil]
section
variable (fo fn keep : List Int) (torn cut : Int)
def cutAt (k : Nat) : Int := if (k : Int) = torn then cut else if KB.bitb keep k = true then 64 else 0
def outAt (k : Nat) : List Int := mixL (secAt fo k) (secAt fn k) (cutAt keep torn cut k)
def appF : Nat → List Int
  | 0 => []
  | k + 1 => appF k ++ outAt fo fn keep torn cut k
variable {fo fn} {no nn : Nat}
theorem outAt_len (ho : fo.length = 64 * no) (hn : fn.length = 64 * nn) {k : Nat} (h1 : k < no) (h2 : k < nn) : (outAt fo fn keep torn cut k).length = 64 := mixL_len (secAt_len ho h1) (secAt_len hn h2) _
theorem appF_len (ho : fo.length = 64 * no) (hn : fn.length = 64 * nn) (k : Nat) (h1 : k ≤ no) (h2 : k ≤ nn) : (appF fo fn keep torn cut k).length = 64 * k := by
  induction k with
  | zero => rfl
  | succ k ih => rw [appF, List.length_append, ih (by omega) (by omega), outAt_len keep torn cut ho hn (by omega) (by omega)]; omega
set_option maxRecDepth 100000 in
set_option maxHeartbeats 4000000 in
theorem apply_calls (n : Nat) (ho : fo.length = 64 * no) (hn : fn.length = 64 * nn) (h1 : n ≤ no) (h2 : n ≤ nn) (hmin : n = no ∨ n = nn) (h100 : n ≤ 100) (hl : ∀ x ∈ keep, (Lit.int .u8 x).wf = true) (A B Ak : Option Addr) (c d ck : Nat) (w : World)
    (hA : Rd w A (nums .u8 fo)) (hB : Rd w B (nums .u8 fn)) (hc : no ≤ c) (hd : nn ≤ d) (hk : (Kd.int .u8).C w Ak keep.length keep) (hck : keep.length ≤ ck) :
    Calls Try.prog 54 #[.slice A no c, .slice B nn d, .agg #[.slice Ak keep.length ck, .int .i64 torn, .int .i64 cut]] w fun e W => ∃ v, e = .returned v ∧ Own w F0 [.row v 43 64 n (nums .u8 (appF fo fn keep torn cut n))] W := by
  have H := Own.start w
  have FB := fun (k : Nat) (W : World) (hb : Below w.heap.size w W) => word_Bit.calls Ak ck keep (k : Int) _ W (Kd.C_below hk hb) hck (KB.bit_eq hl (k : Int))
  have hmin2 : (if nn < no then (nn : Int) else (no : Int)) = (n : Int) := by split <;> omega
  generalize keep.length = lk at *
  clear hmin
  go_enter Try.func54, Try.ntmps54
  go_wp2_with (first
    | ((with_reducible refine gate_dst (N := 5) rfl ?_); refine l_boxA rfl H 37 _ rfl _ rfl ?_; clear H; intro g5 W H))
  go_loopg [7, 15] n (fun gq v7 v15 w' => ∃ k : Nat, v15 = .int .i64 (k : Int) ∧ k + gq = n ∧ Own w F0 [.row v7 43 64 k (nums .u8 (appF fo fn keep torn cut k)), .blk g5 37 [.slice Ak lk ck, .int .i64 torn, .int .i64 cut]] w')
  case atStart => exact ⟨0, rfl, by omega, H.cons (r := .row (.slice none 0 0) 43 64 0 []) (Below.refl _ _) (own_nil _ _ _ _) (fun k hk => by cases hk)⟩
  case round =>
    clear H
    obtain ⟨k, rfl, hkn, H⟩ := hrel
    by_cases ck : k < n
    · obtain ⟨gk', rfl⟩ : ∃ q, gk = q + 1 := ⟨gk - 1, by omega⟩
      have q1 : decide (k < n) = true := decide_eq_true ck
      obtain ⟨ad, rfl⟩ := hA.some_ (by rw [nums_length]; omega)
      obtain ⟨bd, rfl⟩ := hB.some_ (by rw [nums_length]; omega)
      have p0 : ((0 : Int) ≤ (k : Int)) = True := eq_true (by omega)
      have p1 : ((k : Int) < (no : Int)) = True := eq_true (by omega)
      have p2 : ((k : Int) < (nn : Int)) = True := eq_true (by omega)
      have nA : ((nums .u8 fo).drop (k * 64)).take 64 = nums .u8 (secAt fo k) := by rw [nums_drop, nums_take, Nat.mul_comm]; rfl
      have nB : ((nums .u8 fn).drop (k * 64)).take 64 = nums .u8 (secAt fn k) := by rw [nums_drop, nums_take, Nat.mul_comm]; rfl
      have lA := secAt_len ho (show k < no by omega)
      have lB := secAt_len hn (show k < nn by omega)
      have lF := appF_len keep torn cut ho hn k (by omega) (by omega)
      have hF : appF fo fn keep torn cut (k + 1) = appF fo fn keep torn cut k ++ mixL (secAt fo k) (secAt fn k) (cutAt keep torn cut k) := rfl
      have M := fun W => mix_calls _ _ lA lB (cutAt keep torn cut k) _ (nearN_eq _) (nearN_le _) W
      have lm := mixL_len lA lB (cutAt keep torn cut k)
      change ∀ W, Calls _ _ _ W (fun e w' => e = .returned (.agg (nums .u8 (mixL (secAt fo k) (secAt fn k) (cutAt keep torn cut k))).toArray) ∧ Below W.heap.size W w') at M
      generalize mixL (secAt fo k) (secAt fn k) (cutAt keep torn cut k) = mm at hF M lm
      generalize appF fo fn keep torn cut k = af at H hF lF
      generalize secAt fo k = sa at nA lA M
      generalize secAt fn k = sb at nB lB M
      have FB := FB k
      have hcut : cutAt keep torn cut k = if (k : Int) = torn then cut else if KB.bitb keep k = true then 64 else 0 := rfl
      generalize cutAt keep torn cut k = cc at hcut M
      generalize KB.bitb keep (k : Int) = b at hcut FB
      clear hl hk
      by_cases he : (k : Int) = torn
      · have q2 : ((k : Int) == torn) = true := by simp [he]
        rw [if_pos he] at hcut
        subst hcut
        clear he
        rcases b with _ | _
        all_goals
          go_wp2_with (first
    | ((with_reducible refine gate_dst (N := 19) rfl ?_); refine l_load1 rfl H 35 _ rfl _ _ rfl (by (repeat (first | exact In.head | apply In.tail))) _ Try.underlying35 rfl _ (by first | rfl | assumption | exact nums_at _ (by omega)) ?_)
    | ((with_reducible refine gate_dst (N := 24) rfl ?_); refine l_load1 rfl H 3 _ rfl _ _ rfl (by (repeat (first | exact In.head | apply In.tail))) _ Try.underlying3 rfl _ (by first | rfl | assumption | exact nums_at _ (by omega)) ?_)
    | ((with_reducible refine gate_dst (N := 27) rfl ?_); refine l_load1 rfl H 3 _ rfl _ _ rfl (by (repeat (first | exact In.head | apply In.tail))) _ Try.underlying3 rfl _ (by first | rfl | assumption | exact nums_at _ (by omega)) ?_)
    | (go_at_call 86; (with_reducible refine (FB _ H.below).mono ?_); rintro e W ⟨rfl, hb⟩; replace H := H.to hb.below; clear hb))
          refine start_ (n := 14) (S := Own _ _ _) (ds := [12]) #[false, false, false, false, false, false, false, false, false, false, false, false, false, false] (by kernel_rfl) rfl rfl H.drew (fun hHeld => ?_)
          replace H := H.drew
          generalize World.drew _ = W at H hHeld ⊢
          refine pure_ (i := 0) (N := some 28) (v := ?_) (a' := ?_) #[true, false, false, false, false, false, false, false, false, false, false, false, false, false] rfl rfl (by kernel_rfl) (fun _ _ _ h => h) (Or.inl ⟨by rfl, ?_⟩) ?_ ?_
          rotate_left
          · intro w'
            go_simp
            with_reducible rfl
          rotate_left
          · simp only [Act.put, List.setIfInBounds_toArray, List.set_cons_zero, List.set_cons_succ, i64_w, i32_w]
            rfl
          refine pure_ (i := 1) (N := some 29) (v := ?_) (a' := ?_) #[true, true, false, false, false, false, false, false, false, false, false, false, false, false] rfl rfl (by kernel_rfl) (fun _ _ _ h => h) (Or.inl ⟨by rfl, ?_⟩) ?_ ?_
          rotate_left
          · intro w'
            go_simp
            with_reducible rfl
          rotate_left
          · simp only [Act.put, List.setIfInBounds_toArray, List.set_cons_zero, List.set_cons_succ, i64_w, i32_w]
            rfl
          refine pure_ (i := 2) (N := some 30) (v := ?_) (a' := ?_) #[true, true, true, false, false, false, false, false, false, false, false, false, false, false] rfl rfl (by kernel_rfl) (fun _ _ _ h => h) (Or.inl ⟨by rfl, ?_⟩) ?_ ?_
          rotate_left
          · intro w'
            go_simp
            with_reducible rfl
          rotate_left
          · simp only [Act.put, List.setIfInBounds_toArray, List.set_cons_zero, List.set_cons_succ, i64_w, i32_w]
            rfl
          refine pure_ (i := 3) (N := some 31) (v := ?_) (a' := ?_) #[true, true, true, true, false, false, false, false, false, false, false, false, false, false] rfl rfl (by kernel_rfl) (fun _ _ _ h => h) (Or.inl ⟨by rfl, ?_⟩) ?_ ?_
          rotate_left
          · intro w'
            go_simp
            with_reducible rfl
          rotate_left
          · simp only [Act.put, List.setIfInBounds_toArray, List.set_cons_zero, List.set_cons_succ, i64_w, i32_w]
            rfl
          refine pure_ (i := 5) (N := some 33) (v := ?_) (a' := ?_) #[true, true, true, true, false, true, false, false, false, false, false, false, false, false] rfl rfl (by kernel_rfl) (fun _ _ _ h => h) (Or.inl ⟨by rfl, ?_⟩) ?_ ?_
          rotate_left
          · intro w'
            go_simp
            with_reducible rfl
          rotate_left
          · simp only [Act.put, List.setIfInBounds_toArray, List.set_cons_zero, List.set_cons_succ, i64_w, i32_w]
            rfl
          refine pure_ (i := 6) (N := some 34) (v := ?_) (a' := ?_) #[true, true, true, true, false, true, true, false, false, false, false, false, false, false] rfl rfl (by kernel_rfl) (fun _ _ _ h => h) (Or.inl ⟨by rfl, ?_⟩) ?_ ?_
          rotate_left
          · intro w'
            go_simp
            with_reducible rfl
          rotate_left
          · simp only [Act.put, List.setIfInBounds_toArray, List.set_cons_zero, List.set_cons_succ, i64_w, i32_w]
            rfl
          refine pure_ (i := 7) (N := some 35) (v := ?_) (a' := ?_) #[true, true, true, true, false, true, true, true, false, false, false, false, false, false] rfl rfl (by kernel_rfl) (fun _ _ _ h => h) (Or.inl ⟨by rfl, ?_⟩) ?_ ?_
          rotate_left
          · intro w'
            go_simp
            with_reducible rfl
          rotate_left
          · simp only [Act.put, List.setIfInBounds_toArray, List.set_cons_zero, List.set_cons_succ, i64_w, i32_w]
            rfl
          refine pure_ (i := 9) (N := some 37) (v := ?_) (a' := ?_) #[true, true, true, true, false, true, true, true, false, true, false, false, false, false] rfl rfl (by kernel_rfl) (fun _ _ _ h => h) (Or.inl ⟨by rfl, ?_⟩) ?_ ?_
          rotate_left
          · intro w'
            go_simp
            with_reducible rfl
          rotate_left
          · simp only [Act.put, List.setIfInBounds_toArray, List.set_cons_zero, List.set_cons_succ, i64_w, i32_w]
            rfl
          refine take_run (i := 4) (N := some 32) (a' := ?_) #[true, true, true, true, true, true, true, true, false, true, false, false, false, false] rfl rfl (by kernel_rfl) (fun _ _ _ _ h => h) (by rfl) hHeld (.agg (nums .u8 sa).toArray) (fun X HX => r_loadRdS 43 _ rfl (k * 64) rfl (hA.below HX.below) 64 _ Try.underlying43 rfl size43 (by decide) _ nA (by rw [nums_length]; exact lA)) ?_ ?_
          rotate_left
          · simp only [Act.put, List.setIfInBounds_toArray, List.set_cons_zero, List.set_cons_succ, i64_w, i32_w]
            rfl
          refine take_run (i := 8) (N := some 36) (a' := ?_) #[true, true, true, true, true, true, true, true, true, true, false, false, false, false] rfl rfl (by kernel_rfl) (fun _ _ _ _ h => h) (by rfl) hHeld (.agg (nums .u8 sb).toArray) (fun X HX => r_loadRdS 43 _ rfl (k * 64) rfl (hB.below HX.below) 64 _ Try.underlying43 rfl size43 (by decide) _ nB (by rw [nums_length]; exact lB)) ?_ ?_
          rotate_left
          · simp only [Act.put, List.setIfInBounds_toArray, List.set_cons_zero, List.set_cons_succ, i64_w, i32_w]
            rfl
          refine one_ (i := 10) (N := some 38) #[true, true, true, true, true, true, true, true, true, true, true, false, false, false] rfl rfl (by kernel_rfl) (by decide) (fun K hK => ?_)
          refine callK_ (M W) Try.func38 (by kernel_rfl) rfl (by rfl) rfl rfl (by (try simp only [List.map_toArray, List.map_cons, List.map_nil]); first | done | rfl) ?_
          rintro e W ⟨rfl, hb⟩
          refine ⟨_, rfl, ?_⟩
          replace H := H.to hb
          clear hb
          refine hK.out _ _ ?_ (fun hHeld => ?_)
          · first | trivial | exact H | exact H.del .head | exact (H.del .head).del .head
          clear hK K
          refine norm_ (a' := ?_) ?_ ?_
          rotate_left
          · show Act.put _ (some 38) _ = _
            simp only [Act.put, List.setIfInBounds_toArray, List.set_cons_zero, List.set_cons_succ, i64_w, i32_w]
            rfl
          refine one_ (i := 11) (N := some 39) #[true, true, true, true, true, true, true, true, true, true, true, true, false, false] rfl rfl (by kernel_rfl) (by decide) (fun K hK => ?_)
          refine wanted_ rfl ?_
          refine w_build1A H 81 43 _ rfl Try.underlying81 _ rfl _ _ zs43 rfl (by (first | rfl | assumption | omega | (simp only [nums_length]; omega) | (simp [nums_length, zs]; done) | (simp [nums_length, zs]; omega))) (by decide) (by decide) ?_
          clear H
          intro g39 W H
          refine hK.out _ _ ?_ (fun hHeld => ?_)
          · first | trivial | exact H | exact H.del .head | exact (H.del .head).del .head
          clear hK K
          refine norm_ (a' := ?_) ?_ ?_
          rotate_left
          · show Act.put _ (some 39) _ = _
            simp only [Act.put, List.setIfInBounds_toArray, List.set_cons_zero, List.set_cons_succ, i64_w, i32_w]
            rfl
          refine last_ (i := 12) (N := some 40) #[true, true, true, true, true, true, true, true, true, true, true, true, true, false] rfl rfl (by kernel_rfl) (by decide) (fun K hK => ?_)
          refine wanted_ rfl ?_
          refine w_append1 H _ _ 81 43 rfl Try.underlying81 _ _ _ inf43 rfl (by decide) (by decide) _ _ _ rfl (by (repeat (first | exact In.head | apply In.tail))) _ _ rfl (by (repeat (first | exact In.head | apply In.tail))) (by (first | rfl | assumption | omega | (simp only [nums_length]; omega) | (simp [nums_length, zs]; done) | (simp [nums_length, zs]; omega))) (by (first | exact nums_one | (intro u hu; simp at hu; subst hu; rfl) | (intro u hu; simp at hu; rcases hu with rfl | rfl | rfl | rfl | rfl | rfl | rfl <;> rfl) | (intro u hu; simp at hu; rcases hu with rfl | rfl | rfl | rfl <;> rfl) | (intro u hu; simp at hu; rcases hu with rfl | rfl | rfl <;> rfl) | (intro u hu; simp at hu; rcases hu with rfl | rfl <;> rfl))) (by omega) ?_
          clear H
          intro v40 W H
          refine hK.out _ _ ?_
          clear hK K
          refine norm_ (a' := ?_) ?_ ?_
          rotate_left
          · show Act.put _ (some 40) _ = _
            simp only [Act.put, List.setIfInBounds_toArray, List.set_cons_zero, List.set_cons_succ, i64_w, i32_w]
            rfl
          refine pure_ (i := 13) (N := some 7) (v := ?_) (a' := ?_) #[true, true, true, true, true, true, true, true, true, true, true, true, true, true] rfl rfl (by kernel_rfl) (fun _ _ _ h => h) (Or.inl ⟨by rfl, ?_⟩) ?_ ?_
          rotate_left
          · intro w'
            go_simp
            with_reducible rfl
          rotate_left
          · simp only [Act.put, List.setIfInBounds_toArray, List.set_cons_zero, List.set_cons_succ, i64_w, i32_w]
            rfl
          refine done_ (by kernel_rfl) ?_
          clear hHeld
          go_wp2
          go_roundg gk'
          case measure => omega
          case rel => exact ⟨k + 1, by go_num, by omega, by rw [hF, ← nums_app]; exact H.del .head⟩
      · have q2 : ((k : Int) == torn) = false := by simp [he]
        rw [if_neg he] at hcut
        clear he
        rcases b with _ | _
        all_goals
          first
            | (rw [if_pos rfl] at hcut)
            | (rw [if_neg (by decide)] at hcut)
          subst hcut
          go_wp2_with (first
    | ((with_reducible refine gate_dst (N := 19) rfl ?_); refine l_load1 rfl H 35 _ rfl _ _ rfl (by (repeat (first | exact In.head | apply In.tail))) _ Try.underlying35 rfl _ (by first | rfl | assumption | exact nums_at _ (by omega)) ?_)
    | ((with_reducible refine gate_dst (N := 24) rfl ?_); refine l_load1 rfl H 3 _ rfl _ _ rfl (by (repeat (first | exact In.head | apply In.tail))) _ Try.underlying3 rfl _ (by first | rfl | assumption | exact nums_at _ (by omega)) ?_)
    | ((with_reducible refine gate_dst (N := 27) rfl ?_); refine l_load1 rfl H 3 _ rfl _ _ rfl (by (repeat (first | exact In.head | apply In.tail))) _ Try.underlying3 rfl _ (by first | rfl | assumption | exact nums_at _ (by omega)) ?_)
    | (go_at_call 86; (with_reducible refine (FB _ H.below).mono ?_); rintro e W ⟨rfl, hb⟩; replace H := H.to hb.below; clear hb))
          refine start_ (n := 14) (S := Own _ _ _) (ds := [12]) #[false, false, false, false, false, false, false, false, false, false, false, false, false, false] (by kernel_rfl) rfl rfl H.drew (fun hHeld => ?_)
          replace H := H.drew
          generalize World.drew _ = W at H hHeld ⊢
          refine pure_ (i := 0) (N := some 28) (v := ?_) (a' := ?_) #[true, false, false, false, false, false, false, false, false, false, false, false, false, false] rfl rfl (by kernel_rfl) (fun _ _ _ h => h) (Or.inl ⟨by rfl, ?_⟩) ?_ ?_
          rotate_left
          · intro w'
            go_simp
            with_reducible rfl
          rotate_left
          · simp only [Act.put, List.setIfInBounds_toArray, List.set_cons_zero, List.set_cons_succ, i64_w, i32_w]
            rfl
          refine pure_ (i := 1) (N := some 29) (v := ?_) (a' := ?_) #[true, true, false, false, false, false, false, false, false, false, false, false, false, false] rfl rfl (by kernel_rfl) (fun _ _ _ h => h) (Or.inl ⟨by rfl, ?_⟩) ?_ ?_
          rotate_left
          · intro w'
            go_simp
            with_reducible rfl
          rotate_left
          · simp only [Act.put, List.setIfInBounds_toArray, List.set_cons_zero, List.set_cons_succ, i64_w, i32_w]
            rfl
          refine pure_ (i := 2) (N := some 30) (v := ?_) (a' := ?_) #[true, true, true, false, false, false, false, false, false, false, false, false, false, false] rfl rfl (by kernel_rfl) (fun _ _ _ h => h) (Or.inl ⟨by rfl, ?_⟩) ?_ ?_
          rotate_left
          · intro w'
            go_simp
            with_reducible rfl
          rotate_left
          · simp only [Act.put, List.setIfInBounds_toArray, List.set_cons_zero, List.set_cons_succ, i64_w, i32_w]
            rfl
          refine pure_ (i := 3) (N := some 31) (v := ?_) (a' := ?_) #[true, true, true, true, false, false, false, false, false, false, false, false, false, false] rfl rfl (by kernel_rfl) (fun _ _ _ h => h) (Or.inl ⟨by rfl, ?_⟩) ?_ ?_
          rotate_left
          · intro w'
            go_simp
            with_reducible rfl
          rotate_left
          · simp only [Act.put, List.setIfInBounds_toArray, List.set_cons_zero, List.set_cons_succ, i64_w, i32_w]
            rfl
          refine pure_ (i := 5) (N := some 33) (v := ?_) (a' := ?_) #[true, true, true, true, false, true, false, false, false, false, false, false, false, false] rfl rfl (by kernel_rfl) (fun _ _ _ h => h) (Or.inl ⟨by rfl, ?_⟩) ?_ ?_
          rotate_left
          · intro w'
            go_simp
            with_reducible rfl
          rotate_left
          · simp only [Act.put, List.setIfInBounds_toArray, List.set_cons_zero, List.set_cons_succ, i64_w, i32_w]
            rfl
          refine pure_ (i := 6) (N := some 34) (v := ?_) (a' := ?_) #[true, true, true, true, false, true, true, false, false, false, false, false, false, false] rfl rfl (by kernel_rfl) (fun _ _ _ h => h) (Or.inl ⟨by rfl, ?_⟩) ?_ ?_
          rotate_left
          · intro w'
            go_simp
            with_reducible rfl
          rotate_left
          · simp only [Act.put, List.setIfInBounds_toArray, List.set_cons_zero, List.set_cons_succ, i64_w, i32_w]
            rfl
          refine pure_ (i := 7) (N := some 35) (v := ?_) (a' := ?_) #[true, true, true, true, false, true, true, true, false, false, false, false, false, false] rfl rfl (by kernel_rfl) (fun _ _ _ h => h) (Or.inl ⟨by rfl, ?_⟩) ?_ ?_
          rotate_left
          · intro w'
            go_simp
            with_reducible rfl
          rotate_left
          · simp only [Act.put, List.setIfInBounds_toArray, List.set_cons_zero, List.set_cons_succ, i64_w, i32_w]
            rfl
          refine pure_ (i := 9) (N := some 37) (v := ?_) (a' := ?_) #[true, true, true, true, false, true, true, true, false, true, false, false, false, false] rfl rfl (by kernel_rfl) (fun _ _ _ h => h) (Or.inl ⟨by rfl, ?_⟩) ?_ ?_
          rotate_left
          · intro w'
            go_simp
            with_reducible rfl
          rotate_left
          · simp only [Act.put, List.setIfInBounds_toArray, List.set_cons_zero, List.set_cons_succ, i64_w, i32_w]
            rfl
          refine take_run (i := 4) (N := some 32) (a' := ?_) #[true, true, true, true, true, true, true, true, false, true, false, false, false, false] rfl rfl (by kernel_rfl) (fun _ _ _ _ h => h) (by rfl) hHeld (.agg (nums .u8 sa).toArray) (fun X HX => r_loadRdS 43 _ rfl (k * 64) rfl (hA.below HX.below) 64 _ Try.underlying43 rfl size43 (by decide) _ nA (by rw [nums_length]; exact lA)) ?_ ?_
          rotate_left
          · simp only [Act.put, List.setIfInBounds_toArray, List.set_cons_zero, List.set_cons_succ, i64_w, i32_w]
            rfl
          refine take_run (i := 8) (N := some 36) (a' := ?_) #[true, true, true, true, true, true, true, true, true, true, false, false, false, false] rfl rfl (by kernel_rfl) (fun _ _ _ _ h => h) (by rfl) hHeld (.agg (nums .u8 sb).toArray) (fun X HX => r_loadRdS 43 _ rfl (k * 64) rfl (hB.below HX.below) 64 _ Try.underlying43 rfl size43 (by decide) _ nB (by rw [nums_length]; exact lB)) ?_ ?_
          rotate_left
          · simp only [Act.put, List.setIfInBounds_toArray, List.set_cons_zero, List.set_cons_succ, i64_w, i32_w]
            rfl
          refine one_ (i := 10) (N := some 38) #[true, true, true, true, true, true, true, true, true, true, true, false, false, false] rfl rfl (by kernel_rfl) (by decide) (fun K hK => ?_)
          refine callK_ (M W) Try.func38 (by kernel_rfl) rfl (by rfl) rfl rfl (by (try simp only [List.map_toArray, List.map_cons, List.map_nil]); first | done | rfl) ?_
          rintro e W ⟨rfl, hb⟩
          refine ⟨_, rfl, ?_⟩
          replace H := H.to hb
          clear hb
          refine hK.out _ _ ?_ (fun hHeld => ?_)
          · first | trivial | exact H | exact H.del .head | exact (H.del .head).del .head
          clear hK K
          refine norm_ (a' := ?_) ?_ ?_
          rotate_left
          · show Act.put _ (some 38) _ = _
            simp only [Act.put, List.setIfInBounds_toArray, List.set_cons_zero, List.set_cons_succ, i64_w, i32_w]
            rfl
          refine one_ (i := 11) (N := some 39) #[true, true, true, true, true, true, true, true, true, true, true, true, false, false] rfl rfl (by kernel_rfl) (by decide) (fun K hK => ?_)
          refine wanted_ rfl ?_
          refine w_build1A H 81 43 _ rfl Try.underlying81 _ rfl _ _ zs43 rfl (by (first | rfl | assumption | omega | (simp only [nums_length]; omega) | (simp [nums_length, zs]; done) | (simp [nums_length, zs]; omega))) (by decide) (by decide) ?_
          clear H
          intro g39 W H
          refine hK.out _ _ ?_ (fun hHeld => ?_)
          · first | trivial | exact H | exact H.del .head | exact (H.del .head).del .head
          clear hK K
          refine norm_ (a' := ?_) ?_ ?_
          rotate_left
          · show Act.put _ (some 39) _ = _
            simp only [Act.put, List.setIfInBounds_toArray, List.set_cons_zero, List.set_cons_succ, i64_w, i32_w]
            rfl
          refine last_ (i := 12) (N := some 40) #[true, true, true, true, true, true, true, true, true, true, true, true, true, false] rfl rfl (by kernel_rfl) (by decide) (fun K hK => ?_)
          refine wanted_ rfl ?_
          refine w_append1 H _ _ 81 43 rfl Try.underlying81 _ _ _ inf43 rfl (by decide) (by decide) _ _ _ rfl (by (repeat (first | exact In.head | apply In.tail))) _ _ rfl (by (repeat (first | exact In.head | apply In.tail))) (by (first | rfl | assumption | omega | (simp only [nums_length]; omega) | (simp [nums_length, zs]; done) | (simp [nums_length, zs]; omega))) (by (first | exact nums_one | (intro u hu; simp at hu; subst hu; rfl) | (intro u hu; simp at hu; rcases hu with rfl | rfl | rfl | rfl | rfl | rfl | rfl <;> rfl) | (intro u hu; simp at hu; rcases hu with rfl | rfl | rfl | rfl <;> rfl) | (intro u hu; simp at hu; rcases hu with rfl | rfl | rfl <;> rfl) | (intro u hu; simp at hu; rcases hu with rfl | rfl <;> rfl))) (by omega) ?_
          clear H
          intro v40 W H
          refine hK.out _ _ ?_
          clear hK K
          refine norm_ (a' := ?_) ?_ ?_
          rotate_left
          · show Act.put _ (some 40) _ = _
            simp only [Act.put, List.setIfInBounds_toArray, List.set_cons_zero, List.set_cons_succ, i64_w, i32_w]
            rfl
          refine pure_ (i := 13) (N := some 7) (v := ?_) (a' := ?_) #[true, true, true, true, true, true, true, true, true, true, true, true, true, true] rfl rfl (by kernel_rfl) (fun _ _ _ h => h) (Or.inl ⟨by rfl, ?_⟩) ?_ ?_
          rotate_left
          · intro w'
            go_simp
            with_reducible rfl
          rotate_left
          · simp only [Act.put, List.setIfInBounds_toArray, List.set_cons_zero, List.set_cons_succ, i64_w, i32_w]
            rfl
          refine done_ (by kernel_rfl) ?_
          clear hHeld
          go_wp2
          go_roundg gk'
          case measure => omega
          case rel => exact ⟨k + 1, by go_num, by omega, by rw [hF, ← nums_app]; exact H.del .head⟩
    · have e : k = n := by omega
      subst e
      have q1 : decide (k < k) = false := decide_eq_false ck
      go_wp2
      go_ret
      exact ⟨_, rfl, H.del (.tail .head)⟩
end
end Go.Proofs.Ythlpimojojofbaa.O
