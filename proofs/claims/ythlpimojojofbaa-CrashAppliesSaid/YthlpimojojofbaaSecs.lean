/- sectors of bytes and back, by hand: stamp.Secs, stamp.Bytes, the reference's Secs and Same. -/
import Derived.Test.YthlpimojojofbaaRd
import Derived.Test.YthlpimojojofbaaStampC
import Derived.Lib.Hide
namespace Go.Proofs.Ythlpimojojofbaa.O
open Go.RowKit Go.Proofs.YthlpimojojofbaaW.PrintWords Go.Proofs.YthlpimojojofbaaW.PrintLast Go.Proofs.YthlpimojojofbaaW.PrintMore Go.Proofs.Ythlpimojojofbaa.F Go.Proofs.Ythlpimojojofbaa.F.Nums Go.Proofs.Ythlpimojojofbaa.Plain
set_option linter.unusedVariables false
set_option linter.unusedSimpArgs false
/-- the first k sectors of bytes, end to end -/
def flatS (b : List Int) (k : Nat) : List Int := b.take (64 * k) ++ zs (64 * k - b.length)
def nsec (n : Nat) : Nat := (n + 63) / 64
theorem flatS_len (b : List Int) (k : Nat) : (flatS b k).length = 64 * k := by
  unfold flatS zs
  rw [List.length_append, List.length_take, List.length_replicate]
  omega
theorem flatS_zero (b : List Int) : flatS b 0 = [] := by simp [flatS, zs]
theorem flatS_succ (b : List Int) (k : Nat) (h : 64 * k ≤ b.length) : flatS b (k + 1) = flatS b k ++ splice (zs 64) 0 ((b.drop (64 * k)).take (min (b.length - 64 * k) 64)) := by
  have e : splice (zs 64) 0 ((b.drop (64 * k)).take (min (b.length - 64 * k) 64)) = (b.drop (64 * k)).take 64 ++ zs (64 * (k + 1) - b.length) := by
    unfold splice zs
    rw [List.take_zero, List.nil_append, Nat.zero_add, List.drop_replicate, List.length_take, List.length_drop]
    by_cases h2 : b.length - 64 * k ≤ 64
    · rw [Nat.min_eq_left h2, List.take_of_length_le (l := b.drop (64 * k)) (i := 64) (by rw [List.length_drop]; exact h2), List.take_of_length_le (l := b.drop (64 * k)) (by rw [List.length_drop]; exact Nat.le_refl _), Nat.min_self]
      congr 2
      omega
    · rw [Nat.min_eq_right (by omega), Nat.min_eq_left (by omega)]
      congr 2
      omega
  rw [e]
  unfold flatS
  rw [show 64 * k - b.length = 0 by omega, show zs 0 = [] from rfl, List.append_nil, ← List.append_assoc, show 64 * (k + 1) = 64 * k + 64 by omega, List.take_add]
set_option maxRecDepth 100000 in
set_option maxHeartbeats 4000000 in
theorem secs_calls (b : List Int) (A : Option Addr) (c : Nat) (w : World) (hr : Kd.C (Kd.int .u8) w A b.length b) (hc : b.length ≤ c) (hl : b.length ≤ 140737488351232) :
    Calls Try.prog 50 #[.slice A b.length c] w fun e w' => ∃ v, e = .returned v ∧ w'.ownsRow w.heap.size 43 64 v (nsec b.length) (nums .u8 (flatS b (nsec b.length))) ∧ Below w.heap.size w w' := by
  have HR := Rd.of_C hr
  clear hr
  obtain ⟨n, hn⟩ : ∃ n, b.length = n := ⟨_, rfl⟩
  have hN : nsec b.length = (n + 63) / 64 := by rw [hn]; rfl
  rw [hN]
  rw [hn] at hc hl ⊢
  have H := Own.start w
  go_enter Try.func50, Try.ntmps50
  go_wp2
  have H := (show Own w F0 [.row (.slice none 0 0) 43 64 0 []] w from H.cons (Below.refl _ _) (own_nil _ _ _ _) (fun k hk => by cases hk))
  go_loopg [3, 4] ((n + 63) / 64) (fun gq v3 v4 w' => ∃ k : Nat, v4 = .int .i64 ((64 * k : Nat) : Int) ∧ k + gq = (n + 63) / 64 ∧ Own w F0 [.row v3 43 64 k (nums .u8 (flatS b k))] w')
  case atStart => exact ⟨0, rfl, by omega, by rw [flatS_zero]; exact H⟩
  case round =>
    clear H
    obtain ⟨k, rfl, hk, H⟩ := hrel
    by_cases ck : 64 * k < n
    · obtain ⟨gk', rfl⟩ : ∃ q, gk = q + 1 := ⟨gk - 1, by omega⟩
      have q1 : decide (((64 * k : Nat) : Int) < (n : Int)) = true := decide_eq_true (by omega)
      have q2 : IntKind.i64.wrap (((64 * k : Nat) : Int) + 64) = ((64 * (k + 1) : Nat) : Int) := by rw [IntKind.wrap_i64]; omega
      have hss := flatS_succ b k (by omega)
      have hkl : 64 * k ≤ n := by omega
      have hk2 : (k + 1) * 64 ≤ 140737488355328 := by omega
      have HR' : Rd w (dropA A (64 * k) c 1) (nums .u8 (b.drop (64 * k))) := by
        have := HR.dropA (64 * k) c 1 (fun e => by rw [nums_length]; omega)
        rwa [Nat.mul_one, nums_drop] at this
      rw [hn] at hss
      go_wp2_with (first
    | ((with_reducible refine gate_dst (N := 5) rfl ?_); refine l_allocA rfl H 43 rfl _ zero43 ?_; clear H; intro g5 W H))
      refine start_ (n := 5) (S := fun _ => True) (ds := []) #[false, false, false, false, false] (by kernel_rfl) rfl rfl trivial (fun hHeld => ?_)
      replace H := H.drew
      generalize World.drew _ = W at H hHeld ⊢
      refine pure_ (i := 0) (N := some 12) (v := ?_) (a' := ?_) #[true, false, false, false, false] rfl rfl (by kernel_rfl) (fun _ _ _ h => h) (Or.inl ⟨by rfl, ?_⟩) ?_ ?_
      rotate_left
      · intro w'
        go_simp
        with_reducible rfl
      rotate_left
      · simp only [Act.put, List.setIfInBounds_toArray, List.set_cons_zero, List.set_cons_succ, i64_w, i32_w]
        rfl
      refine pure_ (i := 1) (N := some 13) (v := ?_) (a' := ?_) #[true, true, false, false, false] rfl rfl (by kernel_rfl) (fun _ _ _ h => h) (Or.inl ⟨by rfl, ?_⟩) ?_ ?_
      rotate_left
      · intro w'
        go_simp
        with_reducible rfl
      rotate_left
      · simp only [Act.put, List.setIfInBounds_toArray, List.set_cons_zero, List.set_cons_succ, i64_w, i32_w]
        rfl
      refine pure_ (i := 2) (N := some 14) (v := ?_) (a' := ?_) #[true, true, true, false, false] rfl rfl (by kernel_rfl) (fun _ _ _ h => h) (Or.inl ⟨by rfl, ?_⟩) ?_ ?_
      rotate_left
      · intro w'
        go_simp
        with_reducible rfl
      rotate_left
      · simp only [Act.put, List.setIfInBounds_toArray, List.set_cons_zero, List.set_cons_succ, i64_w, i32_w]
        rfl
      refine take_run (i := 3) (N := some 15) (a' := ?_) #[true, true, true, true, false] rfl rfl (by kernel_rfl) (fun _ _ _ _ h => h) (by rfl) hHeld (.slice (dropA A (64 * k) c 1) (n - 64 * k) (c - 64 * k)) (fun X HX => x_slice_lo _ _ rfl rfl Try.underlying35 size5 (64 * k) rfl hkl X) ?_ ?_
      rotate_left
      · simp only [Act.put, List.setIfInBounds_toArray, List.set_cons_zero, List.set_cons_succ, i64_w, i32_w]
        rfl
      refine one_ (i := 4) (N := some 16) #[true, true, true, true, true] rfl rfl (by kernel_rfl) (by decide) (fun K hK => ?_)
      refine wanted_ rfl ?_
      refine w_copyC H _ _ _ _ rfl 5 Try.underlying35 size5 _ _ _ _ rfl (by (repeat (first | exact In.head | apply In.tail))) _ _ _ rfl (b.drop (64 * k)) ?_ (by (first | rfl | assumption | omega | (simp only [nums_length]; omega) | (simp [nums_length, zs]; done) | (simp [nums_length, zs]; omega))) ?_
      · exact (HR'.below H.below).C (by rw [List.length_drop]; omega) (by omega)
      clear H; intro W H
      refine hK.out _ _ ?_ (fun hHeld => ?_)
      · first | trivial | exact H | exact H.del .head | exact (H.del .head).del .head
      clear hK K
      refine norm_ (a' := ?_) ?_ ?_
      rotate_left
      · show Act.put _ (some 16) _ = _
        simp only [Act.put, List.setIfInBounds_toArray, List.set_cons_zero, List.set_cons_succ, i64_w, i32_w]
        rfl
      refine done_ (by kernel_rfl) ?_
      clear hHeld
      have hsl : (splice (zs 64) 0 ((b.drop (64 * k)).take (min (n - 64 * k) 64))).length = 64 := by rw [length_splice _ _ _ (by rw [List.length_take]; simp [zs]; omega)]; rfl
      generalize splice (zs 64) 0 ((b.drop (64 * k)).take (min (n - 64 * k) 64)) = sec at H hsl hss
      go_wp2_with (first
    | ((with_reducible refine gate_dst (N := 18) rfl ?_); refine l_loadA rfl H 43 _ rfl _ rfl (by (repeat (first | exact In.head | apply In.tail))) _ _ Try.underlying43 rfl size43 (by (first | rfl | assumption | omega | (simp only [nums_length]; omega) | (simp [nums_length, zs]; done) | (simp [nums_length, zs]; omega))) ?_)
    | ((with_reducible refine gate_dst (N := 19) rfl ?_); refine l_build1A rfl H 81 43 _ rfl Try.underlying81 _ rfl _ _ zs43 rfl (by (first | rfl | assumption | omega | (simp only [nums_length]; omega) | (simp [nums_length, zs]; done) | (simp [nums_length, zs]; omega))) (by decide) (by decide) ?_; clear H; intro g19 W H)
    | ((with_reducible refine gate_dst (N := 20) rfl ?_); refine l_append1 rfl H _ _ 81 43 rfl Try.underlying81 _ _ _ inf43 rfl (by decide) (by decide) _ _ _ rfl (by (repeat (first | exact In.head | apply In.tail))) _ _ rfl (by (repeat (first | exact In.head | apply In.tail))) (by (first | rfl | assumption | omega | (simp only [nums_length]; omega) | (simp [nums_length, zs]; done) | (simp [nums_length, zs]; omega))) (by (first | exact nums_one | (intro u hu; simp at hu; subst hu; rfl) | (intro u hu; simp at hu; rcases hu with rfl | rfl | rfl | rfl | rfl | rfl | rfl <;> rfl) | (intro u hu; simp at hu; rcases hu with rfl | rfl | rfl | rfl <;> rfl) | (intro u hu; simp at hu; rcases hu with rfl | rfl | rfl <;> rfl) | (intro u hu; simp at hu; rcases hu with rfl | rfl <;> rfl))) (by omega) ?_; clear H; intro v20 W H))
      go_roundg gk'
      case measure => omega
      case rel =>
        refine ⟨k + 1, ?_, by omega, ?_⟩
        · first | rw [q2] | rfl
        · rw [nums_app, ← hss] at H
          exact (H.del .head).del .head
    · have q1 : decide (((64 * k : Nat) : Int) < (n : Int)) = false := decide_eq_false (by omega)
      have hkk : k = (n + 63) / 64 := by omega
      subst hkk
      go_wp2
      go_ret
      exact ⟨_, rfl, H.at_ .head, H.below⟩
/-- sector k of sectors that lie end to end -/
def secAt (fl : List Int) (k : Nat) : List Int := (fl.drop (64 * k)).take 64
theorem secAt_len {fl : List Int} {n k : Nat} (h : fl.length = 64 * n) (hk : k < n) : (secAt fl k).length = 64 := by
  unfold secAt
  rw [List.length_take, List.length_drop]
  omega
theorem take_sec (fl : List Int) (k : Nat) : fl.take (64 * (k + 1)) = fl.take (64 * k) ++ secAt fl k := by
  unfold secAt
  rw [show 64 * (k + 1) = 64 * k + 64 by omega, List.take_add]
set_option maxRecDepth 100000 in
set_option maxHeartbeats 4000000 in
theorem bytes_calls (fl : List Int) (n : Nat) (hf : fl.length = 64 * n) (A : Option Addr) (c : Nat) (w : World) (hr : Rd w A (nums .u8 fl)) (hc : n ≤ c) (hl : 64 * n ≤ 140737488355328) :
    Calls Try.prog 51 #[.slice A n c] w fun e w' => ∃ v, e = .returned v ∧ w'.ownsRow w.heap.size 5 1 v (64 * n) (nums .u8 fl) ∧ Below w.heap.size w w' := by
  have H := Own.start w
  go_enter Try.func51, Try.ntmps51
  go_wp2
  have H := (show Own w F0 [.row (.slice none 0 0) 5 1 0 []] w from H.cons (Below.refl _ _) (own_nil _ _ _ _) (fun k hk => by cases hk))
  go_loopg [3, 8] n (fun gq v3 v8 w' => ∃ k : Nat, v8 = .int .i64 (k : Int) ∧ k + gq = n ∧ Own w F0 [.row v3 5 1 (64 * k) (nums .u8 (fl.take (64 * k)))] w')
  case atStart => exact ⟨0, rfl, by omega, by rw [Nat.mul_zero, List.take_zero]; exact H⟩
  case round =>
    clear H
    obtain ⟨k, rfl, hk, H⟩ := hrel
    by_cases ck : k < n
    · obtain ⟨gk', rfl⟩ : ∃ q, gk = q + 1 := ⟨gk - 1, by omega⟩
      have q1 : decide ((k : Int) < (n : Int)) = true := decide_eq_true (by omega)
      have hss := take_sec fl k
      have hsl := secAt_len hf ck
      obtain ⟨ad, rfl⟩ := hr.some_ (by rw [nums_length]; omega)
      have p0 : ((0 : Int) ≤ (k : Int)) = True := eq_true (by omega)
      have p1 : ((k : Int) < (n : Int)) = True := eq_true (by omega)
      have hfit : k * 64 + 64 ≤ (nums .u8 fl).length := by rw [nums_length]; omega
      have hnu : ((nums .u8 fl).drop (k * 64)).take 64 = nums .u8 (secAt fl k) := by rw [nums_drop, nums_take, Nat.mul_comm]; rfl
      have hbd : 64 * k + 64 ≤ 140737488355328 := by omega
      generalize secAt fl k = sec at hss hsl hnu
      go_wp2_with (first
    | ((with_reducible refine gate_dst (N := 5) rfl ?_); refine l_allocA rfl H 43 rfl _ zero43 ?_; clear H; intro g5 W H)
    | ((with_reducible refine gate_store (t := 43) (p := 5) rfl ?_); refine l_storeW rfl H 43 _ _ rfl _ rfl _ rfl (by (repeat (first | exact In.head | apply In.tail))) _ size43 (by (first | rfl | assumption | omega | (simp only [nums_length]; omega) | (simp [nums_length, zs]; done) | (simp [nums_length, zs]; omega))) (by (first | rfl | assumption | omega | (simp only [nums_length]; omega) | (simp [nums_length, zs]; done) | (simp [nums_length, zs]; omega))) (by (first | exact nums_one | (intro u hu; simp at hu; subst hu; rfl) | (intro u hu; simp at hu; rcases hu with rfl | rfl | rfl | rfl | rfl | rfl | rfl <;> rfl) | (intro u hu; simp at hu; rcases hu with rfl | rfl | rfl | rfl <;> rfl) | (intro u hu; simp at hu; rcases hu with rfl | rfl | rfl <;> rfl) | (intro u hu; simp at hu; rcases hu with rfl | rfl <;> rfl))) ?_; clear H; intro W H)
    | ((with_reducible refine gate_dst (N := 11) rfl ?_); refine l_loadRd rfl 43 _ rfl (k * 64) rfl (hr.below H.below) 64 _ Try.underlying43 rfl size43 (by decide) hfit ?_; rw [hnu])
    | ((with_reducible refine gate_dst (N := 14) rfl ?_); refine l_append rfl H _ _ 35 5 rfl Try.underlying35 _ 1 1 inf5 rfl (by decide) (by decide) _ _ _ rfl (.tail .head) (some ⟨g5, 0, none⟩) 64 64 (nums .u8 sec) rfl (by rw [nums_length]; omega) (fun _ => by have := H.rdB (In.head) 0 (by rw [List.drop_zero, nums_length]; omega); rwa [List.drop_zero] at this) nums_one (by omega) ?_; clear H; intro v14 W H))
      go_roundg gk'
      case measure => omega
      case rel =>
        refine ⟨k + 1, rfl, by omega, ?_⟩
        rw [nums_app, ← hss, show 64 * k + 64 = 64 * (k + 1) by omega] at H
        exact H.del .head
    · have q1 : decide ((k : Int) < (n : Int)) = false := decide_eq_false (by omega)
      have hkk : k = n := by omega
      subst hkk
      rw [List.take_of_length_le (by omega)] at H
      go_wp2
      go_ret
      exact ⟨_, rfl, H.at_ .head, H.below⟩
/-- the same sectors? -/
def sameB (n : Nat) (fa : List Int) (m : Nat) (fb : List Int) : Bool := decide (n = m) && (fa == fb)
theorem neq_sec (xs ys : List Int) (hx : xs.length = 64) (hy : ys.length = 64) (bx : Bytes xs) (by' : Bytes ys) (W : World) : (Op.equalIn 10000 43 (.agg (nums .u8 xs).toArray) (.agg (nums .u8 ys).toArray)).run Try.prog W = .ok (xs == ys) W := eq64 hx hy bx by' W
set_option maxRecDepth 100000 in
set_option maxHeartbeats 4000000 in
theorem same_calls (fa fb : List Int) (n m : Nat) (ha : fa.length = 64 * n) (hb : fb.length = 64 * m) (ba : Bytes fa) (bb : Bytes fb) (A B : Option Addr) (c d : Nat) (w : World) (hrA : Rd w A (nums .u8 fa)) (hrB : Rd w B (nums .u8 fb)) (hc : n ≤ c) (hd : m ≤ d) (hl : n ≤ 9223372036854775807) (hm : m ≤ 9223372036854775807) :
    Calls Try.prog 52 #[.slice A n c, .slice B m d] w fun e w' => e = .returned (.bool (sameB n fa m fb)) ∧ Below w.heap.size w w' := by
  have H := Own.start w
  by_cases hnm : n = m
  · subst hnm
    unfold sameB
    rw [show decide (n = n) = true by simp, Bool.true_and]
    go_enter Try.func52, Try.ntmps52
    go_wp2
    go_loopg [5] n (fun gq v5 w' => ∃ k : Nat, v5 = .int .i64 (k : Int) ∧ k + gq = n ∧ fa.take (64 * k) = fb.take (64 * k) ∧ Own w F0 [] w')
    case atStart => exact ⟨0, rfl, by omega, by simp, H⟩
    case round =>
      clear H
      obtain ⟨k, rfl, hk, he, H⟩ := hrel
      by_cases ck : k < n
      · obtain ⟨gk', rfl⟩ : ∃ q, gk = q + 1 := ⟨gk - 1, by omega⟩
        have q1 : decide ((k : Int) < (n : Int)) = true := decide_eq_true (by omega)
        obtain ⟨ad, rfl⟩ := hrA.some_ (by rw [nums_length]; omega)
        obtain ⟨bd, rfl⟩ := hrB.some_ (by rw [nums_length]; omega)
        have p0 : ((0 : Int) ≤ (k : Int)) = True := eq_true (by omega)
        have p1 : ((k : Int) < (n : Int)) = True := eq_true (by omega)
        have nA : ((nums .u8 fa).drop (k * 64)).take 64 = nums .u8 (secAt fa k) := by rw [nums_drop, nums_take, Nat.mul_comm]; rfl
        have nB : ((nums .u8 fb).drop (k * 64)).take 64 = nums .u8 (secAt fb k) := by rw [nums_drop, nums_take, Nat.mul_comm]; rfl
        have sA := take_sec fa k
        have sB := take_sec fb k
        have lA := secAt_len ha ck
        have lB := secAt_len hb ck
        have hEq := neq_sec _ _ lA lB (bytes_take (bytes_drop ba _) _) (bytes_take (bytes_drop bb _) _)
        have gA : fa = fb → secAt fa k = secAt fb k := fun e => by rw [e]
        change ∀ W, Sem.run _ (Op.equalIn 10000 _ (.agg (nums .u8 (secAt fa k)).toArray) (.agg (nums .u8 (secAt fb k)).toArray)) W = .ok (secAt fa k == secAt fb k) W at hEq
        generalize secAt fa k = sa at nA sA lA hEq gA
        generalize secAt fb k = sb at nB sB lB hEq gA
        go_wp2
        by_cases hq : sa = sb
        · subst hq
          rw [show (sa == sa) = true by simp] at hEq
          refine start_ (n := 9) (S := Own _ _ _) (ds := []) #[false, false, false, false, false, false, false, false, false] (by kernel_rfl) rfl rfl H.drew (fun hHeld => ?_)
          replace H := H.drew
          generalize World.drew _ = W at H hHeld ⊢
          refine pure_ (i := 0) (N := some 17) (v := ?_) (a' := ?_) #[true, false, false, false, false, false, false, false, false] rfl rfl (by kernel_rfl) (fun _ _ _ h => h) (Or.inl ⟨by rfl, ?_⟩) ?_ ?_
          rotate_left
          · intro w'
            go_simp
            with_reducible rfl
          rotate_left
          · simp only [Act.put, List.setIfInBounds_toArray, List.set_cons_zero, List.set_cons_succ, i64_w, i32_w]
            rfl
          refine pure_ (i := 1) (N := some 18) (v := ?_) (a' := ?_) #[true, true, false, false, false, false, false, false, false] rfl rfl (by kernel_rfl) (fun _ _ _ h => h) (Or.inl ⟨by rfl, ?_⟩) ?_ ?_
          rotate_left
          · intro w'
            go_simp
            with_reducible rfl
          rotate_left
          · simp only [Act.put, List.setIfInBounds_toArray, List.set_cons_zero, List.set_cons_succ, i64_w, i32_w]
            rfl
          refine pure_ (i := 2) (N := some 19) (v := ?_) (a' := ?_) #[true, true, true, false, false, false, false, false, false] rfl rfl (by kernel_rfl) (fun _ _ _ h => h) (Or.inl ⟨by rfl, ?_⟩) ?_ ?_
          rotate_left
          · intro w'
            go_simp
            with_reducible rfl
          rotate_left
          · simp only [Act.put, List.setIfInBounds_toArray, List.set_cons_zero, List.set_cons_succ, i64_w, i32_w]
            rfl
          refine pure_ (i := 4) (N := some 21) (v := ?_) (a' := ?_) #[true, true, true, false, true, false, false, false, false] rfl rfl (by kernel_rfl) (fun _ _ _ h => h) (Or.inl ⟨by rfl, ?_⟩) ?_ ?_
          rotate_left
          · intro w'
            go_simp
            with_reducible rfl
          rotate_left
          · simp only [Act.put, List.setIfInBounds_toArray, List.set_cons_zero, List.set_cons_succ, i64_w, i32_w]
            rfl
          refine pure_ (i := 5) (N := some 22) (v := ?_) (a' := ?_) #[true, true, true, false, true, true, false, false, false] rfl rfl (by kernel_rfl) (fun _ _ _ h => h) (Or.inl ⟨by rfl, ?_⟩) ?_ ?_
          rotate_left
          · intro w'
            go_simp
            with_reducible rfl
          rotate_left
          · simp only [Act.put, List.setIfInBounds_toArray, List.set_cons_zero, List.set_cons_succ, i64_w, i32_w]
            rfl
          refine pure_ (i := 6) (N := some 23) (v := ?_) (a' := ?_) #[true, true, true, false, true, true, true, false, false] rfl rfl (by kernel_rfl) (fun _ _ _ h => h) (Or.inl ⟨by rfl, ?_⟩) ?_ ?_
          rotate_left
          · intro w'
            go_simp
            with_reducible rfl
          rotate_left
          · simp only [Act.put, List.setIfInBounds_toArray, List.set_cons_zero, List.set_cons_succ, i64_w, i32_w]
            rfl
          refine take_run (i := 3) (N := some 20) (a' := ?_) #[true, true, true, true, true, true, true, false, false] rfl rfl (by kernel_rfl) (fun _ _ _ _ h => h) (by rfl) hHeld (.agg (nums .u8 sa).toArray) (fun X HX => r_loadRdS 43 _ rfl (k * 64) rfl (hrA.below HX.below) 64 _ Try.underlying43 rfl size43 (by decide) _ nA (by rw [nums_length]; exact lA)) ?_ ?_
          rotate_left
          · simp only [Act.put, List.setIfInBounds_toArray, List.set_cons_zero, List.set_cons_succ, i64_w, i32_w]
            rfl
          refine take_run (i := 7) (N := some 24) (a' := ?_) #[true, true, true, true, true, true, true, true, false] rfl rfl (by kernel_rfl) (fun _ _ _ _ h => h) (by rfl) hHeld (.agg (nums .u8 sa).toArray) (fun X HX => r_loadRdS 43 _ rfl (k * 64) rfl (hrB.below HX.below) 64 _ Try.underlying43 rfl size43 (by decide) _ nB (by rw [nums_length]; exact lB)) ?_ ?_
          rotate_left
          · simp only [Act.put, List.setIfInBounds_toArray, List.set_cons_zero, List.set_cons_succ, i64_w, i32_w]
            rfl
          refine pure_ (i := 8) (N := some 25) (v := ?_) (a' := ?_) #[true, true, true, true, true, true, true, true, true] rfl rfl (by kernel_rfl) (fun _ _ _ h => h) (Or.inl ⟨by rfl, ?_⟩) ?_ ?_
          rotate_left
          · intro w'
            go_simp
            with_reducible rfl
          rotate_left
          · simp only [Act.put, List.setIfInBounds_toArray, List.set_cons_zero, List.set_cons_succ, i64_w, i32_w]
            rfl
          refine done_ (by kernel_rfl) ?_
          clear hHeld
          go_wp2
          go_roundg gk'
          case measure => omega
          case rel => exact ⟨k + 1, rfl, by omega, by rw [sA, sB, he], H⟩
        · rw [show (sa == sb) = false by simp [hq]] at hEq
          refine start_ (n := 9) (S := Own _ _ _) (ds := []) #[false, false, false, false, false, false, false, false, false] (by kernel_rfl) rfl rfl H.drew (fun hHeld => ?_)
          replace H := H.drew
          generalize World.drew _ = W at H hHeld ⊢
          refine pure_ (i := 0) (N := some 17) (v := ?_) (a' := ?_) #[true, false, false, false, false, false, false, false, false] rfl rfl (by kernel_rfl) (fun _ _ _ h => h) (Or.inl ⟨by rfl, ?_⟩) ?_ ?_
          rotate_left
          · intro w'
            go_simp
            with_reducible rfl
          rotate_left
          · simp only [Act.put, List.setIfInBounds_toArray, List.set_cons_zero, List.set_cons_succ, i64_w, i32_w]
            rfl
          refine pure_ (i := 1) (N := some 18) (v := ?_) (a' := ?_) #[true, true, false, false, false, false, false, false, false] rfl rfl (by kernel_rfl) (fun _ _ _ h => h) (Or.inl ⟨by rfl, ?_⟩) ?_ ?_
          rotate_left
          · intro w'
            go_simp
            with_reducible rfl
          rotate_left
          · simp only [Act.put, List.setIfInBounds_toArray, List.set_cons_zero, List.set_cons_succ, i64_w, i32_w]
            rfl
          refine pure_ (i := 2) (N := some 19) (v := ?_) (a' := ?_) #[true, true, true, false, false, false, false, false, false] rfl rfl (by kernel_rfl) (fun _ _ _ h => h) (Or.inl ⟨by rfl, ?_⟩) ?_ ?_
          rotate_left
          · intro w'
            go_simp
            with_reducible rfl
          rotate_left
          · simp only [Act.put, List.setIfInBounds_toArray, List.set_cons_zero, List.set_cons_succ, i64_w, i32_w]
            rfl
          refine pure_ (i := 4) (N := some 21) (v := ?_) (a' := ?_) #[true, true, true, false, true, false, false, false, false] rfl rfl (by kernel_rfl) (fun _ _ _ h => h) (Or.inl ⟨by rfl, ?_⟩) ?_ ?_
          rotate_left
          · intro w'
            go_simp
            with_reducible rfl
          rotate_left
          · simp only [Act.put, List.setIfInBounds_toArray, List.set_cons_zero, List.set_cons_succ, i64_w, i32_w]
            rfl
          refine pure_ (i := 5) (N := some 22) (v := ?_) (a' := ?_) #[true, true, true, false, true, true, false, false, false] rfl rfl (by kernel_rfl) (fun _ _ _ h => h) (Or.inl ⟨by rfl, ?_⟩) ?_ ?_
          rotate_left
          · intro w'
            go_simp
            with_reducible rfl
          rotate_left
          · simp only [Act.put, List.setIfInBounds_toArray, List.set_cons_zero, List.set_cons_succ, i64_w, i32_w]
            rfl
          refine pure_ (i := 6) (N := some 23) (v := ?_) (a' := ?_) #[true, true, true, false, true, true, true, false, false] rfl rfl (by kernel_rfl) (fun _ _ _ h => h) (Or.inl ⟨by rfl, ?_⟩) ?_ ?_
          rotate_left
          · intro w'
            go_simp
            with_reducible rfl
          rotate_left
          · simp only [Act.put, List.setIfInBounds_toArray, List.set_cons_zero, List.set_cons_succ, i64_w, i32_w]
            rfl
          refine take_run (i := 3) (N := some 20) (a' := ?_) #[true, true, true, true, true, true, true, false, false] rfl rfl (by kernel_rfl) (fun _ _ _ _ h => h) (by rfl) hHeld (.agg (nums .u8 sa).toArray) (fun X HX => r_loadRdS 43 _ rfl (k * 64) rfl (hrA.below HX.below) 64 _ Try.underlying43 rfl size43 (by decide) _ nA (by rw [nums_length]; exact lA)) ?_ ?_
          rotate_left
          · simp only [Act.put, List.setIfInBounds_toArray, List.set_cons_zero, List.set_cons_succ, i64_w, i32_w]
            rfl
          refine take_run (i := 7) (N := some 24) (a' := ?_) #[true, true, true, true, true, true, true, true, false] rfl rfl (by kernel_rfl) (fun _ _ _ _ h => h) (by rfl) hHeld (.agg (nums .u8 sb).toArray) (fun X HX => r_loadRdS 43 _ rfl (k * 64) rfl (hrB.below HX.below) 64 _ Try.underlying43 rfl size43 (by decide) _ nB (by rw [nums_length]; exact lB)) ?_ ?_
          rotate_left
          · simp only [Act.put, List.setIfInBounds_toArray, List.set_cons_zero, List.set_cons_succ, i64_w, i32_w]
            rfl
          refine pure_ (i := 8) (N := some 25) (v := ?_) (a' := ?_) #[true, true, true, true, true, true, true, true, true] rfl rfl (by kernel_rfl) (fun _ _ _ h => h) (Or.inl ⟨by rfl, ?_⟩) ?_ ?_
          rotate_left
          · intro w'
            go_simp
            with_reducible rfl
          rotate_left
          · simp only [Act.put, List.setIfInBounds_toArray, List.set_cons_zero, List.set_cons_succ, i64_w, i32_w]
            rfl
          refine done_ (by kernel_rfl) ?_
          clear hHeld
          go_wp2
          go_ret
          exact ⟨by rw [show (fa == fb) = false from beq_eq_false_iff_ne.2 (fun e => hq (gA e))]; rfl, H.below⟩
      · have q1 : decide ((k : Int) < (n : Int)) = false := decide_eq_false (by omega)
        have hkk : k = n := by omega
        subst hkk
        rw [List.take_of_length_le (by omega), List.take_of_length_le (by omega)] at he
        go_wp2
        go_ret
        exact ⟨by rw [show (fa == fb) = true by simp [he]]; rfl, H.below⟩
  · have q1 : ((n : Int) == (m : Int)) = false := by simp; omega
    have q2 : ((n : Int) != (m : Int)) = true := by simp [bne, q1]
    go_enter Try.func52, Try.ntmps52
    go_wp2
    go_ret
    exact ⟨by unfold sameB; simp [hnm], H.below⟩
/-- what the reference has laid of the first i bytes -/
def flatR (b : List Int) (i : Nat) : List Int := b.take i ++ zs (64 * nsec i - i)
theorem nsec_le (i : Nat) : i ≤ 64 * nsec i := by unfold nsec; omega
theorem flatR_zero (b : List Int) : flatR b 0 = [] := by simp [flatR, nsec, zs]
theorem flatR_len (b : List Int) (i : Nat) (h : i ≤ b.length) : (flatR b i).length = 64 * nsec i := by
  unfold flatR zs
  have := nsec_le i
  rw [List.length_append, List.length_take, List.length_replicate]
  omega
theorem flatR_end (b : List Int) : flatR b b.length = flatS b (nsec b.length) := by
  unfold flatR flatS
  rw [List.take_of_length_le (Nat.le_refl _), List.take_of_length_le (nsec_le _)]
theorem zs_cons (n : Nat) (h : 0 < n) : zs n = 0 :: zs (n - 1) := by
  obtain ⟨m, rfl⟩ : ∃ m, n = m + 1 := ⟨n - 1, by omega⟩
  rfl
theorem flatR_set (b : List Int) (i : Nat) (h : i < b.length) (h2 : ¬ i % 64 = 0) : (flatR b i).set i b[i] = flatR b (i + 1) := by
  have e1 : nsec (i + 1) = nsec i := by unfold nsec; omega
  have e2 := nsec_le (i + 1)
  rw [e1] at e2
  unfold flatR
  rw [e1, zs_cons (64 * nsec i - i) (by omega), List.set_append_right _ _ (by simp; omega)]
  rw [show i - (b.take i).length = 0 by rw [List.length_take]; omega, List.set_cons_zero, List.take_add_one, List.getElem?_eq_getElem h, List.append_assoc]
  rw [show 64 * nsec i - i - 1 = 64 * nsec i - (i + 1) by omega]
  rfl
theorem flatR_new (b : List Int) (i : Nat) (h : i < b.length) (h2 : i % 64 = 0) : (flatR b i ++ zs 64).set i b[i] = flatR b (i + 1) := by
  have e0 : 64 * nsec i = i := by unfold nsec; omega
  have e1 : 64 * nsec (i + 1) = i + 64 := by unfold nsec; omega
  unfold flatR
  rw [e0, e1, Nat.sub_self, show zs 0 = [] from rfl, List.append_nil, List.set_append_right _ _ (by simp; omega)]
  rw [show i - (b.take i).length = 0 by rw [List.length_take]; omega, zs_cons 64 (by decide), List.set_cons_zero, List.take_add_one, List.getElem?_eq_getElem h, List.append_assoc]
  rw [show i + 64 - (i + 1) = 64 - 1 by omega]
  rfl
set_option maxRecDepth 100000 in
set_option maxHeartbeats 4000000 in
theorem rsecs_calls (b : List Int) (A : Option Addr) (c : Nat) (w : World) (hr : Kd.C (Kd.int .u8) w A b.length b) (hc : b.length ≤ c) (hl : b.length ≤ 140737488351232) :
    Calls Try.prog 53 #[.slice A b.length c] w fun e w' => ∃ v, e = .returned v ∧ w'.ownsRow w.heap.size 43 64 v (nsec b.length) (nums .u8 (flatS b (nsec b.length))) ∧ Below w.heap.size w w' := by
  have HR := Rd.of_C hr
  clear hr
  have H := Own.start w
  go_enter Try.func53, Try.ntmps53
  go_wp2
  have H := (show Own w F0 [.row (.slice none 0 0) 43 64 0 []] w from H.cons (Below.refl _ _) (own_nil _ _ _ _) (fun k hk => by cases hk))
  go_loopg [3, 4] b.length (fun gq v3 v4 w' => ∃ i : Nat, v4 = .int .i64 (i : Int) ∧ i + gq = b.length ∧ Own w F0 [.row v3 43 64 (nsec i) (nums .u8 (flatR b i))] w')
  case atStart => exact ⟨0, rfl, by omega, by rw [flatR_zero]; exact H⟩
  case round =>
    clear H
    obtain ⟨i, rfl, hk, H⟩ := hrel
    by_cases ci : i < b.length
    · obtain ⟨gk', rfl⟩ : ∃ q, gk = q + 1 := ⟨gk - 1, by omega⟩
      have q1 : decide ((i : Int) < (b.length : Int)) = true := decide_eq_true (by omega)
      obtain ⟨ad, rfl⟩ := HR.some_ (by rw [nums_length]; omega)
      have p0 : ((0 : Int) ≤ (i : Int)) = True := eq_true (by omega)
      have p1 : ((i : Int) < (b.length : Int)) = True := eq_true (by omega)
      have hfl := flatR_len b i (by omega)
      have hns := nsec_le i
      have hrem : ((i : Int)).tmod 64 = ((i % 64 : Nat) : Int) := by rw [Int.tmod_eq_emod_of_nonneg (by omega)]; omega
      have hbd : (nsec i + 1) * 64 ≤ 140737488355328 := by unfold nsec; omega
      have hb1 : b.getD i 0 = b[i] := by rw [List.getD_eq_getElem?_getD, List.getElem?_eq_getElem ci]; rfl
      have hcell : (nums .u8 b)[i]? = some (.int .u8 (b.getD i 0)) := nums_at i ci
      by_cases h0 : i % 64 = 0
      · have q2 : (((i % 64 : Nat) : Int) == 0) = true := by simp [h0]
        have hnew := flatR_new b i ci h0
        rw [← hb1] at hnew
        generalize b.getD i 0 = z at hnew hcell
        go_wp2_with (first
    | ((with_reducible refine gate_dst (N := 16) rfl ?_); refine l_build1A rfl H 81 43 _ rfl Try.underlying81 _ rfl _ _ zs43 rfl (by (first | rfl | assumption | omega | (simp only [nums_length]; omega) | (simp [nums_length, zs]; done) | (simp [nums_length, zs]; omega))) (by decide) (by decide) ?_; clear H; intro g16 W H)
    | ((with_reducible refine gate_dst (N := 17) rfl ?_); refine l_append1 rfl H _ _ 81 43 rfl Try.underlying81 _ _ _ inf43 rfl (by decide) (by decide) _ _ _ rfl (by (repeat (first | exact In.head | apply In.tail))) _ _ rfl (by (repeat (first | exact In.head | apply In.tail))) (by (first | rfl | assumption | omega | (simp only [nums_length]; omega) | (simp [nums_length, zs]; done) | (simp [nums_length, zs]; omega))) (by (first | exact nums_one | (intro u hu; simp at hu; subst hu; rfl) | (intro u hu; simp at hu; rcases hu with rfl | rfl | rfl | rfl | rfl | rfl | rfl <;> rfl) | (intro u hu; simp at hu; rcases hu with rfl | rfl | rfl | rfl <;> rfl) | (intro u hu; simp at hu; rcases hu with rfl | rfl | rfl <;> rfl) | (intro u hu; simp at hu; rcases hu with rfl | rfl <;> rfl))) (by omega) ?_; clear H; intro v17 W H)
    | ((with_reducible refine gate_dst (N := 15) rfl ?_); refine l_run rfl (.agg (nums .u8 (zs 64)).toArray) (by kernel_rfl) ?_))
        rw [nums_app] at H
        obtain ⟨p, hp⟩ : ∃ p, nsec i = p := ⟨_, rfl⟩
        rw [hp] at H hfl hns
        obtain ⟨q, hq⟩ : ∃ q, p + 1 = q := ⟨_, rfl⟩
        rw [hq] at H
        obtain ⟨gv, cap, cur, rfl, hcap, hcm, hcl, hct, H⟩ := H.row_blk (.tail .head) (by omega)
        have hI : i < 64 * q := by unfold nsec at hp; omega
        have w1 : IntKind.i64.wrap ((q : Int) - 1) = (p : Int) := by rw [IntKind.wrap_i64]; omega
        have r0 : ((0 : Int) ≤ (p : Int)) = True := eq_true (by omega)
        have r1 : ((p : Int) < (q : Int)) = True := eq_true (by omega)
        have hpp : p * 64 = i := by unfold nsec at hp; omega
        have HQ := Lib.hid hq
        clear hq
        go_wp2
        refine start_ (n := 13) (S := Own _ _ _) (ds := [12]) #[false, false, false, false, false, false, false, false, false, false, false, false, false] (by kernel_rfl) rfl rfl H.drew (fun hHeld => ?_)
        replace H := H.drew
        generalize World.drew _ = W at H hHeld ⊢
        refine pure_ (i := 0) (N := some 18) (v := ?_) (a' := ?_) #[true, false, false, false, false, false, false, false, false, false, false, false, false] rfl rfl (by kernel_rfl) (fun _ _ _ h => h) (Or.inl ⟨by rfl, ?_⟩) ?_ ?_
        rotate_left
        · intro w'
          go_simp
          with_reducible rfl
        rotate_left
        · simp only [Act.put, List.setIfInBounds_toArray, List.set_cons_zero, List.set_cons_succ, i64_w, i32_w]
          rfl
        refine pure_ (i := 1) (N := some 19) (v := ?_) (a' := ?_) #[true, true, false, false, false, false, false, false, false, false, false, false, false] rfl rfl (by kernel_rfl) (fun _ _ _ h => h) (Or.inl ⟨by rfl, ?_⟩) ?_ ?_
        rotate_left
        · intro w'
          go_simp
          with_reducible rfl
        rotate_left
        · simp only [Act.put, List.setIfInBounds_toArray, List.set_cons_zero, List.set_cons_succ, i64_w, i32_w]
          rfl
        refine pure_ (i := 2) (N := some 20) (v := ?_) (a' := ?_) #[true, true, true, false, false, false, false, false, false, false, false, false, false] rfl rfl (by kernel_rfl) (fun _ _ _ h => h) (Or.inl ⟨by rfl, ?_⟩) ?_ ?_
        rotate_left
        · intro w'
          go_simp
          with_reducible rfl
        rotate_left
        · simp only [Act.put, List.setIfInBounds_toArray, List.set_cons_zero, List.set_cons_succ, i64_w, i32_w]
          rfl
        refine pure_ (i := 3) (N := some 21) (v := ?_) (a' := ?_) #[true, true, true, true, false, false, false, false, false, false, false, false, false] rfl rfl (by kernel_rfl) (fun _ _ _ h => h) (Or.inl ⟨by rfl, ?_⟩) ?_ ?_
        rotate_left
        · intro w'
          go_simp
          with_reducible rfl
        rotate_left
        · simp only [Act.put, List.setIfInBounds_toArray, List.set_cons_zero, List.set_cons_succ, i64_w, i32_w]
          rfl
        refine pure_ (i := 4) (N := some 22) (v := ?_) (a' := ?_) #[true, true, true, true, true, false, false, false, false, false, false, false, false] rfl rfl (by kernel_rfl) (fun _ _ _ h => h) (Or.inl ⟨by rfl, ?_⟩) ?_ ?_
        rotate_left
        · intro w'
          go_simp
          with_reducible rfl
        rotate_left
        · simp only [Act.put, List.setIfInBounds_toArray, List.set_cons_zero, List.set_cons_succ, i64_w, i32_w]
          rfl
        refine pure_ (i := 5) (N := some 23) (v := ?_) (a' := ?_) #[true, true, true, true, true, true, false, false, false, false, false, false, false] rfl rfl (by kernel_rfl) (fun _ _ _ h => h) (Or.inl ⟨by rfl, ?_⟩) ?_ ?_
        rotate_left
        · intro w'
          go_simp
          with_reducible rfl
        rotate_left
        · simp only [Act.put, List.setIfInBounds_toArray, List.set_cons_zero, List.set_cons_succ, i64_w, i32_w]
          rfl
        refine pure_ (i := 6) (N := some 24) (v := ?_) (a' := ?_) #[true, true, true, true, true, true, true, false, false, false, false, false, false] rfl rfl (by kernel_rfl) (fun _ _ _ h => h) (Or.inl ⟨by rfl, ?_⟩) ?_ ?_
        rotate_left
        · intro w'
          go_simp
          with_reducible rfl
        rotate_left
        · simp only [Act.put, List.setIfInBounds_toArray, List.set_cons_zero, List.set_cons_succ, i64_w, i32_w]
          rfl
        refine pure_ (i := 7) (N := some 25) (v := ?_) (a' := ?_) #[true, true, true, true, true, true, true, true, false, false, false, false, false] rfl rfl (by kernel_rfl) (fun _ _ _ h => h) (Or.inl ⟨by rfl, ?_⟩) ?_ ?_
        rotate_left
        · intro w'
          go_simp
          with_reducible rfl
        rotate_left
        · simp only [Act.put, List.setIfInBounds_toArray, List.set_cons_zero, List.set_cons_succ, i64_w, i32_w]
          rfl
        refine pure_ (i := 8) (N := some 26) (v := ?_) (a' := ?_) #[true, true, true, true, true, true, true, true, true, false, false, false, false] rfl rfl (by kernel_rfl) (fun _ _ _ h => h) (Or.inl ⟨by rfl, ?_⟩) ?_ ?_
        rotate_left
        · intro w'
          go_simp
          with_reducible rfl
        rotate_left
        · simp only [Act.put, List.setIfInBounds_toArray, List.set_cons_zero, List.set_cons_succ, i64_w, i32_w]
          rfl
        refine pure_ (i := 10) (N := some 28) (v := ?_) (a' := ?_) #[true, true, true, true, true, true, true, true, true, false, true, false, false] rfl rfl (by kernel_rfl) (fun _ _ _ h => h) (Or.inl ⟨by rfl, ?_⟩) ?_ ?_
        rotate_left
        · intro w'
          go_simp
          with_reducible rfl
        rotate_left
        · simp only [Act.put, List.setIfInBounds_toArray, List.set_cons_zero, List.set_cons_succ, i64_w, i32_w]
          rfl
        refine take_run (i := 9) (N := some 27) (a' := ?_) #[true, true, true, true, true, true, true, true, true, true, true, false, false] rfl rfl (by kernel_rfl) (fun _ _ _ _ h => h) (by rfl) hHeld (.int .u8 z) (fun X HX => r_loadRd1 5 _ rfl i rfl (HR.below HX.below) _ Try.underlying5 rfl _ hcell) ?_ ?_
        rotate_left
        · simp only [Act.put, List.setIfInBounds_toArray, List.set_cons_zero, List.set_cons_succ, i64_w, i32_w]
          rfl
        refine pure_ (i := 11) (N := some 29) (v := ?_) (a' := ?_) #[true, true, true, true, true, true, true, true, true, true, true, true, false] rfl rfl (by kernel_rfl) (fun _ _ _ h => h) (Or.inl ⟨by rfl, ?_⟩) ?_ ?_
        rotate_left
        · intro w'
          go_simp
          with_reducible rfl
        rotate_left
        · simp only [Act.put, List.setIfInBounds_toArray, List.set_cons_zero, List.set_cons_succ, i64_w, i32_w]
          rfl
        refine last_ (i := 12) (N := none) #[true, true, true, true, true, true, true, true, true, true, true, true, true] rfl rfl (by kernel_rfl) (by decide) (fun K hK => ?_)
        refine wanted_ rfl ?_
        refine w_store1 H 5 _ _ rfl _ _ rfl _ (by first | (go_simp; done) | (go_simp; with_reducible rfl)) (by (repeat (first | exact In.head | apply In.tail))) rfl rfl size5 (by (first | rfl | assumption | omega | (simp only [nums_length]; omega) | (simp [nums_length, zs]; done) | (simp [nums_length, zs]; omega))) ?_
        clear H
        intro W H
        refine hK.out _ _ ?_
        clear hK K
        refine done_ (by kernel_rfl) ?_
        clear hHeld
        have H2 := H.blk_row (.tail .head) hcap hcm (by rw [List.length_set]; exact hcl) (show _ = nums .u8 (flatR b (i + 1)) by rw [List.take_set, hct, nums_set, hnew])
        clear H
        go_wp2
        go_roundg gk'
        case measure => omega
        case rel =>
          refine ⟨i + 1, rfl, by omega, ?_⟩
          rw [show nsec (i + 1) = q by have := HQ.out; unfold nsec at *; omega]
          exact H2.del .head
      · have q2 : (((i % 64 : Nat) : Int) == 0) = false := by simp; omega
        have hnew := flatR_set b i ci h0
        rw [← hb1] at hnew
        generalize b.getD i 0 = z at hnew hcell
        obtain ⟨q, hq⟩ : ∃ q, nsec i = q := ⟨_, rfl⟩
        obtain ⟨p, hp⟩ : ∃ p, q = p + 1 := ⟨q - 1, by unfold nsec at hq; omega⟩
        rw [hq] at H hfl hns
        obtain ⟨gv, cap, cur, rfl, hcap, hcm, hcl, hct, H⟩ := H.row_blk .head (by omega)
        have w1 : IntKind.i64.wrap ((q : Int) - 1) = (p : Int) := by rw [IntKind.wrap_i64]; omega
        have r0 : ((0 : Int) ≤ (p : Int)) = True := eq_true (by omega)
        have r1 : ((p : Int) < (q : Int)) = True := eq_true (by omega)
        have hps : p * 64 + i % 64 = i := by unfold nsec at hq; omega
        obtain ⟨j, hj⟩ : ∃ j, i % 64 = j := ⟨_, rfl⟩
        have r2 : ((0 : Int) ≤ (j : Int)) = True := eq_true (by omega)
        have r3 : ((j : Int) < 64) = True := eq_true (by omega)
        rw [hj] at hps hrem q2
        have hlt : p * 64 + j < cur.length := by omega
        have hn1 : nsec (i + 1) = q := by unfold nsec at *; omega
        have HQ := Lib.hid hq
        have HP := Lib.hid hp
        have HJ := Lib.hid hj
        have HS := Lib.hid hps
        have HN := Lib.hid hn1
        clear hq hp hj h0 hps hn1
        go_wp2
        refine start_ (n := 13) (S := Own _ _ _) (ds := [12]) #[false, false, false, false, false, false, false, false, false, false, false, false, false] (by kernel_rfl) rfl rfl H.drew (fun hHeld => ?_)
        replace H := H.drew
        generalize World.drew _ = W at H hHeld ⊢
        refine pure_ (i := 0) (N := some 18) (v := ?_) (a' := ?_) #[true, false, false, false, false, false, false, false, false, false, false, false, false] rfl rfl (by kernel_rfl) (fun _ _ _ h => h) (Or.inl ⟨by rfl, ?_⟩) ?_ ?_
        rotate_left
        · intro w'
          go_simp
          with_reducible rfl
        rotate_left
        · simp only [Act.put, List.setIfInBounds_toArray, List.set_cons_zero, List.set_cons_succ, i64_w, i32_w]
          rfl
        refine pure_ (i := 1) (N := some 19) (v := ?_) (a' := ?_) #[true, true, false, false, false, false, false, false, false, false, false, false, false] rfl rfl (by kernel_rfl) (fun _ _ _ h => h) (Or.inl ⟨by rfl, ?_⟩) ?_ ?_
        rotate_left
        · intro w'
          go_simp
          with_reducible rfl
        rotate_left
        · simp only [Act.put, List.setIfInBounds_toArray, List.set_cons_zero, List.set_cons_succ, i64_w, i32_w]
          rfl
        refine pure_ (i := 2) (N := some 20) (v := ?_) (a' := ?_) #[true, true, true, false, false, false, false, false, false, false, false, false, false] rfl rfl (by kernel_rfl) (fun _ _ _ h => h) (Or.inl ⟨by rfl, ?_⟩) ?_ ?_
        rotate_left
        · intro w'
          go_simp
          with_reducible rfl
        rotate_left
        · simp only [Act.put, List.setIfInBounds_toArray, List.set_cons_zero, List.set_cons_succ, i64_w, i32_w]
          rfl
        refine pure_ (i := 3) (N := some 21) (v := ?_) (a' := ?_) #[true, true, true, true, false, false, false, false, false, false, false, false, false] rfl rfl (by kernel_rfl) (fun _ _ _ h => h) (Or.inl ⟨by rfl, ?_⟩) ?_ ?_
        rotate_left
        · intro w'
          go_simp
          with_reducible rfl
        rotate_left
        · simp only [Act.put, List.setIfInBounds_toArray, List.set_cons_zero, List.set_cons_succ, i64_w, i32_w]
          rfl
        refine pure_ (i := 4) (N := some 22) (v := ?_) (a' := ?_) #[true, true, true, true, true, false, false, false, false, false, false, false, false] rfl rfl (by kernel_rfl) (fun _ _ _ h => h) (Or.inl ⟨by rfl, ?_⟩) ?_ ?_
        rotate_left
        · intro w'
          go_simp
          with_reducible rfl
        rotate_left
        · simp only [Act.put, List.setIfInBounds_toArray, List.set_cons_zero, List.set_cons_succ, i64_w, i32_w]
          rfl
        refine pure_ (i := 5) (N := some 23) (v := ?_) (a' := ?_) #[true, true, true, true, true, true, false, false, false, false, false, false, false] rfl rfl (by kernel_rfl) (fun _ _ _ h => h) (Or.inl ⟨by rfl, ?_⟩) ?_ ?_
        rotate_left
        · intro w'
          go_simp
          with_reducible rfl
        rotate_left
        · simp only [Act.put, List.setIfInBounds_toArray, List.set_cons_zero, List.set_cons_succ, i64_w, i32_w]
          rfl
        refine pure_ (i := 6) (N := some 24) (v := ?_) (a' := ?_) #[true, true, true, true, true, true, true, false, false, false, false, false, false] rfl rfl (by kernel_rfl) (fun _ _ _ h => h) (Or.inl ⟨by rfl, ?_⟩) ?_ ?_
        rotate_left
        · intro w'
          go_simp
          with_reducible rfl
        rotate_left
        · simp only [Act.put, List.setIfInBounds_toArray, List.set_cons_zero, List.set_cons_succ, i64_w, i32_w]
          rfl
        refine pure_ (i := 7) (N := some 25) (v := ?_) (a' := ?_) #[true, true, true, true, true, true, true, true, false, false, false, false, false] rfl rfl (by kernel_rfl) (fun _ _ _ h => h) (Or.inl ⟨by rfl, ?_⟩) ?_ ?_
        rotate_left
        · intro w'
          go_simp
          with_reducible rfl
        rotate_left
        · simp only [Act.put, List.setIfInBounds_toArray, List.set_cons_zero, List.set_cons_succ, i64_w, i32_w]
          rfl
        refine pure_ (i := 8) (N := some 26) (v := ?_) (a' := ?_) #[true, true, true, true, true, true, true, true, true, false, false, false, false] rfl rfl (by kernel_rfl) (fun _ _ _ h => h) (Or.inl ⟨by rfl, ?_⟩) ?_ ?_
        rotate_left
        · intro w'
          go_simp
          with_reducible rfl
        rotate_left
        · simp only [Act.put, List.setIfInBounds_toArray, List.set_cons_zero, List.set_cons_succ, i64_w, i32_w]
          rfl
        refine pure_ (i := 10) (N := some 28) (v := ?_) (a' := ?_) #[true, true, true, true, true, true, true, true, true, false, true, false, false] rfl rfl (by kernel_rfl) (fun _ _ _ h => h) (Or.inl ⟨by rfl, ?_⟩) ?_ ?_
        rotate_left
        · intro w'
          go_simp
          with_reducible rfl
        rotate_left
        · simp only [Act.put, List.setIfInBounds_toArray, List.set_cons_zero, List.set_cons_succ, i64_w, i32_w]
          rfl
        refine take_run (i := 9) (N := some 27) (a' := ?_) #[true, true, true, true, true, true, true, true, true, true, true, false, false] rfl rfl (by kernel_rfl) (fun _ _ _ _ h => h) (by rfl) hHeld (.int .u8 z) (fun X HX => r_loadRd1 5 _ rfl i rfl (HR.below HX.below) _ Try.underlying5 rfl _ hcell) ?_ ?_
        rotate_left
        · simp only [Act.put, List.setIfInBounds_toArray, List.set_cons_zero, List.set_cons_succ, i64_w, i32_w]
          rfl
        refine pure_ (i := 11) (N := some 29) (v := ?_) (a' := ?_) #[true, true, true, true, true, true, true, true, true, true, true, true, false] rfl rfl (by kernel_rfl) (fun _ _ _ h => h) (Or.inl ⟨by rfl, ?_⟩) ?_ ?_
        rotate_left
        · intro w'
          go_simp
          with_reducible rfl
        rotate_left
        · simp only [Act.put, List.setIfInBounds_toArray, List.set_cons_zero, List.set_cons_succ, i64_w, i32_w]
          rfl
        refine last_ (i := 12) (N := none) #[true, true, true, true, true, true, true, true, true, true, true, true, true] rfl rfl (by kernel_rfl) (by decide) (fun K hK => ?_)
        refine wanted_ rfl ?_
        refine w_store1 H 5 _ _ rfl _ _ rfl _ (by first | (go_simp; done) | (go_simp; with_reducible rfl)) (by (repeat (first | exact In.head | apply In.tail))) rfl rfl size5 (by (first | rfl | assumption | omega | (simp only [nums_length]; omega) | (simp [nums_length, zs]; done) | (simp [nums_length, zs]; omega))) ?_
        clear H
        intro W H
        refine hK.out _ _ ?_
        clear hK K
        refine done_ (by kernel_rfl) ?_
        clear hHeld
        rw [HS.out] at H
        have H2 := H.blk_row .head hcap hcm (by rw [List.length_set]; exact hcl) (show _ = nums .u8 (flatR b (i + 1)) by rw [List.take_set, hct, nums_set, hnew])
        clear H
        go_wp2
        go_roundg gk'
        case measure => omega
        case rel =>
          refine ⟨i + 1, rfl, by omega, ?_⟩
          rw [HN.out]
          exact H2
    · have q1 : decide ((i : Int) < (b.length : Int)) = false := decide_eq_false (by omega)
      have hkk : i = b.length := by omega
      subst hkk
      rw [flatR_end] at H
      go_wp2
      go_ret
      exact ⟨_, rfl, H.at_ .head, H.below⟩
end Go.Proofs.Ythlpimojojofbaa.O
