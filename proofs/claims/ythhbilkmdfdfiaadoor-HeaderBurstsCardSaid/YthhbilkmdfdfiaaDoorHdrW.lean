/- header.sum, number, lay; the reference's Get, by what is owned. -/
import Derived.Test.YthhbilkmdfdfiaaDoorCrcOwn
import Derived.Test.YthhbilkmdfdfiaaDoorHdrM
set_option linter.unusedVariables false
set_option linter.unusedSimpArgs false
namespace Go.Proofs.YthhbilkmdfdfiaaDoor.O
open Go.RowKit Go.Proofs.YthhbilkmdfdfiaaDoorW.PrintWords Go.Proofs.YthhbilkmdfdfiaaDoorW.PrintLast Go.Proofs.YthhbilkmdfdfiaaDoorW.PrintMore Go.Proofs.YthhbilkmdfdfiaaDoor.F Go.Proofs.YthhbilkmdfdfiaaDoor.F.Nums Go.Proofs.YthhbilkmdfdfiaaDoor.Plain
section
variable {P : Program} {o : Oper} {a : Act} {t e : TypeId} {N g : Nat}
theorem x_arr (x : Operand) (lo hi : Option Operand) (ho : o.op = .slice t x lo hi none) (off : Nat) (hx : a.eval x = .pointer (some ⟨g, off, none⟩)) (hu : P.underlying t = some (.array N e)) (hz : (P.info? e).map (·.size) = some 1) (l h : Nat)
    (hb : ∀ W, (Instr.sliceBounds false N N (lo.map a.eval) (hi.map a.eval) none).run P W = .ok (l, h, N) W) (hl : l < N) (W : World) : (execOp a.eval o).run P W = .ok (.value (.slice (some ⟨g, off + l, none⟩) (h - l) (N - l))) W := by
  obtain ⟨i, hi', hs⟩ := Option.map_eq_some_iff.1 hz
  have hn : ¬ N = l := by omega
  unfold execOp
  simp only [ho, hx]
  simp [Instr.sliceAt, Instr.sureAddr, run_underlying hu, hb W, sizeOf, typeInfo, hi', hs, hn, addr_add]
theorem x_arr_lo (x lo : Operand) (ho : o.op = .slice t x (some lo) none none) (off : Nat) (hx : a.eval x = .pointer (some ⟨g, off, none⟩)) (hu : P.underlying t = some (.array N e)) (hz : (P.info? e).map (·.size) = some 1) (l : Nat) (hlo : a.eval lo = .int .i64 (l : Int)) (hl : l < N) (W : World) :
    (execOp a.eval o).run P W = .ok (.value (.slice (some ⟨g, off + l, none⟩) (N - l) (N - l))) W :=
  x_arr x _ _ ho off hx hu hz l N (fun W => by simp [Instr.sliceBounds, run_sliceBound, hlo, Nat.le_of_lt hl]) hl W
theorem x_arr_lohi (x lo hi : Operand) (ho : o.op = .slice t x (some lo) (some hi) none) (off : Nat) (hx : a.eval x = .pointer (some ⟨g, off, none⟩)) (hu : P.underlying t = some (.array N e)) (hz : (P.info? e).map (·.size) = some 1) (l h : Nat) (hlo : a.eval lo = .int .i64 (l : Int)) (hhi : a.eval hi = .int .i64 (h : Int)) (hlh : l ≤ h) (hh : h ≤ N) (hl : l < N) (W : World) :
    (execOp a.eval o).run P W = .ok (.value (.slice (some ⟨g, off + l, none⟩) (h - l) (N - l))) W :=
  x_arr x _ _ ho off hx hu hz l h (fun W => by simp [Instr.sliceBounds, run_sliceBound, hlo, hhi, hlh, hh]) hl W
theorem x_arr_lo' (x lo : Operand) (ho : o.op = .slice t x (some lo) none none) (off : Nat) (hx : a.eval x = .pointer (some ⟨g, off, none⟩)) (hu : P.underlying t = some (.array N e)) (hz : (P.info? e).map (·.size) = some 1) (l : Nat) (hlo : a.eval lo = .int .i64 (l : Int)) (hl : l < N) (W : World) (p n : Nat) (h1 : off + l = p) (h2 : N - l = n) :
    (execOp a.eval o).run P W = .ok (.value (.slice (some ⟨g, p, none⟩) n n)) W := by
  subst h1 h2
  exact x_arr_lo x lo ho off hx hu hz l hlo hl W
theorem x_arr_lohi' (x lo hi : Operand) (ho : o.op = .slice t x (some lo) (some hi) none) (off : Nat) (hx : a.eval x = .pointer (some ⟨g, off, none⟩)) (hu : P.underlying t = some (.array N e)) (hz : (P.info? e).map (·.size) = some 1) (l h : Nat) (hlo : a.eval lo = .int .i64 (l : Int)) (hhi : a.eval hi = .int .i64 (h : Int)) (hlh : l ≤ h) (hh : h ≤ N) (hl : l < N) (W : World) (p n m : Nat) (h1 : off + l = p) (h2 : h - l = n) (h3 : N - l = m) :
    (execOp a.eval o).run P W = .ok (.value (.slice (some ⟨g, p, none⟩) n m)) W := by
  subst h1 h2 h3
  exact x_arr_lohi x lo hi ho off hx hu hz l h hlo hhi hlh hh hl W
end
set_option maxRecDepth 100000 in
set_option maxHeartbeats 4000000 in
theorem sum_calls (s : List Int) (hl : s.length = 64) (hb : Bytes s) (w : World) (hH : Half w) :
    Calls Tryd.prog 63 #[.agg (nums .u8 s).toArray] w fun e W => e = .returned (.int .u32 (sumN (s.take 37) : Int)) ∧ Below w.heap.size w W := by
  have H := Own.start w
  have hsz : (nums .u8 s).length = 64 := by rw [nums_length, hl]
  have OF := fun {W : World} {L : List Res} (H : Own w F0 L W) A n c hC hc => of_own H hH A n c (s.take 37) hC hc (bytes_take hb 37)
  have MF := fun {W : World} {L : List Res} (H : Own w F0 L W) => mask_own H (s.take 37)
  generalize moreI 0 (s.take 37) = mo at OF MF
  generalize sumN (s.take 37) = sm at MF ⊢
  go_enter Tryd.func63, Tryd.ntmps63
  go_wp2_with (first
    | ((with_reducible refine gate_dst (N := 1) rfl ?_); refine l_boxA rfl H 50 _ rfl _ rfl ?_; clear H; intro g1 W H)
    | (go_at_call 16; (with_reducible refine (OF H _ _ _ (by have := H.C .head 0 37 (by rw [hl]; decide) (by decide); rwa [List.drop_zero] at this) (by decide)).mono ?_); clear H; rintro e W ⟨rfl, H⟩)
    | (go_at_call 20; (with_reducible refine (MF H).mono ?_); clear H; rintro e W ⟨rfl, H⟩))
  go_ret
  exact ⟨rfl, H.below⟩
set_option maxRecDepth 100000 in
set_option maxHeartbeats 4000000 in
theorem number_calls (s : List Int) (hl : s.length = 64) (hb : Bytes s) (w : World) (a : Nat) (ha : a ≤ 60) :
    Calls Tryd.prog 62 #[.agg (nums .u8 s).toArray, .int .i64 (a : Int)] w fun e W => e = .returned (.int .i64 (nS s a)) ∧ Below w.heap.size w W := by
  have H := Own.start w
  have hsz : (nums .u8 s).length = 64 := by rw [nums_length, hl]
  have hn := nS_lt hb a
  have hg : ((getn ((s.drop a).take 4) 4 : Nat) : Int) = nS s a := by unfold nS; exact congrArg _ (getn_pre 4 (fun j hj => by rw [List.getElem?_take_of_lt hj]))
  have GF := fun {W : World} {L : List Res} (H : Own w F0 L W) A n c hC hc => get_own H A n c ((s.drop a).take 4) hC hc (bytes_take (bytes_drop hb a) 4)
  have c1 : wrap64 (nS s a) = nS s a := w64 (by omega) (by omega)
  have c1' := (i64_w _).trans c1
  obtain ⟨b, hb4⟩ : ∃ b, a + 4 = b := ⟨_, rfl⟩
  have c2 : wrap64 ((a : Int) + 4) = (b : Int) := by rw [show (a : Int) + 4 = (b : Int) by omega]; exact w64 (by omega) (by omega)
  have c2' := (i64_w _).trans c2
  generalize nS s a = z at *
  clear hn
  have hc4 := fun {W : World} {L : List Res} {g : Nat} (H : Own w F0 (.blk g 50 (nums .u8 s) :: L) W) => H.C .head a 4 (by omega) (by decide)
  have h64 : a < 64 := by omega
  have hab : a ≤ b := by omega
  have hb64 : b ≤ 64 := by omega
  have hba : b - a = 4 := by omega
  have hac : 4 ≤ 64 - a := by omega
  go_enter Tryd.func62, Tryd.ntmps62
  go_wp2_with (first
    | ((with_reducible refine gate_dst (N := 2) rfl ?_); refine l_boxA rfl H 50 _ rfl _ rfl ?_; clear H; intro g2 W H)
    | ((with_reducible refine gate_dst (N := 8) rfl ?_); refine l_run rfl (.slice (some ⟨g2, a, none⟩) 4 (64 - a)) (x_arr_lohi' _ _ _ rfl 0 rfl Tryd.underlying50 size5 a b rfl rfl hab hb64 h64 _ _ _ _ (Nat.zero_add a) hba rfl) ?_)
    | (go_at_call 57; (with_reducible refine (GF H _ _ _ (hc4 H) hac (by decide)).mono ?_); clear H; rintro e W ⟨rfl, H⟩; rw [hg]))
  go_ret
  exact ⟨rfl, H.below⟩
set_option maxRecDepth 100000 in
set_option maxHeartbeats 4000000 in
theorem lay_own {w0 w : World} {F : Nat → Option Obj} {R : List Res} (ad : Addr) (n cc g at_ : Nat) (xs cur : List Int) (T : TypeId) (hn : xs.length = n) (h0 : 0 < n) (hc : cur.length = 64) (hfit : at_ + 4 * n ≤ 64) (hx : ∀ x ∈ xs, 0 ≤ x ∧ x ≤ 9223372036854775807)
    (H : Own w0 F (.row (.slice (some ad) n cc) T 1 n (nums .i64 xs) :: .blk g 50 (nums .u8 cur) :: R) w) :
    Calls Tryd.prog 64 #[.pointer (some ⟨g, 0, none⟩), .int .i64 (at_ : Int), .slice (some ad) n cc] w fun e W => e = .returned (.tuple #[]) ∧ Own w0 F (.row (.slice (some ad) n cc) T 1 n (nums .i64 xs) :: .blk g 50 (nums .u8 (layN cur at_ xs n)) :: R) W := by
  go_enter Tryd.func64, Tryd.ntmps64
  go_wp2
  go_loopg [10] n (fun gq v10 w' => ∃ i : Nat, v10 = .int .i64 (i : Int) ∧ i + gq = n ∧ Own w0 F (.row (.slice (some ad) n cc) T 1 n (nums .i64 xs) :: .blk g 50 (nums .u8 (layN cur at_ xs i)) :: R) w')
  case atStart => exact ⟨0, rfl, by omega, H⟩
  case round =>
    clear H
    obtain ⟨i, rfl, hi, H⟩ := hrel
    have hll := layN_len cur at_ xs i (by omega)
    by_cases ci : i < n
    · obtain ⟨gk', rfl⟩ : ∃ q, gk = q + 1 := ⟨gk - 1, by omega⟩
      have q1 : decide (i < n) = true := decide_eq_true ci
      have q2 : ((0 : Int) ≤ (i : Int)) = True := eq_true (by omega)
      have q3 : ((i : Int) < (n : Int)) = True := eq_true (by omega)
      have hat := nums_at (k := .i64) (xs := xs) i (by omega)
      have hxi := hx (xs.getD i 0) (by rw [List.getD_eq_getElem?_getD, List.getElem?_eq_getElem (by omega)]; exact List.getElem_mem _)
      have hsucc : layN cur at_ xs (i + 1) = splice (layN cur at_ xs i) (at_ + 4 * i) (putl (xs.getD i 0).toNat 4) := rfl
      generalize xs.getD i 0 = x at hat hxi hsucc
      obtain ⟨y, rfl⟩ := Int.eq_ofNat_of_zero_le hxi.1
      rw [Int.toNat_natCast] at hsucc
      obtain ⟨p, hp⟩ : ∃ p, at_ + 4 * i = p := ⟨_, rfl⟩
      obtain ⟨i4, hi4⟩ : ∃ i4, 4 * i = i4 := ⟨_, rfl⟩
      have hp64 : p < 64 := by omega
      have hp4 : p + 4 ≤ 64 := by omega
      have hy : y < 18446744073709551616 := by omega
      have hm4 : min 4 (64 - p) = 4 := by omega
      have hlp : p + min 4 (64 - p) ≤ 64 := by omega
      have c1 : IntKind.u64.wrap (y : Int) = (y : Int) := wu64 (by omega) (by omega)
      have c2 : wrap64 (4 * (i : Int)) = (i4 : Int) := by rw [show 4 * (i : Int) = (i4 : Int) by omega]; exact w64 (by omega) (by omega)
      have c3 : wrap64 ((at_ : Int) + (i4 : Int)) = (p : Int) := by rw [show (at_ : Int) + (i4 : Int) = (p : Int) by omega]; exact w64 (by omega) (by omega)
      rw [hp] at hsucc
      have HI := Aside0.mk (And.intro hi hxi)
      have HS := Aside0.mk hsucc
      have HP := Aside0.mk hp4
      generalize layN cur at_ xs i = cu at H hll HS
      have hlc : (nums .u8 cu).length = 64 := by rw [nums_length, hll, hc]
      have hcl : p + min 4 (64 - p) ≤ cu.length := by rw [hll, hc]; exact hlp
      have hcl2 : p + min 4 (64 - p) ≤ (nums .u8 cu).length := by rw [hlc]; exact hlp
      replace hm4 := Aside0.mk hm4
      clear hlp
      clear hi hxi hsucc hp hi4 hp4 ci hll
      have PF := fun {W : World} {L : List Res} (H : Own w0 F L W) => put_own H y hy 4 4 rfl (by decide)
      clear hy
      have c2' := (i64_w _).trans c2
      have c3' := (i64_w _).trans c3
      go_wp2_with (first
    | ((with_reducible refine gate_dst (N := 14) rfl ?_); refine l_run rfl _ (r_loadRd1 3 _ rfl i rfl (H.rd .head).1 _ Tryd.underlying3 rfl _ hat) ?_))
      refine start_ (n := 11) (S := Own _ _ _) (ds := [10]) #[false, false, false, false, false, false, false, false, false, false, false] (by kernel_rfl) rfl rfl H.drew (fun hHeld => ?_)
      replace H := H.drew
      generalize World.drew _ = W at H hHeld ⊢
      refine pure_ (i := 0) (N := some 15) (v := ?_) (a' := ?_) #[true, false, false, false, false, false, false, false, false, false, false] rfl rfl (by kernel_rfl) (fun _ _ _ h => h) (Or.inl ⟨by rfl, ?_⟩) ?_ ?_
      rotate_left
      · intro w'
        go_simp
        with_reducible rfl
      rotate_left
      · simp only [Act.put, List.setIfInBounds_toArray, List.set_cons_zero, List.set_cons_succ, i64_w, i32_w]
        rfl
      refine pure_ (i := 1) (N := some 16) (v := ?_) (a' := ?_) #[true, true, false, false, false, false, false, false, false, false, false] rfl rfl (by kernel_rfl) (fun _ _ _ h => h) (Or.inl ⟨by rfl, ?_⟩) ?_ ?_
      rotate_left
      · intro w'
        go_simp
        with_reducible rfl
      rotate_left
      · simp only [Act.put, List.setIfInBounds_toArray, List.set_cons_zero, List.set_cons_succ, i64_w, i32_w]
        rfl
      refine pure_ (i := 2) (N := some 17) (v := ?_) (a' := ?_) #[true, true, true, false, false, false, false, false, false, false, false] rfl rfl (by kernel_rfl) (fun _ _ _ h => h) (Or.inl ⟨by rfl, ?_⟩) ?_ ?_
      rotate_left
      · intro w'
        go_simp
        with_reducible rfl
      rotate_left
      · simp only [Act.put, List.setIfInBounds_toArray, List.set_cons_zero, List.set_cons_succ, i64_w, i32_w]
        rfl
      refine pure_ (i := 3) (N := some 18) (v := ?_) (a' := ?_) #[true, true, true, true, false, false, false, false, false, false, false] rfl rfl (by kernel_rfl) (fun _ _ _ h => h) (Or.inl ⟨by rfl, ?_⟩) ?_ ?_
      rotate_left
      · intro w'
        go_simp
        with_reducible rfl
      rotate_left
      · simp only [Act.put, List.setIfInBounds_toArray, List.set_cons_zero, List.set_cons_succ, i64_w, i32_w]
        rfl
      refine pure_ (i := 4) (N := some 19) (v := ?_) (a' := ?_) #[true, true, true, true, true, false, false, false, false, false, false] rfl rfl (by kernel_rfl) (fun _ _ _ h => h) (Or.inl ⟨by rfl, ?_⟩) ?_ ?_
      rotate_left
      · intro w'
        go_simp
        with_reducible rfl
      rotate_left
      · simp only [Act.put, List.setIfInBounds_toArray, List.set_cons_zero, List.set_cons_succ, i64_w, i32_w]
        rfl
      refine pure_ (i := 5) (N := some 20) (v := ?_) (a' := ?_) #[true, true, true, true, true, true, false, false, false, false, false] rfl rfl (by kernel_rfl) (fun _ _ _ h => h) (Or.inl ⟨by rfl, ?_⟩) ?_ ?_
      rotate_left
      · intro w'
        go_simp
        with_reducible rfl
      rotate_left
      · simp only [Act.put, List.setIfInBounds_toArray, List.set_cons_zero, List.set_cons_succ, i64_w, i32_w]
        rfl
      refine take_run (i := 6) (N := some 21) (a' := ?_) #[true, true, true, true, true, true, true, false, false, false, false] rfl rfl (by kernel_rfl) (fun _ _ _ _ h => h) (by rfl) hHeld (.slice (some ⟨g, p, none⟩) (64 - p) (64 - p)) (fun X HX => x_arr_lo' _ _ rfl 0 rfl Tryd.underlying50 size5 p rfl hp64 X p (64 - p) (Nat.zero_add p) rfl) ?_ ?_
      rotate_left
      · simp only [Act.put, List.setIfInBounds_toArray, List.set_cons_zero, List.set_cons_succ, i64_w, i32_w]
        rfl
      refine pure_ (i := 7) (N := some 22) (v := ?_) (a' := ?_) #[true, true, true, true, true, true, true, true, false, false, false] rfl rfl (by kernel_rfl) (fun _ _ _ h => h) (Or.inl ⟨by rfl, ?_⟩) ?_ ?_
      rotate_left
      · intro w'
        go_simp
        with_reducible rfl
      rotate_left
      · simp only [Act.put, List.setIfInBounds_toArray, List.set_cons_zero, List.set_cons_succ, i64_w, i32_w]
        rfl
      refine pure_ (i := 8) (N := some 23) (v := ?_) (a' := ?_) #[true, true, true, true, true, true, true, true, true, false, false] rfl rfl (by kernel_rfl) (fun _ _ _ h => h) (Or.inl ⟨by rfl, ?_⟩) ?_ ?_
      rotate_left
      · intro w'
        go_simp
        with_reducible rfl
      rotate_left
      · simp only [Act.put, List.setIfInBounds_toArray, List.set_cons_zero, List.set_cons_succ, i64_w, i32_w]
        rfl
      refine one_ (i := 9) (N := some 24) #[true, true, true, true, true, true, true, true, true, true, false] rfl rfl (by kernel_rfl) (by decide) (fun K hK => ?_)
      refine callK_ (PF H) Tryd.func60 (by kernel_rfl) rfl (by rfl) rfl rfl (by (try simp only [List.map_toArray, List.map_cons, List.map_nil]); first | done | rfl) ?_
      rintro e W ⟨A24, c24, rfl, h24, C24, H'⟩
      refine ⟨_, rfl, ?_⟩
      replace H := H'
      clear H'
      refine hK.out _ _ ?_ (fun hHeld => ?_)
      · first | trivial | exact H | exact H.del .head | exact (H.del .head).del .head
      clear hK K
      refine norm_ (a' := ?_) ?_ ?_
      rotate_left
      · show Act.put _ (some 24) _ = _
        simp only [Act.put, List.setIfInBounds_toArray, List.set_cons_zero, List.set_cons_succ, i64_w, i32_w]
        rfl
      refine last_ (i := 10) (N := some 25) #[true, true, true, true, true, true, true, true, true, true, true] rfl rfl (by kernel_rfl) (by decide) (fun K hK => ?_)
      refine wanted_ rfl ?_
      refine w_copyC H _ _ _ _ rfl 5 Tryd.underlying23 size5 _ _ _ _ rfl (by (repeat (first | exact In.head | apply In.tail))) _ _ _ rfl ((putl y 4)) ?_ (by (first | rfl | assumption | omega | (simp only [nums_length]; omega) | (simp [nums_length, zs]; done) | (simp [nums_length, zs]; omega))) ?_
      · exact C24
      clear H; intro W H
      refine hK.out _ _ ?_
      clear hK K
      refine norm_ (a' := ?_) ?_ ?_
      rotate_left
      · show Act.put _ (some 25) _ = _
        simp only [Act.put, List.setIfInBounds_toArray, List.set_cons_zero, List.set_cons_succ, i64_w, i32_w]
        rfl
      refine done_ (by kernel_rfl) ?_
      clear hHeld
      rw [hm4.out, List.take_of_length_le (by rw [putl_len]; exact Nat.le_refl 4), ← HS.out] at H
      clear c1 c2 c3 c2' c3'
      go_wp2
      go_roundg gk'
      case measure => have := HI.out.1; omega
      case rel => exact ⟨i + 1, by have h4 := HI.out.1; have := hfit; rw [w64 (by omega) (by omega)]; rfl, by have := HI.out.1; omega, H⟩
    · have hin : i = n := by omega
      subst hin
      have q1 : decide (i < i) = false := decide_eq_false (by omega)
      clear hi ci
      go_wp2
      go_end0
      exact ⟨rfl, H⟩
end Go.Proofs.YthhbilkmdfdfiaaDoor.O
