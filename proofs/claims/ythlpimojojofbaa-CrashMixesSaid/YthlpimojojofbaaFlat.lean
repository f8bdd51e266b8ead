/- plan by hand: Flat, Covered, and the reference's. -/
import Derived.Test.YthlpimojojofbaaPlan
import Derived.Test.YthlpimojojofbaaFkPlan
import Derived.Test.YthlpimojojofbaaFkStrandlineref16
namespace Go.Proofs.Ythlpimojojofbaa.O
open Go.RowKit Go.Proofs.YthlpimojojofbaaW.PrintWords Go.Proofs.YthlpimojojofbaaW.PrintLast Go.Proofs.YthlpimojojofbaaW.PrintMore Go.Proofs.Ythlpimojojofbaa.F Go.Proofs.Ythlpimojojofbaa.F.Nums Go.Proofs.Ythlpimojojofbaa.Plain
attribute [local go_sem] max2_int min2_int max_two min_two max_three min_three max_four min_four
set_option linter.unusedVariables false
set_option linter.unusedSimpArgs false
/-- what a call owns behind another one's end is owned with what was owned ahead of it -/
theorem Own.addOwn {w0 W W' : World} {F : Nat → Option Obj} {L L' : List Res} (H : Own w0 F L W) (K : Own W F0 L' W') : Own w0 F (L' ++ L) W' := by
  have H' := H.to K.below
  refine ⟨H'.below, H'.holds, ?_, ?_, ?_⟩
  · intro r hr
    rcases List.mem_append.1 hr with hr | hr
    · have h := K.ats r hr
      cases r with
      | blk g t c => exact ⟨Nat.le_trans H.size h.1, h.2⟩
      | row v e sz n xs => exact own_weaken h H.size
    · exact H'.ats r hr
  · intro r hr k hk
    rcases List.mem_append.1 hr with hr | hr
    · cases hF : F k with
      | none => rfl
      | some o =>
        have h1 := obj_lt (H.holds k o hF)
        have h2 := (K.ats r hr).base hk
        omega
    · exact H'.apart r hr k hk
  · rw [List.pairwise_append]
    refine ⟨K.sep, H.sep, fun x hx y hy k h1 h2 => ?_⟩
    have h3 := (K.ats x hx).base h1
    have h4 := (H.ats y hy).lt h2
    omega
theorem Rd.Cb {w : World} {A : Option Addr} {xs : List Bool} {n : Nat} (h : Rd w A (bools xs)) (hn : xs.length = n) (hm : n ≤ 9223372036854775807) : Kd.bool.C w A n xs := by
  have hbl : (bools xs).length = xs.length := by simp [bools]
  refine ⟨hn, hm, fun hp => ?_⟩
  obtain ⟨ad, rfl, hc⟩ := h (by rw [hbl]; omega)
  refine ⟨ad, rfl, fun j p hj => ⟨[.bool p], rfl, rfl, fun i u hu => ?_⟩⟩
  have hi0 : i = 0 := by have := (List.getElem?_eq_some_iff.1 hu).1; simpa using this
  subst hi0
  simp at hu
  subst hu
  rw [show Kd.bool.sz = 1 from rfl, Nat.mul_one, Nat.add_zero]
  refine hc j _ ?_
  rw [bools, List.getElem?_map, hj]
  rfl
theorem bools_len (xs : List Bool) : (bools xs).length = xs.length := by simp [bools]
theorem bools_app (xs ys : List Bool) : bools xs ++ bools ys = bools (xs ++ ys) := by simp [bools]
theorem bools_at {xs : List Bool} (i : Nat) (h : i < xs.length) : (bools xs)[i]? = some (.bool (xs.getD i false)) := by
  rw [bools, List.getElem?_map, List.getElem?_eq_getElem h, List.getD_eq_getElem?_getD, List.getElem?_eq_getElem h]
  rfl
theorem bools_one {xs : List Bool} : ∀ u ∈ bools xs, u.oneCell' = true := by
  intro u hu
  obtain ⟨z, -, rfl⟩ := List.mem_map.1 hu
  rfl
/-! ### Covered -/
def covN (l : List Bool) : Nat → Nat → Bool
  | _, 0 => true
  | a, d + 1 => decide (a < l.length) && l.getD a false && covN l (a + 1) d
theorem cov_l (l : List Bool) (b : Nat) (hb : b ≤ 16) : ∀ (d a k : Nat), a + d = b → d < k → plan_Covered.l0 k l b a = some (covN l a d) := by
  intro d
  induction d with
  | zero =>
    intro a k h hk
    obtain ⟨k, rfl⟩ : ∃ m, k = m + 1 := ⟨k - 1, by omega⟩
    simp only [plan_Covered.l0]
    rw [if_neg (by omega)]
    rfl
  | succ d ih =>
    intro a k h hk
    obtain ⟨k, rfl⟩ : ∃ m, k = m + 1 := ⟨k - 1, by omega⟩
    simp only [plan_Covered.l0]
    rw [if_pos (by omega)]
    unfold covN
    by_cases h2 : a < l.length
    · rw [if_neg (by omega), if_pos (by omega), if_pos (by omega), show rdOf false l (a : Int) = l.getD a false by unfold rdOf; rw [Int.toNat_natCast], w64 (by omega) (by omega)]
      rw [decide_eq_true h2, Bool.true_and]
      cases hq : l.getD a false with
      | true => rw [if_pos rfl, Bool.true_and]; exact ih (a + 1) k (by omega) (by omega)
      | false => simp
    · rw [if_pos (by omega), decide_eq_false h2]
      rfl
theorem rcov_l (l : List Bool) (b : Nat) (hb : b ≤ 16) : ∀ (d a k : Nat), a + d = b → d < k → strandlineref16_Covered.l0 k l b a = some (covN l a d) := by
  intro d
  induction d with
  | zero =>
    intro a k h hk
    obtain ⟨k, rfl⟩ : ∃ m, k = m + 1 := ⟨k - 1, by omega⟩
    simp only [strandlineref16_Covered.l0]
    rw [if_neg (by omega)]
    rfl
  | succ d ih =>
    intro a k h hk
    obtain ⟨k, rfl⟩ : ∃ m, k = m + 1 := ⟨k - 1, by omega⟩
    simp only [strandlineref16_Covered.l0]
    rw [if_pos (by omega)]
    unfold covN
    by_cases h2 : a < l.length
    · rw [if_neg (by omega), if_pos (by omega), if_pos (by omega), show rdOf false l (a : Int) = l.getD a false by unfold rdOf; rw [Int.toNat_natCast], w64 (by omega) (by omega)]
      rw [decide_eq_true h2, Bool.true_and]
      cases hq : l.getD a false with
      | true => rw [if_pos rfl, Bool.true_and]; exact ih (a + 1) k (by omega) (by omega)
      | false => simp
    · rw [if_pos (by omega), decide_eq_false h2]
      rfl
theorem cov_c (l : List Bool) (f t : Int) (a b : Nat) (ht : tch (cl f) (cl t) = ((a : Int), (b : Int))) (hab : a ≤ b) (hb : b ≤ 16) (A : Option Addr) (c : Nat) (w : World) (hr : Rd w A (bools l)) (hc : l.length ≤ c) (hl : l.length ≤ 9223372036854775807) :
    Calls Try.prog 72 #[.slice A l.length c, .int .i64 f, .int .i64 t] w fun e w' => e = .returned (.bool (covN l a (b - a))) ∧ Below w.heap.size w w' :=
  plan_Covered.calls 17 A c l f t _ w (hr.Cb rfl hl) hc (by unfold plan_Covered.f; rw [SpanP.touch_eq, ht, Option.bind_some]; exact cov_l l b hb (b - a) a 17 (by omega) (by omega))
theorem rcov_c (l : List Bool) (f t : Int) (a b : Nat) (ht : tch (cl f) (cl t) = ((a : Int), (b : Int))) (hab : a ≤ b) (hb : b ≤ 16) (A : Option Addr) (c : Nat) (w : World) (hr : Rd w A (bools l)) (hc : l.length ≤ c) (hl : l.length ≤ 9223372036854775807) :
    Calls Try.prog 73 #[.slice A l.length c, .int .i64 f, .int .i64 t] w fun e w' => e = .returned (.bool (covN l a (b - a))) ∧ Below w.heap.size w w' :=
  (strandlineref16_Covered.calls 834 A c l f t _ w (hr.Cb rfl hl) hc (by unfold strandlineref16_Covered.f; rw [SpanP.rtouch_eq 834 (by decide), ht, Option.bind_some]; exact rcov_l l b hb (b - a) a 834 (by omega) (by omega))).mono fun e w' ⟨h1, h2⟩ => ⟨h1, by first | exact h2 | exact h2.below⟩
/-! ### Flat -/
section
variable (e : Int) (fl : List Int) (n : Nat)
def okAt (k : Nat) : Bool := decide (k < n) && openF (secAt fl k) e (k : Int)
def roomAt (k : Nat) : List Int := if okAt e fl n k = true then (secAt fl k).drop 12 else zs 52
/-- the body of the first k sectors; which of them are stamped -/
def bodyF : Nat → List Int
  | 0 => []
  | k + 1 => bodyF k ++ roomAt e fl n k
def oksF : Nat → List Bool
  | 0 => []
  | k + 1 => oksF k ++ [okAt e fl n k]
end
section
variable {e : Int} {fl : List Int} {n : Nat}
theorem roomAt_len (hf : fl.length = 64 * n) (k : Nat) : (roomAt e fl n k).length = 52 := by
  unfold roomAt
  split
  · rename_i h
    unfold okAt at h
    simp only [Bool.and_eq_true, decide_eq_true_eq] at h
    rw [List.length_drop, secAt_len hf h.1]
  · simp [zs]
theorem bodyF_len (hf : fl.length = 64 * n) (k : Nat) : (bodyF e fl n k).length = 52 * k := by
  induction k with
  | zero => rfl
  | succ k ih => unfold bodyF; rw [List.length_append, ih, roomAt_len hf]; omega
theorem oksF_len (k : Nat) : (oksF e fl n k).length = k := by
  induction k with
  | zero => rfl
  | succ k ih => unfold oksF; rw [List.length_append, ih]; rfl
theorem roomAt_bytes (hb : Bytes fl) (k : Nat) : Bytes (roomAt e fl n k) := by
  unfold roomAt
  split
  · exact bytes_drop (bytes_take (bytes_drop hb _) _) _
  · exact bytes_zs _
theorem bodyF_bytes (hb : Bytes fl) (k : Nat) : Bytes (bodyF e fl n k) := by
  induction k with
  | zero => exact fun c hc => by cases hc
  | succ k ih => exact bytes_append ih (roomAt_bytes hb k)
theorem okAt_out {k : Nat} (h : n ≤ k) : okAt e fl n k = false := by unfold okAt; rw [decide_eq_false (by omega)]; rfl
theorem bodyF_out (k d : Nat) (h : n ≤ k) : bodyF e fl n (k + d) = bodyF e fl n k ++ zs (52 * d) := by
  induction d with
  | zero => simp [zs]
  | succ d ih =>
    rw [← Nat.add_assoc]
    show bodyF e fl n (k + d) ++ roomAt e fl n (k + d) = _
    rw [ih, List.append_assoc, show roomAt e fl n (k + d) = zs 52 by unfold roomAt; rw [okAt_out (by omega)]; rfl, ← zs_add]
    rfl
theorem oksF_out (k d : Nat) (h : n ≤ k) : oksF e fl n (k + d) = oksF e fl n k ++ List.replicate d false := by
  induction d with
  | zero => simp
  | succ d ih =>
    rw [← Nat.add_assoc]
    show oksF e fl n (k + d) ++ [okAt e fl n (k + d)] = _
    rw [ih, List.append_assoc, okAt_out (by omega), List.replicate_succ']
theorem ok_step (k : Nat) (hk : k < 16) : (oksF e fl n k ++ List.replicate (16 - k) false).set k (okAt e fl n k) = oksF e fl n (k + 1) ++ List.replicate (16 - (k + 1)) false := by
  obtain ⟨d, hd⟩ : ∃ d, 16 - k = d + 1 := ⟨15 - k, by omega⟩
  rw [hd, show 16 - (k + 1) = d by omega, List.set_append_right _ _ (by rw [oksF_len]; exact Nat.le_refl _), oksF_len, Nat.sub_self, List.replicate_succ, List.set_cons_zero]
  show _ = (oksF e fl n k ++ [okAt e fl n k]) ++ _
  rw [List.append_assoc]
  rfl
theorem body_step (hf : fl.length = 64 * n) (k : Nat) (hk : k < 16) (hkn : k < n) (m : Nat) (hm : m = (openL (secAt fl k) e (k : Int)).length) :
    splice (bodyF e fl n k ++ zs (832 - 52 * k)) (52 * k) ((openL (secAt fl k) e (k : Int)).take (min m 52)) = bodyF e fl n (k + 1) ++ zs (832 - 52 * (k + 1)) := by
  have hl : (secAt fl k).length = 64 := secAt_len hf hkn
  show _ = (bodyF e fl n k ++ roomAt e fl n k) ++ _
  rw [splice_at _ _ _ _ (bodyF_len hf k), List.append_assoc]
  congr 1
  have hok : okAt e fl n k = openF (secAt fl k) e (k : Int) := by unfold okAt; rw [decide_eq_true hkn, Bool.true_and]
  unfold roomAt
  rw [hok]
  unfold openL at hm ⊢
  cases hq : openF (secAt fl k) e (k : Int) with
  | true =>
    rw [hq] at hm
    simp only [if_true] at hm ⊢
    have h52 : ((secAt fl k).drop 12).length = 52 := by rw [List.length_drop, hl]
    rw [h52] at hm
    subst hm
    rw [Nat.min_self, List.take_of_length_le (by omega), h52]
    congr 1
    unfold zs
    rw [List.drop_replicate]
    congr 1
  | false =>
    simp only [Bool.false_eq_true, if_false, List.take_nil, List.nil_append, List.length_nil, List.drop_zero]
    rw [← zs_add]
    congr 1
    omega
end
theorem bools_set (xs : List Bool) (i : Nat) (b : Bool) : (bools xs).set i (.bool b) = bools (xs.set i b) := by simp [bools, List.map_set]
theorem dropA_blk (g lo m : Nat) (h : ¬ m = lo) : dropA (some ⟨g, 0, none⟩) lo m 1 = some ⟨g, lo, none⟩ := by
  unfold dropA
  rw [if_neg h, Nat.mul_one]
  simp [addr_add]
theorem l_runE {P : Program} {ops : Array Oper} {rest : List Oper} {o : Oper} {a : Act} {Q : Exit → Act → World → Prop} {W : World} (hgd : o.guard = none) {u : Value} (v : Value) (hr : (execOp a.eval o).run P W = .ok (.value u) W) (he : u = v) (h : wpList P ops Q rest (a.put o.dst v) W) : wpList P ops Q (o :: rest) a W := by
  subst he
  exact l_run hgd _ hr h
set_option maxRecDepth 100000 in
set_option maxHeartbeats 4000000 in
theorem flat_calls (e : Int) (fl : List Int) (n : Nat) (hf : fl.length = 64 * n) (hb : Bytes fl) (A : Option Addr) (c : Nat) (w : World) (hr : Rd w A (nums .u8 fl)) (hc : n ≤ c) (hn : n ≤ 9223372036854775807) :
    Calls Try.prog 69 #[.int .u64 e, .slice A n c] w fun en w' => ∃ v1 v2, en = .returned (.tuple #[v1, v2]) ∧ Own w F0 [.row v1 5 1 832 (nums .u8 (bodyF e fl n 16)), .row v2 4 1 16 (bools (oksF e fl n 16))] w' := by
  have H := Own.start w
  obtain ⟨m, hm⟩ : ∃ m, min n 16 = m := ⟨_, rfl⟩
  have m1 : (if (16 : Int) < (n : Int) then (16 : Int) else (n : Int)) = (m : Int) := by split <;> omega
  go_enter Try.func69, Try.ntmps69
  go_wp2
  refine start_ (n := 4) (S := fun _ => True) (ds := []) #[false, false, false, false] (by kernel_rfl) rfl rfl trivial (fun _ => ?_)
  replace H := H.drew
  generalize World.drew _ = W at H ⊢
  refine join_ (σ := Nat × Nat) 1 #[true, true, true, false] (fun s => [(11, .slice (some ⟨s.1, 0, none⟩) 832 832), (12, .slice (some ⟨s.2, 0, none⟩) 16 16), (6, .slice (some ⟨s.1, 0, none⟩) 832 832)]) (fun s X => Own w F0 [.blk s.2 4 (bools (List.replicate 16 false)), .blk s.1 5 (nums .u8 (zs 832))] X) ?_ (fun hC => ?_)
  rotate_left
  · refine two_ (i := 0) (j := 1) (Ni := some 11) (Nj := some 12) #[true, false, false, false] #[false, true, false, false] rfl rfl rfl rfl (by kernel_rfl) (by decide) (by decide) (fun K hK => ?_) (fun K hK => ?_)
    · refine wanted_ rfl ?_
      refine w_make1 H 35 5 _ _ rfl 832 rfl rfl Try.underlying35 _ rfl _ inf5 (by decide) (by decide) ?_
      clear H
      intro g11 W H
      refine hK.out _ _ trivial (fun _ => ?_)
      clear hK K
      refine pure_ (i := 2) (N := some 6) (v := .slice (some ⟨g11, 0, none⟩) 832 832) #[true, false, true, false] rfl rfl (by kernel_rfl) (fun _ _ _ h => h) (Or.inl ⟨by rfl, fun _ => rfl⟩) rfl ?_
      refine one_ (i := 1) (N := some 12) #[true, true, true, false] rfl rfl (by kernel_rfl) (by decide) (fun K hK => ?_)
      refine wanted_ rfl ?_
      refine w_make1 H 96 4 _ _ rfl 16 rfl rfl Try.underlying96 _ rfl _ inf4 (by decide) (by decide) ?_
      clear H
      intro g12 W H
      refine hK.out _ _ trivial (fun _ => ?_)
      exact hC (g11, g12) _ H
    · refine wanted_ rfl ?_
      refine w_make1 H 96 4 _ _ rfl 16 rfl rfl Try.underlying96 _ rfl _ inf4 (by decide) (by decide) ?_
      clear H
      intro g12 W H
      refine hK.out _ _ trivial (fun _ => ?_)
      clear hK K
      refine one_ (i := 0) (N := some 11) #[true, true, false, false] rfl rfl (by kernel_rfl) (by decide) (fun K hK => ?_)
      refine wanted_ rfl ?_
      refine w_make1 H 35 5 _ _ rfl 832 rfl rfl Try.underlying35 _ rfl _ inf5 (by decide) (by decide) ?_
      clear H
      intro g11 W H
      refine hK.out _ _ trivial (fun _ => ?_)
      clear hK K
      refine pure_ (i := 2) (N := some 6) (v := .slice (some ⟨g11, 0, none⟩) 832 832) #[true, true, true, false] rfl rfl (by kernel_rfl) (fun _ _ _ h => h) (Or.inl ⟨by rfl, fun _ => rfl⟩) rfl ?_
      exact hC (g11, g12) _ (H.perm (List.Perm.swap _ _ _))
  clear H
  rintro ⟨g11, g12⟩ W H
  refine pure_ (i := 3) (N := some 7) (v := .slice (some ⟨g12, 0, none⟩) 16 16) (a' := ?_) #[true, true, true, true] rfl rfl (by kernel_rfl) (fun _ _ _ h => h) (Or.inl ⟨by rfl, fun _ => rfl⟩) ?_ ?_
  rotate_left
  · simp only [putAll, Act.put, List.setIfInBounds_toArray, List.set_cons_zero, List.set_cons_succ, i64_w, i32_w]
    rfl
  refine done_ (by kernel_rfl) ?_
  go_wp2
  go_loopg [16] m (fun gq v16 w' => ∃ k : Nat, v16 = .int .i64 (k : Int) ∧ k + gq = m ∧ Own w F0 [.blk g12 4 (bools (oksF e fl n k ++ List.replicate (16 - k) false)), .blk g11 5 (nums .u8 (bodyF e fl n k ++ zs (832 - 52 * k)))] w')
  case atStart => exact ⟨0, rfl, by omega, H⟩
  case round =>
    clear H
    obtain ⟨k, rfl, hk, H⟩ := hrel
    by_cases ck : k < m
    · obtain ⟨gk', rfl⟩ : ∃ q, gk = q + 1 := ⟨gk - 1, by omega⟩
      have q1 : decide (k < m) = true := decide_eq_true ck
      have q3 : ((0 : Int) ≤ (k : Int)) = True := eq_true (by omega)
      have q4 : ((k : Int) < (n : Int)) = True := eq_true (by omega)
      have q5 : ((k : Int) < 16) = True := eq_true (by omega)
      obtain ⟨ad, rfl⟩ := hr.some_ (by rw [nums_length]; omega)
      have hkn : k < n := by omega
      have hsl := secAt_len hf hkn
      have hbs : Bytes (secAt fl k) := bytes_take (bytes_drop hb _) _
      have hnu : ((nums .u8 fl).drop (k * 64)).take 64 = nums .u8 (secAt fl k) := by rw [nums_drop, nums_take, Nat.mul_comm]; rfl
      have O1 := fun W => open_c (secAt fl k) hsl hbs e (k : Int) W
      have hok : okAt e fl n k = openF (secAt fl k) e (k : Int) := by unfold okAt; rw [decide_eq_true hkn, Bool.true_and]
      have s1 := ok_step (e := e) (fl := fl) (n := n) k (by omega)
      rw [hok] at s1
      have s2 := fun m' hm' => body_step (e := e) hf k (by omega) hkn m' hm'
      obtain ⟨lo, hlo⟩ : ∃ lo, 52 * k = lo := ⟨_, rfl⟩
      obtain ⟨hi, hhi⟩ : ∃ hi, 52 * (k + 1) = hi := ⟨_, rfl⟩
      rw [hlo] at s2
      have i1 : IntKind.i64.wrap ((k : Int) * 52) = (lo : Int) := by rw [IntKind.wrap_i64]; omega
      have i3 : IntKind.i64.wrap (((k : Int) + 1) * 52) = (hi : Int) := by rw [IntKind.wrap_i64]; omega
      have hlb : lo + 52 ≤ 832 := by omega
      have hd : dropA (some ⟨g11, 0, none⟩) lo hi 1 = some ⟨g11, lo, none⟩ := dropA_blk g11 lo hi (by omega)
      have hfb : k < (bools (oksF e fl n k ++ List.replicate (16 - k) false)).length := by rw [bools_len, List.length_append, oksF_len, List.length_replicate]; omega
      have hbl : (bodyF e fl n k ++ zs (832 - lo)).length = 832 := by rw [List.length_append, bodyF_len hf]; simp [zs]; omega
      have hll : ∀ W, Instr.sliceBounds true 832 832 (some (.int .i64 (lo : Int))) (some (.int .i64 (hi : Int))) (some (.int .i64 (hi : Int))) = Instr.sliceBounds true 832 832 (some (.int .i64 (lo : Int))) (some (.int .i64 (hi : Int))) (some (.int .i64 (hi : Int))) := fun (_ : World) => rfl
      clear hll
      have hh1 : lo ≤ hi := by omega
      have hh2 : hi ≤ 832 := by omega
      have hh3 : hi - lo = 52 := by omega
      rw [hlo] at H
      generalize openF (secAt fl k) e (k : Int) = ob at O1 s1
      generalize openL (secAt fl k) e (k : Int) = rm at O1 s2
      generalize secAt fl k = sec at hsl hnu O1
      have HLO := Lib.hid (And.intro hlo hhi)
      have HS1 := Lib.hid s1
      have HD := Lib.hid hd
      have HH3 := Lib.hid hh3
      clear hok hbs hlo hhi s1 hd hh3
      go_wp2_with (first
    | ((with_reducible refine gate_store (t := 4) (p := 32) rfl ?_); refine l_store1 rfl H 4 _ _ rfl _ _ rfl _ (by first | (go_simp; done) | (go_simp; with_reducible rfl)) (by (repeat (first | exact In.head | apply In.tail))) rfl rfl size4 (by (first | rfl | assumption | omega | (simp only [nums_length]; omega) | (simp [nums_length, zs]; done) | (simp [nums_length, zs]; omega))) ?_; clear H; intro W H)
    | ((with_reducible refine gate_dst (N := 23) rfl ?_); refine l_loadRdS rfl 43 _ rfl (k * 64) rfl (hr.below H.below) 64 _ Try.underlying43 rfl size43 (by decide) _ hnu (by rw [nums_length]; exact hsl) ?_)
    | (go_at_call 32; (with_reducible refine (O1 _).mono ?_); rintro e W ⟨v, rfl, hR, hb'⟩; replace H := H.addR hb' hR; clear hb' hR; obtain ⟨Av, cv, rfl⟩ := H.row_slice .head)
    | ((with_reducible refine gate_dst (N := 42) rfl ?_); refine l_runE rfl (.slice (some ⟨g11, lo, none⟩) 52 52) (x_slice_lohimax _ _ _ _ rfl rfl Try.underlying35 size5 lo hi hi rfl rfl rfl hh1 (Nat.le_refl _) hh2 _) (by rw [HD.out, HH3.out]) ?_)
    | ((with_reducible refine gate_dst (N := 44) rfl ?_); refine l_copyC rfl H _ _ _ _ rfl 5 Try.underlying35 size5 g11 lo 52 52 rfl (.tail (.tail .head)) Av _ cv rfl rm (H.rowC .head).2.2 (by rw [hbl]; omega) ?_; clear H; intro W H))
      rw [bools_set, HS1.out, s2 _ rfl] at H
      go_roundg gk'
      case measure => omega
      case rel => exact ⟨k + 1, by go_num, by omega, H.del .head⟩
    · have hkm : k = m := by omega
      subst hkm
      have e1 : oksF e fl n k ++ List.replicate (16 - k) false = oksF e fl n 16 := by
        by_cases h16 : k = 16
        · subst h16; simp
        · rw [← oksF_out (e := e) (fl := fl) (n := n) k (16 - k) (by omega), show k + (16 - k) = 16 by omega]
      have e2 : bodyF e fl n k ++ zs (832 - 52 * k) = bodyF e fl n 16 := by
        by_cases h16 : k = 16
        · subst h16; simp [zs]
        · rw [show 832 - 52 * k = 52 * (16 - k) by omega, ← bodyF_out (e := e) (fl := fl) (n := n) k (16 - k) (by omega), show k + (16 - k) = 16 by omega]
      rw [e1, e2] at H
      have hl1 : (bools (oksF e fl n 16)).length = 16 := by rw [bools_len, oksF_len]
      have hl2 : (nums .u8 (bodyF e fl n 16)).length = 832 := by rw [nums_length, bodyF_len hf]
      have q1 : decide (k < k) = false := decide_eq_false (by omega)
      go_wp2
      go_ret2
      refine ⟨_, _, rfl, ?_⟩
      have H1 := H.blk_row (sz := 1) (n := 16) (cap := 16) .head (Nat.le_refl _) (by decide) hl1 (List.take_of_length_le (Nat.le_of_eq hl1))
      have H2 := H1.blk_row (sz := 1) (n := 832) (cap := 832) (.tail .head) (Nat.le_refl _) (by decide) hl2 (List.take_of_length_le (Nat.le_of_eq hl2))
      exact H2.perm (List.Perm.swap _ _ _)
end Go.Proofs.Ythlpimojojofbaa.O
