/- Texts of mine put together: FragEnc, ImgAdd, FkStrandlineref07. -/
import Derived.Test.YthhbilkmdfdfiaaDoorPkImageBodies5
import Derived.Test.YthhbilkmdfdfiaaDoorPkImageBodies1
section
/- frag.Encode, by what is owned. -/
set_option linter.unusedVariables false
set_option linter.unusedSimpArgs false
namespace Go.Proofs.YthhbilkmdfdfiaaDoor.O
open Go.RowKit Go.Proofs.YthhbilkmdfdfiaaDoorW.PrintWords Go.Proofs.YthhbilkmdfdfiaaDoorW.PrintLast Go.Proofs.YthhbilkmdfdfiaaDoorW.PrintMore Go.Proofs.YthhbilkmdfdfiaaDoor.F Go.Proofs.YthhbilkmdfdfiaaDoor.F.Nums Go.Proofs.YthhbilkmdfdfiaaDoor.Plain
theorem right_eq (kind ep : Int) (data : List Int) : frag_right.f kind ep data = some (rightF kind data.length) := by
  unfold frag_right.f rightF
  by_cases h1 : kind ≥ 1
  · by_cases h2 : kind ≤ 4
    · rw [if_pos h1, if_pos h2, decide_eq_true (show 1 ≤ kind from h1), decide_eq_true h2]
      simp only [Bool.true_and, Option.some.injEq]
      rw [decide_eq_decide]
      omega
    · rw [if_pos h1, if_neg h2, decide_eq_false h2]; simp
  · rw [if_neg h1, decide_eq_false (show ¬ 1 ≤ kind from h1)]; simp
theorem right_parts {kind : Int} {n : Nat} (h : rightF kind n = true) : 1 ≤ kind ∧ kind ≤ 4 ∧ n ≤ 197 := by
  unfold rightF at h
  simp at h
  omega
/-- the head, its sum not yet laid -/
def headL (n : Nat) (kind ep : Int) : List Int := zs 4 ++ (putl n 2 ++ (kind :: putl ep.toNat 4))
theorem headL_len (n : Nat) (kind ep : Int) : (headL n kind ep).length = 11 := by simp [headL, putl_len, zs]
theorem head_of (n : Nat) (kind ep : Int) : splice ((splice (zs 11) 4 (putl n 2)).set 6 kind) 7 (putl ep.toNat 4) = headL n kind ep := by
  obtain ⟨a, b, hp⟩ : ∃ a b, putl n 2 = [a, b] := by
    match h : putl n 2, putl_len n 2 with
    | [a, b], _ => exact ⟨a, b, rfl⟩
  obtain ⟨c, d, e, f, hq⟩ : ∃ c d e f, putl ep.toNat 4 = [c, d, e, f] := by
    match h : putl ep.toNat 4, putl_len ep.toNat 4 with
    | [c, d, e, f], _ => exact ⟨c, d, e, f, rfl⟩
  unfold headL
  rw [hp, hq]
  rfl
theorem head_body (kind ep : Int) (data : List Int) : (headL data.length kind ep ++ data).drop 4 = bodyL kind ep data := by
  unfold headL bodyL
  rw [List.append_assoc, List.drop_append_of_le_length (by simp [zs]), List.drop_of_length_le (by simp [zs]), List.nil_append]
  simp
theorem head_enc (kind ep : Int) (data : List Int) : splice (headL data.length kind ep ++ data) 0 (putl (sumN (bodyL kind ep data)) 4) = encL kind ep data := by
  unfold splice encL
  rw [List.take_zero, List.nil_append, putl_len, Nat.zero_add, head_body]
set_option maxRecDepth 100000 in
set_option maxHeartbeats 4000000 in
theorem encode_ok (kind ep : Int) (data : List Int) (A : Option Addr) (c : Nat) (w : World) (hC : (Kd.int .u8).C w A data.length data) (hc : data.length ≤ c) (hd : Bytes data) (he : 0 ≤ ep ∧ ep ≤ 4294967295) (hH : Half w) (hr : rightF kind data.length = true) :
    Calls Tryd.prog 29 #[.agg #[.int .i64 kind, .int .u32 ep, .slice A data.length c]] w fun e W => ∃ A' c', e = .returned (.tuple #[.slice A' (11 + data.length) c', .int .i64 0]) ∧ 11 + data.length ≤ c' ∧ (Kd.int .u8).C W A' (11 + data.length) (encL kind ep data) ∧ Below w.heap.size w W := by
  have H := Own.start w
  have FR := fun W (hb : Below w.heap.size w W) => frag_right.calls kind ep A c data _ W (Kd.C_below hC hb) hc (right_eq kind ep data)
  rw [hr] at FR
  obtain ⟨k1, k2, k3⟩ := right_parts hr
  obtain ⟨e, rfl⟩ := Int.eq_ofNat_of_zero_le he.1
  have P1 := fun {W : World} {L : List Res} (H : Own w F0 L W) => put_own H data.length (by omega) 2 2 rfl (by decide)
  have P2 := fun {W : World} {L : List Res} (H : Own w F0 L W) => put_own H e (by omega) 4 4 rfl (by decide)
  have hu1 : IntKind.u64.wrap (data.length : Int) = (data.length : Int) := wu64 (by omega) (by omega)
  have hu2 : IntKind.u64.wrap (e : Int) = (e : Int) := wu64 (by omega) (by omega)
  have hu3 : IntKind.u8.wrap kind = kind := by rw [IntKind.wrap_u8]; omega
  have hho := head_of data.length kind (e : Int)
  rw [Int.toNat_natCast] at hho
  generalize hN : data.length = n at *
  go_enter Tryd.func29, Tryd.ntmps29
  go_wp2_with (first
    | ((with_reducible refine gate_dst (N := 1) rfl ?_); refine l_boxA rfl H 37 _ rfl _ rfl ?_; clear H; intro g1 W H)
    | ((with_reducible refine gate_dst (N := 6) rfl ?_); refine l_loadA rfl H 37 _ rfl _ rfl (by (repeat (first | exact In.head | apply In.tail))) _ _ Tryd.underlying37 rfl size37 (by (first | rfl | assumption | omega | (simp only [nums_length]; omega) | (simp [nums_length, zs]; done) | (simp [nums_length, zs]; omega))) ?_)
    | ((with_reducible refine gate_dst (N := 4) rfl ?_); refine l_allocA rfl H 84 rfl _ zero84 ?_; clear H; intro g4 W H)
    | (go_at_call 58; (with_reducible refine (FR _ H.below).mono ?_); rintro e W ⟨rfl, hb⟩; replace H := H.to hb; clear hb))
  refine start_ (n := 7) (S := Own _ _ _) (ds := [6]) #[false, false, false, false, false, false, false] (by kernel_rfl) rfl rfl H.drew (fun hHeld => ?_)
  replace H := H.drew
  generalize World.drew _ = W at H hHeld ⊢
  refine pure_ (i := 0) (N := some 9) (v := ?_) (a' := ?_) #[true, false, false, false, false, false, false] rfl rfl (by kernel_rfl) (fun _ _ _ h => h) (Or.inl ⟨by rfl, ?_⟩) ?_ ?_
  rotate_left
  · intro w'
    go_simp
    with_reducible rfl
  rotate_left
  · simp only [Act.put, List.setIfInBounds_toArray, List.set_cons_zero, List.set_cons_succ, i64_w, i32_w]
    rfl
  refine pure_ (i := 1) (N := some 10) (v := ?_) (a' := ?_) #[true, true, false, false, false, false, false] rfl rfl (by kernel_rfl) (fun _ _ _ h => h) (Or.inl ⟨by rfl, ?_⟩) ?_ ?_
  rotate_left
  · intro w'
    go_simp
    with_reducible rfl
  rotate_left
  · simp only [Act.put, List.setIfInBounds_toArray, List.set_cons_zero, List.set_cons_succ, i64_w, i32_w]
    rfl
  refine one_ (i := 2) (N := some 11) #[true, true, true, false, false, false, false] rfl rfl (by kernel_rfl) (by decide) (fun K hK => ?_)
  refine wanted_ rfl ?_
  refine w_load1 H 23 _ rfl _ _ rfl (by (repeat (first | exact In.head | apply In.tail))) _ Tryd.underlying23 rfl _ (by first | rfl | assumption | exact nums_at _ (by omega)) ?_
  refine hK.out _ _ ?_ (fun hHeld => ?_)
  · first | trivial | exact H | exact H.del .head | exact (H.del .head).del .head
  clear hK K
  refine norm_ (a' := ?_) ?_ ?_
  rotate_left
  · show Act.put _ (some 11) _ = _
    simp only [Act.put, List.setIfInBounds_toArray, List.set_cons_zero, List.set_cons_succ, i64_w, i32_w]
    rfl
  refine pure_ (i := 3) (N := some 12) (v := ?_) (a' := ?_) #[true, true, true, true, false, false, false] rfl rfl (by kernel_rfl) (fun _ _ _ h => h) (Or.inl ⟨by rfl, ?_⟩) ?_ ?_
  rotate_left
  · intro w'
    go_simp
    with_reducible rfl
  rotate_left
  · simp only [Act.put, List.setIfInBounds_toArray, List.set_cons_zero, List.set_cons_succ, i64_w, i32_w]
    rfl
  refine pure_ (i := 4) (N := some 13) (v := ?_) (a' := ?_) #[true, true, true, true, true, false, false] rfl rfl (by kernel_rfl) (fun _ _ _ h => h) (Or.inl ⟨by rfl, ?_⟩) ?_ ?_
  rotate_left
  · intro w'
    go_simp
    with_reducible rfl
  rotate_left
  · simp only [Act.put, List.setIfInBounds_toArray, List.set_cons_zero, List.set_cons_succ, i64_w, i32_w]
    rfl
  refine one_ (i := 5) (N := some 14) #[true, true, true, true, true, true, false] rfl rfl (by kernel_rfl) (by decide) (fun K hK => ?_)
  refine callK_ (P1 H) Tryd.func60 (by kernel_rfl) rfl (by rfl) rfl rfl (by (try simp only [List.map_toArray, List.map_cons, List.map_nil]); first | done | rfl) ?_
  rintro e W ⟨A14, c14, rfl, h14, C14, H'⟩
  refine ⟨_, rfl, ?_⟩
  replace H := H'
  clear H'
  refine hK.out _ _ ?_ (fun hHeld => ?_)
  · first | trivial | exact H | exact H.del .head | exact (H.del .head).del .head
  clear hK K
  refine norm_ (a' := ?_) ?_ ?_
  rotate_left
  · show Act.put _ (some 14) _ = _
    simp only [Act.put, List.setIfInBounds_toArray, List.set_cons_zero, List.set_cons_succ, i64_w, i32_w]
    rfl
  refine last_ (i := 6) (N := some 15) #[true, true, true, true, true, true, true] rfl rfl (by kernel_rfl) (by decide) (fun K hK => ?_)
  refine wanted_ rfl ?_
  refine w_copyC H _ _ _ _ rfl 5 Tryd.underlying23 size5 _ _ _ _ rfl (by (repeat (first | exact In.head | apply In.tail))) _ _ _ rfl ((putl n 2)) ?_ (by (first | rfl | assumption | omega | (simp only [nums_length]; omega) | (simp [nums_length, zs]; done) | (simp [nums_length, zs]; omega))) ?_
  · exact C14
  clear H; intro W H
  refine hK.out _ _ ?_
  clear hK K
  refine norm_ (a' := ?_) ?_ ?_
  rotate_left
  · show Act.put _ (some 15) _ = _
    simp only [Act.put, List.setIfInBounds_toArray, List.set_cons_zero, List.set_cons_succ, i64_w, i32_w]
    rfl
  refine done_ (by kernel_rfl) ?_
  clear hHeld
  rw [show (putl n 2).take (min 2 2) = putl n 2 from List.take_of_length_le (by rw [putl_len]; decide)] at H
  have hsl : (splice (zs 11) 4 (putl n 2)).length = 11 := by
    unfold splice zs
    simp [putl_len]
  generalize splice (zs 11) 4 (putl n 2) = h1 at H hsl hho
  go_wp2_with (first
    | ((with_reducible refine gate_dst (N := 17) rfl ?_); refine l_load1 rfl H 3 _ rfl _ _ rfl (by (repeat (first | exact In.head | apply In.tail))) _ Tryd.underlying3 rfl _ (by first | rfl | assumption | exact nums_at _ (by omega)) ?_)
    | ((with_reducible refine gate_store (t := 5) (p := 19) rfl ?_); refine l_store1 rfl H 5 _ _ rfl _ _ rfl _ (by first | (go_simp; done) | (go_simp; with_reducible rfl)) (by (repeat (first | exact In.head | apply In.tail))) rfl rfl size5 (by (first | rfl | assumption | omega | (simp only [nums_length]; omega) | (simp [nums_length, zs]; done) | (simp [nums_length, zs]; omega))) ?_; clear H; intro W H))
  rw [nums_set] at H
  have hsl2 : (h1.set 6 kind).length = 11 := by rw [List.length_set, hsl]
  generalize h1.set 6 kind = h2 at H hsl2 hho
  refine start_ (n := 6) (S := Own _ _ _) (ds := [5]) #[false, false, false, false, false, false] (by kernel_rfl) rfl rfl H.drew (fun hHeld => ?_)
  replace H := H.drew
  generalize World.drew _ = W at H hHeld ⊢
  refine pure_ (i := 0) (N := some 20) (v := ?_) (a' := ?_) #[true, false, false, false, false, false] rfl rfl (by kernel_rfl) (fun _ _ _ h => h) (Or.inl ⟨by rfl, ?_⟩) ?_ ?_
  rotate_left
  · intro w'
    go_simp
    with_reducible rfl
  rotate_left
  · simp only [Act.put, List.setIfInBounds_toArray, List.set_cons_zero, List.set_cons_succ, i64_w, i32_w]
    rfl
  refine pure_ (i := 1) (N := some 21) (v := ?_) (a' := ?_) #[true, true, false, false, false, false] rfl rfl (by kernel_rfl) (fun _ _ _ h => h) (Or.inl ⟨by rfl, ?_⟩) ?_ ?_
  rotate_left
  · intro w'
    go_simp
    with_reducible rfl
  rotate_left
  · simp only [Act.put, List.setIfInBounds_toArray, List.set_cons_zero, List.set_cons_succ, i64_w, i32_w]
    rfl
  refine one_ (i := 2) (N := some 22) #[true, true, true, false, false, false] rfl rfl (by kernel_rfl) (by decide) (fun K hK => ?_)
  refine wanted_ rfl ?_
  refine w_load1 H 22 _ rfl _ _ rfl (by (repeat (first | exact In.head | apply In.tail))) _ Tryd.underlying22 rfl _ (by first | rfl | assumption | exact nums_at _ (by omega)) ?_
  refine hK.out _ _ ?_ (fun hHeld => ?_)
  · first | trivial | exact H | exact H.del .head | exact (H.del .head).del .head
  clear hK K
  refine norm_ (a' := ?_) ?_ ?_
  rotate_left
  · show Act.put _ (some 22) _ = _
    simp only [Act.put, List.setIfInBounds_toArray, List.set_cons_zero, List.set_cons_succ, i64_w, i32_w]
    rfl
  refine pure_ (i := 3) (N := some 23) (v := ?_) (a' := ?_) #[true, true, true, true, false, false] rfl rfl (by kernel_rfl) (fun _ _ _ h => h) (Or.inl ⟨by rfl, ?_⟩) ?_ ?_
  rotate_left
  · intro w'
    go_simp
    with_reducible rfl
  rotate_left
  · simp only [Act.put, List.setIfInBounds_toArray, List.set_cons_zero, List.set_cons_succ, i64_w, i32_w]
    rfl
  refine one_ (i := 4) (N := some 24) #[true, true, true, true, true, false] rfl rfl (by kernel_rfl) (by decide) (fun K hK => ?_)
  refine callK_ (P2 H) Tryd.func60 (by kernel_rfl) rfl (by rfl) rfl rfl (by (try simp only [List.map_toArray, List.map_cons, List.map_nil]); first | done | rfl) ?_
  rintro e W ⟨A24, c24, rfl, h24, C24, H'⟩
  refine ⟨_, rfl, ?_⟩
  replace H := H'
  clear H'
  refine hK.out _ _ ?_ (fun hHeld => ?_)
  · first | trivial | exact H | exact H.del .head | exact (H.del .head).del .head
  clear hK K
  refine norm_ (a' := ?_) ?_ ?_
  rotate_left
  · show Act.put _ (some 24) _ = _
    simp only [Act.put, List.setIfInBounds_toArray, List.set_cons_zero, List.set_cons_succ, i64_w, i32_w]
    rfl
  refine last_ (i := 5) (N := some 25) #[true, true, true, true, true, true] rfl rfl (by kernel_rfl) (by decide) (fun K hK => ?_)
  refine wanted_ rfl ?_
  refine w_copyC H _ _ _ _ rfl 5 Tryd.underlying23 size5 _ _ _ _ rfl (by (repeat (first | exact In.head | apply In.tail))) _ _ _ rfl ((putl e 4)) ?_ (by (first | rfl | assumption | omega | (simp only [nums_length]; omega) | (simp [nums_length, zs]; done) | (simp [nums_length, zs]; omega))) ?_
  · exact C24
  clear H; intro W H
  refine hK.out _ _ ?_
  clear hK K
  refine norm_ (a' := ?_) ?_ ?_
  rotate_left
  · show Act.put _ (some 25) _ = _
    simp only [Act.put, List.setIfInBounds_toArray, List.set_cons_zero, List.set_cons_succ, i64_w, i32_w]
    rfl
  refine done_ (by kernel_rfl) ?_
  clear hHeld
  rw [show (putl e 4).take (min 4 4) = putl e 4 from List.take_of_length_le (by rw [putl_len]; decide), hho] at H
  have hbb : Bytes (bodyL kind (e : Int) data) := bodyL_bytes (by omega) hd
  have hhb := head_body kind (e : Int) data
  have hhe := head_enc kind (e : Int) data
  have hel := encL_len kind (e : Int) data
  have hhl := headL_len n kind (e : Int)
  have hs4 : sumN (bodyL kind (e : Int) data) < 18446744073709551616 := by have := sumN_lt (bodyL kind (e : Int) data); omega
  have OF := fun {W : World} {L : List Res} (H : Own w F0 L W) A n c hC hc => of_own H hH A n c (bodyL kind (e : Int) data) hC hc hbb
  have MF := fun {W : World} {L : List Res} (H : Own w F0 L W) => mask_own H (bodyL kind (e : Int) data)
  have PF := fun {W : World} {L : List Res} (H : Own w F0 L W) => put_own H (sumN (bodyL kind (e : Int) data)) hs4 4 4 rfl (by decide)
  have hu4 : IntKind.u64.wrap (sumN (bodyL kind (e : Int) data) : Int) = (sumN (bodyL kind (e : Int) data) : Int) := wu64 (by omega) (by omega)
  rw [hN] at hhb hhe hel
  generalize bodyL kind (e : Int) data = BL at *
  generalize hEL : encL kind (e : Int) data = EL at *
  generalize headL n kind (e : Int) = HL at *
  have hmo := moreI_lo BL
  generalize moreI 0 BL = mo at OF MF hmo
  generalize sumN BL = sm at *
  clear hho P1 P2 FR hbb
  rcases Nat.eq_zero_or_pos n with h0 | h0
  · subst h0
    obtain rfl : data = [] := List.eq_nil_of_length_eq_zero hN
    rw [List.append_nil] at hhb hhe
    go_wp2
    refine start_ (n := 5) (S := Own _ _ _) (ds := []) #[false, false, false, false, false] (by kernel_rfl) rfl rfl H.drew (fun hHeld => ?_)
    replace H := H.drew
    generalize World.drew _ = W at H hHeld ⊢
    refine pure_ (i := 0) (N := some 26) (v := ?_) (a' := ?_) #[true, false, false, false, false] rfl rfl (by kernel_rfl) (fun _ _ _ h => h) (Or.inl ⟨by rfl, ?_⟩) ?_ ?_
    rotate_left
    · intro w'
      go_simp
      with_reducible rfl
    rotate_left
    · simp only [Act.put, List.setIfInBounds_toArray, List.set_cons_zero, List.set_cons_succ, i64_w, i32_w]
      rfl
    refine pure_ (i := 1) (N := some 27) (v := ?_) (a' := ?_) #[true, true, false, false, false] rfl rfl (by kernel_rfl) (fun _ _ _ h => h) (Or.inl ⟨by rfl, ?_⟩) ?_ ?_
    rotate_left
    · intro w'
      go_simp
      with_reducible rfl
    rotate_left
    · simp only [Act.put, List.setIfInBounds_toArray, List.set_cons_zero, List.set_cons_succ, i64_w, i32_w]
      rfl
    refine one_ (i := 2) (N := some 28) #[true, true, true, false, false] rfl rfl (by kernel_rfl) (by decide) (fun K hK => ?_)
    refine wanted_ rfl ?_
    refine w_load1 H 23 _ rfl _ _ rfl (by (repeat (first | exact In.head | apply In.tail))) _ Tryd.underlying23 rfl _ (by first | rfl | assumption | exact nums_at _ (by omega)) ?_
    refine hK.out _ _ ?_ (fun hHeld => ?_)
    · first | trivial | exact H | exact H.del .head | exact (H.del .head).del .head
    clear hK K
    refine norm_ (a' := ?_) ?_ ?_
    rotate_left
    · show Act.put _ (some 28) _ = _
      simp only [Act.put, List.setIfInBounds_toArray, List.set_cons_zero, List.set_cons_succ, i64_w, i32_w]
      rfl
    refine one_ (i := 3) (N := some 29) #[true, true, true, true, false] rfl rfl (by kernel_rfl) (by decide) (fun K hK => ?_)
    refine wanted_ rfl ?_
    refine w_append0 _ _ 23 5 rfl Tryd.underlying23 (by kernel_rfl) ⟨g4, 0, none⟩ 11 11 (Nat.le_refl _) rfl A c rfl ?_
    refine hK.out _ _ ?_ (fun hHeld => ?_)
    · first | trivial | exact H | exact H.del .head | exact (H.del .head).del .head
    clear hK K
    refine norm_ (a' := ?_) ?_ ?_
    rotate_left
    · show Act.put _ (some 29) _ = _
      simp only [Act.put, List.setIfInBounds_toArray, List.set_cons_zero, List.set_cons_succ, i64_w, i32_w]
      rfl
    refine pure_ (i := 4) (N := some 5) (v := ?_) (a' := ?_) #[true, true, true, true, true] rfl rfl (by kernel_rfl) (fun _ _ _ h => h) (Or.inl ⟨by rfl, ?_⟩) ?_ ?_
    rotate_left
    · intro w'
      go_simp
      with_reducible rfl
    rotate_left
    · simp only [Act.put, List.setIfInBounds_toArray, List.set_cons_zero, List.set_cons_succ, i64_w, i32_w]
      rfl
    refine done_ (by kernel_rfl) ?_
    clear hHeld
    go_wp2
    have C4 : ∀ {W : World}, Own w F0 [.blk g4 84 (nums .u8 HL), .blk g1 37 [.int .i64 kind, .int .u32 (e : Int), .slice A 0 c]] W → (Kd.int .u8).C W (some ⟨g4, 4, none⟩) 7 BL := fun H => by
      have := H.C .head 4 7 (by omega) (by decide)
      rw [hhb, List.take_of_length_le (by rw [← hhb, List.length_drop]; omega)] at this
      exact this
    refine start_ (n := 9) (S := Own _ _ _) (ds := [8]) #[false, false, false, false, false, false, false, false, false] (by kernel_rfl) rfl rfl H.drew (fun hHeld => ?_)
    replace H := H.drew
    generalize World.drew _ = W at H hHeld ⊢
    refine pure_ (i := 0) (N := some 30) (v := ?_) (a' := ?_) #[true, false, false, false, false, false, false, false, false] rfl rfl (by kernel_rfl) (fun _ _ _ h => h) (Or.inl ⟨by rfl, ?_⟩) ?_ ?_
    rotate_left
    · intro w'
      go_simp
      with_reducible rfl
    rotate_left
    · simp only [Act.put, List.setIfInBounds_toArray, List.set_cons_zero, List.set_cons_succ, i64_w, i32_w]
      rfl
    refine pure_ (i := 1) (N := some 31) (v := ?_) (a' := ?_) #[true, true, false, false, false, false, false, false, false] rfl rfl (by kernel_rfl) (fun _ _ _ h => h) (Or.inl ⟨by rfl, ?_⟩) ?_ ?_
    rotate_left
    · intro w'
      go_simp
      with_reducible rfl
    rotate_left
    · simp only [Act.put, List.setIfInBounds_toArray, List.set_cons_zero, List.set_cons_succ, i64_w, i32_w]
      rfl
    refine pure_ (i := 2) (N := some 32) (v := ?_) (a' := ?_) #[true, true, true, false, false, false, false, false, false] rfl rfl (by kernel_rfl) (fun _ _ _ h => h) (Or.inl ⟨by rfl, ?_⟩) ?_ ?_
    rotate_left
    · intro w'
      go_simp
      with_reducible rfl
    rotate_left
    · simp only [Act.put, List.setIfInBounds_toArray, List.set_cons_zero, List.set_cons_succ, i64_w, i32_w]
      rfl
    refine pure_ (i := 3) (N := some 33) (v := ?_) (a' := ?_) #[true, true, true, true, false, false, false, false, false] rfl rfl (by kernel_rfl) (fun _ _ _ h => h) (Or.inl ⟨by rfl, ?_⟩) ?_ ?_
    rotate_left
    · intro w'
      go_simp
      with_reducible rfl
    rotate_left
    · simp only [Act.put, List.setIfInBounds_toArray, List.set_cons_zero, List.set_cons_succ, i64_w, i32_w]
      rfl
    refine one_ (i := 4) (N := some 34) #[true, true, true, true, true, false, false, false, false] rfl rfl (by kernel_rfl) (by decide) (fun K hK => ?_)
    refine callK_ (OF H (some ⟨g4, 4, none⟩) 7 7 (C4 H) (by decide)) Tryd.func16 (by kernel_rfl) rfl (by rfl) rfl rfl (by (try simp only [List.map_toArray, List.map_cons, List.map_nil]); first | done | rfl) ?_
    rintro e W ⟨rfl, H'⟩
    refine ⟨_, rfl, ?_⟩
    replace H := H'
    clear H'
    refine hK.out _ _ ?_ (fun hHeld => ?_)
    · first | trivial | exact H | exact H.del .head | exact (H.del .head).del .head
    clear hK K
    refine norm_ (a' := ?_) ?_ ?_
    rotate_left
    · show Act.put _ (some 34) _ = _
      simp only [Act.put, List.setIfInBounds_toArray, List.set_cons_zero, List.set_cons_succ, i64_w, i32_w]
      rfl
    refine one_ (i := 5) (N := some 35) #[true, true, true, true, true, true, false, false, false] rfl rfl (by kernel_rfl) (by decide) (fun K hK => ?_)
    refine callK_ (MF H) Tryd.func20 (by kernel_rfl) rfl (by rfl) rfl rfl (by (try simp only [List.map_toArray, List.map_cons, List.map_nil]); first | done | rfl) ?_
    rintro e W ⟨rfl, H'⟩
    refine ⟨_, rfl, ?_⟩
    replace H := H'
    clear H'
    refine hK.out _ _ ?_ (fun hHeld => ?_)
    · first | trivial | exact H | exact H.del .head | exact (H.del .head).del .head
    clear hK K
    refine norm_ (a' := ?_) ?_ ?_
    rotate_left
    · show Act.put _ (some 35) _ = _
      simp only [Act.put, List.setIfInBounds_toArray, List.set_cons_zero, List.set_cons_succ, i64_w, i32_w]
      rfl
    refine pure_ (i := 6) (N := some 36) (v := ?_) (a' := ?_) #[true, true, true, true, true, true, true, false, false] rfl rfl (by kernel_rfl) (fun _ _ _ h => h) (Or.inl ⟨by rfl, ?_⟩) ?_ ?_
    rotate_left
    · intro w'
      go_simp
      with_reducible rfl
    rotate_left
    · simp only [Act.put, List.setIfInBounds_toArray, List.set_cons_zero, List.set_cons_succ, i64_w, i32_w]
      rfl
    refine one_ (i := 7) (N := some 37) #[true, true, true, true, true, true, true, true, false] rfl rfl (by kernel_rfl) (by decide) (fun K hK => ?_)
    refine callK_ (PF H) Tryd.func60 (by kernel_rfl) rfl (by rfl) rfl rfl (by (try simp only [List.map_toArray, List.map_cons, List.map_nil]); first | done | rfl) ?_
    rintro e W ⟨A37, c37, rfl, h37, C37, H'⟩
    refine ⟨_, rfl, ?_⟩
    replace H := H'
    clear H'
    refine hK.out _ _ ?_ (fun hHeld => ?_)
    · first | trivial | exact H | exact H.del .head | exact (H.del .head).del .head
    clear hK K
    refine norm_ (a' := ?_) ?_ ?_
    rotate_left
    · show Act.put _ (some 37) _ = _
      simp only [Act.put, List.setIfInBounds_toArray, List.set_cons_zero, List.set_cons_succ, i64_w, i32_w]
      rfl
    refine last_ (i := 8) (N := some 38) #[true, true, true, true, true, true, true, true, true] rfl rfl (by kernel_rfl) (by decide) (fun K hK => ?_)
    refine wanted_ rfl ?_
    refine w_copyC H _ _ _ _ rfl 5 Tryd.underlying23 size5 _ _ _ _ rfl (by (repeat (first | exact In.head | apply In.tail))) _ _ _ rfl ((putl sm 4)) ?_ (by (first | rfl | assumption | omega | (simp only [nums_length]; omega) | (simp [nums_length, zs]; done) | (simp [nums_length, zs]; omega))) ?_
    · exact C37
    clear H; intro W H
    refine hK.out _ _ ?_
    clear hK K
    refine norm_ (a' := ?_) ?_ ?_
    rotate_left
    · show Act.put _ (some 38) _ = _
      simp only [Act.put, List.setIfInBounds_toArray, List.set_cons_zero, List.set_cons_succ, i64_w, i32_w]
      rfl
    refine done_ (by kernel_rfl) ?_
    clear hHeld
    rw [show (putl sm 4).take (min 4 4) = putl sm 4 from List.take_of_length_le (by rw [putl_len]; decide), hhe] at H
    go_wp2
    go_ret2
    refine ⟨_, _, rfl, by omega, ?_, H.below⟩
    have := H.C .head 0 11 (by omega) (by decide)
    rw [List.drop_zero, List.take_of_length_le (by omega)] at this
    rw [hEL]
    exact this
  · go_wp2
    refine start_ (n := 5) (S := Own _ _ _) (ds := []) #[false, false, false, false, false] (by kernel_rfl) rfl rfl H.drew (fun hHeld => ?_)
    replace H := H.drew
    generalize World.drew _ = W at H hHeld ⊢
    refine pure_ (i := 0) (N := some 26) (v := ?_) (a' := ?_) #[true, false, false, false, false] rfl rfl (by kernel_rfl) (fun _ _ _ h => h) (Or.inl ⟨by rfl, ?_⟩) ?_ ?_
    rotate_left
    · intro w'
      go_simp
      with_reducible rfl
    rotate_left
    · simp only [Act.put, List.setIfInBounds_toArray, List.set_cons_zero, List.set_cons_succ, i64_w, i32_w]
      rfl
    refine pure_ (i := 1) (N := some 27) (v := ?_) (a' := ?_) #[true, true, false, false, false] rfl rfl (by kernel_rfl) (fun _ _ _ h => h) (Or.inl ⟨by rfl, ?_⟩) ?_ ?_
    rotate_left
    · intro w'
      go_simp
      with_reducible rfl
    rotate_left
    · simp only [Act.put, List.setIfInBounds_toArray, List.set_cons_zero, List.set_cons_succ, i64_w, i32_w]
      rfl
    refine one_ (i := 2) (N := some 28) #[true, true, true, false, false] rfl rfl (by kernel_rfl) (by decide) (fun K hK => ?_)
    refine wanted_ rfl ?_
    refine w_load1 H 23 _ rfl _ _ rfl (by (repeat (first | exact In.head | apply In.tail))) _ Tryd.underlying23 rfl _ (by first | rfl | assumption | exact nums_at _ (by omega)) ?_
    refine hK.out _ _ ?_ (fun hHeld => ?_)
    · first | trivial | exact H | exact H.del .head | exact (H.del .head).del .head
    clear hK K
    refine norm_ (a' := ?_) ?_ ?_
    rotate_left
    · show Act.put _ (some 28) _ = _
      simp only [Act.put, List.setIfInBounds_toArray, List.set_cons_zero, List.set_cons_succ, i64_w, i32_w]
      rfl
    refine one_ (i := 3) (N := some 29) #[true, true, true, true, false] rfl rfl (by kernel_rfl) (by decide) (fun K hK => ?_)
    refine wanted_ rfl ?_
    refine w_appendFull H _ _ 23 5 rfl Tryd.underlying23 _ _ _ inf5 rfl (by decide) (by decide) ⟨g4, 0, none⟩ 11 (nums .u8 HL) rfl (by rw [nums_length, hhl]) (fun j u hj => by rw [addr_add, H.cell .head, Nat.zero_add]; exact hj) A n c (nums .u8 data) rfl h0 (by rw [nums_length, hN, Nat.mul_one]) (Rd.of_C (Kd.C_below hC H.below)) (by omega) ?_
    clear H
    intro v29 W H
    obtain ⟨A29, c29, rfl⟩ := H.row_slice .head
    rw [nums_app] at H
    refine hK.out _ _ ?_ (fun hHeld => ?_)
    · first | trivial | exact H | exact H.del .head | exact (H.del .head).del .head
    clear hK K
    refine norm_ (a' := ?_) ?_ ?_
    rotate_left
    · show Act.put _ (some 29) _ = _
      simp only [Act.put, List.setIfInBounds_toArray, List.set_cons_zero, List.set_cons_succ, i64_w, i32_w]
      rfl
    refine pure_ (i := 4) (N := some 5) (v := ?_) (a' := ?_) #[true, true, true, true, true] rfl rfl (by kernel_rfl) (fun _ _ _ h => h) (Or.inl ⟨by rfl, ?_⟩) ?_ ?_
    rotate_left
    · intro w'
      go_simp
      with_reducible rfl
    rotate_left
    · simp only [Act.put, List.setIfInBounds_toArray, List.set_cons_zero, List.set_cons_succ, i64_w, i32_w]
      rfl
    refine done_ (by kernel_rfl) ?_
    clear hHeld
    go_wp2
    have hnc := (H.rowC .head).1
    have C4 : ∀ {W : World}, Own w F0 [.row (.slice A29 (11 + n) c29) 5 1 (11 + n) (nums .u8 (HL ++ data)), .blk g4 84 (nums .u8 HL), .blk g1 37 [.int .i64 kind, .int .u32 (e : Int), .slice A n c]] W → (Kd.int .u8).C W (dropA A29 4 c29 1) (11 + n - 4) BL := fun H => by
      have := drop_C (H.rowC .head).2.2 4 c29 (by omega) hnc
      rw [hhb] at this
      exact this
    refine start_ (n := 9) (S := Own _ _ _) (ds := [8]) #[false, false, false, false, false, false, false, false, false] (by kernel_rfl) rfl rfl H.drew (fun hHeld => ?_)
    replace H := H.drew
    generalize World.drew _ = W at H hHeld ⊢
    refine pure_ (i := 0) (N := some 30) (v := ?_) (a' := ?_) #[true, false, false, false, false, false, false, false, false] rfl rfl (by kernel_rfl) (fun _ _ _ h => h) (Or.inl ⟨by rfl, ?_⟩) ?_ ?_
    rotate_left
    · intro w'
      go_simp
      with_reducible rfl
    rotate_left
    · simp only [Act.put, List.setIfInBounds_toArray, List.set_cons_zero, List.set_cons_succ, i64_w, i32_w]
      rfl
    refine take_run (i := 1) (N := some 31) (a' := ?_) #[true, true, false, false, false, false, false, false, false] rfl rfl (by kernel_rfl) (fun _ _ _ _ h => h) (by rfl) hHeld (.slice A29 4 c29) (fun X HX => x_slice_to _ _ rfl rfl Tryd.underlying23 size5 4 rfl (by omega) X) ?_ ?_
    rotate_left
    · simp only [Act.put, List.setIfInBounds_toArray, List.set_cons_zero, List.set_cons_succ, i64_w, i32_w]
      rfl
    refine pure_ (i := 2) (N := some 32) (v := ?_) (a' := ?_) #[true, true, true, false, false, false, false, false, false] rfl rfl (by kernel_rfl) (fun _ _ _ h => h) (Or.inl ⟨by rfl, ?_⟩) ?_ ?_
    rotate_left
    · intro w'
      go_simp
      with_reducible rfl
    rotate_left
    · simp only [Act.put, List.setIfInBounds_toArray, List.set_cons_zero, List.set_cons_succ, i64_w, i32_w]
      rfl
    refine take_run (i := 3) (N := some 33) (a' := ?_) #[true, true, true, true, false, false, false, false, false] rfl rfl (by kernel_rfl) (fun _ _ _ _ h => h) (by rfl) hHeld (.slice (dropA A29 4 c29 1) (11 + n - 4) (c29 - 4)) (fun X HX => x_slice_lo _ _ rfl rfl Tryd.underlying23 size5 4 rfl (by omega) X) ?_ ?_
    rotate_left
    · simp only [Act.put, List.setIfInBounds_toArray, List.set_cons_zero, List.set_cons_succ, i64_w, i32_w]
      rfl
    refine one_ (i := 4) (N := some 34) #[true, true, true, true, true, false, false, false, false] rfl rfl (by kernel_rfl) (by decide) (fun K hK => ?_)
    refine callK_ (OF H (dropA A29 4 c29 1) (11 + n - 4) (c29 - 4) (C4 H) (by omega)) Tryd.func16 (by kernel_rfl) rfl (by rfl) rfl rfl (by (try simp only [List.map_toArray, List.map_cons, List.map_nil]); first | done | rfl) ?_
    rintro e W ⟨rfl, H'⟩
    refine ⟨_, rfl, ?_⟩
    replace H := H'
    clear H'
    refine hK.out _ _ ?_ (fun hHeld => ?_)
    · first | trivial | exact H | exact H.del .head | exact (H.del .head).del .head
    clear hK K
    refine norm_ (a' := ?_) ?_ ?_
    rotate_left
    · show Act.put _ (some 34) _ = _
      simp only [Act.put, List.setIfInBounds_toArray, List.set_cons_zero, List.set_cons_succ, i64_w, i32_w]
      rfl
    refine one_ (i := 5) (N := some 35) #[true, true, true, true, true, true, false, false, false] rfl rfl (by kernel_rfl) (by decide) (fun K hK => ?_)
    refine callK_ (MF H) Tryd.func20 (by kernel_rfl) rfl (by rfl) rfl rfl (by (try simp only [List.map_toArray, List.map_cons, List.map_nil]); first | done | rfl) ?_
    rintro e W ⟨rfl, H'⟩
    refine ⟨_, rfl, ?_⟩
    replace H := H'
    clear H'
    refine hK.out _ _ ?_ (fun hHeld => ?_)
    · first | trivial | exact H | exact H.del .head | exact (H.del .head).del .head
    clear hK K
    refine norm_ (a' := ?_) ?_ ?_
    rotate_left
    · show Act.put _ (some 35) _ = _
      simp only [Act.put, List.setIfInBounds_toArray, List.set_cons_zero, List.set_cons_succ, i64_w, i32_w]
      rfl
    refine pure_ (i := 6) (N := some 36) (v := ?_) (a' := ?_) #[true, true, true, true, true, true, true, false, false] rfl rfl (by kernel_rfl) (fun _ _ _ h => h) (Or.inl ⟨by rfl, ?_⟩) ?_ ?_
    rotate_left
    · intro w'
      go_simp
      with_reducible rfl
    rotate_left
    · simp only [Act.put, List.setIfInBounds_toArray, List.set_cons_zero, List.set_cons_succ, i64_w, i32_w]
      rfl
    refine one_ (i := 7) (N := some 37) #[true, true, true, true, true, true, true, true, false] rfl rfl (by kernel_rfl) (by decide) (fun K hK => ?_)
    refine callK_ (PF H) Tryd.func60 (by kernel_rfl) rfl (by rfl) rfl rfl (by (try simp only [List.map_toArray, List.map_cons, List.map_nil]); first | done | rfl) ?_
    rintro e W ⟨A37, c37, rfl, h37, C37, H'⟩
    refine ⟨_, rfl, ?_⟩
    replace H := H'
    clear H'
    refine hK.out _ _ ?_ (fun hHeld => ?_)
    · first | trivial | exact H | exact H.del .head | exact (H.del .head).del .head
    clear hK K
    refine norm_ (a' := ?_) ?_ ?_
    rotate_left
    · show Act.put _ (some 37) _ = _
      simp only [Act.put, List.setIfInBounds_toArray, List.set_cons_zero, List.set_cons_succ, i64_w, i32_w]
      rfl
    refine last_ (i := 8) (N := some 38) #[true, true, true, true, true, true, true, true, true] rfl rfl (by kernel_rfl) (by decide) (fun K hK => ?_)
    refine wanted_ rfl ?_
    refine w_copyRow H _ _ _ _ rfl 5 Tryd.underlying23 size5 A29 4 c29 (11 + n) c29 5 rfl .head (by omega) A37 4 c37 rfl (putl sm 4) C37 (by omega) ?_
    clear H
    intro W H
    refine hK.out _ _ ?_
    clear hK K
    refine norm_ (a' := ?_) ?_ ?_
    rotate_left
    · show Act.put _ (some 38) _ = _
      simp only [Act.put, List.setIfInBounds_toArray, List.set_cons_zero, List.set_cons_succ, i64_w, i32_w]
      rfl
    refine done_ (by kernel_rfl) ?_
    clear hHeld
    rw [show (putl sm 4).take (min 4 4) = putl sm 4 from List.take_of_length_le (by rw [putl_len]; decide), hhe] at H
    go_wp2
    go_ret2
    refine ⟨A29, c29, rfl, hnc, ?_, H.below⟩
    rw [hEL]
    exact (H.rowC .head).2.2
end Go.Proofs.YthhbilkmdfdfiaaDoor.O
end

section
/- image.Add, by what is owned. -/
set_option linter.unusedVariables false
set_option linter.unusedSimpArgs false
namespace Go.Proofs.YthhbilkmdfdfiaaDoor.O
open Go.RowKit Go.Proofs.YthhbilkmdfdfiaaDoorW.PrintWords Go.Proofs.YthhbilkmdfdfiaaDoorW.PrintLast Go.Proofs.YthhbilkmdfdfiaaDoorW.PrintMore Go.Proofs.YthhbilkmdfdfiaaDoor.F Go.Proofs.YthhbilkmdfdfiaaDoor.F.Nums Go.Proofs.YthhbilkmdfdfiaaDoor.Plain Go.Proofs.YthhbilkmdfdfiaaDoor.Img
theorem r_loadC {P : Program} {o : Oper} {a : Act} {W : World} {p : Addr} {v : Value} (ty : TypeId) (x : Operand) (ho : o.op = .load ty x) (hx : a.eval x = .pointer (some p)) (hc : W.cell? p = some v) (d : TypeDesc) (hu : P.underlying ty = some d) (hd : d.isRow = false) :
    (execOp a.eval o).run P W = .ok (.value v) W := by
  have hag : (isAgg ty).run P W = .ok false W := by
    unfold isAgg
    rw [Sem.run_bind, run_underlying hu W]
    cases d <;> simp_all
  unfold execOp
  simp [ho, hx, Instr.loadAt, Instr.sureAddr, loadVar, hag, hc]
theorem l_runV {P : Program} {ops : Array Oper} {rest : List Oper} {o : Oper} {a : Act} {Q : Exit → Act → World → Prop} {W : World} (hgd : o.guard = none) {u : Value} (v : Value) (hr : (execOp a.eval o).run P W = .ok (.value u) W) (he : u = v) (h : wpList P ops Q rest (a.put o.dst v) W) : wpList P ops Q (o :: rest) a W := by
  subst he
  exact l_run hgd _ hr h
theorem Own.slack {w0 W : World} {F F' : Nat → Option Obj} {L : List Res} (H : Own w0 F' L W) (h : Fle F F') : Own w0 F L W :=
  ⟨H.below, fun g o hg => H.holds g o (h g o hg), H.ats, fun y hy k hk => by
    cases hF : F k with
    | none => rfl
    | some o => have := H.apart y hy k hk; rw [h k o hF] at this; exact this, H.sep⟩
/-- what is read of a row of fragments that stands for good -/
theorem fr_stands {W W' : World} {F : Nat → Option Obj} {ok : Nat → Prop} {l : List S37} {ad : Addr} {n cap : Nat} (h : Kd.R k37 37 W' W.heap.size ok (.slice (some ad) n cap) l) (j : Nat) (hj : j < n) :
    ∃ A2 c2, Stands (fn F W W') (fun X => Rd X (some (ad.add (j * 3))) [.int .i64 (rd_T37 l j).f0, .int .u32 (rd_T37 l j).f1, .slice A2 (rd_T37 l j).f2.length c2]) ∧ (rd_T37 l j).f2.length ≤ c2 ∧
      Stands (fn F W W') (fun X => (Kd.int .u8).C X A2 (rd_T37 l j).f2.length (rd_T37 l j).f2) := by
  have hb := Kd.R_bound h
  obtain ⟨g, rfl⟩ := Kd.R_head hb
  obtain ⟨c, hcl, hM, hcc⟩ := Kd.R_get hb z37 (j : Int) (by omega) (by omega)
  obtain ⟨v2, rfl, g2⟩ := k37_openM hM
  obtain ⟨A2, c2, rfl, l2, C2⟩ := Kd.R_reads g2
  have hg := hb.1 g rfl
  have same : ∀ X : World, (∀ g o, fn F W W' g = some o → X.heap[g]? = some o) → ∀ k, W.heap.size ≤ k → k < W'.heap.size → X.heap[k]? = W'.heap[k]? := fun X hX k h1 h2 => by
    have := hX k (W'.heap[k]) (by unfold fn; rw [if_pos ⟨h1, h2⟩]; exact Array.getElem?_eq_getElem h2)
    rw [this, Array.getElem?_eq_getElem h2]
  refine ⟨A2, c2, fun X hX => ?_, l2, fun X hX => ?_⟩
  · intro hp
    refine ⟨_, rfl, fun i u hu => ?_⟩
    rw [add_add', addr_add]
    have h1 := hcc i u hu
    rw [Int.toNat_natCast, show k37.sz = 3 from rfl, addr_add] at h1
    rw [← h1]
    unfold World.cell?
    rw [same X hX g hg.2.1 hg.2.2.1]
  · obtain ⟨A3, c3, e3, l3, C3⟩ := Kd.R_reads (Kd.R_move g2 (w1 := X) (fun k hk => same X hX k hk.1.2.1 hk.1.2.2.1))
    injection e3 with e3 e4 e5
    subst e3
    exact C3
theorem fr_stands' {W W' : World} {F : Nat → Option Obj} {ok : Nat → Prop} {l : List S37} {A : Option Addr} {cap : Nat} (h : Kd.R k37 37 W' W.heap.size ok (.slice A l.length cap) l) (j : Nat) (hj : j < l.length) :
    ∃ ad A2 c2, A = some ad ∧ Stands (fn F W W') (fun X => Rd X (some (ad.add (j * 3))) [.int .i64 (rd_T37 l j).f0, .int .u32 (rd_T37 l j).f1, .slice A2 (rd_T37 l j).f2.length c2]) ∧ (rd_T37 l j).f2.length ≤ c2 ∧
      Stands (fn F W W') (fun X => (Kd.int .u8).C X A2 (rd_T37 l j).f2.length (rd_T37 l j).f2) := by
  obtain ⟨A9, c9, e9, l9, C9⟩ := Kd.R_reads h
  injection e9 with e1 e2 e3
  subst e1
  obtain ⟨ad, rfl, -⟩ := C9.2.2 (by omega)
  obtain ⟨A2, c2, h1, h2, h3⟩ := fr_stands (F := F) h j hj
  exact ⟨ad, A2, c2, rfl, h1, h2, h3⟩
theorem pc_at {w : World} {A : Option Addr} {n : Nat} {ps : List S99} (h : Kd.C k99 w A n ps) (j : Nat) (hj : j < n) :
    ∃ ad, A = some ad ∧ w.cell? (ad.add (j * 4)) = some (.int .i64 (rd_T99 ps j).f0) := by
  obtain ⟨ad', e, x0, x1, x2, x3⟩ := at_T99 h (j : Int) (by omega) (by omega)
  rw [Int.toNat_natCast] at x0
  exact ⟨ad', e, x0⟩
theorem drop_blk (g lo hi : Nat) (h : lo ≠ hi) : dropA (some ⟨g, 0, none⟩) lo hi 1 = some ⟨g, lo, none⟩ := by
  unfold dropA
  rw [if_neg (by omega)]
  simp [addr_add]
set_option maxRecDepth 100000 in
set_option maxHeartbeats 8000000 in
theorem add_no (e64 : Int) (body data : List Int) (A B : Option Addr) (cA cB : Nat) (at_ : Int) (w : World) (hok : (cutP at_ (data.length : Int)).2.2 = false) :
    Calls Tryd.prog 43 #[.int .u64 e64, .slice A body.length cA, .int .i64 at_, .slice B data.length cB] w fun e W => e = .returned (.tuple #[.slice none 0 0, .int .i64 0, .bool false]) ∧ Below w.heap.size w W := by
  have H := Own.start w
  have hcut : cut_Cut.f 7 at_ (data.length : Int) = some ((cutP at_ (data.length : Int)).1, (cutP at_ (data.length : Int)).2.1, (cutP at_ (data.length : Int)).2.2) := cut_eq 7 (by decide) at_ (data.length : Int)
  have FC := fun (W : World) => cut_Cut.calls 7 at_ (data.length : Int) (cutP at_ (data.length : Int)).1 (cutP at_ (data.length : Int)).2.1 (cutP at_ (data.length : Int)).2.2 W hcut
  rw [hok] at FC
  generalize (cutP at_ (data.length : Int)).2.1 = en at *
  generalize (cutP at_ (data.length : Int)).1 = ps at *
  generalize data.length = nd at *
  generalize body.length = nb at *
  clear hcut hok
  go_enter Tryd.func43, Tryd.ntmps43
  go_wp2_with (first
    | (go_at_call 65; (with_reducible refine (FC _).mono ?_); rintro e W ⟨v0, rfl, hR, hb⟩; obtain ⟨Ap, cp, rfl⟩ := Kd.R_slice hR; replace H := H.to hb; clear hb hR))
  go_ret3
  exact ⟨rfl, H.below⟩
set_option maxRecDepth 100000 in
set_option maxHeartbeats 8000000 in
theorem add_ok (e64 : Int) (body data : List Int) (A B : Option Addr) (cA cB : Nat) (at_ : Int) (w : World) (hok : (cutP at_ (data.length : Int)).2.2 = true)
    (hCb : (Kd.int .u8).C w A body.length body) (hcb : body.length ≤ cA) (hbb : Bytes body) (hCd : (Kd.int .u8).C w B data.length data) (hcd : data.length ≤ cB) (hbd : Bytes data) (hld : data.length < 140737488355328) (hH : Half w) :
    Calls Tryd.prog 43 #[.int .u64 e64, .slice A body.length cA, .int .i64 at_, .slice B data.length cB] w fun e W => ∃ g, e = .returned (.tuple #[.slice (some ⟨g, 0, none⟩) 832 832, .int .i64 (cutP at_ (data.length : Int)).2.1, .bool true]) ∧ Own w F0 [.blk g 5 (nums .u8 (addB e64 body at_ data))] W := by
  have H := Own.start w
  have hcut : cut_Cut.f 7 at_ (data.length : Int) = some ((cutP at_ (data.length : Int)).1, (cutP at_ (data.length : Int)).2.1, (cutP at_ (data.length : Int)).2.2) := cut_eq 7 (by decide) at_ (data.length : Int)
  have FC := fun (W : World) => cut_Cut.calls 7 at_ (data.length : Int) (cutP at_ (data.length : Int)).1 (cutP at_ (data.length : Int)).2.1 (cutP at_ (data.length : Int)).2.2 W hcut
  have hfr : cut_Frags.f 20 (e64 % 4294967296) at_ data = some ((cutP at_ (data.length : Int)).1.map (fragP (e64 % 4294967296) data), (cutP at_ (data.length : Int)).2.2) := frags_eq 20 (by decide) (e64 % 4294967296) at_ data hld
  have FF := fun (W : World) (hC : (Kd.int .u8).C W B data.length data) => cut_Frags.calls 20 (e64 % 4294967296) at_ B cB data ((cutP at_ (data.length : Int)).1.map (fragP (e64 % 4294967296) data)) (cutP at_ (data.length : Int)).2.2 W hC hcd hfr
  rw [hok] at FC FF
  have hbase := base_copy body
  have hadd : addB e64 body at_ data = layA (e64 % 4294967296) data (cutP at_ (data.length : Int)).1 (base body) := rfl
  have hps := cutP_pcs at_ data
  have hpl := cutP_len at_ (data.length : Int)
  have he0 : 0 ≤ e64 % 4294967296 ∧ e64 % 4294967296 ≤ 4294967295 := by omega
  have hbl := base_len body
  generalize addB e64 body at_ data = out at *
  generalize hen : (cutP at_ (data.length : Int)).2.1 = en at *
  generalize (cutP at_ (data.length : Int)).1 = ps at *
  generalize base body = bs at *
  have hzl : (zs 832).length = 832 := by simp [zs]
  have hul : IntKind.u32.wrap e64 = e64 % 4294967296 := by rw [IntKind.wrap_u32]
  generalize e64 % 4294967296 = ep at *
  generalize hnd : data.length = nd at *
  generalize hnb : body.length = nb at *
  clear hcut hfr hok
  go_enter Tryd.func43, Tryd.ntmps43
  go_wp2_with (first

    | ((with_reducible refine gate_dst (N := 31) rfl ?_); refine l_make1 rfl H 23 5 _ _ rfl 832 rfl rfl Tryd.underlying23 _ rfl _ inf5 (by decide) (by decide) ?_; clear H; intro g14 W H; rw [show List.replicate 832 (Value.int .u8 0) = nums .u8 (zs 832) by simp [nums, zs]] at H)
    | ((with_reducible refine gate_dst (N := 34) rfl ?_); refine l_copyC rfl H _ _ _ _ rfl 5 Tryd.underlying23 size5 g14 0 832 832 rfl .head A nb cA rfl body (Kd.C_below hCb H.below) (by rw [hzl]; omega) ?_; clear H; intro W H; rw [hbase] at H)
    | (go_at_call 65; (with_reducible refine (FC _).mono ?_); rintro e W ⟨v0, rfl, hR, hb⟩; obtain ⟨Ap, cp, rfl⟩ := Kd.R_slice hR; have HF := H.freezeNew hb; have hSt := Stands.R (F := F0) hR; clear hR hb H; obtain ⟨H, hF⟩ := HF; generalize fn F0 w W = F1 at H hF hSt)
    | (go_at_call 66; (with_reducible refine (FF _ (Kd.C_below hCd H.below)).mono ?_); rintro e W ⟨v1, rfl, hS, hb⟩; obtain ⟨Af, cf, rfl⟩ := Kd.R_slice (Kd.S_R hS); have HF2 := H.freezeNew hb; have hSt2 := fun j hj => fr_stands' (F := F1) (Kd.S_R hS) j hj; clear hS hb H; obtain ⟨H, hF2⟩ := HF2; generalize fn F1 _ W = F2 at H hF2 hSt2))
  have hSp := hSt.mono hF2
  clear hSt FC FF hCb hCd
  have hrf : ∀ j, j < ps.length → rd_T37 (ps.map (fragP ep data)) (j : Int) = fragP ep data (rd_T99 ps j) := fun j hj => by
    unfold rd_T37
    rw [List.getD_eq_getElem?_getD, Int.toNat_natCast, List.getElem?_map, List.getElem?_eq_getElem hj, rd_at ps j hj]
    rfl
  generalize hpn : ps.length = n at *
  go_loopg [45] n (fun gq v45 w' => ∃ j : Nat, v45 = .int .i64 (j : Int) ∧ j + gq = n ∧ Own w F2 [.blk g14 5 (nums .u8 (layA ep data (ps.take j) bs))] w')
  case atStart => exact ⟨0, rfl, by omega, H⟩
  case round =>
    clear H
    obtain ⟨j, rfl, hj, H⟩ := hrel
    by_cases cj : j < n
    · obtain ⟨gk', rfl⟩ : ∃ q, gk = q + 1 := ⟨gk - 1, by omega⟩
      have q0 : decide (j < n) = true := decide_eq_true cj
      have q1 : ((0 : Int) ≤ (j : Int)) = True := eq_true (by omega)
      have q2 : ((j : Int) < (n : Int)) = True := eq_true (by omega)
      obtain ⟨adf, A2, c2, rfl, hRd, l2, C2⟩ := hSt2 j (by rw [List.length_map]; omega)
      rw [hrf j cj] at hRd l2 C2
      have hpc := hps _ (List.getElem_mem (show j < ps.length by omega))
      rw [rd_at ps j (by omega)] at hpc
      have hstep := layA_take (ep := ep) (data := data) ps bs j (by omega)
      rw [rd_at ps j (by omega)] at hstep
      have hll := layA_len (ep := ep) (data := data) (ps.take j) bs (fun q hq => hps q (List.mem_of_mem_take hq)) hbl
      have hSq : ∀ (X : World) (L : List Res), Own w F2 L X → ∃ ad, Ap = some ad ∧ X.cell? (ad.add (j * 4)) = some (.int .i64 (rd_T99 ps j).f0) := fun X L HX => by
        obtain ⟨Aq, cq, eq, lq, Cq⟩ := Kd.R_reads (HX.use hSp)
        injection eq with eq1 eq2 eq3
        subst eq1
        rw [hpn] at Cq
        exact pc_at Cq j cj
      obtain ⟨adp, rfl, -⟩ := hSq _ _ H
      have hPC : ∀ (X : World) (L : List Res), Own w F2 L X → X.cell? (adp.add (j * 4)) = some (.int .i64 (rd_T99 ps j).f0) := fun X L HX => by
        obtain ⟨ad, e, h⟩ := hSq X L HX
        obtain rfl := Option.some.inj e
        exact h
      have hpl2 := pcE_len (ep := ep) hpc
      have hlay : layP ep data (layA ep data (ps.take j) bs) (rd_T99 ps j) = splice (layA ep data (ps.take j) bs) (rd_T99 ps j).f0.toNat (pcE ep data (rd_T99 ps j)) := rfl
      rw [hlay] at hstep
      generalize rd_T99 ps (j : Int) = p at *
      obtain ⟨pa, pk, pf, pt⟩ := p
      obtain ⟨h1, h2, h3, h4, h5, h6, h7, h8⟩ := hpc
      simp only at h1 h2 h3 h4 h5 h6 h7 h8 hPC hpl2
      obtain ⟨at0, rfl⟩ := Int.eq_ofNat_of_zero_le h1
      simp only [fragP] at hRd l2 C2
      have hdl : ((data.take pt.toNat).drop pf.toNat).length = (pt - pf).toNat := by rw [List.length_drop, List.length_take]; omega
      have hpcE : pcE ep data ⟨(at0 : Int), pk, pf, pt⟩ = encL pk ep ((data.take pt.toNat).drop pf.toNat) := rfl
      rw [hpcE] at hstep hpl2
      have hrr : rightF pk ((data.take pt.toNat).drop pf.toNat).length = true := by
        unfold rightF
        rw [hdl, decide_eq_true h3.1, decide_eq_true h3.2, decide_eq_true (show (pt - pf).toNat ≤ 197 by omega)]
        rfl
      have hbs := bytes_drop (bytes_take hbd pt.toNat) pf.toNat
      have EN := fun W hC h => encode_ok pk ep ((data.take pt.toNat).drop pf.toNat) A2 c2 W hC l2 hbs he0 h hrr
      have hel := encL_len pk ep ((data.take pt.toNat).drop pf.toNat)
      have hfit : at0 + min (11 + ((data.take pt.toNat).drop pf.toNat).length) (832 - at0) ≤ 832 := by omega
      have hmn : min (11 + ((data.take pt.toNat).drop pf.toNat).length) (832 - at0) = 11 + ((data.take pt.toNat).drop pf.toNat).length := by rw [hdl]; omega
      simp only [Int.toNat_natCast] at hstep
      have hat832 : at0 < 832 := by omega
      clear hlay hpcE hrr hbs hpl2 h1 h2 h3 h4 h5 h6 h7 h8 hSq
      generalize encL pk ep ((data.take pt.toNat).drop pf.toNat) = EL at *
      generalize hsl : (data.take pt.toNat).drop pf.toNat = sl at *
      generalize hsn : sl.length = sn at *
      generalize layA ep data (ps.take j) bs = cu at *
      have HST := Aside0.mk hstep
      have HDR := Aside0.mk (drop_blk g14 at0 832 (by omega))
      have HK := Aside0.mk hj
      clear hstep hj hdl hsl
      have hll' : at0 + min (11 + sn) (832 - at0) ≤ cu.length := by rw [hll]; exact hfit
      have hEl : EL.length = min (11 + sn) (832 - at0) := by rw [hmn, hel]
      clear hSt2 hrf hps hfit hmn
      go_wp2_with (first
    | ((with_reducible refine gate_dst (N := 18) rfl ?_); refine l_allocA rfl H 37 rfl _ zero37 ?_; clear H; intro g18 W H)
    | ((with_reducible refine gate_store (t := 37) (p := 18) rfl ?_); refine l_storeW rfl H 37 _ _ rfl _ rfl _ rfl (by (repeat (first | exact In.head | apply In.tail))) _ size37 (by (first | rfl | assumption | omega | (simp only [nums_length]; omega) | (simp [nums_length, zs]; done) | (simp [nums_length, zs]; omega))) (by (first | rfl | assumption | omega | (simp only [nums_length]; omega) | (simp [nums_length, zs]; done) | (simp [nums_length, zs]; omega))) (by (first | exact nums_one | assumption | (intro u hu; simp at hu; subst hu; rfl) | (intro u hu; simp at hu; rcases hu with rfl | rfl | rfl | rfl | rfl | rfl | rfl <;> rfl) | (intro u hu; simp at hu; rcases hu with rfl | rfl | rfl | rfl <;> rfl) | (intro u hu; simp at hu; rcases hu with rfl | rfl | rfl <;> rfl) | (intro u hu; simp at hu; rcases hu with rfl | rfl <;> rfl))) ?_; clear H; intro W H)
    | ((with_reducible refine gate_dst (N := 51) rfl ?_); refine l_loadA rfl H 37 _ rfl _ rfl (by (repeat (first | exact In.head | apply In.tail))) _ _ Tryd.underlying37 rfl size37 (by (first | rfl | assumption | omega | (simp only [nums_length]; omega) | (simp [nums_length, zs]; done) | (simp [nums_length, zs]; omega))) ?_)
      | ((with_reducible refine gate_dst (N := 49) rfl ?_); refine l_run rfl (.agg #[.int .i64 pk, .int .u32 ep, .slice A2 sn c2]) (r_loadRd0 37 _ rfl rfl (H.use hRd) 3 _ Tryd.underlying37 rfl size37 (by decide) rfl) ?_)
      | (go_at_call 29; (with_reducible refine (EN _ (H.use C2) (hH.below H.below)).mono ?_); rintro e W ⟨A5, c5, rfl, l5, C5, hb⟩; replace H := H.to hb; clear hb)
      | ((with_reducible refine gate_dst (N := 60) rfl ?_); refine l_run rfl (.int .i64 (at0 : Int)) (r_loadC 3 _ rfl rfl (hPC _ _ H) _ Tryd.underlying3 rfl) ?_)
      | ((with_reducible refine gate_dst (N := 61) rfl ?_); refine l_runV rfl (.slice (some ⟨g14, at0, none⟩) (832 - at0) (832 - at0)) (x_slice_lo _ _ rfl rfl Tryd.underlying23 size5 at0 rfl (Nat.le_of_lt hat832) _) (by rw [HDR.out]) ?_)
      | ((with_reducible refine gate_dst (N := 63) rfl ?_); refine l_copyC rfl H _ _ _ _ rfl 5 Tryd.underlying23 size5 g14 at0 (832 - at0) (832 - at0) rfl (.tail .head) A5 (11 + sn) c5 rfl EL (Kd.C_below C5 (Below.refl _ _)) hll' ?_; clear H; intro W H; rw [List.take_of_length_le (Nat.le_of_eq hEl), ← HST.out] at H))
      go_roundg gk'
      case measure => have := HK.out; omega
      case rel =>
        have hk := HK.out
        exact ⟨j + 1, congrArg (Value.int .i64) (by omega), by omega, H.del .head⟩
    · obtain rfl : j = n := by omega
      rw [← hpn, List.take_length] at H
      clear hj cj
      go_wp2
      go_ret3
      exact ⟨g14, rfl, by rw [hadd]; exact (H.slack hF2).slack hF⟩
end Go.Proofs.YthhbilkmdfdfiaaDoor.O
end

section
/- Functions of strandlineref07: what each answers, as a Lean function, and that the call answers just this. Turned out of what the kit's print told for this seat. -/
namespace Go.Proofs.YthhbilkmdfdfiaaDoor.F
open Go.RowKit Go.Proofs.YthhbilkmdfdfiaaDoorW.PrintWords Go.Proofs.YthhbilkmdfdfiaaDoorW.PrintLast Go.Proofs.YthhbilkmdfdfiaaDoorW.PrintMore
attribute [local go_sem high] eqA120
attribute [local go_sem] field120_0
attribute [local go_sem] field120_1
attribute [local go_sem] max2_int min2_int max_two min_two max_three min_three max_four min_four
set_option linter.unusedVariables false
set_option linter.unusedSimpArgs false

/-! ### strandlineref07_Near: function 80 -/
def strandlineref07_Near.f (a0 : Int) : Option (Int) := if a0 < 0 then (some 0) else (if a0 > 832 then (some 832) else (some a0))
set_option maxHeartbeats 8000000 in
set_option maxRecDepth 100000 in
theorem strandlineref07_Near.calls (a0 : Int) (r : Int) (w : World) (h : strandlineref07_Near.f a0 = some r) :
    Calls Tryd.prog 80 #[.int .i64 a0] w fun e w' => e = .returned (.int .i64 r) ∧ Drawn0 w w' := by
  have hu37 := Tryd.underlying37
  have hu99 := Tryd.underlying99
  have hu120 := Tryd.underlying120
  have H : (if a0 < 0 then (some 0) else (if a0 > 832 then (some 832) else (some a0))) = some r := h
  clear h
  by_cases c2 : a0 < 0
  · rw [if_pos c2] at H
    have c2b0 : decide (a0 < 0) = true := decide_eq_true c2
    clear c2
    obtain rfl := Option.some.inj H
    go_enter Tryd.func80, Tryd.ntmps80
    go_wp2
    go_ret
    exact ⟨by first | rfl | (simp; done) | (simp [*]; done), by repeat (first | exact Drawn0.refl _ | apply Drawn0.step)⟩
  · rw [if_neg c2] at H
    have c2b0 : decide (a0 < 0) = false := decide_eq_false c2
    clear c2
    by_cases c3 : a0 > 832
    · rw [if_pos c3] at H
      have c3b0 : decide (832 < a0) = true := decide_eq_true c3
      clear c3
      obtain rfl := Option.some.inj H
      go_enter Tryd.func80, Tryd.ntmps80
      go_wp2
      go_ret
      exact ⟨by first | rfl | (simp; done) | (simp [*]; done), by repeat (first | exact Drawn0.refl _ | apply Drawn0.step)⟩
    · rw [if_neg c3] at H
      have c3b0 : decide (832 < a0) = false := decide_eq_false c3
      clear c3
      obtain rfl := Option.some.inj H
      go_enter Tryd.func80, Tryd.ntmps80
      go_wp2
      go_ret
      exact ⟨by first | rfl | (simp; done) | (simp [*]; done), by repeat (first | exact Drawn0.refl _ | apply Drawn0.step)⟩

/-! ### strandlineref07_Where: function 81 -/
def strandlineref07_Where.l0 : Nat → Int → Int → Int → Int → Option (Int × Int)
  | 0, _, _, _, _ => none
  | k + 1, x0, x4, x5, x6 => (strandlineref07_Near.f x0).bind fun t172 => (if x6 < t172 then (if (wrap64 (x5 + 1)) = 52 then (strandlineref07_Where.l0 k x0 (wrap64 (x4 + 1)) 0 (wrap64 (x6 + 1))) else (strandlineref07_Where.l0 k x0 x4 (wrap64 (x5 + 1)) (wrap64 (x6 + 1)))) else (some (x4, x5)))
def strandlineref07_Where.f (k : Nat) (a0 : Int) : Option (Int × Int) := strandlineref07_Where.l0 k a0 0 0 0
theorem strandlineref07_Where.mono_l : ∀ k, (∀ y0 y1 y2 y3, LeO (strandlineref07_Where.l0 k y0 y1 y2 y3) (strandlineref07_Where.l0 (k + 1) y0 y1 y2 y3))
  | 0 => fun _ _ _ _ r h => by simp [strandlineref07_Where.l0] at h
  | k + 1 => by
    have ih0 := strandlineref07_Where.mono_l k
    · intro y0 y1 y2 y3
      unfold strandlineref07_Where.l0
      repeat' first
      | (with_reducible exact ih0 _ _ _ _)
      | (with_reducible exact LeO.refl _)
      | (with_reducible exact LeO.none _)
      | (with_reducible refine LeO.ite ?_ ?_)
      | (with_reducible refine LeO.bind ?_ (fun _ => ?_))
      | exact ih0 _ _ _ _
      | exact LeO.none _
      | refine LeO.ite ?_ ?_
      | refine LeO.bind ?_ (fun _ => ?_)
theorem strandlineref07_Where.mono : ∀ a0 k, LeO (strandlineref07_Where.f k a0) (strandlineref07_Where.f (k + 1) a0) := by
  intro a0 k
  have ih0 := strandlineref07_Where.mono_l k
  unfold strandlineref07_Where.f
  repeat' first
      | (with_reducible exact ih0 _ _ _ _)
      | (with_reducible exact LeO.refl _)
      | (with_reducible exact LeO.none _)
      | (with_reducible refine LeO.ite ?_ ?_)
      | (with_reducible refine LeO.bind ?_ (fun _ => ?_))
      | exact ih0 _ _ _ _
      | exact LeO.none _
      | refine LeO.ite ?_ ?_
      | refine LeO.bind ?_ (fun _ => ?_)
set_option maxHeartbeats 8000000 in
set_option maxRecDepth 100000 in
theorem strandlineref07_Where.calls (k : Nat) (a0 : Int) (r1 : Int) (r2 : Int) (w : World) (h : strandlineref07_Where.f k a0 = some (r1, r2)) :
    Calls Tryd.prog 81 #[.int .i64 a0] w fun e w' => e = .returned (.tuple #[.int .i64 r1, .int .i64 r2]) ∧ Drawn0 w w' := by
  have hu37 := Tryd.underlying37
  have hu99 := Tryd.underlying99
  have hu120 := Tryd.underlying120
  have H : (strandlineref07_Where.l0 k a0 0 0 0) = some (r1, r2) := h
  clear h
  have H' := Aside0.mk H
  clear H
  go_enter Tryd.func81, Tryd.ntmps81
  go_wp2
  go_loopg [4, 5, 6] k (fun kq v4 v5 v6 w' => ∃ (x4_1 : Int) (x5_1 : Int) (x6_1 : Int), v4 = .int .i64 x4_1 ∧ v5 = .int .i64 x5_1 ∧ v6 = .int .i64 x6_1 ∧ Aside0 (strandlineref07_Where.l0 kq a0 x4_1 x5_1 x6_1 = some (r1, r2)) ∧ Aside0 (kq ≤ k) ∧ Drawn0 w w')
  case atStart => exact ⟨(0), (0), (0), (by first | rfl | (simp; done) | (simp [*]; done)), (by first | rfl | (simp; done) | (simp [*]; done)), (by first | rfl | (simp; done) | (simp [*]; done)), H', ⟨Nat.le_refl _⟩, by repeat (first | exact Drawn0.refl _ | apply Drawn0.step)⟩
  case round =>
    clear H'
    obtain ⟨x4_1, x5_1, x6_1, rfl, rfl, rfl, HA, HK1, ⟨m1, rfl⟩⟩ := hrel
    cases gk with
    | zero => exact absurd HA.out (by simp [strandlineref07_Where.l0])
    | succ k1 =>
      have H := HA.out
      clear HA
      simp only [strandlineref07_Where.l0] at H
      replace H := Option.bind_eq_some_iff.mp H
      obtain ⟨t172, A20, H⟩ := H
      replace H : (if x6_1 < t172 then (if (wrap64 (x5_1 + 1)) = 52 then (strandlineref07_Where.l0 k1 a0 (wrap64 (x4_1 + 1)) 0 (wrap64 (x6_1 + 1))) else (strandlineref07_Where.l0 k1 a0 x4_1 (wrap64 (x5_1 + 1)) (wrap64 (x6_1 + 1)))) else (some (x4_1, x5_1))) = some (r1, r2) := H
      have A2 := Aside0.mk A20
      clear A20
      by_cases c3 : x6_1 < t172
      · rw [if_pos c3] at H
        have c3b0 : decide (x6_1 < t172) = true := decide_eq_true c3
        clear c3
        by_cases c4 : (wrap64 (x5_1 + 1)) = 52
        · rw [if_pos c4] at H
          have c4b0 : ((wrap64 (x5_1 + 1)) == 52) = true := beq_iff_eq.mpr c4
          have c4b1 : ((wrap64 (x5_1 + 1)) != 52) = false := bne_eq_false_iff_eq.mpr c4
          clear c4
          have H' := Aside0.mk H
          clear H
          go_wp2_with (first | ((with_reducible refine gate_callee (f := 80) rfl ?_); refine goesL_ (some 9) rfl rfl Tryd.func80 (by kernel_rfl) rfl #[.int .i64 a0] rfl (by (try simp only [List.map_toArray, List.map_cons, List.map_nil]); first | done | rfl | (simp only [List.length_drop, List.length_take]; rfl)) ?_; (with_reducible refine (strandlineref07_Near.calls a0 t172 _ A2.out).mono ?_); rintro e w' ⟨rfl, ⟨nd, rfl⟩⟩; refine ⟨_, rfl, ?_⟩))
          go_roundg k1
          case measure => have := HK1.out; omega
          case rel => exact ⟨(wrap64 (x4_1 + 1)), (0), (wrap64 (x6_1 + 1)), (by first | rfl | (simp; done) | (simp [*]; done)), (by first | rfl | (simp; done) | (simp [*]; done)), (by first | rfl | (simp; done) | (simp [*]; done)), H', ⟨by have := HK1.out; omega⟩, by repeat (first | exact Drawn0.refl _ | apply Drawn0.step)⟩
        · rw [if_neg c4] at H
          have c4b0 : ((wrap64 (x5_1 + 1)) == 52) = false := beq_eq_false_iff_ne.mpr c4
          have c4b1 : ((wrap64 (x5_1 + 1)) != 52) = true := bne_iff_ne.mpr c4
          have H' := Aside0.mk H
          clear H
          go_wp2_with (first | ((with_reducible refine gate_callee (f := 80) rfl ?_); refine goesL_ (some 9) rfl rfl Tryd.func80 (by kernel_rfl) rfl #[.int .i64 a0] rfl (by (try simp only [List.map_toArray, List.map_cons, List.map_nil]); first | done | rfl | (simp only [List.length_drop, List.length_take]; rfl)) ?_; (with_reducible refine (strandlineref07_Near.calls a0 t172 _ A2.out).mono ?_); rintro e w' ⟨rfl, ⟨nd, rfl⟩⟩; refine ⟨_, rfl, ?_⟩))
          go_roundg k1
          case measure => have := HK1.out; omega
          case rel => exact ⟨(x4_1), (wrap64 (x5_1 + 1)), (wrap64 (x6_1 + 1)), (by first | rfl | (simp; done) | (simp [*]; done)), (by first | rfl | (simp; done) | (simp [*]; done)), (by first | rfl | (simp; done) | (simp [*]; done)), H', ⟨by have := HK1.out; omega⟩, by repeat (first | exact Drawn0.refl _ | apply Drawn0.step)⟩
      · rw [if_neg c3] at H
        have c3b0 : decide (x6_1 < t172) = false := decide_eq_false c3
        clear c3
        simp only [Option.some.injEq, Prod.mk.injEq] at H
        obtain ⟨rfl, rfl⟩ := H
        go_wp2_with (first | ((with_reducible refine gate_callee (f := 80) rfl ?_); refine goesL_ (some 9) rfl rfl Tryd.func80 (by kernel_rfl) rfl #[.int .i64 a0] rfl (by (try simp only [List.map_toArray, List.map_cons, List.map_nil]); first | done | rfl | (simp only [List.length_drop, List.length_take]; rfl)) ?_; (with_reducible refine (strandlineref07_Near.calls a0 t172 _ A2.out).mono ?_); rintro e w' ⟨rfl, ⟨nd, rfl⟩⟩; refine ⟨_, rfl, ?_⟩))
        go_ret2
        exact ⟨by first | rfl | (simp; done) | (simp [*]; done), by repeat (first | exact Drawn0.refl _ | apply Drawn0.step)⟩

/-! ### strandlineref07_Begin: function 69 -/
def strandlineref07_Begin.l0 : Nat → Int → Int → Option (Int)
  | 0, _, _ => none
  | k + 1, x0, x4 => if x0 < 832 then (if x4 > 41 then (if x4 < 52 then (strandlineref07_Begin.l0 k (wrap64 (x0 + 1)) (wrap64 (x4 + 1))) else (some x0)) else (some x0)) else (some x0)
def strandlineref07_Begin.f (k : Nat) (a0 : Int) : Option (Int) := (strandlineref07_Near.f a0).bind fun t173 => ((strandlineref07_Where.f k t173).bind fun bt174 => (strandlineref07_Begin.l0 k t173 bt174.2))
theorem strandlineref07_Begin.mono_l : ∀ k, (∀ y0 y1, LeO (strandlineref07_Begin.l0 k y0 y1) (strandlineref07_Begin.l0 (k + 1) y0 y1))
  | 0 => fun _ _ r h => by simp [strandlineref07_Begin.l0] at h
  | k + 1 => by
    have ih0 := strandlineref07_Begin.mono_l k
    · intro y0 y1
      unfold strandlineref07_Begin.l0
      repeat' first
      | (with_reducible exact ih0 _ _)
      | (with_reducible exact strandlineref07_Where.mono _ _)
      | (with_reducible exact LeO.refl _)
      | (with_reducible exact LeO.none _)
      | (with_reducible refine LeO.ite ?_ ?_)
      | (with_reducible refine LeO.bind ?_ (fun _ => ?_))
      | exact ih0 _ _
      | exact strandlineref07_Where.mono _ _
      | exact LeO.none _
      | refine LeO.ite ?_ ?_
      | refine LeO.bind ?_ (fun _ => ?_)
theorem strandlineref07_Begin.mono : ∀ a0 k, LeO (strandlineref07_Begin.f k a0) (strandlineref07_Begin.f (k + 1) a0) := by
  intro a0 k
  have ih0 := strandlineref07_Begin.mono_l k
  unfold strandlineref07_Begin.f
  repeat' first
      | (with_reducible exact ih0 _ _)
      | (with_reducible exact strandlineref07_Where.mono _ _)
      | (with_reducible exact LeO.refl _)
      | (with_reducible exact LeO.none _)
      | (with_reducible refine LeO.ite ?_ ?_)
      | (with_reducible refine LeO.bind ?_ (fun _ => ?_))
      | exact ih0 _ _
      | exact strandlineref07_Where.mono _ _
      | exact LeO.none _
      | refine LeO.ite ?_ ?_
      | refine LeO.bind ?_ (fun _ => ?_)
set_option maxHeartbeats 8000000 in
set_option maxRecDepth 100000 in
theorem strandlineref07_Begin.calls (k : Nat) (a0 : Int) (r : Int) (w : World) (h : strandlineref07_Begin.f k a0 = some r) :
    Calls Tryd.prog 69 #[.int .i64 a0] w fun e w' => e = .returned (.int .i64 r) ∧ Drawn0 w w' := by
  have hu37 := Tryd.underlying37
  have hu99 := Tryd.underlying99
  have hu120 := Tryd.underlying120
  have H : ((strandlineref07_Near.f a0).bind fun t173 => ((strandlineref07_Where.f k t173).bind fun bt174 => (strandlineref07_Begin.l0 k t173 bt174.2))) = some r := h
  clear h
  replace H := Option.bind_eq_some_iff.mp H
  obtain ⟨t173, A20, H⟩ := H
  replace H : ((strandlineref07_Where.f k t173).bind fun bt174 => (strandlineref07_Begin.l0 k t173 bt174.2)) = some r := H
  have A2 := Aside0.mk A20
  clear A20
  replace H := Option.bind_eq_some_iff.mp H
  obtain ⟨⟨t174, t175⟩, A30, H⟩ := H
  replace H : (strandlineref07_Begin.l0 k t173 t175) = some r := H
  have A3 := Aside0.mk A30
  clear A30
  have H' := Aside0.mk H
  clear H
  go_enter Tryd.func69, Tryd.ntmps69
  go_wp2_with (first | ((with_reducible refine gate_callee (f := 80) rfl ?_); refine goesL_ (some 6) rfl rfl Tryd.func80 (by kernel_rfl) rfl #[.int .i64 a0] rfl (by (try simp only [List.map_toArray, List.map_cons, List.map_nil]); first | done | rfl | (simp only [List.length_drop, List.length_take]; rfl)) ?_; (with_reducible refine (strandlineref07_Near.calls a0 t173 _ A2.out).mono ?_); rintro e w' ⟨rfl, ⟨nd, rfl⟩⟩; refine ⟨_, rfl, ?_⟩) | ((with_reducible refine gate_callee (f := 81) rfl ?_); refine goesL_ (some 9) rfl rfl Tryd.func81 (by kernel_rfl) rfl #[.int .i64 t173] rfl (by (try simp only [List.map_toArray, List.map_cons, List.map_nil]); first | done | rfl | (simp only [List.length_drop, List.length_take]; rfl)) ?_; (with_reducible refine (strandlineref07_Where.calls k t173 t174 t175 _ A3.out).mono ?_); rintro e w' ⟨rfl, ⟨nd, rfl⟩⟩; refine ⟨_, rfl, ?_⟩))
  go_loopg [0, 4] k (fun kq v0 v4 w' => ∃ (x0_1 : Int) (x4_1 : Int), v0 = .int .i64 x0_1 ∧ v4 = .int .i64 x4_1 ∧ Aside0 (strandlineref07_Begin.l0 kq x0_1 x4_1 = some r) ∧ Aside0 (kq ≤ k) ∧ Drawn0 w w')
  case atStart => exact ⟨(t173), (t175), (by first | rfl | (simp; done) | (simp [*]; done)), (by first | rfl | (simp; done) | (simp [*]; done)), H', ⟨Nat.le_refl _⟩, by repeat (first | exact Drawn0.refl _ | apply Drawn0.step)⟩
  case round =>
    clear H'
    try clear p2
    obtain ⟨x0_1, x4_1, rfl, rfl, HA, HK1, ⟨m1, rfl⟩⟩ := hrel
    cases gk with
    | zero => exact absurd HA.out (by simp [strandlineref07_Begin.l0])
    | succ k1 =>
      have H := HA.out
      clear HA
      simp only [strandlineref07_Begin.l0] at H
      by_cases c4 : x0_1 < 832
      · rw [if_pos c4] at H
        have c4b0 : decide (x0_1 < 832) = true := decide_eq_true c4
        clear c4
        by_cases c5 : x4_1 > 41
        · rw [if_pos c5] at H
          have c5b0 : decide (41 < x4_1) = true := decide_eq_true c5
          clear c5
          by_cases c6 : x4_1 < 52
          · rw [if_pos c6] at H
            have c6b0 : decide (x4_1 < 52) = true := decide_eq_true c6
            clear c6
            have H' := Aside0.mk H
            clear H
            go_wp2
            go_roundg k1
            case measure => have := HK1.out; omega
            case rel => exact ⟨(wrap64 (x0_1 + 1)), (wrap64 (x4_1 + 1)), (by first | rfl | (simp; done) | (simp [*]; done)), (by first | rfl | (simp; done) | (simp [*]; done)), H', ⟨by have := HK1.out; omega⟩, by repeat (first | exact Drawn0.refl _ | apply Drawn0.step)⟩
          · rw [if_neg c6] at H
            have c6b0 : decide (x4_1 < 52) = false := decide_eq_false c6
            clear c6
            obtain rfl := Option.some.inj H
            go_wp2
            go_ret
            exact ⟨by first | rfl | (simp; done) | (simp [*]; done), by repeat (first | exact Drawn0.refl _ | apply Drawn0.step)⟩
        · rw [if_neg c5] at H
          have c5b0 : decide (41 < x4_1) = false := decide_eq_false c5
          clear c5
          obtain rfl := Option.some.inj H
          go_wp2
          go_ret
          exact ⟨by first | rfl | (simp; done) | (simp [*]; done), by repeat (first | exact Drawn0.refl _ | apply Drawn0.step)⟩
      · rw [if_neg c4] at H
        have c4b0 : decide (x0_1 < 832) = false := decide_eq_false c4
        clear c4
        obtain rfl := Option.some.inj H
        go_wp2
        go_ret
        exact ⟨by first | rfl | (simp; done) | (simp [*]; done), by repeat (first | exact Drawn0.refl _ | apply Drawn0.step)⟩

/-! ### strandlineref07_Left: function 78 -/
def strandlineref07_Left.l0 : Nat → Int → Int → Option (Int)
  | 0, _, _ => none
  | k + 1, x0, x3 => if x0 < 832 then (if x3 = 0 then (strandlineref07_Left.l0 k (wrap64 (x0 + 1)) (wrap64 (x3 + 1))) else (if (Int.tmod x0 208) = 0 then (some x3) else (strandlineref07_Left.l0 k (wrap64 (x0 + 1)) (wrap64 (x3 + 1))))) else (some x3)
def strandlineref07_Left.f (k : Nat) (a0 : Int) : Option (Int) := (strandlineref07_Near.f a0).bind fun t176 => (strandlineref07_Left.l0 k t176 0)
theorem strandlineref07_Left.mono_l : ∀ k, (∀ y0 y1, LeO (strandlineref07_Left.l0 k y0 y1) (strandlineref07_Left.l0 (k + 1) y0 y1))
  | 0 => fun _ _ r h => by simp [strandlineref07_Left.l0] at h
  | k + 1 => by
    have ih0 := strandlineref07_Left.mono_l k
    · intro y0 y1
      unfold strandlineref07_Left.l0
      repeat' first
      | (with_reducible exact ih0 _ _)
      | (with_reducible exact LeO.refl _)
      | (with_reducible exact LeO.none _)
      | (with_reducible refine LeO.ite ?_ ?_)
      | (with_reducible refine LeO.bind ?_ (fun _ => ?_))
      | exact ih0 _ _
      | exact LeO.none _
      | refine LeO.ite ?_ ?_
      | refine LeO.bind ?_ (fun _ => ?_)
theorem strandlineref07_Left.mono : ∀ a0 k, LeO (strandlineref07_Left.f k a0) (strandlineref07_Left.f (k + 1) a0) := by
  intro a0 k
  have ih0 := strandlineref07_Left.mono_l k
  unfold strandlineref07_Left.f
  repeat' first
      | (with_reducible exact ih0 _ _)
      | (with_reducible exact LeO.refl _)
      | (with_reducible exact LeO.none _)
      | (with_reducible refine LeO.ite ?_ ?_)
      | (with_reducible refine LeO.bind ?_ (fun _ => ?_))
      | exact ih0 _ _
      | exact LeO.none _
      | refine LeO.ite ?_ ?_
      | refine LeO.bind ?_ (fun _ => ?_)
set_option maxHeartbeats 8000000 in
set_option maxRecDepth 100000 in
theorem strandlineref07_Left.calls (k : Nat) (a0 : Int) (r : Int) (w : World) (h : strandlineref07_Left.f k a0 = some r) :
    Calls Tryd.prog 78 #[.int .i64 a0] w fun e w' => e = .returned (.int .i64 r) ∧ Drawn0 w w' := by
  have hu37 := Tryd.underlying37
  have hu99 := Tryd.underlying99
  have hu120 := Tryd.underlying120
  have H : ((strandlineref07_Near.f a0).bind fun t176 => (strandlineref07_Left.l0 k t176 0)) = some r := h
  clear h
  replace H := Option.bind_eq_some_iff.mp H
  obtain ⟨t176, A20, H⟩ := H
  replace H : (strandlineref07_Left.l0 k t176 0) = some r := H
  have A2 := Aside0.mk A20
  clear A20
  have H' := Aside0.mk H
  clear H
  go_enter Tryd.func78, Tryd.ntmps78
  go_wp2_with (first | ((with_reducible refine gate_callee (f := 80) rfl ?_); refine goesL_ (some 5) rfl rfl Tryd.func80 (by kernel_rfl) rfl #[.int .i64 a0] rfl (by (try simp only [List.map_toArray, List.map_cons, List.map_nil]); first | done | rfl | (simp only [List.length_drop, List.length_take]; rfl)) ?_; (with_reducible refine (strandlineref07_Near.calls a0 t176 _ A2.out).mono ?_); rintro e w' ⟨rfl, ⟨nd, rfl⟩⟩; refine ⟨_, rfl, ?_⟩))
  go_loopg [0, 3] k (fun kq v0 v3 w' => ∃ (x0_1 : Int) (x3_1 : Int), v0 = .int .i64 x0_1 ∧ v3 = .int .i64 x3_1 ∧ Aside0 (strandlineref07_Left.l0 kq x0_1 x3_1 = some r) ∧ Aside0 (kq ≤ k) ∧ Drawn0 w w')
  case atStart => exact ⟨(t176), (0), (by first | rfl | (simp; done) | (simp [*]; done)), (by first | rfl | (simp; done) | (simp [*]; done)), H', ⟨Nat.le_refl _⟩, by repeat (first | exact Drawn0.refl _ | apply Drawn0.step)⟩
  case round =>
    clear H'
    try clear p2
    obtain ⟨x0_1, x3_1, rfl, rfl, HA, HK1, ⟨m1, rfl⟩⟩ := hrel
    cases gk with
    | zero => exact absurd HA.out (by simp [strandlineref07_Left.l0])
    | succ k1 =>
      have H := HA.out
      clear HA
      simp only [strandlineref07_Left.l0] at H
      by_cases c3 : x0_1 < 832
      · rw [if_pos c3] at H
        have c3b0 : decide (x0_1 < 832) = true := decide_eq_true c3
        clear c3
        by_cases c4 : x3_1 = 0
        · rw [if_pos c4] at H
          have c4b0 : (x3_1 == 0) = true := beq_iff_eq.mpr c4
          have c4b1 : (x3_1 != 0) = false := bne_eq_false_iff_eq.mpr c4
          clear c4
          have H' := Aside0.mk H
          clear H
          go_wp2
          go_roundg k1
          case measure => have := HK1.out; omega
          case rel => exact ⟨(wrap64 (x0_1 + 1)), (wrap64 (x3_1 + 1)), (by first | rfl | (simp; done) | (simp [*]; done)), (by first | rfl | (simp; done) | (simp [*]; done)), H', ⟨by have := HK1.out; omega⟩, by repeat (first | exact Drawn0.refl _ | apply Drawn0.step)⟩
        · rw [if_neg c4] at H
          have c4b0 : (x3_1 == 0) = false := beq_eq_false_iff_ne.mpr c4
          have c4b1 : (x3_1 != 0) = true := bne_iff_ne.mpr c4
          by_cases c5 : (Int.tmod x0_1 208) = 0
          · rw [if_pos c5] at H
            have c5b0 : ((Int.tmod x0_1 208) == 0) = true := beq_iff_eq.mpr c5
            have c5b1 : ((Int.tmod x0_1 208) != 0) = false := bne_eq_false_iff_eq.mpr c5
            clear c5
            obtain rfl := Option.some.inj H
            go_wp2
            go_ret
            exact ⟨by first | rfl | (simp; done) | (simp [*]; done), by repeat (first | exact Drawn0.refl _ | apply Drawn0.step)⟩
          · rw [if_neg c5] at H
            have c5b0 : ((Int.tmod x0_1 208) == 0) = false := beq_eq_false_iff_ne.mpr c5
            have c5b1 : ((Int.tmod x0_1 208) != 0) = true := bne_iff_ne.mpr c5
            have H' := Aside0.mk H
            clear H
            go_wp2
            go_roundg k1
            case measure => have := HK1.out; omega
            case rel => exact ⟨(wrap64 (x0_1 + 1)), (wrap64 (x3_1 + 1)), (by first | rfl | (simp; done) | (simp [*]; done)), (by first | rfl | (simp; done) | (simp [*]; done)), H', ⟨by have := HK1.out; omega⟩, by repeat (first | exact Drawn0.refl _ | apply Drawn0.step)⟩
      · rw [if_neg c3] at H
        have c3b0 : decide (x0_1 < 832) = false := decide_eq_false c3
        clear c3
        obtain rfl := Option.some.inj H
        go_wp2
        go_ret
        exact ⟨by first | rfl | (simp; done) | (simp [*]; done), by repeat (first | exact Drawn0.refl _ | apply Drawn0.step)⟩

/-! ### strandlineref07_Touch: function 83 -/
def strandlineref07_Touch.l0 : Nat → Int → Int → Int → Int → Option (Int × Int)
  | 0, _, _, _, _ => none
  | k + 1, x1, x6, x7, x8 => (strandlineref07_Near.f x1).bind fun t207 => (if x8 < t207 then (if x6 < 0 then (strandlineref07_Touch.l0 k x1 (wrap64 (Int.tdiv x8 52)) (wrap64 (Int.tdiv x8 52)) (wrap64 (x8 + 1))) else (strandlineref07_Touch.l0 k x1 x6 (wrap64 (Int.tdiv x8 52)) (wrap64 (x8 + 1)))) else (if x6 < 0 then (some (0, 0)) else (some (x6, wrap64 (x7 + 1)))))
def strandlineref07_Touch.f (k : Nat) (a0 : Int) (a1 : Int) : Option (Int × Int) := (strandlineref07_Near.f a0).bind fun t206 => (strandlineref07_Touch.l0 k a1 (-1) (-1) t206)
theorem strandlineref07_Touch.mono_l : ∀ k, (∀ y0 y1 y2 y3, LeO (strandlineref07_Touch.l0 k y0 y1 y2 y3) (strandlineref07_Touch.l0 (k + 1) y0 y1 y2 y3))
  | 0 => fun _ _ _ _ r h => by simp [strandlineref07_Touch.l0] at h
  | k + 1 => by
    have ih0 := strandlineref07_Touch.mono_l k
    · intro y0 y1 y2 y3
      unfold strandlineref07_Touch.l0
      repeat' first
      | (with_reducible exact ih0 _ _ _ _)
      | (with_reducible exact LeO.refl _)
      | (with_reducible exact LeO.none _)
      | (with_reducible refine LeO.ite ?_ ?_)
      | (with_reducible refine LeO.bind ?_ (fun _ => ?_))
      | exact ih0 _ _ _ _
      | exact LeO.none _
      | refine LeO.ite ?_ ?_
      | refine LeO.bind ?_ (fun _ => ?_)
theorem strandlineref07_Touch.mono : ∀ a0 a1 k, LeO (strandlineref07_Touch.f k a0 a1) (strandlineref07_Touch.f (k + 1) a0 a1) := by
  intro a0 a1 k
  have ih0 := strandlineref07_Touch.mono_l k
  unfold strandlineref07_Touch.f
  repeat' first
      | (with_reducible exact ih0 _ _ _ _)
      | (with_reducible exact LeO.refl _)
      | (with_reducible exact LeO.none _)
      | (with_reducible refine LeO.ite ?_ ?_)
      | (with_reducible refine LeO.bind ?_ (fun _ => ?_))
      | exact ih0 _ _ _ _
      | exact LeO.none _
      | refine LeO.ite ?_ ?_
      | refine LeO.bind ?_ (fun _ => ?_)
set_option maxHeartbeats 8000000 in
set_option maxRecDepth 100000 in
theorem strandlineref07_Touch.calls (k : Nat) (a0 : Int) (a1 : Int) (r1 : Int) (r2 : Int) (w : World) (h : strandlineref07_Touch.f k a0 a1 = some (r1, r2)) :
    Calls Tryd.prog 83 #[.int .i64 a0, .int .i64 a1] w fun e w' => e = .returned (.tuple #[.int .i64 r1, .int .i64 r2]) ∧ Drawn0 w w' := by
  have hu37 := Tryd.underlying37
  have hu99 := Tryd.underlying99
  have hu120 := Tryd.underlying120
  have H : ((strandlineref07_Near.f a0).bind fun t206 => (strandlineref07_Touch.l0 k a1 (-1) (-1) t206)) = some (r1, r2) := h
  clear h
  replace H := Option.bind_eq_some_iff.mp H
  obtain ⟨t206, A30, H⟩ := H
  replace H : (strandlineref07_Touch.l0 k a1 (-1) (-1) t206) = some (r1, r2) := H
  have A3 := Aside0.mk A30
  clear A30
  have H' := Aside0.mk H
  clear H
  go_enter Tryd.func83, Tryd.ntmps83
  go_wp2_with (first | ((with_reducible refine gate_callee (f := 80) rfl ?_); refine goesL_ (some 10) rfl rfl Tryd.func80 (by kernel_rfl) rfl #[.int .i64 a0] rfl (by (try simp only [List.map_toArray, List.map_cons, List.map_nil]); first | done | rfl | (simp only [List.length_drop, List.length_take]; rfl)) ?_; (with_reducible refine (strandlineref07_Near.calls a0 t206 _ A3.out).mono ?_); rintro e w' ⟨rfl, ⟨nd, rfl⟩⟩; refine ⟨_, rfl, ?_⟩))
  go_loopg [6, 7, 8] k (fun kq v6 v7 v8 w' => ∃ (x6_1 : Int) (x7_1 : Int) (x8_1 : Int), v6 = .int .i64 x6_1 ∧ v7 = .int .i64 x7_1 ∧ v8 = .int .i64 x8_1 ∧ Aside0 (strandlineref07_Touch.l0 kq a1 x6_1 x7_1 x8_1 = some (r1, r2)) ∧ Aside0 (kq ≤ k) ∧ Drawn0 w w')
  case atStart => exact ⟨((-1)), ((-1)), (t206), (by first | rfl | (simp; done) | (simp [*]; done)), (by first | rfl | (simp; done) | (simp [*]; done)), (by first | rfl | (simp; done) | (simp [*]; done)), H', ⟨Nat.le_refl _⟩, by repeat (first | exact Drawn0.refl _ | apply Drawn0.step)⟩
  case round =>
    clear H'
    try clear p2
    obtain ⟨x6_1, x7_1, x8_1, rfl, rfl, rfl, HA, HK1, ⟨m1, rfl⟩⟩ := hrel
    cases gk with
    | zero => exact absurd HA.out (by simp [strandlineref07_Touch.l0])
    | succ k1 =>
      have H := HA.out
      clear HA
      simp only [strandlineref07_Touch.l0] at H
      replace H := Option.bind_eq_some_iff.mp H
      obtain ⟨t207, A40, H⟩ := H
      replace H : (if x8_1 < t207 then (if x6_1 < 0 then (strandlineref07_Touch.l0 k1 a1 (wrap64 (Int.tdiv x8_1 52)) (wrap64 (Int.tdiv x8_1 52)) (wrap64 (x8_1 + 1))) else (strandlineref07_Touch.l0 k1 a1 x6_1 (wrap64 (Int.tdiv x8_1 52)) (wrap64 (x8_1 + 1)))) else (if x6_1 < 0 then (some (0, 0)) else (some (x6_1, wrap64 (x7_1 + 1))))) = some (r1, r2) := H
      have A4 := Aside0.mk A40
      clear A40
      by_cases c5 : x8_1 < t207
      · rw [if_pos c5] at H
        have c5b0 : decide (x8_1 < t207) = true := decide_eq_true c5
        clear c5
        by_cases c6 : x6_1 < 0
        · rw [if_pos c6] at H
          have c6b0 : decide (x6_1 < 0) = true := decide_eq_true c6
          clear c6
          have H' := Aside0.mk H
          clear H
          go_wp2_with (first | ((with_reducible refine gate_callee (f := 80) rfl ?_); refine goesL_ (some 13) rfl rfl Tryd.func80 (by kernel_rfl) rfl #[.int .i64 a1] rfl (by (try simp only [List.map_toArray, List.map_cons, List.map_nil]); first | done | rfl | (simp only [List.length_drop, List.length_take]; rfl)) ?_; (with_reducible refine (strandlineref07_Near.calls a1 t207 _ A4.out).mono ?_); rintro e w' ⟨rfl, ⟨nd, rfl⟩⟩; refine ⟨_, rfl, ?_⟩))
          go_roundg k1
          case measure => have := HK1.out; omega
          case rel => exact ⟨(wrap64 (Int.tdiv x8_1 52)), (wrap64 (Int.tdiv x8_1 52)), (wrap64 (x8_1 + 1)), (by first | rfl | (simp; done) | (simp [*]; done)), (by first | rfl | (simp; done) | (simp [*]; done)), (by first | rfl | (simp; done) | (simp [*]; done)), H', ⟨by have := HK1.out; omega⟩, by repeat (first | exact Drawn0.refl _ | apply Drawn0.step)⟩
        · rw [if_neg c6] at H
          have c6b0 : decide (x6_1 < 0) = false := decide_eq_false c6
          clear c6
          have H' := Aside0.mk H
          clear H
          go_wp2_with (first | ((with_reducible refine gate_callee (f := 80) rfl ?_); refine goesL_ (some 13) rfl rfl Tryd.func80 (by kernel_rfl) rfl #[.int .i64 a1] rfl (by (try simp only [List.map_toArray, List.map_cons, List.map_nil]); first | done | rfl | (simp only [List.length_drop, List.length_take]; rfl)) ?_; (with_reducible refine (strandlineref07_Near.calls a1 t207 _ A4.out).mono ?_); rintro e w' ⟨rfl, ⟨nd, rfl⟩⟩; refine ⟨_, rfl, ?_⟩))
          go_roundg k1
          case measure => have := HK1.out; omega
          case rel => exact ⟨(x6_1), (wrap64 (Int.tdiv x8_1 52)), (wrap64 (x8_1 + 1)), (by first | rfl | (simp; done) | (simp [*]; done)), (by first | rfl | (simp; done) | (simp [*]; done)), (by first | rfl | (simp; done) | (simp [*]; done)), H', ⟨by have := HK1.out; omega⟩, by repeat (first | exact Drawn0.refl _ | apply Drawn0.step)⟩
      · rw [if_neg c5] at H
        have c5b0 : decide (x8_1 < t207) = false := decide_eq_false c5
        clear c5
        by_cases c7 : x6_1 < 0
        · rw [if_pos c7] at H
          have c7b0 : decide (x6_1 < 0) = true := decide_eq_true c7
          clear c7
          simp only [Option.some.injEq, Prod.mk.injEq] at H
          obtain ⟨rfl, rfl⟩ := H
          go_wp2_with (first | ((with_reducible refine gate_callee (f := 80) rfl ?_); refine goesL_ (some 13) rfl rfl Tryd.func80 (by kernel_rfl) rfl #[.int .i64 a1] rfl (by (try simp only [List.map_toArray, List.map_cons, List.map_nil]); first | done | rfl | (simp only [List.length_drop, List.length_take]; rfl)) ?_; (with_reducible refine (strandlineref07_Near.calls a1 t207 _ A4.out).mono ?_); rintro e w' ⟨rfl, ⟨nd, rfl⟩⟩; refine ⟨_, rfl, ?_⟩))
          go_ret2
          exact ⟨by first | rfl | (simp; done) | (simp [*]; done), by repeat (first | exact Drawn0.refl _ | apply Drawn0.step)⟩
        · rw [if_neg c7] at H
          have c7b0 : decide (x6_1 < 0) = false := decide_eq_false c7
          clear c7
          simp only [Option.some.injEq, Prod.mk.injEq] at H
          obtain ⟨rfl, rfl⟩ := H
          go_wp2_with (first | ((with_reducible refine gate_callee (f := 80) rfl ?_); refine goesL_ (some 13) rfl rfl Tryd.func80 (by kernel_rfl) rfl #[.int .i64 a1] rfl (by (try simp only [List.map_toArray, List.map_cons, List.map_nil]); first | done | rfl | (simp only [List.length_drop, List.length_take]; rfl)) ?_; (with_reducible refine (strandlineref07_Near.calls a1 t207 _ A4.out).mono ?_); rintro e w' ⟨rfl, ⟨nd, rfl⟩⟩; refine ⟨_, rfl, ?_⟩))
          go_ret2
          exact ⟨by first | rfl | (simp; done) | (simp [*]; done), by repeat (first | exact Drawn0.refl _ | apply Drawn0.step)⟩


end Go.Proofs.YthhbilkmdfdfiaaDoor.F
end
