/- frag.Encode, by what is owned. -/
import Derived.Test.YthhbilkmdfdfiaaDoorFragM
import Derived.Test.YthhbilkmdfdfiaaDoorOwn2
import Derived.Test.YthhbilkmdfdfiaaDoorFkFrag
import Derived.Test.YthhbilkmdfdfiaaDoorFkCrc
import Derived.Test.YthhbilkmdfdfiaaDoorHand
set_option linter.unusedVariables false
set_option linter.unusedSimpArgs false
namespace Go.Proofs.YthhbilkmdfdfiaaDoor.O
open Go.RowKit Go.Proofs.YthhbilkmdfdfiaaDoorW.PrintWords Go.Proofs.YthhbilkmdfdfiaaDoorW.PrintLast Go.Proofs.YthhbilkmdfdfiaaDoorW.PrintMore Go.Proofs.YthhbilkmdfdfiaaDoor.F Go.Proofs.YthhbilkmdfdfiaaDoor.F.Nums Go.Proofs.YthhbilkmdfdfiaaDoor.Plain
theorem put_own {w0 W : World} {F : Nat → Option Obj} {L : List Res} (H : Own w0 F L W) (n : Nat) (hn : n < 18446744073709551616) (wi : Int) (i : Nat) (hw : wi = (i : Int)) (hi : i ≤ 8) :
    Calls Tryd.prog 60 #[.int .u64 (n : Int), .int .i64 wi] W fun e W' => ∃ A c, e = .returned (.slice A i c) ∧ i ≤ c ∧ (Kd.int .u8).C W' A i (putl n i) ∧ Own w0 F L W' := by
  subst hw
  have hc : (cl8 (i : Int)).toNat = i := by unfold cl8; split <;> (try split) <;> omega
  have he := put_eq 9 (by decide) n hn (i : Int)
  rw [hc] at he
  refine (word_Put.calls 9 n (i : Int) _ W he).mono ?_
  rintro e W' ⟨v, rfl, hR, hb⟩
  obtain ⟨A, c, rfl, hl, hC⟩ := Kd.R_reads hR
  rw [putl_len] at hl hC ⊢
  exact ⟨A, c, rfl, hl, hC, H.to hb⟩
theorem right_eq (kind ep : Int) (data : List Int) : frag_right.f kind ep data = some (rightF kind data.length) := by
  unfold frag_right.f rightF
  by_cases h1 : kind ≥ 1
  · by_cases h2 : kind ≤ 4
    · rw [if_pos h1, if_pos h2, decide_eq_true (show 1 ≤ kind from h1), decide_eq_true h2]
      simp only [Bool.true_and, Option.some.injEq]
      rw [decide_eq_decide]
      omega
    · rw [if_pos h1, if_neg h2, decide_eq_false h2]; simp
  · rw [if_neg h1, decide_eq_false (show ¬ 1 ≤ kind from h1)]; simp
theorem right_parts {kind : Int} {n : Nat} (h : rightF kind n = true) : 1 ≤ kind ∧ kind ≤ 4 ∧ n ≤ 197 := by
  unfold rightF at h
  simp at h
  omega
/-- the head, its sum not yet laid -/
def headL (n : Nat) (kind ep : Int) : List Int := zs 4 ++ (putl n 2 ++ (kind :: putl ep.toNat 4))
theorem headL_len (n : Nat) (kind ep : Int) : (headL n kind ep).length = 11 := by simp [headL, putl_len, zs]
theorem head_of (n : Nat) (kind ep : Int) : splice ((splice (zs 11) 4 (putl n 2)).set 6 kind) 7 (putl ep.toNat 4) = headL n kind ep := by
  obtain ⟨a, b, hp⟩ : ∃ a b, putl n 2 = [a, b] := by
    match h : putl n 2, putl_len n 2 with
    | [a, b], _ => exact ⟨a, b, rfl⟩
  obtain ⟨c, d, e, f, hq⟩ : ∃ c d e f, putl ep.toNat 4 = [c, d, e, f] := by
    match h : putl ep.toNat 4, putl_len ep.toNat 4 with
    | [c, d, e, f], _ => exact ⟨c, d, e, f, rfl⟩
  unfold headL
  rw [hp, hq]
  rfl
theorem head_body (kind ep : Int) (data : List Int) : (headL data.length kind ep ++ data).drop 4 = bodyL kind ep data := by
  unfold headL bodyL
  rw [List.append_assoc, List.drop_append_of_le_length (by simp [zs]), List.drop_of_length_le (by simp [zs]), List.nil_append]
  simp
theorem head_enc (kind ep : Int) (data : List Int) : splice (headL data.length kind ep ++ data) 0 (putl (sumN (bodyL kind ep data)) 4) = encL kind ep data := by
  unfold splice encL
  rw [List.take_zero, List.nil_append, putl_len, Nat.zero_add, head_body]
theorem of_own {w0 W : World} {F : Nat → Option Obj} {L : List Res} (H : Own w0 F L W) (hH : Half w0) (A : Option Addr) (n c : Nat) (xs : List Int) (hC : (Kd.int .u8).C W A n xs) (hc : n ≤ c) (hb : Bytes xs) :
    Calls Tryd.prog 16 #[.slice A n c] W fun e W' => e = .returned (.int .u32 (moreI 0 xs)) ∧ Own w0 F L W' := by
  have hn : xs.length = n := hC.1
  subst hn
  refine (of_calls A c xs W hC hc hb (hH.below H.below)).mono ?_
  rintro e W' ⟨rfl, hd⟩
  exact ⟨rfl, H.to hd.below⟩
theorem mask_own {w0 W : World} {F : Nat → Option Obj} {L : List Res} (H : Own w0 F L W) (xs : List Int) :
    Calls Tryd.prog 20 #[.int .u32 (moreI 0 xs)] W fun e W' => e = .returned (.int .u32 (sumN xs : Int)) ∧ Own w0 F L W' := by
  refine (crc_Mask.calls (moreI 0 xs) _ W (crc_sum xs)).mono ?_
  rintro e W' ⟨rfl, hd⟩
  exact ⟨rfl, H.to hd.below⟩
theorem drop_C {w : World} {A : Option Addr} {n : Nat} {xs : List Int} (h : (Kd.int .u8).C w A n xs) (lo c : Nat) (h1 : lo ≤ n) (hc : n ≤ c) : (Kd.int .u8).C w (dropA A lo c 1) (n - lo) (xs.drop lo) := by
  have hl := h.1
  have hm := h.2.1
  have hR := (Rd.of_C h).dropA lo c 1 (fun e => by rw [nums_length]; omega)
  rw [Nat.mul_one, nums_drop] at hR
  exact hR.C (by rw [List.length_drop]; omega) (by omega)
set_option maxRecDepth 100000 in
set_option maxHeartbeats 4000000 in
theorem encode_no (kind ep : Int) (data : List Int) (A : Option Addr) (c : Nat) (w : World) (hC : (Kd.int .u8).C w A data.length data) (hc : data.length ≤ c) (hr : rightF kind data.length = false) :
    Calls Tryd.prog 29 #[.agg #[.int .i64 kind, .int .u32 ep, .slice A data.length c]] w fun e W => e = .returned (.tuple #[.slice none 0 0, .int .i64 13]) ∧ Below w.heap.size w W := by
  have H := Own.start w
  have FR := fun W (hb : Below w.heap.size w W) => frag_right.calls kind ep A c data _ W (Kd.C_below hC hb) hc (right_eq kind ep data)
  rw [hr] at FR
  generalize data.length = n at *
  go_enter Tryd.func29, Tryd.ntmps29
  go_wp2_with (first
    | ((with_reducible refine gate_dst (N := 1) rfl ?_); refine l_boxA rfl H 37 _ rfl _ rfl ?_; clear H; intro g1 W H)
    | ((with_reducible refine gate_dst (N := 6) rfl ?_); refine l_loadA rfl H 37 _ rfl _ rfl (by (repeat (first | exact In.head | apply In.tail))) _ _ Tryd.underlying37 rfl size37 (by (first | rfl | assumption | omega | (simp only [nums_length]; omega) | (simp [nums_length, zs]; done) | (simp [nums_length, zs]; omega))) ?_)
    | (go_at_call 58; (with_reducible refine (FR _ H.below).mono ?_); rintro e W ⟨rfl, hb⟩; replace H := H.to hb; clear hb))
  go_ret2
  exact ⟨rfl, H.below⟩
set_option maxRecDepth 100000 in
set_option maxHeartbeats 4000000 in
theorem encode_ok (kind ep : Int) (data : List Int) (A : Option Addr) (c : Nat) (w : World) (hC : (Kd.int .u8).C w A data.length data) (hc : data.length ≤ c) (hd : Bytes data) (he : 0 ≤ ep ∧ ep ≤ 4294967295) (hH : Half w) (hr : rightF kind data.length = true) :
    Calls Tryd.prog 29 #[.agg #[.int .i64 kind, .int .u32 ep, .slice A data.length c]] w fun e W => ∃ A' c', e = .returned (.tuple #[.slice A' (11 + data.length) c', .int .i64 0]) ∧ 11 + data.length ≤ c' ∧ (Kd.int .u8).C W A' (11 + data.length) (encL kind ep data) ∧ Below w.heap.size w W := by
  have H := Own.start w
  have FR := fun W (hb : Below w.heap.size w W) => frag_right.calls kind ep A c data _ W (Kd.C_below hC hb) hc (right_eq kind ep data)
  rw [hr] at FR
  obtain ⟨k1, k2, k3⟩ := right_parts hr
  obtain ⟨e, rfl⟩ := Int.eq_ofNat_of_zero_le he.1
  have P1 := fun {W : World} {L : List Res} (H : Own w F0 L W) => put_own H data.length (by omega) 2 2 rfl (by decide)
  have P2 := fun {W : World} {L : List Res} (H : Own w F0 L W) => put_own H e (by omega) 4 4 rfl (by decide)
  have hu1 : IntKind.u64.wrap (data.length : Int) = (data.length : Int) := wu64 (by omega) (by omega)
  have hu2 : IntKind.u64.wrap (e : Int) = (e : Int) := wu64 (by omega) (by omega)
  have hu3 : IntKind.u8.wrap kind = kind := by rw [IntKind.wrap_u8]; omega
  have hho := head_of data.length kind (e : Int)
  rw [Int.toNat_natCast] at hho
  generalize hN : data.length = n at *
  go_enter Tryd.func29, Tryd.ntmps29
  go_wp2_with (first
    | ((with_reducible refine gate_dst (N := 1) rfl ?_); refine l_boxA rfl H 37 _ rfl _ rfl ?_; clear H; intro g1 W H)
    | ((with_reducible refine gate_dst (N := 6) rfl ?_); refine l_loadA rfl H 37 _ rfl _ rfl (by (repeat (first | exact In.head | apply In.tail))) _ _ Tryd.underlying37 rfl size37 (by (first | rfl | assumption | omega | (simp only [nums_length]; omega) | (simp [nums_length, zs]; done) | (simp [nums_length, zs]; omega))) ?_)
    | ((with_reducible refine gate_dst (N := 4) rfl ?_); refine l_allocA rfl H 84 rfl _ zero84 ?_; clear H; intro g4 W H)
    | (go_at_call 58; (with_reducible refine (FR _ H.below).mono ?_); rintro e W ⟨rfl, hb⟩; replace H := H.to hb; clear hb))
  refine start_ (n := 7) (S := Own _ _ _) (ds := [6]) #[false, false, false, false, false, false, false] (by kernel_rfl) rfl rfl H.drew (fun hHeld => ?_)
  replace H := H.drew
  generalize World.drew _ = W at H hHeld ⊢
  refine pure_ (i := 0) (N := some 9) (v := ?_) (a' := ?_) #[true, false, false, false, false, false, false] rfl rfl (by kernel_rfl) (fun _ _ _ h => h) (Or.inl ⟨by rfl, ?_⟩) ?_ ?_
  rotate_left
  · intro w'
    go_simp
    with_reducible rfl
  rotate_left
  · simp only [Act.put, List.setIfInBounds_toArray, List.set_cons_zero, List.set_cons_succ, i64_w, i32_w]
    rfl
  refine pure_ (i := 1) (N := some 10) (v := ?_) (a' := ?_) #[true, true, false, false, false, false, false] rfl rfl (by kernel_rfl) (fun _ _ _ h => h) (Or.inl ⟨by rfl, ?_⟩) ?_ ?_
  rotate_left
  · intro w'
    go_simp
    with_reducible rfl
  rotate_left
  · simp only [Act.put, List.setIfInBounds_toArray, List.set_cons_zero, List.set_cons_succ, i64_w, i32_w]
    rfl
  refine one_ (i := 2) (N := some 11) #[true, true, true, false, false, false, false] rfl rfl (by kernel_rfl) (by decide) (fun K hK => ?_)
  refine wanted_ rfl ?_
  refine w_load1 H 23 _ rfl _ _ rfl (by (repeat (first | exact In.head | apply In.tail))) _ Tryd.underlying23 rfl _ (by first | rfl | assumption | exact nums_at _ (by omega)) ?_
  refine hK.out _ _ ?_ (fun hHeld => ?_)
  · first | trivial | exact H | exact H.del .head | exact (H.del .head).del .head
  clear hK K
  refine norm_ (a' := ?_) ?_ ?_
  rotate_left
  · show Act.put _ (some 11) _ = _
    simp only [Act.put, List.setIfInBounds_toArray, List.set_cons_zero, List.set_cons_succ, i64_w, i32_w]
    rfl
  refine pure_ (i := 3) (N := some 12) (v := ?_) (a' := ?_) #[true, true, true, true, false, false, false] rfl rfl (by kernel_rfl) (fun _ _ _ h => h) (Or.inl ⟨by rfl, ?_⟩) ?_ ?_
  rotate_left
  · intro w'
    go_simp
    with_reducible rfl
  rotate_left
  · simp only [Act.put, List.setIfInBounds_toArray, List.set_cons_zero, List.set_cons_succ, i64_w, i32_w]
    rfl
  refine pure_ (i := 4) (N := some 13) (v := ?_) (a' := ?_) #[true, true, true, true, true, false, false] rfl rfl (by kernel_rfl) (fun _ _ _ h => h) (Or.inl ⟨by rfl, ?_⟩) ?_ ?_
  rotate_left
  · intro w'
    go_simp
    with_reducible rfl
  rotate_left
  · simp only [Act.put, List.setIfInBounds_toArray, List.set_cons_zero, List.set_cons_succ, i64_w, i32_w]
    rfl
  refine one_ (i := 5) (N := some 14) #[true, true, true, true, true, true, false] rfl rfl (by kernel_rfl) (by decide) (fun K hK => ?_)
  refine callK_ (P1 H) Tryd.func60 (by kernel_rfl) rfl (by rfl) rfl rfl (by (try simp only [List.map_toArray, List.map_cons, List.map_nil]); first | done | rfl) ?_
  rintro e W ⟨A14, c14, rfl, h14, C14, H'⟩
  refine ⟨_, rfl, ?_⟩
  replace H := H'
  clear H'
  refine hK.out _ _ ?_ (fun hHeld => ?_)
  · first | trivial | exact H | exact H.del .head | exact (H.del .head).del .head
  clear hK K
  refine norm_ (a' := ?_) ?_ ?_
  rotate_left
  · show Act.put _ (some 14) _ = _
    simp only [Act.put, List.setIfInBounds_toArray, List.set_cons_zero, List.set_cons_succ, i64_w, i32_w]
    rfl
  refine last_ (i := 6) (N := some 15) #[true, true, true, true, true, true, true] rfl rfl (by kernel_rfl) (by decide) (fun K hK => ?_)
  refine wanted_ rfl ?_
  refine w_copyC H _ _ _ _ rfl 5 Tryd.underlying23 size5 _ _ _ _ rfl (by (repeat (first | exact In.head | apply In.tail))) _ _ _ rfl ((putl n 2)) ?_ (by (first | rfl | assumption | omega | (simp only [nums_length]; omega) | (simp [nums_length, zs]; done) | (simp [nums_length, zs]; omega))) ?_
  · exact C14
  clear H; intro W H
  refine hK.out _ _ ?_
  clear hK K
  refine norm_ (a' := ?_) ?_ ?_
  rotate_left
  · show Act.put _ (some 15) _ = _
    simp only [Act.put, List.setIfInBounds_toArray, List.set_cons_zero, List.set_cons_succ, i64_w, i32_w]
    rfl
  refine done_ (by kernel_rfl) ?_
  clear hHeld
  rw [show (putl n 2).take (min 2 2) = putl n 2 from List.take_of_length_le (by rw [putl_len]; decide)] at H
  have hsl : (splice (zs 11) 4 (putl n 2)).length = 11 := by
    unfold splice zs
    simp [putl_len]
  generalize splice (zs 11) 4 (putl n 2) = h1 at H hsl hho
  go_wp2_with (first
    | ((with_reducible refine gate_dst (N := 17) rfl ?_); refine l_load1 rfl H 3 _ rfl _ _ rfl (by (repeat (first | exact In.head | apply In.tail))) _ Tryd.underlying3 rfl _ (by first | rfl | assumption | exact nums_at _ (by omega)) ?_)
    | ((with_reducible refine gate_store (t := 5) (p := 19) rfl ?_); refine l_store1 rfl H 5 _ _ rfl _ _ rfl _ (by first | (go_simp; done) | (go_simp; with_reducible rfl)) (by (repeat (first | exact In.head | apply In.tail))) rfl rfl size5 (by (first | rfl | assumption | omega | (simp only [nums_length]; omega) | (simp [nums_length, zs]; done) | (simp [nums_length, zs]; omega))) ?_; clear H; intro W H))
  rw [nums_set] at H
  have hsl2 : (h1.set 6 kind).length = 11 := by rw [List.length_set, hsl]
  generalize h1.set 6 kind = h2 at H hsl2 hho
  refine start_ (n := 6) (S := Own _ _ _) (ds := [5]) #[false, false, false, false, false, false] (by kernel_rfl) rfl rfl H.drew (fun hHeld => ?_)
  replace H := H.drew
  generalize World.drew _ = W at H hHeld ⊢
  refine pure_ (i := 0) (N := some 20) (v := ?_) (a' := ?_) #[true, false, false, false, false, false] rfl rfl (by kernel_rfl) (fun _ _ _ h => h) (Or.inl ⟨by rfl, ?_⟩) ?_ ?_
  rotate_left
  · intro w'
    go_simp
    with_reducible rfl
  rotate_left
  · simp only [Act.put, List.setIfInBounds_toArray, List.set_cons_zero, List.set_cons_succ, i64_w, i32_w]
    rfl
  refine pure_ (i := 1) (N := some 21) (v := ?_) (a' := ?_) #[true, true, false, false, false, false] rfl rfl (by kernel_rfl) (fun _ _ _ h => h) (Or.inl ⟨by rfl, ?_⟩) ?_ ?_
  rotate_left
  · intro w'
    go_simp
    with_reducible rfl
  rotate_left
  · simp only [Act.put, List.setIfInBounds_toArray, List.set_cons_zero, List.set_cons_succ, i64_w, i32_w]
    rfl
  refine one_ (i := 2) (N := some 22) #[true, true, true, false, false, false] rfl rfl (by kernel_rfl) (by decide) (fun K hK => ?_)
  refine wanted_ rfl ?_
  refine w_load1 H 22 _ rfl _ _ rfl (by (repeat (first | exact In.head | apply In.tail))) _ Tryd.underlying22 rfl _ (by first | rfl | assumption | exact nums_at _ (by omega)) ?_
  refine hK.out _ _ ?_ (fun hHeld => ?_)
  · first | trivial | exact H | exact H.del .head | exact (H.del .head).del .head
  clear hK K
  refine norm_ (a' := ?_) ?_ ?_
  rotate_left
  · show Act.put _ (some 22) _ = _
    simp only [Act.put, List.setIfInBounds_toArray, List.set_cons_zero, List.set_cons_succ, i64_w, i32_w]
    rfl
  refine pure_ (i := 3) (N := some 23) (v := ?_) (a' := ?_) #[true, true, true, true, false, false] rfl rfl (by kernel_rfl) (fun _ _ _ h => h) (Or.inl ⟨by rfl, ?_⟩) ?_ ?_
  rotate_left
  · intro w'
    go_simp
    with_reducible rfl
  rotate_left
  · simp only [Act.put, List.setIfInBounds_toArray, List.set_cons_zero, List.set_cons_succ, i64_w, i32_w]
    rfl
  refine one_ (i := 4) (N := some 24) #[true, true, true, true, true, false] rfl rfl (by kernel_rfl) (by decide) (fun K hK => ?_)
  refine callK_ (P2 H) Tryd.func60 (by kernel_rfl) rfl (by rfl) rfl rfl (by (try simp only [List.map_toArray, List.map_cons, List.map_nil]); first | done | rfl) ?_
  rintro e W ⟨A24, c24, rfl, h24, C24, H'⟩
  refine ⟨_, rfl, ?_⟩
  replace H := H'
  clear H'
  refine hK.out _ _ ?_ (fun hHeld => ?_)
  · first | trivial | exact H | exact H.del .head | exact (H.del .head).del .head
  clear hK K
  refine norm_ (a' := ?_) ?_ ?_
  rotate_left
  · show Act.put _ (some 24) _ = _
    simp only [Act.put, List.setIfInBounds_toArray, List.set_cons_zero, List.set_cons_succ, i64_w, i32_w]
    rfl
  refine last_ (i := 5) (N := some 25) #[true, true, true, true, true, true] rfl rfl (by kernel_rfl) (by decide) (fun K hK => ?_)
  refine wanted_ rfl ?_
  refine w_copyC H _ _ _ _ rfl 5 Tryd.underlying23 size5 _ _ _ _ rfl (by (repeat (first | exact In.head | apply In.tail))) _ _ _ rfl ((putl e 4)) ?_ (by (first | rfl | assumption | omega | (simp only [nums_length]; omega) | (simp [nums_length, zs]; done) | (simp [nums_length, zs]; omega))) ?_
  · exact C24
  clear H; intro W H
  refine hK.out _ _ ?_
  clear hK K
  refine norm_ (a' := ?_) ?_ ?_
  rotate_left
  · show Act.put _ (some 25) _ = _
    simp only [Act.put, List.setIfInBounds_toArray, List.set_cons_zero, List.set_cons_succ, i64_w, i32_w]
    rfl
  refine done_ (by kernel_rfl) ?_
  clear hHeld
  rw [show (putl e 4).take (min 4 4) = putl e 4 from List.take_of_length_le (by rw [putl_len]; decide), hho] at H
  have hbb : Bytes (bodyL kind (e : Int) data) := bodyL_bytes (by omega) hd
  have hhb := head_body kind (e : Int) data
  have hhe := head_enc kind (e : Int) data
  have hel := encL_len kind (e : Int) data
  have hhl := headL_len n kind (e : Int)
  have hs4 : sumN (bodyL kind (e : Int) data) < 18446744073709551616 := by have := sumN_lt (bodyL kind (e : Int) data); omega
  have OF := fun {W : World} {L : List Res} (H : Own w F0 L W) A n c hC hc => of_own H hH A n c (bodyL kind (e : Int) data) hC hc hbb
  have MF := fun {W : World} {L : List Res} (H : Own w F0 L W) => mask_own H (bodyL kind (e : Int) data)
  have PF := fun {W : World} {L : List Res} (H : Own w F0 L W) => put_own H (sumN (bodyL kind (e : Int) data)) hs4 4 4 rfl (by decide)
  have hu4 : IntKind.u64.wrap (sumN (bodyL kind (e : Int) data) : Int) = (sumN (bodyL kind (e : Int) data) : Int) := wu64 (by omega) (by omega)
  rw [hN] at hhb hhe hel
  generalize bodyL kind (e : Int) data = BL at *
  generalize hEL : encL kind (e : Int) data = EL at *
  generalize headL n kind (e : Int) = HL at *
  have hmo := moreI_lo BL
  generalize moreI 0 BL = mo at OF MF hmo
  generalize sumN BL = sm at *
  clear hho P1 P2 FR hbb
  rcases Nat.eq_zero_or_pos n with h0 | h0
  · subst h0
    obtain rfl : data = [] := List.eq_nil_of_length_eq_zero hN
    rw [List.append_nil] at hhb hhe
    go_wp2
    refine start_ (n := 5) (S := Own _ _ _) (ds := []) #[false, false, false, false, false] (by kernel_rfl) rfl rfl H.drew (fun hHeld => ?_)
    replace H := H.drew
    generalize World.drew _ = W at H hHeld ⊢
    refine pure_ (i := 0) (N := some 26) (v := ?_) (a' := ?_) #[true, false, false, false, false] rfl rfl (by kernel_rfl) (fun _ _ _ h => h) (Or.inl ⟨by rfl, ?_⟩) ?_ ?_
    rotate_left
    · intro w'
      go_simp
      with_reducible rfl
    rotate_left
    · simp only [Act.put, List.setIfInBounds_toArray, List.set_cons_zero, List.set_cons_succ, i64_w, i32_w]
      rfl
    refine pure_ (i := 1) (N := some 27) (v := ?_) (a' := ?_) #[true, true, false, false, false] rfl rfl (by kernel_rfl) (fun _ _ _ h => h) (Or.inl ⟨by rfl, ?_⟩) ?_ ?_
    rotate_left
    · intro w'
      go_simp
      with_reducible rfl
    rotate_left
    · simp only [Act.put, List.setIfInBounds_toArray, List.set_cons_zero, List.set_cons_succ, i64_w, i32_w]
      rfl
    refine one_ (i := 2) (N := some 28) #[true, true, true, false, false] rfl rfl (by kernel_rfl) (by decide) (fun K hK => ?_)
    refine wanted_ rfl ?_
    refine w_load1 H 23 _ rfl _ _ rfl (by (repeat (first | exact In.head | apply In.tail))) _ Tryd.underlying23 rfl _ (by first | rfl | assumption | exact nums_at _ (by omega)) ?_
    refine hK.out _ _ ?_ (fun hHeld => ?_)
    · first | trivial | exact H | exact H.del .head | exact (H.del .head).del .head
    clear hK K
    refine norm_ (a' := ?_) ?_ ?_
    rotate_left
    · show Act.put _ (some 28) _ = _
      simp only [Act.put, List.setIfInBounds_toArray, List.set_cons_zero, List.set_cons_succ, i64_w, i32_w]
      rfl
    refine one_ (i := 3) (N := some 29) #[true, true, true, true, false] rfl rfl (by kernel_rfl) (by decide) (fun K hK => ?_)
    refine wanted_ rfl ?_
    refine w_append0 _ _ 23 5 rfl Tryd.underlying23 (by kernel_rfl) ⟨g4, 0, none⟩ 11 11 (Nat.le_refl _) rfl A c rfl ?_
    refine hK.out _ _ ?_ (fun hHeld => ?_)
    · first | trivial | exact H | exact H.del .head | exact (H.del .head).del .head
    clear hK K
    refine norm_ (a' := ?_) ?_ ?_
    rotate_left
    · show Act.put _ (some 29) _ = _
      simp only [Act.put, List.setIfInBounds_toArray, List.set_cons_zero, List.set_cons_succ, i64_w, i32_w]
      rfl
    refine pure_ (i := 4) (N := some 5) (v := ?_) (a' := ?_) #[true, true, true, true, true] rfl rfl (by kernel_rfl) (fun _ _ _ h => h) (Or.inl ⟨by rfl, ?_⟩) ?_ ?_
    rotate_left
    · intro w'
      go_simp
      with_reducible rfl
    rotate_left
    · simp only [Act.put, List.setIfInBounds_toArray, List.set_cons_zero, List.set_cons_succ, i64_w, i32_w]
      rfl
    refine done_ (by kernel_rfl) ?_
    clear hHeld
    go_wp2
    have C4 : ∀ {W : World}, Own w F0 [.blk g4 84 (nums .u8 HL), .blk g1 37 [.int .i64 kind, .int .u32 (e : Int), .slice A 0 c]] W → (Kd.int .u8).C W (some ⟨g4, 4, none⟩) 7 BL := fun H => by
      have := H.C .head 4 7 (by omega) (by decide)
      rw [hhb, List.take_of_length_le (by rw [← hhb, List.length_drop]; omega)] at this
      exact this
    refine start_ (n := 9) (S := Own _ _ _) (ds := [8]) #[false, false, false, false, false, false, false, false, false] (by kernel_rfl) rfl rfl H.drew (fun hHeld => ?_)
    replace H := H.drew
    generalize World.drew _ = W at H hHeld ⊢
    refine pure_ (i := 0) (N := some 30) (v := ?_) (a' := ?_) #[true, false, false, false, false, false, false, false, false] rfl rfl (by kernel_rfl) (fun _ _ _ h => h) (Or.inl ⟨by rfl, ?_⟩) ?_ ?_
    rotate_left
    · intro w'
      go_simp
      with_reducible rfl
    rotate_left
    · simp only [Act.put, List.setIfInBounds_toArray, List.set_cons_zero, List.set_cons_succ, i64_w, i32_w]
      rfl
    refine pure_ (i := 1) (N := some 31) (v := ?_) (a' := ?_) #[true, true, false, false, false, false, false, false, false] rfl rfl (by kernel_rfl) (fun _ _ _ h => h) (Or.inl ⟨by rfl, ?_⟩) ?_ ?_
    rotate_left
    · intro w'
      go_simp
      with_reducible rfl
    rotate_left
    · simp only [Act.put, List.setIfInBounds_toArray, List.set_cons_zero, List.set_cons_succ, i64_w, i32_w]
      rfl
    refine pure_ (i := 2) (N := some 32) (v := ?_) (a' := ?_) #[true, true, true, false, false, false, false, false, false] rfl rfl (by kernel_rfl) (fun _ _ _ h => h) (Or.inl ⟨by rfl, ?_⟩) ?_ ?_
    rotate_left
    · intro w'
      go_simp
      with_reducible rfl
    rotate_left
    · simp only [Act.put, List.setIfInBounds_toArray, List.set_cons_zero, List.set_cons_succ, i64_w, i32_w]
      rfl
    refine pure_ (i := 3) (N := some 33) (v := ?_) (a' := ?_) #[true, true, true, true, false, false, false, false, false] rfl rfl (by kernel_rfl) (fun _ _ _ h => h) (Or.inl ⟨by rfl, ?_⟩) ?_ ?_
    rotate_left
    · intro w'
      go_simp
      with_reducible rfl
    rotate_left
    · simp only [Act.put, List.setIfInBounds_toArray, List.set_cons_zero, List.set_cons_succ, i64_w, i32_w]
      rfl
    refine one_ (i := 4) (N := some 34) #[true, true, true, true, true, false, false, false, false] rfl rfl (by kernel_rfl) (by decide) (fun K hK => ?_)
    refine callK_ (OF H (some ⟨g4, 4, none⟩) 7 7 (C4 H) (by decide)) Tryd.func16 (by kernel_rfl) rfl (by rfl) rfl rfl (by (try simp only [List.map_toArray, List.map_cons, List.map_nil]); first | done | rfl) ?_
    rintro e W ⟨rfl, H'⟩
    refine ⟨_, rfl, ?_⟩
    replace H := H'
    clear H'
    refine hK.out _ _ ?_ (fun hHeld => ?_)
    · first | trivial | exact H | exact H.del .head | exact (H.del .head).del .head
    clear hK K
    refine norm_ (a' := ?_) ?_ ?_
    rotate_left
    · show Act.put _ (some 34) _ = _
      simp only [Act.put, List.setIfInBounds_toArray, List.set_cons_zero, List.set_cons_succ, i64_w, i32_w]
      rfl
    refine one_ (i := 5) (N := some 35) #[true, true, true, true, true, true, false, false, false] rfl rfl (by kernel_rfl) (by decide) (fun K hK => ?_)
    refine callK_ (MF H) Tryd.func20 (by kernel_rfl) rfl (by rfl) rfl rfl (by (try simp only [List.map_toArray, List.map_cons, List.map_nil]); first | done | rfl) ?_
    rintro e W ⟨rfl, H'⟩
    refine ⟨_, rfl, ?_⟩
    replace H := H'
    clear H'
    refine hK.out _ _ ?_ (fun hHeld => ?_)
    · first | trivial | exact H | exact H.del .head | exact (H.del .head).del .head
    clear hK K
    refine norm_ (a' := ?_) ?_ ?_
    rotate_left
    · show Act.put _ (some 35) _ = _
      simp only [Act.put, List.setIfInBounds_toArray, List.set_cons_zero, List.set_cons_succ, i64_w, i32_w]
      rfl
    refine pure_ (i := 6) (N := some 36) (v := ?_) (a' := ?_) #[true, true, true, true, true, true, true, false, false] rfl rfl (by kernel_rfl) (fun _ _ _ h => h) (Or.inl ⟨by rfl, ?_⟩) ?_ ?_
    rotate_left
    · intro w'
      go_simp
      with_reducible rfl
    rotate_left
    · simp only [Act.put, List.setIfInBounds_toArray, List.set_cons_zero, List.set_cons_succ, i64_w, i32_w]
      rfl
    refine one_ (i := 7) (N := some 37) #[true, true, true, true, true, true, true, true, false] rfl rfl (by kernel_rfl) (by decide) (fun K hK => ?_)
    refine callK_ (PF H) Tryd.func60 (by kernel_rfl) rfl (by rfl) rfl rfl (by (try simp only [List.map_toArray, List.map_cons, List.map_nil]); first | done | rfl) ?_
    rintro e W ⟨A37, c37, rfl, h37, C37, H'⟩
    refine ⟨_, rfl, ?_⟩
    replace H := H'
    clear H'
    refine hK.out _ _ ?_ (fun hHeld => ?_)
    · first | trivial | exact H | exact H.del .head | exact (H.del .head).del .head
    clear hK K
    refine norm_ (a' := ?_) ?_ ?_
    rotate_left
    · show Act.put _ (some 37) _ = _
      simp only [Act.put, List.setIfInBounds_toArray, List.set_cons_zero, List.set_cons_succ, i64_w, i32_w]
      rfl
    refine last_ (i := 8) (N := some 38) #[true, true, true, true, true, true, true, true, true] rfl rfl (by kernel_rfl) (by decide) (fun K hK => ?_)
    refine wanted_ rfl ?_
    refine w_copyC H _ _ _ _ rfl 5 Tryd.underlying23 size5 _ _ _ _ rfl (by (repeat (first | exact In.head | apply In.tail))) _ _ _ rfl ((putl sm 4)) ?_ (by (first | rfl | assumption | omega | (simp only [nums_length]; omega) | (simp [nums_length, zs]; done) | (simp [nums_length, zs]; omega))) ?_
    · exact C37
    clear H; intro W H
    refine hK.out _ _ ?_
    clear hK K
    refine norm_ (a' := ?_) ?_ ?_
    rotate_left
    · show Act.put _ (some 38) _ = _
      simp only [Act.put, List.setIfInBounds_toArray, List.set_cons_zero, List.set_cons_succ, i64_w, i32_w]
      rfl
    refine done_ (by kernel_rfl) ?_
    clear hHeld
    rw [show (putl sm 4).take (min 4 4) = putl sm 4 from List.take_of_length_le (by rw [putl_len]; decide), hhe] at H
    go_wp2
    go_ret2
    refine ⟨_, _, rfl, by omega, ?_, H.below⟩
    have := H.C .head 0 11 (by omega) (by decide)
    rw [List.drop_zero, List.take_of_length_le (by omega)] at this
    rw [hEL]
    exact this
  · go_wp2
    refine start_ (n := 5) (S := Own _ _ _) (ds := []) #[false, false, false, false, false] (by kernel_rfl) rfl rfl H.drew (fun hHeld => ?_)
    replace H := H.drew
    generalize World.drew _ = W at H hHeld ⊢
    refine pure_ (i := 0) (N := some 26) (v := ?_) (a' := ?_) #[true, false, false, false, false] rfl rfl (by kernel_rfl) (fun _ _ _ h => h) (Or.inl ⟨by rfl, ?_⟩) ?_ ?_
    rotate_left
    · intro w'
      go_simp
      with_reducible rfl
    rotate_left
    · simp only [Act.put, List.setIfInBounds_toArray, List.set_cons_zero, List.set_cons_succ, i64_w, i32_w]
      rfl
    refine pure_ (i := 1) (N := some 27) (v := ?_) (a' := ?_) #[true, true, false, false, false] rfl rfl (by kernel_rfl) (fun _ _ _ h => h) (Or.inl ⟨by rfl, ?_⟩) ?_ ?_
    rotate_left
    · intro w'
      go_simp
      with_reducible rfl
    rotate_left
    · simp only [Act.put, List.setIfInBounds_toArray, List.set_cons_zero, List.set_cons_succ, i64_w, i32_w]
      rfl
    refine one_ (i := 2) (N := some 28) #[true, true, true, false, false] rfl rfl (by kernel_rfl) (by decide) (fun K hK => ?_)
    refine wanted_ rfl ?_
    refine w_load1 H 23 _ rfl _ _ rfl (by (repeat (first | exact In.head | apply In.tail))) _ Tryd.underlying23 rfl _ (by first | rfl | assumption | exact nums_at _ (by omega)) ?_
    refine hK.out _ _ ?_ (fun hHeld => ?_)
    · first | trivial | exact H | exact H.del .head | exact (H.del .head).del .head
    clear hK K
    refine norm_ (a' := ?_) ?_ ?_
    rotate_left
    · show Act.put _ (some 28) _ = _
      simp only [Act.put, List.setIfInBounds_toArray, List.set_cons_zero, List.set_cons_succ, i64_w, i32_w]
      rfl
    refine one_ (i := 3) (N := some 29) #[true, true, true, true, false] rfl rfl (by kernel_rfl) (by decide) (fun K hK => ?_)
    refine wanted_ rfl ?_
    refine w_appendFull H _ _ 23 5 rfl Tryd.underlying23 _ _ _ inf5 rfl (by decide) (by decide) ⟨g4, 0, none⟩ 11 (nums .u8 HL) rfl (by rw [nums_length, hhl]) (fun j u hj => by rw [addr_add, H.cell .head, Nat.zero_add]; exact hj) A n c (nums .u8 data) rfl h0 (by rw [nums_length, hN, Nat.mul_one]) (Rd.of_C (Kd.C_below hC H.below)) (by omega) ?_
    clear H
    intro v29 W H
    obtain ⟨A29, c29, rfl⟩ := H.row_slice .head
    rw [nums_app] at H
    refine hK.out _ _ ?_ (fun hHeld => ?_)
    · first | trivial | exact H | exact H.del .head | exact (H.del .head).del .head
    clear hK K
    refine norm_ (a' := ?_) ?_ ?_
    rotate_left
    · show Act.put _ (some 29) _ = _
      simp only [Act.put, List.setIfInBounds_toArray, List.set_cons_zero, List.set_cons_succ, i64_w, i32_w]
      rfl
    refine pure_ (i := 4) (N := some 5) (v := ?_) (a' := ?_) #[true, true, true, true, true] rfl rfl (by kernel_rfl) (fun _ _ _ h => h) (Or.inl ⟨by rfl, ?_⟩) ?_ ?_
    rotate_left
    · intro w'
      go_simp
      with_reducible rfl
    rotate_left
    · simp only [Act.put, List.setIfInBounds_toArray, List.set_cons_zero, List.set_cons_succ, i64_w, i32_w]
      rfl
    refine done_ (by kernel_rfl) ?_
    clear hHeld
    go_wp2
    have hnc := (H.rowC .head).1
    have C4 : ∀ {W : World}, Own w F0 [.row (.slice A29 (11 + n) c29) 5 1 (11 + n) (nums .u8 (HL ++ data)), .blk g4 84 (nums .u8 HL), .blk g1 37 [.int .i64 kind, .int .u32 (e : Int), .slice A n c]] W → (Kd.int .u8).C W (dropA A29 4 c29 1) (11 + n - 4) BL := fun H => by
      have := drop_C (H.rowC .head).2.2 4 c29 (by omega) hnc
      rw [hhb] at this
      exact this
    refine start_ (n := 9) (S := Own _ _ _) (ds := [8]) #[false, false, false, false, false, false, false, false, false] (by kernel_rfl) rfl rfl H.drew (fun hHeld => ?_)
    replace H := H.drew
    generalize World.drew _ = W at H hHeld ⊢
    refine pure_ (i := 0) (N := some 30) (v := ?_) (a' := ?_) #[true, false, false, false, false, false, false, false, false] rfl rfl (by kernel_rfl) (fun _ _ _ h => h) (Or.inl ⟨by rfl, ?_⟩) ?_ ?_
    rotate_left
    · intro w'
      go_simp
      with_reducible rfl
    rotate_left
    · simp only [Act.put, List.setIfInBounds_toArray, List.set_cons_zero, List.set_cons_succ, i64_w, i32_w]
      rfl
    refine take_run (i := 1) (N := some 31) (a' := ?_) #[true, true, false, false, false, false, false, false, false] rfl rfl (by kernel_rfl) (fun _ _ _ _ h => h) (by rfl) hHeld (.slice A29 4 c29) (fun X HX => x_slice_to _ _ rfl rfl Tryd.underlying23 size5 4 rfl (by omega) X) ?_ ?_
    rotate_left
    · simp only [Act.put, List.setIfInBounds_toArray, List.set_cons_zero, List.set_cons_succ, i64_w, i32_w]
      rfl
    refine pure_ (i := 2) (N := some 32) (v := ?_) (a' := ?_) #[true, true, true, false, false, false, false, false, false] rfl rfl (by kernel_rfl) (fun _ _ _ h => h) (Or.inl ⟨by rfl, ?_⟩) ?_ ?_
    rotate_left
    · intro w'
      go_simp
      with_reducible rfl
    rotate_left
    · simp only [Act.put, List.setIfInBounds_toArray, List.set_cons_zero, List.set_cons_succ, i64_w, i32_w]
      rfl
    refine take_run (i := 3) (N := some 33) (a' := ?_) #[true, true, true, true, false, false, false, false, false] rfl rfl (by kernel_rfl) (fun _ _ _ _ h => h) (by rfl) hHeld (.slice (dropA A29 4 c29 1) (11 + n - 4) (c29 - 4)) (fun X HX => x_slice_lo _ _ rfl rfl Tryd.underlying23 size5 4 rfl (by omega) X) ?_ ?_
    rotate_left
    · simp only [Act.put, List.setIfInBounds_toArray, List.set_cons_zero, List.set_cons_succ, i64_w, i32_w]
      rfl
    refine one_ (i := 4) (N := some 34) #[true, true, true, true, true, false, false, false, false] rfl rfl (by kernel_rfl) (by decide) (fun K hK => ?_)
    refine callK_ (OF H (dropA A29 4 c29 1) (11 + n - 4) (c29 - 4) (C4 H) (by omega)) Tryd.func16 (by kernel_rfl) rfl (by rfl) rfl rfl (by (try simp only [List.map_toArray, List.map_cons, List.map_nil]); first | done | rfl) ?_
    rintro e W ⟨rfl, H'⟩
    refine ⟨_, rfl, ?_⟩
    replace H := H'
    clear H'
    refine hK.out _ _ ?_ (fun hHeld => ?_)
    · first | trivial | exact H | exact H.del .head | exact (H.del .head).del .head
    clear hK K
    refine norm_ (a' := ?_) ?_ ?_
    rotate_left
    · show Act.put _ (some 34) _ = _
      simp only [Act.put, List.setIfInBounds_toArray, List.set_cons_zero, List.set_cons_succ, i64_w, i32_w]
      rfl
    refine one_ (i := 5) (N := some 35) #[true, true, true, true, true, true, false, false, false] rfl rfl (by kernel_rfl) (by decide) (fun K hK => ?_)
    refine callK_ (MF H) Tryd.func20 (by kernel_rfl) rfl (by rfl) rfl rfl (by (try simp only [List.map_toArray, List.map_cons, List.map_nil]); first | done | rfl) ?_
    rintro e W ⟨rfl, H'⟩
    refine ⟨_, rfl, ?_⟩
    replace H := H'
    clear H'
    refine hK.out _ _ ?_ (fun hHeld => ?_)
    · first | trivial | exact H | exact H.del .head | exact (H.del .head).del .head
    clear hK K
    refine norm_ (a' := ?_) ?_ ?_
    rotate_left
    · show Act.put _ (some 35) _ = _
      simp only [Act.put, List.setIfInBounds_toArray, List.set_cons_zero, List.set_cons_succ, i64_w, i32_w]
      rfl
    refine pure_ (i := 6) (N := some 36) (v := ?_) (a' := ?_) #[true, true, true, true, true, true, true, false, false] rfl rfl (by kernel_rfl) (fun _ _ _ h => h) (Or.inl ⟨by rfl, ?_⟩) ?_ ?_
    rotate_left
    · intro w'
      go_simp
      with_reducible rfl
    rotate_left
    · simp only [Act.put, List.setIfInBounds_toArray, List.set_cons_zero, List.set_cons_succ, i64_w, i32_w]
      rfl
    refine one_ (i := 7) (N := some 37) #[true, true, true, true, true, true, true, true, false] rfl rfl (by kernel_rfl) (by decide) (fun K hK => ?_)
    refine callK_ (PF H) Tryd.func60 (by kernel_rfl) rfl (by rfl) rfl rfl (by (try simp only [List.map_toArray, List.map_cons, List.map_nil]); first | done | rfl) ?_
    rintro e W ⟨A37, c37, rfl, h37, C37, H'⟩
    refine ⟨_, rfl, ?_⟩
    replace H := H'
    clear H'
    refine hK.out _ _ ?_ (fun hHeld => ?_)
    · first | trivial | exact H | exact H.del .head | exact (H.del .head).del .head
    clear hK K
    refine norm_ (a' := ?_) ?_ ?_
    rotate_left
    · show Act.put _ (some 37) _ = _
      simp only [Act.put, List.setIfInBounds_toArray, List.set_cons_zero, List.set_cons_succ, i64_w, i32_w]
      rfl
    refine last_ (i := 8) (N := some 38) #[true, true, true, true, true, true, true, true, true] rfl rfl (by kernel_rfl) (by decide) (fun K hK => ?_)
    refine wanted_ rfl ?_
    refine w_copyRow H _ _ _ _ rfl 5 Tryd.underlying23 size5 A29 4 c29 (11 + n) c29 5 rfl .head (by omega) A37 4 c37 rfl (putl sm 4) C37 (by omega) ?_
    clear H
    intro W H
    refine hK.out _ _ ?_
    clear hK K
    refine norm_ (a' := ?_) ?_ ?_
    rotate_left
    · show Act.put _ (some 38) _ = _
      simp only [Act.put, List.setIfInBounds_toArray, List.set_cons_zero, List.set_cons_succ, i64_w, i32_w]
      rfl
    refine done_ (by kernel_rfl) ?_
    clear hHeld
    rw [show (putl sm 4).take (min 4 4) = putl sm 4 from List.take_of_length_le (by rw [putl_len]; decide), hhe] at H
    go_wp2
    go_ret2
    refine ⟨A29, c29, rfl, hnc, ?_, H.below⟩
    rw [hEL]
    exact (H.rowC .head).2.2
end Go.Proofs.YthhbilkmdfdfiaaDoor.O
