/- strandlinelaw13: awake; FragEncodes. -/
import Derived.Test.YthhbilkmdfdfiaaDoorFragDec
import Derived.Test.YthhbilkmdfdfiaaDoorAwake03
import Derived.Test.YthhbilkmdfdfiaaDoorFkStrandlineref13
set_option linter.unusedVariables false
set_option linter.unusedSimpArgs false
namespace Go.Proofs.YthhbilkmdfdfiaaDoor.O
open Go.RowKit Go.Proofs.YthhbilkmdfdfiaaDoorW.PrintWords Go.Proofs.YthhbilkmdfdfiaaDoorW.PrintLast Go.Proofs.YthhbilkmdfdfiaaDoorW.PrintMore Go.Proofs.YthhbilkmdfdfiaaDoor.F Go.Proofs.YthhbilkmdfdfiaaDoor.F.Nums Go.Proofs.YthhbilkmdfdfiaaDoor.Plain
theorem b120 : Bytes [120] := fun c hc => by rw [List.mem_singleton.1 hc]; decide
theorem s120 : strOfNums [120] = { data := #[120] } := by decide +kernel
set_option maxRecDepth 100000 in
set_option maxHeartbeats 2000000 in
theorem awake13_calls (w : World) (hH : Half w) : Calls Tryd.prog 30 #[] w fun e W => e = .returned (.bool true) ∧ Below w.heap.size w W := by
  have kc := fun (w : World) (C : Array Value) (n c : Nat) => Lib.run_convert_bytes_const (P := Tryd.prog) w 23 5 C n c Tryd.underlying23 Tryd.underlying5
  go_enter Tryd.func30, Tryd.ntmps30
  go_wp2_with fail
  have hC := C_cells (l := [120]) (blk_new w (.cells #[.int .u8 120] 5 (1, 2))) (by decide)
  have hB := Aside0.mk (below_alloc (Below.refl w.heap.size w) (.cells #[.int .u8 120] 5 (1, 2)))
  replace hH := hH.alloc (.cells #[.int .u8 120] 5 (1, 2))
  generalize w.alloc (.cells #[.int .u8 120] 5 (1, 2)) = W1 at hC hB hH ⊢
  clear kc
  refine (encode_ok 1 7 [120] _ 1 W1 hC (by decide) b120 (by decide) hH (by decide)).mono ?_
  rintro e w2 ⟨A2, c2, rfl, h2, C2, hb2⟩
  replace hH := hH.below hb2
  have hB2 := Aside0.mk (hB.out.trans (hb2.mono hB.out.size))
  clear hb2 hB hC
  have hd := dec_enc 1 7 7 [120] [] (by decide) (by decide)
  rw [if_pos rfl, List.append_nil] at hd
  have hp := parts_enc 1 7 [120] [] (by decide) (by decide)
  rw [List.append_nil] at hp
  obtain ⟨p1, p2, p3, -, p5, -⟩ := hp
  have hl := encL_len 1 7 [120]
  have hbb : Bytes (encL 1 7 [120]) := encL_bytes (by decide) b120
  generalize encL 1 7 [120] = b at *
  have DC := decode_calls b 7 A2 c2
  rw [hl] at DC
  have H := Own.start w2
  have DD := DC w2 C2 h2 hbb hH
  rw [hd, p1, p2, p3, p5] at DD
  clear DC
  simp only [List.length_cons, List.length_nil, Nat.zero_add, Nat.reduceAdd] at DD h2 ⊢
  go_wp2_with fail
  refine DD.mono ?_
  rintro e w3 ⟨hb3, ⟨h, -⟩ | ⟨-, A3, c3, rfl, h3, C3⟩⟩
  · exact absurd rfl h
  have HB3 := Aside0.mk (hB2.out.trans (hb3.mono hB2.out.size))
  clear hb3 DD H hB2
  have H := Own.start w3
  have e12 : (11 + ((1 : Nat) : Int)) = 12 := rfl
  rw [e12]
  go_wp2_with (first
    | ((with_reducible refine gate_dst (N := 3) rfl ?_); refine l_allocA rfl H 37 rfl _ zero37 ?_; clear H; intro g3 W H)
    | ((with_reducible refine gate_store (t := 37) (p := 3) rfl ?_); refine l_storeW rfl H 37 _ _ rfl _ rfl _ rfl (by (repeat (first | exact In.head | apply In.tail))) _ size37 (by (first | rfl | assumption | omega | (simp only [nums_length]; omega) | (simp [nums_length, zs]; done) | (simp [nums_length, zs]; omega))) (by (first | rfl | assumption | omega | (simp only [nums_length]; omega) | (simp [nums_length, zs]; done) | (simp [nums_length, zs]; omega))) (by (first | exact nums_one | (intro u hu; simp at hu; subst hu; rfl) | (intro u hu; simp at hu; rcases hu with rfl | rfl | rfl | rfl | rfl | rfl | rfl <;> rfl) | (intro u hu; simp at hu; rcases hu with rfl | rfl | rfl | rfl <;> rfl) | (intro u hu; simp at hu; rcases hu with rfl | rfl | rfl <;> rfl) | (intro u hu; simp at hu; rcases hu with rfl | rfl <;> rfl))) ?_; clear H; intro W H)
    | ((with_reducible refine gate_dst (N := 31) rfl ?_); refine gate_guard (by rfl) ?_; refine l_load1 rfl H 23 _ rfl _ _ rfl (by (repeat (first | exact In.head | apply In.tail))) _ Tryd.underlying23 rfl _ (by first | rfl | assumption | exact nums_at _ (by omega)) ?_)
    | ((with_reducible refine gate_dst (N := 32) rfl ?_); refine gate_guard (by rfl) ?_; refine l_run rfl (.string { data := #[120] }) (by rw [← s120]; exact r_strC 23 9 5 _ rfl rfl (Kd.C_below C3 H.below) Tryd.underlying23 Tryd.underlying5 Tryd.underlying9) ?_))
  go_ret
  exact ⟨rfl, HB3.out.trans (H.below.mono HB3.out.size)⟩
theorem rright_eq (kind ep : Int) (data : List Int) : strandlineref13_Right.f kind ep data = some (rightF kind data.length) := by
  rw [show strandlineref13_Right.f kind ep data = frag_right.f kind ep data from rfl, right_eq]
theorem rbytes_eq (kind ep : Int) (data : List Int) (hr : rightF kind data.length = true) (he : 0 ≤ ep ∧ ep ≤ 4294967295) (hd : Bytes data) : strandlineref13_Bytes.f (100 + 10 * (bodyL kind ep data).length + 1) kind ep data = some (encL kind ep data) := by
  obtain ⟨k1, k2, k3⟩ := right_parts hr
  obtain ⟨e, rfl⟩ := Int.eq_ofNat_of_zero_le he.1
  have hbb : Bytes (bodyL kind (e : Int) data) := bodyL_bytes (by omega) hd
  have hbl := bodyL_len kind (e : Int) data
  have e1 : (cl8 2).toNat = 2 := by decide
  have e2 : (cl8 4).toNat = 4 := by decide
  have hbd : putl data.length 2 ++ [kind] ++ putl e 4 ++ data = bodyL kind (e : Int) data := by simp [bodyL]
  have hsl := sumN_lt (bodyL kind (e : Int) data)
  unfold strandlineref13_Bytes.f
  have hk : 8 < 100 + 10 * (bodyL kind (e : Int) data).length + 1 := by omega
  rw [wu64 (by omega) (by omega), rput_eq _ hk _ (by omega) 2 (by decide), e1, Option.bind_some, if_pos (by rw [putl_len]; decide), Option.bind_some, wu64 (by omega) (by omega), rput_eq _ hk _ (by omega) 4 (by decide), e2, Option.bind_some]
  rw [if_pos (by simp [putl_len]), Option.bind_some, show kind % 256 = kind by omega, hbd, if_pos (by simp [putl_len]; omega), Option.bind_some]
  rw [CrcMath.rof_eq _ hbb (by omega), Option.bind_some, rcrc_sum, Option.bind_some, wu64 (by omega) (by omega), rput_eq _ hk _ (by omega) 4 (by decide), e2, Option.bind_some, if_pos (by rw [putl_len, hbl]; omega)]
  rfl
set_option maxRecDepth 100000 in
set_option maxHeartbeats 8000000 in
theorem fragEncodes_law (kind ep : Int) (data : List Int) (A : Option Addr) (c : Nat) (epoch : Int) (rest : List Int) (Ar : Option Addr) (cr : Nat) (w : World) (hC : (Kd.int .u8).C w A data.length data) (hc : data.length ≤ c) (hd : Bytes data) (he : 0 ≤ ep ∧ ep ≤ 4294967295)
    (hCr : (Kd.int .u8).C w Ar rest.length rest) (hcr : rest.length ≤ cr) (hbr : Bytes rest) (hlr : rest.length ≤ 140737488351232) (hH : Half w) :
    Calls Tryd.prog 8 #[.agg #[.int .i64 kind, .int .u32 ep, .slice A data.length c], .int .u32 epoch, .slice Ar rest.length cr] w fun e W => e = .returned (.bool true) ∧ Below w.heap.size w W := by
  have H := Own.start w
  have FR := fun W (hb : Below w.heap.size w W) => strandlineref13_Right.calls kind ep A c data _ W (Kd.C_below hC hb) hc (rright_eq kind ep data)
  cases hr : rightF kind data.length with
  | false =>
    rw [hr] at FR
    have EN := fun W (hb : Below w.heap.size w W) => encode_no kind ep data A c W (Kd.C_below hC hb) hc hr
    generalize data.length = n at *
    generalize rest.length = m at *
    go_enter Tryd.func8, Tryd.ntmps8
    go_wp2_with (first
    | ((with_reducible refine gate_dst (N := 3) rfl ?_); refine l_boxA rfl H 37 _ rfl _ rfl ?_; clear H; intro g3 W H)
    | ((with_reducible refine gate_dst (N := 17) rfl ?_); refine l_loadA rfl H 37 _ rfl _ rfl (by (repeat (first | exact In.head | apply In.tail))) _ _ Tryd.underlying37 rfl size37 (by (first | rfl | assumption | omega | (simp only [nums_length]; omega) | (simp [nums_length, zs]; done) | (simp [nums_length, zs]; omega))) ?_)
    | ((with_reducible refine gate_dst (N := 21) rfl ?_); refine l_loadA rfl H 37 _ rfl _ rfl (by (repeat (first | exact In.head | apply In.tail))) _ _ Tryd.underlying37 rfl size37 (by (first | rfl | assumption | omega | (simp only [nums_length]; omega) | (simp [nums_length, zs]; done) | (simp [nums_length, zs]; omega))) ?_)
    | (go_at_call 29; (with_reducible refine (EN _ H.below).mono ?_); rintro e W ⟨rfl, hb⟩; replace H := H.to hb; clear hb)
    | (go_at_call 31; (with_reducible refine (FR _ H.below).mono ?_); rintro e W ⟨rfl, hb⟩; replace H := H.to hb; clear hb)
    | (go_at_call 30; (with_reducible refine (awake13_calls _ (hH.below H.below)).mono ?_); rintro e W ⟨rfl, hb⟩; replace H := H.to hb; clear hb))
    go_ret
    exact ⟨rfl, H.below⟩
  | true =>
    clear FR
    have EN := fun W (hb : Below w.heap.size w W) => encode_ok kind ep data A c W (Kd.C_below hC hb) hc hd he (hH.below hb) hr
    have hel := encL_len kind ep data
    obtain ⟨k1, k2, k3⟩ := right_parts hr
    have heb : Bytes (encL kind ep data) := encL_bytes (by omega) hd
    have hrb := rbytes_eq kind ep data hr he hd
    have hrr := rright_eq kind ep data
    rw [hr] at hrr
    have hsame : frag_Same.f kind ep data kind ep data = some true := by unfold frag_Same.f; rw [if_pos rfl, if_pos rfl, beq_self_eq_true]
    have hsame2 : strandlineref13_Same.f kind ep data kind ep data = some true := by unfold strandlineref13_Same.f; rw [if_pos rfl, if_pos rfl, beq_self_eq_true]
    have P1 := parts_enc kind ep data rest he k3
    have D1 := dec_enc kind ep ep data rest hr he
    have D2 := dec_enc kind ep epoch data rest hr he
    rw [if_pos rfl] at D1
    obtain ⟨p1, p2, p3, -, p5, -⟩ := P1
    have DC := fun ep' A' c' W => decode_calls (encL kind ep data ++ rest) ep' A' c' W
    rw [List.length_append, hel] at DC
    rw [p1, p2, p3, p5] at DC
    have DC1 := DC ep
    have DC2 := DC epoch
    rw [D1] at DC1
    rw [D2] at DC2
    clear DC D1 D2 p1 p2 p3 p5
    have hab : Bytes (encL kind ep data ++ rest) := bytes_append heb hbr
    have RB := fun W A c => strandlineref13_Bytes.calls (100 + 10 * (bodyL kind ep data).length + 1) kind ep A c data (encL kind ep data) W
    have RR := fun W A c => strandlineref13_Right.calls kind ep A c data true W
    have FS := fun W A c A' c' => frag_Same.calls kind ep A c data kind ep A' c' data true W
    have RS := fun W A c A' c' => strandlineref13_Same.calls kind ep A c data kind ep A' c' data true W
    generalize 100 + 10 * (bodyL kind ep data).length + 1 = kf at RB hrb
    generalize encL kind ep data = E at *
    generalize hn : data.length = n at *
    generalize hm : rest.length = m at *
    have e11 : (11 : Int) + (n : Int) = ((11 + n : Nat) : Int) := by omega
    rw [e11] at DC1 DC2
    have hq197 : 11 + n ≤ 300 := by omega
    generalize 11 + n = q at *
    clear e11
    go_enter Tryd.func8, Tryd.ntmps8
    go_wp2_with (first
    | ((with_reducible refine gate_dst (N := 3) rfl ?_); refine l_boxA rfl H 37 _ rfl _ rfl ?_; clear H; intro g3 W H)
    | ((with_reducible refine gate_dst (N := 17) rfl ?_); refine l_loadA rfl H 37 _ rfl _ rfl (by (repeat (first | exact In.head | apply In.tail))) _ _ Tryd.underlying37 rfl size37 (by (first | rfl | assumption | omega | (simp only [nums_length]; omega) | (simp [nums_length, zs]; done) | (simp [nums_length, zs]; omega))) ?_)
    | (go_at_call 29; (with_reducible refine (EN _ H.below).mono ?_); rintro e W1 ⟨A1, c1, rfl, h1, C1, hb⟩; replace H := H.to hb; clear hb EN; have F3 := (fun X (h : Below W1.heap.size W1 X) => (H.rdB .head 0).below h); rw [List.drop_zero] at F3; have HB := Aside0.mk H.below; have hC1 := Kd.C_below hC HB.out; have hCr1 := Kd.C_below hCr HB.out; have hH1 := hH.below HB.out; clear hC hCr hH H; have H := Own.start W1)
    | ((with_reducible refine gate_dst (N := 21) rfl ?_); refine l_run rfl _ (r_loadRd0 37 _ rfl rfl (F3 _ H.below) 3 _ Tryd.underlying37 rfl size37 (by decide) rfl) ?_)
    | (go_at_call 31; (with_reducible refine (RR _ _ _ (Kd.C_below hC1 H.below) hc hrr).mono ?_); rintro e W ⟨rfl, hb⟩; replace H := H.to hb; clear hb))
    refine start_ (n := 16) (S := Own _ _ _) (ds := []) #[false, false, false, false, false, false, false, false, false, false, false, false, false, false, false, false] (by kernel_rfl) rfl rfl H.drew (fun hHeld => ?_)
    replace H := H.drew
    generalize World.drew _ = W at H hHeld ⊢
    refine pure_ (i := 0) (N := some 34) (v := ?_) (a' := ?_) #[true, false, false, false, false, false, false, false, false, false, false, false, false, false, false, false] rfl rfl (by kernel_rfl) (fun _ _ _ h => h) (Or.inl ⟨by rfl, ?_⟩) ?_ ?_
    rotate_left
    · intro w'
      go_simp
      with_reducible rfl
    rotate_left
    · simp only [Act.put, List.setIfInBounds_toArray, List.set_cons_zero, List.set_cons_succ, i64_w, i32_w]
      rfl
    refine pure_ (i := 1) (N := some 35) (v := ?_) (a' := ?_) #[true, true, false, false, false, false, false, false, false, false, false, false, false, false, false, false] rfl rfl (by kernel_rfl) (fun _ _ _ h => h) (Or.inl ⟨by rfl, ?_⟩) ?_ ?_
    rotate_left
    · intro w'
      go_simp
      with_reducible rfl
    rotate_left
    · simp only [Act.put, List.setIfInBounds_toArray, List.set_cons_zero, List.set_cons_succ, i64_w, i32_w]
      rfl
    refine pure_ (i := 2) (N := some 36) (v := ?_) (a' := ?_) #[true, true, true, false, false, false, false, false, false, false, false, false, false, false, false, false] rfl rfl (by kernel_rfl) (fun _ _ _ h => h) (Or.inl ⟨by rfl, ?_⟩) ?_ ?_
    rotate_left
    · intro w'
      go_simp
      with_reducible rfl
    rotate_left
    · simp only [Act.put, List.setIfInBounds_toArray, List.set_cons_zero, List.set_cons_succ, i64_w, i32_w]
      rfl
    refine pure_ (i := 3) (N := some 37) (v := ?_) (a' := ?_) #[true, true, true, true, false, false, false, false, false, false, false, false, false, false, false, false] rfl rfl (by kernel_rfl) (fun _ _ _ h => h) (Or.inl ⟨by rfl, ?_⟩) ?_ ?_
    rotate_left
    · intro w'
      go_simp
      with_reducible rfl
    rotate_left
    · simp only [Act.put, List.setIfInBounds_toArray, List.set_cons_zero, List.set_cons_succ, i64_w, i32_w]
      rfl
    refine take_run (i := 4) (N := some 38) (a' := ?_) #[true, true, true, true, true, false, false, false, false, false, false, false, false, false, false, false] rfl rfl (by kernel_rfl) (fun _ _ _ _ h => h) (by rfl) hHeld (.string (strOfNums E)) (fun X HX => r_strC 23 9 5 _ rfl rfl (Kd.C_below C1 HX.below) Tryd.underlying23 Tryd.underlying5 Tryd.underlying9) ?_ ?_
    rotate_left
    · simp only [Act.put, List.setIfInBounds_toArray, List.set_cons_zero, List.set_cons_succ, i64_w, i32_w]
      rfl
    refine take_run (i := 5) (N := some 39) (a' := ?_) #[true, true, true, true, true, true, false, false, false, false, false, false, false, false, false, false] rfl rfl (by kernel_rfl) (fun _ _ _ _ h => h) (by rfl) hHeld (.agg #[.int .i64 kind, .int .u32 ep, .slice A n c]) (fun X HX => r_loadRd0 37 _ rfl rfl (F3 _ HX.below) 3 _ Tryd.underlying37 rfl size37 (by decide) rfl) ?_ ?_
    rotate_left
    · simp only [Act.put, List.setIfInBounds_toArray, List.set_cons_zero, List.set_cons_succ, i64_w, i32_w]
      rfl
    refine one_ (i := 6) (N := some 40) #[true, true, true, true, true, true, true, false, false, false, false, false, false, false, false, false] rfl rfl (by kernel_rfl) (by decide) (fun K hK => ?_)
    refine callK_ (RB _ A c (Kd.C_below hC1 H.below) hc hrb) Tryd.func32 (by kernel_rfl) rfl (by rfl) rfl rfl (by (try simp only [List.map_toArray, List.map_cons, List.map_nil]); first | done | rfl) ?_
    rintro e W ⟨v40, rfl, hR, hb⟩
    refine ⟨_, rfl, ?_⟩
    replace H := H.addR hb hR
    clear hR hb
    obtain ⟨A40, c40, rfl⟩ := H.row_slice .head
    refine hK.out _ _ ?_ (fun hHeld => ?_)
    · first | trivial | exact H | exact H.del .head | exact (H.del .head).del .head
    clear hK K
    refine norm_ (a' := ?_) ?_ ?_
    rotate_left
    · show Act.put _ (some 40) _ = _
      simp only [Act.put, List.setIfInBounds_toArray, List.set_cons_zero, List.set_cons_succ, i64_w, i32_w]
      rfl
    refine one_ (i := 7) (N := some 41) #[true, true, true, true, true, true, true, true, false, false, false, false, false, false, false, false] rfl rfl (by kernel_rfl) (by decide) (fun K hK => ?_)
    refine wanted_ rfl ?_
    refine w_strR H 23 9 5 _ rfl _ rfl (by (repeat (first | exact In.head | apply In.tail))) Tryd.underlying23 Tryd.underlying5 Tryd.underlying9 ?_
    refine hK.out _ _ ?_ (fun hHeld => ?_)
    · first | trivial | exact H | exact H.del .head | exact (H.del .head).del .head
    clear hK K
    refine norm_ (a' := ?_) ?_ ?_
    rotate_left
    · show Act.put _ (some 41) _ = _
      simp only [Act.put, List.setIfInBounds_toArray, List.set_cons_zero, List.set_cons_succ, i64_w, i32_w]
      rfl
    refine pure_ (i := 8) (N := some 42) (v := ?_) (a' := ?_) #[true, true, true, true, true, true, true, true, true, false, false, false, false, false, false, false] rfl rfl (by kernel_rfl) (fun _ _ _ h => h) (Or.inl ⟨by rfl, ?_⟩) ?_ ?_
    rotate_left
    · intro w'
      go_simp
      with_reducible rfl
    rotate_left
    · simp only [Act.put, List.setIfInBounds_toArray, List.set_cons_zero, List.set_cons_succ, i64_w, i32_w]
      rfl
    refine pure_ (i := 9) (N := some 43) (v := ?_) (a' := ?_) #[true, true, true, true, true, true, true, true, true, true, false, false, false, false, false, false] rfl rfl (by kernel_rfl) (fun _ _ _ h => h) (Or.inl ⟨by rfl, ?_⟩) ?_ ?_
    rotate_left
    · intro w'
      go_simp
      with_reducible rfl
    rotate_left
    · simp only [Act.put, List.setIfInBounds_toArray, List.set_cons_zero, List.set_cons_succ, i64_w, i32_w]
      rfl
    refine pure_ (i := 10) (N := some 44) (v := ?_) (a' := ?_) #[true, true, true, true, true, true, true, true, true, true, true, false, false, false, false, false] rfl rfl (by kernel_rfl) (fun _ _ _ h => h) (Or.inl ⟨by rfl, ?_⟩) ?_ ?_
    rotate_left
    · intro w'
      go_simp
      with_reducible rfl
    rotate_left
    · simp only [Act.put, List.setIfInBounds_toArray, List.set_cons_zero, List.set_cons_succ, i64_w, i32_w]
      rfl
    refine take_run (i := 11) (N := some 45) (a' := ?_) #[true, true, true, true, true, true, true, true, true, true, true, true, false, false, false, false] rfl rfl (by kernel_rfl) (fun _ _ _ _ h => h) (by rfl) hHeld (.agg #[.int .i64 kind, .int .u32 ep, .slice A n c]) (fun X HX => r_loadRd0 37 _ rfl rfl (F3 _ HX.below) 3 _ Tryd.underlying37 rfl size37 (by decide) rfl) ?_ ?_
    rotate_left
    · simp only [Act.put, List.setIfInBounds_toArray, List.set_cons_zero, List.set_cons_succ, i64_w, i32_w]
      rfl
    refine take_run (i := 12) (N := some 46) (a' := ?_) #[true, true, true, true, true, true, true, true, true, true, true, true, true, false, false, false] rfl rfl (by kernel_rfl) (fun _ _ _ _ h => h) (by rfl) hHeld (.agg #[.int .i64 kind, .int .u32 ep, .slice A n c]) (fun X HX => r_loadRd0 37 _ rfl rfl (F3 _ HX.below) 3 _ Tryd.underlying37 rfl size37 (by decide) rfl) ?_ ?_
    rotate_left
    · simp only [Act.put, List.setIfInBounds_toArray, List.set_cons_zero, List.set_cons_succ, i64_w, i32_w]
      rfl
    refine one_ (i := 13) (N := some 47) #[true, true, true, true, true, true, true, true, true, true, true, true, true, true, false, false] rfl rfl (by kernel_rfl) (by decide) (fun K hK => ?_)
    refine callK_ (FS _ A c A c (Kd.C_below hC1 H.below) hc (Kd.C_below hC1 H.below) hc hsame) Tryd.func33 (by kernel_rfl) rfl (by rfl) rfl rfl (by (try simp only [List.map_toArray, List.map_cons, List.map_nil]); first | done | rfl) ?_
    rintro e W ⟨rfl, hb⟩
    refine ⟨_, rfl, ?_⟩
    replace H := H.to hb
    clear hb
    refine hK.out _ _ ?_ (fun hHeld => ?_)
    · first | trivial | exact H | exact H.del .head | exact (H.del .head).del .head
    clear hK K
    refine norm_ (a' := ?_) ?_ ?_
    rotate_left
    · show Act.put _ (some 47) _ = _
      simp only [Act.put, List.setIfInBounds_toArray, List.set_cons_zero, List.set_cons_succ, i64_w, i32_w]
      rfl
    refine pure_ (i := 14) (N := some 48) (v := ?_) (a' := ?_) #[true, true, true, true, true, true, true, true, true, true, true, true, true, true, true, false] rfl rfl (by kernel_rfl) (fun _ _ _ h => h) (Or.inl ⟨by rfl, ?_⟩) ?_ ?_
    rotate_left
    · intro w'
      go_simp
      with_reducible rfl
    rotate_left
    · simp only [Act.put, List.setIfInBounds_toArray, List.set_cons_zero, List.set_cons_succ, i64_w, i32_w]
      rfl
    refine pure_ (i := 15) (N := some 49) (v := ?_) (a' := ?_) #[true, true, true, true, true, true, true, true, true, true, true, true, true, true, true, true] rfl rfl (by kernel_rfl) (fun _ _ _ h => h) (Or.inl ⟨by rfl, ?_⟩) ?_ ?_
    rotate_left
    · intro w'
      go_simp
      with_reducible rfl
    rotate_left
    · simp only [Act.put, List.setIfInBounds_toArray, List.set_cons_zero, List.set_cons_succ, i64_w, i32_w]
      rfl
    refine done_ (by kernel_rfl) ?_
    clear hHeld
    by_cases hee : epoch = ep
    · subst hee
      rw [if_pos rfl] at DC2
      go_wp2_with (first
    | ((with_reducible refine gate_dst (N := 50) rfl ?_); refine l_build0 rfl H 23 5 rfl Tryd.underlying23 (by kernel_rfl) ?_; clear H; intro g50 W H)
    | ((with_reducible refine gate_dst (N := 10) rfl ?_); refine l_allocA rfl H 37 rfl _ zero37 ?_; clear H; intro g10 W H)
    | ((with_reducible refine gate_store (t := 37) (p := 10) rfl ?_); refine l_storeW rfl H 37 _ _ rfl _ rfl _ rfl (by (repeat (first | exact In.head | apply In.tail))) _ size37 (by (first | rfl | assumption | omega | (simp only [nums_length]; omega) | (simp [nums_length, zs]; done) | (simp [nums_length, zs]; omega))) (by (first | rfl | assumption | omega | (simp only [nums_length]; omega) | (simp [nums_length, zs]; done) | (simp [nums_length, zs]; omega))) (by (first | exact nums_one | (intro u hu; simp at hu; subst hu; rfl) | (intro u hu; simp at hu; rcases hu with rfl | rfl | rfl | rfl | rfl | rfl | rfl <;> rfl) | (intro u hu; simp at hu; rcases hu with rfl | rfl | rfl | rfl <;> rfl) | (intro u hu; simp at hu; rcases hu with rfl | rfl | rfl <;> rfl) | (intro u hu; simp at hu; rcases hu with rfl | rfl <;> rfl))) ?_; clear H; intro W H)
    | ((with_reducible refine gate_dst (N := 13) rfl ?_); refine l_allocA rfl H 37 rfl _ zero37 ?_; clear H; intro g13 W H)
    | ((with_reducible refine gate_store (t := 37) (p := 13) rfl ?_); refine l_storeW rfl H 37 _ _ rfl _ rfl _ rfl (by (repeat (first | exact In.head | apply In.tail))) _ size37 (by (first | rfl | assumption | omega | (simp only [nums_length]; omega) | (simp [nums_length, zs]; done) | (simp [nums_length, zs]; omega))) (by (first | rfl | assumption | omega | (simp only [nums_length]; omega) | (simp [nums_length, zs]; done) | (simp [nums_length, zs]; omega))) (by (first | exact nums_one | (intro u hu; simp at hu; subst hu; rfl) | (intro u hu; simp at hu; rcases hu with rfl | rfl | rfl | rfl | rfl | rfl | rfl <;> rfl) | (intro u hu; simp at hu; rcases hu with rfl | rfl | rfl | rfl <;> rfl) | (intro u hu; simp at hu; rcases hu with rfl | rfl | rfl <;> rfl) | (intro u hu; simp at hu; rcases hu with rfl | rfl <;> rfl))) ?_; clear H; intro W H)
    | ((with_reducible refine gate_dst (N := 70) rfl ?_); refine l_loadA rfl H 37 _ rfl _ rfl (by (repeat (first | exact In.head | apply In.tail))) _ _ Tryd.underlying37 rfl size37 (by (first | rfl | assumption | omega | (simp only [nums_length]; omega) | (simp [nums_length, zs]; done) | (simp [nums_length, zs]; omega))) ?_)
      | ((with_reducible refine gate_dst (N := 52) rfl ?_); refine l_append rfl H _ _ 23 5 rfl Tryd.underlying23 _ _ _ inf5 rfl (by decide) (by decide) _ 0 [] rfl .head A1 q c1 (nums .u8 E) rfl (by rw [nums_length, hel, Nat.mul_one]) (fun hp => (Rd.of_C (Kd.C_below C1 H.below)) (by rw [nums_length, hel]; exact hp)) nums_one (by omega) ?_; clear H; intro v52 W H; obtain ⟨A52, c52, e52⟩ := H.row_slice .head; rw [Nat.zero_add] at e52 H; rw [List.nil_append] at H; subst e52)
      | ((with_reducible refine gate_dst (N := 54) rfl ?_); refine l_append rfl H _ _ 23 5 rfl Tryd.underlying23 _ _ _ inf5 rfl (by decide) (by decide) _ q (nums .u8 E) rfl .head Ar m cr (nums .u8 rest) rfl (by rw [nums_length, hm, Nat.mul_one]) (fun hp => (Rd.of_C (Kd.C_below hCr1 H.below)) (by rw [nums_length, hm]; exact hp)) nums_one (by omega) ?_; clear H; intro v54 W H; obtain ⟨A54, c54, e54⟩ := H.row_slice .head; rw [nums_app] at H; subst e54)
      | ((with_reducible refine gate_dst (N := 58) rfl ?_); refine l_run rfl _ (r_loadRd1 22 _ rfl 1 rfl (F3 _ H.below) _ Tryd.underlying22 rfl _ rfl) ?_)
      | ((with_reducible refine gate_dst (N := 86) rfl ?_); refine gate_guard (by rfl) ?_; refine l_run rfl _ (r_loadRd1 22 _ rfl 1 rfl (F3 _ H.below) _ Tryd.underlying22 rfl _ rfl) ?_)
      | ((with_reducible refine gate_dst (N := 71) rfl ?_); refine l_run rfl _ (r_loadRd0 37 _ rfl rfl (F3 _ H.below) 3 _ Tryd.underlying37 rfl size37 (by decide) rfl) ?_)
      | (go_at_call 26; (with_reducible refine (DC1 _ _ _ (H.rowC .head).2.2 (H.rowC .head).1 hab (hH1.below H.below)).mono ?_); rintro e W2 ⟨hb, h⟩; replace h := h.resolve_left (fun h => h.1 rfl); obtain ⟨-, A3, c3, rfl, h3, C3⟩ := h; have C54 := Kd.C_below (H.rowC .head).2.2 hb; have l54 := (H.rowC .head).1; have hB2 := H.below.trans (hb.mono H.below.size); replace F3 := (fun X (h : Below W2.heap.size W2 X) => (F3 W2 hB2).below h); replace hC1 := Kd.C_below hC1 hB2; replace HB := Aside0.mk (HB.out.trans (hB2.mono HB.out.size)); replace hH1 := hH1.below hB2; clear hb hB2 DC1 H; have H := Own.start W2)
      | (go_at_call 26; (with_reducible refine (DC2 _ _ _ (Kd.C_below C54 H.below) l54 hab (hH1.below H.below)).mono ?_); rintro e W ⟨hb, h⟩; replace h := h.resolve_left (fun h => h.1 rfl); obtain ⟨-, A4, c4, rfl, h4, C4⟩ := h; replace H := H.to hb; clear hb DC2)
      | (go_at_call 28; (with_reducible refine (RS _ _ _ _ _ (Kd.C_below C3 H.below) h3 (Kd.C_below hC1 H.below) hc hsame2).mono ?_); rintro e W ⟨rfl, hb⟩; replace H := H.to hb; clear hb)
      | (go_at_call 30; (with_reducible refine (awake13_calls _ (hH1.below H.below)).mono ?_); rintro e W ⟨rfl, hb⟩; replace H := H.to hb; clear hb))
      go_ret
      exact ⟨rfl, HB.out.trans (H.below.mono HB.out.size)⟩
    rw [if_neg hee] at DC2
    go_wp2_with (first
    | ((with_reducible refine gate_dst (N := 50) rfl ?_); refine l_build0 rfl H 23 5 rfl Tryd.underlying23 (by kernel_rfl) ?_; clear H; intro g50 W H)
    | ((with_reducible refine gate_dst (N := 10) rfl ?_); refine l_allocA rfl H 37 rfl _ zero37 ?_; clear H; intro g10 W H)
    | ((with_reducible refine gate_store (t := 37) (p := 10) rfl ?_); refine l_storeW rfl H 37 _ _ rfl _ rfl _ rfl (by (repeat (first | exact In.head | apply In.tail))) _ size37 (by (first | rfl | assumption | omega | (simp only [nums_length]; omega) | (simp [nums_length, zs]; done) | (simp [nums_length, zs]; omega))) (by (first | rfl | assumption | omega | (simp only [nums_length]; omega) | (simp [nums_length, zs]; done) | (simp [nums_length, zs]; omega))) (by (first | exact nums_one | (intro u hu; simp at hu; subst hu; rfl) | (intro u hu; simp at hu; rcases hu with rfl | rfl | rfl | rfl | rfl | rfl | rfl <;> rfl) | (intro u hu; simp at hu; rcases hu with rfl | rfl | rfl | rfl <;> rfl) | (intro u hu; simp at hu; rcases hu with rfl | rfl | rfl <;> rfl) | (intro u hu; simp at hu; rcases hu with rfl | rfl <;> rfl))) ?_; clear H; intro W H)
    | ((with_reducible refine gate_dst (N := 13) rfl ?_); refine l_allocA rfl H 37 rfl _ zero37 ?_; clear H; intro g13 W H)
    | ((with_reducible refine gate_store (t := 37) (p := 13) rfl ?_); refine l_storeW rfl H 37 _ _ rfl _ rfl _ rfl (by (repeat (first | exact In.head | apply In.tail))) _ size37 (by (first | rfl | assumption | omega | (simp only [nums_length]; omega) | (simp [nums_length, zs]; done) | (simp [nums_length, zs]; omega))) (by (first | rfl | assumption | omega | (simp only [nums_length]; omega) | (simp [nums_length, zs]; done) | (simp [nums_length, zs]; omega))) (by (first | exact nums_one | (intro u hu; simp at hu; subst hu; rfl) | (intro u hu; simp at hu; rcases hu with rfl | rfl | rfl | rfl | rfl | rfl | rfl <;> rfl) | (intro u hu; simp at hu; rcases hu with rfl | rfl | rfl | rfl <;> rfl) | (intro u hu; simp at hu; rcases hu with rfl | rfl | rfl <;> rfl) | (intro u hu; simp at hu; rcases hu with rfl | rfl <;> rfl))) ?_; clear H; intro W H)
    | ((with_reducible refine gate_dst (N := 70) rfl ?_); refine l_loadA rfl H 37 _ rfl _ rfl (by (repeat (first | exact In.head | apply In.tail))) _ _ Tryd.underlying37 rfl size37 (by (first | rfl | assumption | omega | (simp only [nums_length]; omega) | (simp [nums_length, zs]; done) | (simp [nums_length, zs]; omega))) ?_)
    | ((with_reducible refine gate_dst (N := 52) rfl ?_); refine l_append rfl H _ _ 23 5 rfl Tryd.underlying23 _ _ _ inf5 rfl (by decide) (by decide) _ 0 [] rfl .head A1 q c1 (nums .u8 E) rfl (by rw [nums_length, hel, Nat.mul_one]) (fun hp => (Rd.of_C (Kd.C_below C1 H.below)) (by rw [nums_length, hel]; exact hp)) nums_one (by omega) ?_; clear H; intro v52 W H; obtain ⟨A52, c52, e52⟩ := H.row_slice .head; rw [Nat.zero_add] at e52 H; rw [List.nil_append] at H; subst e52)
    | ((with_reducible refine gate_dst (N := 54) rfl ?_); refine l_append rfl H _ _ 23 5 rfl Tryd.underlying23 _ _ _ inf5 rfl (by decide) (by decide) _ q (nums .u8 E) rfl .head Ar m cr (nums .u8 rest) rfl (by rw [nums_length, hm, Nat.mul_one]) (fun hp => (Rd.of_C (Kd.C_below hCr1 H.below)) (by rw [nums_length, hm]; exact hp)) nums_one (by omega) ?_; clear H; intro v54 W H; obtain ⟨A54, c54, e54⟩ := H.row_slice .head; rw [nums_app] at H; subst e54)
    | ((with_reducible refine gate_dst (N := 58) rfl ?_); refine l_run rfl _ (r_loadRd1 22 _ rfl 1 rfl (F3 _ H.below) _ Tryd.underlying22 rfl _ rfl) ?_)
    | ((with_reducible refine gate_dst (N := 86) rfl ?_); refine gate_guard (by rfl) ?_; refine l_run rfl _ (r_loadRd1 22 _ rfl 1 rfl (F3 _ H.below) _ Tryd.underlying22 rfl _ rfl) ?_)
    | ((with_reducible refine gate_dst (N := 71) rfl ?_); refine l_run rfl _ (r_loadRd0 37 _ rfl rfl (F3 _ H.below) 3 _ Tryd.underlying37 rfl size37 (by decide) rfl) ?_)
    | (go_at_call 26; (with_reducible refine (DC1 _ _ _ (H.rowC .head).2.2 (H.rowC .head).1 hab (hH1.below H.below)).mono ?_); rintro e W2 ⟨hb, h⟩; replace h := h.resolve_left (fun h => h.1 rfl); obtain ⟨-, A3, c3, rfl, h3, C3⟩ := h; have C54 := Kd.C_below (H.rowC .head).2.2 hb; have l54 := (H.rowC .head).1; have hB2 := H.below.trans (hb.mono H.below.size); replace F3 := (fun X (h : Below W2.heap.size W2 X) => (F3 W2 hB2).below h); replace hC1 := Kd.C_below hC1 hB2; replace HB := Aside0.mk (HB.out.trans (hB2.mono HB.out.size)); replace hH1 := hH1.below hB2; clear hb hB2 DC1 H; have H := Own.start W2)
    | (go_at_call 26; (with_reducible refine (DC2 _ _ _ (Kd.C_below C54 H.below) l54 hab (hH1.below H.below)).mono ?_); rintro e W ⟨hb, h⟩; replace h := h.resolve_right (fun h => absurd h.1 (by decide)); obtain ⟨-, rfl⟩ := h; replace H := H.to hb; clear hb DC2)
    | (go_at_call 28; (with_reducible refine (RS _ _ _ _ _ (Kd.C_below C3 H.below) h3 (Kd.C_below hC1 H.below) hc hsame2).mono ?_); rintro e W ⟨rfl, hb⟩; replace H := H.to hb; clear hb)
    | (go_at_call 30; (with_reducible refine (awake13_calls _ (hH1.below H.below)).mono ?_); rintro e W ⟨rfl, hb⟩; replace H := H.to hb; clear hb))
    go_ret
    exact ⟨rfl, HB.out.trans (H.below.mono HB.out.size)⟩
end Go.Proofs.YthhbilkmdfdfiaaDoor.O
