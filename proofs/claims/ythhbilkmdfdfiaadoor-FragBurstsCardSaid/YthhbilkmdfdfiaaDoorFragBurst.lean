/- strandlinelaw13.FragBursts. -/
import Derived.Test.YthhbilkmdfdfiaaDoorFragLaw
import Derived.Test.YthhbilkmdfdfiaaDoorBurst
set_option linter.unusedVariables false
set_option linter.unusedSimpArgs false
namespace Go.Proofs.YthhbilkmdfdfiaaDoor.O
open Go.RowKit Go.Proofs.YthhbilkmdfdfiaaDoorW.PrintWords Go.Proofs.YthhbilkmdfdfiaaDoorW.PrintLast Go.Proofs.YthhbilkmdfdfiaaDoorW.PrintMore Go.Proofs.YthhbilkmdfdfiaaDoor.F Go.Proofs.YthhbilkmdfdfiaaDoor.F.Nums Go.Proofs.YthhbilkmdfdfiaaDoor.Plain
theorem updB_drop4 (a k : Nat) (wl : List Int) (i : Nat) (b : List Int) : (updB (k + a) wl i b).drop k = updB a wl i (b.drop k) := by
  induction i with
  | zero => rfl
  | succ i ih =>
    show ((updB (k + a) wl i b).set (k + a + i) (wl.getD i 0)).drop k = (updB a wl i (b.drop k)).set (a + i) (wl.getD i 0)
    rw [← ih, List.drop_set]
    rw [if_neg (by omega), show k + a + i - k = a + i by omega]
theorem take_take_le {l m : List Int} {k j : Nat} (h : l.take k = m.take k) (hj : j ≤ k) : l.take j = m.take j := by
  rw [← Nat.min_eq_left hj, ← List.take_take, h, List.take_take]
/-- A burst of at most four bytes behind the place is no fragment of that epoch any more, unless nothing changed. -/
theorem dec_burst (kind ep : Int) (data wl : List Int) (at_ : Nat) (he : 0 ≤ ep ∧ ep ≤ 4294967295) (hr : rightF kind data.length = true) (hd : Bytes data) (hw : Bytes wl) (h6 : 6 ≤ at_) (hne : updB at_ wl 4 (encL kind ep data) ≠ encL kind ep data) :
    decE (updB at_ wl 4 (encL kind ep data)) ep ≠ 0 := by
  intro h0
  obtain ⟨k1, k2, k3⟩ := right_parts hr
  have hb : Bytes (encL kind ep data) := encL_bytes (by omega) hd
  have P := parts_enc kind ep data [] he k3
  rw [List.append_nil] at P
  obtain ⟨p1, p2, p3, p4, p5, p6⟩ := P
  have hel := encL_len kind ep data
  have hlu := updB_len at_ wl (encL kind ep data) 4
  have hu : Bytes (updB at_ wl 4 (encL kind ep data)) := updB_in hb hw 4
  obtain ⟨d1, d2, d3, d4, d5⟩ := dec_ok h0
  have t6 : (updB at_ wl 4 (encL kind ep data)).take 6 = (encL kind ep data).take 6 := take_take_le (CrcMath.updB_take at_ wl _ 4) h6
  have gd : ∀ j, j < 6 → (updB at_ wl 4 (encL kind ep data))[j]? = (encL kind ep data)[j]? := fun j hj => by
    rw [← List.getElem?_take_of_lt (l := updB at_ wl 4 (encL kind ep data)) hj, t6, List.getElem?_take_of_lt hj]
  have n1 : nOf (updB at_ wl 4 (encL kind ep data)) = nOf (encL kind ep data) := by
    unfold nOf
    exact getn_pre 2 (fun j hj => by rw [List.getElem?_drop, List.getElem?_drop]; exact gd _ (by omega))
  have s1 : sOf (updB at_ wl 4 (encL kind ep data)) = sOf (encL kind ep data) := by
    unfold sOf
    exact getn_pre 4 (fun j hj => gd _ (by omega))
  rw [n1, p1, s1, p4] at d5
  rw [List.take_of_length_le (by omega)] at d5
  obtain ⟨a, rfl⟩ : ∃ a, at_ = 4 + a := ⟨at_ - 4, by omega⟩
  rw [updB_drop4] at d5
  rw [List.take_of_length_le (by omega)] at p6
  rw [← p6] at d5
  have e1 := CrcMath.upd_sum (bytes_drop hb 4) hw (sumN_inj d5.symm)
  apply hne
  have := updB_drop4 a 4 wl 4 (encL kind ep data)
  rw [e1] at this
  rw [← List.take_append_drop 4 (updB (4 + a) wl 4 (encL kind ep data)), this, take_take_le t6 (by decide), List.take_append_drop]
theorem burst_nums (q : Nat) (z : Int) (h1 : 11 ≤ q) (h2 : q ≤ 208) : ∃ r a0 a : Nat, wrap64 ((q : Int) - 6) = (r : Int) ∧ IntKind.u64.wrap (r : Int) = (r : Int) ∧ (IntKind.u64.wrap z).tmod (r : Int) = (a0 : Int) ∧ wrap64 (a0 : Int) = (a0 : Int) ∧ wrap64 (6 + (a0 : Int)) = (a : Int) ∧ ((r : Int) == 0) = false ∧ ((r : Int) = 0) = False ∧ (r = 0) = False ∧ 6 ≤ a ∧ a < q := by
  obtain ⟨r, rfl⟩ : ∃ r, q = r + 6 := ⟨q - 6, by omega⟩
  have y0 : 0 ≤ IntKind.u64.wrap z := by rw [IntKind.wrap_u64]; exact Int.emod_nonneg _ (by decide)
  generalize IntKind.u64.wrap z = y at y0
  have rn : (r : Int) ≠ 0 := by omega
  have m0 : 0 ≤ y % (r : Int) := Int.emod_nonneg _ rn
  have m1 : y % (r : Int) < (r : Int) := Int.emod_lt_of_pos _ (by omega)
  rw [← Int.tmod_eq_emod_of_nonneg y0] at m0 m1
  obtain ⟨a0, ha⟩ := Int.eq_ofNat_of_zero_le m0
  rw [ha] at m1
  refine ⟨r, a0, 6 + a0, ?_, wu64 (by omega) (by omega), ha, ?_, ?_, beq_eq_false_iff_ne.2 rn, eq_false rn, eq_false (by omega), by omega, by omega⟩
  · rw [show ((r + 6 : Nat) : Int) - 6 = (r : Int) by omega]
    exact w64 (by omega) (by omega)
  · exact w64 (by omega) (by omega)
  · rw [show 6 + (a0 : Int) = ((6 + a0 : Nat) : Int) by omega]
    exact w64 (by omega) (by omega)
set_option maxRecDepth 100000 in
set_option maxHeartbeats 8000000 in
theorem fragBursts_law (kind ep : Int) (data : List Int) (A : Option Addr) (c : Nat) (at_ x0 x1 x2 x3 : Int) (w : World) (hC : (Kd.int .u8).C w A data.length data) (hc : data.length ≤ c) (hd : Bytes data) (he : 0 ≤ ep ∧ ep ≤ 4294967295)
    (hw : Bytes [x0, x1, x2, x3]) (hH : Half w) :
    Calls Tryd.prog 7 #[.agg #[.int .i64 kind, .int .u32 ep, .slice A data.length c], .int .i64 at_, .agg #[.int .u8 x0, .int .u8 x1, .int .u8 x2, .int .u8 x3]] w fun e W => e = .returned (.bool true) ∧ Below w.heap.size w W := by
  have H := Own.start w
  have FR := fun W (hb : Below w.heap.size w W) => strandlineref13_Right.calls kind ep A c data _ W (Kd.C_below hC hb) hc (rright_eq kind ep data)
  cases hr : rightF kind data.length with
  | false =>
    rw [hr] at FR
    generalize data.length = n at *
    go_enter Tryd.func7, Tryd.ntmps7
    go_wp2_with (first
    | ((with_reducible refine gate_dst (N := 3) rfl ?_); refine l_boxA rfl H 37 _ rfl _ rfl ?_; clear H; intro g3 W H)
    | ((with_reducible refine gate_dst (N := 5) rfl ?_); refine l_boxA rfl H 29 _ rfl _ rfl ?_; clear H; intro g5 W H)
    | ((with_reducible refine gate_dst (N := 14) rfl ?_); refine l_loadA rfl H 37 _ rfl _ rfl (by (repeat (first | exact In.head | apply In.tail))) _ _ Tryd.underlying37 rfl size37 (by (first | rfl | assumption | omega | (simp only [nums_length]; omega) | (simp [nums_length, zs]; done) | (simp [nums_length, zs]; omega))) ?_)
    | (go_at_call 31; (with_reducible refine (FR _ H.below).mono ?_); rintro e W ⟨rfl, hb⟩; replace H := H.to hb; clear hb)
    | (go_at_call 30; (with_reducible refine (awake13_calls _ (hH.below H.below)).mono ?_); rintro e W ⟨rfl, hb⟩; replace H := H.to hb; clear hb))
    go_ret
    exact ⟨rfl, H.below⟩
  | true =>
    rw [hr] at FR
    have EN := fun W (hb : Below w.heap.size w W) => encode_ok kind ep data A c W (Kd.C_below hC hb) hc hd he (hH.below hb) hr
    have hel := encL_len kind ep data
    obtain ⟨k1, k2, k3⟩ := right_parts hr
    have heb : Bytes (encL kind ep data) := encL_bytes (by omega) hd
    have hsame2 : strandlineref13_Same.f kind ep data kind ep data = some true := by unfold strandlineref13_Same.f; rw [if_pos rfl, if_pos rfl, beq_self_eq_true]
    have P1 := parts_enc kind ep data [] he k3
    have D1 := dec_enc kind ep ep data [] hr he
    rw [if_pos rfl] at D1
    rw [List.append_nil] at P1 D1
    obtain ⟨p1, p2, p3, -, p5, -⟩ := P1
    have BU := fun a h6 => dec_burst kind ep data [x0, x1, x2, x3] a he hr hd hw h6
    have DC := fun (l : List Int) (hl : l.length = 11 + data.length) A' c' W => decode_calls l ep A' c' W
    have DC : ∀ (l : List Int), l.length = 11 + data.length → Bytes l → ∀ A' c' W, (Kd.int .u8).C W A' (11 + data.length) l → 11 + data.length ≤ c' → Half W → Calls Tryd.prog 26 #[.slice A' (11 + data.length) c', .int .u32 ep] W fun e W' => Below W.heap.size W W' ∧
      ((decE l ep ≠ 0 ∧ e = .returned (.tuple #[.agg #[.int .i64 0, .int .u32 0, .slice none 0 0], .int .i64 0, .int .i64 (decE l ep)])) ∨
       (decE l ep = 0 ∧ ∃ A' c', e = .returned (.tuple #[.agg #[.int .i64 (kOf l), .int .u32 (eOf l), .slice A' (nOf l) c'], .int .i64 (11 + (nOf l : Int)), .int .i64 0]) ∧ nOf l ≤ c' ∧ (Kd.int .u8).C W' A' (nOf l) (decD l))) := fun l hl hb A' c' W h1 h2 hH => by
      rw [← hl] at h1 h2 ⊢
      exact decode_calls l ep A' c' W h1 h2 hb hH
    have RS := fun W A c A' c' => strandlineref13_Same.calls kind ep A c data kind ep A' c' data true W
    generalize encL kind ep data = E at *
    generalize hn : data.length = n at *
    have hq1 : 11 ≤ 11 + n := by omega
    have hq2 : 11 + n ≤ 208 := by omega
    generalize 11 + n = q at *
    have hl11 : decide ((q : Int) < 11) = false := decide_eq_false (by omega)
    obtain ⟨r, a0, a, w1', w2, ha, w3', w4', hr0, hr1, hr2, h6, haq⟩ := burst_nums q at_ hq1 hq2
    have v1 := (i64_w _).trans w1'
    have v3 := (i64_w _).trans w3'
    have v4 := (i64_w _).trans w4'
    have HQ := Aside0.mk (And.intro hq1 (And.intro hq2 (And.intro h6 haq)))
    clear hq1 hq2 h6 haq k1 k2 k3 hn
    go_enter Tryd.func7, Tryd.ntmps7
    go_wp2_with (first
    | ((with_reducible refine gate_dst (N := 3) rfl ?_); refine l_boxA rfl H 37 _ rfl _ rfl ?_; clear H; intro g3 W H)
    | ((with_reducible refine gate_dst (N := 5) rfl ?_); refine l_boxA rfl H 29 _ rfl _ rfl ?_; clear H; intro g5 W H)
    | ((with_reducible refine gate_dst (N := 14) rfl ?_); refine l_loadA rfl H 37 _ rfl _ rfl (by (repeat (first | exact In.head | apply In.tail))) _ _ Tryd.underlying37 rfl size37 (by (first | rfl | assumption | omega | (simp only [nums_length]; omega) | (simp [nums_length, zs]; done) | (simp [nums_length, zs]; omega))) ?_)
    | ((with_reducible refine gate_dst (N := 19) rfl ?_); refine l_loadA rfl H 37 _ rfl _ rfl (by (repeat (first | exact In.head | apply In.tail))) _ _ Tryd.underlying37 rfl size37 (by (first | rfl | assumption | omega | (simp only [nums_length]; omega) | (simp [nums_length, zs]; done) | (simp [nums_length, zs]; omega))) ?_)
    | (go_at_call 31; (with_reducible refine (FR _ H.below).mono ?_); rintro e W ⟨rfl, hb⟩; replace H := H.to hb; clear hb)
    | (go_at_call 29; (with_reducible refine (EN _ H.below).mono ?_); rintro e W1 ⟨A1, c1, rfl, h1, C1, hb⟩; replace H := H.to hb; clear hb EN; have F3 := (fun X (h : Below W1.heap.size W1 X) => (H.rdB (.tail .head) 0).below h); have F5 := (fun X (h : Below W1.heap.size W1 X) (i : Nat) => (H.rdB .head i).below h); rw [List.drop_zero] at F3; have HB := Aside0.mk H.below; have hC1 := Kd.C_below hC HB.out; have hH1 := hH.below HB.out; clear hC hH H; have H := Own.start W1)
    | ((with_reducible refine gate_dst (N := 30) rfl ?_); refine l_build0 rfl H 23 5 rfl Tryd.underlying23 (by kernel_rfl) ?_; clear H; intro g30 W H)
    | ((with_reducible refine gate_dst (N := 32) rfl ?_); refine l_append rfl H _ _ 23 5 rfl Tryd.underlying23 _ _ _ inf5 rfl (by decide) (by decide) _ 0 [] rfl .head A1 q c1 (nums .u8 E) rfl (by rw [nums_length, hel, Nat.mul_one]) (fun hp => (Rd.of_C (Kd.C_below C1 H.below)) (by rw [nums_length, hel]; exact hp)) nums_one (by have := HQ.out.2.1; omega) ?_; clear H; intro v32 W H; rw [Nat.zero_add, List.nil_append] at H; obtain ⟨g9, cap, cur, rfl, hcap, hcm, hcl, hct, H'⟩ := H.row_blk .head (Nat.lt_of_lt_of_le (by decide) HQ.out.1); clear H; have H := H'; clear H'))
    clear w1' w2 ha w3' w4' v1 v3 v4 hr0 hr1 hr2
    obtain ⟨ex, hex⟩ : ∃ ex, cur = nums .u8 E ++ ex := ⟨cur.drop q, by rw [← hct, Nat.mul_one, List.take_append_drop]⟩
    subst hex
    clear hct
    have HCAP := Aside0.mk hcap
    clear hcap hcm hcl
    obtain ⟨m, hm⟩ : ∃ m, min 4 (q - a) = m := ⟨_, rfl⟩
    have HM := Aside0.mk hm
    clear hm
    go_loopg [10] m (fun gq v10 w' => ∃ i : Nat, v10 = .int .i64 (i : Int) ∧ i + gq = m ∧ Own W1 F0 [.blk g9 5 (nums .u8 (updB a [x0, x1, x2, x3] i E) ++ ex)] w')
    case atStart => exact ⟨0, rfl, by omega, H⟩
    case round =>
      clear H
      obtain ⟨i, rfl, hi, H⟩ := hrel
      have hlu := updB_len a [x0, x1, x2, x3] E i
      by_cases ci : i < m
      · obtain ⟨gk', rfl⟩ : ∃ q, gk = q + 1 := ⟨gk - 1, by omega⟩
        have hi4 : i < 4 := by have := HM.out; omega
        have hiq : a + i < q := by have := HM.out; omega
        have q1 : decide ((i : Int) < 4) = true := decide_eq_true (by omega)
        have q2 : decide ((a : Int) + (i : Int) < (q : Int)) = true := decide_eq_true (by omega)
        have q3 : ((0 : Int) ≤ (i : Int)) = True := eq_true (by omega)
        have q4 : ((i : Int) < 4) = True := eq_true (by omega)
        obtain ⟨s, hs⟩ : ∃ s, a + i = s := ⟨_, rfl⟩
        have q5 : wrap64 ((a : Int) + (i : Int)) = (s : Int) := by
          rw [show (a : Int) + (i : Int) = (s : Int) by omega]
          exact w64 (by omega) (by have := HQ.out.2.1; omega)
        replace q5 := Aside0.mk q5
        have q6 : decide (s < q) = true := decide_eq_true (by omega)
        have q7 : ((0 : Int) ≤ (s : Int)) = True := eq_true (by omega)
        have q8 : ((s : Int) < (q : Int)) = True := eq_true (by omega)
        have hv : ([Value.int .u8 x0, Value.int .u8 x1, Value.int .u8 x2, Value.int .u8 x3].drop i)[0]? = some (Value.int .u8 ([x0, x1, x2, x3].getD i 0)) := by
          rcases (show i = 0 ∨ i = 1 ∨ i = 2 ∨ i = 3 by omega) with rfl | rfl | rfl | rfl <;> rfl
        have hfit : s < (nums .u8 (updB a [x0, x1, x2, x3] i E) ++ ex).length := by rw [List.length_append, nums_length, hlu, hel]; omega
        have hset : (nums .u8 (updB a [x0, x1, x2, x3] i E) ++ ex).set s (Value.int .u8 ([x0, x1, x2, x3].getD i 0)) = nums .u8 (updB a [x0, x1, x2, x3] (i + 1) E) ++ ex := by
          rw [List.set_append_left _ _ (by rw [nums_length, hlu, hel]; omega), nums_set, ← hs]
          rfl
        have HH := Aside0.mk (And.intro hi (And.intro hi4 (And.intro hiq hs)))
        have HS := Aside0.mk hset
        generalize hxi : [x0, x1, x2, x3].getD i 0 = xi at hv HS
        generalize nums .u8 (updB a [x0, x1, x2, x3] i E) ++ ex = cu at H hfit HS
        clear hi hi4 hiq hs ci hlu hset hxi
        have q5' := (i64_w _).trans q5.out
        replace q5 := q5.out
        go_wp2_with (first
    | ((with_reducible refine gate_store (t := 5) (p := 61) rfl ?_); refine l_store1 rfl H 5 _ _ rfl _ _ rfl _ (by first | (go_simp; done) | (go_simp; with_reducible rfl)) (by (repeat (first | exact In.head | apply In.tail))) rfl rfl size5 (by (first | rfl | assumption | omega | (simp only [nums_length]; omega) | (simp [nums_length, zs]; done) | (simp [nums_length, zs]; omega))) ?_; clear H; intro W H)
    | ((with_reducible refine gate_dst (N := 60) rfl ?_); refine l_run rfl _ (r_loadRd1 5 _ rfl 0 rfl (F5 _ H.below i) _ Tryd.underlying5 rfl _ hv) ?_))
        rw [HS.out] at H
        clear q5 q5'
        go_roundg gk'
        case measure => have := HH.out.1; omega
        case rel => exact ⟨i + 1, by have h4 := HH.out.2.1; rw [w64 (by omega) (by omega)]; rfl, by have := HH.out.1; omega, H⟩
      · have hend : updB a [x0, x1, x2, x3] 4 E = updB a [x0, x1, x2, x3] i E := by
          by_cases h4 : i = 4
          · rw [h4]
          · have := updB_stop (wl := [x0, x1, x2, x3]) (show E.length ≤ a + i by have := HM.out; omega) (4 - i)
            rwa [show i + (4 - i) = 4 by have := HM.out; omega] at this
        rw [← hend] at H
        have hu : Bytes (updB a [x0, x1, x2, x3] 4 E) := updB_in heb hw 4
        have hlu4 := updB_len a [x0, x1, x2, x3] E 4
        have BU := BU a HQ.out.2.2.1
        have hstr : (strOfNums (updB a [x0, x1, x2, x3] 4 E)).toList = (strOfNums E).toList → updB a [x0, x1, x2, x3] 4 E = E := CrcMath.strOfNums_inj hu heb
        generalize updB a [x0, x1, x2, x3] 4 E = U at H BU hu hlu4 hstr
        rw [hel] at hlu4
        have CU : ∀ {W : World}, Own W1 F0 [.blk g9 5 (nums .u8 U ++ ex)] W → (Kd.int .u8).C W (some ⟨g9, 0, none⟩) q U := fun H => by
          have h1 := (H.rdB .head 0).take q
          rw [List.drop_zero, List.take_append_of_le_length (by rw [nums_length, hlu4]; exact Nat.le_refl q), List.take_of_length_le (by rw [nums_length, hlu4]; exact Nat.le_refl q)] at h1
          exact h1.C hlu4 (by have := HQ.out.2.1; omega)
        obtain ⟨s, hs⟩ : ∃ s, a + i = s := ⟨_, rfl⟩
        have hsn : s ≤ 1000 := by have := HQ.out; have := HM.out; omega
        have q12 : (decide ((i : Int) < 4) = true ∧ decide (s < q) = false) ∨ decide ((i : Int) < 4) = false := by
          by_cases h4 : i < 4
          · exact .inl ⟨decide_eq_true (by omega), decide_eq_false (by have := HM.out; omega)⟩
          · exact .inr (decide_eq_false (by omega))
        have q5 : wrap64 ((a : Int) + (i : Int)) = (s : Int) := by
          rw [show (a : Int) + (i : Int) = (s : Int) by omega]
          exact w64 (by omega) (by omega)
        clear hs hsn hi ci hlu hend
        have q5' := (i64_w _).trans q5
        by_cases hU : U = E
        · subst hU
          have DU := DC U hlu4 hu
          rw [D1, p1, p2, p3, p5] at DU
          rcases q12 with ⟨q1, q2⟩ | q1
          all_goals
            go_wp2_with (first
    | ((with_reducible refine gate_dst (N := 11) rfl ?_); refine l_allocA rfl H 37 rfl _ zero37 ?_; clear H; intro g11 W H)
    | ((with_reducible refine gate_store (t := 37) (p := 11) rfl ?_); refine l_storeW rfl H 37 _ _ rfl _ rfl _ rfl (by (repeat (first | exact In.head | apply In.tail))) _ size37 (by (first | rfl | assumption | omega | (simp only [nums_length]; omega) | (simp [nums_length, zs]; done) | (simp [nums_length, zs]; omega))) (by (first | rfl | assumption | omega | (simp only [nums_length]; omega) | (simp [nums_length, zs]; done) | (simp [nums_length, zs]; omega))) (by (first | exact nums_one | (intro u hu; simp at hu; subst hu; rfl) | (intro u hu; simp at hu; rcases hu with rfl | rfl | rfl | rfl | rfl | rfl | rfl <;> rfl) | (intro u hu; simp at hu; rcases hu with rfl | rfl | rfl | rfl <;> rfl) | (intro u hu; simp at hu; rcases hu with rfl | rfl | rfl <;> rfl) | (intro u hu; simp at hu; rcases hu with rfl | rfl <;> rfl))) ?_; clear H; intro W H)
    | ((with_reducible refine gate_dst (N := 78) rfl ?_); refine gate_guard (by rfl) ?_; refine l_loadA rfl H 37 _ rfl _ rfl (by (repeat (first | exact In.head | apply In.tail))) _ _ Tryd.underlying37 rfl size37 (by (first | rfl | assumption | omega | (simp only [nums_length]; omega) | (simp [nums_length, zs]; done) | (simp [nums_length, zs]; omega))) ?_)
    | ((with_reducible refine gate_dst (N := 65) rfl ?_); refine l_run rfl _ (r_loadRd1 22 _ rfl 1 rfl (F3 _ H.below) _ Tryd.underlying22 rfl _ rfl) ?_)
    | (go_at_call 26; (with_reducible refine (DU _ _ _ (CU H) HCAP.out (hH1.below H.below)).mono ?_); rintro e W2 ⟨hb, h⟩; replace h := h.resolve_left (fun h => h.1 rfl); obtain ⟨-, A3, c3, rfl, h3, C3⟩ := h; have C9 := Kd.C_below (CU H) hb; have hB2 := H.below.trans (hb.mono H.below.size); replace F3 := (fun X (h : Below W2.heap.size W2 X) => (F3 W2 hB2).below h); replace C1 := Kd.C_below C1 hB2; replace hC1 := Kd.C_below hC1 hB2; replace HB := Aside0.mk (HB.out.trans (hB2.mono HB.out.size)); replace hH1 := hH1.below hB2; clear hb hB2 H; have H := Own.start W2)
    | ((with_reducible refine gate_dst (N := 71) rfl ?_); refine l_run rfl (.string (strOfNums U)) (r_strC 23 9 5 _ rfl rfl (Kd.C_below C9 H.below) Tryd.underlying23 Tryd.underlying5 Tryd.underlying9) ?_)
    | ((with_reducible refine gate_dst (N := 73) rfl ?_); refine l_run rfl (.string (strOfNums U)) (r_strC 23 9 5 _ rfl rfl (Kd.C_below C1 H.below) Tryd.underlying23 Tryd.underlying5 Tryd.underlying9) ?_)
    | ((with_reducible refine gate_dst (N := 79) rfl ?_); refine gate_guard (by rfl) ?_; refine l_run rfl _ (r_loadRd0 37 _ rfl rfl (F3 _ H.below) 3 _ Tryd.underlying37 rfl size37 (by decide) rfl) ?_)
    | (go_at_call 28; (with_reducible refine (RS _ _ _ _ _ (Kd.C_below C3 H.below) h3 (Kd.C_below hC1 H.below) hc hsame2).mono ?_); rintro e W ⟨rfl, hb⟩; replace H := H.to hb; clear hb)
    | (go_at_call 30; (with_reducible refine (awake13_calls _ (hH1.below H.below)).mono ?_); rintro e W ⟨rfl, hb⟩; replace H := H.to hb; clear hb))
            go_ret
            exact ⟨rfl, HB.out.trans (H.below.mono HB.out.size)⟩
        · have D0 := BU hU
          have DU := DC U hlu4 hu
          have hns : ((strOfNums U).toList == (strOfNums E).toList) = false := beq_eq_false_iff_ne.2 (fun h => hU (hstr h))
          clear hstr
          generalize decE U ep = dE at DU D0
          have d1 : (dE == 0) = false := beq_eq_false_iff_ne.2 D0
          have d2 : (dE != 0) = true := bne_iff_ne.2 D0
          rcases q12 with ⟨q1, q2⟩ | q1
          all_goals
            go_wp2_with (first
    | ((with_reducible refine gate_dst (N := 11) rfl ?_); refine l_allocA rfl H 37 rfl _ zero37 ?_; clear H; intro g11 W H)
    | ((with_reducible refine gate_store (t := 37) (p := 11) rfl ?_); refine l_storeW rfl H 37 _ _ rfl _ rfl _ rfl (by (repeat (first | exact In.head | apply In.tail))) _ size37 (by (first | rfl | assumption | omega | (simp only [nums_length]; omega) | (simp [nums_length, zs]; done) | (simp [nums_length, zs]; omega))) (by (first | rfl | assumption | omega | (simp only [nums_length]; omega) | (simp [nums_length, zs]; done) | (simp [nums_length, zs]; omega))) (by (first | exact nums_one | (intro u hu; simp at hu; subst hu; rfl) | (intro u hu; simp at hu; rcases hu with rfl | rfl | rfl | rfl | rfl | rfl | rfl <;> rfl) | (intro u hu; simp at hu; rcases hu with rfl | rfl | rfl | rfl <;> rfl) | (intro u hu; simp at hu; rcases hu with rfl | rfl | rfl <;> rfl) | (intro u hu; simp at hu; rcases hu with rfl | rfl <;> rfl))) ?_; clear H; intro W H)
    | ((with_reducible refine gate_dst (N := 65) rfl ?_); refine l_run rfl _ (r_loadRd1 22 _ rfl 1 rfl (F3 _ H.below) _ Tryd.underlying22 rfl _ rfl) ?_)
    | (go_at_call 26; (with_reducible refine (DU _ _ _ (CU H) HCAP.out (hH1.below H.below)).mono ?_); rintro e W2 ⟨hb, h⟩; replace h := h.resolve_right (fun h => D0 h.1); obtain ⟨-, rfl⟩ := h; replace H := H.to hb; clear hb)
    | ((with_reducible refine gate_dst (N := 71) rfl ?_); refine l_run rfl (.string (strOfNums U)) (r_strC 23 9 5 _ rfl rfl (CU (H.del .head)) Tryd.underlying23 Tryd.underlying5 Tryd.underlying9) ?_)
    | ((with_reducible refine gate_dst (N := 73) rfl ?_); refine l_run rfl (.string (strOfNums E)) (r_strC 23 9 5 _ rfl rfl (Kd.C_below C1 H.below) Tryd.underlying23 Tryd.underlying5 Tryd.underlying9) ?_)
    | (go_at_call 30; (with_reducible refine (awake13_calls _ (hH1.below H.below)).mono ?_); rintro e W ⟨rfl, hb⟩; replace H := H.to hb; clear hb))
            go_ret
            exact ⟨rfl, HB.out.trans (H.below.mono HB.out.size)⟩
end Go.Proofs.YthhbilkmdfdfiaaDoor.O
