/- strandlinelaw03.CrcBursts by hand: the walk. -/
import Derived.Test.YthhbilkmdfdfiaaDoorHcrc
import Derived.Test.YthhbilkmdfdfiaaDoorAwake03
namespace Go.Proofs.YthhbilkmdfdfiaaDoor.F
open Go.RowKit Go.Proofs.YthhbilkmdfdfiaaDoorW.PrintWords Go.Proofs.YthhbilkmdfdfiaaDoorW.PrintLast Go.Proofs.YthhbilkmdfdfiaaDoorW.PrintMore
set_option linter.unusedVariables false
set_option linter.unusedSimpArgs false
def updB (a : Nat) (wl : List Int) : Nat → List Int → List Int
  | 0, b => b
  | i + 1, b => (updB a wl i b).set (a + i) (wl.getD i 0)
theorem updB_len (a : Nat) (wl b : List Int) (i : Nat) : (updB a wl i b).length = b.length := by
  induction i with
  | zero => rfl
  | succ i ih => show ((updB a wl i b).set (a + i) (wl.getD i 0)).length = _; rw [List.length_set, ih]
theorem updB_stop {a : Nat} {wl b : List Int} {i : Nat} (h : b.length ≤ a + i) (j : Nat) : updB a wl (i + j) b = updB a wl i b := by
  induction j with
  | zero => rfl
  | succ j ih =>
    show (updB a wl (i + j) b).set (a + (i + j)) (wl.getD (i + j) 0) = _
    rw [List.set_eq_of_length_le (by rw [updB_len]; omega), ih]
theorem updB_in {a : Nat} {wl b : List Int} (hb : ∀ c ∈ b, 0 ≤ c ∧ c ≤ 255) (hx : ∀ c ∈ wl, 0 ≤ c ∧ c ≤ 255) (i : Nat) : ∀ c ∈ updB a wl i b, 0 ≤ c ∧ c ≤ 255 := by
  induction i with
  | zero => exact hb
  | succ i ih =>
    intro c hc
    rcases List.mem_or_eq_of_mem_set (show c ∈ (updB a wl i b).set (a + i) (wl.getD i 0) from hc) with h | rfl
    · exact ih c h
    · rw [List.getD_eq_getElem?_getD]
      cases h : wl[i]? with
      | none => simp
      | some v => exact hx v (List.mem_of_getElem? h)
theorem addr_zero_add (g j : Nat) : (Addr.mk g 0 none).add j = ⟨g, j, none⟩ := by
  unfold Addr.add
  by_cases h : j = 0
  · subst h; rfl
  · simp [h]
set_option maxHeartbeats 4000000 in
set_option maxRecDepth 100000 in
theorem bursts_calls (b : List Int) (A1 : Option Addr) (c1 : Nat) (at_ x0 x1 x2 x3 : Int) (w : World) (hr : Kd.C (Kd.int .u8) w A1 b.length b) (hc : b.length ≤ c1) (hb : ∀ c ∈ b, 0 ≤ c ∧ c ≤ 255)
    (hx : ∀ c ∈ [x0, x1, x2, x3], 0 ≤ c ∧ c ≤ 255) (hH : Half w)
    (hres : b.length ≠ 0 → ((moreI 0 (updB (IntKind.u64.wrap at_ % b.length).toNat [x0, x1, x2, x3] 4 b) == moreI 0 b) == ((strOfNums (updB (IntKind.u64.wrap at_ % b.length).toNat [x0, x1, x2, x3] 4 b)).toList == (strOfNums b).toList)) = true) :
    Calls Tryd.prog 4 #[.slice A1 b.length c1, .int .i64 at_, .agg #[.int .u8 x0, .int .u8 x1, .int .u8 x2, .int .u8 x3]] w fun e w' => e = .returned (.bool true) ∧ Below w.heap.size w w' := by
  have HR := Aside0.mk hr
  have HC := Aside0.mk hc
  have HH := Aside0.mk hH
  have HX := Aside0.mk hx
  have HS := Aside0.mk hres
  have HBB := Aside0.mk hb
  clear hr hc hH hx hres hb
  have HW := Aside0.mk (blk_new w (.cells #[.int .u8 x0, .int .u8 x1, .int .u8 x2, .int .u8 x3] 29))
  have HB := Aside0.mk (below_alloc (Below.refl w.heap.size w) (.cells #[.int .u8 x0, .int .u8 x1, .int .u8 x2, .int .u8 x3] 29))
  by_cases z1 : b.length > 20000
  · have d1 : decide (20000 < (b.length : Int)) = true := decide_eq_true (by omega)
    go_enter Tryd.func4, Tryd.ntmps4
    go_wp2_with fail
    refine (strandlinelaw03_awake.calls true _ rfl (HH.out.below HB.out)).mono ?_
    rintro e w2 ⟨rfl, hb2⟩
    go_wp2
    go_ret
    exact ⟨rfl, HB.out.trans (hb2.mono HB.out.size)⟩
  · have d1 : decide (20000 < (b.length : Int)) = false := decide_eq_false (by omega)
    by_cases z2 : b.length = 0
    · have d2 : ((b.length : Int) == 0) = true := beq_iff_eq.2 (by omega)
      go_enter Tryd.func4, Tryd.ntmps4
      go_wp2_with fail
      refine (strandlinelaw03_awake.calls true _ rfl (HH.out.below HB.out)).mono ?_
      rintro e w2 ⟨rfl, hb2⟩
      go_wp2
      go_ret
      exact ⟨rfl, HB.out.trans (hb2.mono HB.out.size)⟩
    · have d2 : ((b.length : Int) == 0) = false := beq_eq_false_iff_ne.2 (by omega)
      go_enter Tryd.func4, Tryd.ntmps4
      have hlen : b.length ≤ 20000 := by omega
      have hu : IntKind.u64.wrap (b.length : Int) = b.length := by rw [IntKind.wrap_u64]; omega
      have hw0 : 0 ≤ IntKind.u64.wrap at_ := by rw [IntKind.wrap_u64]; omega
      have hm0 : 0 ≤ IntKind.u64.wrap at_ % (b.length : Int) := Int.emod_nonneg _ (by omega)
      have hm1 : IntKind.u64.wrap at_ % (b.length : Int) < b.length := Int.emod_lt_of_pos _ (by omega)
      obtain ⟨a, ha⟩ := Int.eq_ofNat_of_zero_le hm0
      rw [ha] at hm1 HS
      rw [Int.toNat_natCast] at HS
      clear hm0
      go_wp2_with (first
        | ((with_reducible refine gate_dst (N := 18) rfl ?_)
           refine Kd.R_lit (Kd.int .u8) _ 5 ?hg (N := 18) ?hd (xs := ([] : List Int)) (inner := []) (ok := fun _ => True) (okp := fun _ => True) ?hr ?hp (fun _ hk => hk) trivial (Below.refl _ _) (Nat.le_refl _) (by simp) ?_
           (case hd => rfl)
           (case hg => rfl)
           (case hr => first | (go_simp; done) | (go_simp; rfl))
           (case hp => exact (Reps.none _ _))
           intro v1 w1 ho1 hb1 hg_ hnew_
           clear hg_ hnew_
           have HB1 := Aside0.mk (HB.out.trans (hb1.mono HB.out.size))
           have HW1 := Aside0.mk (blk_below HW.out hb1)
           have HO1 := Aside0.mk (Kd.R_lower ho1 HB.out.size)
           have HR1 := Aside0.mk (Kd.C_below HR.out HB1.out)
           clear ho1 hb1 HW HB)
        | ((with_reducible refine gate_builtin (b := .append) (xs := #[.tmp 18, .tmp 19]) rfl ?_)
           refine Kd.R_append_rows (Kd.int .u8) (w0 := w) w.heap.size rfl (.tmp 18) (.tmp 19) 23 5 (.int .u8 0) 1 rfl Tryd.underlying23 info5 rfl (by decide) (by omega) v1 ([] : List Int) b _ _ _ (fun _ => True) (fun _ => False) rfl rfl HO1.out ?aR (fun _ _ h => h) (fun _ h => h.elim) (fun _ _ => trivial) HB1.out HB1.out.size ?aL ?_
           (case aR => exact HR1.out)
           (case aL => simp; omega)
           intro v2 w2 ho2 hb2 hg2 hat2
           have HW2 := Aside0.mk (blk_grown HW1.out hg2 (Kd.R_ne HO1.out HW1.out (by decide)))
           have HB2 := Aside0.mk hb2
           clear hg2 hat2 HW1 HO1 HR1 HB1
           rw [List.nil_append] at ho2
           obtain ⟨g, cap, rfl, hgb, hgl, cells, hcells⟩ := Kd.R_form ho2 (by omega)
           have HO2 := Aside0.mk ho2
           clear ho2 hb2 hcells cells))
      go_loopg [8] 4 (fun gq v8 w' => ∃ i : Nat, v8 = .int .i64 i ∧ Aside0 (i + gq = 4) ∧ Aside0 (Kd.R (Kd.int .u8) 5 w' w.heap.size (fun _ => True) (.slice (some ⟨g, 0, none⟩) b.length cap) (updB a [x0, x1, x2, x3] i b)) ∧ Aside0 (w'.heap[w.heap.size]? = some (.cells #[.int .u8 x0, .int .u8 x1, .int .u8 x2, .int .u8 x3] 29 (0, 0))) ∧ Aside0 (Below w.heap.size w w'))
      case atStart => exact ⟨0, rfl, ⟨rfl⟩, HO2, HW2, HB2⟩
      case round =>
        clear HO2 HW2 HB2
        obtain ⟨i, rfl, HQ, HO, HW, HB⟩ := hrel
        by_cases ci : i < 4
        · by_cases cn : a + i < b.length
          · obtain ⟨gk', rfl⟩ : ∃ q, gk = q + 1 := ⟨gk - 1, by have := HQ.out; omega⟩
            have q1 : decide ((i : Int) < 4) = true := decide_eq_true (by omega)
            have q2 : decide ((a : Int) + (i : Int) < (b.length : Int)) = true := decide_eq_true (by omega)
            have p0 : ((0 : Int) ≤ (i : Int)) = True := eq_true (by omega)
            have p1 : ((i : Int) < 4) = True := eq_true (by omega)
            have p2 : ((0 : Int) ≤ (a : Int) + (i : Int)) = True := eq_true (by omega)
            have p3 : ((a : Int) + (i : Int) < (b.length : Int)) = True := eq_true (by omega)
            have y0 : wr.cell? ⟨w.heap.size, i, none⟩ = some (.int .u8 ([x0, x1, x2, x3].getD i 0)) := by
              rw [blk_cell HW.out i]
              rcases (show i = 0 ∨ i = 1 ∨ i = 2 ∨ i = 3 by omega) with rfl | rfl | rfl | rfl <;> rfl
            have hlu := updB_len a [x0, x1, x2, x3] b i
            obtain ⟨y1, y2⟩ : (∃ u, wr.cell? ⟨g, a + i, none⟩ = some u) ∧ wr.frozen? ⟨g, a + i, none⟩ = false := by
              obtain ⟨g2, cap2, e2, -, -, cells, hcells⟩ := Kd.R_form HO.out (by omega)
              have hg : g2 = g := by injection e2 with h1; injection h1 with h1; injection h1 with h1; exact h1.symm
              subst hg
              refine ⟨?_, blk_frozen hcells _⟩
              have hC := (Kd.R_reads' HO.out).2.2
              obtain ⟨ad, c, e, hl, hK, hcc⟩ := Kd.C_get hC 0 ((a + i : Nat) : Int) (by omega) (by omega)
              have hc' : c = [.int .u8 ((updB a [x0, x1, x2, x3] i b).getD (((a + i : Nat) : Int)).toNat 0)] := hK
              subst hc'
              have h0 := hcc 0 _ rfl
              rw [Int.toNat_natCast, show (Kd.int .u8).sz = 1 from rfl, ← Option.some.inj e] at h0
              exact ⟨_, by simpa [addr_zero_add] using h0⟩
            obtain ⟨u, y1⟩ := y1
            have HO3 := Aside0.mk (Kd.R_putn HO.out ((a + i : Nat) : Int) ([x0, x1, x2, x3].getD i 0))
            rw [Int.toNat_natCast] at HO3
            generalize hv : [x0, x1, x2, x3].getD i 0 = v at y0 HO3
            have HW3 := Aside0.mk (blk_far (p := ⟨g, a + i, none⟩) HW.out (by
              obtain ⟨g2, cap2, e2, -, -, cells, hcells⟩ := Kd.R_form HO.out (by omega)
              have hg : g2 = g := by injection e2 with h1; injection h1 with h1; injection h1 with h1; exact h1.symm
              subst hg
              exact blk_ne HW.out hcells (by decide)) (.int .u8 v))
            have HB3 := Aside0.mk (show Below w.heap.size w (wr.setCell ⟨g, a + i, none⟩ (.int .u8 v)) from below_set HB.out hgb)
            clear HO HW HB
            go_wp2_with fail
            go_roundg gk'
            case measure => omega
            case rel => exact ⟨i + 1, rfl, ⟨by have := HQ.out; omega⟩, ⟨by show Kd.R _ _ _ _ _ _ ((updB a [x0, x1, x2, x3] i b).set (a + i) ([x0, x1, x2, x3].getD i 0)); rw [hv]; exact HO3.out⟩, HW3, HB3⟩
          · have q1 : decide ((i : Int) < 4) = true := decide_eq_true (by omega)
            have q2 : decide ((a : Int) + (i : Int) < (b.length : Int)) = false := decide_eq_false (by omega)
            have hend : updB a [x0, x1, x2, x3] 4 b = updB a [x0, x1, x2, x3] i b := by
              have := updB_stop (wl := [x0, x1, x2, x3]) (show b.length ≤ a + i by omega) (4 - i)
              rwa [show i + (4 - i) = 4 by omega] at this
            rw [← hend] at HO
            have hlu := updB_len a [x0, x1, x2, x3] b 4
            have hin := updB_in (a := a) HBB.out HX.out 4
            have hs := HS.out z2
            generalize updB a [x0, x1, x2, x3] 4 b = cN at HO hlu hin hs
            have HCN := Aside0.mk (by have := (Kd.R_reads' HO.out).2.2; rwa [hlu] at this)
            have HCB := Aside0.mk (Kd.C_below HR.out HB.out)
            have HH2 := Aside0.mk (HH.out.below HB.out)
            have hcap : b.length ≤ cap := (Kd.R_reads' HO.out).2.1
            have cvN : ∀ w', Kd.C (Kd.int .u8) w' (some ⟨g, 0, none⟩) b.length cN → Sem.run Tryd.prog (convert 23 9 (.slice (some ⟨g, 0, none⟩) b.length cap)) w' = .ok (.string (strOfNums cN)) w' := fun w' h => by rw [← hlu] at h ⊢; exact Kd.C_string (P := Tryd.prog) (A := some ⟨g, 0, none⟩) (c := cap) Tryd.underlying23 Tryd.underlying5 Tryd.underlying9 h
            have cvB : ∀ w', Kd.C (Kd.int .u8) w' A1 b.length b → Sem.run Tryd.prog (convert 23 9 (.slice A1 b.length c1)) w' = .ok (.string (strOfNums b)) w' := fun w' h => Kd.C_string (P := Tryd.prog) (A := A1) (c := c1) Tryd.underlying23 Tryd.underlying5 Tryd.underlying9 h
            have ofN : ∀ w', Kd.C (Kd.int .u8) w' (some ⟨g, 0, none⟩) b.length cN → Half w' → Calls Tryd.prog 16 #[.slice (some ⟨g, 0, none⟩) b.length cap] w' fun e w2 => e = .returned (.int .u32 (moreI 0 cN)) ∧ Drawn0 w' w2 := fun w' h hh => by rw [← hlu] at h ⊢; exact of_calls _ cap cN w' h (by rw [hlu]; exact hcap) hin hh
            clear HO HW hlu hend
            go_wp2_with fail
            refine start_ (n := 15) (S := fun w' => Kd.C (Kd.int .u8) w' (some ⟨g, 0, none⟩) b.length cN ∧ Kd.C (Kd.int .u8) w' A1 b.length b) (ds := []) #[false, false, false, false, false, false, false, false, false, false, false, false, false, false, false] (by kernel_rfl) rfl rfl ⟨HCN.out, HCB.out⟩ (fun hHeld => ?_)
            refine pure_ (i := 0) (N := some 48) (v := ?_) (a' := ?_) #[true, false, false, false, false, false, false, false, false, false, false, false, false, false, false] rfl rfl (by kernel_rfl) (fun _ _ _ h => h) (Or.inl ⟨by rfl, ?_⟩) ?_ ?_
            rotate_left
            · intro w'
              go_simp
              with_reducible rfl
            rotate_left
            · simp only [Act.put, List.setIfInBounds_toArray, List.set_cons_zero, List.set_cons_succ, i64_w, i32_w]
              rfl
            refine pure_ (i := 2) (N := some 50) (v := ?_) (a' := ?_) #[true, false, true, false, false, false, false, false, false, false, false, false, false, false, false] rfl rfl (by kernel_rfl) (fun _ _ _ h => h) (Or.inl ⟨by rfl, ?_⟩) ?_ ?_
            rotate_left
            · intro w'
              go_simp
              with_reducible rfl
            rotate_left
            · simp only [Act.put, List.setIfInBounds_toArray, List.set_cons_zero, List.set_cons_succ, i64_w, i32_w]
              rfl
            refine pure_ (i := 5) (N := some 53) (v := ?_) (a' := ?_) #[true, false, true, false, false, true, false, false, false, false, false, false, false, false, false] rfl rfl (by kernel_rfl) (fun _ _ _ h => h) (Or.inl ⟨by rfl, ?_⟩) ?_ ?_
            rotate_left
            · intro w'
              go_simp
              with_reducible rfl
            rotate_left
            · simp only [Act.put, List.setIfInBounds_toArray, List.set_cons_zero, List.set_cons_succ, i64_w, i32_w]
              rfl
            refine take_ (i := 6) (N := some 54) (v := ?_) (a' := ?_) #[true, false, true, false, false, true, true, false, false, false, false, false, false, false, false] rfl rfl (by kernel_rfl) (fun _ _ _ h => h) (Or.inl ⟨by rfl, ?_⟩) hHeld ?_ ?_
            rotate_left
            · rintro w' ⟨s0, s1⟩
              have cv := cvN w' s0
              go_simp
              with_reducible rfl
            rotate_left
            · simp only [Act.put, List.setIfInBounds_toArray, List.set_cons_zero, List.set_cons_succ, i64_w, i32_w]
              rfl
            refine pure_ (i := 7) (N := some 55) (v := ?_) (a' := ?_) #[true, false, true, false, false, true, true, true, false, false, false, false, false, false, false] rfl rfl (by kernel_rfl) (fun _ _ _ h => h) (Or.inl ⟨by rfl, ?_⟩) ?_ ?_
            rotate_left
            · intro w'
              go_simp
              with_reducible rfl
            rotate_left
            · simp only [Act.put, List.setIfInBounds_toArray, List.set_cons_zero, List.set_cons_succ, i64_w, i32_w]
              rfl
            refine take_ (i := 8) (N := some 56) (v := ?_) (a' := ?_) #[true, false, true, false, false, true, true, true, true, false, false, false, false, false, false] rfl rfl (by kernel_rfl) (fun _ _ _ h => h) (Or.inl ⟨by rfl, ?_⟩) hHeld ?_ ?_
            rotate_left
            · rintro w' ⟨s0, s1⟩
              have cv := cvB w' s1
              go_simp
              with_reducible rfl
            rotate_left
            · simp only [Act.put, List.setIfInBounds_toArray, List.set_cons_zero, List.set_cons_succ, i64_w, i32_w]
              rfl
            refine pure_ (i := 9) (N := some 57) (v := ?_) (a' := ?_) #[true, false, true, false, false, true, true, true, true, true, false, false, false, false, false] rfl rfl (by kernel_rfl) (fun _ _ _ h => h) (Or.inl ⟨by rfl, ?_⟩) ?_ ?_
            rotate_left
            · intro w'
              go_simp
              with_reducible rfl
            rotate_left
            · simp only [Act.put, List.setIfInBounds_toArray, List.set_cons_zero, List.set_cons_succ, i64_w, i32_w]
              rfl
            refine one_ (i := 1) (N := some 49) #[true, true, true, false, false, true, true, true, true, true, false, false, false, false, false] rfl rfl (by kernel_rfl) (by decide) (fun K hK => ?_)
            refine goes_ Tryd.func16 (by kernel_rfl) rfl #[.slice (some ⟨g, 0, none⟩) b.length cap] (by rfl) rfl rfl (by (try simp only [List.map_toArray, List.map_cons, List.map_nil]); first | done | rfl) ?_
            refine (ofN _ (Kd.C_drew HCN.out) (HH2.out.drew)).mono ?_
            rintro e w' ⟨rfl, ⟨n1, rfl⟩⟩
            refine ⟨_, rfl, ?_⟩
            refine hK.out _ _ ⟨Kd.C_drewN (Kd.C_drew HCN.out) n1, Kd.C_drewN (Kd.C_drew HCB.out) n1⟩ (fun hHeld => ?_)
            clear hK K
            refine norm_ (a' := ?_) ?_ ?_
            rotate_left
            · show Act.put _ (some 49) _ = _
              simp only [Act.put, List.setIfInBounds_toArray, List.set_cons_zero, List.set_cons_succ, i64_w, i32_w]
              rfl
            refine one_ (i := 3) (N := some 51) #[true, true, true, true, false, true, true, true, true, true, false, false, false, false, false] rfl rfl (by kernel_rfl) (by decide) (fun K hK => ?_)
            refine goes_ Tryd.func16 (by kernel_rfl) rfl #[.slice A1 b.length c1] (by rfl) rfl rfl (by (try simp only [List.map_toArray, List.map_cons, List.map_nil]); first | done | rfl) ?_
            refine (of_calls A1 c1 b _ (Kd.C_drewN (Kd.C_drew HCB.out) n1) HC.out HBB.out ((HH2.out.drew).drewN n1)).mono ?_
            rintro e w' ⟨rfl, ⟨n2, rfl⟩⟩
            refine ⟨_, rfl, ?_⟩
            refine hK.out _ _ ⟨Kd.C_drewN (Kd.C_drewN (Kd.C_drew HCN.out) n1) n2, Kd.C_drewN (Kd.C_drewN (Kd.C_drew HCB.out) n1) n2⟩ (fun hHeld => ?_)
            clear hK K
            refine norm_ (a' := ?_) ?_ ?_
            rotate_left
            · show Act.put _ (some 51) _ = _
              simp only [Act.put, List.setIfInBounds_toArray, List.set_cons_zero, List.set_cons_succ, i64_w, i32_w]
              rfl
            refine pure_ (i := 4) (N := some 52) (v := ?_) (a' := ?_) #[true, true, true, true, true, true, true, true, true, true, false, false, false, false, false] rfl rfl (by kernel_rfl) (fun _ _ _ h => h) (Or.inl ⟨by rfl, ?_⟩) ?_ ?_
            rotate_left
            · intro w'
              go_simp
              with_reducible rfl
            rotate_left
            · simp only [Act.put, List.setIfInBounds_toArray, List.set_cons_zero, List.set_cons_succ, i64_w, i32_w]
              rfl
            refine pure_ (i := 10) (N := some 58) (v := ?_) (a' := ?_) #[true, true, true, true, true, true, true, true, true, true, true, false, false, false, false] rfl rfl (by kernel_rfl) (fun _ _ _ h => h) (Or.inl ⟨by rfl, ?_⟩) ?_ ?_
            rotate_left
            · intro w'
              go_simp
              with_reducible rfl
            rotate_left
            · simp only [Act.put, List.setIfInBounds_toArray, List.set_cons_zero, List.set_cons_succ, i64_w, i32_w]
              rfl
            refine pure_ (i := 11) (N := some 59) (v := ?_) (a' := ?_) #[true, true, true, true, true, true, true, true, true, true, true, true, false, false, false] rfl rfl (by kernel_rfl) (fun _ _ _ h => h) (Or.inl ⟨by rfl, ?_⟩) ?_ ?_
            rotate_left
            · intro w'
              go_simp
              with_reducible rfl
            rotate_left
            · simp only [Act.put, List.setIfInBounds_toArray, List.set_cons_zero, List.set_cons_succ, i64_w, i32_w]
              rfl
            refine one_ (i := 12) (N := some 60) #[true, true, true, true, true, true, true, true, true, true, true, true, true, false, false] rfl rfl (by kernel_rfl) (by decide) (fun K hK => ?_)
            refine goes_ Tryd.func15 (by kernel_rfl) rfl #[] (by rfl) rfl rfl (by (try simp only [List.map_toArray, List.map_cons, List.map_nil]); first | done | rfl) ?_
            refine (strandlinelaw03_awake.calls true _ rfl (((HH2.out.drew).drewN n1).drewN n2)).mono ?_
            rintro e w' ⟨rfl, hb4⟩
            refine ⟨_, rfl, ?_⟩
            refine hK.out _ _ ⟨Kd.C_below (Kd.C_drewN (Kd.C_drewN (Kd.C_drew HCN.out) n1) n2) hb4, Kd.C_below (Kd.C_drewN (Kd.C_drewN (Kd.C_drew HCB.out) n1) n2) hb4⟩ (fun hHeld => ?_)
            clear hK K
            refine norm_ (a' := ?_) ?_ ?_
            rotate_left
            · show Act.put _ (some 60) _ = _
              simp only [Act.put, List.setIfInBounds_toArray, List.set_cons_zero, List.set_cons_succ, i64_w, i32_w]
              rfl
            refine pure_ (i := 13) (N := some 61) (v := ?_) (a' := ?_) #[true, true, true, true, true, true, true, true, true, true, true, true, true, true, false] rfl rfl (by kernel_rfl) (fun _ _ _ h => h) (Or.inl ⟨by rfl, ?_⟩) ?_ ?_
            rotate_left
            · intro w'
              go_simp
              with_reducible rfl
            rotate_left
            · simp only [Act.put, List.setIfInBounds_toArray, List.set_cons_zero, List.set_cons_succ, i64_w, i32_w]
              rfl
            refine pure_ (i := 14) (N := some 6) (v := ?_) (a' := ?_) #[true, true, true, true, true, true, true, true, true, true, true, true, true, true, true] rfl rfl (by kernel_rfl) (fun _ _ _ h => h) (Or.inl ⟨by rfl, ?_⟩) ?_ ?_
            rotate_left
            · intro w'
              go_simp
              with_reducible rfl
            rotate_left
            · simp only [Act.put, List.setIfInBounds_toArray, List.set_cons_zero, List.set_cons_succ, i64_w, i32_w]
              rfl
            refine done_ (by kernel_rfl) ?_
            go_wp2
            go_ret
            exact ⟨rfl, Below.trans (pw_below_drewN (pw_below_drewN (below_drew1 HB.out) n1) n2) (hb4.mono (by have := HB.out.size; exact this))⟩
        · have hi4 : i = 4 := by have := HQ.out; omega
          have q1 : decide ((i : Int) < 4) = false := decide_eq_false (by omega)
          subst hi4
          have hlu := updB_len a [x0, x1, x2, x3] b 4
          have hin := updB_in (a := a) HBB.out HX.out 4
          have hs := HS.out z2
          generalize updB a [x0, x1, x2, x3] 4 b = cN at HO hlu hin hs
          have HCN := Aside0.mk (by have := (Kd.R_reads' HO.out).2.2; rwa [hlu] at this)
          have HCB := Aside0.mk (Kd.C_below HR.out HB.out)
          have HH2 := Aside0.mk (HH.out.below HB.out)
          have hcap : b.length ≤ cap := (Kd.R_reads' HO.out).2.1
          have cvN : ∀ w', Kd.C (Kd.int .u8) w' (some ⟨g, 0, none⟩) b.length cN → Sem.run Tryd.prog (convert 23 9 (.slice (some ⟨g, 0, none⟩) b.length cap)) w' = .ok (.string (strOfNums cN)) w' := fun w' h => by rw [← hlu] at h ⊢; exact Kd.C_string (P := Tryd.prog) (A := some ⟨g, 0, none⟩) (c := cap) Tryd.underlying23 Tryd.underlying5 Tryd.underlying9 h
          have cvB : ∀ w', Kd.C (Kd.int .u8) w' A1 b.length b → Sem.run Tryd.prog (convert 23 9 (.slice A1 b.length c1)) w' = .ok (.string (strOfNums b)) w' := fun w' h => Kd.C_string (P := Tryd.prog) (A := A1) (c := c1) Tryd.underlying23 Tryd.underlying5 Tryd.underlying9 h
          have ofN : ∀ w', Kd.C (Kd.int .u8) w' (some ⟨g, 0, none⟩) b.length cN → Half w' → Calls Tryd.prog 16 #[.slice (some ⟨g, 0, none⟩) b.length cap] w' fun e w2 => e = .returned (.int .u32 (moreI 0 cN)) ∧ Drawn0 w' w2 := fun w' h hh => by rw [← hlu] at h ⊢; exact of_calls _ cap cN w' h (by rw [hlu]; exact hcap) hin hh
          clear HO HW hlu
          go_wp2_with fail
          refine start_ (n := 15) (S := fun w' => Kd.C (Kd.int .u8) w' (some ⟨g, 0, none⟩) b.length cN ∧ Kd.C (Kd.int .u8) w' A1 b.length b) (ds := []) #[false, false, false, false, false, false, false, false, false, false, false, false, false, false, false] (by kernel_rfl) rfl rfl ⟨HCN.out, HCB.out⟩ (fun hHeld => ?_)
          refine pure_ (i := 0) (N := some 48) (v := ?_) (a' := ?_) #[true, false, false, false, false, false, false, false, false, false, false, false, false, false, false] rfl rfl (by kernel_rfl) (fun _ _ _ h => h) (Or.inl ⟨by rfl, ?_⟩) ?_ ?_
          rotate_left
          · intro w'
            go_simp
            with_reducible rfl
          rotate_left
          · simp only [Act.put, List.setIfInBounds_toArray, List.set_cons_zero, List.set_cons_succ, i64_w, i32_w]
            rfl
          refine pure_ (i := 2) (N := some 50) (v := ?_) (a' := ?_) #[true, false, true, false, false, false, false, false, false, false, false, false, false, false, false] rfl rfl (by kernel_rfl) (fun _ _ _ h => h) (Or.inl ⟨by rfl, ?_⟩) ?_ ?_
          rotate_left
          · intro w'
            go_simp
            with_reducible rfl
          rotate_left
          · simp only [Act.put, List.setIfInBounds_toArray, List.set_cons_zero, List.set_cons_succ, i64_w, i32_w]
            rfl
          refine pure_ (i := 5) (N := some 53) (v := ?_) (a' := ?_) #[true, false, true, false, false, true, false, false, false, false, false, false, false, false, false] rfl rfl (by kernel_rfl) (fun _ _ _ h => h) (Or.inl ⟨by rfl, ?_⟩) ?_ ?_
          rotate_left
          · intro w'
            go_simp
            with_reducible rfl
          rotate_left
          · simp only [Act.put, List.setIfInBounds_toArray, List.set_cons_zero, List.set_cons_succ, i64_w, i32_w]
            rfl
          refine take_ (i := 6) (N := some 54) (v := ?_) (a' := ?_) #[true, false, true, false, false, true, true, false, false, false, false, false, false, false, false] rfl rfl (by kernel_rfl) (fun _ _ _ h => h) (Or.inl ⟨by rfl, ?_⟩) hHeld ?_ ?_
          rotate_left
          · rintro w' ⟨s0, s1⟩
            have cv := cvN w' s0
            go_simp
            with_reducible rfl
          rotate_left
          · simp only [Act.put, List.setIfInBounds_toArray, List.set_cons_zero, List.set_cons_succ, i64_w, i32_w]
            rfl
          refine pure_ (i := 7) (N := some 55) (v := ?_) (a' := ?_) #[true, false, true, false, false, true, true, true, false, false, false, false, false, false, false] rfl rfl (by kernel_rfl) (fun _ _ _ h => h) (Or.inl ⟨by rfl, ?_⟩) ?_ ?_
          rotate_left
          · intro w'
            go_simp
            with_reducible rfl
          rotate_left
          · simp only [Act.put, List.setIfInBounds_toArray, List.set_cons_zero, List.set_cons_succ, i64_w, i32_w]
            rfl
          refine take_ (i := 8) (N := some 56) (v := ?_) (a' := ?_) #[true, false, true, false, false, true, true, true, true, false, false, false, false, false, false] rfl rfl (by kernel_rfl) (fun _ _ _ h => h) (Or.inl ⟨by rfl, ?_⟩) hHeld ?_ ?_
          rotate_left
          · rintro w' ⟨s0, s1⟩
            have cv := cvB w' s1
            go_simp
            with_reducible rfl
          rotate_left
          · simp only [Act.put, List.setIfInBounds_toArray, List.set_cons_zero, List.set_cons_succ, i64_w, i32_w]
            rfl
          refine pure_ (i := 9) (N := some 57) (v := ?_) (a' := ?_) #[true, false, true, false, false, true, true, true, true, true, false, false, false, false, false] rfl rfl (by kernel_rfl) (fun _ _ _ h => h) (Or.inl ⟨by rfl, ?_⟩) ?_ ?_
          rotate_left
          · intro w'
            go_simp
            with_reducible rfl
          rotate_left
          · simp only [Act.put, List.setIfInBounds_toArray, List.set_cons_zero, List.set_cons_succ, i64_w, i32_w]
            rfl
          refine one_ (i := 1) (N := some 49) #[true, true, true, false, false, true, true, true, true, true, false, false, false, false, false] rfl rfl (by kernel_rfl) (by decide) (fun K hK => ?_)
          refine goes_ Tryd.func16 (by kernel_rfl) rfl #[.slice (some ⟨g, 0, none⟩) b.length cap] (by rfl) rfl rfl (by (try simp only [List.map_toArray, List.map_cons, List.map_nil]); first | done | rfl) ?_
          refine (ofN _ (Kd.C_drew HCN.out) (HH2.out.drew)).mono ?_
          rintro e w' ⟨rfl, ⟨n1, rfl⟩⟩
          refine ⟨_, rfl, ?_⟩
          refine hK.out _ _ ⟨Kd.C_drewN (Kd.C_drew HCN.out) n1, Kd.C_drewN (Kd.C_drew HCB.out) n1⟩ (fun hHeld => ?_)
          clear hK K
          refine norm_ (a' := ?_) ?_ ?_
          rotate_left
          · show Act.put _ (some 49) _ = _
            simp only [Act.put, List.setIfInBounds_toArray, List.set_cons_zero, List.set_cons_succ, i64_w, i32_w]
            rfl
          refine one_ (i := 3) (N := some 51) #[true, true, true, true, false, true, true, true, true, true, false, false, false, false, false] rfl rfl (by kernel_rfl) (by decide) (fun K hK => ?_)
          refine goes_ Tryd.func16 (by kernel_rfl) rfl #[.slice A1 b.length c1] (by rfl) rfl rfl (by (try simp only [List.map_toArray, List.map_cons, List.map_nil]); first | done | rfl) ?_
          refine (of_calls A1 c1 b _ (Kd.C_drewN (Kd.C_drew HCB.out) n1) HC.out HBB.out ((HH2.out.drew).drewN n1)).mono ?_
          rintro e w' ⟨rfl, ⟨n2, rfl⟩⟩
          refine ⟨_, rfl, ?_⟩
          refine hK.out _ _ ⟨Kd.C_drewN (Kd.C_drewN (Kd.C_drew HCN.out) n1) n2, Kd.C_drewN (Kd.C_drewN (Kd.C_drew HCB.out) n1) n2⟩ (fun hHeld => ?_)
          clear hK K
          refine norm_ (a' := ?_) ?_ ?_
          rotate_left
          · show Act.put _ (some 51) _ = _
            simp only [Act.put, List.setIfInBounds_toArray, List.set_cons_zero, List.set_cons_succ, i64_w, i32_w]
            rfl
          refine pure_ (i := 4) (N := some 52) (v := ?_) (a' := ?_) #[true, true, true, true, true, true, true, true, true, true, false, false, false, false, false] rfl rfl (by kernel_rfl) (fun _ _ _ h => h) (Or.inl ⟨by rfl, ?_⟩) ?_ ?_
          rotate_left
          · intro w'
            go_simp
            with_reducible rfl
          rotate_left
          · simp only [Act.put, List.setIfInBounds_toArray, List.set_cons_zero, List.set_cons_succ, i64_w, i32_w]
            rfl
          refine pure_ (i := 10) (N := some 58) (v := ?_) (a' := ?_) #[true, true, true, true, true, true, true, true, true, true, true, false, false, false, false] rfl rfl (by kernel_rfl) (fun _ _ _ h => h) (Or.inl ⟨by rfl, ?_⟩) ?_ ?_
          rotate_left
          · intro w'
            go_simp
            with_reducible rfl
          rotate_left
          · simp only [Act.put, List.setIfInBounds_toArray, List.set_cons_zero, List.set_cons_succ, i64_w, i32_w]
            rfl
          refine pure_ (i := 11) (N := some 59) (v := ?_) (a' := ?_) #[true, true, true, true, true, true, true, true, true, true, true, true, false, false, false] rfl rfl (by kernel_rfl) (fun _ _ _ h => h) (Or.inl ⟨by rfl, ?_⟩) ?_ ?_
          rotate_left
          · intro w'
            go_simp
            with_reducible rfl
          rotate_left
          · simp only [Act.put, List.setIfInBounds_toArray, List.set_cons_zero, List.set_cons_succ, i64_w, i32_w]
            rfl
          refine one_ (i := 12) (N := some 60) #[true, true, true, true, true, true, true, true, true, true, true, true, true, false, false] rfl rfl (by kernel_rfl) (by decide) (fun K hK => ?_)
          refine goes_ Tryd.func15 (by kernel_rfl) rfl #[] (by rfl) rfl rfl (by (try simp only [List.map_toArray, List.map_cons, List.map_nil]); first | done | rfl) ?_
          refine (strandlinelaw03_awake.calls true _ rfl (((HH2.out.drew).drewN n1).drewN n2)).mono ?_
          rintro e w' ⟨rfl, hb4⟩
          refine ⟨_, rfl, ?_⟩
          refine hK.out _ _ ⟨Kd.C_below (Kd.C_drewN (Kd.C_drewN (Kd.C_drew HCN.out) n1) n2) hb4, Kd.C_below (Kd.C_drewN (Kd.C_drewN (Kd.C_drew HCB.out) n1) n2) hb4⟩ (fun hHeld => ?_)
          clear hK K
          refine norm_ (a' := ?_) ?_ ?_
          rotate_left
          · show Act.put _ (some 60) _ = _
            simp only [Act.put, List.setIfInBounds_toArray, List.set_cons_zero, List.set_cons_succ, i64_w, i32_w]
            rfl
          refine pure_ (i := 13) (N := some 61) (v := ?_) (a' := ?_) #[true, true, true, true, true, true, true, true, true, true, true, true, true, true, false] rfl rfl (by kernel_rfl) (fun _ _ _ h => h) (Or.inl ⟨by rfl, ?_⟩) ?_ ?_
          rotate_left
          · intro w'
            go_simp
            with_reducible rfl
          rotate_left
          · simp only [Act.put, List.setIfInBounds_toArray, List.set_cons_zero, List.set_cons_succ, i64_w, i32_w]
            rfl
          refine pure_ (i := 14) (N := some 6) (v := ?_) (a' := ?_) #[true, true, true, true, true, true, true, true, true, true, true, true, true, true, true] rfl rfl (by kernel_rfl) (fun _ _ _ h => h) (Or.inl ⟨by rfl, ?_⟩) ?_ ?_
          rotate_left
          · intro w'
            go_simp
            with_reducible rfl
          rotate_left
          · simp only [Act.put, List.setIfInBounds_toArray, List.set_cons_zero, List.set_cons_succ, i64_w, i32_w]
            rfl
          refine done_ (by kernel_rfl) ?_
          go_wp2
          go_ret
          exact ⟨rfl, Below.trans (pw_below_drewN (pw_below_drewN (below_drew1 HB.out) n1) n2) (hb4.mono (by have := HB.out.size; exact this))⟩
end Go.Proofs.YthhbilkmdfdfiaaDoor.F
