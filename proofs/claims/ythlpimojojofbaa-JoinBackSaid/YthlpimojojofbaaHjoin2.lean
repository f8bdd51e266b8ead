/- join.New, Idle and Join: what they answer, as Lean functions, and that the calls answer just this. -/
import Derived.Test.YthlpimojojofbaaHjoin
namespace Go.Proofs.Ythlpimojojofbaa.F
open Go.RowKit Go.Proofs.YthlpimojojofbaaW.PrintWords Go.Proofs.YthlpimojojofbaaW.PrintLast Go.Proofs.YthlpimojojofbaaW.PrintMore
set_option linter.unusedVariables false
set_option linter.unusedSimpArgs false

theorem joinNew_calls (w : World) : Calls Try.prog 42 #[] w fun e w' => e = .returned (.pointer (some ⟨w.heap.size, 0, none⟩)) ∧ w.alloc (.cells #[.bool false, .slice none 0 0] 116) = w' := by
  go_enter Try.func42, Try.ntmps42
  go_wp2
  go_ret
  exact ⟨rfl, rfl⟩
theorem joinIdle_calls (op : Bool) (v : Value) (w : World) (g : Nat) (hg : w.heap[g]? = some (.cells #[.bool op, v] 116 (0, 0))) :
    Calls Try.prog 45 #[.pointer (some ⟨g, 0, none⟩)] w fun e w' => e = .returned (.bool (!op)) ∧ w = w' := by
  have c0 : w.cell? ⟨g, 0, none⟩ = some (.bool op) := blk_cell hg 0
  clear hg
  go_enter Try.func45, Try.ntmps45
  go_wp2
  go_ret
  exact ⟨rfl, rfl⟩
theorem joinIdle_nil (w : World) : Calls Try.prog 45 #[.pointer none] w fun e w' => e = .returned (.bool true) ∧ w = w' := by
  go_enter Try.func45, Try.ntmps45
  go_wp2
  go_ret
  exact ⟨rfl, rfl⟩

def joinG : List S66 → Bool → List Int → List (List Int) → List (List Int) × Int
  | [], op, _, out => if op then ([], 1) else (out, 0)
  | f :: rest, op, b, out => if (feedF op b f.f0 f.f2).1.2.2 = 0 then (if (feedF op b f.f0 f.f2).1.2.1 = true then joinG rest (feedF op b f.f0 f.f2).2.1 (feedF op b f.f0 f.f2).2.2 (out ++ [(feedF op b f.f0 f.f2).1.1]) else joinG rest (feedF op b f.f0 f.f2).2.1 (feedF op b f.f0 f.f2).2.2 out) else ([], (feedF op b f.f0 f.f2).1.2.2)
def join_Join.f (l0 : List S66) : Option (List (List Int) × Int) :=
  if l0.length < 5000000000000 then (if (l0.all fun f => decide (f.f2.length ≤ 140737488351232)) = true then some (joinG l0 false [] []) else none) else none

set_option maxHeartbeats 4000000 in
set_option maxRecDepth 100000 in
theorem join_Join.calls (A0 : Option Addr) (c0 : Nat) (l0 : List S66) (r1 : List (List Int)) (r2 : Int) (w : World) (hr0 : Kd.C k66 w A0 l0.length l0) (hc0 : l0.length ≤ c0) (h : join_Join.f l0 = some (r1, r2)) :
    Calls Try.prog 46 #[.slice A0 l0.length c0] w fun e w' => ∃ v0_ : Value, e = .returned (.tuple #[v0_, .int .i64 r2]) ∧ Kd.S (Kd.slice 5 (Kd.int .u8)) 35 w' w.heap.size (fun _ => True) v0_ r1 ∧ Below w.heap.size w w' := by
  unfold join_Join.f at h
  by_cases z1 : l0.length < 5000000000000
  · rw [if_pos z1] at h
    by_cases z2 : (l0.all fun f => decide (f.f2.length ≤ 140737488351232)) = true
    · rw [if_pos z2] at h
      replace h := Aside0.mk (Option.some.inj h)
      replace z2 := Aside0.mk z2
      replace hr0 := Aside0.mk hr0
      have HB0 := Aside0.mk (Below.refl w.heap.size w)
      go_enter Try.func46, Try.ntmps46
      go_wp2_with fail
      go_step3
      go_wp2_with fail
      refine (joinNew_calls _).mono ?_
      rintro e w1 ⟨rfl, rfl⟩
      go_wp2_with fail
      go_step3
      go_wp2_with fail
      have HG0 := Aside0.mk (blk_new w (.cells #[.bool false, .slice none 0 0] 116))
      have HB1 := Aside0.mk (below_alloc HB0.out (.cells #[.bool false, .slice none 0 0] 116))
      generalize w.alloc (.cells #[.bool false, .slice none 0 0] 116) = W1 at HG0 HB1 ⊢
      clear HB0
      go_loopg [4, 6, 15] l0.length (fun gq v4 v6 v15 w' => ∃ (i : Nat) (op : Bool) (b : List Int) (out : List (List Int)) (jv : Value), v6 = .int .i64 0 ∧ v15 = .int .i64 i ∧ Aside0 (i + gq = l0.length) ∧ Aside0 (w'.heap[w.heap.size]? = some (.cells #[.bool op, jv] 116 (0, 0))) ∧ Aside0 (Kd.R (Kd.int .u8) 5 w' w.heap.size (fun _ => True) jv b) ∧ Aside0 (Kd.S (Kd.slice 5 (Kd.int .u8)) 35 w' w.heap.size (fun _ => True) v4 out) ∧ Aside0 (joinG (l0.drop i) op b out = (r1, r2)) ∧ Aside0 (b.length ≤ 512 ∧ out.length ≤ i) ∧ Aside0 (Below w.heap.size w w'))
      case atStart => exact ⟨0, false, [], [], _, rfl, rfl, ⟨by omega⟩, HG0, ⟨Kd.R_nil _ _ _ _ _⟩, ⟨Kd.S_nil _ _ _ _ _⟩, h, ⟨by simp⟩, HB1⟩
      case round =>
        clear h HG0 HB1
        obtain ⟨i, op, b, out, jv, rfl, rfl, HQ, HG, HR, HS, HJ, HL, HB⟩ := hrel
        obtain ⟨Av, cv, ev⟩ := Kd.R_slice HR.out
        subst ev
        by_cases ci : i < l0.length
        · obtain ⟨gk', rfl⟩ : ∃ q, gk = q + 1 := ⟨gk - 1, by have := HQ.out; omega⟩
          obtain ⟨ad, A2, c2, e1, x0, x1, x2, xl, xc⟩ := at_T66 hr0.out (i : Int) (by omega) (by omega)
          subst e1
          have y0 := (HB.out.cell (World.block_lt_of_cell? w _ x0)).trans x0
          have y1 := (HB.out.cell (World.block_lt_of_cell? w _ x1)).trans x1
          have y2 := (HB.out.cell (World.block_lt_of_cell? w _ x2)).trans x2
          have XC := Aside0.mk (Kd.C_below xc HB.out)
          have XL := Aside0.mk xl
          clear x0 x1 x2 xl xc
          have p0 : ((0 : Int) ≤ (i : Int)) = True := eq_true (by omega)
          have p1 : ((i : Int) < (l0.length : Int)) = True := eq_true (by omega)
          have hc0' := Aside0.mk hc0
          clear hc0
          rw [Int.toNat_natCast] at y0 y1 y2
          go_wp2_with fail
          have ld : (rd_T66 l0 i).f2.length ≤ 140737488351232 := by
            have := List.all_eq_true.1 z2.out _ (List.getElem_mem ci)
            have e2 : rd_T66 l0 i = l0[i] := by unfold rd_T66; rw [List.getD_eq_getElem?_getD, Int.toNat_natCast, List.getElem?_eq_getElem ci]; rfl
            rw [e2]
            exact of_decide_eq_true this
          have HG2 := blk_alloc HG.out (.cells #[.int .i64 (rd_T66 l0 i).f0, .int .u32 (rd_T66 l0 i).f1, .slice A2 (rd_T66 l0 i).f2.length c2] 66)
          have HR2 := Kd.R_alloc HR.out (.cells #[.int .i64 (rd_T66 l0 i).f0, .int .u32 (rd_T66 l0 i).f1, .slice A2 (rd_T66 l0 i).f2.length c2] 66)
          have HS2 := Kd.S_alloc HS.out (.cells #[.int .i64 (rd_T66 l0 i).f0, .int .u32 (rd_T66 l0 i).f1, .slice A2 (rd_T66 l0 i).f2.length c2] 66)
          have HB2 := below_alloc HB.out (.cells #[.int .i64 (rd_T66 l0 i).f0, .int .u32 (rd_T66 l0 i).f1, .slice A2 (rd_T66 l0 i).f2.length c2] 66)
          have XC2 := Kd.C_alloc XC.out (.cells #[.int .i64 (rd_T66 l0 i).f0, .int .u32 (rd_T66 l0 i).f1, .slice A2 (rd_T66 l0 i).f2.length c2] 66)
          have HL1 := HL.out
          clear y0 y1 y2 p0 p1 HG HR HS HB
          generalize wr.alloc (.cells #[.int .i64 (rd_T66 l0 i).f0, .int .u32 (rd_T66 l0 i).f1, .slice A2 (rd_T66 l0 i).f2.length c2] 66) = W2 at HG2 HR2 HS2 HB2 XC2 ⊢
          have hrd := Kd.R_reads' HR2
          refine (feed_all op b _ _ (rd_T66 l0 i).f2 W2 w.heap.size Av A2 cv c2 HG2 hrd.2.2 XC2 (by omega) ld hrd.2.1 XL.out).mono ?_
          rintro e w3 ⟨rv, v3, rfl, hg3, hr3, hv3, kb3, bl3⟩
          have hj : joinG (rd_T66 l0 i :: l0.drop (i + 1)) op b out = (r1, r2) := by
            have e2 : rd_T66 l0 i = l0[i] := by unfold rd_T66; rw [List.getD_eq_getElem?_getD, Int.toNat_natCast, List.getElem?_eq_getElem ci]; rfl
            rw [e2, ← List.drop_eq_getElem_cons ci]
            exact HJ.out
          simp only [joinG] at hj
          have hlen : (feedF op b (rd_T66 l0 i).f0 (rd_T66 l0 i).f2).2.2.length ≤ 512 := by
            unfold feedF
            split
            · simp
            · split
              · simp
              · split
                · simp
                · simp; omega
          generalize feedF op b (rd_T66 l0 i).f0 (rd_T66 l0 i).f2 = R at hg3 hr3 hv3 hj hlen ⊢
          obtain ⟨⟨rl, dn, er⟩, ⟨o2, b2⟩⟩ := R
          simp only at hg3 hr3 hv3 hj hlen ⊢
          have wl : w.heap.size ≤ W2.heap.size := HB2.size
          have HSK := Kd.S_oldK (Kd.S_types HS2 HG2 (by decide)) kb3
          have HV3 := Aside0.mk (Kd.R_lower hv3 wl)
          have HG3 := Aside0.mk hg3
          have HB3 : Below w.heap.size w w3 := HB2.trans bl3
          have usz := Kd.S_lt HS2
          have HRV := Kd.R_lower (Kd.R_mono (Kd.R_bound hr3) (ok' := fun k => W2.heap.size ≤ k) (fun k hk => hk.2.1)) wl
          clear hg3 hr3 hv3 kb3 bl3 hrd HJ HL XC XL XC2 HR2 HS2 HG2 HB2 ld
          by_cases ce : er = 0
          · subst ce
            rw [if_pos rfl] at hj
            cases dn with
            | false =>
              rw [if_neg (by decide)] at hj
              replace hj := Aside0.mk hj
              have HS3 := Aside0.mk (Kd.S_mono HSK (fun _ _ => trivial))
              have hl := Aside0.mk (show b2.length ≤ 512 ∧ out.length ≤ i + 1 by omega)
              replace HB3 := Aside0.mk HB3
              clear HSK HRV usz hlen wl HL1
              go_wp2
              go_roundg gk'
              case measure => omega
              case rel => exact ⟨i + 1, o2, b2, out, v3, rfl, by go_num, ⟨by have := HQ.out; omega⟩, HG3, HV3, HS3, hj, hl, HB3⟩
            | true =>
              rw [if_pos rfl] at hj
              replace hj := Aside0.mk hj
              replace HB3 := Aside0.mk HB3
              replace HSK := Aside0.mk HSK
              replace HRV := Aside0.mk HRV
              have hl := Aside0.mk (show b2.length ≤ 512 ∧ (out ++ [rl]).length ≤ i + 1 by rw [List.length_append]; simp; omega)
              have hl2 := Aside0.mk (show out.length < 5000000000000 by omega)
              clear hlen HL1
              obtain ⟨Ar, cr, er⟩ := Kd.R_slice HRV.out
              subst er
              have U8 : ∀ k, W2.heap.size ≤ k → some k ≠ (u4 : Value).ownBlock := fun k hk e => absurd (usz k e.symm) (by omega)
              clear usz
              go_wp2_with (first
                | ((with_reducible refine gate_builtin (b := .append) (xs := #[.tmp 33, .tmp 35]) rfl ?_); at_builtin
                   refine Kd.S_append (Kd.slice 5 (Kd.int .u8)) (w0 := w) w.heap.size rfl (.tmp 33) (.tmp 35) 70 35 (.slice none 0 0) 24 rfl Try.underlying70 info35 rfl (by decide) (by omega) u4 out rl [.slice Ar rl.length cr] (fun _ => True) (fun k => W2.heap.size ≤ k) rfl rfl ?aP (fun k hk => ⟨trivial, U8 k hk⟩) (fun _ _ => trivial) ?aO HB3.out ?aS ?aL ?_
                   (case aP => exact Kd.M_row HRV.out)
                   (case aO => exact Kd.S_mono HSK.out (fun k hk => ⟨trivial, by omega⟩))
                   (case aS => exact HB3.out.size)
                   (case aL => have := hl2.out; omega)
                   intro v140 w23 ho hb hg hat
                   have HG4 := Aside0.mk (blk_grown HG3.out hg (Kd.S_ne (Kd.S_mono HSK.out (fun _ _ => trivial)) HG3.out (by decide)))
                   have HV4 := Aside0.mk (Kd.R_over' HV3.out (Kd.S_typed (Kd.S_mono HSK.out (fun _ _ => trivial))) (by decide) hg)
                   have HB4 := Aside0.mk hb
                   have HS4 := Aside0.mk ho
                   clear ho hb hg hat HG3 HV3 HB3 HSK HRV U8))
              go_roundg gk'
              case measure => omega
              case rel => exact ⟨i + 1, o2, b2, out ++ [rl], v3, rfl, by go_num, ⟨by have := HQ.out; omega⟩, HG4, HV4, HS4, hj, hl, HB4⟩
          · have ce' : (er != 0) = true := by simpa using ce
            rw [if_neg ce] at hj
            obtain ⟨e1, e2⟩ := Prod.mk.inj hj
            subst e1
            subst e2
            replace HB3 := Aside0.mk HB3
            clear HSK HRV usz hlen wl HL1 HG3 HV3
            go_wp2_with fail
            go_ret2
            exact ⟨_, rfl, Kd.S_nil _ _ _ _ _, HB3.out⟩
        · have hi : i = l0.length := by have := HQ.out; omega
          subst hi
          have hg0 : gk = 0 := by have := HQ.out; omega
          subst hg0
          have hj := HJ.out
          rw [List.drop_length] at hj
          simp only [joinG] at hj
          have hc0' := Aside0.mk hc0
          clear hc0 HJ HR HL HQ
          have p1 : ((l0.length : Int) < (l0.length : Int)) = False := eq_false (by omega)
          have p2 : decide ((l0.length : Int) < (l0.length : Int)) = false := decide_eq_false (by omega)
          cases op with
          | true =>
            rw [if_pos rfl] at hj
            obtain ⟨e1, e2⟩ := Prod.mk.inj hj
            subst e1
            subst e2
            clear hj
            go_wp2_with fail
            refine (joinIdle_calls true _ wr w.heap.size HG.out).mono ?_
            rintro e w4 ⟨rfl, rfl⟩
            go_wp2_with fail
            rw [Exit.noGoto_ret]
            go_ret2
            exact ⟨_, rfl, Kd.S_nil _ _ _ _ _, HB.out⟩
          | false =>
            rw [if_neg (by decide)] at hj
            obtain ⟨e1, e2⟩ := Prod.mk.inj hj
            subst e1
            subst e2
            clear hj
            go_wp2_with fail
            refine (joinIdle_calls false _ wr w.heap.size HG.out).mono ?_
            rintro e w4 ⟨rfl, rfl⟩
            go_wp2_with fail
            rw [Exit.noGoto_ret]
            go_ret2
            exact ⟨_, rfl, HS.out, HB.out⟩
    · rw [if_neg z2] at h
      cases h
  · rw [if_neg z1] at h
    cases h
end Go.Proofs.Ythlpimojojofbaa.F
