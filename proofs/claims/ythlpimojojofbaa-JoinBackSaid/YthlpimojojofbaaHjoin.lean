/- join.Joiner's Feed and Idle, join.New and join.Join: what they answer, as Lean functions, and that the calls answer just this. -/
import Derived.Test.YthlpimojojofbaaHand
namespace Go.Proofs.Ythlpimojojofbaa.F
open Go.RowKit Go.Proofs.YthlpimojojofbaaW.PrintWords Go.Proofs.YthlpimojojofbaaW.PrintLast Go.Proofs.YthlpimojojofbaaW.PrintMore
set_option linter.unusedVariables false
set_option linter.unusedSimpArgs false

def feedF (op : Bool) (b : List Int) (kind : Int) (data : List Int) : (List Int × Bool × Int) × (Bool × List Int) :=
  if ((op != (kind == 3 || kind == 4)) || (op == (kind == 1 || kind == 2))) = true then (([], false, 2), (false, []))
  else if (b.length : Int) + data.length > 512 then (([], false, 5), (false, []))
  else if (kind == 1 || kind == 4) = true then ((b ++ data, true, 0), (false, []))
  else (([], false, 0), (true, b ++ data))

theorem kb_alloc {w w1 : World} {g : Nat} {row : Option Nat} (h : KeepBut w w1 g row) (o : Obj) : KeepBut w (w1.alloc o) g row :=
  ⟨by rw [World.size_alloc]; have := h.1; omega, fun i hi hg hr => (Below.heap_alloc w1 o i (Nat.lt_of_lt_of_le hi h.1)).trans (h.2 i hi hg hr)⟩
theorem kb_drewN {w w1 : World} {g : Nat} {row : Option Nat} (h : KeepBut w w1 g row) (n : Nat) : KeepBut w (w1.drewN n) g row := h
theorem kb_below {w w1 w2 : World} {g : Nat} {row : Option Nat} (h : KeepBut w w1 g row) (b : Below w.heap.size w1 w2) : KeepBut w w2 g row :=
  ⟨Nat.le_trans h.1 b.size, fun i hi hg hr => (b.block i hi).trans (h.2 i hi hg hr)⟩
def FeedPost (w : World) (g : Nat) (r : (List Int × Bool × Int) × (Bool × List Int)) (e : Ending) (w' : World) : Prop :=
  ∃ rv v', e = .returned (.tuple #[rv, .bool r.1.2.1, .int .i64 r.1.2.2]) ∧ w'.heap[g]? = some (.cells #[.bool r.2.1, v'] 116 (0, 0)) ∧
    Kd.R (Kd.int .u8) 5 w' w.heap.size (fun _ => True) rv r.1.1 ∧ Kd.R (Kd.int .u8) 5 w' w.heap.size (fun _ => True) v' r.2.2 ∧ KeepBut w w' g none ∧ Below g w w'
theorem bg2 {w : World} {g : Nat} (gl : g < w.heap.size) (i j : Nat) (u v : Value) (o1 o2 : Obj) : Below g w ((((w.setCell ⟨g, i, none⟩ u).setCell ⟨g, j, none⟩ v).alloc o1).alloc o2) := by
  have hsz : ∀ (p q : Addr) (u v : Value), ((w.setCell p u).setCell q v).heap.size = w.heap.size := by intro p q u v; simp [World.setCell]
  refine Below.alloc (Below.alloc (Below.setCell (Below.setCell (Below.refl g w) (Nat.le_refl _) u) (Nat.le_refl _) v) ?_ o1) ?_ o2
  · rw [hsz]; omega
  · rw [World.size_alloc, hsz]; omega

set_option maxHeartbeats 1000000 in
set_option maxRecDepth 100000 in
theorem feed_bad (op : Bool) (b : List Int) (kind epoch : Int) (data : List Int) (w : World) (g : Nat) (Av A : Option Addr) (cv c : Nat)
    (hg : w.heap[g]? = some (.cells #[.bool op, .slice Av b.length cv] 116 (0, 0)))
    (hbad : ((op != (kind == 3 || kind == 4)) || (op == (kind == 1 || kind == 2))) = true) :
    Calls Try.prog 43 #[.pointer (some ⟨g, 0, none⟩), .agg #[.int .i64 kind, .int .u32 epoch, .slice A data.length c]] w (FeedPost w g (([], false, 2), (false, []))) := by
  have gl := blk_lt hg
  have c0 : w.cell? ⟨g, 0, none⟩ = some (.bool op) := blk_cell hg 0
  have c1 : w.cell? ⟨g, 1, none⟩ = some (.slice Av b.length cv) := blk_cell hg 1
  have f0 := blk_frozen hg 0
  have f1 := blk_frozen hg 1
  have HF : Aside0 (∀ w' : World, w'.heap[g]? = some (.cells #[.bool false, .slice none 0 0] 116 (0, 0)) → KeepBut w w' g none → Below g w w' → FeedPost w g (([], false, 2), (false, [])) (.returned (.tuple #[.slice none 0 0, .bool false, .int .i64 2])) w') :=
    ⟨fun w' h1 h2 h3 => ⟨_, _, rfl, h1, Kd.R_nil _ _ _ _ _, Kd.R_nil _ _ _ _ _, h2, h3⟩⟩
  have HG := Aside0.mk hg
  clear hg
  rcases (show kind = 1 ∨ kind = 2 ∨ kind = 3 ∨ kind = 4 ∨ (¬ kind = 1 ∧ ¬ kind = 2 ∧ ¬ kind = 3 ∧ ¬ kind = 4) by omega) with rfl | rfl | rfl | rfl | ⟨k1, k2, k3, k4⟩
  all_goals cases op
  all_goals first
    | (exfalso; revert hbad; decide)
    | skip
  all_goals clear hbad
  all_goals first
    | (have j1 : (kind == 1) = false := beq_eq_false_iff_ne.2 k1
       have j2 : (kind == 2) = false := beq_eq_false_iff_ne.2 k2
       have j3 : (kind == 3) = false := beq_eq_false_iff_ne.2 k3
       have j4 : (kind == 4) = false := beq_eq_false_iff_ne.2 k4
       clear k1 k2 k3 k4)
    | skip
  all_goals
    go_enter Try.func43, Try.ntmps43
    go_wp2
    go_ret3
    exact HF.out _ (blk_alloc (blk_alloc (blk_put (blk_put HG.out 0 _ rfl) 1 _ rfl) _) _) (kb_alloc (kb_alloc (((KeepBut.refl w g none).set_ 0 _).set_ 1 _) _) _) (bg2 gl _ _ _ _ _ _)
theorem C_far {k : IntKind} {w : World} {A : Option Addr} {n : Nat} {xs : List Int} (h : Kd.C (Kd.int k) w A n xs) {p : Addr} {u0 : Value} (hp : w.cell? p = some u0) (hne : ∀ z, u0 ≠ .int k z) (u : Value) : Kd.C (Kd.int k) (w.setCell p u) A n xs := by
  refine ⟨h.1, h.2.1, fun hn => ?_⟩
  obtain ⟨ad, e, hc⟩ := h.2.2 hn
  refine ⟨ad, e, fun j q hq => ?_⟩
  obtain ⟨c, hs, hr, hcell⟩ := hc j q hq
  refine ⟨c, hs, hr, fun i v hv => ?_⟩
  have h1 := hcell i v hv
  have hr' : c = [.int k q] := hr
  have hvi : v = .int k q := by
    subst hr'
    cases i with
    | zero => simpa using hv.symm
    | succ i => simp at hv
  rw [World.cell?_setCell_other]
  · exact h1
  · intro e2
    rw [← e2, hp] at h1
    exact hne q (by rw [← hvi]; exact Option.some.inj h1)
set_option maxHeartbeats 4000000 in
set_option maxRecDepth 100000 in
theorem feed_good (op : Bool) (b : List Int) (kind epoch : Int) (data : List Int) (w : World) (g : Nat) (Av A : Option Addr) (cv c : Nat)
    (hg : w.heap[g]? = some (.cells #[.bool op, .slice Av b.length cv] 116 (0, 0)))
    (hb : Kd.C (Kd.int .u8) w Av b.length b) (hd : Kd.C (Kd.int .u8) w A data.length data) (lb : b.length ≤ 70000) (ld : data.length ≤ 140737488351232) (hbc : b.length ≤ cv) (hdc : data.length ≤ c)
    (hgood : ((op != (kind == 3 || kind == 4)) || (op == (kind == 1 || kind == 2))) = false) :
    Calls Try.prog 43 #[.pointer (some ⟨g, 0, none⟩), .agg #[.int .i64 kind, .int .u32 epoch, .slice A data.length c]] w (FeedPost w g (feedF op b kind data)) := by
  have gl := blk_lt hg
  have c0 : w.cell? ⟨g, 0, none⟩ = some (.bool op) := blk_cell hg 0
  have c1 : w.cell? ⟨g, 1, none⟩ = some (.slice Av b.length cv) := blk_cell hg 1
  have f0 := blk_frozen hg 0
  have f1 := blk_frozen hg 1
  obtain ⟨W, hW⟩ : ∃ W, (((w.setCell ⟨g, 0, none⟩ (.bool false)).setCell ⟨g, 1, none⟩ (.slice none 0 0)).alloc (.cells #[.int .i64 kind, .int .u32 epoch, .slice A data.length c] 66)).alloc (.cells #[.bool op, .slice Av b.length cv] 116) = W := ⟨_, rfl⟩
  have HG := Aside0.mk (show W.heap[g]? = some (.cells #[.bool false, .slice none 0 0] 116 (0, 0)) by rw [← hW]; exact blk_alloc (blk_alloc (blk_put (blk_put hg 0 _ rfl) 1 _ rfl) _) _)
  have KB := Aside0.mk (show KeepBut w W g none by rw [← hW]; exact kb_alloc (kb_alloc (((KeepBut.refl w g none).set_ 0 _).set_ 1 _) _) _)
  have hsz : ∀ (p q : Addr) (u v : Value), ((w.setCell p u).setCell q v).heap.size = w.heap.size := by intro p q u v; simp [World.setCell]
  have BG := Aside0.mk (show Below g w W by rw [← hW]; exact bg2 gl _ _ _ _ _ _)
  have HF := Aside0.mk (show W.heap[w.heap.size]? = some (.cells #[.int .i64 kind, .int .u32 epoch, .slice A data.length c] 66 (0, 0)) by
    rw [← hW]
    have := blk_new ((w.setCell ⟨g, 0, none⟩ (.bool false)).setCell ⟨g, 1, none⟩ (.slice none 0 0)) (.cells #[.int .i64 kind, .int .u32 epoch, .slice A data.length c] 66)
    rw [hsz] at this
    exact blk_alloc this _)
  have HS := Aside0.mk (show W.heap[w.heap.size + 1]? = some (.cells #[.bool op, .slice Av b.length cv] 116 (0, 0)) by
    rw [← hW]
    have := blk_new (((w.setCell ⟨g, 0, none⟩ (.bool false)).setCell ⟨g, 1, none⟩ (.slice none 0 0)).alloc (.cells #[.int .i64 kind, .int .u32 epoch, .slice A data.length c] 66)) (.cells #[.bool op, .slice Av b.length cv] 116)
    rw [World.size_alloc, hsz] at this
    exact this)
  have c1' : (w.setCell ⟨g, 0, none⟩ (.bool false)).cell? ⟨g, 1, none⟩ = some (.slice Av b.length cv) := blk_cell (blk_put hg 0 (.bool false) rfl) 1
  have CB := Aside0.mk (show Kd.C (Kd.int .u8) W Av b.length b by rw [← hW]; exact Kd.C_alloc (Kd.C_alloc (C_far (C_far hb c0 (by simp) _) c1' (by simp) _) _) _)
  have CD := Aside0.mk (show Kd.C (Kd.int .u8) W A data.length data by rw [← hW]; exact Kd.C_alloc (Kd.C_alloc (C_far (C_far hd c0 (by simp) _) c1' (by simp) _) _) _)
  replace hW := Aside0.mk hW
  clear hsz c1' hg hb hd
  obtain ⟨R, hR⟩ : ∃ R, feedF op b kind data = R := ⟨_, rfl⟩
  unfold feedF at hR
  rw [if_neg (by rw [hgood]; decide)] at hR
  by_cases cl : (b.length : Int) + data.length > 512
  · rw [if_pos cl] at hR
    subst hR
    have hfin : feedF op b kind data = (([], false, 5), (false, [])) := by unfold feedF; rw [if_neg (by rw [hgood]; decide), if_pos cl]
    rw [hfin]
    have HE : Aside0 (∀ w' : World, w'.heap[g]? = some (.cells #[.bool false, .slice none 0 0] 116 (0, 0)) → KeepBut w w' g none → Below g w w' → FeedPost w g (([], false, 5), (false, [])) (.returned (.tuple #[.slice none 0 0, .bool false, .int .i64 5])) w') :=
      ⟨fun w' h1 h2 h3 => ⟨_, _, rfl, h1, Kd.R_nil _ _ _ _ _, Kd.R_nil _ _ _ _ _, h2, h3⟩⟩
    clear hfin
    have d1 : decide (512 < (b.length : Int) + data.length) = true := decide_eq_true cl
    rcases (show kind = 1 ∨ kind = 2 ∨ kind = 3 ∨ kind = 4 ∨ (¬ kind = 1 ∧ ¬ kind = 2 ∧ ¬ kind = 3 ∧ ¬ kind = 4) by omega) with rfl | rfl | rfl | rfl | ⟨k1, k2, k3, k4⟩
    all_goals cases op
    all_goals first
      | (exfalso; revert hgood; decide)
      | (exfalso; revert hgood; simp [k1, k2, k3, k4]; done)
      | skip
    all_goals clear hgood
    all_goals
      go_enter Try.func43, Try.ntmps43
      go_wp2
      go_ret3
      rw [hW.out]
      exact HE.out _ HG.out KB.out BG.out
  · rw [if_neg cl] at hR
    have d1 : decide (512 < (b.length : Int) + data.length) = false := decide_eq_false cl
    have cl' : (b.length : Int) + data.length ≤ 512 := by omega
    have hfin : feedF op b kind data = R := by unfold feedF; rw [if_neg (by rw [hgood]; decide), if_neg cl]; exact hR
    rw [hfin]
    replace hR := Aside0.mk hR
    clear hfin cl
    rcases (show kind = 1 ∨ kind = 2 ∨ kind = 3 ∨ kind = 4 ∨ (¬ kind = 1 ∧ ¬ kind = 2 ∧ ¬ kind = 3 ∧ ¬ kind = 4) by omega) with rfl | rfl | rfl | rfl | ⟨k1, k2, k3, k4⟩
    all_goals cases op
    all_goals first
      | (exfalso; revert hgood; decide)
      | (exfalso; revert hgood; simp [k1, k2, k3, k4]; done)
      | skip
    all_goals clear hgood
    all_goals
      go_enter Try.func43, Try.ntmps43
      go_wp2
      rw [hW.out]
      have HS0 := blk_drew HS.out
      have HF0 := blk_drew HF.out
      have HG0 := blk_drew HG.out
      refine start_ (n := 8) (S := fun w' => w'.cell? ⟨w.heap.size + 1, 0, none⟩ = some (.bool _) ∧ w'.cell? ⟨w.heap.size + 1, 1, none⟩ = some (.slice Av b.length cv) ∧ w'.cell? ⟨w.heap.size, 0, none⟩ = some (.int .i64 _) ∧ w'.cell? ⟨w.heap.size, 1, none⟩ = some (.int .u32 epoch) ∧ w'.cell? ⟨w.heap.size, 2, none⟩ = some (.slice A data.length c)) (ds := []) #[false, false, false, false, false, false, false, false] (by kernel_rfl) rfl rfl ⟨blk_cell HS0 0, blk_cell HS0 1, blk_cell HF0 0, blk_cell HF0 1, blk_cell HF0 2⟩ (fun hHeld => ?_)
      have KB0 : KeepBut w W.drew g none := KB.out
      have BB : Below W.heap.size W.drew W.drew := Below.refl _ _
      have BG0 : Below g w W.drew := BG.out.drew
      have CB0 : Kd.C (Kd.int .u8) W.drew Av b.length b := Kd.C_drew CB.out
      have CD0 : Kd.C (Kd.int .u8) W.drew A data.length data := Kd.C_drew CD.out
      have hsz : W.drew.heap.size = W.heap.size := rfl
      generalize W.drew = W0 at HS0 HF0 HG0 KB0 BB BG0 CB0 CD0 hHeld hsz ⊢
      replace BG0 := Aside0.mk BG0
      refine pure_ (i := 1) (N := some 56) (v := ?_) (a' := ?_) #[false, true, false, false, false, false, false, false] rfl rfl (by kernel_rfl) (fun _ _ _ h => h) (Or.inl ⟨by rfl, ?_⟩) ?_ ?_
      rotate_left
      · intro w'
        go_simp
        with_reducible rfl
      rotate_left
      · simp only [Act.put, List.setIfInBounds_toArray, List.set_cons_zero, List.set_cons_succ, i64_w, i32_w]
        rfl
      refine pure_ (i := 4) (N := some 59) (v := ?_) (a' := ?_) #[false, true, false, false, true, false, false, false] rfl rfl (by kernel_rfl) (fun _ _ _ h => h) (Or.inl ⟨by rfl, ?_⟩) ?_ ?_
      rotate_left
      · intro w'
        go_simp
        with_reducible rfl
      rotate_left
      · simp only [Act.put, List.setIfInBounds_toArray, List.set_cons_zero, List.set_cons_succ, i64_w, i32_w]
        rfl
      refine take_ (i := 2) (N := some 57) (v := ?_) (a' := ?_) #[false, true, true, false, true, false, false, false] rfl rfl (by kernel_rfl) (fun _ _ _ h => h) (Or.inl ⟨by rfl, ?_⟩) hHeld ?_ ?_
      rotate_left
      · rintro w' ⟨s0, s1, s2, s3, s4⟩
        go_simp
        with_reducible rfl
      rotate_left
      · simp only [Act.put, List.setIfInBounds_toArray, List.set_cons_zero, List.set_cons_succ, i64_w, i32_w]
        rfl
      refine take_ (i := 5) (N := some 60) (v := ?_) (a' := ?_) #[false, true, true, false, true, true, false, false] rfl rfl (by kernel_rfl) (fun _ _ _ h => h) (Or.inl ⟨by rfl, ?_⟩) hHeld ?_ ?_
      rotate_left
      · rintro w' ⟨s0, s1, s2, s3, s4⟩
        go_simp
        with_reducible rfl
      rotate_left
      · simp only [Act.put, List.setIfInBounds_toArray, List.set_cons_zero, List.set_cons_succ, i64_w, i32_w]
        rfl
      refine one_ (i := 0) (N := some 55) #[true, true, true, false, true, true, false, false] rfl rfl (by kernel_rfl) (by decide) (fun K hK => ?_)
      refine Kd.R_lit_step (Kd.int .u8) _ 5 ?hg (N := 55) ?hd (xs := ([] : List Int)) (inner := []) (ok := fun _ => True) (okp := fun _ => True) ?hr ?hp (fun _ hk => hk) trivial (Below.refl _ _) (Nat.le_refl _) (by simp) ?_; (case hd => rfl); (case hg => rfl); (case hr => first | (go_simp; done) | (go_simp; rfl)); (case hp => exact (Reps.none _ _))
      intro v1 w1 ho1 hb1 hg_ hnew_
      clear hg_ hnew_
      have HS1 := blk_below HS0 hb1
      have HF1 := blk_below HF0 hb1
      have HG1 := blk_below HG0 hb1
      have CB1 := Kd.C_below CB0 hb1
      have CD1 := Kd.C_below CD0 hb1
      have KB1 := kb_below KB0 (hb1.mono KB0.1)
      have BB1 : Below W0.heap.size W0 w1 := hb1
      refine hK.out _ _ ⟨blk_cell HS1 0, blk_cell HS1 1, blk_cell HF1 0, blk_cell HF1 1, blk_cell HF1 2⟩ (fun hHeld => ?_)
      clear hK K
      refine norm_ (a' := ?_) ?_ ?_
      rotate_left
      · show Act.put _ (some 55) _ = _
        simp only [Act.put, List.setIfInBounds_toArray, List.set_cons_zero, List.set_cons_succ, i64_w, i32_w]
        rfl
      refine one_ (i := 3) (N := some 58) #[true, true, true, true, true, true, false, false] rfl rfl (by kernel_rfl) (by decide) (fun K hK => ?_)
      refine Kd.R_append_rows_step (Kd.int .u8) (w0 := W0) W0.heap.size (by rfl) (.tmp 55) (.tmp 57) 35 5 (.int .u8 0) 1 rfl Try.underlying35 info5 rfl (by decide) (by omega) v1 ([] : List Int) b _ _ _ (fun _ => True) (fun _ => False) rfl rfl ?aO ?aR (fun _ _ h => h) (fun _ h => h.elim) ?aF ?aB ?aS ?aL ?_
      (case aR => exact CB1)
      (case aB => exact BB1)
      (case aF => exact (fun _ _ => trivial))
      (case aO => exact ho1)
      (case aS => exact BB1.size)
      (case aL => simp; omega)
      intro v2 w2 ho2 hb2 hg2 hat2
      have HS2 := blk_grown HS1 hg2 (Kd.R_ne ho1 HS1 (by decide))
      have HF2 := blk_grown HF1 hg2 (Kd.R_ne ho1 HF1 (by decide))
      have HG2 := blk_grown HG1 hg2 (Kd.R_ne ho1 HG1 (by decide))
      have BB2 : Below W0.heap.size W0 w2 := hb2
      have KB2 := kb_below KB0 (hb2.mono KB0.1)
      have CD2 := Kd.C_below CD0 hb2
      refine hK.out _ _ ⟨blk_cell HS2 0, blk_cell HS2 1, blk_cell HF2 0, blk_cell HF2 1, blk_cell HF2 2⟩ (fun hHeld => ?_)
      clear hK K
      refine norm_ (a' := ?_) ?_ ?_
      rotate_left
      · show Act.put _ (some 58) _ = _
        simp only [Act.put, List.setIfInBounds_toArray, List.set_cons_zero, List.set_cons_succ, i64_w, i32_w]
        rfl
      refine one_ (i := 6) (N := some 61) #[true, true, true, true, true, true, true, false] rfl rfl (by kernel_rfl) (by decide) (fun K hK => ?_)
      refine Kd.R_append_rows_step (Kd.int .u8) (w0 := W0) W0.heap.size (by rfl) (.tmp 58) (.tmp 60) 35 5 (.int .u8 0) 1 rfl Try.underlying35 info5 rfl (by decide) (by omega) v2 ([] ++ b) data _ _ _ (fun _ => True) (fun _ => False) rfl rfl ?aO ?aR (fun _ _ h => h) (fun _ h => h.elim) ?aF ?aB ?aS ?aL ?_
      (case aR => exact CD2)
      (case aB => exact BB2)
      (case aF => exact (fun _ _ => trivial))
      (case aO => exact ho2)
      (case aS => exact BB2.size)
      (case aL => simp; omega)
      intro v3 w3 ho3 hb3 hg3 hat3
      have HS3 := blk_grown HS2 hg3 (Kd.R_ne ho2 HS2 (by decide))
      have HF3 := blk_grown HF2 hg3 (Kd.R_ne ho2 HF2 (by decide))
      have HG3 := blk_grown HG2 hg3 (Kd.R_ne ho2 HG2 (by decide))
      have BB3 : Below W0.heap.size W0 w3 := hb3
      have KB3 := kb_below KB0 (hb3.mono KB0.1)
      refine hK.out _ _ ⟨blk_cell HS3 0, blk_cell HS3 1, blk_cell HF3 0, blk_cell HF3 1, blk_cell HF3 2⟩ (fun hHeld => ?_)
      clear hK K
      refine norm_ (a' := ?_) ?_ ?_
      rotate_left
      · show Act.put _ (some 61) _ = _
        simp only [Act.put, List.setIfInBounds_toArray, List.set_cons_zero, List.set_cons_succ, i64_w, i32_w]
        rfl
      refine pure_ (i := 7) (N := some 10) (v := ?_) (a' := ?_) #[true, true, true, true, true, true, true, true] rfl rfl (by kernel_rfl) (fun _ _ _ h => h) (Or.inl ⟨by rfl, ?_⟩) ?_ ?_
      rotate_left
      · intro w'
        go_simp
        with_reducible rfl
      rotate_left
      · simp only [Act.put, List.setIfInBounds_toArray, List.set_cons_zero, List.set_cons_succ, i64_w, i32_w]
        rfl
      refine done_ (by kernel_rfl) ?_
      obtain ⟨A3, c3, e3⟩ := Kd.R_slice ho3
      subst e3
      have e4 : ([] ++ b ++ data).length = b.length + data.length := by simp
      rw [e4] at ho3 ⊢
      clear e4
      clear HS0 HF0 HG0 KB0 CB0 CD0 HS1 HF1 HG1 CB1 CD1 KB1 BB BB1 hb1 ho1 HS2 HF2 HG2 KB2 BB2 CD2 hb2 hg2 hat2 ho2 hb3 hg3 hat3 hHeld
      have p0 : w3.cell? ⟨w.heap.size, 0, none⟩ = some (.int .i64 _) := blk_cell HF3 0
      have q0 : w3.cell? ⟨g, 0, none⟩ = some (.bool false) := blk_cell HG3 0
      have q1 : w3.cell? ⟨g, 1, none⟩ = some (.slice none 0 0) := blk_cell HG3 1
      have z0 := blk_frozen HG3 0
      have z1 := blk_frozen HG3 1
      replace HG3 := Aside0.mk HG3
      replace ho3 := Aside0.mk ho3
      replace KB3 := Aside0.mk KB3
      have BG3 := Aside0.mk (Below.trans BG0.out (BB3.mono (by rw [hsz]; have := KB.out.1; omega)))
      replace BB3 := Aside0.mk BB3
      go_wp2
      go_ret3
      first
      | (have e : R = ((b ++ data, true, 0), (false, [])) := by rw [← hR.out]; exact if_pos (by decide)
         rw [e]
         exact ⟨_, _, rfl, HG3.out, Kd.R_lower ho3.out (by rw [hsz]; exact KB.out.1), Kd.R_nil _ _ _ _ _, KB3.out, BG3.out⟩)
      | (have e : R = (([], false, 0), (true, b ++ data)) := by rw [← hR.out]; exact if_neg (by decide)
         rw [e]
         exact ⟨_, _, rfl, blk_put (blk_put HG3.out 0 _ rfl) 1 _ rfl, Kd.R_nil _ _ _ _ _, Kd.R_set (Kd.R_set (Kd.R_lower ho3.out (by rw [hsz]; exact KB.out.1)) HG3.out (by decide) 0 _) (blk_put HG3.out 0 _ rfl) (by decide) 1 _, (KB3.out.set_ 0 _).set_ 1 _, Below.setCell (Below.setCell BG3.out (Nat.le_refl _) _) (Nat.le_refl _) _⟩)
theorem feed_all (op : Bool) (b : List Int) (kind epoch : Int) (data : List Int) (w : World) (g : Nat) (Av A : Option Addr) (cv c : Nat)
    (hg : w.heap[g]? = some (.cells #[.bool op, .slice Av b.length cv] 116 (0, 0)))
    (hb : Kd.C (Kd.int .u8) w Av b.length b) (hd : Kd.C (Kd.int .u8) w A data.length data) (lb : b.length ≤ 70000) (ld : data.length ≤ 140737488351232) (hbc : b.length ≤ cv) (hdc : data.length ≤ c) :
    Calls Try.prog 43 #[.pointer (some ⟨g, 0, none⟩), .agg #[.int .i64 kind, .int .u32 epoch, .slice A data.length c]] w (FeedPost w g (feedF op b kind data)) := by
  cases h : ((op != (kind == 3 || kind == 4)) || (op == (kind == 1 || kind == 2))) with
  | true =>
    have e : feedF op b kind data = (([], false, 2), (false, [])) := by unfold feedF; rw [if_pos h]
    rw [e]
    exact feed_bad op b kind epoch data w g Av A cv c hg h
  | false => exact feed_good op b kind epoch data w g Av A cv c hg hb hd lb ld hbc hdc h
end Go.Proofs.Ythlpimojojofbaa.F
