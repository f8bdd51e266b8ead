/- Texts of mine put together: Awake17, FkStrandlinelaw17, BodyC, Seal, FkStrandlineref06, StampS, SealMath, SealC, Same, SpanC. -/
import Derived.Test.YthhbilkmdfdfiaaDoorPkImageBodies10
import Derived.Test.YthhbilkmdfdfiaaDoorWGuard
import Derived.Test.YthhbilkmdfdfiaaDoorPkImageBodies1
import Derived.Test.YthhbilkmdfdfiaaDoorPkImageBodies3
import Derived.Test.YthhbilkmdfdfiaaDoorPkImageBodies2
import Derived.Lib.Hide
import Derived.Test.YthhbilkmdfdfiaaDoorPkImageBodies6
section
/- strandlinelaw17's awake, by what is owned; a row of byte slices out of its cells. -/
set_option linter.unusedVariables false
set_option linter.unusedSimpArgs false
namespace Go.Proofs.YthhbilkmdfdfiaaDoor.O
open Go.RowKit Go.Proofs.YthhbilkmdfdfiaaDoorW.PrintWords Go.Proofs.YthhbilkmdfdfiaaDoorW.PrintLast Go.Proofs.YthhbilkmdfdfiaaDoorW.PrintMore Go.Proofs.YthhbilkmdfdfiaaDoor.F Go.Proofs.YthhbilkmdfdfiaaDoor.F.Nums Go.Proofs.YthhbilkmdfdfiaaDoor.Plain Go.Proofs.YthhbilkmdfdfiaaDoor.Img
theorem C_rows {w : World} {ad : Addr} (xs : List (List Int)) (hm : xs.length ≤ 9223372036854775807) (h : ∀ j, j < xs.length → ∃ A c, w.cell? (ad.add j) = some (.slice A (xs.getD j []).length c) ∧ (xs.getD j []).length ≤ c ∧ (Kd.int .u8).C w A (xs.getD j []).length (xs.getD j [])) :
    (Kd.slice 5 (Kd.int .u8)).C w (some ad) xs.length xs := by
  refine ⟨rfl, hm, fun _ => ⟨ad, rfl, fun j p hj => ?_⟩⟩
  have hlt := (List.getElem?_eq_some_iff.1 hj).1
  obtain ⟨A, c, h1, h2, h3⟩ := h j hlt
  have hp : xs.getD j [] = p := by rw [List.getD_eq_getElem?_getD, hj]; rfl
  rw [hp] at h1 h2 h3
  refine ⟨[.slice A p.length c], rfl, ⟨A, c, rfl, h2, h3⟩, fun i u hu => ?_⟩
  have hi : i = 0 := by have := (List.getElem?_eq_some_iff.1 hu).1; simpa using this
  subst hi
  simp at hu
  subst hu
  show w.cell? (ad.add (j * 1 + 0)) = _
  rw [Nat.mul_one, Nat.add_zero]
  exact h1
/-- what a call owns behind another one's end is owned with what was owned ahead of it -/
theorem Own.addK {w0 W W' : World} {F : Nat → Option Obj} {L L' : List Res} (H : Own w0 F L W) (K : Own W F0 L' W') : Own w0 F (L' ++ L) W' := by
  have H' := H.to K.below
  refine ⟨H'.below, H'.holds, ?_, ?_, ?_⟩
  · intro r hr
    rcases List.mem_append.1 hr with hr | hr
    · have h := K.ats r hr
      cases r with
      | blk g t c => exact ⟨Nat.le_trans H.size h.1, h.2⟩
      | row v e sz n xs => exact own_weaken h H.size
    · exact H'.ats r hr
  · intro r hr k hk
    rcases List.mem_append.1 hr with hr | hr
    · cases hF : F k with
      | none => rfl
      | some o =>
        have h1 := obj_lt (H.holds k o hF)
        have h2 := (K.ats r hr).base hk
        omega
    · exact H'.apart r hr k hk
  · rw [List.pairwise_append]
    refine ⟨K.sep, H.sep, fun x hx y hy k h1 h2 => ?_⟩
    have h3 := (K.ats x hx).base h1
    have h4 := (H.ats y hy).lt h2
    omega
theorem two_C {w0 W : World} {F : Nat → Option Obj} {L : List Res} {c1 c2 c3 : Res → List Res} {g1 g2 g3 : Nat} {t : TypeId} (H : Own w0 F L W) (h1 : In L (.blk g1 5 (nums .u8 (zs 10))) c1) (h2 : In L (.blk g2 5 (nums .u8 (zs 10))) c2)
    (h3 : In L (.blk g3 t [.slice (some ⟨g1, 0, none⟩) 10 10, .slice (some ⟨g2, 0, none⟩) 10 10]) c3) : (Kd.slice 5 (Kd.int .u8)).C W (some ⟨g3, 0, none⟩) 2 [zs 10, zs 10] := by
  refine C_rows [zs 10, zs 10] (by decide) (fun j hj => ?_)
  have hj2 : j = 0 ∨ j = 1 := by simp at hj; omega
  rcases hj2 with rfl | rfl
  · exact ⟨_, 10, by rw [addr_add]; exact H.cell h3 0, by decide, H.C h1 0 10 (by decide) (by decide)⟩
  · exact ⟨_, 10, by rw [addr_add]; exact H.cell h3 1, by decide, H.C h2 0 10 (by decide) (by decide)⟩
theorem lay_two : layAll 0 [zs 10, zs 10] = true ∧ layPl 0 [zs 10, zs 10] 2 = [0, 21] := by constructor <;> decide +kernel
set_option maxRecDepth 100000 in
set_option maxHeartbeats 4000000 in
theorem awake17_calls (w : World) (hH : Half w) : Calls Tryd.prog 42 #[] w fun e W => e = .returned (.bool true) ∧ Below w.heap.size w W := by
  have H := Own.start w
  have PC : ∀ (A : Option Addr) (c : Nat) (W : World), (Kd.slice 5 (Kd.int .u8)).C W A 2 [zs 10, zs 10] → Half W → Calls Tryd.prog 48 #[.slice A 2 c] W fun e W' => ∃ v, e = .returned (.tuple #[v, .bool true]) ∧ Own W F0 [.row v 3 1 2 (nums .i64 [0, 21])] W' := fun A c W hC h =>
    (places_calls [zs 10, zs 10] A c W (fun x hx => by simp at hx; subst hx; exact bytes_zs 10) (fun x hx => by simp at hx; subst hx; decide) (by decide) hC h).mono (by
      rintro e W' (⟨-, v, rfl, HO⟩ | ⟨h, -⟩)
      · exact ⟨v, rfl, by rw [← lay_two.2]; exact HO⟩
      · rw [lay_two.1] at h; cases h)
  go_enter Tryd.func42, Tryd.ntmps42
  go_wp2_with fail
  refine start_ (n := 9) (S := fun _ => True) (ds := []) #[false, false, false, false, false, false, false, false, false] (by kernel_rfl) rfl rfl trivial (fun hHeld => ?_)
  replace H := H.drew
  generalize World.drew _ = W at H hHeld ⊢
  refine two_ (i := 0) (j := 1) (Ni := some 4) (Nj := some 5) #[true, false, false, false, false, false, false, false, false] #[false, true, false, false, false, false, false, false, false] rfl rfl rfl rfl (by kernel_rfl) (by decide) (by decide) (fun K hK => ?_) (fun K hK => ?_)
  focus
    refine wanted_ rfl ?_
    refine w_make1 H 23 5 _ _ rfl _ rfl rfl Tryd.underlying23 _ rfl _ inf5 (by decide) (by decide) ?_
    clear H
    intro g4 W H
    refine hK.out _ _ ?_ (fun hHeld => ?_)
    · first | trivial | exact H | exact H.del .head | exact (H.del .head).del .head
    clear hK K
    refine norm_ (a' := ?_) ?_ ?_
    rotate_left
    · show Act.put _ (some 4) _ = _
      simp only [Act.put, List.setIfInBounds_toArray, List.set_cons_zero, List.set_cons_succ, i64_w, i32_w]
      rfl
    refine one_ (i := 1) (N := some 5) #[true, true, false, false, false, false, false, false, false] rfl rfl (by kernel_rfl) (by decide) (fun K hK => ?_)
    refine wanted_ rfl ?_
    refine w_make1 H 23 5 _ _ rfl _ rfl rfl Tryd.underlying23 _ rfl _ inf5 (by decide) (by decide) ?_
    clear H
    intro g5 W H
    refine hK.out _ _ ?_ (fun hHeld => ?_)
    · first | trivial | exact H | exact H.del .head | exact (H.del .head).del .head
    clear hK K
    refine norm_ (a' := ?_) ?_ ?_
    rotate_left
    · show Act.put _ (some 5) _ = _
      simp only [Act.put, List.setIfInBounds_toArray, List.set_cons_zero, List.set_cons_succ, i64_w, i32_w]
      rfl
  rotate_left 1
  focus
    refine wanted_ rfl ?_
    refine w_make1 H 23 5 _ _ rfl _ rfl rfl Tryd.underlying23 _ rfl _ inf5 (by decide) (by decide) ?_
    clear H
    intro g5 W H
    refine hK.out _ _ ?_ (fun hHeld => ?_)
    · first | trivial | exact H | exact H.del .head | exact (H.del .head).del .head
    clear hK K
    refine norm_ (a' := ?_) ?_ ?_
    rotate_left
    · show Act.put _ (some 5) _ = _
      simp only [Act.put, List.setIfInBounds_toArray, List.set_cons_zero, List.set_cons_succ, i64_w, i32_w]
      rfl
    refine one_ (i := 0) (N := some 4) #[true, true, false, false, false, false, false, false, false] rfl rfl (by kernel_rfl) (by decide) (fun K hK => ?_)
    refine wanted_ rfl ?_
    refine w_make1 H 23 5 _ _ rfl _ rfl rfl Tryd.underlying23 _ rfl _ inf5 (by decide) (by decide) ?_
    clear H
    intro g4 W H
    refine hK.out _ _ ?_ (fun hHeld => ?_)
    · first | trivial | exact H | exact H.del .head | exact (H.del .head).del .head
    clear hK K
    refine norm_ (a' := ?_) ?_ ?_
    rotate_left
    · show Act.put _ (some 4) _ = _
      simp only [Act.put, List.setIfInBounds_toArray, List.set_cons_zero, List.set_cons_succ, i64_w, i32_w]
      rfl
  rotate_left 1
  all_goals
    refine one_ (i := 2) (N := some 6) #[true, true, true, false, false, false, false, false, false] rfl rfl (by kernel_rfl) (by decide) (fun K hK => ?_)
    refine w_buildN H _ 23 2 _ rfl Tryd.underlying67 (.slice none 0 0) 1 (by kernel_rfl) (by decide) (by decide) (by decide) [.slice (some ⟨g4, 0, none⟩) 10 10, .slice (some ⟨g5, 0, none⟩) 10 10] rfl rfl (by intro v hv; simp at hv; rcases hv with rfl | rfl <;> rfl) [.slice (some ⟨g4, 0, none⟩) 10 10, .slice (some ⟨g5, 0, none⟩) 10 10] rfl ?_
    clear H
    intro g6 W H
    have hC2 : (Kd.slice 5 (Kd.int .u8)).C W (some ⟨g6, 0, none⟩) 2 [zs 10, zs 10] := two_C H (by (repeat (first | exact In.head | apply In.tail))) (by (repeat (first | exact In.head | apply In.tail))) .head
    refine hK.out _ _ ?_ (fun hHeld => ?_)
    · first | trivial | exact H | exact H.del .head | exact (H.del .head).del .head
    clear hK K
    refine norm_ (a' := ?_) ?_ ?_
    rotate_left
    · show Act.put _ (some 6) _ = _
      simp only [Act.put, List.setIfInBounds_toArray, List.set_cons_zero, List.set_cons_succ, i64_w, i32_w]
      rfl
    refine one_ (i := 3) (N := some 7) #[true, true, true, true, false, false, false, false, false] rfl rfl (by kernel_rfl) (by decide) (fun K hK => ?_)
    refine callK_ (PC _ _ W hC2 (hH.below H.below)) Tryd.func48 (by kernel_rfl) rfl (by rfl) rfl rfl (by (try simp only [List.map_toArray, List.map_cons, List.map_nil]); first | done | rfl) ?_
    rintro e W ⟨v7, rfl, HO⟩
    refine ⟨_, rfl, ?_⟩
    replace H := H.addK HO
    clear HO
    dsimp only [List.cons_append, List.nil_append] at H
    obtain ⟨A7, c7, rfl⟩ := H.row_slice .head
    refine hK.out _ _ ?_ (fun hHeld => ?_)
    · first | trivial | exact H | exact H.del .head | exact (H.del .head).del .head
    clear hK K
    refine norm_ (a' := ?_) ?_ ?_
    rotate_left
    · show Act.put _ (some 7) _ = _
      simp only [Act.put, List.setIfInBounds_toArray, List.set_cons_zero, List.set_cons_succ, i64_w, i32_w]
      rfl
    refine pure_ (i := 4) (N := some 3) (v := ?_) (a' := ?_) #[true, true, true, true, true, false, false, false, false] rfl rfl (by kernel_rfl) (fun _ _ _ h => h) (Or.inl ⟨by rfl, ?_⟩) ?_ ?_
    rotate_left
    · intro w'
      go_simp
      with_reducible rfl
    rotate_left
    · simp only [Act.put, List.setIfInBounds_toArray, List.set_cons_zero, List.set_cons_succ, i64_w, i32_w]
      rfl
    refine pure_ (i := 5) (N := some 8) (v := ?_) (a' := ?_) #[true, true, true, true, true, true, false, false, false] rfl rfl (by kernel_rfl) (fun _ _ _ h => h) (Or.inl ⟨by rfl, ?_⟩) ?_ ?_
    rotate_left
    · intro w'
      go_simp
      with_reducible rfl
    rotate_left
    · simp only [Act.put, List.setIfInBounds_toArray, List.set_cons_zero, List.set_cons_succ, i64_w, i32_w]
      rfl
    refine pure_ (i := 6) (N := some 9) (v := ?_) (a' := ?_) #[true, true, true, true, true, true, true, false, false] rfl rfl (by kernel_rfl) (fun _ _ _ h => h) (Or.inl ⟨by rfl, ?_⟩) ?_ ?_
    rotate_left
    · intro w'
      go_simp
      with_reducible rfl
    rotate_left
    · simp only [Act.put, List.setIfInBounds_toArray, List.set_cons_zero, List.set_cons_succ, i64_w, i32_w]
      rfl
    refine pure_ (i := 7) (N := some 1) (v := ?_) (a' := ?_) #[true, true, true, true, true, true, true, true, false] rfl rfl (by kernel_rfl) (fun _ _ _ h => h) (Or.inl ⟨by rfl, ?_⟩) ?_ ?_
    rotate_left
    · intro w'
      go_simp
      with_reducible rfl
    rotate_left
    · simp only [Act.put, List.setIfInBounds_toArray, List.set_cons_zero, List.set_cons_succ, i64_w, i32_w]
      rfl
    refine pure_ (i := 8) (N := some 2) (v := ?_) (a' := ?_) #[true, true, true, true, true, true, true, true, true] rfl rfl (by kernel_rfl) (fun _ _ _ h => h) (Or.inl ⟨by rfl, ?_⟩) ?_ ?_
    rotate_left
    · intro w'
      go_simp
      with_reducible rfl
    rotate_left
    · simp only [Act.put, List.setIfInBounds_toArray, List.set_cons_zero, List.set_cons_succ, i64_w, i32_w]
      rfl
    refine done_ (by kernel_rfl) ?_
    clear hHeld
  all_goals
    obtain ⟨g7, cap7, cur, e7, hn7, hm7, hl7, ht7, H2⟩ := H.row_blk .head (by decide)
    clear H
    have H := H2
    clear H2
    injection e7 with e7 _ e8
    subst e7 e8
    have c1 : cur[1]? = some (.int .i64 21) := by
      have := congrArg (fun l => l[1]?) ht7
      simpa [nums] using this
    go_wp2_with (first
    | ((with_reducible refine gate_dst (N := 19) rfl ?_); refine gate_guard (by rfl) ?_; refine l_load1 rfl H 3 _ rfl _ _ rfl (by (repeat (first | exact In.head | apply In.tail))) _ Tryd.underlying3 rfl _ (by first | rfl | assumption | exact nums_at _ (by omega)) ?_))
    go_ret
    exact ⟨rfl, H.below⟩
end Go.Proofs.YthhbilkmdfdfiaaDoor.O
end

section
/- Functions of strandlinelaw17: what each answers, as a Lean function, and that the call answers just this. Turned out of what the kit's print told for this seat. -/
namespace Go.Proofs.YthhbilkmdfdfiaaDoor.F
open Go.RowKit Go.Proofs.YthhbilkmdfdfiaaDoorW.PrintWords Go.Proofs.YthhbilkmdfdfiaaDoorW.PrintLast Go.Proofs.YthhbilkmdfdfiaaDoorW.PrintMore
attribute [local go_sem high] eqA120
attribute [local go_sem] field120_0
attribute [local go_sem] field120_1
attribute [local go_sem] max2_int min2_int max_two min_two max_three min_three max_four min_four
set_option linter.unusedVariables false
set_option linter.unusedSimpArgs false

/-! ### strandlinelaw17_few: function 45 -/
def strandlinelaw17_few.f (l0 : List (List Int)) : Option (Bool) := some (decide ((l0.length : Int) ≤ 100))
set_option maxHeartbeats 8000000 in
set_option maxRecDepth 100000 in
theorem strandlinelaw17_few.calls (A0 : Option Addr) (c0 : Nat) (l0 : List (List Int)) (r : Bool) (w : World) (hr0 : Kd.C (Kd.slice 5 (Kd.int .u8)) w A0 l0.length l0) (hc0 : l0.length ≤ c0) (h : strandlinelaw17_few.f l0 = some r) :
    Calls Tryd.prog 45 #[.slice A0 l0.length c0] w fun e w' => e = .returned (.bool r) ∧ Drawn0 w w' := by
  have hu37 := Tryd.underlying37
  have hu99 := Tryd.underlying99
  have hu120 := Tryd.underlying120
  have HR0 := Aside0.mk hr0
  have HC0 := Aside0.mk hc0
  clear hr0 hc0
  have H : (some (decide ((l0.length : Int) ≤ 100))) = some r := h
  clear h
  obtain rfl := Option.some.inj H
  go_enter Tryd.func45, Tryd.ntmps45
  go_wp2
  go_ret
  exact ⟨by first | rfl | (simp; done) | (simp [*]; done), by repeat (first | exact Drawn0.refl _ | apply Drawn0.step)⟩

-- NOT PRINTED: function 46 (image_Body)

-- NOT PRINTED: function 13 (strandlinelaw17_ImageMore)


end Go.Proofs.YthhbilkmdfdfiaaDoor.F
end

section
/- Rows of byte slices; image.Body in two cases; few. -/
set_option linter.unusedVariables false
set_option linter.unusedSimpArgs false
namespace Go.Proofs.YthhbilkmdfdfiaaDoor.O
open Go.RowKit Go.Proofs.YthhbilkmdfdfiaaDoorW.PrintWords Go.Proofs.YthhbilkmdfdfiaaDoorW.PrintLast Go.Proofs.YthhbilkmdfdfiaaDoorW.PrintMore Go.Proofs.YthhbilkmdfdfiaaDoor.F Go.Proofs.YthhbilkmdfdfiaaDoor.F.Nums Go.Proofs.YthhbilkmdfdfiaaDoor.Plain Go.Proofs.YthhbilkmdfdfiaaDoor.Img
theorem body_yes (e64 : Int) (l : List (List Int)) (A : Option Addr) (c : Nat) (w : World) (h : layAll e64 l = true) (he : 0 ≤ e64 ∧ e64 ≤ 18446744073709551615) (hl : ∀ x ∈ l, Bytes x) (hll : ∀ x ∈ l, x.length < 140737488355328) (hn : l.length ≤ 1000000)
    (hC : (Kd.slice 5 (Kd.int .u8)).C w A l.length l) (hH : Half w) :
    Calls Tryd.prog 46 #[.int .u64 e64, .slice A l.length c] w fun e W => ∃ g, e = .returned (.tuple #[.slice (some ⟨g, 0, none⟩) 832 832, .int .i64 (laySt e64 l l.length).2, .bool true]) ∧ Own w F0 [.blk g 5 (nums .u8 (laySt e64 l l.length).1)] W :=
  (body_calls e64 l A c w he hl hll hn hC hH).mono (by
    rintro e W (⟨-, g, rfl, H⟩ | ⟨h2, -⟩)
    · exact ⟨g, rfl, H⟩
    · rw [h] at h2; cases h2)
theorem body_nope (e64 : Int) (l : List (List Int)) (A : Option Addr) (c : Nat) (w : World) (h : layAll e64 l = false) (he : 0 ≤ e64 ∧ e64 ≤ 18446744073709551615) (hl : ∀ x ∈ l, Bytes x) (hll : ∀ x ∈ l, x.length < 140737488355328) (hn : l.length ≤ 1000000)
    (hC : (Kd.slice 5 (Kd.int .u8)).C w A l.length l) (hH : Half w) :
    Calls Tryd.prog 46 #[.int .u64 e64, .slice A l.length c] w fun e W => e = .returned (.tuple #[.slice none 0 0, .int .i64 0, .bool false]) ∧ Below w.heap.size w W :=
  (body_calls e64 l A c w he hl hll hn hC hH).mono (by
    rintro e W (⟨h2, -⟩ | ⟨-, rfl, hb⟩)
    · rw [h] at h2; cases h2
    · exact ⟨rfl, hb⟩)
theorem few17_calls (l : List (List Int)) (A : Option Addr) (c : Nat) (w : World) (hC : (Kd.slice 5 (Kd.int .u8)).C w A l.length l) (hc : l.length ≤ c) :
    Calls Tryd.prog 45 #[.slice A l.length c] w fun e W => e = .returned (.bool (decide ((l.length : Int) ≤ 100))) ∧ Below w.heap.size w W :=
  (strandlinelaw17_few.calls A c l _ w hC hc rfl).mono (by rintro e W ⟨rfl, hd⟩; exact ⟨rfl, hd.below⟩)
end Go.Proofs.YthhbilkmdfdfiaaDoor.O
end

section
/- stamp: Seal by hand. -/
namespace Go.Proofs.YthhbilkmdfdfiaaDoor.F
open Go.RowKit Go.Proofs.YthhbilkmdfdfiaaDoorW.PrintWords Go.Proofs.YthhbilkmdfdfiaaDoorW.PrintLast Go.Proofs.YthhbilkmdfdfiaaDoorW.PrintMore
set_option linter.unusedVariables false
set_option linter.unusedSimpArgs false
open Nums
theorem take_min (l : List Int) (n : Nat) : l.take (min l.length n) = l.take n := by
  by_cases h : l.length ≤ n
  · rw [Nat.min_eq_left h, List.take_of_length_le (Nat.le_refl _), List.take_of_length_le h]
  · rw [Nat.min_eq_right (by omega)]
theorem infoSec {xs : List Int} (h : xs.length = 64) : (Tryd.prog.info? 50).map (·.size) = some (vals xs).toArray.size := by
  have e : (Tryd.prog.info? 50).map (·.size) = some 64 := by kernel_rfl
  rw [e]
  simp [vals, h]
theorem vals_all (xs : List Int) : (vals xs).toArray.all (·.oneCell') = true := by
  rw [Array.all_eq_true]
  intro i hi
  exact vals_one (xs := xs) _ (by simp)
def z64b : List Int := List.replicate 64 0
def sealF (e i : Int) (room : List Int) : List Int := splice (splice (splice z64b 0 (putl (e.toNat) 8)) 8 (putl (IntKind.u64.wrap i).toNat 4)) 12 (room.take 52)
theorem sealF_len (e i : Int) (room : List Int) : (sealF e i room).length = 64 := by
  unfold sealF
  have h1 : (splice z64b 0 (putl e.toNat 8)).length = 64 := by rw [length_splice _ _ _ (by rw [putl_len]; decide)]; rfl
  have h2 : (splice (splice z64b 0 (putl e.toNat 8)) 8 (putl (IntKind.u64.wrap i).toNat 4)).length = 64 := by rw [length_splice _ _ _ (by rw [putl_len, h1]; decide), h1]
  rw [length_splice _ _ _ (by rw [List.length_take, h2]; omega), h2]
set_option maxHeartbeats 4000000 in
set_option maxRecDepth 100000 in
theorem seal_calls (e i : Int) (room : List Int) (A : Option Addr) (c : Nat) (w : World) (hr : Kd.C (Kd.int .u8) w A room.length room) (hc : room.length ≤ c) (h0 : 0 ≤ e) (h1 : e ≤ 18446744073709551615) :
    Calls Tryd.prog 90 #[.int .u64 e, .int .i64 i, .slice A room.length c] w fun en w' => en = .returned (.agg (vals (sealF e i room)).toArray) ∧ Below w.heap.size w w' := by
  obtain ⟨n, rfl⟩ := Int.eq_ofNat_of_zero_le h0
  have hn : n < 18446744073709551616 := by omega
  obtain ⟨m, hm⟩ : ∃ m : Nat, IntKind.u64.wrap i = m := ⟨(IntKind.u64.wrap i).toNat, by rw [IntKind.wrap_u64]; omega⟩
  have hm2 : m < 18446744073709551616 := by rw [IntKind.wrap_u64] at hm; omega
  obtain ⟨k, hk⟩ : ∃ k : Nat, 8 < k := ⟨9, by decide⟩
  have P1 := put_eq k hk n hn 8
  have P2 := put_eq k hk m hm2 4
  rw [show (cl8 8).toNat = 8 from rfl] at P1
  rw [show (cl8 4).toNat = 4 from rfl] at P2
  have L1 := putl_len n 8
  have L2 := putl_len m 4
  obtain ⟨s1, hs1⟩ : ∃ s1, splice z64b 0 (putl n 8) = s1 := ⟨_, rfl⟩
  have hl1 : s1.length = 64 := by rw [← hs1, length_splice _ _ _ (by rw [L1]; decide)]; rfl
  obtain ⟨s2, hs2⟩ : ∃ s2, splice s1 8 (putl m 4) = s2 := ⟨_, rfl⟩
  have hl2 : s2.length = 64 := by rw [← hs2, length_splice _ _ _ (by rw [L2, hl1]; decide), hl1]
  obtain ⟨s3, hs3⟩ : ∃ s3, splice s2 12 (room.take 52) = s3 := ⟨_, rfl⟩
  have hl3 : s3.length = 64 := by rw [← hs3, length_splice _ _ _ (by rw [List.length_take, hl2]; omega), hl2]
  have hfin : sealF n i room = s3 := by unfold sealF; rw [Int.toNat_natCast, hm, Int.toNat_natCast, hs1, hs2, hs3]
  rw [hfin]
  replace P1 := Aside0.mk P1
  replace P2 := Aside0.mk P2
  replace hs1 := Aside0.mk hs1
  replace hs2 := Aside0.mk hs2
  replace hs3 := Aside0.mk hs3
  replace hr := Aside0.mk hr
  replace hc := Aside0.mk hc
  have hz : z64b.length = 64 := rfl
  clear hfin
  go_enter Tryd.func90, Tryd.ntmps90
  go_wp2_with fail
  generalize hW : (w.alloc (.cells _ 50)).alloc (.cells _ 50) = W1
  have FS : Byt W1 (w.heap.size + 1) 50 z64b := by rw [← hW]; have := blk_new (w.alloc (.cells (vals z64b).toArray 50)) (.cells (vals z64b).toArray 50); rw [World.size_alloc] at this; exact this
  have FR : Byt W1 w.heap.size 50 z64b := by rw [← hW]; exact blk_alloc (blk_new w (.cells (vals z64b).toArray 50)) _
  have FB : Below w.heap.size w W1 := by rw [← hW]; exact below_alloc (below_alloc (Below.refl _ _) _) _
  clear hW
  refine start_ (n := 4) (S := fun _ => True) (ds := []) #[false, false, false, false] (by kernel_rfl) rfl rfl trivial (fun hHeld => ?_)
  replace FS := FS.below (below_drew1 (Below.refl _ _))
  replace FR := FR.below (below_drew1 (Below.refl _ _))
  replace FB := below_drew1 FB
  generalize W1.drew = W1a at FS FR FB hHeld ⊢
  refine pure_ (i := 0) (N := some 8) (v := ?_) (a' := ?_) #[true, false, false, false] rfl rfl (by kernel_rfl) (fun _ _ _ h => h) (Or.inl ⟨by rfl, ?_⟩) ?_ ?_
  rotate_left
  · intro w'
    go_simp
    with_reducible rfl
  rotate_left
  · simp only [Act.put, List.setIfInBounds_toArray, List.set_cons_zero, List.set_cons_succ, i64_w, i32_w]
    rfl
  refine pure_ (i := 1) (N := some 9) (v := ?_) (a' := ?_) #[true, true, false, false] rfl rfl (by kernel_rfl) (fun _ _ _ h => h) (Or.inl ⟨by rfl, ?_⟩) ?_ ?_
  rotate_left
  · intro w'
    go_simp
    with_reducible rfl
  rotate_left
  · simp only [Act.put, List.setIfInBounds_toArray, List.set_cons_zero, List.set_cons_succ, i64_w, i32_w]
    rfl
  refine one_ (i := 2) (N := some 10) #[true, true, true, false] rfl rfl (by kernel_rfl) (by decide) (fun K hK => ?_)
  refine goes_ Tryd.func60 (by kernel_rfl) rfl #[.int .u64 n, .int .i64 8] (by rfl) rfl rfl (by (try simp only [List.map_toArray, List.map_cons, List.map_nil]); first | done | rfl) ?_
  refine (word_Put.calls k n 8 (putl n 8) _ P1.out).mono ?_
  rintro en W1b ⟨v, rfl, ho, hb⟩
  refine ⟨_, rfl, ?_⟩
  replace FS := FS.below hb
  replace FR := FR.below hb
  replace FB := below_step FB hb
  obtain ⟨Av, cv, ev⟩ := Kd.R_slice ho
  subst ev
  have hC := (Kd.R_reads' ho).2.2
  rw [L1] at hC ⊢
  clear ho hb
  refine hK.out _ _ trivial (fun hHeld => ?_)
  clear hK K
  refine norm_ (a' := ?_) ?_ ?_
  rotate_left
  · show Act.put _ (some 10) _ = _
    simp only [Act.put, List.setIfInBounds_toArray, List.set_cons_zero, List.set_cons_succ, i64_w, i32_w]
    rfl
  refine one_ (i := 3) (N := some 11) #[true, true, true, true] rfl rfl (by kernel_rfl) (by decide) (fun K hK => ?_)
  refine copy_step rfl (.tmp 8) (.tmp 10) 23 23 rfl 5 Tryd.underlying23 (by kernel_rfl) (w.heap.size + 1) 0 Av 64 64 8 cv rfl rfl z64b 50 FS (putl n 8) hC (by rw [hz]; decide) ?_
  intro W2 h1 h2
  replace FR : Byt W2 w.heap.size 50 z64b := (h2.block _ (by omega)).trans FR
  replace FB := FB.trans (h2.mono (by omega))
  replace FS := h1
  rw [List.take_of_length_le (by rw [L1]; decide)] at FS
  clear h1 h2 hC
  refine hK.out _ _ trivial (fun hHeld => ?_)
  clear hK K
  refine norm_ (a' := ?_) ?_ ?_
  rotate_left
  · show Act.put _ (some 11) _ = _
    simp only [Act.put, List.setIfInBounds_toArray, List.set_cons_zero, List.set_cons_succ, i64_w, i32_w]
    rfl
  refine done_ (by kernel_rfl) ?_
  clear hHeld
  rw [hs1.out] at FS
  go_wp2_with fail
  refine start_ (n := 5) (S := fun _ => True) (ds := []) #[false, false, false, false, false] (by kernel_rfl) rfl rfl trivial (fun hHeld => ?_)
  replace FS := FS.below (below_drew1 (Below.refl _ _))
  replace FR := FR.below (below_drew1 (Below.refl _ _))
  replace FB := below_drew1 FB
  generalize W2.drew = W2a at FS FR FB hHeld ⊢
  refine pure_ (i := 0) (N := some 12) (v := ?_) (a' := ?_) #[true, false, false, false, false] rfl rfl (by kernel_rfl) (fun _ _ _ h => h) (Or.inl ⟨by rfl, ?_⟩) ?_ ?_
  rotate_left
  · intro w'
    go_simp
    with_reducible rfl
  rotate_left
  · simp only [Act.put, List.setIfInBounds_toArray, List.set_cons_zero, List.set_cons_succ, i64_w, i32_w]
    rfl
  refine pure_ (i := 1) (N := some 13) (v := ?_) (a' := ?_) #[true, true, false, false, false] rfl rfl (by kernel_rfl) (fun _ _ _ h => h) (Or.inl ⟨by rfl, ?_⟩) ?_ ?_
  rotate_left
  · intro w'
    go_simp
    with_reducible rfl
  rotate_left
  · simp only [Act.put, List.setIfInBounds_toArray, List.set_cons_zero, List.set_cons_succ, i64_w, i32_w]
    rfl
  refine pure_ (i := 2) (N := some 14) (v := ?_) (a' := ?_) #[true, true, true, false, false] rfl rfl (by kernel_rfl) (fun _ _ _ h => h) (Or.inl ⟨by rfl, ?_⟩) ?_ ?_
  rotate_left
  · intro w'
    go_simp
    with_reducible rfl
  rotate_left
  · simp only [Act.put, List.setIfInBounds_toArray, List.set_cons_zero, List.set_cons_succ, i64_w, i32_w]
    rfl
  refine one_ (i := 3) (N := some 15) #[true, true, true, true, false] rfl rfl (by kernel_rfl) (by decide) (fun K hK => ?_)
  refine goes_ Tryd.func60 (by kernel_rfl) rfl #[.int .u64 m, .int .i64 4] (by rfl) rfl rfl (by (try simp only [List.map_toArray, List.map_cons, List.map_nil]); first | done | rfl) ?_
  refine (word_Put.calls k m 4 (putl m 4) _ P2.out).mono ?_
  rintro en W2b ⟨v, rfl, ho, hb⟩
  refine ⟨_, rfl, ?_⟩
  replace FS := FS.below hb
  replace FR := FR.below hb
  replace FB := below_step FB hb
  obtain ⟨Av, cv, ev⟩ := Kd.R_slice ho
  subst ev
  have hC := (Kd.R_reads' ho).2.2
  rw [L2] at hC ⊢
  clear ho hb
  refine hK.out _ _ trivial (fun hHeld => ?_)
  clear hK K
  refine norm_ (a' := ?_) ?_ ?_
  rotate_left
  · show Act.put _ (some 15) _ = _
    simp only [Act.put, List.setIfInBounds_toArray, List.set_cons_zero, List.set_cons_succ, i64_w, i32_w]
    rfl
  refine one_ (i := 4) (N := some 16) #[true, true, true, true, true] rfl rfl (by kernel_rfl) (by decide) (fun K hK => ?_)
  refine copy_step rfl (.tmp 12) (.tmp 15) 23 23 rfl 5 Tryd.underlying23 (by kernel_rfl) (w.heap.size + 1) 8 Av 56 56 4 cv rfl rfl s1 50 FS (putl m 4) hC (by rw [hl1]; decide) ?_
  intro W3 h1 h2
  replace FR : Byt W3 w.heap.size 50 z64b := (h2.block _ (by omega)).trans FR
  replace FB := FB.trans (h2.mono (by omega))
  replace FS := h1
  rw [List.take_of_length_le (by rw [L2]; decide)] at FS
  clear h1 h2 hC
  refine hK.out _ _ trivial (fun hHeld => ?_)
  clear hK K
  refine norm_ (a' := ?_) ?_ ?_
  rotate_left
  · show Act.put _ (some 16) _ = _
    simp only [Act.put, List.setIfInBounds_toArray, List.set_cons_zero, List.set_cons_succ, i64_w, i32_w]
    rfl
  refine done_ (by kernel_rfl) ?_
  clear hHeld
  rw [hs2.out] at FS
  go_wp2_with (first
    | ((with_reducible refine gate_builtin (b := .copy) (xs := #[.tmp 17, .tmp 18]) rfl ?_)
       refine copy_plain rfl (.tmp 17) (.tmp 18) 23 23 rfl 5 Tryd.underlying23 (by kernel_rfl) (w.heap.size + 1) 12 A 52 52 room.length c rfl rfl s2 50 FS room (Kd.C_below hr.out FB) (by rw [hl2]; omega) ?_
       intro W4 h1 h2
       replace FR : Byt W4 w.heap.size 50 z64b := (h2.block _ (by omega)).trans FR
       replace FB := FB.trans (h2.mono (by omega))
       replace FS := h1
       rw [take_min, hs3.out] at FS
       clear h1 h2)
    | ((with_reducible refine gate_dst (N := 20) rfl ?_)
       refine wpList_load_row rfl 50 (.tmp 7) rfl (w.heap.size + 1) rfl 50 (vals s3).toArray (0, 0) _ FS Tryd.underlying50 rfl (infoSec hl3) ?_)
    | ((with_reducible refine gate_store (t := 50) (p := 6) rfl ?_)
       refine wpList_store_row rfl 50 (.tmp 6) (.tmp 20) rfl w.heap.size (vals s3).toArray rfl rfl 50 (vals z64b).toArray FR (infoSec hl3) (by simp [vals, hl3, hz]) (vals_all s3) ?_
       have FE : Byt (World.setRow W4 w.heap.size (vals s3).toArray) w.heap.size 50 s3 := setRow_heap W4 w.heap.size _ _ _ _ FR
       replace FB := below_setRow FB (Nat.le_refl _) (vals s3).toArray
       generalize World.setRow W4 w.heap.size (vals s3).toArray = W5 at FE FB ⊢
       clear FS FR))
  refine bodyPost_ret (results_cell_row (p := 6) (ty := 50) rfl _ _ w.heap.size 50 (vals s3).toArray (0, 0) _ rfl FE Tryd.underlying50 rfl (infoSec hl3)) rfl ?_
  exact ⟨rfl, FB⟩
end Go.Proofs.YthhbilkmdfdfiaaDoor.F
end

section
/- Functions of strandlineref06: what each answers, as a Lean function, and that the call answers just this. Turned out of what the kit's print told for this seat. -/
namespace Go.Proofs.YthhbilkmdfdfiaaDoor.F
open Go.RowKit Go.Proofs.YthhbilkmdfdfiaaDoorW.PrintWords Go.Proofs.YthhbilkmdfdfiaaDoorW.PrintLast Go.Proofs.YthhbilkmdfdfiaaDoorW.PrintMore
attribute [local go_sem high] eqA120
attribute [local go_sem] field120_0
attribute [local go_sem] field120_1
attribute [local go_sem] max2_int min2_int max_two min_two max_three min_three max_four min_four
set_option linter.unusedVariables false
set_option linter.unusedSimpArgs false

/-! ### strandlineref06_Byte: function 91 -/
def strandlineref06_Byte.f (k : Nat) (a0 : Int) (a1 : Int) (l2 : List Int) (a3 : Int) : Option (Int) := if a3 < 8 then ((strandlineref01_Put.f k a0 8).bind fun t208 => (if 0 ≤ a3 then (if a3 < (t208.length : Int) then (some (rd t208 a3)) else (none)) else (none))) else (if a3 < 12 then ((strandlineref01_Put.f k (IntKind.u64.wrap (a1)) 4).bind fun t212 => (if 0 ≤ (wrap64 (a3 - 8)) then (if (wrap64 (a3 - 8)) < (t212.length : Int) then (some (rd t212 (wrap64 (a3 - 8)))) else (none)) else (none))) else (if (wrap64 (a3 - 12)) < (l2.length : Int) then (if 0 ≤ (wrap64 (a3 - 12)) then (some (rd l2 (wrap64 (a3 - 12)))) else (none)) else (some 0)))
theorem strandlineref06_Byte.mono : ∀ a0 a1 a2 a3 k, LeO (strandlineref06_Byte.f k a0 a1 a2 a3) (strandlineref06_Byte.f (k + 1) a0 a1 a2 a3) := by
  intro a0 a1 a2 a3 k
  unfold strandlineref06_Byte.f
  repeat' first
      | (with_reducible exact strandlineref01_Put.mono _ _ _)
      | (with_reducible exact LeO.refl _)
      | (with_reducible exact LeO.none _)
      | (with_reducible refine LeO.ite ?_ ?_)
      | (with_reducible refine LeO.bind ?_ (fun _ => ?_))
      | exact strandlineref01_Put.mono _ _ _
      | exact LeO.none _
      | refine LeO.ite ?_ ?_
      | refine LeO.bind ?_ (fun _ => ?_)
set_option maxHeartbeats 8000000 in
set_option maxRecDepth 100000 in
theorem strandlineref06_Byte.calls (k : Nat) (a0 : Int) (a1 : Int) (A2 : Option Addr) (c2 : Nat) (l2 : List Int) (a3 : Int) (r : Int) (w : World) (hr2 : Kd.C (Kd.int .u8) w A2 l2.length l2) (hc2 : l2.length ≤ c2) (h : strandlineref06_Byte.f k a0 a1 l2 a3 = some r) :
    Calls Tryd.prog 91 #[.int .u64 a0, .int .i64 a1, .slice A2 l2.length c2, .int .i64 a3] w fun e w' => e = .returned (.int .u8 r) ∧ Below w.heap.size w w' := by
  have hu37 := Tryd.underlying37
  have hu99 := Tryd.underlying99
  have hu120 := Tryd.underlying120
  have HR2 := Aside0.mk hr2
  have HC2 := Aside0.mk hc2
  clear hr2 hc2
  have HB := Aside0.mk (Below.refl w.heap.size w)
  have H : (if a3 < 8 then ((strandlineref01_Put.f k a0 8).bind fun t208 => (if 0 ≤ a3 then (if a3 < (t208.length : Int) then (some (rd t208 a3)) else (none)) else (none))) else (if a3 < 12 then ((strandlineref01_Put.f k (IntKind.u64.wrap (a1)) 4).bind fun t212 => (if 0 ≤ (wrap64 (a3 - 8)) then (if (wrap64 (a3 - 8)) < (t212.length : Int) then (some (rd t212 (wrap64 (a3 - 8)))) else (none)) else (none))) else (if (wrap64 (a3 - 12)) < (l2.length : Int) then (if 0 ≤ (wrap64 (a3 - 12)) then (some (rd l2 (wrap64 (a3 - 12)))) else (none)) else (some 0)))) = some r := h
  clear h
  by_cases c5 : a3 < 8
  · rw [if_pos c5] at H
    have c5b0 : decide (a3 < 8) = true := decide_eq_true c5
    clear c5
    replace H := Option.bind_eq_some_iff.mp H
    obtain ⟨t208, A60, H⟩ := H
    replace H : (if 0 ≤ a3 then (if a3 < (t208.length : Int) then (some (rd t208 a3)) else (none)) else (none)) = some r := H
    have A6 := Aside0.mk A60
    clear A60
    by_cases c7 : 0 ≤ a3
    · rw [if_pos c7] at H
      have c7b0 : decide (0 ≤ a3) = true := decide_eq_true c7
      clear c7
      by_cases c8 : a3 < (t208.length : Int)
      · rw [if_pos c8] at H
        have c8b0 : decide (a3 < (t208.length : Int)) = true := decide_eq_true c8
        clear c8
        obtain rfl := Option.some.inj H
        go_enter Tryd.func91, Tryd.ntmps91
        go_wp2_with (first | ((with_reducible refine gate_callee (f := 61) rfl ?_); refine goesL_ (some 12) rfl rfl Tryd.func61 (by kernel_rfl) rfl #[.int .u64 a0, .int .i64 8] rfl (by (try simp only [List.map_toArray, List.map_cons, List.map_nil]); first | done | rfl | (simp only [List.length_drop, List.length_take]; rfl)) ?_; (with_reducible refine (strandlineref01_Put.calls k a0 8 t208 _ A6.out).mono ?_); rintro e w9 ⟨v209, rfl, ho0, hb⟩; refine ⟨_, rfl, ?_⟩; have n0_ := Aside0.mk (Kd.R_lower ho0 (below_size (by repeat (first | (with_reducible first | exact HB.out | apply below_alloc | apply pw_below_drewN | apply below_drew1) | exact HB.out)))); have n1_ := Aside0.mk (below_step (by repeat (first | (with_reducible first | exact HB.out | apply below_alloc | apply pw_below_drewN | apply below_drew1) | exact HB.out)) hb); clear HB; have HO210 := n0_; have HB := n1_; clear n0_ n1_; (try clear hb); (try clear hb2); (try clear hk); (try clear hi); (try clear ho0); obtain ⟨Ao10, co10, eo10⟩ := Kd.R_slice HO210.out; subst eo10; have p211 : 0 ≤ (a3 : Int) := of_decide_eq_true (by first | (with_reducible assumption) | assumption); have q211 : a3 < (t208.length : Int) := of_decide_eq_true (by first | (with_reducible assumption) | assumption); obtain ⟨ad211, e211, hx211_0⟩ := Kd.at_int (Kd.R_reads' HO210.out).2.2 a3 p211 q211; cases e211; replace p211 := eq_true p211; replace q211 := eq_true q211))
        go_ret
        exact ⟨by first | rfl | (simp [errW_none, errW_some] <;> rfl) | (simp [*, errW_none, errW_some] <;> rfl), by repeat (first | (with_reducible first | exact HB.out | apply below_alloc | apply pw_below_drewN | apply below_drew1) | exact HB.out)⟩
      · rw [if_neg c8] at H
        exact absurd H (by simp)
    · rw [if_neg c7] at H
      exact absurd H (by simp)
  · rw [if_neg c5] at H
    have c5b0 : decide (a3 < 8) = false := decide_eq_false c5
    clear c5
    by_cases c11 : a3 < 12
    · rw [if_pos c11] at H
      have c11b0 : decide (a3 < 12) = true := decide_eq_true c11
      clear c11
      replace H := Option.bind_eq_some_iff.mp H
      obtain ⟨t212, A120, H⟩ := H
      replace H : (if 0 ≤ (wrap64 (a3 - 8)) then (if (wrap64 (a3 - 8)) < (t212.length : Int) then (some (rd t212 (wrap64 (a3 - 8)))) else (none)) else (none)) = some r := H
      have A12 := Aside0.mk A120
      clear A120
      obtain ⟨ji13, hji13⟩ : ∃ j_ : Int, (wrap64 (a3 - 8)) = j_ := ⟨_, rfl⟩
      replace H : (if 0 ≤ (ji13) then (if (ji13) < (t212.length : Int) then (some (rd t212 (ji13))) else (none)) else (none)) = some r := by first | (rw [hji13] at H; exact H) | (simp only [hji13] at H ⊢; exact H)
      (try rw [hji13] at A12)
      have hji13w : (IntKind.i64.wrap (a3 - 8)) = ji13 := (i64_w _).trans hji13
      by_cases c14 : 0 ≤ (ji13)
      · rw [if_pos c14] at H
        have c14b0 : decide (0 ≤ (ji13)) = true := decide_eq_true c14
        clear c14
        by_cases c15 : (ji13) < (t212.length : Int)
        · rw [if_pos c15] at H
          have c15b0 : decide ((ji13) < (t212.length : Int)) = true := decide_eq_true c15
          clear c15
          obtain rfl := Option.some.inj H
          go_enter Tryd.func91, Tryd.ntmps91
          go_wp2_with (first | ((with_reducible refine gate_callee (f := 61) rfl ?_); refine goesL_ (some 20) rfl rfl Tryd.func61 (by kernel_rfl) rfl #[.int .u64 (IntKind.u64.wrap (a1)), .int .i64 4] rfl (by (try simp only [List.map_toArray, List.map_cons, List.map_nil]); first | done | rfl | (simp only [List.length_drop, List.length_take]; rfl)) ?_; (with_reducible refine (strandlineref01_Put.calls k (IntKind.u64.wrap (a1)) 4 t212 _ A12.out).mono ?_); rintro e w16 ⟨v213, rfl, ho0, hb⟩; refine ⟨_, rfl, ?_⟩; have n0_ := Aside0.mk (Kd.R_lower ho0 (below_size (by repeat (first | (with_reducible first | exact HB.out | apply below_alloc | apply pw_below_drewN | apply below_drew1) | exact HB.out)))); have n1_ := Aside0.mk (below_step (by repeat (first | (with_reducible first | exact HB.out | apply below_alloc | apply pw_below_drewN | apply below_drew1) | exact HB.out)) hb); clear HB; have HO214 := n0_; have HB := n1_; clear n0_ n1_; (try clear hb); (try clear hb2); (try clear hk); (try clear hi); (try clear ho0); obtain ⟨Ao17, co17, eo17⟩ := Kd.R_slice HO214.out; subst eo17; have p215 : 0 ≤ ((ji13) : Int) := of_decide_eq_true (by first | (with_reducible assumption) | assumption); have q215 : (ji13) < (t212.length : Int) := of_decide_eq_true (by first | (with_reducible assumption) | assumption); obtain ⟨ad215, e215, hx215_0⟩ := Kd.at_int (Kd.R_reads' HO214.out).2.2 (ji13) p215 q215; cases e215; replace p215 := eq_true p215; replace q215 := eq_true q215))
          go_ret
          exact ⟨by first | rfl | (simp [errW_none, errW_some] <;> rfl) | (simp only [← hji13]; first | rfl | (simp [errW_none, errW_some] <;> rfl)) | (simp [*, errW_none, errW_some] <;> rfl), by repeat (first | (with_reducible first | exact HB.out | apply below_alloc | apply pw_below_drewN | apply below_drew1) | exact HB.out)⟩
        · rw [if_neg c15] at H
          exact absurd H (by simp)
      · rw [if_neg c14] at H
        exact absurd H (by simp)
    · rw [if_neg c11] at H
      have c11b0 : decide (a3 < 12) = false := decide_eq_false c11
      clear c11
      by_cases c18 : (wrap64 (a3 - 12)) < (l2.length : Int)
      · rw [if_pos c18] at H
        have c18b0 : decide ((wrap64 (a3 - 12)) < (l2.length : Int)) = true := decide_eq_true c18
        clear c18
        obtain ⟨ji19, hji19⟩ : ∃ j_ : Int, (wrap64 (a3 - 12)) = j_ := ⟨_, rfl⟩
        replace H : (if 0 ≤ (ji19) then (some (rd l2 (ji19))) else (none)) = some r := by first | (rw [hji19] at H; exact H) | (simp only [hji19] at H ⊢; exact H)
        (try rw [hji19] at c18b0)
        have hji19w : (IntKind.i64.wrap (a3 - 12)) = ji19 := (i64_w _).trans hji19
        by_cases c20 : 0 ≤ (ji19)
        · rw [if_pos c20] at H
          have c20b0 : decide (0 ≤ (ji19)) = true := decide_eq_true c20
          clear c20
          obtain rfl := Option.some.inj H
          have p216 : 0 ≤ ((ji19) : Int) := of_decide_eq_true (by first | (with_reducible assumption) | assumption)
          have q216 : (ji19) < (l2.length : Int) := of_decide_eq_true (by first | (with_reducible assumption) | assumption)
          obtain ⟨ad216, e216, hx216_0⟩ := Kd.at_int HR2.out (ji19) p216 q216
          cases e216
          replace p216 := eq_true p216
          replace q216 := eq_true q216
          go_enter Tryd.func91, Tryd.ntmps91
          go_wp2
          go_ret
          exact ⟨by first | rfl | (simp [errW_none, errW_some] <;> rfl) | (simp only [← hji19]; first | rfl | (simp [errW_none, errW_some] <;> rfl)) | (simp [*, errW_none, errW_some] <;> rfl), by repeat (first | (with_reducible first | exact HB.out | apply below_alloc | apply pw_below_drewN | apply below_drew1) | exact HB.out)⟩
        · rw [if_neg c20] at H
          exact absurd H (by simp)
      · rw [if_neg c18] at H
        have c18b0 : decide ((wrap64 (a3 - 12)) < (l2.length : Int)) = false := decide_eq_false c18
        clear c18
        obtain rfl := Option.some.inj H
        go_enter Tryd.func91, Tryd.ntmps91
        go_wp2
        go_ret
        exact ⟨by first | rfl | (simp [errW_none, errW_some] <;> rfl) | (simp [*, errW_none, errW_some] <;> rfl), by repeat (first | (with_reducible first | exact HB.out | apply below_alloc | apply pw_below_drewN | apply below_drew1) | exact HB.out)⟩

-- NOT PRINTED: function 89 (strandlineref06_Seal)

-- NOT PRINTED: function 84 (strandlineref16_Sector)

-- NOT PRINTED: function 71 (strandlineref16_Whole)

-- NOT PRINTED: function 50 (strandlineref17_Sectors)

-- NOT PRINTED: function 51 (strandlineref06_Same)

-- NOT PRINTED: function 14 (strandlinelaw17_ImageBodies)


end Go.Proofs.YthhbilkmdfdfiaaDoor.F
end

section
/- stamp's reference by hand: the reference's Seal; '==' of sectors. -/
namespace Go.Proofs.YthhbilkmdfdfiaaDoor.F
open Go.RowKit Go.Proofs.YthhbilkmdfdfiaaDoorW.PrintWords Go.Proofs.YthhbilkmdfdfiaaDoorW.PrintLast Go.Proofs.YthhbilkmdfdfiaaDoorW.PrintMore Nums
set_option linter.unusedVariables false
set_option linter.unusedSimpArgs false
theorem eq64 {xs ys : List Int} (hx : xs.length = 64) (hy : ys.length = 64) (bx : Bytes xs) (by' : Bytes ys) (w : World) :
    (Op.equalIn 10000 50 (.agg (vals xs).toArray) (.agg (vals ys).toArray)).run Tryd.prog w = .ok (xs == ys) w := equalB 9998 w 50 64 Tryd.underlying50 hx hy bx by'
set_option maxRecDepth 100000 in
set_option maxHeartbeats 2000000 in
theorem refSeal_calls (k : Nat) (e i : Int) (room : List Int) (A : Option Addr) (c : Nat) (out : List Int) (w : World) (hr : Kd.C (Kd.int .u8) w A room.length room) (hc : room.length ≤ c) (ho : out.length = 64)
    (hB : ∀ j : Nat, j < 64 → strandlineref06_Byte.f k e i room (j : Int) = some (out.getD j 0)) :
    Calls Tryd.prog 89 #[.int .u64 e, .int .i64 i, .slice A room.length c] w fun en w' => en = .returned (.agg (vals out).toArray) ∧ Below w.heap.size w w' := by
  have HR := Aside0.mk hr
  have HC := Aside0.mk hc
  have HBy := Aside0.mk hB
  clear hr hc hB
  have hz : z64b.length = 64 := rfl
  have FR0 : Byt ((w.alloc (.cells (vals z64b).toArray 50)).alloc (.cells (vals z64b).toArray 50)) w.heap.size 50 z64b := blk_alloc (blk_new w (.cells (vals z64b).toArray 50)) _
  have FS0 : Byt ((w.alloc (.cells (vals z64b).toArray 50)).alloc (.cells (vals z64b).toArray 50)) (w.heap.size + 1) 50 z64b := by
    have := blk_new (w.alloc (.cells (vals z64b).toArray 50)) (.cells (vals z64b).toArray 50)
    rw [World.size_alloc] at this
    exact this
  have FB0 : Below w.heap.size w ((w.alloc (.cells (vals z64b).toArray 50)).alloc (.cells (vals z64b).toArray 50)) := below_alloc (below_alloc (Below.refl _ _) _) _
  have hW0 : ∃ W0, (w.alloc (.cells (vals z64b).toArray 50)).alloc (.cells (vals z64b).toArray 50) = W0 := ⟨_, rfl⟩
  obtain ⟨W0, hW0⟩ := hW0
  rw [hW0] at FR0 FS0 FB0
  rw [show (vals z64b).toArray = #[.int .u8 0, .int .u8 0, .int .u8 0, .int .u8 0, .int .u8 0, .int .u8 0, .int .u8 0, .int .u8 0, .int .u8 0, .int .u8 0, .int .u8 0, .int .u8 0, .int .u8 0, .int .u8 0, .int .u8 0, .int .u8 0, .int .u8 0, .int .u8 0, .int .u8 0, .int .u8 0, .int .u8 0, .int .u8 0, .int .u8 0, .int .u8 0, .int .u8 0, .int .u8 0, .int .u8 0, .int .u8 0, .int .u8 0, .int .u8 0, .int .u8 0, .int .u8 0, .int .u8 0, .int .u8 0, .int .u8 0, .int .u8 0, .int .u8 0, .int .u8 0, .int .u8 0, .int .u8 0, .int .u8 0, .int .u8 0, .int .u8 0, .int .u8 0, .int .u8 0, .int .u8 0, .int .u8 0, .int .u8 0, .int .u8 0, .int .u8 0, .int .u8 0, .int .u8 0, .int .u8 0, .int .u8 0, .int .u8 0, .int .u8 0, .int .u8 0, .int .u8 0, .int .u8 0, .int .u8 0, .int .u8 0, .int .u8 0, .int .u8 0, .int .u8 0] from rfl] at hW0
  go_enter Tryd.func89, Tryd.ntmps89
  go_wp2_with (first
    | ((with_reducible refine gate_store (t := 50) (p := 7) rfl ?_)
       (try rw [hW0])
       refine wpList_store_row rfl 50 (.tmp 7) (.tmp 9) rfl (w.heap.size + 1) (vals z64b).toArray rfl rfl 50 (vals z64b).toArray FS0 (infoSec hz) rfl (vals_all z64b) ?_
       have FS1 : Byt (World.setRow W0 (w.heap.size + 1) (vals z64b).toArray) (w.heap.size + 1) 50 z64b := setRow_heap W0 (w.heap.size + 1) _ _ _ _ FS0
       have FR1 : Byt (World.setRow W0 (w.heap.size + 1) (vals z64b).toArray) w.heap.size 50 z64b := (setRow_other W0 (w.heap.size + 1) w.heap.size _ (by omega)).trans FR0
       have FB1 := below_setRow FB0 (show w.heap.size ≤ w.heap.size + 1 by omega) (vals z64b).toArray
       generalize World.setRow W0 (w.heap.size + 1) (vals z64b).toArray = W1 at FS1 FR1 FB1 ⊢
       clear FS0 FR0 FB0 hW0))
  have HR1 := Aside0.mk (Kd.C_below HR.out FB1)
  replace FS1 := Aside0.mk FS1
  replace FR1 := Aside0.mk FR1
  replace FB1 := Aside0.mk FB1
  go_loopg [8] 64 (fun gq v8 w' => ∃ j : Nat, v8 = .int .i64 j ∧ Aside0 (j + gq = 64) ∧ Aside0 (Byt w' (w.heap.size + 1) 50 (fillB out j z64b)) ∧ Aside0 (Byt w' w.heap.size 50 z64b) ∧ Aside0 (Below w.heap.size w w'))
  case atStart => exact ⟨0, rfl, ⟨rfl⟩, FS1, FR1, FB1⟩
  case round =>
    clear FS1 FR1 FB1
    obtain ⟨j, rfl, HQ, FS, FR, FB⟩ := hrel
    by_cases cj : j < 64
    · obtain ⟨gk', rfl⟩ : ∃ q, gk = q + 1 := ⟨gk - 1, by have := HQ.out; omega⟩
      have q1 : decide ((j : Int) < 64) = true := decide_eq_true (by omega)
      have p0 : ((0 : Int) ≤ (j : Int)) = True := eq_true (by omega)
      have p1 : ((j : Int) < 64) = True := eq_true (by omega)
      have hfl := fillB_len out z64b j
      go_wp2_with fail
      refine (strandlineref06_Byte.calls k e i A c room j (out.getD j 0) _ (Kd.C_below HR.out FB.out) HC.out (HBy.out j cj)).mono ?_
      rintro en w2 ⟨rfl, hb2⟩
      have FS2 := FS.out.below hb2
      have FR2 := FR.out.below hb2
      have FB2 := below_step FB.out hb2
      have y1 : w2.cell? ⟨w.heap.size + 1, j, none⟩ = some (.int .u8 ((fillB out j z64b).getD j 0)) := by
        rw [FS2.cell, List.getElem?_eq_getElem (by rw [hfl]; exact cj), List.getD_eq_getElem?_getD, List.getElem?_eq_getElem (by rw [hfl]; exact cj)]
        rfl
      have y2 := blk_frozen FS2 j
      have FS3 := Aside0.mk (show Byt (w2.setCell ⟨w.heap.size + 1, j, none⟩ (.int .u8 (out.getD j 0))) (w.heap.size + 1) 50 (fillB out (j + 1) z64b) from FS2.set j (out.getD j 0))
      have FR3 := Aside0.mk (show Byt (w2.setCell ⟨w.heap.size + 1, j, none⟩ (.int .u8 (out.getD j 0))) w.heap.size 50 z64b from (Below.heap_setCell w2 ⟨w.heap.size + 1, j, none⟩ _ _ (by show w.heap.size ≠ w.heap.size + 1; omega)).trans FR2)
      have FB3 := Aside0.mk (Below.setCell FB2 (p := ⟨w.heap.size + 1, j, none⟩) (by show w.heap.size ≤ w.heap.size + 1; omega) (.int .u8 (out.getD j 0)))
      clear FS2 FR2 FB2 FS FR FB hb2
      generalize out.getD j 0 = z at FS3 FR3 FB3 ⊢
      go_wp2_with fail
      go_roundg gk'
      case measure => omega
      case rel => exact ⟨j + 1, by go_num, ⟨by have := HQ.out; omega⟩, FS3, FR3, FB3⟩
    · have hj : j = 64 := by have := HQ.out; omega
      subst hj
      have q1 : decide (((64 : Nat) : Int) < 64) = false := by decide
      have hfa : fillB out 64 z64b = out := by have := fillB_all out z64b (by rw [ho]; rfl); rwa [ho] at this
      rw [hfa] at FS
      go_wp2_with (first
        | ((with_reducible refine gate_dst (N := 21) rfl ?_)
           refine wpList_load_row rfl 50 (.tmp 7) rfl (w.heap.size + 1) rfl 50 (vals out).toArray (0, 0) _ FS.out Tryd.underlying50 rfl (infoSec ho) ?_)
        | ((with_reducible refine gate_store (t := 50) (p := 6) rfl ?_)
           refine wpList_store_row rfl 50 (.tmp 6) (.tmp 21) rfl w.heap.size (vals out).toArray rfl rfl 50 (vals z64b).toArray FR.out (infoSec ho) (by simp [vals, ho, hz]) (vals_all out) ?_
           have FE : Byt (World.setRow wr w.heap.size (vals out).toArray) w.heap.size 50 out := setRow_heap wr w.heap.size _ _ _ _ FR.out
           have FB2 := below_setRow FB.out (Nat.le_refl _) (vals out).toArray
           generalize World.setRow wr w.heap.size (vals out).toArray = W5 at FE FB2 ⊢
           clear FS FR FB))
      refine bodyPost_ret (results_cell_row (p := 6) (ty := 50) rfl _ _ w.heap.size 50 (vals out).toArray (0, 0) _ rfl FE Tryd.underlying50 rfl (infoSec ho)) rfl ?_
      exact ⟨rfl, FB2⟩
end Go.Proofs.YthhbilkmdfdfiaaDoor.F
end

section
/- The reference's byte of a sealed sector is stamp.Seal's. Plain. -/
set_option linter.unusedVariables false
set_option linter.unusedSimpArgs false
namespace Go.Proofs.YthhbilkmdfdfiaaDoor.F
namespace Nums
open Go.RowKit Go.Proofs.YthhbilkmdfdfiaaDoorW.PrintWords Go.Proofs.YthhbilkmdfdfiaaDoorW.PrintLast Go.Proofs.YthhbilkmdfdfiaaDoorW.PrintMore Go.Proofs.YthhbilkmdfdfiaaDoor.Plain
theorem splice_get {l cs : List Int} {o : Nat} (h : o + cs.length ≤ l.length) (j : Nat) : (splice l o cs)[j]? = if j < o then l[j]? else if j < o + cs.length then cs[j - o]? else l[j]? := by
  have hl : (l.take o).length = o := by rw [List.length_take]; omega
  unfold splice
  by_cases h1 : j < o
  · rw [if_pos h1, List.getElem?_append_left (by omega), List.getElem?_take_of_lt h1]
  · rw [if_neg h1, List.getElem?_append_right (by omega), hl]
    by_cases h2 : j < o + cs.length
    · rw [if_pos h2, List.getElem?_append_left (by omega)]
    · rw [if_neg h2, List.getElem?_append_right (by omega), List.getElem?_drop]
      congr 1
      omega
theorem getD_of {l : List Int} {j : Nat} {z : Int} (h : l[j]? = some z) : l.getD j 0 = z := by rw [List.getD_eq_getElem?_getD, h]; rfl
theorem rd_getD (l : List Int) (j : Nat) : rd l (j : Int) = l.getD j 0 := by unfold rd; rw [Int.toNat_natCast]
theorem byte_eq (k : Nat) (hk : 8 < k) (n : Nat) (hn : n < 18446744073709551616) (i : Int) (room : List Int) (hr : room.length ≤ 140737488355328) (j : Nat) (hj : j < 64) :
    strandlineref06_Byte.f k n i room (j : Int) = some ((sealF n i room).getD j 0) := by
  obtain ⟨m, hm⟩ : ∃ m : Nat, IntKind.u64.wrap i = m := ⟨(IntKind.u64.wrap i).toNat, by rw [IntKind.wrap_u64]; omega⟩
  have hm2 : m < 18446744073709551616 := by rw [IntKind.wrap_u64] at hm; omega
  have L1 := putl_len n 8
  have L2 := putl_len m 4
  have P1 := rput_eq k hk n hn 8 (by decide)
  have P2 := rput_eq k hk m hm2 4 (by decide)
  rw [show (cl8 8).toNat = 8 from rfl] at P1
  rw [show (cl8 4).toNat = 4 from rfl] at P2
  have hl1 : (splice z64b 0 (putl n 8)).length = 64 := by rw [length_splice _ _ _ (by rw [L1]; decide)]; rfl
  have hl2 : (splice (splice z64b 0 (putl n 8)) 8 (putl m 4)).length = 64 := by rw [length_splice _ _ _ (by rw [L2, hl1]; decide), hl1]
  have hz : ∀ j : Nat, j < 64 → z64b[j]? = some 0 := fun j hj => by unfold z64b; rw [List.getElem?_replicate, if_pos hj]
  have e : (sealF n i room)[j]? = if j < 12 then (if j < 8 then (putl n 8)[j]? else (putl m 4)[j - 8]?) else if j < 12 + (room.take 52).length then (room.take 52)[j - 12]? else some 0 := by
    unfold sealF
    rw [Int.toNat_natCast, hm, Int.toNat_natCast, splice_get (by rw [hl2, List.length_take]; omega), splice_get (by rw [hl1, L2]; decide), splice_get (by rw [L1]; decide), L1, L2]
    by_cases h1 : j < 8
    · rw [if_pos (by omega), if_pos h1, if_neg (by omega), if_pos (by omega), if_pos (by omega), if_pos h1]; rfl
    · by_cases h2 : j < 12
      · rw [if_pos h2, if_neg h1, if_pos (by omega), if_pos h2, if_neg h1]
      · simp [h1, h2, show ¬ j < 0 + 8 by omega, show ¬ j < 8 + 4 by omega, hz j hj]
  unfold strandlineref06_Byte.f
  by_cases h1 : j < 8
  · rw [if_pos h1, if_pos (by omega)] at e
    rw [List.getElem?_eq_getElem (show j < (putl n 8).length by rw [L1]; exact h1)] at e
    rw [if_pos (by omega), P1, Option.bind_some, L1, if_pos (by omega), if_pos (by omega), rd_getD, getD_of e, List.getD_eq_getElem?_getD, List.getElem?_eq_getElem (show j < (putl n 8).length by rw [L1]; exact h1)]
    rfl
  · by_cases h2 : j < 12
    · rw [if_pos h2, if_neg h1] at e
      rw [if_neg (by omega), if_pos (by omega), hm, P2, Option.bind_some, L2, show wrap64 ((j : Int) - 8) = ((j - 8 : Nat) : Int) by rw [w64 (by omega) (by omega)]; omega, if_pos (by omega), if_pos (by omega), rd_getD]
      rw [List.getElem?_eq_getElem (show j - 8 < (putl m 4).length by rw [L2]; omega)] at e
      rw [getD_of e, List.getD_eq_getElem?_getD, List.getElem?_eq_getElem (show j - 8 < (putl m 4).length by rw [L2]; omega)]
      rfl
    · rw [if_neg h2] at e
      rw [if_neg (by omega), if_neg (by omega), show wrap64 ((j : Int) - 12) = ((j - 12 : Nat) : Int) by rw [w64 (by omega) (by omega)]; omega]
      by_cases h3 : j - 12 < room.length
      · rw [if_pos (by rw [List.length_take]; omega), List.getElem?_take_of_lt (by omega), List.getElem?_eq_getElem h3] at e
        rw [if_pos (by omega), if_pos (by omega), rd_getD, getD_of e, List.getD_eq_getElem?_getD, List.getElem?_eq_getElem h3]
        rfl
      · rw [if_neg (by rw [List.length_take]; omega)] at e
        rw [if_neg (by omega), getD_of e]
end Nums
end Go.Proofs.YthhbilkmdfdfiaaDoor.F
end

section
/- stamp's Seal and the reference's, over lists of numbers. -/
namespace Go.Proofs.YthhbilkmdfdfiaaDoor.O
open Go.RowKit Go.Proofs.YthhbilkmdfdfiaaDoorW.PrintWords Go.Proofs.YthhbilkmdfdfiaaDoorW.PrintLast Go.Proofs.YthhbilkmdfdfiaaDoorW.PrintMore Go.Proofs.YthhbilkmdfdfiaaDoor.F Go.Proofs.YthhbilkmdfdfiaaDoor.F.Nums Go.Proofs.YthhbilkmdfdfiaaDoor.Plain
set_option linter.unusedVariables false
set_option linter.unusedSimpArgs false
/-- a sealed sector, end to end -/
theorem sealF_eq (e i : Int) (room : List Int) : sealF e i room = putl e.toNat 8 ++ (putl (IntKind.u64.wrap i).toNat 4 ++ (room.take 52 ++ zs (52 - room.length))) := by
  have h0 : splice z64b 0 (putl e.toNat 8) = putl e.toNat 8 ++ zs 56 := by
    have := splice_at ([] : List Int) z64b (putl e.toNat 8) 0 rfl
    rw [List.nil_append, List.nil_append, putl_len] at this
    rw [this]
    congr 1
  unfold sealF
  rw [h0, splice_at _ _ _ 8 (putl_len _ _), putl_len, ← List.append_assoc, splice_at _ _ _ 12 (by rw [List.length_append, putl_len, putl_len])]
  rw [List.append_assoc]
  congr 3
  unfold zs
  rw [List.drop_replicate, List.drop_replicate, List.length_take]
  congr 1
  omega
theorem seal_bytes (e i : Int) {room : List Int} (h : Bytes room) : Bytes (sealF e i room) := by
  rw [sealF_eq]
  exact bytes_append (putl_bytes _ _) (bytes_append (putl_bytes _ _) (bytes_append (bytes_take h _) (bytes_zs _)))
theorem seal_c (e i : Int) (room : List Int) (A : Option Addr) (c : Nat) (w : World) (hr : Kd.C (Kd.int .u8) w A room.length room) (hc : room.length ≤ c) (h0 : 0 ≤ e) (h1 : e ≤ 18446744073709551615) :
    Calls Tryd.prog 90 #[.int .u64 e, .int .i64 i, .slice A room.length c] w fun en w' => en = .returned (.agg (nums .u8 (sealF e i room)).toArray) ∧ Below w.heap.size w w' := seal_calls e i room A c w hr hc h0 h1
theorem rseal_c (e i : Int) (room : List Int) (A : Option Addr) (c : Nat) (w : World) (hr : Kd.C (Kd.int .u8) w A room.length room) (hc : room.length ≤ c) (h0 : 0 ≤ e) (h1 : e ≤ 18446744073709551615) (hl : room.length ≤ 140737488355328) :
    Calls Tryd.prog 89 #[.int .u64 e, .int .i64 i, .slice A room.length c] w fun en w' => en = .returned (.agg (nums .u8 (sealF e i room)).toArray) ∧ Below w.heap.size w w' := by
  obtain ⟨n, rfl⟩ := Int.eq_ofNat_of_zero_le h0
  exact refSeal_calls 9 n i room A c (sealF n i room) w hr hc (sealF_len _ _ _) (fun j hj => byte_eq 9 (by decide) n (by omega) i room hl j hj)
end Go.Proofs.YthhbilkmdfdfiaaDoor.O
end

section
/- the reference's Same: of rows of sectors. -/
namespace Go.Proofs.YthhbilkmdfdfiaaDoor.O
open Go.RowKit Go.Proofs.YthhbilkmdfdfiaaDoorW.PrintWords Go.Proofs.YthhbilkmdfdfiaaDoorW.PrintLast Go.Proofs.YthhbilkmdfdfiaaDoorW.PrintMore Go.Proofs.YthhbilkmdfdfiaaDoor.F Go.Proofs.YthhbilkmdfdfiaaDoor.F.Nums Go.Proofs.YthhbilkmdfdfiaaDoor.Plain
set_option linter.unusedVariables false
set_option linter.unusedSimpArgs false
def secAt (fl : List Int) (k : Nat) : List Int := (fl.drop (64 * k)).take 64
theorem secAt_len {fl : List Int} {n k : Nat} (h : fl.length = 64 * n) (hk : k < n) : (secAt fl k).length = 64 := by
  unfold secAt
  rw [List.length_take, List.length_drop]
  omega
theorem take_sec (fl : List Int) (k : Nat) : fl.take (64 * (k + 1)) = fl.take (64 * k) ++ secAt fl k := by
  unfold secAt
  rw [show 64 * (k + 1) = 64 * k + 64 by omega, List.take_add]
def sameB (n : Nat) (fa : List Int) (m : Nat) (fb : List Int) : Bool := decide (n = m) && (fa == fb)
theorem neq_sec (xs ys : List Int) (hx : xs.length = 64) (hy : ys.length = 64) (bx : Bytes xs) (by' : Bytes ys) (W : World) : (Op.equalIn 10000 50 (.agg (nums .u8 xs).toArray) (.agg (nums .u8 ys).toArray)).run Tryd.prog W = .ok (xs == ys) W := eq64 hx hy bx by' W
set_option maxRecDepth 100000 in
set_option maxHeartbeats 4000000 in
theorem same_calls (fa fb : List Int) (n m : Nat) (ha : fa.length = 64 * n) (hb : fb.length = 64 * m) (ba : Bytes fa) (bb : Bytes fb) (A B : Option Addr) (c d : Nat) (w : World) (hrA : Rd w A (nums .u8 fa)) (hrB : Rd w B (nums .u8 fb)) (hc : n ≤ c) (hd : m ≤ d) (hl : n ≤ 9223372036854775807) (hm : m ≤ 9223372036854775807) :
    Calls Tryd.prog 51 #[.slice A n c, .slice B m d] w fun e w' => e = .returned (.bool (sameB n fa m fb)) ∧ Below w.heap.size w w' := by
  have H := Own.start w
  by_cases hnm : n = m
  · subst hnm
    unfold sameB
    rw [show decide (n = n) = true by simp, Bool.true_and]
    go_enter Tryd.func51, Tryd.ntmps51
    go_wp2
    go_loopg [5] n (fun gq v5 w' => ∃ k : Nat, v5 = .int .i64 (k : Int) ∧ k + gq = n ∧ fa.take (64 * k) = fb.take (64 * k) ∧ Own w F0 [] w')
    case atStart => exact ⟨0, rfl, by omega, by simp, H⟩
    case round =>
      clear H
      obtain ⟨k, rfl, hk, he, H⟩ := hrel
      by_cases ck : k < n
      · obtain ⟨gk', rfl⟩ : ∃ q, gk = q + 1 := ⟨gk - 1, by omega⟩
        have q1 : decide ((k : Int) < (n : Int)) = true := decide_eq_true (by omega)
        obtain ⟨ad, rfl⟩ := hrA.some_ (by rw [nums_length]; omega)
        obtain ⟨bd, rfl⟩ := hrB.some_ (by rw [nums_length]; omega)
        have p0 : ((0 : Int) ≤ (k : Int)) = True := eq_true (by omega)
        have p1 : ((k : Int) < (n : Int)) = True := eq_true (by omega)
        have nA : ((nums .u8 fa).drop (k * 64)).take 64 = nums .u8 (secAt fa k) := by rw [nums_drop, nums_take, Nat.mul_comm]; rfl
        have nB : ((nums .u8 fb).drop (k * 64)).take 64 = nums .u8 (secAt fb k) := by rw [nums_drop, nums_take, Nat.mul_comm]; rfl
        have sA := take_sec fa k
        have sB := take_sec fb k
        have lA := secAt_len ha ck
        have lB := secAt_len hb ck
        have hEq := neq_sec _ _ lA lB (bytes_take (bytes_drop ba _) _) (bytes_take (bytes_drop bb _) _)
        have gA : fa = fb → secAt fa k = secAt fb k := fun e => by rw [e]
        change ∀ W, Sem.run _ (Op.equalIn 10000 _ (.agg (nums .u8 (secAt fa k)).toArray) (.agg (nums .u8 (secAt fb k)).toArray)) W = .ok (secAt fa k == secAt fb k) W at hEq
        generalize secAt fa k = sa at nA sA lA hEq gA
        generalize secAt fb k = sb at nB sB lB hEq gA
        go_wp2
        by_cases hq : sa = sb
        · subst hq
          rw [show (sa == sa) = true by simp] at hEq
          refine start_ (n := 9) (S := Own _ _ _) (ds := []) #[false, false, false, false, false, false, false, false, false] (by kernel_rfl) rfl rfl H.drew (fun hHeld => ?_)
          replace H := H.drew
          generalize World.drew _ = W at H hHeld ⊢
          refine pure_ (i := 0) (N := some 17) (v := ?_) (a' := ?_) #[true, false, false, false, false, false, false, false, false] rfl rfl (by kernel_rfl) (fun _ _ _ h => h) (Or.inl ⟨by rfl, ?_⟩) ?_ ?_
          rotate_left
          · intro w'
            go_simp
            with_reducible rfl
          rotate_left
          · simp only [Act.put, List.setIfInBounds_toArray, List.set_cons_zero, List.set_cons_succ, i64_w, i32_w]
            rfl
          refine pure_ (i := 1) (N := some 18) (v := ?_) (a' := ?_) #[true, true, false, false, false, false, false, false, false] rfl rfl (by kernel_rfl) (fun _ _ _ h => h) (Or.inl ⟨by rfl, ?_⟩) ?_ ?_
          rotate_left
          · intro w'
            go_simp
            with_reducible rfl
          rotate_left
          · simp only [Act.put, List.setIfInBounds_toArray, List.set_cons_zero, List.set_cons_succ, i64_w, i32_w]
            rfl
          refine pure_ (i := 2) (N := some 19) (v := ?_) (a' := ?_) #[true, true, true, false, false, false, false, false, false] rfl rfl (by kernel_rfl) (fun _ _ _ h => h) (Or.inl ⟨by rfl, ?_⟩) ?_ ?_
          rotate_left
          · intro w'
            go_simp
            with_reducible rfl
          rotate_left
          · simp only [Act.put, List.setIfInBounds_toArray, List.set_cons_zero, List.set_cons_succ, i64_w, i32_w]
            rfl
          refine pure_ (i := 4) (N := some 21) (v := ?_) (a' := ?_) #[true, true, true, false, true, false, false, false, false] rfl rfl (by kernel_rfl) (fun _ _ _ h => h) (Or.inl ⟨by rfl, ?_⟩) ?_ ?_
          rotate_left
          · intro w'
            go_simp
            with_reducible rfl
          rotate_left
          · simp only [Act.put, List.setIfInBounds_toArray, List.set_cons_zero, List.set_cons_succ, i64_w, i32_w]
            rfl
          refine pure_ (i := 5) (N := some 22) (v := ?_) (a' := ?_) #[true, true, true, false, true, true, false, false, false] rfl rfl (by kernel_rfl) (fun _ _ _ h => h) (Or.inl ⟨by rfl, ?_⟩) ?_ ?_
          rotate_left
          · intro w'
            go_simp
            with_reducible rfl
          rotate_left
          · simp only [Act.put, List.setIfInBounds_toArray, List.set_cons_zero, List.set_cons_succ, i64_w, i32_w]
            rfl
          refine pure_ (i := 6) (N := some 23) (v := ?_) (a' := ?_) #[true, true, true, false, true, true, true, false, false] rfl rfl (by kernel_rfl) (fun _ _ _ h => h) (Or.inl ⟨by rfl, ?_⟩) ?_ ?_
          rotate_left
          · intro w'
            go_simp
            with_reducible rfl
          rotate_left
          · simp only [Act.put, List.setIfInBounds_toArray, List.set_cons_zero, List.set_cons_succ, i64_w, i32_w]
            rfl
          refine take_run (i := 3) (N := some 20) (a' := ?_) #[true, true, true, true, true, true, true, false, false] rfl rfl (by kernel_rfl) (fun _ _ _ _ h => h) (by rfl) hHeld (.agg (nums .u8 sa).toArray) (fun X HX => r_loadRdS 50 _ rfl (k * 64) rfl (hrA.below HX.below) 64 _ Tryd.underlying50 rfl size50 (by decide) _ nA (by rw [nums_length]; exact lA)) ?_ ?_
          rotate_left
          · simp only [Act.put, List.setIfInBounds_toArray, List.set_cons_zero, List.set_cons_succ, i64_w, i32_w]
            rfl
          refine take_run (i := 7) (N := some 24) (a' := ?_) #[true, true, true, true, true, true, true, true, false] rfl rfl (by kernel_rfl) (fun _ _ _ _ h => h) (by rfl) hHeld (.agg (nums .u8 sa).toArray) (fun X HX => r_loadRdS 50 _ rfl (k * 64) rfl (hrB.below HX.below) 64 _ Tryd.underlying50 rfl size50 (by decide) _ nB (by rw [nums_length]; exact lB)) ?_ ?_
          rotate_left
          · simp only [Act.put, List.setIfInBounds_toArray, List.set_cons_zero, List.set_cons_succ, i64_w, i32_w]
            rfl
          refine pure_ (i := 8) (N := some 25) (v := ?_) (a' := ?_) #[true, true, true, true, true, true, true, true, true] rfl rfl (by kernel_rfl) (fun _ _ _ h => h) (Or.inl ⟨by rfl, ?_⟩) ?_ ?_
          rotate_left
          · intro w'
            go_simp
            with_reducible rfl
          rotate_left
          · simp only [Act.put, List.setIfInBounds_toArray, List.set_cons_zero, List.set_cons_succ, i64_w, i32_w]
            rfl
          refine done_ (by kernel_rfl) ?_
          clear hHeld
          go_wp2
          go_roundg gk'
          case measure => omega
          case rel => exact ⟨k + 1, rfl, by omega, by rw [sA, sB, he], H⟩
        · rw [show (sa == sb) = false by simp [hq]] at hEq
          refine start_ (n := 9) (S := Own _ _ _) (ds := []) #[false, false, false, false, false, false, false, false, false] (by kernel_rfl) rfl rfl H.drew (fun hHeld => ?_)
          replace H := H.drew
          generalize World.drew _ = W at H hHeld ⊢
          refine pure_ (i := 0) (N := some 17) (v := ?_) (a' := ?_) #[true, false, false, false, false, false, false, false, false] rfl rfl (by kernel_rfl) (fun _ _ _ h => h) (Or.inl ⟨by rfl, ?_⟩) ?_ ?_
          rotate_left
          · intro w'
            go_simp
            with_reducible rfl
          rotate_left
          · simp only [Act.put, List.setIfInBounds_toArray, List.set_cons_zero, List.set_cons_succ, i64_w, i32_w]
            rfl
          refine pure_ (i := 1) (N := some 18) (v := ?_) (a' := ?_) #[true, true, false, false, false, false, false, false, false] rfl rfl (by kernel_rfl) (fun _ _ _ h => h) (Or.inl ⟨by rfl, ?_⟩) ?_ ?_
          rotate_left
          · intro w'
            go_simp
            with_reducible rfl
          rotate_left
          · simp only [Act.put, List.setIfInBounds_toArray, List.set_cons_zero, List.set_cons_succ, i64_w, i32_w]
            rfl
          refine pure_ (i := 2) (N := some 19) (v := ?_) (a' := ?_) #[true, true, true, false, false, false, false, false, false] rfl rfl (by kernel_rfl) (fun _ _ _ h => h) (Or.inl ⟨by rfl, ?_⟩) ?_ ?_
          rotate_left
          · intro w'
            go_simp
            with_reducible rfl
          rotate_left
          · simp only [Act.put, List.setIfInBounds_toArray, List.set_cons_zero, List.set_cons_succ, i64_w, i32_w]
            rfl
          refine pure_ (i := 4) (N := some 21) (v := ?_) (a' := ?_) #[true, true, true, false, true, false, false, false, false] rfl rfl (by kernel_rfl) (fun _ _ _ h => h) (Or.inl ⟨by rfl, ?_⟩) ?_ ?_
          rotate_left
          · intro w'
            go_simp
            with_reducible rfl
          rotate_left
          · simp only [Act.put, List.setIfInBounds_toArray, List.set_cons_zero, List.set_cons_succ, i64_w, i32_w]
            rfl
          refine pure_ (i := 5) (N := some 22) (v := ?_) (a' := ?_) #[true, true, true, false, true, true, false, false, false] rfl rfl (by kernel_rfl) (fun _ _ _ h => h) (Or.inl ⟨by rfl, ?_⟩) ?_ ?_
          rotate_left
          · intro w'
            go_simp
            with_reducible rfl
          rotate_left
          · simp only [Act.put, List.setIfInBounds_toArray, List.set_cons_zero, List.set_cons_succ, i64_w, i32_w]
            rfl
          refine pure_ (i := 6) (N := some 23) (v := ?_) (a' := ?_) #[true, true, true, false, true, true, true, false, false] rfl rfl (by kernel_rfl) (fun _ _ _ h => h) (Or.inl ⟨by rfl, ?_⟩) ?_ ?_
          rotate_left
          · intro w'
            go_simp
            with_reducible rfl
          rotate_left
          · simp only [Act.put, List.setIfInBounds_toArray, List.set_cons_zero, List.set_cons_succ, i64_w, i32_w]
            rfl
          refine take_run (i := 3) (N := some 20) (a' := ?_) #[true, true, true, true, true, true, true, false, false] rfl rfl (by kernel_rfl) (fun _ _ _ _ h => h) (by rfl) hHeld (.agg (nums .u8 sa).toArray) (fun X HX => r_loadRdS 50 _ rfl (k * 64) rfl (hrA.below HX.below) 64 _ Tryd.underlying50 rfl size50 (by decide) _ nA (by rw [nums_length]; exact lA)) ?_ ?_
          rotate_left
          · simp only [Act.put, List.setIfInBounds_toArray, List.set_cons_zero, List.set_cons_succ, i64_w, i32_w]
            rfl
          refine take_run (i := 7) (N := some 24) (a' := ?_) #[true, true, true, true, true, true, true, true, false] rfl rfl (by kernel_rfl) (fun _ _ _ _ h => h) (by rfl) hHeld (.agg (nums .u8 sb).toArray) (fun X HX => r_loadRdS 50 _ rfl (k * 64) rfl (hrB.below HX.below) 64 _ Tryd.underlying50 rfl size50 (by decide) _ nB (by rw [nums_length]; exact lB)) ?_ ?_
          rotate_left
          · simp only [Act.put, List.setIfInBounds_toArray, List.set_cons_zero, List.set_cons_succ, i64_w, i32_w]
            rfl
          refine pure_ (i := 8) (N := some 25) (v := ?_) (a' := ?_) #[true, true, true, true, true, true, true, true, true] rfl rfl (by kernel_rfl) (fun _ _ _ h => h) (Or.inl ⟨by rfl, ?_⟩) ?_ ?_
          rotate_left
          · intro w'
            go_simp
            with_reducible rfl
          rotate_left
          · simp only [Act.put, List.setIfInBounds_toArray, List.set_cons_zero, List.set_cons_succ, i64_w, i32_w]
            rfl
          refine done_ (by kernel_rfl) ?_
          clear hHeld
          go_wp2
          go_ret
          exact ⟨by rw [show (fa == fb) = false from beq_eq_false_iff_ne.2 (fun e => hq (gA e))]; rfl, H.below⟩
      · have q1 : decide ((k : Int) < (n : Int)) = false := decide_eq_false (by omega)
        have hkk : k = n := by omega
        subst hkk
        rw [List.take_of_length_le (by omega), List.take_of_length_le (by omega)] at he
        go_wp2
        go_ret
        exact ⟨by rw [show (fa == fb) = true by simp [he]]; rfl, H.below⟩
  · have q1 : ((n : Int) == (m : Int)) = false := by simp; omega
    have q2 : ((n : Int) != (m : Int)) = true := by simp [bne, q1]
    go_enter Tryd.func51, Tryd.ntmps51
    go_wp2
    go_ret
    exact ⟨by unfold sameB; simp [hnm], H.below⟩
end Go.Proofs.YthhbilkmdfdfiaaDoor.O
end

section
/- span's functions and the reference's, as contracts over the plain words. -/
namespace Go.Proofs.YthhbilkmdfdfiaaDoor.O
open Go.RowKit Go.Proofs.YthhbilkmdfdfiaaDoorW.PrintWords Go.Proofs.YthhbilkmdfdfiaaDoorW.PrintLast Go.Proofs.YthhbilkmdfdfiaaDoorW.PrintMore Go.Proofs.YthhbilkmdfdfiaaDoor.F Go.Proofs.YthhbilkmdfdfiaaDoor.Plain
set_option linter.unusedVariables false
set_option linter.unusedSimpArgs false
namespace SpanP
theorem near_eq (a : Int) : span_near.f a 832 = some (cl a) := by unfold span_near.f; rw [near_cl]
theorem where_eq (a : Int) : span_Where.f a = some (cl a / 52, cl a % 52) := by
  have h0 := cl_lo a
  have h1 := cl_hi a
  unfold span_Where.f
  rw [near_eq]
  simp only [Option.bind_some]
  rw [td h0, tm h0, w64 (by omega) (by omega)]
theorem begin_eq (a : Int) : span_Begin.f a = some (bg (cl a)) := by
  have h0 := cl_lo a
  have h1 := cl_hi a
  unfold span_Begin.f
  rw [near_eq]
  simp only [Option.bind_some]
  rw [where_eq, cl_cl]
  simp only [Option.bind_some]
  rw [w64 (n := 52 - cl a % 52) (by omega) (by omega)]
  unfold bg
  by_cases h : 41 < cl a % 52
  · rw [if_pos (by omega), if_pos h, w64 (by omega) (by omega)]
  · rw [if_neg (by omega), if_neg h]
theorem left_eq (a : Int) : span_Left.f a = some (lf (cl a)) := by
  have h0 := cl_lo a
  have h1 := cl_hi a
  unfold span_Left.f
  rw [near_eq]
  simp only [Option.bind_some]
  rw [where_eq, cl_cl]
  simp only [Option.bind_some]
  unfold lf
  by_cases h : cl a = 832
  · rw [if_pos h, h, if_pos (by decide)]
  · rw [if_neg (by simp only [Bool.and_eq_true, beq_iff_eq]; omega), if_neg h, tm h0, w64 (by omega) (by omega)]
theorem rnear_eq (a : Int) : strandlineref07_Near.f a = some (cl a) := by
  unfold strandlineref07_Near.f cl
  by_cases h1 : a < 0
  · rw [if_pos h1, if_pos h1]
  · by_cases h2 : 832 < a
    · rw [if_neg h1, if_neg h1, if_pos h2, if_pos h2]
    · rw [if_neg h1, if_neg h1, if_neg (by omega), if_neg h2]
theorem touch_eq (a b : Int) : span_Touch.f a b = some (tch (cl a) (cl b)) := by
  have a0 := cl_lo a
  have a1 := cl_hi a
  have b0 := cl_lo b
  have b1 := cl_hi b
  unfold span_Touch.f
  rw [near_eq, near_eq]
  simp only [Option.bind_some]
  unfold tch
  by_cases h : cl a ≥ cl b
  · rw [if_pos h, if_pos h]
  · rw [if_neg h, if_neg h, where_eq, w64 (n := cl b - 1) (by omega) (by omega), where_eq, cl_cl, cl_in (a := cl b - 1) (by omega) (by omega)]
    simp only [Option.bind_some]
    rw [w64 (by omega) (by omega)]
theorem rtouch_l (b : Int) (d : Nat) : ∀ (k : Nat) (f l i : Int), 0 ≤ i → i ≤ cl b → 0 ≤ f → l = (i - 1) / 52 → 0 < i → (cl b - i : Int) = d → d < k →
    strandlineref07_Touch.l0 k b f l i = some (f, (cl b - 1) / 52 + 1) := by
  have h9 := cl_hi b
  induction d with
  | zero =>
    intro k f l i h0 h1 h2 h3 h4 hd hk
    obtain ⟨k, rfl⟩ : ∃ m, k = m + 1 := ⟨k - 1, by omega⟩
    simp only [strandlineref07_Touch.l0]
    rw [rnear_eq]
    simp only [Option.bind_some]
    obtain rfl : i = cl b := by omega
    rw [if_neg (by omega), if_neg (by omega), h3, w64 (by omega) (by omega)]
  | succ d ih =>
    intro k f l i h0 h1 h2 h3 h4 hd hk
    obtain ⟨k, rfl⟩ : ∃ m, k = m + 1 := ⟨k - 1, by omega⟩
    simp only [strandlineref07_Touch.l0]
    rw [rnear_eq]
    simp only [Option.bind_some]
    rw [if_pos (by omega), if_neg (by omega), td h0, w64 (n := i / 52) (by omega) (by omega), w64 (n := i + 1) (by omega) (by omega)]
    exact ih k f (i / 52) (i + 1) (by omega) (by omega) h2 (by omega) (by omega) (by omega) (by omega)
theorem rtouch_eq (k : Nat) (hk : 833 < k) (a b : Int) : strandlineref07_Touch.f k a b = some (tch (cl a) (cl b)) := by
  have a0 := cl_lo a
  have a1 := cl_hi a
  have b0 := cl_lo b
  have b1 := cl_hi b
  unfold strandlineref07_Touch.f
  rw [rnear_eq]
  simp only [Option.bind_some]
  obtain ⟨k, rfl⟩ : ∃ m, k = m + 1 := ⟨k - 1, by omega⟩
  simp only [strandlineref07_Touch.l0]
  rw [rnear_eq]
  simp only [Option.bind_some]
  unfold tch
  by_cases h : cl a < cl b
  · rw [if_pos h, if_pos (by omega), if_neg (show ¬ cl a ≥ cl b by omega), td a0, w64 (n := cl a / 52) (by omega) (by omega), w64 (n := cl a + 1) (by omega) (by omega)]
    exact rtouch_l b (cl b - (cl a + 1)).toNat k (cl a / 52) (cl a / 52) (cl a + 1) (by omega) (by omega) (by omega) (by omega) (by omega) (by omega) (by omega)
  · rw [if_neg h, if_pos (by omega), if_pos (show cl a ≥ cl b by omega)]
theorem rwhere_l (a : Int) (d : Nat) : ∀ (k : Nat) (i : Int), 0 ≤ i → i ≤ cl a → (cl a - i : Int) = d → d < k →
    strandlineref07_Where.l0 k a (i / 52) (i % 52) i = some (cl a / 52, cl a % 52) := by
  have h9 := cl_hi a
  induction d with
  | zero =>
    intro k i h0 h1 hd hk
    obtain ⟨k, rfl⟩ : ∃ m, k = m + 1 := ⟨k - 1, by omega⟩
    simp only [strandlineref07_Where.l0]
    rw [rnear_eq]
    simp only [Option.bind_some]
    rw [if_neg (by omega)]
    obtain rfl : i = cl a := by omega
    rfl
  | succ d ih =>
    intro k i h0 h1 hd hk
    obtain ⟨k, rfl⟩ : ∃ m, k = m + 1 := ⟨k - 1, by omega⟩
    simp only [strandlineref07_Where.l0]
    rw [rnear_eq]
    simp only [Option.bind_some]
    rw [if_pos (by omega), w64 (n := i % 52 + 1) (by omega) (by omega), w64 (n := i / 52 + 1) (by omega) (by omega), w64 (n := i + 1) (by omega) (by omega)]
    have hr := ih k (i + 1) (by omega) (by omega) (by omega) (by omega)
    by_cases hm : i % 52 + 1 = 52
    · rw [if_pos hm, show i / 52 + 1 = (i + 1) / 52 by omega, show (0 : Int) = (i + 1) % 52 by omega]
      exact hr
    · rw [if_neg hm, show i % 52 + 1 = (i + 1) % 52 by omega, show i / 52 = (i + 1) / 52 by omega]
      exact hr
theorem rwhere_eq (k : Nat) (hk : 832 < k) (a : Int) : strandlineref07_Where.f k a = some (cl a / 52, cl a % 52) := by
  have h0 := cl_lo a
  have h1 := cl_hi a
  unfold strandlineref07_Where.f
  exact rwhere_l a (cl a).toNat k 0 (by omega) (by omega) (by omega) (by omega)
theorem rleft_l (d : Nat) : ∀ (k : Nat) (at_ n : Int), 0 ≤ at_ → at_ ≤ 832 → 0 ≤ n → n ≤ at_ → (832 - at_ : Int) = d → d < k →
    strandlineref07_Left.l0 k at_ n = some (n + if at_ = 832 then 0 else if n = 0 then 208 - at_ % 208 else (208 - at_ % 208) % 208) := by
  induction d with
  | zero =>
    intro k at_ n h0 h1 h2 h3 hd hk
    obtain ⟨k, rfl⟩ : ∃ m, k = m + 1 := ⟨k - 1, by omega⟩
    simp only [strandlineref07_Left.l0]
    rw [if_neg (by omega), if_pos (show at_ = 832 by omega)]
    simp
  | succ d ih =>
    intro k at_ n h0 h1 h2 h3 hd hk
    obtain ⟨k, rfl⟩ : ∃ m, k = m + 1 := ⟨k - 1, by omega⟩
    simp only [strandlineref07_Left.l0]
    rw [if_pos (by omega), tm h0, w64 (n := at_ + 1) (by omega) (by omega), w64 (n := n + 1) (by omega) (by omega)]
    have hr := ih k (at_ + 1) (n + 1) (by omega) (by omega) (by omega) (by omega) (by omega) (by omega)
    rw [if_neg (show ¬ n + 1 = 0 by omega)] at hr
    rw [if_neg (show ¬ at_ = 832 by omega), hr]
    by_cases hn : n = 0
    · rw [if_pos hn, if_pos hn]
      congr 1
      by_cases h8 : at_ + 1 = 832
      · rw [if_pos h8]; omega
      · rw [if_neg h8]; omega
    · rw [if_neg hn, if_neg hn]
      by_cases hm : at_ % 208 = 0
      · rw [if_pos hm]
        congr 1
        omega
      · rw [if_neg hm]
        congr 1
        by_cases h8 : at_ + 1 = 832
        · rw [if_pos h8]; omega
        · rw [if_neg h8]; omega
theorem rleft_eq (k : Nat) (hk : 832 < k) (a : Int) : strandlineref07_Left.f k a = some (lf (cl a)) := by
  have h0 := cl_lo a
  have h1 := cl_hi a
  unfold strandlineref07_Left.f
  rw [rnear_eq]
  simp only [Option.bind_some]
  rw [rleft_l (832 - cl a).toNat k (cl a) 0 h0 h1 (by omega) h0 (by omega) (by omega)]
  unfold lf
  by_cases h : cl a = 832
  · rw [if_pos h, if_pos h]; rfl
  · rw [if_neg h, if_neg h, if_pos rfl]; simp
theorem rbegin_l (d : Nat) : ∀ (k : Nat) (at_ off : Int), 0 ≤ at_ → at_ ≤ 832 → 41 < off → off ≤ 52 → (at_ + (52 - off)) ≤ 832 → (52 - off : Int) = d → d < k →
    strandlineref07_Begin.l0 k at_ off = some (at_ + (52 - off)) := by
  induction d with
  | zero =>
    intro k at_ off h0 h1 h2 h3 h4 hd hk
    obtain ⟨k, rfl⟩ : ∃ m, k = m + 1 := ⟨k - 1, by omega⟩
    simp only [strandlineref07_Begin.l0]
    rw [show at_ + (52 - off) = at_ by omega, if_neg (show ¬ off < 52 by omega)]
    simp
  | succ d ih =>
    intro k at_ off h0 h1 h2 h3 h4 hd hk
    obtain ⟨k, rfl⟩ : ∃ m, k = m + 1 := ⟨k - 1, by omega⟩
    simp only [strandlineref07_Begin.l0]
    rw [if_pos (by omega), if_pos (by omega), if_pos (by omega), w64 (n := at_ + 1) (by omega) (by omega), w64 (n := off + 1) (by omega) (by omega)]
    rw [ih k (at_ + 1) (off + 1) (by omega) (by omega) (by omega) (by omega) (by omega) (by omega) (by omega)]
    congr 1
    omega
theorem rbegin_eq (k : Nat) (hk : 832 < k) (a : Int) : strandlineref07_Begin.f k a = some (bg (cl a)) := by
  have h0 := cl_lo a
  have h1 := cl_hi a
  unfold strandlineref07_Begin.f
  rw [rnear_eq]
  simp only [Option.bind_some]
  rw [rwhere_eq k hk, cl_cl]
  simp only [Option.bind_some]
  unfold bg
  by_cases h : 41 < cl a % 52
  · rw [if_pos h, rbegin_l (52 - cl a % 52).toNat k (cl a) (cl a % 52) h0 h1 h (by omega) (by omega) (by omega) (by omega)]
  · rw [if_neg h]
    obtain ⟨k, rfl⟩ : ∃ m, k = m + 1 := ⟨k - 1, by omega⟩
    simp only [strandlineref07_Begin.l0]
    rw [if_neg (show ¬ cl a % 52 > 41 by omega)]
    simp
end SpanP
open SpanP
theorem touch_nat (a b : Int) : ∃ x y : Nat, tch (cl a) (cl b) = ((x : Int), (y : Int)) ∧ x ≤ y ∧ y ≤ 16 := by
  have h1 := cl_lo a; have h2 := cl_hi a; have h3 := cl_lo b; have h4 := cl_hi b
  unfold tch
  by_cases h : cl a ≥ cl b
  · rw [if_pos h]
    exact ⟨0, 0, rfl, Nat.le_refl _, by decide⟩
  · rw [if_neg h]
    exact ⟨(cl a / 52).toNat, ((cl b - 1) / 52 + 1).toNat, by congr 1 <;> omega, by omega, by omega⟩
theorem touch_c (a b : Int) (x y : Nat) (h : tch (cl a) (cl b) = ((x : Int), (y : Int))) (w : World) :
    Calls Tryd.prog 87 #[.int .i64 a, .int .i64 b] w fun e w' => e = .returned (.tuple #[.int .i64 x, .int .i64 y]) ∧ Below w.heap.size w w' := span_Touch.calls a b x y w (by rw [touch_eq, h])
theorem rtouch_c (a b : Int) (x y : Nat) (h : tch (cl a) (cl b) = ((x : Int), (y : Int))) (w : World) :
    Calls Tryd.prog 83 #[.int .i64 a, .int .i64 b] w fun e w' => e = .returned (.tuple #[.int .i64 x, .int .i64 y]) ∧ Below w.heap.size w w' :=
  (strandlineref07_Touch.calls 834 a b x y w (by rw [rtouch_eq 834 (by decide), h])).mono fun e w' ⟨h1, h2⟩ => ⟨h1, by first | exact h2 | (obtain ⟨m, rfl⟩ := h2; exact pw_below_drewN (Below.refl _ _) m)⟩
end Go.Proofs.YthhbilkmdfdfiaaDoor.O
end
