/- Texts of mine put together: Stamp, StampC, OpenC, FkPlan, FkStrandlineref16, Flat, Hjoin, HjoinI, FkStrandlineref15, Feed, FkCrc, FkStrandlineref03, CrcMath. -/
import Derived.Test.YtaekpfhgdnfciaaDoorPkTearNear5
import Derived.Test.YtaekpfhgdnfciaaDoorPkTearNear3
import Derived.Test.YtaekpfhgdnfciaaDoorPkTearNear4
set_option linter.unusedVariables false
set_option linter.unusedSimpArgs false

section
namespace Go.Proofs.YtaekpfhgdnfciaaDoor.F
open Go.RowKit Go.Proofs.YtaekpfhgdnfciaaDoorW.PrintWords Go.Proofs.YtaekpfhgdnfciaaDoorW.PrintLast Go.Proofs.YtaekpfhgdnfciaaDoorW.PrintMore Nums
set_option maxRecDepth 100000 in
set_option maxHeartbeats 1000000 in
theorem refRoom_calls (xs : List Int) (hx : xs.length = 64) (w : World) :
  Calls Tryd.prog 74 #[.agg (vals xs).toArray] w fun e w' => ∃ v,e = .returned v ∧ Kd.R (Kd.int .u8) 5 w' w.heap.size (fun _ => True) v (xs.drop 12) ∧ Below w.heap.size w w' := by
 go_enter Tryd.func74,Tryd.ntmps74
 go_wp2_with fail
 have FB0 := Aside0.mk (show Byt (w.alloc (.cells (vals xs).toArray 51)) w.heap.size 51 xs from blk_new w _)
 have HB0 := Aside0.mk (below_alloc (Below.refl w.heap.size w) (.cells (vals xs).toArray 51))
 generalize w.alloc (.cells (vals xs).toArray 51) = W1 at FB0 HB0 ⊢
 go_loopg [3,4] 52 (fun gq v3 v4 w' => ∃ i : Nat,v4 = .int .i64 ((12 + i : Nat) : Int) ∧ Aside0 (i + gq = 52) ∧ Aside0 (Kd.R (Kd.int .u8) 5 w' w.heap.size (fun _ => True) v3 ((xs.drop 12).take i)) ∧ Aside0 (Byt w' w.heap.size 51 xs) ∧ Aside0 (Below w.heap.size w w'))
 case atStart => exact ⟨0,rfl,⟨rfl⟩,⟨by rw [List.take_zero];exact Kd.R_nil _ _ _ _ _⟩,FB0,HB0⟩
 case round =>
  clear FB0 HB0
  obtain ⟨i,rfl,HQ,HO,FB,HB⟩ := hrel
  by_cases ci : i < 52
  ·obtain ⟨gk',rfl⟩ : ∃ q,gk = q + 1 := ⟨gk - 1,by have := HQ.out;omega⟩
   have q1 : decide (((12 + i : Nat) : Int) < 64) = true := decide_eq_true (by omega)
   have p0 : ((0 : Int) ≤ ((12 + i : Nat) : Int)) = True := eq_true (by omega)
   have p1 : (((12 + i : Nat) : Int) < 64) = True := eq_true (by omega)
   have hi : 12 + i < xs.length := by omega
   have y0 : wr.cell? ⟨w.heap.size,12 + i,none⟩ = some (.int .u8 xs[12 + i]) := by rw [FB.out.cell,List.getElem?_eq_getElem hi];rfl
   have hnext : (xs.drop 12).take (i + 1) = (xs.drop 12).take i ++ [xs[12 + i]] := by
    rw [List.take_add_one,List.getElem?_drop,List.getElem?_eq_getElem hi];rfl
   have hlen : ((xs.drop 12).take i).length = i := by rw [List.length_take,List.length_drop];omega
   generalize xs[12 + i] = z at y0 hnext
   go_wp2_with (first
    |((with_reducible refine gate_builtin (b := .append) (xs := #[.tmp 9,.tmp 13]) rfl ?_);at_builtin
      refine Kd.R_append (Kd.int .u8) (w0 := w) w.heap.size rfl (.tmp 9) (.tmp 13) 38 5 (.int .u8 0) 1 rfl Tryd.underlying38 info5 rfl (by decide) (by omega) _ ((xs.drop 12).take i) z [.int .u8 z] (fun _ => True) (fun _ => False) rfl rfl rfl (fun _ h => h.elim) (fun _ _ => trivial) HO.out HB.out HB.out.size (by rw [hlen];omega) ?_
      intro v1 w1 ho hb hg hat
      have FB2 := Aside0.mk (show Byt w1 w.heap.size 51 xs from blk_grown FB.out hg (Kd.R_ne HO.out FB.out (by decide)))
      have HB2 := Aside0.mk hb
      rw [← hnext] at ho
      have HO2 := Aside0.mk ho
      clear ho hb hg hat HO FB HB y0))
   go_roundg gk'
   case measure => omega
   case rel => exact ⟨i + 1,by go_num,⟨by have := HQ.out;omega⟩,HO2,FB2,HB2⟩
  ·have hi : i = 52 := by have := HQ.out;omega
   subst hi
   have q1 : decide (((12 + 52 : Nat) : Int) < 64) = false := by decide
   go_wp2
   go_ret
   refine ⟨_,rfl,?_,HB.out⟩
   have := HO.out
   rwa [List.take_of_length_le (by rw [List.length_drop];omega)] at this
theorem getn_take (l : List Int) (n i : Nat) (h : i ≤ n) : getn (l.take n) i = getn l i := by
 induction i with
 |zero => rfl
 |succ i ih =>
  unfold getn
  rw [ih (by omega)]
  congr 3
  unfold rd
  rw [List.getD_eq_getElem?_getD,List.getD_eq_getElem?_getD,List.getElem?_take_of_lt (by omega)]
theorem wf_of {xs : List Int} (h : Bytes xs) : ∀ x ∈ xs,(Lit.int .u8 x).wf = true := fun x hx => by
 have := h x hx
 simp [Lit.wf,IntKind.min,IntKind.max,IntKind.signed,IntKind.bits]
 omega
set_option maxRecDepth 100000 in
set_option maxHeartbeats 2000000 in
theorem read_calls (xs : List Int) (hx : xs.length = 64) (bx : Bytes xs) (w : World) :
  Calls Tryd.prog 67 #[.agg (vals xs).toArray] w fun e w' => ∃ v,e = .returned (.tuple #[.int .u64 ((getn xs 8 : Nat) : Int),.int .i64 ((getn (xs.drop 8) 4 : Nat) : Int),v]) ∧ Kd.R (Kd.int .u8) 5 w' w.heap.size (fun _ => True) v (xs.drop 12) ∧ Below w.heap.size w w' := by
 obtain ⟨k,hk⟩ : ∃ k : Nat,8 < k := ⟨9,by decide⟩
 have gA : ∀ W' : World,Byt W' w.heap.size 51 xs → Calls Tryd.prog 69 #[.slice (some ⟨w.heap.size,0,none⟩) 8 64] W' fun e w2 => e = .returned (.int .u64 ((getn xs 8 : Nat) : Int)) ∧ Below W'.heap.size W' w2 := by
  intro W' h
  have hC := h.C 0 8 (by omega) (by decide)
  have hl : ((xs.drop 0).take 8).length = 8 := by rw [List.length_take,List.length_drop];omega
  have hg := get_eq (l := (xs.drop 0).take 8) (fun x hx => wf_of bx x (List.mem_of_mem_drop (List.mem_of_mem_take hx))) k hk
  rw [hl,show min 8 8 = 8 from rfl,getn_take _ _ _ (Nat.le_refl 8),List.drop_zero] at hg
  rw [List.drop_zero] at hC hl
  have := word_Get.calls k (some ⟨w.heap.size,0,none⟩) 64 (xs.take 8) _ W' (by rw [hl];exact hC) (by rw [hl];decide) hg
  rwa [hl] at this
 have gB : ∀ W' : World,Byt W' w.heap.size 51 xs → Calls Tryd.prog 69 #[.slice (some ⟨w.heap.size,8,none⟩) 4 56] W' fun e w2 => e = .returned (.int .u64 ((getn (xs.drop 8) 4 : Nat) : Int)) ∧ Below W'.heap.size W' w2 := by
  intro W' h
  have hC := h.C 8 4 (by omega) (by decide)
  have hl : ((xs.drop 8).take 4).length = 4 := by rw [List.length_take,List.length_drop];omega
  have hg := get_eq (l := (xs.drop 8).take 4) (fun x hx => wf_of bx x (List.mem_of_mem_drop (List.mem_of_mem_take hx))) k hk
  rw [hl,show min 4 8 = 4 from rfl,getn_take _ _ _ (Nat.le_refl 4)] at hg
  have := word_Get.calls k (some ⟨w.heap.size,8,none⟩) 56 ((xs.drop 8).take 4) _ W' (by rw [hl];exact hC) (by rw [hl];decide) hg
  rwa [hl] at this
 have hlt : getn (xs.drop 8) 4 < 4294967296 := getn_lt (l := xs.drop 8) (fun x hx => wf_of bx x (List.mem_of_mem_drop hx)) 4
 generalize getn xs 8 = n8 at gA ⊢
 generalize getn (xs.drop 8) 4 = n4 at gB hlt ⊢
 have hw4 : wrap64 (n4 : Int) = n4 := by unfold wrap64;omega
 have FB0 := Aside0.mk (show Byt (w.alloc (.cells (vals xs).toArray 51)) w.heap.size 51 xs from blk_new w _)
 have HB0 := Aside0.mk (below_alloc (Below.refl w.heap.size w) (.cells (vals xs).toArray 51))
 have hd : (xs.drop 12).length = 52 := by rw [List.length_drop];omega
 have hdt : (xs.drop 12).take 52 = xs.drop 12 := List.take_of_length_le (by omega)
 go_enter Tryd.func67,Tryd.ntmps67
 go_wp2_with (first
  |((with_reducible refine gate_dst (N := 6) rfl ?_)
    generalize w.alloc (.cells (vals xs).toArray 51) = W1 at FB0 HB0 ⊢
    refine Kd.R_make (Kd.int .u8) (w0 := w) w.heap.size 5 rfl rfl 38 (.const (.int .i64 52)) (.const (.int .i64 52)) rfl 52 rfl rfl Tryd.underlying38 (.int .u8 0) 1 info5 rfl (by decide) (by decide) 0 (ok := fun _ => True) (okp := fun _ => True) rfl (fun _ h => h) trivial (by decide) (by decide) HB0.out HB0.out.size ?_
    intro v1 W2 ho hb hg hat
    have FB1 := Aside0.mk (show Byt W2 w.heap.size 51 xs from blk_grown FB0.out hg (by simp))
    have HO1 := Aside0.mk ho
    have HB1 := Aside0.mk hb
    clear ho hb hg hat FB0 HB0)
  |((with_reducible refine gate_builtin (b := .copy) (xs := #[.tmp 7,.tmp 8]) rfl ?_)
    refine Kd.R_copy (0 : Int) (w0 := w) w.heap.size rfl (.tmp 7) (.tmp 8) 38 38 5 rfl Tryd.underlying38 (by kernel_rfl) v1 (List.replicate (52 : Int).toNat 0) (xs.drop 12) (some ⟨w.heap.size,12,none⟩) 52 52 (fun _ => True) rfl rfl HO1.out (by have := FB1.out.C 12 52 (by omega) (by decide);rwa [hdt] at this) HB1.out HB1.out.size ?_
    intro W3 ho hb hg
    have FB2 := Aside0.mk (show Byt W3 w.heap.size 51 xs from blk_grown FB1.out hg (Kd.R_ne HO1.out FB1.out (by decide)))
    rw [show min 52 (List.replicate (52 : Int).toNat (0 : Int)).length = 52 from rfl,hdt,show (List.replicate (52 : Int).toNat (0 : Int)).drop 52 = [] from rfl,List.append_nil] at ho
    have HO2 := Aside0.mk ho
    have HB2 := Aside0.mk hb
    clear ho hb hg FB1 HO1 HB1))
 refine start_ (n := 9) (S := fun _ => True) (ds := []) #[f_,f_,f_,f_,f_,f_,f_,f_,f_] (by kernel_rfl) rfl rfl trivial (fun hHeld => ?_)
 have FB3 := FB2.out.below (below_drew1 (Below.refl _ _))
 have HO3 := Kd.R_drew HO2.out
 have HB3 := below_drew1 HB2.out
 clear FB2 HO2 HB2
 generalize W3.drew = W4 at FB3 HO3 HB3 hHeld ⊢
 refine pure_ (i := 0) (N := some 10) #[t_,f_,f_,f_,f_,f_,f_,f_,f_] rfl rfl (by kernel_rfl) (fun _ _ _ h => h) (Or.inl ⟨by rfl,by intro w';go_simp;with_reducible rfl⟩) (by simp only [ps_];rfl) ?_
 refine pure_ (i := 2) (N := some 12) #[t_,f_,t_,f_,f_,f_,f_,f_,f_] rfl rfl (by kernel_rfl) (fun _ _ _ h => h) (Or.inl ⟨by rfl,by intro w';go_simp;with_reducible rfl⟩) (by simp only [ps_];rfl) ?_
 refine pure_ (i := 5) (N := some 15) #[t_,f_,t_,f_,f_,t_,f_,f_,f_] rfl rfl (by kernel_rfl) (fun _ _ _ h => h) (Or.inl ⟨by rfl,by intro w';go_simp;with_reducible rfl⟩) (by simp only [ps_];rfl) ?_
 refine one_ (i := 1) (N := some 11) #[t_,t_,t_,f_,f_,t_,f_,f_,f_] rfl rfl (by kernel_rfl) (by decide) (fun K hK => ?_)
 refine goes_ Tryd.func69 (by kernel_rfl) rfl #[.slice (some ⟨w.heap.size,0,none⟩) 8 64] (by rfl) rfl rfl (by (try simp only [List.map_toArray,List.map_cons,List.map_nil]);first|done|rfl) ?_
 refine (gA W4 FB3).mono ?_
 rintro en W5 ⟨rfl,hb⟩
 refine ⟨_,rfl,?_⟩
 replace FB3 := FB3.below hb
 replace HO3 := Kd.R_below HO3 hb
 replace HB3 := below_step HB3 hb
 clear hb
 refine hK.out _ _ trivial (fun hHeld => ?_)
 clear hK K
 refine norm_ (by show Act.put _ (some 11) _ = _;simp only [ps_];rfl) ?_
 refine one_ (i := 3) (N := some 13) #[t_,t_,t_,t_,f_,t_,f_,f_,f_] rfl rfl (by kernel_rfl) (by decide) (fun K hK => ?_)
 refine goes_ Tryd.func69 (by kernel_rfl) rfl #[.slice (some ⟨w.heap.size,8,none⟩) 4 56] (by rfl) rfl rfl (by (try simp only [List.map_toArray,List.map_cons,List.map_nil]);first|done|rfl) ?_
 refine (gB W5 FB3).mono ?_
 rintro en W6 ⟨rfl,hb⟩
 refine ⟨_,rfl,?_⟩
 replace FB3 := FB3.below hb
 replace HO3 := Kd.R_below HO3 hb
 replace HB3 := below_step HB3 hb
 clear hb
 refine hK.out _ _ trivial (fun hHeld => ?_)
 clear hK K
 refine norm_ (by show Act.put _ (some 13) _ = _;simp only [ps_];rfl) ?_
 refine pure_ (i := 4) (N := some 14) #[t_,t_,t_,t_,t_,t_,f_,f_,f_] rfl rfl (by kernel_rfl) (fun _ _ _ h => h) (Or.inl ⟨by rfl,by intro w';go_simp;with_reducible rfl⟩) (by simp only [ps_];rfl) ?_
 refine pure_ (i := 6) (N := some 2) #[t_,t_,t_,t_,t_,t_,t_,f_,f_] rfl rfl (by kernel_rfl) (fun _ _ _ h => h) (Or.inl ⟨by rfl,by intro w';go_simp;with_reducible rfl⟩) (by simp only [ps_];rfl) ?_
 refine pure_ (i := 7) (N := some 3) #[t_,t_,t_,t_,t_,t_,t_,t_,f_] rfl rfl (by kernel_rfl) (fun _ _ _ h => h) (Or.inl ⟨by rfl,by intro w';go_simp;with_reducible rfl⟩) (by simp only [ps_];rfl) ?_
 refine pure_ (i := 8) (N := some 4) #[t_,t_,t_,t_,t_,t_,t_,t_,t_] rfl rfl (by kernel_rfl) (fun _ _ _ h => h) (Or.inl ⟨by rfl,by intro w';go_simp;with_reducible rfl⟩) (by simp only [ps_];rfl) ?_
 refine done_ (by kernel_rfl) ?_
 clear hHeld
 go_wp2
 go_ret3
 exact ⟨_,rfl,HO3,HB3⟩
def openF (xs : List Int) (e i : Int) : Bool := ((getn xs 8 : Nat) : Int) == e && ((getn (xs.drop 8) 4 : Nat) : Int) == i % 4294967296
set_option maxRecDepth 100000 in
set_option maxHeartbeats 2000000 in
theorem open_calls (xs : List Int) (hx : xs.length = 64) (bx : Bytes xs) (e i : Int) (w : World) :
  Calls Tryd.prog 46 #[.agg (vals xs).toArray,.int .u64 e,.int .i64 i] w fun en w' => ∃ v,en = .returned (.tuple #[v,.bool (openF xs e i)]) ∧ Kd.R (Kd.int .u8) 5 w' w.heap.size (fun _ => True) v (if openF xs e i = true then xs.drop 12 else []) ∧ Below w.heap.size w w' := by
 have FB0 := Aside0.mk (show Byt (w.alloc (.cells (vals xs).toArray 51)) w.heap.size 51 xs from blk_new w _)
 have HB0 := Aside0.mk (below_alloc (Below.refl w.heap.size w) (.cells (vals xs).toArray 51))
 have RC := fun W => read_calls xs hx bx W
 have hF : openF xs e i = (((getn xs 8 : Nat) : Int) == e && ((getn (xs.drop 8) 4 : Nat) : Int) == i % 4294967296) := rfl
 generalize openF xs e i = o at hF ⊢
 generalize getn xs 8 = n8 at RC hF
 generalize getn (xs.drop 8) 4 = n4 at RC hF
 have hm0 : 0 ≤ i % 4294967296 := by omega
 have hm1 : i % 4294967296 < 4294967296 := by omega
 have hw : wrap64 (i % 4294967296) = i % 4294967296 := by unfold wrap64;omega
 cases h8 : ((n8 : Int) == e) with
 |false =>
  have h8' : ((n8 : Int) != e) = true := by rw [bne,h8];rfl
  rw [h8] at hF
  have ho : o = false := by rw [hF];rfl
  clear hF
  subst ho
  rw [if_neg (by decide)]
  go_enter Tryd.func46,Tryd.ntmps46
  go_wp2_with (first
   |((with_reducible refine gate_dst (N := 12) rfl ?_)
     generalize w.alloc (.cells (vals xs).toArray 51) = W1 at FB0 HB0 ⊢
     refine wpList_load_row rfl 51 (.tmp 3) rfl w.heap.size rfl 51 (vals xs).toArray (0,0) _ FB0.out Tryd.underlying51 rfl (infoSec hx) ?_))
  refine (RC _).mono ?_
  rintro en w2 ⟨v,rfl,hR,hb⟩
  have HB2 := Aside0.mk (HB0.out.trans (hb.mono HB0.out.size))
  clear hR hb RC FB0 HB0
  go_wp2_with fail
  go_ret2
  exact ⟨_,rfl,Kd.R_nil _ _ _ _ _,HB2.out⟩
 |true =>
  have h8' : ((n8 : Int) != e) = false := by rw [bne,h8];rfl
  rw [h8,Bool.true_and] at hF
  cases h4 : ((n4 : Int) == i % 4294967296) with
  |false =>
   have h4' : ((n4 : Int) != i % 4294967296) = true := by rw [bne,h4];rfl
   rw [h4] at hF
   subst hF
   rw [if_neg (by decide)]
   go_enter Tryd.func46,Tryd.ntmps46
   go_wp2_with (first
    |((with_reducible refine gate_dst (N := 12) rfl ?_)
      generalize w.alloc (.cells (vals xs).toArray 51) = W1 at FB0 HB0 ⊢
      refine wpList_load_row rfl 51 (.tmp 3) rfl w.heap.size rfl 51 (vals xs).toArray (0,0) _ FB0.out Tryd.underlying51 rfl (infoSec hx) ?_))
   refine (RC _).mono ?_
   rintro en w2 ⟨v,rfl,hR,hb⟩
   have HB2 := Aside0.mk (HB0.out.trans (hb.mono HB0.out.size))
   clear hR hb RC FB0 HB0
   go_wp2_with fail
   go_ret2
   exact ⟨_,rfl,Kd.R_nil _ _ _ _ _,HB2.out⟩
  |true =>
   have h4' : ((n4 : Int) != i % 4294967296) = false := by rw [bne,h4];rfl
   rw [h4] at hF
   subst hF
   rw [if_pos rfl]
   go_enter Tryd.func46,Tryd.ntmps46
   go_wp2_with (first
    |((with_reducible refine gate_dst (N := 12) rfl ?_)
      generalize w.alloc (.cells (vals xs).toArray 51) = W1 at FB0 HB0 ⊢
      refine wpList_load_row rfl 51 (.tmp 3) rfl w.heap.size rfl 51 (vals xs).toArray (0,0) _ FB0.out Tryd.underlying51 rfl (infoSec hx) ?_))
   refine (RC _).mono ?_
   rintro en w2 ⟨v,rfl,hR,hb⟩
   have HB2 := Aside0.mk (HB0.out.trans (hb.mono HB0.out.size))
   have HR2 := Aside0.mk (Kd.R_lower hR HB0.out.size)
   clear hR hb RC FB0 HB0
   go_wp2_with fail
   go_ret2
   exact ⟨_,rfl,HR2.out,HB2.out⟩
def pickB (b : Bool) (l : List Int) : List Int := cond b l []
set_option maxRecDepth 100000 in
set_option maxHeartbeats 2000000 in
theorem refOpen_calls (k : Nat) (xs : List Int) (hx : xs.length = 64) (bx : Bytes xs) (e i : Int) (out : List Int) (ho : out.length = 64) (hbo : Bytes out) (hB : ∀ j : Nat,j < 64 → strandlineref06_Byte.f k e i (xs.drop 12) (j : Int) = some (out.getD j 0)) (w : World) :
  Calls Tryd.prog 53 #[.agg (vals xs).toArray,.int .u64 e,.int .i64 i] w fun en w' => ∃ v,en = .returned (.tuple #[v,.bool (out == xs)]) ∧ Kd.R (Kd.int .u8) 5 w' w.heap.size (fun _ => True) v (pickB (out == xs) (xs.drop 12)) ∧ Below w.heap.size w w' := by
 have FB0 := Aside0.mk (show Byt (w.alloc (.cells (vals xs).toArray 51)) w.heap.size 51 xs from blk_new w _)
 have HB0 := Aside0.mk (below_alloc (Below.refl w.heap.size w) (.cells (vals xs).toArray 51))
 have HBy := Aside0.mk hB
 clear hB
 have hq := eq64 ho hx hbo bx
 go_enter Tryd.func53,Tryd.ntmps53
 go_wp2_with fail
 generalize w.alloc (.cells (vals xs).toArray 51) = W1 at FB0 HB0 ⊢
 refine start_ (n := 7) (S := fun w' => Byt w' w.heap.size 51 xs) (ds := []) #[f_,f_,f_,f_,f_,f_,f_] (by kernel_rfl) rfl rfl FB0.out (fun hHeld => ?_)
 have FB := FB0.out.below (below_drew1 (Below.refl _ _))
 have HB := below_drew1 HB0.out
 generalize W1.drew = W2 at FB HB hHeld ⊢
 refine pure_ (i := 0) (N := some 8) #[t_,f_,f_,f_,f_,f_,f_] rfl rfl (by kernel_rfl) (fun _ _ _ h => h) (Or.inl ⟨by rfl,by intro w';go_simp;with_reducible rfl⟩) (by simp only [ps_];rfl) ?_
 refine pure_ (i := 1) (N := some 9) #[t_,t_,f_,f_,f_,f_,f_] rfl rfl (by kernel_rfl) (fun _ _ _ h => h) (Or.inl ⟨by rfl,by intro w';go_simp;with_reducible rfl⟩) (by simp only [ps_];rfl) ?_
 refine take_ (i := 2) (N := some 10) (v := ?_) (a' := ?_) #[t_,t_,t_,f_,f_,f_,f_] rfl rfl (by kernel_rfl) (fun _ _ _ h => h) (Or.inl ⟨by rfl,?_⟩) hHeld ?_ ?_
 rotate_left
 ·intro w' s0
  refine (exec_load_row 51 (.tmp 3) ?_ w.heap.size ?_ 51 (vals xs).toArray (0,0) _ s0 Tryd.underlying51 rfl (infoSec hx)).trans ?_
  all_goals rfl
 rotate_left
 ·simp only [ps_]
  rfl
 refine take_ (i := 5) (N := some 13) (v := ?_) (a' := ?_) #[t_,t_,t_,f_,f_,t_,f_] rfl rfl (by kernel_rfl) (fun _ _ _ h => h) (Or.inl ⟨by rfl,?_⟩) hHeld ?_ ?_
 rotate_left
 ·intro w' s0
  refine (exec_load_row 51 (.tmp 3) ?_ w.heap.size ?_ 51 (vals xs).toArray (0,0) _ s0 Tryd.underlying51 rfl (infoSec hx)).trans ?_
  all_goals rfl
 rotate_left
 ·simp only [ps_]
  rfl
 refine one_ (i := 3) (N := some 11) #[t_,t_,t_,t_,f_,t_,f_] rfl rfl (by kernel_rfl) (by decide) (fun K hK => ?_)
 refine goes_ Tryd.func74 (by kernel_rfl) rfl #[.agg (vals xs).toArray] (by rfl) rfl rfl (by (try simp only [List.map_toArray,List.map_cons,List.map_nil]);first|done|rfl) ?_
 refine (refRoom_calls xs hx W2).mono ?_
 rintro en W3 ⟨v,rfl,hR,hb⟩
 refine ⟨_,rfl,?_⟩
 replace FB := FB.below hb
 replace HB := below_step HB hb
 obtain ⟨Av,cv,ev⟩ := Kd.R_slice hR
 subst ev
 have hcv := (Kd.R_reads' hR).2.1
 have hCv := (Kd.R_reads' hR).2.2
 clear hR
 clear hb
 refine hK.out _ _ FB (fun hHeld => ?_)
 clear hK K
 refine norm_ (by show Act.put _ (some 11) _ = _;simp only [ps_];rfl) ?_
 refine one_ (i := 4) (N := some 12) #[t_,t_,t_,t_,t_,t_,f_] rfl rfl (by kernel_rfl) (by decide) (fun K hK => ?_)
 refine goes_ Tryd.func73 (by kernel_rfl) rfl #[.int .u64 e,.int .i64 i,.slice Av (xs.drop 12).length cv] (by rfl) rfl rfl (by (try simp only [List.map_toArray,List.map_cons,List.map_nil]);first|done|rfl) ?_
 refine (refSeal_calls k e i (xs.drop 12) Av cv out W3 hCv hcv ho HBy.out).mono ?_
 rintro en W4 ⟨rfl,hb⟩
 refine ⟨_,rfl,?_⟩
 replace FB := FB.below hb
 replace HB := below_step HB hb
 clear hb
 refine hK.out _ _ FB (fun hHeld => ?_)
 clear hK K
 refine norm_ (by show Act.put _ (some 12) _ = _;simp only [ps_];rfl) ?_
 refine pure_ (i := 6) (N := some 14) #[t_,t_,t_,t_,t_,t_,t_] rfl rfl (by kernel_rfl) (fun _ _ _ h => h) (Or.inl ⟨by rfl,by intro w';go_simp;with_reducible rfl⟩) (by simp only [ps_];rfl) ?_
 refine done_ (by kernel_rfl) ?_
 clear hHeld hCv hcv
 replace FB := Aside0.mk FB
 replace HB := Aside0.mk HB
 cases hc : (out == xs) with
 |false =>
  rw [Bool.not_false]
  go_wp2_with fail
  go_ret2
  rw [hc]
  exact ⟨_,rfl,Kd.R_nil _ _ _ _ _,HB.out⟩
 |true =>
  rw [Bool.not_true]
  go_wp2_with (first
   |((with_reducible refine gate_dst (N := 15) rfl ?_)
     refine wpList_load_row rfl 51 (.tmp 3) rfl w.heap.size rfl 51 (vals xs).toArray (0,0) _ FB.out Tryd.underlying51 rfl (infoSec hx) ?_))
  refine (refRoom_calls xs hx _).mono ?_
  rintro en w5 ⟨v2,rfl,hR,hb⟩
  have HB2 := Aside0.mk (HB.out.trans (hb.mono HB.out.size))
  have HR2 := Aside0.mk (Kd.R_lower hR HB.out.size)
  clear hR hb FB HB
  go_wp2_with fail
  go_ret2
  rw [hc]
  exact ⟨_,rfl,HR2.out,HB2.out⟩
end Go.Proofs.YtaekpfhgdnfciaaDoor.F
end

section
namespace Go.Proofs.YtaekpfhgdnfciaaDoor.O
open Go.RowKit Go.Proofs.YtaekpfhgdnfciaaDoorW.PrintWords Go.Proofs.YtaekpfhgdnfciaaDoorW.PrintLast Go.Proofs.YtaekpfhgdnfciaaDoorW.PrintMore Go.Proofs.YtaekpfhgdnfciaaDoor.F Go.Proofs.YtaekpfhgdnfciaaDoor.F.Nums Go.Proofs.YtaekpfhgdnfciaaDoor.Plain
theorem seal_mod (e i j : Int) (room : List Int) (h : i % 4294967296 = j % 4294967296) : sealF e i room = sealF e j room := by
 rw [sealF_eq,sealF_eq]
 have key : ∀ x : Int,putl (IntKind.u64.wrap x).toNat 4 = putl (x % 4294967296).toNat 4 := by
  intro x
  rw [← putl_mod (IntKind.u64.wrap x).toNat 4 4 (Nat.le_refl 4)]
  congr 1
  rw [IntKind.wrap_u64,show (256 : Nat) ^ 4 = 4294967296 by decide]
  omega
 rw [key i,key j,h]
theorem seal_drop (e i : Int) (room : List Int) : (sealF e i room).drop 12 = room.take 52 ++ zs (52 - room.length) := by
 rw [sealF_eq,← List.append_assoc,List.drop_left' (by rw [List.length_append,putl_len,putl_len])]
theorem seal_e (e i : Int) (room : List Int) (h0 : 0 ≤ e) (h1 : e ≤ 18446744073709551615) : ((getn (sealF e i room) 8 : Nat) : Int) = e := by
 rw [sealF_eq,getn_append _ _ _ (by rw [putl_len];decide),getn_putl]
 rw [show (256 : Nat) ^ 8 = 18446744073709551616 by decide]
 omega
theorem seal_i (e i : Int) (room : List Int) : ((getn ((sealF e i room).drop 8) 4 : Nat) : Int) = i % 4294967296 := by
 rw [sealF_eq,List.drop_left' (putl_len _ _),getn_append _ _ _ (by rw [putl_len];decide),getn_putl,IntKind.wrap_u64]
 rw [show (256 : Nat) ^ 4 = 4294967296 by decide]
 omega
theorem open_seal (e i : Int) (room : List Int) (h0 : 0 ≤ e) (h1 : e ≤ 18446744073709551615) (e' i' : Int) : openF (sealF e i room) e' i' = (e == e' && i % 4294967296 == i' % 4294967296) := by
 unfold openF
 rw [seal_e e i room h0 h1,seal_i]
theorem seal_of_read {xs : List Int} (hx : xs.length = 64) (bx : Bytes xs) : sealF ((getn xs 8 : Nat) : Int) ((getn (xs.drop 8) 4 : Nat) : Int) (xs.drop 12) = xs := by
 have b4 := getn_lt (l := xs.drop 8) (wf_of_bytes (bytes_drop bx 8)) 4
 rw [show (256 : Nat) ^ 4 = 4294967296 by decide] at b4
 rw [sealF_eq,Int.toNat_natCast,IntKind.wrap_u64,putl_getn bx 8 (by omega)]
 rw [show ((getn (xs.drop 8) 4 : Nat) : Int) % 18446744073709551616 = ((getn (xs.drop 8) 4 : Nat) : Int) by omega,Int.toNat_natCast,putl_getn (bytes_drop bx 8) 4 (by rw [List.length_drop];omega)]
 rw [List.length_drop,show 52 - (xs.length - 12) = 0 by omega,show zs 0 = [] from rfl,List.append_nil,List.take_of_length_le (l := xs.drop 12) (by rw [List.length_drop];omega)]
 have e1 : (xs.drop 8).take 4 ++ xs.drop 12 = xs.drop 8 := by
  have := List.take_append_drop 4 (xs.drop 8)
  rw [List.drop_drop] at this
  exact this
 rw [e1,List.take_append_drop]
theorem open_ref {xs : List Int} (hx : xs.length = 64) (bx : Bytes xs) (e i : Int) (h0 : 0 ≤ e) (h1 : e ≤ 18446744073709551615) : (sealF e i (xs.drop 12) == xs) = openF xs e i := by
 rw [Bool.eq_iff_iff,beq_iff_eq]
 constructor
 ·intro h
  rw [← h,open_seal e i _ h0 h1]
  simp
 ·intro h
  unfold openF at h
  simp only [Bool.and_eq_true,beq_iff_eq] at h
  have h2 := seal_of_read hx bx
  rw [h.1] at h2
  rw [← seal_mod e ((getn (xs.drop 8) 4 : Nat) : Int) i _ (by rw [h.2];omega)]
  exact h2
def openL (xs : List Int) (e i : Int) : List Int := if openF xs e i = true then xs.drop 12 else []
theorem open_c (xs : List Int) (hx : xs.length = 64) (bx : Bytes xs) (e i : Int) (w : World) :
  Calls Tryd.prog 46 #[.agg (nums .u8 xs).toArray,.int .u64 e,.int .i64 i] w fun en w' => ∃ v,en = .returned (.tuple #[v,.bool (openF xs e i)]) ∧ Kd.R (Kd.int .u8) 5 w' w.heap.size (fun _ => True) v (openL xs e i) ∧ Below w.heap.size w w' := open_calls xs hx bx e i w
theorem ropen_c (xs : List Int) (hx : xs.length = 64) (bx : Bytes xs) (e i : Int) (h0 : 0 ≤ e) (h1 : e ≤ 18446744073709551615) (w : World) :
  Calls Tryd.prog 53 #[.agg (nums .u8 xs).toArray,.int .u64 e,.int .i64 i] w fun en w' => ∃ v,en = .returned (.tuple #[v,.bool (openF xs e i)]) ∧ Kd.R (Kd.int .u8) 5 w' w.heap.size (fun _ => True) v (openL xs e i) ∧ Below w.heap.size w w' := by
 have ho := open_ref hx bx e i h0 h1
 obtain ⟨n,rfl⟩ := Int.eq_ofNat_of_zero_le h0
 have := refOpen_calls 9 xs hx bx n i (sealF n i (xs.drop 12)) (sealF_len _ _ _) (seal_bytes _ _ (bytes_drop bx _)) (fun j hj => byte_eq 9 (by decide) n (by omega) i _ (by rw [List.length_drop];omega) j hj) w
 rw [ho] at this
 unfold openL
 cases hq : openF xs n i with
 |true => rw [hq] at this;exact this
 |false => rw [hq] at this;exact this
end Go.Proofs.YtaekpfhgdnfciaaDoor.O
end

section
namespace Go.Proofs.YtaekpfhgdnfciaaDoor.F
open Go.RowKit Go.Proofs.YtaekpfhgdnfciaaDoorW.PrintWords Go.Proofs.YtaekpfhgdnfciaaDoorW.PrintLast Go.Proofs.YtaekpfhgdnfciaaDoorW.PrintMore
attribute [local go_sem high] eqA83
attribute [local go_sem] field83_0
attribute [local go_sem] field83_1
attribute [local go_sem] max2_int min2_int max_two min_two max_three min_three max_four min_four
/-! ### plan_Covered: function 48 -/
def plan_Covered.l0 : Nat → List Bool → Int → Int → Option (Bool)
 |0,_,_,_ => none
 |k + 1,x0,x8,x9 => if x9 < x8 then (if x9 ≥ (x0.length : Int) then (some false) else (if 0 ≤ x9 then (if x9 < (x0.length : Int) then (if rdOf false x0 x9 = true then (plan_Covered.l0 k x0 x8 (wrap64 (x9 + 1))) else (some false)) else (none)) else (none))) else (some true)
def plan_Covered.f (k : Nat) (l0 : List Bool) (a1 : Int) (a2 : Int) : Option (Bool) := (span_Touch.f a1 a2).bind fun bt109 => (plan_Covered.l0 k l0 bt109.2 bt109.1)
set_option maxHeartbeats 8000000 in
set_option maxRecDepth 100000 in
theorem plan_Covered.calls (k : Nat) (A0 : Option Addr) (c0 : Nat) (l0 : List Bool) (a1 : Int) (a2 : Int) (r : Bool) (w : World) (hr0 : Kd.C Kd.bool w A0 l0.length l0) (hc0 : l0.length ≤ c0) (h : plan_Covered.f k l0 a1 a2 = some r) :
  Calls Tryd.prog 48 #[.slice A0 l0.length c0,.int .i64 a1,.int .i64 a2] w fun e w' => e = .returned (.bool r) ∧ Below w.heap.size w w' := by
 have hu73 := Tryd.underlying73
 have hu76 := Tryd.underlying76
 have hu83 := Tryd.underlying83
 have hu94 := Tryd.underlying94
 have hu106 := Tryd.underlying106
 have HR0 := Aside0.mk hr0
 have HC0 := Aside0.mk hc0
 clear hr0 hc0
 have HB := Aside0.mk (Below.refl w.heap.size w)
 have H : ((span_Touch.f a1 a2).bind fun bt109 => (plan_Covered.l0 k l0 bt109.2 bt109.1)) = some r := h
 clear h
 replace H := Option.bind_eq_some_iff.mp H
 obtain ⟨⟨t109,t110⟩,A40,H⟩ := H
 replace H : (plan_Covered.l0 k l0 t110 t109) = some r := H
 have A4 := Aside0.mk A40
 clear A40
 have H' := Aside0.mk H
 clear H
 go_enter Tryd.func48,Tryd.ntmps48
 go_wp2_with (first|((with_reducible refine gate_callee (f := 68) rfl ?_);refine goesL_ (some 13) rfl rfl Tryd.func68 (by kernel_rfl) rfl #[.int .i64 a1,.int .i64 a2] rfl (by (try simp only [List.map_toArray,List.map_cons,List.map_nil]);first|done|rfl|(simp only [List.length_drop,List.length_take];rfl)) ?_;(with_reducible refine (span_Touch.calls a1 a2 t109 t110 _ A4.out).mono ?_);rintro e w5 ⟨rfl,hb⟩;refine ⟨_,rfl,?_⟩;have n0_ := Aside0.mk (below_step (by repeat (first|(with_reducible first|exact HB.out|apply below_alloc|apply pw_below_drewN|apply below_drew1)|exact HB.out)) hb);clear HB;have HB := n0_;clear n0_;(try clear hb);(try clear hb2);(try clear hk);(try clear hi)))
 go_loopg [9] k (fun kq v9 w' => ∃ (x9_1 : Int),v9 = .int .i64 x9_1 ∧ Aside0 (plan_Covered.l0 kq l0 t110 x9_1 = some r) ∧ Aside0 (kq ≤ k) ∧ Aside0 (Below w.heap.size w w'))
 case atStart => exact ⟨(t109),(by first|rfl|(simp;done)|(simp [*];done)),H',⟨Nat.le_refl _⟩,⟨by repeat (first|(with_reducible first|exact HB.out|apply below_alloc|apply pw_below_drewN|apply below_drew1)|exact HB.out)⟩⟩
 case round =>
  clear H'
  try clear p2
  try clear c4
  obtain ⟨x9_1,rfl,HA,HK1,HB⟩ := hrel
  cases gk with
  |zero => exact absurd HA.out (by simp [plan_Covered.l0])
  |succ k1 =>
   have H := HA.out
   clear HA
   simp only [plan_Covered.l0] at H
   by_cases c6 : x9_1 < t110
   ·rw [if_pos c6] at H
    have c6b0 : decide (x9_1 < t110) = true := decide_eq_true c6
    clear c6
    by_cases c7 : x9_1 ≥ (l0.length : Int)
    ·rw [if_pos c7] at H
     have c7b0 : decide ((l0.length : Int) ≤ x9_1) = true := decide_eq_true c7
     clear c7
     obtain rfl := Option.some.inj H
     go_wp2
     go_ret
     exact ⟨by first|rfl|(simp [errW_none,errW_some] <;> rfl)|(simp [*,errW_none,errW_some] <;> rfl),by repeat (first|(with_reducible first|exact HB.out|apply below_alloc|apply pw_below_drewN|apply below_drew1)|exact HB.out)⟩
    ·rw [if_neg c7] at H
     have c7b0 : decide ((l0.length : Int) ≤ x9_1) = false := decide_eq_false c7
     clear c7
     by_cases c8 : 0 ≤ x9_1
     ·rw [if_pos c8] at H
      have c8b0 : decide (0 ≤ x9_1) = true := decide_eq_true c8
      clear c8
      by_cases c9 : x9_1 < (l0.length : Int)
      ·rw [if_pos c9] at H
       have c9b0 : decide (x9_1 < (l0.length : Int)) = true := decide_eq_true c9
       clear c9
       obtain ⟨bq10,hbq10⟩ : ∃ b_ : Bool,b_ = (rdOf false l0 x9_1) := ⟨_,rfl⟩
       replace H : (if bq10 = true then (plan_Covered.l0 k1 l0 t110 (wrap64 (x9_1 + 1))) else (some false)) = some r := by rw [← hbq10] at H;exact H
       have Nbq10 := Aside0.mk hbq10
       clear hbq10
       by_cases c11 : bq10 = true
       ·subst c11
        have H1 : (plan_Covered.l0 k1 l0 t110 (wrap64 (x9_1 + 1))) = some r := by rw [if_pos rfl] at H;exact H
        clear H
        have H := H1
        clear H1
        have H' := Aside0.mk H
        clear H
        have p111 : 0 ≤ (x9_1 : Int) := of_decide_eq_true (by first|(with_reducible assumption)|assumption)
        have q111 : x9_1 < (l0.length : Int) := of_decide_eq_true (by first|(with_reducible assumption)|assumption)
        obtain ⟨ad111,e111,hx111_0⟩ := Kd.at_bool HR0.out x9_1 p111 q111
        (try rw [← Nbq10.out] at hx111_0)
        cases e111
        replace hx111_0 := (HB.out.cell (World.block_lt_of_cell? w _ hx111_0)).trans hx111_0
        replace p111 := eq_true p111
        replace q111 := eq_true q111
        go_wp2
        go_roundg k1
        case measure => have := HK1.out;omega
        case rel => exact ⟨(wrap64 (x9_1 + 1)),(by first|rfl|(simp;done)|(simp [*];done)),H',⟨by have := HK1.out;omega⟩,⟨by repeat (first|(with_reducible first|exact HB.out|apply below_alloc|apply pw_below_drewN|apply below_drew1)|exact HB.out)⟩⟩
       ·replace c11 := Bool.eq_false_iff.mpr c11
        subst c11
        have H1 : (some false) = some r := by rw [if_neg (show ¬ (false = true) by decide)] at H;exact H
        clear H
        have H := H1
        clear H1
        obtain rfl := Option.some.inj H
        have p111 : 0 ≤ (x9_1 : Int) := of_decide_eq_true (by first|(with_reducible assumption)|assumption)
        have q111 : x9_1 < (l0.length : Int) := of_decide_eq_true (by first|(with_reducible assumption)|assumption)
        obtain ⟨ad111,e111,hx111_0⟩ := Kd.at_bool HR0.out x9_1 p111 q111
        (try rw [← Nbq10.out] at hx111_0)
        cases e111
        replace hx111_0 := (HB.out.cell (World.block_lt_of_cell? w _ hx111_0)).trans hx111_0
        replace p111 := eq_true p111
        replace q111 := eq_true q111
        go_wp2
        go_ret
        exact ⟨by first|rfl|(simp [errW_none,errW_some] <;> rfl)|(simp [*,errW_none,errW_some] <;> rfl),by repeat (first|(with_reducible first|exact HB.out|apply below_alloc|apply pw_below_drewN|apply below_drew1)|exact HB.out)⟩
      ·rw [if_neg c9] at H
       exact absurd H (by simp)
     ·rw [if_neg c8] at H
      exact absurd H (by simp)
   ·rw [if_neg c6] at H
    have c6b0 : decide (x9_1 < t110) = false := decide_eq_false c6
    clear c6
    obtain rfl := Option.some.inj H
    go_wp2
    go_ret
    exact ⟨by first|rfl|(simp [errW_none,errW_some] <;> rfl)|(simp [*,errW_none,errW_some] <;> rfl),by repeat (first|(with_reducible first|exact HB.out|apply below_alloc|apply pw_below_drewN|apply below_drew1)|exact HB.out)⟩
/-! ### strandlineref16_Covered: function 55 -/
def strandlineref16_Covered.l0 : Nat → List Bool → Int → Int → Option (Bool)
 |0,_,_,_ => none
 |k + 1,x0,x8,x9 => if x9 < x8 then (if x9 ≥ (x0.length : Int) then (some false) else (if 0 ≤ x9 then (if x9 < (x0.length : Int) then (if rdOf false x0 x9 = true then (strandlineref16_Covered.l0 k x0 x8 (wrap64 (x9 + 1))) else (some false)) else (none)) else (none))) else (some true)
def strandlineref16_Covered.f (k : Nat) (l0 : List Bool) (a1 : Int) (a2 : Int) : Option (Bool) := (strandlineref07_Touch.f k a1 a2).bind fun bt205 => (strandlineref16_Covered.l0 k l0 bt205.2 bt205.1)
set_option maxHeartbeats 8000000 in
set_option maxRecDepth 100000 in
theorem strandlineref16_Covered.calls (k : Nat) (A0 : Option Addr) (c0 : Nat) (l0 : List Bool) (a1 : Int) (a2 : Int) (r : Bool) (w : World) (hr0 : Kd.C Kd.bool w A0 l0.length l0) (hc0 : l0.length ≤ c0) (h : strandlineref16_Covered.f k l0 a1 a2 = some r) :
  Calls Tryd.prog 55 #[.slice A0 l0.length c0,.int .i64 a1,.int .i64 a2] w fun e w' => e = .returned (.bool r) ∧ Drawn0 w w' := by
 have hu73 := Tryd.underlying73
 have hu76 := Tryd.underlying76
 have hu83 := Tryd.underlying83
 have hu94 := Tryd.underlying94
 have hu106 := Tryd.underlying106
 have HR0 := Aside0.mk hr0
 have HC0 := Aside0.mk hc0
 clear hr0 hc0
 have H : ((strandlineref07_Touch.f k a1 a2).bind fun bt205 => (strandlineref16_Covered.l0 k l0 bt205.2 bt205.1)) = some r := h
 clear h
 replace H := Option.bind_eq_some_iff.mp H
 obtain ⟨⟨t205,t206⟩,A40,H⟩ := H
 replace H : (strandlineref16_Covered.l0 k l0 t206 t205) = some r := H
 have A4 := Aside0.mk A40
 clear A40
 have H' := Aside0.mk H
 clear H
 go_enter Tryd.func55,Tryd.ntmps55
 go_wp2_with (first|((with_reducible refine gate_callee (f := 59) rfl ?_);refine goesL_ (some 13) rfl rfl Tryd.func59 (by kernel_rfl) rfl #[.int .i64 a1,.int .i64 a2] rfl (by (try simp only [List.map_toArray,List.map_cons,List.map_nil]);first|done|rfl|(simp only [List.length_drop,List.length_take];rfl)) ?_;(with_reducible refine (strandlineref07_Touch.calls k a1 a2 t205 t206 _ A4.out).mono ?_);rintro e w' ⟨rfl,⟨nd,rfl⟩⟩;refine ⟨_,rfl,?_⟩))
 go_loopg [9] k (fun kq v9 w' => ∃ (x9_1 : Int),v9 = .int .i64 x9_1 ∧ Aside0 (strandlineref16_Covered.l0 kq l0 t206 x9_1 = some r) ∧ Aside0 (kq ≤ k) ∧ Drawn0 w w')
 case atStart => exact ⟨(t205),(by first|rfl|(simp;done)|(simp [*];done)),H',⟨Nat.le_refl _⟩,by repeat (first|exact Drawn0.refl _|apply Drawn0.step)⟩
 case round =>
  clear H'
  try clear p2
  obtain ⟨x9_1,rfl,HA,HK1,⟨m1,rfl⟩⟩ := hrel
  cases gk with
  |zero => exact absurd HA.out (by simp [strandlineref16_Covered.l0])
  |succ k1 =>
   have H := HA.out
   clear HA
   simp only [strandlineref16_Covered.l0] at H
   by_cases c5 : x9_1 < t206
   ·rw [if_pos c5] at H
    have c5b0 : decide (x9_1 < t206) = true := decide_eq_true c5
    clear c5
    by_cases c6 : x9_1 ≥ (l0.length : Int)
    ·rw [if_pos c6] at H
     have c6b0 : decide ((l0.length : Int) ≤ x9_1) = true := decide_eq_true c6
     clear c6
     obtain rfl := Option.some.inj H
     go_wp2
     go_ret
     exact ⟨by first|rfl|(simp;done)|(simp [*];done),by repeat (first|exact Drawn0.refl _|apply Drawn0.step)⟩
    ·rw [if_neg c6] at H
     have c6b0 : decide ((l0.length : Int) ≤ x9_1) = false := decide_eq_false c6
     clear c6
     by_cases c7 : 0 ≤ x9_1
     ·rw [if_pos c7] at H
      have c7b0 : decide (0 ≤ x9_1) = true := decide_eq_true c7
      clear c7
      by_cases c8 : x9_1 < (l0.length : Int)
      ·rw [if_pos c8] at H
       have c8b0 : decide (x9_1 < (l0.length : Int)) = true := decide_eq_true c8
       clear c8
       obtain ⟨bq9,hbq9⟩ : ∃ b_ : Bool,b_ = (rdOf false l0 x9_1) := ⟨_,rfl⟩
       replace H : (if bq9 = true then (strandlineref16_Covered.l0 k1 l0 t206 (wrap64 (x9_1 + 1))) else (some false)) = some r := by rw [← hbq9] at H;exact H
       have Nbq9 := Aside0.mk hbq9
       clear hbq9
       by_cases c10 : bq9 = true
       ·subst c10
        have H1 : (strandlineref16_Covered.l0 k1 l0 t206 (wrap64 (x9_1 + 1))) = some r := by rw [if_pos rfl] at H;exact H
        clear H
        have H := H1
        clear H1
        have H' := Aside0.mk H
        clear H
        have p207 : 0 ≤ (x9_1 : Int) := of_decide_eq_true (by first|(with_reducible assumption)|assumption)
        have q207 : x9_1 < (l0.length : Int) := of_decide_eq_true (by first|(with_reducible assumption)|assumption)
        obtain ⟨ad207,e207,hx207_0⟩ := Kd.at_bool HR0.out x9_1 p207 q207
        (try rw [← Nbq9.out] at hx207_0)
        cases e207
        replace p207 := eq_true p207
        replace q207 := eq_true q207
        go_wp2
        go_roundg k1
        case measure => have := HK1.out;omega
        case rel => exact ⟨(wrap64 (x9_1 + 1)),(by first|rfl|(simp;done)|(simp [*];done)),H',⟨by have := HK1.out;omega⟩,by repeat (first|exact Drawn0.refl _|apply Drawn0.step)⟩
       ·replace c10 := Bool.eq_false_iff.mpr c10
        subst c10
        have H1 : (some false) = some r := by rw [if_neg (show ¬ (false = true) by decide)] at H;exact H
        clear H
        have H := H1
        clear H1
        obtain rfl := Option.some.inj H
        have p207 : 0 ≤ (x9_1 : Int) := of_decide_eq_true (by first|(with_reducible assumption)|assumption)
        have q207 : x9_1 < (l0.length : Int) := of_decide_eq_true (by first|(with_reducible assumption)|assumption)
        obtain ⟨ad207,e207,hx207_0⟩ := Kd.at_bool HR0.out x9_1 p207 q207
        (try rw [← Nbq9.out] at hx207_0)
        cases e207
        replace p207 := eq_true p207
        replace q207 := eq_true q207
        go_wp2
        go_ret
        exact ⟨by first|rfl|(simp;done)|(simp [*];done),by repeat (first|exact Drawn0.refl _|apply Drawn0.step)⟩
      ·rw [if_neg c8] at H
       exact absurd H (by simp)
     ·rw [if_neg c7] at H
      exact absurd H (by simp)
   ·rw [if_neg c5] at H
    have c5b0 : decide (x9_1 < t206) = false := decide_eq_false c5
    clear c5
    obtain rfl := Option.some.inj H
    go_wp2
    go_ret
    exact ⟨by first|rfl|(simp;done)|(simp [*];done),by repeat (first|exact Drawn0.refl _|apply Drawn0.step)⟩
end Go.Proofs.YtaekpfhgdnfciaaDoor.F
end

section
namespace Go.Proofs.YtaekpfhgdnfciaaDoor.O
open Go.RowKit Go.Proofs.YtaekpfhgdnfciaaDoorW.PrintWords Go.Proofs.YtaekpfhgdnfciaaDoorW.PrintLast Go.Proofs.YtaekpfhgdnfciaaDoorW.PrintMore Go.Proofs.YtaekpfhgdnfciaaDoor.F Go.Proofs.YtaekpfhgdnfciaaDoor.F.Nums Go.Proofs.YtaekpfhgdnfciaaDoor.Plain
attribute [local go_sem] max2_int min2_int max_two min_two max_three min_three max_four min_four
theorem Own.addOwn {w0 W W' : World} {F : Nat → Option Obj} {L L' : List Res} (H : Own w0 F L W) (K : Own W F0 L' W') : Own w0 F (L' ++ L) W' := by
 have H' := H.to K.below
 refine ⟨H'.below,H'.holds,?_,?_,?_⟩
 ·intro r hr
  rcases List.mem_append.1 hr with hr|hr
  ·have h := K.ats r hr
   cases r with
   |blk g t c => exact ⟨Nat.le_trans H.size h.1,h.2⟩
   |row v e sz n xs => exact own_weaken h H.size
  ·exact H'.ats r hr
 ·intro r hr k hk
  rcases List.mem_append.1 hr with hr|hr
  ·cases hF : F k with
   |none => rfl
   |some o =>
    have h1 := obj_lt (H.holds k o hF)
    have h2 := (K.ats r hr).base hk
    omega
  ·exact H'.apart r hr k hk
 ·rw [List.pairwise_append]
  refine ⟨K.sep,H.sep,fun x hx y hy k h1 h2 => ?_⟩
  have h3 := (K.ats x hx).base h1
  have h4 := (H.ats y hy).lt h2
  omega
theorem Rd.Cb {w : World} {A : Option Addr} {xs : List Bool} {n : Nat} (h : Rd w A (bools xs)) (hn : xs.length = n) (hm : n ≤ 9223372036854775807) : Kd.bool.C w A n xs := by
 have hbl : (bools xs).length = xs.length := by simp [bools]
 refine ⟨hn,hm,fun hp => ?_⟩
 obtain ⟨ad,rfl,hc⟩ := h (by rw [hbl];omega)
 refine ⟨ad,rfl,fun j p hj => ⟨[.bool p],rfl,rfl,fun i u hu => ?_⟩⟩
 have hi0 : i = 0 := by have := (List.getElem?_eq_some_iff.1 hu).1;simpa using this
 subst hi0
 simp at hu
 subst hu
 rw [show Kd.bool.sz = 1 from rfl,Nat.mul_one,Nat.add_zero]
 refine hc j _ ?_
 rw [bools,List.getElem?_map,hj]
 rfl
theorem bools_len (xs : List Bool) : (bools xs).length = xs.length := by simp [bools]
theorem bools_app (xs ys : List Bool) : bools xs ++ bools ys = bools (xs ++ ys) := by simp [bools]
/-! ### Covered -/
def covN (l : List Bool) : Nat → Nat → Bool
 |_,0 => true
 |a,d + 1 => decide (a < l.length) && l.getD a false && covN l (a + 1) d
theorem cov_l (l : List Bool) (b : Nat) (hb : b ≤ 16) : ∀ (d a k : Nat),a + d = b → d < k → plan_Covered.l0 k l b a = some (covN l a d) := by
 intro d
 induction d with
 |zero =>
  intro a k h hk
  obtain ⟨k,rfl⟩ : ∃ m,k = m + 1 := ⟨k - 1,by omega⟩
  simp only [plan_Covered.l0]
  rw [if_neg (by omega)]
  rfl
 |succ d ih =>
  intro a k h hk
  obtain ⟨k,rfl⟩ : ∃ m,k = m + 1 := ⟨k - 1,by omega⟩
  simp only [plan_Covered.l0]
  rw [if_pos (by omega)]
  unfold covN
  by_cases h2 : a < l.length
  ·rw [if_neg (by omega),if_pos (by omega),if_pos (by omega),show rdOf false l (a : Int) = l.getD a false by unfold rdOf;rw [Int.toNat_natCast],w64 (by omega) (by omega)]
   rw [decide_eq_true h2,Bool.true_and]
   cases hq : l.getD a false with
   |true => rw [if_pos rfl,Bool.true_and];exact ih (a + 1) k (by omega) (by omega)
   |false => simp
  ·rw [if_pos (by omega),decide_eq_false h2]
   rfl
theorem rcov_l (l : List Bool) (b : Nat) (hb : b ≤ 16) : ∀ (d a k : Nat),a + d = b → d < k → strandlineref16_Covered.l0 k l b a = some (covN l a d) := by
 intro d
 induction d with
 |zero =>
  intro a k h hk
  obtain ⟨k,rfl⟩ : ∃ m,k = m + 1 := ⟨k - 1,by omega⟩
  simp only [strandlineref16_Covered.l0]
  rw [if_neg (by omega)]
  rfl
 |succ d ih =>
  intro a k h hk
  obtain ⟨k,rfl⟩ : ∃ m,k = m + 1 := ⟨k - 1,by omega⟩
  simp only [strandlineref16_Covered.l0]
  rw [if_pos (by omega)]
  unfold covN
  by_cases h2 : a < l.length
  ·rw [if_neg (by omega),if_pos (by omega),if_pos (by omega),show rdOf false l (a : Int) = l.getD a false by unfold rdOf;rw [Int.toNat_natCast],w64 (by omega) (by omega)]
   rw [decide_eq_true h2,Bool.true_and]
   cases hq : l.getD a false with
   |true => rw [if_pos rfl,Bool.true_and];exact ih (a + 1) k (by omega) (by omega)
   |false => simp
  ·rw [if_pos (by omega),decide_eq_false h2]
   rfl
theorem cov_c (l : List Bool) (f t : Int) (a b : Nat) (ht : tch (cl f) (cl t) = ((a : Int),(b : Int))) (hab : a ≤ b) (hb : b ≤ 16) (A : Option Addr) (c : Nat) (w : World) (hr : Rd w A (bools l)) (hc : l.length ≤ c) (hl : l.length ≤ 9223372036854775807) :
  Calls Tryd.prog 48 #[.slice A l.length c,.int .i64 f,.int .i64 t] w fun e w' => e = .returned (.bool (covN l a (b - a))) ∧ Below w.heap.size w w' :=
 plan_Covered.calls 17 A c l f t _ w (hr.Cb rfl hl) hc (by unfold plan_Covered.f;rw [SpanP.touch_eq,ht,Option.bind_some];exact cov_l l b hb (b - a) a 17 (by omega) (by omega))
theorem rcov_c (l : List Bool) (f t : Int) (a b : Nat) (ht : tch (cl f) (cl t) = ((a : Int),(b : Int))) (hab : a ≤ b) (hb : b ≤ 16) (A : Option Addr) (c : Nat) (w : World) (hr : Rd w A (bools l)) (hc : l.length ≤ c) (hl : l.length ≤ 9223372036854775807) :
  Calls Tryd.prog 55 #[.slice A l.length c,.int .i64 f,.int .i64 t] w fun e w' => e = .returned (.bool (covN l a (b - a))) ∧ Below w.heap.size w w' :=
 (strandlineref16_Covered.calls 834 A c l f t _ w (hr.Cb rfl hl) hc (by unfold strandlineref16_Covered.f;rw [SpanP.rtouch_eq 834 (by decide),ht,Option.bind_some];exact rcov_l l b hb (b - a) a 834 (by omega) (by omega))).mono fun e w' ⟨h1,h2⟩ => ⟨h1,by first|exact h2|exact h2.below⟩
/-! ### Flat -/
section
variable (e : Int) (fl : List Int) (n : Nat)
def okAt (k : Nat) : Bool := decide (k < n) && openF (secAt fl k) e (k : Int)
def roomAt (k : Nat) : List Int := if okAt e fl n k = true then (secAt fl k).drop 12 else zs 52
def bodyF : Nat → List Int
 |0 => []
 |k + 1 => bodyF k ++ roomAt e fl n k
def oksF : Nat → List Bool
 |0 => []
 |k + 1 => oksF k ++ [okAt e fl n k]
end
section
variable {e : Int} {fl : List Int} {n : Nat}
theorem roomAt_len (hf : fl.length = 64 * n) (k : Nat) : (roomAt e fl n k).length = 52 := by
 unfold roomAt
 split
 ·rename_i h
  unfold okAt at h
  simp only [Bool.and_eq_true,decide_eq_true_eq] at h
  rw [List.length_drop,secAt_len hf h.1]
 ·simp [zs]
theorem bodyF_len (hf : fl.length = 64 * n) (k : Nat) : (bodyF e fl n k).length = 52 * k := by
 induction k with
 |zero => rfl
 |succ k ih => unfold bodyF;rw [List.length_append,ih,roomAt_len hf];omega
theorem oksF_len (k : Nat) : (oksF e fl n k).length = k := by
 induction k with
 |zero => rfl
 |succ k ih => unfold oksF;rw [List.length_append,ih];rfl
theorem roomAt_bytes (hb : Bytes fl) (k : Nat) : Bytes (roomAt e fl n k) := by
 unfold roomAt
 split
 ·exact bytes_drop (bytes_take (bytes_drop hb _) _) _
 ·exact bytes_zs _
theorem bodyF_bytes (hb : Bytes fl) (k : Nat) : Bytes (bodyF e fl n k) := by
 induction k with
 |zero => exact fun c hc => by cases hc
 |succ k ih => exact bytes_append ih (roomAt_bytes hb k)
theorem okAt_out {k : Nat} (h : n ≤ k) : okAt e fl n k = false := by unfold okAt;rw [decide_eq_false (by omega)];rfl
theorem bodyF_out (k d : Nat) (h : n ≤ k) : bodyF e fl n (k + d) = bodyF e fl n k ++ zs (52 * d) := by
 induction d with
 |zero => simp [zs]
 |succ d ih =>
  rw [← Nat.add_assoc]
  show bodyF e fl n (k + d) ++ roomAt e fl n (k + d) = _
  rw [ih,List.append_assoc,show roomAt e fl n (k + d) = zs 52 by unfold roomAt;rw [okAt_out (by omega)];rfl,← zs_add]
  rfl
theorem oksF_out (k d : Nat) (h : n ≤ k) : oksF e fl n (k + d) = oksF e fl n k ++ List.replicate d false := by
 induction d with
 |zero => simp
 |succ d ih =>
  rw [← Nat.add_assoc]
  show oksF e fl n (k + d) ++ [okAt e fl n (k + d)] = _
  rw [ih,List.append_assoc,okAt_out (by omega),List.replicate_succ']
theorem ok_step (k : Nat) (hk : k < 16) : (oksF e fl n k ++ List.replicate (16 - k) false).set k (okAt e fl n k) = oksF e fl n (k + 1) ++ List.replicate (16 - (k + 1)) false := by
 obtain ⟨d,hd⟩ : ∃ d,16 - k = d + 1 := ⟨15 - k,by omega⟩
 rw [hd,show 16 - (k + 1) = d by omega,List.set_append_right _ _ (by rw [oksF_len];exact Nat.le_refl _),oksF_len,Nat.sub_self,List.replicate_succ,List.set_cons_zero]
 show _ = (oksF e fl n k ++ [okAt e fl n k]) ++ _
 rw [List.append_assoc]
 rfl
theorem body_step (hf : fl.length = 64 * n) (k : Nat) (hk : k < 16) (hkn : k < n) (m : Nat) (hm : m = (openL (secAt fl k) e (k : Int)).length) :
  splice (bodyF e fl n k ++ zs (832 - 52 * k)) (52 * k) ((openL (secAt fl k) e (k : Int)).take (min m 52)) = bodyF e fl n (k + 1) ++ zs (832 - 52 * (k + 1)) := by
 have hl : (secAt fl k).length = 64 := secAt_len hf hkn
 show _ = (bodyF e fl n k ++ roomAt e fl n k) ++ _
 rw [splice_at _ _ _ _ (bodyF_len hf k),List.append_assoc]
 congr 1
 have hok : okAt e fl n k = openF (secAt fl k) e (k : Int) := by unfold okAt;rw [decide_eq_true hkn,Bool.true_and]
 unfold roomAt
 rw [hok]
 unfold openL at hm ⊢
 cases hq : openF (secAt fl k) e (k : Int) with
 |true =>
  rw [hq] at hm
  simp only [if_true] at hm ⊢
  have h52 : ((secAt fl k).drop 12).length = 52 := by rw [List.length_drop,hl]
  rw [h52] at hm
  subst hm
  rw [Nat.min_self,List.take_of_length_le (by omega),h52]
  congr 1
  unfold zs
  rw [List.drop_replicate]
  congr 1
 |false =>
  simp only [Bool.false_eq_true,if_false,List.take_nil,List.nil_append,List.length_nil,List.drop_zero]
  rw [← zs_add]
  congr 1
  omega
end
theorem bools_set (xs : List Bool) (i : Nat) (b : Bool) : (bools xs).set i (.bool b) = bools (xs.set i b) := by simp [bools,List.map_set]
theorem dropA_blk (g lo m : Nat) (h : ¬ m = lo) : dropA (some ⟨g,0,none⟩) lo m 1 = some ⟨g,lo,none⟩ := by
 unfold dropA
 rw [if_neg h,Nat.mul_one]
 simp [addr_add]
theorem l_runE {P : Program} {ops : Array Oper} {rest : List Oper} {o : Oper} {a : Act} {Q : Exit → Act → World → Prop} {W : World} (hgd : o.guard = none) {u : Value} (v : Value) (hr : (execOp a.eval o).run P W = .ok (.value u) W) (he : u = v) (h : wpList P ops Q rest (a.put o.dst v) W) : wpList P ops Q (o :: rest) a W := by
 subst he
 exact l_run hgd _ hr h
set_option maxRecDepth 100000 in
set_option maxHeartbeats 4000000 in
theorem flat_calls (e : Int) (fl : List Int) (n : Nat) (hf : fl.length = 64 * n) (hb : Bytes fl) (A : Option Addr) (c : Nat) (w : World) (hr : Rd w A (nums .u8 fl)) (hc : n ≤ c) (hn : n ≤ 9223372036854775807) :
  Calls Tryd.prog 25 #[.int .u64 e,.slice A n c] w fun en w' => ∃ v1 v2,en = .returned (.tuple #[v1,v2]) ∧ Own w F0 [.row v1 5 1 832 (nums .u8 (bodyF e fl n 16)),.row v2 4 1 16 (bools (oksF e fl n 16))] w' := by
 have H := Own.start w
 obtain ⟨m,hm⟩ : ∃ m,min n 16 = m := ⟨_,rfl⟩
 have m1 : (if (16 : Int) < (n : Int) then (16 : Int) else (n : Int)) = (m : Int) := by split <;> omega
 go_enter Tryd.func25,Tryd.ntmps25
 go_wp2
 refine start_ (n := 4) (S := fun _ => True) (ds := []) #[false,false,false,false] (by kernel_rfl) rfl rfl trivial (fun _ => ?_)
 replace H := H.drew
 generalize World.drew _ = W at H ⊢
 refine join_ (σ := Nat × Nat) 1 #[true,true,true,false] (fun s => [(11,.slice (some ⟨s.1,0,none⟩) 832 832),(12,.slice (some ⟨s.2,0,none⟩) 16 16),(6,.slice (some ⟨s.1,0,none⟩) 832 832)]) (fun s X => Own w F0 [.blk s.2 4 (bools (List.replicate 16 false)),.blk s.1 5 (nums .u8 (zs 832))] X) ?_ (fun hC => ?_)
 rotate_left
 ·refine two_ (i := 0) (j := 1) (Ni := some 11) (Nj := some 12) #[true,false,false,false] #[false,true,false,false] rfl rfl rfl rfl (by kernel_rfl) (by decide) (by decide) (fun K hK => ?_) (fun K hK => ?_)
  ·refine wanted_ rfl ?_
   refine w_make1 H 38 5 _ _ rfl 832 rfl rfl Tryd.underlying38 _ rfl _ inf5 (by decide) (by decide) ?_
   clear H
   intro g11 W H
   refine hK.out _ _ trivial (fun _ => ?_)
   clear hK K
   refine pure_ (i := 2) (N := some 6) (v := .slice (some ⟨g11,0,none⟩) 832 832) #[true,false,true,false] rfl rfl (by kernel_rfl) (fun _ _ _ h => h) (Or.inl ⟨by rfl,fun _ => rfl⟩) rfl ?_
   refine one_ (i := 1) (N := some 12) #[true,true,true,false] rfl rfl (by kernel_rfl) (by decide) (fun K hK => ?_)
   refine wanted_ rfl ?_
   refine w_make1 H 63 4 _ _ rfl 16 rfl rfl Tryd.underlying63 _ rfl _ inf4 (by decide) (by decide) ?_
   clear H
   intro g12 W H
   refine hK.out _ _ trivial (fun _ => ?_)
   exact hC (g11,g12) _ H
  ·refine wanted_ rfl ?_
   refine w_make1 H 63 4 _ _ rfl 16 rfl rfl Tryd.underlying63 _ rfl _ inf4 (by decide) (by decide) ?_
   clear H
   intro g12 W H
   refine hK.out _ _ trivial (fun _ => ?_)
   clear hK K
   refine one_ (i := 0) (N := some 11) #[true,true,false,false] rfl rfl (by kernel_rfl) (by decide) (fun K hK => ?_)
   refine wanted_ rfl ?_
   refine w_make1 H 38 5 _ _ rfl 832 rfl rfl Tryd.underlying38 _ rfl _ inf5 (by decide) (by decide) ?_
   clear H
   intro g11 W H
   refine hK.out _ _ trivial (fun _ => ?_)
   clear hK K
   refine pure_ (i := 2) (N := some 6) (v := .slice (some ⟨g11,0,none⟩) 832 832) #[true,true,true,false] rfl rfl (by kernel_rfl) (fun _ _ _ h => h) (Or.inl ⟨by rfl,fun _ => rfl⟩) rfl ?_
   exact hC (g11,g12) _ (H.perm (List.Perm.swap _ _ _))
 clear H
 rintro ⟨g11,g12⟩ W H
 refine pure_ (i := 3) (N := some 7) (v := .slice (some ⟨g12,0,none⟩) 16 16) (a' := ?_) #[true,true,true,true] rfl rfl (by kernel_rfl) (fun _ _ _ h => h) (Or.inl ⟨by rfl,fun _ => rfl⟩) ?_ ?_
 rotate_left
 ·simp only [putAll,Act.put,List.setIfInBounds_toArray,List.set_cons_zero,List.set_cons_succ,i64_w,i32_w]
  rfl
 refine done_ (by kernel_rfl) ?_
 go_wp2
 go_loopg [16] m (fun gq v16 w' => ∃ k : Nat,v16 = .int .i64 (k : Int) ∧ k + gq = m ∧ Own w F0 [.blk g12 4 (bools (oksF e fl n k ++ List.replicate (16 - k) false)),.blk g11 5 (nums .u8 (bodyF e fl n k ++ zs (832 - 52 * k)))] w')
 case atStart => exact ⟨0,rfl,by omega,H⟩
 case round =>
  clear H
  obtain ⟨k,rfl,hk,H⟩ := hrel
  by_cases ck : k < m
  ·obtain ⟨gk',rfl⟩ : ∃ q,gk = q + 1 := ⟨gk - 1,by omega⟩
   have q1 : decide (k < m) = true := decide_eq_true ck
   have q3 : ((0 : Int) ≤ (k : Int)) = True := eq_true (by omega)
   have q4 : ((k : Int) < (n : Int)) = True := eq_true (by omega)
   have q5 : ((k : Int) < 16) = True := eq_true (by omega)
   obtain ⟨ad,rfl⟩ := hr.some_ (by rw [nums_length];omega)
   have hkn : k < n := by omega
   have hsl := secAt_len hf hkn
   have hbs : Bytes (secAt fl k) := bytes_take (bytes_drop hb _) _
   have hnu : ((nums .u8 fl).drop (k * 64)).take 64 = nums .u8 (secAt fl k) := by rw [nums_drop,nums_take,Nat.mul_comm];rfl
   have O1 := fun W => open_c (secAt fl k) hsl hbs e (k : Int) W
   have hok : okAt e fl n k = openF (secAt fl k) e (k : Int) := by unfold okAt;rw [decide_eq_true hkn,Bool.true_and]
   have s1 := ok_step (e := e) (fl := fl) (n := n) k (by omega)
   rw [hok] at s1
   have s2 := fun m' hm' => body_step (e := e) hf k (by omega) hkn m' hm'
   obtain ⟨lo,hlo⟩ : ∃ lo,52 * k = lo := ⟨_,rfl⟩
   obtain ⟨hi,hhi⟩ : ∃ hi,52 * (k + 1) = hi := ⟨_,rfl⟩
   rw [hlo] at s2
   have i1 : IntKind.i64.wrap ((k : Int) * 52) = (lo : Int) := by rw [IntKind.wrap_i64];omega
   have i3 : IntKind.i64.wrap (((k : Int) + 1) * 52) = (hi : Int) := by rw [IntKind.wrap_i64];omega
   have hlb : lo + 52 ≤ 832 := by omega
   have hd : dropA (some ⟨g11,0,none⟩) lo hi 1 = some ⟨g11,lo,none⟩ := dropA_blk g11 lo hi (by omega)
   have hfb : k < (bools (oksF e fl n k ++ List.replicate (16 - k) false)).length := by rw [bools_len,List.length_append,oksF_len,List.length_replicate];omega
   have hbl : (bodyF e fl n k ++ zs (832 - lo)).length = 832 := by rw [List.length_append,bodyF_len hf];simp [zs];omega
   have hll : ∀ W,Instr.sliceBounds true 832 832 (some (.int .i64 (lo : Int))) (some (.int .i64 (hi : Int))) (some (.int .i64 (hi : Int))) = Instr.sliceBounds true 832 832 (some (.int .i64 (lo : Int))) (some (.int .i64 (hi : Int))) (some (.int .i64 (hi : Int))) := fun (_ : World) => rfl
   clear hll
   have hh1 : lo ≤ hi := by omega
   have hh2 : hi ≤ 832 := by omega
   have hh3 : hi - lo = 52 := by omega
   rw [hlo] at H
   generalize openF (secAt fl k) e (k : Int) = ob at O1 s1
   generalize openL (secAt fl k) e (k : Int) = rm at O1 s2
   generalize secAt fl k = sec at hsl hnu O1
   have HLO := Lib.hid (And.intro hlo hhi)
   have HS1 := Lib.hid s1
   have HD := Lib.hid hd
   have HH3 := Lib.hid hh3
   clear hok hbs hlo hhi s1 hd hh3
   go_wp2_with (first
  |((with_reducible refine gate_store (t := 4) (p := 32) rfl ?_);refine l_store1 rfl H 4 _ _ rfl _ _ rfl _ (by first|(go_simp;done)|(go_simp;with_reducible rfl)) (by repeat constructor) rfl rfl size4 (by first|rfl|assumption|omega|(simp only [nums_length];omega)|simp [nums_length,zs] <;> omega) ?_;clear H;intro W H)
  |((with_reducible refine gate_dst (N := 23) rfl ?_);refine l_loadRdS rfl 51 _ rfl (k * 64) rfl (hr.below H.below) 64 _ Tryd.underlying51 rfl size51 (by decide) _ hnu (by rw [nums_length];exact hsl) ?_)
  |(go_at_call 46;(with_reducible refine (O1 _).mono ?_);rintro e W ⟨v,rfl,hR,hb'⟩;replace H := H.addR hb' hR;clear hb' hR;obtain ⟨Av,cv,rfl⟩ := H.row_slice .head)
  |((with_reducible refine gate_dst (N := 42) rfl ?_);refine l_runE rfl (.slice (some ⟨g11,lo,none⟩) 52 52) (x_slice_lohimax _ _ _ _ rfl rfl Tryd.underlying38 size5 lo hi hi rfl rfl rfl hh1 (Nat.le_refl _) hh2 _) (by rw [HD.out,HH3.out]) ?_)
  |((with_reducible refine gate_dst (N := 44) rfl ?_);refine l_copyC rfl H _ _ _ _ rfl 5 Tryd.underlying38 size5 g11 lo 52 52 rfl (.tail (.tail .head)) Av _ cv rfl rm (H.rowC .head).2.2 (by rw [hbl];omega) ?_;clear H;intro W H))
   rw [bools_set,HS1.out,s2 _ rfl] at H
   go_roundg gk'
   case measure => omega
   case rel => exact ⟨k + 1,by go_num,by omega,H.del .head⟩
  ·have hkm : k = m := by omega
   subst hkm
   have e1 : oksF e fl n k ++ List.replicate (16 - k) false = oksF e fl n 16 := by
    by_cases h16 : k = 16
    ·subst h16;simp
    ·rw [← oksF_out (e := e) (fl := fl) (n := n) k (16 - k) (by omega),show k + (16 - k) = 16 by omega]
   have e2 : bodyF e fl n k ++ zs (832 - 52 * k) = bodyF e fl n 16 := by
    by_cases h16 : k = 16
    ·subst h16;simp [zs]
    ·rw [show 832 - 52 * k = 52 * (16 - k) by omega,← bodyF_out (e := e) (fl := fl) (n := n) k (16 - k) (by omega),show k + (16 - k) = 16 by omega]
   rw [e1,e2] at H
   have hl1 : (bools (oksF e fl n 16)).length = 16 := by rw [bools_len,oksF_len]
   have hl2 : (nums .u8 (bodyF e fl n 16)).length = 832 := by rw [nums_length,bodyF_len hf]
   have q1 : decide (k < k) = false := decide_eq_false (by omega)
   go_wp2
   go_ret2
   refine ⟨_,_,rfl,?_⟩
   have H1 := H.blk_row (sz := 1) (n := 16) (cap := 16) .head (Nat.le_refl _) (by decide) hl1 (List.take_of_length_le (Nat.le_of_eq hl1))
   have H2 := H1.blk_row (sz := 1) (n := 832) (cap := 832) (.tail .head) (Nat.le_refl _) (by decide) hl2 (List.take_of_length_le (Nat.le_of_eq hl2))
   exact H2.perm (List.Perm.swap _ _ _)
end Go.Proofs.YtaekpfhgdnfciaaDoor.O
end

section
namespace Go.Proofs.YtaekpfhgdnfciaaDoor.F
open Go.RowKit Go.Proofs.YtaekpfhgdnfciaaDoorW.PrintWords Go.Proofs.YtaekpfhgdnfciaaDoorW.PrintLast Go.Proofs.YtaekpfhgdnfciaaDoorW.PrintMore
def feedF (op : Bool) (b : List Int) (kind : Int) (data : List Int) : (List Int × Bool × Int) × (Bool × List Int) :=
 if ((op != (kind == 3 ||kind == 4)) ||(op == (kind == 1 ||kind == 2))) = true then (([],false,2),(false,[]))
 else if (b.length : Int) + data.length > 512 then (([],false,5),(false,[]))
 else if (kind == 1 ||kind == 4) = true then ((b ++ data,true,0),(false,[]))
 else (([],false,0),(true,b ++ data))

end Go.Proofs.YtaekpfhgdnfciaaDoor.F
end

section
namespace Go.Proofs.YtaekpfhgdnfciaaDoor.F
open Go.RowKit Go.Proofs.YtaekpfhgdnfciaaDoorW.PrintWords Go.Proofs.YtaekpfhgdnfciaaDoorW.PrintLast Go.Proofs.YtaekpfhgdnfciaaDoorW.PrintMore
attribute [local go_sem high] eqA83
attribute [local go_sem] field83_0
attribute [local go_sem] field83_1
attribute [local go_sem] max2_int min2_int max_two min_two max_three min_three max_four min_four
/-! ### strandlineref15_Joiner_Feed: function 31 -/
end Go.Proofs.YtaekpfhgdnfciaaDoor.F
end

section
namespace Go.Proofs.YtaekpfhgdnfciaaDoor.O
open Go.RowKit Go.Proofs.YtaekpfhgdnfciaaDoorW.PrintWords Go.Proofs.YtaekpfhgdnfciaaDoorW.PrintLast Go.Proofs.YtaekpfhgdnfciaaDoorW.PrintMore Go.Proofs.YtaekpfhgdnfciaaDoor.F Go.Proofs.YtaekpfhgdnfciaaDoor.F.Nums Go.Proofs.YtaekpfhgdnfciaaDoor.Plain
def IsSl (v : Value) (n : Nat) : Prop := ∃ A c,v = .slice A n c ∧ n ≤ c
theorem own_C {w0 W : World} {F : Nat → Option Obj} {L : List Res} {c : Res → List Res} {b : List Int} {Av : Option Addr} {cv : Nat} {x : Value} {n : Nat} {ys : List Int} (H : Own w0 F L W) (hI : In L (.row x 5 1 n (nums .u8 ys)) c) (hx : b ≠ [] → .slice Av b.length cv = x) (hy : b ≠ [] → ys = b ∧ n = b.length) (hl : b.length ≤ 70000) : Kd.C (Kd.int .u8) W Av b.length b := by
 by_cases hb : b = []
 ·subst hb
  exact ⟨rfl,by simp,fun h => absurd h (by simp)⟩
 ·obtain ⟨rfl,rfl⟩ := hy hb
  have := hx hb
  subst this
  exact (H.rowC hI).2.2
theorem feedF_len (op : Bool) (b : List Int) (kind : Int) (data : List Int) : (feedF op b kind data).2.2.length ≤ 512 := by
 unfold feedF
 split
 ·simp
 ·split
  ·simp
  ·split
   ·simp
   ·simp only [List.length_append];omega
end Go.Proofs.YtaekpfhgdnfciaaDoor.O
end

section
namespace Go.Proofs.YtaekpfhgdnfciaaDoor.F
open Go.RowKit Go.Proofs.YtaekpfhgdnfciaaDoorW.PrintWords Go.Proofs.YtaekpfhgdnfciaaDoorW.PrintLast Go.Proofs.YtaekpfhgdnfciaaDoorW.PrintMore
attribute [local go_sem high] eqA83
attribute [local go_sem] field83_0
attribute [local go_sem] field83_1
attribute [local go_sem] max2_int min2_int max_two min_two max_three min_three max_four min_four
/-! ### crc_Mask: function 71 -/
def crc_Mask.f (a0 : Int) : Option (Int) := some (((Go.bits .or .u32 (a0 / 32768) ((a0 * 131072) % 4294967296)) + 2726488792) % 4294967296)
set_option maxHeartbeats 8000000 in
set_option maxRecDepth 100000 in
theorem crc_Mask.calls (a0 : Int) (r : Int) (w : World) (h : crc_Mask.f a0 = some r) :
  Calls Tryd.prog 71 #[.int .u32 a0] w fun e w' => e = .returned (.int .u32 r) ∧ Drawn0 w w' := by
 have hu73 := Tryd.underlying73
 have hu76 := Tryd.underlying76
 have hu83 := Tryd.underlying83
 have hu94 := Tryd.underlying94
 have hu106 := Tryd.underlying106
 have H : (some (((Go.bits .or .u32 (a0 / 32768) ((a0 * 131072) % 4294967296)) + 2726488792) % 4294967296)) = some r := h
 clear h
 obtain rfl := Option.some.inj H
 go_enter Tryd.func71,Tryd.ntmps71
 go_wp2
 go_ret
 exact ⟨by first|rfl|(simp;done)|(simp [*];done),by repeat (first|exact Drawn0.refl _|apply Drawn0.step)⟩
/-! ### strandlineref03_Mask: function 77 -/
def strandlineref03_Mask.f (a0 : Int) : Option (Int) := some ((((((Int.tdiv a0 32768) % 4294967296) + (((Int.tmod a0 32768) * 131072) % 4294967296)) % 4294967296) + 2726488792) % 4294967296)
set_option maxHeartbeats 8000000 in
set_option maxRecDepth 100000 in
theorem strandlineref03_Mask.calls (a0 : Int) (r : Int) (w : World) (h : strandlineref03_Mask.f a0 = some r) :
  Calls Tryd.prog 77 #[.int .u32 a0] w fun e w' => e = .returned (.int .u32 r) ∧ Drawn0 w w' := by
 have hu73 := Tryd.underlying73
 have hu76 := Tryd.underlying76
 have hu83 := Tryd.underlying83
 have hu94 := Tryd.underlying94
 have hu106 := Tryd.underlying106
 have H : (some ((((((Int.tdiv a0 32768) % 4294967296) + (((Int.tmod a0 32768) * 131072) % 4294967296)) % 4294967296) + 2726488792) % 4294967296)) = some r := h
 clear h
 obtain rfl := Option.some.inj H
 go_enter Tryd.func77,Tryd.ntmps77
 go_wp2
 go_ret
 exact ⟨by first|rfl|(simp;done)|(simp [*];done),by repeat (first|exact Drawn0.refl _|apply Drawn0.step)⟩
/-! ### strandlineref03_Step: function 87 -/
def strandlineref03_Step.f (a0 : Int) : Option (Int) := if (Int.tmod a0 2) = 1 then (some (Go.bits .xor .u32 ((Int.tdiv a0 2) % 4294967296) 2197175160)) else (some ((Int.tdiv a0 2) % 4294967296))
set_option maxHeartbeats 8000000 in
set_option maxRecDepth 100000 in
theorem strandlineref03_Step.calls (a0 : Int) (r : Int) (w : World) (h : strandlineref03_Step.f a0 = some r) :
  Calls Tryd.prog 87 #[.int .u32 a0] w fun e w' => e = .returned (.int .u32 r) ∧ Drawn0 w w' := by
 have hu73 := Tryd.underlying73
 have hu76 := Tryd.underlying76
 have hu83 := Tryd.underlying83
 have hu94 := Tryd.underlying94
 have hu106 := Tryd.underlying106
 have H : (if (Int.tmod a0 2) = 1 then (some (Go.bits .xor .u32 ((Int.tdiv a0 2) % 4294967296) 2197175160)) else (some ((Int.tdiv a0 2) % 4294967296))) = some r := h
 clear h
 by_cases c2 : (Int.tmod a0 2) = 1
 ·rw [if_pos c2] at H
  have c2b0 : ((Int.tmod a0 2) == 1) = true := beq_iff_eq.mpr c2
  have c2b1 : ((Int.tmod a0 2) != 1) = false := bne_eq_false_iff_eq.mpr c2
  clear c2
  obtain rfl := Option.some.inj H
  go_enter Tryd.func87,Tryd.ntmps87
  go_wp2
  go_ret
  exact ⟨by first|rfl|(simp;done)|(simp [*];done),by repeat (first|exact Drawn0.refl _|apply Drawn0.step)⟩
 ·rw [if_neg c2] at H
  have c2b0 : ((Int.tmod a0 2) == 1) = false := beq_eq_false_iff_ne.mpr c2
  have c2b1 : ((Int.tmod a0 2) != 1) = true := bne_iff_ne.mpr c2
  obtain rfl := Option.some.inj H
  go_enter Tryd.func87,Tryd.ntmps87
  go_wp2
  go_ret
  exact ⟨by first|rfl|(simp;done)|(simp [*];done),by repeat (first|exact Drawn0.refl _|apply Drawn0.step)⟩
/-! ### strandlineref03_More: function 84 -/
mutual
def strandlineref03_More.l0 : Nat → List Int → Int → Int → Option (Int)
 |0,_,_,_ => none
 |k + 1,x1,x5,x6 => if x6 < (x1.length : Int) then (if 0 ≤ x6 then (strandlineref03_More.l1 k x1 (Go.bits .xor .u32 x5 ((rd x1 x6) % 4294967296)) x6 0) else (none)) else (some ((4294967295 - x5) % 4294967296))
def strandlineref03_More.l1 : Nat → List Int → Int → Int → Int → Option (Int)
 |0,_,_,_,_ => none
 |k + 1,x1,x5,x6,x7 => if x7 < 8 then ((strandlineref03_Step.f x5).bind fun t126 => (strandlineref03_More.l1 k x1 t126 x6 (wrap64 (x7 + 1)))) else (strandlineref03_More.l0 k x1 x5 (wrap64 (x6 + 1)))
end
def strandlineref03_More.f (k : Nat) (a0 : Int) (l1 : List Int) : Option (Int) := strandlineref03_More.l0 k l1 ((4294967295 - a0) % 4294967296) 0
theorem strandlineref03_More.mono_l : ∀ k,(∀ y0 y1 y2,LeO (strandlineref03_More.l0 k y0 y1 y2) (strandlineref03_More.l0 (k + 1) y0 y1 y2)) ∧ (∀ y0 y1 y2 y3,LeO (strandlineref03_More.l1 k y0 y1 y2 y3) (strandlineref03_More.l1 (k + 1) y0 y1 y2 y3))
 |0 => ⟨fun _ _ _ r h => by simp [strandlineref03_More.l0] at h,fun _ _ _ _ r h => by simp [strandlineref03_More.l1] at h⟩
 |k + 1 => by
  obtain ⟨ih0,ih1⟩ := strandlineref03_More.mono_l k
  refine ⟨?_,?_⟩
  ·intro y0 y1 y2
   unfold strandlineref03_More.l0
   repeat' first
   |(with_reducible exact ih0 _ _ _)
   |(with_reducible exact ih1 _ _ _ _)
   |(with_reducible exact LeO.refl _)
   |(with_reducible exact LeO.none _)
   |(with_reducible refine LeO.ite ?_ ?_)
   |(with_reducible refine LeO.bind ?_ (fun _ => ?_))
   |exact ih0 _ _ _
   |exact ih1 _ _ _ _
   |exact LeO.none _
   |refine LeO.ite ?_ ?_
   |refine LeO.bind ?_ (fun _ => ?_)
  ·intro y0 y1 y2 y3
   unfold strandlineref03_More.l1
   repeat' first
   |(with_reducible exact ih0 _ _ _)
   |(with_reducible exact ih1 _ _ _ _)
   |(with_reducible exact LeO.refl _)
   |(with_reducible exact LeO.none _)
   |(with_reducible refine LeO.ite ?_ ?_)
   |(with_reducible refine LeO.bind ?_ (fun _ => ?_))
   |exact ih0 _ _ _
   |exact ih1 _ _ _ _
   |exact LeO.none _
   |refine LeO.ite ?_ ?_
   |refine LeO.bind ?_ (fun _ => ?_)
theorem strandlineref03_More.mono : ∀ a0 a1 k,LeO (strandlineref03_More.f k a0 a1) (strandlineref03_More.f (k + 1) a0 a1) := by
 intro a0 a1 k
 obtain ⟨ih0,ih1⟩ := strandlineref03_More.mono_l k
 unfold strandlineref03_More.f
 repeat' first
   |(with_reducible exact ih0 _ _ _)
   |(with_reducible exact ih1 _ _ _ _)
   |(with_reducible exact LeO.refl _)
   |(with_reducible exact LeO.none _)
   |(with_reducible refine LeO.ite ?_ ?_)
   |(with_reducible refine LeO.bind ?_ (fun _ => ?_))
   |exact ih0 _ _ _
   |exact ih1 _ _ _ _
   |exact LeO.none _
   |refine LeO.ite ?_ ?_
   |refine LeO.bind ?_ (fun _ => ?_)
set_option maxHeartbeats 8000000 in
set_option maxRecDepth 100000 in
theorem strandlineref03_More.calls (k : Nat) (a0 : Int) (A1 : Option Addr) (c1 : Nat) (l1 : List Int) (r : Int) (w : World) (hr1 : Kd.C (Kd.int .u8) w A1 l1.length l1) (hc1 : l1.length ≤ c1) (h : strandlineref03_More.f k a0 l1 = some r) :
  Calls Tryd.prog 84 #[.int .u32 a0,.slice A1 l1.length c1] w fun e w' => e = .returned (.int .u32 r) ∧ Drawn0 w w' := by
 have hu73 := Tryd.underlying73
 have hu76 := Tryd.underlying76
 have hu83 := Tryd.underlying83
 have hu94 := Tryd.underlying94
 have hu106 := Tryd.underlying106
 have HR1 := Aside0.mk hr1
 have HC1 := Aside0.mk hc1
 clear hr1 hc1
 have H : (strandlineref03_More.l0 k l1 ((4294967295 - a0) % 4294967296) 0) = some r := h
 clear h
 have H' := Aside0.mk H
 clear H
 go_enter Tryd.func84,Tryd.ntmps84
 go_wp2
 go_loopg [5,6] k (fun kq v5 v6 w' => ∃ (x5_1 : Int) (x6_1 : Int),v5 = .int .u32 x5_1 ∧ v6 = .int .i64 x6_1 ∧ Aside0 (strandlineref03_More.l0 kq l1 x5_1 x6_1 = some r) ∧ Aside0 (kq ≤ k) ∧ Drawn0 w w')
 case atStart => exact ⟨((4294967295 - a0) % 4294967296),(0),(by first|rfl|(simp;done)|(simp [*];done)),(by first|rfl|(simp;done)|(simp [*];done)),H',⟨Nat.le_refl _⟩,by repeat (first|exact Drawn0.refl _|apply Drawn0.step)⟩
 case round =>
  clear H'
  try clear c1
  try clear p2
  obtain ⟨x5_1,x6_1,rfl,rfl,HA,HK1,⟨m1,rfl⟩⟩ := hrel
  cases gk with
  |zero => exact absurd HA.out (by simp [strandlineref03_More.l0])
  |succ k1 =>
   have H := HA.out
   clear HA
   simp only [strandlineref03_More.l0] at H
   by_cases c3 : x6_1 < (l1.length : Int)
   ·rw [if_pos c3] at H
    have c3b0 : decide (x6_1 < (l1.length : Int)) = true := decide_eq_true c3
    clear c3
    by_cases c4 : 0 ≤ x6_1
    ·rw [if_pos c4] at H
     have c4b0 : decide (0 ≤ x6_1) = true := decide_eq_true c4
     clear c4
     have H' := Aside0.mk H
     clear H
     have p125 : 0 ≤ (x6_1 : Int) := of_decide_eq_true (by first|(with_reducible assumption)|assumption)
     have q125 : x6_1 < (l1.length : Int) := of_decide_eq_true (by first|(with_reducible assumption)|assumption)
     obtain ⟨ad125,e125,hx125_0⟩ := Kd.at_int HR1.out x6_1 p125 q125
     cases e125
     replace p125 := eq_true p125
     replace q125 := eq_true q125
     go_wp2
     go_loopg [5,7] k1 (fun kq v5 v7 w' => ∃ (x5_2 : Int) (x7_2 : Int),v5 = .int .u32 x5_2 ∧ v7 = .int .i64 x7_2 ∧ Aside0 (strandlineref03_More.l1 kq l1 x5_2 x6_1 x7_2 = some r) ∧ Aside0 (kq ≤ k1) ∧ Drawn0 w w')
     case atStart => exact ⟨(Go.bits .xor .u32 x5_1 ((rd l1 x6_1) % 4294967296)),(0),(by first|rfl|(simp;done)|(simp [*];done)),(by first|rfl|(simp;done)|(simp [*];done)),H',⟨Nat.le_refl _⟩,by repeat (first|exact Drawn0.refl _|apply Drawn0.step)⟩
     case round =>
      clear H'
      try clear c1
      try clear p1
      try clear q1
      try clear hx1
      try clear p2
      try clear c3
      try clear c3b0
      try clear c4
      try clear c4b0
      try clear hx125_0
      try clear p125
      try clear p2
      try clear q125
      obtain ⟨x5_2,x7_2,rfl,rfl,HA,HK2,⟨m2,rfl⟩⟩ := hrel
      cases gk with
      |zero => exact absurd HA.out (by simp [strandlineref03_More.l1])
      |succ k2 =>
       have H := HA.out
       clear HA
       simp only [strandlineref03_More.l1] at H
       by_cases c5 : x7_2 < 8
       ·rw [if_pos c5] at H
        have c5b0 : decide (x7_2 < 8) = true := decide_eq_true c5
        clear c5
        replace H := Option.bind_eq_some_iff.mp H
        obtain ⟨t126,A60,H⟩ := H
        replace H : (strandlineref03_More.l1 k2 l1 t126 x6_1 (wrap64 (x7_2 + 1))) = some r := H
        have A6 := Aside0.mk A60
        clear A60
        have H' := Aside0.mk H
        clear H
        go_wp2_with (first|((with_reducible refine gate_callee (f := 87) rfl ?_);refine goesL_ (some 28) rfl rfl Tryd.func87 (by kernel_rfl) rfl #[.int .u32 x5_2] rfl (by (try simp only [List.map_toArray,List.map_cons,List.map_nil]);first|done|rfl|(simp only [List.length_drop,List.length_take];rfl)) ?_;(with_reducible refine (strandlineref03_Step.calls x5_2 t126 _ A6.out).mono ?_);rintro e w' ⟨rfl,⟨nd,rfl⟩⟩;refine ⟨_,rfl,?_⟩))
        go_roundg k2
        case measure => have := HK1.out;have := HK2.out;omega
        case rel => exact ⟨(t126),(wrap64 (x7_2 + 1)),(by first|rfl|(simp;done)|(simp [*];done)),(by first|rfl|(simp;done)|(simp [*];done)),H',⟨by have := HK1.out;have := HK2.out;omega⟩,by repeat (first|exact Drawn0.refl _|apply Drawn0.step)⟩
       ·rw [if_neg c5] at H
        have c5b0 : decide (x7_2 < 8) = false := decide_eq_false c5
        clear c5
        have H' := Aside0.mk H
        clear H
        go_wp2
        go_roundg k2
        case measure => have := HK1.out;have := HK2.out;omega
        case rel => exact ⟨(x5_2),(wrap64 (x6_1 + 1)),(by first|rfl|(simp;done)|(simp [*];done)),(by first|rfl|(simp;done)|(simp [*];done)),H',⟨by have := HK1.out;have := HK2.out;omega⟩,by repeat (first|exact Drawn0.refl _|apply Drawn0.step)⟩
    ·rw [if_neg c4] at H
     exact absurd H (by simp)
   ·rw [if_neg c3] at H
    have c3b0 : decide (x6_1 < (l1.length : Int)) = false := decide_eq_false c3
    clear c3
    obtain rfl := Option.some.inj H
    go_wp2
    go_ret
    exact ⟨by first|rfl|(simp;done)|(simp [*];done),by repeat (first|exact Drawn0.refl _|apply Drawn0.step)⟩
/-! ### strandlineref03_Of: function 78 -/
def strandlineref03_Of.f (k : Nat) (l0 : List Int) : Option (Int) := (strandlineref03_More.f k 0 l0).bind fun t127 => (some t127)
theorem strandlineref03_Of.mono : ∀ a0 k,LeO (strandlineref03_Of.f k a0) (strandlineref03_Of.f (k + 1) a0) := by
 intro a0 k
 unfold strandlineref03_Of.f
 repeat' first
   |(with_reducible exact strandlineref03_More.mono _ _ _)
   |(with_reducible exact LeO.refl _)
   |(with_reducible exact LeO.none _)
   |(with_reducible refine LeO.ite ?_ ?_)
   |(with_reducible refine LeO.bind ?_ (fun _ => ?_))
   |exact strandlineref03_More.mono _ _ _
   |exact LeO.none _
   |refine LeO.ite ?_ ?_
   |refine LeO.bind ?_ (fun _ => ?_)
set_option maxHeartbeats 8000000 in
set_option maxRecDepth 100000 in
theorem strandlineref03_Of.calls (k : Nat) (A0 : Option Addr) (c0 : Nat) (l0 : List Int) (r : Int) (w : World) (hr0 : Kd.C (Kd.int .u8) w A0 l0.length l0) (hc0 : l0.length ≤ c0) (h : strandlineref03_Of.f k l0 = some r) :
  Calls Tryd.prog 78 #[.slice A0 l0.length c0] w fun e w' => e = .returned (.int .u32 r) ∧ Drawn0 w w' := by
 have hu73 := Tryd.underlying73
 have hu76 := Tryd.underlying76
 have hu83 := Tryd.underlying83
 have hu94 := Tryd.underlying94
 have hu106 := Tryd.underlying106
 have HR0 := Aside0.mk hr0
 have HC0 := Aside0.mk hc0
 clear hr0 hc0
 have H : ((strandlineref03_More.f k 0 l0).bind fun t127 => (some t127)) = some r := h
 clear h
 replace H := Option.bind_eq_some_iff.mp H
 obtain ⟨t127,A20,H⟩ := H
 replace H : (some t127) = some r := H
 have A2 := Aside0.mk A20
 clear A20
 obtain rfl := Option.some.inj H
 go_enter Tryd.func78,Tryd.ntmps78
 go_wp2_with (first|((with_reducible refine gate_callee (f := 84) rfl ?_);refine goesL_ (some 4) rfl rfl Tryd.func84 (by kernel_rfl) rfl #[.int .u32 0,.slice A0 l0.length c0] rfl (by (try simp only [List.map_toArray,List.map_cons,List.map_nil]);first|done|rfl|(simp only [List.length_drop,List.length_take];rfl)) ?_;(with_reducible refine (strandlineref03_More.calls k 0 _ _ l0 t127 _ ?side1 ?side2 A2.out).mono ?_);(case side1 => repeat (first|exact HR0.out|(with_reducible refine Kd.C_alloc ?_ _)|(with_reducible refine Kd.C_drewN ?_ _)|(with_reducible refine Kd.C_drew ?_)));(case side2 => exact HC0.out);rintro e w' ⟨rfl,⟨nd,rfl⟩⟩;refine ⟨_,rfl,?_⟩))
 go_ret
 exact ⟨by first|rfl|(simp;done)|(simp [*];done),by repeat (first|exact Drawn0.refl _|apply Drawn0.step)⟩
end Go.Proofs.YtaekpfhgdnfciaaDoor.F
end

section
namespace Go.Proofs.YtaekpfhgdnfciaaDoor.CrcMath
open Go.RowKit Go.Proofs.YtaekpfhgdnfciaaDoor.F Go.Proofs.YtaekpfhgdnfciaaDoorW.PrintWords Go.Proofs.YtaekpfhgdnfciaaDoorW.PrintLast Go.Proofs.YtaekpfhgdnfciaaDoorW.PrintMore Go.Proofs.YtaekpfhgdnfciaaDoor.Plain
theorem xor32_nat (a b : Nat) (ha : a < 4294967296) (hb : b < 4294967296) : bits .xor .u32 a b = ((a ^^^ b : Nat) : Int) := by
 rw [xor32,BitVec.ofInt_natCast,BitVec.ofInt_natCast,BitVec.toNat_xor,BitVec.toNat_ofNat,BitVec.toNat_ofNat,Nat.mod_eq_of_lt (by omega),Nat.mod_eq_of_lt (by omega)]
theorem xor_lt32 {a b : Nat} (ha : a < 4294967296) (hb : b < 4294967296) : a ^^^ b < 4294967296 := Nat.xor_lt_two_pow (n := 32) ha hb
abbrev P : Nat := 2197175160
def stp (n : Nat) : Nat := if n % 2 = 1 then (n / 2) ^^^ P else n / 2
theorem stp_lt {n : Nat} (h : n < 4294967296) : stp n < 4294967296 := by
 unfold stp
 split
 ·exact xor_lt32 (by omega) (by decide)
 ·omega
theorem xor_mod2 (a b : Nat) : (a ^^^ b) % 2 = (a % 2 + b % 2) % 2 := by
 have h := Nat.xor_mod_two_pow (a := a) (b := b) (n := 1)
 rw [show (2 : Nat) ^ 1 = 2 by decide] at h
 rw [h]
 rcases Nat.mod_two_eq_zero_or_one a with h1|h1 <;> rcases Nat.mod_two_eq_zero_or_one b with h2|h2 <;> rw [h1,h2] <;> decide
theorem stp_xor (a b : Nat) : stp (a ^^^ b) = stp a ^^^ stp b := by
 have hp : P ^^^ P = 0 := Nat.xor_self P
 unfold stp
 rw [xor_mod2,Nat.xor_div_two]
 rcases Nat.mod_two_eq_zero_or_one a with h1|h1 <;> rcases Nat.mod_two_eq_zero_or_one b with h2|h2 <;> rw [h1,h2]
 ·rfl
 ·show (a / 2 ^^^ b / 2) ^^^ P = a / 2 ^^^ (b / 2 ^^^ P)
  rw [Nat.xor_assoc]
 ·show (a / 2 ^^^ b / 2) ^^^ P = (a / 2 ^^^ P) ^^^ b / 2
  rw [Nat.xor_assoc,Nat.xor_assoc,Nat.xor_comm P]
 ·show a / 2 ^^^ b / 2 = (a / 2 ^^^ P) ^^^ (b / 2 ^^^ P)
  rw [Nat.xor_assoc,Nat.xor_comm (b / 2) P,← Nat.xor_assoc P,hp,Nat.zero_xor]
theorem stp_even (q : Nat) : stp (2 * q) = q := by unfold stp;rw [if_neg (by omega)];omega
def itr : Nat → Nat → Nat
 |0,n => n
 |r + 1,n => itr r (stp n)
theorem itr_xor (r : Nat) : ∀ a b : Nat,itr r (a ^^^ b) = itr r a ^^^ itr r b := by
 induction r with
 |zero => intro a b;rfl
 |succ r ih => intro a b;show itr r (stp (a ^^^ b)) = itr r (stp a) ^^^ itr r (stp b);rw [stp_xor,ih]
theorem itr_lt (r : Nat) : ∀ {n : Nat},n < 4294967296 → itr r n < 4294967296 := by
 induction r with
 |zero => intro n h;exact h
 |succ r ih => intro n h;exact ih (stp_lt h)
theorem itr_add (r s : Nat) : ∀ n : Nat,itr (r + s) n = itr s (itr r n) := by
 induction r with
 |zero => intro n;rw [Nat.zero_add];rfl
 |succ r ih => intro n;rw [show r + 1 + s = (r + s) + 1 by omega];exact ih (stp n)
theorem itr_shift (r : Nat) : ∀ q : Nat,itr r (2 ^ r * q) = q := by
 induction r with
 |zero => intro q;show 2 ^ 0 * q = q;omega
 |succ r ih =>
  intro q
  show itr r (stp (2 ^ (r + 1) * q)) = q
  rw [show 2 ^ (r + 1) * q = 2 * (2 ^ r * q) by rw [Nat.pow_succ,Nat.mul_comm (2 ^ r) 2,Nat.mul_assoc],stp_even,ih]
theorem split_xor (n r : Nat) : 2 ^ r * (n / 2 ^ r) ^^^ n % 2 ^ r = n := by
 have h1 : n % 2 ^ r < 2 ^ r := Nat.mod_lt _ (Nat.two_pow_pos r)
 apply Nat.eq_of_testBit_eq
 intro i
 rw [Nat.testBit_xor,Nat.testBit_two_pow_mul,Nat.testBit_mod_two_pow,Nat.testBit_div_two_pow]
 by_cases h : i < r
 ·have : ¬ i ≥ r := by omega
  simp [h,this]
 ·have h2 : i ≥ r := by omega
  simp [h,h2,show i - r + r = i by omega]
theorem half_itr : ∀ i : Nat,i < 16 → halfL.getD i 0 = ((itr 4 i : Nat) : Int) := by decide +kernel
theorem four_nat {n : Nat} (h : n < 4294967296) : fourI (n : Int) = ((itr 4 n : Nat) : Int) := by
 unfold fourI
 have e1 : ((n : Int) % 16).toNat = n % 16 := by omega
 have e2 : (n : Int) / 16 = ((n / 16 : Nat) : Int) := by omega
 have hl : n % 16 < 16 := Nat.mod_lt _ (by decide)
 rw [e1,e2,half_itr _ hl,xor32_nat _ _ (itr_lt 4 (by omega)) (by omega)]
 congr 1
 have h3 := split_xor n 4
 have h4 : itr 4 n = itr 4 (2 ^ 4 * (n / 2 ^ 4)) ^^^ itr 4 (n % 2 ^ 4) := by rw [← itr_xor,h3]
 rw [h4,itr_shift,Nat.xor_comm]
theorem stepC_nat {n c : Nat} (h : n < 4294967296) (hc : c < 256) : stepC (n : Int) (c : Int) = ((itr 8 (n ^^^ c) : Nat) : Int) := by
 unfold stepC
 have hx := xor_lt32 h (show c < 4294967296 by omega)
 rw [xor32_nat _ _ h (by omega),four_nat hx,four_nat (itr_lt 4 hx),← itr_add]
def sums (b : List Int) (n : Nat) : Nat := b.foldl (fun n c => itr 8 (n ^^^ c.toNat)) n
theorem sums_lt (b : List Int) (hb : ∀ c ∈ b,0 ≤ c ∧ c ≤ 255) : ∀ {n : Nat},n < 4294967296 → sums b n < 4294967296 := by
 induction b with
 |nil => intro n h;exact h
 |cons c b ih => intro n h;exact ih (fun x hx => hb x (List.mem_cons_of_mem _ hx)) (itr_lt 8 (xor_lt32 h (by have := hb c (List.mem_cons_self ..);omega)))
theorem fold_nat (b : List Int) (hb : ∀ c ∈ b,0 ≤ c ∧ c ≤ 255) : ∀ {n : Nat},n < 4294967296 → b.foldl stepC (n : Int) = ((sums b n : Nat) : Int) := by
 induction b with
 |nil => intro n h;rfl
 |cons c b ih =>
  intro n h
  have hc := hb c (List.mem_cons_self ..)
  have hlt := itr_lt 8 (xor_lt32 h (show c.toNat < 4294967296 by omega))
  show b.foldl stepC (stepC n c) = ((sums b (itr 8 (n ^^^ c.toNat)) : Nat) : Int)
  have e : stepC (n : Int) c = ((itr 8 (n ^^^ c.toNat) : Nat) : Int) := by
   have := stepC_nat (n := n) (c := c.toNat) h (by omega)
   rwa [Int.toNat_of_nonneg hc.1] at this
  rw [e]
  exact ih (fun x hx => hb x (List.mem_cons_of_mem _ hx)) hlt
theorem moreI_nat {s : Nat} (hs : s < 4294967296) (b : List Int) (hb : ∀ c ∈ b,0 ≤ c ∧ c ≤ 255) : moreI s b = 4294967295 - ((sums b (4294967295 - s) : Nat) : Int) := by
 unfold moreI
 rw [show (4294967295 : Int) - (s : Int) = ((4294967295 - s : Nat) : Int) by omega,fold_nat b hb (by omega)]
/-! the reference -/
theorem rstep {n : Nat} (h : n < 4294967296) : strandlineref03_Step.f (n : Int) = some ((stp n : Nat) : Int) := by
 unfold strandlineref03_Step.f stp
 rw [tm (by omega),td (by omega)]
 have e2 : (n : Int) / 2 % 4294967296 = ((n / 2 : Nat) : Int) := by omega
 by_cases c : n % 2 = 1
 ·rw [if_pos (by omega),if_pos c,e2,show (2197175160 : Int) = ((P : Nat) : Int) by decide,xor32_nat _ _ (by omega) (by decide)]
 ·rw [if_neg (by omega),if_neg c,e2]
theorem rmore_l1 (b : List Int) (i : Int) (r : Nat) : ∀ (k : Nat) (n : Nat),r ≤ 8 → n < 4294967296 → strandlineref03_More.l1 (k + r + 1) b n i (8 - (r : Int)) = strandlineref03_More.l0 k b ((itr r n : Nat) : Int) (wrap64 (i + 1)) := by
 induction r with
 |zero =>
  intro k n hr h
  simp only [strandlineref03_More.l1]
  rw [if_neg (by omega)]
  rfl
 |succ r ih =>
  intro k n hr h
  rw [show k + (r + 1) + 1 = (k + r + 1) + 1 by omega]
  simp only [strandlineref03_More.l1]
  rw [if_pos (by omega),rstep h,Option.bind_some,show wrap64 (8 - ((r + 1 : Nat) : Int) + 1) = 8 - (r : Int) by rw [w64 (by omega) (by omega)];omega]
  exact ih k (stp n) (by omega) (stp_lt h)
theorem rmore_l0 (b : List Int) (hb : ∀ c ∈ b,0 ≤ c ∧ c ≤ 255) (hl : b.length ≤ 1000000) (d : Nat) : ∀ (k i n : Nat),i + d = b.length → n < 4294967296 → strandlineref03_More.l0 (k + 10 * d + 1) b n i = some (4294967295 - ((sums (b.drop i) n : Nat) : Int)) := by
 induction d with
 |zero =>
  intro k i n hi h
  simp only [strandlineref03_More.l0]
  rw [if_neg (by omega),show i = b.length by omega,List.drop_length]
  show some ((4294967295 - (n : Int)) % 4294967296) = some (4294967295 - ((n : Nat) : Int))
  rw [Int.emod_eq_of_lt (by omega) (by omega)]
 |succ d ih =>
  intro k i n hi h
  have hi2 : i < b.length := by omega
  have hc := hb _ (List.getElem_mem hi2)
  have hrd : rd b i = b[i] := by unfold rd;rw [List.getD_eq_getElem?_getD,Int.toNat_natCast,List.getElem?_eq_getElem hi2];rfl
  rw [show k + 10 * (d + 1) + 1 = (k + 1 + 10 * d + 8 + 1) + 1 by omega]
  simp only [strandlineref03_More.l0]
  have hlt := xor_lt32 h (show (b[i]).toNat < 4294967296 by omega)
  have e : bits .xor .u32 (n : Int) (rd b i % 4294967296) = ((n ^^^ (b[i]).toNat : Nat) : Int) := by
   rw [hrd,Int.emod_eq_of_lt (by omega) (by omega),show b[i] = (((b[i]).toNat : Nat) : Int) by omega,xor32_nat _ _ h (by omega)]
   rfl
  rw [if_pos (by omega),if_pos (by omega),e]
  have h1 := rmore_l1 b i 8 (k + 1 + 10 * d) (n ^^^ (b[i]).toNat) (by omega) hlt
  rw [show (8 : Int) - ((8 : Nat) : Int) = 0 by decide] at h1
  rw [h1,w64 (n := (i : Int) + 1) (by omega) (by omega),List.drop_eq_getElem_cons hi2]
  have h2 := ih k (i + 1) (itr 8 (n ^^^ (b[i]).toNat)) (by omega) (itr_lt 8 hlt)
  rw [show k + 1 + 10 * d = k + 10 * d + 1 by omega]
  exact h2
theorem rmore_eq {s : Nat} (hs : s < 4294967296) (b : List Int) (hb : ∀ c ∈ b,0 ≤ c ∧ c ≤ 255) (hl : b.length ≤ 1000000) (k : Nat) : strandlineref03_More.f (k + 10 * b.length + 1) s b = some (moreI s b) := by
 unfold strandlineref03_More.f
 rw [show ((4294967295 - (s : Int)) % 4294967296) = ((4294967295 - s : Nat) : Int) by omega,moreI_nat hs b hb]
 exact rmore_l0 b hb hl b.length k 0 _ (by omega) (by omega)
theorem rof_eq (b : List Int) (hb : ∀ c ∈ b,0 ≤ c ∧ c ≤ 255) (hl : b.length ≤ 1000000) (k : Nat) : strandlineref03_Of.f (k + 10 * b.length + 1) b = some (moreI 0 b) := by
 unfold strandlineref03_Of.f
 have := rmore_eq (s := 0) (by decide) b hb hl k
 rw [show ((0 : Nat) : Int) = 0 from rfl] at this
 rw [this]
 rfl
/-! the mask -/
theorem or32_nat (a b : Nat) (ha : a < 4294967296) (hb : b < 4294967296) : bits .or .u32 a b = ((a |||b : Nat) : Int) := by
 show IntKind.u32.wrap ((BitVec.ofInt 32 a |||BitVec.ofInt 32 b).toNat : Int) = _
 have hlt := Nat.or_lt_two_pow (n := 32) ha hb
 rw [BitVec.ofInt_natCast,BitVec.ofInt_natCast,BitVec.toNat_or,BitVec.toNat_ofNat,BitVec.toNat_ofNat,Nat.mod_eq_of_lt (by omega),Nat.mod_eq_of_lt (by omega),IntKind.wrap_u32]
 omega
theorem mask_eq {n : Nat} (h : n < 4294967296) : crc_Mask.f n = some ((((n / 32768 + n % 32768 * 131072 + 2726488792) % 4294967296 : Nat)) : Int) := by
 unfold crc_Mask.f
 rw [show (n : Int) / 32768 = ((n / 32768 : Nat) : Int) by omega,show ((n : Int) * 131072) % 4294967296 = ((2 ^ 17 * (n % 32768) : Nat) : Int) by omega,or32_nat _ _ (by omega) (by omega),Nat.or_comm,
  ← Nat.two_pow_add_eq_or_of_lt (show n / 32768 < 2 ^ 17 by omega)]
 refine congrArg some ?_
 omega
theorem rl_rr {n : Nat} (h : n < 4294967296) : (n / 32768 + n % 32768 * 131072) % 131072 * 32768 + (n / 32768 + n % 32768 * 131072) / 131072 = n := by
 have ha : n / 32768 < 131072 := by omega
 have e := Nat.div_add_mod n 32768
 generalize n / 32768 = a at ha e ⊢
 generalize n % 32768 = b at e ⊢
 rw [Nat.add_mul_mod_self_right,Nat.mod_eq_of_lt ha,Nat.add_mul_div_right _ _ (by decide),Nat.div_eq_of_lt ha]
 omega
theorem back1 {n : Nat} (h : n < 4294967296) : ((((n / 32768 + n % 32768 * 131072 + 2726488792) % 4294967296 + 1568478504) % 4294967296 % 131072 * 32768 + ((n / 32768 + n % 32768 * 131072 + 2726488792) % 4294967296 + 1568478504) % 4294967296 / 131072 : Nat) : Int) = n := by
 have h2 : n / 32768 + n % 32768 * 131072 < 4294967296 := by omega
 have h3 := rl_rr h
 generalize n / 32768 + n % 32768 * 131072 = m at h2 h3 ⊢
 rw [show ((m + 2726488792) % 4294967296 + 1568478504) % 4294967296 = m by omega,h3]
theorem rmask_eq {n : Nat} (h : n < 4294967296) : strandlineref03_Mask.f n = some ((((n / 32768 + n % 32768 * 131072 + 2726488792) % 4294967296 : Nat)) : Int) := by
 unfold strandlineref03_Mask.f
 rw [td (by omega),tm (by omega)]
 refine congrArg some ?_
 omega
end Go.Proofs.YtaekpfhgdnfciaaDoor.CrcMath
end
