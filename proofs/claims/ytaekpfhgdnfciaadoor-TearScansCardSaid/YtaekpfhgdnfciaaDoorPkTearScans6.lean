/- Texts of mine put together: Stamp, StampC, OpenC, FkPlan, FkStrandlineref16, Flat, Hjoin, HjoinI, FkStrandlineref15, Feed, FkCrc, FkStrandlineref03. -/
import Derived.Test.YtaekpfhgdnfciaaDoorPkTearScans4
import Derived.Test.YtaekpfhgdnfciaaDoorPkTearScans5
import Derived.Test.YtaekpfhgdnfciaaDoorPkTearScans3
section
/- stamp and its reference by hand: Empty, Room, Read, Open, the reference's Seal and Open. -/
namespace Go.Proofs.YtaekpfhgdnfciaaDoor.F
open Go.RowKit Go.Proofs.YtaekpfhgdnfciaaDoorW.PrintWords Go.Proofs.YtaekpfhgdnfciaaDoorW.PrintLast Go.Proofs.YtaekpfhgdnfciaaDoorW.PrintMore Nums
set_option linter.unusedVariables false
set_option linter.unusedSimpArgs false
set_option maxRecDepth 100000 in
theorem empty_calls (xs : List Int) (hx : xs.length = 64) (bx : Bytes xs) (w : World) :
  Calls Tryd.prog 33 #[.agg (vals xs).toArray] w fun e w' => e = .returned (.bool (xs == z64b)) ∧ Below w.heap.size w w' := by
 have hq := eq64 hx (by rfl : z64b.length = 64) bx z64_bytes
 rw [show (vals z64b).toArray = #[.int .u8 0,.int .u8 0,.int .u8 0,.int .u8 0,.int .u8 0,.int .u8 0,.int .u8 0,.int .u8 0,.int .u8 0,.int .u8 0,.int .u8 0,.int .u8 0,.int .u8 0,.int .u8 0,.int .u8 0,.int .u8 0,.int .u8 0,.int .u8 0,.int .u8 0,.int .u8 0,.int .u8 0,.int .u8 0,.int .u8 0,.int .u8 0,.int .u8 0,.int .u8 0,.int .u8 0,.int .u8 0,.int .u8 0,.int .u8 0,.int .u8 0,.int .u8 0,.int .u8 0,.int .u8 0,.int .u8 0,.int .u8 0,.int .u8 0,.int .u8 0,.int .u8 0,.int .u8 0,.int .u8 0,.int .u8 0,.int .u8 0,.int .u8 0,.int .u8 0,.int .u8 0,.int .u8 0,.int .u8 0,.int .u8 0,.int .u8 0,.int .u8 0,.int .u8 0,.int .u8 0,.int .u8 0,.int .u8 0,.int .u8 0,.int .u8 0,.int .u8 0,.int .u8 0,.int .u8 0,.int .u8 0,.int .u8 0,.int .u8 0,.int .u8 0] from rfl] at hq
 have FB : Byt (w.alloc (.cells (vals xs).toArray 51)) w.heap.size 51 xs := blk_new w _
 have HB := below_alloc (Below.refl w.heap.size w) (.cells (vals xs).toArray 51)
 go_enter Tryd.func33,Tryd.ntmps33
 go_wp2_with (first
  |((with_reducible refine gate_dst (N := 3) rfl ?_)
    refine wpList_load_row rfl 51 (.tmp 1) rfl w.heap.size rfl 51 (vals xs).toArray (0,0) _ FB Tryd.underlying51 rfl (infoSec hx) ?_
    generalize w.alloc (.cells (vals xs).toArray 51) = W1 at FB HB ⊢))
 go_ret
 exact ⟨rfl,HB⟩
theorem getn_take (l : List Int) (n i : Nat) (h : i ≤ n) : getn (l.take n) i = getn l i := by
 induction i with
 |zero => rfl
 |succ i ih =>
  unfold getn
  rw [ih (by omega)]
  congr 3
  unfold rd
  rw [List.getD_eq_getElem?_getD,List.getD_eq_getElem?_getD,List.getElem?_take_of_lt (by omega)]
theorem wf_of {xs : List Int} (h : Bytes xs) : ∀ x ∈ xs,(Lit.int .u8 x).wf = true := fun x hx => by
 have := h x hx
 simp [Lit.wf,IntKind.min,IntKind.max,IntKind.signed,IntKind.bits]
 omega
set_option maxRecDepth 100000 in
set_option maxHeartbeats 2000000 in
theorem read_calls (xs : List Int) (hx : xs.length = 64) (bx : Bytes xs) (w : World) :
  Calls Tryd.prog 67 #[.agg (vals xs).toArray] w fun e w' => ∃ v,e = .returned (.tuple #[.int .u64 ((getn xs 8 : Nat) : Int),.int .i64 ((getn (xs.drop 8) 4 : Nat) : Int),v]) ∧ Kd.R (Kd.int .u8) 5 w' w.heap.size (fun _ => True) v (xs.drop 12) ∧ Below w.heap.size w w' := by
 obtain ⟨k,hk⟩ : ∃ k : Nat,8 < k := ⟨9,by decide⟩
 have gA : ∀ W' : World,Byt W' w.heap.size 51 xs → Calls Tryd.prog 69 #[.slice (some ⟨w.heap.size,0,none⟩) 8 64] W' fun e w2 => e = .returned (.int .u64 ((getn xs 8 : Nat) : Int)) ∧ Below W'.heap.size W' w2 := by
  intro W' h
  have hC := h.C 0 8 (by omega) (by decide)
  have hl : ((xs.drop 0).take 8).length = 8 := by rw [List.length_take,List.length_drop];omega
  have hg := get_eq (l := (xs.drop 0).take 8) (fun x hx => wf_of bx x (List.mem_of_mem_drop (List.mem_of_mem_take hx))) k hk
  rw [hl,show min 8 8 = 8 from rfl,getn_take _ _ _ (Nat.le_refl 8),List.drop_zero] at hg
  rw [List.drop_zero] at hC hl
  have := word_Get.calls k (some ⟨w.heap.size,0,none⟩) 64 (xs.take 8) _ W' (by rw [hl];exact hC) (by rw [hl];decide) hg
  rwa [hl] at this
 have gB : ∀ W' : World,Byt W' w.heap.size 51 xs → Calls Tryd.prog 69 #[.slice (some ⟨w.heap.size,8,none⟩) 4 56] W' fun e w2 => e = .returned (.int .u64 ((getn (xs.drop 8) 4 : Nat) : Int)) ∧ Below W'.heap.size W' w2 := by
  intro W' h
  have hC := h.C 8 4 (by omega) (by decide)
  have hl : ((xs.drop 8).take 4).length = 4 := by rw [List.length_take,List.length_drop];omega
  have hg := get_eq (l := (xs.drop 8).take 4) (fun x hx => wf_of bx x (List.mem_of_mem_drop (List.mem_of_mem_take hx))) k hk
  rw [hl,show min 4 8 = 4 from rfl,getn_take _ _ _ (Nat.le_refl 4)] at hg
  have := word_Get.calls k (some ⟨w.heap.size,8,none⟩) 56 ((xs.drop 8).take 4) _ W' (by rw [hl];exact hC) (by rw [hl];decide) hg
  rwa [hl] at this
 have hlt : getn (xs.drop 8) 4 < 4294967296 := getn_lt (l := xs.drop 8) (fun x hx => wf_of bx x (List.mem_of_mem_drop hx)) 4
 generalize getn xs 8 = n8 at gA ⊢
 generalize getn (xs.drop 8) 4 = n4 at gB hlt ⊢
 have hw4 : wrap64 (n4 : Int) = n4 := by unfold wrap64;omega
 have FB0 := Aside0.mk (show Byt (w.alloc (.cells (vals xs).toArray 51)) w.heap.size 51 xs from blk_new w _)
 have HB0 := Aside0.mk (below_alloc (Below.refl w.heap.size w) (.cells (vals xs).toArray 51))
 have hd : (xs.drop 12).length = 52 := by rw [List.length_drop];omega
 have hdt : (xs.drop 12).take 52 = xs.drop 12 := List.take_of_length_le (by omega)
 go_enter Tryd.func67,Tryd.ntmps67
 go_wp2_with (first
  |((with_reducible refine gate_dst (N := 6) rfl ?_)
    generalize w.alloc (.cells (vals xs).toArray 51) = W1 at FB0 HB0 ⊢
    refine Kd.R_make (Kd.int .u8) (w0 := w) w.heap.size 5 rfl rfl 38 (.const (.int .i64 52)) (.const (.int .i64 52)) rfl 52 rfl rfl Tryd.underlying38 (.int .u8 0) 1 info5 rfl (by decide) (by decide) 0 (ok := fun _ => True) (okp := fun _ => True) rfl (fun _ h => h) trivial (by decide) (by decide) HB0.out HB0.out.size ?_
    intro v1 W2 ho hb hg hat
    have FB1 := Aside0.mk (show Byt W2 w.heap.size 51 xs from blk_grown FB0.out hg (by simp))
    have HO1 := Aside0.mk ho
    have HB1 := Aside0.mk hb
    clear ho hb hg hat FB0 HB0)
  |((with_reducible refine gate_builtin (b := .copy) (xs := #[.tmp 7,.tmp 8]) rfl ?_)
    refine Kd.R_copy (0 : Int) (w0 := w) w.heap.size rfl (.tmp 7) (.tmp 8) 38 38 5 rfl Tryd.underlying38 (by kernel_rfl) v1 (List.replicate (52 : Int).toNat 0) (xs.drop 12) (some ⟨w.heap.size,12,none⟩) 52 52 (fun _ => True) rfl rfl HO1.out (by have := FB1.out.C 12 52 (by omega) (by decide);rwa [hdt] at this) HB1.out HB1.out.size ?_
    intro W3 ho hb hg
    have FB2 := Aside0.mk (show Byt W3 w.heap.size 51 xs from blk_grown FB1.out hg (Kd.R_ne HO1.out FB1.out (by decide)))
    rw [show min 52 (List.replicate (52 : Int).toNat (0 : Int)).length = 52 from rfl,hdt,show (List.replicate (52 : Int).toNat (0 : Int)).drop 52 = [] from rfl,List.append_nil] at ho
    have HO2 := Aside0.mk ho
    have HB2 := Aside0.mk hb
    clear ho hb hg FB1 HO1 HB1))
 refine start_ (n := 9) (S := fun _ => True) (ds := []) #[f_,f_,f_,f_,f_,f_,f_,f_,f_] (by kernel_rfl) rfl rfl trivial (fun hHeld => ?_)
 have FB3 := FB2.out.below (below_drew1 (Below.refl _ _))
 have HO3 := Kd.R_drew HO2.out
 have HB3 := below_drew1 HB2.out
 clear FB2 HO2 HB2
 generalize W3.drew = W4 at FB3 HO3 HB3 hHeld ⊢
 refine pure_ (i := 0) (N := some 10) (v := ?_) (a' := ?_) #[t_,f_,f_,f_,f_,f_,f_,f_,f_] rfl rfl (by kernel_rfl) (fun _ _ _ h => h) (Or.inl ⟨by rfl,?_⟩) ?_ ?_
 rotate_left
 ·intro w'
  go_simp
  with_reducible rfl
 rotate_left
 ·simp only [ps_]
  rfl
 refine pure_ (i := 2) (N := some 12) (v := ?_) (a' := ?_) #[t_,f_,t_,f_,f_,f_,f_,f_,f_] rfl rfl (by kernel_rfl) (fun _ _ _ h => h) (Or.inl ⟨by rfl,?_⟩) ?_ ?_
 rotate_left
 ·intro w'
  go_simp
  with_reducible rfl
 rotate_left
 ·simp only [ps_]
  rfl
 refine pure_ (i := 5) (N := some 15) (v := ?_) (a' := ?_) #[t_,f_,t_,f_,f_,t_,f_,f_,f_] rfl rfl (by kernel_rfl) (fun _ _ _ h => h) (Or.inl ⟨by rfl,?_⟩) ?_ ?_
 rotate_left
 ·intro w'
  go_simp
  with_reducible rfl
 rotate_left
 ·simp only [ps_]
  rfl
 refine one_ (i := 1) (N := some 11) #[t_,t_,t_,f_,f_,t_,f_,f_,f_] rfl rfl (by kernel_rfl) (by decide) (fun K hK => ?_)
 refine goes_ Tryd.func69 (by kernel_rfl) rfl #[.slice (some ⟨w.heap.size,0,none⟩) 8 64] (by rfl) rfl rfl (by (try simp only [List.map_toArray,List.map_cons,List.map_nil]);first|done|rfl) ?_
 refine (gA W4 FB3).mono ?_
 rintro en W5 ⟨rfl,hb⟩
 refine ⟨_,rfl,?_⟩
 replace FB3 := FB3.below hb
 replace HO3 := Kd.R_below HO3 hb
 replace HB3 := below_step HB3 hb
 clear hb
 refine hK.out _ _ trivial (fun hHeld => ?_)
 clear hK K
 refine norm_ (a' := ?_) ?_ ?_
 rotate_left
 ·show Act.put _ (some 11) _ = _
  simp only [ps_]
  rfl
 refine one_ (i := 3) (N := some 13) #[t_,t_,t_,t_,f_,t_,f_,f_,f_] rfl rfl (by kernel_rfl) (by decide) (fun K hK => ?_)
 refine goes_ Tryd.func69 (by kernel_rfl) rfl #[.slice (some ⟨w.heap.size,8,none⟩) 4 56] (by rfl) rfl rfl (by (try simp only [List.map_toArray,List.map_cons,List.map_nil]);first|done|rfl) ?_
 refine (gB W5 FB3).mono ?_
 rintro en W6 ⟨rfl,hb⟩
 refine ⟨_,rfl,?_⟩
 replace FB3 := FB3.below hb
 replace HO3 := Kd.R_below HO3 hb
 replace HB3 := below_step HB3 hb
 clear hb
 refine hK.out _ _ trivial (fun hHeld => ?_)
 clear hK K
 refine norm_ (a' := ?_) ?_ ?_
 rotate_left
 ·show Act.put _ (some 13) _ = _
  simp only [ps_]
  rfl
 refine pure_ (i := 4) (N := some 14) (v := ?_) (a' := ?_) #[t_,t_,t_,t_,t_,t_,f_,f_,f_] rfl rfl (by kernel_rfl) (fun _ _ _ h => h) (Or.inl ⟨by rfl,?_⟩) ?_ ?_
 rotate_left
 ·intro w'
  go_simp
  with_reducible rfl
 rotate_left
 ·simp only [ps_]
  rfl
 refine pure_ (i := 6) (N := some 2) (v := ?_) (a' := ?_) #[t_,t_,t_,t_,t_,t_,t_,f_,f_] rfl rfl (by kernel_rfl) (fun _ _ _ h => h) (Or.inl ⟨by rfl,?_⟩) ?_ ?_
 rotate_left
 ·intro w'
  go_simp
  with_reducible rfl
 rotate_left
 ·simp only [ps_]
  rfl
 refine pure_ (i := 7) (N := some 3) (v := ?_) (a' := ?_) #[t_,t_,t_,t_,t_,t_,t_,t_,f_] rfl rfl (by kernel_rfl) (fun _ _ _ h => h) (Or.inl ⟨by rfl,?_⟩) ?_ ?_
 rotate_left
 ·intro w'
  go_simp
  with_reducible rfl
 rotate_left
 ·simp only [ps_]
  rfl
 refine pure_ (i := 8) (N := some 4) (v := ?_) (a' := ?_) #[t_,t_,t_,t_,t_,t_,t_,t_,t_] rfl rfl (by kernel_rfl) (fun _ _ _ h => h) (Or.inl ⟨by rfl,?_⟩) ?_ ?_
 rotate_left
 ·intro w'
  go_simp
  with_reducible rfl
 rotate_left
 ·simp only [ps_]
  rfl
 refine done_ (by kernel_rfl) ?_
 clear hHeld
 go_wp2
 go_ret3
 exact ⟨_,rfl,HO3,HB3⟩
-- end of read
def openF (xs : List Int) (e i : Int) : Bool := ((getn xs 8 : Nat) : Int) == e && ((getn (xs.drop 8) 4 : Nat) : Int) == i % 4294967296
set_option maxRecDepth 100000 in
set_option maxHeartbeats 2000000 in
theorem open_calls (xs : List Int) (hx : xs.length = 64) (bx : Bytes xs) (e i : Int) (w : World) :
  Calls Tryd.prog 46 #[.agg (vals xs).toArray,.int .u64 e,.int .i64 i] w fun en w' => ∃ v,en = .returned (.tuple #[v,.bool (openF xs e i)]) ∧ Kd.R (Kd.int .u8) 5 w' w.heap.size (fun _ => True) v (if openF xs e i = true then xs.drop 12 else []) ∧ Below w.heap.size w w' := by
 have FB0 := Aside0.mk (show Byt (w.alloc (.cells (vals xs).toArray 51)) w.heap.size 51 xs from blk_new w _)
 have HB0 := Aside0.mk (below_alloc (Below.refl w.heap.size w) (.cells (vals xs).toArray 51))
 have RC := fun W => read_calls xs hx bx W
 have hF : openF xs e i = (((getn xs 8 : Nat) : Int) == e && ((getn (xs.drop 8) 4 : Nat) : Int) == i % 4294967296) := rfl
 generalize openF xs e i = o at hF ⊢
 generalize getn xs 8 = n8 at RC hF
 generalize getn (xs.drop 8) 4 = n4 at RC hF
 have hm0 : 0 ≤ i % 4294967296 := by omega
 have hm1 : i % 4294967296 < 4294967296 := by omega
 have hw : wrap64 (i % 4294967296) = i % 4294967296 := by unfold wrap64;omega
 cases h8 : ((n8 : Int) == e) with
 |false =>
  have h8' : ((n8 : Int) != e) = true := by rw [bne,h8];rfl
  rw [h8] at hF
  have ho : o = false := by rw [hF];rfl
  clear hF
  subst ho
  rw [if_neg (by decide)]
  go_enter Tryd.func46,Tryd.ntmps46
  go_wp2_with (first
   |((with_reducible refine gate_dst (N := 12) rfl ?_)
     generalize w.alloc (.cells (vals xs).toArray 51) = W1 at FB0 HB0 ⊢
     refine wpList_load_row rfl 51 (.tmp 3) rfl w.heap.size rfl 51 (vals xs).toArray (0,0) _ FB0.out Tryd.underlying51 rfl (infoSec hx) ?_))
  refine (RC _).mono ?_
  rintro en w2 ⟨v,rfl,hR,hb⟩
  have HB2 := Aside0.mk (HB0.out.trans (hb.mono HB0.out.size))
  clear hR hb RC FB0 HB0
  go_wp2_with fail
  go_ret2
  exact ⟨_,rfl,Kd.R_nil _ _ _ _ _,HB2.out⟩
 |true =>
  have h8' : ((n8 : Int) != e) = false := by rw [bne,h8];rfl
  rw [h8,Bool.true_and] at hF
  cases h4 : ((n4 : Int) == i % 4294967296) with
  |false =>
   have h4' : ((n4 : Int) != i % 4294967296) = true := by rw [bne,h4];rfl
   rw [h4] at hF
   subst hF
   rw [if_neg (by decide)]
   go_enter Tryd.func46,Tryd.ntmps46
   go_wp2_with (first
    |((with_reducible refine gate_dst (N := 12) rfl ?_)
      generalize w.alloc (.cells (vals xs).toArray 51) = W1 at FB0 HB0 ⊢
      refine wpList_load_row rfl 51 (.tmp 3) rfl w.heap.size rfl 51 (vals xs).toArray (0,0) _ FB0.out Tryd.underlying51 rfl (infoSec hx) ?_))
   refine (RC _).mono ?_
   rintro en w2 ⟨v,rfl,hR,hb⟩
   have HB2 := Aside0.mk (HB0.out.trans (hb.mono HB0.out.size))
   clear hR hb RC FB0 HB0
   go_wp2_with fail
   go_ret2
   exact ⟨_,rfl,Kd.R_nil _ _ _ _ _,HB2.out⟩
  |true =>
   have h4' : ((n4 : Int) != i % 4294967296) = false := by rw [bne,h4];rfl
   rw [h4] at hF
   subst hF
   rw [if_pos rfl]
   go_enter Tryd.func46,Tryd.ntmps46
   go_wp2_with (first
    |((with_reducible refine gate_dst (N := 12) rfl ?_)
      generalize w.alloc (.cells (vals xs).toArray 51) = W1 at FB0 HB0 ⊢
      refine wpList_load_row rfl 51 (.tmp 3) rfl w.heap.size rfl 51 (vals xs).toArray (0,0) _ FB0.out Tryd.underlying51 rfl (infoSec hx) ?_))
   refine (RC _).mono ?_
   rintro en w2 ⟨v,rfl,hR,hb⟩
   have HB2 := Aside0.mk (HB0.out.trans (hb.mono HB0.out.size))
   have HR2 := Aside0.mk (Kd.R_lower hR HB0.out.size)
   clear hR hb RC FB0 HB0
   go_wp2_with fail
   go_ret2
   exact ⟨_,rfl,HR2.out,HB2.out⟩
end Go.Proofs.YtaekpfhgdnfciaaDoor.F
end

section
/- stamp: the contracts once more, over lists of numbers; what a sealed sector opens by. -/
namespace Go.Proofs.YtaekpfhgdnfciaaDoor.O
open Go.RowKit Go.Proofs.YtaekpfhgdnfciaaDoorW.PrintWords Go.Proofs.YtaekpfhgdnfciaaDoorW.PrintLast Go.Proofs.YtaekpfhgdnfciaaDoorW.PrintMore Go.Proofs.YtaekpfhgdnfciaaDoor.F Go.Proofs.YtaekpfhgdnfciaaDoor.F.Nums Go.Proofs.YtaekpfhgdnfciaaDoor.Plain
set_option linter.unusedVariables false
set_option linter.unusedSimpArgs false
theorem seal_drop (e i : Int) (room : List Int) : (sealF e i room).drop 12 = room.take 52 ++ zs (52 - room.length) := by
 rw [sealF_eq,← List.append_assoc,List.drop_left' (by rw [List.length_append,putl_len,putl_len])]
theorem seal_e (e i : Int) (room : List Int) (h0 : 0 ≤ e) (h1 : e ≤ 18446744073709551615) : ((getn (sealF e i room) 8 : Nat) : Int) = e := by
 rw [sealF_eq,getn_append _ _ _ (by rw [putl_len];decide),getn_putl]
 rw [show (256 : Nat) ^ 8 = 18446744073709551616 by decide]
 omega
theorem seal_i (e i : Int) (room : List Int) : ((getn ((sealF e i room).drop 8) 4 : Nat) : Int) = i % 4294967296 := by
 rw [sealF_eq,List.drop_left' (putl_len _ _),getn_append _ _ _ (by rw [putl_len];decide),getn_putl,IntKind.wrap_u64]
 rw [show (256 : Nat) ^ 4 = 4294967296 by decide]
 omega
theorem open_seal (e i : Int) (room : List Int) (h0 : 0 ≤ e) (h1 : e ≤ 18446744073709551615) (e' i' : Int) : openF (sealF e i room) e' i' = (e == e' && i % 4294967296 == i' % 4294967296) := by
 unfold openF
 rw [seal_e e i room h0 h1,seal_i]
end Go.Proofs.YtaekpfhgdnfciaaDoor.O
end

section
/- stamp's Room, Empty, Read, Open as calls. -/
namespace Go.Proofs.YtaekpfhgdnfciaaDoor.O
open Go.RowKit Go.Proofs.YtaekpfhgdnfciaaDoorW.PrintWords Go.Proofs.YtaekpfhgdnfciaaDoorW.PrintLast Go.Proofs.YtaekpfhgdnfciaaDoorW.PrintMore Go.Proofs.YtaekpfhgdnfciaaDoor.F Go.Proofs.YtaekpfhgdnfciaaDoor.F.Nums Go.Proofs.YtaekpfhgdnfciaaDoor.Plain
set_option linter.unusedVariables false
set_option linter.unusedSimpArgs false
theorem empty_c (xs : List Int) (hx : xs.length = 64) (bx : Bytes xs) (w : World) :
  Calls Tryd.prog 33 #[.agg (nums .u8 xs).toArray] w fun e w' => e = .returned (.bool (xs == zs 64)) ∧ Below w.heap.size w w' := empty_calls xs hx bx w
def openL (xs : List Int) (e i : Int) : List Int := if openF xs e i = true then xs.drop 12 else []
theorem open_c (xs : List Int) (hx : xs.length = 64) (bx : Bytes xs) (e i : Int) (w : World) :
  Calls Tryd.prog 46 #[.agg (nums .u8 xs).toArray,.int .u64 e,.int .i64 i] w fun en w' => ∃ v,en = .returned (.tuple #[v,.bool (openF xs e i)]) ∧ Kd.R (Kd.int .u8) 5 w' w.heap.size (fun _ => True) v (openL xs e i) ∧ Below w.heap.size w w' := open_calls xs hx bx e i w
end Go.Proofs.YtaekpfhgdnfciaaDoor.O
end

section
/- Functions of plan: what each answers, as a Lean function, and that the call answers just this. Turned out of what the kit's print told for this seat. -/
namespace Go.Proofs.YtaekpfhgdnfciaaDoor.F
open Go.RowKit Go.Proofs.YtaekpfhgdnfciaaDoorW.PrintWords Go.Proofs.YtaekpfhgdnfciaaDoorW.PrintLast Go.Proofs.YtaekpfhgdnfciaaDoorW.PrintMore
attribute [local go_sem high] eqA83
attribute [local go_sem] field83_0
attribute [local go_sem] field83_1
attribute [local go_sem] max2_int min2_int max_two min_two max_three min_three max_four min_four
set_option linter.unusedVariables false
set_option linter.unusedSimpArgs false
/-! ### plan_Covered: function 48 -/
def plan_Covered.l0 : Nat → List Bool → Int → Int → Option (Bool)
 |0,_,_,_ => none
 |k + 1,x0,x8,x9 => if x9 < x8 then (if x9 ≥ (x0.length : Int) then (some false) else (if 0 ≤ x9 then (if x9 < (x0.length : Int) then (if rdOf false x0 x9 = true then (plan_Covered.l0 k x0 x8 (wrap64 (x9 + 1))) else (some false)) else (none)) else (none))) else (some true)
def plan_Covered.f (k : Nat) (l0 : List Bool) (a1 : Int) (a2 : Int) : Option (Bool) := (span_Touch.f a1 a2).bind fun bt109 => (plan_Covered.l0 k l0 bt109.2 bt109.1)
set_option maxHeartbeats 8000000 in
set_option maxRecDepth 100000 in
theorem plan_Covered.calls (k : Nat) (A0 : Option Addr) (c0 : Nat) (l0 : List Bool) (a1 : Int) (a2 : Int) (r : Bool) (w : World) (hr0 : Kd.C Kd.bool w A0 l0.length l0) (hc0 : l0.length ≤ c0) (h : plan_Covered.f k l0 a1 a2 = some r) :
  Calls Tryd.prog 48 #[.slice A0 l0.length c0,.int .i64 a1,.int .i64 a2] w fun e w' => e = .returned (.bool r) ∧ Below w.heap.size w w' := by
 have hu73 := Tryd.underlying73
 have hu76 := Tryd.underlying76
 have hu83 := Tryd.underlying83
 have hu94 := Tryd.underlying94
 have hu106 := Tryd.underlying106
 have HR0 := Aside0.mk hr0
 have HC0 := Aside0.mk hc0
 clear hr0 hc0
 have HB := Aside0.mk (Below.refl w.heap.size w)
 have H : ((span_Touch.f a1 a2).bind fun bt109 => (plan_Covered.l0 k l0 bt109.2 bt109.1)) = some r := h
 clear h
 replace H := Option.bind_eq_some_iff.mp H
 obtain ⟨⟨t109,t110⟩,A40,H⟩ := H
 replace H : (plan_Covered.l0 k l0 t110 t109) = some r := H
 have A4 := Aside0.mk A40
 clear A40
 have H' := Aside0.mk H
 clear H
 go_enter Tryd.func48,Tryd.ntmps48
 go_wp2_with (first|((with_reducible refine gate_callee (f := 68) rfl ?_);refine goesL_ (some 13) rfl rfl Tryd.func68 (by kernel_rfl) rfl #[.int .i64 a1,.int .i64 a2] rfl (by (try simp only [List.map_toArray,List.map_cons,List.map_nil]);first|done|rfl|(simp only [List.length_drop,List.length_take];rfl)) ?_;(with_reducible refine (span_Touch.calls a1 a2 t109 t110 _ A4.out).mono ?_);rintro e w5 ⟨rfl,hb⟩;refine ⟨_,rfl,?_⟩;have n0_ := Aside0.mk (below_step (by repeat (first|(with_reducible first|exact HB.out|apply below_alloc|apply pw_below_drewN|apply below_drew1)|exact HB.out)) hb);clear HB;have HB := n0_;clear n0_;(try clear hb);(try clear hb2);(try clear hk);(try clear hi)))
 go_loopg [9] k (fun kq v9 w' => ∃ (x9_1 : Int),v9 = .int .i64 x9_1 ∧ Aside0 (plan_Covered.l0 kq l0 t110 x9_1 = some r) ∧ Aside0 (kq ≤ k) ∧ Aside0 (Below w.heap.size w w'))
 case atStart => exact ⟨(t109),(by first|rfl|(simp;done)|(simp [*];done)),H',⟨Nat.le_refl _⟩,⟨by repeat (first|(with_reducible first|exact HB.out|apply below_alloc|apply pw_below_drewN|apply below_drew1)|exact HB.out)⟩⟩
 case round =>
  clear H'
  try clear p2
  try clear c4
  obtain ⟨x9_1,rfl,HA,HK1,HB⟩ := hrel
  cases gk with
  |zero => exact absurd HA.out (by simp [plan_Covered.l0])
  |succ k1 =>
   have H := HA.out
   clear HA
   simp only [plan_Covered.l0] at H
   by_cases c6 : x9_1 < t110
   ·rw [if_pos c6] at H
    have c6b0 : decide (x9_1 < t110) = true := decide_eq_true c6
    clear c6
    by_cases c7 : x9_1 ≥ (l0.length : Int)
    ·rw [if_pos c7] at H
     have c7b0 : decide ((l0.length : Int) ≤ x9_1) = true := decide_eq_true c7
     clear c7
     obtain rfl := Option.some.inj H
     go_wp2
     go_ret
     exact ⟨by first|rfl|(simp [errW_none,errW_some] <;> rfl)|(simp [*,errW_none,errW_some] <;> rfl),by repeat (first|(with_reducible first|exact HB.out|apply below_alloc|apply pw_below_drewN|apply below_drew1)|exact HB.out)⟩
    ·rw [if_neg c7] at H
     have c7b0 : decide ((l0.length : Int) ≤ x9_1) = false := decide_eq_false c7
     clear c7
     by_cases c8 : 0 ≤ x9_1
     ·rw [if_pos c8] at H
      have c8b0 : decide (0 ≤ x9_1) = true := decide_eq_true c8
      clear c8
      by_cases c9 : x9_1 < (l0.length : Int)
      ·rw [if_pos c9] at H
       have c9b0 : decide (x9_1 < (l0.length : Int)) = true := decide_eq_true c9
       clear c9
       obtain ⟨bq10,hbq10⟩ : ∃ b_ : Bool,b_ = (rdOf false l0 x9_1) := ⟨_,rfl⟩
       replace H : (if bq10 = true then (plan_Covered.l0 k1 l0 t110 (wrap64 (x9_1 + 1))) else (some false)) = some r := by rw [← hbq10] at H;exact H
       have Nbq10 := Aside0.mk hbq10
       clear hbq10
       by_cases c11 : bq10 = true
       ·subst c11
        have H1 : (plan_Covered.l0 k1 l0 t110 (wrap64 (x9_1 + 1))) = some r := by rw [if_pos rfl] at H;exact H
        clear H
        have H := H1
        clear H1
        have H' := Aside0.mk H
        clear H
        have p111 : 0 ≤ (x9_1 : Int) := of_decide_eq_true (by first|(with_reducible assumption)|assumption)
        have q111 : x9_1 < (l0.length : Int) := of_decide_eq_true (by first|(with_reducible assumption)|assumption)
        obtain ⟨ad111,e111,hx111_0⟩ := Kd.at_bool HR0.out x9_1 p111 q111
        (try rw [← Nbq10.out] at hx111_0)
        cases e111
        replace hx111_0 := (HB.out.cell (World.block_lt_of_cell? w _ hx111_0)).trans hx111_0
        replace p111 := eq_true p111
        replace q111 := eq_true q111
        go_wp2
        go_roundg k1
        case measure => have := HK1.out;omega
        case rel => exact ⟨(wrap64 (x9_1 + 1)),(by first|rfl|(simp;done)|(simp [*];done)),H',⟨by have := HK1.out;omega⟩,⟨by repeat (first|(with_reducible first|exact HB.out|apply below_alloc|apply pw_below_drewN|apply below_drew1)|exact HB.out)⟩⟩
       ·replace c11 := Bool.eq_false_iff.mpr c11
        subst c11
        have H1 : (some false) = some r := by rw [if_neg (show ¬ (false = true) by decide)] at H;exact H
        clear H
        have H := H1
        clear H1
        obtain rfl := Option.some.inj H
        have p111 : 0 ≤ (x9_1 : Int) := of_decide_eq_true (by first|(with_reducible assumption)|assumption)
        have q111 : x9_1 < (l0.length : Int) := of_decide_eq_true (by first|(with_reducible assumption)|assumption)
        obtain ⟨ad111,e111,hx111_0⟩ := Kd.at_bool HR0.out x9_1 p111 q111
        (try rw [← Nbq10.out] at hx111_0)
        cases e111
        replace hx111_0 := (HB.out.cell (World.block_lt_of_cell? w _ hx111_0)).trans hx111_0
        replace p111 := eq_true p111
        replace q111 := eq_true q111
        go_wp2
        go_ret
        exact ⟨by first|rfl|(simp [errW_none,errW_some] <;> rfl)|(simp [*,errW_none,errW_some] <;> rfl),by repeat (first|(with_reducible first|exact HB.out|apply below_alloc|apply pw_below_drewN|apply below_drew1)|exact HB.out)⟩
      ·rw [if_neg c9] at H
       exact absurd H (by simp)
     ·rw [if_neg c8] at H
      exact absurd H (by simp)
   ·rw [if_neg c6] at H
    have c6b0 : decide (x9_1 < t110) = false := decide_eq_false c6
    clear c6
    obtain rfl := Option.some.inj H
    go_wp2
    go_ret
    exact ⟨by first|rfl|(simp [errW_none,errW_some] <;> rfl)|(simp [*,errW_none,errW_some] <;> rfl),by repeat (first|(with_reducible first|exact HB.out|apply below_alloc|apply pw_below_drewN|apply below_drew1)|exact HB.out)⟩
end Go.Proofs.YtaekpfhgdnfciaaDoor.F
end

section
/- Functions of strandlineref16: what each answers, as a Lean function, and that the call answers just this. Turned out of what the kit's print told for this seat. -/
namespace Go.Proofs.YtaekpfhgdnfciaaDoor.F
open Go.RowKit Go.Proofs.YtaekpfhgdnfciaaDoorW.PrintWords Go.Proofs.YtaekpfhgdnfciaaDoorW.PrintLast Go.Proofs.YtaekpfhgdnfciaaDoorW.PrintMore
attribute [local go_sem high] eqA83
attribute [local go_sem] field83_0
attribute [local go_sem] field83_1
attribute [local go_sem] max2_int min2_int max_two min_two max_three min_three max_four min_four
set_option linter.unusedVariables false
set_option linter.unusedSimpArgs false
/-! ### strandlineref16_Covered: function 55 -/
end Go.Proofs.YtaekpfhgdnfciaaDoor.F
end

section
/- plan by hand: Flat, Covered, and the reference's. -/
namespace Go.Proofs.YtaekpfhgdnfciaaDoor.O
open Go.RowKit Go.Proofs.YtaekpfhgdnfciaaDoorW.PrintWords Go.Proofs.YtaekpfhgdnfciaaDoorW.PrintLast Go.Proofs.YtaekpfhgdnfciaaDoorW.PrintMore Go.Proofs.YtaekpfhgdnfciaaDoor.F Go.Proofs.YtaekpfhgdnfciaaDoor.F.Nums Go.Proofs.YtaekpfhgdnfciaaDoor.Plain
attribute [local go_sem] max2_int min2_int max_two min_two max_three min_three max_four min_four
set_option linter.unusedVariables false
set_option linter.unusedSimpArgs false
/-- what a call owns behind another one's end is owned with what was owned ahead of it -/
theorem Own.addOwn {w0 W W' : World} {F : Nat → Option Obj} {L L' : List Res} (H : Own w0 F L W) (K : Own W F0 L' W') : Own w0 F (L' ++ L) W' := by
 have H' := H.to K.below
 refine ⟨H'.below,H'.holds,?_,?_,?_⟩
 ·intro r hr
  rcases List.mem_append.1 hr with hr|hr
  ·have h := K.ats r hr
   cases r with
   |blk g t c => exact ⟨Nat.le_trans H.size h.1,h.2⟩
   |row v e sz n xs => exact own_weaken h H.size
  ·exact H'.ats r hr
 ·intro r hr k hk
  rcases List.mem_append.1 hr with hr|hr
  ·cases hF : F k with
   |none => rfl
   |some o =>
    have h1 := obj_lt (H.holds k o hF)
    have h2 := (K.ats r hr).base hk
    omega
  ·exact H'.apart r hr k hk
 ·rw [List.pairwise_append]
  refine ⟨K.sep,H.sep,fun x hx y hy k h1 h2 => ?_⟩
  have h3 := (K.ats x hx).base h1
  have h4 := (H.ats y hy).lt h2
  omega
theorem Rd.Cb {w : World} {A : Option Addr} {xs : List Bool} {n : Nat} (h : Rd w A (bools xs)) (hn : xs.length = n) (hm : n ≤ 9223372036854775807) : Kd.bool.C w A n xs := by
 have hbl : (bools xs).length = xs.length := by simp [bools]
 refine ⟨hn,hm,fun hp => ?_⟩
 obtain ⟨ad,rfl,hc⟩ := h (by rw [hbl];omega)
 refine ⟨ad,rfl,fun j p hj => ⟨[.bool p],rfl,rfl,fun i u hu => ?_⟩⟩
 have hi0 : i = 0 := by have := (List.getElem?_eq_some_iff.1 hu).1;simpa using this
 subst hi0
 simp at hu
 subst hu
 rw [show Kd.bool.sz = 1 from rfl,Nat.mul_one,Nat.add_zero]
 refine hc j _ ?_
 rw [bools,List.getElem?_map,hj]
 rfl
theorem bools_len (xs : List Bool) : (bools xs).length = xs.length := by simp [bools]
/-! ### Covered -/
def covN (l : List Bool) : Nat → Nat → Bool
 |_,0 => true
 |a,d + 1 => decide (a < l.length) && l.getD a false && covN l (a + 1) d
theorem cov_l (l : List Bool) (b : Nat) (hb : b ≤ 16) : ∀ (d a k : Nat),a + d = b → d < k → plan_Covered.l0 k l b a = some (covN l a d) := by
 intro d
 induction d with
 |zero =>
  intro a k h hk
  obtain ⟨k,rfl⟩ : ∃ m,k = m + 1 := ⟨k - 1,by omega⟩
  simp only [plan_Covered.l0]
  rw [if_neg (by omega)]
  rfl
 |succ d ih =>
  intro a k h hk
  obtain ⟨k,rfl⟩ : ∃ m,k = m + 1 := ⟨k - 1,by omega⟩
  simp only [plan_Covered.l0]
  rw [if_pos (by omega)]
  unfold covN
  by_cases h2 : a < l.length
  ·rw [if_neg (by omega),if_pos (by omega),if_pos (by omega),show rdOf false l (a : Int) = l.getD a false by unfold rdOf;rw [Int.toNat_natCast],w64 (by omega) (by omega)]
   rw [decide_eq_true h2,Bool.true_and]
   cases hq : l.getD a false with
   |true => rw [if_pos rfl,Bool.true_and];exact ih (a + 1) k (by omega) (by omega)
   |false => simp
  ·rw [if_pos (by omega),decide_eq_false h2]
   rfl
theorem cov_c (l : List Bool) (f t : Int) (a b : Nat) (ht : tch (cl f) (cl t) = ((a : Int),(b : Int))) (hab : a ≤ b) (hb : b ≤ 16) (A : Option Addr) (c : Nat) (w : World) (hr : Rd w A (bools l)) (hc : l.length ≤ c) (hl : l.length ≤ 9223372036854775807) :
  Calls Tryd.prog 48 #[.slice A l.length c,.int .i64 f,.int .i64 t] w fun e w' => e = .returned (.bool (covN l a (b - a))) ∧ Below w.heap.size w w' :=
 plan_Covered.calls 17 A c l f t _ w (hr.Cb rfl hl) hc (by unfold plan_Covered.f;rw [SpanP.touch_eq,ht,Option.bind_some];exact cov_l l b hb (b - a) a 17 (by omega) (by omega))
/-! ### Flat -/
section
variable (e : Int) (fl : List Int) (n : Nat)
def okAt (k : Nat) : Bool := decide (k < n) && openF (secAt fl k) e (k : Int)
def roomAt (k : Nat) : List Int := if okAt e fl n k = true then (secAt fl k).drop 12 else zs 52
/-- the body of the first k sectors; which of them are stamped -/
def bodyF : Nat → List Int
 |0 => []
 |k + 1 => bodyF k ++ roomAt e fl n k
def oksF : Nat → List Bool
 |0 => []
 |k + 1 => oksF k ++ [okAt e fl n k]
end
section
variable {e : Int} {fl : List Int} {n : Nat}
theorem roomAt_len (hf : fl.length = 64 * n) (k : Nat) : (roomAt e fl n k).length = 52 := by
 unfold roomAt
 split
 ·rename_i h
  unfold okAt at h
  simp only [Bool.and_eq_true,decide_eq_true_eq] at h
  rw [List.length_drop,secAt_len hf h.1]
 ·simp [zs]
theorem bodyF_len (hf : fl.length = 64 * n) (k : Nat) : (bodyF e fl n k).length = 52 * k := by
 induction k with
 |zero => rfl
 |succ k ih => unfold bodyF;rw [List.length_append,ih,roomAt_len hf];omega
theorem oksF_len (k : Nat) : (oksF e fl n k).length = k := by
 induction k with
 |zero => rfl
 |succ k ih => unfold oksF;rw [List.length_append,ih];rfl
theorem roomAt_bytes (hb : Bytes fl) (k : Nat) : Bytes (roomAt e fl n k) := by
 unfold roomAt
 split
 ·exact bytes_drop (bytes_take (bytes_drop hb _) _) _
 ·exact bytes_zs _
theorem bodyF_bytes (hb : Bytes fl) (k : Nat) : Bytes (bodyF e fl n k) := by
 induction k with
 |zero => exact fun c hc => by cases hc
 |succ k ih => exact bytes_append ih (roomAt_bytes hb k)
theorem okAt_out {k : Nat} (h : n ≤ k) : okAt e fl n k = false := by unfold okAt;rw [decide_eq_false (by omega)];rfl
theorem bodyF_out (k d : Nat) (h : n ≤ k) : bodyF e fl n (k + d) = bodyF e fl n k ++ zs (52 * d) := by
 induction d with
 |zero => simp [zs]
 |succ d ih =>
  rw [← Nat.add_assoc]
  show bodyF e fl n (k + d) ++ roomAt e fl n (k + d) = _
  rw [ih,List.append_assoc,show roomAt e fl n (k + d) = zs 52 by unfold roomAt;rw [okAt_out (by omega)];rfl,← zs_add]
  rfl
theorem oksF_out (k d : Nat) (h : n ≤ k) : oksF e fl n (k + d) = oksF e fl n k ++ List.replicate d false := by
 induction d with
 |zero => simp
 |succ d ih =>
  rw [← Nat.add_assoc]
  show oksF e fl n (k + d) ++ [okAt e fl n (k + d)] = _
  rw [ih,List.append_assoc,okAt_out (by omega),List.replicate_succ']
theorem ok_step (k : Nat) (hk : k < 16) : (oksF e fl n k ++ List.replicate (16 - k) false).set k (okAt e fl n k) = oksF e fl n (k + 1) ++ List.replicate (16 - (k + 1)) false := by
 obtain ⟨d,hd⟩ : ∃ d,16 - k = d + 1 := ⟨15 - k,by omega⟩
 rw [hd,show 16 - (k + 1) = d by omega,List.set_append_right _ _ (by rw [oksF_len];exact Nat.le_refl _),oksF_len,Nat.sub_self,List.replicate_succ,List.set_cons_zero]
 show _ = (oksF e fl n k ++ [okAt e fl n k]) ++ _
 rw [List.append_assoc]
 rfl
theorem body_step (hf : fl.length = 64 * n) (k : Nat) (hk : k < 16) (hkn : k < n) (m : Nat) (hm : m = (openL (secAt fl k) e (k : Int)).length) :
  splice (bodyF e fl n k ++ zs (832 - 52 * k)) (52 * k) ((openL (secAt fl k) e (k : Int)).take (min m 52)) = bodyF e fl n (k + 1) ++ zs (832 - 52 * (k + 1)) := by
 have hl : (secAt fl k).length = 64 := secAt_len hf hkn
 show _ = (bodyF e fl n k ++ roomAt e fl n k) ++ _
 rw [splice_at _ _ _ _ (bodyF_len hf k),List.append_assoc]
 congr 1
 have hok : okAt e fl n k = openF (secAt fl k) e (k : Int) := by unfold okAt;rw [decide_eq_true hkn,Bool.true_and]
 unfold roomAt
 rw [hok]
 unfold openL at hm ⊢
 cases hq : openF (secAt fl k) e (k : Int) with
 |true =>
  rw [hq] at hm
  simp only [if_true] at hm ⊢
  have h52 : ((secAt fl k).drop 12).length = 52 := by rw [List.length_drop,hl]
  rw [h52] at hm
  subst hm
  rw [Nat.min_self,List.take_of_length_le (by omega),h52]
  congr 1
  unfold zs
  rw [List.drop_replicate]
  congr 1
 |false =>
  simp only [Bool.false_eq_true,if_false,List.take_nil,List.nil_append,List.length_nil,List.drop_zero]
  rw [← zs_add]
  congr 1
  omega
end
theorem bools_set (xs : List Bool) (i : Nat) (b : Bool) : (bools xs).set i (.bool b) = bools (xs.set i b) := by simp [bools,List.map_set]
theorem dropA_blk (g lo m : Nat) (h : ¬ m = lo) : dropA (some ⟨g,0,none⟩) lo m 1 = some ⟨g,lo,none⟩ := by
 unfold dropA
 rw [if_neg h,Nat.mul_one]
 simp [addr_add]
theorem l_runE {P : Program} {ops : Array Oper} {rest : List Oper} {o : Oper} {a : Act} {Q : Exit → Act → World → Prop} {W : World} (hgd : o.guard = none) {u : Value} (v : Value) (hr : (execOp a.eval o).run P W = .ok (.value u) W) (he : u = v) (h : wpList P ops Q rest (a.put o.dst v) W) : wpList P ops Q (o :: rest) a W := by
 subst he
 exact l_run hgd _ hr h
set_option maxRecDepth 100000 in
set_option maxHeartbeats 4000000 in
theorem flat_calls (e : Int) (fl : List Int) (n : Nat) (hf : fl.length = 64 * n) (hb : Bytes fl) (A : Option Addr) (c : Nat) (w : World) (hr : Rd w A (nums .u8 fl)) (hc : n ≤ c) (hn : n ≤ 9223372036854775807) :
  Calls Tryd.prog 25 #[.int .u64 e,.slice A n c] w fun en w' => ∃ v1 v2,en = .returned (.tuple #[v1,v2]) ∧ Own w F0 [.row v1 5 1 832 (nums .u8 (bodyF e fl n 16)),.row v2 4 1 16 (bools (oksF e fl n 16))] w' := by
 have H := Own.start w
 obtain ⟨m,hm⟩ : ∃ m,min n 16 = m := ⟨_,rfl⟩
 have m1 : (if (16 : Int) < (n : Int) then (16 : Int) else (n : Int)) = (m : Int) := by split <;> omega
 go_enter Tryd.func25,Tryd.ntmps25
 go_wp2
 refine start_ (n := 4) (S := fun _ => True) (ds := []) #[false,false,false,false] (by kernel_rfl) rfl rfl trivial (fun _ => ?_)
 replace H := H.drew
 generalize World.drew _ = W at H ⊢
 refine join_ (σ := Nat × Nat) 1 #[true,true,true,false] (fun s => [(11,.slice (some ⟨s.1,0,none⟩) 832 832),(12,.slice (some ⟨s.2,0,none⟩) 16 16),(6,.slice (some ⟨s.1,0,none⟩) 832 832)]) (fun s X => Own w F0 [.blk s.2 4 (bools (List.replicate 16 false)),.blk s.1 5 (nums .u8 (zs 832))] X) ?_ (fun hC => ?_)
 rotate_left
 ·refine two_ (i := 0) (j := 1) (Ni := some 11) (Nj := some 12) #[true,false,false,false] #[false,true,false,false] rfl rfl rfl rfl (by kernel_rfl) (by decide) (by decide) (fun K hK => ?_) (fun K hK => ?_)
  ·refine wanted_ rfl ?_
   refine w_make1 H 38 5 _ _ rfl 832 rfl rfl Tryd.underlying38 _ rfl _ inf5 (by decide) (by decide) ?_
   clear H
   intro g11 W H
   refine hK.out _ _ trivial (fun _ => ?_)
   clear hK K
   refine pure_ (i := 2) (N := some 6) (v := .slice (some ⟨g11,0,none⟩) 832 832) #[true,false,true,false] rfl rfl (by kernel_rfl) (fun _ _ _ h => h) (Or.inl ⟨by rfl,fun _ => rfl⟩) rfl ?_
   refine one_ (i := 1) (N := some 12) #[true,true,true,false] rfl rfl (by kernel_rfl) (by decide) (fun K hK => ?_)
   refine wanted_ rfl ?_
   refine w_make1 H 63 4 _ _ rfl 16 rfl rfl Tryd.underlying63 _ rfl _ inf4 (by decide) (by decide) ?_
   clear H
   intro g12 W H
   refine hK.out _ _ trivial (fun _ => ?_)
   exact hC (g11,g12) _ H
  ·refine wanted_ rfl ?_
   refine w_make1 H 63 4 _ _ rfl 16 rfl rfl Tryd.underlying63 _ rfl _ inf4 (by decide) (by decide) ?_
   clear H
   intro g12 W H
   refine hK.out _ _ trivial (fun _ => ?_)
   clear hK K
   refine one_ (i := 0) (N := some 11) #[true,true,false,false] rfl rfl (by kernel_rfl) (by decide) (fun K hK => ?_)
   refine wanted_ rfl ?_
   refine w_make1 H 38 5 _ _ rfl 832 rfl rfl Tryd.underlying38 _ rfl _ inf5 (by decide) (by decide) ?_
   clear H
   intro g11 W H
   refine hK.out _ _ trivial (fun _ => ?_)
   clear hK K
   refine pure_ (i := 2) (N := some 6) (v := .slice (some ⟨g11,0,none⟩) 832 832) #[true,true,true,false] rfl rfl (by kernel_rfl) (fun _ _ _ h => h) (Or.inl ⟨by rfl,fun _ => rfl⟩) rfl ?_
   exact hC (g11,g12) _ (H.perm (List.Perm.swap _ _ _))
 clear H
 rintro ⟨g11,g12⟩ W H
 refine pure_ (i := 3) (N := some 7) (v := .slice (some ⟨g12,0,none⟩) 16 16) (a' := ?_) #[true,true,true,true] rfl rfl (by kernel_rfl) (fun _ _ _ h => h) (Or.inl ⟨by rfl,fun _ => rfl⟩) ?_ ?_
 rotate_left
 ·simp only [putAll,Act.put,List.setIfInBounds_toArray,List.set_cons_zero,List.set_cons_succ,i64_w,i32_w]
  rfl
 refine done_ (by kernel_rfl) ?_
 go_wp2
 go_loopg [16] m (fun gq v16 w' => ∃ k : Nat,v16 = .int .i64 (k : Int) ∧ k + gq = m ∧ Own w F0 [.blk g12 4 (bools (oksF e fl n k ++ List.replicate (16 - k) false)),.blk g11 5 (nums .u8 (bodyF e fl n k ++ zs (832 - 52 * k)))] w')
 case atStart => exact ⟨0,rfl,by omega,H⟩
 case round =>
  clear H
  obtain ⟨k,rfl,hk,H⟩ := hrel
  by_cases ck : k < m
  ·obtain ⟨gk',rfl⟩ : ∃ q,gk = q + 1 := ⟨gk - 1,by omega⟩
   have q1 : decide (k < m) = true := decide_eq_true ck
   have q3 : ((0 : Int) ≤ (k : Int)) = True := eq_true (by omega)
   have q4 : ((k : Int) < (n : Int)) = True := eq_true (by omega)
   have q5 : ((k : Int) < 16) = True := eq_true (by omega)
   obtain ⟨ad,rfl⟩ := hr.some_ (by rw [nums_length];omega)
   have hkn : k < n := by omega
   have hsl := secAt_len hf hkn
   have hbs : Bytes (secAt fl k) := bytes_take (bytes_drop hb _) _
   have hnu : ((nums .u8 fl).drop (k * 64)).take 64 = nums .u8 (secAt fl k) := by rw [nums_drop,nums_take,Nat.mul_comm];rfl
   have O1 := fun W => open_c (secAt fl k) hsl hbs e (k : Int) W
   have hok : okAt e fl n k = openF (secAt fl k) e (k : Int) := by unfold okAt;rw [decide_eq_true hkn,Bool.true_and]
   have s1 := ok_step (e := e) (fl := fl) (n := n) k (by omega)
   rw [hok] at s1
   have s2 := fun m' hm' => body_step (e := e) hf k (by omega) hkn m' hm'
   obtain ⟨lo,hlo⟩ : ∃ lo,52 * k = lo := ⟨_,rfl⟩
   obtain ⟨hi,hhi⟩ : ∃ hi,52 * (k + 1) = hi := ⟨_,rfl⟩
   rw [hlo] at s2
   have i1 : IntKind.i64.wrap ((k : Int) * 52) = (lo : Int) := by rw [IntKind.wrap_i64];omega
   have i3 : IntKind.i64.wrap (((k : Int) + 1) * 52) = (hi : Int) := by rw [IntKind.wrap_i64];omega
   have hlb : lo + 52 ≤ 832 := by omega
   have hd : dropA (some ⟨g11,0,none⟩) lo hi 1 = some ⟨g11,lo,none⟩ := dropA_blk g11 lo hi (by omega)
   have hfb : k < (bools (oksF e fl n k ++ List.replicate (16 - k) false)).length := by rw [bools_len,List.length_append,oksF_len,List.length_replicate];omega
   have hbl : (bodyF e fl n k ++ zs (832 - lo)).length = 832 := by rw [List.length_append,bodyF_len hf];simp [zs];omega
   have hll : ∀ W,Instr.sliceBounds true 832 832 (some (.int .i64 (lo : Int))) (some (.int .i64 (hi : Int))) (some (.int .i64 (hi : Int))) = Instr.sliceBounds true 832 832 (some (.int .i64 (lo : Int))) (some (.int .i64 (hi : Int))) (some (.int .i64 (hi : Int))) := fun (_ : World) => rfl
   clear hll
   have hh1 : lo ≤ hi := by omega
   have hh2 : hi ≤ 832 := by omega
   have hh3 : hi - lo = 52 := by omega
   rw [hlo] at H
   generalize openF (secAt fl k) e (k : Int) = ob at O1 s1
   generalize openL (secAt fl k) e (k : Int) = rm at O1 s2
   generalize secAt fl k = sec at hsl hnu O1
   have HLO := Lib.hid (And.intro hlo hhi)
   have HS1 := Lib.hid s1
   have HD := Lib.hid hd
   have HH3 := Lib.hid hh3
   clear hok hbs hlo hhi s1 hd hh3
   go_wp2_with (first
  |((with_reducible refine gate_store (t := 4) (p := 32) rfl ?_);refine l_store1 rfl H 4 _ _ rfl _ _ rfl _ (by first|(go_simp;done)|(go_simp;with_reducible rfl)) (by (repeat (first|exact In.head|apply In.tail))) rfl rfl size4 (by (first|rfl|assumption|omega|(simp only [nums_length];omega)|(simp [nums_length,zs];done)|(simp [nums_length,zs];omega))) ?_;clear H;intro W H)
  |((with_reducible refine gate_dst (N := 23) rfl ?_);refine l_loadRdS rfl 51 _ rfl (k * 64) rfl (hr.below H.below) 64 _ Tryd.underlying51 rfl size51 (by decide) _ hnu (by rw [nums_length];exact hsl) ?_)
  |(go_at_call 46;(with_reducible refine (O1 _).mono ?_);rintro e W ⟨v,rfl,hR,hb'⟩;replace H := H.addR hb' hR;clear hb' hR;obtain ⟨Av,cv,rfl⟩ := H.row_slice .head)
  |((with_reducible refine gate_dst (N := 42) rfl ?_);refine l_runE rfl (.slice (some ⟨g11,lo,none⟩) 52 52) (x_slice_lohimax _ _ _ _ rfl rfl Tryd.underlying38 size5 lo hi hi rfl rfl rfl hh1 (Nat.le_refl _) hh2 _) (by rw [HD.out,HH3.out]) ?_)
  |((with_reducible refine gate_dst (N := 44) rfl ?_);refine l_copyC rfl H _ _ _ _ rfl 5 Tryd.underlying38 size5 g11 lo 52 52 rfl (.tail (.tail .head)) Av _ cv rfl rm (H.rowC .head).2.2 (by rw [hbl];omega) ?_;clear H;intro W H))
   rw [bools_set,HS1.out,s2 _ rfl] at H
   go_roundg gk'
   case measure => omega
   case rel => exact ⟨k + 1,by go_num,by omega,H.del .head⟩
  ·have hkm : k = m := by omega
   subst hkm
   have e1 : oksF e fl n k ++ List.replicate (16 - k) false = oksF e fl n 16 := by
    by_cases h16 : k = 16
    ·subst h16;simp
    ·rw [← oksF_out (e := e) (fl := fl) (n := n) k (16 - k) (by omega),show k + (16 - k) = 16 by omega]
   have e2 : bodyF e fl n k ++ zs (832 - 52 * k) = bodyF e fl n 16 := by
    by_cases h16 : k = 16
    ·subst h16;simp [zs]
    ·rw [show 832 - 52 * k = 52 * (16 - k) by omega,← bodyF_out (e := e) (fl := fl) (n := n) k (16 - k) (by omega),show k + (16 - k) = 16 by omega]
   rw [e1,e2] at H
   have hl1 : (bools (oksF e fl n 16)).length = 16 := by rw [bools_len,oksF_len]
   have hl2 : (nums .u8 (bodyF e fl n 16)).length = 832 := by rw [nums_length,bodyF_len hf]
   have q1 : decide (k < k) = false := decide_eq_false (by omega)
   go_wp2
   go_ret2
   refine ⟨_,_,rfl,?_⟩
   have H1 := H.blk_row (sz := 1) (n := 16) (cap := 16) .head (Nat.le_refl _) (by decide) hl1 (List.take_of_length_le (Nat.le_of_eq hl1))
   have H2 := H1.blk_row (sz := 1) (n := 832) (cap := 832) (.tail .head) (Nat.le_refl _) (by decide) hl2 (List.take_of_length_le (Nat.le_of_eq hl2))
   exact H2.perm (List.Perm.swap _ _ _)
end Go.Proofs.YtaekpfhgdnfciaaDoor.O
end

section
/- join.Joiner's Feed and Idle, join.New and join.Join: what they answer, as Lean functions, and that the calls answer just this. -/
namespace Go.Proofs.YtaekpfhgdnfciaaDoor.F
open Go.RowKit Go.Proofs.YtaekpfhgdnfciaaDoorW.PrintWords Go.Proofs.YtaekpfhgdnfciaaDoorW.PrintLast Go.Proofs.YtaekpfhgdnfciaaDoorW.PrintMore
set_option linter.unusedVariables false
set_option linter.unusedSimpArgs false
def feedF (op : Bool) (b : List Int) (kind : Int) (data : List Int) : (List Int × Bool × Int) × (Bool × List Int) :=
 if ((op != (kind == 3 ||kind == 4)) ||(op == (kind == 1 ||kind == 2))) = true then (([],false,2),(false,[]))
 else if (b.length : Int) + data.length > 512 then (([],false,5),(false,[]))
 else if (kind == 1 ||kind == 4) = true then ((b ++ data,true,0),(false,[]))
 else (([],false,0),(true,b ++ data))
theorem kb_alloc {w w1 : World} {g : Nat} {row : Option Nat} (h : KeepBut w w1 g row) (o : Obj) : KeepBut w (w1.alloc o) g row :=
 ⟨by rw [World.size_alloc];have := h.1;omega,fun i hi hg hr => (Below.heap_alloc w1 o i (Nat.lt_of_lt_of_le hi h.1)).trans (h.2 i hi hg hr)⟩
theorem kb_below {w w1 w2 : World} {g : Nat} {row : Option Nat} (h : KeepBut w w1 g row) (b : Below w.heap.size w1 w2) : KeepBut w w2 g row :=
 ⟨Nat.le_trans h.1 b.size,fun i hi hg hr => (b.block i hi).trans (h.2 i hi hg hr)⟩
def FeedPost (w : World) (g : Nat) (r : (List Int × Bool × Int) × (Bool × List Int)) (e : Ending) (w' : World) : Prop :=
 ∃ rv v',e = .returned (.tuple #[rv,.bool r.1.2.1,.int .i64 r.1.2.2]) ∧ w'.heap[g]? = some (.cells #[.bool r.2.1,v'] 106 (0,0)) ∧
  Kd.R (Kd.int .u8) 5 w' w.heap.size (fun _ => True) rv r.1.1 ∧ Kd.R (Kd.int .u8) 5 w' w.heap.size (fun _ => True) v' r.2.2 ∧ KeepBut w w' g none ∧ Below g w w'
theorem bg2 {w : World} {g : Nat} (gl : g < w.heap.size) (i j : Nat) (u v : Value) (o1 o2 : Obj) : Below g w ((((w.setCell ⟨g,i,none⟩ u).setCell ⟨g,j,none⟩ v).alloc o1).alloc o2) := by
 have hsz : ∀ (p q : Addr) (u v : Value),((w.setCell p u).setCell q v).heap.size = w.heap.size := by intro p q u v;simp [World.setCell]
 refine Below.alloc (Below.alloc (Below.setCell (Below.setCell (Below.refl g w) (Nat.le_refl _) u) (Nat.le_refl _) v) ?_ o1) ?_ o2
 ·rw [hsz];omega
 ·rw [World.size_alloc,hsz];omega
set_option maxHeartbeats 1000000 in
set_option maxRecDepth 100000 in
theorem feed_bad (op : Bool) (b : List Int) (kind epoch : Int) (data : List Int) (w : World) (g : Nat) (Av A : Option Addr) (cv c : Nat)
  (hg : w.heap[g]? = some (.cells #[.bool op,.slice Av b.length cv] 106 (0,0)))
  (hbad : ((op != (kind == 3 ||kind == 4)) ||(op == (kind == 1 ||kind == 2))) = true) :
  Calls Tryd.prog 52 #[.pointer (some ⟨g,0,none⟩),.agg #[.int .i64 kind,.int .u32 epoch,.slice A data.length c]] w (FeedPost w g (([],false,2),(false,[]))) := by
 have gl := blk_lt hg
 have c0 : w.cell? ⟨g,0,none⟩ = some (.bool op) := blk_cell hg 0
 have c1 : w.cell? ⟨g,1,none⟩ = some (.slice Av b.length cv) := blk_cell hg 1
 have f0 := blk_frozen hg 0
 have f1 := blk_frozen hg 1
 have HF : Aside0 (∀ w' : World,w'.heap[g]? = some (.cells #[.bool false,.slice none 0 0] 106 (0,0)) → KeepBut w w' g none → Below g w w' → FeedPost w g (([],false,2),(false,[])) (.returned (.tuple #[.slice none 0 0,.bool false,.int .i64 2])) w') :=
  ⟨fun w' h1 h2 h3 => ⟨_,_,rfl,h1,Kd.R_nil _ _ _ _ _,Kd.R_nil _ _ _ _ _,h2,h3⟩⟩
 have HG := Aside0.mk hg
 clear hg
 rcases (show kind = 1 ∨ kind = 2 ∨ kind = 3 ∨ kind = 4 ∨ (¬ kind = 1 ∧ ¬ kind = 2 ∧ ¬ kind = 3 ∧ ¬ kind = 4) by omega) with rfl|rfl|rfl|rfl|⟨k1,k2,k3,k4⟩
 all_goals cases op
 all_goals first
  |(exfalso;revert hbad;decide)
  |skip
 all_goals clear hbad
 all_goals first
  |(have j1 : (kind == 1) = false := beq_eq_false_iff_ne.2 k1
    have j2 : (kind == 2) = false := beq_eq_false_iff_ne.2 k2
    have j3 : (kind == 3) = false := beq_eq_false_iff_ne.2 k3
    have j4 : (kind == 4) = false := beq_eq_false_iff_ne.2 k4
    clear k1 k2 k3 k4)
  |skip
 all_goals
  go_enter Tryd.func52,Tryd.ntmps52
  go_wp2
  go_ret3
  exact HF.out _ (blk_alloc (blk_alloc (blk_put (blk_put HG.out 0 _ rfl) 1 _ rfl) _) _) (kb_alloc (kb_alloc (((KeepBut.refl w g none).set_ 0 _).set_ 1 _) _) _) (bg2 gl _ _ _ _ _ _)
theorem C_far {k : IntKind} {w : World} {A : Option Addr} {n : Nat} {xs : List Int} (h : Kd.C (Kd.int k) w A n xs) {p : Addr} {u0 : Value} (hp : w.cell? p = some u0) (hne : ∀ z,u0 ≠ .int k z) (u : Value) : Kd.C (Kd.int k) (w.setCell p u) A n xs := by
 refine ⟨h.1,h.2.1,fun hn => ?_⟩
 obtain ⟨ad,e,hc⟩ := h.2.2 hn
 refine ⟨ad,e,fun j q hq => ?_⟩
 obtain ⟨c,hs,hr,hcell⟩ := hc j q hq
 refine ⟨c,hs,hr,fun i v hv => ?_⟩
 have h1 := hcell i v hv
 have hr' : c = [.int k q] := hr
 have hvi : v = .int k q := by
  subst hr'
  cases i with
  |zero => simpa using hv.symm
  |succ i => simp at hv
 rw [World.cell?_setCell_other]
 ·exact h1
 ·intro e2
  rw [← e2,hp] at h1
  exact hne q (by rw [← hvi];exact Option.some.inj h1)
set_option maxHeartbeats 4000000 in
set_option maxRecDepth 100000 in
theorem feed_good (op : Bool) (b : List Int) (kind epoch : Int) (data : List Int) (w : World) (g : Nat) (Av A : Option Addr) (cv c : Nat)
  (hg : w.heap[g]? = some (.cells #[.bool op,.slice Av b.length cv] 106 (0,0)))
  (hb : Kd.C (Kd.int .u8) w Av b.length b) (hd : Kd.C (Kd.int .u8) w A data.length data) (lb : b.length ≤ 70000) (ld : data.length ≤ 140737488351232) (hbc : b.length ≤ cv) (hdc : data.length ≤ c)
  (hgood : ((op != (kind == 3 ||kind == 4)) ||(op == (kind == 1 ||kind == 2))) = false) :
  Calls Tryd.prog 52 #[.pointer (some ⟨g,0,none⟩),.agg #[.int .i64 kind,.int .u32 epoch,.slice A data.length c]] w (FeedPost w g (feedF op b kind data)) := by
 have gl := blk_lt hg
 have c0 : w.cell? ⟨g,0,none⟩ = some (.bool op) := blk_cell hg 0
 have c1 : w.cell? ⟨g,1,none⟩ = some (.slice Av b.length cv) := blk_cell hg 1
 have f0 := blk_frozen hg 0
 have f1 := blk_frozen hg 1
 obtain ⟨W,hW⟩ : ∃ W,(((w.setCell ⟨g,0,none⟩ (.bool false)).setCell ⟨g,1,none⟩ (.slice none 0 0)).alloc (.cells #[.int .i64 kind,.int .u32 epoch,.slice A data.length c] 76)).alloc (.cells #[.bool op,.slice Av b.length cv] 106) = W := ⟨_,rfl⟩
 have HG := Aside0.mk (show W.heap[g]? = some (.cells #[.bool false,.slice none 0 0] 106 (0,0)) by rw [← hW];exact blk_alloc (blk_alloc (blk_put (blk_put hg 0 _ rfl) 1 _ rfl) _) _)
 have KB := Aside0.mk (show KeepBut w W g none by rw [← hW];exact kb_alloc (kb_alloc (((KeepBut.refl w g none).set_ 0 _).set_ 1 _) _) _)
 have hsz : ∀ (p q : Addr) (u v : Value),((w.setCell p u).setCell q v).heap.size = w.heap.size := by intro p q u v;simp [World.setCell]
 have BG := Aside0.mk (show Below g w W by rw [← hW];exact bg2 gl _ _ _ _ _ _)
 have HF := Aside0.mk (show W.heap[w.heap.size]? = some (.cells #[.int .i64 kind,.int .u32 epoch,.slice A data.length c] 76 (0,0)) by
  rw [← hW]
  have := blk_new ((w.setCell ⟨g,0,none⟩ (.bool false)).setCell ⟨g,1,none⟩ (.slice none 0 0)) (.cells #[.int .i64 kind,.int .u32 epoch,.slice A data.length c] 76)
  rw [hsz] at this
  exact blk_alloc this _)
 have HS := Aside0.mk (show W.heap[w.heap.size + 1]? = some (.cells #[.bool op,.slice Av b.length cv] 106 (0,0)) by
  rw [← hW]
  have := blk_new (((w.setCell ⟨g,0,none⟩ (.bool false)).setCell ⟨g,1,none⟩ (.slice none 0 0)).alloc (.cells #[.int .i64 kind,.int .u32 epoch,.slice A data.length c] 76)) (.cells #[.bool op,.slice Av b.length cv] 106)
  rw [World.size_alloc,hsz] at this
  exact this)
 have c1' : (w.setCell ⟨g,0,none⟩ (.bool false)).cell? ⟨g,1,none⟩ = some (.slice Av b.length cv) := blk_cell (blk_put hg 0 (.bool false) rfl) 1
 have CB := Aside0.mk (show Kd.C (Kd.int .u8) W Av b.length b by rw [← hW];exact Kd.C_alloc (Kd.C_alloc (C_far (C_far hb c0 (by simp) _) c1' (by simp) _) _) _)
 have CD := Aside0.mk (show Kd.C (Kd.int .u8) W A data.length data by rw [← hW];exact Kd.C_alloc (Kd.C_alloc (C_far (C_far hd c0 (by simp) _) c1' (by simp) _) _) _)
 replace hW := Aside0.mk hW
 clear hsz c1' hg hb hd
 obtain ⟨R,hR⟩ : ∃ R,feedF op b kind data = R := ⟨_,rfl⟩
 unfold feedF at hR
 rw [if_neg (by rw [hgood];decide)] at hR
 by_cases cl : (b.length : Int) + data.length > 512
 ·rw [if_pos cl] at hR
  subst hR
  have hfin : feedF op b kind data = (([],false,5),(false,[])) := by unfold feedF;rw [if_neg (by rw [hgood];decide),if_pos cl]
  rw [hfin]
  have HE : Aside0 (∀ w' : World,w'.heap[g]? = some (.cells #[.bool false,.slice none 0 0] 106 (0,0)) → KeepBut w w' g none → Below g w w' → FeedPost w g (([],false,5),(false,[])) (.returned (.tuple #[.slice none 0 0,.bool false,.int .i64 5])) w') :=
   ⟨fun w' h1 h2 h3 => ⟨_,_,rfl,h1,Kd.R_nil _ _ _ _ _,Kd.R_nil _ _ _ _ _,h2,h3⟩⟩
  clear hfin
  have d1 : decide (512 < (b.length : Int) + data.length) = true := decide_eq_true cl
  rcases (show kind = 1 ∨ kind = 2 ∨ kind = 3 ∨ kind = 4 ∨ (¬ kind = 1 ∧ ¬ kind = 2 ∧ ¬ kind = 3 ∧ ¬ kind = 4) by omega) with rfl|rfl|rfl|rfl|⟨k1,k2,k3,k4⟩
  all_goals cases op
  all_goals first
   |(exfalso;revert hgood;decide)
   |(exfalso;revert hgood;simp [k1,k2,k3,k4];done)
   |skip
  all_goals clear hgood
  all_goals
   go_enter Tryd.func52,Tryd.ntmps52
   go_wp2
   go_ret3
   rw [hW.out]
   exact HE.out _ HG.out KB.out BG.out
 ·rw [if_neg cl] at hR
  have d1 : decide (512 < (b.length : Int) + data.length) = false := decide_eq_false cl
  have cl' : (b.length : Int) + data.length ≤ 512 := by omega
  have hfin : feedF op b kind data = R := by unfold feedF;rw [if_neg (by rw [hgood];decide),if_neg cl];exact hR
  rw [hfin]
  replace hR := Aside0.mk hR
  clear hfin cl
  rcases (show kind = 1 ∨ kind = 2 ∨ kind = 3 ∨ kind = 4 ∨ (¬ kind = 1 ∧ ¬ kind = 2 ∧ ¬ kind = 3 ∧ ¬ kind = 4) by omega) with rfl|rfl|rfl|rfl|⟨k1,k2,k3,k4⟩
  all_goals cases op
  all_goals first
   |(exfalso;revert hgood;decide)
   |(exfalso;revert hgood;simp [k1,k2,k3,k4];done)
   |skip
  all_goals clear hgood
  all_goals
   go_enter Tryd.func52,Tryd.ntmps52
   go_wp2
   rw [hW.out]
   have HS0 := blk_drew HS.out
   have HF0 := blk_drew HF.out
   have HG0 := blk_drew HG.out
   refine start_ (n := 8) (S := fun w' => w'.cell? ⟨w.heap.size + 1,0,none⟩ = some (.bool _) ∧ w'.cell? ⟨w.heap.size + 1,1,none⟩ = some (.slice Av b.length cv) ∧ w'.cell? ⟨w.heap.size,0,none⟩ = some (.int .i64 _) ∧ w'.cell? ⟨w.heap.size,1,none⟩ = some (.int .u32 epoch) ∧ w'.cell? ⟨w.heap.size,2,none⟩ = some (.slice A data.length c)) (ds := []) #[f_,f_,f_,f_,f_,f_,f_,f_] (by kernel_rfl) rfl rfl ⟨blk_cell HS0 0,blk_cell HS0 1,blk_cell HF0 0,blk_cell HF0 1,blk_cell HF0 2⟩ (fun hHeld => ?_)
   have KB0 : KeepBut w W.drew g none := KB.out
   have BB : Below W.heap.size W.drew W.drew := Below.refl _ _
   have BG0 : Below g w W.drew := BG.out.drew
   have CB0 : Kd.C (Kd.int .u8) W.drew Av b.length b := Kd.C_drew CB.out
   have CD0 : Kd.C (Kd.int .u8) W.drew A data.length data := Kd.C_drew CD.out
   have hsz : W.drew.heap.size = W.heap.size := rfl
   generalize W.drew = W0 at HS0 HF0 HG0 KB0 BB BG0 CB0 CD0 hHeld hsz ⊢
   replace BG0 := Aside0.mk BG0
   refine pure_ (i := 1) (N := some 56) (v := ?_) (a' := ?_) #[f_,t_,f_,f_,f_,f_,f_,f_] rfl rfl (by kernel_rfl) (fun _ _ _ h => h) (Or.inl ⟨by rfl,?_⟩) ?_ ?_
   rotate_left
   ·intro w'
    go_simp
    with_reducible rfl
   rotate_left
   ·simp only [ps_]
    rfl
   refine pure_ (i := 4) (N := some 59) (v := ?_) (a' := ?_) #[f_,t_,f_,f_,t_,f_,f_,f_] rfl rfl (by kernel_rfl) (fun _ _ _ h => h) (Or.inl ⟨by rfl,?_⟩) ?_ ?_
   rotate_left
   ·intro w'
    go_simp
    with_reducible rfl
   rotate_left
   ·simp only [ps_]
    rfl
   refine take_ (i := 2) (N := some 57) (v := ?_) (a' := ?_) #[f_,t_,t_,f_,t_,f_,f_,f_] rfl rfl (by kernel_rfl) (fun _ _ _ h => h) (Or.inl ⟨by rfl,?_⟩) hHeld ?_ ?_
   rotate_left
   ·rintro w' ⟨s0,s1,s2,s3,s4⟩
    go_simp
    with_reducible rfl
   rotate_left
   ·simp only [ps_]
    rfl
   refine take_ (i := 5) (N := some 60) (v := ?_) (a' := ?_) #[f_,t_,t_,f_,t_,t_,f_,f_] rfl rfl (by kernel_rfl) (fun _ _ _ h => h) (Or.inl ⟨by rfl,?_⟩) hHeld ?_ ?_
   rotate_left
   ·rintro w' ⟨s0,s1,s2,s3,s4⟩
    go_simp
    with_reducible rfl
   rotate_left
   ·simp only [ps_]
    rfl
   refine one_ (i := 0) (N := some 55) #[t_,t_,t_,f_,t_,t_,f_,f_] rfl rfl (by kernel_rfl) (by decide) (fun K hK => ?_)
   refine Kd.R_lit_step (Kd.int .u8) _ 5 ?hg (N := 55) ?hd (xs := ([] : List Int)) (inner := []) (ok := fun _ => True) (okp := fun _ => True) ?hr ?hp (fun _ hk => hk) trivial (Below.refl _ _) (Nat.le_refl _) (by simp) ?_;(case hd => rfl);(case hg => rfl);(case hr => first|(go_simp;done)|(go_simp;rfl));(case hp => exact (Reps.none _ _))
   intro v1 w1 ho1 hb1 hg_ hnew_
   clear hg_ hnew_
   have HS1 := blk_below HS0 hb1
   have HF1 := blk_below HF0 hb1
   have HG1 := blk_below HG0 hb1
   have CB1 := Kd.C_below CB0 hb1
   have CD1 := Kd.C_below CD0 hb1
   have KB1 := kb_below KB0 (hb1.mono KB0.1)
   have BB1 : Below W0.heap.size W0 w1 := hb1
   refine hK.out _ _ ⟨blk_cell HS1 0,blk_cell HS1 1,blk_cell HF1 0,blk_cell HF1 1,blk_cell HF1 2⟩ (fun hHeld => ?_)
   clear hK K
   refine norm_ (a' := ?_) ?_ ?_
   rotate_left
   ·show Act.put _ (some 55) _ = _
    simp only [ps_]
    rfl
   refine one_ (i := 3) (N := some 58) #[t_,t_,t_,t_,t_,t_,f_,f_] rfl rfl (by kernel_rfl) (by decide) (fun K hK => ?_)
   refine Kd.R_append_rows_step (Kd.int .u8) (w0 := W0) W0.heap.size (by rfl) (.tmp 55) (.tmp 57) 38 5 (.int .u8 0) 1 rfl Tryd.underlying38 info5 rfl (by decide) (by omega) v1 ([] : List Int) b _ _ _ (fun _ => True) (fun _ => False) rfl rfl ?aO ?aR (fun _ _ h => h) (fun _ h => h.elim) ?aF ?aB ?aS ?aL ?_
   (case aR => exact CB1)
   (case aB => exact BB1)
   (case aF => exact (fun _ _ => trivial))
   (case aO => exact ho1)
   (case aS => exact BB1.size)
   (case aL => simp;omega)
   intro v2 w2 ho2 hb2 hg2 hat2
   have HS2 := blk_grown HS1 hg2 (Kd.R_ne ho1 HS1 (by decide))
   have HF2 := blk_grown HF1 hg2 (Kd.R_ne ho1 HF1 (by decide))
   have HG2 := blk_grown HG1 hg2 (Kd.R_ne ho1 HG1 (by decide))
   have BB2 : Below W0.heap.size W0 w2 := hb2
   have KB2 := kb_below KB0 (hb2.mono KB0.1)
   have CD2 := Kd.C_below CD0 hb2
   refine hK.out _ _ ⟨blk_cell HS2 0,blk_cell HS2 1,blk_cell HF2 0,blk_cell HF2 1,blk_cell HF2 2⟩ (fun hHeld => ?_)
   clear hK K
   refine norm_ (a' := ?_) ?_ ?_
   rotate_left
   ·show Act.put _ (some 58) _ = _
    simp only [ps_]
    rfl
   refine one_ (i := 6) (N := some 61) #[t_,t_,t_,t_,t_,t_,t_,f_] rfl rfl (by kernel_rfl) (by decide) (fun K hK => ?_)
   refine Kd.R_append_rows_step (Kd.int .u8) (w0 := W0) W0.heap.size (by rfl) (.tmp 58) (.tmp 60) 38 5 (.int .u8 0) 1 rfl Tryd.underlying38 info5 rfl (by decide) (by omega) v2 ([] ++ b) data _ _ _ (fun _ => True) (fun _ => False) rfl rfl ?aO ?aR (fun _ _ h => h) (fun _ h => h.elim) ?aF ?aB ?aS ?aL ?_
   (case aR => exact CD2)
   (case aB => exact BB2)
   (case aF => exact (fun _ _ => trivial))
   (case aO => exact ho2)
   (case aS => exact BB2.size)
   (case aL => simp;omega)
   intro v3 w3 ho3 hb3 hg3 hat3
   have HS3 := blk_grown HS2 hg3 (Kd.R_ne ho2 HS2 (by decide))
   have HF3 := blk_grown HF2 hg3 (Kd.R_ne ho2 HF2 (by decide))
   have HG3 := blk_grown HG2 hg3 (Kd.R_ne ho2 HG2 (by decide))
   have BB3 : Below W0.heap.size W0 w3 := hb3
   have KB3 := kb_below KB0 (hb3.mono KB0.1)
   refine hK.out _ _ ⟨blk_cell HS3 0,blk_cell HS3 1,blk_cell HF3 0,blk_cell HF3 1,blk_cell HF3 2⟩ (fun hHeld => ?_)
   clear hK K
   refine norm_ (a' := ?_) ?_ ?_
   rotate_left
   ·show Act.put _ (some 61) _ = _
    simp only [ps_]
    rfl
   refine pure_ (i := 7) (N := some 10) (v := ?_) (a' := ?_) #[t_,t_,t_,t_,t_,t_,t_,t_] rfl rfl (by kernel_rfl) (fun _ _ _ h => h) (Or.inl ⟨by rfl,?_⟩) ?_ ?_
   rotate_left
   ·intro w'
    go_simp
    with_reducible rfl
   rotate_left
   ·simp only [ps_]
    rfl
   refine done_ (by kernel_rfl) ?_
   obtain ⟨A3,c3,e3⟩ := Kd.R_slice ho3
   subst e3
   have e4 : ([] ++ b ++ data).length = b.length + data.length := by simp
   rw [e4] at ho3 ⊢
   clear e4
   clear HS0 HF0 HG0 KB0 CB0 CD0 HS1 HF1 HG1 CB1 CD1 KB1 BB BB1 hb1 ho1 HS2 HF2 HG2 KB2 BB2 CD2 hb2 hg2 hat2 ho2 hb3 hg3 hat3 hHeld
   have p0 : w3.cell? ⟨w.heap.size,0,none⟩ = some (.int .i64 _) := blk_cell HF3 0
   have q0 : w3.cell? ⟨g,0,none⟩ = some (.bool false) := blk_cell HG3 0
   have q1 : w3.cell? ⟨g,1,none⟩ = some (.slice none 0 0) := blk_cell HG3 1
   have z0 := blk_frozen HG3 0
   have z1 := blk_frozen HG3 1
   replace HG3 := Aside0.mk HG3
   replace ho3 := Aside0.mk ho3
   replace KB3 := Aside0.mk KB3
   have BG3 := Aside0.mk (Below.trans BG0.out (BB3.mono (by rw [hsz];have := KB.out.1;omega)))
   replace BB3 := Aside0.mk BB3
   go_wp2
   go_ret3
   first
   |(have e : R = ((b ++ data,true,0),(false,[])) := by rw [← hR.out];exact if_pos (by decide)
     rw [e]
     exact ⟨_,_,rfl,HG3.out,Kd.R_lower ho3.out (by rw [hsz];exact KB.out.1),Kd.R_nil _ _ _ _ _,KB3.out,BG3.out⟩)
   |(have e : R = (([],false,0),(true,b ++ data)) := by rw [← hR.out];exact if_neg (by decide)
     rw [e]
     exact ⟨_,_,rfl,blk_put (blk_put HG3.out 0 _ rfl) 1 _ rfl,Kd.R_nil _ _ _ _ _,Kd.R_set (Kd.R_set (Kd.R_lower ho3.out (by rw [hsz];exact KB.out.1)) HG3.out (by decide) 0 _) (blk_put HG3.out 0 _ rfl) (by decide) 1 _,(KB3.out.set_ 0 _).set_ 1 _,Below.setCell (Below.setCell BG3.out (Nat.le_refl _) _) (Nat.le_refl _) _⟩)
theorem feed_all (op : Bool) (b : List Int) (kind epoch : Int) (data : List Int) (w : World) (g : Nat) (Av A : Option Addr) (cv c : Nat)
  (hg : w.heap[g]? = some (.cells #[.bool op,.slice Av b.length cv] 106 (0,0)))
  (hb : Kd.C (Kd.int .u8) w Av b.length b) (hd : Kd.C (Kd.int .u8) w A data.length data) (lb : b.length ≤ 70000) (ld : data.length ≤ 140737488351232) (hbc : b.length ≤ cv) (hdc : data.length ≤ c) :
  Calls Tryd.prog 52 #[.pointer (some ⟨g,0,none⟩),.agg #[.int .i64 kind,.int .u32 epoch,.slice A data.length c]] w (FeedPost w g (feedF op b kind data)) := by
 cases h : ((op != (kind == 3 ||kind == 4)) ||(op == (kind == 1 ||kind == 2))) with
 |true =>
  have e : feedF op b kind data = (([],false,2),(false,[])) := by unfold feedF;rw [if_pos h]
  rw [e]
  exact feed_bad op b kind epoch data w g Av A cv c hg h
 |false => exact feed_good op b kind epoch data w g Av A cv c hg hb hd lb ld hbc hdc h
end Go.Proofs.YtaekpfhgdnfciaaDoor.F
end

section
/- join.New and Idle: what they answer. -/
namespace Go.Proofs.YtaekpfhgdnfciaaDoor.F
open Go.RowKit Go.Proofs.YtaekpfhgdnfciaaDoorW.PrintWords Go.Proofs.YtaekpfhgdnfciaaDoorW.PrintLast Go.Proofs.YtaekpfhgdnfciaaDoorW.PrintMore
set_option linter.unusedVariables false
set_option linter.unusedSimpArgs false
theorem joinNew_calls (w : World) : Calls Tryd.prog 26 #[] w fun e w' => e = .returned (.pointer (some ⟨w.heap.size,0,none⟩)) ∧ w.alloc (.cells #[.bool false,.slice none 0 0] 106) = w' := by
 go_enter Tryd.func26,Tryd.ntmps26
 go_wp2
 go_ret
 exact ⟨rfl,rfl⟩
theorem joinIdle_calls (op : Bool) (v : Value) (w : World) (g : Nat) (hg : w.heap[g]? = some (.cells #[.bool op,v] 106 (0,0))) :
  Calls Tryd.prog 51 #[.pointer (some ⟨g,0,none⟩)] w fun e w' => e = .returned (.bool (!op)) ∧ w = w' := by
 have c0 : w.cell? ⟨g,0,none⟩ = some (.bool op) := blk_cell hg 0
 clear hg
 go_enter Tryd.func51,Tryd.ntmps51
 go_wp2
 go_ret
 exact ⟨rfl,rfl⟩
end Go.Proofs.YtaekpfhgdnfciaaDoor.F
end

section
/- Functions of strandlineref15: what each answers, as a Lean function, and that the call answers just this. Turned out of what the kit's print told for this seat. -/
namespace Go.Proofs.YtaekpfhgdnfciaaDoor.F
open Go.RowKit Go.Proofs.YtaekpfhgdnfciaaDoorW.PrintWords Go.Proofs.YtaekpfhgdnfciaaDoorW.PrintLast Go.Proofs.YtaekpfhgdnfciaaDoorW.PrintMore
attribute [local go_sem high] eqA83
attribute [local go_sem] field83_0
attribute [local go_sem] field83_1
attribute [local go_sem] max2_int min2_int max_two min_two max_three min_three max_four min_four
set_option linter.unusedVariables false
set_option linter.unusedSimpArgs false
/-! ### strandlineref15_Joiner_Feed: function 31 -/
end Go.Proofs.YtaekpfhgdnfciaaDoor.F
end

section
/- Joiner.Feed and the reference's, by what is owned. -/
namespace Go.Proofs.YtaekpfhgdnfciaaDoor.O
open Go.RowKit Go.Proofs.YtaekpfhgdnfciaaDoorW.PrintWords Go.Proofs.YtaekpfhgdnfciaaDoorW.PrintLast Go.Proofs.YtaekpfhgdnfciaaDoorW.PrintMore Go.Proofs.YtaekpfhgdnfciaaDoor.F Go.Proofs.YtaekpfhgdnfciaaDoor.F.Nums Go.Proofs.YtaekpfhgdnfciaaDoor.Plain
set_option linter.unusedVariables false
set_option linter.unusedSimpArgs false
/-- what has all its blocks behind those that are owned is owned too -/
theorem Own.consN {w0 W : World} {F : Nat → Option Obj} {L : List Res} {r : Res} (H : Own w0 F L W) (n : Nat) (hL : ∀ y ∈ L,∀ k,y.block = some k → k < n) (hF : ∀ k o,F k = some o → k < n) (hr : r.At w0.heap.size W) (hk : ∀ k,r.block = some k → n ≤ k) : Own w0 F (r :: L) W := by
 refine ⟨H.below,H.holds,?_,?_,?_⟩
 ·intro y hy
  rcases List.mem_cons.1 hy with rfl|hy
  ·exact hr
  ·exact H.ats y hy
 ·intro y hy k hyk
  rcases List.mem_cons.1 hy with rfl|hy
  ·cases hFk : F k with
   |none => rfl
   |some o =>
    have h1 := hF k o hFk
    have h2 := hk k hyk
    omega
  ·exact H.apart y hy k hyk
 ·refine List.Pairwise.cons (fun y hy k h1 h2 => ?_) H.sep
  have h3 := hL y hy k h2
  have h4 := hk k h1
  omega
/-- a slice value of n elements -/
def IsSl (v : Value) (n : Nat) : Prop := ∃ A c,v = .slice A n c ∧ n ≤ c
theorem isSl_R {W : World} {b : Nat} {ok : Nat → Prop} {v : Value} {xs : List Int} {e : Nat} (h : Kd.R (Kd.int .u8) e W b ok v xs) : IsSl v xs.length := by
 obtain ⟨A,c,rfl⟩ := own_slice (Kd.own_of_R h)
 have h2 := Kd.R_reads' h
 exact ⟨A,c,rfl,h2.2.1⟩
/-- two answers of which one has nothing: the other one is owned -/
theorem pick_own {W : World} {b : Nat} {ok ok' : Nat → Prop} {va vb : Value} {xa xb : List Int} {e : Nat} (ha : Kd.R (Kd.int .u8) e W b ok va xa) (hb : Kd.R (Kd.int .u8) e W b ok' vb xb) (h : xa = [] ∨ xb = []) :
  ∃ x,W.ownsRow b e 1 x (xa ++ xb).length (nums .u8 (xa ++ xb)) ∧ (xa ≠ [] → va = x) ∧ (xb ≠ [] → vb = x) := by
 rcases h with rfl|rfl
 ·exact ⟨vb,Kd.own_of_R hb,fun h => absurd rfl h,fun _ => rfl⟩
 ·refine ⟨va,?_,fun _ => rfl,fun h => absurd rfl h⟩
  rw [List.append_nil]
  exact Kd.own_of_R ha
theorem feedF_one (op : Bool) (b : List Int) (kind : Int) (data : List Int) : (feedF op b kind data).1.1 = [] ∨ (feedF op b kind data).2.2 = [] := by
 unfold feedF
 split
 ·exact .inl rfl
 ·split
  ·exact .inl rfl
  ·split
   ·exact .inr rfl
   ·exact .inl rfl
/-- the cells of what is owned if it is not empty -/
theorem own_C {w0 W : World} {F : Nat → Option Obj} {L : List Res} {c : Res → List Res} {b : List Int} {Av : Option Addr} {cv : Nat} {x : Value} {n : Nat} {ys : List Int} (H : Own w0 F L W) (hI : In L (.row x 5 1 n (nums .u8 ys)) c) (hx : b ≠ [] → .slice Av b.length cv = x) (hy : b ≠ [] → ys = b ∧ n = b.length) (hl : b.length ≤ 70000) : Kd.C (Kd.int .u8) W Av b.length b := by
 by_cases hb : b = []
 ·subst hb
  exact ⟨rfl,by simp,fun h => absurd h (by simp)⟩
 ·obtain ⟨rfl,rfl⟩ := hy hb
  have := hx hb
  subst this
  exact (H.rowC hI).2.2
theorem feed_own {w0 W : World} {F : Nat → Option Obj} {L : List Res} {c1 : Res → List Res} (op : Bool) (b : List Int) (kind epoch : Int) (data : List Int) (g : Nat) (Av A : Option Addr) (cv c : Nat) (x : Value)
  (H : Own w0 F (.row x 5 1 b.length (nums .u8 b) :: L) W) (hI : In L (.blk g 106 [.bool op,.slice Av b.length cv]) c1) (hx : b ≠ [] → .slice Av b.length cv = x) (hbc : b.length ≤ cv) (lb : b.length ≤ 70000)
  (hd : Kd.C (Kd.int .u8) W A data.length data) (ld : data.length ≤ 140737488351232) (hdc : data.length ≤ c) :
  Calls Tryd.prog 52 #[.pointer (some ⟨g,0,none⟩),.agg #[.int .i64 kind,.int .u32 epoch,.slice A data.length c]] W fun e W' =>
   ∃ rv v' x',e = .returned (.tuple #[rv,.bool (feedF op b kind data).1.2.1,.int .i64 (feedF op b kind data).1.2.2]) ∧ IsSl rv (feedF op b kind data).1.1.length ∧ IsSl v' (feedF op b kind data).2.2.length ∧
    ((feedF op b kind data).1.1 ≠ [] → rv = x') ∧ ((feedF op b kind data).2.2 ≠ [] → v' = x') ∧
    Own w0 F (.row x' 5 1 ((feedF op b kind data).1.1 ++ (feedF op b kind data).2.2).length (nums .u8 ((feedF op b kind data).1.1 ++ (feedF op b kind data).2.2)) :: c1 (.blk g 106 [.bool (feedF op b kind data).2.1,v'])) W' := by
 have hb := own_C H .head hx (fun _ => ⟨rfl,rfl⟩) lb
 have H1 := H.del .head
 have hg := H1.at_ hI
 refine (feed_all op b kind epoch data W g Av A cv c hg.2 hb hd lb ld hbc hdc).mono ?_
 rintro e W' ⟨rv,v',rfl,hg',hR1,hR2,hK,hB⟩
 obtain ⟨x',ho,h1,h2⟩ := pick_own hR1 hR2 (feedF_one op b kind data)
 refine ⟨rv,v',x',rfl,isSl_R hR1,isSl_R hR2,h1,h2,?_⟩
 have H2 := H1.repl (r' := .blk g 106 [.bool (feedF op b kind data).2.1,v']) hI ⟨hB.os,hB.tape,hB.output,hK.1,fun i hi hn => hK.2 i hi (fun e => hn (by rw [e];rfl)) (fun e => by cases e)⟩ ⟨hg.1,hg'⟩ (fun k hk => .inl hk)
 refine H2.consN W.heap.size (fun y hy k hk => ?_) (fun k o hk => obj_lt (H1.holds k o hk)) (own_weaken ho H1.size) (fun k hk => own_base ho k hk)
 obtain ⟨LA,LB,rfl,hc1⟩ := hI.split
 rw [hc1] at hy
 rcases List.mem_append.1 hy with hy|hy
 ·exact (H1.ats y (by simp [hy])).lt hk
 ·rcases List.mem_cons.1 hy with rfl|hy
  ·exact hg.lt hk
  ·exact (H1.ats y (by simp [hy])).lt hk
theorem feedF_len (op : Bool) (b : List Int) (kind : Int) (data : List Int) : (feedF op b kind data).2.2.length ≤ 512 := by
 unfold feedF
 split
 ·simp
 ·split
  ·simp
  ·split
   ·simp
   ·simp only [List.length_append];omega
end Go.Proofs.YtaekpfhgdnfciaaDoor.O
end

section
/- Functions of crc: what each answers, as a Lean function, and that the call answers just this. Turned out of what the kit's print told for this seat. -/
namespace Go.Proofs.YtaekpfhgdnfciaaDoor.F
open Go.RowKit Go.Proofs.YtaekpfhgdnfciaaDoorW.PrintWords Go.Proofs.YtaekpfhgdnfciaaDoorW.PrintLast Go.Proofs.YtaekpfhgdnfciaaDoorW.PrintMore
attribute [local go_sem high] eqA83
attribute [local go_sem] field83_0
attribute [local go_sem] field83_1
attribute [local go_sem] max2_int min2_int max_two min_two max_three min_three max_four min_four
set_option linter.unusedVariables false
set_option linter.unusedSimpArgs false
/-! ### crc_Mask: function 71 -/
def crc_Mask.f (a0 : Int) : Option (Int) := some (((Go.bits .or .u32 (a0 / 32768) ((a0 * 131072) % 4294967296)) + 2726488792) % 4294967296)
set_option maxHeartbeats 8000000 in
set_option maxRecDepth 100000 in
theorem crc_Mask.calls (a0 : Int) (r : Int) (w : World) (h : crc_Mask.f a0 = some r) :
  Calls Tryd.prog 71 #[.int .u32 a0] w fun e w' => e = .returned (.int .u32 r) ∧ Drawn0 w w' := by
 have hu73 := Tryd.underlying73
 have hu76 := Tryd.underlying76
 have hu83 := Tryd.underlying83
 have hu94 := Tryd.underlying94
 have hu106 := Tryd.underlying106
 have H : (some (((Go.bits .or .u32 (a0 / 32768) ((a0 * 131072) % 4294967296)) + 2726488792) % 4294967296)) = some r := h
 clear h
 obtain rfl := Option.some.inj H
 go_enter Tryd.func71,Tryd.ntmps71
 go_wp2
 go_ret
 exact ⟨by first|rfl|(simp;done)|(simp [*];done),by repeat (first|exact Drawn0.refl _|apply Drawn0.step)⟩
end Go.Proofs.YtaekpfhgdnfciaaDoor.F
end

section
/- Functions of strandlineref03: what each answers, as a Lean function, and that the call answers just this. Turned out of what the kit's print told for this seat. -/
namespace Go.Proofs.YtaekpfhgdnfciaaDoor.F
open Go.RowKit Go.Proofs.YtaekpfhgdnfciaaDoorW.PrintWords Go.Proofs.YtaekpfhgdnfciaaDoorW.PrintLast Go.Proofs.YtaekpfhgdnfciaaDoorW.PrintMore
attribute [local go_sem high] eqA83
attribute [local go_sem] field83_0
attribute [local go_sem] field83_1
attribute [local go_sem] max2_int min2_int max_two min_two max_three min_three max_four min_four
set_option linter.unusedVariables false
set_option linter.unusedSimpArgs false
/-! ### strandlineref03_Mask: function 77 -/
def strandlineref03_Mask.f (a0 : Int) : Option (Int) := some ((((((Int.tdiv a0 32768) % 4294967296) + (((Int.tmod a0 32768) * 131072) % 4294967296)) % 4294967296) + 2726488792) % 4294967296)
set_option maxHeartbeats 8000000 in
set_option maxRecDepth 100000 in
theorem strandlineref03_Mask.calls (a0 : Int) (r : Int) (w : World) (h : strandlineref03_Mask.f a0 = some r) :
  Calls Tryd.prog 77 #[.int .u32 a0] w fun e w' => e = .returned (.int .u32 r) ∧ Drawn0 w w' := by
 have hu73 := Tryd.underlying73
 have hu76 := Tryd.underlying76
 have hu83 := Tryd.underlying83
 have hu94 := Tryd.underlying94
 have hu106 := Tryd.underlying106
 have H : (some ((((((Int.tdiv a0 32768) % 4294967296) + (((Int.tmod a0 32768) * 131072) % 4294967296)) % 4294967296) + 2726488792) % 4294967296)) = some r := h
 clear h
 obtain rfl := Option.some.inj H
 go_enter Tryd.func77,Tryd.ntmps77
 go_wp2
 go_ret
 exact ⟨by first|rfl|(simp;done)|(simp [*];done),by repeat (first|exact Drawn0.refl _|apply Drawn0.step)⟩
/-! ### strandlineref03_Step: function 87 -/
def strandlineref03_Step.f (a0 : Int) : Option (Int) := if (Int.tmod a0 2) = 1 then (some (Go.bits .xor .u32 ((Int.tdiv a0 2) % 4294967296) 2197175160)) else (some ((Int.tdiv a0 2) % 4294967296))
set_option maxHeartbeats 8000000 in
set_option maxRecDepth 100000 in
theorem strandlineref03_Step.calls (a0 : Int) (r : Int) (w : World) (h : strandlineref03_Step.f a0 = some r) :
  Calls Tryd.prog 87 #[.int .u32 a0] w fun e w' => e = .returned (.int .u32 r) ∧ Drawn0 w w' := by
 have hu73 := Tryd.underlying73
 have hu76 := Tryd.underlying76
 have hu83 := Tryd.underlying83
 have hu94 := Tryd.underlying94
 have hu106 := Tryd.underlying106
 have H : (if (Int.tmod a0 2) = 1 then (some (Go.bits .xor .u32 ((Int.tdiv a0 2) % 4294967296) 2197175160)) else (some ((Int.tdiv a0 2) % 4294967296))) = some r := h
 clear h
 by_cases c2 : (Int.tmod a0 2) = 1
 ·rw [if_pos c2] at H
  have c2b0 : ((Int.tmod a0 2) == 1) = true := beq_iff_eq.mpr c2
  have c2b1 : ((Int.tmod a0 2) != 1) = false := bne_eq_false_iff_eq.mpr c2
  clear c2
  obtain rfl := Option.some.inj H
  go_enter Tryd.func87,Tryd.ntmps87
  go_wp2
  go_ret
  exact ⟨by first|rfl|(simp;done)|(simp [*];done),by repeat (first|exact Drawn0.refl _|apply Drawn0.step)⟩
 ·rw [if_neg c2] at H
  have c2b0 : ((Int.tmod a0 2) == 1) = false := beq_eq_false_iff_ne.mpr c2
  have c2b1 : ((Int.tmod a0 2) != 1) = true := bne_iff_ne.mpr c2
  obtain rfl := Option.some.inj H
  go_enter Tryd.func87,Tryd.ntmps87
  go_wp2
  go_ret
  exact ⟨by first|rfl|(simp;done)|(simp [*];done),by repeat (first|exact Drawn0.refl _|apply Drawn0.step)⟩
/-! ### strandlineref03_More: function 84 -/
mutual
def strandlineref03_More.l0 : Nat → List Int → Int → Int → Option (Int)
 |0,_,_,_ => none
 |k + 1,x1,x5,x6 => if x6 < (x1.length : Int) then (if 0 ≤ x6 then (strandlineref03_More.l1 k x1 (Go.bits .xor .u32 x5 ((rd x1 x6) % 4294967296)) x6 0) else (none)) else (some ((4294967295 - x5) % 4294967296))
def strandlineref03_More.l1 : Nat → List Int → Int → Int → Int → Option (Int)
 |0,_,_,_,_ => none
 |k + 1,x1,x5,x6,x7 => if x7 < 8 then ((strandlineref03_Step.f x5).bind fun t126 => (strandlineref03_More.l1 k x1 t126 x6 (wrap64 (x7 + 1)))) else (strandlineref03_More.l0 k x1 x5 (wrap64 (x6 + 1)))
end
def strandlineref03_More.f (k : Nat) (a0 : Int) (l1 : List Int) : Option (Int) := strandlineref03_More.l0 k l1 ((4294967295 - a0) % 4294967296) 0
theorem strandlineref03_More.mono_l : ∀ k,(∀ y0 y1 y2,LeO (strandlineref03_More.l0 k y0 y1 y2) (strandlineref03_More.l0 (k + 1) y0 y1 y2)) ∧ (∀ y0 y1 y2 y3,LeO (strandlineref03_More.l1 k y0 y1 y2 y3) (strandlineref03_More.l1 (k + 1) y0 y1 y2 y3))
 |0 => ⟨fun _ _ _ r h => by simp [strandlineref03_More.l0] at h,fun _ _ _ _ r h => by simp [strandlineref03_More.l1] at h⟩
 |k + 1 => by
  obtain ⟨ih0,ih1⟩ := strandlineref03_More.mono_l k
  refine ⟨?_,?_⟩
  ·intro y0 y1 y2
   unfold strandlineref03_More.l0
   repeat' first
   |(with_reducible exact ih0 _ _ _)
   |(with_reducible exact ih1 _ _ _ _)
   |(with_reducible exact LeO.refl _)
   |(with_reducible exact LeO.none _)
   |(with_reducible refine LeO.ite ?_ ?_)
   |(with_reducible refine LeO.bind ?_ (fun _ => ?_))
   |exact ih0 _ _ _
   |exact ih1 _ _ _ _
   |exact LeO.none _
   |refine LeO.ite ?_ ?_
   |refine LeO.bind ?_ (fun _ => ?_)
  ·intro y0 y1 y2 y3
   unfold strandlineref03_More.l1
   repeat' first
   |(with_reducible exact ih0 _ _ _)
   |(with_reducible exact ih1 _ _ _ _)
   |(with_reducible exact LeO.refl _)
   |(with_reducible exact LeO.none _)
   |(with_reducible refine LeO.ite ?_ ?_)
   |(with_reducible refine LeO.bind ?_ (fun _ => ?_))
   |exact ih0 _ _ _
   |exact ih1 _ _ _ _
   |exact LeO.none _
   |refine LeO.ite ?_ ?_
   |refine LeO.bind ?_ (fun _ => ?_)
theorem strandlineref03_More.mono : ∀ a0 a1 k,LeO (strandlineref03_More.f k a0 a1) (strandlineref03_More.f (k + 1) a0 a1) := by
 intro a0 a1 k
 obtain ⟨ih0,ih1⟩ := strandlineref03_More.mono_l k
 unfold strandlineref03_More.f
 repeat' first
   |(with_reducible exact ih0 _ _ _)
   |(with_reducible exact ih1 _ _ _ _)
   |(with_reducible exact LeO.refl _)
   |(with_reducible exact LeO.none _)
   |(with_reducible refine LeO.ite ?_ ?_)
   |(with_reducible refine LeO.bind ?_ (fun _ => ?_))
   |exact ih0 _ _ _
   |exact ih1 _ _ _ _
   |exact LeO.none _
   |refine LeO.ite ?_ ?_
   |refine LeO.bind ?_ (fun _ => ?_)
set_option maxHeartbeats 8000000 in
set_option maxRecDepth 100000 in
theorem strandlineref03_More.calls (k : Nat) (a0 : Int) (A1 : Option Addr) (c1 : Nat) (l1 : List Int) (r : Int) (w : World) (hr1 : Kd.C (Kd.int .u8) w A1 l1.length l1) (hc1 : l1.length ≤ c1) (h : strandlineref03_More.f k a0 l1 = some r) :
  Calls Tryd.prog 84 #[.int .u32 a0,.slice A1 l1.length c1] w fun e w' => e = .returned (.int .u32 r) ∧ Drawn0 w w' := by
 have hu73 := Tryd.underlying73
 have hu76 := Tryd.underlying76
 have hu83 := Tryd.underlying83
 have hu94 := Tryd.underlying94
 have hu106 := Tryd.underlying106
 have HR1 := Aside0.mk hr1
 have HC1 := Aside0.mk hc1
 clear hr1 hc1
 have H : (strandlineref03_More.l0 k l1 ((4294967295 - a0) % 4294967296) 0) = some r := h
 clear h
 have H' := Aside0.mk H
 clear H
 go_enter Tryd.func84,Tryd.ntmps84
 go_wp2
 go_loopg [5,6] k (fun kq v5 v6 w' => ∃ (x5_1 : Int) (x6_1 : Int),v5 = .int .u32 x5_1 ∧ v6 = .int .i64 x6_1 ∧ Aside0 (strandlineref03_More.l0 kq l1 x5_1 x6_1 = some r) ∧ Aside0 (kq ≤ k) ∧ Drawn0 w w')
 case atStart => exact ⟨((4294967295 - a0) % 4294967296),(0),(by first|rfl|(simp;done)|(simp [*];done)),(by first|rfl|(simp;done)|(simp [*];done)),H',⟨Nat.le_refl _⟩,by repeat (first|exact Drawn0.refl _|apply Drawn0.step)⟩
 case round =>
  clear H'
  try clear c1
  try clear p2
  obtain ⟨x5_1,x6_1,rfl,rfl,HA,HK1,⟨m1,rfl⟩⟩ := hrel
  cases gk with
  |zero => exact absurd HA.out (by simp [strandlineref03_More.l0])
  |succ k1 =>
   have H := HA.out
   clear HA
   simp only [strandlineref03_More.l0] at H
   by_cases c3 : x6_1 < (l1.length : Int)
   ·rw [if_pos c3] at H
    have c3b0 : decide (x6_1 < (l1.length : Int)) = true := decide_eq_true c3
    clear c3
    by_cases c4 : 0 ≤ x6_1
    ·rw [if_pos c4] at H
     have c4b0 : decide (0 ≤ x6_1) = true := decide_eq_true c4
     clear c4
     have H' := Aside0.mk H
     clear H
     have p125 : 0 ≤ (x6_1 : Int) := of_decide_eq_true (by first|(with_reducible assumption)|assumption)
     have q125 : x6_1 < (l1.length : Int) := of_decide_eq_true (by first|(with_reducible assumption)|assumption)
     obtain ⟨ad125,e125,hx125_0⟩ := Kd.at_int HR1.out x6_1 p125 q125
     cases e125
     replace p125 := eq_true p125
     replace q125 := eq_true q125
     go_wp2
     go_loopg [5,7] k1 (fun kq v5 v7 w' => ∃ (x5_2 : Int) (x7_2 : Int),v5 = .int .u32 x5_2 ∧ v7 = .int .i64 x7_2 ∧ Aside0 (strandlineref03_More.l1 kq l1 x5_2 x6_1 x7_2 = some r) ∧ Aside0 (kq ≤ k1) ∧ Drawn0 w w')
     case atStart => exact ⟨(Go.bits .xor .u32 x5_1 ((rd l1 x6_1) % 4294967296)),(0),(by first|rfl|(simp;done)|(simp [*];done)),(by first|rfl|(simp;done)|(simp [*];done)),H',⟨Nat.le_refl _⟩,by repeat (first|exact Drawn0.refl _|apply Drawn0.step)⟩
     case round =>
      clear H'
      try clear c1
      try clear p1
      try clear q1
      try clear hx1
      try clear p2
      try clear c3
      try clear c3b0
      try clear c4
      try clear c4b0
      try clear hx125_0
      try clear p125
      try clear p2
      try clear q125
      obtain ⟨x5_2,x7_2,rfl,rfl,HA,HK2,⟨m2,rfl⟩⟩ := hrel
      cases gk with
      |zero => exact absurd HA.out (by simp [strandlineref03_More.l1])
      |succ k2 =>
       have H := HA.out
       clear HA
       simp only [strandlineref03_More.l1] at H
       by_cases c5 : x7_2 < 8
       ·rw [if_pos c5] at H
        have c5b0 : decide (x7_2 < 8) = true := decide_eq_true c5
        clear c5
        replace H := Option.bind_eq_some_iff.mp H
        obtain ⟨t126,A60,H⟩ := H
        replace H : (strandlineref03_More.l1 k2 l1 t126 x6_1 (wrap64 (x7_2 + 1))) = some r := H
        have A6 := Aside0.mk A60
        clear A60
        have H' := Aside0.mk H
        clear H
        go_wp2_with (first|((with_reducible refine gate_callee (f := 87) rfl ?_);refine goesL_ (some 28) rfl rfl Tryd.func87 (by kernel_rfl) rfl #[.int .u32 x5_2] rfl (by (try simp only [List.map_toArray,List.map_cons,List.map_nil]);first|done|rfl|(simp only [List.length_drop,List.length_take];rfl)) ?_;(with_reducible refine (strandlineref03_Step.calls x5_2 t126 _ A6.out).mono ?_);rintro e w' ⟨rfl,⟨nd,rfl⟩⟩;refine ⟨_,rfl,?_⟩))
        go_roundg k2
        case measure => have := HK1.out;have := HK2.out;omega
        case rel => exact ⟨(t126),(wrap64 (x7_2 + 1)),(by first|rfl|(simp;done)|(simp [*];done)),(by first|rfl|(simp;done)|(simp [*];done)),H',⟨by have := HK1.out;have := HK2.out;omega⟩,by repeat (first|exact Drawn0.refl _|apply Drawn0.step)⟩
       ·rw [if_neg c5] at H
        have c5b0 : decide (x7_2 < 8) = false := decide_eq_false c5
        clear c5
        have H' := Aside0.mk H
        clear H
        go_wp2
        go_roundg k2
        case measure => have := HK1.out;have := HK2.out;omega
        case rel => exact ⟨(x5_2),(wrap64 (x6_1 + 1)),(by first|rfl|(simp;done)|(simp [*];done)),(by first|rfl|(simp;done)|(simp [*];done)),H',⟨by have := HK1.out;have := HK2.out;omega⟩,by repeat (first|exact Drawn0.refl _|apply Drawn0.step)⟩
    ·rw [if_neg c4] at H
     exact absurd H (by simp)
   ·rw [if_neg c3] at H
    have c3b0 : decide (x6_1 < (l1.length : Int)) = false := decide_eq_false c3
    clear c3
    obtain rfl := Option.some.inj H
    go_wp2
    go_ret
    exact ⟨by first|rfl|(simp;done)|(simp [*];done),by repeat (first|exact Drawn0.refl _|apply Drawn0.step)⟩
/-! ### strandlineref03_Of: function 78 -/
def strandlineref03_Of.f (k : Nat) (l0 : List Int) : Option (Int) := (strandlineref03_More.f k 0 l0).bind fun t127 => (some t127)
theorem strandlineref03_Of.mono : ∀ a0 k,LeO (strandlineref03_Of.f k a0) (strandlineref03_Of.f (k + 1) a0) := by
 intro a0 k
 unfold strandlineref03_Of.f
 repeat' first
   |(with_reducible exact strandlineref03_More.mono _ _ _)
   |(with_reducible exact LeO.refl _)
   |(with_reducible exact LeO.none _)
   |(with_reducible refine LeO.ite ?_ ?_)
   |(with_reducible refine LeO.bind ?_ (fun _ => ?_))
   |exact strandlineref03_More.mono _ _ _
   |exact LeO.none _
   |refine LeO.ite ?_ ?_
   |refine LeO.bind ?_ (fun _ => ?_)
set_option maxHeartbeats 8000000 in
set_option maxRecDepth 100000 in
theorem strandlineref03_Of.calls (k : Nat) (A0 : Option Addr) (c0 : Nat) (l0 : List Int) (r : Int) (w : World) (hr0 : Kd.C (Kd.int .u8) w A0 l0.length l0) (hc0 : l0.length ≤ c0) (h : strandlineref03_Of.f k l0 = some r) :
  Calls Tryd.prog 78 #[.slice A0 l0.length c0] w fun e w' => e = .returned (.int .u32 r) ∧ Drawn0 w w' := by
 have hu73 := Tryd.underlying73
 have hu76 := Tryd.underlying76
 have hu83 := Tryd.underlying83
 have hu94 := Tryd.underlying94
 have hu106 := Tryd.underlying106
 have HR0 := Aside0.mk hr0
 have HC0 := Aside0.mk hc0
 clear hr0 hc0
 have H : ((strandlineref03_More.f k 0 l0).bind fun t127 => (some t127)) = some r := h
 clear h
 replace H := Option.bind_eq_some_iff.mp H
 obtain ⟨t127,A20,H⟩ := H
 replace H : (some t127) = some r := H
 have A2 := Aside0.mk A20
 clear A20
 obtain rfl := Option.some.inj H
 go_enter Tryd.func78,Tryd.ntmps78
 go_wp2_with (first|((with_reducible refine gate_callee (f := 84) rfl ?_);refine goesL_ (some 4) rfl rfl Tryd.func84 (by kernel_rfl) rfl #[.int .u32 0,.slice A0 l0.length c0] rfl (by (try simp only [List.map_toArray,List.map_cons,List.map_nil]);first|done|rfl|(simp only [List.length_drop,List.length_take];rfl)) ?_;(with_reducible refine (strandlineref03_More.calls k 0 _ _ l0 t127 _ ?side1 ?side2 A2.out).mono ?_);(case side1 => repeat (first|exact HR0.out|(with_reducible refine Kd.C_alloc ?_ _)|(with_reducible refine Kd.C_drewN ?_ _)|(with_reducible refine Kd.C_drew ?_)));(case side2 => exact HC0.out);rintro e w' ⟨rfl,⟨nd,rfl⟩⟩;refine ⟨_,rfl,?_⟩))
 go_ret
 exact ⟨by first|rfl|(simp;done)|(simp [*];done),by repeat (first|exact Drawn0.refl _|apply Drawn0.step)⟩
end Go.Proofs.YtaekpfhgdnfciaaDoor.F
end
