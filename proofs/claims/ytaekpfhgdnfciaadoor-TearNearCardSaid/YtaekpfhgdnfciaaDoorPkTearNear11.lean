/- Texts of mine put together: CrcOwn, FkFrag, FragEnc, RBytes, ImgR, ImgE, ImgL, ImgMore, ScanP, PlanBackM. -/
import Derived.Test.YtaekpfhgdnfciaaDoorPkTearNear7
import Derived.Test.YtaekpfhgdnfciaaDoorPkTearNear10
import Derived.Test.YtaekpfhgdnfciaaDoorPkTearNear6
import Derived.Test.YtaekpfhgdnfciaaDoorPkTearNear4
import Derived.Test.YtaekpfhgdnfciaaDoorPkTearNear3
import Derived.Test.YtaekpfhgdnfciaaDoorPkTearNear8
set_option linter.unusedVariables false
set_option linter.unusedSimpArgs false

section
namespace Go.Proofs.YtaekpfhgdnfciaaDoor.O
open Go.RowKit Go.Proofs.YtaekpfhgdnfciaaDoorW.PrintWords Go.Proofs.YtaekpfhgdnfciaaDoorW.PrintLast Go.Proofs.YtaekpfhgdnfciaaDoorW.PrintMore Go.Proofs.YtaekpfhgdnfciaaDoor.F Go.Proofs.YtaekpfhgdnfciaaDoor.F.Nums Go.Proofs.YtaekpfhgdnfciaaDoor.Plain
theorem put_own {w0 W : World} {F : Nat → Option Obj} {L : List Res} (H : Own w0 F L W) (n : Nat) (hn : n < 18446744073709551616) (wi : Int) (i : Nat) (hw : wi = (i : Int)) (hi : i ≤ 8) :
  Calls Tryd.prog 88 #[.int .u64 (n : Int),.int .i64 wi] W fun e W' => ∃ A c,e = .returned (.slice A i c) ∧ i ≤ c ∧ (Kd.int .u8).C W' A i (putl n i) ∧ Own w0 F L W' := by
 subst hw
 have hc : (cl8 (i : Int)).toNat = i := by unfold cl8;split <;> (try split) <;> omega
 have he := put_eq 9 (by decide) n hn (i : Int)
 rw [hc] at he
 refine (word_Put.calls 9 n (i : Int) _ W he).mono ?_
 rintro e W' ⟨v,rfl,hR,hb⟩
 obtain ⟨A,c,rfl,hl,hC⟩ := Kd.R_reads hR
 rw [putl_len] at hl hC ⊢
 exact ⟨A,c,rfl,hl,hC,H.to hb⟩
theorem of_own {w0 W : World} {F : Nat → Option Obj} {L : List Res} (H : Own w0 F L W) (hH : Half w0) (A : Option Addr) (n c : Nat) (xs : List Int) (hC : (Kd.int .u8).C W A n xs) (hc : n ≤ c) (hb : Bytes xs) :
  Calls Tryd.prog 72 #[.slice A n c] W fun e W' => e = .returned (.int .u32 (moreI 0 xs)) ∧ Own w0 F L W' := by
 have hn : xs.length = n := hC.1
 subst hn
 refine (of_calls A c xs W hC hc hb (hH.below H.below)).mono ?_
 rintro e W' ⟨rfl,hd⟩
 exact ⟨rfl,H.to hd.below⟩
theorem mask_own {w0 W : World} {F : Nat → Option Obj} {L : List Res} (H : Own w0 F L W) (xs : List Int) :
  Calls Tryd.prog 71 #[.int .u32 (moreI 0 xs)] W fun e W' => e = .returned (.int .u32 (sumN xs : Int)) ∧ Own w0 F L W' := by
 refine (crc_Mask.calls (moreI 0 xs) _ W (crc_sum xs)).mono ?_
 rintro e W' ⟨rfl,hd⟩
 exact ⟨rfl,H.to hd.below⟩
theorem drop_C {w : World} {A : Option Addr} {n : Nat} {xs : List Int} (h : (Kd.int .u8).C w A n xs) (lo c : Nat) (h1 : lo ≤ n) (hc : n ≤ c) : (Kd.int .u8).C w (dropA A lo c 1) (n - lo) (xs.drop lo) := by
 have hl := h.1
 have hm := h.2.1
 have hR := (Rd.of_C h).dropA lo c 1 (fun e => by rw [nums_length];omega)
 rw [Nat.mul_one,nums_drop] at hR
 exact hR.C (by rw [List.length_drop];omega) (by omega)
theorem getn_pre {l m : List Int} (i : Nat) (h : ∀ j,j < i → l[j]? = m[j]?) : getn l i = getn m i := by
 induction i with
 |zero => rfl
 |succ i ih =>
  unfold getn
  rw [ih (fun j hj => h j (by omega))]
  congr 3
  unfold rd
  rw [Int.toNat_natCast,List.getD_eq_getElem?_getD,List.getD_eq_getElem?_getD,h i (by omega)]
theorem get_own {w0 W : World} {F : Nat → Option Obj} {L : List Res} (H : Own w0 F L W) (A : Option Addr) (n c : Nat) (xs : List Int) (hC : (Kd.int .u8).C W A n xs) (hc : n ≤ c) (hb : Bytes xs) (h8 : n ≤ 8) :
  Calls Tryd.prog 69 #[.slice A n c] W fun e W' => e = .returned (.int .u64 (getn xs n : Nat)) ∧ Own w0 F L W' := by
 have hn : xs.length = n := hC.1
 subst hn
 have he := get_eq (l := xs) (wf_of_bytes hb) 9 (by decide)
 rw [Nat.min_eq_left h8] at he
 refine (word_Get.calls 9 A c xs _ W hC hc he).mono ?_
 rintro e W' ⟨rfl,hb⟩
 exact ⟨rfl,H.to hb⟩
theorem cut_C {w : World} {A : Option Addr} {n : Nat} {xs : List Int} (h : (Kd.int .u8).C w A n xs) (lo hi c : Nat) (h1 : lo ≤ hi) (h2 : hi ≤ n) (hc : n ≤ c) : (Kd.int .u8).C w (dropA A lo c 1) (hi - lo) ((xs.take hi).drop lo) := by
 have hm := h.2.1
 have hl : xs.length = n := h.1
 have hR := ((Rd.of_C h).take hi).dropA lo c 1 (fun e => by rw [List.length_take,nums_length];omega)
 rw [nums_take,Nat.mul_one,nums_drop] at hR
 exact hR.C (by rw [List.length_drop,List.length_take];omega) (by omega)
theorem r_loadRd0 {P : Program} {o : Oper} {a : Act} {W : World} {p : Addr} {cs : List Value} (ty : TypeId) (x : Operand) (ho : o.op = .load ty x) (hx : a.eval x = .pointer (some p)) (hR : Rd W (some p) cs)
  (n : Nat) (d : TypeDesc) (hu : P.underlying ty = some d) (hd : d.isRow = true) (hi : (P.info? ty).map (·.size) = some n) (hn : 0 < n) (hl : cs.length = n) :
  (execOp a.eval o).run P W = .ok (.value (.agg cs.toArray)) W := by
 have h := r_loadRd (P := P) (o := o) (a := a) ty x ho 0 (ad := p) (cs := cs) (by rw [hx];congr 2) hR n d hu hd hi hn (by omega)
 rwa [List.drop_zero,List.take_of_length_le (by omega)] at h
theorem rget_own {w0 W : World} {F : Nat → Option Obj} {L : List Res} (H : Own w0 F L W) (A : Option Addr) (n c : Nat) (xs : List Int) (hC : (Kd.int .u8).C W A n xs) (hc : n ≤ c) (hb : Bytes xs) (h8 : n ≤ 8) :
  Calls Tryd.prog 75 #[.slice A n c] W fun e W' => e = .returned (.int .u64 (getn xs n : Nat)) ∧ Own w0 F L W' := by
 have hn : xs.length = n := hC.1
 subst hn
 have he := rget_eq (l := xs) (wf_of_bytes hb) 81 (by decide)
 rw [Nat.min_eq_left h8] at he
 refine (strandlineref01_Get.calls 81 A c xs _ W hC hc he).mono ?_
 rintro e W' ⟨rfl,hb⟩
 exact ⟨rfl,H.to hb.below⟩
end Go.Proofs.YtaekpfhgdnfciaaDoor.O
end

section
namespace Go.Proofs.YtaekpfhgdnfciaaDoor.F
open Go.RowKit Go.Proofs.YtaekpfhgdnfciaaDoorW.PrintWords Go.Proofs.YtaekpfhgdnfciaaDoorW.PrintLast Go.Proofs.YtaekpfhgdnfciaaDoorW.PrintMore
attribute [local go_sem high] eqA83
attribute [local go_sem] field83_0
attribute [local go_sem] field83_1
attribute [local go_sem] max2_int min2_int max_two min_two max_three min_three max_four min_four
/-! ### frag_right: function 70 -/
def frag_right.f (a0_0 : Int) (a0_1 : Int) (l0_2 : List Int) : Option (Bool) := if a0_0 ≥ 1 then (if a0_0 ≤ 4 then (some (decide ((l0_2.length : Int) ≤ 197))) else (some false)) else (some false)
set_option maxHeartbeats 8000000 in
set_option maxRecDepth 100000 in
theorem frag_right.calls (a0_0 : Int) (a0_1 : Int) (A0_2 : Option Addr) (c0_2 : Nat) (l0_2 : List Int) (r : Bool) (w : World) (hr0_2 : Kd.C (Kd.int .u8) w A0_2 l0_2.length l0_2) (hc0_2 : l0_2.length ≤ c0_2) (h : frag_right.f a0_0 a0_1 l0_2 = some r) :
  Calls Tryd.prog 70 #[.agg #[.int .i64 a0_0,.int .u32 a0_1,.slice A0_2 l0_2.length c0_2]] w fun e w' => e = .returned (.bool r) ∧ Below w.heap.size w w' := by
 have hu73 := Tryd.underlying73
 have hu83 := Tryd.underlying83
 have hu94 := Tryd.underlying94
 have hu106 := Tryd.underlying106
 have hu76 := Tryd.underlying76
 have HR0_2 := Aside0.mk hr0_2
 have HC0_2 := Aside0.mk hc0_2
 clear hr0_2 hc0_2
 have HB := Aside0.mk (Below.refl w.heap.size w)
 have H : (if a0_0 ≥ 1 then (if a0_0 ≤ 4 then (some (decide ((l0_2.length : Int) ≤ 197))) else (some false)) else (some false)) = some r := h
 clear h
 by_cases c2 : a0_0 ≥ 1
 ·rw [if_pos c2] at H
  have c2b0 : decide (1 ≤ a0_0) = true := decide_eq_true c2
  clear c2
  by_cases c3 : a0_0 ≤ 4
  ·rw [if_pos c3] at H
   have c3b0 : decide (a0_0 ≤ 4) = true := decide_eq_true c3
   clear c3
   obtain rfl := Option.some.inj H
   go_enter Tryd.func70,Tryd.ntmps70
   go_wp2_with (first|((with_reducible refine gate_dst (N := 1) rfl ?_);(try (refine gate_guard (by rfl) ?_;dsimp only));refine box_event ?hg (N := 1) ?hd (cs := #[.int .i64 a0_0,.int .u32 a0_1,.slice A0_2 l0_2.length c0_2]) (t := 76) ?hr ?_;(case hd => rfl);(case hg => rfl);(case hr => first|(go_simp;done)|(go_simp;rfl));intro gb101 hg w4 hbox hb;have n0_ := Aside0.mk (below_step (by repeat (first|(with_reducible first|exact HB.out|apply below_alloc|apply pw_below_drewN|apply below_drew1)|exact HB.out)) hb);have n1_ := Aside0.mk (hbox);have n2_ := Aside0.mk ((by rw [hg];exact (below_size (by repeat (first|(with_reducible first|exact HB.out|apply below_alloc|apply pw_below_drewN|apply below_drew1)|exact HB.out))) : w.heap.size ≤ gb101));have n3_ := Aside0.mk ((by rw [hg];exact (below_size (by repeat (first|(with_reducible first|exact HB.out|apply below_alloc|apply pw_below_drewN|apply below_drew1)|exact HB.out))) : w.heap.size ≤ gb101));clear HB;have HB := n0_;have BK101 := n1_;have GW101 := n2_;have GE101 := n3_;clear n0_ n1_ n2_ n3_;clear hb hbox hg;have hcz5_0 : w4.cell? ⟨gb101,0,none⟩ = some (.int .i64 a0_0) := (blk_cell BK101.out 0).trans rfl;have hcz5_1 : w4.cell? ⟨gb101,1,none⟩ = some (.int .u32 a0_1) := (blk_cell BK101.out 1).trans rfl;have hcz5_2 : w4.cell? ⟨gb101,2,none⟩ = some (.slice A0_2 l0_2.length c0_2) := (blk_cell BK101.out 2).trans rfl;have hfz5_0 := blk_frozen BK101.out 0;have hfz5_1 := blk_frozen BK101.out 1;have hfz5_2 := blk_frozen BK101.out 2))
   go_ret
   exact ⟨by first|rfl|(simp [errW_none,errW_some] <;> rfl)|(simp [*,errW_none,errW_some] <;> rfl),by repeat (first|(with_reducible first|exact HB.out|apply below_alloc|apply pw_below_drewN|apply below_drew1|refine below_set ?_ GE101.out)|exact HB.out)⟩
  ·rw [if_neg c3] at H
   have c3b0 : decide (a0_0 ≤ 4) = false := decide_eq_false c3
   clear c3
   obtain rfl := Option.some.inj H
   go_enter Tryd.func70,Tryd.ntmps70
   go_wp2_with (first|((with_reducible refine gate_dst (N := 1) rfl ?_);(try (refine gate_guard (by rfl) ?_;dsimp only));refine box_event ?hg (N := 1) ?hd (cs := #[.int .i64 a0_0,.int .u32 a0_1,.slice A0_2 l0_2.length c0_2]) (t := 76) ?hr ?_;(case hd => rfl);(case hg => rfl);(case hr => first|(go_simp;done)|(go_simp;rfl));intro gb101 hg w6 hbox hb;have n0_ := Aside0.mk (below_step (by repeat (first|(with_reducible first|exact HB.out|apply below_alloc|apply pw_below_drewN|apply below_drew1)|exact HB.out)) hb);have n1_ := Aside0.mk (hbox);have n2_ := Aside0.mk ((by rw [hg];exact (below_size (by repeat (first|(with_reducible first|exact HB.out|apply below_alloc|apply pw_below_drewN|apply below_drew1)|exact HB.out))) : w.heap.size ≤ gb101));have n3_ := Aside0.mk ((by rw [hg];exact (below_size (by repeat (first|(with_reducible first|exact HB.out|apply below_alloc|apply pw_below_drewN|apply below_drew1)|exact HB.out))) : w.heap.size ≤ gb101));clear HB;have HB := n0_;have BK101 := n1_;have GW101 := n2_;have GE101 := n3_;clear n0_ n1_ n2_ n3_;clear hb hbox hg;have hcz7_0 : w6.cell? ⟨gb101,0,none⟩ = some (.int .i64 a0_0) := (blk_cell BK101.out 0).trans rfl;have hcz7_1 : w6.cell? ⟨gb101,1,none⟩ = some (.int .u32 a0_1) := (blk_cell BK101.out 1).trans rfl;have hcz7_2 : w6.cell? ⟨gb101,2,none⟩ = some (.slice A0_2 l0_2.length c0_2) := (blk_cell BK101.out 2).trans rfl;have hfz7_0 := blk_frozen BK101.out 0;have hfz7_1 := blk_frozen BK101.out 1;have hfz7_2 := blk_frozen BK101.out 2))
   go_ret
   exact ⟨by first|rfl|(simp [errW_none,errW_some] <;> rfl)|(simp [*,errW_none,errW_some] <;> rfl),by repeat (first|(with_reducible first|exact HB.out|apply below_alloc|apply pw_below_drewN|apply below_drew1|refine below_set ?_ GE101.out)|exact HB.out)⟩
 ·rw [if_neg c2] at H
  have c2b0 : decide (1 ≤ a0_0) = false := decide_eq_false c2
  clear c2
  obtain rfl := Option.some.inj H
  go_enter Tryd.func70,Tryd.ntmps70
  go_wp2_with (first|((with_reducible refine gate_dst (N := 1) rfl ?_);(try (refine gate_guard (by rfl) ?_;dsimp only));refine box_event ?hg (N := 1) ?hd (cs := #[.int .i64 a0_0,.int .u32 a0_1,.slice A0_2 l0_2.length c0_2]) (t := 76) ?hr ?_;(case hd => rfl);(case hg => rfl);(case hr => first|(go_simp;done)|(go_simp;rfl));intro gb101 hg w8 hbox hb;have n0_ := Aside0.mk (below_step (by repeat (first|(with_reducible first|exact HB.out|apply below_alloc|apply pw_below_drewN|apply below_drew1)|exact HB.out)) hb);have n1_ := Aside0.mk (hbox);have n2_ := Aside0.mk ((by rw [hg];exact (below_size (by repeat (first|(with_reducible first|exact HB.out|apply below_alloc|apply pw_below_drewN|apply below_drew1)|exact HB.out))) : w.heap.size ≤ gb101));have n3_ := Aside0.mk ((by rw [hg];exact (below_size (by repeat (first|(with_reducible first|exact HB.out|apply below_alloc|apply pw_below_drewN|apply below_drew1)|exact HB.out))) : w.heap.size ≤ gb101));clear HB;have HB := n0_;have BK101 := n1_;have GW101 := n2_;have GE101 := n3_;clear n0_ n1_ n2_ n3_;clear hb hbox hg;have hcz9_0 : w8.cell? ⟨gb101,0,none⟩ = some (.int .i64 a0_0) := (blk_cell BK101.out 0).trans rfl;have hcz9_1 : w8.cell? ⟨gb101,1,none⟩ = some (.int .u32 a0_1) := (blk_cell BK101.out 1).trans rfl;have hcz9_2 : w8.cell? ⟨gb101,2,none⟩ = some (.slice A0_2 l0_2.length c0_2) := (blk_cell BK101.out 2).trans rfl;have hfz9_0 := blk_frozen BK101.out 0;have hfz9_1 := blk_frozen BK101.out 1;have hfz9_2 := blk_frozen BK101.out 2))
  go_ret
  exact ⟨by first|rfl|(simp [errW_none,errW_some] <;> rfl)|(simp [*,errW_none,errW_some] <;> rfl),by repeat (first|(with_reducible first|exact HB.out|apply below_alloc|apply pw_below_drewN|apply below_drew1|refine below_set ?_ GE101.out)|exact HB.out)⟩
end Go.Proofs.YtaekpfhgdnfciaaDoor.F
end

section
namespace Go.Proofs.YtaekpfhgdnfciaaDoor.O
open Go.RowKit Go.Proofs.YtaekpfhgdnfciaaDoorW.PrintWords Go.Proofs.YtaekpfhgdnfciaaDoorW.PrintLast Go.Proofs.YtaekpfhgdnfciaaDoorW.PrintMore Go.Proofs.YtaekpfhgdnfciaaDoor.F Go.Proofs.YtaekpfhgdnfciaaDoor.F.Nums Go.Proofs.YtaekpfhgdnfciaaDoor.Plain
theorem right_eq (kind ep : Int) (data : List Int) : frag_right.f kind ep data = some (rightF kind data.length) := by
 unfold frag_right.f rightF
 by_cases h1 : kind ≥ 1
 ·by_cases h2 : kind ≤ 4
  ·rw [if_pos h1,if_pos h2,decide_eq_true (show 1 ≤ kind from h1),decide_eq_true h2]
   simp only [Bool.true_and,Option.some.injEq]
   rw [decide_eq_decide]
   omega
  ·rw [if_pos h1,if_neg h2,decide_eq_false h2];simp
 ·rw [if_neg h1,decide_eq_false (show ¬ 1 ≤ kind from h1)];simp
theorem right_parts {kind : Int} {n : Nat} (h : rightF kind n = true) : 1 ≤ kind ∧ kind ≤ 4 ∧ n ≤ 197 := by
 unfold rightF at h
 simp at h
 omega
def headL (n : Nat) (kind ep : Int) : List Int := zs 4 ++ (putl n 2 ++ (kind :: putl ep.toNat 4))
theorem headL_len (n : Nat) (kind ep : Int) : (headL n kind ep).length = 11 := by simp [headL,putl_len,zs]
theorem head_of (n : Nat) (kind ep : Int) : splice ((splice (zs 11) 4 (putl n 2)).set 6 kind) 7 (putl ep.toNat 4) = headL n kind ep := by
 obtain ⟨a,b,hp⟩ : ∃ a b,putl n 2 = [a,b] := by
  match h : putl n 2,putl_len n 2 with
  |[a,b],_ => exact ⟨a,b,rfl⟩
 obtain ⟨c,d,e,f,hq⟩ : ∃ c d e f,putl ep.toNat 4 = [c,d,e,f] := by
  match h : putl ep.toNat 4,putl_len ep.toNat 4 with
  |[c,d,e,f],_ => exact ⟨c,d,e,f,rfl⟩
 unfold headL
 rw [hp,hq]
 rfl
theorem head_body (kind ep : Int) (data : List Int) : (headL data.length kind ep ++ data).drop 4 = bodyL kind ep data := by
 unfold headL bodyL
 rw [List.append_assoc,List.drop_append_of_le_length (by simp [zs]),List.drop_of_length_le (by simp [zs]),List.nil_append]
 simp
theorem head_enc (kind ep : Int) (data : List Int) : splice (headL data.length kind ep ++ data) 0 (putl (sumN (bodyL kind ep data)) 4) = encL kind ep data := by
 unfold splice encL
 rw [List.take_zero,List.nil_append,putl_len,Nat.zero_add,head_body]
set_option maxRecDepth 100000 in
set_option maxHeartbeats 4000000 in
theorem encode_ok (kind ep : Int) (data : List Int) (A : Option Addr) (c : Nat) (w : World) (hC : (Kd.int .u8).C w A data.length data) (hc : data.length ≤ c) (hd : Bytes data) (he : 0 ≤ ep ∧ ep ≤ 4294967295) (hH : Half w) (hr : rightF kind data.length = true) :
  Calls Tryd.prog 85 #[.agg #[.int .i64 kind,.int .u32 ep,.slice A data.length c]] w fun e W => ∃ A' c',e = .returned (.tuple #[.slice A' (11 + data.length) c',.int .i64 0]) ∧ 11 + data.length ≤ c' ∧ (Kd.int .u8).C W A' (11 + data.length) (encL kind ep data) ∧ Below w.heap.size w W := by
 have H := Own.start w
 have FR := fun W (hb : Below w.heap.size w W) => frag_right.calls kind ep A c data _ W (Kd.C_below hC hb) hc (right_eq kind ep data)
 rw [hr] at FR
 obtain ⟨k1,k2,k3⟩ := right_parts hr
 obtain ⟨e,rfl⟩ := Int.eq_ofNat_of_zero_le he.1
 have P1 := fun {W : World} {L : List Res} (H : Own w F0 L W) => put_own H data.length (by omega) 2 2 rfl (by decide)
 have P2 := fun {W : World} {L : List Res} (H : Own w F0 L W) => put_own H e (by omega) 4 4 rfl (by decide)
 have hu1 : IntKind.u64.wrap (data.length : Int) = (data.length : Int) := wu64 (by omega) (by omega)
 have hu2 : IntKind.u64.wrap (e : Int) = (e : Int) := wu64 (by omega) (by omega)
 have hu3 : IntKind.u8.wrap kind = kind := by rw [IntKind.wrap_u8];omega
 have hho := head_of data.length kind (e : Int)
 rw [Int.toNat_natCast] at hho
 generalize hN : data.length = n at *
 go_enter Tryd.func85,Tryd.ntmps85
 go_wp2_with (first
  |((with_reducible refine gate_dst (N := 1) rfl ?_);refine l_boxA rfl H 76 _ rfl _ rfl ?_;clear H;intro g1 W H)
  |((with_reducible refine gate_dst (N := 6) rfl ?_);refine l_loadA rfl H 76 _ rfl _ rfl (by repeat constructor) _ _ Tryd.underlying76 rfl size76 (by first|rfl|assumption|omega|(simp only [nums_length];omega)|simp [nums_length,zs] <;> omega) ?_)
  |((with_reducible refine gate_dst (N := 4) rfl ?_);refine l_allocA rfl H 127 rfl _ zero127 ?_;clear H;intro g4 W H)
  |(go_at_call 70;(with_reducible refine (FR _ H.below).mono ?_);rintro e W ⟨rfl,hb⟩;replace H := H.to hb;clear hb))
 refine start_ (n := 7) (S := Own _ _ _) (ds := [6]) #[f_,f_,f_,f_,f_,f_,f_] (by kernel_rfl) rfl rfl H.drew (fun hHeld => ?_)
 replace H := H.drew
 generalize World.drew _ = W at H hHeld ⊢
 refine pure_ (i := 0) (N := some 9) #[t_,f_,f_,f_,f_,f_,f_] rfl rfl (by kernel_rfl) (fun _ _ _ h => h) (Or.inl ⟨by rfl,by intro w';go_simp;with_reducible rfl⟩) (by simp only [ps_];rfl) ?_
 refine pure_ (i := 1) (N := some 10) #[t_,t_,f_,f_,f_,f_,f_] rfl rfl (by kernel_rfl) (fun _ _ _ h => h) (Or.inl ⟨by rfl,by intro w';go_simp;with_reducible rfl⟩) (by simp only [ps_];rfl) ?_
 refine one_ (i := 2) (N := some 11) #[t_,t_,t_,f_,f_,f_,f_] rfl rfl (by kernel_rfl) (by decide) (fun K hK => ?_)
 refine wanted_ rfl ?_
 refine w_load1 H 38 _ rfl _ _ rfl (by repeat constructor) _ Tryd.underlying38 rfl _ (by first|rfl|assumption|exact nums_at _ (by omega)) ?_
 refine hK.out _ _ ?_ (fun hHeld => ?_)
 ·first|trivial|exact H|exact H.del .head|exact (H.del .head).del .head|exact H.heap (by repeat constructor)
 clear hK K
 refine norm_ (by show Act.put _ (some 11) _ = _;simp only [ps_];rfl) ?_
 refine pure_ (i := 3) (N := some 12) #[t_,t_,t_,t_,f_,f_,f_] rfl rfl (by kernel_rfl) (fun _ _ _ h => h) (Or.inl ⟨by rfl,by intro w';go_simp;with_reducible rfl⟩) (by simp only [ps_];rfl) ?_
 refine pure_ (i := 4) (N := some 13) #[t_,t_,t_,t_,t_,f_,f_] rfl rfl (by kernel_rfl) (fun _ _ _ h => h) (Or.inl ⟨by rfl,by intro w';go_simp;with_reducible rfl⟩) (by simp only [ps_];rfl) ?_
 refine one_ (i := 5) (N := some 14) #[t_,t_,t_,t_,t_,t_,f_] rfl rfl (by kernel_rfl) (by decide) (fun K hK => ?_)
 refine callK_ (P1 H) Tryd.func88 (by kernel_rfl) rfl (by rfl) rfl rfl (by (try simp only [List.map_toArray,List.map_cons,List.map_nil]);first|done|rfl) ?_
 rintro e W ⟨A14,c14,rfl,h14,C14,H'⟩
 refine ⟨_,rfl,?_⟩
 replace H := H'
 clear H'
 refine hK.out _ _ ?_ (fun hHeld => ?_)
 ·first|trivial|exact H|exact H.del .head|exact (H.del .head).del .head|exact H.heap (by repeat constructor)
 clear hK K
 refine norm_ (by show Act.put _ (some 14) _ = _;simp only [ps_];rfl) ?_
 refine last_ (i := 6) (N := some 15) #[t_,t_,t_,t_,t_,t_,t_] rfl rfl (by kernel_rfl) (by decide) (fun K hK => ?_)
 refine wanted_ rfl ?_
 refine w_copyC H _ _ _ _ rfl 5 Tryd.underlying38 size5 _ _ _ _ rfl (by repeat constructor) _ _ _ rfl ((putl n 2)) ?_ (by first|rfl|assumption|omega|(simp only [nums_length];omega)|simp [nums_length,zs] <;> omega) ?_
 ·exact C14
 clear H;intro W H
 refine hK.out _ _ ?_
 clear hK K
 refine norm_ (by show Act.put _ (some 15) _ = _;simp only [ps_];rfl) ?_
 refine done_ (by kernel_rfl) ?_
 clear hHeld
 rw [show (putl n 2).take (min 2 2) = putl n 2 from List.take_of_length_le (by rw [putl_len];decide)] at H
 have hsl : (splice (zs 11) 4 (putl n 2)).length = 11 := by
  unfold splice zs
  simp [putl_len]
 generalize splice (zs 11) 4 (putl n 2) = h1 at H hsl hho
 go_wp2_with (first
  |((with_reducible refine gate_dst (N := 17) rfl ?_);refine l_load1 rfl H 3 _ rfl _ _ rfl (by repeat constructor) _ Tryd.underlying3 rfl _ (by first|rfl|assumption|exact nums_at _ (by omega)) ?_)
  |((with_reducible refine gate_store (t := 5) (p := 19) rfl ?_);refine l_store1 rfl H 5 _ _ rfl _ _ rfl _ (by first|(go_simp;done)|(go_simp;with_reducible rfl)) (by repeat constructor) rfl rfl size5 (by first|rfl|assumption|omega|(simp only [nums_length];omega)|simp [nums_length,zs] <;> omega) ?_;clear H;intro W H))
 rw [nums_set] at H
 have hsl2 : (h1.set 6 kind).length = 11 := by rw [List.length_set,hsl]
 generalize h1.set 6 kind = h2 at H hsl2 hho
 refine start_ (n := 6) (S := Own _ _ _) (ds := [5]) #[f_,f_,f_,f_,f_,f_] (by kernel_rfl) rfl rfl H.drew (fun hHeld => ?_)
 replace H := H.drew
 generalize World.drew _ = W at H hHeld ⊢
 refine pure_ (i := 0) (N := some 20) #[t_,f_,f_,f_,f_,f_] rfl rfl (by kernel_rfl) (fun _ _ _ h => h) (Or.inl ⟨by rfl,by intro w';go_simp;with_reducible rfl⟩) (by simp only [ps_];rfl) ?_
 refine pure_ (i := 1) (N := some 21) #[t_,t_,f_,f_,f_,f_] rfl rfl (by kernel_rfl) (fun _ _ _ h => h) (Or.inl ⟨by rfl,by intro w';go_simp;with_reducible rfl⟩) (by simp only [ps_];rfl) ?_
 refine one_ (i := 2) (N := some 22) #[t_,t_,t_,f_,f_,f_] rfl rfl (by kernel_rfl) (by decide) (fun K hK => ?_)
 refine wanted_ rfl ?_
 refine w_load1 H 67 _ rfl _ _ rfl (by repeat constructor) _ Tryd.underlying67 rfl _ (by first|rfl|assumption|exact nums_at _ (by omega)) ?_
 refine hK.out _ _ ?_ (fun hHeld => ?_)
 ·first|trivial|exact H|exact H.del .head|exact (H.del .head).del .head|exact H.heap (by repeat constructor)
 clear hK K
 refine norm_ (by show Act.put _ (some 22) _ = _;simp only [ps_];rfl) ?_
 refine pure_ (i := 3) (N := some 23) #[t_,t_,t_,t_,f_,f_] rfl rfl (by kernel_rfl) (fun _ _ _ h => h) (Or.inl ⟨by rfl,by intro w';go_simp;with_reducible rfl⟩) (by simp only [ps_];rfl) ?_
 refine one_ (i := 4) (N := some 24) #[t_,t_,t_,t_,t_,f_] rfl rfl (by kernel_rfl) (by decide) (fun K hK => ?_)
 refine callK_ (P2 H) Tryd.func88 (by kernel_rfl) rfl (by rfl) rfl rfl (by (try simp only [List.map_toArray,List.map_cons,List.map_nil]);first|done|rfl) ?_
 rintro e W ⟨A24,c24,rfl,h24,C24,H'⟩
 refine ⟨_,rfl,?_⟩
 replace H := H'
 clear H'
 refine hK.out _ _ ?_ (fun hHeld => ?_)
 ·first|trivial|exact H|exact H.del .head|exact (H.del .head).del .head|exact H.heap (by repeat constructor)
 clear hK K
 refine norm_ (by show Act.put _ (some 24) _ = _;simp only [ps_];rfl) ?_
 refine last_ (i := 5) (N := some 25) #[t_,t_,t_,t_,t_,t_] rfl rfl (by kernel_rfl) (by decide) (fun K hK => ?_)
 refine wanted_ rfl ?_
 refine w_copyC H _ _ _ _ rfl 5 Tryd.underlying38 size5 _ _ _ _ rfl (by repeat constructor) _ _ _ rfl ((putl e 4)) ?_ (by first|rfl|assumption|omega|(simp only [nums_length];omega)|simp [nums_length,zs] <;> omega) ?_
 ·exact C24
 clear H;intro W H
 refine hK.out _ _ ?_
 clear hK K
 refine norm_ (by show Act.put _ (some 25) _ = _;simp only [ps_];rfl) ?_
 refine done_ (by kernel_rfl) ?_
 clear hHeld
 rw [show (putl e 4).take (min 4 4) = putl e 4 from List.take_of_length_le (by rw [putl_len];decide),hho] at H
 have hbb : Bytes (bodyL kind (e : Int) data) := bodyL_bytes (by omega) hd
 have hhb := head_body kind (e : Int) data
 have hhe := head_enc kind (e : Int) data
 have hel := encL_len kind (e : Int) data
 have hhl := headL_len n kind (e : Int)
 have hs4 : sumN (bodyL kind (e : Int) data) < 18446744073709551616 := by have := sumN_lt (bodyL kind (e : Int) data);omega
 have OF := fun {W : World} {L : List Res} (H : Own w F0 L W) A n c hC hc => of_own H hH A n c (bodyL kind (e : Int) data) hC hc hbb
 have MF := fun {W : World} {L : List Res} (H : Own w F0 L W) => mask_own H (bodyL kind (e : Int) data)
 have PF := fun {W : World} {L : List Res} (H : Own w F0 L W) => put_own H (sumN (bodyL kind (e : Int) data)) hs4 4 4 rfl (by decide)
 have hu4 : IntKind.u64.wrap (sumN (bodyL kind (e : Int) data) : Int) = (sumN (bodyL kind (e : Int) data) : Int) := wu64 (by omega) (by omega)
 rw [hN] at hhb hhe hel
 generalize bodyL kind (e : Int) data = BL at *
 generalize hEL : encL kind (e : Int) data = EL at *
 generalize headL n kind (e : Int) = HL at *
 have hmo := moreI_lo BL
 generalize moreI 0 BL = mo at OF MF hmo
 generalize sumN BL = sm at *
 clear hho P1 P2 FR hbb
 rcases Nat.eq_zero_or_pos n with h0|h0
 ·subst h0
  obtain rfl : data = [] := List.eq_nil_of_length_eq_zero hN
  rw [List.append_nil] at hhb hhe
  go_wp2
  refine start_ (n := 5) (S := Own _ _ _) (ds := []) #[f_,f_,f_,f_,f_] (by kernel_rfl) rfl rfl H.drew (fun hHeld => ?_)
  replace H := H.drew
  generalize World.drew _ = W at H hHeld ⊢
  refine pure_ (i := 0) (N := some 26) #[t_,f_,f_,f_,f_] rfl rfl (by kernel_rfl) (fun _ _ _ h => h) (Or.inl ⟨by rfl,by intro w';go_simp;with_reducible rfl⟩) (by simp only [ps_];rfl) ?_
  refine pure_ (i := 1) (N := some 27) #[t_,t_,f_,f_,f_] rfl rfl (by kernel_rfl) (fun _ _ _ h => h) (Or.inl ⟨by rfl,by intro w';go_simp;with_reducible rfl⟩) (by simp only [ps_];rfl) ?_
  refine one_ (i := 2) (N := some 28) #[t_,t_,t_,f_,f_] rfl rfl (by kernel_rfl) (by decide) (fun K hK => ?_)
  refine wanted_ rfl ?_
  refine w_load1 H 38 _ rfl _ _ rfl (by repeat constructor) _ Tryd.underlying38 rfl _ (by first|rfl|assumption|exact nums_at _ (by omega)) ?_
  refine hK.out _ _ ?_ (fun hHeld => ?_)
  ·first|trivial|exact H|exact H.del .head|exact (H.del .head).del .head|exact H.heap (by repeat constructor)
  clear hK K
  refine norm_ (by show Act.put _ (some 28) _ = _;simp only [ps_];rfl) ?_
  refine one_ (i := 3) (N := some 29) #[t_,t_,t_,t_,f_] rfl rfl (by kernel_rfl) (by decide) (fun K hK => ?_)
  refine wanted_ rfl ?_
  refine w_append0 _ _ 38 5 rfl Tryd.underlying38 (by kernel_rfl) ⟨g4,0,none⟩ 11 11 (Nat.le_refl _) rfl A c rfl ?_
  refine hK.out _ _ ?_ (fun hHeld => ?_)
  ·first|trivial|exact H|exact H.del .head|exact (H.del .head).del .head|exact H.heap (by repeat constructor)
  clear hK K
  refine norm_ (by show Act.put _ (some 29) _ = _;simp only [ps_];rfl) ?_
  refine pure_ (i := 4) (N := some 5) #[t_,t_,t_,t_,t_] rfl rfl (by kernel_rfl) (fun _ _ _ h => h) (Or.inl ⟨by rfl,by intro w';go_simp;with_reducible rfl⟩) (by simp only [ps_];rfl) ?_
  refine done_ (by kernel_rfl) ?_
  clear hHeld
  go_wp2
  have C4 : ∀ {W : World},Own w F0 [.blk g4 127 (nums .u8 HL),.blk g1 76 [.int .i64 kind,.int .u32 (e : Int),.slice A 0 c]] W → (Kd.int .u8).C W (some ⟨g4,4,none⟩) 7 BL := fun H => by
   have := H.C .head 4 7 (by omega) (by decide)
   rw [hhb,List.take_of_length_le (by rw [← hhb,List.length_drop];omega)] at this
   exact this
  refine start_ (n := 9) (S := Own _ _ _) (ds := [8]) #[f_,f_,f_,f_,f_,f_,f_,f_,f_] (by kernel_rfl) rfl rfl H.drew (fun hHeld => ?_)
  replace H := H.drew
  generalize World.drew _ = W at H hHeld ⊢
  refine pure_ (i := 0) (N := some 30) #[t_,f_,f_,f_,f_,f_,f_,f_,f_] rfl rfl (by kernel_rfl) (fun _ _ _ h => h) (Or.inl ⟨by rfl,by intro w';go_simp;with_reducible rfl⟩) (by simp only [ps_];rfl) ?_
  refine pure_ (i := 1) (N := some 31) #[t_,t_,f_,f_,f_,f_,f_,f_,f_] rfl rfl (by kernel_rfl) (fun _ _ _ h => h) (Or.inl ⟨by rfl,by intro w';go_simp;with_reducible rfl⟩) (by simp only [ps_];rfl) ?_
  refine pure_ (i := 2) (N := some 32) #[t_,t_,t_,f_,f_,f_,f_,f_,f_] rfl rfl (by kernel_rfl) (fun _ _ _ h => h) (Or.inl ⟨by rfl,by intro w';go_simp;with_reducible rfl⟩) (by simp only [ps_];rfl) ?_
  refine pure_ (i := 3) (N := some 33) #[t_,t_,t_,t_,f_,f_,f_,f_,f_] rfl rfl (by kernel_rfl) (fun _ _ _ h => h) (Or.inl ⟨by rfl,by intro w';go_simp;with_reducible rfl⟩) (by simp only [ps_];rfl) ?_
  refine one_ (i := 4) (N := some 34) #[t_,t_,t_,t_,t_,f_,f_,f_,f_] rfl rfl (by kernel_rfl) (by decide) (fun K hK => ?_)
  refine callK_ (OF H (some ⟨g4,4,none⟩) 7 7 (C4 H) (by decide)) Tryd.func72 (by kernel_rfl) rfl (by rfl) rfl rfl (by (try simp only [List.map_toArray,List.map_cons,List.map_nil]);first|done|rfl) ?_
  rintro e W ⟨rfl,H'⟩
  refine ⟨_,rfl,?_⟩
  replace H := H'
  clear H'
  refine hK.out _ _ ?_ (fun hHeld => ?_)
  ·first|trivial|exact H|exact H.del .head|exact (H.del .head).del .head|exact H.heap (by repeat constructor)
  clear hK K
  refine norm_ (by show Act.put _ (some 34) _ = _;simp only [ps_];rfl) ?_
  refine one_ (i := 5) (N := some 35) #[t_,t_,t_,t_,t_,t_,f_,f_,f_] rfl rfl (by kernel_rfl) (by decide) (fun K hK => ?_)
  refine callK_ (MF H) Tryd.func71 (by kernel_rfl) rfl (by rfl) rfl rfl (by (try simp only [List.map_toArray,List.map_cons,List.map_nil]);first|done|rfl) ?_
  rintro e W ⟨rfl,H'⟩
  refine ⟨_,rfl,?_⟩
  replace H := H'
  clear H'
  refine hK.out _ _ ?_ (fun hHeld => ?_)
  ·first|trivial|exact H|exact H.del .head|exact (H.del .head).del .head|exact H.heap (by repeat constructor)
  clear hK K
  refine norm_ (by show Act.put _ (some 35) _ = _;simp only [ps_];rfl) ?_
  refine pure_ (i := 6) (N := some 36) #[t_,t_,t_,t_,t_,t_,t_,f_,f_] rfl rfl (by kernel_rfl) (fun _ _ _ h => h) (Or.inl ⟨by rfl,by intro w';go_simp;with_reducible rfl⟩) (by simp only [ps_];rfl) ?_
  refine one_ (i := 7) (N := some 37) #[t_,t_,t_,t_,t_,t_,t_,t_,f_] rfl rfl (by kernel_rfl) (by decide) (fun K hK => ?_)
  refine callK_ (PF H) Tryd.func88 (by kernel_rfl) rfl (by rfl) rfl rfl (by (try simp only [List.map_toArray,List.map_cons,List.map_nil]);first|done|rfl) ?_
  rintro e W ⟨A37,c37,rfl,h37,C37,H'⟩
  refine ⟨_,rfl,?_⟩
  replace H := H'
  clear H'
  refine hK.out _ _ ?_ (fun hHeld => ?_)
  ·first|trivial|exact H|exact H.del .head|exact (H.del .head).del .head|exact H.heap (by repeat constructor)
  clear hK K
  refine norm_ (by show Act.put _ (some 37) _ = _;simp only [ps_];rfl) ?_
  refine last_ (i := 8) (N := some 38) #[t_,t_,t_,t_,t_,t_,t_,t_,t_] rfl rfl (by kernel_rfl) (by decide) (fun K hK => ?_)
  refine wanted_ rfl ?_
  refine w_copyC H _ _ _ _ rfl 5 Tryd.underlying38 size5 _ _ _ _ rfl (by repeat constructor) _ _ _ rfl ((putl sm 4)) ?_ (by first|rfl|assumption|omega|(simp only [nums_length];omega)|simp [nums_length,zs] <;> omega) ?_
  ·exact C37
  clear H;intro W H
  refine hK.out _ _ ?_
  clear hK K
  refine norm_ (by show Act.put _ (some 38) _ = _;simp only [ps_];rfl) ?_
  refine done_ (by kernel_rfl) ?_
  clear hHeld
  rw [show (putl sm 4).take (min 4 4) = putl sm 4 from List.take_of_length_le (by rw [putl_len];decide),hhe] at H
  go_wp2
  go_ret2
  refine ⟨_,_,rfl,by omega,?_,H.below⟩
  have := H.C .head 0 11 (by omega) (by decide)
  rw [List.drop_zero,List.take_of_length_le (by omega)] at this
  rw [hEL]
  exact this
 ·go_wp2
  refine start_ (n := 5) (S := Own _ _ _) (ds := []) #[f_,f_,f_,f_,f_] (by kernel_rfl) rfl rfl H.drew (fun hHeld => ?_)
  replace H := H.drew
  generalize World.drew _ = W at H hHeld ⊢
  refine pure_ (i := 0) (N := some 26) #[t_,f_,f_,f_,f_] rfl rfl (by kernel_rfl) (fun _ _ _ h => h) (Or.inl ⟨by rfl,by intro w';go_simp;with_reducible rfl⟩) (by simp only [ps_];rfl) ?_
  refine pure_ (i := 1) (N := some 27) #[t_,t_,f_,f_,f_] rfl rfl (by kernel_rfl) (fun _ _ _ h => h) (Or.inl ⟨by rfl,by intro w';go_simp;with_reducible rfl⟩) (by simp only [ps_];rfl) ?_
  refine one_ (i := 2) (N := some 28) #[t_,t_,t_,f_,f_] rfl rfl (by kernel_rfl) (by decide) (fun K hK => ?_)
  refine wanted_ rfl ?_
  refine w_load1 H 38 _ rfl _ _ rfl (by repeat constructor) _ Tryd.underlying38 rfl _ (by first|rfl|assumption|exact nums_at _ (by omega)) ?_
  refine hK.out _ _ ?_ (fun hHeld => ?_)
  ·first|trivial|exact H|exact H.del .head|exact (H.del .head).del .head|exact H.heap (by repeat constructor)
  clear hK K
  refine norm_ (by show Act.put _ (some 28) _ = _;simp only [ps_];rfl) ?_
  refine one_ (i := 3) (N := some 29) #[t_,t_,t_,t_,f_] rfl rfl (by kernel_rfl) (by decide) (fun K hK => ?_)
  refine wanted_ rfl ?_
  refine w_appendFull H _ _ 38 5 rfl Tryd.underlying38 _ _ _ inf5 rfl (by decide) (by decide) ⟨g4,0,none⟩ 11 (nums .u8 HL) rfl (by rw [nums_length,hhl]) (fun j u hj => by rw [addr_add,H.cell .head,Nat.zero_add];exact hj) A n c (nums .u8 data) rfl h0 (by rw [nums_length,hN,Nat.mul_one]) (Rd.of_C (Kd.C_below hC H.below)) (by omega) ?_
  clear H
  intro v29 W H
  obtain ⟨A29,c29,rfl⟩ := H.row_slice .head
  rw [nums_app] at H
  refine hK.out _ _ ?_ (fun hHeld => ?_)
  ·first|trivial|exact H|exact H.del .head|exact (H.del .head).del .head|exact H.heap (by repeat constructor)
  clear hK K
  refine norm_ (by show Act.put _ (some 29) _ = _;simp only [ps_];rfl) ?_
  refine pure_ (i := 4) (N := some 5) #[t_,t_,t_,t_,t_] rfl rfl (by kernel_rfl) (fun _ _ _ h => h) (Or.inl ⟨by rfl,by intro w';go_simp;with_reducible rfl⟩) (by simp only [ps_];rfl) ?_
  refine done_ (by kernel_rfl) ?_
  clear hHeld
  go_wp2
  have hnc := (H.rowC .head).1
  have C4 : ∀ {W : World},Own w F0 [.row (.slice A29 (11 + n) c29) 5 1 (11 + n) (nums .u8 (HL ++ data)),.blk g4 127 (nums .u8 HL),.blk g1 76 [.int .i64 kind,.int .u32 (e : Int),.slice A n c]] W → (Kd.int .u8).C W (dropA A29 4 c29 1) (11 + n - 4) BL := fun H => by
   have := drop_C (H.rowC .head).2.2 4 c29 (by omega) hnc
   rw [hhb] at this
   exact this
  refine start_ (n := 9) (S := Own _ _ _) (ds := [8]) #[f_,f_,f_,f_,f_,f_,f_,f_,f_] (by kernel_rfl) rfl rfl H.drew (fun hHeld => ?_)
  replace H := H.drew
  generalize World.drew _ = W at H hHeld ⊢
  refine pure_ (i := 0) (N := some 30) #[t_,f_,f_,f_,f_,f_,f_,f_,f_] rfl rfl (by kernel_rfl) (fun _ _ _ h => h) (Or.inl ⟨by rfl,by intro w';go_simp;with_reducible rfl⟩) (by simp only [ps_];rfl) ?_
  refine take_run (i := 1) (N := some 31) #[t_,t_,f_,f_,f_,f_,f_,f_,f_] rfl rfl (by kernel_rfl) (fun _ _ _ _ h => h) (by rfl) hHeld (.slice A29 4 c29) (fun X HX => x_slice_to _ _ rfl rfl Tryd.underlying38 size5 4 rfl (by omega) X) (by simp only [ps_];rfl) ?_
  refine pure_ (i := 2) (N := some 32) #[t_,t_,t_,f_,f_,f_,f_,f_,f_] rfl rfl (by kernel_rfl) (fun _ _ _ h => h) (Or.inl ⟨by rfl,by intro w';go_simp;with_reducible rfl⟩) (by simp only [ps_];rfl) ?_
  refine take_run (i := 3) (N := some 33) #[t_,t_,t_,t_,f_,f_,f_,f_,f_] rfl rfl (by kernel_rfl) (fun _ _ _ _ h => h) (by rfl) hHeld (.slice (dropA A29 4 c29 1) (11 + n - 4) (c29 - 4)) (fun X HX => x_slice_lo _ _ rfl rfl Tryd.underlying38 size5 4 rfl (by omega) X) (by simp only [ps_];rfl) ?_
  refine one_ (i := 4) (N := some 34) #[t_,t_,t_,t_,t_,f_,f_,f_,f_] rfl rfl (by kernel_rfl) (by decide) (fun K hK => ?_)
  refine callK_ (OF H (dropA A29 4 c29 1) (11 + n - 4) (c29 - 4) (C4 H) (by omega)) Tryd.func72 (by kernel_rfl) rfl (by rfl) rfl rfl (by (try simp only [List.map_toArray,List.map_cons,List.map_nil]);first|done|rfl) ?_
  rintro e W ⟨rfl,H'⟩
  refine ⟨_,rfl,?_⟩
  replace H := H'
  clear H'
  refine hK.out _ _ ?_ (fun hHeld => ?_)
  ·first|trivial|exact H|exact H.del .head|exact (H.del .head).del .head|exact H.heap (by repeat constructor)
  clear hK K
  refine norm_ (by show Act.put _ (some 34) _ = _;simp only [ps_];rfl) ?_
  refine one_ (i := 5) (N := some 35) #[t_,t_,t_,t_,t_,t_,f_,f_,f_] rfl rfl (by kernel_rfl) (by decide) (fun K hK => ?_)
  refine callK_ (MF H) Tryd.func71 (by kernel_rfl) rfl (by rfl) rfl rfl (by (try simp only [List.map_toArray,List.map_cons,List.map_nil]);first|done|rfl) ?_
  rintro e W ⟨rfl,H'⟩
  refine ⟨_,rfl,?_⟩
  replace H := H'
  clear H'
  refine hK.out _ _ ?_ (fun hHeld => ?_)
  ·first|trivial|exact H|exact H.del .head|exact (H.del .head).del .head|exact H.heap (by repeat constructor)
  clear hK K
  refine norm_ (by show Act.put _ (some 35) _ = _;simp only [ps_];rfl) ?_
  refine pure_ (i := 6) (N := some 36) #[t_,t_,t_,t_,t_,t_,t_,f_,f_] rfl rfl (by kernel_rfl) (fun _ _ _ h => h) (Or.inl ⟨by rfl,by intro w';go_simp;with_reducible rfl⟩) (by simp only [ps_];rfl) ?_
  refine one_ (i := 7) (N := some 37) #[t_,t_,t_,t_,t_,t_,t_,t_,f_] rfl rfl (by kernel_rfl) (by decide) (fun K hK => ?_)
  refine callK_ (PF H) Tryd.func88 (by kernel_rfl) rfl (by rfl) rfl rfl (by (try simp only [List.map_toArray,List.map_cons,List.map_nil]);first|done|rfl) ?_
  rintro e W ⟨A37,c37,rfl,h37,C37,H'⟩
  refine ⟨_,rfl,?_⟩
  replace H := H'
  clear H'
  refine hK.out _ _ ?_ (fun hHeld => ?_)
  ·first|trivial|exact H|exact H.del .head|exact (H.del .head).del .head|exact H.heap (by repeat constructor)
  clear hK K
  refine norm_ (by show Act.put _ (some 37) _ = _;simp only [ps_];rfl) ?_
  refine last_ (i := 8) (N := some 38) #[t_,t_,t_,t_,t_,t_,t_,t_,t_] rfl rfl (by kernel_rfl) (by decide) (fun K hK => ?_)
  refine wanted_ rfl ?_
  refine w_copyRow H _ _ _ _ rfl 5 Tryd.underlying38 size5 A29 4 c29 (11 + n) c29 5 rfl .head (by omega) A37 4 c37 rfl (putl sm 4) C37 (by omega) ?_
  clear H
  intro W H
  refine hK.out _ _ ?_
  clear hK K
  refine norm_ (by show Act.put _ (some 38) _ = _;simp only [ps_];rfl) ?_
  refine done_ (by kernel_rfl) ?_
  clear hHeld
  rw [show (putl sm 4).take (min 4 4) = putl sm 4 from List.take_of_length_le (by rw [putl_len];decide),hhe] at H
  go_wp2
  go_ret2
  refine ⟨A29,c29,rfl,hnc,?_,H.below⟩
  rw [hEL]
  exact (H.rowC .head).2.2
theorem rbytes_eq (kind ep : Int) (data : List Int) (hr : rightF kind data.length = true) (he : 0 ≤ ep ∧ ep ≤ 4294967295) (hd : Bytes data) : strandlineref13_Bytes.f (100 + 10 * (bodyL kind ep data).length + 1) kind ep data = some (encL kind ep data) := by
 obtain ⟨k1,k2,k3⟩ := right_parts hr
 obtain ⟨e,rfl⟩ := Int.eq_ofNat_of_zero_le he.1
 have hbb : Bytes (bodyL kind (e : Int) data) := bodyL_bytes (by omega) hd
 have hbl := bodyL_len kind (e : Int) data
 have e1 : (cl8 2).toNat = 2 := by decide
 have e2 : (cl8 4).toNat = 4 := by decide
 have hbd : putl data.length 2 ++ [kind] ++ putl e 4 ++ data = bodyL kind (e : Int) data := by simp [bodyL]
 have hsl := sumN_lt (bodyL kind (e : Int) data)
 unfold strandlineref13_Bytes.f
 have hk : 8 < 100 + 10 * (bodyL kind (e : Int) data).length + 1 := by omega
 rw [wu64 (by omega) (by omega),rput_eq _ hk _ (by omega) 2 (by decide),e1,Option.bind_some,if_pos (by rw [putl_len];decide),Option.bind_some,wu64 (by omega) (by omega),rput_eq _ hk _ (by omega) 4 (by decide),e2,Option.bind_some]
 rw [if_pos (by simp [putl_len]),Option.bind_some,show kind % 256 = kind by omega,hbd,if_pos (by simp [putl_len];omega),Option.bind_some]
 rw [CrcMath.rof_eq _ hbb (by omega),Option.bind_some,rcrc_sum,Option.bind_some,wu64 (by omega) (by omega),rput_eq _ hk _ (by omega) 4 (by decide),e2,Option.bind_some,if_pos (by rw [putl_len,hbl];omega)]
 rfl
end Go.Proofs.YtaekpfhgdnfciaaDoor.O
end

section
namespace Go.Proofs.YtaekpfhgdnfciaaDoor.Img
open Go.RowKit Go.Proofs.YtaekpfhgdnfciaaDoor.F Go.Proofs.YtaekpfhgdnfciaaDoor.F.Nums Go.Proofs.YtaekpfhgdnfciaaDoor.O Go.Proofs.YtaekpfhgdnfciaaDoorW.PrintWords Go.Proofs.YtaekpfhgdnfciaaDoorW.PrintLast Go.Proofs.YtaekpfhgdnfciaaDoorW.PrintMore Go.Proofs.YtaekpfhgdnfciaaDoor.Plain
theorem rnear_eq (a : Int) : strandlineref07_Near.f a = some (cl a) := by
 unfold strandlineref07_Near.f cl
 by_cases h1 : a < 0
 ·rw [if_pos h1,if_pos h1]
 ·by_cases h2 : 832 < a
  ·rw [if_neg h1,if_neg h1,if_pos h2,if_pos h2]
  ·rw [if_neg h1,if_neg h1,if_neg (by omega),if_neg h2]
theorem rleft_l (d : Nat) : ∀ (k : Nat) (at_ n : Int),0 ≤ at_ → at_ ≤ 832 → 0 ≤ n → n ≤ at_ → (832 - at_ : Int) = d → d < k →
  strandlineref07_Left.l0 k at_ n = some (n + if at_ = 832 then 0 else if n = 0 then 208 - at_ % 208 else (208 - at_ % 208) % 208) := by
 induction d with
 |zero =>
  intro k at_ n h0 h1 h2 h3 hd hk
  obtain ⟨k,rfl⟩ : ∃ m,k = m + 1 := ⟨k - 1,by omega⟩
  simp only [strandlineref07_Left.l0]
  rw [if_neg (by omega),if_pos (show at_ = 832 by omega)]
  simp
 |succ d ih =>
  intro k at_ n h0 h1 h2 h3 hd hk
  obtain ⟨k,rfl⟩ : ∃ m,k = m + 1 := ⟨k - 1,by omega⟩
  simp only [strandlineref07_Left.l0]
  rw [if_pos (by omega),tm h0,w64 (n := at_ + 1) (by omega) (by omega),w64 (n := n + 1) (by omega) (by omega)]
  have hr := ih k (at_ + 1) (n + 1) (by omega) (by omega) (by omega) (by omega) (by omega) (by omega)
  rw [if_neg (show ¬ n + 1 = 0 by omega)] at hr
  rw [if_neg (show ¬ at_ = 832 by omega),hr]
  by_cases hn : n = 0
  ·rw [if_pos hn,if_pos hn]
   congr 1
   by_cases h8 : at_ + 1 = 832
   ·rw [if_pos h8];omega
   ·rw [if_neg h8];omega
  ·rw [if_neg hn,if_neg hn]
   by_cases hm : at_ % 208 = 0
   ·rw [if_pos hm]
    congr 1
    omega
   ·rw [if_neg hm]
    congr 1
    by_cases h8 : at_ + 1 = 832
    ·rw [if_pos h8];omega
    ·rw [if_neg h8];omega
theorem rleft_eq (k : Nat) (hk : 832 < k) (a : Int) : strandlineref07_Left.f k a = some (lf (cl a)) := by
 have h0 := cl_lo a
 have h1 := cl_hi a
 unfold strandlineref07_Left.f
 rw [rnear_eq]
 simp only [Option.bind_some]
 rw [rleft_l (832 - cl a).toNat k (cl a) 0 h0 h1 (by omega) h0 (by omega) (by omega)]
 unfold lf
 by_cases h : cl a = 832
 ·rw [if_pos h,if_pos h];rfl
 ·rw [if_neg h,if_neg h,if_pos rfl];simp
theorem rwhere_l (a : Int) (d : Nat) : ∀ (k : Nat) (i : Int),0 ≤ i → i ≤ cl a → (cl a - i : Int) = d → d < k →
  strandlineref07_Where.l0 k a (i / 52) (i % 52) i = some (cl a / 52,cl a % 52) := by
 have h9 := cl_hi a
 induction d with
 |zero =>
  intro k i h0 h1 hd hk
  obtain ⟨k,rfl⟩ : ∃ m,k = m + 1 := ⟨k - 1,by omega⟩
  simp only [strandlineref07_Where.l0]
  rw [rnear_eq]
  simp only [Option.bind_some]
  rw [if_neg (by omega)]
  obtain rfl : i = cl a := by omega
  rfl
 |succ d ih =>
  intro k i h0 h1 hd hk
  obtain ⟨k,rfl⟩ : ∃ m,k = m + 1 := ⟨k - 1,by omega⟩
  simp only [strandlineref07_Where.l0]
  rw [rnear_eq]
  simp only [Option.bind_some]
  rw [if_pos (by omega),w64 (n := i % 52 + 1) (by omega) (by omega),w64 (n := i / 52 + 1) (by omega) (by omega),w64 (n := i + 1) (by omega) (by omega)]
  have hr := ih k (i + 1) (by omega) (by omega) (by omega) (by omega)
  by_cases hm : i % 52 + 1 = 52
  ·rw [if_pos hm,show i / 52 + 1 = (i + 1) / 52 by omega,show (0 : Int) = (i + 1) % 52 by omega]
   exact hr
  ·rw [if_neg hm,show i % 52 + 1 = (i + 1) % 52 by omega,show i / 52 = (i + 1) / 52 by omega]
   exact hr
theorem rwhere_eq (k : Nat) (hk : 832 < k) (a : Int) : strandlineref07_Where.f k a = some (cl a / 52,cl a % 52) := by
 have h0 := cl_lo a
 have h1 := cl_hi a
 unfold strandlineref07_Where.f
 exact rwhere_l a (cl a).toNat k 0 (by omega) (by omega) (by omega) (by omega)
theorem rbegin_l (d : Nat) : ∀ (k : Nat) (at_ off : Int),0 ≤ at_ → at_ ≤ 832 → 41 < off → off ≤ 52 → (at_ + (52 - off)) ≤ 832 → (52 - off : Int) = d → d < k →
  strandlineref07_Begin.l0 k at_ off = some (at_ + (52 - off)) := by
 induction d with
 |zero =>
  intro k at_ off h0 h1 h2 h3 h4 hd hk
  obtain ⟨k,rfl⟩ : ∃ m,k = m + 1 := ⟨k - 1,by omega⟩
  simp only [strandlineref07_Begin.l0]
  rw [show at_ + (52 - off) = at_ by omega,if_neg (show ¬ off < 52 by omega)]
  simp
 |succ d ih =>
  intro k at_ off h0 h1 h2 h3 h4 hd hk
  obtain ⟨k,rfl⟩ : ∃ m,k = m + 1 := ⟨k - 1,by omega⟩
  simp only [strandlineref07_Begin.l0]
  rw [if_pos (by omega),if_pos (by omega),if_pos (by omega),w64 (n := at_ + 1) (by omega) (by omega),w64 (n := off + 1) (by omega) (by omega)]
  rw [ih k (at_ + 1) (off + 1) (by omega) (by omega) (by omega) (by omega) (by omega) (by omega) (by omega)]
  congr 1
  omega
theorem rbegin_eq (k : Nat) (hk : 832 < k) (a : Int) : strandlineref07_Begin.f k a = some (bg (cl a)) := by
 have h0 := cl_lo a
 have h1 := cl_hi a
 unfold strandlineref07_Begin.f
 rw [rnear_eq]
 simp only [Option.bind_some]
 rw [rwhere_eq k hk,cl_cl]
 simp only [Option.bind_some]
 unfold bg
 by_cases h : 41 < cl a % 52
 ·rw [if_pos h,rbegin_l (52 - cl a % 52).toNat k (cl a) (cl a % 52) h0 h1 h (by omega) (by omega) (by omega) (by omega)]
 ·rw [if_neg h]
  obtain ⟨k,rfl⟩ : ∃ m,k = m + 1 := ⟨k - 1,by omega⟩
  simp only [strandlineref07_Begin.l0]
  rw [if_neg (show ¬ cl a % 52 > 41 by omega)]
  simp
def raw (ps : List (Int × Int × Int)) : List S94 := ps.map fun t => ⟨t.1,3,t.2.1,t.2.2⟩
theorem rcut_l (m : Nat) : ∀ (k : Nat) (at_ n from_ : Int) (out : List S94),2 * m + 1000 < k → 0 ≤ from_ → from_ ≤ n → from_ ≤ cl at_ → n ≤ 9223372036854775807 → out.length + m < 1000 → 832 - bg (cl at_) ≤ 208 * m → (out = [] ∨ from_ < n) →
  strandlineref14_Cut.l0 k at_ n out from_ = (match cutS m at_ n from_ with|none => some ([],0,false)|some p => strandlineref14_Cut.j1 1 p.2 n (out ++ raw p.1) n false) := by
 induction m with
 |zero =>
  intro k at_ n from_ out hk h0 hn hf hn2 ho hm hor
  have h1 := cl_hi at_
  have hb1 := bg_hi h1
  obtain ⟨k,rfl⟩ : ∃ j,k = j + 2 := ⟨k - 2,by omega⟩
  have e : strandlineref14_Cut.l0 (k + 2) at_ n out from_ = strandlineref14_Cut.j1 (k + 1) at_ n out from_ true := by
   simp only [strandlineref14_Cut.l0]
   by_cases hl : (out.length : Int) = 0
   ·rw [if_pos hl]
   ·rw [if_neg hl,show decide (from_ < n) = true by rcases hor with rfl|h <;> simp_all]
  rw [e]
  simp only [strandlineref14_Cut.j1,if_true]
  rw [rbegin_eq k (by omega)]
  simp only [Option.bind_some]
  rw [if_pos (by omega)]
  rfl
 |succ m ih =>
  intro k at_ n from_ out hk h0 hn hf hn2 ho hm hor
  have c0 := cl_lo at_
  have c1 := cl_hi at_
  have hb0 := bg_lo c0
  have hb1 := bg_hi c1
  have hbm := bg_mod (cl at_)
  have hbg := bg_ge (cl at_)
  obtain ⟨k,rfl⟩ : ∃ j,k = j + 2 := ⟨k - 2,by omega⟩
  have e : strandlineref14_Cut.l0 (k + 2) at_ n out from_ = strandlineref14_Cut.j1 (k + 1) at_ n out from_ true := by
   simp only [strandlineref14_Cut.l0]
   by_cases hl : (out.length : Int) = 0
   ·rw [if_pos hl]
   ·rw [if_neg hl,show decide (from_ < n) = true by rcases hor with rfl|h <;> simp_all]
  rw [e]
  simp only [strandlineref14_Cut.j1,if_true]
  rw [rbegin_eq k (by omega)]
  simp only [Option.bind_some]
  unfold cutS
  by_cases h8 : bg (cl at_) = 832
  ·rw [if_pos (by omega),if_pos h8]
  ·obtain ⟨l1,l2,l3,l4⟩ := lf_ge hb0 hb1 hbm h8
   rw [if_neg (by omega),if_neg h8,rleft_eq k (by omega),cl_in hb0 hb1]
   simp only [Option.bind_some]
   rw [w64 (n := lf (bg (cl at_)) - 11) (by omega) (by omega),w64 (n := n - from_) (by omega) (by omega),w64 (n := bg (cl at_) + 11) (by omega) (by omega)]
   by_cases hc : n ≤ from_ + (lf (bg (cl at_)) - 11)
   ·rw [if_neg (by omega),if_pos (by omega),if_pos hc,w64 (n := from_ + (n - from_)) (by omega) (by omega),w64 (n := bg (cl at_) + 11 + (n - from_)) (by omega) (by omega),show from_ + (n - from_) = n by omega]
    obtain ⟨k,rfl⟩ : ∃ j,k = j + 2 := ⟨k - 2,by omega⟩
    simp only [strandlineref14_Cut.l0]
    rw [if_neg (by simp;omega),show decide (n < n) = false by simp]
    simp only [strandlineref14_Cut.j1]
    rfl
   ·rw [if_pos (by omega),if_pos (by omega),if_neg hc,w64 (n := from_ + (lf (bg (cl at_)) - 11)) (by omega) (by omega),w64 (n := bg (cl at_) + 11 + (lf (bg (cl at_)) - 11)) (by omega) (by omega),show bg (cl at_) + 11 + (lf (bg (cl at_)) - 11) = bg (cl at_) + lf (bg (cl at_)) by omega]
    rw [ih k _ n _ _ (by omega) (by omega) (by omega) (by rw [cl_in (by omega) l3];omega) hn2 (by simp;omega) (by rw [cl_in (by omega) l3,bg_block l4];omega) (.inr (by omega))]
    cases hs : cutS m (bg (cl at_) + lf (bg (cl at_))) n (from_ + (lf (bg (cl at_)) - 11)) with
    |none => rfl
    |some p =>
     simp only [Option.map_some,raw,List.map_cons]
     rw [List.append_assoc]
     rfl
theorem rfix (ps : List (Int × Int × Int)) (e n : Int) (h0 : ps ≠ []) (h4 : ps.length ≤ 4) : strandlineref14_Cut.j1 1 e n (raw ps) n false = some (mkP true ps,e,true) := by
 match ps,h0,h4 with
 |[t],_,_ => simp [strandlineref14_Cut.j1,raw,rd_T94,mkP,pc,wrap64]
 |[t,u],_,_ => simp [strandlineref14_Cut.j1,raw,rd_T94,mkP,pc,wrap64]
 |[t,u,v],_,_ => simp [strandlineref14_Cut.j1,raw,rd_T94,mkP,pc,wrap64]
 |[t,u,v,x],_,_ => simp [strandlineref14_Cut.j1,raw,rd_T94,mkP,pc,wrap64]
theorem rcut_eq (k : Nat) (hk : 1100 < k) (at_ n : Int) (hn2 : n ≤ 9223372036854775807) : strandlineref14_Cut.f k at_ n = some (cutP at_ n) := by
 have c0 := cl_lo at_
 have hb0 := bg_lo c0
 unfold strandlineref14_Cut.f cutP
 by_cases h1 : n < 0
 ·rw [if_pos h1,if_pos (.inl h1)]
 ·rw [if_neg h1,rcut_l 4 k at_ n 0 [] (by omega) (by omega) (by omega) c0 hn2 (by simp) (by omega) (.inl rfl)]
  cases hs : cutS 4 at_ n 0 with
  |none =>
   simp only [cutR]
   split <;> rfl
  |some p =>
   have hb := cutS_bound c0 (by omega) hs
   rw [if_neg (by omega)]
   simp only [cutR,List.nil_append]
   exact rfix p.1 p.2 n (cutS_ne hs) (cutS_len hs)
theorem rbytes_up (kind ep : Int) (data r : List Int) (k0 : Nat) (h : strandlineref13_Bytes.f k0 kind ep data = some r) : ∀ d,strandlineref13_Bytes.f (k0 + d) kind ep data = some r := by
 intro d
 induction d with
 |zero => exact h
 |succ d ih => exact strandlineref13_Bytes.mono kind ep data (k0 + d) r ih
theorem rbytes_any {ep : Int} {data : List Int} {p : Pc} (hp : PcOk data p) (hd : Bytes data) (he : 0 ≤ ep ∧ ep ≤ 4294967295) (k : Nat) (hk : 2200 ≤ k) :
  strandlineref13_Bytes.f k p.f1 ep ((data.take p.f3.toNat).drop p.f2.toNat) = some (pcE ep data p) := by
 obtain ⟨h1,h2,h3,h4,h5,h6,h7,h8⟩ := hp
 have hl : ((data.take p.f3.toNat).drop p.f2.toNat).length = (p.f3 - p.f2).toNat := by rw [List.length_drop,List.length_take];omega
 have hr : rightF p.f1 ((data.take p.f3.toNat).drop p.f2.toNat).length = true := by
  unfold rightF
  rw [hl,decide_eq_true h3.1,decide_eq_true h3.2,decide_eq_true (show (p.f3 - p.f2).toNat ≤ 197 by omega)]
  rfl
 have h := rbytes_eq p.f1 ep _ hr he (bytes_drop (bytes_take hd _) _)
 have hb := bodyL_len p.f1 ep ((data.take p.f3.toNat).drop p.f2.toNat)
 obtain ⟨d,hd2⟩ : ∃ d,k = 100 + 10 * (bodyL p.f1 ep ((data.take p.f3.toNat).drop p.f2.toNat)).length + 1 + d := ⟨k - (100 + 10 * (bodyL p.f1 ep ((data.take p.f3.toNat).drop p.f2.toNat)).length + 1),by omega⟩
 rw [hd2]
 exact rbytes_up _ _ _ _ _ h d
theorem splice_step {cur E : List Int} {o q : Nat} (hq : q < E.length) (hf : o + E.length ≤ cur.length) : (splice cur o (E.take q)).set (o + q) (E.getD q 0) = splice cur o (E.take (q + 1)) := by
 have e1 : E.take (q + 1) = E.take q ++ [E.getD q 0] := by rw [List.take_add_one,List.getElem?_eq_getElem hq,List.getD_eq_getElem?_getD,List.getElem?_eq_getElem hq];rfl
 have l1 : (E.take q).length = q := by rw [List.length_take];omega
 unfold splice
 rw [e1,l1,List.length_append,l1,List.length_singleton]
 have l0 : (cur.take o).length = o := by rw [List.length_take];omega
 rw [List.set_append_right _ _ (by omega),l0,Nat.add_sub_cancel_left,List.set_append_right _ _ (by omega),l1,Nat.sub_self]
 have e2 : cur.drop (o + q) = cur.getD (o + q) 0 :: cur.drop (o + (q + 1)) := by
  rw [List.drop_eq_getElem_cons (by omega),List.getD_eq_getElem?_getD,List.getElem?_eq_getElem (by omega)]
  rfl
 rw [e2,List.set_cons_zero]
 simp
theorem radd_l2 (x0 : Int) (data : List Int) (ps : List Pc) (en : Int) (E cur : List Int) (i o : Nat) (hi : i < ps.length) (hn : ps.length < 1000) (ho : (rd_T94 ps i).f0 = (o : Int)) (hf : o + E.length ≤ cur.length) (hc : cur.length = 832) (d : Nat) :
  ∀ (k q : Nat),q + d = E.length → strandlineref17_Add.l2 (k + d + 1) x0 data ps en (splice cur o (E.take q)) i E q = strandlineref17_Add.l1 k x0 data ps en (splice cur o E) ((i + 1 : Nat) : Int) := by
 induction d with
 |zero =>
  intro k q hq
  simp only [Nat.add_zero,strandlineref17_Add.l2]
  rw [if_neg (by omega),List.take_of_length_le (by omega),w64 (by omega) (by omega)]
  rfl
 |succ d ih =>
  intro k q hq
  have hs := splice_step (cur := cur) (E := E) (o := o) (q := q) (by omega) hf
  have hlen : (splice cur o (E.take q)).length = 832 := by
   unfold splice
   simp
   omega
  rw [show k + (d + 1) + 1 = (k + d + 1) + 1 by omega]
  have ihq := ih k (q + 1) (by omega)
  generalize k + d + 1 = m at ihq ⊢
  simp only [strandlineref17_Add.l2]
  rw [ho,w64 (n := (o : Int) + (q : Int)) (by omega) (by omega),w64 (n := (q : Int) + 1) (by omega) (by omega)]
  rw [if_pos (by omega),if_pos (by omega),if_pos (by omega),if_pos (by omega),if_pos (by omega),if_pos (by rw [hlen];omega)]
  have e1 : ((o : Int) + (q : Int)).toNat = o + q := by omega
  have e2 : rd E (q : Int) = E.getD q 0 := by unfold rd;rw [Int.toNat_natCast]
  rw [e1,e2,hs]
  exact ihq
set_option maxRecDepth 100000 in
theorem radd_l1 (x0 : Int) (data : List Int) (ps : List Pc) (en : Int) (hx : 0 ≤ x0) (hd : Bytes data) (hps : ∀ p ∈ ps,PcOk data p) (hn : ps.length < 1000) (d : Nat) :
  ∀ (k i : Nat) (cur : List Int),i + d = ps.length → cur.length = 832 → 2300 + 300 * d ≤ k → strandlineref17_Add.l1 k x0 data ps en cur i = some (layA (x0 % 4294967296) data (ps.drop i) cur,en,true) := by
 have hep : (Int.tmod x0 4294967296) % 4294967296 = x0 % 4294967296 := by rw [tm hx];omega
 induction d with
 |zero =>
  intro k i cur hi hc hk
  obtain ⟨k,rfl⟩ : ∃ j,k = j + 1 := ⟨k - 1,by omega⟩
  simp only [strandlineref17_Add.l1]
  rw [if_neg (by omega),List.drop_of_length_le (by omega)]
  rfl
 |succ d ih =>
  intro k i cur hi hc hk
  have hlt : i < ps.length := by omega
  have hp := hps _ (List.getElem_mem hlt)
  rw [rd_at ps i hlt] at hp
  have hE := pcE_len (ep := x0 % 4294967296) hp
  have hb := rbytes_any (ep := x0 % 4294967296) hp hd (by omega)
  have hdr : ps.drop i = rd_T94 ps i :: ps.drop (i + 1) := by rw [List.drop_eq_getElem_cons hlt,rd_at ps i hlt]
  have hll := layP_len (ep := x0 % 4294967296) (cur := cur) hp hc
  rw [hdr]
  obtain ⟨h1,h2,h3,h4,h5,h6,h7,h8⟩ := hp
  obtain ⟨o,ho⟩ := Int.eq_ofNat_of_zero_le h1
  obtain ⟨k,rfl⟩ : ∃ j,k = j + (pcE (x0 % 4294967296) data (rd_T94 ps i)).length + 2 := ⟨k - (pcE (x0 % 4294967296) data (rd_T94 ps i)).length - 2,by omega⟩
  have hl2 := radd_l2 x0 data ps en (pcE (x0 % 4294967296) data (rd_T94 ps i)) cur i o hlt hn ho (by omega) hc _ k 0 (Nat.zero_add _)
  rw [show splice cur o ((pcE (x0 % 4294967296) data (rd_T94 ps i)).take 0) = cur by simp [splice]] at hl2
  have hlp : splice cur o (pcE (x0 % 4294967296) data (rd_T94 ps i)) = layP (x0 % 4294967296) data cur (rd_T94 ps i) := by unfold layP;rw [ho,Int.toNat_natCast]
  rw [hlp] at hl2
  rw [show k + (pcE (x0 % 4294967296) data (rd_T94 ps i)).length + 2 = (k + (pcE (x0 % 4294967296) data (rd_T94 ps i)).length + 1) + 1 by omega]
  have hkk : 2200 ≤ k + (pcE (x0 % 4294967296) data (rd_T94 ps i)).length + 1 := by omega
  generalize k + (pcE (x0 % 4294967296) data (rd_T94 ps i)).length + 1 = m at hl2 hkk ⊢
  simp only [strandlineref17_Add.l1]
  rw [if_pos (by omega),if_pos (by omega),if_pos h4,if_pos h5,if_pos h6,hep,hb _ hkk,Option.bind_some]
  rw [show ((0 : Nat) : Int) = 0 from rfl] at hl2
  rw [hl2]
  exact ih k (i + 1) _ (by omega) hll (by omega)
theorem radd_l0 (x0 : Int) (body data : List Int) (ps : List Pc) (en : Int) (hb : body.length ≤ 9000000000000) (d : Nat) :
  ∀ (k q : Nat),q + d = min 832 body.length → strandlineref17_Add.l0 (k + d + 1) x0 body data ps en (body.take q ++ zs (832 - q)) q = strandlineref17_Add.j1 k x0 data ps en (base body) := by
 induction d with
 |zero =>
  intro k q hq
  have hbase : body.take q ++ zs (832 - q) = base body := by
   unfold base
   by_cases h : body.length ≤ 832
   ·rw [show q = body.length by omega,List.take_of_length_le (l := body) (i := 832) h,List.take_of_length_le (Nat.le_refl _)]
   ·rw [show q = 832 by omega,show 832 - body.length = 0 by omega,Nat.sub_self]
  simp only [Nat.add_zero,strandlineref17_Add.l0]
  rw [hbase]
  by_cases h : q < 832
  ·rw [if_pos (by omega),if_neg (by omega)]
  ·rw [if_neg (by omega)]
 |succ d ih =>
  intro k q hq
  have hlt : q < body.length := by omega
  have hlen : (body.take q ++ zs (832 - q)).length = 832 := by rw [List.length_append,List.length_take];simp [zs];omega
  have hset : (body.take q ++ zs (832 - q)).set q (body.getD q 0) = body.take (q + 1) ++ zs (832 - (q + 1)) := by
   have h1 : (body.take q).length = q := by rw [List.length_take];omega
   have h2 : body.take (q + 1) = body.take q ++ [body.getD q 0] := by rw [List.take_add_one,List.getElem?_eq_getElem hlt,List.getD_eq_getElem?_getD,List.getElem?_eq_getElem hlt];rfl
   rw [h2,List.set_append_right _ _ (by omega),h1,Nat.sub_self,show 832 - q = (832 - (q + 1)) + 1 by omega]
   simp [zs,List.replicate_succ]
  rw [show k + (d + 1) + 1 = (k + d + 1) + 1 by omega]
  have ihq := ih k (q + 1) (by omega)
  generalize k + d + 1 = m at ihq ⊢
  simp only [strandlineref17_Add.l0]
  rw [if_pos (by omega),if_pos (by omega),if_pos (by omega),if_pos (by rw [hlen];omega),w64 (by omega) (by omega),Int.toNat_natCast,show rd body (q : Int) = body.getD q 0 by unfold rd;rw [Int.toNat_natCast],hset]
  exact ihq
def addR (e64 : Int) (body : List Int) (at_ : Int) (data : List Int) : List Int × Int × Bool := if (cutP at_ (data.length : Int)).2.2 = true then (addB e64 body at_ data,(cutP at_ (data.length : Int)).2.1,true) else ([],0,false)
theorem radd_eq (k : Nat) (hk : 6000 ≤ k) (e64 : Int) (body : List Int) (at_ : Int) (data : List Int) (he : 0 ≤ e64) (hd : Bytes data) (hb : body.length ≤ 9000000000000) (hdl : data.length ≤ 140737488355328) : strandlineref17_Add.f k e64 body at_ data = some (addR e64 body at_ data) := by
 unfold strandlineref17_Add.f addR
 rw [rcut_eq k (by omega) at_ _ (by omega),Option.bind_some]
 by_cases h : (cutP at_ (data.length : Int)).2.2 = true
 ·rw [if_pos h,if_pos h,if_pos (by decide)]
  obtain ⟨k,rfl⟩ : ∃ j,k = j + 1 + min 832 body.length + 1 := ⟨k - min 832 body.length - 2,by omega⟩
  have h0 := radd_l0 e64 body data (cutP at_ (data.length : Int)).1 (cutP at_ (data.length : Int)).2.1 hb (min 832 body.length) (k + 1) 0 (by omega)
  rw [List.take_zero,List.nil_append,show zs (832 - 0) = List.replicate 832 (0 : Int) from rfl] at h0
  rw [show ((0 : Nat) : Int) = 0 from rfl] at h0
  rw [h0]
  simp only [strandlineref17_Add.j1]
  have hl := cutP_len at_ (data.length : Int)
  have h1 := radd_l1 e64 data (cutP at_ (data.length : Int)).1 (cutP at_ (data.length : Int)).2.1 he hd (cutP_pcs at_ data) (by omega) (cutP at_ (data.length : Int)).1.length k 0 (base body) (Nat.zero_add _) (base_len body) (by omega)
  rw [show ((0 : Nat) : Int) = 0 from rfl] at h1
  rw [h1]
  rfl
 ·rw [if_neg h,if_neg h]
theorem cutS_low {m : Nat} : ∀ {at_ n from_ : Int} {p : List (Int × Int × Int) × Int},from_ ≤ n → cutS m at_ n from_ = some p → bg (cl at_) + 11 ≤ p.2 ∧ ∀ t ∈ p.1,bg (cl at_) ≤ t.1 := by
 induction m with
 |zero => intro _ _ _ _ _ h;cases h
 |succ m ih =>
  intro at_ n from_ p hn h
  have h0 := cl_lo at_
  have h1 := cl_hi at_
  have hb0 := bg_lo h0
  have hb1 := bg_hi h1
  have hbm := bg_mod (cl at_)
  unfold cutS at h
  split at h
  ·cases h
  ·rename_i h8
   obtain ⟨l1,l2,l3,l4⟩ := lf_ge hb0 hb1 hbm h8
   split at h
   ·obtain rfl := Option.some.inj h
    refine ⟨by simp only;omega,fun t ht => ?_⟩
    rw [List.mem_singleton] at ht
    subst ht
    exact Int.le_refl _
   ·obtain ⟨q,hq,rfl⟩ := Option.map_eq_some_iff.mp h
    obtain ⟨i1,i2⟩ := ih (by omega) hq
    rw [cl_in (by omega) l3,bg_block l4] at i1 i2
    refine ⟨by simp only;omega,fun t ht => ?_⟩
    rcases List.mem_cons.1 ht with rfl|ht
    ·exact Int.le_refl _
    ·have := i2 t ht;omega
theorem mkP_mem : ∀ (ts : List (Int × Int × Int)) (f : Bool) (p : Pc),p ∈ mkP f ts → ∃ t ∈ ts,p.f0 = t.1 := by
 intro ts
 induction ts with
 |nil => intro f p hp;simp [mkP] at hp
 |cons t rest ih =>
  intro f p hp
  cases rest with
  |nil =>
   simp only [mkP,List.mem_singleton] at hp
   subst hp
   exact ⟨t,List.mem_cons_self ..,rfl⟩
  |cons u rest =>
   simp only [mkP,List.mem_cons] at hp
   rcases hp with rfl|hp
   ·exact ⟨t,List.mem_cons_self ..,rfl⟩
   ·obtain ⟨t',ht,e⟩ := ih false p hp
    exact ⟨t',List.mem_cons_of_mem _ ht,e⟩
theorem cutP_low (at_ n : Int) (hn : 0 ≤ n) : ((cutP at_ n).2.2 = true → bg (cl at_) + 11 ≤ (cutP at_ n).2.1) ∧ ∀ p ∈ (cutP at_ n).1,bg (cl at_) ≤ p.f0 := by
 unfold cutP
 split
 ·exact ⟨fun h => (by cases h),fun p hp => (by cases hp)⟩
 ·cases hs : cutS 4 at_ n 0 with
  |none => exact ⟨fun h => (by cases h),fun p hp => (by cases hp)⟩
  |some q =>
   obtain ⟨i1,i2⟩ := cutS_low hn hs
   refine ⟨fun _ => i1,fun p hp => ?_⟩
   simp only [cutR,List.nil_append] at hp
   obtain ⟨t,ht,e⟩ := mkP_mem _ _ _ hp
   rw [e]
   exact i2 t ht
theorem end_more (e : Int) (h0 : 0 ≤ e) (h1 : e ≤ 832) (n : Int) (hn : 0 ≤ n) (h : (cutP e n).2.2 = true) : e < (cutP e n).2.1 := by
 have := (cutP_low e n hn).1 h
 have h2 := bg_ge (cl e)
 rw [cl_in h0 h1] at this h2
 omega
theorem cutS_begin (m : Nat) (e n f : Int) : cutS m (bg (cl e)) n f = cutS m e n f := by
 have h0 := bg_lo (cl_lo e)
 have h1 := bg_hi (cl_hi e)
 cases m with
 |zero => rfl
 |succ m => unfold cutS;rw [cl_in h0 h1,bg_bg]
theorem cutP_begin (e n : Int) : cutP (bg (cl e)) n = cutP e n := by unfold cutP;rw [cutS_begin]
theorem addB_begin (e64 : Int) (body : List Int) (e : Int) (data : List Int) : addB e64 body (bg (cl e)) data = addB e64 body e data := by unfold addB;rw [cutP_begin]
def laySt (e64 : Int) (l : List (List Int)) : Nat → List Int × Int
 |0 => (zs 832,0)
 |k + 1 => (addB e64 (laySt e64 l k).1 (laySt e64 l k).2 (l.getD k []),(cutP (laySt e64 l k).2 ((l.getD k []).length : Int)).2.1)
def layOk (e64 : Int) (l : List (List Int)) (k : Nat) : Bool := (cutP (laySt e64 l k).2 ((l.getD k []).length : Int)).2.2
def layAt (e64 : Int) (l : List (List Int)) (k : Nat) : Int := bg (cl (laySt e64 l k).2)
def layPl (e64 : Int) (l : List (List Int)) (k : Nat) : List Int := (List.range k).map (layAt e64 l)
theorem layPl_len (e64 : Int) (l : List (List Int)) (k : Nat) : (layPl e64 l k).length = k := by simp [layPl]
theorem layPl_succ (e64 : Int) (l : List (List Int)) (k : Nat) : layPl e64 l (k + 1) = layPl e64 l k ++ [layAt e64 l k] := by simp [layPl,List.range_succ]
theorem laySt_len (e64 : Int) (l : List (List Int)) (k : Nat) : (laySt e64 l k).1.length = 832 := by
 cases k with
 |zero => exact List.length_replicate
 |succ k => exact addB_len _ _ _ _
theorem laySt_bytes (e64 : Int) (l : List (List Int)) (hl : ∀ x ∈ l,Bytes x) (k : Nat) : Bytes (laySt e64 l k).1 := by
 induction k with
 |zero => exact bytes_zs 832
 |succ k ih =>
  refine addB_bytes e64 _ ih ?_
  rw [List.getD_eq_getElem?_getD]
  cases h : l[k]? with
  |none => intro c hc;cases hc
  |some x => exact hl x (List.mem_of_getElem? h)
theorem laySt_end (e64 : Int) (l : List (List Int)) (k : Nat) : 0 ≤ (laySt e64 l k).2 ∧ (laySt e64 l k).2 ≤ 832 := by
 cases k with
 |zero => exact ⟨Int.le_refl _,show (0 : Int) ≤ 832 by decide⟩
 |succ k =>
  show 0 ≤ (cutP (laySt e64 l k).2 ((l.getD k []).length : Int)).2.1 ∧ (cutP (laySt e64 l k).2 ((l.getD k []).length : Int)).2.1 ≤ 832
  unfold cutP
  split
  ·exact ⟨Int.le_refl _,by decide⟩
  ·cases hs : cutS 4 (laySt e64 l k).2 ((l.getD k []).length : Int) 0 with
   |none => exact ⟨Int.le_refl _,by decide⟩
   |some p =>
    have := cutS_bound (cl_lo _) (by omega) hs
    exact ⟨this.2.1,this.2.2⟩
def layAll (e64 : Int) (l : List (List Int)) : Bool := (List.range l.length).all (layOk e64 l)
theorem layAll_iff (e64 : Int) (l : List (List Int)) : layAll e64 l = true ↔ ∀ k,k < l.length → layOk e64 l k = true := by
 unfold layAll
 rw [List.all_eq_true]
 simp
def layR (e64 : Int) (l : List (List Int)) : List Int × List Int × Int × Bool := if layAll e64 l = true then ((laySt e64 l l.length).1,layPl e64 l l.length,(laySt e64 l l.length).2,true) else ([],[],0,false)
theorem lay_small (e64 : Int) (l : List (List Int)) : ∀ i : Nat,(∀ j,j < i → layOk e64 l j = true) → 11 * (i : Int) ≤ (laySt e64 l i).2 := by
 intro i
 induction i with
 |zero => intro _;exact Int.le_refl _
 |succ i ih =>
  intro h
  have h1 := ih (fun j hj => h j (by omega))
  have h2 := laySt_end e64 l i
  have h3 := (cutP_low (laySt e64 l i).2 ((l.getD i []).length : Int) (by omega)).1 (h i (by omega))
  have h4 := bg_ge (cl (laySt e64 l i).2)
  rw [cl_in h2.1 h2.2] at h3 h4
  have h5 : (laySt e64 l (i + 1)).2 = (cutP (laySt e64 l i).2 ((l.getD i []).length : Int)).2.1 := rfl
  omega
set_option maxRecDepth 100000 in
theorem rlay_l0 (e64 : Int) (l : List (List Int)) (he : 0 ≤ e64) (hl : ∀ x ∈ l,Bytes x) (hll : ∀ x ∈ l,x.length ≤ 140737488355328) (hn : l.length ≤ 9000000000000) (d : Nat) :
  ∀ (k i : Nat),i + d = l.length → (∀ j,j < i → layOk e64 l j = true) → 7000 + d ≤ k →
  strandlineref17_Lay.l0 k e64 l (laySt e64 l i).1 (layPl e64 l i) (laySt e64 l i).2 i = some (layR e64 l) := by
 induction d with
 |zero =>
  intro k i hi hok hk
  obtain ⟨k,rfl⟩ : ∃ j,k = j + 1 := ⟨k - 1,by omega⟩
  have hii : i = l.length := by omega
  subst hii
  simp only [strandlineref17_Lay.l0]
  rw [if_neg (by omega)]
  unfold layR
  rw [if_pos ((layAll_iff e64 l).2 hok)]
 |succ d ih =>
  intro k i hi hok hk
  obtain ⟨k,rfl⟩ : ∃ j,k = j + 1 := ⟨k - 1,by omega⟩
  have hlt : i < l.length := by omega
  have hend := laySt_end e64 l i
  have hsm := lay_small e64 l i hok
  have hx : rd_L3 l (i : Int) = l.getD i [] := by unfold rd_L3;rw [Int.toNat_natCast]
  have hmem : l.getD i [] ∈ l := by rw [List.getD_eq_getElem?_getD,List.getElem?_eq_getElem hlt];exact List.getElem_mem hlt
  have hadd := radd_eq k (by omega) e64 (laySt e64 l i).1 (laySt e64 l i).2 (l.getD i []) he (hl _ hmem) (by rw [laySt_len];decide) (hll _ hmem)
  simp only [strandlineref17_Lay.l0]
  rw [if_pos (by omega),rbegin_eq k (by omega),Option.bind_some,if_pos (by rw [layPl_len];omega),if_pos (by omega),hx,hadd,Option.bind_some]
  unfold addR
  by_cases h : (cutP (laySt e64 l i).2 ((l.getD i []).length : Int)).2.2 = true
  ·rw [if_pos h,if_pos rfl,w64 (by omega) (by omega)]
   have := ih k (i + 1) (by omega) (fun j hj => by
    by_cases e : j = i
    ·subst e;exact h
    ·exact hok j (by omega)) (by omega)
   rw [layPl_succ] at this
   exact this
  ·rw [if_neg h,if_neg (by decide)]
   unfold layR
   rw [if_neg (fun ha => h ((layAll_iff e64 l).1 ha i hlt))]
theorem rlay_eq (k : Nat) (e64 : Int) (l : List (List Int)) (he : 0 ≤ e64) (hl : ∀ x ∈ l,Bytes x) (hll : ∀ x ∈ l,x.length ≤ 140737488355328) (hn : l.length ≤ 9000000000000) (hk : 7000 + l.length ≤ k) : strandlineref17_Lay.f k e64 l = some (layR e64 l) := by
 unfold strandlineref17_Lay.f
 rw [if_pos (by decide)]
 exact rlay_l0 e64 l he hl hll hn l.length k 0 (Nat.zero_add _) (fun j hj => absurd hj (Nat.not_lt_zero j)) hk
theorem layA_keep {ep : Int} {data : List Int} (k : Nat) : ∀ (ps : List Pc) (cur : List Int),(∀ p ∈ ps,PcOk data p ∧ (k : Int) ≤ p.f0) → cur.length = 832 → (layA ep data ps cur).take k = cur.take k := by
 intro ps
 induction ps with
 |nil => intro cur _ _;rfl
 |cons p ps ih =>
  intro cur hp hc
  obtain ⟨h1,h2⟩ := hp p (List.mem_cons_self ..)
  show (layA ep data ps (layP ep data cur p)).take k = _
  rw [ih _ (fun q hq => hp q (List.mem_cons_of_mem _ hq)) (layP_len h1 hc)]
  unfold layP splice
  obtain ⟨g1,g2,-⟩ := h1
  rw [List.take_append_of_le_length (by rw [List.length_take];omega),List.take_take,Nat.min_eq_left (by omega)]
theorem addB_keep (e64 : Int) (body : List Int) (e : Nat) (data : List Int) (hb : body.length = 832) (he : e ≤ 832) : (addB e64 body (e : Int) data).take e = body.take e := by
 unfold addB
 rw [base_id hb]
 refine layA_keep e _ body (fun p hp => ⟨cutP_pcs (e : Int) data p hp,?_⟩) hb
 have := (cutP_low (e : Int) (data.length : Int) (by omega)).2 p hp
 have h1 := bg_ge (cl (e : Int))
 rw [cl_in (a := (e : Int)) (by omega) (by omega)] at this h1
 omega
abbrev Tld := Nat → Option (Int × List Int × Nat)
def wantT (data : List Int) (p : Pc) : Int × List Int × Nat := (p.f1,(data.take p.f3.toNat).drop p.f2.toNat,11 + (p.f3 - p.f2).toNat)
theorem feed_last (f : Bool) (b d : List Int) (h : (b.length : Int) + d.length ≤ 512) : feedF (!f) b (pc f true) d = ((b ++ d,true,0),(false,[])) := by
 unfold feedF
 cases f <;> simp [pc] <;> omega
theorem feed_more (f : Bool) (b d : List Int) (h : (b.length : Int) + d.length ≤ 512) : feedF (!f) b (pc f false) d = (([],false,0),(true,b ++ d)) := by
 unfold feedF
 cases f <;> simp [pc] <;> omega
theorem step_last {T : Tld} {s : ScSt} {f : Bool} {data : List Int} {from_ : Nat} {p : Nat} (hT : T p = some (pc f true,data.drop from_,11 + (data.length - from_))) (hp : bgN s.at_ = p) (ho : s.op = !f) (hb : s.b = data.take from_) (hf : from_ ≤ data.length) (hd : data.length ≤ 512) :
  scStep T s = some ⟨p + (11 + (data.length - from_)),false,[],if f = true then (p : Int) else s.first,s.recs ++ [data],s.places ++ [if f = true then (p : Int) else s.first],p + (11 + (data.length - from_))⟩ := by
 have hF := feed_last f (data.take from_) (data.drop from_) (by rw [List.length_take,List.length_drop];omega)
 unfold scStep
 rw [hp,hT]
 unfold scFed
 simp only [ho,hb,hF,hp,List.take_append_drop]
 cases f <;> simp
theorem step_more {T : Tld} {s : ScSt} {f : Bool} {data d : List Int} {p n : Nat} (hT : T p = some (pc f false,d,n)) (hp : bgN s.at_ = p) (ho : s.op = !f) (hd : (s.b.length : Int) + d.length ≤ 512) :
  scStep T s = some ⟨p + n,true,s.b ++ d,if f = true then (p : Int) else s.first,s.recs,s.places,s.en⟩ := by
 have hF := feed_more f s.b d hd
 unfold scStep
 rw [hp,hT]
 unfold scFed
 simp only [ho,hF,hp]
 cases f <;> simp
theorem run_pieces (T : Tld) (data : List Int) (hd : data.length ≤ 512) : ∀ (m : Nat) (at_ : Int) (from_ : Nat) (f : Bool) (q : List (Int × Int × Int) × Int) (s : ScSt),
  cutS m at_ (data.length : Int) (from_ : Int) = some q → from_ ≤ data.length → (bgN s.at_ : Int) = bg (cl at_) → s.at_ ≤ 832 → s.op = (!f) → s.b = data.take from_ →
  (∀ p ∈ mkP f q.1,T p.f0.toNat = some (wantT data p) ∨ T p.f0.toNat = none) →
  ∃ (j : Nat) (s' : ScSt),(∀ M,j ≤ M → scRun T M s = scRun T (M - j) s') ∧ s.at_ + 11 * j ≤ s'.at_ ∧ s'.at_ ≤ 832 ∧
   (s' = ⟨q.2.toNat,false,[],if f = true then bg (cl at_) else s.first,s.recs ++ [data],s.places ++ [if f = true then bg (cl at_) else s.first],q.2.toNat⟩ ∨
    (scStep T s' = none ∧ s'.recs = s.recs ∧ s'.places = s.places ∧ s'.en = s.en ∧ ∃ p ∈ mkP f q.1,T p.f0.toNat = none)) := by
 intro m
 induction m with
 |zero => intro at_ from_ f q s h;cases h
 |succ m ih =>
  intro at_ from_ f q s h hf hp hs ho hb hT
  have h0 := cl_lo at_
  have h1 := cl_hi at_
  have hb0 := bg_lo h0
  have hb1 := bg_hi h1
  have hbm := bg_mod (cl at_)
  have hge : s.at_ ≤ bgN s.at_ := by
   have h2 := bg_ge (cl (s.at_ : Int))
   have h3 := bgN_cast s.at_
   rw [cl_in (a := (s.at_ : Int)) (by omega) (by omega)] at h2 h3
   omega
  obtain ⟨b0,hb0'⟩ := Int.eq_ofNat_of_zero_le hb0
  rw [hb0'] at hp hb1 hbm
  have hpb : bgN s.at_ = b0 := by omega
  unfold cutS at h
  rw [hb0'] at h
  split at h
  ·cases h
  ·rename_i h8
   obtain ⟨l1,l2,l3,l4⟩ := lf_ge (b := (b0 : Int)) (by omega) hb1 hbm h8
   split at h
   ·rename_i hl
    obtain rfl := Option.some.inj h
    have hb0n : (b0 : Int).toNat = b0 := Int.toNat_natCast b0
    rcases hT ⟨b0,pc f true,from_,data.length⟩ (by simp [mkP]) with hw|hw
    ·simp only [wantT,Int.toNat_natCast] at hw
     rw [List.take_of_length_le (Nat.le_refl _),show ((data.length : Int) - (from_ : Int)).toNat = data.length - from_ by omega] at hw
     have hst := step_last hw hpb ho hb hf hd
     refine ⟨1,_,fun M hM => ?_,?_,?_,.inl rfl⟩
     ·obtain ⟨M,rfl⟩ : ∃ x,M = x + 1 := ⟨M - 1,by omega⟩
      rw [scRun_some hst,Nat.add_sub_cancel,hb0']
      simp only
      rw [show ((b0 : Int) + 11 + ((data.length : Int) - (from_ : Int))).toNat = b0 + (11 + (data.length - from_)) by omega]
     ·simp only;omega
     ·simp only;omega
    ·simp only [Int.toNat_natCast] at hw
     refine ⟨0,s,fun M _ => by rw [Nat.sub_zero],by omega,hs,.inr ⟨?_,rfl,rfl,rfl,⟨b0,pc f true,from_,data.length⟩,by simp [mkP],by simpa using hw⟩⟩
     unfold scStep
     rw [hpb,hw]
   ·rename_i hl
    obtain ⟨q',hq',rfl⟩ := Option.map_eq_some_iff.mp h
    obtain ⟨fr2,hfr2⟩ : ∃ x : Nat,(from_ : Int) + (lf (b0 : Int) - 11) = x := ⟨((from_ : Int) + (lf (b0 : Int) - 11)).toNat,by omega⟩
    have hne : ∃ u rest,q'.1 = u :: rest := by
     cases hp : q'.1 with
     |nil => exact absurd hp (cutS_ne hq')
     |cons t rest => exact ⟨t,rest,rfl⟩
    obtain ⟨u,rest,hu⟩ := hne
    have hmk : mkP f (((b0 : Int),(from_ : Int),(from_ : Int) + (lf (b0 : Int) - 11)) :: q'.1) = ⟨b0,pc f false,from_,(from_ : Int) + (lf (b0 : Int) - 11)⟩ :: mkP false q'.1 := by rw [hu];rfl
    simp only at hT ⊢
    rw [hmk] at hT ⊢
    rcases hT _ (List.mem_cons_self ..) with hw|hw
    ·simp only [wantT,Int.toNat_natCast] at hw
     rw [hfr2,Int.toNat_natCast,show ((fr2 : Int) - (from_ : Int)).toNat = fr2 - from_ by omega] at hw
     have hlb : s.b.length = from_ := by rw [hb,List.length_take];omega
     have hst := step_more (data := data) hw hpb ho (by rw [hlb,List.length_drop,List.length_take];omega)
     have hcat : s.b ++ (data.take fr2).drop from_ = data.take fr2 := by
      rw [hb]
      have : data.take from_ = (data.take fr2).take from_ := by rw [List.take_take,Nat.min_eq_left (by omega)]
      rw [this,List.take_append_drop]
     rw [hcat] at hst
     rw [hfr2] at hq'
     have hnx : (b0 + (11 + (fr2 - from_)) : Nat) = (b0 : Int) + lf (b0 : Int) := by omega
     have hcl : bg (cl ((b0 : Int) + lf (b0 : Int))) = (b0 : Int) + lf (b0 : Int) := by rw [cl_in (by omega) l3,bg_block l4]
     obtain ⟨j,s',hrun,ha,ha2,hres⟩ := ih ((b0 : Int) + lf (b0 : Int)) fr2 false q' ⟨b0 + (11 + (fr2 - from_)),true,data.take fr2,if f = true then (b0 : Int) else s.first,s.recs,s.places,s.en⟩ hq' (by omega) (by rw [bgN_cast];show bg (cl ((b0 + (11 + (fr2 - from_)) : Nat) : Int)) = _;rw [hnx]) (by show b0 + (11 + (fr2 - from_)) ≤ 832;omega) rfl rfl (fun p hp => hT p (List.mem_cons_of_mem _ hp))
     refine ⟨j + 1,s',fun M hM => ?_,?_,ha2,?_⟩
     ·obtain ⟨M,rfl⟩ : ∃ x,M = x + 1 := ⟨M - 1,by omega⟩
      rw [scRun_some hst,hrun M (by omega)]
      congr 1
      omega
     ·simp only at ha;omega
     ·rcases hres with hres|⟨h1',h2',h3',h4',p,hp,h5'⟩
      ·left
       rw [hres,hb0']
       simp
      ·exact .inr ⟨h1',h2',h3',h4',p,List.mem_cons_of_mem _ hp,h5'⟩
    ·simp only [Int.toNat_natCast] at hw
     refine ⟨0,s,fun M _ => by rw [Nat.sub_zero],by omega,hs,.inr ⟨?_,rfl,rfl,rfl,_,List.mem_cons_self ..,by simpa using hw⟩⟩
     unfold scStep
     rw [hpb,hw]
def pcs (e64 : Int) (l : List (List Int)) (k : Nat) : List Pc := (cutP (laySt e64 l k).2 ((l.getD k []).length : Int)).1
theorem pcs_cut {e64 : Int} {l : List (List Int)} {k : Nat} (h : layOk e64 l k = true) : ∃ q,cutS 4 (laySt e64 l k).2 ((l.getD k []).length : Int) 0 = some q ∧ pcs e64 l k = mkP true q.1 ∧ (laySt e64 l (k + 1)).2 = q.2 := by
 unfold layOk at h
 unfold pcs
 simp only [laySt]
 unfold cutP at h ⊢
 split at h
 ·cases h
 ·rename_i h2
  rw [if_neg h2]
  cases hs : cutS 4 (laySt e64 l k).2 ((l.getD k []).length : Int) 0 with
  |none => rw [hs] at h;cases h
  |some q => exact ⟨q,rfl,by simp [cutR],rfl⟩
theorem run_recs (T : Tld) (e64 : Int) (l : List (List Int)) (hall : layAll e64 l = true) (hs : ∀ x ∈ l,x.length ≤ 512) (hT : ∀ k,k < l.length → ∀ p ∈ pcs e64 l k,T p.f0.toNat = some (wantT (l.getD k []) p) ∨ T p.f0.toNat = none) :
  ∀ k,k ≤ l.length → ∃ (j : Nat) (s' : ScSt),(∀ M,j ≤ M → scRun T M ScSt0 = scRun T (M - j) s') ∧ 11 * j ≤ s'.at_ ∧ s'.at_ ≤ 832 ∧
   ((∃ fst,s' = ⟨(laySt e64 l k).2.toNat,false,[],fst,l.take k,layPl e64 l k,(laySt e64 l k).2.toNat⟩) ∨
    (scStep T s' = none ∧ ∃ m,m < k ∧ s'.recs = l.take m ∧ s'.places = layPl e64 l m ∧ s'.en = (laySt e64 l m).2.toNat ∧ ∃ p ∈ pcs e64 l m,T p.f0.toNat = none)) := by
 intro k
 induction k with
 |zero => intro _;exact ⟨0,ScSt0,fun M _ => by rw [Nat.sub_zero],Nat.le_refl _,by decide,.inl ⟨0,rfl⟩⟩
 |succ k ih =>
  intro hk
  obtain ⟨j,s,hrun,hj,h8,hres⟩ := ih (by omega)
  rcases hres with ⟨fst,rfl⟩|⟨hst,m,hm,h2⟩
  ·have hok := (layAll_iff e64 l).1 hall k (by omega)
   obtain ⟨q,hq,hpcs,hen⟩ := pcs_cut hok
   have hend := laySt_end e64 l k
   have hlt : k < l.length := by omega
   have hmem : l.getD k [] ∈ l := by rw [List.getD_eq_getElem?_getD,List.getElem?_eq_getElem hlt];exact List.getElem_mem hlt
   have hT2 := hT k hlt
   rw [hpcs] at hT2
   obtain ⟨j2,s2,hrun2,hj2,h82,hres2⟩ := run_pieces T (l.getD k []) (hs _ hmem) 4 (laySt e64 l k).2 0 true q ⟨(laySt e64 l k).2.toNat,false,[],fst,l.take k,layPl e64 l k,(laySt e64 l k).2.toNat⟩ hq (Nat.zero_le _) (by rw [bgN_cast];simp only;rw [Int.toNat_of_nonneg hend.1]) (by simp only;omega) rfl rfl hT2
   refine ⟨j + j2,s2,fun M hM => ?_,?_,h82,?_⟩
   ·rw [hrun M (by omega),hrun2 (M - j) (by omega)]
    congr 1
    omega
   ·simp only at hj hj2;omega
   ·rcases hres2 with h|⟨h1,h2,h3,h4,p,hp,h5⟩
    ·left
     refine ⟨bg (cl (laySt e64 l k).2),?_⟩
     rw [h,hen,layPl_succ]
     have e1 : l.take k ++ [l.getD k []] = l.take (k + 1) := by
      rw [List.take_add_one,List.getD_eq_getElem?_getD,List.getElem?_eq_getElem hlt]
      rfl
     simp only [if_true,e1]
     rfl
    ·exact .inr ⟨h1,k,by omega,h2,h3,h4,p,by rw [hpcs];exact hp,h5⟩
  ·exact ⟨j,s,hrun,hj,h8,.inr ⟨hst,m,by omega,h2⟩⟩
theorem scan_pre (T : Tld) (e64 : Int) (l : List (List Int)) (hall : layAll e64 l = true) (hs : ∀ x ∈ l,x.length ≤ 512) (hT : ∀ k,k < l.length → ∀ p ∈ pcs e64 l k,T p.f0.toNat = some (wantT (l.getD k []) p) ∨ T p.f0.toNat = none)
  (hE : T (bgN (laySt e64 l l.length).2.toNat) = none) :
  ∃ m,m ≤ l.length ∧ (scRun T 76 ScSt0).recs = l.take m ∧ (scRun T 76 ScSt0).places = layPl e64 l m ∧ (scRun T 76 ScSt0).en = (laySt e64 l m).2.toNat ∧ ∀ s,s ≤ l.length → (∀ k,k < s → ∀ p ∈ pcs e64 l k,T p.f0.toNat ≠ none) → s ≤ m := by
 obtain ⟨j,s,hrun,hj,h8,hres⟩ := run_recs T e64 l hall hs hT l.length (Nat.le_refl _)
 rw [hrun 76 (by omega)]
 rcases hres with ⟨fst,rfl⟩|⟨hst,m,hm,h2,h3,h4,p,hp,h5⟩
 ·have hst : scStep T ⟨(laySt e64 l l.length).2.toNat,false,[],fst,l.take l.length,layPl e64 l l.length,(laySt e64 l l.length).2.toNat⟩ = none := by
   unfold scStep
   simp only [hE]
  rw [scRun_none hst]
  exact ⟨l.length,Nat.le_refl _,rfl,rfl,rfl,fun s hs _ => hs⟩
 ·rw [scRun_none hst]
  refine ⟨m,by omega,h2,h3,h4,fun s hs2 hint => ?_⟩
  rcases Nat.lt_or_ge m s with h|h
  ·exact absurd h5 (hint m h p hp)
  ·exact h
end Go.Proofs.YtaekpfhgdnfciaaDoor.Img
end

section
namespace Go.Proofs.YtaekpfhgdnfciaaDoor.O
open Go.RowKit Go.Proofs.YtaekpfhgdnfciaaDoorW.PrintWords Go.Proofs.YtaekpfhgdnfciaaDoorW.PrintLast Go.Proofs.YtaekpfhgdnfciaaDoorW.PrintMore Go.Proofs.YtaekpfhgdnfciaaDoor.F Go.Proofs.YtaekpfhgdnfciaaDoor.F.Nums Go.Proofs.YtaekpfhgdnfciaaDoor.Plain
theorem secAt_app (xs ys : List Int) (k m : Nat) (hx : xs.length = 64 * m) (hk : k < m) : secAt (xs ++ ys) k = secAt xs k := by
 unfold secAt
 rw [List.drop_append_of_le_length (by omega),List.take_append_of_le_length (by rw [List.length_drop];omega)]
theorem secAt_end (xs s : List Int) (k : Nat) (hx : xs.length = 64 * k) (hs : s.length = 64) (ys : List Int) : secAt (xs ++ (s ++ ys)) k = s := by
 unfold secAt
 rw [← hx,List.drop_left,List.take_left' hs]
theorem secAt_P (e : Int) (body : List Int) : ∀ (n k : Nat),k < n → secAt (flatP e body 0 n) k = sealF e (k : Int) (bodySec body k) := by
 intro n
 induction n with
 |zero => intro k hk;omega
 |succ n ih =>
  intro k hk
  unfold flatP
  by_cases h : k < n
  ·rw [secAt_app _ _ k n (flatP_len _ _ _ _) h,ih k h]
  ·obtain rfl : k = n := by omega
   rw [Nat.zero_add,← List.append_nil (sealF e (k : Int) (bodySec body k)),secAt_end _ _ k (flatP_len _ _ _ _) (sealF_len _ _ _) []]
   simp
theorem secAt_zs (n k : Nat) (hk : k < n) : secAt (zs (64 * n)) k = zs 64 := by
 unfold secAt zs
 rw [List.drop_replicate,List.take_replicate]
 congr 1
 omega
theorem secAt_W (e : Int) (body : List Int) (b k : Nat) (hb : b ≤ 16) (hk : k < 16) : secAt (flatW e body b 16) k = if k < b then sealF e (k : Int) (bodySec body k) else zs 64 := by
 unfold flatW
 rw [Nat.min_eq_right hb]
 by_cases h : k < b
 ·rw [if_pos h,secAt_app _ _ k b (flatP_len _ _ _ _) h,secAt_P _ _ _ _ h]
 ·rw [if_neg h]
  have : secAt (flatP e body 0 b ++ zs (64 * (16 - b))) k = secAt (zs (64 * (16 - b))) (k - b) := by
   unfold secAt
   rw [List.drop_append,flatP_len,List.drop_of_length_le (by rw [flatP_len];omega),List.nil_append,show 64 * k - 64 * b = 64 * (k - b) by omega]
  rw [this,secAt_zs _ _ (by omega)]
theorem openF_z (e i : Int) (he : e ≠ 0) : openF (zs 64) e i = false := by
 unfold openF
 rw [show getn (zs 64) 8 = 0 by decide +kernel]
 simp [Ne.symm he]
theorem okAt_W (e : Int) (h0 : 0 ≤ e) (h1 : e ≤ 18446744073709551615) (he : e ≠ 0) (body : List Int) (b k : Nat) (hb : b ≤ 16) (hk : k < 16) : okAt e (flatW e body b 16) 16 k = decide (k < b) := by
 unfold okAt
 rw [decide_eq_true hk,Bool.true_and,secAt_W e body b k hb hk]
 by_cases h : k < b
 ·rw [if_pos h,open_seal _ _ _ h0 h1,decide_eq_true h]
  simp
 ·rw [if_neg h,openF_z _ _ he,decide_eq_false h]
theorem roomAt_W (e : Int) (h0 : 0 ≤ e) (h1 : e ≤ 18446744073709551615) (he : e ≠ 0) (body : List Int) (b k : Nat) (hb : b ≤ 16) (hk : k < 16) : roomAt e (flatW e body b 16) 16 k = if k < b then bodySec body k ++ zs (52 - (bodySec body k).length) else zs 52 := by
 unfold roomAt
 rw [okAt_W e h0 h1 he body b k hb hk,secAt_W e body b k hb hk]
 by_cases h : k < b
 ·simp only [h,decide_true,if_true]
  rw [seal_drop,List.take_of_length_le]
  rw [bodySec_len]
  omega
 ·simp [h]
theorem zs_getD (n i : Nat) : (zs n).getD i 0 = 0 := by
 unfold zs
 rw [List.getD_eq_getElem?_getD,List.getElem?_replicate]
 split <;> rfl
end Go.Proofs.YtaekpfhgdnfciaaDoor.O
end
