/- Texts of mine put together: StepH, StepEE, StepYY, Step, RestM, ArrX, ScanRest, Scan, RSectors, FlFew, ScanB, Awake19, MixR, BitR, AppR, RApply, After. -/
import Derived.Test.YtaekpfhgdnfciaaDoorPkTearNear7
import Derived.Test.YtaekpfhgdnfciaaDoorPkTearNear12
import Derived.Test.YtaekpfhgdnfciaaDoorPkTearNear13
import Derived.Test.YtaekpfhgdnfciaaDoorPkTearNear11
import Derived.Test.YtaekpfhgdnfciaaDoorPkTearNear6
import Derived.Test.YtaekpfhgdnfciaaDoorPkTearNear5
import Derived.Test.YtaekpfhgdnfciaaDoorPkTearNear10
import Derived.Test.YtaekpfhgdnfciaaDoorPkTearNear3
import Derived.Test.YtaekpfhgdnfciaaDoorPkTearNear2
import Derived.Lib.SlBytesConst
import Derived.Lib.SmallJoins
import Derived.Test.YtaekpfhgdnfciaaDoorPkTearNear4
import Derived.Lib.Hide
set_option linter.unusedVariables false
set_option linter.unusedSimpArgs false

section
namespace Go.Proofs.YtaekpfhgdnfciaaDoor.O
open Go.RowKit Go.Proofs.YtaekpfhgdnfciaaDoorW.PrintWords Go.Proofs.YtaekpfhgdnfciaaDoorW.PrintLast Go.Proofs.YtaekpfhgdnfciaaDoorW.PrintMore Go.Proofs.YtaekpfhgdnfciaaDoor.F Go.Proofs.YtaekpfhgdnfciaaDoor.F.Nums Go.Proofs.YtaekpfhgdnfciaaDoor.Plain
attribute [local go_sem] Oper.semAt_some
theorem Own.front {w0 W : World} {F : Nat → Option Obj} {L L' : List Res} {r : Res} (H : Own w0 F L W) (hD : Del L r L') : Own w0 F (r :: L') W := by
 obtain ⟨A,B,rfl,rfl⟩ := hD.split
 exact H.perm List.perm_middle
def Drs (recs : List (List Int)) (cells : List Value) (D : List Res) : Prop := cells.length = recs.length ∧ ∀ j,j < recs.length → ∃ A c,cells[j]? = some (.slice A (recs.getD j []).length c) ∧ (recs.getD j []).length ≤ c ∧ (0 < (recs.getD j []).length → Res.row (.slice A (recs.getD j []).length c) 5 1 (recs.getD j []).length (nums .u8 (recs.getD j [])) ∈ D)
theorem Drs.snoc {recs : List (List Int)} {cells : List Value} {D : List Res} (h : Drs recs cells D) (r : List Int) (A : Option Addr) (c : Nat) (x : Value) (hc : r.length ≤ c) (hx : r ≠ [] → .slice A r.length c = x) : Drs (recs ++ [r]) (cells ++ [.slice A r.length c]) (Res.row x 5 1 r.length (nums .u8 r) :: D) := by
 refine ⟨by simp [h.1],fun j hj => ?_⟩
 by_cases e : j < recs.length
 ·obtain ⟨A2,c2,h1,h2,h3⟩ := h.2 j e
  have e2 : (recs ++ [r]).getD j [] = recs.getD j [] := by rw [List.getD_eq_getElem?_getD,List.getD_eq_getElem?_getD,List.getElem?_append_left e]
  rw [e2]
  exact ⟨A2,c2,by rw [List.getElem?_append_left (by rw [h.1];exact e)];exact h1,h2,fun hp => List.mem_cons_of_mem _ (h3 hp)⟩
 ·have e3 : j = recs.length := by simp at hj;omega
  subst e3
  have e2 : (recs ++ [r]).getD recs.length [] = r := by rw [List.getD_eq_getElem?_getD,List.getElem?_append_right (Nat.le_refl _),Nat.sub_self];rfl
  rw [e2]
  refine ⟨A,c,by rw [List.getElem?_append_right (by rw [h.1];exact Nat.le_refl _),h.1,Nat.sub_self];rfl,hc,fun hp => ?_⟩
  have := hx (fun h => by rw [h] at hp;simp at hp)
  rw [this]
  exact List.mem_cons_self ..
theorem left_c (a : Int) (w : World) : Calls Tryd.prog 50 #[.int .i64 a] w fun e W => e = .returned (.int .i64 (lf (cl a))) ∧ Below w.heap.size w W := span_Left.calls a _ w (SpanP.left_eq a)
theorem cov_own (ok : List Bool) (hok : ok.length = 16) (f t : Int) (A : Option Addr) (c : Nat) (hc : 16 ≤ c) (w : World) (hr : Rd w A (bools ok)) :
  Calls Tryd.prog 48 #[.slice A 16 c,.int .i64 f,.int .i64 t] w fun e W => e = .returned (.bool (cov ok f t)) ∧ Below w.heap.size w W := by
 obtain ⟨a,b,h,hab,hb⟩ := touch_nat f t
 have := cov_c ok f t a b h hab hb A c w hr (by omega) (by omega)
 unfold cov
 rw [h]
 simp only [Int.toNat_natCast]
 rwa [hok] at this
theorem fr_C {w : World} {Ab : Option Addr} {F : List Int} {p cb lfn : Nat} (hR : Rd w Ab (nums .u8 F)) (hF : F.length = 832) (hcb : 832 ≤ cb) (hp : p < 832) (hl : (lf (p : Int)).toNat = lfn) (hl2 : p + lfn ≤ 832) : (Kd.int .u8).C w (dropA Ab p cb 1) lfn (frAt F p) := by
 have := (hR.dropA p cb 1 (fun e => by rw [nums_length];omega)).take lfn
 rw [Nat.mul_one,nums_drop,nums_take] at this
 unfold frAt
 rw [hl]
 exact this.C (by rw [List.length_take,List.length_drop];omega) (by omega)
theorem scStep_none {T : Nat → Option (Int × List Int × Nat)} {s : ScSt} (h : T (bgN s.at_) = none) : scStep T s = none := by unfold scStep;rw [h]
theorem scStep_some {T : Nat → Option (Int × List Int × Nat)} {s : ScSt} {k : Int} {d : List Int} {n : Nat} (h : T (bgN s.at_) = some (k,d,n)) : scStep T s = scFed s k d n := by unfold scStep;rw [h]
theorem feedF_nd {op : Bool} {b : List Int} {k : Int} {d : List Int} {rd b2 : List Int} {er : Int} {o2 : Bool} (h : feedF op b k d = ((rd,false,er),(o2,b2))) : rd = [] := by
 unfold feedF at h
 split at h
 ·cases h;rfl
 ·split at h
  ·cases h;rfl
  ·split at h
   ·cases h
   ·cases h;rfl
theorem feedF_d {op : Bool} {b : List Int} {k : Int} {d : List Int} {rd b2 : List Int} {er : Int} {o2 : Bool} (h : feedF op b k d = ((rd,true,er),(o2,b2))) : b2 = [] := by
 unfold feedF at h
 split at h
 ·cases h
 ·split at h
  ·cases h
  ·split at h
   ·cases h;rfl
   ·cases h
theorem feedF_er {op : Bool} {b : List Int} {k : Int} {d : List Int} {rd b2 : List Int} {er : Int} {dn o2 : Bool} (h : feedF op b k d = ((rd,dn,er),(o2,b2))) (he : er ≠ 0) : dn = false := by
 unfold feedF at h
 split at h
 ·cases h;rfl
 ·split at h
  ·cases h;rfl
  ·split at h
   ·cases h;exact absurd rfl he
   ·cases h;exact absurd rfl he


end Go.Proofs.YtaekpfhgdnfciaaDoor.O
end

section
namespace Go.Proofs.YtaekpfhgdnfciaaDoor.O
open Go.RowKit Go.Proofs.YtaekpfhgdnfciaaDoorW.PrintWords Go.Proofs.YtaekpfhgdnfciaaDoorW.PrintLast Go.Proofs.YtaekpfhgdnfciaaDoorW.PrintMore Go.Proofs.YtaekpfhgdnfciaaDoor.F Go.Proofs.YtaekpfhgdnfciaaDoor.F.Nums Go.Proofs.YtaekpfhgdnfciaaDoor.Plain

end Go.Proofs.YtaekpfhgdnfciaaDoor.O
end

section
namespace Go.Proofs.YtaekpfhgdnfciaaDoor.Img
open Go.RowKit Go.Proofs.YtaekpfhgdnfciaaDoor.F Go.Proofs.YtaekpfhgdnfciaaDoor.F.Nums Go.Proofs.YtaekpfhgdnfciaaDoor.O Go.Proofs.YtaekpfhgdnfciaaDoorW.PrintWords Go.Proofs.YtaekpfhgdnfciaaDoorW.PrintLast Go.Proofs.YtaekpfhgdnfciaaDoorW.PrintMore Go.Proofs.YtaekpfhgdnfciaaDoor.Plain
def secRest (x : List Int) (i : Nat) (e : Int) : Bool := (List.range 64).all fun (k : Nat) => x.getD k 0 == 0 ||!(decide (e ≤ 52 * (i : Int)) ||(decide (12 ≤ k) && decide (e ≤ 52 * (i : Int) + (k : Int) - 12)))
def restB (fl : List Int) (n : Nat) (e : Int) : Bool := (List.range (min n 16)).all fun i => secRest (secAt fl i) i e
theorem secRest_iff (x : List Int) (i : Nat) (e : Int) : secRest x i e = true ↔ ∀ k : Nat,k < 64 → (e ≤ 52 * (i : Int) ∨ (12 ≤ k ∧ e ≤ 52 * (i : Int) + (k : Int) - 12)) → x.getD k 0 = 0 := by
 unfold secRest
 rw [List.all_eq_true]
 constructor
 ·intro h k hk h2
  have := h k (List.mem_range.2 hk)
  simp only [Bool.or_eq_true,beq_iff_eq,Bool.not_eq_true',Bool.or_eq_false_iff,Bool.and_eq_false_iff,decide_eq_false_iff_not] at this
  omega
 ·intro h k hk
  have hk2 := List.mem_range.1 hk
  simp only [Bool.or_eq_true,beq_iff_eq,Bool.not_eq_true',Bool.or_eq_false_iff,Bool.and_eq_false_iff,decide_eq_false_iff_not]
  by_cases h2 : e ≤ 52 * (i : Int) ∨ (12 ≤ k ∧ e ≤ 52 * (i : Int) + (k : Int) - 12)
  ·exact .inl (h k hk2 h2)
  ·right
   omega
def restU (fl : List Int) (e : Int) (i : Nat) : Bool := (List.range i).all fun i => secRest (secAt fl i) i e
theorem restU_succ (fl : List Int) (e : Int) (i : Nat) : restU fl e (i + 1) = (restU fl e i && secRest (secAt fl i) i e) := by
 unfold restU
 rw [List.range_succ,List.all_append]
 simp
theorem restB_eq (fl : List Int) (n : Nat) (e : Int) : restB fl n e = restU fl e (min n 16) := rfl
theorem restU_false (fl : List Int) (e : Int) (i m : Nat) (hi : i < m) (h : secRest (secAt fl i) i e = false) : restU fl e m = false := by
 rw [Bool.eq_false_iff]
 intro h2
 unfold restU at h2
 rw [List.all_eq_true] at h2
 have := h2 i (List.mem_range.2 hi)
 rw [h] at this
 cases this
end Go.Proofs.YtaekpfhgdnfciaaDoor.Img
end

section
namespace Go.Proofs.YtaekpfhgdnfciaaDoor.O
open Go.RowKit Go.Proofs.YtaekpfhgdnfciaaDoorW.PrintWords Go.Proofs.YtaekpfhgdnfciaaDoorW.PrintLast Go.Proofs.YtaekpfhgdnfciaaDoorW.PrintMore Go.Proofs.YtaekpfhgdnfciaaDoor.F Go.Proofs.YtaekpfhgdnfciaaDoor.F.Nums Go.Proofs.YtaekpfhgdnfciaaDoor.Plain
section
variable {P : Program} {o : Oper} {a : Act} {t e : TypeId} {N g : Nat}
end
end Go.Proofs.YtaekpfhgdnfciaaDoor.O
end

section
namespace Go.Proofs.YtaekpfhgdnfciaaDoor.O
open Go.RowKit Go.Proofs.YtaekpfhgdnfciaaDoorW.PrintWords Go.Proofs.YtaekpfhgdnfciaaDoorW.PrintLast Go.Proofs.YtaekpfhgdnfciaaDoorW.PrintMore Go.Proofs.YtaekpfhgdnfciaaDoor.F Go.Proofs.YtaekpfhgdnfciaaDoor.F.Nums Go.Proofs.YtaekpfhgdnfciaaDoor.Plain
attribute [local go_sem] max2_int min2_int max_two min_two max_three min_three max_four min_four

theorem Drs.rd {w W : World} {F : Nat → Option Obj} {L D : List Res} {recs : List (List Int)} {cells : List Value} (h : Drs recs cells D) (H : Own w F L W) (hD : ∀ r ∈ D,r ∈ L) (j : Nat) (hlt : j < recs.length) :
  ∃ A2 c2,cells[j]? = some (.slice A2 (recs.getD j []).length c2) ∧ (recs.getD j []).length ≤ c2 ∧ (∀ W,Own w F L W → (Kd.int .u8).C W A2 (recs.getD j []).length (recs.getD j [])) := by
 obtain ⟨A2,c2,h1,h2,h3⟩ := h.2 j hlt
 refine ⟨A2,c2,h1,h2,fun W H => ?_⟩
 generalize recs.getD j [] = p at *
 by_cases h0 : 0 < p.length
 ·have hat := H.ats _ (hD _ (h3 h0))
  have hR : Kd.R (Kd.int .u8) 5 W w.heap.size (fun _ => True) (.slice A2 p.length c2) p := Kd.R_of_own hat (fun _ _ => trivial)
  obtain ⟨A6,c6,e6,l6,C6⟩ := Kd.R_reads hR
  injection e6 with e7
  rw [e7]
  exact C6
 ·obtain rfl : p = [] := List.eq_nil_of_length_eq_zero (by omega)
  exact ⟨rfl,by simp,fun h => absurd h (by simp)⟩
theorem Drs.C {w W : World} {F : Nat → Option Obj} {L D : List Res} {recs : List (List Int)} {cells : List Value} {A : Option Addr} {cr : Nat} {c : Res → List Res} (h : Drs recs cells D) (H : Own w F L W) (hI : In L (.row (.slice A recs.length cr) 38 1 recs.length cells) c) (hD : ∀ r ∈ D,r ∈ L) (hm : recs.length ≤ 1000) :
  (Kd.slice 5 (Kd.int .u8)).C W A recs.length recs := by
 refine ⟨rfl,by omega,fun hp => ?_⟩
 obtain ⟨ad,rfl,hc⟩ := (H.rd hI).1 (by rw [h.1];exact hp)
 refine ⟨ad,rfl,fun j p hj => ?_⟩
 have hlt := (List.getElem?_eq_some_iff.1 hj).1
 obtain ⟨A2,c2,h1,h2,h3⟩ := h.rd H hD j hlt
 have hpp : recs.getD j [] = p := by rw [List.getD_eq_getElem?_getD,hj];rfl
 rw [hpp] at h1 h2 h3
 refine ⟨[.slice A2 p.length c2],rfl,⟨A2,c2,rfl,h2,h3 W H⟩,fun i u hu => ?_⟩
 have hi : i = 0 := by have := (List.getElem?_eq_some_iff.1 hu).1;simpa using this
 subst hi
 simp at hu
 subst hu
 show W.cell? (ad.add (j * 1 + 0)) = _
 rw [Nat.mul_one,Nat.add_zero]
 exact hc j _ h1
theorem told_adv {ep : Int} {F : List Int} {ok : List Bool} {p : Nat} {k : Int} {d : List Int} {n : Nat} (hp : p ≤ 832) (hF : F.length = 832) (h : told ep F ok p = some (k,d,n)) : p < 832 ∧ 11 ≤ n ∧ p + n ≤ 832 := by
 unfold told at h
 split at h
 ·cases h
 ·rename_i h8
  split at h
  ·cases h
  ·split at h
   ·cases h
   ·rename_i hE
    split at h
    ·cases h
    ·have := Option.some.inj h
     simp only [Prod.mk.injEq] at this
     obtain ⟨-,-,rfl⟩ := this
     have hd := dec_ok (Decidable.of_not_not hE)
     have hl : (frAt F p).length ≤ 832 - p := by unfold frAt;rw [List.length_take,List.length_drop];omega
     omega
end Go.Proofs.YtaekpfhgdnfciaaDoor.O
end

section
namespace Go.Proofs.YtaekpfhgdnfciaaDoor.O
open Go.RowKit Go.Proofs.YtaekpfhgdnfciaaDoorW.PrintWords Go.Proofs.YtaekpfhgdnfciaaDoorW.PrintLast Go.Proofs.YtaekpfhgdnfciaaDoorW.PrintMore Go.Proofs.YtaekpfhgdnfciaaDoor.F Go.Proofs.YtaekpfhgdnfciaaDoor.F.Nums Go.Proofs.YtaekpfhgdnfciaaDoor.Plain
set_option maxRecDepth 100000 in
set_option maxHeartbeats 4000000 in
theorem rsectors_yes (e64 : Int) (l : List (List Int)) (A : Option Addr) (c : Nat) (w : World) (b : Nat) (h : Img.layAll e64 l = true) (ht : tch (cl 0) (cl (Img.laySt e64 l l.length).2) = (((0 : Nat) : Int),(b : Int))) (hb : b ≤ 16) (he : 0 ≤ e64 ∧ e64 ≤ 18446744073709551615) (hl : ∀ x ∈ l,Bytes x)
  (hll : ∀ x ∈ l,x.length ≤ 140737488355328) (hn : l.length ≤ 9000000000000) (hC : (Kd.slice 5 (Kd.int .u8)).C w A l.length l) (hc : l.length ≤ c) :
  Calls Tryd.prog 15 #[.int .u64 e64,.slice A l.length c] w fun e W => ∃ v,e = .returned (.tuple #[v,.bool true]) ∧ W.ownsRow w.heap.size 51 64 v 16 (nums .u8 (flatW e64 (Img.laySt e64 l l.length).1 b 16)) ∧ Below w.heap.size w W := by
 have H := Own.start w
 have hR := Img.rlay_eq (7000 + l.length) e64 l he.1 hl hll hn (Nat.le_refl _)
 unfold Img.layR at hR
 rw [if_pos h] at hR
 have BC := fun W h1 => strandlineref17_Lay.calls (7000 + l.length) e64 A c l _ _ _ _ W h1 hc hR
 have hbl := Img.laySt_len e64 l l.length
 have WC := fun A1 c1 W h1 (h2 : 832 ≤ c1) => rwhole_calls e64 he.1 he.2 (Img.laySt e64 l l.length).1 (Img.laySt e64 l l.length).2 b ht hb A1 c1 W h1 (by omega) (by omega)
 rw [hbl] at WC
 generalize flatW e64 (Img.laySt e64 l l.length).1 b 16 = fl at *
 clear ht h hR
 generalize Img.layPl e64 l l.length = pl at *
 generalize (Img.laySt e64 l l.length).1 = body at *
 generalize (Img.laySt e64 l l.length).2 = en at *
 generalize l.length = n at *
 go_enter Tryd.func15,Tryd.ntmps15
 go_wp2_with (first
 |(go_at_call 17;(with_reducible refine (BC _ (Kd.C_below hC H.below)).mono ?_);rintro e W ⟨v6,v7,rfl,hR6,hR7,hb⟩;replace H := H.to hb;obtain ⟨A6,c6,rfl,hl6,C6⟩ := Kd.R_reads hR6;rw [hbl] at hl6 C6 ⊢;clear hb hR6 hR7)
 |(go_at_call 35;(with_reducible refine (WC _ _ _ C6 hl6).mono ?_);rintro e W ⟨v4,rfl,ho,hb'⟩;replace H := H.addRow hb' ho;clear ho hb'))
 go_ret2
 exact ⟨_,rfl,H.at_ .head,H.below⟩
set_option maxRecDepth 100000 in
set_option maxHeartbeats 4000000 in
theorem rsectors_nope (e64 : Int) (l : List (List Int)) (A : Option Addr) (c : Nat) (w : World) (h : Img.layAll e64 l = false) (he : 0 ≤ e64 ∧ e64 ≤ 18446744073709551615) (hl : ∀ x ∈ l,Bytes x)
  (hll : ∀ x ∈ l,x.length ≤ 140737488355328) (hn : l.length ≤ 9000000000000) (hC : (Kd.slice 5 (Kd.int .u8)).C w A l.length l) (hc : l.length ≤ c) :
  Calls Tryd.prog 15 #[.int .u64 e64,.slice A l.length c] w fun e W => e = .returned (.tuple #[.slice none 0 0,.bool false]) ∧ Below w.heap.size w W := by
 have H := Own.start w
 have hR := Img.rlay_eq (7000 + l.length) e64 l he.1 hl hll hn (Nat.le_refl _)
 unfold Img.layR at hR
 rw [if_neg (by rw [h];decide)] at hR
 have BC := fun W h1 => strandlineref17_Lay.calls (7000 + l.length) e64 A c l _ _ _ _ W h1 hc hR
 clear hR h
 generalize l.length = n at *
 go_enter Tryd.func15,Tryd.ntmps15
 go_wp2_with (first
 |(go_at_call 17;(with_reducible refine (BC _ (Kd.C_below hC H.below)).mono ?_);rintro e W ⟨v6,v7,rfl,hR6,hR7,hb⟩;replace H := H.to hb;obtain ⟨A6,c6,rfl,hl6,C6⟩ := Kd.R_reads hR6;clear hb hR6 hR7))
 go_ret2
 exact ⟨rfl,H.below⟩
end Go.Proofs.YtaekpfhgdnfciaaDoor.O
end

section
namespace Go.Proofs.YtaekpfhgdnfciaaDoor.F
open Go.RowKit Go.Proofs.YtaekpfhgdnfciaaDoorW.PrintWords Go.Proofs.YtaekpfhgdnfciaaDoorW.PrintLast Go.Proofs.YtaekpfhgdnfciaaDoorW.PrintMore
attribute [local go_sem high] eqA83
attribute [local go_sem] field83_0
attribute [local go_sem] field83_1
attribute [local go_sem] max2_int min2_int max_two min_two max_three min_three max_four min_four
/-! ### strandlinelaw19_Few: function 16 -/
def strandlinelaw19_Few.l0 : Nat → List (List Int) → Int → Option (Bool)
 |0,_,_ => none
 |k + 1,x0,x3 => if x3 < (x0.length : Int) then (if 0 ≤ x3 then (if ((rd_L3 x0 x3).length : Int) > 512 then (some false) else (strandlinelaw19_Few.l0 k x0 (wrap64 (x3 + 1)))) else (none)) else (some (decide ((x0.length : Int) ≤ 100)))
def strandlinelaw19_Few.f (k : Nat) (l0 : List (List Int)) : Option (Bool) := strandlinelaw19_Few.l0 k l0 0
set_option maxHeartbeats 8000000 in
set_option maxRecDepth 100000 in
theorem strandlinelaw19_Few.calls (k : Nat) (A0 : Option Addr) (c0 : Nat) (l0 : List (List Int)) (r : Bool) (w : World) (hr0 : Kd.C (Kd.slice 5 (Kd.int .u8)) w A0 l0.length l0) (hc0 : l0.length ≤ c0) (h : strandlinelaw19_Few.f k l0 = some r) :
  Calls Tryd.prog 16 #[.slice A0 l0.length c0] w fun e w' => e = .returned (.bool r) ∧ Drawn0 w w' := by
 have hu73 := Tryd.underlying73
 have hu76 := Tryd.underlying76
 have hu83 := Tryd.underlying83
 have hu94 := Tryd.underlying94
 have hu106 := Tryd.underlying106
 have HR0 := Aside0.mk hr0
 have HC0 := Aside0.mk hc0
 clear hr0 hc0
 have H : (strandlinelaw19_Few.l0 k l0 0) = some r := h
 clear h
 have H' := Aside0.mk H
 clear H
 go_enter Tryd.func16,Tryd.ntmps16
 go_wp2
 go_loopg [3] k (fun kq v3 w' => ∃ (x3_1 : Int),v3 = .int .i64 x3_1 ∧ Aside0 (strandlinelaw19_Few.l0 kq l0 x3_1 = some r) ∧ Aside0 (kq ≤ k) ∧ Drawn0 w w')
 case atStart => exact ⟨(0),(by first|rfl|(simp;done)|(simp [*];done)),H',⟨Nat.le_refl _⟩,by repeat (first|exact Drawn0.refl _|apply Drawn0.step)⟩
 case round =>
  clear H'
  try clear c1
  obtain ⟨x3_1,rfl,HA,HK1,⟨m1,rfl⟩⟩ := hrel
  cases gk with
  |zero => exact absurd HA.out (by simp [strandlinelaw19_Few.l0])
  |succ k1 =>
   have H := HA.out
   clear HA
   simp only [strandlinelaw19_Few.l0] at H
   by_cases c2 : x3_1 < (l0.length : Int)
   ·rw [if_pos c2] at H
    have c2b0 : decide (x3_1 < (l0.length : Int)) = true := decide_eq_true c2
    clear c2
    by_cases c3 : 0 ≤ x3_1
    ·rw [if_pos c3] at H
     have c3b0 : decide (0 ≤ x3_1) = true := decide_eq_true c3
     clear c3
     by_cases c4 : ((rd_L3 l0 x3_1).length : Int) > 512
     ·rw [if_pos c4] at H
      have c4b0 : decide (512 < ((rd_L3 l0 x3_1).length : Int)) = true := decide_eq_true c4
      have c4b1 : decide (512 < (rd_L3 l0 x3_1).length) = true := decide_eq_true (by omega)
      clear c4
      obtain rfl := Option.some.inj H
      have p207 : 0 ≤ (x3_1 : Int) := of_decide_eq_true (by first|(with_reducible assumption)|assumption)
      have q207 : x3_1 < (l0.length : Int) := of_decide_eq_true (by first|(with_reducible assumption)|assumption)
      obtain ⟨ad207,A207_0,c207_0,e207,hx207_0,hl207_0,hi207_0⟩ := at_L3 HR0.out x3_1 p207 q207
      cases e207
      have HR207_0 := Aside0.mk hi207_0
      have HC207_0 := Aside0.mk hl207_0
      clear hi207_0 hl207_0
      replace p207 := eq_true p207
      replace q207 := eq_true q207
      go_wp2
      go_ret
      exact ⟨by first|rfl|(simp;done)|(simp [*];done),by repeat (first|exact Drawn0.refl _|apply Drawn0.step)⟩
     ·rw [if_neg c4] at H
      have c4b0 : decide (512 < ((rd_L3 l0 x3_1).length : Int)) = false := decide_eq_false c4
      have c4b1 : decide (512 < (rd_L3 l0 x3_1).length) = false := decide_eq_false (by omega)
      clear c4
      have H' := Aside0.mk H
      clear H
      have p207 : 0 ≤ (x3_1 : Int) := of_decide_eq_true (by first|(with_reducible assumption)|assumption)
      have q207 : x3_1 < (l0.length : Int) := of_decide_eq_true (by first|(with_reducible assumption)|assumption)
      obtain ⟨ad207,A207_0,c207_0,e207,hx207_0,hl207_0,hi207_0⟩ := at_L3 HR0.out x3_1 p207 q207
      cases e207
      have HR207_0 := Aside0.mk hi207_0
      have HC207_0 := Aside0.mk hl207_0
      clear hi207_0 hl207_0
      replace p207 := eq_true p207
      replace q207 := eq_true q207
      go_wp2
      go_roundg k1
      case measure => have := HK1.out;omega
      case rel => exact ⟨(wrap64 (x3_1 + 1)),(by first|rfl|(simp;done)|(simp [*];done)),H',⟨by have := HK1.out;omega⟩,by repeat (first|exact Drawn0.refl _|apply Drawn0.step)⟩
    ·rw [if_neg c3] at H
     exact absurd H (by simp)
   ·rw [if_neg c2] at H
    have c2b0 : decide (x3_1 < (l0.length : Int)) = false := decide_eq_false c2
    clear c2
    obtain rfl := Option.some.inj H
    go_wp2
    go_ret
    exact ⟨by first|rfl|(simp;done)|(simp [*];done),by repeat (first|exact Drawn0.refl _|apply Drawn0.step)⟩
end Go.Proofs.YtaekpfhgdnfciaaDoor.F
end

section
namespace Go.Proofs.YtaekpfhgdnfciaaDoor.O
open Go.RowKit Go.Proofs.YtaekpfhgdnfciaaDoorW.PrintWords Go.Proofs.YtaekpfhgdnfciaaDoorW.PrintLast Go.Proofs.YtaekpfhgdnfciaaDoorW.PrintMore Go.Proofs.YtaekpfhgdnfciaaDoor.F Go.Proofs.YtaekpfhgdnfciaaDoor.F.Nums Go.Proofs.YtaekpfhgdnfciaaDoor.Plain
theorem few_l (l : List (List Int)) (hl : l.length ≤ 9000000000000) (d : Nat) : ∀ (k i : Nat),i + d = l.length → d < k → strandlinelaw19_Few.l0 k l (i : Int) = some ((l.drop i).all (fun x => decide (x.length ≤ 512)) && decide (l.length ≤ 100)) := by
 induction d with
 |zero =>
  intro k i h hk
  obtain ⟨k,rfl⟩ : ∃ j,k = j + 1 := ⟨k - 1,by omega⟩
  simp only [strandlinelaw19_Few.l0]
  rw [if_neg (by omega),List.drop_of_length_le (by omega)]
  have : decide ((l.length : Int) ≤ 100) = decide (l.length ≤ 100) := by rw [decide_eq_decide];omega
  rw [this]
  rfl
 |succ d ih =>
  intro k i h hk
  obtain ⟨k,rfl⟩ : ∃ j,k = j + 1 := ⟨k - 1,by omega⟩
  have hlt : i < l.length := by omega
  have hx : rd_L3 l (i : Int) = l[i] := by unfold rd_L3;rw [Int.toNat_natCast,List.getD_eq_getElem?_getD,List.getElem?_eq_getElem hlt];rfl
  simp only [strandlinelaw19_Few.l0]
  rw [if_pos (by omega),if_pos (by omega),hx,List.drop_eq_getElem_cons hlt,List.all_cons]
  by_cases h5 : l[i].length ≤ 512
  ·rw [if_neg (by omega),w64 (by omega) (by omega),decide_eq_true h5,Bool.true_and]
   exact ih k (i + 1) (by omega) (by omega)
  ·rw [if_pos (by omega),decide_eq_false h5]
   rfl
theorem few19_calls (l : List (List Int)) (A : Option Addr) (c : Nat) (w : World) (hC : (Kd.slice 5 (Kd.int .u8)).C w A l.length l) (hc : l.length ≤ c) (hl : l.length ≤ 9000000000000) :
  Calls Tryd.prog 16 #[.slice A l.length c] w fun e W => e = .returned (.bool (l.all (fun x => decide (x.length ≤ 512)) && decide (l.length ≤ 100))) ∧ Below w.heap.size w W :=
 (strandlinelaw19_Few.calls (l.length + 1) A c l _ w hC hc (by have := few_l l hl l.length (l.length + 1) 0 (by omega) (by omega);rwa [List.drop_zero] at this)).mono (by rintro e W ⟨rfl,hd⟩;exact ⟨rfl,hd.below⟩)
theorem C_rows_at {w : World} {A : Option Addr} {n : Nat} {l : List (List Int)} (h : Kd.C (Kd.slice 5 (Kd.int .u8)) w A n l) (k : Nat) (hk : k < n) :
  ∃ ad A2 c2,A = some ad ∧ w.cell? (ad.add k) = some (.slice A2 (l.getD k []).length c2) ∧ (l.getD k []).length ≤ c2 ∧ (Kd.int .u8).C w A2 (l.getD k []).length (l.getD k []) := by
 obtain ⟨ad,c,e,_,hK,hc0⟩ := Kd.C_get h [] (k : Int) (by omega) (by omega)
 obtain ⟨A2,c2,rfl,l2,g2⟩ := hK
 have := hc0 0 _ rfl
 rw [Int.toNat_natCast] at this l2 g2
 simp only [Kd.slice,Nat.mul_one,Nat.add_zero] at this
 exact ⟨ad,A2,c2,e,by simpa using this,l2,g2⟩
theorem r_loadCell4 {P : Program} {o : Oper} {a : Act} {W : World} {p : Addr} {v : Value} (ty : TypeId) (x : Operand) (ho : o.op = .load ty x) (hx : a.eval x = .pointer (some p)) (hc : W.cell? p = some v) (d : TypeDesc) (hu : P.underlying ty = some d) (hd : d.isRow = false) :
  (execOp a.eval o).run P W = .ok (.value v) W := by
 have hag : (isAgg ty).run P W = .ok false W := by
  unfold isAgg
  rw [Sem.run_bind,run_underlying hu W]
  cases d <;> simp_all
 unfold execOp
 simp [ho,hx,Instr.loadAt,Instr.sureAddr,loadVar,hag,hc]
theorem C_rows {w : World} {ad : Addr} (xs : List (List Int)) (hm : xs.length ≤ 9223372036854775807) (h : ∀ j,j < xs.length → ∃ A c,w.cell? (ad.add j) = some (.slice A (xs.getD j []).length c) ∧ (xs.getD j []).length ≤ c ∧ (Kd.int .u8).C w A (xs.getD j []).length (xs.getD j [])) :
  (Kd.slice 5 (Kd.int .u8)).C w (some ad) xs.length xs := by
 refine ⟨rfl,hm,fun _ => ⟨ad,rfl,fun j p hj => ?_⟩⟩
 have hlt := (List.getElem?_eq_some_iff.1 hj).1
 obtain ⟨A,c,h1,h2,h3⟩ := h j hlt
 have hp : xs.getD j [] = p := by rw [List.getD_eq_getElem?_getD,hj];rfl
 rw [hp] at h1 h2 h3
 refine ⟨[.slice A p.length c],rfl,⟨A,c,rfl,h2,h3⟩,fun i u hu => ?_⟩
 have hi : i = 0 := by have := (List.getElem?_eq_some_iff.1 hu).1;simpa using this
 subst hi
 simp at hu
 subst hu
 show w.cell? (ad.add (j * 1 + 0)) = _
 rw [Nat.mul_one,Nat.add_zero]
 exact h1
theorem C_cells19 {w : World} {g : Nat} {k : IntKind} {l : List Int} {t : TypeId} {fr : Nat × Nat} (h : w.heap[g]? = some (.cells (l.map (Value.int k)).toArray t fr)) (hl : l.length ≤ 9223372036854775807) : (Kd.int k).C w (some ⟨g,0,none⟩) l.length l := by
 refine ⟨rfl,hl,fun _ => ⟨_,rfl,fun j p hj => ⟨[.int k p],rfl,rfl,fun i u hu => ?_⟩⟩⟩
 have hi0 : i = 0 := by have := (List.getElem?_eq_some_iff.1 hu).1;simpa using this
 subst hi0
 have e1 := cell_of_row w g j _ _ _ h
 simp at hu
 subst hu
 have e2 : (Addr.add ⟨g,0,none⟩ (j * (Kd.int k).sz + 0)) = ⟨g,j,none⟩ := by
  rw [show (Kd.int k).sz = 1 from rfl]
  unfold Addr.add
  by_cases hj0 : j = 0
  ·subst hj0;rfl
  ·simp [hj0]
 rw [e2,e1]
 simp [hj]
theorem mix_step (xs ys : List Int) (hx : xs.length = 64) (hy : ys.length = 64) (i : Nat) (hi : i < 64) : (ys.take i ++ xs.drop i).set i (ys.getD i 0) = ys.take (i + 1) ++ xs.drop (i + 1) := by
 have hl : (ys.take i).length = i := by rw [List.length_take];omega
 rw [List.set_append_right _ _ (by omega),hl,Nat.sub_self,List.drop_eq_getElem_cons (by omega : i < xs.length),List.set_cons_zero,List.take_succ_eq_append_getElem (by omega : i < ys.length),List.append_assoc,List.getD_eq_getElem?_getD,List.getElem?_eq_getElem (by omega : i < ys.length)]
 rfl
set_option maxRecDepth 100000 in
set_option maxHeartbeats 4000000 in
theorem rmix_calls (xs ys : List Int) (hx : xs.length = 64) (hy : ys.length = 64) (cut : Int) (k : Nat) (hk : (k : Int) = max 0 (min cut 64)) (w : World) :
  Calls Tryd.prog 62 #[.agg (nums .u8 xs).toArray,.agg (nums .u8 ys).toArray,.int .i64 cut] w fun e w' => e = .returned (.agg (nums .u8 (ys.take k ++ xs.drop k)).toArray) ∧ Below w.heap.size w w' := by
 have H := Own.start w
 have hk64 : k ≤ 64 := by omega
 go_enter Tryd.func62,Tryd.ntmps62
 go_wp2_with (first
  |((with_reducible refine gate_dst (N := 3) rfl ?_);refine l_boxA rfl H 51 _ rfl _ rfl ?_;clear H;intro g3 W H)
  |((with_reducible refine gate_dst (N := 4) rfl ?_);refine l_boxA rfl H 51 _ rfl _ rfl ?_;clear H;intro g4 W H)
  |((with_reducible refine gate_dst (N := 6) rfl ?_);refine l_allocA rfl H 51 rfl _ zero51 ?_;clear H;intro g6 W H)
  |((with_reducible refine gate_dst (N := 9) rfl ?_);refine l_loadA rfl H 51 _ rfl _ rfl (by repeat constructor) _ _ Tryd.underlying51 rfl size51 (by first|rfl|assumption|omega|(simp only [nums_length];omega)|simp [nums_length,zs] <;> omega) ?_)
  |((with_reducible refine gate_dst (N := 7) rfl ?_);refine l_allocA rfl H 51 rfl _ zero51 ?_;clear H;intro g7 W H)
  |((with_reducible refine gate_store (t := 51) (p := 7) rfl ?_);refine l_storeW rfl H 51 _ _ rfl _ rfl _ rfl (by repeat constructor) _ size51 (by first|rfl|assumption|omega|(simp only [nums_length];omega)|simp [nums_length,zs] <;> omega) (by first|rfl|assumption|omega|(simp only [nums_length];omega)|simp [nums_length,zs] <;> omega) (by first|exact nums_one|assumption|exact on1_ rfl) ?_;clear H;intro W H))
 go_loopg [8] k (fun gq v8 w' => ∃ i : Nat,v8 = .int .i64 (i : Int) ∧ i + gq = k ∧ Own w F0 [.blk g7 51 (nums .u8 (ys.take i ++ xs.drop i)),.blk g6 51 (nums .u8 (zs 64)),.blk g4 51 (nums .u8 ys),.blk g3 51 (nums .u8 xs)] w')
 case atStart => exact ⟨0,rfl,by omega,H⟩
 case round =>
  clear H
  obtain ⟨i,rfl,hi,H⟩ := hrel
  have hl : (ys.take i ++ xs.drop i).length = 64 := by rw [List.length_append,List.length_take,List.length_drop];omega
  by_cases ci : i < k
  ·obtain ⟨gk',rfl⟩ : ∃ q,gk = q + 1 := ⟨gk - 1,by omega⟩
   have q1 : decide ((i : Int) < cut) = true := decide_eq_true (by omega)
   have q2 : decide ((i : Int) < 64) = true := decide_eq_true (by omega)
   have p0 : ((0 : Int) ≤ (i : Int)) = True := eq_true (by omega)
   have p1 : ((i : Int) < 64) = True := eq_true (by omega)
   have hs := mix_step xs ys hx hy i (by omega)
   have hcy : (nums .u8 ys)[i]? = some (.int .u8 (ys.getD i 0)) := nums_at i (by omega)
   have hfit : i < (nums .u8 (ys.take i ++ xs.drop i)).length := by rw [nums_length,hl];omega
   generalize ys.getD i 0 = z at hs hcy
   obtain ⟨M',hM'⟩ : ∃ x,ys.take (i + 1) ++ xs.drop (i + 1) = x := ⟨_,rfl⟩
   rw [hM'] at hs
   have HM := Lib.hid hM'
   clear hM'
   have HS := Lib.hid hs
   generalize hM : ys.take i ++ xs.drop i = M at *
   clear hM hk hs
   go_wp2_with (first
  |((with_reducible refine gate_dst (N := 22) rfl ?_);refine l_load1 rfl H 5 _ rfl _ _ rfl (by repeat constructor) _ Tryd.underlying5 rfl _ (by first|rfl|assumption|exact nums_at _ (by omega)) ?_)
  |((with_reducible refine gate_store (t := 5) (p := 23) rfl ?_);refine l_store1 rfl H 5 _ _ rfl _ _ rfl _ (by first|(go_simp;done)|(go_simp;with_reducible rfl)) (by repeat constructor) rfl rfl size5 (by first|rfl|assumption|omega|(simp only [nums_length];omega)|simp [nums_length,zs] <;> omega) ?_;clear H;intro W H))
   rw [nums_set,HS.out,← HM.out] at H
   go_roundg gk'
   case measure => omega
   case rel => exact ⟨i + 1,by go_num,by omega,H⟩
  ·have hik : i = k := by omega
   subst hik
   by_cases cc : (i : Int) < cut
   ·have q1 : decide ((i : Int) < cut) = true := decide_eq_true cc
    have q2 : decide ((i : Int) < 64) = false := decide_eq_false (by omega)
    go_wp2_with (first
  |((with_reducible refine gate_dst (N := 24) rfl ?_);refine l_loadA rfl H 51 _ rfl _ rfl (by repeat constructor) _ _ Tryd.underlying51 rfl size51 (by first|rfl|assumption|omega|(simp only [nums_length];omega)|simp [nums_length,zs] <;> omega) ?_)
  |((with_reducible refine gate_store (t := 51) (p := 6) rfl ?_);refine l_storeW rfl H 51 _ _ rfl _ rfl _ rfl (by repeat constructor) _ size51 (by first|rfl|assumption|omega|(simp only [nums_length];omega)|simp [nums_length,zs] <;> omega) (by first|rfl|assumption|omega|(simp only [nums_length];omega)|simp [nums_length,zs] <;> omega) (by first|exact nums_one|assumption|exact on1_ rfl) ?_;clear H;intro W H))
    refine bodyPost_ret (results_cell_row (p := 6) (ty := 51) rfl _ _ g6 51 _ (0,0) _ rfl (H.heap (.tail .head)) Tryd.underlying51 rfl (by rw [size51];simp only [List.size_toArray,nums_length,hl])) rfl ?_
    exact ⟨rfl,H.below⟩
   ·have q1 : decide ((i : Int) < cut) = false := decide_eq_false cc
    go_wp2_with (first
  |((with_reducible refine gate_dst (N := 24) rfl ?_);refine l_loadA rfl H 51 _ rfl _ rfl (by repeat constructor) _ _ Tryd.underlying51 rfl size51 (by first|rfl|assumption|omega|(simp only [nums_length];omega)|simp [nums_length,zs] <;> omega) ?_)
  |((with_reducible refine gate_store (t := 51) (p := 6) rfl ?_);refine l_storeW rfl H 51 _ _ rfl _ rfl _ rfl (by repeat constructor) _ size51 (by first|rfl|assumption|omega|(simp only [nums_length];omega)|simp [nums_length,zs] <;> omega) (by first|rfl|assumption|omega|(simp only [nums_length];omega)|simp [nums_length,zs] <;> omega) (by first|exact nums_one|assumption|exact on1_ rfl) ?_;clear H;intro W H))
    refine bodyPost_ret (results_cell_row (p := 6) (ty := 51) rfl _ _ g6 51 _ (0,0) _ rfl (H.heap (.tail .head)) Tryd.underlying51 rfl (by rw [size51];simp only [List.size_toArray,nums_length,hl])) rfl ?_
    exact ⟨rfl,H.below⟩
end Go.Proofs.YtaekpfhgdnfciaaDoor.O
end

section
namespace Go.Proofs.YtaekpfhgdnfciaaDoor.O
open Go.RowKit Go.Proofs.YtaekpfhgdnfciaaDoor.F Go.Proofs.YtaekpfhgdnfciaaDoorW.PrintWords Go.Proofs.YtaekpfhgdnfciaaDoorW.PrintLast Go.Proofs.YtaekpfhgdnfciaaDoorW.PrintMore Go.Proofs.YtaekpfhgdnfciaaDoor.Plain
namespace KB
theorem two_l (a : Int) (ha : a ≤ 9223372036854775807) (d : Nat) : ∀ (k i : Nat),(i : Int) ≤ a → (a - i : Int) = d → d < k →
  strandlineref01_Two.l0 k a (((2 ^ i % 18446744073709551616 : Nat)) : Int) i = some (((2 ^ a.toNat % 18446744073709551616 : Nat)) : Int) := by
 induction d with
 |zero =>
  intro k i h1 hd hk
  obtain ⟨k,rfl⟩ : ∃ m,k = m + 1 := ⟨k - 1,by omega⟩
  simp only [strandlineref01_Two.l0]
  rw [if_neg (by omega),show a.toNat = i by omega]
 |succ d ih =>
  intro k i h1 hd hk
  obtain ⟨k,rfl⟩ : ∃ m,k = m + 1 := ⟨k - 1,by omega⟩
  simp only [strandlineref01_Two.l0]
  rw [if_pos (by omega),w64 (n := (i : Int) + 1) (by omega) (by omega),IntKind.wrap_u64]
  have hr := ih k (i + 1) (by omega) (by omega) (by omega)
  rw [show (((2 ^ i % 18446744073709551616 : Nat) : Int) * 2 % 18446744073709551616) = ((2 ^ (i + 1) % 18446744073709551616 : Nat) : Int) by rw [Nat.pow_succ];omega]
  exact hr
theorem two_eq (k : Nat) (a : Int) (h0 : 0 ≤ a) (h1 : a ≤ 63) (hk : 63 < k) : strandlineref01_Two.f k a = some ((2 : Int) ^ a.toNat) := by
 unfold strandlineref01_Two.f
 have := two_l a (by omega) a.toNat k 0 (by omega) (by omega) (by omega)
 rw [Nat.mod_eq_of_lt (show (2 : Nat) ^ a.toNat < 18446744073709551616 from Nat.pow_lt_pow_right (by decide) (by omega : a.toNat < 64)),pow_cast] at this
 exact this
def bitb (l : List Int) (i : Int) : Bool := decide (0 ≤ i) && decide (i / 8 < (l.length : Int)) && (rd l (i / 8) / 2 ^ (i % 8).toNat % 2 == 1)
theorem rbit_eq {l : List Int} (hl : ∀ x ∈ l,(Lit.int .u8 x).wf = true) (i : Int) (hi : i ≤ 9223372036854775807) (n : Nat) (hn : 63 < n) : strandlineref01_Bit.f n l i = some (bitb l i) := by
 unfold strandlineref01_Bit.f bitb
 by_cases h : i ≥ 0
 ·rw [if_pos h,show decide (0 ≤ i) = true from decide_eq_true h,td h,w64 (n := i / 8) (by omega) (by omega),tm h]
  by_cases h2 : i / 8 < (l.length : Int)
  ·have hp : (0 : Int) < 2 ^ (i % 8).toNat := Int.pow_pos (by decide)
   rw [if_pos h2,if_pos (by omega),two_eq n (i % 8) (by omega) (by omega) hn,show decide (i / 8 < (l.length : Int)) = true from decide_eq_true h2]
   simp only [Option.bind_some]
   obtain ⟨r0,r1⟩ := rd_u8 hl (i / 8)
   have h3 : 0 ≤ rd l (i / 8) / 2 ^ (i % 8).toNat := Int.ediv_nonneg r0 (by omega)
   have h4 : rd l (i / 8) / 2 ^ (i % 8).toNat ≤ rd l (i / 8) := Int.ediv_le_self _ r0
   rw [if_neg (by omega),wu64 (n := rd l (i / 8)) (by omega) (by omega),td r0,wu64 (n := rd l (i / 8) / 2 ^ (i % 8).toNat) h3 (by omega),tm h3]
   simp
  ·rw [if_neg h2,show decide (i / 8 < (l.length : Int)) = false from decide_eq_false h2]
   simp
 ·rw [if_neg h,show decide (0 ≤ i) = false from decide_eq_false (by omega)]
  simp
end KB
end Go.Proofs.YtaekpfhgdnfciaaDoor.O
end

section
namespace Go.Proofs.YtaekpfhgdnfciaaDoor.O
open Go.RowKit Go.Proofs.YtaekpfhgdnfciaaDoor.F Go.Proofs.YtaekpfhgdnfciaaDoor.F.Nums Go.Proofs.YtaekpfhgdnfciaaDoorW.PrintWords Go.Proofs.YtaekpfhgdnfciaaDoorW.PrintLast Go.Proofs.YtaekpfhgdnfciaaDoorW.PrintMore Go.Proofs.YtaekpfhgdnfciaaDoor.Plain
def nearN (c : Int) : Nat := (mx 0 (mn c 64)).toNat
theorem nearN_le (c : Int) : nearN c ≤ 64 := by unfold nearN mx mn;split <;> split <;> omega
theorem nearN_max (c : Int) : (nearN c : Int) = max 0 (min c 64) := by unfold nearN mx mn;split <;> split <;> omega
def mixL (xs ys : List Int) (c : Int) : List Int := ys.take (nearN c) ++ xs.drop (nearN c)
theorem mixL_len {xs ys : List Int} (hx : xs.length = 64) (hy : ys.length = 64) (c : Int) : (mixL xs ys c).length = 64 := by
 have := nearN_le c
 unfold mixL
 rw [List.length_append,List.length_take,List.length_drop]
 omega
theorem mixL_0 (xs ys : List Int) : mixL xs ys 0 = xs := by
 unfold mixL
 rw [show nearN 0 = 0 from rfl]
 simp
theorem mixL_64 {xs ys : List Int} (hx : xs.length = 64) (hy : ys.length = 64) : mixL xs ys 64 = ys := by
 unfold mixL
 rw [show nearN 64 = 64 from rfl,List.take_of_length_le (by omega),List.drop_of_length_le (by omega),List.append_nil]
section
variable (fo fn keep : List Int) (torn cut : Int)
def cutAt (k : Nat) : Int := if (k : Int) = torn then cut else if KB.bitb keep k = true then 64 else 0
def outAt (k : Nat) : List Int := mixL (secAt fo k) (secAt fn k) (cutAt keep torn cut k)
def appF : Nat → List Int
 |0 => []
 |k + 1 => appF k ++ outAt fo fn keep torn cut k
variable {fo fn} {no nn : Nat}
theorem outAt_len (ho : fo.length = 64 * no) (hn : fn.length = 64 * nn) {k : Nat} (h1 : k < no) (h2 : k < nn) : (outAt fo fn keep torn cut k).length = 64 := mixL_len (secAt_len ho h1) (secAt_len hn h2) _
theorem appF_len (ho : fo.length = 64 * no) (hn : fn.length = 64 * nn) (k : Nat) (h1 : k ≤ no) (h2 : k ≤ nn) : (appF fo fn keep torn cut k).length = 64 * k := by
 induction k with
 |zero => rfl
 |succ k ih => rw [appF,List.length_append,ih (by omega) (by omega),outAt_len keep torn cut ho hn (by omega) (by omega)];omega
end
section
variable {fo fn : List Int} (keep : List Int) (torn cut : Int) {no nn : Nat}
set_option maxRecDepth 100000 in
set_option maxHeartbeats 4000000 in
theorem rapply_calls (n : Nat) (ho : fo.length = 64 * no) (hn : fn.length = 64 * nn) (h1 : n ≤ no) (h2 : n ≤ nn) (hmin : n = no ∨ n = nn) (h100 : n ≤ 100) (hl : ∀ x ∈ keep,(Lit.int .u8 x).wf = true) (A B Ak : Option Addr) (c d ck : Nat) (w : World)
  (hA : Rd w A (nums .u8 fo)) (hB : Rd w B (nums .u8 fn)) (hc : no ≤ c) (hd : nn ≤ d) (hk : (Kd.int .u8).C w Ak keep.length keep) (hck : keep.length ≤ ck) :
  Calls Tryd.prog 37 #[.slice A no c,.slice B nn d,.agg #[.slice Ak keep.length ck,.int .i64 torn,.int .i64 cut]] w fun e W => ∃ v,e = .returned v ∧ Own w F0 [.row v 51 64 n (nums .u8 (appF fo fn keep torn cut n))] W := by
 have H := Own.start w
 have FB := fun (k : Nat) (hk2 : k < 200) (W : World) (hb : Below w.heap.size w W) => strandlineref01_Bit.calls 100 Ak ck keep (k : Int) _ W (Kd.C_below hk hb) hck (KB.rbit_eq hl (k : Int) (by omega) 100 (by decide))
 have hend : ∀ k : Nat,k = n → (k < no ∧ k = nn) ∨ k = no := fun k e => by omega
 generalize keep.length = lk at *
 clear hmin
 go_enter Tryd.func37,Tryd.ntmps37
 go_wp2_with (first
  |((with_reducible refine gate_dst (N := 5) rfl ?_);refine l_boxA rfl H 46 _ rfl _ rfl ?_;clear H;intro g5 W H))
 go_loopg [7,8] n (fun gq v7 v8 w' => ∃ k : Nat,v8 = .int .i64 (k : Int) ∧ k + gq = n ∧ Own w F0 [.row v7 51 64 k (nums .u8 (appF fo fn keep torn cut k)),.blk g5 46 [.slice Ak lk ck,.int .i64 torn,.int .i64 cut]] w')
 case atStart => exact ⟨0,rfl,by omega,H.cons (r := .row (.slice none 0 0) 51 64 0 []) (Below.refl _ _) (own_nil _ _ _ _) (fun k hk => by cases hk)⟩
 case round =>
  clear H
  obtain ⟨k,rfl,hkn,H⟩ := hrel
  by_cases ck : k < n
  ·obtain ⟨gk',rfl⟩ : ∃ q,gk = q + 1 := ⟨gk - 1,by omega⟩
   have q1 : decide (k < no) = true := decide_eq_true (by omega)
   have q3 : decide (k < nn) = true := decide_eq_true (by omega)
   obtain ⟨ad,rfl⟩ := hA.some_ (by rw [nums_length];omega)
   obtain ⟨bd,rfl⟩ := hB.some_ (by rw [nums_length];omega)
   have p0 : ((0 : Int) ≤ (k : Int)) = True := eq_true (by omega)
   have p1 : ((k : Int) < (no : Int)) = True := eq_true (by omega)
   have p2 : ((k : Int) < (nn : Int)) = True := eq_true (by omega)
   have nA : ((nums .u8 fo).drop (k * 64)).take 64 = nums .u8 (secAt fo k) := by rw [nums_drop,nums_take,Nat.mul_comm];rfl
   have nB : ((nums .u8 fn).drop (k * 64)).take 64 = nums .u8 (secAt fn k) := by rw [nums_drop,nums_take,Nat.mul_comm];rfl
   have lA := secAt_len ho (show k < no by omega)
   have lB := secAt_len hn (show k < nn by omega)
   have hF : appF fo fn keep torn cut (k + 1) = appF fo fn keep torn cut k ++ mixL (secAt fo k) (secAt fn k) (cutAt keep torn cut k) := rfl
   have hcut : cutAt keep torn cut k = if (k : Int) = torn then cut else if KB.bitb keep k = true then 64 else 0 := rfl
   have FB := FB k (by omega)
   generalize appF fo fn keep torn cut k = af at H hF
   generalize secAt fo k = sa at nA lA hF
   generalize secAt fn k = sb at nB lB hF
   generalize cutAt keep torn cut k = cc at hcut hF
   generalize KB.bitb keep (k : Int) = b at hcut FB
   clear hl hk
   by_cases he : (k : Int) = torn
   ·have q2 : ((k : Int) == torn) = true := by simp [he]
    rw [if_pos he] at hcut
    subst hcut
    clear he
    have M := fun W => rmix_calls sa sb lA lB cc _ (nearN_max cc) W
    have lm := mixL_len lA lB cc
    change ∀ W,Calls _ _ _ W (fun e w' => e = .returned (.agg (nums .u8 (mixL sa sb cc)).toArray) ∧ Below W.heap.size W w') at M
    generalize mixL sa sb cc = mm at hF M lm
    go_wp2_with (first
  |((with_reducible refine gate_dst (N := 23) rfl ?_);refine l_load1 rfl H 3 _ rfl _ _ rfl (by repeat constructor) _ Tryd.underlying3 rfl _ (by first|rfl|assumption|exact nums_at _ (by omega)) ?_))
    refine start_ (n := 15) (S := Own _ _ _) (ds := [13]) #[f_,f_,f_,f_,f_,f_,f_,f_,f_,f_,f_,f_,f_,f_,f_] (by kernel_rfl) rfl rfl H.drew (fun hHeld => ?_)
    replace H := H.drew
    generalize World.drew _ = W at H hHeld ⊢
    refine pure_ (i := 0) (N := some 25) #[t_,f_,f_,f_,f_,f_,f_,f_,f_,f_,f_,f_,f_,f_,f_] rfl rfl (by kernel_rfl) (fun _ _ _ h => h) (Or.inl ⟨by rfl,by intro w';go_simp;with_reducible rfl⟩) (by simp only [ps_];rfl) ?_
    refine pure_ (i := 1) (N := some 26) #[t_,t_,f_,f_,f_,f_,f_,f_,f_,f_,f_,f_,f_,f_,f_] rfl rfl (by kernel_rfl) (fun _ _ _ h => h) (Or.inl ⟨by rfl,by intro w';go_simp;with_reducible rfl⟩) (by simp only [ps_];rfl) ?_
    refine pure_ (i := 2) (N := some 27) #[t_,t_,t_,f_,f_,f_,f_,f_,f_,f_,f_,f_,f_,f_,f_] rfl rfl (by kernel_rfl) (fun _ _ _ h => h) (Or.inl ⟨by rfl,by intro w';go_simp;with_reducible rfl⟩) (by simp only [ps_];rfl) ?_
    refine pure_ (i := 3) (N := some 28) #[t_,t_,t_,t_,f_,f_,f_,f_,f_,f_,f_,f_,f_,f_,f_] rfl rfl (by kernel_rfl) (fun _ _ _ h => h) (Or.inl ⟨by rfl,by intro w';go_simp;with_reducible rfl⟩) (by simp only [ps_];rfl) ?_
    refine pure_ (i := 5) (N := some 30) #[t_,t_,t_,t_,f_,t_,f_,f_,f_,f_,f_,f_,f_,f_,f_] rfl rfl (by kernel_rfl) (fun _ _ _ h => h) (Or.inl ⟨by rfl,by intro w';go_simp;with_reducible rfl⟩) (by simp only [ps_];rfl) ?_
    refine pure_ (i := 6) (N := some 31) #[t_,t_,t_,t_,f_,t_,t_,f_,f_,f_,f_,f_,f_,f_,f_] rfl rfl (by kernel_rfl) (fun _ _ _ h => h) (Or.inl ⟨by rfl,by intro w';go_simp;with_reducible rfl⟩) (by simp only [ps_];rfl) ?_
    refine pure_ (i := 7) (N := some 32) #[t_,t_,t_,t_,f_,t_,t_,t_,f_,f_,f_,f_,f_,f_,f_] rfl rfl (by kernel_rfl) (fun _ _ _ h => h) (Or.inl ⟨by rfl,by intro w';go_simp;with_reducible rfl⟩) (by simp only [ps_];rfl) ?_
    refine pure_ (i := 9) (N := some 34) #[t_,t_,t_,t_,f_,t_,t_,t_,f_,t_,f_,f_,f_,f_,f_] rfl rfl (by kernel_rfl) (fun _ _ _ h => h) (Or.inl ⟨by rfl,by intro w';go_simp;with_reducible rfl⟩) (by simp only [ps_];rfl) ?_
    refine take_run (i := 4) (N := some 29) #[t_,t_,t_,t_,t_,t_,t_,t_,f_,t_,f_,f_,f_,f_,f_] rfl rfl (by kernel_rfl) (fun _ _ _ _ h => h) (by rfl) hHeld (.agg (nums .u8 sa).toArray) (fun X HX => r_loadRdS 51 _ rfl (k * 64) rfl (hA.below HX.below) 64 _ Tryd.underlying51 rfl size51 (by decide) _ nA (by rw [nums_length];exact lA)) (by simp only [ps_];rfl) ?_
    refine take_run (i := 8) (N := some 33) #[t_,t_,t_,t_,t_,t_,t_,t_,t_,t_,f_,f_,f_,f_,f_] rfl rfl (by kernel_rfl) (fun _ _ _ _ h => h) (by rfl) hHeld (.agg (nums .u8 sb).toArray) (fun X HX => r_loadRdS 51 _ rfl (k * 64) rfl (hB.below HX.below) 64 _ Tryd.underlying51 rfl size51 (by decide) _ nB (by rw [nums_length];exact lB)) (by simp only [ps_];rfl) ?_
    refine one_ (i := 10) (N := some 35) #[t_,t_,t_,t_,t_,t_,t_,t_,t_,t_,t_,f_,f_,f_,f_] rfl rfl (by kernel_rfl) (by decide) (fun K hK => ?_)
    refine wanted_ rfl ?_
    refine w_load1 H 3 _ rfl _ _ rfl (by repeat constructor) _ Tryd.underlying3 rfl _ (by first|rfl|assumption|exact nums_at _ (by omega)) ?_
    refine hK.out _ _ ?_ (fun hHeld => ?_)
    ·first|trivial|exact H|exact H.del .head|exact (H.del .head).del .head|exact H.heap (by repeat constructor)
    clear hK K
    refine norm_ (by show Act.put _ (some 35) _ = _;simp only [ps_];rfl) ?_
    refine one_ (i := 11) (N := some 36) #[t_,t_,t_,t_,t_,t_,t_,t_,t_,t_,t_,t_,f_,f_,f_] rfl rfl (by kernel_rfl) (by decide) (fun K hK => ?_)
    refine callK_ (M W) Tryd.func62 (by kernel_rfl) rfl (by rfl) rfl rfl (by (try simp only [List.map_toArray,List.map_cons,List.map_nil]);first|done|rfl) ?_
    rintro e W ⟨rfl,hb⟩
    refine ⟨_,rfl,?_⟩
    replace H := H.to hb
    clear hb
    refine hK.out _ _ ?_ (fun hHeld => ?_)
    ·first|trivial|exact H|exact H.del .head|exact (H.del .head).del .head|exact H.heap (by repeat constructor)
    clear hK K
    refine norm_ (by show Act.put _ (some 36) _ = _;simp only [ps_];rfl) ?_
    refine one_ (i := 12) (N := some 37) #[t_,t_,t_,t_,t_,t_,t_,t_,t_,t_,t_,t_,t_,f_,f_] rfl rfl (by kernel_rfl) (by decide) (fun K hK => ?_)
    refine wanted_ rfl ?_
    refine w_build1A H 23 51 _ rfl Tryd.underlying23 _ rfl _ _ zs51 rfl (by first|rfl|assumption|omega|(simp only [nums_length];omega)|simp [nums_length,zs] <;> omega) (by decide) (by decide) ?_
    clear H
    intro g37 W H
    refine hK.out _ _ ?_ (fun hHeld => ?_)
    ·first|trivial|exact H|exact H.del .head|exact (H.del .head).del .head|exact H.heap (by repeat constructor)
    clear hK K
    refine norm_ (by show Act.put _ (some 37) _ = _;simp only [ps_];rfl) ?_
    refine last_ (i := 13) (N := some 38) #[t_,t_,t_,t_,t_,t_,t_,t_,t_,t_,t_,t_,t_,t_,f_] rfl rfl (by kernel_rfl) (by decide) (fun K hK => ?_)
    refine wanted_ rfl ?_
    refine w_append1 H _ _ 23 51 rfl Tryd.underlying23 _ _ _ inf51 rfl (by decide) (by decide) _ _ _ rfl (by repeat constructor) _ _ rfl (by repeat constructor) (by first|rfl|assumption|omega|(simp only [nums_length];omega)|simp [nums_length,zs] <;> omega) (by first|exact nums_one|assumption|exact on1_ rfl) (by omega) ?_
    clear H
    intro v38 W H
    refine hK.out _ _ ?_
    clear hK K
    refine norm_ (by show Act.put _ (some 38) _ = _;simp only [ps_];rfl) ?_
    refine pure_ (i := 14) (N := some 7) #[t_,t_,t_,t_,t_,t_,t_,t_,t_,t_,t_,t_,t_,t_,t_] rfl rfl (by kernel_rfl) (fun _ _ _ h => h) (Or.inl ⟨by rfl,by intro w';go_simp;with_reducible rfl⟩) (by simp only [ps_];rfl) ?_
    refine done_ (by kernel_rfl) ?_
    clear hHeld
    go_wp2
    go_roundg gk'
    case measure => omega
    case rel => exact ⟨k + 1,by go_num,by omega,by rw [hF,← nums_app];exact H.del .head⟩
   ·have q2 : ((k : Int) == torn) = false := by simp [he]
    rw [if_neg he] at hcut
    clear he
    rcases b with _|_
    ·rw [if_neg (by decide)] at hcut
     subst hcut
     rw [mixL_0] at hF
     go_wp2_with (first
  |((with_reducible refine gate_dst (N := 23) rfl ?_);refine l_load1 rfl H 3 _ rfl _ _ rfl (by repeat constructor) _ Tryd.underlying3 rfl _ (by first|rfl|assumption|exact nums_at _ (by omega)) ?_)
  |((with_reducible refine gate_dst (N := 40) rfl ?_);refine l_load1 rfl H 38 _ rfl _ _ rfl (by repeat constructor) _ Tryd.underlying38 rfl _ (by first|rfl|assumption|exact nums_at _ (by omega)) ?_)
  |((with_reducible refine gate_dst (N := 55) rfl ?_);refine l_build1A rfl H 23 51 _ rfl Tryd.underlying23 _ rfl _ _ zs51 rfl (by first|rfl|assumption|omega|(simp only [nums_length];omega)|simp [nums_length,zs] <;> omega) (by decide) (by decide) ?_;clear H;intro g55 W H)
  |((with_reducible refine gate_dst (N := 56) rfl ?_);refine l_append1 rfl H _ _ 23 51 rfl Tryd.underlying23 _ _ _ inf51 rfl (by decide) (by decide) _ _ _ rfl (by repeat constructor) _ _ rfl (by repeat constructor) (by first|rfl|assumption|omega|(simp only [nums_length];omega)|simp [nums_length,zs] <;> omega) (by first|exact nums_one|assumption|exact on1_ rfl) (by omega) ?_;clear H;intro v56 W H)
  |((with_reducible refine gate_dst (N := 54) rfl ?_);refine l_loadRdS rfl 51 _ rfl (k * 64) rfl (hA.below H.below) 64 _ Tryd.underlying51 rfl size51 (by decide) _ nA (by rw [nums_length];exact lA) ?_)
  |(go_at_call 63;(with_reducible refine (FB _ H.below).mono ?_);rintro e W ⟨rfl,hb⟩;replace H := H.to hb.below;clear hb))
     go_roundg gk'
     case measure => omega
     case rel => exact ⟨k + 1,by go_num,by omega,by rw [hF,← nums_app];exact H.del .head⟩
    ·rw [if_pos rfl] at hcut
     subst hcut
     rw [mixL_64 lA lB] at hF
     go_wp2_with (first
  |((with_reducible refine gate_dst (N := 23) rfl ?_);refine l_load1 rfl H 3 _ rfl _ _ rfl (by repeat constructor) _ Tryd.underlying3 rfl _ (by first|rfl|assumption|exact nums_at _ (by omega)) ?_)
  |((with_reducible refine gate_dst (N := 40) rfl ?_);refine l_load1 rfl H 38 _ rfl _ _ rfl (by repeat constructor) _ Tryd.underlying38 rfl _ (by first|rfl|assumption|exact nums_at _ (by omega)) ?_)
  |((with_reducible refine gate_dst (N := 48) rfl ?_);refine l_build1A rfl H 23 51 _ rfl Tryd.underlying23 _ rfl _ _ zs51 rfl (by first|rfl|assumption|omega|(simp only [nums_length];omega)|simp [nums_length,zs] <;> omega) (by decide) (by decide) ?_;clear H;intro g48 W H)
  |((with_reducible refine gate_dst (N := 49) rfl ?_);refine l_append1 rfl H _ _ 23 51 rfl Tryd.underlying23 _ _ _ inf51 rfl (by decide) (by decide) _ _ _ rfl (by repeat constructor) _ _ rfl (by repeat constructor) (by first|rfl|assumption|omega|(simp only [nums_length];omega)|simp [nums_length,zs] <;> omega) (by first|exact nums_one|assumption|exact on1_ rfl) (by omega) ?_;clear H;intro v49 W H)
  |((with_reducible refine gate_dst (N := 47) rfl ?_);refine l_loadRdS rfl 51 _ rfl (k * 64) rfl (hB.below H.below) 64 _ Tryd.underlying51 rfl size51 (by decide) _ nB (by rw [nums_length];exact lB) ?_)
  |(go_at_call 63;(with_reducible refine (FB _ H.below).mono ?_);rintro e W ⟨rfl,hb⟩;replace H := H.to hb.below;clear hb))
     go_roundg gk'
     case measure => omega
     case rel => exact ⟨k + 1,by go_num,by omega,by rw [hF,← nums_app];exact H.del .head⟩
  ·have e : k = n := by omega
   rcases hend k e with ⟨e1,e2⟩|e2
   ·have q1 : decide (k < no) = true := decide_eq_true e1
    have q3 : decide (k < nn) = false := decide_eq_false (by omega)
    subst e
    go_wp2
    go_ret
    exact ⟨_,rfl,H.del (.tail .head)⟩
   ·have q1 : decide (k < no) = false := decide_eq_false (by omega)
    subst e
    go_wp2
    go_ret
    exact ⟨_,rfl,H.del (.tail .head)⟩
end
end Go.Proofs.YtaekpfhgdnfciaaDoor.O
end

section
namespace Go.Proofs.YtaekpfhgdnfciaaDoor.O
open Go.RowKit Go.Proofs.YtaekpfhgdnfciaaDoorW.PrintWords Go.Proofs.YtaekpfhgdnfciaaDoorW.PrintLast Go.Proofs.YtaekpfhgdnfciaaDoorW.PrintMore Go.Proofs.YtaekpfhgdnfciaaDoor.F Go.Proofs.YtaekpfhgdnfciaaDoor.F.Nums Go.Proofs.YtaekpfhgdnfciaaDoor.Plain
theorem getD_take_lt {l : List (List Int)} {s k : Nat} (h : k < s) : (l.take s).getD k [] = l.getD k [] := by
 rw [List.getD_eq_getElem?_getD,List.getD_eq_getElem?_getD,List.getElem?_take_of_lt h]
theorem laySt_take (e64 : Int) (l : List (List Int)) (s : Nat) : ∀ k,k ≤ s → Img.laySt e64 (l.take s) k = Img.laySt e64 l k := by
 intro k
 induction k with
 |zero => intro _;rfl
 |succ k ih =>
  intro h
  simp only [Img.laySt,ih (by omega),getD_take_lt (show k < s by omega)]
theorem layAll_take (e64 : Int) (l : List (List Int)) (s : Nat) (hs : s ≤ l.length) (h : Img.layAll e64 l = true) : Img.layAll e64 (l.take s) = true := by
 rw [Img.layAll_iff] at h ⊢
 intro k hk
 rw [List.length_take] at hk
 have := h k (by omega)
 unfold Img.layOk at this ⊢
 rw [laySt_take e64 l s k (by omega),getD_take_lt (show k < s by omega)]
 exact this
theorem C_rows_take {w : World} {A : Option Addr} {n s : Nat} {l : List (List Int)} (h : Kd.C (Kd.slice 5 (Kd.int .u8)) w A n l) (hs : s ≤ n) : Kd.C (Kd.slice 5 (Kd.int .u8)) w A s (l.take s) := by
 obtain ⟨h1,h2,h3⟩ := h
 refine ⟨by rw [List.length_take];omega,by omega,fun hp => ?_⟩
 obtain ⟨ad,e,h4⟩ := h3 (by omega)
 refine ⟨ad,e,fun j p hj => h4 j p ?_⟩
 have hlt := (List.getElem?_eq_some_iff.1 hj).1
 rw [List.length_take] at hlt
 rwa [List.getElem?_take_of_lt (by omega)] at hj
theorem appF_bytes {fo fn keep : List Int} {torn cut : Int} (ho : Bytes fo) (hn : Bytes fn) (m : Nat) : Bytes (appF fo fn keep torn cut m) := by
 induction m with
 |zero => intro c hc;cases hc
 |succ m ih =>
  show Bytes (appF fo fn keep torn cut m ++ outAt fo fn keep torn cut m)
  refine bytes_append ih ?_
  unfold outAt mixL
  exact bytes_append (bytes_take (bytes_take (bytes_drop hn _) _) _) (bytes_drop (bytes_take (bytes_drop ho _) _) _)
set_option maxRecDepth 100000 in
set_option maxHeartbeats 8000000 in
theorem after_nope (e64 N : Int) (l : List (List Int)) (A Ak : Option Addr) (c lk ck : Nat) (torn cut : Int) (w : World) (he : 0 ≤ e64 ∧ e64 ≤ 18446744073709551615) (hC : (Kd.slice 5 (Kd.int .u8)).C w A l.length l) (hc : l.length ≤ c) (hl : ∀ x ∈ l,Bytes x) (hll : ∀ x ∈ l,x.length ≤ 140737488355328) (hn : l.length ≤ 9000000000000)
  (hno : Img.layAll e64 l = false ∨ (l.all (fun x => decide (x.length ≤ 512)) && decide (l.length ≤ 100)) = false ∨ e64 = 0) :
  Calls Tryd.prog 18 #[.agg #[.int .u64 e64,.slice A l.length c,.int .u64 N],.agg #[.slice Ak lk ck,.int .i64 torn,.int .i64 cut]] w fun e W => e = .returned (.tuple #[.slice none 0 0,.int .i64 0,.bool false]) ∧ Below w.heap.size w W := by
 have H := Own.start w
 have FW := fun W h => few19_calls l A c W h hc hn
 cases hok : Img.layAll e64 l with
 |false =>
  have SC := fun W h => rsectors_nope e64 l A c W hok he hl hll hn h hc
  cases hf : (l.all (fun x => decide (x.length ≤ 512)) && decide (l.length ≤ 100)) with
  |false =>
   rw [hf] at FW
   clear hf hok hno
   generalize l.length = n at *
   go_enter Tryd.func18,Tryd.ntmps18
   go_wp2_with (first
  |((with_reducible refine gate_dst (N := 2) rfl ?_);refine l_boxA rfl H 44 _ rfl _ rfl ?_;clear H;intro g2 W H)
  |((with_reducible refine gate_dst (N := 3) rfl ?_);refine l_boxA rfl H 46 _ rfl _ rfl ?_;clear H;intro g3 W H)
  |((with_reducible refine gate_dst (N := 14) rfl ?_);refine l_load1 rfl H 22 _ rfl _ _ rfl (by repeat constructor) _ Tryd.underlying22 rfl _ (by first|rfl|assumption|exact nums_at _ (by omega)) ?_)
  |((with_reducible refine gate_dst (N := 16) rfl ?_);refine l_load1 rfl H 25 _ rfl _ _ rfl (by repeat constructor) _ Tryd.underlying25 rfl _ (by first|rfl|assumption|exact nums_at _ (by omega)) ?_)
  |((with_reducible refine gate_dst (N := 21) rfl ?_);refine l_load1 rfl H 25 _ rfl _ _ rfl (by repeat constructor) _ Tryd.underlying25 rfl _ (by first|rfl|assumption|exact nums_at _ (by omega)) ?_)
  |((with_reducible refine gate_dst (N := 30) rfl ?_);refine gate_guard (by rfl) ?_;refine l_load1 rfl H 22 _ rfl _ _ rfl (by repeat constructor) _ Tryd.underlying22 rfl _ (by first|rfl|assumption|exact nums_at _ (by omega)) ?_)
   |(go_at_call 15;(with_reducible refine (SC _ (Kd.C_below hC H.below)).mono ?_);rintro e W ⟨rfl,hb'⟩;replace H := H.to hb';clear hb')
   |(go_at_call 16;(with_reducible refine (FW _ (Kd.C_below hC H.below)).mono ?_);rintro e W ⟨rfl,hb'⟩;replace H := H.to hb';clear hb'))
   go_ret3
   exact ⟨rfl,H.below⟩
  |true =>
   rw [hf] at FW
   clear hf hok hno
   generalize l.length = n at *
   go_enter Tryd.func18,Tryd.ntmps18
   go_wp2_with (first
  |((with_reducible refine gate_dst (N := 2) rfl ?_);refine l_boxA rfl H 44 _ rfl _ rfl ?_;clear H;intro g2 W H)
  |((with_reducible refine gate_dst (N := 3) rfl ?_);refine l_boxA rfl H 46 _ rfl _ rfl ?_;clear H;intro g3 W H)
  |((with_reducible refine gate_dst (N := 14) rfl ?_);refine l_load1 rfl H 22 _ rfl _ _ rfl (by repeat constructor) _ Tryd.underlying22 rfl _ (by first|rfl|assumption|exact nums_at _ (by omega)) ?_)
  |((with_reducible refine gate_dst (N := 16) rfl ?_);refine l_load1 rfl H 25 _ rfl _ _ rfl (by repeat constructor) _ Tryd.underlying25 rfl _ (by first|rfl|assumption|exact nums_at _ (by omega)) ?_)
  |((with_reducible refine gate_dst (N := 21) rfl ?_);refine l_load1 rfl H 25 _ rfl _ _ rfl (by repeat constructor) _ Tryd.underlying25 rfl _ (by first|rfl|assumption|exact nums_at _ (by omega)) ?_)
  |((with_reducible refine gate_dst (N := 30) rfl ?_);refine gate_guard (by rfl) ?_;refine l_load1 rfl H 22 _ rfl _ _ rfl (by repeat constructor) _ Tryd.underlying22 rfl _ (by first|rfl|assumption|exact nums_at _ (by omega)) ?_)
   |(go_at_call 15;(with_reducible refine (SC _ (Kd.C_below hC H.below)).mono ?_);rintro e W ⟨rfl,hb'⟩;replace H := H.to hb';clear hb')
   |(go_at_call 16;(with_reducible refine (FW _ (Kd.C_below hC H.below)).mono ?_);rintro e W ⟨rfl,hb'⟩;replace H := H.to hb';clear hb'))
   go_ret3
   exact ⟨rfl,H.below⟩
 |true =>
  obtain ⟨b,ht,hb⟩ := touch0 (Img.laySt e64 l l.length).2
  have SC := fun W h => rsectors_yes e64 l A c W b hok ht hb he hl hll hn h hc
  cases hf : (l.all (fun x => decide (x.length ≤ 512)) && decide (l.length ≤ 100)) with
  |false =>
   rw [hf] at FW
   clear hf hok ht hno
   generalize flatW e64 (Img.laySt e64 l l.length).1 b 16 = fl at *
   generalize l.length = n at *
   go_enter Tryd.func18,Tryd.ntmps18
   go_wp2_with (first
  |((with_reducible refine gate_dst (N := 2) rfl ?_);refine l_boxA rfl H 44 _ rfl _ rfl ?_;clear H;intro g2 W H)
  |((with_reducible refine gate_dst (N := 3) rfl ?_);refine l_boxA rfl H 46 _ rfl _ rfl ?_;clear H;intro g3 W H)
  |((with_reducible refine gate_dst (N := 14) rfl ?_);refine l_load1 rfl H 22 _ rfl _ _ rfl (by repeat constructor) _ Tryd.underlying22 rfl _ (by first|rfl|assumption|exact nums_at _ (by omega)) ?_)
  |((with_reducible refine gate_dst (N := 16) rfl ?_);refine l_load1 rfl H 25 _ rfl _ _ rfl (by repeat constructor) _ Tryd.underlying25 rfl _ (by first|rfl|assumption|exact nums_at _ (by omega)) ?_)
  |((with_reducible refine gate_dst (N := 21) rfl ?_);refine l_load1 rfl H 25 _ rfl _ _ rfl (by repeat constructor) _ Tryd.underlying25 rfl _ (by first|rfl|assumption|exact nums_at _ (by omega)) ?_)
  |((with_reducible refine gate_dst (N := 30) rfl ?_);refine gate_guard (by rfl) ?_;refine l_load1 rfl H 22 _ rfl _ _ rfl (by repeat constructor) _ Tryd.underlying22 rfl _ (by first|rfl|assumption|exact nums_at _ (by omega)) ?_)
   |(go_at_call 15;(with_reducible refine (SC _ (Kd.C_below hC H.below)).mono ?_);rintro e W ⟨v7,rfl,ho,hb'⟩;replace H := H.addRow hb' ho;clear ho hb';obtain ⟨A7,c7,rfl⟩ := H.row_slice .head)
   |(go_at_call 16;(with_reducible refine (FW _ (Kd.C_below hC H.below)).mono ?_);rintro e W ⟨rfl,hb'⟩;replace H := H.to hb';clear hb'))
   go_ret3
   exact ⟨rfl,H.below⟩
  |true =>
   rw [hf] at FW
   have h0 : e64 = 0 := by rcases hno with h|h|h <;> simp_all
   subst h0
   clear hf hok ht hno
   generalize flatW 0 (Img.laySt 0 l l.length).1 b 16 = fl at *
   generalize l.length = n at *
   go_enter Tryd.func18,Tryd.ntmps18
   go_wp2_with (first
  |((with_reducible refine gate_dst (N := 2) rfl ?_);refine l_boxA rfl H 44 _ rfl _ rfl ?_;clear H;intro g2 W H)
  |((with_reducible refine gate_dst (N := 3) rfl ?_);refine l_boxA rfl H 46 _ rfl _ rfl ?_;clear H;intro g3 W H)
  |((with_reducible refine gate_dst (N := 14) rfl ?_);refine l_load1 rfl H 22 _ rfl _ _ rfl (by repeat constructor) _ Tryd.underlying22 rfl _ (by first|rfl|assumption|exact nums_at _ (by omega)) ?_)
  |((with_reducible refine gate_dst (N := 16) rfl ?_);refine l_load1 rfl H 25 _ rfl _ _ rfl (by repeat constructor) _ Tryd.underlying25 rfl _ (by first|rfl|assumption|exact nums_at _ (by omega)) ?_)
  |((with_reducible refine gate_dst (N := 21) rfl ?_);refine l_load1 rfl H 25 _ rfl _ _ rfl (by repeat constructor) _ Tryd.underlying25 rfl _ (by first|rfl|assumption|exact nums_at _ (by omega)) ?_)
  |((with_reducible refine gate_dst (N := 30) rfl ?_);refine gate_guard (by rfl) ?_;refine l_load1 rfl H 22 _ rfl _ _ rfl (by repeat constructor) _ Tryd.underlying22 rfl _ (by first|rfl|assumption|exact nums_at _ (by omega)) ?_)
   |(go_at_call 15;(with_reducible refine (SC _ (Kd.C_below hC H.below)).mono ?_);rintro e W ⟨v7,rfl,ho,hb'⟩;replace H := H.addRow hb' ho;clear ho hb';obtain ⟨A7,c7,rfl⟩ := H.row_slice .head)
   |(go_at_call 16;(with_reducible refine (FW _ (Kd.C_below hC H.below)).mono ?_);rintro e W ⟨rfl,hb'⟩;replace H := H.to hb';clear hb'))
   go_ret3
   exact ⟨rfl,H.below⟩
set_option maxRecDepth 100000 in
set_option maxHeartbeats 8000000 in
theorem after_yes (e64 : Int) (N : Nat) (l : List (List Int)) (A Ak : Option Addr) (c ck : Nat) (keep : List Int) (torn cut : Int) (w : World) (s bO bN : Nat) (he : 0 ≤ e64 ∧ e64 ≤ 18446744073709551615) (hN : N ≤ 18446744073709551615) (hC : (Kd.slice 5 (Kd.int .u8)).C w A l.length l) (hc : l.length ≤ c) (hl : ∀ x ∈ l,Bytes x) (hll : ∀ x ∈ l,x.length ≤ 140737488355328)
  (hok : Img.layAll e64 l = true) (hf : (l.all (fun x => decide (x.length ≤ 512)) && decide (l.length ≤ 100)) = true) (h0 : e64 ≠ 0) (hs : s = N % (l.length + 1))
  (htO : tch (cl 0) (cl (Img.laySt e64 l s).2) = (((0 : Nat) : Int),(bO : Int))) (hbO : bO ≤ 16) (htN : tch (cl 0) (cl (Img.laySt e64 l l.length).2) = (((0 : Nat) : Int),(bN : Int))) (hbN : bN ≤ 16)
  (hk : (Kd.int .u8).C w Ak keep.length keep) (hck : keep.length ≤ ck) (hkw : ∀ x ∈ keep,(Lit.int .u8 x).wf = true) :
  Calls Tryd.prog 18 #[.agg #[.int .u64 e64,.slice A l.length c,.int .u64 (N : Int)],.agg #[.slice Ak keep.length ck,.int .i64 torn,.int .i64 cut]] w fun e W => ∃ v,e = .returned (.tuple #[v,.int .i64 (s : Int),.bool true]) ∧
   W.ownsRow w.heap.size 51 64 v 16 (nums .u8 (appF (flatW e64 (Img.laySt e64 l s).1 bO 16) (flatW e64 (Img.laySt e64 l l.length).1 bN 16) keep torn cut 16)) ∧ Below w.heap.size w W := by
 have H := Own.start w
 have hn100 : l.length ≤ 100 := by simp only [Bool.and_eq_true,decide_eq_true_eq] at hf;exact hf.2
 have FW := fun W h => few19_calls l A c W h hc (by omega)
 rw [hf] at FW
 have hsl : s ≤ l.length := by rw [hs];have := Nat.mod_lt N (show 0 < l.length + 1 by omega);omega
 have q1 : (e64 == 0) = false := by simpa using h0
 have SC := fun W h => rsectors_yes e64 l A c W bN hok htN hbN he hl hll (by omega) h hc
 have hls : (l.take s).length = s := by rw [List.length_take];omega
 have hst := laySt_take e64 l s s (Nat.le_refl _)
 have SO := fun W h => rsectors_yes e64 (l.take s) A c W bO (layAll_take e64 l s hsl hok) (by rw [hls,hst];exact htO) hbO he (fun x hx => hl x (List.mem_of_mem_take hx)) (fun x hx => hll x (List.mem_of_mem_take hx)) (by omega) h (by omega)
 rw [hls,hst] at SO
 have hCs := C_rows_take hC hsl
 have AP := fun A1 B1 c1 d1 W hA hB (h3 : 16 ≤ c1) (h4 : 16 ≤ d1) h5 => rapply_calls (fo := flatW e64 (Img.laySt e64 l s).1 bO 16) (fn := flatW e64 (Img.laySt e64 l l.length).1 bN 16) keep torn cut 16 (no := 16) (nn := 16) (flatW_len _ _ _ _) (flatW_len _ _ _ _) (Nat.le_refl _) (Nat.le_refl _) (.inl rfl) (by decide) hkw A1 B1 Ak c1 d1 ck W hA hB h3 h4 h5 hck
 generalize flatW e64 (Img.laySt e64 l s).1 bO 16 = fo at *
 generalize flatW e64 (Img.laySt e64 l l.length).1 bN 16 = fn at *
 clear htO htN hst hls hok hf
 generalize l.take s = ls at *
 generalize l.length = n at *
 generalize keep.length = lk at *
 have w1 : IntKind.i64.wrap ((n : Int) + 1) = ((n + 1 : Nat) : Int) := by rw [IntKind.wrap_i64];omega
 have w2 : IntKind.u64.wrap ((n + 1 : Nat) : Int) = ((n + 1 : Nat) : Int) := by rw [IntKind.wrap_u64];omega
 have w3 : IntKind.i64.wrap (s : Int) = (s : Int) := by rw [IntKind.wrap_i64];omega
 have w4 : wrap64 ((N : Int) % ((n : Int) + 1)) = (s : Int) := by
  have h9 : ((N % (n + 1) : Nat) : Int) = (N : Int) % ((n : Int) + 1) := by push_cast;rfl
  rw [← h9,← hs]
  exact w64 (by omega) (by omega)
 have hsc : s ≤ c := Nat.le_trans hsl hc
 clear hs
 go_enter Tryd.func18,Tryd.ntmps18
 go_wp2_with (first
  |((with_reducible refine gate_dst (N := 2) rfl ?_);refine l_boxA rfl H 44 _ rfl _ rfl ?_;clear H;intro g2 W H)
  |((with_reducible refine gate_dst (N := 3) rfl ?_);refine l_boxA rfl H 46 _ rfl _ rfl ?_;clear H;intro g3 W H)
  |((with_reducible refine gate_dst (N := 14) rfl ?_);refine l_load1 rfl H 22 _ rfl _ _ rfl (by repeat constructor) _ Tryd.underlying22 rfl _ (by first|rfl|assumption|exact nums_at _ (by omega)) ?_)
  |((with_reducible refine gate_dst (N := 16) rfl ?_);refine l_load1 rfl H 25 _ rfl _ _ rfl (by repeat constructor) _ Tryd.underlying25 rfl _ (by first|rfl|assumption|exact nums_at _ (by omega)) ?_)
  |((with_reducible refine gate_dst (N := 21) rfl ?_);refine l_load1 rfl H 25 _ rfl _ _ rfl (by repeat constructor) _ Tryd.underlying25 rfl _ (by first|rfl|assumption|exact nums_at _ (by omega)) ?_)
  |((with_reducible refine gate_dst (N := 30) rfl ?_);refine gate_guard (by rfl) ?_;refine l_load1 rfl H 22 _ rfl _ _ rfl (by repeat constructor) _ Tryd.underlying22 rfl _ (by first|rfl|assumption|exact nums_at _ (by omega)) ?_)
  |((with_reducible refine gate_dst (N := 34) rfl ?_);refine l_load1 rfl H 42 _ rfl _ _ rfl (by repeat constructor) _ Tryd.underlying42 rfl _ (by first|rfl|assumption|exact nums_at _ (by omega)) ?_)
  |((with_reducible refine gate_dst (N := 36) rfl ?_);refine l_load1 rfl H 25 _ rfl _ _ rfl (by repeat constructor) _ Tryd.underlying25 rfl _ (by first|rfl|assumption|exact nums_at _ (by omega)) ?_)
  |(go_at_call 15;(with_reducible refine (SC _ (Kd.C_below hC H.below)).mono ?_);rintro e W ⟨v7,rfl,ho,hb'⟩;replace H := H.addRow hb' ho;clear ho hb';obtain ⟨A7,c7,rfl⟩ := H.row_slice .head)
  |(go_at_call 16;(with_reducible refine (FW _ (Kd.C_below hC H.below)).mono ?_);rintro e W ⟨rfl,hb'⟩;replace H := H.to hb';clear hb'))
 rw [w4]
 clear w4
 refine start_ (n := 12) (S := Own _ _ _) (ds := []) #[f_,f_,f_,f_,f_,f_,f_,f_,f_,f_,f_,f_] (by kernel_rfl) rfl rfl H.drew (fun hHeld => ?_)
 replace H := H.drew
 generalize World.drew _ = W at H hHeld ⊢
 refine pure_ (i := 0) (N := some 43) #[t_,f_,f_,f_,f_,f_,f_,f_,f_,f_,f_,f_] rfl rfl (by kernel_rfl) (fun _ _ _ h => h) (Or.inl ⟨by rfl,by intro w';go_simp;with_reducible rfl⟩) (by simp only [ps_];rfl) ?_
 refine pure_ (i := 2) (N := some 45) #[t_,f_,t_,f_,f_,f_,f_,f_,f_,f_,f_,f_] rfl rfl (by kernel_rfl) (fun _ _ _ h => h) (Or.inl ⟨by rfl,by intro w';go_simp;with_reducible rfl⟩) (by simp only [ps_];rfl) ?_
 refine pure_ (i := 4) (N := some 47) #[t_,f_,t_,f_,t_,f_,f_,f_,f_,f_,f_,f_] rfl rfl (by kernel_rfl) (fun _ _ _ h => h) (Or.inl ⟨by rfl,by intro w';go_simp;with_reducible rfl⟩) (by simp only [ps_];rfl) ?_
 refine take_load1 (i := 1) (N := some 44) #[t_,t_,t_,f_,t_,f_,f_,f_,f_,f_,f_,f_] rfl rfl (by kernel_rfl) (fun _ _ _ _ h => h) (by rfl) hHeld 22 _ rfl _ _ rfl (by repeat constructor) _ Tryd.underlying22 rfl _ (by first|rfl|assumption|exact nums_at _ (by omega)) (by simp only [ps_];rfl) ?_
 refine one_ (i := 3) (N := some 46) #[t_,t_,t_,t_,t_,f_,f_,f_,f_,f_,f_,f_] rfl rfl (by kernel_rfl) (by decide) (fun K hK => ?_)
 refine wanted_ rfl ?_
 refine w_load1 H 25 _ rfl _ _ rfl (by repeat constructor) _ Tryd.underlying25 rfl _ (by first|rfl|assumption|exact nums_at _ (by omega)) ?_
 refine hK.out _ _ ?_ (fun hHeld => ?_)
 ·first|trivial|exact H|exact H.del .head|exact (H.del .head).del .head|exact H.heap (by repeat constructor)
 clear hK K
 refine norm_ (by show Act.put _ (some 46) _ = _;simp only [ps_];rfl) ?_
 refine take_run (i := 5) (N := some 48) #[t_,t_,t_,t_,t_,t_,f_,f_,f_,f_,f_,f_] rfl rfl (by kernel_rfl) (fun _ _ _ _ h => h) (by rfl) hHeld (.slice A s c) (fun X HX => x_slice_to _ _ rfl rfl Tryd.underlying25 size38 s rfl hsc X) (by simp only [ps_];rfl) ?_
 refine one_ (i := 6) (N := some 49) #[t_,t_,t_,t_,t_,t_,t_,f_,f_,f_,f_,f_] rfl rfl (by kernel_rfl) (by decide) (fun K hK => ?_)
 refine callK_ (SO _ (Kd.C_below hCs H.below)) Tryd.func15 (by kernel_rfl) rfl (by rfl) rfl rfl (by (try simp only [List.map_toArray,List.map_cons,List.map_nil]);first|done|rfl) ?_
 rintro e W ⟨v10,rfl,ho,hb'⟩
 refine ⟨_,rfl,?_⟩
 replace H := H.addRow hb' ho
 clear ho hb'
 obtain ⟨A10,c10,rfl⟩ := H.row_slice .head
 refine hK.out _ _ ?_ (fun hHeld => ?_)
 ·first|trivial|exact H|exact H.del .head|exact (H.del .head).del .head|exact H.heap (by repeat constructor)
 clear hK K
 refine norm_ (by show Act.put _ (some 49) _ = _;simp only [ps_];rfl) ?_
 refine pure_ (i := 7) (N := some 42) #[t_,t_,t_,t_,t_,t_,t_,t_,f_,f_,f_,f_] rfl rfl (by kernel_rfl) (fun _ _ _ h => h) (Or.inl ⟨by rfl,by intro w';go_simp;with_reducible rfl⟩) (by simp only [ps_];rfl) ?_
 refine pure_ (i := 8) (N := some 50) #[t_,t_,t_,t_,t_,t_,t_,t_,t_,f_,f_,f_] rfl rfl (by kernel_rfl) (fun _ _ _ h => h) (Or.inl ⟨by rfl,by intro w';go_simp;with_reducible rfl⟩) (by simp only [ps_];rfl) ?_
 refine pure_ (i := 9) (N := some 51) #[t_,t_,t_,t_,t_,t_,t_,t_,t_,t_,f_,f_] rfl rfl (by kernel_rfl) (fun _ _ _ h => h) (Or.inl ⟨by rfl,by intro w';go_simp;with_reducible rfl⟩) (by simp only [ps_];rfl) ?_
 refine pure_ (i := 10) (N := some 10) #[t_,t_,t_,t_,t_,t_,t_,t_,t_,t_,t_,f_] rfl rfl (by kernel_rfl) (fun _ _ _ h => h) (Or.inl ⟨by rfl,by intro w';go_simp;with_reducible rfl⟩) (by simp only [ps_];rfl) ?_
 refine pure_ (i := 11) (N := some 11) #[t_,t_,t_,t_,t_,t_,t_,t_,t_,t_,t_,t_] rfl rfl (by kernel_rfl) (fun _ _ _ h => h) (Or.inl ⟨by rfl,by intro w';go_simp;with_reducible rfl⟩) (by simp only [ps_];rfl) ?_
 refine done_ (by kernel_rfl) ?_
 clear hHeld
 go_wp2_with (first
  |((with_reducible refine gate_dst (N := 54) rfl ?_);refine l_loadA rfl H 46 _ rfl _ rfl (by repeat constructor) _ _ Tryd.underlying46 rfl size46 (by first|rfl|assumption|omega|(simp only [nums_length];omega)|simp [nums_length,zs] <;> omega) ?_)
  |(go_at_call 37;(with_reducible refine (AP _ _ _ _ _ (H.rd .head).1 (H.rd (.tail .head)).1 (H.rd .head).2.1 (H.rd (.tail .head)).2.1 (Kd.C_below hk H.below)).mono ?_);rintro e W ⟨v4,rfl,HO⟩;replace H := H.addOwn HO;clear HO;dsimp only [List.cons_append,List.nil_append] at H;obtain ⟨A4,c4,rfl⟩ := H.row_slice .head))
 go_ret3
 exact ⟨_,rfl,H.at_ .head,H.below⟩
end Go.Proofs.YtaekpfhgdnfciaaDoor.O
end
