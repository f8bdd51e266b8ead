/- Texts of mine put together: ArrEq, Hand, FkWord, Plain, Rd, FkStrandlineref01, Nums, SealD, FkStrandlineref06. -/
import Derived.Test.YtaekpfhgdnfciaaDoorPkTearNear3
import Derived.Stop.BytesEq
import Derived.Test.YtaekpfhgdnfciaaDoorPkTearNear2
import Derived.Laws.BitsAllLaws
import Derived.Laws.Bits64
import Derived.OpenShut
import Derived.Deep.Strs
set_option linter.unusedVariables false
set_option linter.unusedSimpArgs false

section
namespace Go.Proofs.YtaekpfhgdnfciaaDoor.F
open Go.RowKit Go.Proofs.YtaekpfhgdnfciaaDoorW.PrintWords Go.Proofs.YtaekpfhgdnfciaaDoorW.PrintLast Go.Proofs.YtaekpfhgdnfciaaDoorW.PrintMore
def Bytes (xs : List Int) : Prop := ∀ c ∈ xs,0 ≤ c ∧ c ≤ 255
def u8s (xs : List Int) : List UInt8 := xs.map fun n => UInt8.ofNat n.toNat
theorem vals_u8s : ∀ {xs : List Int},Bytes xs → vals xs = (u8s xs).map Extern.Stop.cell := by
 intro xs h
 unfold vals u8s
 rw [List.map_map]
 refine List.map_congr_left fun c hc => ?_
 have := h c hc
 show Value.int .u8 c = Value.int .u8 (((UInt8.ofNat c.toNat).toNat : Nat) : Int)
 congr 1
 simp only [UInt8.toNat_ofNat']
 omega
theorem u8s_beq : ∀ {xs ys : List Int},Bytes xs → Bytes ys → (u8s xs == u8s ys) = (xs == ys) := by
 intro xs
 induction xs with
 |nil => intro ys _ _;cases ys <;> rfl
 |cons c xs ih =>
  intro ys hx hy
  cases ys with
  |nil => rfl
  |cons d ys =>
   have a := hx c (List.mem_cons_self ..)
   have b := hy d (List.mem_cons_self ..)
   have e : (UInt8.ofNat c.toNat == UInt8.ofNat d.toNat) = (c == d) := by
    rw [Bool.eq_iff_iff]
    simp only [beq_iff_eq,← UInt8.toNat_inj,UInt8.toNat_ofNat']
    omega
   show (UInt8.ofNat c.toNat :: u8s xs == UInt8.ofNat d.toNat :: u8s ys) = (c :: xs == d :: ys)
   rw [List.cons_beq_cons,List.cons_beq_cons,e,ih (fun z hz => hx z (List.mem_cons_of_mem _ hz)) (fun z hz => hy z (List.mem_cons_of_mem _ hz))]
theorem equalB (d : Nat) (w : World) (t : TypeId) (n : Nat) (ht : Tryd.prog.underlying t = some (.array n 5)) {xs ys : List Int} (hx : xs.length = n) (hy : ys.length = n) (bx : Bytes xs) (by' : Bytes ys) :
  (Op.equalIn (d + 2) t (.agg (vals xs).toArray) (.agg (vals ys).toArray)).run Tryd.prog w = .ok (xs == ys) w := by
 rw [vals_u8s bx,vals_u8s by',run_equalIn_bytes w d t 5 n ht Tryd.underlying5 (fun w => by kernel_rfl) _ _ (by simp [u8s,hx]) (by simp [u8s,hy]),u8s_beq bx by']
theorem wanted_ {P : Program} {ops : Array Oper} {Q : Exit → Act → World → Prop} {K : Act → World → Prop} {o : Oper} {N : Option Tmp} {a : Act} {w : World} (hw : Region.wanted o (yielded ops a.tmps) = true) (h : Oper.wp P o a w K Q) :
  if Region.wanted o (yielded ops a.tmps) = true then Oper.wp P o a w K Q else K (a.put N undef) w := by
 rw [if_pos hw]
 exact h
end Go.Proofs.YtaekpfhgdnfciaaDoor.F
end

section
namespace Go.Proofs.YtaekpfhgdnfciaaDoor.F
open Go.RowKit Go.Proofs.YtaekpfhgdnfciaaDoorW.PrintWords Go.Proofs.YtaekpfhgdnfciaaDoorW.PrintLast Go.Proofs.YtaekpfhgdnfciaaDoorW.PrintMore
attribute [local go_sem high] eqA83
attribute [local go_sem] field83_0
attribute [local go_sem] field83_1
attribute [local go_sem] max2_int min2_int max_two min_two max_three min_three max_four min_four
/-! ### word_Get: function 69 -/
def word_Get.l0 : Nat → List Int → Int → Int → Int → Option (Int)
 |0,_,_,_,_ => none
 |k + 1,x0,x3,x7,x8 => if x8 < x7 then (if 0 ≤ x8 then (if x8 < (x0.length : Int) then (if 0 ≤ (wrap64 (8 * x8)) then (word_Get.l0 k x0 (Go.bits .or .u64 x3 (shl .u64 (IntKind.u64.wrap (rd x0 x8)) (wrap64 (8 * x8)))) x7 (wrap64 (x8 + 1))) else (none)) else (none)) else (none)) else (some x3)
def word_Get.f (k : Nat) (l0 : List Int) : Option (Int) := word_Get.l0 k l0 0 (mn (l0.length : Int) 8) 0
set_option maxHeartbeats 8000000 in
set_option maxRecDepth 100000 in
theorem word_Get.calls (k : Nat) (A0 : Option Addr) (c0 : Nat) (l0 : List Int) (r : Int) (w : World) (hr0 : Kd.C (Kd.int .u8) w A0 l0.length l0) (hc0 : l0.length ≤ c0) (h : word_Get.f k l0 = some r) :
  Calls Tryd.prog 69 #[.slice A0 l0.length c0] w fun e w' => e = .returned (.int .u64 r) ∧ Below w.heap.size w w' := by
 have hu73 := Tryd.underlying73
 have hu76 := Tryd.underlying76
 have hu83 := Tryd.underlying83
 have hu94 := Tryd.underlying94
 have hu106 := Tryd.underlying106
 have HR0 := Aside0.mk hr0
 have HC0 := Aside0.mk hc0
 clear hr0 hc0
 have HB := Aside0.mk (Below.refl w.heap.size w)
 have H : (word_Get.l0 k l0 0 (mn (l0.length : Int) 8) 0) = some r := h
 clear h
 obtain ⟨ji2,hji2⟩ : ∃ j_ : Int,(mn (l0.length : Int) 8) = j_ := ⟨_,rfl⟩
 replace H : (word_Get.l0 k l0 0 ji2 0) = some r := by first|(rw [hji2] at H;exact H)|(simp only [hji2] at H ⊢;exact H)
 (try (have hji2h : ji2 ≤ 8 := by (rw [← hji2];unfold mn;(repeat' split) <;> omega)))
 (try (have hji2g : ji2 ≤ 64 := by omega))
 (try (have hji2l : 0 ≤ ji2 := by (rw [← hji2];unfold mn;(repeat' split) <;> omega)))
 (try (have hji2m : 0 ≤ ji2 := by omega))
 have hji2_ : (if 8 < (l0.length : Int) then 8 else (l0.length : Int)) = ji2 := hji2
 have H' := Aside0.mk H
 clear H
 go_enter Tryd.func69,Tryd.ntmps69
 go_wp2
 go_loopg [3,8] k (fun kq v3 v8 w' => ∃ (x3_1 : Int) (x8_1 : Int),v3 = .int .u64 x3_1 ∧ v8 = .int .i64 x8_1 ∧ Aside0 (word_Get.l0 kq l0 x3_1 ji2 x8_1 = some r) ∧ Aside0 (kq ≤ k) ∧ Aside0 (Below w.heap.size w w'))
 case atStart => exact ⟨(0),(0),(by first|rfl|(simp;done)|(simp [*];done)),(by first|rfl|(simp;done)|(simp [*];done)),H',⟨Nat.le_refl _⟩,⟨by repeat (first|(with_reducible first|exact HB.out|apply below_alloc|apply pw_below_drewN|apply below_drew1)|exact HB.out)⟩⟩
 case round =>
  clear H'
  try clear p2
  obtain ⟨x3_1,x8_1,rfl,rfl,HA,HK1,HB⟩ := hrel
  cases gk with
  |zero => exact absurd HA.out (by simp [word_Get.l0])
  |succ k1 =>
   have H := HA.out
   clear HA
   simp only [word_Get.l0] at H
   by_cases c3 : x8_1 < ji2
   ·rw [if_pos c3] at H
    have c3b0 : decide (x8_1 < ji2) = true := decide_eq_true c3
    clear c3
    by_cases c4 : 0 ≤ x8_1
    ·rw [if_pos c4] at H
     have c4b0 : decide (0 ≤ x8_1) = true := decide_eq_true c4
     clear c4
     by_cases c5 : x8_1 < (l0.length : Int)
     ·rw [if_pos c5] at H
      have c5b0 : decide (x8_1 < (l0.length : Int)) = true := decide_eq_true c5
      clear c5
      obtain ⟨ji6,hji6⟩ : ∃ j_ : Int,(wrap64 (8 * x8_1)) = j_ := ⟨_,rfl⟩
      replace H : (if 0 ≤ (ji6) then (word_Get.l0 k1 l0 (Go.bits .or .u64 x3_1 (shl .u64 (IntKind.u64.wrap (rd l0 x8_1)) (ji6))) ji2 (wrap64 (x8_1 + 1))) else (none)) = some r := by first|(rw [hji6] at H;exact H)|(simp only [hji6] at H ⊢;exact H)
      have hji6w : (IntKind.i64.wrap (8 * x8_1)) = ji6 := (i64_w _).trans hji6
      by_cases c7 : 0 ≤ (ji6)
      ·rw [if_pos c7] at H
       have c7b0 := eq_true c7
       have c7b1 : decide (0 ≤ (ji6)) = true := decide_eq_true c7
       clear c7
       obtain ⟨ji8,hji8⟩ : ∃ j_ : Int,(shl .u64 (IntKind.u64.wrap (rd l0 x8_1)) (ji6)) = j_ := ⟨_,rfl⟩
       replace H : (word_Get.l0 k1 l0 (Go.bits .or .u64 x3_1 (ji8)) ji2 (wrap64 (x8_1 + 1))) = some r := by first|(rw [hji8] at H;exact H)|(simp only [hji8] at H ⊢;exact H)
       have hji8_ : (IntKind.u64.wrap ((IntKind.u64.wrap (rd l0 x8_1)) * 2 ^ min (ji6).toNat 64)) = ji8 := hji8
       have hji8z : (ji6) ≤ 64 → (IntKind.u64.wrap ((IntKind.u64.wrap (rd l0 x8_1)) * 2 ^ (ji6).toNat)) = ji8 := shl_small hji8
       have H' := Aside0.mk H
       clear H
       have p103 : 0 ≤ (x8_1 : Int) := of_decide_eq_true (by first|(with_reducible assumption)|assumption)
       have q103 : x8_1 < (l0.length : Int) := of_decide_eq_true (by first|(with_reducible assumption)|assumption)
       obtain ⟨ad103,e103,hx103_0⟩ := Kd.at_int HR0.out x8_1 p103 q103
       cases e103
       replace hx103_0 := (HB.out.cell (World.block_lt_of_cell? w _ hx103_0)).trans hx103_0
       replace p103 := eq_true p103
       replace q103 := eq_true q103
       go_wp2
       go_roundg k1
       case measure => have := HK1.out;omega
       case rel => exact ⟨(Go.bits .or .u64 x3_1 (ji8)),(wrap64 (x8_1 + 1)),(by first|rfl|(simp;done)|(simp only [← hji8] <;> (first|rfl|simp))|(simp [*];done)),(by first|rfl|(simp;done)|(simp [*];done)),H',⟨by have := HK1.out;omega⟩,⟨by repeat (first|(with_reducible first|exact HB.out|apply below_alloc|apply pw_below_drewN|apply below_drew1)|exact HB.out)⟩⟩
      ·rw [if_neg c7] at H
       exact absurd H (by simp)
     ·rw [if_neg c5] at H
      exact absurd H (by simp)
    ·rw [if_neg c4] at H
     exact absurd H (by simp)
   ·rw [if_neg c3] at H
    have c3b0 : decide (x8_1 < ji2) = false := decide_eq_false c3
    clear c3
    obtain rfl := Option.some.inj H
    go_wp2
    go_ret
    exact ⟨by first|rfl|(simp [errW_none,errW_some] <;> rfl)|(simp only [← hji2];first|rfl|(simp [errW_none,errW_some] <;> rfl))|(simp [*,errW_none,errW_some] <;> rfl),by repeat (first|(with_reducible first|exact HB.out|apply below_alloc|apply pw_below_drewN|apply below_drew1)|exact HB.out)⟩
def IsS106 (w0 W : World) (g : Nat) (f0 : Bool) (f1 : List Int) : Prop := ∃ A1 c1,W.heap[g]? = some (.cells #[.bool f0,.slice A1 f1.length c1] 106 (0,0)) ∧ w0.heap.size ≤ g ∧ Kd.C (Kd.int .u8) w0 A1 f1.length f1
theorem IsS106.grown {w0 W : World} {g : Nat} {f0 : Bool} {f1 : List Int} {W1 : World} {row : Option Nat} (h : IsS106 w0 W g f0 f1) (hw : W.grownBy W1 row) (hne : some g ≠ row) : IsS106 w0 W1 g f0 f1 := by
 obtain ⟨A1,c1,hb,hg,hr1⟩ := h
 exact ⟨A1,c1,blk_grown hb hw hne,hg,hr1⟩
theorem IsS106.kept {w0 W : World} {g : Nat} {f0 : Bool} {f1 : List Int} {W1 : World} {S : Nat → Prop} (h : IsS106 w0 W g f0 f1) (hk : Kept W W1 S) (hne : ¬ S g) : IsS106 w0 W1 g f0 f1 := by
 obtain ⟨A1,c1,hb,hg,hr1⟩ := h
 exact ⟨A1,c1,blk_kept hb hk hne,hg,hr1⟩
theorem IsS106.below {w0 W : World} {g : Nat} {f0 : Bool} {f1 : List Int} {W1 : World} (h : IsS106 w0 W g f0 f1) (hw : Below W.heap.size W W1) : IsS106 w0 W1 g f0 f1 := h.grown (grown_of_below hw none) (by simp)
theorem IsS106.alloc {w0 W : World} {g : Nat} {f0 : Bool} {f1 : List Int} (h : IsS106 w0 W g f0 f1) (o : Obj) : IsS106 w0 (W.alloc o) g f0 f1 := h.below (below_alloc (Below.refl _ _) o)
theorem IsS106.drewN {w0 W : World} {g : Nat} {f0 : Bool} {f1 : List Int} (h : IsS106 w0 W g f0 f1) (m : Nat) : IsS106 w0 (W.drewN m) g f0 f1 := h
theorem IsS106.drew {w0 W : World} {g : Nat} {f0 : Bool} {f1 : List Int} (h : IsS106 w0 W g f0 f1) : IsS106 w0 W.drew g f0 f1 := h
theorem IsS106.at_ {w0 W : World} {g : Nat} {f0 : Bool} {f1 : List Int} {w' : World} {m : Nat} (hq : W.drewN m = w') (h : IsS106 w0 W g f0 f1) : IsS106 w0 w' g f0 f1 := by subst hq;exact IsS106.drewN h m
theorem IsS106.apart {w0 W : World} {g : Nat} {f0 : Bool} {f1 : List Int} {α : Type} {d : Kd α} {e : Nat} {base : Nat} {ok : Nat → Prop} {v : Value} {xs : List α} (h : IsS106 w0 W g f0 f1) (ho : d.R e W base ok v xs) (ht : ∀ q,q ∈ e :: d.E → q ≠ 106) : d.R e W base (fun k => ok k ∧ k ≠ g) v xs := by
 obtain ⟨A1,c1,hb,hg,hr1⟩ := h
 exact Kd.R_types ho hb ht
theorem IsS106.own_ne {w0 W : World} {g : Nat} {f0 : Bool} {f1 : List Int} {α : Type} {d : Kd α} {e : Nat} {base : Nat} {ok : Nat → Prop} {v : Value} {xs : List α} (h : IsS106 w0 W g f0 f1) (ho : d.R e W base ok v xs) (ht : e ≠ 106) : some g ≠ v.ownBlock := by
 obtain ⟨A1,c1,hb,hg,hr1⟩ := h
 exact Kd.R_ne ho hb ht
theorem IsS106.lt {w0 W : World} {g : Nat} {f0 : Bool} {f1 : List Int} (h : IsS106 w0 W g f0 f1) : g < W.heap.size := by
 obtain ⟨A1,c1,hb,hg,hr1⟩ := h
 exact blk_lt hb
theorem IsS106.ge {w0 W : World} {g : Nat} {f0 : Bool} {f1 : List Int} (h : IsS106 w0 W g f0 f1) : w0.heap.size ≤ g := by
 obtain ⟨A1,c1,hb,hg,hr1⟩ := h
 exact hg
theorem IsS106.far {w0 W : World} {g : Nat} {f0 : Bool} {f1 : List Int} {p : Addr} (h : IsS106 w0 W g f0 f1) (hne : g ≠ p.block) (u : Value) : IsS106 w0 (W.setCell p u) g f0 f1 := by
 obtain ⟨A1,c1,hb,hg,hr1⟩ := h
 exact ⟨A1,c1,blk_far hb hne u,hg,hr1⟩
theorem IsS106.new (w0 W : World) (A1 : Option Addr) (c1 : Nat) (f0 : Bool) (f1 : List Int) (hB : Below w0.heap.size w0 W) (hr1 : Kd.C (Kd.int .u8) w0 A1 f1.length f1) : IsS106 w0 (W.alloc (.cells #[.bool f0,.slice A1 f1.length c1] 106)) W.heap.size f0 f1 := ⟨A1,c1,by simpa using heap_alloc_new W _,hB.size,hr1⟩
/-! ### word_near: function 89 -/
def word_near.f (a0 : Int) (a1 : Int) (a2 : Int) : Option (Int) := some (mx a1 (mn a0 a2))
set_option maxHeartbeats 8000000 in
set_option maxRecDepth 100000 in
theorem word_near.calls (a0 : Int) (a1 : Int) (a2 : Int) (r : Int) (w : World) (h : word_near.f a0 a1 a2 = some r) :
  Calls Tryd.prog 89 #[.int .i64 a0,.int .i64 a1,.int .i64 a2] w fun e w' => e = .returned (.int .i64 r) ∧ Below w.heap.size w w' := by
 have hu73 := Tryd.underlying73
 have hu76 := Tryd.underlying76
 have hu83 := Tryd.underlying83
 have hu94 := Tryd.underlying94
 have hu106 := Tryd.underlying106
 have HB := Aside0.mk (Below.refl w.heap.size w)
 have H : (some (mx a1 (mn a0 a2))) = some r := h
 clear h
 obtain ⟨ji4,hji4⟩ : ∃ j_ : Int,(mn a0 a2) = j_ := ⟨_,rfl⟩
 replace H : (some (mx a1 (ji4))) = some r := by first|(rw [hji4] at H;exact H)|(simp only [hji4] at H ⊢;exact H)
 have hji4_ : (if a2 < a0 then a2 else a0) = ji4 := hji4
 obtain ⟨ji5,hji5⟩ : ∃ j_ : Int,(mx a1 (ji4)) = j_ := ⟨_,rfl⟩
 replace H : (some ji5) = some r := by first|(rw [hji5] at H;exact H)|(simp only [hji5] at H ⊢;exact H)
 have hji5_ : (if a1 < (ji4) then (ji4) else a1) = ji5 := hji5
 obtain rfl := Option.some.inj H
 go_enter Tryd.func89,Tryd.ntmps89
 go_wp2
 go_ret
 exact ⟨by first|rfl|(simp [errW_none,errW_some] <;> rfl)|(simp only [← hji4,← hji5];first|rfl|(simp [errW_none,errW_some] <;> rfl))|(simp [*,errW_none,errW_some] <;> rfl),by repeat (first|(with_reducible first|exact HB.out|apply below_alloc|apply pw_below_drewN|apply below_drew1)|exact HB.out)⟩
/-! ### word_Put: function 88 -/
def word_Put.l0 : Nat → Int → List Int → Int → Int → Option (List Int)
 |0,_,_,_,_ => none
 |k + 1,x0,x5,x8,x9 => if x9 < x8 then (if 0 ≤ (wrap64 (8 * x9)) then (if x5.length < 140737488355328 then (word_Put.l0 k x0 (x5 ++ [(shr .u64 x0 (wrap64 (8 * x9))) % 256]) x8 (wrap64 (x9 + 1))) else (none)) else (none)) else (some x5)
def word_Put.f (k : Nat) (a0 : Int) (a1 : Int) : Option (List Int) := (word_near.f a1 0 8).bind fun t101 => (word_Put.l0 k a0 ([] : List Int) t101 0)
set_option maxHeartbeats 8000000 in
set_option maxRecDepth 100000 in
theorem word_Put.calls (k : Nat) (a0 : Int) (a1 : Int) (r : List Int) (w : World) (h : word_Put.f k a0 a1 = some r) :
  Calls Tryd.prog 88 #[.int .u64 a0,.int .i64 a1] w fun e w' => ∃ v0_ : Value,e = .returned (v0_) ∧ Kd.R (Kd.int .u8) 5 w' w.heap.size (fun _ => True) v0_ r ∧ Below w.heap.size w w' := by
 have hu73 := Tryd.underlying73
 have hu76 := Tryd.underlying76
 have hu83 := Tryd.underlying83
 have hu94 := Tryd.underlying94
 have hu106 := Tryd.underlying106
 have HB := Aside0.mk (Below.refl w.heap.size w)
 have H : ((word_near.f a1 0 8).bind fun t101 => (word_Put.l0 k a0 ([] : List Int) t101 0)) = some r := h
 clear h
 replace H := Option.bind_eq_some_iff.mp H
 obtain ⟨t101,A30,H⟩ := H
 replace H : (word_Put.l0 k a0 ([] : List Int) t101 0) = some r := H
 have A3 := Aside0.mk A30
 clear A30
 have H' := Aside0.mk H
 clear H
 go_enter Tryd.func88,Tryd.ntmps88
 go_wp2_with (first|((with_reducible refine gate_callee (f := 89) rfl ?_);refine goesL_ (some 8) rfl rfl Tryd.func89 (by kernel_rfl) rfl #[.int .i64 a1,.int .i64 0,.int .i64 8] rfl (by (try simp only [List.map_toArray,List.map_cons,List.map_nil]);first|done|rfl|(simp only [List.length_drop,List.length_take];rfl)) ?_;(with_reducible refine (word_near.calls a1 0 8 t101 _ A3.out).mono ?_);rintro e w4 ⟨rfl,hb⟩;refine ⟨_,rfl,?_⟩;have n0_ := Aside0.mk (below_step (by repeat (first|(with_reducible first|exact HB.out|apply below_alloc|apply pw_below_drewN|apply below_drew1)|exact HB.out)) hb);clear HB;have HB := n0_;clear n0_;(try clear hb);(try clear hb2);(try clear hk);(try clear hi)))
 go_loopg [5,9] k (fun kq v5 v9 w' => ∃ (x5_1 : List Int) (x9_1 : Int),v9 = .int .i64 x9_1 ∧ Aside0 (word_Put.l0 kq a0 x5_1 t101 x9_1 = some r) ∧ Aside0 (kq ≤ k) ∧ Aside0 (Kd.R (Kd.int .u8) 5 w' w.heap.size (fun _ => True) v5 x5_1) ∧ Aside0 (Below w.heap.size w w'))
 case atStart => exact ⟨(([] : List Int)),(0),(by first|rfl|(simp;done)|(simp [*];done)),H',⟨Nat.le_refl _⟩,⟨by first|exact Kd.R_nil _ _ _ _ _|exact Kd.N_nil _ _ _ _ _|exact Kd.V_nil _ _ _ _ _|exact Kd.Q_nil _ _ _ _ _|exact Kd.S_nil _ _ _ _ _⟩,⟨by repeat (first|(with_reducible first|exact HB.out|apply below_alloc|apply pw_below_drewN|apply below_drew1)|exact HB.out)⟩⟩
 case round =>
  clear H'
  try clear p2
  obtain ⟨x5_1,x9_1,rfl,HA,HK1,HO_5,HB⟩ := hrel
  cases gk with
  |zero => exact absurd HA.out (by simp [word_Put.l0])
  |succ k1 =>
   have H := HA.out
   clear HA
   simp only [word_Put.l0] at H
   by_cases c5 : x9_1 < t101
   ·rw [if_pos c5] at H
    have c5b0 : decide (x9_1 < t101) = true := decide_eq_true c5
    clear c5
    obtain ⟨ji6,hji6⟩ : ∃ j_ : Int,(wrap64 (8 * x9_1)) = j_ := ⟨_,rfl⟩
    replace H : (if 0 ≤ (ji6) then (if x5_1.length < 140737488355328 then (word_Put.l0 k1 a0 (x5_1 ++ [(shr .u64 a0 (ji6)) % 256]) t101 (wrap64 (x9_1 + 1))) else (none)) else (none)) = some r := by first|(rw [hji6] at H;exact H)|(simp only [hji6] at H ⊢;exact H)
    have hji6w : (IntKind.i64.wrap (8 * x9_1)) = ji6 := (i64_w _).trans hji6
    by_cases c7 : 0 ≤ (ji6)
    ·rw [if_pos c7] at H
     have c7b0 := eq_true c7
     have c7b1 : decide (0 ≤ (ji6)) = true := decide_eq_true c7
     clear c7
     obtain ⟨ji8,hji8⟩ : ∃ j_ : Int,(shr .u64 a0 (ji6)) = j_ := ⟨_,rfl⟩
     replace H : (if x5_1.length < 140737488355328 then (word_Put.l0 k1 a0 (x5_1 ++ [(ji8) % 256]) t101 (wrap64 (x9_1 + 1))) else (none)) = some r := by first|(rw [hji8] at H;exact H)|(simp only [hji8] at H ⊢;exact H)
     have hji8_ : (a0 / 2 ^ min (ji6).toNat 64) = ji8 := hji8
     have hji8z : (ji6) ≤ 64 → (a0 / 2 ^ (ji6).toNat) = ji8 := shr_small hji8
     by_cases c9 : x5_1.length < 140737488355328
     ·rw [if_pos c9] at H
      have LMc9 := Aside0.mk c9
      clear c9
      obtain ⟨y102,hy102⟩ : ∃ y_ : List Int,y_ = (x5_1 ++ [(ji8) % 256]) := ⟨_,rfl⟩
      replace H : (word_Put.l0 k1 a0 y102 t101 (wrap64 (x9_1 + 1))) = some r := by first|(rw [hy102];with_reducible exact H)|(have H2_ := (Option.bind_some _ _).symm.trans H;rw [hy102];with_reducible exact H2_)|(have H2_ := (Option.bind_some _ _).symm.trans H;with_reducible exact H2_)|with_reducible exact H|(rw [hy102];exact H)|exact H
      have Ny102 := Aside0.mk hy102
      clear hy102
      have H' := Aside0.mk H
      clear H
      go_wp2_with (first|((with_reducible refine gate_builtin (b := .append) (xs := #[.tmp 12,.tmp 18]) rfl ?_);at_builtin;refine Kd.R_append (Kd.int .u8) (w0 := w) w.heap.size rfl (.tmp 12) (.tmp 18) 38 5 (.int .u8 0) 1 rfl Tryd.underlying38 info5 rfl (by decide) (by omega) u5 x5_1 ((ji8) % 256) [.int .u8 ((ji8) % 256)] (fun _ => True) (fun _ => False) rfl rfl ?aP (fun _ hk => hk.elim) ?aF ?aO ?aB ?aS ?aL ?_;(case aP => exact rfl);(case aB => exact (by repeat (first|(with_reducible first|exact HB.out|apply below_alloc|apply pw_below_drewN|apply below_drew1)|exact HB.out)));(case aF => exact (fun _ _ => trivial));(case aO => exact (by (with_reducible repeat (first|apply Kd.R_alloc|apply Kd.R_drewN|apply Kd.R_drew));exact HO_5.out));(case aS => exact (below_size (by repeat (first|(with_reducible first|exact HB.out|apply below_alloc|apply pw_below_drewN|apply below_drew1)|exact HB.out))));(case aL => have := LMc9.out;omega);intro v103 w10 ho hb hg hat;rw [← Ny102.out] at ho;have n0_ := Aside0.mk (hb);have n1_ := Aside0.mk (ho);clear HB;clear HO_5;have HB := n0_;have HO104 := n1_;clear n0_ n1_;clear ho hb hg hat))
      go_roundg k1
      case measure => have := HK1.out;omega
      case rel => exact ⟨(y102),(wrap64 (x9_1 + 1)),(by first|rfl|(simp;done)|(simp [*];done)),H',⟨by have := HK1.out;omega⟩,⟨by (with_reducible repeat (first|apply Kd.R_alloc|apply Kd.R_drewN|apply Kd.R_drew));exact HO104.out⟩,⟨by repeat (first|(with_reducible first|exact HB.out|apply below_alloc|apply pw_below_drewN|apply below_drew1)|exact HB.out)⟩⟩
     ·rw [if_neg c9] at H
      exact absurd H (by simp)
    ·rw [if_neg c7] at H
     exact absurd H (by simp)
   ·rw [if_neg c5] at H
    have c5b0 : decide (x9_1 < t101) = false := decide_eq_false c5
    clear c5
    obtain rfl := Option.some.inj H
    go_wp2
    go_ret
    exact ⟨_,by first|rfl|(simp [errW_none,errW_some] <;> rfl)|(simp [*,errW_none,errW_some] <;> rfl),by (with_reducible repeat (first|apply Kd.R_alloc|apply Kd.R_drewN|apply Kd.R_drew));exact HO_5.out,by repeat (first|(with_reducible first|exact HB.out|apply below_alloc|apply pw_below_drewN|apply below_drew1)|exact HB.out)⟩
end Go.Proofs.YtaekpfhgdnfciaaDoor.F
end

section
namespace Go.Proofs.YtaekpfhgdnfciaaDoor.Plain
open Go.RowKit Go.Proofs.YtaekpfhgdnfciaaDoorW.PrintWords Go.Proofs.YtaekpfhgdnfciaaDoorW.PrintLast Go.Proofs.YtaekpfhgdnfciaaDoorW.PrintMore
theorem w64 {n : Int} (h0 : -9223372036854775808 ≤ n) (h1 : n ≤ 9223372036854775807) : wrap64 n = n := by
 unfold wrap64
 omega
theorem wu64 {n : Int} (h0 : 0 ≤ n) (h1 : n ≤ 18446744073709551615) : IntKind.u64.wrap n = n := by
 rw [IntKind.wrap_u64]
 omega
theorem wu32 {n : Int} (h0 : 0 ≤ n) (h1 : n ≤ 4294967295) : IntKind.u32.wrap n = n := by
 rw [IntKind.wrap_u32]
 omega
theorem td {a b : Int} (h : 0 ≤ a) : Int.tdiv a b = a / b := Int.tdiv_eq_ediv_of_nonneg h
theorem tm {a b : Int} (h : 0 ≤ a) : Int.tmod a b = a % b := Int.tmod_eq_emod_of_nonneg h
def cl (a : Int) : Int := if a < 0 then 0 else if 832 < a then 832 else a
theorem cl_lo (a : Int) : 0 ≤ cl a := by unfold cl;split <;> (try split) <;> omega
theorem cl_hi (a : Int) : cl a ≤ 832 := by unfold cl;split <;> (try split) <;> omega
theorem cl_in {a : Int} (h0 : 0 ≤ a) (h1 : a ≤ 832) : cl a = a := by unfold cl;rw [if_neg (by omega),if_neg (by omega)]
theorem cl_cl (a : Int) : cl (cl a) = cl a := cl_in (cl_lo a) (cl_hi a)
theorem near_cl (a : Int) : mx 0 (mn a 832) = cl a := by
 unfold mx mn cl
 by_cases h1 : a < 0 <;> by_cases h2 : 832 < a <;> simp [h1,h2] <;> omega
def bg (n : Int) : Int := if 41 < n % 52 then n + (52 - n % 52) else n
def lf (n : Int) : Int := if n = 832 then 0 else 208 - n % 208
def tch (a b : Int) : Int × Int := if a ≥ b then (0,0) else (a / 52,(b - 1) / 52 + 1)
theorem bg_lo {n : Int} (h : 0 ≤ n) : 0 ≤ bg n := by unfold bg;split <;> omega
theorem bg_hi {n : Int} (h : n ≤ 832) : bg n ≤ 832 := by unfold bg;split <;> omega
theorem bg_ge (n : Int) : n ≤ bg n := by unfold bg;split <;> omega
theorem bg_mod (n : Int) : bg n % 52 ≤ 41 := by unfold bg;split <;> omega
theorem bg_bg (n : Int) : bg (bg n) = bg n := by
 have := bg_mod n
 generalize bg n = m at *
 unfold bg
 rw [if_neg (by omega)]
/-! ### bits -/
theorem pow_cast (n : Nat) : ((2 ^ n : Nat) : Int) = (2 : Int) ^ n := by simp
theorem rd_u8 {l : List Int} (h : ∀ x ∈ l,(Lit.int .u8 x).wf = true) (i : Int) : 0 ≤ rd l i ∧ rd l i ≤ 255 := by
 unfold rd
 rw [List.getD_eq_getElem?_getD]
 exact range_u8 h i.toNat
end Go.Proofs.YtaekpfhgdnfciaaDoor.Plain
end

section
namespace Go.Proofs.YtaekpfhgdnfciaaDoor.O
open Go.RowKit Go.Proofs.YtaekpfhgdnfciaaDoorW.PrintWords Go.Proofs.YtaekpfhgdnfciaaDoorW.PrintLast Go.Proofs.YtaekpfhgdnfciaaDoorW.PrintMore Go.Proofs.YtaekpfhgdnfciaaDoor.F
def Rd (w : World) (A : Option Addr) (cs : List Value) : Prop := 0 < cs.length → ∃ ad,A = some ad ∧ ∀ (j : Nat) (v : Value),cs[j]? = some v → w.cell? (ad.add j) = some v
theorem add_block (a : Addr) (n : Nat) : (a.add n).block = a.block := by
 unfold Addr.add
 split <;> rfl
theorem add_add' (a : Addr) (n m : Nat) : (a.add n).add m = a.add (n + m) := by
 unfold Addr.add
 by_cases h1 : n = 0
 ·subst h1
  simp
 ·by_cases h2 : m = 0
  ·subst h2
   simp [h1]
  ·rw [if_neg h1,if_neg h2,if_neg (by omega)]
   simp [Nat.add_assoc]
section
variable {w w1 : World} {A : Option Addr} {ad : Addr} {cs : List Value} {k : IntKind} {n : Nat} {xs : List Int}
theorem Rd.below (h : Rd w A cs) (hb : Below w.heap.size w w1) : Rd w1 A cs := fun hp => by
 obtain ⟨ad,rfl,hc⟩ := h hp
 refine ⟨ad,rfl,fun j v hj => ?_⟩
 have h1 := hc j v hj
 exact (hb.cell (World.block_lt_of_cell? w _ h1)).trans h1
theorem Rd.nil (w : World) (A : Option Addr) : Rd w A [] := fun hp => absurd hp (by simp)
theorem Rd.of_C (h : (Kd.int k).C w A n xs) : Rd w A (nums k xs) := fun hp => by
 have hl : xs.length = n := h.1
 rw [nums_length] at hp
 obtain ⟨ad,rfl,hc⟩ := h.2.2 (by omega)
 refine ⟨ad,rfl,fun j v hj => ?_⟩
 simp only [nums,List.getElem?_map,Option.map_eq_some_iff] at hj
 obtain ⟨z,hz,rfl⟩ := hj
 obtain ⟨c,hs',hr,hcell⟩ := hc j z hz
 have hr' : c = [.int k z] := hr
 subst hr'
 have := hcell 0 _ rfl
 rw [show (Kd.int k).sz = 1 from rfl] at this
 simpa using this
theorem Rd.C (h : Rd w A (nums k xs)) (hn : xs.length = n) (hm : n ≤ 9223372036854775807) : (Kd.int k).C w A n xs := by
 refine ⟨hn,hm,fun hp => ?_⟩
 obtain ⟨ad,rfl,hc⟩ := h (by rw [nums_length];omega)
 refine ⟨ad,rfl,fun j p hj => ⟨[.int k p],rfl,rfl,fun i u hu => ?_⟩⟩
 have hi0 : i = 0 := by have := (List.getElem?_eq_some_iff.1 hu).1;simpa using this
 subst hi0
 simp at hu
 subst hu
 rw [show (Kd.int k).sz = 1 from rfl,Nat.mul_one,Nat.add_zero]
 refine hc j _ ?_
 rw [nums,List.getElem?_map,hj]
 rfl
theorem Rd.at_ (h : Rd w (some ad) cs) (off : Nat) : Rd w (some (ad.add off)) (cs.drop off) := fun hp => by
 rw [List.length_drop] at hp
 obtain ⟨ad',e,hc⟩ := h (by omega)
 obtain rfl := Option.some.inj e
 refine ⟨_,rfl,fun j v hj => ?_⟩
 rw [add_add']
 rw [List.getElem?_drop] at hj
 exact hc _ v hj
theorem Rd.take (h : Rd w A cs) (m : Nat) : Rd w A (cs.take m) := fun hp => by
 rw [List.length_take] at hp
 obtain ⟨ad,rfl,hc⟩ := h (by omega)
 refine ⟨ad,rfl,fun j v hj => ?_⟩
 rw [List.getElem?_take] at hj
 split at hj
 ·exact hc j v hj
 ·cases hj
theorem Rd.some_ (h : Rd w A cs) (hp : 0 < cs.length) : ∃ ad,A = some ad := by
 obtain ⟨ad,rfl,_⟩ := h hp
 exact ⟨ad,rfl⟩
end
section
variable {w0 W : World} {F : Nat → Option Obj} {L : List Res} {c : Res → List Res}
theorem rd_own {b : Nat} {A : Option Addr} {n cc sz : Nat} {e : TypeId} {xs : List Value} (h : W.ownsRow b e sz (.slice A n cc) n xs) : Rd W A xs ∧ n ≤ cc ∧ xs.length = n * sz := by
 refine ⟨fun hp => ?_,?_,h.1⟩
 ·rcases h.2 with ⟨h1,h0⟩|⟨g,cap,cur,h1,hb,hg,hnc,hcm,hcs,ht⟩
  ·have := h.1
   rw [h0,Nat.zero_mul] at this
   omega
  ·simp only [Value.slice.injEq] at h1
   obtain ⟨rfl,-,rfl⟩ := h1
   refine ⟨_,rfl,fun j v hj => ?_⟩
   rw [addr_add,Nat.zero_add,blk_cell hg j]
   rw [← ht,List.getElem?_take] at hj
   split at hj
   ·simpa using hj
   ·cases hj
 ·rcases h.2 with ⟨h1,h0⟩|⟨g,cap,cur,h1,hb,hg,hnc,hcm,hcs,ht⟩
  ·omega
  ·simp only [Value.slice.injEq] at h1
   obtain ⟨rfl,-,rfl⟩ := h1
   exact hnc
theorem Own.rd {A : Option Addr} {n cc sz : Nat} {e : TypeId} {xs : List Value} (H : Own w0 F L W) (hI : In L (.row (.slice A n cc) e sz n xs) c) : Rd W A xs ∧ n ≤ cc ∧ xs.length = n * sz := rd_own (H.at_ hI)
theorem Own.rdB {g : Nat} {t : TypeId} {cs : List Value} (H : Own w0 F L W) (hI : In L (.blk g t cs) c) (o : Nat) : Rd W (some ⟨g,o,none⟩) (cs.drop o) := fun hp => by
 refine ⟨_,rfl,fun j v hj => ?_⟩
 rw [addr_add,H.cell hI]
 rwa [List.getElem?_drop] at hj
end
section
variable {P : Program} {o : Oper} {a : Act} {K : Act → World → Prop} {Q : Exit → Act → World → Prop} {W : World} {ad : Addr} {cs : List Value}
theorem r_loadRd (ty : TypeId) (x : Operand) (ho : o.op = .load ty x) (off : Nat) (hx : a.eval x = .pointer (some (ad.add off))) (hR : Rd W (some ad) cs)
  (n : Nat) (d : TypeDesc) (hu : P.underlying ty = some d) (hd : d.isRow = true) (hi : (P.info? ty).map (·.size) = some n) (hn : 0 < n) (hfit : off + n ≤ cs.length) : (execOp a.eval o).run P W = .ok (.value (.agg ((cs.drop off).take n).toArray)) W := by
 have hll : ((cs.drop off).take n).length = n := by rw [List.length_take,List.length_drop];omega
 have hl : (loadCells (ad.add off) ((cs.drop off).take n).length).run P W = .ok ((cs.drop off).take n).toArray W :=
  run_loadCells_list (P := P) W (ad.add off) ((cs.drop off).take n) (fun j v hv => by
   obtain ⟨ad',e,hc⟩ := ((hR.at_ off).take n) (by omega)
   obtain rfl := Option.some.inj e
   exact hc j v hv)
 rw [hll] at hl
 obtain ⟨i,hi,hs⟩ := Option.map_eq_some_iff.1 hi
 have hagg : (isAgg ty).run P W = .ok true W := by
  unfold isAgg
  rw [Sem.run_bind,run_underlying hu W]
  cases d <;> simp_all
 unfold execOp
 simp [ho,hx,Instr.loadAt,Instr.sureAddr,loadVar,hagg,sizeOf,typeInfo,hi,hs,hl]
theorem r_loadRd1 (ty : TypeId) (x : Operand) (ho : o.op = .load ty x) (off : Nat) (hx : a.eval x = .pointer (some (ad.add off))) (hR : Rd W (some ad) cs)
  (d : TypeDesc) (hu : P.underlying ty = some d) (hd : d.isRow = false) (v : Value) (hv : cs[off]? = some v) : (execOp a.eval o).run P W = .ok (.value v) W := by
 obtain ⟨ad',e,hc⟩ := hR (by have := (List.getElem?_eq_some_iff.1 hv).1;omega)
 obtain rfl := Option.some.inj e
 have hcell := hc off v hv
 have hag : (isAgg ty).run P W = .ok false W := by
  unfold isAgg
  rw [Sem.run_bind,run_underlying hu W]
  cases d <;> simp_all
 unfold execOp
 simp [ho,hx,Instr.loadAt,Instr.sureAddr,loadVar,hag,hcell]
theorem w_loadRd1 (ty : TypeId) (x : Operand) (ho : o.op = .load ty x) (off : Nat) (hx : a.eval x = .pointer (some (ad.add off))) (hR : Rd W (some ad) cs)
  (d : TypeDesc) (hu : P.underlying ty = some d) (hd : d.isRow = false) (v : Value) (hv : cs[off]? = some v) (h : K (a.put o.dst v) W) : o.wp P a W K Q := by
 unfold Oper.wp
 rw [r_loadRd1 ty x ho off hx hR d hu hd v hv]
 exact h
end
section
variable {P : Program} {ops : Array Oper} {rest : List Oper} {o : Oper} {a : Act} {Q : Exit → Act → World → Prop} {W : World} {ad : Addr} {cs : List Value}
theorem l_loadRd1 (hgd : o.guard = none) (ty : TypeId) (x : Operand) (ho : o.op = .load ty x) (off : Nat) (hx : a.eval x = .pointer (some (ad.add off))) (hR : Rd W (some ad) cs)
  (d : TypeDesc) (hu : P.underlying ty = some d) (hd : d.isRow = false) (v : Value) (hv : cs[off]? = some v) (h : wpList P ops Q rest (a.put o.dst v) W) : wpList P ops Q (o :: rest) a W :=
 wpList_plain hgd fun K hK => w_loadRd1 ty x ho off hx hR d hu hd v hv (hK _ _ h)
end
theorem nums_take {k : IntKind} (xs : List Int) (n : Nat) : (nums k xs).take n = nums k (xs.take n) := by simp [nums,List.map_take]
theorem nums_drop {k : IntKind} (xs : List Int) (n : Nat) : (nums k xs).drop n = nums k (xs.drop n) := by simp [nums,List.map_drop]
theorem nums_app {k : IntKind} (xs ys : List Int) : nums k xs ++ nums k ys = nums k (xs ++ ys) := by simp [nums]
section
variable {P : Program} {ops : Array Oper} {rest : List Oper} {o : Oper} {a : Act} {K : Act → World → Prop} {Q : Exit → Act → World → Prop} {W : World} {ad : Addr} {cs : List Value}
theorem r_loadRdS (ty : TypeId) (x : Operand) (ho : o.op = .load ty x) (off : Nat) (hx : a.eval x = .pointer (some (ad.add off))) (hR : Rd W (some ad) cs)
  (n : Nat) (d : TypeDesc) (hu : P.underlying ty = some d) (hd : d.isRow = true) (hi : (P.info? ty).map (·.size) = some n) (hn : 0 < n) (seg : List Value) (hs : (cs.drop off).take n = seg) (hl : seg.length = n) : (execOp a.eval o).run P W = .ok (.value (.agg seg.toArray)) W := by
 subst hs
 exact r_loadRd ty x ho off hx hR n d hu hd hi hn (by rw [List.length_take,List.length_drop] at hl;omega)
theorem l_loadRdS (hgd : o.guard = none) (ty : TypeId) (x : Operand) (ho : o.op = .load ty x) (off : Nat) (hx : a.eval x = .pointer (some (ad.add off))) (hR : Rd W (some ad) cs)
  (n : Nat) (d : TypeDesc) (hu : P.underlying ty = some d) (hd : d.isRow = true) (hi : (P.info? ty).map (·.size) = some n) (hn : 0 < n) (seg : List Value) (hs : (cs.drop off).take n = seg) (hl : seg.length = n) (h : wpList P ops Q rest (a.put o.dst (.agg seg.toArray)) W) : wpList P ops Q (o :: rest) a W := by
 refine wpList_plain hgd fun K hK => ?_
 unfold Oper.wp
 rw [r_loadRdS ty x ho off hx hR n d hu hd hi hn seg hs hl]
 exact hK _ _ h
end
section
variable {w0 W : World} {F : Nat → Option Obj} {L : List Res} {c : Res → List Res}
theorem Own.addRow {W' : World} {v : Value} {e sz n : Nat} {xs : List Value} (H : Own w0 F L W) (hb : Below W.heap.size W W') (ho : W'.ownsRow W.heap.size e sz v n xs) : Own w0 F (.row v e sz n xs :: L) W' :=
 H.cons hb (own_weaken ho H.size) (fun k hk => own_base ho k hk)
theorem Own.blk_row {g e sz n cap : Nat} {cur xs : List Value} (H : Own w0 F L W) (hI : In L (.blk g e cur) c) (hn : n ≤ cap) (hm : cap ≤ 9223372036854775807) (hl : cur.length = cap * sz) (hx : cur.take (n * sz) = xs) :
  Own w0 F (c (.row (.slice (some ⟨g,0,none⟩) n cap) e sz n xs)) W := by
 have h := H.at_ hI
 refine H.repl hI (World.grownBy.refl W _) ⟨?_,.inr ⟨g,cap,cur.toArray,rfl,h.1,h.2,hn,by simpa [maxLen] using hm,by simpa using hl,by simpa using hx⟩⟩ (fun k hk => .inl ?_)
 ·rw [← hx,List.length_take,hl,Nat.min_eq_left (Nat.mul_le_mul_right _ hn)]
 ·simp [Res.block,Value.ownBlock] at hk ⊢
  exact hk
end
/-! ### slices of slices -/
def dropA (A : Option Addr) (lo m sz : Nat) : Option Addr := if m = lo then A else A.map (·.add (lo * sz))
theorem Rd.dropA {w : World} {A : Option Addr} {cs : List Value} (h : Rd w A cs) (lo m sz : Nat) (hm : m = lo → cs.length ≤ lo * sz) : Rd w (dropA A lo m sz) (cs.drop (lo * sz)) := by
 unfold O.dropA
 split
 ·rename_i he
  rw [List.drop_of_length_le (hm he)]
  exact Rd.nil _ _
 ·intro hp
  rw [List.length_drop] at hp
  obtain ⟨ad,rfl⟩ := h.some_ (by omega)
  exact (h.at_ (lo * sz)) (by rw [List.length_drop];exact hp)
section
variable {P : Program} {o : Oper} {a : Act} {A : Option Addr} {n c : Nat} {t e sz : Nat}
theorem x_slice (x : Operand) (lo hi mx : Option Operand) (ho : o.op = .slice t x lo hi mx) (hx : a.eval x = .slice A n c) (hu : P.underlying t = some (.slice e)) (hz : (P.info? e).map (·.size) = some sz)
  (l h m : Nat) (hb : ∀ W,(Instr.sliceBounds true n c (lo.map a.eval) (hi.map a.eval) (mx.map a.eval)).run P W = .ok (l,h,m) W) (W : World) :
  (execOp a.eval o).run P W = .ok (.value (.slice (dropA A l m sz) (h - l) (m - l))) W := by
 obtain ⟨i,hi',hs⟩ := Option.map_eq_some_iff.1 hz
 have hel : P.elem t = e := by simp [Program.elem,hu]
 have hu' : P.underlying t = some (.slice (P.elem t)) := by rw [hel];exact hu
 have h1 : (Instr.sliceAt t (.slice A n c) (lo.map a.eval) (hi.map a.eval) (mx.map a.eval)).run P W = .ok (.slice (dropA A l m sz) (h - l) (m - l)) W := by
  rw [run_sliceAt_slice W t _ _ _ _ hu',run_slice_any W t A n c hu',hb W]
  simp [Result.andThen,sizeOf,typeInfo,hel,hi',hs,sliced,dropA]
 unfold execOp
 simp [ho,hx,h1]
theorem x_slice_lo (x lo : Operand) (ho : o.op = .slice t x (some lo) none none) (hx : a.eval x = .slice A n c) (hu : P.underlying t = some (.slice e)) (hz : (P.info? e).map (·.size) = some sz) (l : Nat) (hlo : a.eval lo = .int .i64 (l : Int)) (h1 : l ≤ n) (W : World) :
  (execOp a.eval o).run P W = .ok (.value (.slice (dropA A l c sz) (n - l) (c - l))) W :=
 x_slice x _ _ _ ho hx hu hz l n c (fun W => by simp [Instr.sliceBounds,run_sliceBound,hlo,h1]) W
theorem x_slice_hi (x hi : Operand) (ho : o.op = .slice t x none (some hi) none) (hx : a.eval x = .slice A n c) (hu : P.underlying t = some (.slice e)) (hz : (P.info? e).map (·.size) = some sz) (h : Nat) (hhi : a.eval hi = .int .i64 (h : Int)) (h1 : h ≤ c) (W : World) :
  (execOp a.eval o).run P W = .ok (.value (.slice (dropA A 0 c sz) h c)) W := by
 have := x_slice (P := P) x _ _ _ ho hx hu hz 0 h c (fun W => by simp [Instr.sliceBounds,run_sliceBound,hhi,h1]) W
 simpa using this
theorem dropA_zero (A : Option Addr) (c sz : Nat) : dropA A 0 c sz = A := by
 unfold dropA
 split
 ·rfl
 ·cases A <;> simp [Addr.add]
theorem x_slice_to (x hi : Operand) (ho : o.op = .slice t x none (some hi) none) (hx : a.eval x = .slice A n c) (hu : P.underlying t = some (.slice e)) (hz : (P.info? e).map (·.size) = some sz) (h : Nat) (hhi : a.eval hi = .int .i64 (h : Int)) (h1 : h ≤ c) (W : World) :
  (execOp a.eval o).run P W = .ok (.value (.slice A h c)) W := by
 have := x_slice_hi x hi ho hx hu hz h hhi h1 W
 rwa [dropA_zero] at this
theorem x_slice_lohi (x lo hi : Operand) (ho : o.op = .slice t x (some lo) (some hi) none) (hx : a.eval x = .slice A n c) (hu : P.underlying t = some (.slice e)) (hz : (P.info? e).map (·.size) = some sz) (l h : Nat) (hlo : a.eval lo = .int .i64 (l : Int)) (hhi : a.eval hi = .int .i64 (h : Int)) (h1 : l ≤ h) (h2 : h ≤ c) (W : World) :
  (execOp a.eval o).run P W = .ok (.value (.slice (dropA A l c sz) (h - l) (c - l))) W :=
 x_slice x _ _ _ ho hx hu hz l h c (fun W => by simp [Instr.sliceBounds,run_sliceBound,hlo,hhi,h1,h2]) W
theorem x_slice_lohimax (x lo hi mx : Operand) (ho : o.op = .slice t x (some lo) (some hi) (some mx)) (hx : a.eval x = .slice A n c) (hu : P.underlying t = some (.slice e)) (hz : (P.info? e).map (·.size) = some sz) (l h m : Nat) (hlo : a.eval lo = .int .i64 (l : Int)) (hhi : a.eval hi = .int .i64 (h : Int)) (hmx : a.eval mx = .int .i64 (m : Int))
  (h1 : l ≤ h) (h2 : h ≤ m) (h3 : m ≤ c) (W : World) :
  (execOp a.eval o).run P W = .ok (.value (.slice (dropA A l m sz) (h - l) (m - l))) W :=
 x_slice x _ _ _ ho hx hu hz l h m (fun W => by simp [Instr.sliceBounds,run_sliceBound,hlo,hhi,hmx,h1,h2,h3]) W
end
section
variable {P : Program} {ops : Array Oper} {rest : List Oper} {o : Oper} {a : Act} {K : Act → World → Prop} {Q : Exit → Act → World → Prop} {W : World}
theorem w_run (v : Value) (hr : (execOp a.eval o).run P W = .ok (.value v) W) (h : K (a.put o.dst v) W) : o.wp P a W K Q := by
 unfold Oper.wp
 rw [hr]
 exact h
theorem l_run (hgd : o.guard = none) (v : Value) (hr : (execOp a.eval o).run P W = .ok (.value v) W) (h : wpList P ops Q rest (a.put o.dst v) W) : wpList P ops Q (o :: rest) a W :=
 wpList_plain hgd fun K hK => w_run v hr (hK _ _ h)
end
end Go.Proofs.YtaekpfhgdnfciaaDoor.O
end

section
namespace Go.Proofs.YtaekpfhgdnfciaaDoor.F
open Go.RowKit Go.Proofs.YtaekpfhgdnfciaaDoorW.PrintWords Go.Proofs.YtaekpfhgdnfciaaDoorW.PrintLast Go.Proofs.YtaekpfhgdnfciaaDoorW.PrintMore
attribute [local go_sem high] eqA83
attribute [local go_sem] field83_0
attribute [local go_sem] field83_1
attribute [local go_sem] max2_int min2_int max_two min_two max_three min_three max_four min_four
/-! ### strandlineref01_Put: function 76 -/
def strandlineref01_Put.l0 : Nat → Int → Int → List Int → Int → Option (List Int)
 |0,_,_,_,_ => none
 |k + 1,x0,x1,x5,x6 => if x6 < x1 then (if x6 < 8 then (if x5.length < 140737488355328 then (strandlineref01_Put.l0 k (IntKind.u64.wrap (Int.tdiv x0 256)) x1 (x5 ++ [(Int.tmod x0 256) % 256]) (wrap64 (x6 + 1))) else (none)) else (some x5)) else (some x5)
def strandlineref01_Put.f (k : Nat) (a0 : Int) (a1 : Int) : Option (List Int) := strandlineref01_Put.l0 k a0 a1 ([] : List Int) 0
theorem strandlineref01_Put.mono_l : ∀ k,(∀ y0 y1 y2 y3,LeO (strandlineref01_Put.l0 k y0 y1 y2 y3) (strandlineref01_Put.l0 (k + 1) y0 y1 y2 y3))
 |0 => fun _ _ _ _ r h => by simp [strandlineref01_Put.l0] at h
 |k + 1 => by
  have ih0 := strandlineref01_Put.mono_l k
  ·intro y0 y1 y2 y3
   unfold strandlineref01_Put.l0
   repeat' first
   |(with_reducible exact ih0 _ _ _ _)
   |(with_reducible exact LeO.refl _)
   |(with_reducible exact LeO.none _)
   |(with_reducible refine LeO.ite ?_ ?_)
   |(with_reducible refine LeO.bind ?_ (fun _ => ?_))
   |exact ih0 _ _ _ _
   |exact LeO.none _
   |refine LeO.ite ?_ ?_
   |refine LeO.bind ?_ (fun _ => ?_)
theorem strandlineref01_Put.mono : ∀ a0 a1 k,LeO (strandlineref01_Put.f k a0 a1) (strandlineref01_Put.f (k + 1) a0 a1) := by
 intro a0 a1 k
 have ih0 := strandlineref01_Put.mono_l k
 unfold strandlineref01_Put.f
 repeat' first
   |(with_reducible exact ih0 _ _ _ _)
   |(with_reducible exact LeO.refl _)
   |(with_reducible exact LeO.none _)
   |(with_reducible refine LeO.ite ?_ ?_)
   |(with_reducible refine LeO.bind ?_ (fun _ => ?_))
   |exact ih0 _ _ _ _
   |exact LeO.none _
   |refine LeO.ite ?_ ?_
   |refine LeO.bind ?_ (fun _ => ?_)
set_option maxHeartbeats 8000000 in
set_option maxRecDepth 100000 in
theorem strandlineref01_Put.calls (k : Nat) (a0 : Int) (a1 : Int) (r : List Int) (w : World) (h : strandlineref01_Put.f k a0 a1 = some r) :
  Calls Tryd.prog 76 #[.int .u64 a0,.int .i64 a1] w fun e w' => ∃ v0_ : Value,e = .returned (v0_) ∧ Kd.R (Kd.int .u8) 5 w' w.heap.size (fun _ => True) v0_ r ∧ Below w.heap.size w w' := by
 have hu73 := Tryd.underlying73
 have hu76 := Tryd.underlying76
 have hu83 := Tryd.underlying83
 have hu94 := Tryd.underlying94
 have hu106 := Tryd.underlying106
 have HB := Aside0.mk (Below.refl w.heap.size w)
 have H : (strandlineref01_Put.l0 k a0 a1 ([] : List Int) 0) = some r := h
 clear h
 have H' := Aside0.mk H
 clear H
 go_enter Tryd.func76,Tryd.ntmps76
 go_wp2
 go_loopg [0,5,6] k (fun kq v0 v5 v6 w' => ∃ (x0_1 : Int) (x5_1 : List Int) (x6_1 : Int),v0 = .int .u64 x0_1 ∧ v6 = .int .i64 x6_1 ∧ Aside0 (strandlineref01_Put.l0 kq x0_1 a1 x5_1 x6_1 = some r) ∧ Aside0 (kq ≤ k) ∧ Aside0 (Kd.R (Kd.int .u8) 5 w' w.heap.size (fun _ => True) v5 x5_1) ∧ Aside0 (Below w.heap.size w w'))
 case atStart => exact ⟨(a0),(([] : List Int)),(0),(by first|rfl|(simp;done)|(simp [*];done)),(by first|rfl|(simp;done)|(simp [*];done)),H',⟨Nat.le_refl _⟩,⟨by first|exact Kd.R_nil _ _ _ _ _|exact Kd.N_nil _ _ _ _ _|exact Kd.V_nil _ _ _ _ _|exact Kd.Q_nil _ _ _ _ _|exact Kd.S_nil _ _ _ _ _⟩,⟨by repeat (first|(with_reducible first|exact HB.out|apply below_alloc|apply pw_below_drewN|apply below_drew1)|exact HB.out)⟩⟩
 case round =>
  clear H'
  try clear p2
  obtain ⟨x0_1,x5_1,x6_1,rfl,rfl,HA,HK1,HO_5,HB⟩ := hrel
  cases gk with
  |zero => exact absurd HA.out (by simp [strandlineref01_Put.l0])
  |succ k1 =>
   have H := HA.out
   clear HA
   simp only [strandlineref01_Put.l0] at H
   by_cases c3 : x6_1 < a1
   ·rw [if_pos c3] at H
    have c3b0 : decide (x6_1 < a1) = true := decide_eq_true c3
    clear c3
    by_cases c4 : x6_1 < 8
    ·rw [if_pos c4] at H
     have c4b0 : decide (x6_1 < 8) = true := decide_eq_true c4
     clear c4
     by_cases c5 : x5_1.length < 140737488355328
     ·rw [if_pos c5] at H
      have LMc5 := Aside0.mk c5
      clear c5
      obtain ⟨y122,hy122⟩ : ∃ y_ : List Int,y_ = (x5_1 ++ [(Int.tmod x0_1 256) % 256]) := ⟨_,rfl⟩
      replace H : (strandlineref01_Put.l0 k1 (IntKind.u64.wrap (Int.tdiv x0_1 256)) a1 y122 (wrap64 (x6_1 + 1))) = some r := by first|(rw [hy122];with_reducible exact H)|(have H2_ := (Option.bind_some _ _).symm.trans H;rw [hy122];with_reducible exact H2_)|(have H2_ := (Option.bind_some _ _).symm.trans H;with_reducible exact H2_)|with_reducible exact H|(rw [hy122];exact H)|exact H
      have Ny122 := Aside0.mk hy122
      clear hy122
      have H' := Aside0.mk H
      clear H
      go_wp2_with (first|((with_reducible refine gate_builtin (b := .append) (xs := #[.tmp 16,.tmp 20]) rfl ?_);at_builtin;refine Kd.R_append (Kd.int .u8) (w0 := w) w.heap.size rfl (.tmp 16) (.tmp 20) 38 5 (.int .u8 0) 1 rfl Tryd.underlying38 info5 rfl (by decide) (by omega) u5 x5_1 ((Int.tmod x0_1 256) % 256) [.int .u8 ((Int.tmod x0_1 256) % 256)] (fun _ => True) (fun _ => False) rfl rfl ?aP (fun _ hk => hk.elim) ?aF ?aO ?aB ?aS ?aL ?_;(case aP => exact rfl);(case aB => exact (by repeat (first|(with_reducible first|exact HB.out|apply below_alloc|apply pw_below_drewN|apply below_drew1)|exact HB.out)));(case aF => exact (fun _ _ => trivial));(case aO => exact (by (with_reducible repeat (first|apply Kd.R_alloc|apply Kd.R_drewN|apply Kd.R_drew));exact HO_5.out));(case aS => exact (below_size (by repeat (first|(with_reducible first|exact HB.out|apply below_alloc|apply pw_below_drewN|apply below_drew1)|exact HB.out))));(case aL => have := LMc5.out;omega);intro v123 w6 ho hb hg hat;rw [← Ny122.out] at ho;have n0_ := Aside0.mk (hb);have n1_ := Aside0.mk (ho);clear HB;clear HO_5;have HB := n0_;have HO124 := n1_;clear n0_ n1_;clear ho hb hg hat))
      go_roundg k1
      case measure => have := HK1.out;omega
      case rel => exact ⟨(IntKind.u64.wrap (Int.tdiv x0_1 256)),(y122),(wrap64 (x6_1 + 1)),(by first|rfl|(simp;done)|(simp [*];done)),(by first|rfl|(simp;done)|(simp [*];done)),H',⟨by have := HK1.out;omega⟩,⟨by (with_reducible repeat (first|apply Kd.R_alloc|apply Kd.R_drewN|apply Kd.R_drew));exact HO124.out⟩,⟨by repeat (first|(with_reducible first|exact HB.out|apply below_alloc|apply pw_below_drewN|apply below_drew1)|exact HB.out)⟩⟩
     ·rw [if_neg c5] at H
      exact absurd H (by simp)
    ·rw [if_neg c4] at H
     have c4b0 : decide (x6_1 < 8) = false := decide_eq_false c4
     clear c4
     obtain rfl := Option.some.inj H
     go_wp2
     go_ret
     exact ⟨_,by first|rfl|(simp [errW_none,errW_some] <;> rfl)|(simp [*,errW_none,errW_some] <;> rfl),by (with_reducible repeat (first|apply Kd.R_alloc|apply Kd.R_drewN|apply Kd.R_drew));exact HO_5.out,by repeat (first|(with_reducible first|exact HB.out|apply below_alloc|apply pw_below_drewN|apply below_drew1)|exact HB.out)⟩
   ·rw [if_neg c3] at H
    have c3b0 : decide (x6_1 < a1) = false := decide_eq_false c3
    clear c3
    obtain rfl := Option.some.inj H
    go_wp2
    go_ret
    exact ⟨_,by first|rfl|(simp [errW_none,errW_some] <;> rfl)|(simp [*,errW_none,errW_some] <;> rfl),by (with_reducible repeat (first|apply Kd.R_alloc|apply Kd.R_drewN|apply Kd.R_drew));exact HO_5.out,by repeat (first|(with_reducible first|exact HB.out|apply below_alloc|apply pw_below_drewN|apply below_drew1)|exact HB.out)⟩
/-! ### strandlineref01_Two: function 79 -/
def strandlineref01_Two.l0 : Nat → Int → Int → Int → Option (Int)
 |0,_,_,_ => none
 |k + 1,x0,x3,x4 => if x4 < x0 then (strandlineref01_Two.l0 k x0 (IntKind.u64.wrap (x3 * 2)) (wrap64 (x4 + 1))) else (some x3)
def strandlineref01_Two.f (k : Nat) (a0 : Int) : Option (Int) := strandlineref01_Two.l0 k a0 1 0
set_option maxHeartbeats 8000000 in
set_option maxRecDepth 100000 in
theorem strandlineref01_Two.calls (k : Nat) (a0 : Int) (r : Int) (w : World) (h : strandlineref01_Two.f k a0 = some r) :
  Calls Tryd.prog 79 #[.int .i64 a0] w fun e w' => e = .returned (.int .u64 r) ∧ Drawn0 w w' := by
 have hu73 := Tryd.underlying73
 have hu76 := Tryd.underlying76
 have hu83 := Tryd.underlying83
 have hu94 := Tryd.underlying94
 have hu106 := Tryd.underlying106
 have H : (strandlineref01_Two.l0 k a0 1 0) = some r := h
 clear h
 have H' := Aside0.mk H
 clear H
 go_enter Tryd.func79,Tryd.ntmps79
 go_wp2
 go_loopg [3,4] k (fun kq v3 v4 w' => ∃ (x3_1 : Int) (x4_1 : Int),v3 = .int .u64 x3_1 ∧ v4 = .int .i64 x4_1 ∧ Aside0 (strandlineref01_Two.l0 kq a0 x3_1 x4_1 = some r) ∧ Aside0 (kq ≤ k) ∧ Drawn0 w w')
 case atStart => exact ⟨(1),(0),(by first|rfl|(simp;done)|(simp [*];done)),(by first|rfl|(simp;done)|(simp [*];done)),H',⟨Nat.le_refl _⟩,by repeat (first|exact Drawn0.refl _|apply Drawn0.step)⟩
 case round =>
  clear H'
  obtain ⟨x3_1,x4_1,rfl,rfl,HA,HK1,⟨m1,rfl⟩⟩ := hrel
  cases gk with
  |zero => exact absurd HA.out (by simp [strandlineref01_Two.l0])
  |succ k1 =>
   have H := HA.out
   clear HA
   simp only [strandlineref01_Two.l0] at H
   by_cases c2 : x4_1 < a0
   ·rw [if_pos c2] at H
    have c2b0 : decide (x4_1 < a0) = true := decide_eq_true c2
    clear c2
    have H' := Aside0.mk H
    clear H
    go_wp2
    go_roundg k1
    case measure => have := HK1.out;omega
    case rel => exact ⟨(IntKind.u64.wrap (x3_1 * 2)),(wrap64 (x4_1 + 1)),(by first|rfl|(simp;done)|(simp [*];done)),(by first|rfl|(simp;done)|(simp [*];done)),H',⟨by have := HK1.out;omega⟩,by repeat (first|exact Drawn0.refl _|apply Drawn0.step)⟩
   ·rw [if_neg c2] at H
    have c2b0 : decide (x4_1 < a0) = false := decide_eq_false c2
    clear c2
    obtain rfl := Option.some.inj H
    go_wp2
    go_ret
    exact ⟨by first|rfl|(simp;done)|(simp [*];done),by repeat (first|exact Drawn0.refl _|apply Drawn0.step)⟩
/-! ### strandlineref01_Get: function 75 -/
def strandlineref01_Get.l0 : Nat → List Int → Int → Int → Option (Int)
 |0,_,_,_ => none
 |k + 1,x0,x3,x4 => if x4 < (x0.length : Int) then (if x4 < 8 then (if 0 ≤ x4 then ((strandlineref01_Two.f k (wrap64 (8 * x4))).bind fun t209 => (strandlineref01_Get.l0 k x0 (IntKind.u64.wrap (x3 + (IntKind.u64.wrap ((IntKind.u64.wrap (rd x0 x4)) * t209)))) (wrap64 (x4 + 1)))) else (none)) else (some x3)) else (some x3)
def strandlineref01_Get.f (k : Nat) (l0 : List Int) : Option (Int) := strandlineref01_Get.l0 k l0 0 0
set_option maxHeartbeats 8000000 in
set_option maxRecDepth 100000 in
theorem strandlineref01_Get.calls (k : Nat) (A0 : Option Addr) (c0 : Nat) (l0 : List Int) (r : Int) (w : World) (hr0 : Kd.C (Kd.int .u8) w A0 l0.length l0) (hc0 : l0.length ≤ c0) (h : strandlineref01_Get.f k l0 = some r) :
  Calls Tryd.prog 75 #[.slice A0 l0.length c0] w fun e w' => e = .returned (.int .u64 r) ∧ Drawn0 w w' := by
 have hu73 := Tryd.underlying73
 have hu76 := Tryd.underlying76
 have hu83 := Tryd.underlying83
 have hu94 := Tryd.underlying94
 have hu106 := Tryd.underlying106
 have HR0 := Aside0.mk hr0
 have HC0 := Aside0.mk hc0
 clear hr0 hc0
 have H : (strandlineref01_Get.l0 k l0 0 0) = some r := h
 clear h
 have H' := Aside0.mk H
 clear H
 go_enter Tryd.func75,Tryd.ntmps75
 go_wp2
 repeat (go_quiet (fail);try go_wp2)
 go_loopg [3,4] k (fun kq v3 v4 w' => ∃ (x3_1 : Int) (x4_1 : Int),v3 = .int .u64 x3_1 ∧ v4 = .int .i64 x4_1 ∧ Aside0 (strandlineref01_Get.l0 kq l0 x3_1 x4_1 = some r) ∧ Aside0 (kq ≤ k) ∧ Drawn0 w w')
 case atStart => exact ⟨(0),(0),(by first|rfl|(simp;done)|(simp [*];done)),(by first|rfl|(simp;done)|(simp [*];done)),H',⟨Nat.le_refl _⟩,by repeat (first|exact Drawn0.refl _|apply Drawn0.step)⟩
 case round =>
  clear H'
  obtain ⟨x3_1,x4_1,rfl,rfl,HA,HK1,⟨m1,rfl⟩⟩ := hrel
  cases gk with
  |zero => exact absurd HA.out (by simp [strandlineref01_Get.l0])
  |succ k1 =>
   have H := HA.out
   clear HA
   simp only [strandlineref01_Get.l0] at H
   by_cases c2 : x4_1 < (l0.length : Int)
   ·rw [if_pos c2] at H
    have c2b0 : decide (x4_1 < (l0.length : Int)) = true := decide_eq_true c2
    clear c2
    by_cases c3 : x4_1 < 8
    ·rw [if_pos c3] at H
     have c3b0 : decide (x4_1 < 8) = true := decide_eq_true c3
     clear c3
     by_cases c4 : 0 ≤ x4_1
     ·rw [if_pos c4] at H
      have c4b0 : decide (0 ≤ x4_1) = true := decide_eq_true c4
      clear c4
      replace H := Option.bind_eq_some_iff.mp H
      obtain ⟨t209,A50,H⟩ := H
      replace H : (strandlineref01_Get.l0 k1 l0 (IntKind.u64.wrap (x3_1 + (IntKind.u64.wrap ((IntKind.u64.wrap (rd l0 x4_1)) * t209)))) (wrap64 (x4_1 + 1))) = some r := H
      have A5 := Aside0.mk A50
      clear A50
      have H' := Aside0.mk H
      clear H
      have p208 : 0 ≤ (x4_1 : Int) := of_decide_eq_true (by first|(with_reducible assumption)|assumption)
      have q208 : x4_1 < (l0.length : Int) := of_decide_eq_true (by first|(with_reducible assumption)|assumption)
      obtain ⟨ad208,e208,hx208_0⟩ := Kd.at_int HR0.out x4_1 p208 q208
      cases e208
      replace p208 := eq_true p208
      replace q208 := eq_true q208
      go_wp2_with (first|(go_at_call 79;(with_reducible refine (strandlineref01_Two.calls k1 (wrap64 (8 * x4_1)) t209 _ A5.out).mono ?_);rintro e w' ⟨rfl,⟨nd,rfl⟩⟩;(try first|exact ⟨rfl,_,World.drewN_drewN _ _ _⟩|exact ⟨rfl,_,Eq.trans (World.drewN_drewN _ _ _) (congrArg (World.drewN _) (Nat.add_assoc _ _ _))⟩)))
      repeat (go_quiet (first|(go_at_call 79;(with_reducible refine (strandlineref01_Two.calls k1 (wrap64 (8 * x4_1)) t209 _ A5.out).mono ?_);rintro e w' ⟨rfl,⟨nd,rfl⟩⟩;(try first|exact ⟨rfl,_,World.drewN_drewN _ _ _⟩|exact ⟨rfl,_,Eq.trans (World.drewN_drewN _ _ _) (congrArg (World.drewN _) (Nat.add_assoc _ _ _))⟩)));try go_wp2_with (first|(go_at_call 79;(with_reducible refine (strandlineref01_Two.calls k1 (wrap64 (8 * x4_1)) t209 _ A5.out).mono ?_);rintro e w' ⟨rfl,⟨nd,rfl⟩⟩;(try first|exact ⟨rfl,_,World.drewN_drewN _ _ _⟩|exact ⟨rfl,_,Eq.trans (World.drewN_drewN _ _ _) (congrArg (World.drewN _) (Nat.add_assoc _ _ _))⟩))))
      go_roundg k1
      case measure => have := HK1.out;omega
      case rel => exact ⟨(IntKind.u64.wrap (x3_1 + (IntKind.u64.wrap ((IntKind.u64.wrap (rd l0 x4_1)) * t209)))),(wrap64 (x4_1 + 1)),(by first|rfl|(simp;done)|(simp [*];done)),(by first|rfl|(simp;done)|(simp [*];done)),H',⟨by have := HK1.out;omega⟩,by repeat (first|exact Drawn0.refl _|apply Drawn0.step)⟩
     ·rw [if_neg c4] at H
      exact absurd H (by simp)
    ·rw [if_neg c3] at H
     have c3b0 : decide (x4_1 < 8) = false := decide_eq_false c3
     clear c3
     obtain rfl := Option.some.inj H
     go_wp2
     repeat (go_quiet (fail);try go_wp2)
     go_ret
     exact ⟨by first|rfl|(simp;done)|(simp [*];done),by repeat (first|exact Drawn0.refl _|apply Drawn0.step)⟩
   ·rw [if_neg c2] at H
    have c2b0 : decide (x4_1 < (l0.length : Int)) = false := decide_eq_false c2
    clear c2
    obtain rfl := Option.some.inj H
    go_wp2
    repeat (go_quiet (fail);try go_wp2)
    go_ret
    exact ⟨by first|rfl|(simp;done)|(simp [*];done),by repeat (first|exact Drawn0.refl _|apply Drawn0.step)⟩
/-! ### strandlineref01_Bit: function 63 -/
def strandlineref01_Bit.f (k : Nat) (l0 : List Int) (a1 : Int) : Option (Bool) := if a1 ≥ 0 then (if (wrap64 (Int.tdiv a1 8)) < (l0.length : Int) then (if 0 ≤ (wrap64 (Int.tdiv a1 8)) then ((strandlineref01_Two.f k (Int.tmod a1 8)).bind fun t209 => (if t209 = 0 then (none) else (some ((Int.tmod (IntKind.u64.wrap (Int.tdiv (IntKind.u64.wrap (rd l0 (wrap64 (Int.tdiv a1 8)))) t209)) 2) == 1)))) else (none)) else (some false)) else (some false)
set_option maxHeartbeats 8000000 in
set_option maxRecDepth 100000 in
theorem strandlineref01_Bit.calls (k : Nat) (A0 : Option Addr) (c0 : Nat) (l0 : List Int) (a1 : Int) (r : Bool) (w : World) (hr0 : Kd.C (Kd.int .u8) w A0 l0.length l0) (hc0 : l0.length ≤ c0) (h : strandlineref01_Bit.f k l0 a1 = some r) :
  Calls Tryd.prog 63 #[.slice A0 l0.length c0,.int .i64 a1] w fun e w' => e = .returned (.bool r) ∧ Drawn0 w w' := by
 have hu73 := Tryd.underlying73
 have hu76 := Tryd.underlying76
 have hu83 := Tryd.underlying83
 have hu94 := Tryd.underlying94
 have hu106 := Tryd.underlying106
 have HR0 := Aside0.mk hr0
 have HC0 := Aside0.mk hc0
 clear hr0 hc0
 have H : (if a1 ≥ 0 then (if (wrap64 (Int.tdiv a1 8)) < (l0.length : Int) then (if 0 ≤ (wrap64 (Int.tdiv a1 8)) then ((strandlineref01_Two.f k (Int.tmod a1 8)).bind fun t209 => (if t209 = 0 then (none) else (some ((Int.tmod (IntKind.u64.wrap (Int.tdiv (IntKind.u64.wrap (rd l0 (wrap64 (Int.tdiv a1 8)))) t209)) 2) == 1)))) else (none)) else (some false)) else (some false)) = some r := h
 clear h
 by_cases c3 : a1 ≥ 0
 ·rw [if_pos c3] at H
  have c3b0 : decide (0 ≤ a1) = true := decide_eq_true c3
  clear c3
  by_cases c4 : (wrap64 (Int.tdiv a1 8)) < (l0.length : Int)
  ·rw [if_pos c4] at H
   have c4b0 : decide ((wrap64 (Int.tdiv a1 8)) < (l0.length : Int)) = true := decide_eq_true c4
   clear c4
   obtain ⟨ji5,hji5⟩ : ∃ j_ : Int,(wrap64 (Int.tdiv a1 8)) = j_ := ⟨_,rfl⟩
   replace H : (if 0 ≤ (ji5) then ((strandlineref01_Two.f k (Int.tmod a1 8)).bind fun t209 => (if t209 = 0 then (none) else (some ((Int.tmod (IntKind.u64.wrap (Int.tdiv (IntKind.u64.wrap (rd l0 (ji5))) t209)) 2) == 1)))) else (none)) = some r := by first|(rw [hji5] at H;exact H)|(simp only [hji5] at H ⊢;exact H)
   (try rw [hji5] at c4b0)
   have hji5w : (IntKind.i64.wrap (Int.tdiv a1 8)) = ji5 := (i64_w _).trans hji5
   by_cases c6 : 0 ≤ (ji5)
   ·rw [if_pos c6] at H
    have c6b0 : decide (0 ≤ (ji5)) = true := decide_eq_true c6
    clear c6
    replace H := Option.bind_eq_some_iff.mp H
    obtain ⟨t209,A70,H⟩ := H
    replace H : (if t209 = 0 then (none) else (some ((Int.tmod (IntKind.u64.wrap (Int.tdiv (IntKind.u64.wrap (rd l0 (ji5))) t209)) 2) == 1))) = some r := H
    have A7 := Aside0.mk A70
    clear A70
    by_cases c8 : t209 = 0
    ·rw [if_pos c8] at H
     exact absurd H (by simp)
    ·rw [if_neg c8] at H
     have c8b0 : (t209 == 0) = false := beq_eq_false_iff_ne.mpr c8
     have c8b1 : (t209 != 0) = true := bne_iff_ne.mpr c8
     obtain rfl := Option.some.inj H
     have p208 : 0 ≤ ((ji5) : Int) := of_decide_eq_true (by first|(with_reducible assumption)|assumption)
     have q208 : (ji5) < (l0.length : Int) := of_decide_eq_true (by first|(with_reducible assumption)|assumption)
     obtain ⟨ad208,e208,hx208_0⟩ := Kd.at_int HR0.out (ji5) p208 q208
     cases e208
     replace p208 := eq_true p208
     replace q208 := eq_true q208
     go_enter Tryd.func63,Tryd.ntmps63
     go_wp2_with (first|(go_at_call 79;(with_reducible refine (strandlineref01_Two.calls k (Int.tmod a1 8) t209 _ A7.out).mono ?_);rintro e w' ⟨rfl,⟨nd,rfl⟩⟩;(try first|exact ⟨rfl,_,World.drewN_drewN _ _ _⟩|exact ⟨rfl,_,Eq.trans (World.drewN_drewN _ _ _) (congrArg (World.drewN _) (Nat.add_assoc _ _ _))⟩)))
     repeat (go_quiet (first|(go_at_call 79;(with_reducible refine (strandlineref01_Two.calls k (Int.tmod a1 8) t209 _ A7.out).mono ?_);rintro e w' ⟨rfl,⟨nd,rfl⟩⟩;(try first|exact ⟨rfl,_,World.drewN_drewN _ _ _⟩|exact ⟨rfl,_,Eq.trans (World.drewN_drewN _ _ _) (congrArg (World.drewN _) (Nat.add_assoc _ _ _))⟩)));try go_wp2_with (first|(go_at_call 79;(with_reducible refine (strandlineref01_Two.calls k (Int.tmod a1 8) t209 _ A7.out).mono ?_);rintro e w' ⟨rfl,⟨nd,rfl⟩⟩;(try first|exact ⟨rfl,_,World.drewN_drewN _ _ _⟩|exact ⟨rfl,_,Eq.trans (World.drewN_drewN _ _ _) (congrArg (World.drewN _) (Nat.add_assoc _ _ _))⟩))))
     go_ret
     exact ⟨by first|rfl|(simp;done)|(simp only [← hji5] <;> (first|rfl|simp))|(simp [*];done),by repeat (first|exact Drawn0.refl _|apply Drawn0.step)⟩
   ·rw [if_neg c6] at H
    exact absurd H (by simp)
  ·rw [if_neg c4] at H
   have c4b0 : decide ((wrap64 (Int.tdiv a1 8)) < (l0.length : Int)) = false := decide_eq_false c4
   clear c4
   obtain rfl := Option.some.inj H
   go_enter Tryd.func63,Tryd.ntmps63
   go_wp2
   repeat (go_quiet (fail);try go_wp2)
   go_ret
   exact ⟨by first|rfl|(simp;done)|(simp [*];done),by repeat (first|exact Drawn0.refl _|apply Drawn0.step)⟩
 ·rw [if_neg c3] at H
  have c3b0 : decide (0 ≤ a1) = false := decide_eq_false c3
  clear c3
  obtain rfl := Option.some.inj H
  go_enter Tryd.func63,Tryd.ntmps63
  go_wp2
  repeat (go_quiet (fail);try go_wp2)
  go_ret
  exact ⟨by first|rfl|(simp;done)|(simp [*];done),by repeat (first|exact Drawn0.refl _|apply Drawn0.step)⟩
end Go.Proofs.YtaekpfhgdnfciaaDoor.F
end

section
namespace Go.Proofs.YtaekpfhgdnfciaaDoor.F
namespace Nums
open Go.RowKit Go.Proofs.YtaekpfhgdnfciaaDoorW.PrintWords Go.Proofs.YtaekpfhgdnfciaaDoorW.PrintLast Go.Proofs.YtaekpfhgdnfciaaDoorW.PrintMore Go.Proofs.YtaekpfhgdnfciaaDoor.Plain
theorem wnear_eq (n lo hi : Int) (h : lo ≤ hi) : word_near.f n lo hi = some (if n < lo then lo else if hi < n then hi else n) := by
 unfold word_near.f mx mn
 congr 1
 by_cases h1 : n < lo <;> by_cases h2 : hi < n <;> simp [h1,h2] <;> omega
def putl (n : Nat) : Nat → List Int
 |0 => []
 |i + 1 => putl n i ++ [((n / 256 ^ i % 256 : Nat) : Int)]
theorem putl_len (n i : Nat) : (putl n i).length = i := by
 induction i with
 |zero => rfl
 |succ i ih => simp [putl,ih]
theorem put_l (n : Nat) (hn : n < 18446744073709551616) (hi : Nat) (hhi : hi ≤ 8) (d : Nat) : ∀ (k i : Nat),i ≤ hi → hi - i = d → d < k →
  word_Put.l0 k n (putl n i) hi i = some (putl n hi) := by
 induction d with
 |zero =>
  intro k i h1 hd hk
  obtain ⟨k,rfl⟩ : ∃ m,k = m + 1 := ⟨k - 1,by omega⟩
  simp only [word_Put.l0]
  obtain rfl : i = hi := by omega
  rw [if_neg (by omega)]
 |succ d ih =>
  intro k i h1 hd hk
  obtain ⟨k,rfl⟩ : ∃ m,k = m + 1 := ⟨k - 1,by omega⟩
  simp only [word_Put.l0]
  have hr := ih k (i + 1) (by omega) (by omega) (by omega)
  rw [if_pos (by omega),w64 (n := 8 * (i : Int)) (by omega) (by omega),if_pos (by omega),putl_len,if_pos (by omega),w64 (n := (i : Int) + 1) (by omega) (by omega)]
  have e : (shr .u64 n (8 * (i : Int))) % 256 = ((n / 256 ^ i % 256 : Nat) : Int) := by
   unfold shr
   have e2 : ((n : Int) / 2 ^ (8 * i)) = ((n / 2 ^ (8 * i) : Nat) : Int) := by simp
   rw [show (8 * (i : Int)).toNat = 8 * i by omega,show min (8 * i) IntKind.u64.bits = 8 * i from Nat.min_eq_left (by simp [IntKind.bits];omega),e2,show (256 : Nat) ^ i = 2 ^ (8 * i) by rw [Nat.pow_mul],Int.natCast_emod]
   rfl
  rw [e]
  exact hr
def cl8 (a : Int) : Int := if a < 0 then 0 else if 8 < a then 8 else a
theorem put_eq (k : Nat) (hk : 8 < k) (n : Nat) (hn : n < 18446744073709551616) (w : Int) : word_Put.f k n w = some (putl n (cl8 w).toNat) := by
 unfold word_Put.f
 rw [wnear_eq _ _ _ (by decide)]
 simp only [Option.bind_some]
 have h : 0 ≤ cl8 w ∧ cl8 w ≤ 8 := by unfold cl8;split <;> (try split) <;> omega
 rw [show (if w < 0 then 0 else if 8 < w then 8 else w) = (((cl8 w).toNat : Nat) : Int) by unfold cl8 at h ⊢;omega]
 exact put_l n hn (cl8 w).toNat (by omega) (cl8 w).toNat k 0 (by omega) rfl (by omega)
def getn (l : List Int) : Nat → Nat
 |0 => 0
 |i + 1 => getn l i + (rd l i).toNat * 256 ^ i
theorem getn_lt {l : List Int} (hl : ∀ x ∈ l,(Lit.int .u8 x).wf = true) (i : Nat) : getn l i < 256 ^ i := by
 induction i with
 |zero => exact Nat.one_pos
 |succ i ih =>
  unfold getn
  obtain ⟨r0,r1⟩ := rd_u8 hl i
  have h1 : (rd l i).toNat * 256 ^ i ≤ 255 * 256 ^ i := Nat.mul_le_mul_right _ (by omega)
  rw [Nat.pow_succ]
  omega
theorem p256 (i : Nat) : (256 : Nat) ^ i = 2 ^ (8 * i) := by rw [Nat.pow_mul]
theorem get_l {l : List Int} (hl : ∀ x ∈ l,(Lit.int .u8 x).wf = true) (m : Nat) (hm : m ≤ 8) (hm2 : m ≤ l.length) (d : Nat) : ∀ (k i : Nat),i ≤ m → m - i = d → d < k →
  word_Get.l0 k l (getn l i) m i = some ((getn l m : Nat) : Int) := by
 induction d with
 |zero =>
  intro k i h1 hd hk
  obtain ⟨k,rfl⟩ : ∃ m,k = m + 1 := ⟨k - 1,by omega⟩
  simp only [word_Get.l0]
  obtain rfl : i = m := by omega
  rw [if_neg (by omega)]
 |succ d ih =>
  intro k i h1 hd hk
  obtain ⟨k,rfl⟩ : ∃ m,k = m + 1 := ⟨k - 1,by omega⟩
  simp only [word_Get.l0]
  have hr := ih k (i + 1) (by omega) (by omega) (by omega)
  obtain ⟨r0,r1⟩ := rd_u8 hl i
  rw [if_pos (by omega),if_pos (by omega),if_pos (by omega),w64 (n := 8 * (i : Int)) (by omega) (by omega),if_pos (by omega),wu64 (n := rd l i) (by omega) (by omega),w64 (n := (i : Int) + 1) (by omega) (by omega)]
  have h2 := getn_lt hl i
  have h3 := getn_lt hl (i + 1)
  have h4 : (256 : Nat) ^ (i + 1) ≤ 18446744073709551616 := by
   have := Nat.pow_le_pow_right (show 0 < 256 by decide) (show i + 1 ≤ 8 by omega)
   simpa using this
  have e0 : getn l (i + 1) = getn l i + (rd l i).toNat * 256 ^ i := rfl
  obtain ⟨b,hb⟩ : ∃ b : Nat,rd l i = (b : Int) := ⟨(rd l i).toNat,by omega⟩
  rw [hb,Int.toNat_natCast] at e0
  have e : shl .u64 (rd l i) (8 * (i : Int)) = ((b * 256 ^ i : Nat) : Int) := by
   unfold shl
   rw [hb,show (8 * (i : Int)).toNat = 8 * i by omega,show min (8 * i) IntKind.u64.bits = 8 * i from Nat.min_eq_left (by simp [IntKind.bits];omega),← pow_cast,← Int.natCast_mul,← p256]
   exact wu64 (by omega) (by omega)
  rw [e,u64_or_nat _ _ (by omega) (by omega),Nat.or_comm,nat_join (8 * i) _ _ (by rw [p256];exact Nat.mul_mod_left _ _) (by rw [← p256];exact h2),Nat.add_comm,← e0]
  exact hr
theorem get_eq {l : List Int} (hl : ∀ x ∈ l,(Lit.int .u8 x).wf = true) (k : Nat) (hk : 8 < k) : word_Get.f k l = some ((getn l (min l.length 8) : Nat) : Int) := by
 unfold word_Get.f
 have e : mn (l.length : Int) 8 = ((min l.length 8 : Nat) : Int) := by
  unfold mn
  split <;> omega
 rw [e]
 exact get_l hl (min l.length 8) (by omega) (by omega) (min l.length 8) k 0 (by omega) rfl (by omega)
theorem two_l (a : Int) (ha : a ≤ 9223372036854775807) (d : Nat) : ∀ (k i : Nat),(i : Int) ≤ a → (a - i : Int) = d → d < k →
  strandlineref01_Two.l0 k a (((2 ^ i % 18446744073709551616 : Nat)) : Int) i = some (((2 ^ a.toNat % 18446744073709551616 : Nat)) : Int) := by
 induction d with
 |zero =>
  intro k i h1 hd hk
  obtain ⟨k,rfl⟩ : ∃ m,k = m + 1 := ⟨k - 1,by omega⟩
  simp only [strandlineref01_Two.l0]
  rw [if_neg (by omega),show a.toNat = i by omega]
 |succ d ih =>
  intro k i h1 hd hk
  obtain ⟨k,rfl⟩ : ∃ m,k = m + 1 := ⟨k - 1,by omega⟩
  simp only [strandlineref01_Two.l0]
  rw [if_pos (by omega),w64 (n := (i : Int) + 1) (by omega) (by omega),IntKind.wrap_u64]
  have hr := ih k (i + 1) (by omega) (by omega) (by omega)
  rw [show (((2 ^ i % 18446744073709551616 : Nat) : Int) * 2 % 18446744073709551616) = ((2 ^ (i + 1) % 18446744073709551616 : Nat) : Int) by rw [Nat.pow_succ];omega]
  exact hr
theorem two_eq (k : Nat) (a : Int) (h0 : 0 ≤ a) (h1 : a ≤ 63) (hk : 63 < k) : strandlineref01_Two.f k a = some ((2 : Int) ^ a.toNat) := by
 unfold strandlineref01_Two.f
 have := two_l a (by omega) a.toNat k 0 (by omega) (by omega) (by omega)
 rw [Nat.mod_eq_of_lt (show (2 : Nat) ^ a.toNat < 18446744073709551616 from Nat.pow_lt_pow_right (by decide) (by omega : a.toNat < 64)),pow_cast] at this
 exact this
theorem rput_l (n : Nat) (hn : n < 18446744073709551616) (w : Int) (hw : w ≤ 9223372036854775807) (d : Nat) : ∀ (k i : Nat),i ≤ (cl8 w).toNat → (cl8 w).toNat - i = d → d < k →
  strandlineref01_Put.l0 k ((n / 256 ^ i : Nat) : Int) w (putl n i) i = some (putl n (cl8 w).toNat) := by
 have h : 0 ≤ cl8 w ∧ cl8 w ≤ 8 := by unfold cl8;split <;> (try split) <;> omega
 induction d with
 |zero =>
  intro k i h1 hd hk
  obtain ⟨k,rfl⟩ : ∃ m,k = m + 1 := ⟨k - 1,by omega⟩
  simp only [strandlineref01_Put.l0]
  have hi : i = (cl8 w).toNat := by omega
  rw [← hi]
  by_cases h2 : (i : Int) < w
  ·rw [if_pos h2,if_neg (by unfold cl8 at hi;split at hi <;> (try split at hi) <;> omega)]
  ·rw [if_neg h2]
 |succ d ih =>
  intro k i h1 hd hk
  obtain ⟨k,rfl⟩ : ∃ m,k = m + 1 := ⟨k - 1,by omega⟩
  simp only [strandlineref01_Put.l0]
  have hr := ih k (i + 1) (by omega) (by omega) (by omega)
  have hw2 : (i : Int) < w ∧ (i : Int) < 8 := by
   have : (i : Int) < cl8 w := by omega
   unfold cl8 at this
   split at this
   ·omega
   ·split at this <;> omega
  have hle : n / 256 ^ i ≤ n := Nat.div_le_self _ _
  have hnext : n / 256 ^ (i + 1) = n / 256 ^ i / 256 := by rw [Nat.pow_succ,Nat.div_div_eq_div_mul]
  rw [if_pos hw2.1,if_pos hw2.2,putl_len,if_pos (by omega),w64 (n := (i : Int) + 1) (by omega) (by omega)]
  rw [hnext] at hr
  rw [show putl n (i + 1) = putl n i ++ [((n / 256 ^ i % 256 : Nat) : Int)] from rfl] at hr
  generalize n / 256 ^ i = q at *
  rw [td (a := (q : Int)) (by omega),tm (a := (q : Int)) (by omega),wu64 (n := (q : Int) / 256) (by omega) (by omega),show (q : Int) % 256 % 256 = ((q % 256 : Nat) : Int) by omega,show (q : Int) / 256 = ((q / 256 : Nat) : Int) by omega]
  exact hr
theorem rput_eq (k : Nat) (hk : 8 < k) (n : Nat) (hn : n < 18446744073709551616) (w : Int) (hw : w ≤ 9223372036854775807) : strandlineref01_Put.f k n w = some (putl n (cl8 w).toNat) := by
 unfold strandlineref01_Put.f
 have h : 0 ≤ cl8 w ∧ cl8 w ≤ 8 := by unfold cl8;split <;> (try split) <;> omega
 have := rput_l n hn w hw (cl8 w).toNat k 0 (by omega) rfl (by omega)
 simpa [putl] using this
theorem rget_l {l : List Int} (hl : ∀ x ∈ l,(Lit.int .u8 x).wf = true) (d : Nat) : ∀ (k i : Nat),i ≤ min l.length 8 → min l.length 8 - i = d → d + 64 < k →
  strandlineref01_Get.l0 k l (getn l i) i = some ((getn l (min l.length 8) : Nat) : Int) := by
 induction d with
 |zero =>
  intro k i h1 hd hk
  obtain ⟨k,rfl⟩ : ∃ m,k = m + 1 := ⟨k - 1,by omega⟩
  simp only [strandlineref01_Get.l0]
  obtain rfl : i = min l.length 8 := by omega
  by_cases h2 : ((min l.length 8 : Nat) : Int) < (l.length : Int)
  ·rw [if_pos h2,if_neg (by omega)]
  ·rw [if_neg h2]
 |succ d ih =>
  intro k i h1 hd hk
  obtain ⟨k,rfl⟩ : ∃ m,k = m + 1 := ⟨k - 1,by omega⟩
  simp only [strandlineref01_Get.l0]
  have hr := ih k (i + 1) (by omega) (by omega) (by omega)
  obtain ⟨r0,r1⟩ := rd_u8 hl i
  rw [if_pos (by omega),if_pos (by omega),if_pos (by omega),w64 (n := 8 * (i : Int)) (by omega) (by omega),two_eq k _ (by omega) (by omega) (by omega),wu64 (n := rd l i) (by omega) (by omega),w64 (n := (i : Int) + 1) (by omega) (by omega)]
  simp only [Option.bind_some]
  have h3 := getn_lt hl (i + 1)
  have h4 : (256 : Nat) ^ (i + 1) ≤ 18446744073709551616 := by
   have := Nat.pow_le_pow_right (show 0 < 256 by decide) (show i + 1 ≤ 8 by omega)
   simpa using this
  have e0 : getn l (i + 1) = getn l i + (rd l i).toNat * 256 ^ i := rfl
  obtain ⟨b,hb⟩ : ∃ b : Nat,rd l i = (b : Int) := ⟨(rd l i).toNat,by omega⟩
  rw [hb,Int.toNat_natCast] at e0
  rw [hb,show (8 * (i : Int)).toNat = 8 * i by omega,← pow_cast,← Int.natCast_mul,← p256,wu64 (n := ((b * 256 ^ i : Nat) : Int)) (by omega) (by omega),wu64 (by omega) (by omega),show ((getn l i : Nat) : Int) + ((b * 256 ^ i : Nat) : Int) = ((getn l (i + 1) : Nat) : Int) by omega]
  exact hr
theorem rget_eq {l : List Int} (hl : ∀ x ∈ l,(Lit.int .u8 x).wf = true) (k : Nat) (hk : 80 < k) : strandlineref01_Get.f k l = some ((getn l (min l.length 8) : Nat) : Int) := by
 unfold strandlineref01_Get.f
 exact rget_l hl (min l.length 8) k 0 (by omega) rfl (by omega)
end Nums
end Go.Proofs.YtaekpfhgdnfciaaDoor.F
namespace Go.Proofs.YtaekpfhgdnfciaaDoor.O
open Go.RowKit Go.Proofs.YtaekpfhgdnfciaaDoorW.PrintWords Go.Proofs.YtaekpfhgdnfciaaDoorW.PrintLast Go.Proofs.YtaekpfhgdnfciaaDoorW.PrintMore Go.Proofs.YtaekpfhgdnfciaaDoor.F Go.Proofs.YtaekpfhgdnfciaaDoor.F.Nums Go.Proofs.YtaekpfhgdnfciaaDoor.Plain
theorem bytes_of_wf {xs : List Int} (h : ∀ x ∈ xs,(Lit.int .u8 x).wf = true) : Bytes xs := fun c hc => by
 have := h c hc
 simp [Lit.wf,IntKind.min,IntKind.max,IntKind.signed,IntKind.bits] at this
 omega
theorem wf_of_bytes {xs : List Int} (h : Bytes xs) : ∀ x ∈ xs,(Lit.int .u8 x).wf = true := fun x hx => by
 have := h x hx
 simp [Lit.wf,IntKind.min,IntKind.max,IntKind.signed,IntKind.bits]
 omega
theorem putl_bytes (n i : Nat) : Bytes (putl n i) := by
 induction i with
 |zero => intro c hc;cases hc
 |succ i ih =>
  intro c hc
  rcases List.mem_append.1 hc with hc|hc
  ·exact ih c hc
  ·rw [List.mem_singleton.1 hc]
   omega
theorem bytes_append {xs ys : List Int} (h : Bytes xs) (k : Bytes ys) : Bytes (xs ++ ys) := fun c hc => (List.mem_append.1 hc).elim (h c) (k c)
theorem bytes_take {xs : List Int} (h : Bytes xs) (n : Nat) : Bytes (xs.take n) := fun c hc => h c (List.mem_of_mem_take hc)
theorem bytes_drop {xs : List Int} (h : Bytes xs) (n : Nat) : Bytes (xs.drop n) := fun c hc => h c (List.mem_of_mem_drop hc)
theorem bytes_zs (n : Nat) : Bytes (zs n) := fun c hc => by have := List.eq_of_mem_replicate hc;omega
theorem splice_at {α : Type} (a b : List α) (c : List α) (o : Nat) (ho : a.length = o) : splice (a ++ b) o c = a ++ (c ++ b.drop c.length) := by
 subst ho
 unfold splice
 rw [List.take_left,List.drop_append]
 rw [List.drop_of_length_le (by omega),List.nil_append,show a.length + c.length - a.length = c.length by omega]
theorem getn_append (a b : List Int) (i : Nat) (h : i ≤ a.length) : getn (a ++ b) i = getn a i := by
 induction i with
 |zero => rfl
 |succ i ih =>
  unfold getn
  rw [ih (by omega)]
  congr 3
  unfold rd
  rw [List.getD_eq_getElem?_getD,List.getD_eq_getElem?_getD,List.getElem?_append_left (by omega)]
theorem getn_putl (n i : Nat) : getn (putl n i) i = n % 256 ^ i := by
 induction i with
 |zero => simp [getn,Nat.mod_one]
 |succ i ih =>
  unfold getn
  show getn (putl n i ++ [((n / 256 ^ i % 256 : Nat) : Int)]) i + _ = _
  rw [getn_append _ _ _ (by rw [putl_len];exact Nat.le_refl i),ih]
  have e : rd (putl n i ++ [((n / 256 ^ i % 256 : Nat) : Int)]) (i : Int) = ((n / 256 ^ i % 256 : Nat) : Int) := by
   unfold rd
   rw [List.getD_eq_getElem?_getD,List.getElem?_append_right (by rw [putl_len];simp),putl_len]
   simp
  show n % 256 ^ i + (rd (putl n i ++ [((n / 256 ^ i % 256 : Nat) : Int)]) (i : Int)).toNat * 256 ^ i = _
  rw [e,Int.toNat_natCast,Nat.pow_succ,Nat.mod_mul]
  rw [Nat.mul_comm (256 ^ i)]
theorem putl_getn {l : List Int} (hl : Bytes l) : ∀ i,i ≤ l.length → putl (getn l i) i = l.take i := by
 have key : ∀ (i m : Nat),i ≤ l.length → m % 256 ^ i = getn l i → putl m i = l.take i := by
  intro i
  induction i with
  |zero => intro m _ _;rfl
  |succ i ih =>
   intro m hi hm
   have hc := hl _ (List.getElem_mem (show i < l.length by omega))
   have hrd : rd l (i : Int) = l[i] := by
    unfold rd
    rw [Int.toNat_natCast,List.getD_eq_getElem?_getD,List.getElem?_eq_getElem (by omega)]
    rfl
   have hlt := getn_lt (l := l) (wf_of_bytes hl) i
   rw [Nat.pow_succ,Nat.mod_mul] at hm
   have hm' : m % 256 ^ i + 256 ^ i * (m / 256 ^ i % 256) = getn l i + (rd l (i : Int)).toNat * 256 ^ i := hm
   rw [hrd] at hm'
   have hp : 0 < 256 ^ i := Nat.pow_pos (by decide)
   have hmod : m % 256 ^ i = getn l i := by
    have h1 : (m % 256 ^ i + 256 ^ i * (m / 256 ^ i % 256)) % 256 ^ i = m % 256 ^ i := by rw [Nat.add_mul_mod_self_left,Nat.mod_mod]
    have h2 : (getn l i + (l[i]).toNat * 256 ^ i) % 256 ^ i = getn l i := by rw [Nat.add_mul_mod_self_right,Nat.mod_eq_of_lt hlt]
    rw [← h1,hm',h2]
   have hd : m / 256 ^ i % 256 = (l[i]).toNat := by
    rw [hmod,Nat.mul_comm (256 ^ i)] at hm'
    exact Nat.eq_of_mul_eq_mul_right hp (Nat.add_left_cancel hm')
   show putl m i ++ [((m / 256 ^ i % 256 : Nat) : Int)] = _
   rw [ih m (by omega) hmod,hd,List.take_add_one,List.getElem?_eq_getElem (by omega),Int.toNat_of_nonneg hc.1]
   rfl
 intro i hi
 exact key i _ hi (Nat.mod_eq_of_lt (getn_lt (l := l) (wf_of_bytes hl) i))
theorem putl_mod (m k : Nat) : ∀ i,i ≤ k → putl (m % 256 ^ k) i = putl m i := by
 intro i
 induction i with
 |zero => intro _;rfl
 |succ i ih =>
  intro hi
  show putl (m % 256 ^ k) i ++ [((m % 256 ^ k / 256 ^ i % 256 : Nat) : Int)] = putl m i ++ [((m / 256 ^ i % 256 : Nat) : Int)]
  rw [ih (by omega)]
  have e : (256 : Nat) ^ k = 256 ^ i * 256 ^ (k - i) := by rw [← Nat.pow_add];congr 1;omega
  have d : (256 : Nat) ∣ 256 ^ (k - i) := by
   obtain ⟨q,hq⟩ : ∃ q,k - i = q + 1 := ⟨k - i - 1,by omega⟩
   rw [hq,Nat.pow_succ]
   exact Nat.dvd_mul_left _ _
  rw [e,Nat.mod_mul_right_div_self,Nat.mod_mod_of_dvd _ d]
end Go.Proofs.YtaekpfhgdnfciaaDoor.O
end

section
namespace Go.Proofs.YtaekpfhgdnfciaaDoor.F
open Go.RowKit Go.Proofs.YtaekpfhgdnfciaaDoorW.PrintWords Go.Proofs.YtaekpfhgdnfciaaDoorW.PrintLast Go.Proofs.YtaekpfhgdnfciaaDoorW.PrintMore
open Nums
theorem infoSec {xs : List Int} (h : xs.length = 64) : (Tryd.prog.info? 51).map (·.size) = some (vals xs).toArray.size := by
 have e : (Tryd.prog.info? 51).map (·.size) = some 64 := by kernel_rfl
 rw [e]
 simp [vals,h]
theorem vals_all (xs : List Int) : (vals xs).toArray.all (·.oneCell') = true := by
 rw [Array.all_eq_true]
 intro i hi
 exact vals_one (xs := xs) _ (by simp)
def z64b : List Int := List.replicate 64 0
def sealF (e i : Int) (room : List Int) : List Int := splice (splice (splice z64b 0 (putl (e.toNat) 8)) 8 (putl (IntKind.u64.wrap i).toNat 4)) 12 (room.take 52)
theorem sealF_len (e i : Int) (room : List Int) : (sealF e i room).length = 64 := by
 unfold sealF
 have h1 : (splice z64b 0 (putl e.toNat 8)).length = 64 := by rw [length_splice _ _ _ (by rw [putl_len];decide)];rfl
 have h2 : (splice (splice z64b 0 (putl e.toNat 8)) 8 (putl (IntKind.u64.wrap i).toNat 4)).length = 64 := by rw [length_splice _ _ _ (by rw [putl_len,h1];decide),h1]
 rw [length_splice _ _ _ (by rw [List.length_take,h2];omega),h2]
end Go.Proofs.YtaekpfhgdnfciaaDoor.F
end

section
namespace Go.Proofs.YtaekpfhgdnfciaaDoor.F
open Go.RowKit Go.Proofs.YtaekpfhgdnfciaaDoorW.PrintWords Go.Proofs.YtaekpfhgdnfciaaDoorW.PrintLast Go.Proofs.YtaekpfhgdnfciaaDoorW.PrintMore
attribute [local go_sem high] eqA83
attribute [local go_sem] field83_0
attribute [local go_sem] field83_1
attribute [local go_sem] max2_int min2_int max_two min_two max_three min_three max_four min_four
/-! ### strandlineref06_Byte: function 83 -/
def strandlineref06_Byte.f (k : Nat) (a0 : Int) (a1 : Int) (l2 : List Int) (a3 : Int) : Option (Int) := if a3 < 8 then ((strandlineref01_Put.f k a0 8).bind fun t187 => (if 0 ≤ a3 then (if a3 < (t187.length : Int) then (some (rd t187 a3)) else (none)) else (none))) else (if a3 < 12 then ((strandlineref01_Put.f k (IntKind.u64.wrap (a1)) 4).bind fun t191 => (if 0 ≤ (wrap64 (a3 - 8)) then (if (wrap64 (a3 - 8)) < (t191.length : Int) then (some (rd t191 (wrap64 (a3 - 8)))) else (none)) else (none))) else (if (wrap64 (a3 - 12)) < (l2.length : Int) then (if 0 ≤ (wrap64 (a3 - 12)) then (some (rd l2 (wrap64 (a3 - 12)))) else (none)) else (some 0)))
set_option maxHeartbeats 8000000 in
set_option maxRecDepth 100000 in
theorem strandlineref06_Byte.calls (k : Nat) (a0 : Int) (a1 : Int) (A2 : Option Addr) (c2 : Nat) (l2 : List Int) (a3 : Int) (r : Int) (w : World) (hr2 : Kd.C (Kd.int .u8) w A2 l2.length l2) (hc2 : l2.length ≤ c2) (h : strandlineref06_Byte.f k a0 a1 l2 a3 = some r) :
  Calls Tryd.prog 83 #[.int .u64 a0,.int .i64 a1,.slice A2 l2.length c2,.int .i64 a3] w fun e w' => e = .returned (.int .u8 r) ∧ Below w.heap.size w w' := by
 have hu73 := Tryd.underlying73
 have hu76 := Tryd.underlying76
 have hu83 := Tryd.underlying83
 have hu94 := Tryd.underlying94
 have hu106 := Tryd.underlying106
 have HR2 := Aside0.mk hr2
 have HC2 := Aside0.mk hc2
 clear hr2 hc2
 have HB := Aside0.mk (Below.refl w.heap.size w)
 have H : (if a3 < 8 then ((strandlineref01_Put.f k a0 8).bind fun t187 => (if 0 ≤ a3 then (if a3 < (t187.length : Int) then (some (rd t187 a3)) else (none)) else (none))) else (if a3 < 12 then ((strandlineref01_Put.f k (IntKind.u64.wrap (a1)) 4).bind fun t191 => (if 0 ≤ (wrap64 (a3 - 8)) then (if (wrap64 (a3 - 8)) < (t191.length : Int) then (some (rd t191 (wrap64 (a3 - 8)))) else (none)) else (none))) else (if (wrap64 (a3 - 12)) < (l2.length : Int) then (if 0 ≤ (wrap64 (a3 - 12)) then (some (rd l2 (wrap64 (a3 - 12)))) else (none)) else (some 0)))) = some r := h
 clear h
 by_cases c5 : a3 < 8
 ·rw [if_pos c5] at H
  have c5b0 : decide (a3 < 8) = true := decide_eq_true c5
  clear c5
  replace H := Option.bind_eq_some_iff.mp H
  obtain ⟨t187,A60,H⟩ := H
  replace H : (if 0 ≤ a3 then (if a3 < (t187.length : Int) then (some (rd t187 a3)) else (none)) else (none)) = some r := H
  have A6 := Aside0.mk A60
  clear A60
  by_cases c7 : 0 ≤ a3
  ·rw [if_pos c7] at H
   have c7b0 : decide (0 ≤ a3) = true := decide_eq_true c7
   clear c7
   by_cases c8 : a3 < (t187.length : Int)
   ·rw [if_pos c8] at H
    have c8b0 : decide (a3 < (t187.length : Int)) = true := decide_eq_true c8
    clear c8
    obtain rfl := Option.some.inj H
    go_enter Tryd.func83,Tryd.ntmps83
    go_wp2_with (first|((with_reducible refine gate_callee (f := 76) rfl ?_);refine goesL_ (some 12) rfl rfl Tryd.func76 (by kernel_rfl) rfl #[.int .u64 a0,.int .i64 8] rfl (by (try simp only [List.map_toArray,List.map_cons,List.map_nil]);first|done|rfl|(simp only [List.length_drop,List.length_take];rfl)) ?_;(with_reducible refine (strandlineref01_Put.calls k a0 8 t187 _ A6.out).mono ?_);rintro e w9 ⟨v188,rfl,ho0,hb⟩;refine ⟨_,rfl,?_⟩;have n0_ := Aside0.mk (Kd.R_lower ho0 (below_size (by repeat (first|(with_reducible first|exact HB.out|apply below_alloc|apply pw_below_drewN|apply below_drew1)|exact HB.out))));have n1_ := Aside0.mk (below_step (by repeat (first|(with_reducible first|exact HB.out|apply below_alloc|apply pw_below_drewN|apply below_drew1)|exact HB.out)) hb);clear HB;have HO189 := n0_;have HB := n1_;clear n0_ n1_;(try clear hb);(try clear hb2);(try clear hk);(try clear hi);(try clear ho0);obtain ⟨Ao10,co10,eo10⟩ := Kd.R_slice HO189.out;subst eo10;have p190 : 0 ≤ (a3 : Int) := of_decide_eq_true (by first|(with_reducible assumption)|assumption);have q190 : a3 < (t187.length : Int) := of_decide_eq_true (by first|(with_reducible assumption)|assumption);obtain ⟨ad190,e190,hx190_0⟩ := Kd.at_int (Kd.R_reads' HO189.out).2.2 a3 p190 q190;cases e190;replace p190 := eq_true p190;replace q190 := eq_true q190))
    go_ret
    exact ⟨by first|rfl|(simp [errW_none,errW_some] <;> rfl)|(simp [*,errW_none,errW_some] <;> rfl),by repeat (first|(with_reducible first|exact HB.out|apply below_alloc|apply pw_below_drewN|apply below_drew1)|exact HB.out)⟩
   ·rw [if_neg c8] at H
    exact absurd H (by simp)
  ·rw [if_neg c7] at H
   exact absurd H (by simp)
 ·rw [if_neg c5] at H
  have c5b0 : decide (a3 < 8) = false := decide_eq_false c5
  clear c5
  by_cases c11 : a3 < 12
  ·rw [if_pos c11] at H
   have c11b0 : decide (a3 < 12) = true := decide_eq_true c11
   clear c11
   replace H := Option.bind_eq_some_iff.mp H
   obtain ⟨t191,A120,H⟩ := H
   replace H : (if 0 ≤ (wrap64 (a3 - 8)) then (if (wrap64 (a3 - 8)) < (t191.length : Int) then (some (rd t191 (wrap64 (a3 - 8)))) else (none)) else (none)) = some r := H
   have A12 := Aside0.mk A120
   clear A120
   obtain ⟨ji13,hji13⟩ : ∃ j_ : Int,(wrap64 (a3 - 8)) = j_ := ⟨_,rfl⟩
   replace H : (if 0 ≤ (ji13) then (if (ji13) < (t191.length : Int) then (some (rd t191 (ji13))) else (none)) else (none)) = some r := by first|(rw [hji13] at H;exact H)|(simp only [hji13] at H ⊢;exact H)
   (try rw [hji13] at A12)
   have hji13w : (IntKind.i64.wrap (a3 - 8)) = ji13 := (i64_w _).trans hji13
   by_cases c14 : 0 ≤ (ji13)
   ·rw [if_pos c14] at H
    have c14b0 : decide (0 ≤ (ji13)) = true := decide_eq_true c14
    clear c14
    by_cases c15 : (ji13) < (t191.length : Int)
    ·rw [if_pos c15] at H
     have c15b0 : decide ((ji13) < (t191.length : Int)) = true := decide_eq_true c15
     clear c15
     obtain rfl := Option.some.inj H
     go_enter Tryd.func83,Tryd.ntmps83
     go_wp2_with (first|((with_reducible refine gate_callee (f := 76) rfl ?_);refine goesL_ (some 20) rfl rfl Tryd.func76 (by kernel_rfl) rfl #[.int .u64 (IntKind.u64.wrap (a1)),.int .i64 4] rfl (by (try simp only [List.map_toArray,List.map_cons,List.map_nil]);first|done|rfl|(simp only [List.length_drop,List.length_take];rfl)) ?_;(with_reducible refine (strandlineref01_Put.calls k (IntKind.u64.wrap (a1)) 4 t191 _ A12.out).mono ?_);rintro e w16 ⟨v192,rfl,ho0,hb⟩;refine ⟨_,rfl,?_⟩;have n0_ := Aside0.mk (Kd.R_lower ho0 (below_size (by repeat (first|(with_reducible first|exact HB.out|apply below_alloc|apply pw_below_drewN|apply below_drew1)|exact HB.out))));have n1_ := Aside0.mk (below_step (by repeat (first|(with_reducible first|exact HB.out|apply below_alloc|apply pw_below_drewN|apply below_drew1)|exact HB.out)) hb);clear HB;have HO193 := n0_;have HB := n1_;clear n0_ n1_;(try clear hb);(try clear hb2);(try clear hk);(try clear hi);(try clear ho0);obtain ⟨Ao17,co17,eo17⟩ := Kd.R_slice HO193.out;subst eo17;have p194 : 0 ≤ ((ji13) : Int) := of_decide_eq_true (by first|(with_reducible assumption)|assumption);have q194 : (ji13) < (t191.length : Int) := of_decide_eq_true (by first|(with_reducible assumption)|assumption);obtain ⟨ad194,e194,hx194_0⟩ := Kd.at_int (Kd.R_reads' HO193.out).2.2 (ji13) p194 q194;cases e194;replace p194 := eq_true p194;replace q194 := eq_true q194))
     go_ret
     exact ⟨by first|rfl|(simp [errW_none,errW_some] <;> rfl)|(simp only [← hji13];first|rfl|(simp [errW_none,errW_some] <;> rfl))|(simp [*,errW_none,errW_some] <;> rfl),by repeat (first|(with_reducible first|exact HB.out|apply below_alloc|apply pw_below_drewN|apply below_drew1)|exact HB.out)⟩
    ·rw [if_neg c15] at H
     exact absurd H (by simp)
   ·rw [if_neg c14] at H
    exact absurd H (by simp)
  ·rw [if_neg c11] at H
   have c11b0 : decide (a3 < 12) = false := decide_eq_false c11
   clear c11
   by_cases c18 : (wrap64 (a3 - 12)) < (l2.length : Int)
   ·rw [if_pos c18] at H
    have c18b0 : decide ((wrap64 (a3 - 12)) < (l2.length : Int)) = true := decide_eq_true c18
    clear c18
    obtain ⟨ji19,hji19⟩ : ∃ j_ : Int,(wrap64 (a3 - 12)) = j_ := ⟨_,rfl⟩
    replace H : (if 0 ≤ (ji19) then (some (rd l2 (ji19))) else (none)) = some r := by first|(rw [hji19] at H;exact H)|(simp only [hji19] at H ⊢;exact H)
    (try rw [hji19] at c18b0)
    have hji19w : (IntKind.i64.wrap (a3 - 12)) = ji19 := (i64_w _).trans hji19
    by_cases c20 : 0 ≤ (ji19)
    ·rw [if_pos c20] at H
     have c20b0 : decide (0 ≤ (ji19)) = true := decide_eq_true c20
     clear c20
     obtain rfl := Option.some.inj H
     have p195 : 0 ≤ ((ji19) : Int) := of_decide_eq_true (by first|(with_reducible assumption)|assumption)
     have q195 : (ji19) < (l2.length : Int) := of_decide_eq_true (by first|(with_reducible assumption)|assumption)
     obtain ⟨ad195,e195,hx195_0⟩ := Kd.at_int HR2.out (ji19) p195 q195
     cases e195
     replace p195 := eq_true p195
     replace q195 := eq_true q195
     go_enter Tryd.func83,Tryd.ntmps83
     go_wp2
     go_ret
     exact ⟨by first|rfl|(simp [errW_none,errW_some] <;> rfl)|(simp only [← hji19];first|rfl|(simp [errW_none,errW_some] <;> rfl))|(simp [*,errW_none,errW_some] <;> rfl),by repeat (first|(with_reducible first|exact HB.out|apply below_alloc|apply pw_below_drewN|apply below_drew1)|exact HB.out)⟩
    ·rw [if_neg c20] at H
     exact absurd H (by simp)
   ·rw [if_neg c18] at H
    have c18b0 : decide ((wrap64 (a3 - 12)) < (l2.length : Int)) = false := decide_eq_false c18
    clear c18
    obtain rfl := Option.some.inj H
    go_enter Tryd.func83,Tryd.ntmps83
    go_wp2
    go_ret
    exact ⟨by first|rfl|(simp [errW_none,errW_some] <;> rfl)|(simp [*,errW_none,errW_some] <;> rfl),by repeat (first|(with_reducible first|exact HB.out|apply below_alloc|apply pw_below_drewN|apply below_drew1)|exact HB.out)⟩
end Go.Proofs.YtaekpfhgdnfciaaDoor.F
end
