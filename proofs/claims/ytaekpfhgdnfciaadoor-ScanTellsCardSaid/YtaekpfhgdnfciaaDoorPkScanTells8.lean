/- Texts of mine put together: Feed, FkCrc, FkStrandlineref03, CrcMath, FragM, ScanM, Own2, CrcOwn, FkFrag, FragEnc. -/
import Derived.Test.YtaekpfhgdnfciaaDoorPkScanTells6
import Derived.Test.YtaekpfhgdnfciaaDoorPkScanTells7
import Derived.Test.YtaekpfhgdnfciaaDoorPkScanTells2
import Derived.Test.YtaekpfhgdnfciaaDoorPkScanTells3
import Derived.Test.YtaekpfhgdnfciaaDoorPkScanTells4
import Derived.Great.BuildSlice
import Derived.Lib.LazyBuf
import Derived.ArgAppend
section
/- Joiner.Feed and the reference's, by what is owned. -/
namespace Go.Proofs.YtaekpfhgdnfciaaDoor.O
open Go.RowKit Go.Proofs.YtaekpfhgdnfciaaDoorW.PrintWords Go.Proofs.YtaekpfhgdnfciaaDoorW.PrintLast Go.Proofs.YtaekpfhgdnfciaaDoorW.PrintMore Go.Proofs.YtaekpfhgdnfciaaDoor.F Go.Proofs.YtaekpfhgdnfciaaDoor.F.Nums Go.Proofs.YtaekpfhgdnfciaaDoor.Plain
set_option linter.unusedVariables false
set_option linter.unusedSimpArgs false
/-- what has all its blocks behind those that are owned is owned too -/
theorem Own.consN {w0 W : World} {F : Nat → Option Obj} {L : List Res} {r : Res} (H : Own w0 F L W) (n : Nat) (hL : ∀ y ∈ L,∀ k,y.block = some k → k < n) (hF : ∀ k o,F k = some o → k < n) (hr : r.At w0.heap.size W) (hk : ∀ k,r.block = some k → n ≤ k) : Own w0 F (r :: L) W := by
 refine ⟨H.below,H.holds,?_,?_,?_⟩
 ·intro y hy
  rcases List.mem_cons.1 hy with rfl|hy
  ·exact hr
  ·exact H.ats y hy
 ·intro y hy k hyk
  rcases List.mem_cons.1 hy with rfl|hy
  ·cases hFk : F k with
   |none => rfl
   |some o =>
    have h1 := hF k o hFk
    have h2 := hk k hyk
    omega
  ·exact H.apart y hy k hyk
 ·refine List.Pairwise.cons (fun y hy k h1 h2 => ?_) H.sep
  have h3 := hL y hy k h2
  have h4 := hk k h1
  omega
/-- a slice value of n elements -/
def IsSl (v : Value) (n : Nat) : Prop := ∃ A c,v = .slice A n c ∧ n ≤ c
theorem isSl_R {W : World} {b : Nat} {ok : Nat → Prop} {v : Value} {xs : List Int} {e : Nat} (h : Kd.R (Kd.int .u8) e W b ok v xs) : IsSl v xs.length := by
 obtain ⟨A,c,rfl⟩ := own_slice (Kd.own_of_R h)
 have h2 := Kd.R_reads' h
 exact ⟨A,c,rfl,h2.2.1⟩
/-- two answers of which one has nothing: the other one is owned -/
theorem pick_own {W : World} {b : Nat} {ok ok' : Nat → Prop} {va vb : Value} {xa xb : List Int} {e : Nat} (ha : Kd.R (Kd.int .u8) e W b ok va xa) (hb : Kd.R (Kd.int .u8) e W b ok' vb xb) (h : xa = [] ∨ xb = []) :
  ∃ x,W.ownsRow b e 1 x (xa ++ xb).length (nums .u8 (xa ++ xb)) ∧ (xa ≠ [] → va = x) ∧ (xb ≠ [] → vb = x) := by
 rcases h with rfl|rfl
 ·exact ⟨vb,Kd.own_of_R hb,fun h => absurd rfl h,fun _ => rfl⟩
 ·refine ⟨va,?_,fun _ => rfl,fun h => absurd rfl h⟩
  rw [List.append_nil]
  exact Kd.own_of_R ha
theorem feedF_one (op : Bool) (b : List Int) (kind : Int) (data : List Int) : (feedF op b kind data).1.1 = [] ∨ (feedF op b kind data).2.2 = [] := by
 unfold feedF
 split
 ·exact .inl rfl
 ·split
  ·exact .inl rfl
  ·split
   ·exact .inr rfl
   ·exact .inl rfl
/-- the cells of what is owned if it is not empty -/
theorem own_C {w0 W : World} {F : Nat → Option Obj} {L : List Res} {c : Res → List Res} {b : List Int} {Av : Option Addr} {cv : Nat} {x : Value} {n : Nat} {ys : List Int} (H : Own w0 F L W) (hI : In L (.row x 5 1 n (nums .u8 ys)) c) (hx : b ≠ [] → .slice Av b.length cv = x) (hy : b ≠ [] → ys = b ∧ n = b.length) (hl : b.length ≤ 70000) : Kd.C (Kd.int .u8) W Av b.length b := by
 by_cases hb : b = []
 ·subst hb
  exact ⟨rfl,by simp,fun h => absurd h (by simp)⟩
 ·obtain ⟨rfl,rfl⟩ := hy hb
  have := hx hb
  subst this
  exact (H.rowC hI).2.2
theorem feed_own {w0 W : World} {F : Nat → Option Obj} {L : List Res} {c1 : Res → List Res} (op : Bool) (b : List Int) (kind epoch : Int) (data : List Int) (g : Nat) (Av A : Option Addr) (cv c : Nat) (x : Value)
  (H : Own w0 F (.row x 5 1 b.length (nums .u8 b) :: L) W) (hI : In L (.blk g 106 [.bool op,.slice Av b.length cv]) c1) (hx : b ≠ [] → .slice Av b.length cv = x) (hbc : b.length ≤ cv) (lb : b.length ≤ 70000)
  (hd : Kd.C (Kd.int .u8) W A data.length data) (ld : data.length ≤ 140737488351232) (hdc : data.length ≤ c) :
  Calls Tryd.prog 52 #[.pointer (some ⟨g,0,none⟩),.agg #[.int .i64 kind,.int .u32 epoch,.slice A data.length c]] W fun e W' =>
   ∃ rv v' x',e = .returned (.tuple #[rv,.bool (feedF op b kind data).1.2.1,.int .i64 (feedF op b kind data).1.2.2]) ∧ IsSl rv (feedF op b kind data).1.1.length ∧ IsSl v' (feedF op b kind data).2.2.length ∧
    ((feedF op b kind data).1.1 ≠ [] → rv = x') ∧ ((feedF op b kind data).2.2 ≠ [] → v' = x') ∧
    Own w0 F (.row x' 5 1 ((feedF op b kind data).1.1 ++ (feedF op b kind data).2.2).length (nums .u8 ((feedF op b kind data).1.1 ++ (feedF op b kind data).2.2)) :: c1 (.blk g 106 [.bool (feedF op b kind data).2.1,v'])) W' := by
 have hb := own_C H .head hx (fun _ => ⟨rfl,rfl⟩) lb
 have H1 := H.del .head
 have hg := H1.at_ hI
 refine (feed_all op b kind epoch data W g Av A cv c hg.2 hb hd lb ld hbc hdc).mono ?_
 rintro e W' ⟨rv,v',rfl,hg',hR1,hR2,hK,hB⟩
 obtain ⟨x',ho,h1,h2⟩ := pick_own hR1 hR2 (feedF_one op b kind data)
 refine ⟨rv,v',x',rfl,isSl_R hR1,isSl_R hR2,h1,h2,?_⟩
 have H2 := H1.repl (r' := .blk g 106 [.bool (feedF op b kind data).2.1,v']) hI ⟨hB.os,hB.tape,hB.output,hK.1,fun i hi hn => hK.2 i hi (fun e => hn (by rw [e];rfl)) (fun e => by cases e)⟩ ⟨hg.1,hg'⟩ (fun k hk => .inl hk)
 refine H2.consN W.heap.size (fun y hy k hk => ?_) (fun k o hk => obj_lt (H1.holds k o hk)) (own_weaken ho H1.size) (fun k hk => own_base ho k hk)
 obtain ⟨LA,LB,rfl,hc1⟩ := hI.split
 rw [hc1] at hy
 rcases List.mem_append.1 hy with hy|hy
 ·exact (H1.ats y (by simp [hy])).lt hk
 ·rcases List.mem_cons.1 hy with rfl|hy
  ·exact hg.lt hk
  ·exact (H1.ats y (by simp [hy])).lt hk
theorem feedF_len (op : Bool) (b : List Int) (kind : Int) (data : List Int) : (feedF op b kind data).2.2.length ≤ 512 := by
 unfold feedF
 split
 ·simp
 ·split
  ·simp
  ·split
   ·simp
   ·simp only [List.length_append];omega
theorem rfeed_eq (op : Bool) (b : List Int) (kind epoch : Int) (data : List Int) (lb : b.length ≤ 512) (ld : data.length ≤ 140737488351232) :
  strandlineref15_Joiner_Feed.f 1 op b kind epoch data = some ((feedF op b kind data).2.1,(feedF op b kind data).2.2,(feedF op b kind data).1.1,(feedF op b kind data).1.2.1,(feedF op b kind data).1.2.2) := by
 have j := fun x => (show strandlineref15_Joiner_Feed.j0 1 x op b kind epoch data = if x = true then some (false,[],[],false,2) else if (b.length : Int) + data.length > 512 then some (false,[],[],false,5) else if kind = 1 then some (false,[],b ++ data,true,0) else if kind = 4 then some (false,[],b ++ data,true,0) else some (true,b ++ data,[],false,0) by
  simp only [strandlineref15_Joiner_Feed.j0,Option.bind_some,List.nil_append,List.length_append,List.length_nil]
  cases x with
  |true => rfl
  |false =>
   simp only [Bool.false_eq_true,if_false]
   rw [if_pos (by omega),if_pos (by omega)]
   simp only [Int.natCast_add,show ((0 : Nat) : Int) = 0 from rfl,Int.zero_add])
 unfold strandlineref15_Joiner_Feed.f feedF
 simp only [j]
 simp only [gt_iff_lt]
 clear j
 by_cases h : 512 < (b.length : Int) + data.length
 ·simp only [h,if_true]
  cases op <;> by_cases k1 : kind = 1 <;> by_cases k2 : kind = 2 <;> by_cases k3 : kind = 3 <;> by_cases k4 : kind = 4 <;> simp_all
 ·simp only [h,if_false]
  cases op <;> by_cases k1 : kind = 1 <;> by_cases k2 : kind = 2 <;> by_cases k3 : kind = 3 <;> by_cases k4 : kind = 4 <;> simp_all
theorem rfeed_own {w0 W : World} {F : Nat → Option Obj} {L : List Res} (op : Bool) (b : List Int) (kind epoch : Int) (data : List Int) (Av A : Option Addr) (cv c : Nat)
  (H : Own w0 F L W) (hb : Kd.C (Kd.int .u8) W Av b.length b) (hbc : b.length ≤ cv) (lb : b.length ≤ 512)
  (hd : Kd.C (Kd.int .u8) W A data.length data) (ld : data.length ≤ 140737488351232) (hdc : data.length ≤ c) :
  Calls Tryd.prog 31 #[.agg #[.bool op,.slice Av b.length cv],.agg #[.int .i64 kind,.int .u32 epoch,.slice A data.length c]] W fun e W' =>
   ∃ rv v' x',e = .returned (.tuple #[.agg #[.bool (feedF op b kind data).2.1,v'],rv,.bool (feedF op b kind data).1.2.1,.int .i64 (feedF op b kind data).1.2.2]) ∧ IsSl rv (feedF op b kind data).1.1.length ∧ IsSl v' (feedF op b kind data).2.2.length ∧
    ((feedF op b kind data).1.1 ≠ [] → rv = x') ∧ ((feedF op b kind data).2.2 ≠ [] → v' = x') ∧
    Own w0 F (.row x' 5 1 ((feedF op b kind data).1.1 ++ (feedF op b kind data).2.2).length (nums .u8 ((feedF op b kind data).1.1 ++ (feedF op b kind data).2.2)) :: L) W' := by
 refine (strandlineref15_Joiner_Feed.calls 1 op Av cv b kind epoch A c data _ _ _ _ _ W hb hbc hd hdc (rfeed_eq op b kind epoch data lb ld)).mono ?_
 rintro e W' ⟨v',rv,rfl,hR1,hR2,hB⟩
 obtain ⟨x',ho,h1,h2⟩ := pick_own hR2 hR1 (feedF_one op b kind data)
 exact ⟨rv,v',x',rfl,isSl_R hR2,isSl_R hR1,h1,h2,H.cons hB (own_weaken ho H.size) (fun k hk => own_base ho k hk)⟩
end Go.Proofs.YtaekpfhgdnfciaaDoor.O
end

section
/- Functions of crc: what each answers, as a Lean function, and that the call answers just this. Turned out of what the kit's print told for this seat. -/
namespace Go.Proofs.YtaekpfhgdnfciaaDoor.F
open Go.RowKit Go.Proofs.YtaekpfhgdnfciaaDoorW.PrintWords Go.Proofs.YtaekpfhgdnfciaaDoorW.PrintLast Go.Proofs.YtaekpfhgdnfciaaDoorW.PrintMore
attribute [local go_sem high] eqA83
attribute [local go_sem] field83_0
attribute [local go_sem] field83_1
attribute [local go_sem] max2_int min2_int max_two min_two max_three min_three max_four min_four
set_option linter.unusedVariables false
set_option linter.unusedSimpArgs false
/-! ### crc_Mask: function 71 -/
def crc_Mask.f (a0 : Int) : Option (Int) := some (((Go.bits .or .u32 (a0 / 32768) ((a0 * 131072) % 4294967296)) + 2726488792) % 4294967296)
set_option maxHeartbeats 8000000 in
set_option maxRecDepth 100000 in
theorem crc_Mask.calls (a0 : Int) (r : Int) (w : World) (h : crc_Mask.f a0 = some r) :
  Calls Tryd.prog 71 #[.int .u32 a0] w fun e w' => e = .returned (.int .u32 r) ∧ Drawn0 w w' := by
 have hu73 := Tryd.underlying73
 have hu76 := Tryd.underlying76
 have hu83 := Tryd.underlying83
 have hu94 := Tryd.underlying94
 have hu106 := Tryd.underlying106
 have H : (some (((Go.bits .or .u32 (a0 / 32768) ((a0 * 131072) % 4294967296)) + 2726488792) % 4294967296)) = some r := h
 clear h
 obtain rfl := Option.some.inj H
 go_enter Tryd.func71,Tryd.ntmps71
 go_wp2
 go_ret
 exact ⟨by first|rfl|(simp;done)|(simp [*];done),by repeat (first|exact Drawn0.refl _|apply Drawn0.step)⟩
end Go.Proofs.YtaekpfhgdnfciaaDoor.F
end

section
/- Functions of strandlineref03: what each answers, as a Lean function, and that the call answers just this. Turned out of what the kit's print told for this seat. -/
namespace Go.Proofs.YtaekpfhgdnfciaaDoor.F
open Go.RowKit Go.Proofs.YtaekpfhgdnfciaaDoorW.PrintWords Go.Proofs.YtaekpfhgdnfciaaDoorW.PrintLast Go.Proofs.YtaekpfhgdnfciaaDoorW.PrintMore
attribute [local go_sem high] eqA83
attribute [local go_sem] field83_0
attribute [local go_sem] field83_1
attribute [local go_sem] max2_int min2_int max_two min_two max_three min_three max_four min_four
set_option linter.unusedVariables false
set_option linter.unusedSimpArgs false
/-! ### strandlineref03_Mask: function 77 -/
def strandlineref03_Mask.f (a0 : Int) : Option (Int) := some ((((((Int.tdiv a0 32768) % 4294967296) + (((Int.tmod a0 32768) * 131072) % 4294967296)) % 4294967296) + 2726488792) % 4294967296)
set_option maxHeartbeats 8000000 in
set_option maxRecDepth 100000 in
theorem strandlineref03_Mask.calls (a0 : Int) (r : Int) (w : World) (h : strandlineref03_Mask.f a0 = some r) :
  Calls Tryd.prog 77 #[.int .u32 a0] w fun e w' => e = .returned (.int .u32 r) ∧ Drawn0 w w' := by
 have hu73 := Tryd.underlying73
 have hu76 := Tryd.underlying76
 have hu83 := Tryd.underlying83
 have hu94 := Tryd.underlying94
 have hu106 := Tryd.underlying106
 have H : (some ((((((Int.tdiv a0 32768) % 4294967296) + (((Int.tmod a0 32768) * 131072) % 4294967296)) % 4294967296) + 2726488792) % 4294967296)) = some r := h
 clear h
 obtain rfl := Option.some.inj H
 go_enter Tryd.func77,Tryd.ntmps77
 go_wp2
 go_ret
 exact ⟨by first|rfl|(simp;done)|(simp [*];done),by repeat (first|exact Drawn0.refl _|apply Drawn0.step)⟩
/-! ### strandlineref03_Step: function 87 -/
def strandlineref03_Step.f (a0 : Int) : Option (Int) := if (Int.tmod a0 2) = 1 then (some (Go.bits .xor .u32 ((Int.tdiv a0 2) % 4294967296) 2197175160)) else (some ((Int.tdiv a0 2) % 4294967296))
set_option maxHeartbeats 8000000 in
set_option maxRecDepth 100000 in
theorem strandlineref03_Step.calls (a0 : Int) (r : Int) (w : World) (h : strandlineref03_Step.f a0 = some r) :
  Calls Tryd.prog 87 #[.int .u32 a0] w fun e w' => e = .returned (.int .u32 r) ∧ Drawn0 w w' := by
 have hu73 := Tryd.underlying73
 have hu76 := Tryd.underlying76
 have hu83 := Tryd.underlying83
 have hu94 := Tryd.underlying94
 have hu106 := Tryd.underlying106
 have H : (if (Int.tmod a0 2) = 1 then (some (Go.bits .xor .u32 ((Int.tdiv a0 2) % 4294967296) 2197175160)) else (some ((Int.tdiv a0 2) % 4294967296))) = some r := h
 clear h
 by_cases c2 : (Int.tmod a0 2) = 1
 ·rw [if_pos c2] at H
  have c2b0 : ((Int.tmod a0 2) == 1) = true := beq_iff_eq.mpr c2
  have c2b1 : ((Int.tmod a0 2) != 1) = false := bne_eq_false_iff_eq.mpr c2
  clear c2
  obtain rfl := Option.some.inj H
  go_enter Tryd.func87,Tryd.ntmps87
  go_wp2
  go_ret
  exact ⟨by first|rfl|(simp;done)|(simp [*];done),by repeat (first|exact Drawn0.refl _|apply Drawn0.step)⟩
 ·rw [if_neg c2] at H
  have c2b0 : ((Int.tmod a0 2) == 1) = false := beq_eq_false_iff_ne.mpr c2
  have c2b1 : ((Int.tmod a0 2) != 1) = true := bne_iff_ne.mpr c2
  obtain rfl := Option.some.inj H
  go_enter Tryd.func87,Tryd.ntmps87
  go_wp2
  go_ret
  exact ⟨by first|rfl|(simp;done)|(simp [*];done),by repeat (first|exact Drawn0.refl _|apply Drawn0.step)⟩
/-! ### strandlineref03_More: function 84 -/
mutual
def strandlineref03_More.l0 : Nat → List Int → Int → Int → Option (Int)
 |0,_,_,_ => none
 |k + 1,x1,x5,x6 => if x6 < (x1.length : Int) then (if 0 ≤ x6 then (strandlineref03_More.l1 k x1 (Go.bits .xor .u32 x5 ((rd x1 x6) % 4294967296)) x6 0) else (none)) else (some ((4294967295 - x5) % 4294967296))
def strandlineref03_More.l1 : Nat → List Int → Int → Int → Int → Option (Int)
 |0,_,_,_,_ => none
 |k + 1,x1,x5,x6,x7 => if x7 < 8 then ((strandlineref03_Step.f x5).bind fun t126 => (strandlineref03_More.l1 k x1 t126 x6 (wrap64 (x7 + 1)))) else (strandlineref03_More.l0 k x1 x5 (wrap64 (x6 + 1)))
end
def strandlineref03_More.f (k : Nat) (a0 : Int) (l1 : List Int) : Option (Int) := strandlineref03_More.l0 k l1 ((4294967295 - a0) % 4294967296) 0
theorem strandlineref03_More.mono_l : ∀ k,(∀ y0 y1 y2,LeO (strandlineref03_More.l0 k y0 y1 y2) (strandlineref03_More.l0 (k + 1) y0 y1 y2)) ∧ (∀ y0 y1 y2 y3,LeO (strandlineref03_More.l1 k y0 y1 y2 y3) (strandlineref03_More.l1 (k + 1) y0 y1 y2 y3))
 |0 => ⟨fun _ _ _ r h => by simp [strandlineref03_More.l0] at h,fun _ _ _ _ r h => by simp [strandlineref03_More.l1] at h⟩
 |k + 1 => by
  obtain ⟨ih0,ih1⟩ := strandlineref03_More.mono_l k
  refine ⟨?_,?_⟩
  ·intro y0 y1 y2
   unfold strandlineref03_More.l0
   repeat' first
   |(with_reducible exact ih0 _ _ _)
   |(with_reducible exact ih1 _ _ _ _)
   |(with_reducible exact LeO.refl _)
   |(with_reducible exact LeO.none _)
   |(with_reducible refine LeO.ite ?_ ?_)
   |(with_reducible refine LeO.bind ?_ (fun _ => ?_))
   |exact ih0 _ _ _
   |exact ih1 _ _ _ _
   |exact LeO.none _
   |refine LeO.ite ?_ ?_
   |refine LeO.bind ?_ (fun _ => ?_)
  ·intro y0 y1 y2 y3
   unfold strandlineref03_More.l1
   repeat' first
   |(with_reducible exact ih0 _ _ _)
   |(with_reducible exact ih1 _ _ _ _)
   |(with_reducible exact LeO.refl _)
   |(with_reducible exact LeO.none _)
   |(with_reducible refine LeO.ite ?_ ?_)
   |(with_reducible refine LeO.bind ?_ (fun _ => ?_))
   |exact ih0 _ _ _
   |exact ih1 _ _ _ _
   |exact LeO.none _
   |refine LeO.ite ?_ ?_
   |refine LeO.bind ?_ (fun _ => ?_)
theorem strandlineref03_More.mono : ∀ a0 a1 k,LeO (strandlineref03_More.f k a0 a1) (strandlineref03_More.f (k + 1) a0 a1) := by
 intro a0 a1 k
 obtain ⟨ih0,ih1⟩ := strandlineref03_More.mono_l k
 unfold strandlineref03_More.f
 repeat' first
   |(with_reducible exact ih0 _ _ _)
   |(with_reducible exact ih1 _ _ _ _)
   |(with_reducible exact LeO.refl _)
   |(with_reducible exact LeO.none _)
   |(with_reducible refine LeO.ite ?_ ?_)
   |(with_reducible refine LeO.bind ?_ (fun _ => ?_))
   |exact ih0 _ _ _
   |exact ih1 _ _ _ _
   |exact LeO.none _
   |refine LeO.ite ?_ ?_
   |refine LeO.bind ?_ (fun _ => ?_)
set_option maxHeartbeats 8000000 in
set_option maxRecDepth 100000 in
theorem strandlineref03_More.calls (k : Nat) (a0 : Int) (A1 : Option Addr) (c1 : Nat) (l1 : List Int) (r : Int) (w : World) (hr1 : Kd.C (Kd.int .u8) w A1 l1.length l1) (hc1 : l1.length ≤ c1) (h : strandlineref03_More.f k a0 l1 = some r) :
  Calls Tryd.prog 84 #[.int .u32 a0,.slice A1 l1.length c1] w fun e w' => e = .returned (.int .u32 r) ∧ Drawn0 w w' := by
 have hu73 := Tryd.underlying73
 have hu76 := Tryd.underlying76
 have hu83 := Tryd.underlying83
 have hu94 := Tryd.underlying94
 have hu106 := Tryd.underlying106
 have HR1 := Aside0.mk hr1
 have HC1 := Aside0.mk hc1
 clear hr1 hc1
 have H : (strandlineref03_More.l0 k l1 ((4294967295 - a0) % 4294967296) 0) = some r := h
 clear h
 have H' := Aside0.mk H
 clear H
 go_enter Tryd.func84,Tryd.ntmps84
 go_wp2
 go_loopg [5,6] k (fun kq v5 v6 w' => ∃ (x5_1 : Int) (x6_1 : Int),v5 = .int .u32 x5_1 ∧ v6 = .int .i64 x6_1 ∧ Aside0 (strandlineref03_More.l0 kq l1 x5_1 x6_1 = some r) ∧ Aside0 (kq ≤ k) ∧ Drawn0 w w')
 case atStart => exact ⟨((4294967295 - a0) % 4294967296),(0),(by first|rfl|(simp;done)|(simp [*];done)),(by first|rfl|(simp;done)|(simp [*];done)),H',⟨Nat.le_refl _⟩,by repeat (first|exact Drawn0.refl _|apply Drawn0.step)⟩
 case round =>
  clear H'
  try clear c1
  try clear p2
  obtain ⟨x5_1,x6_1,rfl,rfl,HA,HK1,⟨m1,rfl⟩⟩ := hrel
  cases gk with
  |zero => exact absurd HA.out (by simp [strandlineref03_More.l0])
  |succ k1 =>
   have H := HA.out
   clear HA
   simp only [strandlineref03_More.l0] at H
   by_cases c3 : x6_1 < (l1.length : Int)
   ·rw [if_pos c3] at H
    have c3b0 : decide (x6_1 < (l1.length : Int)) = true := decide_eq_true c3
    clear c3
    by_cases c4 : 0 ≤ x6_1
    ·rw [if_pos c4] at H
     have c4b0 : decide (0 ≤ x6_1) = true := decide_eq_true c4
     clear c4
     have H' := Aside0.mk H
     clear H
     have p125 : 0 ≤ (x6_1 : Int) := of_decide_eq_true (by first|(with_reducible assumption)|assumption)
     have q125 : x6_1 < (l1.length : Int) := of_decide_eq_true (by first|(with_reducible assumption)|assumption)
     obtain ⟨ad125,e125,hx125_0⟩ := Kd.at_int HR1.out x6_1 p125 q125
     cases e125
     replace p125 := eq_true p125
     replace q125 := eq_true q125
     go_wp2
     go_loopg [5,7] k1 (fun kq v5 v7 w' => ∃ (x5_2 : Int) (x7_2 : Int),v5 = .int .u32 x5_2 ∧ v7 = .int .i64 x7_2 ∧ Aside0 (strandlineref03_More.l1 kq l1 x5_2 x6_1 x7_2 = some r) ∧ Aside0 (kq ≤ k1) ∧ Drawn0 w w')
     case atStart => exact ⟨(Go.bits .xor .u32 x5_1 ((rd l1 x6_1) % 4294967296)),(0),(by first|rfl|(simp;done)|(simp [*];done)),(by first|rfl|(simp;done)|(simp [*];done)),H',⟨Nat.le_refl _⟩,by repeat (first|exact Drawn0.refl _|apply Drawn0.step)⟩
     case round =>
      clear H'
      try clear c1
      try clear p1
      try clear q1
      try clear hx1
      try clear p2
      try clear c3
      try clear c3b0
      try clear c4
      try clear c4b0
      try clear hx125_0
      try clear p125
      try clear p2
      try clear q125
      obtain ⟨x5_2,x7_2,rfl,rfl,HA,HK2,⟨m2,rfl⟩⟩ := hrel
      cases gk with
      |zero => exact absurd HA.out (by simp [strandlineref03_More.l1])
      |succ k2 =>
       have H := HA.out
       clear HA
       simp only [strandlineref03_More.l1] at H
       by_cases c5 : x7_2 < 8
       ·rw [if_pos c5] at H
        have c5b0 : decide (x7_2 < 8) = true := decide_eq_true c5
        clear c5
        replace H := Option.bind_eq_some_iff.mp H
        obtain ⟨t126,A60,H⟩ := H
        replace H : (strandlineref03_More.l1 k2 l1 t126 x6_1 (wrap64 (x7_2 + 1))) = some r := H
        have A6 := Aside0.mk A60
        clear A60
        have H' := Aside0.mk H
        clear H
        go_wp2_with (first|((with_reducible refine gate_callee (f := 87) rfl ?_);refine goesL_ (some 28) rfl rfl Tryd.func87 (by kernel_rfl) rfl #[.int .u32 x5_2] rfl (by (try simp only [List.map_toArray,List.map_cons,List.map_nil]);first|done|rfl|(simp only [List.length_drop,List.length_take];rfl)) ?_;(with_reducible refine (strandlineref03_Step.calls x5_2 t126 _ A6.out).mono ?_);rintro e w' ⟨rfl,⟨nd,rfl⟩⟩;refine ⟨_,rfl,?_⟩))
        go_roundg k2
        case measure => have := HK1.out;have := HK2.out;omega
        case rel => exact ⟨(t126),(wrap64 (x7_2 + 1)),(by first|rfl|(simp;done)|(simp [*];done)),(by first|rfl|(simp;done)|(simp [*];done)),H',⟨by have := HK1.out;have := HK2.out;omega⟩,by repeat (first|exact Drawn0.refl _|apply Drawn0.step)⟩
       ·rw [if_neg c5] at H
        have c5b0 : decide (x7_2 < 8) = false := decide_eq_false c5
        clear c5
        have H' := Aside0.mk H
        clear H
        go_wp2
        go_roundg k2
        case measure => have := HK1.out;have := HK2.out;omega
        case rel => exact ⟨(x5_2),(wrap64 (x6_1 + 1)),(by first|rfl|(simp;done)|(simp [*];done)),(by first|rfl|(simp;done)|(simp [*];done)),H',⟨by have := HK1.out;have := HK2.out;omega⟩,by repeat (first|exact Drawn0.refl _|apply Drawn0.step)⟩
    ·rw [if_neg c4] at H
     exact absurd H (by simp)
   ·rw [if_neg c3] at H
    have c3b0 : decide (x6_1 < (l1.length : Int)) = false := decide_eq_false c3
    clear c3
    obtain rfl := Option.some.inj H
    go_wp2
    go_ret
    exact ⟨by first|rfl|(simp;done)|(simp [*];done),by repeat (first|exact Drawn0.refl _|apply Drawn0.step)⟩
/-! ### strandlineref03_Of: function 78 -/
def strandlineref03_Of.f (k : Nat) (l0 : List Int) : Option (Int) := (strandlineref03_More.f k 0 l0).bind fun t127 => (some t127)
theorem strandlineref03_Of.mono : ∀ a0 k,LeO (strandlineref03_Of.f k a0) (strandlineref03_Of.f (k + 1) a0) := by
 intro a0 k
 unfold strandlineref03_Of.f
 repeat' first
   |(with_reducible exact strandlineref03_More.mono _ _ _)
   |(with_reducible exact LeO.refl _)
   |(with_reducible exact LeO.none _)
   |(with_reducible refine LeO.ite ?_ ?_)
   |(with_reducible refine LeO.bind ?_ (fun _ => ?_))
   |exact strandlineref03_More.mono _ _ _
   |exact LeO.none _
   |refine LeO.ite ?_ ?_
   |refine LeO.bind ?_ (fun _ => ?_)
set_option maxHeartbeats 8000000 in
set_option maxRecDepth 100000 in
theorem strandlineref03_Of.calls (k : Nat) (A0 : Option Addr) (c0 : Nat) (l0 : List Int) (r : Int) (w : World) (hr0 : Kd.C (Kd.int .u8) w A0 l0.length l0) (hc0 : l0.length ≤ c0) (h : strandlineref03_Of.f k l0 = some r) :
  Calls Tryd.prog 78 #[.slice A0 l0.length c0] w fun e w' => e = .returned (.int .u32 r) ∧ Drawn0 w w' := by
 have hu73 := Tryd.underlying73
 have hu76 := Tryd.underlying76
 have hu83 := Tryd.underlying83
 have hu94 := Tryd.underlying94
 have hu106 := Tryd.underlying106
 have HR0 := Aside0.mk hr0
 have HC0 := Aside0.mk hc0
 clear hr0 hc0
 have H : ((strandlineref03_More.f k 0 l0).bind fun t127 => (some t127)) = some r := h
 clear h
 replace H := Option.bind_eq_some_iff.mp H
 obtain ⟨t127,A20,H⟩ := H
 replace H : (some t127) = some r := H
 have A2 := Aside0.mk A20
 clear A20
 obtain rfl := Option.some.inj H
 go_enter Tryd.func78,Tryd.ntmps78
 go_wp2_with (first|((with_reducible refine gate_callee (f := 84) rfl ?_);refine goesL_ (some 4) rfl rfl Tryd.func84 (by kernel_rfl) rfl #[.int .u32 0,.slice A0 l0.length c0] rfl (by (try simp only [List.map_toArray,List.map_cons,List.map_nil]);first|done|rfl|(simp only [List.length_drop,List.length_take];rfl)) ?_;(with_reducible refine (strandlineref03_More.calls k 0 _ _ l0 t127 _ ?side1 ?side2 A2.out).mono ?_);(case side1 => repeat (first|exact HR0.out|(with_reducible refine Kd.C_alloc ?_ _)|(with_reducible refine Kd.C_drewN ?_ _)|(with_reducible refine Kd.C_drew ?_)));(case side2 => exact HC0.out);rintro e w' ⟨rfl,⟨nd,rfl⟩⟩;refine ⟨_,rfl,?_⟩))
 go_ret
 exact ⟨by first|rfl|(simp;done)|(simp [*];done),by repeat (first|exact Drawn0.refl _|apply Drawn0.step)⟩
end Go.Proofs.YtaekpfhgdnfciaaDoor.F
end

section
/- crc in plain numbers: a step, eight steps a byte; that four steps by the table are four steps; the reference's sum; the mask. -/
set_option linter.unusedVariables false
set_option linter.unusedSimpArgs false
namespace Go.Proofs.YtaekpfhgdnfciaaDoor.CrcMath
open Go.RowKit Go.Proofs.YtaekpfhgdnfciaaDoor.F Go.Proofs.YtaekpfhgdnfciaaDoorW.PrintWords Go.Proofs.YtaekpfhgdnfciaaDoorW.PrintLast Go.Proofs.YtaekpfhgdnfciaaDoorW.PrintMore Go.Proofs.YtaekpfhgdnfciaaDoor.Plain
theorem xor32_nat (a b : Nat) (ha : a < 4294967296) (hb : b < 4294967296) : bits .xor .u32 a b = ((a ^^^ b : Nat) : Int) := by
 rw [xor32,BitVec.ofInt_natCast,BitVec.ofInt_natCast,BitVec.toNat_xor,BitVec.toNat_ofNat,BitVec.toNat_ofNat,Nat.mod_eq_of_lt (by omega),Nat.mod_eq_of_lt (by omega)]
theorem xor_lt32 {a b : Nat} (ha : a < 4294967296) (hb : b < 4294967296) : a ^^^ b < 4294967296 := Nat.xor_lt_two_pow (n := 32) ha hb
abbrev P : Nat := 2197175160
/-- one step -/
def stp (n : Nat) : Nat := if n % 2 = 1 then (n / 2) ^^^ P else n / 2
theorem stp_lt {n : Nat} (h : n < 4294967296) : stp n < 4294967296 := by
 unfold stp
 split
 ·exact xor_lt32 (by omega) (by decide)
 ·omega
theorem xor_mod2 (a b : Nat) : (a ^^^ b) % 2 = (a % 2 + b % 2) % 2 := by
 have h := Nat.xor_mod_two_pow (a := a) (b := b) (n := 1)
 rw [show (2 : Nat) ^ 1 = 2 by decide] at h
 rw [h]
 rcases Nat.mod_two_eq_zero_or_one a with h1|h1 <;> rcases Nat.mod_two_eq_zero_or_one b with h2|h2 <;> rw [h1,h2] <;> decide
theorem stp_xor (a b : Nat) : stp (a ^^^ b) = stp a ^^^ stp b := by
 have hp : P ^^^ P = 0 := Nat.xor_self P
 unfold stp
 rw [xor_mod2,Nat.xor_div_two]
 rcases Nat.mod_two_eq_zero_or_one a with h1|h1 <;> rcases Nat.mod_two_eq_zero_or_one b with h2|h2 <;> rw [h1,h2]
 ·rfl
 ·show (a / 2 ^^^ b / 2) ^^^ P = a / 2 ^^^ (b / 2 ^^^ P)
  rw [Nat.xor_assoc]
 ·show (a / 2 ^^^ b / 2) ^^^ P = (a / 2 ^^^ P) ^^^ b / 2
  rw [Nat.xor_assoc,Nat.xor_assoc,Nat.xor_comm P]
 ·show a / 2 ^^^ b / 2 = (a / 2 ^^^ P) ^^^ (b / 2 ^^^ P)
  rw [Nat.xor_assoc,Nat.xor_comm (b / 2) P,← Nat.xor_assoc P,hp,Nat.zero_xor]
theorem stp_even (q : Nat) : stp (2 * q) = q := by unfold stp;rw [if_neg (by omega)];omega
def itr : Nat → Nat → Nat
 |0,n => n
 |r + 1,n => itr r (stp n)
theorem itr_xor (r : Nat) : ∀ a b : Nat,itr r (a ^^^ b) = itr r a ^^^ itr r b := by
 induction r with
 |zero => intro a b;rfl
 |succ r ih => intro a b;show itr r (stp (a ^^^ b)) = itr r (stp a) ^^^ itr r (stp b);rw [stp_xor,ih]
theorem itr_lt (r : Nat) : ∀ {n : Nat},n < 4294967296 → itr r n < 4294967296 := by
 induction r with
 |zero => intro n h;exact h
 |succ r ih => intro n h;exact ih (stp_lt h)
theorem itr_add (r s : Nat) : ∀ n : Nat,itr (r + s) n = itr s (itr r n) := by
 induction r with
 |zero => intro n;rw [Nat.zero_add];rfl
 |succ r ih => intro n;rw [show r + 1 + s = (r + s) + 1 by omega];exact ih (stp n)
theorem itr_shift (r : Nat) : ∀ q : Nat,itr r (2 ^ r * q) = q := by
 induction r with
 |zero => intro q;show 2 ^ 0 * q = q;omega
 |succ r ih =>
  intro q
  show itr r (stp (2 ^ (r + 1) * q)) = q
  rw [show 2 ^ (r + 1) * q = 2 * (2 ^ r * q) by rw [Nat.pow_succ,Nat.mul_comm (2 ^ r) 2,Nat.mul_assoc],stp_even,ih]
theorem split_xor (n r : Nat) : 2 ^ r * (n / 2 ^ r) ^^^ n % 2 ^ r = n := by
 have h1 : n % 2 ^ r < 2 ^ r := Nat.mod_lt _ (Nat.two_pow_pos r)
 apply Nat.eq_of_testBit_eq
 intro i
 rw [Nat.testBit_xor,Nat.testBit_two_pow_mul,Nat.testBit_mod_two_pow,Nat.testBit_div_two_pow]
 by_cases h : i < r
 ·have : ¬ i ≥ r := by omega
  simp [h,this]
 ·have h2 : i ≥ r := by omega
  simp [h,h2,show i - r + r = i by omega]
theorem half_itr : ∀ i : Nat,i < 16 → halfL.getD i 0 = ((itr 4 i : Nat) : Int) := by decide +kernel
theorem four_nat {n : Nat} (h : n < 4294967296) : fourI (n : Int) = ((itr 4 n : Nat) : Int) := by
 unfold fourI
 have e1 : ((n : Int) % 16).toNat = n % 16 := by omega
 have e2 : (n : Int) / 16 = ((n / 16 : Nat) : Int) := by omega
 have hl : n % 16 < 16 := Nat.mod_lt _ (by decide)
 rw [e1,e2,half_itr _ hl,xor32_nat _ _ (itr_lt 4 (by omega)) (by omega)]
 congr 1
 have h3 := split_xor n 4
 have h4 : itr 4 n = itr 4 (2 ^ 4 * (n / 2 ^ 4)) ^^^ itr 4 (n % 2 ^ 4) := by rw [← itr_xor,h3]
 rw [h4,itr_shift,Nat.xor_comm]
theorem stepC_nat {n c : Nat} (h : n < 4294967296) (hc : c < 256) : stepC (n : Int) (c : Int) = ((itr 8 (n ^^^ c) : Nat) : Int) := by
 unfold stepC
 have hx := xor_lt32 h (show c < 4294967296 by omega)
 rw [xor32_nat _ _ h (by omega),four_nat hx,four_nat (itr_lt 4 hx),← itr_add]
/-- the sum's state behind bytes -/
def sums (b : List Int) (n : Nat) : Nat := b.foldl (fun n c => itr 8 (n ^^^ c.toNat)) n
theorem fold_nat (b : List Int) (hb : ∀ c ∈ b,0 ≤ c ∧ c ≤ 255) : ∀ {n : Nat},n < 4294967296 → b.foldl stepC (n : Int) = ((sums b n : Nat) : Int) := by
 induction b with
 |nil => intro n h;rfl
 |cons c b ih =>
  intro n h
  have hc := hb c (List.mem_cons_self ..)
  have hlt := itr_lt 8 (xor_lt32 h (show c.toNat < 4294967296 by omega))
  show b.foldl stepC (stepC n c) = ((sums b (itr 8 (n ^^^ c.toNat)) : Nat) : Int)
  have e : stepC (n : Int) c = ((itr 8 (n ^^^ c.toNat) : Nat) : Int) := by
   have := stepC_nat (n := n) (c := c.toNat) h (by omega)
   rwa [Int.toNat_of_nonneg hc.1] at this
  rw [e]
  exact ih (fun x hx => hb x (List.mem_cons_of_mem _ hx)) hlt
theorem moreI_nat {s : Nat} (hs : s < 4294967296) (b : List Int) (hb : ∀ c ∈ b,0 ≤ c ∧ c ≤ 255) : moreI s b = 4294967295 - ((sums b (4294967295 - s) : Nat) : Int) := by
 unfold moreI
 rw [show (4294967295 : Int) - (s : Int) = ((4294967295 - s : Nat) : Int) by omega,fold_nat b hb (by omega)]
/-! the reference -/
theorem rstep {n : Nat} (h : n < 4294967296) : strandlineref03_Step.f (n : Int) = some ((stp n : Nat) : Int) := by
 unfold strandlineref03_Step.f stp
 rw [tm (by omega),td (by omega)]
 have e2 : (n : Int) / 2 % 4294967296 = ((n / 2 : Nat) : Int) := by omega
 by_cases c : n % 2 = 1
 ·rw [if_pos (by omega),if_pos c,e2,show (2197175160 : Int) = ((P : Nat) : Int) by decide,xor32_nat _ _ (by omega) (by decide)]
 ·rw [if_neg (by omega),if_neg c,e2]
theorem rmore_l1 (b : List Int) (i : Int) (r : Nat) : ∀ (k : Nat) (n : Nat),r ≤ 8 → n < 4294967296 → strandlineref03_More.l1 (k + r + 1) b n i (8 - (r : Int)) = strandlineref03_More.l0 k b ((itr r n : Nat) : Int) (wrap64 (i + 1)) := by
 induction r with
 |zero =>
  intro k n hr h
  simp only [strandlineref03_More.l1]
  rw [if_neg (by omega)]
  rfl
 |succ r ih =>
  intro k n hr h
  rw [show k + (r + 1) + 1 = (k + r + 1) + 1 by omega]
  simp only [strandlineref03_More.l1]
  rw [if_pos (by omega),rstep h,Option.bind_some,show wrap64 (8 - ((r + 1 : Nat) : Int) + 1) = 8 - (r : Int) by rw [w64 (by omega) (by omega)];omega]
  exact ih k (stp n) (by omega) (stp_lt h)
theorem rmore_l0 (b : List Int) (hb : ∀ c ∈ b,0 ≤ c ∧ c ≤ 255) (hl : b.length ≤ 1000000) (d : Nat) : ∀ (k i n : Nat),i + d = b.length → n < 4294967296 → strandlineref03_More.l0 (k + 10 * d + 1) b n i = some (4294967295 - ((sums (b.drop i) n : Nat) : Int)) := by
 induction d with
 |zero =>
  intro k i n hi h
  simp only [strandlineref03_More.l0]
  rw [if_neg (by omega),show i = b.length by omega,List.drop_length]
  show some ((4294967295 - (n : Int)) % 4294967296) = some (4294967295 - ((n : Nat) : Int))
  rw [Int.emod_eq_of_lt (by omega) (by omega)]
 |succ d ih =>
  intro k i n hi h
  have hi2 : i < b.length := by omega
  have hc := hb _ (List.getElem_mem hi2)
  have hrd : rd b i = b[i] := by unfold rd;rw [List.getD_eq_getElem?_getD,Int.toNat_natCast,List.getElem?_eq_getElem hi2];rfl
  rw [show k + 10 * (d + 1) + 1 = (k + 1 + 10 * d + 8 + 1) + 1 by omega]
  simp only [strandlineref03_More.l0]
  have hlt := xor_lt32 h (show (b[i]).toNat < 4294967296 by omega)
  have e : bits .xor .u32 (n : Int) (rd b i % 4294967296) = ((n ^^^ (b[i]).toNat : Nat) : Int) := by
   rw [hrd,Int.emod_eq_of_lt (by omega) (by omega),show b[i] = (((b[i]).toNat : Nat) : Int) by omega,xor32_nat _ _ h (by omega)]
   rfl
  rw [if_pos (by omega),if_pos (by omega),e]
  have h1 := rmore_l1 b i 8 (k + 1 + 10 * d) (n ^^^ (b[i]).toNat) (by omega) hlt
  rw [show (8 : Int) - ((8 : Nat) : Int) = 0 by decide] at h1
  rw [h1,w64 (n := (i : Int) + 1) (by omega) (by omega),List.drop_eq_getElem_cons hi2]
  have h2 := ih k (i + 1) (itr 8 (n ^^^ (b[i]).toNat)) (by omega) (itr_lt 8 hlt)
  rw [show k + 1 + 10 * d = k + 10 * d + 1 by omega]
  exact h2
theorem rmore_eq {s : Nat} (hs : s < 4294967296) (b : List Int) (hb : ∀ c ∈ b,0 ≤ c ∧ c ≤ 255) (hl : b.length ≤ 1000000) (k : Nat) : strandlineref03_More.f (k + 10 * b.length + 1) s b = some (moreI s b) := by
 unfold strandlineref03_More.f
 rw [show ((4294967295 - (s : Int)) % 4294967296) = ((4294967295 - s : Nat) : Int) by omega,moreI_nat hs b hb]
 exact rmore_l0 b hb hl b.length k 0 _ (by omega) (by omega)
theorem rof_eq (b : List Int) (hb : ∀ c ∈ b,0 ≤ c ∧ c ≤ 255) (hl : b.length ≤ 1000000) (k : Nat) : strandlineref03_Of.f (k + 10 * b.length + 1) b = some (moreI 0 b) := by
 unfold strandlineref03_Of.f
 have := rmore_eq (s := 0) (by decide) b hb hl k
 rw [show ((0 : Nat) : Int) = 0 from rfl] at this
 rw [this]
 rfl
/-! the mask -/
theorem or32_nat (a b : Nat) (ha : a < 4294967296) (hb : b < 4294967296) : bits .or .u32 a b = ((a |||b : Nat) : Int) := by
 show IntKind.u32.wrap ((BitVec.ofInt 32 a |||BitVec.ofInt 32 b).toNat : Int) = _
 have hlt := Nat.or_lt_two_pow (n := 32) ha hb
 rw [BitVec.ofInt_natCast,BitVec.ofInt_natCast,BitVec.toNat_or,BitVec.toNat_ofNat,BitVec.toNat_ofNat,Nat.mod_eq_of_lt (by omega),Nat.mod_eq_of_lt (by omega),IntKind.wrap_u32]
 omega
theorem mask_eq {n : Nat} (h : n < 4294967296) : crc_Mask.f n = some ((((n / 32768 + n % 32768 * 131072 + 2726488792) % 4294967296 : Nat)) : Int) := by
 unfold crc_Mask.f
 rw [show (n : Int) / 32768 = ((n / 32768 : Nat) : Int) by omega,show ((n : Int) * 131072) % 4294967296 = ((2 ^ 17 * (n % 32768) : Nat) : Int) by omega,or32_nat _ _ (by omega) (by omega),Nat.or_comm,
  ← Nat.two_pow_add_eq_or_of_lt (show n / 32768 < 2 ^ 17 by omega)]
 refine congrArg some ?_
 omega
theorem rmask_eq {n : Nat} (h : n < 4294967296) : strandlineref03_Mask.f n = some ((((n / 32768 + n % 32768 * 131072 + 2726488792) % 4294967296 : Nat)) : Int) := by
 unfold strandlineref03_Mask.f
 rw [td (by omega),tm (by omega)]
 refine congrArg some ?_
 omega
end Go.Proofs.YtaekpfhgdnfciaaDoor.CrcMath
end

section
/- A fragment's bytes, and back: plain. -/
set_option linter.unusedVariables false
set_option linter.unusedSimpArgs false
namespace Go.Proofs.YtaekpfhgdnfciaaDoor.O
open Go.RowKit Go.Proofs.YtaekpfhgdnfciaaDoorW.PrintWords Go.Proofs.YtaekpfhgdnfciaaDoorW.PrintLast Go.Proofs.YtaekpfhgdnfciaaDoorW.PrintMore Go.Proofs.YtaekpfhgdnfciaaDoor.F Go.Proofs.YtaekpfhgdnfciaaDoor.F.Nums Go.Proofs.YtaekpfhgdnfciaaDoor.Plain Go.Proofs.YtaekpfhgdnfciaaDoor.CrcMath
/-- the masked sum -/
def maskN (n : Nat) : Nat := (n / 32768 + n % 32768 * 131072 + 2726488792) % 4294967296
theorem maskN_lt (n : Nat) : maskN n < 4294967296 := Nat.mod_lt _ (by decide)
theorem drop_app {α : Type} (a b : List α) (n m : Nat) (h : a.length = n) : (a ++ b).drop (n + m) = b.drop m := by
 rw [List.drop_append,List.drop_of_length_le (by omega),List.nil_append]
 congr 1
 omega
def crcN (l : List Int) : Nat := (moreI 0 l).toNat
theorem moreI_lo (l : List Int) : 0 ≤ moreI 0 l ∧ moreI 0 l ≤ 4294967295 := by
 have := fold_in l (4294967295 - 0) (by decide) (by decide)
 unfold moreI
 omega
theorem crcN_eq (l : List Int) : moreI 0 l = (crcN l : Int) := by
 have := moreI_lo l
 unfold crcN
 omega
theorem crcN_lt (l : List Int) : crcN l < 4294967296 := by
 have := moreI_lo l
 unfold crcN
 omega
def sumN (l : List Int) : Nat := maskN (crcN l)
theorem sumN_lt (l : List Int) : sumN l < 4294967296 := maskN_lt _
theorem crc_sum (l : List Int) : crc_Mask.f (moreI 0 l) = some (sumN l : Int) := by rw [crcN_eq];exact mask_eq (crcN_lt l)
theorem rcrc_sum (l : List Int) : strandlineref03_Mask.f (moreI 0 l) = some (sumN l : Int) := by rw [crcN_eq];exact rmask_eq (crcN_lt l)
def bodyL (kind ep : Int) (data : List Int) : List Int := putl data.length 2 ++ (kind :: (putl ep.toNat 4 ++ data))
def encL (kind ep : Int) (data : List Int) : List Int := putl (sumN (bodyL kind ep data)) 4 ++ bodyL kind ep data
theorem bodyL_len (kind ep : Int) (data : List Int) : (bodyL kind ep data).length = 7 + data.length := by simp [bodyL,putl_len];omega
theorem encL_len (kind ep : Int) (data : List Int) : (encL kind ep data).length = 11 + data.length := by unfold encL;rw [List.length_append,bodyL_len,putl_len];omega
def rightF (kind : Int) (n : Nat) : Bool := decide (1 ≤ kind) && decide (kind ≤ 4) && decide (n ≤ 197)
theorem bodyL_bytes {kind ep : Int} {data : List Int} (hk : 0 ≤ kind ∧ kind ≤ 255) (hd : Bytes data) : Bytes (bodyL kind ep data) := by
 refine bytes_append (putl_bytes _ _) (fun c hc => ?_)
 rcases List.mem_cons.1 hc with rfl|hc
 ·exact hk
 ·exact bytes_append (putl_bytes _ _) hd c hc
theorem encL_bytes {kind ep : Int} {data : List Int} (hk : 0 ≤ kind ∧ kind ≤ 255) (hd : Bytes data) : Bytes (encL kind ep data) := bytes_append (putl_bytes _ _) (bodyL_bytes hk hd)
/-- what is decoded: kind, epoch, data, how many, the error -/
def nOf (b : List Int) : Nat := getn (b.drop 4) 2
def kOf (b : List Int) : Int := b.getD 6 0
def eOf (b : List Int) : Int := (getn (b.drop 7) 4 : Nat)
def sOf (b : List Int) : Nat := getn b 4
def decE (b : List Int) (ep : Int) : Int :=
 if b.length < 11 then 1 else if b.take 11 = zs 11 then 7 else if rightF (kOf b) 0 = false ∨ 197 < nOf b ∨ eOf b ≠ ep then 2 else if b.length < 11 + nOf b then 1 else if sOf b ≠ sumN ((b.take (11 + nOf b)).drop 4) then 3 else 0
def decD (b : List Int) : List Int := (b.take (11 + nOf b)).drop 11
theorem nOf_lt {b : List Int} (hb : Bytes b) : nOf b < 65536 := getn_lt (wf_of_bytes (bytes_drop hb 4)) 2
theorem eOf_lt {b : List Int} (hb : Bytes b) : 0 ≤ eOf b ∧ eOf b ≤ 4294967295 := by
 have := getn_lt (wf_of_bytes (bytes_drop hb 7)) 4
 unfold eOf
 omega
theorem sOf_lt {b : List Int} (hb : Bytes b) : sOf b < 4294967296 := getn_lt (wf_of_bytes hb) 4
/-- the bytes behind the sum are those of what is decoded -/
theorem body_dec {b : List Int} (hb : Bytes b) (h : 11 + nOf b ≤ b.length) : bodyL (kOf b) (eOf b) (decD b) = (b.take (11 + nOf b)).drop 4 := by
 have hd : (decD b).length = nOf b := by unfold decD;rw [List.length_drop,List.length_take,Nat.min_eq_left h];omega
 have e1 : putl (nOf b) 2 = (b.drop 4).take 2 := putl_getn (bytes_drop hb 4) 2 (by rw [List.length_drop];omega)
 have e2 : putl (eOf b).toNat 4 = (b.drop 7).take 4 := by unfold eOf;rw [Int.toNat_natCast];exact putl_getn (bytes_drop hb 7) 4 (by rw [List.length_drop];omega)
 have e3 : b[6]? = some (kOf b) := by unfold kOf;rw [List.getD_eq_getElem?_getD,List.getElem?_eq_getElem (by omega)];rfl
 unfold bodyL
 rw [hd,e1,e2]
 generalize hm : 11 + nOf b = m at h ⊢
 have hD : decD b = (b.take m).drop 11 := by unfold decD;rw [hm]
 rw [hD]
 apply List.ext_getElem?
 intro i
 by_cases h1 : i < 2
 ·rw [List.getElem?_append_left (by rw [List.length_take,List.length_drop];omega),List.getElem?_take_of_lt h1,List.getElem?_drop,List.getElem?_drop,List.getElem?_take_of_lt (by omega)]
 ·have l2 : ((b.drop 4).take 2).length = 2 := by rw [List.length_take,List.length_drop];omega
  rw [List.getElem?_append_right (by omega),l2]
  by_cases h2 : i = 2
  ·subst h2
   rw [List.getElem?_drop,List.getElem?_take_of_lt (by omega),e3]
   rfl
  ·obtain ⟨j,rfl⟩ : ∃ j,i = j + 3 := ⟨i - 3,by omega⟩
   rw [show j + 3 - 2 = j + 1 by omega,List.getElem?_cons_succ]
   have l4 : ((b.drop 7).take 4).length = 4 := by rw [List.length_take,List.length_drop];omega
   by_cases h3 : j < 4
   ·rw [List.getElem?_append_left (by omega),List.getElem?_take_of_lt h3,List.getElem?_drop,List.getElem?_drop,List.getElem?_take_of_lt (by omega)]
    congr 1
    omega
   ·rw [List.getElem?_append_right (by omega),l4,List.getElem?_drop,List.getElem?_drop]
    congr 1
    omega
theorem putl_inj {n m : Nat} (hn : n < 4294967296) (hm : m < 4294967296) (h : putl n 4 = putl m 4) : n = m := by
 have h1 := getn_putl n 4
 have h2 := getn_putl m 4
 rw [h] at h1
 rw [h1] at h2
 rw [Nat.mod_eq_of_lt (by omega),Nat.mod_eq_of_lt (by omega)] at h2
 exact h2
/-- by the sum alone -/
theorem enc_dec {b : List Int} (hb : Bytes b) (h : 11 + nOf b ≤ b.length) : encL (kOf b) (eOf b) (decD b) = b.take (11 + nOf b) ↔ sOf b = sumN ((b.take (11 + nOf b)).drop 4) := by
 unfold encL
 rw [body_dec hb h]
 have e4 : putl (sOf b) 4 = b.take 4 := putl_getn hb 4 (by omega)
 have e5 : b.take (11 + nOf b) = b.take 4 ++ (b.take (11 + nOf b)).drop 4 := by
  conv => lhs;rw [← List.take_append_drop 4 (b.take (11 + nOf b))]
  rw [List.take_take,Nat.min_eq_left (by omega)]
 constructor
 ·intro e
  have e' := congrArg (List.take 4) e
  rw [List.take_append_of_le_length (by rw [putl_len];exact Nat.le_refl 4),List.take_of_length_le (by rw [putl_len];exact Nat.le_refl 4),List.take_take,Nat.min_eq_left (by omega),← e4] at e'
  exact (putl_inj (sumN_lt _) (sOf_lt hb) e').symm
 ·intro e
  rw [← e,e4]
  exact e5.symm
theorem dec_ok {b : List Int} {ep : Int} (h : decE b ep = 0) : 11 + nOf b ≤ b.length ∧ rightF (kOf b) 0 = true ∧ nOf b ≤ 197 ∧ eOf b = ep ∧ sOf b = sumN ((b.take (11 + nOf b)).drop 4) := by
 unfold decE at h
 split at h
 ·cases h
 ·split at h
  ·cases h
  ·split at h
   ·cases h
   ·rename_i h3
    split at h
    ·cases h
    ·split at h
     ·cases h
     ·rename_i h5
      have h6 : sOf b = sumN ((b.take (11 + nOf b)).drop 4) := by
       by_cases e : sOf b = sumN ((b.take (11 + nOf b)).drop 4)
       ·exact e
       ·exact absurd e h5
      refine ⟨by omega,?_,by omega,?_,h6⟩
      ·cases hr : rightF (kOf b) 0 with
       |true => rfl
       |false => exact absurd (.inl hr) h3
      ·by_cases e : eOf b = ep
       ·exact e
       ·exact absurd (.inr (.inr e)) h3
/-- what was encoded -/
theorem parts_enc (kind ep : Int) (data rest : List Int) (he : 0 ≤ ep ∧ ep ≤ 4294967295) (hn : data.length ≤ 197) : nOf (encL kind ep data ++ rest) = data.length ∧ kOf (encL kind ep data ++ rest) = kind ∧ eOf (encL kind ep data ++ rest) = ep ∧ sOf (encL kind ep data ++ rest) = sumN (bodyL kind ep data) ∧ decD (encL kind ep data ++ rest) = data ∧ ((encL kind ep data ++ rest).take (11 + data.length)).drop 4 = bodyL kind ep data := by
 have ex : encL kind ep data ++ rest = putl (sumN (bodyL kind ep data)) 4 ++ (putl data.length 2 ++ (kind :: (putl ep.toNat 4 ++ (data ++ rest)))) := by simp [encL,bodyL]
 have d4 : (encL kind ep data ++ rest).drop 4 = putl data.length 2 ++ (kind :: (putl ep.toNat 4 ++ (data ++ rest))) := by rw [ex,List.drop_append_of_le_length (by rw [putl_len];exact Nat.le_refl 4),List.drop_of_length_le (by rw [putl_len];exact Nat.le_refl 4),List.nil_append]
 have d7 : (encL kind ep data ++ rest).drop 7 = putl ep.toNat 4 ++ (data ++ rest) := by
  rw [ex,drop_app _ _ 4 3 (putl_len _ _),drop_app _ _ 2 1 (putl_len _ _)]
  rfl
 have n1 : nOf (encL kind ep data ++ rest) = data.length := by
  unfold nOf
  rw [d4,getn_append _ _ _ (by rw [putl_len];exact Nat.le_refl 2),getn_putl]
  exact Nat.mod_eq_of_lt (by omega)
 refine ⟨n1,?_,?_,?_,?_,?_⟩
 ·unfold kOf
  have : (encL kind ep data ++ rest)[6]? = ((encL kind ep data ++ rest).drop 4)[2]? := by rw [List.getElem?_drop]
  rw [List.getD_eq_getElem?_getD,this,d4,List.getElem?_append_right (by rw [putl_len];exact Nat.le_refl 2),putl_len]
  rfl
 ·unfold eOf
  rw [d7,getn_append _ _ _ (by rw [putl_len];exact Nat.le_refl 4),getn_putl,Nat.mod_eq_of_lt (by omega)]
  omega
 ·unfold sOf
  rw [ex,getn_append _ _ _ (by rw [putl_len];exact Nat.le_refl 4),getn_putl]
  exact Nat.mod_eq_of_lt (by have := sumN_lt (bodyL kind ep data);omega)
 ·unfold decD
  rw [n1,List.take_append_of_le_length (by rw [encL_len];exact Nat.le_refl _),List.take_of_length_le (by rw [encL_len];exact Nat.le_refl _)]
  have e11 : (encL kind ep data).drop 11 = data := by
   have ex' : encL kind ep data = putl (sumN (bodyL kind ep data)) 4 ++ (putl data.length 2 ++ (kind :: (putl ep.toNat 4 ++ data))) := by simp [encL,bodyL]
   rw [ex',drop_app _ _ 4 7 (putl_len _ _),drop_app _ _ 2 5 (putl_len _ _),show (5 : Nat) = 4 + 1 from rfl,List.drop_succ_cons,List.drop_append_of_le_length (by rw [putl_len];exact Nat.le_refl 4),List.drop_of_length_le (by rw [putl_len];exact Nat.le_refl 4),List.nil_append]
  exact e11
 ·rw [List.take_append_of_le_length (by rw [encL_len];exact Nat.le_refl _),List.take_of_length_le (by rw [encL_len];exact Nat.le_refl _)]
  unfold encL
  rw [List.drop_append_of_le_length (by rw [putl_len];exact Nat.le_refl 4),List.drop_of_length_le (by rw [putl_len];exact Nat.le_refl 4),List.nil_append]
theorem enc_not0 {kind ep : Int} {data rest : List Int} (h : 1 ≤ kind) : ¬ (encL kind ep data ++ rest).take 11 = zs 11 := by
 intro e
 have h6 : (encL kind ep data ++ rest)[6]? = some kind := by
  have ex : encL kind ep data ++ rest = putl (sumN (bodyL kind ep data)) 4 ++ (putl data.length 2 ++ (kind :: (putl ep.toNat 4 ++ (data ++ rest)))) := by simp [encL,bodyL]
  rw [ex,List.getElem?_append_right (by rw [putl_len];decide),putl_len,List.getElem?_append_right (by rw [putl_len];decide),putl_len]
  rfl
 have : ((encL kind ep data ++ rest).take 11)[6]? = some kind := by rw [List.getElem?_take_of_lt (by decide)];exact h6
 rw [e] at this
 simp [zs] at this
 omega
theorem dec_enc (kind ep ep' : Int) (data rest : List Int) (hk : rightF kind data.length = true) (he : 0 ≤ ep ∧ ep ≤ 4294967295) : decE (encL kind ep data ++ rest) ep' = if ep' = ep then 0 else 2 := by
 have hr : 1 ≤ kind ∧ kind ≤ 4 ∧ data.length ≤ 197 := by
  unfold rightF at hk
  simp at hk
  omega
 obtain ⟨p1,p2,p3,p4,p5,p6⟩ := parts_enc kind ep data rest he hr.2.2
 have hl := encL_len kind ep data
 unfold decE
 rw [p1,p2,p3,p4,p6,if_neg (by rw [List.length_append];omega),if_neg (enc_not0 hr.1)]
 have hr0 : rightF kind 0 = true := by unfold rightF;simp;omega
 by_cases e : ep' = ep
 ·rw [if_pos e,if_neg (by rw [hr0];simp;exact ⟨by omega,e.symm⟩),if_neg (by rw [List.length_append];omega),if_neg (by simp)]
 ·rw [if_neg e,if_pos (.inr (.inr (fun h => e h.symm)))]
end Go.Proofs.YtaekpfhgdnfciaaDoor.O
end

section
/- What scanning a body tells: plain. -/
set_option linter.unusedVariables false
set_option linter.unusedSimpArgs false
namespace Go.Proofs.YtaekpfhgdnfciaaDoor.O
open Go.RowKit Go.Proofs.YtaekpfhgdnfciaaDoorW.PrintWords Go.Proofs.YtaekpfhgdnfciaaDoorW.PrintLast Go.Proofs.YtaekpfhgdnfciaaDoorW.PrintMore Go.Proofs.YtaekpfhgdnfciaaDoor.F Go.Proofs.YtaekpfhgdnfciaaDoor.F.Nums Go.Proofs.YtaekpfhgdnfciaaDoor.Plain
/-- are all sectors that the places f to t touch stamped? -/
def cov (ok : List Bool) (f t : Int) : Bool := covN ok (tch (cl f) (cl t)).1.toNat ((tch (cl f) (cl t)).2.toNat - (tch (cl f) (cl t)).1.toNat)
/-- the bytes of the block from place p on -/
def frAt (body : List Int) (p : Nat) : List Int := (body.drop p).take (lf (p : Int)).toNat
/-- the fragment told at place p: kind, data, how many bytes -/
def told (ep : Int) (body : List Int) (ok : List Bool) (p : Nat) : Option (Int × List Int × Nat) :=
 if p = 832 then none
 else if cov ok p (p + 11) = false then none
 else if decE (frAt body p) ep ≠ 0 then none
 else if cov ok p (p + (11 + (nOf (frAt body p) : Int))) = false then none
 else some (kOf (frAt body p),decD (frAt body p),11 + nOf (frAt body p))
structure ScSt where
 at_ : Nat
 op : Bool
 b : List Int
 first : Int
 recs : List (List Int)
 places : List Int
 en : Nat
def ScSt0 : ScSt := ⟨0,false,[],0,[],[],0⟩
/-- the place where the next fragment may begin -/
def bgN (a : Nat) : Nat := (bg (cl (a : Int))).toNat
/-- behind a fragment that was told -/
def scFed (s : ScSt) (k : Int) (d : List Int) (n : Nat) : Option ScSt :=
 if (feedF s.op s.b k d).1.2.2 ≠ 0 then none
 else if (feedF s.op s.b k d).1.2.1 = true then
  some ⟨bgN s.at_ + n,(feedF s.op s.b k d).2.1,(feedF s.op s.b k d).2.2,if s.op then s.first else (bgN s.at_ : Int),s.recs ++ [(feedF s.op s.b k d).1.1],s.places ++ [if s.op then s.first else (bgN s.at_ : Int)],bgN s.at_ + n⟩
 else some ⟨bgN s.at_ + n,(feedF s.op s.b k d).2.1,(feedF s.op s.b k d).2.2,if s.op then s.first else (bgN s.at_ : Int),s.recs,s.places,s.en⟩
/-- one step, by what is told at each place -/
def scStep (T : Nat → Option (Int × List Int × Nat)) (s : ScSt) : Option ScSt :=
 match T (bgN s.at_) with
 |none => none
 |some x => scFed s x.1 x.2.1 x.2.2
def scRun (T : Nat → Option (Int × List Int × Nat)) : Nat → ScSt → ScSt
 |0,s => s
 |m + 1,s => match scStep T s with|none => s|some s' => scRun T m s'
/-- all that is scanned -/
def scanM (ep : Int) (body : List Int) (ok : List Bool) : ScSt := scRun (told ep body ok) 76 ScSt0
theorem scRun_none {T : Nat → Option (Int × List Int × Nat)} {s : ScSt} (h : scStep T s = none) (M : Nat) : scRun T M s = s := by
 cases M with
 |zero => rfl
 |succ M => simp only [scRun,h]
theorem scRun_some {T : Nat → Option (Int × List Int × Nat)} {s s' : ScSt} (h : scStep T s = some s') (M : Nat) : scRun T (M + 1) s = scRun T M s' := by simp only [scRun,h]
theorem bgN_le (a : Nat) : bgN a ≤ 832 := by unfold bgN;have := bg_hi (cl_hi (a : Int));have := bg_lo (cl_lo (a : Int));omega
theorem bgN_cast (a : Nat) : ((bgN a : Nat) : Int) = bg (cl (a : Int)) := by unfold bgN;have := bg_lo (cl_lo (a : Int));omega
end Go.Proofs.YtaekpfhgdnfciaaDoor.O
end

section
/- append onto a full slice that is no row of one's own; nothing appended; what is restarted. -/
namespace Go.Proofs.YtaekpfhgdnfciaaDoor.O
open Go.RowKit Go.Proofs.YtaekpfhgdnfciaaDoorW.PrintWords Go.Proofs.YtaekpfhgdnfciaaDoorW.PrintLast Go.Proofs.YtaekpfhgdnfciaaDoorW.PrintMore Go.Proofs.YtaekpfhgdnfciaaDoor.F
set_option linter.unusedVariables false
set_option linter.unusedSimpArgs false
section
variable {P : Program} {o : Oper} {a : Act} {K : Act → World → Prop} {Q : Exit → Act → World → Prop} {w0 W : World} {F : Nat → Option Obj} {L : List Res} {c : Res → List Res} {ops : Array Oper} {rest : List Oper}
theorem In.to {L : List Res} {r : Res} {c : Res → List Res} (h : In L r c) (r' : Res) : In (c r') r' c := by
 induction h with
 |head => exact .head
 |tail h ih => exact .tail ih
end
section
variable {P : Program} {o : Oper} {a : Act}
end
section
variable {P : Program} {o : Oper} {a : Act} {K : Act → World → Prop} {Q : Exit → Act → World → Prop} {w0 W : World} {F : Nat → Option Obj} {L : List Res} {c : Res → List Res} {ops : Array Oper} {rest : List Oper}
end
end Go.Proofs.YtaekpfhgdnfciaaDoor.O
end

section
/- word and crc by what is owned; reading of slices. -/
set_option linter.unusedVariables false
set_option linter.unusedSimpArgs false
namespace Go.Proofs.YtaekpfhgdnfciaaDoor.O
open Go.RowKit Go.Proofs.YtaekpfhgdnfciaaDoorW.PrintWords Go.Proofs.YtaekpfhgdnfciaaDoorW.PrintLast Go.Proofs.YtaekpfhgdnfciaaDoorW.PrintMore Go.Proofs.YtaekpfhgdnfciaaDoor.F Go.Proofs.YtaekpfhgdnfciaaDoor.F.Nums Go.Proofs.YtaekpfhgdnfciaaDoor.Plain
theorem of_own {w0 W : World} {F : Nat → Option Obj} {L : List Res} (H : Own w0 F L W) (hH : Half w0) (A : Option Addr) (n c : Nat) (xs : List Int) (hC : (Kd.int .u8).C W A n xs) (hc : n ≤ c) (hb : Bytes xs) :
  Calls Tryd.prog 72 #[.slice A n c] W fun e W' => e = .returned (.int .u32 (moreI 0 xs)) ∧ Own w0 F L W' := by
 have hn : xs.length = n := hC.1
 subst hn
 refine (of_calls A c xs W hC hc hb (hH.below H.below)).mono ?_
 rintro e W' ⟨rfl,hd⟩
 exact ⟨rfl,H.to hd.below⟩
theorem mask_own {w0 W : World} {F : Nat → Option Obj} {L : List Res} (H : Own w0 F L W) (xs : List Int) :
  Calls Tryd.prog 71 #[.int .u32 (moreI 0 xs)] W fun e W' => e = .returned (.int .u32 (sumN xs : Int)) ∧ Own w0 F L W' := by
 refine (crc_Mask.calls (moreI 0 xs) _ W (crc_sum xs)).mono ?_
 rintro e W' ⟨rfl,hd⟩
 exact ⟨rfl,H.to hd.below⟩
theorem getn_pre {l m : List Int} (i : Nat) (h : ∀ j,j < i → l[j]? = m[j]?) : getn l i = getn m i := by
 induction i with
 |zero => rfl
 |succ i ih =>
  unfold getn
  rw [ih (fun j hj => h j (by omega))]
  congr 3
  unfold rd
  rw [Int.toNat_natCast,List.getD_eq_getElem?_getD,List.getD_eq_getElem?_getD,h i (by omega)]
theorem get_own {w0 W : World} {F : Nat → Option Obj} {L : List Res} (H : Own w0 F L W) (A : Option Addr) (n c : Nat) (xs : List Int) (hC : (Kd.int .u8).C W A n xs) (hc : n ≤ c) (hb : Bytes xs) (h8 : n ≤ 8) :
  Calls Tryd.prog 69 #[.slice A n c] W fun e W' => e = .returned (.int .u64 (getn xs n : Nat)) ∧ Own w0 F L W' := by
 have hn : xs.length = n := hC.1
 subst hn
 have he := get_eq (l := xs) (wf_of_bytes hb) 9 (by decide)
 rw [Nat.min_eq_left h8] at he
 refine (word_Get.calls 9 A c xs _ W hC hc he).mono ?_
 rintro e W' ⟨rfl,hb⟩
 exact ⟨rfl,H.to hb⟩
theorem cut_C {w : World} {A : Option Addr} {n : Nat} {xs : List Int} (h : (Kd.int .u8).C w A n xs) (lo hi c : Nat) (h1 : lo ≤ hi) (h2 : hi ≤ n) (hc : n ≤ c) : (Kd.int .u8).C w (dropA A lo c 1) (hi - lo) ((xs.take hi).drop lo) := by
 have hm := h.2.1
 have hl : xs.length = n := h.1
 have hR := ((Rd.of_C h).take hi).dropA lo c 1 (fun e => by rw [List.length_take,nums_length];omega)
 rw [nums_take,Nat.mul_one,nums_drop] at hR
 exact hR.C (by rw [List.length_drop,List.length_take];omega) (by omega)
theorem r_loadRd0 {P : Program} {o : Oper} {a : Act} {W : World} {p : Addr} {cs : List Value} (ty : TypeId) (x : Operand) (ho : o.op = .load ty x) (hx : a.eval x = .pointer (some p)) (hR : Rd W (some p) cs)
  (n : Nat) (d : TypeDesc) (hu : P.underlying ty = some d) (hd : d.isRow = true) (hi : (P.info? ty).map (·.size) = some n) (hn : 0 < n) (hl : cs.length = n) :
  (execOp a.eval o).run P W = .ok (.value (.agg cs.toArray)) W := by
 have h := r_loadRd (P := P) (o := o) (a := a) ty x ho 0 (ad := p) (cs := cs) (by rw [hx];congr 2) hR n d hu hd hi hn (by omega)
 rwa [List.drop_zero,List.take_of_length_le (by omega)] at h
theorem rget_own {w0 W : World} {F : Nat → Option Obj} {L : List Res} (H : Own w0 F L W) (A : Option Addr) (n c : Nat) (xs : List Int) (hC : (Kd.int .u8).C W A n xs) (hc : n ≤ c) (hb : Bytes xs) (h8 : n ≤ 8) :
  Calls Tryd.prog 75 #[.slice A n c] W fun e W' => e = .returned (.int .u64 (getn xs n : Nat)) ∧ Own w0 F L W' := by
 have hn : xs.length = n := hC.1
 subst hn
 have he := rget_eq (l := xs) (wf_of_bytes hb) 81 (by decide)
 rw [Nat.min_eq_left h8] at he
 refine (strandlineref01_Get.calls 81 A c xs _ W hC hc he).mono ?_
 rintro e W' ⟨rfl,hb⟩
 exact ⟨rfl,H.to hb.below⟩
end Go.Proofs.YtaekpfhgdnfciaaDoor.O
end

section
/- Functions of frag: what each answers, as a Lean function, and that the call answers just this. Turned out of what the kit's print told for this seat. -/
namespace Go.Proofs.YtaekpfhgdnfciaaDoor.F
open Go.RowKit Go.Proofs.YtaekpfhgdnfciaaDoorW.PrintWords Go.Proofs.YtaekpfhgdnfciaaDoorW.PrintLast Go.Proofs.YtaekpfhgdnfciaaDoorW.PrintMore
attribute [local go_sem high] eqA83
attribute [local go_sem] field83_0
attribute [local go_sem] field83_1
attribute [local go_sem] max2_int min2_int max_two min_two max_three min_three max_four min_four
set_option linter.unusedVariables false
set_option linter.unusedSimpArgs false
/-! ### frag_right: function 70 -/
def frag_right.f (a0_0 : Int) (a0_1 : Int) (l0_2 : List Int) : Option (Bool) := if a0_0 ≥ 1 then (if a0_0 ≤ 4 then (some (decide ((l0_2.length : Int) ≤ 197))) else (some false)) else (some false)
set_option maxHeartbeats 8000000 in
set_option maxRecDepth 100000 in
theorem frag_right.calls (a0_0 : Int) (a0_1 : Int) (A0_2 : Option Addr) (c0_2 : Nat) (l0_2 : List Int) (r : Bool) (w : World) (hr0_2 : Kd.C (Kd.int .u8) w A0_2 l0_2.length l0_2) (hc0_2 : l0_2.length ≤ c0_2) (h : frag_right.f a0_0 a0_1 l0_2 = some r) :
  Calls Tryd.prog 70 #[.agg #[.int .i64 a0_0,.int .u32 a0_1,.slice A0_2 l0_2.length c0_2]] w fun e w' => e = .returned (.bool r) ∧ Below w.heap.size w w' := by
 have hu73 := Tryd.underlying73
 have hu83 := Tryd.underlying83
 have hu94 := Tryd.underlying94
 have hu106 := Tryd.underlying106
 have hu76 := Tryd.underlying76
 have HR0_2 := Aside0.mk hr0_2
 have HC0_2 := Aside0.mk hc0_2
 clear hr0_2 hc0_2
 have HB := Aside0.mk (Below.refl w.heap.size w)
 have H : (if a0_0 ≥ 1 then (if a0_0 ≤ 4 then (some (decide ((l0_2.length : Int) ≤ 197))) else (some false)) else (some false)) = some r := h
 clear h
 by_cases c2 : a0_0 ≥ 1
 ·rw [if_pos c2] at H
  have c2b0 : decide (1 ≤ a0_0) = true := decide_eq_true c2
  clear c2
  by_cases c3 : a0_0 ≤ 4
  ·rw [if_pos c3] at H
   have c3b0 : decide (a0_0 ≤ 4) = true := decide_eq_true c3
   clear c3
   obtain rfl := Option.some.inj H
   go_enter Tryd.func70,Tryd.ntmps70
   go_wp2_with (first|((with_reducible refine gate_dst (N := 1) rfl ?_);(try (refine gate_guard (by rfl) ?_;dsimp only));refine box_event ?hg (N := 1) ?hd (cs := #[.int .i64 a0_0,.int .u32 a0_1,.slice A0_2 l0_2.length c0_2]) (t := 76) ?hr ?_;(case hd => rfl);(case hg => rfl);(case hr => first|(go_simp;done)|(go_simp;rfl));intro gb101 hg w4 hbox hb;have n0_ := Aside0.mk (below_step (by repeat (first|(with_reducible first|exact HB.out|apply below_alloc|apply pw_below_drewN|apply below_drew1)|exact HB.out)) hb);have n1_ := Aside0.mk (hbox);have n2_ := Aside0.mk ((by rw [hg];exact (below_size (by repeat (first|(with_reducible first|exact HB.out|apply below_alloc|apply pw_below_drewN|apply below_drew1)|exact HB.out))) : w.heap.size ≤ gb101));have n3_ := Aside0.mk ((by rw [hg];exact (below_size (by repeat (first|(with_reducible first|exact HB.out|apply below_alloc|apply pw_below_drewN|apply below_drew1)|exact HB.out))) : w.heap.size ≤ gb101));clear HB;have HB := n0_;have BK101 := n1_;have GW101 := n2_;have GE101 := n3_;clear n0_ n1_ n2_ n3_;clear hb hbox hg;have hcz5_0 : w4.cell? ⟨gb101,0,none⟩ = some (.int .i64 a0_0) := (blk_cell BK101.out 0).trans rfl;have hcz5_1 : w4.cell? ⟨gb101,1,none⟩ = some (.int .u32 a0_1) := (blk_cell BK101.out 1).trans rfl;have hcz5_2 : w4.cell? ⟨gb101,2,none⟩ = some (.slice A0_2 l0_2.length c0_2) := (blk_cell BK101.out 2).trans rfl;have hfz5_0 := blk_frozen BK101.out 0;have hfz5_1 := blk_frozen BK101.out 1;have hfz5_2 := blk_frozen BK101.out 2))
   go_ret
   exact ⟨by first|rfl|(simp [errW_none,errW_some] <;> rfl)|(simp [*,errW_none,errW_some] <;> rfl),by repeat (first|(with_reducible first|exact HB.out|apply below_alloc|apply pw_below_drewN|apply below_drew1|refine below_set ?_ GE101.out)|exact HB.out)⟩
  ·rw [if_neg c3] at H
   have c3b0 : decide (a0_0 ≤ 4) = false := decide_eq_false c3
   clear c3
   obtain rfl := Option.some.inj H
   go_enter Tryd.func70,Tryd.ntmps70
   go_wp2_with (first|((with_reducible refine gate_dst (N := 1) rfl ?_);(try (refine gate_guard (by rfl) ?_;dsimp only));refine box_event ?hg (N := 1) ?hd (cs := #[.int .i64 a0_0,.int .u32 a0_1,.slice A0_2 l0_2.length c0_2]) (t := 76) ?hr ?_;(case hd => rfl);(case hg => rfl);(case hr => first|(go_simp;done)|(go_simp;rfl));intro gb101 hg w6 hbox hb;have n0_ := Aside0.mk (below_step (by repeat (first|(with_reducible first|exact HB.out|apply below_alloc|apply pw_below_drewN|apply below_drew1)|exact HB.out)) hb);have n1_ := Aside0.mk (hbox);have n2_ := Aside0.mk ((by rw [hg];exact (below_size (by repeat (first|(with_reducible first|exact HB.out|apply below_alloc|apply pw_below_drewN|apply below_drew1)|exact HB.out))) : w.heap.size ≤ gb101));have n3_ := Aside0.mk ((by rw [hg];exact (below_size (by repeat (first|(with_reducible first|exact HB.out|apply below_alloc|apply pw_below_drewN|apply below_drew1)|exact HB.out))) : w.heap.size ≤ gb101));clear HB;have HB := n0_;have BK101 := n1_;have GW101 := n2_;have GE101 := n3_;clear n0_ n1_ n2_ n3_;clear hb hbox hg;have hcz7_0 : w6.cell? ⟨gb101,0,none⟩ = some (.int .i64 a0_0) := (blk_cell BK101.out 0).trans rfl;have hcz7_1 : w6.cell? ⟨gb101,1,none⟩ = some (.int .u32 a0_1) := (blk_cell BK101.out 1).trans rfl;have hcz7_2 : w6.cell? ⟨gb101,2,none⟩ = some (.slice A0_2 l0_2.length c0_2) := (blk_cell BK101.out 2).trans rfl;have hfz7_0 := blk_frozen BK101.out 0;have hfz7_1 := blk_frozen BK101.out 1;have hfz7_2 := blk_frozen BK101.out 2))
   go_ret
   exact ⟨by first|rfl|(simp [errW_none,errW_some] <;> rfl)|(simp [*,errW_none,errW_some] <;> rfl),by repeat (first|(with_reducible first|exact HB.out|apply below_alloc|apply pw_below_drewN|apply below_drew1|refine below_set ?_ GE101.out)|exact HB.out)⟩
 ·rw [if_neg c2] at H
  have c2b0 : decide (1 ≤ a0_0) = false := decide_eq_false c2
  clear c2
  obtain rfl := Option.some.inj H
  go_enter Tryd.func70,Tryd.ntmps70
  go_wp2_with (first|((with_reducible refine gate_dst (N := 1) rfl ?_);(try (refine gate_guard (by rfl) ?_;dsimp only));refine box_event ?hg (N := 1) ?hd (cs := #[.int .i64 a0_0,.int .u32 a0_1,.slice A0_2 l0_2.length c0_2]) (t := 76) ?hr ?_;(case hd => rfl);(case hg => rfl);(case hr => first|(go_simp;done)|(go_simp;rfl));intro gb101 hg w8 hbox hb;have n0_ := Aside0.mk (below_step (by repeat (first|(with_reducible first|exact HB.out|apply below_alloc|apply pw_below_drewN|apply below_drew1)|exact HB.out)) hb);have n1_ := Aside0.mk (hbox);have n2_ := Aside0.mk ((by rw [hg];exact (below_size (by repeat (first|(with_reducible first|exact HB.out|apply below_alloc|apply pw_below_drewN|apply below_drew1)|exact HB.out))) : w.heap.size ≤ gb101));have n3_ := Aside0.mk ((by rw [hg];exact (below_size (by repeat (first|(with_reducible first|exact HB.out|apply below_alloc|apply pw_below_drewN|apply below_drew1)|exact HB.out))) : w.heap.size ≤ gb101));clear HB;have HB := n0_;have BK101 := n1_;have GW101 := n2_;have GE101 := n3_;clear n0_ n1_ n2_ n3_;clear hb hbox hg;have hcz9_0 : w8.cell? ⟨gb101,0,none⟩ = some (.int .i64 a0_0) := (blk_cell BK101.out 0).trans rfl;have hcz9_1 : w8.cell? ⟨gb101,1,none⟩ = some (.int .u32 a0_1) := (blk_cell BK101.out 1).trans rfl;have hcz9_2 : w8.cell? ⟨gb101,2,none⟩ = some (.slice A0_2 l0_2.length c0_2) := (blk_cell BK101.out 2).trans rfl;have hfz9_0 := blk_frozen BK101.out 0;have hfz9_1 := blk_frozen BK101.out 1;have hfz9_2 := blk_frozen BK101.out 2))
  go_ret
  exact ⟨by first|rfl|(simp [errW_none,errW_some] <;> rfl)|(simp [*,errW_none,errW_some] <;> rfl),by repeat (first|(with_reducible first|exact HB.out|apply below_alloc|apply pw_below_drewN|apply below_drew1|refine below_set ?_ GE101.out)|exact HB.out)⟩
end Go.Proofs.YtaekpfhgdnfciaaDoor.F
end

section
/- frag.Encode, by what is owned. -/
set_option linter.unusedVariables false
set_option linter.unusedSimpArgs false
namespace Go.Proofs.YtaekpfhgdnfciaaDoor.O
open Go.RowKit Go.Proofs.YtaekpfhgdnfciaaDoorW.PrintWords Go.Proofs.YtaekpfhgdnfciaaDoorW.PrintLast Go.Proofs.YtaekpfhgdnfciaaDoorW.PrintMore Go.Proofs.YtaekpfhgdnfciaaDoor.F Go.Proofs.YtaekpfhgdnfciaaDoor.F.Nums Go.Proofs.YtaekpfhgdnfciaaDoor.Plain
theorem right_eq (kind ep : Int) (data : List Int) : frag_right.f kind ep data = some (rightF kind data.length) := by
 unfold frag_right.f rightF
 by_cases h1 : kind ≥ 1
 ·by_cases h2 : kind ≤ 4
  ·rw [if_pos h1,if_pos h2,decide_eq_true (show 1 ≤ kind from h1),decide_eq_true h2]
   simp only [Bool.true_and,Option.some.injEq]
   rw [decide_eq_decide]
   omega
  ·rw [if_pos h1,if_neg h2,decide_eq_false h2];simp
 ·rw [if_neg h1,decide_eq_false (show ¬ 1 ≤ kind from h1)];simp
theorem right_parts {kind : Int} {n : Nat} (h : rightF kind n = true) : 1 ≤ kind ∧ kind ≤ 4 ∧ n ≤ 197 := by
 unfold rightF at h
 simp at h
 omega
end Go.Proofs.YtaekpfhgdnfciaaDoor.O
end
