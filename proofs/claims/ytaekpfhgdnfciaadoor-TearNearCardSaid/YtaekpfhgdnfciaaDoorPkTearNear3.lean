/- Texts of mine put together: F0, Hcrc, Door, OpenN, Arr, Own, Ty. -/
import Derived.Test.YtaekpfhgdnfciaaDoorProg
import Derived.Below
import Derived.Deep.Draws
import Derived.Deep.AppendLies
import Derived.Maps.AppendAt
import Derived.OwnWalk
import Derived.Laws.BytesArg
import Derived.Laws.MakeOwn
import Derived.Laws.OwnMore
import Derived.Deep.OwnRows
import Derived.Tactics
import Derived.Lib.ConvBytes
import Derived.Laws.Slices
import Derived.WalkKit
import Derived.KernelRfl
import Derived.RowKit3
import Derived.Deep.LoopGhost
import Derived.Deep.QuietTactic
import Derived.BigQuiet
import Derived.WideLaws
import Derived.Deep.DeepCutAuto
import Derived.Deep.CutBlock
import Derived.Deep.RegionHeld3
import Derived.Laws.Rows
import Derived.Lib.AppendStr
import Derived.ArgAppend
import Derived.Laws.IdiomCopy
import Derived.OrdersHeld
import Derived.Laws.BitsLemmas
import Derived.RowKit
import Derived.Test.YtaekpfhgdnfciaaDoorPkTearNear1
import Derived.Test.YtaekpfhgdnfciaaDoorPkTearNear2
import Derived.Test.YtaekpfhgdnfciaaDoorRows
import Derived.ProofKit
import Derived.LaidMore
import Derived.OpenShut
import Derived.ShutString
import Derived.ChangeOld
import Derived.SizedLaws
import Derived.Lib.SmallJoins
import Derived.Stop.Joined
import Derived.ChangeArms
import Derived.Deep.Slices
import Derived.Deep.Strs
import Derived.Laws.CopyOwn
import Derived.Deep.MidRow
set_option linter.unusedVariables false
set_option linter.unusedSimpArgs false

section
namespace Go.Proofs.YtaekpfhgdnfciaaDoor.F
open Go.RowKit Go.Proofs.YtaekpfhgdnfciaaDoorW.PrintWords Go.Proofs.YtaekpfhgdnfciaaDoorW.PrintLast Go.Proofs.YtaekpfhgdnfciaaDoorW.PrintMore
attribute [local go_sem] max2_int min2_int max_two min_two max_three min_three max_four min_four
def errW : Option Int → Value
 |none => .nilIface
 |some c => .iface 0 (.int .i64 c)
theorem errW_none : errW none = .nilIface := rfl
theorem errW_some (c : Int) : errW (some c) = .iface 0 (.int .i64 c) := rfl
theorem info3 : (Tryd.prog.info? 3).map (fun i => (i.zero,i.size,i.bytes)) = some (some (.int .i64 0),1,8) := by kernel_rfl
theorem info5 : (Tryd.prog.info? 5).map (fun i => (i.zero,i.size,i.bytes)) = some (some (.int .u8 0),1,1) := by kernel_rfl
theorem info94 : (Tryd.prog.info? 94).map (fun i => (i.zero,i.size,i.bytes)) = some (some (.agg #[(.int .i64 0),(.int .i64 0),(.int .i64 0),(.int .i64 0)]),4,32) := by kernel_rfl
/-! #### struct type 94 -/
structure S94 where
 f0 : Int
 f1 : Int
 f2 : Int
 f3 : Int
def z94 : S94 := ⟨(0 : Int),(0 : Int),(0 : Int),(0 : Int)⟩
def k94 : Kd S94 := Kd.iso (Kd.pair (Kd.int .i64) (Kd.pair (Kd.int .i64) (Kd.pair (Kd.int .i64) (Kd.int .i64)))) (fun x : S94 => (x.f0,x.f1,x.f2,x.f3))
theorem k94_open {w : World} {x : S94} {cs : List Value} (h : k94.K w x cs) : cs = [.int .i64 x.f0,.int .i64 x.f1,.int .i64 x.f2,.int .i64 x.f3] := by
 obtain ⟨_,_,rfl,rfl,⟨_,_,rfl,rfl,⟨_,_,rfl,rfl,rfl⟩⟩⟩ := h
 exact rfl
theorem k94_openM {w : World} {base : Nat} {ok : Nat → Prop} {x : S94} {cs : List Value} (h : k94.M w base ok x cs) : cs = [.int .i64 x.f0,.int .i64 x.f1,.int .i64 x.f2,.int .i64 x.f3] := by
 obtain ⟨_,_,rfl,rfl,⟨_,_,rfl,rfl,⟨_,_,rfl,rfl,rfl⟩⟩⟩ := h
 exact rfl
theorem k94_mkM (w : World) (base : Nat) (ok : Nat → Prop) (x : S94)  : k94.M w base ok x [.int .i64 x.f0,.int .i64 x.f1,.int .i64 x.f2,.int .i64 x.f3] := ⟨[.int .i64 x.f0],[.int .i64 x.f1,.int .i64 x.f2,.int .i64 x.f3],rfl,rfl,⟨[.int .i64 x.f1],[.int .i64 x.f2,.int .i64 x.f3],rfl,rfl,⟨[.int .i64 x.f2],[.int .i64 x.f3],rfl,rfl,rfl⟩⟩⟩
def rd_T94 (xs : List S94) (i : Int) : S94 := xs.getD i.toNat z94
theorem at_T94 {w : World} {A : Option Addr} {n : Nat} {xs : List S94} (h : Kd.C k94 w A n xs) (i : Int) (h0 : 0 ≤ i) (h1 : i < n) : ∃ ad,A = some ad ∧ w.cell? (ad.add (i.toNat * 4)) = some (.int .i64 (rd_T94 xs i).f0) ∧ w.cell? ⟨(ad.add (i.toNat * 4)).block,(ad.add (i.toNat * 4)).off + 1,none⟩ = some (.int .i64 (rd_T94 xs i).f1) ∧ w.cell? ⟨(ad.add (i.toNat * 4)).block,(ad.add (i.toNat * 4)).off + 2,none⟩ = some (.int .i64 (rd_T94 xs i).f2) ∧ w.cell? ⟨(ad.add (i.toNat * 4)).block,(ad.add (i.toNat * 4)).off + 3,none⟩ = some (.int .i64 (rd_T94 xs i).f3) := by
 obtain ⟨ad,c,e,_,hK,hc0⟩ := Kd.C_get h z94 i h0 h1
 have hc : ∀ j u,c[j]? = some u → w.cell? (ad.add (i.toNat * 4 + j)) = some u := hc0
 obtain rfl := k94_open hK
 exact ⟨ad,e,hc 0 _ rfl,by rw [← add_field _ _ 1 (by omega)];exact hc 1 _ rfl,by rw [← add_field _ _ 2 (by omega)];exact hc 2 _ rfl,by rw [← add_field _ _ 3 (by omega)];exact hc 3 _ rfl⟩
def rd_L3 (xs : List (List Int)) (i : Int) : (List Int) := xs.getD i.toNat ([] : List Int)
theorem at_L3 {w : World} {A : Option Addr} {n : Nat} {xs : List (List Int)} (h : Kd.C (Kd.slice 5 (Kd.int .u8)) w A n xs) (i : Int) (h0 : 0 ≤ i) (h1 : i < n) : ∃ ad A0 c0,A = some ad ∧ w.cell? (ad.add i.toNat) = some (.slice A0 (rd_L3 xs i).length c0) ∧ (rd_L3 xs i).length ≤ c0 ∧ (Kd.int .u8).C w A0 (rd_L3 xs i).length (rd_L3 xs i) := by
 obtain ⟨ad,c,e,_,hK,hc0⟩ := Kd.C_get h ([] : List Int) i h0 h1
 have hc : ∀ j u,c[j]? = some u → w.cell? (ad.add (i.toNat * 1 + j)) = some u := hc0
 obtain ⟨A0,c0,rfl,l0,g0⟩ := hK
 exact ⟨ad,A0,c0,e,by have hq := hc 0 _ rfl;rwa [Nat.mul_one,Nat.add_zero] at hq,l0,g0⟩
def rd_L4 (xs : List (List Int)) (i : Int) : (List Int) := xs.getD i.toNat ([] : List Int)
theorem at_L4 {w : World} {A : Option Addr} {n : Nat} {xs : List (List Int)} (h : Kd.C (Kd.slice 5 (Kd.int .u8)) w A n xs) (i : Int) (h0 : 0 ≤ i) (h1 : i < n) : ∃ ad A0 c0,A = some ad ∧ w.cell? (ad.add i.toNat) = some (.slice A0 (rd_L4 xs i).length c0) ∧ (rd_L4 xs i).length ≤ c0 ∧ (Kd.int .u8).C w A0 (rd_L4 xs i).length (rd_L4 xs i) := by
 obtain ⟨ad,c,e,_,hK,hc0⟩ := Kd.C_get h ([] : List Int) i h0 h1
 have hc : ∀ j u,c[j]? = some u → w.cell? (ad.add (i.toNat * 1 + j)) = some u := hc0
 obtain ⟨A0,c0,rfl,l0,g0⟩ := hK
 exact ⟨ad,A0,c0,e,by have hq := hc 0 _ rfl;rwa [Nat.mul_one,Nat.add_zero] at hq,l0,g0⟩
theorem info76 : (Tryd.prog.info? 76).map (fun i => (i.zero,i.size,i.bytes)) = some (some (.agg #[(.int .i64 0),(.int .u32 0),(.slice none 0 0)]),3,40) := by kernel_rfl
/-! #### struct type 76 -/
structure S76 where
 f0 : Int
 f1 : Int
 f2 : (List Int)
def z76 : S76 := ⟨(0 : Int),(0 : Int),([] : List Int)⟩
def k76 : Kd S76 := Kd.iso (Kd.pair (Kd.int .i64) (Kd.pair (Kd.int .u32) (Kd.slice 5 (Kd.int .u8)))) (fun x : S76 => (x.f0,x.f1,x.f2))
theorem k76_openM {w : World} {base : Nat} {ok : Nat → Prop} {x : S76} {cs : List Value} (h : k76.M w base ok x cs) : ∃ v2,cs = [.int .i64 x.f0,.int .u32 x.f1,v2] ∧ (Kd.int .u8).R 5 w base ok v2 x.f2 := by
 obtain ⟨_,_,rfl,rfl,⟨_,_,rfl,rfl,⟨v2,rfl,g2⟩⟩⟩ := h
 exact ⟨v2,rfl,g2⟩
theorem k76_mkM (w : World) (base : Nat) (ok : Nat → Prop) (x : S76) {v2 : Value} (g2 : (Kd.int .u8).R 5 w base ok v2 x.f2) : k76.M w base ok x [.int .i64 x.f0,.int .u32 x.f1,v2] := ⟨[.int .i64 x.f0],[.int .u32 x.f1,v2],rfl,rfl,⟨[.int .u32 x.f1],[v2],rfl,rfl,⟨v2,rfl,g2⟩⟩⟩
def rd_T76 (xs : List S76) (i : Int) : S76 := xs.getD i.toNat z76
theorem eqA83 (d : Nat) (w : World) (x0 y0 : Int) (x1 y1 : Int) :
  (Op.equalIn (d + 2) 83 (.agg #[.int .i64 x0,.int .i64 x1]) (.agg #[.int .i64 y0,.int .i64 y1])).run Tryd.prog w = .ok (x0 == y0 && (x1 == y1)) w := by
 refine eqA_of Tryd.underlying83 (by kernel_rfl) ?_
 refine eqf_cons (by rfl) (by go_simp;rfl) (by go_simp;rfl) (by go_simp) ?_
 exact eqf_last (by rfl) (by go_simp;rfl) (by go_simp;rfl) (by go_simp)theorem field83_0 (x0 x1 : Value) (w : World) : (Instr.field 83 (.agg #[x0,x1]) 0).run Tryd.prog w = .ok x0 w := by kernel_rfl
theorem field83_1 (x0 x1 : Value) (w : World) : (Instr.field 83 (.agg #[x0,x1]) 1).run Tryd.prog w = .ok x1 w := by kernel_rfl
end Go.Proofs.YtaekpfhgdnfciaaDoor.F
end

section
namespace Go.Proofs.YtaekpfhgdnfciaaDoor.F
open Go.RowKit Go.Proofs.YtaekpfhgdnfciaaDoorW.PrintWords Go.Proofs.YtaekpfhgdnfciaaDoorW.PrintLast Go.Proofs.YtaekpfhgdnfciaaDoorW.PrintMore
theorem w64c {n : Int} (h0 : -9223372036854775808 ≤ n) (h1 : n ≤ 9223372036854775807) : wrap64 n = n := by
 unfold wrap64
 omega
def halfL : List Int := [0,274646895,549293790,820201905,1098587580,1361435347,1640403810,1905808397,2197175160,2460548119,2722870694,2987750089,3280807620,3553878443,3811616794,4084100981]
def Half (w : World) : Prop := ∀ i : Nat,i < 16 → w.cell? ⟨0,i,none⟩ = some (.int .u32 (halfL.getD i 0))
theorem Half.below {w w' : World} (h : Half w) (hb : Below w.heap.size w w') : Half w' := fun i hi => (hb.cell (World.block_lt_of_cell? w _ (h i hi))).trans (h i hi)
theorem Half.at_ {w w' : World} (h : Aside0 (Half w)) (hb : Aside0 (Below w.heap.size w w')) : Half w' := h.out.below hb.out
theorem Half.alloc {w : World} (h : Half w) (o : Obj) : Half (w.alloc o) := h.below (below_alloc (Below.refl _ _) o)
theorem Half.drewN {w : World} (h : Half w) (n : Nat) : Half (w.drewN n) := h
theorem Half.drew {w : World} (h : Half w) : Half w.drew := h
theorem bv32 (n : Int) : ((BitVec.ofInt 32 n).toNat : Int) = n % 4294967296 := by
 rw [BitVec.toNat_ofInt]
 have h := Int.emod_nonneg n (show (4294967296 : Int) ≠ 0 by decide)
 rw [show ((2 ^ 32 : Nat) : Int) = 4294967296 by decide]
 omega
theorem u32_and15 {x : Int} (h0 : 0 ≤ x) (h1 : x ≤ 4294967295) : bits .and .u32 x 15 = x % 16 := by
 show IntKind.u32.wrap ((BitVec.ofInt 32 x &&& BitVec.ofInt 32 15).toNat : Int) = _
 have h2 := bv32 x
 rw [BitVec.toNat_and,show (BitVec.ofInt 32 15).toNat = 2 ^ 4 - 1 by decide,Nat.and_two_pow_sub_one_eq_mod,IntKind.wrap_u32]
 omega
theorem xor32 (a b : Int) : bits .xor .u32 a b = ((BitVec.ofInt 32 a ^^^ BitVec.ofInt 32 b).toNat : Int) := by
 show IntKind.u32.wrap ((BitVec.ofInt 32 a ^^^ BitVec.ofInt 32 b).toNat : Int) = _
 have := (BitVec.ofInt 32 a ^^^ BitVec.ofInt 32 b).isLt
 rw [IntKind.wrap_u32]
 omega
theorem xor_u32 (x c : Int) : 0 ≤ bits .xor .u32 x c ∧ bits .xor .u32 x c ≤ 4294967295 := by
 rw [xor32]
 have := (BitVec.ofInt 32 x ^^^ BitVec.ofInt 32 c).isLt
 omega
theorem not_u32 {a : Int} (h0 : 0 ≤ a) (h1 : a ≤ 4294967295) : bits .xor .u32 IntKind.u32.max a = 4294967295 - a := by
 rw [xor32,show IntKind.u32.max = 4294967295 by decide]
 have h2 := bv32 a
 have h3 := (BitVec.ofInt 32 a).isLt
 rw [BitVec.xor_comm,show BitVec.ofInt 32 4294967295 = BitVec.allOnes 32 by decide,BitVec.xor_allOnes,BitVec.toNat_not]
 omega
def fourI (x : Int) : Int := bits .xor .u32 (halfL.getD (x % 16).toNat 0) (x / 16)
theorem four_calls (x : Int) (w : World) (hH : Half w) (h0 : 0 ≤ x) (h1 : x ≤ 4294967295) :
  Calls Tryd.prog 86 #[.int .u32 x] w fun e w' => e = .returned (.int .u32 (fourI x)) ∧ w = w' := by
 have c := hH (x % 16).toNat (by omega)
 have e1 := u32_and15 h0 h1
 have e2 : (0 : Int) ≤ x % 16 := by omega
 have e3 : x % 16 < 16 := by omega
 go_enter Tryd.func86,Tryd.ntmps86
 go_wp2
 go_ret
 refine ⟨?_,rfl⟩
 unfold fourI
 rw [List.getD_eq_getElem?_getD]
 rfl
def stepC (x c : Int) : Int := fourI (fourI (bits .xor .u32 x c))
def moreI (sum : Int) (b : List Int) : Int := 4294967295 - b.foldl stepC (4294967295 - sum)
theorem fourI_in (x : Int) : 0 ≤ fourI x ∧ fourI x ≤ 4294967295 := xor_u32 _ _
theorem fold_in (b : List Int) : ∀ x : Int,0 ≤ x → x ≤ 4294967295 → 0 ≤ b.foldl stepC x ∧ b.foldl stepC x ≤ 4294967295 := by
 induction b with
 |nil => intro x h0 h1;exact ⟨h0,h1⟩
 |cons c b ih => intro x h0 h1;exact ih _ (fourI_in _).1 (fourI_in _).2
set_option maxHeartbeats 2000000 in
theorem more_calls (sum : Int) (A1 : Option Addr) (c1 : Nat) (l1 : List Int) (w : World) (hr1 : Kd.C (Kd.int .u8) w A1 l1.length l1) (hc1 : l1.length ≤ c1) (h0 : 0 ≤ sum) (h1 : sum ≤ 4294967295) (hb : ∀ c ∈ l1,0 ≤ c ∧ c ≤ 255) (hH : Half w) :
  Calls Tryd.prog 82 #[.int .u32 sum,.slice A1 l1.length c1] w fun e w' => e = .returned (.int .u32 (moreI sum l1)) ∧ Drawn0 w w' := by
 have HR := Aside0.mk hr1
 have HC := Aside0.mk hc1
 have HL := Aside0.mk (show l1.length ≤ 9223372036854775807 by have := hr1.2.1;omega)
 clear hr1 hc1
 have HH := Aside0.mk hH
 clear hH
 have hs : IntKind.u32.signed = false := rfl
 have hm := not_u32 h0 h1
 go_enter Tryd.func82,Tryd.ntmps82
 go_wp2
 clear hm
 go_loopg [5,7,12] l1.length (fun gq v5 v7 v12 w' => ∃ (i : Nat),v12 = .int .i64 i ∧ v5 = .int .u32 ((l1.take i).foldl stepC (4294967295 - sum)) ∧ Aside0 (i + gq = l1.length) ∧ Drawn0 w w')
 case atStart => exact ⟨0,rfl,rfl,⟨by omega⟩,Drawn0.refl _⟩
 case round =>
  obtain ⟨i,rfl,rfl,HQ,⟨m1,rfl⟩⟩ := hrel
  have hI := Aside0.mk (fold_in (l1.take i) (4294967295 - sum) (by omega) (by omega))
  by_cases ci : i < l1.length
  ·obtain ⟨gk',rfl⟩ : ∃ q,gk = q + 1 := ⟨gk - 1,by have := HQ.out;omega⟩
   have hx : (l1.take (i + 1)).foldl stepC (4294967295 - sum) = stepC ((l1.take i).foldl stepC (4294967295 - sum)) (l1.getD i 0) := by
    rw [List.take_add_one,List.foldl_append,List.getElem?_eq_getElem ci,List.getD_eq_getElem?_getD,List.getElem?_eq_getElem ci]
    rfl
   have hc := hb _ (List.getElem_mem ci)
   have hg : l1.getD i 0 = l1[i] := by rw [List.getD_eq_getElem?_getD,List.getElem?_eq_getElem ci];rfl
   rw [← hg] at hc
   obtain ⟨ad,x0,rfl⟩ : ∃ ad,w.cell? (ad.add i) = some (.int .u8 (l1.getD i 0)) ∧ A1 = some ad := by
    obtain ⟨ad,c,e,hl,hK,hcc⟩ := Kd.C_get HR.out 0 (i : Int) (by omega) (by omega)
    have hc' : c = [.int .u8 (l1.getD (i : Int).toNat 0)] := hK
    subst hc'
    have := hcc 0 _ rfl
    rw [Int.toNat_natCast] at this
    exact ⟨ad,by simpa [show (Kd.int .u8).sz = 1 from rfl] using this,e⟩
   generalize l1.getD i 0 = c at hx hc x0
   generalize (l1.take i).foldl stepC (4294967295 - sum) = x at hI hx ⊢
   have p0 : ((0 : Int) ≤ (i : Int)) = True := eq_true (by omega)
   have p1 : ((i : Int) < (l1.length : Int)) = True := eq_true (by omega)
   clear hb hg
   go_wp2_with fail
   refine (four_calls _ _ (HH.out.drewN _) (xor_u32 _ _).1 (xor_u32 _ _).2).mono ?_
   rintro e w3 ⟨rfl,rfl⟩
   go_wp2_with fail
   refine (four_calls _ _ (HH.out.drewN _) (fourI_in _).1 (fourI_in _).2).mono ?_
   rintro e w3 ⟨rfl,rfl⟩
   go_wp2
   go_roundg gk'
   case measure => omega
   case rel => exact ⟨i + 1,by rw [w64c (n := (i : Int) + 1) (by omega) (by have := HL.out;omega)];rfl,by rw [hx];rfl,⟨by have := HQ.out;omega⟩,by repeat (first|exact Drawn0.refl _|apply Drawn0.step)⟩
  ·have hi : i = l1.length := by have := HQ.out;omega
   subst hi
   have hg0 : gk = 0 := by have := HQ.out;omega
   subst hg0
   rw [List.take_length] at hI ⊢
   have hm := not_u32 hI.out.1 hI.out.2
   have p1 : ((l1.length : Int) < (l1.length : Int)) = False := eq_false (by omega)
   have p2 : decide ((l1.length : Int) < (l1.length : Int)) = false := decide_eq_false (by omega)
   clear hb
   go_wp2
   go_ret
   exact ⟨rfl,by repeat (first|exact Drawn0.refl _|apply Drawn0.step)⟩
set_option maxHeartbeats 1000000 in
theorem of_calls (A1 : Option Addr) (c1 : Nat) (l1 : List Int) (w : World) (hr1 : Kd.C (Kd.int .u8) w A1 l1.length l1) (hc1 : l1.length ≤ c1) (hb : ∀ c ∈ l1,0 ≤ c ∧ c ≤ 255) (hH : Half w) :
  Calls Tryd.prog 72 #[.slice A1 l1.length c1] w fun e w' => e = .returned (.int .u32 (moreI 0 l1)) ∧ Drawn0 w w' := by
 go_enter Tryd.func72,Tryd.ntmps72
 go_wp2_with fail
 refine (more_calls 0 A1 c1 l1 _ hr1 hc1 (by omega) (by omega) hb hH).mono ?_
 rintro e w3 ⟨rfl,hd⟩
 go_wp2
 go_ret
 exact ⟨rfl,hd⟩
/-! as the print's texts take them: numbers in range -/
end Go.Proofs.YtaekpfhgdnfciaaDoor.F
end

section
namespace Go.Proofs.YtaekpfhgdnfciaaDoor.Door
open Go.ChangeShapes Go.WideShapes Go.ChangeAt Go.RowKit
theorem own : ownKnob Tryd.prog.godebug = none := by kernel_rfl
theorem laidOut : laidOutB Tryd.prog = true := by kernel_rfl
theorem gHalf : Tryd.prog.globalNamed "strandline/crc.half" = some 0 := by kernel_rfl
theorem tHalf : (Tryd.prog.globals[0]?).map (·.type) = some 141 := by kernel_rfl
abbrev laid1 : List (String × DataW Unit) := [("strandline/crc.half", Rows.laid_strandline_crc_half)]
theorem door_met (os : Os) (args : Array Value) : laidMetH Tryd.prog laid1 ((World.doorLaid Tryd.prog 400 os).forCall (fun _ _ => 0) ⟨#[],args,[]⟩).memory :=
 laidMetH_of_parts3 (fuel := 8) (laidMet_of_run' 8 (by kernel_rfl) (by kernel_rfl)) (by kernel_rfl) (by kernel_rfl)
theorem laid_list : (Rows.laid_strandline_crc_half : DataW Unit) = .agg (F.halfL.map fun z => .lit (.int .u32 z)) := rfl
theorem half_of {W : World} (h : laidMetH Tryd.prog laid1 W) : F.Half W := by
 rw [MakeChecks.laidMetH_plain _ _ _ (by kernel_rfl)] at h
 obtain ⟨ps,⟨g0,t0,cs0,f0,p0,q0,hg0,ht0,hv0,hd0,_,_⟩,_⟩ := h
 obtain rfl := Option.some.inj (gHalf.symm.trans hg0)
 obtain rfl := Option.some.inj (tHalf.symm.trans ht0)
 obtain ⟨xs,m1,rfl,hx1,hlen,hn,hel⟩ := DataW.trod_array Tryd.underlying141 hd0
 have c1 : Tryd.prog.cellsOf 67 = 1 := by kernel_rfl
 simp only [Prod.mk.injEq] at hx1
 have hx := hx1.1
 rw [laid_list] at hx
 have hx' : F.halfL.map (fun z => (DataW.lit (.int .u32 z) : DataW Unit)) = xs.map (·.1) := by injection hx
 intro i hi
 rw [World.var?_cell hg0 hv0 i]
 have he := hel i hi
 rw [c1,Nat.mul_one,List.getElem?_eq_getElem (by omega)] at he
 obtain ⟨n,e1,e2,-⟩ := DataW.trod_int Tryd.underlying67 he
 have h3 := congrArg (fun l => l[i]?) hx'
 simp only [List.getElem?_map] at h3
 rw [List.getElem?_eq_getElem (show i < xs.length by omega),e2] at h3
 have hl : i < F.halfL.length := hi
 rw [List.getElem?_eq_getElem hl] at h3
 simp at h3
 have h4 : cs0.toList[i]? = some (.int .u32 n) := by
  have := congrArg (fun l => l[0]?) e1
  simpa using this
 rw [List.getD_eq_getElem?_getD,List.getElem?_eq_getElem hl]
 rw [← Array.getElem?_toList,h4]
 simp [h3]
end Go.Proofs.YtaekpfhgdnfciaaDoor.Door
end

section
namespace Go.Proofs.YtaekpfhgdnfciaaDoor.F
open Go.RowKit Go.Proofs.YtaekpfhgdnfciaaDoorW.PrintWords Go.Proofs.YtaekpfhgdnfciaaDoorW.PrintLast Go.Proofs.YtaekpfhgdnfciaaDoorW.PrintMore Go.ChangeShapes Go.WideShapes Go.Joins Go.Deep
section
variable {H : Type} {enc : TypeId × Value → H} {P : Program} {W : World} {held : Bool}
theorem weightsAll_mem {e : TypeId} : ∀ {ds : List (DataW H)} {d : DataW H},d ∈ ds → ∀ n ∈ d.weights P e,n ∈ DataW.weightsAll P e ds
 |d0 :: ds,d,hd,n,hn => by
  simp only [DataW.weightsAll,List.mem_append]
  rcases List.mem_cons.1 hd with rfl|hd
  ·exact Or.inl hn
  ·exact Or.inr (weightsAll_mem hd n hn)
abbrev Fit (P : Program) (t : TypeId) (d : DataW H) : Prop := ∀ n ∈ d.weights P t,n ≤ reachBytes
theorem fit_elem {t e : TypeId} {elems spare : List (DataW H)} (hu : P.underlying t = some (.slice e)) (h : Fit P t (.slice elems spare)) {d : DataW H} (hd : d ∈ elems) : Fit P e d := by
 intro n hn
 refine h n ?_
 simp only [DataW.weights,hu,List.mem_cons,List.mem_append]
 exact Or.inr (Or.inl (weightsAll_mem hd n hn))
theorem fit_len {t e : TypeId} {elems spare : List (DataW H)} (hu : P.underlying t = some (.slice e)) (h : Fit P t (.slice elems spare)) : (elems.length + spare.length) * P.bytesOf e ≤ reachBytes :=
 h _ (by simp [DataW.weights,hu])
theorem fit_arg {ts : List TypeId} {ds : List (DataW H)} (h : (DataW.weightsEach P ts ds).all (· ≤ reachBytes) = true) (j : Nat) {t : TypeId} {d : DataW H} (ht : ts[j]? = some t) (hd : ds[j]? = some d) : Fit P t d := by
 intro n hn
 have := List.all_eq_true.1 h _ (DataW.weights_mem_each ht hd n hn)
 simpa using this
theorem pick {β γ : Type} [Inhabited β] {n : Nat} {p : Nat → β → Prop} (h : ∀ i,i < n → ∃ x,p i x) : ∃ f : Nat → β,∀ i,i < n → p i (f i) := by
 classical
 exact ⟨fun i => if hi : i < n then Classical.choose (h i hi) else default,fun i hi => by simp only [dif_pos hi];exact Classical.choose_spec (h i hi)⟩
theorem open_C {α : Type} [Inhabited α] (d : Kd α) (B : α → Prop) {t e : TypeId} (ht : P.underlying t = some (.slice e)) (he : P.cellsOf e = d.sz)
  (hel : ∀ n cs y,DataW.trod enc P W 0 (fun _ => true) held n e cs = some y → Fit P e y.1 → ∃ x,d.K W x cs ∧ B x)
  {fuel : Nat} {cs : List Value} {y : DataW H × List MemPlace} (h : DataW.trod enc P W 0 (fun _ => true) held fuel t cs = some y) (hw : Fit P t y.1) :
  ∃ (A : Option Addr) (xs : List α) (c : Nat),cs = [.slice A xs.length c] ∧ xs.length ≤ c ∧ d.C W A xs.length xs ∧ (∀ x ∈ xs,B x) ∧ xs.length * P.bytesOf e ≤ reachBytes := by
 rcases Deep.open_slice ht h with ⟨rfl,rfl⟩|⟨a,len,cap,m,n,D,Pl,rfl,hb,hl,hm,hmm,rfl,hx⟩
 ·exact ⟨none,[],0,rfl,Nat.le_refl _,⟨rfl,by simp,fun h => absurd h (by simp)⟩,by simp,by simp⟩
 ·simp only [if_true] at hmm
  subst hmm
  have each : ∀ i,i < len → ∃ x : α,(∃ c,W.cells? 0 (a.add (i * d.sz)) d.sz = some c ∧ d.K W x c) ∧ B x := by
   intro i hi
   obtain ⟨cs',h1,h2⟩ := hx i (by omega)
   obtain ⟨x,hk,hB⟩ := hel n cs' _ h2 (fit_elem ht hw (List.mem_map.2 ⟨i,List.mem_range.2 hi,rfl⟩))
   rw [he] at h1
   exact ⟨x,⟨cs',h1,hk⟩,hB⟩
  obtain ⟨f,hf⟩ := pick (γ := Unit) each
  have hlen : ((List.range len).map f).length = len := by simp
  refine ⟨some a,(List.range len).map f,m,by rw [hlen],by rw [hlen];exact hl,?_,?_,?_⟩
  ·rw [hlen]
   refine ⟨hlen,by have : maxLen = 9223372036854775807 := by decide
                   omega,fun _ => ⟨a,rfl,fun j p hj => ?_⟩⟩
   have hj' : j < len := by have := (List.getElem?_eq_some_iff.1 hj).1;rw [hlen] at this;exact this
   rw [List.getElem?_map,List.getElem?_range hj'] at hj
   obtain ⟨⟨c,hc,hk⟩,-⟩ := hf j hj'
   have e1 : f j = p := by simpa using hj
   rw [e1] at hk
   obtain ⟨-,l1,h2⟩ := World.cells?_some hc
   refine ⟨c,l1,hk,fun i u hu => ?_⟩
   have hi : i < d.sz := by rw [← l1];exact (List.getElem?_eq_some_iff.1 hu).1
   rw [← Deep.add_add,h2 i hi,hu]
  ·intro x hx'
   obtain ⟨i,hi,rfl⟩ := List.mem_map.1 hx'
   exact (hf i (List.mem_range.1 hi)).2
  ·rw [hlen]
   have := fit_len ht hw
   rw [List.length_map,List.length_range] at this
   exact Nat.le_trans (Nat.mul_le_mul_right _ (by omega)) this
theorem open_C_ints {t e : TypeId} {k : IntKind} (ht : P.underlying t = some (.slice e)) (he : P.underlying e = some (.int k)) (hc : P.cellsOf e = 1)
  {fuel : Nat} {cs : List Value} {y : DataW H × List MemPlace} (h : DataW.trod enc P W 0 (fun _ => true) held fuel t cs = some y) (hw : Fit P t y.1) :
  ∃ (A : Option Addr) (xs : List Int) (c : Nat),cs = [.slice A xs.length c] ∧ xs.length ≤ c ∧ (Kd.int k).C W A xs.length xs ∧ (∀ x ∈ xs,(Lit.int k x).wf = true) ∧ xs.length * P.bytesOf e ≤ reachBytes :=
 open_C (Kd.int k) (fun x => (Lit.int k x).wf = true) ht hc (fun n cs y hy _ => by obtain ⟨z,rfl,-,hz⟩ := DataW.trod_int he hy;exact ⟨z,rfl,hz⟩) h hw
theorem open_C_rows {t e q : TypeId} {k : IntKind} (qn : Nat) (ht : P.underlying t = some (.slice e)) (he : P.underlying e = some (.slice q)) (hq : P.underlying q = some (.int k)) (hc : P.cellsOf e = 1) (hcq : P.cellsOf q = 1)
  {fuel : Nat} {cs : List Value} {y : DataW H × List MemPlace} (h : DataW.trod enc P W 0 (fun _ => true) held fuel t cs = some y) (hw : Fit P t y.1) :
  ∃ (A : Option Addr) (xs : List (List Int)) (c : Nat),cs = [.slice A xs.length c] ∧ xs.length ≤ c ∧ (Kd.slice qn (Kd.int k)).C W A xs.length xs ∧ (∀ x ∈ xs,(∀ z ∈ x,(Lit.int k z).wf = true) ∧ x.length * P.bytesOf q ≤ reachBytes) ∧ xs.length * P.bytesOf e ≤ reachBytes :=
 open_C (Kd.slice qn (Kd.int k)) (fun x => (∀ z ∈ x,(Lit.int k z).wf = true) ∧ x.length * P.bytesOf q ≤ reachBytes) ht hc (fun n cs y hy hf => by
  obtain ⟨A,xs,c,rfl,h1,h2,h3,h4⟩ := open_C_ints he hq hcq hy hf
  exact ⟨xs,⟨A,c,rfl,h1,h2⟩,h3,h4⟩) h hw
end
section
variable {H : Type} {enc : TypeId × Value → H} {P : Program} {W : World} {held : Bool}
theorem wf_u64 {x : Int} (h : (Lit.int .u64 x).wf = true) : 0 ≤ x ∧ x ≤ 18446744073709551615 := by
 simp [Lit.wf,IntKind.min,IntKind.max,IntKind.signed,IntKind.bits] at h
 omega
end
end Go.Proofs.YtaekpfhgdnfciaaDoor.F
end

section
namespace Go.Proofs.YtaekpfhgdnfciaaDoor.F
open Go.RowKit Go.Proofs.YtaekpfhgdnfciaaDoorW.PrintWords Go.Proofs.YtaekpfhgdnfciaaDoorW.PrintLast Go.Proofs.YtaekpfhgdnfciaaDoorW.PrintMore
def vals (xs : List Int) : List Value := xs.map (Value.int .u8)
def Byt (w : World) (g : Nat) (t : TypeId) (xs : List Int) : Prop := w.heap[g]? = some (.cells (vals xs).toArray t (0,0))
theorem Byt.cell {w : World} {g : Nat} {t : TypeId} {xs : List Int} (h : Byt w g t xs) (i : Nat) : w.cell? ⟨g,i,none⟩ = (xs[i]?).map (Value.int .u8) := by
 rw [blk_cell h i]
 simp [vals]
theorem Byt.below {w w1 : World} {g : Nat} {t : TypeId} {xs : List Int} (h : Byt w g t xs) (hb : Below w.heap.size w w1) : Byt w1 g t xs := blk_below h hb
theorem Byt.lt {w : World} {g : Nat} {t : TypeId} {xs : List Int} (h : Byt w g t xs) : g < w.heap.size := blk_lt h
theorem addr_add (g o j : Nat) : (Addr.mk g o none).add j = ⟨g,o + j,none⟩ := by
 unfold Addr.add
 by_cases h : j = 0
 ·subst h;rfl
 ·simp [h]
theorem Byt.C {w : World} {g : Nat} {t : TypeId} {xs : List Int} (h : Byt w g t xs) (o n : Nat) (hn : o + n ≤ xs.length) (hl : n ≤ 9223372036854775807) : (Kd.int .u8).C w (some ⟨g,o,none⟩) n ((xs.drop o).take n) := by
 have hlen : ((xs.drop o).take n).length = n := by rw [List.length_take,List.length_drop];omega
 refine ⟨hlen,hl,fun _ => ⟨_,rfl,fun j p hj => ⟨[.int .u8 p],rfl,rfl,fun i u hu => ?_⟩⟩⟩
 have hi0 : i = 0 := by have := (List.getElem?_eq_some_iff.1 hu).1;simpa using this
 subst hi0
 have hjn : j < n := by have := (List.getElem?_eq_some_iff.1 hj).1;omega
 rw [List.getElem?_take_of_lt hjn,List.getElem?_drop] at hj
 simp at hu
 subst hu
 rw [show (Kd.int .u8).sz = 1 from rfl,addr_add,h.cell]
 rw [show o + (j * 1 + 0) = o + j by omega,hj]
 rfl
theorem vals_one {xs : List Int} : ∀ v ∈ vals xs,v.oneCell' = true := by
 intro v hv
 obtain ⟨z,-,rfl⟩ := List.mem_map.1 hv
 rfl
theorem Byt.set {w : World} {g : Nat} {t : TypeId} {xs : List Int} (h : Byt w g t xs) (i : Nat) (z : Int) : Byt (w.setCell ⟨g,i,none⟩ (.int .u8 z)) g t (xs.set i z) := by
 refine blk_put h i _ ?_
 simp [vals,List.map_set]
theorem exec_load_row {P : Program} {o : Oper} {ρ : Operand → Value} {w : World} (ty : TypeId) (x : Operand) (ho : o.op = .load ty x) (g : Nat) (hx : ρ x = .pointer (some ⟨g,0,none⟩)) (t : TypeId) (cs : Array Value) (fr : Nat × Nat) (d : TypeDesc) (hg : w.heap[g]? = some (.cells cs t fr))
  (hu : P.underlying ty = some d) (hd : (match d with|.struct _|.array _ _ => true|_ => false) = true) (hi : (P.info? ty).map (·.size) = some cs.size) : (execOp ρ o).run P w = .ok (.value (.agg cs)) w := by
 unfold execOp
 simp only [ho,hx,Instr.loadAt,Instr.sureAddr,Sem.run_bind,Sem.run_pure,Result.andThen_ok,run_loadVar_row w g t ty cs fr d hg hu hd hi]
def fillB (out : List Int) : Nat → List Int → List Int
 |0,zs => zs
 |i + 1,zs => (fillB out i zs).set i (out.getD i 0)
theorem fillB_len (out zs : List Int) (i : Nat) : (fillB out i zs).length = zs.length := by
 induction i with
 |zero => rfl
 |succ i ih => show ((fillB out i zs).set i (out.getD i 0)).length = _;rw [List.length_set,ih]
theorem fillB_get (out zs : List Int) (h : out.length = zs.length) (i j : Nat) (hi : i ≤ out.length) : (fillB out i zs)[j]? = if j < i then out[j]? else zs[j]? := by
 induction i with
 |zero => simp [fillB]
 |succ i ih =>
  show ((fillB out i zs).set i (out.getD i 0))[j]? = _
  rw [List.getElem?_set,fillB_len,ih (by omega)]
  by_cases hj : i = j
  ·subst hj
   rw [if_pos rfl,if_pos (by omega),if_pos (by omega),List.getD_eq_getElem?_getD,List.getElem?_eq_getElem (by omega)]
   rfl
  ·rw [if_neg hj]
   by_cases h2 : j < i
   ·rw [if_pos h2,if_pos (by omega)]
   ·rw [if_neg h2,if_neg (by omega)]
theorem fillB_all (out zs : List Int) (h : out.length = zs.length) : fillB out out.length zs = out := by
 apply List.ext_getElem?
 intro j
 rw [fillB_get out zs h _ _ (Nat.le_refl _)]
 by_cases hj : j < out.length
 ·rw [if_pos hj]
 ·rw [if_neg hj,List.getElem?_eq_none (by omega),List.getElem?_eq_none (by omega)]
end Go.Proofs.YtaekpfhgdnfciaaDoor.F
end

section
namespace Go.Proofs.YtaekpfhgdnfciaaDoor.O
open Go.RowKit Go.Proofs.YtaekpfhgdnfciaaDoorW.PrintWords Go.Proofs.YtaekpfhgdnfciaaDoorW.PrintLast Go.Proofs.YtaekpfhgdnfciaaDoorW.PrintMore Go.Proofs.YtaekpfhgdnfciaaDoor.F
inductive Res where
 |blk (g : Nat) (t : TypeId) (c : List Value)
 |row (v : Value) (e : TypeId) (sz : Nat) (n : Nat) (xs : List Value)
def Res.block : Res → Option Nat
 |.blk g _ _ => some g
 |.row v _ _ _ _ => v.ownBlock
def Res.At (b : Nat) (W : World) : Res → Prop
 |.blk g t c => b ≤ g ∧ W.heap[g]? = some (.cells c.toArray t (0,0))
 |.row v e sz n xs => W.ownsRow b e sz v n xs
theorem Res.At.lt {b : Nat} {W : World} {r : Res} (h : r.At b W) {k : Nat} (hk : r.block = some k) : k < W.heap.size := by
 cases r with
 |blk g t c =>
  have : g = k := by simpa [Res.block] using hk
  subst this
  exact blk_lt h.2
 |row v e sz n xs => exact own_lt h k hk
theorem Res.At.base {b : Nat} {W : World} {r : Res} (h : r.At b W) {k : Nat} (hk : r.block = some k) : b ≤ k := by
 cases r with
 |blk g t c =>
  have : g = k := by simpa [Res.block] using hk
  subst this
  exact h.1
 |row v e sz n xs => exact own_base h k hk
theorem Res.At.move {b : Nat} {W W' : World} {r : Res} (h : r.At b W) (hm : ∀ k,r.block = some k → W'.heap[k]? = W.heap[k]?) : r.At b W' := by
 cases r with
 |blk g t c => exact ⟨h.1,(hm g rfl).trans h.2⟩
 |row v e sz n xs => exact own_move h hm
inductive In : List Res → Res → (Res → List Res) → Prop
 |head {r : Res} {L : List Res} : In (r :: L) r (fun r' => r' :: L)
 |tail {x r : Res} {L : List Res} {c : Res → List Res} : In L r c → In (x :: L) r (fun r' => x :: c r')
theorem In.split {L : List Res} {r : Res} {c : Res → List Res} (h : In L r c) : ∃ A B,L = A ++ r :: B ∧ ∀ r',c r' = A ++ r' :: B := by
 induction h with
 |head => exact ⟨[],_,rfl,fun _ => rfl⟩
 |tail _ ih =>
  obtain ⟨A,B,rfl,hc⟩ := ih
  exact ⟨_ :: A,B,rfl,fun r' => congrArg (List.cons _) (hc r')⟩
theorem In.mem {L : List Res} {r : Res} {c : Res → List Res} (h : In L r c) : r ∈ L := by
 obtain ⟨A,B,rfl,-⟩ := h.split
 simp
inductive Del : List Res → Res → List Res → Prop
 |head {r : Res} {L : List Res} : Del (r :: L) r L
 |tail {x r : Res} {L L' : List Res} : Del L r L' → Del (x :: L) r (x :: L')
theorem Del.split {L L' : List Res} {r : Res} (h : Del L r L') : ∃ A B,L = A ++ r :: B ∧ L' = A ++ B := by
 induction h with
 |head => exact ⟨[],_,rfl,rfl⟩
 |tail _ ih =>
  obtain ⟨A,B,rfl,rfl⟩ := ih
  exact ⟨_ :: A,B,rfl,rfl⟩
structure Own (w0 : World) (F : Nat → Option Obj) (L : List Res) (W : World) : Prop where
 below : Below w0.heap.size w0 W
 holds : ∀ g o,F g = some o → W.heap[g]? = some o
 ats : ∀ r ∈ L,r.At w0.heap.size W
 apart : ∀ r ∈ L,∀ k,r.block = some k → F k = none
 sep : L.Pairwise (fun a b => ∀ k,a.block = some k → b.block ≠ some k)
def F0 : Nat → Option Obj := fun _ => none
section
variable {w0 W W' : World} {F : Nat → Option Obj} {L L' : List Res} {r r' : Res} {c : Res → List Res}
theorem Own.start (w : World) : Own w F0 [] w := ⟨Below.refl _ _,(fun g o h => by cases h),(by simp),(by simp),List.Pairwise.nil⟩
theorem Own.size (H : Own w0 F L W) : w0.heap.size ≤ W.heap.size := H.below.size
theorem Own.at_ (H : Own w0 F L W) (hI : In L r c) : r.At w0.heap.size W := H.ats r hI.mem
theorem Own.to (H : Own w0 F L W) (hb : Below W.heap.size W W') : Own w0 F L W' where
 below := H.below.trans (hb.mono H.size)
 holds := fun g o h => by
  have h1 := H.holds g o h
  exact (hb.block g (blk_lt' h1)).trans h1
 ats := fun r hr => (H.ats r hr).move (fun k hk => hb.block k ((H.ats r hr).lt hk))
 apart := H.apart
 sep := H.sep
where blk_lt' {W : World} {g : Nat} {o : Obj} (h : W.heap[g]? = some o) : g < W.heap.size := (Array.getElem?_eq_some_iff.1 h).1
theorem obj_lt {W : World} {g : Nat} {o : Obj} (h : W.heap[g]? = some o) : g < W.heap.size := (Array.getElem?_eq_some_iff.1 h).1
theorem Own.drew (H : Own w0 F L W) : Own w0 F L W.drew := H.to (below_drew1 (Below.refl _ _))
theorem Own.cons (H : Own w0 F L W) (hb : Below W.heap.size W W') (hr : r.At w0.heap.size W') (hk : ∀ k,r.block = some k → W.heap.size ≤ k) : Own w0 F (r :: L) W' := by
 have H' := H.to hb
 refine ⟨H'.below,H'.holds,?_,?_,?_⟩
 ·intro x hx
  rcases List.mem_cons.1 hx with rfl|hx
  ·exact hr
  ·exact H'.ats x hx
 ·intro x hx k hxk
  rcases List.mem_cons.1 hx with rfl|hx
  ·cases hF : F k with
   |none => rfl
   |some o =>
    have h1 := obj_lt (H.holds k o hF)
    have h2 := hk k hxk
    omega
  ·exact H'.apart x hx k hxk
 ·refine List.Pairwise.cons (fun x hx k h1 h2 => ?_) H'.sep
  have h3 := (H.ats x hx).lt h2
  have h4 := hk k h1
  omega
theorem Own.repl (H : Own w0 F L W) (hI : In L r c) (hg : W.grownBy W' r.block) (hr : r'.At w0.heap.size W') (hk : ∀ k,r'.block = some k → r.block = some k ∨ W.heap.size ≤ k) : Own w0 F (c r') W' := by
 obtain ⟨A,B,rfl,hc⟩ := hI.split
 rw [hc]
 have hrm : r ∈ A ++ r :: B := by simp
 have mid : ∀ x,(x ∈ A ∨ x ∈ B) → x ∈ A ++ r :: B := fun x hx => by
  rcases hx with hx|hx
  ·simp [hx]
  ·simp [hx]
 have hs := H.sep
 rw [List.pairwise_append] at hs
 obtain ⟨sA,sB,sAB⟩ := hs
 obtain ⟨sr,sB⟩ := List.pairwise_cons.1 sB
 have other : ∀ x,(x ∈ A ∨ x ∈ B) → ∀ k,x.block = some k → some k ≠ r.block := by
  intro x hx k hxk hrk
  rcases hx with hx|hx
  ·exact sAB x hx r (by simp) k hxk hrk.symm
  ·exact sr x hx k hrk.symm hxk
 have keep : ∀ x,(x ∈ A ∨ x ∈ B) → ∀ k,x.block = some k → W'.heap[k]? = W.heap[k]? := fun x hx k hxk =>
  hg.block k ((H.ats x (mid x hx)).lt hxk) (other x hx k hxk)
 have new : ∀ x,(x ∈ A ∨ x ∈ B) → ∀ k,r'.block = some k → x.block ≠ some k := by
  intro x hx k h1 h2
  rcases hk k h1 with h3|h3
  ·exact other x hx k h2 h3.symm
  ·have := (H.ats x (mid x hx)).lt h2
   omega
 refine ⟨H.below.grown hg H.size (fun k hk' => (H.ats r hrm).base hk'),?_,?_,?_,?_⟩
 ·intro g o hF
  have h1 := H.holds g o hF
  refine (hg.block g (obj_lt h1) (fun he => ?_)).trans h1
  have := H.apart r hrm g he.symm
  rw [hF] at this
  cases this
 ·intro x hx
  rcases List.mem_append.1 hx with hx|hx
  ·exact (H.ats x (by simp [hx])).move (keep x (.inl hx))
  ·rcases List.mem_cons.1 hx with rfl|hx
   ·exact hr
   ·exact (H.ats x (by simp [hx])).move (keep x (.inr hx))
 ·intro x hx k hxk
  rcases List.mem_append.1 hx with hx|hx
  ·exact H.apart x (by simp [hx]) k hxk
  ·rcases List.mem_cons.1 hx with rfl|hx
   ·rcases hk k hxk with h3|h3
    ·exact H.apart r hrm k h3
    ·cases hF : F k with
     |none => rfl
     |some o => have := obj_lt (H.holds k o hF);omega
   ·exact H.apart x (by simp [hx]) k hxk
 ·rw [List.pairwise_append]
  refine ⟨sA,List.Pairwise.cons (fun x hx k h1 => new x (.inr hx) k h1) sB,?_⟩
  intro x hx y hy k h1 h2
  rcases List.mem_cons.1 hy with rfl|hy
  ·exact new x (.inl hx) k h2 h1
  ·exact sAB x hx y (by simp [hy]) k h1 h2
theorem Own.del (H : Own w0 F L W) (hD : Del L r L') : Own w0 F L' W := by
 obtain ⟨A,B,rfl,rfl⟩ := hD.split
 have hsub : (A ++ B).Sublist (A ++ r :: B) := List.Sublist.append (List.Sublist.refl _) (List.sublist_cons_self _ _)
 exact ⟨H.below,H.holds,fun x hx => H.ats x (hsub.subset hx),fun x hx => H.apart x (hsub.subset hx),H.sep.sublist hsub⟩
theorem Own.perm (H : Own w0 F L W) (hp : L.Perm L') : Own w0 F L' W :=
 ⟨H.below,H.holds,fun x hx => H.ats x (hp.mem_iff.2 hx),fun x hx => H.apart x (hp.mem_iff.2 hx),hp.pairwise H.sep (fun hab k h1 h2 => hab k h2 h1)⟩
/-! ### what stands for good -/
def Stands (F : Nat → Option Obj) (p : World → Prop) : Prop := ∀ W : World,(∀ g o,F g = some o → W.heap[g]? = some o) → p W
def Fle (F F' : Nat → Option Obj) : Prop := ∀ g o,F g = some o → F' g = some o
theorem Fle.refl (F : Nat → Option Obj) : Fle F F := fun _ _ h => h
theorem Fle.trans {F G I : Nat → Option Obj} (h : Fle F G) (k : Fle G I) : Fle F I := fun g o hF => k g o (h g o hF)
theorem Stands.mono {F F' : Nat → Option Obj} {p : World → Prop} (h : Stands F p) (hF : Fle F F') : Stands F' p := fun W hW => h W (fun g o hg => hW g o (hF g o hg))
theorem Own.use {p : World → Prop} (H : Own w0 F L W) (h : Stands F p) : p W := h W H.holds
def fn (F : Nat → Option Obj) (W W' : World) : Nat → Option Obj := fun g => if W.heap.size ≤ g ∧ g < W'.heap.size then W'.heap[g]? else F g
theorem Own.freezeNew (H : Own w0 F L W) (hb : Below W.heap.size W W') : Own w0 (fn F W W') L W' ∧ Fle F (fn F W W') := by
 have H' := H.to hb
 refine ⟨⟨H'.below,?_,H'.ats,?_,H'.sep⟩,?_⟩
 ·intro g o h
  unfold fn at h
  split at h
  ·exact h
  ·exact H'.holds g o h
 ·intro x hx k hk
  unfold fn
  rw [if_neg]
  ·exact H'.apart x hx k hk
  ·have := (H.ats x hx).lt hk
   omega
 ·intro g o hF
  unfold fn
  have := obj_lt (H.holds g o hF)
  rw [if_neg (by omega)]
  exact hF
theorem Stands.R {α : Type} {d : Kd α} {e : Nat} {ok : Nat → Prop} {v : Value} {xs : List α} (h : Kd.R d e W' W.heap.size ok v xs) : Stands (fn F W W') (fun X => Kd.R d e X W.heap.size ok v xs) := fun X hX => by
 refine Kd.R_mono (Kd.R_move (Kd.R_bound h) (fun k hk => ?_)) (fun _ hk => hk.1)
 have hlt := hk.2.2.1
 have := hX k (W'.heap[k]) (by unfold fn;rw [if_pos ⟨hk.2.1,hlt⟩];exact Array.getElem?_eq_getElem hlt)
 rw [this,Array.getElem?_eq_getElem hlt]
/-! ### blocks -/
theorem Own.heap {g : Nat} {t : TypeId} {cs : List Value} (H : Own w0 F L W) (hI : In L (.blk g t cs) c) : W.heap[g]? = some (.cells cs.toArray t (0,0)) := (H.at_ hI).2
theorem Own.cell {g : Nat} {t : TypeId} {cs : List Value} (H : Own w0 F L W) (hI : In L (.blk g t cs) c) (i : Nat) : W.cell? ⟨g,i,none⟩ = cs[i]? := by
 rw [blk_cell (H.heap hI) i]
 simp
theorem Own.frozen {g : Nat} {t : TypeId} {cs : List Value} (H : Own w0 F L W) (hI : In L (.blk g t cs) c) (i : Nat) : W.frozen? ⟨g,i,none⟩ = false := frozen_of_row W g i _ t (H.heap hI)
theorem Own.lt {g : Nat} {t : TypeId} {cs : List Value} (H : Own w0 F L W) (hI : In L (.blk g t cs) c) : g < W.heap.size := obj_lt (H.heap hI)
theorem Own.alloc (H : Own w0 F L W) (t : TypeId) (cs : List Value) : Own w0 F (.blk W.heap.size t cs :: L) (W.alloc (.cells cs.toArray t)) :=
 H.cons (below_alloc (Below.refl _ _) _) ⟨H.size,blk_new W _⟩ (fun k hk => by simp [Res.block] at hk;omega)
theorem setCells_grown (g : Nat) : ∀ (vs : List Value) (o : Nat) (w : World),w.grownBy (w.setCells g o vs) (some g)
 |[],_,w => ⟨rfl,rfl,rfl,Nat.le_refl _,fun _ _ _ => rfl⟩
 |v :: r,o,w => by
  have h1 : w.grownBy (w.setCell ⟨g,o,none⟩ v) (some g) := ⟨rfl,rfl,rfl,by simp [World.setCell],fun k _ hk => Below.heap_setCell w ⟨g,o,none⟩ v k (fun e => hk (by rw [e]))⟩
  have h2 := setCells_grown g r (o + 1) (w.setCell ⟨g,o,none⟩ v)
  have hs : (w.setCell ⟨g,o,none⟩ v).heap.size = w.heap.size := by simp [World.setCell]
  exact ⟨h2.os.trans h1.os,h2.tape.trans h1.tape,h2.output.trans h1.output,Nat.le_trans h1.size h2.size,fun k hk hn => (h2.block k (by omega) hn).trans (h1.block k hk hn)⟩
theorem splice_cons {α : Type} (c : List α) (o : Nat) (v : α) (r : List α) (h : o + (v :: r).length ≤ c.length) : splice (c.set o v) (o + 1) r = splice c o (v :: r) := by
 have hl : o < c.length := by simp at h;omega
 have h1 : (c.set o v).take (o + 1) = c.take o ++ [v] := by
  rw [List.take_add_one,List.getElem?_set_self hl]
  congr 1
  apply List.ext_getElem?
  intro j
  rw [List.getElem?_take,List.getElem?_take]
  split
  ·rw [List.getElem?_set_ne (by omega)]
  ·rfl
 have h2 : (c.set o v).drop (o + 1 + r.length) = c.drop (o + (v :: r).length) := by
  apply List.ext_getElem?
  intro j
  rw [List.getElem?_drop,List.getElem?_drop,List.getElem?_set_ne (by omega),List.length_cons,show o + 1 + r.length = o + (r.length + 1) by omega]
 unfold splice
 rw [h1,h2]
 simp
theorem setCells_heap (g : Nat) (t : TypeId) : ∀ (vs : List Value) (o : Nat) (w : World) (cs : List Value),w.heap[g]? = some (.cells cs.toArray t (0,0)) → o + vs.length ≤ cs.length → (w.setCells g o vs).heap[g]? = some (.cells (splice cs o vs).toArray t (0,0))
 |[],o,w,cs,h,_ => by
  rw [show splice cs o ([] : List Value) = cs by simp [splice]]
  exact h
 |v :: r,o,w,cs,h,hl => by
  have h1 : (w.setCell ⟨g,o,none⟩ v).heap[g]? = some (.cells (cs.set o v).toArray t (0,0)) := blk_put h o v (by simp)
  have h2 := setCells_heap g t r (o + 1) (w.setCell ⟨g,o,none⟩ v) (cs.set o v) h1 (by simp at hl ⊢;omega)
  rw [splice_cons cs o v r hl] at h2
  exact h2
theorem Own.setCells {g : Nat} {t : TypeId} {cs : List Value} (H : Own w0 F L W) (hI : In L (.blk g t cs) c) (o : Nat) (vs : List Value) (hfit : o + vs.length ≤ cs.length) : Own w0 F (c (.blk g t (splice cs o vs))) (W.setCells g o vs) :=
 H.repl hI (setCells_grown g vs o W) ⟨(H.at_ hI).1,setCells_heap g t vs o W cs (H.heap hI) hfit⟩ (fun k hk => .inl hk)
theorem splice_one {α : Type} (c : List α) (o : Nat) (v : α) : o < c.length → splice c o [v] = c.set o v := by
 intro h
 rw [← splice_cons c o v [] (by simp;omega)]
 simp [splice]
theorem Own.set {g : Nat} {t : TypeId} {cs : List Value} (H : Own w0 F L W) (hI : In L (.blk g t cs) c) (o : Nat) (v : Value) (hfit : o < cs.length) : Own w0 F (c (.blk g t (cs.set o v))) (W.setCell ⟨g,o,none⟩ v) := by
 have := H.setCells hI o [v] (by simp;omega)
 rw [splice_one cs o v hfit] at this
 exact this
theorem Own.range {g : Nat} {t : TypeId} {cs : List Value} (H : Own w0 F L W) (hI : In L (.blk g t cs) c) (o n : Nat) : W.rangeAt g o ((cs.drop o).take n) := fun j v hv => by
 rw [H.cell hI]
 rw [List.getElem?_take] at hv
 split at hv
 ·rwa [List.getElem?_drop] at hv
 ·cases hv
theorem Own.there {g : Nat} {t : TypeId} {cs : List Value} (H : Own w0 F L W) (hI : In L (.blk g t cs) c) (o n : Nat) (h : o + n ≤ cs.length) : W.there g o n := fun j hj => by
 rw [H.cell hI,List.getElem?_eq_getElem (by omega)]
 exact ⟨rfl,H.frozen hI _⟩
theorem Own.C {g : Nat} {t : TypeId} {k : IntKind} {xs : List Int} (H : Own w0 F L W) (hI : In L (.blk g t (nums k xs)) c) (o n : Nat) (hn : o + n ≤ xs.length) (hl : n ≤ 9223372036854775807) : (Kd.int k).C W (some ⟨g,o,none⟩) n ((xs.drop o).take n) := by
 have hlen : ((xs.drop o).take n).length = n := by rw [List.length_take,List.length_drop];omega
 refine ⟨hlen,hl,fun _ => ⟨_,rfl,fun j p hj => ⟨[.int k p],rfl,rfl,fun i u hu => ?_⟩⟩⟩
 have hi0 : i = 0 := by have := (List.getElem?_eq_some_iff.1 hu).1;simpa using this
 subst hi0
 have hjn : j < n := by have := (List.getElem?_eq_some_iff.1 hj).1;omega
 rw [List.getElem?_take_of_lt hjn,List.getElem?_drop] at hj
 simp at hu
 subst hu
 rw [show (Kd.int k).sz = 1 from rfl,addr_add,H.cell hI]
 rw [show o + (j * 1 + 0) = o + j by omega,nums,List.getElem?_map,hj]
 rfl
/-! ### rows of numbers -/
theorem Own.addR {k : IntKind} {e : Nat} {ok : Nat → Prop} {v : Value} {xs : List Int} (H : Own w0 F L W) (hb : Below W.heap.size W W') (hR : Kd.R (Kd.int k) e W' W.heap.size ok v xs) : Own w0 F (.row v e 1 xs.length (nums k xs) :: L) W' :=
 H.cons hb (own_weaken (Kd.own_of_R hR) H.size) (fun j hj => own_base (Kd.own_of_R hR) j hj)
theorem Own.R {k : IntKind} {e : Nat} {v : Value} {xs : List Int} (H : Own w0 F L W) (hI : In L (.row v e 1 xs.length (nums k xs)) c) : Kd.R (Kd.int k) e W w0.heap.size (fun _ => True) v xs := Kd.R_of_own (H.at_ hI) (fun _ _ => trivial)
end
section
variable {w0 W : World} {F : Nat → Option Obj} {L : List Res} {c : Res → List Res}
theorem Own.rowC {k : IntKind} {A : Option Addr} {n cc : Nat} {e : TypeId} {xs : List Int} (H : Own w0 F L W) (hI : In L (.row (.slice A n cc) e 1 n (nums k xs)) c) : n ≤ cc ∧ xs.length = n ∧ (Kd.int k).C W A n xs := by
 have h := H.at_ hI
 have hl : xs.length = n := by have := h.1;rw [nums_length,Nat.mul_one] at this;exact this
 subst hl
 obtain ⟨-,h2,h3⟩ := Kd.R_reads' (d := Kd.int k) (e := e) (base := w0.heap.size) (ok := fun _ => True) (xs := xs) (Kd.R_of_own h (fun _ _ => trivial))
 exact ⟨h2,rfl,h3⟩
theorem Own.row_slice {v : Value} {n sz : Nat} {e : TypeId} {xs : List Value} (H : Own w0 F L W) (hI : In L (.row v e sz n xs) c) : ∃ A cc,v = .slice A n cc := own_slice (H.at_ hI)
end
/-! ### the operations -/
section
variable {P : Program} {o : Oper} {a : Act} {K : Act → World → Prop} {Q : Exit → Act → World → Prop} {w0 W : World} {F : Nat → Option Obj} {L : List Res} {c : Res → List Res}
theorem w_alloc (H : Own w0 F L W) (t : TypeId) (ho : o.op = .alloc t) (z : Value) (hz : (P.info? t).bind (·.zero) = some z)
  (h : ∀ g W',Own w0 F (.blk g t z.cells.toList :: L) W' → K (a.put o.dst (.pointer (some ⟨g,0,none⟩))) W') : o.wp P a W K Q := by
 obtain ⟨i,hi,hz⟩ := Option.bind_eq_some_iff.1 hz
 have hrun : (execOp a.eval o).run P W = .ok (.value (.pointer (some ⟨W.heap.size,0,none⟩))) (W.alloc (.cells z.cells t)) := by
  unfold execOp
  simp [ho,Instr.alloc,zeroValue,typeInfo,hi,hz,newVar,newRow]
 unfold Oper.wp
 rw [hrun]
 have := H.alloc t z.cells.toList
 exact h _ _ (by simpa using this)
theorem w_box (H : Own w0 F L W) (t : TypeId) (x : Operand) (ho : o.op = .box t x) (v : Value) (hx : a.eval x = v)
  (h : ∀ g W',Own w0 F (.blk g t v.cells.toList :: L) W' → K (a.put o.dst (.pointer (some ⟨g,0,none⟩))) W') : o.wp P a W K Q := by
 have hrun : (execOp a.eval o).run P W = .ok (.value (.pointer (some ⟨W.heap.size,0,none⟩))) (W.alloc (.cells v.cells t)) := by
  unfold execOp
  simp [ho,Instr.box,newVar,newRow,hx]
 unfold Oper.wp
 rw [hrun]
 have := H.alloc t v.cells.toList
 exact h _ _ (by simpa using this)
theorem w_load1 (H : Own w0 F L W) (ty : TypeId) (x : Operand) (ho : o.op = .load ty x) (g off : Nat) (hx : a.eval x = .pointer (some ⟨g,off,none⟩)) {t : TypeId} {cs : List Value} (hI : In L (.blk g t cs) c)
  (d : TypeDesc) (hu : P.underlying ty = some d) (hd : d.isRow = false) (v : Value) (hv : cs[off]? = some v) (h : K (a.put o.dst v) W) : o.wp P a W K Q := by
 have hag : (isAgg ty).run P W = .ok false W := by
  unfold isAgg
  rw [Sem.run_bind,run_underlying hu W]
  cases d <;> simp_all
 have hc := H.cell hI off
 rw [hv] at hc
 have hrun : (execOp a.eval o).run P W = .ok (.value v) W := by
  unfold execOp
  simp [ho,hx,Instr.loadAt,Instr.sureAddr,loadVar,hag,hc]
 unfold Oper.wp
 rw [hrun]
 exact h
theorem w_store (H : Own w0 F L W) (ty : TypeId) (x y : Operand) (ho : o.op = .store ty x y) (g off : Nat) (hx : a.eval x = .pointer (some ⟨g,off,none⟩)) (v : Value) (hy : a.eval y = v) {t : TypeId} {cs : List Value} (hI : In L (.blk g t cs) c)
  (hi : (P.info? ty).map (·.size) = some v.cells.size) (hfit : off + v.cells.size ≤ cs.length) (h1 : ∀ u ∈ v.cells.toList,u.oneCell' = true)
  (h : ∀ W',Own w0 F (c (.blk g t (splice cs off v.cells.toList))) W' → K (a.put o.dst undef) W') : o.wp P a W K Q := by
 have hth := H.there hI off v.cells.toList.length (by simpa using hfit)
 have := run_storeCells_cells (P := P) g off v.cells.toList 0 W (fun j hj => by simpa using (hth j hj).1) (fun j hj => by simpa using (hth j hj).2) h1
 have hrun : (execOp a.eval o).run P W = .ok .skip (W.setCells g off v.cells.toList) := by
  obtain ⟨i,hi,hs⟩ := Option.map_eq_some_iff.1 hi
  unfold execOp
  simp only [Nat.add_zero] at this
  simp [ho,hx,hy,Instr.storeAt,Instr.sureAddr,storeVar,sizeOf,typeInfo,hi,hs,this]
 unfold Oper.wp
 rw [hrun]
 exact h _ (H.setCells hI off _ (by simpa using hfit))
theorem w_store1 (H : Own w0 F L W) (ty : TypeId) (x y : Operand) (ho : o.op = .store ty x y) (g off : Nat) (hx : a.eval x = .pointer (some ⟨g,off,none⟩)) (v : Value) (hy : a.eval y = v) {t : TypeId} {cs : List Value} (hI : In L (.blk g t cs) c)
  (hv : v.cells = #[v]) (h1 : v.oneCell' = true) (hi : (P.info? ty).map (·.size) = some 1) (hfit : off < cs.length)
  (h : ∀ W',Own w0 F (c (.blk g t (cs.set off v))) W' → K (a.put o.dst undef) W') : o.wp P a W K Q := by
 refine w_store H ty x y ho g off hx v hy hI (by rw [hi,hv];rfl) (by rw [hv];exact hfit) (by rw [hv];simpa using h1) ?_
 intro W' H'
 rw [hv,show (#[v] : Array Value).toList = [v] from rfl,splice_one _ _ _ hfit] at H'
 exact h W' H'
theorem madeCells_one (z : Value) (n : Nat) : (madeCells #[z] n).toList = List.replicate n z := by
 apply List.ext_getElem?
 intro j
 simp [madeCells,List.getElem?_replicate]
 by_cases hj : j < n
 ·simp [hj,Nat.mod_one]
 ·simp [hj]
theorem w_make1 (H : Own w0 F L W) (t e : TypeId) (x y : Operand) (ho : o.op = .makeSlice t x y) (n : Nat) (hx : a.eval x = .int .i64 n) (hy : a.eval y = .int .i64 n) (ht : P.underlying t = some (.slice e)) (z : Value) (hz1 : z.cells = #[z]) (bytes : Nat)
  (hinfo : (P.info? e).map (fun i => (i.zero,i.size,i.bytes)) = some (some z,1,bytes)) (hl : n * bytes ≤ 281474976710656) (hm : n ≤ 9223372036854775807)
  (h : ∀ g W',Own w0 F (.blk g e (List.replicate n z) :: L) W' → K (a.put o.dst (.slice (some ⟨g,0,none⟩) n n)) W') : o.wp P a W K Q := by
 obtain ⟨i,hi,hzz⟩ := Option.map_eq_some_iff.1 hinfo
 simp only [Prod.mk.injEq] at hzz
 obtain ⟨hz0,hs,hb⟩ := hzz
 have hbi : ((i.bytes : Nat) : Int) * (n : Int) ≤ 281474976710656 := by
  rw [hb,Int.mul_comm,← Int.natCast_mul]
  omega
 have hr := run_make (P := P) W t e i z ht hi hz0 .i64 .i64 (n : Int) (n : Int) (by omega) (Int.le_refl _) hbi (by omega)
 simp only [Int.toNat_natCast,hs,Nat.mul_one,hz1] at hr
 have hrun : (execOp a.eval o).run P W = .ok (.value (.slice (some ⟨W.heap.size,0,none⟩) n n)) (W.alloc (.cells (madeCells #[z] n) e)) := by
  unfold execOp
  simp [ho,hx,hy,hr]
 unfold Oper.wp
 rw [hrun]
 refine h _ _ ?_
 have e1 : madeCells #[z] n = (List.replicate n z).toArray := by rw [← madeCells_one z n,Array.toArray_toList]
 rw [e1]
 exact H.alloc e _
theorem fill_go : ∀ (l : List (Value × Nat)) (Z : Array Value),(l.foldl (fun cs (c,j) => cs.setIfInBounds (0 + j) c) Z).size = Z.size
 |[],Z => rfl
 |(c,j) :: l,Z => by
  rw [List.foldl_cons,fill_go l]
  simp
theorem fill_get (v : Array Value) : ∀ (n : Nat) (Z : Array Value),n ≤ v.size → Z.size = v.size →
  ∀ j,j < n → ((v.zipIdx.toList.take n).foldl (fun cs (c,j) => cs.setIfInBounds (0 + j) c) Z)[j]? = v[j]?
 |0,Z,_,_,j,hj => by omega
 |n + 1,Z,hn,hZ,j,hj => by
  have hl : n < v.zipIdx.toList.length := by simp;omega
  rw [List.take_add_one,List.getElem?_eq_getElem hl,List.foldl_append]
  have hs := fill_go (v.zipIdx.toList.take n) Z
  have ih := fill_get v n Z (by omega) hZ
  simp only [Option.toList_some,List.foldl_cons,List.foldl_nil,Array.getElem_toList,Array.getElem_zipIdx]
  rw [Array.getElem?_setIfInBounds]
  by_cases h : j = n
  ·subst h
   rw [if_pos (by omega),if_pos (by rw [hs];omega)]
   simp
  ·rw [if_neg (by omega)]
   exact ih j (by omega)
theorem fill_all (v Z : Array Value) (hZ : Z.size = v.size) : v.zipIdx.foldl (fun cs (c,j) => cs.setIfInBounds (0 + j) c) Z = v := by
 rw [← Array.foldl_toList]
 have ht : v.zipIdx.toList.take v.size = v.zipIdx.toList := List.take_of_length_le (by simp)
 rw [← ht]
 apply Array.ext
 ·rw [fill_go,hZ]
 ·intro j h1 h2
  have := fill_get v v.size Z (Nat.le_refl _) hZ j h2
  rw [Array.getElem?_eq_getElem h1,Array.getElem?_eq_getElem h2] at this
  exact Option.some.inj this
theorem w_build1 (H : Own w0 F L W) (t e : TypeId) (x : Operand) (ho : o.op = .buildSlice t 1 #[(0,x)]) (ht : P.underlying t = some (.slice e)) (v : Value) (hx : a.eval x = v) (z : Value) (size : Nat)
  (hinfo : (P.info? e).map (fun i => (i.zero,i.size)) = some (some z,size)) (hz : z.cells.size = size) (hv : v.cells.size = size) (hs0 : 0 < size) (hs : size ≤ 16777216)
  (h : ∀ g W',Own w0 F (.blk g e v.cells.toList :: L) W' → K (a.put o.dst (.slice (some ⟨g,0,none⟩) 1 1)) W') : o.wp P a W K Q := by
 obtain ⟨i,hi,hzz⟩ := Option.map_eq_some_iff.1 hinfo
 simp only [Prod.mk.injEq] at hzz
 obtain ⟨hz0,hsz⟩ := hzz
 have hfill : Instr.fill (fun i => some (i * size,size)) ((Array.range (1 * size)).map (z.cells[· % z.cells.size]!)) [(0,v)] = some v.cells := by
  simp only [Instr.fill,Nat.zero_mul]
  rw [if_neg (by simp [hv])]
  rw [fill_all v.cells _ (by simp [hv])]
 have hrun : (execOp a.eval o).run P W = .ok (.value (.slice (some ⟨W.heap.size,0,none⟩) 1 1)) (W.alloc (.cells v.cells e)) := by
  unfold execOp
  have n1 : ¬ (2 ^ 24 < 1 * size) := by omega
  have n2 : ¬ (1 * size = 0) := by omega
  simp only [ho,Instr.buildSlice,Sem.run_bind,run_underlying ht,Result.andThen_ok,List.map_toArray,List.map_cons,List.map_nil,hx]
  simp only [sizeOf,typeInfo,hi,hsz,zeroValue,hz0]
  simp [hi,hsz,hz0,n1,n2,hs0,Nat.ne_of_gt hs0,newRow]
  simp only [Nat.one_mul] at hfill
  simp [hfill,show ¬ (16777216 < size) by omega]
 unfold Oper.wp
 rw [hrun]
 have := H.alloc e v.cells.toList
 exact h _ _ (by simpa using this)
theorem w_build0 (H : Own w0 F L W) (t e : TypeId) (ho : o.op = .buildSlice t 0 #[]) (ht : P.underlying t = some (.slice e)) (hinfo : (P.info? e).isSome = true)
  (h : ∀ g W',Own w0 F (.row (.slice (some ⟨g,0,none⟩) 0 0) e ((P.info? e).map (·.size)).get! 0 [] :: L) W' → K (a.put o.dst (.slice (some ⟨g,0,none⟩) 0 0)) W') : o.wp P a W K Q := by
 obtain ⟨i,hi⟩ := Option.isSome_iff_exists.1 hinfo
 have hrun : (execOp a.eval o).run P W = .ok (.value (.slice (some ⟨W.heap.size,0,none⟩) 0 0)) (W.alloc (.cells #[] e)) := by
  unfold execOp
  simp [ho,Instr.buildSlice,run_underlying ht,sizeOf,typeInfo,hi,Instr.fill,newRow,Array.range_zero']
 unfold Oper.wp
 rw [hrun]
 refine h _ _ (H.cons (below_alloc (Below.refl _ _) _) ?_ (fun k hk => by simp [Res.block,Value.ownBlock] at hk;omega))
 exact World.ownsRow_lit W #[] 0 H.size (by decide) (by simp)
theorem w_append (H : Own w0 F L W) (s x : Operand) (t e : TypeId) (ho : o.op = .call { callee := .builtin .append,args := #[s,x],argTypes := #[t,t] }) (ht : P.underlying t = some (.slice e)) (z : Value) (size bytes : Nat)
  (hinfo : (P.info? e).map (fun i => (i.zero,i.size,i.bytes)) = some (some z,size,bytes)) (hz : z.cells.size = size) (hs0 : 0 < size) (hb0 : 0 < bytes) (v : Value) (n : Nat) (xs : List Value) (hs : a.eval s = v) (hI : In L (.row v e size n xs) c)
  (A : Option Addr) (m cc : Nat) (news : List Value) (hx : a.eval x = .slice A m cc) (hl : news.length = m * size) (hsrc : 0 < m → ∃ ad,A = some ad ∧ ∀ j u,news[j]? = some u → W.cell? (ad.add j) = some u) (h1 : ∀ u ∈ news,u.oneCell' = true) (hbytes : (n + m) * bytes ≤ 140737488355328)
  (h : ∀ v' W',Own w0 F (c (.row v' e size (n + m) (xs ++ news))) W' → K (a.put o.dst v') W') : o.wp P a W K Q := by
 obtain ⟨i,hi,hzz⟩ := Option.map_eq_some_iff.1 hinfo
 simp only [Prod.mk.injEq] at hzz
 obtain ⟨hz0,hz1,hz2⟩ := hzz
 have hown : W.ownsRow w0.heap.size e size v n xs := H.at_ hI
 have hlen : n + m ≤ 140737488355328 := Nat.le_trans (Nat.le_mul_of_pos_right _ hb0) hbytes
 have hrun : ∃ v1 w1,(Builtin.append_ #[t,t] o.type #[v,.slice A m cc]).run P W = .ok v1 w1 ∧ w1.ownsRow w0.heap.size e size v1 (n + m) (xs ++ news) ∧ W.grownBy w1 v.ownBlock ∧ (v1.ownBlock = v.ownBlock ∨ ∃ b,v1.ownBlock = some b ∧ W.heap.size ≤ b) := by
  rcases A with _|ad
  ·have h0 : m = 0 := by
    rcases Nat.eq_zero_or_pos m with h0|h0
    ·exact h0
    ·obtain ⟨ad,h,_⟩ := hsrc h0
     cases h
   subst h0
   obtain rfl : news = [] := List.eq_nil_of_length_eq_zero (by omega)
   refine ⟨v,W,?_,by rw [List.append_nil];exact hown,World.grownBy.refl W _,.inl rfl⟩
   rcases hown.2 with ⟨rfl,hn⟩|⟨g,cap,cur,rfl,_,_,hnc,_⟩
   ·simp [Builtin.append_,run_underlying ht,sizeOf,typeInfo,hi,Builtin.lenOf,Builtin.firstCells]
   ·simp [Builtin.append_,run_underlying ht,sizeOf,typeInfo,hi,Builtin.lenOf,Builtin.firstCells,hnc,storeCells]
  ·have hc : ∀ j u,news[j]? = some u → W.cell? (ad.add j) = some u := by
    intro j u hj
    rcases Nat.eq_zero_or_pos m with h0|h0
    ·have := (List.getElem?_eq_some_iff.1 hj).1
     rw [hl,h0] at this
     omega
    ·obtain ⟨ad',e1,h2⟩ := hsrc h0
     obtain rfl := Option.some.inj e1
     exact h2 j u hj
   obtain ⟨v1,w1,hrun,h2,hg,_,hat⟩ := run_append_own_at (P := P) W w0.heap.size t o.type e i z size bytes ht hi hz0 hz1 hz2 hz hs0 v n xs hown ad m cc news hl hc h1 (by simp only [maxLen];omega) hbytes H.size
   refine ⟨v1,w1,hrun,h2,hg,?_⟩
   rcases hat with hat|hat
   ·exact .inl hat
   ·exact .inr ⟨_,hat,Nat.le_refl _⟩
 obtain ⟨v1,w1,hr,h2,hg,hat⟩ := hrun
 unfold Oper.wp execOp
 simp only [ho,resolve,invoke,builtin,Sem.run_bind,Sem.run_pure,Result.andThen_ok,List.map_toArray,List.map_cons,List.map_nil,hs,hx,hr]
 refine h _ _ (H.repl hI hg h2 (fun k hk => ?_))
 have hk' : v1.ownBlock = some k := hk
 rcases hat with hat|⟨b,hb,hle⟩
 ·exact .inl (by show v.ownBlock = some k;rw [← hat];exact hk')
 ·exact .inr (by rw [hb] at hk';injection hk' with hk';omega)
theorem w_append1 (H : Own w0 F L W) (s x : Operand) (t e : TypeId) (ho : o.op = .call { callee := .builtin .append,args := #[s,x],argTypes := #[t,t] }) (ht : P.underlying t = some (.slice e)) (z : Value) (size bytes : Nat)
  (hinfo : (P.info? e).map (fun i => (i.zero,i.size,i.bytes)) = some (some z,size,bytes)) (hz : z.cells.size = size) (hs0 : 0 < size) (hb0 : 0 < bytes) (v : Value) (n : Nat) (xs : List Value) (hs : a.eval s = v) (hI : In L (.row v e size n xs) c)
  (g : Nat) (news : List Value) {t' : TypeId} {c' : Res → List Res} (hx : a.eval x = .slice (some ⟨g,0,none⟩) 1 1) (hI' : In L (.blk g t' news) c') (hl : news.length = size) (h1 : ∀ u ∈ news,u.oneCell' = true) (hbytes : (n + 1) * bytes ≤ 140737488355328)
  (h : ∀ v' W',Own w0 F (c (.row v' e size (n + 1) (xs ++ news))) W' → K (a.put o.dst v') W') : o.wp P a W K Q :=
 w_append H s x t e ho ht z size bytes hinfo hz hs0 hb0 v n xs hs hI (some ⟨g,0,none⟩) 1 1 news hx (by omega) (fun _ => ⟨_,rfl,fun j u hj => by rw [addr_add,H.cell hI',Nat.zero_add];exact hj⟩) h1 hbytes h
theorem w_copy (H : Own w0 F L W) (d s : Operand) (dT sT : TypeId) (ho : o.op = .call { callee := .builtin .copy,args := #[d,s],argTypes := #[dT,sT] }) (elem : TypeId) (hu : P.underlying dT = some (.slice elem)) (hsz : (P.info? elem).map (·.size) = some 1)
  (g off dLen dCap : Nat) (hd : a.eval d = .slice (some ⟨g,off,none⟩) dLen dCap) {t : TypeId} {cs : List Value} (hI : In L (.blk g t cs) c) (A : Option Addr) (sLen sCap : Nat) (hs : a.eval s = .slice A sLen sCap) (ys : List Value) (hl : ys.length = min sLen dLen)
  (hsrc : 0 < sLen → ∃ ad,A = some ad ∧ ∀ j u,ys[j]? = some u → W.cell? (ad.add j) = some u) (h1 : ∀ u ∈ ys,u.oneCell' = true) (hfit : off + min sLen dLen ≤ cs.length)
  (h : ∀ W',Own w0 F (c (.blk g t (splice cs off ys))) W' → K (a.put o.dst (goInt (min sLen dLen : Nat))) W') : o.wp P a W K Q := by
 have hrun : (Builtin.copy_ #[dT,sT] o.type #[.slice (some ⟨g,off,none⟩) dLen dCap,.slice A sLen sCap]).run P W = .ok (goInt (min sLen dLen : Nat)) (W.setCells g off ys) := by
  rcases Nat.eq_zero_or_pos (min sLen dLen) with h0|h0
  ·obtain rfl : ys = [] := List.eq_nil_of_length_eq_zero (by omega)
   rw [run_copy_none W dT sT o.type elem _ _ dLen dCap sLen sCap hu hsz h0,h0]
   rfl
  ·obtain ⟨ad,rfl,hc⟩ := hsrc (by omega)
   have hth := H.there hI off ys.length (by omega)
   rw [run_copy_cells W dT sT o.type elem g off dLen dCap ad sLen sCap ys hu hsz hl hc (fun j hj => (hth j hj).1) (fun j hj => (hth j hj).2) h1,hl]
 unfold Oper.wp execOp
 simp only [ho,resolve,invoke,builtin,Sem.run_bind,Sem.run_pure,Result.andThen_ok,List.map_toArray,List.map_cons,List.map_nil,hd,hs,hrun]
 exact h _ (H.setCells hI off ys (by omega))
theorem w_copyC {k : IntKind} (H : Own w0 F L W) (d s : Operand) (dT sT : TypeId) (ho : o.op = .call { callee := .builtin .copy,args := #[d,s],argTypes := #[dT,sT] }) (elem : TypeId) (hu : P.underlying dT = some (.slice elem)) (hsz : (P.info? elem).map (·.size) = some 1)
  (g off dLen dCap : Nat) (hd : a.eval d = .slice (some ⟨g,off,none⟩) dLen dCap) {t : TypeId} {zs : List Int} (hI : In L (.blk g t (nums k zs)) c) (A : Option Addr) (sLen sCap : Nat) (hs : a.eval s = .slice A sLen sCap) (ys : List Int) (hy : (Kd.int k).C W A sLen ys) (hfit : off + min sLen dLen ≤ zs.length)
  (h : ∀ W',Own w0 F (c (.blk g t (nums k (splice zs off (ys.take (min sLen dLen)))))) W' → K (a.put o.dst (goInt (min sLen dLen : Nat))) W') : o.wp P a W K Q := by
 have hyl : ys.length = sLen := hy.1
 refine w_copy H d s dT sT ho elem hu hsz g off dLen dCap hd hI A sLen sCap hs (nums k (ys.take (min sLen dLen))) (by rw [nums_length,List.length_take];omega) ?_ ?_ (by rw [nums_length];exact hfit) ?_
 ·intro hp
  obtain ⟨ad,e,hc⟩ := hy.2.2 hp
  refine ⟨ad,e,fun j v hj => ?_⟩
  simp only [nums,List.getElem?_map,Option.map_eq_some_iff] at hj
  obtain ⟨z,hz,rfl⟩ := hj
  have hjl : j < min sLen dLen := by have := (List.getElem?_eq_some_iff.1 hz).1;simp at this;omega
  rw [List.getElem?_take_of_lt hjl] at hz
  obtain ⟨c,hs',hr,hcell⟩ := hc j z hz
  have hr' : c = [.int k z] := hr
  subst hr'
  have := hcell 0 _ rfl
  rw [show (Kd.int k).sz = 1 from rfl] at this
  simpa using this
 ·intro u hu
  obtain ⟨z,-,rfl⟩ := List.mem_map.1 hu
  rfl
 ·intro W' H'
  refine h W' ?_
  have e : splice (nums k zs) off (nums k (ys.take (min sLen dLen))) = nums k (splice zs off (ys.take (min sLen dLen))) := by simp [splice,nums,List.map_take,List.map_drop]
  rw [e] at H'
  exact H'
/-! the same by shape: a value of one cell (1), an array or a struct (A) -/
theorem w_alloc1 (H : Own w0 F L W) (t : TypeId) (ho : o.op = .alloc t) (z : Value) (hz : (P.info? t).bind (·.zero) = some z) (hz1 : z.cells = #[z])
  (h : ∀ g W',Own w0 F (.blk g t [z] :: L) W' → K (a.put o.dst (.pointer (some ⟨g,0,none⟩))) W') : o.wp P a W K Q :=
 w_alloc H t ho z hz (fun g W' H' => h g W' (by rw [hz1] at H';exact H'))
theorem w_allocA (H : Own w0 F L W) (t : TypeId) (ho : o.op = .alloc t) (X : List Value) (hz : (P.info? t).bind (·.zero) = some (.agg X.toArray))
  (h : ∀ g W',Own w0 F (.blk g t X :: L) W' → K (a.put o.dst (.pointer (some ⟨g,0,none⟩))) W') : o.wp P a W K Q :=
 w_alloc H t ho _ hz h
theorem w_box1 (H : Own w0 F L W) (t : TypeId) (x : Operand) (ho : o.op = .box t x) (v : Value) (hx : a.eval x = v) (hv : v.cells = #[v])
  (h : ∀ g W',Own w0 F (.blk g t [v] :: L) W' → K (a.put o.dst (.pointer (some ⟨g,0,none⟩))) W') : o.wp P a W K Q :=
 w_box H t x ho v hx (fun g W' H' => h g W' (by rw [hv] at H';exact H'))
theorem w_boxA (H : Own w0 F L W) (t : TypeId) (x : Operand) (ho : o.op = .box t x) (X : List Value) (hx : a.eval x = .agg X.toArray)
  (h : ∀ g W',Own w0 F (.blk g t X :: L) W' → K (a.put o.dst (.pointer (some ⟨g,0,none⟩))) W') : o.wp P a W K Q :=
 w_box H t x ho _ hx h
theorem r_load1 (H : Own w0 F L W) (ty : TypeId) (x : Operand) (ho : o.op = .load ty x) (g off : Nat) (hx : a.eval x = .pointer (some ⟨g,off,none⟩)) {t : TypeId} {cs : List Value} (hI : In L (.blk g t cs) c)
  (d : TypeDesc) (hu : P.underlying ty = some d) (hd : d.isRow = false) (v : Value) (hv : cs[off]? = some v) : (execOp a.eval o).run P W = .ok (.value v) W := by
 have hag : (isAgg ty).run P W = .ok false W := by
  unfold isAgg
  rw [Sem.run_bind,run_underlying hu W]
  cases d <;> simp_all
 have hc := H.cell hI off
 rw [hv] at hc
 unfold execOp
 simp [ho,hx,Instr.loadAt,Instr.sureAddr,loadVar,hag,hc]
theorem r_loadM (H : Own w0 F L W) (ty : TypeId) (x : Operand) (ho : o.op = .load ty x) (g off : Nat) (hx : a.eval x = .pointer (some ⟨g,off,none⟩)) {t : TypeId} {cs : List Value} (hI : In L (.blk g t cs) c)
  (n : Nat) (d : TypeDesc) (hu : P.underlying ty = some d) (hd : d.isRow = true) (hi : (P.info? ty).map (·.size) = some n) (hfit : off + n ≤ cs.length) : (execOp a.eval o).run P W = .ok (.value (.agg ((cs.drop off).take n).toArray)) W := by
 have := run_loadVar_mid W g off ty _ d (H.range hI off n) hu hd (by rw [hi,List.length_take,List.length_drop];congr 1;omega)
 unfold execOp
 simp [ho,hx,Instr.loadAt,Instr.sureAddr,this]
theorem r_loadA (H : Own w0 F L W) (ty : TypeId) (x : Operand) (ho : o.op = .load ty x) (g : Nat) (hx : a.eval x = .pointer (some ⟨g,0,none⟩)) {t : TypeId} {cs : List Value} (hI : In L (.blk g t cs) c)
  (n : Nat) (d : TypeDesc) (hu : P.underlying ty = some d) (hd : d.isRow = true) (hi : (P.info? ty).map (·.size) = some n) (hfit : cs.length = n) : (execOp a.eval o).run P W = .ok (.value (.agg cs.toArray)) W := by
 have := r_loadM H ty x ho g 0 hx hI n d hu hd hi (by omega)
 rw [List.drop_zero,List.take_of_length_le (by omega)] at this
 exact this
theorem w_loadA (H : Own w0 F L W) (ty : TypeId) (x : Operand) (ho : o.op = .load ty x) (g : Nat) (hx : a.eval x = .pointer (some ⟨g,0,none⟩)) {t : TypeId} {cs : List Value} (hI : In L (.blk g t cs) c)
  (n : Nat) (d : TypeDesc) (hu : P.underlying ty = some d) (hd : d.isRow = true) (hi : (P.info? ty).map (·.size) = some n) (hfit : cs.length = n) (h : K (a.put o.dst (.agg cs.toArray)) W) : o.wp P a W K Q := by
 unfold Oper.wp
 rw [r_loadA H ty x ho g hx hI n d hu hd hi hfit]
 exact h
theorem w_storeA (H : Own w0 F L W) (ty : TypeId) (x y : Operand) (ho : o.op = .store ty x y) (g off : Nat) (hx : a.eval x = .pointer (some ⟨g,off,none⟩)) (X : List Value) (hy : a.eval y = .agg X.toArray) {t : TypeId} {cs : List Value} (hI : In L (.blk g t cs) c)
  (n : Nat) (hi : (P.info? ty).map (·.size) = some n) (hn : X.length = n) (hfit : off + n ≤ cs.length) (h1 : ∀ u ∈ X,u.oneCell' = true)
  (h : ∀ W',Own w0 F (c (.blk g t (splice cs off X))) W' → K (a.put o.dst undef) W') : o.wp P a W K Q :=
 w_store H ty x y ho g off hx _ hy hI (by rw [hi];simp [Value.cells,hn]) (by simp [Value.cells,hn];exact hfit) (by simpa [Value.cells] using h1) h
theorem w_storeW (H : Own w0 F L W) (ty : TypeId) (x y : Operand) (ho : o.op = .store ty x y) (g : Nat) (hx : a.eval x = .pointer (some ⟨g,0,none⟩)) (X : List Value) (hy : a.eval y = .agg X.toArray) {t : TypeId} {cs : List Value} (hI : In L (.blk g t cs) c)
  (n : Nat) (hi : (P.info? ty).map (·.size) = some n) (hn : X.length = n) (hfit : cs.length = n) (h1 : ∀ u ∈ X,u.oneCell' = true)
  (h : ∀ W',Own w0 F (c (.blk g t X)) W' → K (a.put o.dst undef) W') : o.wp P a W K Q :=
 w_storeA H ty x y ho g 0 hx X hy hI n hi hn (by omega) h1 (fun W' H' => h W' (by
  rw [show splice cs 0 X = X by simp [splice];omega] at H'
  exact H'))
theorem nums_at {k : IntKind} {xs : List Int} (i : Nat) (h : i < xs.length) : (nums k xs)[i]? = some (.int k (xs.getD i 0)) := by
 rw [nums,List.getElem?_map,List.getElem?_eq_getElem h,List.getD_eq_getElem?_getD,List.getElem?_eq_getElem h]
 rfl
theorem nums_one {k : IntKind} {xs : List Int} : ∀ u ∈ nums k xs,u.oneCell' = true := by
 intro u hu
 obtain ⟨z,-,rfl⟩ := List.mem_map.1 hu
 rfl
theorem nums_set {k : IntKind} {xs : List Int} (i : Nat) (z : Int) : (nums k xs).set i (.int k z) = nums k (xs.set i z) := by simp [nums,List.map_set]
theorem w_build1A (H : Own w0 F L W) (t e : TypeId) (x : Operand) (ho : o.op = .buildSlice t 1 #[(0,x)]) (ht : P.underlying t = some (.slice e)) (X : List Value) (hx : a.eval x = .agg X.toArray) (z : Value) (size : Nat)
  (hinfo : (P.info? e).map (fun i => (i.zero,i.size)) = some (some z,size)) (hz : z.cells.size = size) (hv : X.length = size) (hs0 : 0 < size) (hs : size ≤ 16777216)
  (h : ∀ g W',Own w0 F (.blk g e X :: L) W' → K (a.put o.dst (.slice (some ⟨g,0,none⟩) 1 1)) W') : o.wp P a W K Q :=
 w_build1 H t e x ho ht _ hx z size hinfo hz (by simpa [Value.cells] using hv) hs0 hs h
theorem w_build11 (H : Own w0 F L W) (t e : TypeId) (x : Operand) (ho : o.op = .buildSlice t 1 #[(0,x)]) (ht : P.underlying t = some (.slice e)) (v : Value) (hx : a.eval x = v) (z : Value)
  (hinfo : (P.info? e).map (fun i => (i.zero,i.size)) = some (some z,1)) (hz : z.cells = #[z]) (hv : v.cells = #[v])
  (h : ∀ g W',Own w0 F (.blk g e [v] :: L) W' → K (a.put o.dst (.slice (some ⟨g,0,none⟩) 1 1)) W') : o.wp P a W K Q :=
 w_build1 H t e x ho ht v hx z 1 hinfo (by rw [hz];rfl) (by rw [hv];rfl) (by decide) (by decide) (fun g W' H' => h g W' (by rw [hv] at H';exact H'))
theorem r_strR (H : Own w0 F L W) (src dst e : TypeId) (x : Operand) (ho : o.op = .convert src dst x) (v : Value) (hx : a.eval x = v) {e' n : Nat} {xs : List Int} (hI : In L (.row v e' 1 n (nums .u8 xs)) c)
  (hs : P.underlying src = some (.slice e)) (he : P.underlying e = some (.int .u8)) (hd : P.underlying dst = some .string) : (execOp a.eval o).run P W = .ok (.value (.string (strOfNums xs))) W := by
 have := own_string (P := P) hs he hd (H.at_ hI)
 unfold execOp
 simp [ho,hx,this]
theorem r_strC (src dst e : TypeId) (x : Operand) (ho : o.op = .convert src dst x) {A : Option Addr} {n cc : Nat} (hx : a.eval x = .slice A n cc) {xs : List Int} (hC : (Kd.int .u8).C W A n xs)
  (hs : P.underlying src = some (.slice e)) (he : P.underlying e = some (.int .u8)) (hd : P.underlying dst = some .string) : (execOp a.eval o).run P W = .ok (.value (.string (strOfNums xs))) W := by
 have := Kd.C_string (P := P) (c := cc) hs he hd hC
 unfold execOp
 simp [ho,hx,this]
theorem w_strR (H : Own w0 F L W) (src dst e : TypeId) (x : Operand) (ho : o.op = .convert src dst x) (v : Value) (hx : a.eval x = v) {e' n : Nat} {xs : List Int} (hI : In L (.row v e' 1 n (nums .u8 xs)) c)
  (hs : P.underlying src = some (.slice e)) (he : P.underlying e = some (.int .u8)) (hd : P.underlying dst = some .string) (h : K (a.put o.dst (.string (strOfNums xs))) W) : o.wp P a W K Q := by
 unfold Oper.wp
 rw [r_strR H src dst e x ho v hx hI hs he hd]
 exact h
theorem Own.row_blk {v : Value} {e sz n : Nat} {xs : List Value} (H : Own w0 F L W) (hI : In L (.row v e sz n xs) c) (hn : 0 < n) :
  ∃ g cap cur,v = .slice (some ⟨g,0,none⟩) n cap ∧ n ≤ cap ∧ cap ≤ 9223372036854775807 ∧ cur.length = cap * sz ∧ cur.take (n * sz) = xs ∧ Own w0 F (c (.blk g e cur)) W := by
 have h := H.at_ hI
 rcases h.2 with ⟨rfl,h0⟩|⟨g,cap,cur,rfl,hb,hg,hnc,hcm,hcs,ht⟩
 ·omega
 ·refine ⟨g,cap,cur.toList,rfl,hnc,by simpa [maxLen] using hcm,by rw [Array.length_toList,hcs],ht,H.repl hI (World.grownBy.refl W _) ⟨hb,by simpa using hg⟩ (fun k hk => .inl ?_)⟩
  simp [Res.block,Value.ownBlock] at hk ⊢
  exact hk
def zs (n : Nat) : List Int := List.replicate n 0
end
/-! in a region that draws its order: a load, taken first -/
section
variable {P : Program} {ops : Array Oper} {Q : Exit → Act → World → Prop} {md : Region.Mode} {ds : List Nat} {w0 : World} {F : Nat → Option Obj} {L : List Res} {c : Res → List Res}
theorem take_loadA {i : Nat} {N : Option Tmp} {oi : Oper} {fuel : Nat} {l : Array Bool} {a : Act} {w : World} (l' : Array Bool) (hi : ops[i]? = some oi) (hN : oi.dst = N) (hc : takeB md ops ds l l' i = true)
  (hQ : ∀ c a w,∀ v,Q (.panic c) (a.put oi.dst v) w → Q (.panic c) a w) (hw : Region.wanted oi (yielded ops a.tmps) = true) (hS : Own w0 F L w)
  (ty : TypeId) (x : Operand) (ho : oi.op = .load ty x) (g : Nat) (hx : a.eval x = .pointer (some ⟨g,0,none⟩)) {t : TypeId} {cs : List Value} (hI : In L (.blk g t cs) c)
  (n : Nat) (d : TypeDesc) (hu : P.underlying ty = some d) (hd : d.isRow = true) (hz : (P.info? ty).map (·.size) = some n) (hfit : cs.length = n) {a' : Act} (ha : a.put N (.agg cs.toArray) = a')
  (h : wpAnyLast P md ops Q (Own w0 F L) ds fuel l' a' w) : wpAnyLast P md ops Q (Own w0 F L) ds (fuel + 1) l a w :=
 take_ l' hi hN hc (fun c a w => hQ c a w _) (Or.inl ⟨hw,fun X HX => r_loadA HX ty x ho g hx hI n d hu hd hz hfit⟩) hS ha h
theorem take_load1 {i : Nat} {N : Option Tmp} {oi : Oper} {fuel : Nat} {l : Array Bool} {a : Act} {w : World} (l' : Array Bool) (hi : ops[i]? = some oi) (hN : oi.dst = N) (hc : takeB md ops ds l l' i = true)
  (hQ : ∀ c a w,∀ v,Q (.panic c) (a.put oi.dst v) w → Q (.panic c) a w) (hw : Region.wanted oi (yielded ops a.tmps) = true) (hS : Own w0 F L w)
  (ty : TypeId) (x : Operand) (ho : oi.op = .load ty x) (g off : Nat) (hx : a.eval x = .pointer (some ⟨g,off,none⟩)) {t : TypeId} {cs : List Value} (hI : In L (.blk g t cs) c)
  (d : TypeDesc) (hu : P.underlying ty = some d) (hd : d.isRow = false) (v : Value) (hv : cs[off]? = some v) {a' : Act} (ha : a.put N v = a')
  (h : wpAnyLast P md ops Q (Own w0 F L) ds fuel l' a' w) : wpAnyLast P md ops Q (Own w0 F L) ds (fuel + 1) l a w :=
 take_ l' hi hN hc (fun c a w => hQ c a w _) (Or.inl ⟨hw,fun X HX => r_load1 HX ty x ho g off hx hI d hu hd v hv⟩) hS ha h
theorem take_run {S : World → Prop} {i : Nat} {N : Option Tmp} {oi : Oper} {fuel : Nat} {l : Array Bool} {a : Act} {w : World} (l' : Array Bool) (hi : ops[i]? = some oi) (hN : oi.dst = N) (hc : takeB md ops ds l l' i = true)
  (hQ : ∀ c a w,∀ v,Q (.panic c) (a.put oi.dst v) w → Q (.panic c) a w) (hw : Region.wanted oi (yielded ops a.tmps) = true) (hS : S w)
  (v : Value) (hr : ∀ X,S X → (execOp a.eval oi).run P X = .ok (.value v) X) {a' : Act} (ha : a.put N v = a')
  (h : wpAnyLast P md ops Q S ds fuel l' a' w) : wpAnyLast P md ops Q S ds (fuel + 1) l a w :=
 take_ l' hi hN hc (fun c a w => hQ c a w _) (Or.inl ⟨hw,hr⟩) hS ha h
end
section
variable {P : Program} {ops : Array Oper} {Q : Exit → Act → World → Prop}
theorem callK_ {oi : Oper} {N : Option Tmp} {a : Act} {w : World} {K : Act → World → Prop} {f : FuncId} {fn : Func} {as_ : Array Operand} {ts : Array TypeId} {args : Array Value} {R : Ending → World → Prop} (hcall : Calls P f args w R) (hf : P.funcs[f]? = some fn)
  (hname : (fn.name == "runtime.NumGoroutine") = false) (hb : fn.body.isSome = true) (hw : Region.wanted oi (yielded ops a.tmps) = true) (hN : oi.dst = N) (hop : oi.op = .call { callee := .value (.func f), args := as_, argTypes := ts }) (hargs : as_.map a.eval = args)
  (h : ∀ e w',R e w' → ∃ v,e = .returned v ∧ K (a.put N v) w') : if Region.wanted oi (yielded ops a.tmps) = true then Oper.wp P oi a w K Q else K (a.put N undef) w :=
 goes_ hf hname hb args hw hN hop hargs (hcall.mono h)
end
section
variable {P : Program} {ops : Array Oper} {rest : List Oper} {o : Oper} {a : Act} {Q : Exit → Act → World → Prop} {w0 W : World} {F : Nat → Option Obj} {L : List Res} {c : Res → List Res}
/-! the same in a plain region -/
theorem l_load1 (hgd : o.guard = none) (H : Own w0 F L W) (ty : TypeId) (x : Operand) (ho : o.op = .load ty x) (g off : Nat) (hx : a.eval x = .pointer (some ⟨g,off,none⟩)) {t : TypeId} {cs : List Value} (hI : In L (.blk g t cs) c)
  (d : TypeDesc) (hu : P.underlying ty = some d) (hd : d.isRow = false) (v : Value) (hv : cs[off]? = some v) (h : wpList P ops Q rest (a.put o.dst v) W) : wpList P ops Q (o :: rest) a W :=
 wpList_plain hgd fun K hK => w_load1 H ty x ho g off hx hI d hu hd v hv (hK _ _ h)
theorem l_store1 (hgd : o.guard = none) (H : Own w0 F L W) (ty : TypeId) (x y : Operand) (ho : o.op = .store ty x y) (g off : Nat) (hx : a.eval x = .pointer (some ⟨g,off,none⟩)) (v : Value) (hy : a.eval y = v) {t : TypeId} {cs : List Value} (hI : In L (.blk g t cs) c)
  (hv : v.cells = #[v]) (h1 : v.oneCell' = true) (hi : (P.info? ty).map (·.size) = some 1) (hfit : off < cs.length)
  (h : ∀ W',Own w0 F (c (.blk g t (cs.set off v))) W' → wpList P ops Q rest (a.put o.dst undef) W') : wpList P ops Q (o :: rest) a W :=
 wpList_plain hgd fun K hK => w_store1 H ty x y ho g off hx v hy hI hv h1 hi hfit (fun W' H' => hK _ _ (h W' H'))
theorem l_make1 (hgd : o.guard = none) (H : Own w0 F L W) (t e : TypeId) (x y : Operand) (ho : o.op = .makeSlice t x y) (n : Nat) (hx : a.eval x = .int .i64 n) (hy : a.eval y = .int .i64 n) (ht : P.underlying t = some (.slice e)) (z : Value) (hz1 : z.cells = #[z]) (bytes : Nat)
  (hinfo : (P.info? e).map (fun i => (i.zero,i.size,i.bytes)) = some (some z,1,bytes)) (hl : n * bytes ≤ 281474976710656) (hm : n ≤ 9223372036854775807)
  (h : ∀ g W',Own w0 F (.blk g e (List.replicate n z) :: L) W' → wpList P ops Q rest (a.put o.dst (.slice (some ⟨g,0,none⟩) n n)) W') : wpList P ops Q (o :: rest) a W :=
 wpList_plain hgd fun K hK => w_make1 H t e x y ho n hx hy ht z hz1 bytes hinfo hl hm (fun g W' H' => hK _ _ (h g W' H'))
theorem l_build0 (hgd : o.guard = none) (H : Own w0 F L W) (t e : TypeId) (ho : o.op = .buildSlice t 0 #[]) (ht : P.underlying t = some (.slice e)) (hinfo : (P.info? e).isSome = true)
  (h : ∀ g W',Own w0 F (.row (.slice (some ⟨g,0,none⟩) 0 0) e ((P.info? e).map (·.size)).get! 0 [] :: L) W' → wpList P ops Q rest (a.put o.dst (.slice (some ⟨g,0,none⟩) 0 0)) W') : wpList P ops Q (o :: rest) a W :=
 wpList_plain hgd fun K hK => w_build0 H t e ho ht hinfo (fun g W' H' => hK _ _ (h g W' H'))
theorem l_append (hgd : o.guard = none) (H : Own w0 F L W) (s x : Operand) (t e : TypeId) (ho : o.op = .call { callee := .builtin .append,args := #[s,x],argTypes := #[t,t] }) (ht : P.underlying t = some (.slice e)) (z : Value) (size bytes : Nat)
  (hinfo : (P.info? e).map (fun i => (i.zero,i.size,i.bytes)) = some (some z,size,bytes)) (hz : z.cells.size = size) (hs0 : 0 < size) (hb0 : 0 < bytes) (v : Value) (n : Nat) (xs : List Value) (hs : a.eval s = v) (hI : In L (.row v e size n xs) c)
  (A : Option Addr) (m cc : Nat) (news : List Value) (hx : a.eval x = .slice A m cc) (hl : news.length = m * size) (hsrc : 0 < m → ∃ ad,A = some ad ∧ ∀ j u,news[j]? = some u → W.cell? (ad.add j) = some u) (h1 : ∀ u ∈ news,u.oneCell' = true) (hbytes : (n + m) * bytes ≤ 140737488355328)
  (h : ∀ v' W',Own w0 F (c (.row v' e size (n + m) (xs ++ news))) W' → wpList P ops Q rest (a.put o.dst v') W') : wpList P ops Q (o :: rest) a W :=
 wpList_plain hgd fun K hK => w_append H s x t e ho ht z size bytes hinfo hz hs0 hb0 v n xs hs hI A m cc news hx hl hsrc h1 hbytes (fun v' W' H' => hK _ _ (h v' W' H'))
theorem l_append1 (hgd : o.guard = none) (H : Own w0 F L W) (s x : Operand) (t e : TypeId) (ho : o.op = .call { callee := .builtin .append,args := #[s,x],argTypes := #[t,t] }) (ht : P.underlying t = some (.slice e)) (z : Value) (size bytes : Nat)
  (hinfo : (P.info? e).map (fun i => (i.zero,i.size,i.bytes)) = some (some z,size,bytes)) (hz : z.cells.size = size) (hs0 : 0 < size) (hb0 : 0 < bytes) (v : Value) (n : Nat) (xs : List Value) (hs : a.eval s = v) (hI : In L (.row v e size n xs) c)
  (g : Nat) (news : List Value) {t' : TypeId} {c' : Res → List Res} (hx : a.eval x = .slice (some ⟨g,0,none⟩) 1 1) (hI' : In L (.blk g t' news) c') (hl : news.length = size) (h1 : ∀ u ∈ news,u.oneCell' = true) (hbytes : (n + 1) * bytes ≤ 140737488355328)
  (h : ∀ v' W',Own w0 F (c (.row v' e size (n + 1) (xs ++ news))) W' → wpList P ops Q rest (a.put o.dst v') W') : wpList P ops Q (o :: rest) a W :=
 wpList_plain hgd fun K hK => w_append1 H s x t e ho ht z size bytes hinfo hz hs0 hb0 v n xs hs hI g news hx hI' hl h1 hbytes (fun v' W' H' => hK _ _ (h v' W' H'))
theorem l_copyC (hgd : o.guard = none) {k : IntKind} (H : Own w0 F L W) (d s : Operand) (dT sT : TypeId) (ho : o.op = .call { callee := .builtin .copy,args := #[d,s],argTypes := #[dT,sT] }) (elem : TypeId) (hu : P.underlying dT = some (.slice elem)) (hsz : (P.info? elem).map (·.size) = some 1)
  (g off dLen dCap : Nat) (hd : a.eval d = .slice (some ⟨g,off,none⟩) dLen dCap) {t : TypeId} {zs : List Int} (hI : In L (.blk g t (nums k zs)) c) (A : Option Addr) (sLen sCap : Nat) (hs : a.eval s = .slice A sLen sCap) (ys : List Int) (hy : (Kd.int k).C W A sLen ys) (hfit : off + min sLen dLen ≤ zs.length)
  (h : ∀ W',Own w0 F (c (.blk g t (nums k (splice zs off (ys.take (min sLen dLen)))))) W' → wpList P ops Q rest (a.put o.dst (goInt (min sLen dLen : Nat))) W') : wpList P ops Q (o :: rest) a W :=
 wpList_plain hgd fun K hK => w_copyC H d s dT sT ho elem hu hsz g off dLen dCap hd hI A sLen sCap hs ys hy hfit (fun W' H' => hK _ _ (h W' H'))
theorem l_alloc1 (hgd : o.guard = none) (H : Own w0 F L W) (t : TypeId) (ho : o.op = .alloc t) (z : Value) (hz : (P.info? t).bind (·.zero) = some z) (hz1 : z.cells = #[z])
  (h : ∀ g W',Own w0 F (.blk g t [z] :: L) W' → wpList P ops Q rest (a.put o.dst (.pointer (some ⟨g,0,none⟩))) W') : wpList P ops Q (o :: rest) a W :=
 wpList_plain hgd fun K hK => w_alloc1 H t ho z hz hz1 (fun g W' H' => hK _ _ (h g W' H'))
theorem l_allocA (hgd : o.guard = none) (H : Own w0 F L W) (t : TypeId) (ho : o.op = .alloc t) (X : List Value) (hz : (P.info? t).bind (·.zero) = some (.agg X.toArray))
  (h : ∀ g W',Own w0 F (.blk g t X :: L) W' → wpList P ops Q rest (a.put o.dst (.pointer (some ⟨g,0,none⟩))) W') : wpList P ops Q (o :: rest) a W :=
 wpList_plain hgd fun K hK => w_allocA H t ho X hz (fun g W' H' => hK _ _ (h g W' H'))
theorem l_box1 (hgd : o.guard = none) (H : Own w0 F L W) (t : TypeId) (x : Operand) (ho : o.op = .box t x) (v : Value) (hx : a.eval x = v) (hv : v.cells = #[v])
  (h : ∀ g W',Own w0 F (.blk g t [v] :: L) W' → wpList P ops Q rest (a.put o.dst (.pointer (some ⟨g,0,none⟩))) W') : wpList P ops Q (o :: rest) a W :=
 wpList_plain hgd fun K hK => w_box1 H t x ho v hx hv (fun g W' H' => hK _ _ (h g W' H'))
theorem l_boxA (hgd : o.guard = none) (H : Own w0 F L W) (t : TypeId) (x : Operand) (ho : o.op = .box t x) (X : List Value) (hx : a.eval x = .agg X.toArray)
  (h : ∀ g W',Own w0 F (.blk g t X :: L) W' → wpList P ops Q rest (a.put o.dst (.pointer (some ⟨g,0,none⟩))) W') : wpList P ops Q (o :: rest) a W :=
 wpList_plain hgd fun K hK => w_boxA H t x ho X hx (fun g W' H' => hK _ _ (h g W' H'))
theorem l_loadA (hgd : o.guard = none) (H : Own w0 F L W) (ty : TypeId) (x : Operand) (ho : o.op = .load ty x) (g : Nat) (hx : a.eval x = .pointer (some ⟨g,0,none⟩)) {t : TypeId} {cs : List Value} (hI : In L (.blk g t cs) c)
  (n : Nat) (d : TypeDesc) (hu : P.underlying ty = some d) (hd : d.isRow = true) (hi : (P.info? ty).map (·.size) = some n) (hfit : cs.length = n) (h : wpList P ops Q rest (a.put o.dst (.agg cs.toArray)) W) : wpList P ops Q (o :: rest) a W :=
 wpList_plain hgd fun K hK => w_loadA H ty x ho g hx hI n d hu hd hi hfit (hK _ _ h)
theorem l_storeW (hgd : o.guard = none) (H : Own w0 F L W) (ty : TypeId) (x y : Operand) (ho : o.op = .store ty x y) (g : Nat) (hx : a.eval x = .pointer (some ⟨g,0,none⟩)) (X : List Value) (hy : a.eval y = .agg X.toArray) {t : TypeId} {cs : List Value} (hI : In L (.blk g t cs) c)
  (n : Nat) (hi : (P.info? ty).map (·.size) = some n) (hn : X.length = n) (hfit : cs.length = n) (h1 : ∀ u ∈ X,u.oneCell' = true)
  (h : ∀ W',Own w0 F (c (.blk g t X)) W' → wpList P ops Q rest (a.put o.dst undef) W') : wpList P ops Q (o :: rest) a W :=
 wpList_plain hgd fun K hK => w_storeW H ty x y ho g hx X hy hI n hi hn hfit h1 (fun W' H' => hK _ _ (h W' H'))
theorem l_build1A (hgd : o.guard = none) (H : Own w0 F L W) (t e : TypeId) (x : Operand) (ho : o.op = .buildSlice t 1 #[(0,x)]) (ht : P.underlying t = some (.slice e)) (X : List Value) (hx : a.eval x = .agg X.toArray) (z : Value) (size : Nat)
  (hinfo : (P.info? e).map (fun i => (i.zero,i.size)) = some (some z,size)) (hz : z.cells.size = size) (hv : X.length = size) (hs0 : 0 < size) (hs : size ≤ 16777216)
  (h : ∀ g W',Own w0 F (.blk g e X :: L) W' → wpList P ops Q rest (a.put o.dst (.slice (some ⟨g,0,none⟩) 1 1)) W') : wpList P ops Q (o :: rest) a W :=
 wpList_plain hgd fun K hK => w_build1A H t e x ho ht X hx z size hinfo hz hv hs0 hs (fun g W' H' => hK _ _ (h g W' H'))
theorem l_build11 (hgd : o.guard = none) (H : Own w0 F L W) (t e : TypeId) (x : Operand) (ho : o.op = .buildSlice t 1 #[(0,x)]) (ht : P.underlying t = some (.slice e)) (v : Value) (hx : a.eval x = v) (z : Value)
  (hinfo : (P.info? e).map (fun i => (i.zero,i.size)) = some (some z,1)) (hz : z.cells = #[z]) (hv : v.cells = #[v])
  (h : ∀ g W',Own w0 F (.blk g e [v] :: L) W' → wpList P ops Q rest (a.put o.dst (.slice (some ⟨g,0,none⟩) 1 1)) W') : wpList P ops Q (o :: rest) a W :=
 wpList_plain hgd fun K hK => w_build11 H t e x ho ht v hx z hinfo hz hv (fun g W' H' => hK _ _ (h g W' H'))
theorem l_strR (hgd : o.guard = none) (H : Own w0 F L W) (src dst e : TypeId) (x : Operand) (ho : o.op = .convert src dst x) (v : Value) (hx : a.eval x = v) {e' n : Nat} {xs : List Int} (hI : In L (.row v e' 1 n (nums .u8 xs)) c)
  (hs : P.underlying src = some (.slice e)) (he : P.underlying e = some (.int .u8)) (hd : P.underlying dst = some .string) (h : wpList P ops Q rest (a.put o.dst (.string (strOfNums xs))) W) : wpList P ops Q (o :: rest) a W :=
 wpList_plain hgd fun K hK => w_strR H src dst e x ho v hx hI hs he hd (hK _ _ h)
end
end Go.Proofs.YtaekpfhgdnfciaaDoor.O
end

section
namespace Go.Proofs.YtaekpfhgdnfciaaDoor.O
open Go.RowKit Go.Proofs.YtaekpfhgdnfciaaDoorW.PrintWords Go.Proofs.YtaekpfhgdnfciaaDoorW.PrintLast Go.Proofs.YtaekpfhgdnfciaaDoorW.PrintMore Go.Proofs.YtaekpfhgdnfciaaDoor.F
set_option maxRecDepth 100000
theorem size3 : (Tryd.prog.info? 3).map (·.size) = some 1 := by kernel_rfl
theorem inf3 : (Tryd.prog.info? 3).map (fun i => (i.zero,i.size,i.bytes)) = some (some (.int .i64 0),1,8) := by kernel_rfl
theorem zs3 : (Tryd.prog.info? 3).map (fun i => (i.zero,i.size)) = some (some (.int .i64 0),1) := by kernel_rfl
theorem size5 : (Tryd.prog.info? 5).map (·.size) = some 1 := by kernel_rfl
theorem inf5 : (Tryd.prog.info? 5).map (fun i => (i.zero,i.size,i.bytes)) = some (some (.int .u8 0),1,1) := by kernel_rfl
theorem zs5 : (Tryd.prog.info? 5).map (fun i => (i.zero,i.size)) = some (some (.int .u8 0),1) := by kernel_rfl
theorem zero4 : (Tryd.prog.info? 4).bind (·.zero) = some (.bool false) := by kernel_rfl
theorem size4 : (Tryd.prog.info? 4).map (·.size) = some 1 := by kernel_rfl
theorem inf4 : (Tryd.prog.info? 4).map (fun i => (i.zero,i.size,i.bytes)) = some (some (.bool false),1,1) := by kernel_rfl
theorem zs4 : (Tryd.prog.info? 4).map (fun i => (i.zero,i.size)) = some (some (.bool false),1) := by kernel_rfl
theorem zero38 : (Tryd.prog.info? 38).bind (·.zero) = some (.slice none 0 0) := by kernel_rfl
theorem size38 : (Tryd.prog.info? 38).map (·.size) = some 1 := by kernel_rfl
theorem inf38 : (Tryd.prog.info? 38).map (fun i => (i.zero,i.size,i.bytes)) = some (some (.slice none 0 0),1,24) := by kernel_rfl
theorem zs38 : (Tryd.prog.info? 38).map (fun i => (i.zero,i.size)) = some (some (.slice none 0 0),1) := by kernel_rfl
theorem size25 : (Tryd.prog.info? 25).map (·.size) = some 1 := by kernel_rfl
theorem zero26 : (Tryd.prog.info? 26).bind (·.zero) = some (.slice none 0 0) := by kernel_rfl
theorem size26 : (Tryd.prog.info? 26).map (·.size) = some 1 := by kernel_rfl
theorem zero63 : (Tryd.prog.info? 63).bind (·.zero) = some (.slice none 0 0) := by kernel_rfl
theorem size63 : (Tryd.prog.info? 63).map (·.size) = some 1 := by kernel_rfl
theorem zero51 : (Tryd.prog.info? 51).bind (·.zero) = some ((.agg (nums .u8 (zs 64)).toArray)) := by kernel_rfl
theorem size51 : (Tryd.prog.info? 51).map (·.size) = some 64 := by kernel_rfl
theorem inf51 : (Tryd.prog.info? 51).map (fun i => (i.zero,i.size,i.bytes)) = some (some ((.agg (nums .u8 (zs 64)).toArray)),64,64) := by kernel_rfl
theorem zs51 : (Tryd.prog.info? 51).map (fun i => (i.zero,i.size)) = some (some ((.agg (nums .u8 (zs 64)).toArray)),64) := by kernel_rfl
theorem zero127 : (Tryd.prog.info? 127).bind (·.zero) = some ((.agg (nums .u8 (zs 11)).toArray)) := by kernel_rfl
theorem size127 : (Tryd.prog.info? 127).map (·.size) = some 11 := by kernel_rfl
theorem size46 : (Tryd.prog.info? 46).map (·.size) = some 3 := by kernel_rfl
theorem zero76 : (Tryd.prog.info? 76).bind (·.zero) = some ((.agg [.int .i64 0,.int .u32 0,.slice none 0 0].toArray)) := by kernel_rfl
theorem size76 : (Tryd.prog.info? 76).map (·.size) = some 3 := by kernel_rfl
theorem zero94 : (Tryd.prog.info? 94).bind (·.zero) = some ((.agg [.int .i64 0,.int .i64 0,.int .i64 0,.int .i64 0].toArray)) := by kernel_rfl
theorem size94 : (Tryd.prog.info? 94).map (·.size) = some 4 := by kernel_rfl
theorem zero73 : (Tryd.prog.info? 73).bind (·.zero) = some ((.agg [.bool false,.slice none 0 0].toArray)) := by kernel_rfl
theorem size73 : (Tryd.prog.info? 73).map (·.size) = some 2 := by kernel_rfl
theorem zero30 : (Tryd.prog.info? 30).bind (·.zero) = some ((.agg [.slice none 0 0,.slice none 0 0,.int .i64 0,.int .i64 0].toArray)) := by kernel_rfl
theorem size30 : (Tryd.prog.info? 30).map (·.size) = some 4 := by kernel_rfl
theorem zero123 : (Tryd.prog.info? 123).bind (·.zero) = some ((.agg [.int .i64 0,.int .i64 0,.slice none 0 0].toArray)) := by kernel_rfl
theorem size123 : (Tryd.prog.info? 123).map (·.size) = some 3 := by kernel_rfl
theorem size44 : (Tryd.prog.info? 44).map (·.size) = some 3 := by kernel_rfl
end Go.Proofs.YtaekpfhgdnfciaaDoor.O
end
