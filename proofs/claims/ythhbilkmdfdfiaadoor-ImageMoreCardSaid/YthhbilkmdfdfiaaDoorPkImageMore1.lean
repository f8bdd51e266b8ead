/- Texts of mine put together: F0, Hcrc, Door, OpenN, Arr. -/
import Derived.Test.YthhbilkmdfdfiaaDoorProg
import Derived.Below
import Derived.Deep.Draws
import Derived.Deep.AppendLies
import Derived.Maps.AppendAt
import Derived.OwnWalk
import Derived.Laws.BytesArg
import Derived.Laws.MakeOwn
import Derived.Laws.OwnMore
import Derived.Deep.OwnRows
import Derived.Tactics
import Derived.Lib.ConvBytes
import Derived.Laws.Slices
import Derived.WalkKit
import Derived.KernelRfl
import Derived.RowKit3
import Derived.Deep.LoopGhost
import Derived.Deep.QuietTactic
import Derived.BigQuiet
import Derived.WideLaws
import Derived.Deep.DeepCutAuto
import Derived.Deep.CutBlock
import Derived.Deep.RegionHeld3
import Derived.Laws.Rows
import Derived.Lib.AppendStr
import Derived.ArgAppend
import Derived.Laws.IdiomCopy
import Derived.OrdersHeld
import Derived.Laws.BitsLemmas
import Derived.RowKit
import Derived.Test.YthhbilkmdfdfiaaDoorWWords
import Derived.Test.YthhbilkmdfdfiaaDoorWLast
import Derived.Test.YthhbilkmdfdfiaaDoorWTab
import Derived.Test.YthhbilkmdfdfiaaDoorWFour
import Derived.Test.YthhbilkmdfdfiaaDoorWQPut
import Derived.Test.YthhbilkmdfdfiaaDoorWApart
import Derived.Test.YthhbilkmdfdfiaaDoorWArr
import Derived.Test.YthhbilkmdfdfiaaDoorWZeros
import Derived.Test.YthhbilkmdfdfiaaDoorWFoot
import Derived.Test.YthhbilkmdfdfiaaDoorWKept
import Derived.Test.YthhbilkmdfdfiaaDoorWShare
import Derived.Test.YthhbilkmdfdfiaaDoorWN
import Derived.Test.YthhbilkmdfdfiaaDoorWFootNe
import Derived.Test.YthhbilkmdfdfiaaDoorWAt
import Derived.Test.YthhbilkmdfdfiaaDoorWEqStruct
import Derived.Test.YthhbilkmdfdfiaaDoorWRepsOne
import Derived.Test.YthhbilkmdfdfiaaDoorWInv
import Derived.Test.YthhbilkmdfdfiaaDoorWInvWords
import Derived.Test.YthhbilkmdfdfiaaDoorWGuard
import Derived.Test.YthhbilkmdfdfiaaDoorWNEv
import Derived.Test.YthhbilkmdfdfiaaDoorWMore
import Derived.Test.YthhbilkmdfdfiaaDoorRows
import Derived.ProofKit
import Derived.LaidMore
import Derived.OpenShut
import Derived.ShutString
import Derived.ChangeOld
import Derived.SizedLaws
import Derived.Lib.SmallJoins
import Derived.Stop.Joined
import Derived.ChangeArms
import Derived.Deep.Slices
import Derived.Deep.Strs
import Derived.Laws.CopyOwn
section
/- What the seat's functions are written over: types, facts on types. Turned out of what the kit's print told for this seat. -/
namespace Go.Proofs.YthhbilkmdfdfiaaDoor.F
open Go.RowKit Go.Proofs.YthhbilkmdfdfiaaDoorW.PrintWords Go.Proofs.YthhbilkmdfdfiaaDoorW.PrintLast Go.Proofs.YthhbilkmdfdfiaaDoorW.PrintMore
attribute [local go_sem] max2_int min2_int max_two min_two max_three min_three max_four min_four
set_option linter.unusedVariables false
set_option linter.unusedSimpArgs false

def errW : Option Int → Value
  | none => .nilIface
  | some c => .iface 0 (.int .i64 c)
theorem errW_none : errW none = .nilIface := rfl
theorem errW_some (c : Int) : errW (some c) = .iface 0 (.int .i64 c) := rfl

def rd_L1 (xs : List (List Int)) (i : Int) : (List Int) := xs.getD i.toNat ([] : List Int)
theorem at_L1 {w : World} {A : Option Addr} {n : Nat} {xs : List (List Int)} (h : Kd.C (Kd.slice 5 (Kd.int .u8)) w A n xs) (i : Int) (h0 : 0 ≤ i) (h1 : i < n) : ∃ ad A0 c0, A = some ad ∧ w.cell? (ad.add i.toNat) = some (.slice A0 (rd_L1 xs i).length c0) ∧ (rd_L1 xs i).length ≤ c0 ∧ (Kd.int .u8).C w A0 (rd_L1 xs i).length (rd_L1 xs i) := by
  obtain ⟨ad, c, e, _, hK, hc0⟩ := Kd.C_get h ([] : List Int) i h0 h1
  have hc : ∀ j u, c[j]? = some u → w.cell? (ad.add (i.toNat * 1 + j)) = some u := hc0
  obtain ⟨A0, c0, rfl, l0, g0⟩ := hK
  exact ⟨ad, A0, c0, e, by have hq := hc 0 _ rfl; rwa [Nat.mul_one, Nat.add_zero] at hq, l0, g0⟩

theorem info5 : (Tryd.prog.info? 5).map (fun i => (i.zero, i.size, i.bytes)) = some (some (.int .u8 0), 1, 1) := by kernel_rfl
theorem info37 : (Tryd.prog.info? 37).map (fun i => (i.zero, i.size, i.bytes)) = some (some (.agg #[(.int .i64 0), (.int .u32 0), (.slice none 0 0)]), 3, 40) := by kernel_rfl
theorem info99 : (Tryd.prog.info? 99).map (fun i => (i.zero, i.size, i.bytes)) = some (some (.agg #[(.int .i64 0), (.int .i64 0), (.int .i64 0), (.int .i64 0)]), 4, 32) := by kernel_rfl
/-! #### struct type 99 -/
structure S99 where
  f0 : Int
  f1 : Int
  f2 : Int
  f3 : Int
def z99 : S99 := ⟨(0 : Int), (0 : Int), (0 : Int), (0 : Int)⟩
def k99 : Kd S99 := Kd.iso (Kd.pair (Kd.int .i64) (Kd.pair (Kd.int .i64) (Kd.pair (Kd.int .i64) (Kd.int .i64)))) (fun x : S99 => (x.f0, x.f1, x.f2, x.f3))
theorem k99_open {w : World} {x : S99} {cs : List Value} (h : k99.K w x cs) : cs = [.int .i64 x.f0, .int .i64 x.f1, .int .i64 x.f2, .int .i64 x.f3] := by
  obtain ⟨_, _, rfl, rfl, ⟨_, _, rfl, rfl, ⟨_, _, rfl, rfl, rfl⟩⟩⟩ := h
  exact rfl
theorem k99_openM {w : World} {base : Nat} {ok : Nat → Prop} {x : S99} {cs : List Value} (h : k99.M w base ok x cs) : cs = [.int .i64 x.f0, .int .i64 x.f1, .int .i64 x.f2, .int .i64 x.f3] := by
  obtain ⟨_, _, rfl, rfl, ⟨_, _, rfl, rfl, ⟨_, _, rfl, rfl, rfl⟩⟩⟩ := h
  exact rfl
theorem k99_mk (w : World) (x : S99)  : k99.K w x [.int .i64 x.f0, .int .i64 x.f1, .int .i64 x.f2, .int .i64 x.f3] := ⟨[.int .i64 x.f0], [.int .i64 x.f1, .int .i64 x.f2, .int .i64 x.f3], rfl, rfl, ⟨[.int .i64 x.f1], [.int .i64 x.f2, .int .i64 x.f3], rfl, rfl, ⟨[.int .i64 x.f2], [.int .i64 x.f3], rfl, rfl, rfl⟩⟩⟩
theorem k99_mkM (w : World) (base : Nat) (ok : Nat → Prop) (x : S99)  : k99.M w base ok x [.int .i64 x.f0, .int .i64 x.f1, .int .i64 x.f2, .int .i64 x.f3] := ⟨[.int .i64 x.f0], [.int .i64 x.f1, .int .i64 x.f2, .int .i64 x.f3], rfl, rfl, ⟨[.int .i64 x.f1], [.int .i64 x.f2, .int .i64 x.f3], rfl, rfl, ⟨[.int .i64 x.f2], [.int .i64 x.f3], rfl, rfl, rfl⟩⟩⟩
def rd_T99 (xs : List S99) (i : Int) : S99 := xs.getD i.toNat z99
theorem at_T99 {w : World} {A : Option Addr} {n : Nat} {xs : List S99} (h : Kd.C k99 w A n xs) (i : Int) (h0 : 0 ≤ i) (h1 : i < n) : ∃ ad , A = some ad ∧ w.cell? (ad.add (i.toNat * 4)) = some (.int .i64 (rd_T99 xs i).f0) ∧ w.cell? ⟨(ad.add (i.toNat * 4)).block, (ad.add (i.toNat * 4)).off + 1, none⟩ = some (.int .i64 (rd_T99 xs i).f1) ∧ w.cell? ⟨(ad.add (i.toNat * 4)).block, (ad.add (i.toNat * 4)).off + 2, none⟩ = some (.int .i64 (rd_T99 xs i).f2) ∧ w.cell? ⟨(ad.add (i.toNat * 4)).block, (ad.add (i.toNat * 4)).off + 3, none⟩ = some (.int .i64 (rd_T99 xs i).f3) := by
  obtain ⟨ad, c, e, _, hK, hc0⟩ := Kd.C_get h z99 i h0 h1
  have hc : ∀ j u, c[j]? = some u → w.cell? (ad.add (i.toNat * 4 + j)) = some u := hc0
  obtain rfl := k99_open hK
  exact ⟨ad, e, hc 0 _ rfl, by rw [← add_field _ _ 1 (by omega)]; exact hc 1 _ rfl, by rw [← add_field _ _ 2 (by omega)]; exact hc 2 _ rfl, by rw [← add_field _ _ 3 (by omega)]; exact hc 3 _ rfl⟩

def rd_L4 (xs : List (List S99)) (i : Int) : (List S99) := xs.getD i.toNat ([] : List S99)
theorem at_L4 {w : World} {A : Option Addr} {n : Nat} {xs : List (List S99)} (h : Kd.C (Kd.slice 99 k99) w A n xs) (i : Int) (h0 : 0 ≤ i) (h1 : i < n) : ∃ ad A0 c0, A = some ad ∧ w.cell? (ad.add i.toNat) = some (.slice A0 (rd_L4 xs i).length c0) ∧ (rd_L4 xs i).length ≤ c0 ∧ k99.C w A0 (rd_L4 xs i).length (rd_L4 xs i) := by
  obtain ⟨ad, c, e, _, hK, hc0⟩ := Kd.C_get h ([] : List S99) i h0 h1
  have hc : ∀ j u, c[j]? = some u → w.cell? (ad.add (i.toNat * 1 + j)) = some u := hc0
  obtain ⟨A0, c0, rfl, l0, g0⟩ := hK
  exact ⟨ad, A0, c0, e, by have hq := hc 0 _ rfl; rwa [Nat.mul_one, Nat.add_zero] at hq, l0, g0⟩

/-! #### struct type 37 -/
structure S37 where
  f0 : Int
  f1 : Int
  f2 : (List Int)
def z37 : S37 := ⟨(0 : Int), (0 : Int), ([] : List Int)⟩
def k37 : Kd S37 := Kd.iso (Kd.pair (Kd.int .i64) (Kd.pair (Kd.int .u32) (Kd.slice 5 (Kd.int .u8)))) (fun x : S37 => (x.f0, x.f1, x.f2))
theorem k37_open {w : World} {x : S37} {cs : List Value} (h : k37.K w x cs) : ∃ A2 c2, cs = [.int .i64 x.f0, .int .u32 x.f1, .slice A2 x.f2.length c2] ∧ x.f2.length ≤ c2 ∧ (Kd.int .u8).C w A2 x.f2.length x.f2 := by
  obtain ⟨_, _, rfl, rfl, ⟨_, _, rfl, rfl, ⟨A2, c2, rfl, l2, g2⟩⟩⟩ := h
  exact ⟨A2, c2, rfl, l2, g2⟩
theorem k37_openM {w : World} {base : Nat} {ok : Nat → Prop} {x : S37} {cs : List Value} (h : k37.M w base ok x cs) : ∃ v2, cs = [.int .i64 x.f0, .int .u32 x.f1, v2] ∧ (Kd.int .u8).R 5 w base ok v2 x.f2 := by
  obtain ⟨_, _, rfl, rfl, ⟨_, _, rfl, rfl, ⟨v2, rfl, g2⟩⟩⟩ := h
  exact ⟨v2, rfl, g2⟩
theorem k37_mk (w : World) (x : S37) {A2 : Option Addr} {c2 : Nat} (l2 : x.f2.length ≤ c2) (g2 : (Kd.int .u8).C w A2 x.f2.length x.f2) : k37.K w x [.int .i64 x.f0, .int .u32 x.f1, .slice A2 x.f2.length c2] := ⟨[.int .i64 x.f0], [.int .u32 x.f1, .slice A2 x.f2.length c2], rfl, rfl, ⟨[.int .u32 x.f1], [.slice A2 x.f2.length c2], rfl, rfl, ⟨A2, c2, rfl, l2, g2⟩⟩⟩
theorem k37_mkM (w : World) (base : Nat) (ok : Nat → Prop) (x : S37) {v2 : Value} (g2 : (Kd.int .u8).R 5 w base ok v2 x.f2) : k37.M w base ok x [.int .i64 x.f0, .int .u32 x.f1, v2] := ⟨[.int .i64 x.f0], [.int .u32 x.f1, v2], rfl, rfl, ⟨[.int .u32 x.f1], [v2], rfl, rfl, ⟨v2, rfl, g2⟩⟩⟩
def rd_T37 (xs : List S37) (i : Int) : S37 := xs.getD i.toNat z37
theorem at_T37 {w : World} {A : Option Addr} {n : Nat} {xs : List S37} (h : Kd.C k37 w A n xs) (i : Int) (h0 : 0 ≤ i) (h1 : i < n) : ∃ ad A2 c2, A = some ad ∧ w.cell? (ad.add (i.toNat * 3)) = some (.int .i64 (rd_T37 xs i).f0) ∧ w.cell? ⟨(ad.add (i.toNat * 3)).block, (ad.add (i.toNat * 3)).off + 1, none⟩ = some (.int .u32 (rd_T37 xs i).f1) ∧ w.cell? ⟨(ad.add (i.toNat * 3)).block, (ad.add (i.toNat * 3)).off + 2, none⟩ = some (.slice A2 (rd_T37 xs i).f2.length c2) ∧ (rd_T37 xs i).f2.length ≤ c2 ∧ (Kd.int .u8).C w A2 (rd_T37 xs i).f2.length (rd_T37 xs i).f2 := by
  obtain ⟨ad, c, e, _, hK, hc0⟩ := Kd.C_get h z37 i h0 h1
  have hc : ∀ j u, c[j]? = some u → w.cell? (ad.add (i.toNat * 3 + j)) = some u := hc0
  obtain ⟨A2, c2, rfl, l2, g2⟩ := k37_open hK
  exact ⟨ad, A2, c2, e, hc 0 _ rfl, by rw [← add_field _ _ 1 (by omega)]; exact hc 1 _ rfl, by rw [← add_field _ _ 2 (by omega)]; exact hc 2 _ rfl, l2, g2⟩

theorem info3 : (Tryd.prog.info? 3).map (fun i => (i.zero, i.size, i.bytes)) = some (some (.int .i64 0), 1, 8) := by kernel_rfl

theorem eqA120 (d : Nat) (w : World) (x0 y0 : Int) (x1 y1 : Int) :
    (Op.equalIn (d + 2) 120 (.agg #[.int .i64 x0, .int .i64 x1]) (.agg #[.int .i64 y0, .int .i64 y1])).run Tryd.prog w = .ok (x0 == y0 && (x1 == y1)) w := by
  refine eqA_of Tryd.underlying120 (by kernel_rfl) ?_
  refine eqf_cons (by rfl) (by go_simp; rfl) (by go_simp; rfl) (by go_simp) ?_
  exact eqf_last (by rfl) (by go_simp; rfl) (by go_simp; rfl) (by go_simp)theorem field120_0 (x0 x1 : Value) (w : World) : (Instr.field 120 (.agg #[x0, x1]) 0).run Tryd.prog w = .ok x0 w := by kernel_rfl
theorem field120_1 (x0 x1 : Value) (w : World) : (Instr.field 120 (.agg #[x0, x1]) 1).run Tryd.prog w = .ok x1 w := by kernel_rfl

end Go.Proofs.YthhbilkmdfdfiaaDoor.F
end

section
/- crc: what four, More and Of answer, as Lean functions, and that the calls answer just this where the table lies in memory as the program's text says. -/
namespace Go.Proofs.YthhbilkmdfdfiaaDoor.F
open Go.RowKit Go.Proofs.YthhbilkmdfdfiaaDoorW.PrintWords Go.Proofs.YthhbilkmdfdfiaaDoorW.PrintLast Go.Proofs.YthhbilkmdfdfiaaDoorW.PrintMore
set_option linter.unusedVariables false
set_option linter.unusedSimpArgs false

theorem w64c {n : Int} (h0 : -9223372036854775808 ≤ n) (h1 : n ≤ 9223372036854775807) : wrap64 n = n := by
  unfold wrap64
  omega
def halfL : List Int := [0, 274646895, 549293790, 820201905, 1098587580, 1361435347, 1640403810, 1905808397, 2197175160, 2460548119, 2722870694, 2987750089, 3280807620, 3553878443, 3811616794, 4084100981]
def Half (w : World) : Prop := ∀ i : Nat, i < 16 → w.cell? ⟨0, i, none⟩ = some (.int .u32 (halfL.getD i 0))
theorem Half.below {w w' : World} (h : Half w) (hb : Below w.heap.size w w') : Half w' := fun i hi => (hb.cell (World.block_lt_of_cell? w _ (h i hi))).trans (h i hi)
theorem Half.at_ {w w' : World} (h : Aside0 (Half w)) (hb : Aside0 (Below w.heap.size w w')) : Half w' := h.out.below hb.out
theorem Half.alloc {w : World} (h : Half w) (o : Obj) : Half (w.alloc o) := h.below (below_alloc (Below.refl _ _) o)
theorem Half.drewN {w : World} (h : Half w) (n : Nat) : Half (w.drewN n) := h
theorem Half.drew {w : World} (h : Half w) : Half w.drew := h
theorem bv32 (n : Int) : ((BitVec.ofInt 32 n).toNat : Int) = n % 4294967296 := by
  rw [BitVec.toNat_ofInt]
  have h := Int.emod_nonneg n (show (4294967296 : Int) ≠ 0 by decide)
  rw [show ((2 ^ 32 : Nat) : Int) = 4294967296 by decide]
  omega
theorem u32_and15 {x : Int} (h0 : 0 ≤ x) (h1 : x ≤ 4294967295) : bits .and .u32 x 15 = x % 16 := by
  show IntKind.u32.wrap ((BitVec.ofInt 32 x &&& BitVec.ofInt 32 15).toNat : Int) = _
  have h2 := bv32 x
  rw [BitVec.toNat_and, show (BitVec.ofInt 32 15).toNat = 2 ^ 4 - 1 by decide, Nat.and_two_pow_sub_one_eq_mod, IntKind.wrap_u32]
  omega
theorem xor32 (a b : Int) : bits .xor .u32 a b = ((BitVec.ofInt 32 a ^^^ BitVec.ofInt 32 b).toNat : Int) := by
  show IntKind.u32.wrap ((BitVec.ofInt 32 a ^^^ BitVec.ofInt 32 b).toNat : Int) = _
  have := (BitVec.ofInt 32 a ^^^ BitVec.ofInt 32 b).isLt
  rw [IntKind.wrap_u32]
  omega
theorem xor_u32 (x c : Int) : 0 ≤ bits .xor .u32 x c ∧ bits .xor .u32 x c ≤ 4294967295 := by
  rw [xor32]
  have := (BitVec.ofInt 32 x ^^^ BitVec.ofInt 32 c).isLt
  omega
theorem not_u32 {a : Int} (h0 : 0 ≤ a) (h1 : a ≤ 4294967295) : bits .xor .u32 IntKind.u32.max a = 4294967295 - a := by
  rw [xor32, show IntKind.u32.max = 4294967295 by decide]
  have h2 := bv32 a
  have h3 := (BitVec.ofInt 32 a).isLt
  rw [BitVec.xor_comm, show BitVec.ofInt 32 4294967295 = BitVec.allOnes 32 by decide, BitVec.xor_allOnes, BitVec.toNat_not]
  omega

def fourI (x : Int) : Int := bits .xor .u32 (halfL.getD (x % 16).toNat 0) (x / 16)
theorem four_calls (x : Int) (w : World) (hH : Half w) (h0 : 0 ≤ x) (h1 : x ≤ 4294967295) :
    Calls Tryd.prog 52 #[.int .u32 x] w fun e w' => e = .returned (.int .u32 (fourI x)) ∧ w = w' := by
  have c := hH (x % 16).toNat (by omega)
  have e1 := u32_and15 h0 h1
  have e2 : (0 : Int) ≤ x % 16 := by omega
  have e3 : x % 16 < 16 := by omega
  go_enter Tryd.func52, Tryd.ntmps52
  go_wp2
  go_ret
  refine ⟨?_, rfl⟩
  unfold fourI
  rw [List.getD_eq_getElem?_getD]
  rfl

def stepC (x c : Int) : Int := fourI (fourI (bits .xor .u32 x c))
def moreI (sum : Int) (b : List Int) : Int := 4294967295 - b.foldl stepC (4294967295 - sum)
theorem fourI_in (x : Int) : 0 ≤ fourI x ∧ fourI x ≤ 4294967295 := xor_u32 _ _
theorem fold_in (b : List Int) : ∀ x : Int, 0 ≤ x → x ≤ 4294967295 → 0 ≤ b.foldl stepC x ∧ b.foldl stepC x ≤ 4294967295 := by
  induction b with
  | nil => intro x h0 h1; exact ⟨h0, h1⟩
  | cons c b ih => intro x h0 h1; exact ih _ (fourI_in _).1 (fourI_in _).2
set_option maxHeartbeats 2000000 in
theorem more_calls (sum : Int) (A1 : Option Addr) (c1 : Nat) (l1 : List Int) (w : World) (hr1 : Kd.C (Kd.int .u8) w A1 l1.length l1) (hc1 : l1.length ≤ c1) (h0 : 0 ≤ sum) (h1 : sum ≤ 4294967295) (hb : ∀ c ∈ l1, 0 ≤ c ∧ c ≤ 255) (hH : Half w) :
    Calls Tryd.prog 18 #[.int .u32 sum, .slice A1 l1.length c1] w fun e w' => e = .returned (.int .u32 (moreI sum l1)) ∧ Drawn0 w w' := by
  have HR := Aside0.mk hr1
  have HC := Aside0.mk hc1
  have HL := Aside0.mk (show l1.length ≤ 9223372036854775807 by have := hr1.2.1; omega)
  clear hr1 hc1
  have HH := Aside0.mk hH
  clear hH
  have hs : IntKind.u32.signed = false := rfl
  have hm := not_u32 h0 h1
  go_enter Tryd.func18, Tryd.ntmps18
  go_wp2
  clear hm
  go_loopg [5, 7, 12] l1.length (fun gq v5 v7 v12 w' => ∃ (i : Nat), v12 = .int .i64 i ∧ v5 = .int .u32 ((l1.take i).foldl stepC (4294967295 - sum)) ∧ Aside0 (i + gq = l1.length) ∧ Drawn0 w w')
  case atStart => exact ⟨0, rfl, rfl, ⟨by omega⟩, Drawn0.refl _⟩
  case round =>
    obtain ⟨i, rfl, rfl, HQ, ⟨m1, rfl⟩⟩ := hrel
    have hI := Aside0.mk (fold_in (l1.take i) (4294967295 - sum) (by omega) (by omega))
    by_cases ci : i < l1.length
    · obtain ⟨gk', rfl⟩ : ∃ q, gk = q + 1 := ⟨gk - 1, by have := HQ.out; omega⟩
      have hx : (l1.take (i + 1)).foldl stepC (4294967295 - sum) = stepC ((l1.take i).foldl stepC (4294967295 - sum)) (l1.getD i 0) := by
        rw [List.take_add_one, List.foldl_append, List.getElem?_eq_getElem ci, List.getD_eq_getElem?_getD, List.getElem?_eq_getElem ci]
        rfl
      have hc := hb _ (List.getElem_mem ci)
      have hg : l1.getD i 0 = l1[i] := by rw [List.getD_eq_getElem?_getD, List.getElem?_eq_getElem ci]; rfl
      rw [← hg] at hc
      obtain ⟨ad, x0, rfl⟩ : ∃ ad, w.cell? (ad.add i) = some (.int .u8 (l1.getD i 0)) ∧ A1 = some ad := by
        obtain ⟨ad, c, e, hl, hK, hcc⟩ := Kd.C_get HR.out 0 (i : Int) (by omega) (by omega)
        have hc' : c = [.int .u8 (l1.getD (i : Int).toNat 0)] := hK
        subst hc'
        have := hcc 0 _ rfl
        rw [Int.toNat_natCast] at this
        exact ⟨ad, by simpa [show (Kd.int .u8).sz = 1 from rfl] using this, e⟩
      generalize l1.getD i 0 = c at hx hc x0
      generalize (l1.take i).foldl stepC (4294967295 - sum) = x at hI hx ⊢
      have p0 : ((0 : Int) ≤ (i : Int)) = True := eq_true (by omega)
      have p1 : ((i : Int) < (l1.length : Int)) = True := eq_true (by omega)
      clear hb hg
      go_wp2_with fail
      refine (four_calls _ _ (HH.out.drewN _) (xor_u32 _ _).1 (xor_u32 _ _).2).mono ?_
      rintro e w3 ⟨rfl, rfl⟩
      go_wp2_with fail
      refine (four_calls _ _ (HH.out.drewN _) (fourI_in _).1 (fourI_in _).2).mono ?_
      rintro e w3 ⟨rfl, rfl⟩
      go_wp2
      go_roundg gk'
      case measure => omega
      case rel => exact ⟨i + 1, by rw [w64c (n := (i : Int) + 1) (by omega) (by have := HL.out; omega)]; rfl, by rw [hx]; rfl, ⟨by have := HQ.out; omega⟩, by repeat (first | exact Drawn0.refl _ | apply Drawn0.step)⟩
    · have hi : i = l1.length := by have := HQ.out; omega
      subst hi
      have hg0 : gk = 0 := by have := HQ.out; omega
      subst hg0
      rw [List.take_length] at hI ⊢
      have hm := not_u32 hI.out.1 hI.out.2
      have p1 : ((l1.length : Int) < (l1.length : Int)) = False := eq_false (by omega)
      have p2 : decide ((l1.length : Int) < (l1.length : Int)) = false := decide_eq_false (by omega)
      clear hb
      go_wp2
      go_ret
      exact ⟨rfl, by repeat (first | exact Drawn0.refl _ | apply Drawn0.step)⟩
set_option maxHeartbeats 1000000 in
theorem of_calls (A1 : Option Addr) (c1 : Nat) (l1 : List Int) (w : World) (hr1 : Kd.C (Kd.int .u8) w A1 l1.length l1) (hc1 : l1.length ≤ c1) (hb : ∀ c ∈ l1, 0 ≤ c ∧ c ≤ 255) (hH : Half w) :
    Calls Tryd.prog 16 #[.slice A1 l1.length c1] w fun e w' => e = .returned (.int .u32 (moreI 0 l1)) ∧ Drawn0 w w' := by
  go_enter Tryd.func16, Tryd.ntmps16
  go_wp2_with fail
  refine (more_calls 0 A1 c1 l1 _ hr1 hc1 (by omega) (by omega) hb hH).mono ?_
  rintro e w3 ⟨rfl, hd⟩
  go_wp2
  go_ret
  exact ⟨rfl, hd⟩

/-! as the print's texts take them: numbers in range -/
def okB (l : List Int) : Bool := l.all fun c => decide (0 ≤ c ∧ c ≤ 255)
def crc_More.f (a0 : Int) (l1 : List Int) : Option Int := if 0 ≤ a0 ∧ a0 ≤ 4294967295 ∧ okB l1 = true then some (moreI a0 l1) else none
def crc_Of.f (l0 : List Int) : Option Int := if okB l0 = true then some (moreI 0 l0) else none
theorem okB_all {l : List Int} (h : okB l = true) : ∀ c ∈ l, 0 ≤ c ∧ c ≤ 255 := fun c hc => of_decide_eq_true (List.all_eq_true.1 h c hc)
theorem crc_More.calls (a0 : Int) (A1 : Option Addr) (c1 : Nat) (l1 : List Int) (r : Int) (w : World) (hr1 : Kd.C (Kd.int .u8) w A1 l1.length l1) (hc1 : l1.length ≤ c1) (h : crc_More.f a0 l1 = some r)
    (hH : Half w := by repeat (first | exact Half.at_ (by assumption) (by assumption) | exact Aside0.out (by assumption) | apply Half.alloc | apply Half.drewN | apply Half.drew)) :
    Calls Tryd.prog 18 #[.int .u32 a0, .slice A1 l1.length c1] w fun e w' => e = .returned (.int .u32 r) ∧ Drawn0 w w' := by
  unfold crc_More.f at h
  split at h
  · rename_i z
    obtain rfl := Option.some.inj h
    exact more_calls a0 A1 c1 l1 w hr1 hc1 z.1 z.2.1 (okB_all z.2.2) hH
  · cases h
theorem crc_Of.calls (A0 : Option Addr) (c0 : Nat) (l0 : List Int) (r : Int) (w : World) (hr0 : Kd.C (Kd.int .u8) w A0 l0.length l0) (hc0 : l0.length ≤ c0) (h : crc_Of.f l0 = some r)
    (hH : Half w := by repeat (first | exact Half.at_ (by assumption) (by assumption) | exact Aside0.out (by assumption) | apply Half.alloc | apply Half.drewN | apply Half.drew)) :
    Calls Tryd.prog 16 #[.slice A0 l0.length c0] w fun e w' => e = .returned (.int .u32 r) ∧ Drawn0 w w' := by
  unfold crc_Of.f at h
  split at h
  · rename_i z
    obtain rfl := Option.some.inj h
    exact of_calls A0 c0 l0 w hr0 hc0 (okB_all z) hH
  · cases h
end Go.Proofs.YthhbilkmdfdfiaaDoor.F
end

section
/- The listed variable 'strandline/crc.half': from the row's condition to the table's cells; a world that meets it. -/
namespace Go.Proofs.YthhbilkmdfdfiaaDoor.Door
open Go.ChangeShapes Go.WideShapes Go.ChangeAt Go.RowKit
set_option linter.unusedVariables false
theorem own : ownKnob Tryd.prog.godebug = none := by kernel_rfl
theorem laidOut : laidOutB Tryd.prog = true := by kernel_rfl
theorem gHalf : Tryd.prog.globalNamed "strandline/crc.half" = some 0 := by kernel_rfl
theorem tHalf : (Tryd.prog.globals[0]?).map (·.type) = some 107 := by kernel_rfl
abbrev laid1 : List (String × DataW Unit) := [("strandline/crc.half", Rows.laid_strandline_crc_half)]
theorem door_met (os : Os) (args : Array Value) : laidMetH Tryd.prog laid1 ((World.doorLaid Tryd.prog 400 os).forCall (fun _ _ => 0) ⟨#[], args, []⟩).memory :=
  laidMetH_of_parts3 (fuel := 8) (laidMet_of_run' 8 (by kernel_rfl) (by kernel_rfl)) (by kernel_rfl) (by kernel_rfl)
theorem laid_list : (Rows.laid_strandline_crc_half : DataW Unit) = .agg (F.halfL.map fun z => .lit (.int .u32 z)) := rfl
theorem half_of {W : World} (h : laidMetH Tryd.prog laid1 W) : F.Half W := by
  rw [MakeChecks.laidMetH_plain _ _ _ (by kernel_rfl)] at h
  obtain ⟨ps, ⟨g0, t0, cs0, f0, p0, q0, hg0, ht0, hv0, hd0, _, _⟩, _⟩ := h
  obtain rfl := Option.some.inj (gHalf.symm.trans hg0)
  obtain rfl := Option.some.inj (tHalf.symm.trans ht0)
  obtain ⟨xs, m1, rfl, hx1, hlen, hn, hel⟩ := DataW.trod_array Tryd.underlying107 hd0
  have c1 : Tryd.prog.cellsOf 22 = 1 := by kernel_rfl
  simp only [Prod.mk.injEq] at hx1
  have hx := hx1.1
  rw [laid_list] at hx
  have hx' : F.halfL.map (fun z => (DataW.lit (.int .u32 z) : DataW Unit)) = xs.map (·.1) := by injection hx
  intro i hi
  rw [World.var?_cell hg0 hv0 i]
  have he := hel i hi
  rw [c1, Nat.mul_one, List.getElem?_eq_getElem (by omega)] at he
  obtain ⟨n, e1, e2, -⟩ := DataW.trod_int Tryd.underlying22 he
  have h3 := congrArg (fun l => l[i]?) hx'
  simp only [List.getElem?_map] at h3
  rw [List.getElem?_eq_getElem (show i < xs.length by omega), e2] at h3
  have hl : i < F.halfL.length := hi
  rw [List.getElem?_eq_getElem hl] at h3
  simp at h3
  have h4 : cs0.toList[i]? = some (.int .u32 n) := by
    have := congrArg (fun l => l[0]?) e1
    simpa using this
  rw [List.getD_eq_getElem?_getD, List.getElem?_eq_getElem hl]
  rw [← Array.getElem?_toList, h4]
  simp [h3]
end Go.Proofs.YthhbilkmdfdfiaaDoor.Door
end

section
/- An argument that is a slice (of whatever): its elements as a list, by the print's words (Kd.C); how long slices are. -/
namespace Go.Proofs.YthhbilkmdfdfiaaDoor.F
open Go.RowKit Go.Proofs.YthhbilkmdfdfiaaDoorW.PrintWords Go.Proofs.YthhbilkmdfdfiaaDoorW.PrintLast Go.Proofs.YthhbilkmdfdfiaaDoorW.PrintMore Go.ChangeShapes Go.WideShapes Go.Joins Go.Deep
set_option linter.unusedVariables false
section
variable {H : Type} {enc : TypeId × Value → H} {P : Program} {W : World} {held : Bool}
theorem weightsAll_mem {e : TypeId} : ∀ {ds : List (DataW H)} {d : DataW H}, d ∈ ds → ∀ n ∈ d.weights P e, n ∈ DataW.weightsAll P e ds
  | d0 :: ds, d, hd, n, hn => by
    simp only [DataW.weightsAll, List.mem_append]
    rcases List.mem_cons.1 hd with rfl | hd
    · exact Or.inl hn
    · exact Or.inr (weightsAll_mem hd n hn)
abbrev Fit (P : Program) (t : TypeId) (d : DataW H) : Prop := ∀ n ∈ d.weights P t, n ≤ reachBytes
theorem fit_elem {t e : TypeId} {elems spare : List (DataW H)} (hu : P.underlying t = some (.slice e)) (h : Fit P t (.slice elems spare)) {d : DataW H} (hd : d ∈ elems) : Fit P e d := by
  intro n hn
  refine h n ?_
  simp only [DataW.weights, hu, List.mem_cons, List.mem_append]
  exact Or.inr (Or.inl (weightsAll_mem hd n hn))
theorem fit_len {t e : TypeId} {elems spare : List (DataW H)} (hu : P.underlying t = some (.slice e)) (h : Fit P t (.slice elems spare)) : (elems.length + spare.length) * P.bytesOf e ≤ reachBytes :=
  h _ (by simp [DataW.weights, hu])
theorem fit_arg {ts : List TypeId} {ds : List (DataW H)} (h : (DataW.weightsEach P ts ds).all (· ≤ reachBytes) = true) (j : Nat) {t : TypeId} {d : DataW H} (ht : ts[j]? = some t) (hd : ds[j]? = some d) : Fit P t d := by
  intro n hn
  have := List.all_eq_true.1 h _ (DataW.weights_mem_each ht hd n hn)
  simpa using this
theorem pick {β γ : Type} [Inhabited β] {n : Nat} {p : Nat → β → Prop} (h : ∀ i, i < n → ∃ x, p i x) : ∃ f : Nat → β, ∀ i, i < n → p i (f i) := by
  classical
  exact ⟨fun i => if hi : i < n then Classical.choose (h i hi) else default, fun i hi => by simp only [dif_pos hi]; exact Classical.choose_spec (h i hi)⟩
theorem open_C {α : Type} [Inhabited α] (d : Kd α) (B : α → Prop) {t e : TypeId} (ht : P.underlying t = some (.slice e)) (he : P.cellsOf e = d.sz)
    (hel : ∀ n cs y, DataW.trod enc P W 0 (fun _ => true) held n e cs = some y → Fit P e y.1 → ∃ x, d.K W x cs ∧ B x)
    {fuel : Nat} {cs : List Value} {y : DataW H × List MemPlace} (h : DataW.trod enc P W 0 (fun _ => true) held fuel t cs = some y) (hw : Fit P t y.1) :
    ∃ (A : Option Addr) (xs : List α) (c : Nat), cs = [.slice A xs.length c] ∧ xs.length ≤ c ∧ d.C W A xs.length xs ∧ (∀ x ∈ xs, B x) ∧ xs.length * P.bytesOf e ≤ reachBytes := by
  rcases Deep.open_slice ht h with ⟨rfl, rfl⟩ | ⟨a, len, cap, m, n, D, Pl, rfl, hb, hl, hm, hmm, rfl, hx⟩
  · exact ⟨none, [], 0, rfl, Nat.le_refl _, ⟨rfl, by simp, fun h => absurd h (by simp)⟩, by simp, by simp⟩
  · simp only [if_true] at hmm
    subst hmm
    have each : ∀ i, i < len → ∃ x : α, (∃ c, W.cells? 0 (a.add (i * d.sz)) d.sz = some c ∧ d.K W x c) ∧ B x := by
      intro i hi
      obtain ⟨cs', h1, h2⟩ := hx i (by omega)
      obtain ⟨x, hk, hB⟩ := hel n cs' _ h2 (fit_elem ht hw (List.mem_map.2 ⟨i, List.mem_range.2 hi, rfl⟩))
      rw [he] at h1
      exact ⟨x, ⟨cs', h1, hk⟩, hB⟩
    obtain ⟨f, hf⟩ := pick (γ := Unit) each
    have hlen : ((List.range len).map f).length = len := by simp
    refine ⟨some a, (List.range len).map f, m, by rw [hlen], by rw [hlen]; exact hl, ?_, ?_, ?_⟩
    · rw [hlen]
      refine ⟨hlen, by have : maxLen = 9223372036854775807 := by decide
                       omega, fun _ => ⟨a, rfl, fun j p hj => ?_⟩⟩
      have hj' : j < len := by have := (List.getElem?_eq_some_iff.1 hj).1; rw [hlen] at this; exact this
      rw [List.getElem?_map, List.getElem?_range hj'] at hj
      obtain ⟨⟨c, hc, hk⟩, -⟩ := hf j hj'
      have e1 : f j = p := by simpa using hj
      rw [e1] at hk
      obtain ⟨-, l1, h2⟩ := World.cells?_some hc
      refine ⟨c, l1, hk, fun i u hu => ?_⟩
      have hi : i < d.sz := by rw [← l1]; exact (List.getElem?_eq_some_iff.1 hu).1
      rw [← Deep.add_add, h2 i hi, hu]
    · intro x hx'
      obtain ⟨i, hi, rfl⟩ := List.mem_map.1 hx'
      exact (hf i (List.mem_range.1 hi)).2
    · rw [hlen]
      have := fit_len ht hw
      rw [List.length_map, List.length_range] at this
      exact Nat.le_trans (Nat.mul_le_mul_right _ (by omega)) this
theorem open_C_ints {t e : TypeId} {k : IntKind} (ht : P.underlying t = some (.slice e)) (he : P.underlying e = some (.int k)) (hc : P.cellsOf e = 1)
    {fuel : Nat} {cs : List Value} {y : DataW H × List MemPlace} (h : DataW.trod enc P W 0 (fun _ => true) held fuel t cs = some y) (hw : Fit P t y.1) :
    ∃ (A : Option Addr) (xs : List Int) (c : Nat), cs = [.slice A xs.length c] ∧ xs.length ≤ c ∧ (Kd.int k).C W A xs.length xs ∧ (∀ x ∈ xs, (Lit.int k x).wf = true) ∧ xs.length * P.bytesOf e ≤ reachBytes :=
  open_C (Kd.int k) (fun x => (Lit.int k x).wf = true) ht hc (fun n cs y hy _ => by obtain ⟨z, rfl, -, hz⟩ := DataW.trod_int he hy; exact ⟨z, rfl, hz⟩) h hw
theorem open_C_rows {t e q : TypeId} {k : IntKind} (qn : Nat) (ht : P.underlying t = some (.slice e)) (he : P.underlying e = some (.slice q)) (hq : P.underlying q = some (.int k)) (hc : P.cellsOf e = 1) (hcq : P.cellsOf q = 1)
    {fuel : Nat} {cs : List Value} {y : DataW H × List MemPlace} (h : DataW.trod enc P W 0 (fun _ => true) held fuel t cs = some y) (hw : Fit P t y.1) :
    ∃ (A : Option Addr) (xs : List (List Int)) (c : Nat), cs = [.slice A xs.length c] ∧ xs.length ≤ c ∧ (Kd.slice qn (Kd.int k)).C W A xs.length xs ∧ (∀ x ∈ xs, (∀ z ∈ x, (Lit.int k z).wf = true) ∧ x.length * P.bytesOf q ≤ reachBytes) ∧ xs.length * P.bytesOf e ≤ reachBytes :=
  open_C (Kd.slice qn (Kd.int k)) (fun x => (∀ z ∈ x, (Lit.int k z).wf = true) ∧ x.length * P.bytesOf q ≤ reachBytes) ht hc (fun n cs y hy hf => by
    obtain ⟨A, xs, c, rfl, h1, h2, h3, h4⟩ := open_C_ints he hq hcq hy hf
    exact ⟨xs, ⟨A, c, rfl, h1, h2⟩, h3, h4⟩) h hw
end
theorem wf_u8 {x : Int} (h : (Lit.int .u8 x).wf = true) : 0 ≤ x ∧ x ≤ 255 := by
  simp [Lit.wf, IntKind.min, IntKind.max, IntKind.signed, IntKind.bits] at h
  omega
theorem wf_u32 {x : Int} (h : (Lit.int .u32 x).wf = true) : 0 ≤ x ∧ x ≤ 4294967295 := by
  simp [Lit.wf, IntKind.min, IntKind.max, IntKind.signed, IntKind.bits] at h
  omega
section
variable {H : Type} {enc : TypeId × Value → H} {P : Program} {W : World} {held : Bool}
theorem pick_int {n : Nat} {p : Nat → Int → Prop} (h : ∀ i, i < n → ∃ x, p i x) : ∃ f : Nat → Int, ∀ i, i < n → p i (f i) := by
  classical
  exact ⟨fun i => if hi : i < n then Classical.choose (h i hi) else 0, fun i hi => by simp only [dif_pos hi]; exact Classical.choose_spec (h i hi)⟩
theorem list2 : ∀ {xs : List Int}, xs.length = 2 → ∃ a b, xs = [a, b]
  | [a, b], _ => ⟨a, b, rfl⟩
theorem wf_u64 {x : Int} (h : (Lit.int .u64 x).wf = true) : 0 ≤ x ∧ x ≤ 18446744073709551615 := by
  simp [Lit.wf, IntKind.min, IntKind.max, IntKind.signed, IntKind.bits] at h
  omega
theorem list4 : ∀ {xs : List Int}, xs.length = 4 → ∃ a b c d, xs = [a, b, c, d]
  | [a, b, c, d], _ => ⟨a, b, c, d, rfl⟩
theorem open_array_cells {t e : TypeId} {k : IntKind} {n fuel : Nat} {cs : List Value} {y : DataW H × List MemPlace} (ht : P.underlying t = some (.array n e)) (he : P.underlying e = some (.int k)) (hc : P.cellsOf e = 1) (hct : P.cellsOf t = n)
    (h : DataW.trod enc P W 0 (fun _ => true) held fuel t cs = some y) : ∃ xs : List Int, cs = xs.map (Value.int k) ∧ xs.length = n ∧ ∀ x ∈ xs, (Lit.int k x).wf = true := by
  obtain ⟨ys, m1, rfl, hx1, hlen, hn, hel⟩ := DataW.trod_array ht h
  have each : ∀ i, i < n → ∃ z : Int, cs[i]? = some (.int k z) ∧ (Lit.int k z).wf = true := by
    intro i hi
    have h1 := hel i hi
    rw [hc, Nat.mul_one, List.getElem?_eq_getElem (by omega)] at h1
    obtain ⟨z, e1, -, e3⟩ := DataW.trod_int he h1
    refine ⟨z, ?_, e3⟩
    have := congrArg (fun l => l[0]?) e1
    simpa using this
  obtain ⟨f, hf⟩ := pick_int each
  refine ⟨(List.range n).map f, ?_, by simp, ?_⟩
  · apply List.ext_getElem?
    intro i
    by_cases hi : i < n
    · rw [(hf i hi).1]
      simp [hi]
    · rw [List.getElem?_eq_none (by omega), List.getElem?_eq_none (by simp; omega)]
  · intro x hx
    obtain ⟨i, hi, rfl⟩ := List.mem_map.1 hx
    exact (hf i (List.mem_range.1 hi)).2
theorem open_array {t e : TypeId} {k : IntKind} {n : Nat} {r : Reach} {b0 : Nat} {v : Value} {d : DataW H} {p : List MemPlace} (ht : P.underlying t = some (.array n e)) (he : P.underlying e = some (.int k)) (hc : P.cellsOf e = 1) (hct : P.cellsOf t = n)
    (hv : Value.okWide P W r b0 t v) (h : DataW.Trod enc P W 0 (fun _ => true) held t v d p) : ∃ xs : List Int, v = .agg (xs.map (Value.int k)).toArray ∧ xs.length = n ∧ ∀ x ∈ xs, (Lit.int k x).wf = true := by
  simp only [Value.okWide, ht] at hv
  obtain ⟨cs, rfl, -, -⟩ := hv
  obtain ⟨fuel, hf⟩ := h
  obtain ⟨xs, e1, h2, h3⟩ := open_array_cells ht he hc hct hf
  refine ⟨xs, ?_, h2, h3⟩
  have : cs.toList = xs.map (Value.int k) := by simpa [Value.cells] using e1
  rw [← this]
end
end Go.Proofs.YthhbilkmdfdfiaaDoor.F
end

section
/- Arrays of bytes in memory: a block of them; copying into it; reading it as a slice. -/
namespace Go.Proofs.YthhbilkmdfdfiaaDoor.F
open Go.RowKit Go.Proofs.YthhbilkmdfdfiaaDoorW.PrintWords Go.Proofs.YthhbilkmdfdfiaaDoorW.PrintLast Go.Proofs.YthhbilkmdfdfiaaDoorW.PrintMore
set_option linter.unusedVariables false
set_option linter.unusedSimpArgs false
def vals (xs : List Int) : List Value := xs.map (Value.int .u8)
/-- block g holds the bytes xs, as an array of type t -/
def Byt (w : World) (g : Nat) (t : TypeId) (xs : List Int) : Prop := w.heap[g]? = some (.cells (vals xs).toArray t (0, 0))
theorem Byt.cell {w : World} {g : Nat} {t : TypeId} {xs : List Int} (h : Byt w g t xs) (i : Nat) : w.cell? ⟨g, i, none⟩ = (xs[i]?).map (Value.int .u8) := by
  rw [blk_cell h i]
  simp [vals]
theorem Byt.below {w w1 : World} {g : Nat} {t : TypeId} {xs : List Int} (h : Byt w g t xs) (hb : Below w.heap.size w w1) : Byt w1 g t xs := blk_below h hb
theorem Byt.lt {w : World} {g : Nat} {t : TypeId} {xs : List Int} (h : Byt w g t xs) : g < w.heap.size := blk_lt h
theorem addr_add (g o j : Nat) : (Addr.mk g o none).add j = ⟨g, o + j, none⟩ := by
  unfold Addr.add
  by_cases h : j = 0
  · subst h; rfl
  · simp [h]
/-- a piece of the block, as a slice reads it -/
theorem Byt.C {w : World} {g : Nat} {t : TypeId} {xs : List Int} (h : Byt w g t xs) (o n : Nat) (hn : o + n ≤ xs.length) (hl : n ≤ 9223372036854775807) : (Kd.int .u8).C w (some ⟨g, o, none⟩) n ((xs.drop o).take n) := by
  have hlen : ((xs.drop o).take n).length = n := by rw [List.length_take, List.length_drop]; omega
  refine ⟨hlen, hl, fun _ => ⟨_, rfl, fun j p hj => ⟨[.int .u8 p], rfl, rfl, fun i u hu => ?_⟩⟩⟩
  have hi0 : i = 0 := by have := (List.getElem?_eq_some_iff.1 hu).1; simpa using this
  subst hi0
  have hjn : j < n := by have := (List.getElem?_eq_some_iff.1 hj).1; omega
  rw [List.getElem?_take_of_lt hjn, List.getElem?_drop] at hj
  simp at hu
  subst hu
  rw [show (Kd.int .u8).sz = 1 from rfl, addr_add, h.cell]
  rw [show o + (j * 1 + 0) = o + j by omega, hj]
  rfl
theorem vals_one {xs : List Int} : ∀ v ∈ vals xs, v.oneCell' = true := by
  intro v hv
  obtain ⟨z, -, rfl⟩ := List.mem_map.1 hv
  rfl
theorem vals_splice (xs ys : List Int) (o : Nat) : splice (vals xs) o (vals ys) = vals (splice xs o ys) := by
  simp [splice, vals, List.map_take, List.map_drop]
/-- copy into the block, one step of a region that draws its order -/
theorem copy_step {P : Program} {ops : Array Oper} {o : Oper} {a : Act} {W : World} {K : Act → World → Prop} {Q : Exit → Act → World → Prop} {E : Prop} (hgd : o.guard = none) (d s : Operand) (dT sT : TypeId)
    (ho : o.op = .call { callee := .builtin .copy, args := #[d, s], argTypes := #[dT, sT] }) (elem : TypeId) (hu : P.underlying dT = some (.slice elem)) (hsz : (P.info? elem).map (·.size) = some 1)
    (g off : Nat) (sp : Option Addr) (dLen dCap sLen sCap : Nat) (hd : a.eval d = .slice (some ⟨g, off, none⟩) dLen dCap) (hs : a.eval s = .slice sp sLen sCap)
    (cur : List Int) (t : TypeId) (hg : Byt W g t cur) (ys : List Int) (hy : Kd.C (Kd.int .u8) W sp sLen ys) (hfit : off + min sLen dLen ≤ cur.length)
    (h : ∀ w', Byt w' g t (splice cur off (ys.take (min sLen dLen))) → Below g W w' → K (a.put o.dst (goInt (min sLen dLen : Nat))) w') :
    if Region.wanted o (yielded ops a.tmps) = true then Oper.wp P o a W K Q else E := by
  have hyl : ys.length = sLen := hy.1
  have hlen : (vals (ys.take (min sLen dLen))).length = min sLen dLen := by simp [vals]; omega
  refine step_copy_splice hgd d s dT sT ho elem hu hsz (some ⟨g, off, none⟩) sp dLen dCap sLen sCap hd hs g off (vals cur) t hg (vals (ys.take (min sLen dLen))) hlen ?_ (by rw [hlen]; simpa [vals] using hfit) vals_one g W (Below.refl g W) (Nat.le_refl g) ?_
  · intro hp
    rw [hlen] at hp
    obtain ⟨ad, e, hc⟩ := hy.2.2 (by omega)
    refine ⟨rfl, ad, e, fun j v hj => ?_⟩
    simp only [vals, List.getElem?_map, Option.map_eq_some_iff] at hj
    obtain ⟨z, hz, rfl⟩ := hj
    have hjl : j < min sLen dLen := by have := (List.getElem?_eq_some_iff.1 hz).1; simp at this; omega
    rw [List.getElem?_take_of_lt hjl] at hz
    obtain ⟨c, hs', hr, hcell⟩ := hc j z hz
    have hr' : c = [.int .u8 z] := hr
    subst hr'
    have := hcell 0 _ rfl
    rw [show (Kd.int .u8).sz = 1 from rfl] at this
    simpa using this
  · intro w' h1 h2
    have e : (splice (vals cur) off (vals (ys.take (min sLen dLen)))) = vals (splice cur off (ys.take (min sLen dLen))) := vals_splice ..
    have h1' : w'.heap[g]? = some (.cells (splice (vals cur) off (vals (ys.take (min sLen dLen)))).toArray t (0, 0)) := h1
    rw [e] at h1'
    have := h w' h1' h2
    rw [hlen]
    exact this
/-- copy into the block, in a plain region -/
theorem copy_plain {P : Program} {ops : Array Oper} {rest : List Oper} {o : Oper} {a : Act} {W : World} {Q : Exit → Act → World → Prop} (hgd : o.guard = none) (d s : Operand) (dT sT : TypeId)
    (ho : o.op = .call { callee := .builtin .copy, args := #[d, s], argTypes := #[dT, sT] }) (elem : TypeId) (hu : P.underlying dT = some (.slice elem)) (hsz : (P.info? elem).map (·.size) = some 1)
    (g off : Nat) (sp : Option Addr) (dLen dCap sLen sCap : Nat) (hd : a.eval d = .slice (some ⟨g, off, none⟩) dLen dCap) (hs : a.eval s = .slice sp sLen sCap)
    (cur : List Int) (t : TypeId) (hg : Byt W g t cur) (ys : List Int) (hy : Kd.C (Kd.int .u8) W sp sLen ys) (hfit : off + min sLen dLen ≤ cur.length)
    (h : ∀ w', Byt w' g t (splice cur off (ys.take (min sLen dLen))) → Below g W w' → wpList P ops Q rest (a.put o.dst (goInt (min sLen dLen : Nat))) w') :
    wpList P ops Q (o :: rest) a W := by
  have hyl : ys.length = sLen := hy.1
  have hlen : (vals (ys.take (min sLen dLen))).length = min sLen dLen := by simp [vals]; omega
  refine wpList_copy_splice hgd d s dT sT ho elem hu hsz (some ⟨g, off, none⟩) sp dLen dCap sLen sCap hd hs g off (vals cur) t hg (vals (ys.take (min sLen dLen))) hlen ?_ (by rw [hlen]; simpa [vals] using hfit) vals_one g W (Below.refl g W) (Nat.le_refl g) ?_
  · intro hp
    rw [hlen] at hp
    obtain ⟨ad, e, hc⟩ := hy.2.2 (by omega)
    refine ⟨rfl, ad, e, fun j v hj => ?_⟩
    simp only [vals, List.getElem?_map, Option.map_eq_some_iff] at hj
    obtain ⟨z, hz, rfl⟩ := hj
    have hjl : j < min sLen dLen := by have := (List.getElem?_eq_some_iff.1 hz).1; simp at this; omega
    rw [List.getElem?_take_of_lt hjl] at hz
    obtain ⟨c, hs', hr, hcell⟩ := hc j z hz
    have hr' : c = [.int .u8 z] := hr
    subst hr'
    have := hcell 0 _ rfl
    rw [show (Kd.int .u8).sz = 1 from rfl] at this
    simpa using this
  · intro w' h1 h2
    have e : (splice (vals cur) off (vals (ys.take (min sLen dLen)))) = vals (splice cur off (ys.take (min sLen dLen))) := vals_splice ..
    have h1' : w'.heap[g]? = some (.cells (splice (vals cur) off (vals (ys.take (min sLen dLen)))).toArray t (0, 0)) := h1
    rw [e] at h1'
    have := h w' h1' h2
    rw [hlen]
    exact this
theorem Byt.set {w : World} {g : Nat} {t : TypeId} {xs : List Int} (h : Byt w g t xs) (i : Nat) (z : Int) : Byt (w.setCell ⟨g, i, none⟩ (.int .u8 z)) g t (xs.set i z) := by
  refine blk_put h i _ ?_
  simp [vals, List.map_set]
theorem exec_load_row {P : Program} {o : Oper} {ρ : Operand → Value} {w : World} (ty : TypeId) (x : Operand) (ho : o.op = .load ty x) (g : Nat) (hx : ρ x = .pointer (some ⟨g, 0, none⟩)) (t : TypeId) (cs : Array Value) (fr : Nat × Nat) (d : TypeDesc) (hg : w.heap[g]? = some (.cells cs t fr))
    (hu : P.underlying ty = some d) (hd : (match d with | .struct _ | .array _ _ => true | _ => false) = true) (hi : (P.info? ty).map (·.size) = some cs.size) : (execOp ρ o).run P w = .ok (.value (.agg cs)) w := by
  unfold execOp
  simp only [ho, hx, Instr.loadAt, Instr.sureAddr, Sem.run_bind, Sem.run_pure, Result.andThen_ok, run_loadVar_row w g t ty cs fr d hg hu hd hi]
/-- the first places laid anew, one by one -/
def fillB (out : List Int) : Nat → List Int → List Int
  | 0, zs => zs
  | i + 1, zs => (fillB out i zs).set i (out.getD i 0)
theorem fillB_len (out zs : List Int) (i : Nat) : (fillB out i zs).length = zs.length := by
  induction i with
  | zero => rfl
  | succ i ih => show ((fillB out i zs).set i (out.getD i 0)).length = _; rw [List.length_set, ih]
theorem fillB_get (out zs : List Int) (h : out.length = zs.length) (i j : Nat) (hi : i ≤ out.length) : (fillB out i zs)[j]? = if j < i then out[j]? else zs[j]? := by
  induction i with
  | zero => simp [fillB]
  | succ i ih =>
    show ((fillB out i zs).set i (out.getD i 0))[j]? = _
    rw [List.getElem?_set, fillB_len, ih (by omega)]
    by_cases hj : i = j
    · subst hj
      rw [if_pos rfl, if_pos (by omega), if_pos (by omega), List.getD_eq_getElem?_getD, List.getElem?_eq_getElem (by omega)]
      rfl
    · rw [if_neg hj]
      by_cases h2 : j < i
      · rw [if_pos h2, if_pos (by omega)]
      · rw [if_neg h2, if_neg (by omega)]
theorem fillB_all (out zs : List Int) (h : out.length = zs.length) : fillB out out.length zs = out := by
  apply List.ext_getElem?
  intro j
  rw [fillB_get out zs h _ _ (Nat.le_refl _)]
  by_cases hj : j < out.length
  · rw [if_pos hj]
  · rw [if_neg hj, List.getElem?_eq_none (by omega), List.getElem?_eq_none (by omega)]
end Go.Proofs.YthhbilkmdfdfiaaDoor.F
end
