/- crc: what four, More and Of answer, as Lean functions, and that the calls answer just this where the table lies in memory as the program's text says. -/
import Derived.Test.YthhbilkmdfdfiaaDoorF0
namespace Go.Proofs.YthhbilkmdfdfiaaDoor.F
open Go.RowKit Go.Proofs.YthhbilkmdfdfiaaDoorW.PrintWords Go.Proofs.YthhbilkmdfdfiaaDoorW.PrintLast Go.Proofs.YthhbilkmdfdfiaaDoorW.PrintMore
set_option linter.unusedVariables false
set_option linter.unusedSimpArgs false

theorem w64c {n : Int} (h0 : -9223372036854775808 ≤ n) (h1 : n ≤ 9223372036854775807) : wrap64 n = n := by
  unfold wrap64
  omega
def halfL : List Int := [0, 274646895, 549293790, 820201905, 1098587580, 1361435347, 1640403810, 1905808397, 2197175160, 2460548119, 2722870694, 2987750089, 3280807620, 3553878443, 3811616794, 4084100981]
def Half (w : World) : Prop := ∀ i : Nat, i < 16 → w.cell? ⟨0, i, none⟩ = some (.int .u32 (halfL.getD i 0))
theorem Half.below {w w' : World} (h : Half w) (hb : Below w.heap.size w w') : Half w' := fun i hi => (hb.cell (World.block_lt_of_cell? w _ (h i hi))).trans (h i hi)
theorem Half.at_ {w w' : World} (h : Aside0 (Half w)) (hb : Aside0 (Below w.heap.size w w')) : Half w' := h.out.below hb.out
theorem Half.alloc {w : World} (h : Half w) (o : Obj) : Half (w.alloc o) := h.below (below_alloc (Below.refl _ _) o)
theorem Half.drewN {w : World} (h : Half w) (n : Nat) : Half (w.drewN n) := h
theorem Half.drew {w : World} (h : Half w) : Half w.drew := h
theorem bv32 (n : Int) : ((BitVec.ofInt 32 n).toNat : Int) = n % 4294967296 := by
  rw [BitVec.toNat_ofInt]
  have h := Int.emod_nonneg n (show (4294967296 : Int) ≠ 0 by decide)
  rw [show ((2 ^ 32 : Nat) : Int) = 4294967296 by decide]
  omega
theorem u32_and15 {x : Int} (h0 : 0 ≤ x) (h1 : x ≤ 4294967295) : bits .and .u32 x 15 = x % 16 := by
  show IntKind.u32.wrap ((BitVec.ofInt 32 x &&& BitVec.ofInt 32 15).toNat : Int) = _
  have h2 := bv32 x
  rw [BitVec.toNat_and, show (BitVec.ofInt 32 15).toNat = 2 ^ 4 - 1 by decide, Nat.and_two_pow_sub_one_eq_mod, IntKind.wrap_u32]
  omega
theorem xor32 (a b : Int) : bits .xor .u32 a b = ((BitVec.ofInt 32 a ^^^ BitVec.ofInt 32 b).toNat : Int) := by
  show IntKind.u32.wrap ((BitVec.ofInt 32 a ^^^ BitVec.ofInt 32 b).toNat : Int) = _
  have := (BitVec.ofInt 32 a ^^^ BitVec.ofInt 32 b).isLt
  rw [IntKind.wrap_u32]
  omega
theorem xor_u32 (x c : Int) : 0 ≤ bits .xor .u32 x c ∧ bits .xor .u32 x c ≤ 4294967295 := by
  rw [xor32]
  have := (BitVec.ofInt 32 x ^^^ BitVec.ofInt 32 c).isLt
  omega
theorem not_u32 {a : Int} (h0 : 0 ≤ a) (h1 : a ≤ 4294967295) : bits .xor .u32 IntKind.u32.max a = 4294967295 - a := by
  rw [xor32, show IntKind.u32.max = 4294967295 by decide]
  have h2 := bv32 a
  have h3 := (BitVec.ofInt 32 a).isLt
  rw [BitVec.xor_comm, show BitVec.ofInt 32 4294967295 = BitVec.allOnes 32 by decide, BitVec.xor_allOnes, BitVec.toNat_not]
  omega

def fourI (x : Int) : Int := bits .xor .u32 (halfL.getD (x % 16).toNat 0) (x / 16)
theorem four_calls (x : Int) (w : World) (hH : Half w) (h0 : 0 ≤ x) (h1 : x ≤ 4294967295) :
    Calls Tryd.prog 52 #[.int .u32 x] w fun e w' => e = .returned (.int .u32 (fourI x)) ∧ w = w' := by
  have c := hH (x % 16).toNat (by omega)
  have e1 := u32_and15 h0 h1
  have e2 : (0 : Int) ≤ x % 16 := by omega
  have e3 : x % 16 < 16 := by omega
  go_enter Tryd.func52, Tryd.ntmps52
  go_wp2
  go_ret
  refine ⟨?_, rfl⟩
  unfold fourI
  rw [List.getD_eq_getElem?_getD]
  rfl

def stepC (x c : Int) : Int := fourI (fourI (bits .xor .u32 x c))
def moreI (sum : Int) (b : List Int) : Int := 4294967295 - b.foldl stepC (4294967295 - sum)
theorem fourI_in (x : Int) : 0 ≤ fourI x ∧ fourI x ≤ 4294967295 := xor_u32 _ _
theorem fold_in (b : List Int) : ∀ x : Int, 0 ≤ x → x ≤ 4294967295 → 0 ≤ b.foldl stepC x ∧ b.foldl stepC x ≤ 4294967295 := by
  induction b with
  | nil => intro x h0 h1; exact ⟨h0, h1⟩
  | cons c b ih => intro x h0 h1; exact ih _ (fourI_in _).1 (fourI_in _).2
set_option maxHeartbeats 2000000 in
theorem more_calls (sum : Int) (A1 : Option Addr) (c1 : Nat) (l1 : List Int) (w : World) (hr1 : Kd.C (Kd.int .u8) w A1 l1.length l1) (hc1 : l1.length ≤ c1) (h0 : 0 ≤ sum) (h1 : sum ≤ 4294967295) (hb : ∀ c ∈ l1, 0 ≤ c ∧ c ≤ 255) (hH : Half w) :
    Calls Tryd.prog 18 #[.int .u32 sum, .slice A1 l1.length c1] w fun e w' => e = .returned (.int .u32 (moreI sum l1)) ∧ Drawn0 w w' := by
  have HR := Aside0.mk hr1
  have HC := Aside0.mk hc1
  have HL := Aside0.mk (show l1.length ≤ 9223372036854775807 by have := hr1.2.1; omega)
  clear hr1 hc1
  have HH := Aside0.mk hH
  clear hH
  have hs : IntKind.u32.signed = false := rfl
  have hm := not_u32 h0 h1
  go_enter Tryd.func18, Tryd.ntmps18
  go_wp2
  clear hm
  go_loopg [5, 7, 12] l1.length (fun gq v5 v7 v12 w' => ∃ (i : Nat), v12 = .int .i64 i ∧ v5 = .int .u32 ((l1.take i).foldl stepC (4294967295 - sum)) ∧ Aside0 (i + gq = l1.length) ∧ Drawn0 w w')
  case atStart => exact ⟨0, rfl, rfl, ⟨by omega⟩, Drawn0.refl _⟩
  case round =>
    obtain ⟨i, rfl, rfl, HQ, ⟨m1, rfl⟩⟩ := hrel
    have hI := Aside0.mk (fold_in (l1.take i) (4294967295 - sum) (by omega) (by omega))
    by_cases ci : i < l1.length
    · obtain ⟨gk', rfl⟩ : ∃ q, gk = q + 1 := ⟨gk - 1, by have := HQ.out; omega⟩
      have hx : (l1.take (i + 1)).foldl stepC (4294967295 - sum) = stepC ((l1.take i).foldl stepC (4294967295 - sum)) (l1.getD i 0) := by
        rw [List.take_add_one, List.foldl_append, List.getElem?_eq_getElem ci, List.getD_eq_getElem?_getD, List.getElem?_eq_getElem ci]
        rfl
      have hc := hb _ (List.getElem_mem ci)
      have hg : l1.getD i 0 = l1[i] := by rw [List.getD_eq_getElem?_getD, List.getElem?_eq_getElem ci]; rfl
      rw [← hg] at hc
      obtain ⟨ad, x0, rfl⟩ : ∃ ad, w.cell? (ad.add i) = some (.int .u8 (l1.getD i 0)) ∧ A1 = some ad := by
        obtain ⟨ad, c, e, hl, hK, hcc⟩ := Kd.C_get HR.out 0 (i : Int) (by omega) (by omega)
        have hc' : c = [.int .u8 (l1.getD (i : Int).toNat 0)] := hK
        subst hc'
        have := hcc 0 _ rfl
        rw [Int.toNat_natCast] at this
        exact ⟨ad, by simpa [show (Kd.int .u8).sz = 1 from rfl] using this, e⟩
      generalize l1.getD i 0 = c at hx hc x0
      generalize (l1.take i).foldl stepC (4294967295 - sum) = x at hI hx ⊢
      have p0 : ((0 : Int) ≤ (i : Int)) = True := eq_true (by omega)
      have p1 : ((i : Int) < (l1.length : Int)) = True := eq_true (by omega)
      clear hb hg
      go_wp2_with fail
      refine (four_calls _ _ (HH.out.drewN _) (xor_u32 _ _).1 (xor_u32 _ _).2).mono ?_
      rintro e w3 ⟨rfl, rfl⟩
      go_wp2_with fail
      refine (four_calls _ _ (HH.out.drewN _) (fourI_in _).1 (fourI_in _).2).mono ?_
      rintro e w3 ⟨rfl, rfl⟩
      go_wp2
      go_roundg gk'
      case measure => omega
      case rel => exact ⟨i + 1, by rw [w64c (n := (i : Int) + 1) (by omega) (by have := HL.out; omega)]; rfl, by rw [hx]; rfl, ⟨by have := HQ.out; omega⟩, by repeat (first | exact Drawn0.refl _ | apply Drawn0.step)⟩
    · have hi : i = l1.length := by have := HQ.out; omega
      subst hi
      have hg0 : gk = 0 := by have := HQ.out; omega
      subst hg0
      rw [List.take_length] at hI ⊢
      have hm := not_u32 hI.out.1 hI.out.2
      have p1 : ((l1.length : Int) < (l1.length : Int)) = False := eq_false (by omega)
      have p2 : decide ((l1.length : Int) < (l1.length : Int)) = false := decide_eq_false (by omega)
      clear hb
      go_wp2
      go_ret
      exact ⟨rfl, by repeat (first | exact Drawn0.refl _ | apply Drawn0.step)⟩
set_option maxHeartbeats 1000000 in
theorem of_calls (A1 : Option Addr) (c1 : Nat) (l1 : List Int) (w : World) (hr1 : Kd.C (Kd.int .u8) w A1 l1.length l1) (hc1 : l1.length ≤ c1) (hb : ∀ c ∈ l1, 0 ≤ c ∧ c ≤ 255) (hH : Half w) :
    Calls Tryd.prog 16 #[.slice A1 l1.length c1] w fun e w' => e = .returned (.int .u32 (moreI 0 l1)) ∧ Drawn0 w w' := by
  go_enter Tryd.func16, Tryd.ntmps16
  go_wp2_with fail
  refine (more_calls 0 A1 c1 l1 _ hr1 hc1 (by omega) (by omega) hb hH).mono ?_
  rintro e w3 ⟨rfl, hd⟩
  go_wp2
  go_ret
  exact ⟨rfl, hd⟩

/-! as the print's texts take them: numbers in range -/
def okB (l : List Int) : Bool := l.all fun c => decide (0 ≤ c ∧ c ≤ 255)
def crc_More.f (a0 : Int) (l1 : List Int) : Option Int := if 0 ≤ a0 ∧ a0 ≤ 4294967295 ∧ okB l1 = true then some (moreI a0 l1) else none
def crc_Of.f (l0 : List Int) : Option Int := if okB l0 = true then some (moreI 0 l0) else none
theorem okB_all {l : List Int} (h : okB l = true) : ∀ c ∈ l, 0 ≤ c ∧ c ≤ 255 := fun c hc => of_decide_eq_true (List.all_eq_true.1 h c hc)
theorem crc_More.calls (a0 : Int) (A1 : Option Addr) (c1 : Nat) (l1 : List Int) (r : Int) (w : World) (hr1 : Kd.C (Kd.int .u8) w A1 l1.length l1) (hc1 : l1.length ≤ c1) (h : crc_More.f a0 l1 = some r)
    (hH : Half w := by repeat (first | exact Half.at_ (by assumption) (by assumption) | exact Aside0.out (by assumption) | apply Half.alloc | apply Half.drewN | apply Half.drew)) :
    Calls Tryd.prog 18 #[.int .u32 a0, .slice A1 l1.length c1] w fun e w' => e = .returned (.int .u32 r) ∧ Drawn0 w w' := by
  unfold crc_More.f at h
  split at h
  · rename_i z
    obtain rfl := Option.some.inj h
    exact more_calls a0 A1 c1 l1 w hr1 hc1 z.1 z.2.1 (okB_all z.2.2) hH
  · cases h
theorem crc_Of.calls (A0 : Option Addr) (c0 : Nat) (l0 : List Int) (r : Int) (w : World) (hr0 : Kd.C (Kd.int .u8) w A0 l0.length l0) (hc0 : l0.length ≤ c0) (h : crc_Of.f l0 = some r)
    (hH : Half w := by repeat (first | exact Half.at_ (by assumption) (by assumption) | exact Aside0.out (by assumption) | apply Half.alloc | apply Half.drewN | apply Half.drew)) :
    Calls Tryd.prog 16 #[.slice A0 l0.length c0] w fun e w' => e = .returned (.int .u32 r) ∧ Drawn0 w w' := by
  unfold crc_Of.f at h
  split at h
  · rename_i z
    obtain rfl := Option.some.inj h
    exact of_calls A0 c0 l0 w hr0 hc0 (okB_all z) hH
  · cases h
end Go.Proofs.YthhbilkmdfdfiaaDoor.F
