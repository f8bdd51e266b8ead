/- Arrays of bytes compared. -/
import Derived.Test.YthhbilkmdfdfiaaDoorArr
import Derived.Stop.BytesEq
namespace Go.Proofs.YthhbilkmdfdfiaaDoor.F
open Go.RowKit Go.Proofs.YthhbilkmdfdfiaaDoorW.PrintWords Go.Proofs.YthhbilkmdfdfiaaDoorW.PrintLast Go.Proofs.YthhbilkmdfdfiaaDoorW.PrintMore
set_option linter.unusedVariables false
set_option linter.unusedSimpArgs false
def Bytes (xs : List Int) : Prop := ∀ c ∈ xs, 0 ≤ c ∧ c ≤ 255
def u8s (xs : List Int) : List UInt8 := xs.map fun n => UInt8.ofNat n.toNat
theorem vals_u8s : ∀ {xs : List Int}, Bytes xs → vals xs = (u8s xs).map Extern.Stop.cell := by
  intro xs h
  unfold vals u8s
  rw [List.map_map]
  refine List.map_congr_left fun c hc => ?_
  have := h c hc
  show Value.int .u8 c = Value.int .u8 (((UInt8.ofNat c.toNat).toNat : Nat) : Int)
  congr 1
  simp only [UInt8.toNat_ofNat']
  omega
theorem u8s_beq : ∀ {xs ys : List Int}, Bytes xs → Bytes ys → (u8s xs == u8s ys) = (xs == ys) := by
  intro xs
  induction xs with
  | nil => intro ys _ _; cases ys <;> rfl
  | cons c xs ih =>
    intro ys hx hy
    cases ys with
    | nil => rfl
    | cons d ys =>
      have a := hx c (List.mem_cons_self ..)
      have b := hy d (List.mem_cons_self ..)
      have e : (UInt8.ofNat c.toNat == UInt8.ofNat d.toNat) = (c == d) := by
        rw [Bool.eq_iff_iff]
        simp only [beq_iff_eq, ← UInt8.toNat_inj, UInt8.toNat_ofNat']
        omega
      show (UInt8.ofNat c.toNat :: u8s xs == UInt8.ofNat d.toNat :: u8s ys) = (c :: xs == d :: ys)
      rw [List.cons_beq_cons, List.cons_beq_cons, e, ih (fun z hz => hx z (List.mem_cons_of_mem _ hz)) (fun z hz => hy z (List.mem_cons_of_mem _ hz))]
theorem equalB (d : Nat) (w : World) (t : TypeId) (n : Nat) (ht : Tryd.prog.underlying t = some (.array n 5)) {xs ys : List Int} (hx : xs.length = n) (hy : ys.length = n) (bx : Bytes xs) (by' : Bytes ys) :
    (Op.equalIn (d + 2) t (.agg (vals xs).toArray) (.agg (vals ys).toArray)).run Tryd.prog w = .ok (xs == ys) w := by
  rw [vals_u8s bx, vals_u8s by', run_equalIn_bytes w d t 5 n ht Tryd.underlying5 (fun w => by kernel_rfl) _ _ (by simp [u8s, hx]) (by simp [u8s, hy]), u8s_beq bx by']
end Go.Proofs.YthhbilkmdfdfiaaDoor.F
