/- stamp: the contracts once more, over lists of numbers; what a sealed sector opens by. -/
import Derived.Test.YthlpimojojofbaaTy
import Derived.Test.YthlpimojojofbaaSealMath
namespace Go.Proofs.Ythlpimojojofbaa.O
open Go.RowKit Go.Proofs.YthlpimojojofbaaW.PrintWords Go.Proofs.YthlpimojojofbaaW.PrintLast Go.Proofs.YthlpimojojofbaaW.PrintMore Go.Proofs.Ythlpimojojofbaa.F Go.Proofs.Ythlpimojojofbaa.F.Nums Go.Proofs.Ythlpimojojofbaa.Plain
set_option linter.unusedVariables false
set_option linter.unusedSimpArgs false
theorem bytes_of_wf {xs : List Int} (h : ∀ x ∈ xs, (Lit.int .u8 x).wf = true) : Bytes xs := fun c hc => by
  have := h c hc
  simp [Lit.wf, IntKind.min, IntKind.max, IntKind.signed, IntKind.bits] at this
  omega
theorem wf_of_bytes {xs : List Int} (h : Bytes xs) : ∀ x ∈ xs, (Lit.int .u8 x).wf = true := fun x hx => by
  have := h x hx
  simp [Lit.wf, IntKind.min, IntKind.max, IntKind.signed, IntKind.bits]
  omega
theorem putl_bytes (n i : Nat) : Bytes (putl n i) := by
  induction i with
  | zero => intro c hc; cases hc
  | succ i ih =>
    intro c hc
    rcases List.mem_append.1 hc with hc | hc
    · exact ih c hc
    · rw [List.mem_singleton.1 hc]
      omega
theorem bytes_append {xs ys : List Int} (h : Bytes xs) (k : Bytes ys) : Bytes (xs ++ ys) := fun c hc => (List.mem_append.1 hc).elim (h c) (k c)
theorem bytes_take {xs : List Int} (h : Bytes xs) (n : Nat) : Bytes (xs.take n) := fun c hc => h c (List.mem_of_mem_take hc)
theorem bytes_drop {xs : List Int} (h : Bytes xs) (n : Nat) : Bytes (xs.drop n) := fun c hc => h c (List.mem_of_mem_drop hc)
theorem bytes_zs (n : Nat) : Bytes (zs n) := fun c hc => by have := List.eq_of_mem_replicate hc; omega
theorem splice_at {α : Type} (a b : List α) (c : List α) (o : Nat) (ho : a.length = o) : splice (a ++ b) o c = a ++ (c ++ b.drop c.length) := by
  subst ho
  unfold splice
  rw [List.take_left, List.drop_append]
  rw [List.drop_of_length_le (by omega), List.nil_append, show a.length + c.length - a.length = c.length by omega]
/-- a sealed sector, end to end -/
theorem sealF_eq (e i : Int) (room : List Int) : sealF e i room = putl e.toNat 8 ++ (putl (IntKind.u64.wrap i).toNat 4 ++ (room.take 52 ++ zs (52 - room.length))) := by
  have h0 : splice z64b 0 (putl e.toNat 8) = putl e.toNat 8 ++ zs 56 := by
    have := splice_at ([] : List Int) z64b (putl e.toNat 8) 0 rfl
    rw [List.nil_append, List.nil_append, putl_len] at this
    rw [this]
    congr 1
  unfold sealF
  rw [h0, splice_at _ _ _ 8 (putl_len _ _), putl_len, ← List.append_assoc, splice_at _ _ _ 12 (by rw [List.length_append, putl_len, putl_len])]
  rw [List.append_assoc]
  congr 3
  unfold zs
  rw [List.drop_replicate, List.drop_replicate, List.length_take]
  congr 1
  omega
theorem seal_bytes (e i : Int) {room : List Int} (h : Bytes room) : Bytes (sealF e i room) := by
  rw [sealF_eq]
  exact bytes_append (putl_bytes _ _) (bytes_append (putl_bytes _ _) (bytes_append (bytes_take h _) (bytes_zs _)))
theorem getn_append (a b : List Int) (i : Nat) (h : i ≤ a.length) : getn (a ++ b) i = getn a i := by
  induction i with
  | zero => rfl
  | succ i ih =>
    unfold getn
    rw [ih (by omega)]
    congr 3
    unfold rd
    rw [List.getD_eq_getElem?_getD, List.getD_eq_getElem?_getD, List.getElem?_append_left (by omega)]
theorem getn_putl (n i : Nat) : getn (putl n i) i = n % 256 ^ i := by
  induction i with
  | zero => simp [getn, Nat.mod_one]
  | succ i ih =>
    unfold getn
    show getn (putl n i ++ [((n / 256 ^ i % 256 : Nat) : Int)]) i + _ = _
    rw [getn_append _ _ _ (by rw [putl_len]; exact Nat.le_refl i), ih]
    have e : rd (putl n i ++ [((n / 256 ^ i % 256 : Nat) : Int)]) (i : Int) = ((n / 256 ^ i % 256 : Nat) : Int) := by
      unfold rd
      rw [List.getD_eq_getElem?_getD, List.getElem?_append_right (by rw [putl_len]; simp), putl_len]
      simp
    show n % 256 ^ i + (rd (putl n i ++ [((n / 256 ^ i % 256 : Nat) : Int)]) (i : Int)).toNat * 256 ^ i = _
    rw [e, Int.toNat_natCast, Nat.pow_succ, Nat.mod_mul]
    rw [Nat.mul_comm (256 ^ i)]
/-- what is put back out of what was got -/
theorem putl_getn {l : List Int} (hl : Bytes l) : ∀ i, i ≤ l.length → putl (getn l i) i = l.take i := by
  have key : ∀ (i m : Nat), i ≤ l.length → m % 256 ^ i = getn l i → putl m i = l.take i := by
    intro i
    induction i with
    | zero => intro m _ _; rfl
    | succ i ih =>
      intro m hi hm
      have hc := hl _ (List.getElem_mem (show i < l.length by omega))
      have hrd : rd l (i : Int) = l[i] := by
        unfold rd
        rw [Int.toNat_natCast, List.getD_eq_getElem?_getD, List.getElem?_eq_getElem (by omega)]
        rfl
      have hlt := getn_lt (l := l) (wf_of_bytes hl) i
      rw [Nat.pow_succ, Nat.mod_mul] at hm
      have hm' : m % 256 ^ i + 256 ^ i * (m / 256 ^ i % 256) = getn l i + (rd l (i : Int)).toNat * 256 ^ i := hm
      rw [hrd] at hm'
      have hp : 0 < 256 ^ i := Nat.pow_pos (by decide)
      have hmod : m % 256 ^ i = getn l i := by
        have h1 : (m % 256 ^ i + 256 ^ i * (m / 256 ^ i % 256)) % 256 ^ i = m % 256 ^ i := by rw [Nat.add_mul_mod_self_left, Nat.mod_mod]
        have h2 : (getn l i + (l[i]).toNat * 256 ^ i) % 256 ^ i = getn l i := by rw [Nat.add_mul_mod_self_right, Nat.mod_eq_of_lt hlt]
        rw [← h1, hm', h2]
      have hd : m / 256 ^ i % 256 = (l[i]).toNat := by
        rw [hmod, Nat.mul_comm (256 ^ i)] at hm'
        exact Nat.eq_of_mul_eq_mul_right hp (Nat.add_left_cancel hm')
      show putl m i ++ [((m / 256 ^ i % 256 : Nat) : Int)] = _
      rw [ih m (by omega) hmod, hd, List.take_add_one, List.getElem?_eq_getElem (by omega), Int.toNat_of_nonneg hc.1]
      rfl
  intro i hi
  exact key i _ hi (Nat.mod_eq_of_lt (getn_lt (l := l) (wf_of_bytes hl) i))
theorem putl_mod (m k : Nat) : ∀ i, i ≤ k → putl (m % 256 ^ k) i = putl m i := by
  intro i
  induction i with
  | zero => intro _; rfl
  | succ i ih =>
    intro hi
    show putl (m % 256 ^ k) i ++ [((m % 256 ^ k / 256 ^ i % 256 : Nat) : Int)] = putl m i ++ [((m / 256 ^ i % 256 : Nat) : Int)]
    rw [ih (by omega)]
    have e : (256 : Nat) ^ k = 256 ^ i * 256 ^ (k - i) := by rw [← Nat.pow_add]; congr 1; omega
    have d : (256 : Nat) ∣ 256 ^ (k - i) := by
      obtain ⟨q, hq⟩ : ∃ q, k - i = q + 1 := ⟨k - i - 1, by omega⟩
      rw [hq, Nat.pow_succ]
      exact Nat.dvd_mul_left _ _
    rw [e, Nat.mod_mul_right_div_self, Nat.mod_mod_of_dvd _ d]
theorem seal_mod (e i j : Int) (room : List Int) (h : i % 4294967296 = j % 4294967296) : sealF e i room = sealF e j room := by
  rw [sealF_eq, sealF_eq]
  have key : ∀ x : Int, putl (IntKind.u64.wrap x).toNat 4 = putl (x % 4294967296).toNat 4 := by
    intro x
    rw [← putl_mod (IntKind.u64.wrap x).toNat 4 4 (Nat.le_refl 4)]
    congr 1
    rw [IntKind.wrap_u64, show (256 : Nat) ^ 4 = 4294967296 by decide]
    omega
  rw [key i, key j, h]
theorem seal_drop (e i : Int) (room : List Int) : (sealF e i room).drop 12 = room.take 52 ++ zs (52 - room.length) := by
  rw [sealF_eq, ← List.append_assoc, List.drop_left' (by rw [List.length_append, putl_len, putl_len])]
theorem seal_e (e i : Int) (room : List Int) (h0 : 0 ≤ e) (h1 : e ≤ 18446744073709551615) : ((getn (sealF e i room) 8 : Nat) : Int) = e := by
  rw [sealF_eq, getn_append _ _ _ (by rw [putl_len]; decide), getn_putl]
  rw [show (256 : Nat) ^ 8 = 18446744073709551616 by decide]
  omega
theorem seal_i (e i : Int) (room : List Int) : ((getn ((sealF e i room).drop 8) 4 : Nat) : Int) = i % 4294967296 := by
  rw [sealF_eq, List.drop_left' (putl_len _ _), getn_append _ _ _ (by rw [putl_len]; decide), getn_putl, IntKind.wrap_u64]
  rw [show (256 : Nat) ^ 4 = 4294967296 by decide]
  omega
theorem open_seal (e i : Int) (room : List Int) (h0 : 0 ≤ e) (h1 : e ≤ 18446744073709551615) (e' i' : Int) : openF (sealF e i room) e' i' = (e == e' && i % 4294967296 == i' % 4294967296) := by
  unfold openF
  rw [seal_e e i room h0 h1, seal_i]
/-- a sector is what its epoch, index and room are sealed to -/
theorem seal_of_read {xs : List Int} (hx : xs.length = 64) (bx : Bytes xs) : sealF ((getn xs 8 : Nat) : Int) ((getn (xs.drop 8) 4 : Nat) : Int) (xs.drop 12) = xs := by
  have b4 := getn_lt (l := xs.drop 8) (wf_of_bytes (bytes_drop bx 8)) 4
  rw [show (256 : Nat) ^ 4 = 4294967296 by decide] at b4
  rw [sealF_eq, Int.toNat_natCast, IntKind.wrap_u64, putl_getn bx 8 (by omega)]
  rw [show ((getn (xs.drop 8) 4 : Nat) : Int) % 18446744073709551616 = ((getn (xs.drop 8) 4 : Nat) : Int) by omega, Int.toNat_natCast, putl_getn (bytes_drop bx 8) 4 (by rw [List.length_drop]; omega)]
  rw [List.length_drop, show 52 - (xs.length - 12) = 0 by omega, show zs 0 = [] from rfl, List.append_nil, List.take_of_length_le (l := xs.drop 12) (by rw [List.length_drop]; omega)]
  have e1 : (xs.drop 8).take 4 ++ xs.drop 12 = xs.drop 8 := by
    have := List.take_append_drop 4 (xs.drop 8)
    rw [List.drop_drop] at this
    exact this
  rw [e1, List.take_append_drop]
/-- the reference opens by sealing anew -/
theorem open_ref {xs : List Int} (hx : xs.length = 64) (bx : Bytes xs) (e i : Int) (h0 : 0 ≤ e) (h1 : e ≤ 18446744073709551615) : (sealF e i (xs.drop 12) == xs) = openF xs e i := by
  rw [Bool.eq_iff_iff, beq_iff_eq]
  constructor
  · intro h
    rw [← h, open_seal e i _ h0 h1]
    simp
  · intro h
    unfold openF at h
    simp only [Bool.and_eq_true, beq_iff_eq] at h
    have h2 := seal_of_read hx bx
    rw [h.1] at h2
    rw [← seal_mod e ((getn (xs.drop 8) 4 : Nat) : Int) i _ (by rw [h.2]; omega)]
    exact h2
end Go.Proofs.Ythlpimojojofbaa.O
