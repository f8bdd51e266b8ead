/- A header's sector, and back: plain. -/
import Derived.Test.YthhbilkmdfdfiaaDoorFragM
import Derived.Test.YthhbilkmdfdfiaaDoorBurst
set_option linter.unusedVariables false
set_option linter.unusedSimpArgs false
namespace Go.Proofs.YthhbilkmdfdfiaaDoor.O
open Go.RowKit Go.Proofs.YthhbilkmdfdfiaaDoorW.PrintWords Go.Proofs.YthhbilkmdfdfiaaDoorW.PrintLast Go.Proofs.YthhbilkmdfdfiaaDoorW.PrintMore Go.Proofs.YthhbilkmdfdfiaaDoor.F Go.Proofs.YthhbilkmdfdfiaaDoor.F.Nums Go.Proofs.YthhbilkmdfdfiaaDoor.Plain
def hMagic : List Int := [115, 116, 114, 100, 1]
def rightH (ep seq fi h0 h1 h2 h3 : Int) : Bool := decide (((0 ≤ h0 ∧ h0 < fi) ∧ (0 ≤ h1 ∧ h1 < fi) ∧ (0 ≤ h2 ∧ h2 < fi) ∧ (0 ≤ h3 ∧ h3 < fi)) ∧ ep ≠ 0 ∧ (1 ≤ seq ∧ seq ≤ 2147483647) ∧ (1 ≤ fi ∧ fi ≤ 2147483647))
theorem rightH_iff {ep seq fi h0 h1 h2 h3 : Int} : rightH ep seq fi h0 h1 h2 h3 = true ↔ ((0 ≤ h0 ∧ h0 < fi) ∧ (0 ≤ h1 ∧ h1 < fi) ∧ (0 ≤ h2 ∧ h2 < fi) ∧ (0 ≤ h3 ∧ h3 < fi)) ∧ ep ≠ 0 ∧ (1 ≤ seq ∧ seq ≤ 2147483647) ∧ (1 ≤ fi ∧ fi ≤ 2147483647) := decide_eq_true_iff
def hB (ep seq fi h0 h1 h2 h3 : Int) : List Int := hMagic ++ (putl ep.toNat 8 ++ (putl seq.toNat 4 ++ (putl fi.toNat 4 ++ (putl h0.toNat 4 ++ (putl h1.toNat 4 ++ (putl h2.toNat 4 ++ putl h3.toNat 4))))))
def hS (ep seq fi h0 h1 h2 h3 : Int) : List Int := hB ep seq fi h0 h1 h2 h3 ++ (putl (sumN (hB ep seq fi h0 h1 h2 h3)) 4 ++ zs 23)
theorem hB_len (ep seq fi h0 h1 h2 h3 : Int) : (hB ep seq fi h0 h1 h2 h3).length = 37 := by simp [hB, putl_len, hMagic]
theorem hS_len (ep seq fi h0 h1 h2 h3 : Int) : (hS ep seq fi h0 h1 h2 h3).length = 64 := by simp [hS, putl_len, hB_len, zs]
theorem bytes_magic : Bytes hMagic := by
  have h : hMagic.all (fun c => decide (0 ≤ c ∧ c ≤ 255)) = true := by decide
  exact fun c hc => of_decide_eq_true (List.all_eq_true.1 h c hc)
theorem hB_bytes (ep seq fi h0 h1 h2 h3 : Int) : Bytes (hB ep seq fi h0 h1 h2 h3) := bytes_append bytes_magic (bytes_append (putl_bytes _ _) (bytes_append (putl_bytes _ _) (bytes_append (putl_bytes _ _) (bytes_append (putl_bytes _ _) (bytes_append (putl_bytes _ _) (bytes_append (putl_bytes _ _) (putl_bytes _ _)))))))
theorem hS_bytes (ep seq fi h0 h1 h2 h3 : Int) : Bytes (hS ep seq fi h0 h1 h2 h3) := bytes_append (hB_bytes _ _ _ _ _ _ _) (bytes_append (putl_bytes _ _) (bytes_zs 23))
/-- numbers of four bytes laid from a place on -/
def layN (cur : List Int) (at_ : Nat) (xs : List Int) : Nat → List Int
  | 0 => cur
  | i + 1 => splice (layN cur at_ xs i) (at_ + 4 * i) (putl (xs.getD i 0).toNat 4)
theorem splice_len (cur ys : List Int) (o : Nat) (h : o + ys.length ≤ cur.length) : (splice cur o ys).length = cur.length := by
  unfold splice
  simp
  omega
theorem layN_len (cur : List Int) (at_ : Nat) (xs : List Int) (i : Nat) (h : at_ + 4 * i ≤ cur.length) : (layN cur at_ xs i).length = cur.length := by
  induction i with
  | zero => rfl
  | succ i ih =>
    have := ih (by omega)
    show (splice (layN cur at_ xs i) (at_ + 4 * i) (putl (xs.getD i 0).toNat 4)).length = _
    rw [splice_len _ _ _ (by rw [this, putl_len]; omega), this]
theorem lay_step (P : List Int) (k o n i : Nat) (hP : P.length = o) : splice (P ++ zs (i + k)) o (putl n i) = (P ++ putl n i) ++ zs k := by
  rw [splice_at _ _ _ _ hP, putl_len, List.append_assoc]
  congr 2
  unfold zs
  rw [List.drop_replicate]
  congr 1
  omega
theorem lay_B (ep seq fi h0 h1 h2 h3 : Int) : layN (splice ((splice (zs 64) 0 [115, 116, 114, 100]).set 4 1) 5 (putl ep.toNat 8)) 13 [seq, fi, h0, h1, h2, h3] 6 = hB ep seq fi h0 h1 h2 h3 ++ zs 27 := by
  have e0 : (splice (zs 64) 0 [115, 116, 114, 100]).set 4 1 = hMagic ++ zs (8 + 51) := by decide
  unfold hB
  simp only [layN, List.getD_cons_zero, List.getD_cons_succ]
  rw [e0, lay_step _ 51 5 _ 8 (by rfl)]
  rw [show zs 51 = zs (4 + 47) from rfl, lay_step _ 47 _ _ 4 (by simp [putl_len, hMagic])]
  rw [show zs 47 = zs (4 + 43) from rfl, lay_step _ 43 _ _ 4 (by simp [putl_len, hMagic])]
  rw [show zs 43 = zs (4 + 39) from rfl, lay_step _ 39 _ _ 4 (by simp [putl_len, hMagic])]
  rw [show zs 39 = zs (4 + 35) from rfl, lay_step _ 35 _ _ 4 (by simp [putl_len, hMagic])]
  rw [show zs 35 = zs (4 + 31) from rfl, lay_step _ 31 _ _ 4 (by simp [putl_len, hMagic])]
  rw [show zs 31 = zs (4 + 27) from rfl, lay_step _ 27 _ _ 4 (by simp [putl_len, hMagic])]
  generalize putl ep.toNat 8 = p0
  generalize putl seq.toNat 4 = p1
  generalize putl fi.toNat 4 = p2
  generalize putl h0.toNat 4 = p3
  generalize putl h1.toNat 4 = p4
  generalize putl h2.toNat 4 = p5
  generalize putl h3.toNat 4 = p6
  generalize zs 27 = z
  generalize hMagic = m
  simp only [List.append_assoc]
theorem take_B (ep seq fi h0 h1 h2 h3 : Int) (l : List Int) : (hB ep seq fi h0 h1 h2 h3 ++ l).take 37 = hB ep seq fi h0 h1 h2 h3 := by
  rw [List.take_append_of_le_length (by rw [hB_len]; exact Nat.le_refl 37), List.take_of_length_le (by rw [hB_len]; exact Nat.le_refl 37)]
theorem lay_S (ep seq fi h0 h1 h2 h3 : Int) : layN (hB ep seq fi h0 h1 h2 h3 ++ zs 27) 37 [(sumN (hB ep seq fi h0 h1 h2 h3) : Int)] 1 = hS ep seq fi h0 h1 h2 h3 := by
  unfold hS
  have hl := hB_len ep seq fi h0 h1 h2 h3
  generalize hB ep seq fi h0 h1 h2 h3 = B at *
  generalize sumN B = sm
  show splice (B ++ zs 27) 37 (putl (sm : Int).toNat 4) = _
  rw [Int.toNat_natCast]
  rw [show zs 27 = zs (4 + 23) from rfl, lay_step _ 23 _ _ 4 hl, List.append_assoc]
/-- what is read -/
def nS (s : List Int) (a : Nat) : Int := (getn (s.drop a) 4 : Nat)
def epS (s : List Int) : Int := (getn (s.drop 5) 8 : Nat)
def rightS (s : List Int) : Bool := rightH (epS s) (nS s 13) (nS s 17) (nS s 21) (nS s 25) (nS s 29) (nS s 33)
def formS (s : List Int) : Bool := decide (s.take 5 = hMagic) && decide (s.drop 41 = zs 23)
def decH (s : List Int) : Int := if s = zs 64 then 7 else if formS s = false then 2 else if nS s 37 ≠ (sumN (s.take 37) : Int) then 3 else if rightS s = false then 2 else 0
theorem nS_lt {s : List Int} (hb : Bytes s) (a : Nat) : 0 ≤ nS s a ∧ nS s a < 4294967296 := by
  have := getn_lt (wf_of_bytes (bytes_drop hb a)) 4
  unfold nS
  omega
theorem epS_lt {s : List Int} (hb : Bytes s) : 0 ≤ epS s ∧ epS s < 18446744073709551616 := by
  have := getn_lt (wf_of_bytes (bytes_drop hb 5)) 8
  unfold epS
  omega
theorem decH_ok {s : List Int} (h : decH s = 0) : s.take 5 = hMagic ∧ s.drop 41 = zs 23 ∧ nS s 37 = (sumN (s.take 37) : Int) ∧ rightS s = true := by
  unfold decH at h
  split at h
  · cases h
  · split at h
    · cases h
    · rename_i h2
      split at h
      · cases h
      · rename_i h3
        split at h
        · cases h
        · rename_i h4
          have h2' : formS s = true := by cases hf : formS s with | true => rfl | false => exact absurd hf h2
          unfold formS at h2'
          simp at h2'
          exact ⟨h2'.1, h2'.2, Decidable.not_not.1 h3, by cases hr : rightS s with | true => rfl | false => exact absurd hr h4⟩
theorem drop_put (a : List Int) (n i : Nat) (l : List Int) (k : Nat) (hk : a.length = k) : getn ((a ++ (putl n i ++ l)).drop k) i = n % 256 ^ i := by
  subst hk
  rw [List.drop_left, getn_append _ _ _ (by rw [putl_len]; exact Nat.le_refl i), getn_putl]

theorem fields_S (ep seq fi h0 h1 h2 h3 : Int) (hr : rightH ep seq fi h0 h1 h2 h3 = true) (he : 0 ≤ ep ∧ ep ≤ 18446744073709551615) : epS (hS ep seq fi h0 h1 h2 h3) = ep ∧ nS (hS ep seq fi h0 h1 h2 h3) 13 = seq ∧ nS (hS ep seq fi h0 h1 h2 h3) 17 = fi ∧ nS (hS ep seq fi h0 h1 h2 h3) 21 = h0 ∧ nS (hS ep seq fi h0 h1 h2 h3) 25 = h1 ∧ nS (hS ep seq fi h0 h1 h2 h3) 29 = h2 ∧ nS (hS ep seq fi h0 h1 h2 h3) 33 = h3 ∧ nS (hS ep seq fi h0 h1 h2 h3) 37 = (sumN (hB ep seq fi h0 h1 h2 h3) : Int) := by
  obtain ⟨⟨a0, a1, a2, a3⟩, -, hs, hf⟩ := rightH_iff.1 hr
  have small : ∀ z : Int, 0 ≤ z → z < 4294967296 → ((z.toNat % 256 ^ 4 : Nat) : Int) = z := fun z h1 h2 => by
    rw [Nat.mod_eq_of_lt (by omega)]
    omega
  have hsm := sumN_lt (hB ep seq fi h0 h1 h2 h3)
  unfold epS nS hS
  generalize hsum : sumN (hB ep seq fi h0 h1 h2 h3) = sm at *
  unfold hB
  refine ⟨?_, ?_, ?_, ?_, ?_, ?_, ?_, ?_⟩
  · rw [List.append_assoc, List.append_assoc, drop_put _ _ _ _ _ (by rfl), Nat.mod_eq_of_lt (by omega)]
    omega
  · rw [show ∀ a b c d e f g l : List Int, (hMagic ++ (a ++ (b ++ (c ++ (d ++ (e ++ (f ++ g))))))) ++ l = (hMagic ++ a) ++ (b ++ (c ++ (d ++ (e ++ (f ++ (g ++ l)))))) from fun a b c d e f g l => by simp only [List.append_assoc]]
    rw [drop_put _ _ _ _ _ (by simp [putl_len, hMagic])]
    exact small _ (by omega) (by omega)
  · rw [show ∀ a b c d e f g l : List Int, (hMagic ++ (a ++ (b ++ (c ++ (d ++ (e ++ (f ++ g))))))) ++ l = (hMagic ++ (a ++ b)) ++ (c ++ (d ++ (e ++ (f ++ (g ++ l))))) from fun a b c d e f g l => by simp only [List.append_assoc]]
    rw [drop_put _ _ _ _ _ (by simp [putl_len, hMagic])]
    exact small _ (by omega) (by omega)
  · rw [show ∀ a b c d e f g l : List Int, (hMagic ++ (a ++ (b ++ (c ++ (d ++ (e ++ (f ++ g))))))) ++ l = (hMagic ++ (a ++ (b ++ c))) ++ (d ++ (e ++ (f ++ (g ++ l)))) from fun a b c d e f g l => by simp only [List.append_assoc]]
    rw [drop_put _ _ _ _ _ (by simp [putl_len, hMagic])]
    exact small _ (by omega) (by omega)
  · rw [show ∀ a b c d e f g l : List Int, (hMagic ++ (a ++ (b ++ (c ++ (d ++ (e ++ (f ++ g))))))) ++ l = (hMagic ++ (a ++ (b ++ (c ++ d)))) ++ (e ++ (f ++ (g ++ l))) from fun a b c d e f g l => by simp only [List.append_assoc]]
    rw [drop_put _ _ _ _ _ (by simp [putl_len, hMagic])]
    exact small _ (by omega) (by omega)
  · rw [show ∀ a b c d e f g l : List Int, (hMagic ++ (a ++ (b ++ (c ++ (d ++ (e ++ (f ++ g))))))) ++ l = (hMagic ++ (a ++ (b ++ (c ++ (d ++ e))))) ++ (f ++ (g ++ l)) from fun a b c d e f g l => by simp only [List.append_assoc]]
    rw [drop_put _ _ _ _ _ (by simp [putl_len, hMagic])]
    exact small _ (by omega) (by omega)
  · rw [show ∀ a b c d e f g l : List Int, (hMagic ++ (a ++ (b ++ (c ++ (d ++ (e ++ (f ++ g))))))) ++ l = (hMagic ++ (a ++ (b ++ (c ++ (d ++ (e ++ f)))))) ++ (g ++ l) from fun a b c d e f g l => by simp only [List.append_assoc]]
    rw [drop_put _ _ _ _ _ (by simp [putl_len, hMagic])]
    exact small _ (by omega) (by omega)
  · rw [drop_put _ _ _ _ _ (by simp [putl_len, hMagic])]
    rw [Nat.mod_eq_of_lt (by omega)]
theorem dec_S (ep seq fi h0 h1 h2 h3 : Int) (hr : rightH ep seq fi h0 h1 h2 h3 = true) (he : 0 ≤ ep ∧ ep ≤ 18446744073709551615) : decH (hS ep seq fi h0 h1 h2 h3) = 0 := by
  obtain ⟨f1, f2, f3, f4, f5, f6, f7, f8⟩ := fields_S ep seq fi h0 h1 h2 h3 hr he
  have t5 : (hS ep seq fi h0 h1 h2 h3).take 5 = hMagic := by
    unfold hS hB
    rw [List.append_assoc, List.take_append_of_le_length (by decide)]
    rfl
  have t37 : (hS ep seq fi h0 h1 h2 h3).take 37 = hB ep seq fi h0 h1 h2 h3 := take_B _ _ _ _ _ _ _ _
  have d41 : (hS ep seq fi h0 h1 h2 h3).drop 41 = zs 23 := by
    unfold hS
    rw [show (41 : Nat) = 37 + 4 from rfl, drop_app _ _ 37 4 (hB_len _ _ _ _ _ _ _)]
    have := drop_app (putl (sumN (hB ep seq fi h0 h1 h2 h3)) 4) (zs 23) 4 0 (putl_len _ _)
    simpa using this
  unfold decH
  rw [if_neg, if_neg, if_neg, if_neg]
  · unfold rightS
    rw [f1, f2, f3, f4, f5, f6, f7, hr]
    decide
  · rw [f8, t37]
    simp
  · unfold formS
    rw [t5, d41]
    simp
  · intro h
    rw [h] at t5
    exact absurd t5 (by decide)
theorem take_split {α : Type} (l : List α) (a b : Nat) : (l.drop a).take b ++ l.drop (a + b) = l.drop a := by
  rw [← List.drop_drop, List.take_append_drop]
theorem S_dec {s : List Int} (hb : Bytes s) (hl : s.length = 64) (h : decH s = 0) : hS (epS s) (nS s 13) (nS s 17) (nS s 21) (nS s 25) (nS s 29) (nS s 33) = s := by
  obtain ⟨t5, d41, hsum, -⟩ := decH_ok h
  have p4 : ∀ a, a + 4 ≤ 64 → putl (nS s a).toNat 4 = (s.drop a).take 4 := fun a ha => by
    unfold nS
    rw [Int.toNat_natCast]
    exact putl_getn (bytes_drop hb a) 4 (by rw [List.length_drop]; omega)
  have p8 : putl (epS s).toNat 8 = (s.drop 5).take 8 := by
    unfold epS
    rw [Int.toNat_natCast]
    exact putl_getn (bytes_drop hb 5) 8 (by rw [List.length_drop]; omega)
  have hB' : hB (epS s) (nS s 13) (nS s 17) (nS s 21) (nS s 25) (nS s 29) (nS s 33) = s.take 37 := by
    unfold hB
    rw [p8, p4 13 (by decide), p4 17 (by decide), p4 21 (by decide), p4 25 (by decide), p4 29 (by decide), p4 33 (by decide), ← t5]
    have e : ∀ a b, (s.drop a).take b = ((s.take 37).drop a).take b ∨ 37 < a + b := fun a b => by
      by_cases h : 37 < a + b
      · exact .inr h
      · left
        rw [List.drop_take, List.take_take, Nat.min_eq_left (by omega)]
    have g : ∀ a b, a + b ≤ 37 → (s.drop a).take b = ((s.take 37).drop a).take b := fun a b hab => (e a b).resolve_right (by omega)
    have t : s.take 5 = (s.take 37).take 5 := by rw [List.take_take]; rfl
    rw [g 5 8 (by decide), g 13 4 (by decide), g 17 4 (by decide), g 21 4 (by decide), g 25 4 (by decide), g 29 4 (by decide), g 33 4 (by decide), t]
    have hq : (s.take 37).length = 37 := by rw [List.length_take]; omega
    generalize s.take 37 = q at hq ⊢
    have l33 : (q.drop 33).take 4 = q.drop 33 := List.take_of_length_le (by rw [List.length_drop]; omega)
    rw [l33, take_split q 29 4, take_split q 25 4, take_split q 21 4, take_split q 17 4, take_split q 13 4, take_split q 5 8, List.take_append_drop]
  unfold hS
  rw [hB', ← Int.toNat_natCast (sumN (s.take 37)), ← hsum, p4 37 (by decide), ← d41, take_split s 37 4, List.take_append_drop]
end Go.Proofs.YthhbilkmdfdfiaaDoor.O
