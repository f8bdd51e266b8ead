/- For every list of fragments: join.Join gives the reference's records, or why there are none. No condition beyond the statement's own (and that a slice is no longer than memory). -/
import Derived.Test.YthlpimojojofbaaFlJoinAll
import Derived.Test.YthlpimojojofbaaPlain
set_option linter.unusedVariables false
set_option linter.unusedSimpArgs false
namespace Go.Proofs.Ythlpimojojofbaa.Pure
open Go.RowKit Go.Proofs.Ythlpimojojofbaa.F Go.Proofs.YthlpimojojofbaaW.PrintWords Go.Proofs.YthlpimojojofbaaW.PrintLast Go.Proofs.YthlpimojojofbaaW.PrintMore Go.Proofs.Ythlpimojojofbaa.Plain
namespace PureJA
theorem feedF_len {op : Bool} {b : List Int} {kind : Int} {data : List Int} : (feedF op b kind data).2.2.length ≤ 512 := by
  unfold feedF
  split
  · simp
  · split
    · simp
    · split
      · simp
      · simp; omega
theorem rfeed (op : Bool) (b : List Int) (kind ep : Int) (data : List Int) (hb : b.length ≤ 512) (hd : data.length ≤ 140737488351232) (k : Nat) :
    strandlineref15_Joiner_Feed.f (k + 1) op b kind ep data = some ((feedF op b kind data).2.1, (feedF op b kind data).2.2, (feedF op b kind data).1.1, (feedF op b kind data).1.2.1, (feedF op b kind data).1.2.2) := by
  have J : ∀ o2, (o2 = ((op != (kind == 3 || kind == 4)) || (op == (kind == 1 || kind == 2)))) → strandlineref15_Joiner_Feed.j0 (k + 1) o2 op b kind ep data = some ((feedF op b kind data).2.1, (feedF op b kind data).2.2, (feedF op b kind data).1.1, (feedF op b kind data).1.2.1, (feedF op b kind data).1.2.2) := by
    intro o2 ho
    unfold feedF
    rw [← ho]
    simp only [strandlineref15_Joiner_Feed.j0, Option.bind_some, List.nil_append, List.length_nil, List.length_append, Nat.zero_add]
    cases o2 with
    | true => rfl
    | false =>
      simp only [Bool.false_eq_true, if_false]
      rw [if_pos (show b.length < 140737488355328 by omega), if_pos (show b.length + data.length < 140737488355328 by omega)]
      by_cases c : (b.length : Int) + data.length > 512
      · rw [if_pos (show ((b.length + data.length : Nat) : Int) > 512 by omega), if_pos c]
      · rw [if_neg (show ¬ ((b.length + data.length : Nat) : Int) > 512 by omega), if_neg c]
        by_cases k1 : kind = 1
        · rw [if_pos k1, if_pos (by simp [k1])]
        · rw [if_neg k1]
          by_cases k4 : kind = 4
          · rw [if_pos k4, if_pos (by simp [k4])]
          · rw [if_neg k4, if_neg (by simp [k1, k4])]
  unfold strandlineref15_Joiner_Feed.f
  cases op with
  | true =>
    rw [if_pos rfl]
    by_cases k3 : kind = 3
    · rw [if_pos k3]; exact J _ (by subst k3; rfl)
    · rw [if_neg k3]
      by_cases k4 : kind = 4
      · rw [if_pos k4]; exact J _ (by subst k4; rfl)
      · rw [if_neg k4]; exact J _ (by simp [k3, k4])
  | false =>
    rw [if_neg (by decide)]
    by_cases k1 : kind = 1
    · rw [if_pos k1]; exact J _ (by subst k1; rfl)
    · rw [if_neg k1]
      refine J _ ?_
      by_cases k2 : kind = 2
      · subst k2; rfl
      · rw [beq_eq_false_iff_ne.2 k1, beq_eq_false_iff_ne.2 k2, bne_iff_ne.2 k2]
        cases (kind == 3) <;> cases (kind == 4) <;> rfl
theorem rjoin_l (l : List S66) (hl : l.length ≤ 5000000) (hd : ∀ x ∈ l, x.f2.length ≤ 140737488351232) (d : Nat) : ∀ (k i : Nat) (out : List (List Int)) (op : Bool) (b : List Int), i ≤ l.length → l.length - i = d → d < k → b.length ≤ 512 → out.length ≤ i → strandlineref15_Join.l0 (k + 1) l out i op b = some (joinG (l.drop i) op b out) := by
  induction d with
  | zero =>
    intro k i out op b h1 h2 hk hb ho
    have e : i = l.length := by omega
    subst e
    rw [List.drop_length]
    simp only [strandlineref15_Join.l0, joinG]
    rw [if_neg (by omega)]
    cases op <;> rfl
  | succ d ih =>
    intro k i out op b h1 h2 hk hb ho
    obtain ⟨k, rfl⟩ : ∃ j, k = j + 1 := ⟨k - 1, by omega⟩
    have hi : i < l.length := by omega
    have e2 : rd_T66 l i = l[i] := by unfold rd_T66; rw [List.getD_eq_getElem?_getD, Int.toNat_natCast, List.getElem?_eq_getElem hi]; rfl
    rw [List.drop_eq_getElem_cons hi]
    simp only [strandlineref15_Join.l0, joinG]
    rw [if_pos (by omega), if_pos (by omega), e2, rfeed _ _ _ _ _ hb (hd _ (List.getElem_mem hi)) k, Option.bind_some, w64 (n := (i : Int) + 1) (by omega) (by omega)]
    by_cases c : (feedF op b l[i].f0 l[i].f2).1.2.2 = 0
    · rw [if_pos c, if_pos c]
      by_cases c2 : (feedF op b l[i].f0 l[i].f2).1.2.1 = true
      · rw [if_pos c2, if_pos c2, if_pos (by omega)]
        exact ih (k) (i + 1) _ _ _ (by omega) (by omega) (by omega) feedF_len (by rw [List.length_append]; simp; omega)
      · rw [if_neg c2, if_neg c2]
        exact ih (k) (i + 1) _ _ _ (by omega) (by omega) (by omega) feedF_len (by omega)
    · rw [if_neg c, if_neg c]
theorem rjoin_eq (l : List S66) (hl : l.length ≤ 5000000) (hd : ∀ x ∈ l, x.f2.length ≤ 140737488351232) (k : Nat) (hk : l.length < k) : strandlineref15_Join.f (k + 1) l = some (joinG l false [] []) := by
  unfold strandlineref15_Join.f
  exact rjoin_l l hl hd l.length k 0 [] false [] (by omega) (by omega) hk (by simp) (by simp)
theorem pjoin_eq (l : List S66) (hl : l.length ≤ 5000000) (hd : ∀ x ∈ l, x.f2.length ≤ 140737488351232) : join_Join.f l = some (joinG l false [] []) := by
  unfold join_Join.f
  rw [if_pos (by omega), if_pos (List.all_eq_true.2 fun x hx => decide_eq_true (hd x hx))]
theorem joinG_len (l : List S66) : ∀ (op : Bool) (b : List Int) (out : List (List Int)), (joinG l op b out).1.length ≤ out.length + l.length := by
  induction l with
  | nil => intro op b out; unfold joinG; cases op <;> simp
  | cons f rest ih =>
    intro op b out
    unfold joinG
    split
    · split
      · have := ih (feedF op b f.f0 f.f2).2.1 (feedF op b f.f0 f.f2).2.2 (out ++ [(feedF op b f.f0 f.f2).1.1])
        simp only [List.length_append, List.length_cons, List.length_nil] at this ⊢
        omega
      · have := ih (feedF op b f.f0 f.f2).2.1 (feedF op b f.f0 f.f2).2.2 out
        simp only [List.length_cons] at this ⊢
        omega
    · simp
theorem same04_l (l : List (List Int)) (hl : l.length < 5000000) (d : Nat) : ∀ (k i : Nat), i ≤ l.length → l.length - i = d → d < k → strandlineref04_Same.l0 k l l i = some true := by
  induction d with
  | zero =>
    intro k i h1 hd hk
    obtain ⟨k, rfl⟩ : ∃ j, k = j + 1 := ⟨k - 1, by omega⟩
    simp only [strandlineref04_Same.l0]
    rw [if_neg (by omega)]
  | succ d ih =>
    intro k i h1 hd hk
    obtain ⟨k, rfl⟩ : ∃ j, k = j + 1 := ⟨k - 1, by omega⟩
    simp only [strandlineref04_Same.l0]
    rw [if_pos (by omega), if_pos (by omega), if_pos (by omega), if_pos trivial, w64 (n := (i : Int) + 1) (by omega) (by omega)]
    exact ih k (i + 1) (by omega) (by omega) (by omega)
theorem same04_eq (l : List (List Int)) (hl : l.length < 5000000) (k : Nat) (hk : l.length < k) : strandlineref04_Same.f k l l = some true := by
  unfold strandlineref04_Same.f
  rw [if_pos rfl]
  exact same04_l l hl l.length k 0 (by omega) (by omega) (by omega)
end PureJA
theorem JoinAll (l : List S66) (hd : ∀ x ∈ l, x.f2.length ≤ 140737488351232) : ∃ k, strandlinelaw15_JoinAll.f k l = some true := by
  obtain ⟨k, hk⟩ : ∃ k : Nat, k = 3000 := ⟨_, rfl⟩
  refine ⟨k + 1, ?_⟩
  unfold strandlinelaw15_JoinAll.f
  have ha : strandlinelaw15_awake.f = some true := rfl
  by_cases c : (l.length : Int) > 200
  · rw [if_pos c, ha]; rfl
  · rw [if_neg c, PureJA.pjoin_eq l (by omega) hd, Option.bind_some, PureJA.rjoin_eq l (by omega) hd k (by omega), Option.bind_some,
      PureJA.same04_eq _ (by have := PureJA.joinG_len l false [] []; simp at this; omega) (k + 1) (by have := PureJA.joinG_len l false [] []; simp at this; omega), Option.bind_some, if_pos rfl, if_pos rfl, ha]
    rfl
end Go.Proofs.Ythlpimojojofbaa.Pure
