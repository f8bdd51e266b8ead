/- An argument that is a slice (of whatever): its elements as a list, by the print's words (Kd.C); how long slices are. -/
import Derived.Test.YthlpimojojofbaaF0
import Derived.SizedLaws
import Derived.ChangeArms
import Derived.Deep.Slices
import Derived.Lib.SmallJoins
import Derived.Deep.Strs
namespace Go.Proofs.Ythlpimojojofbaa.F
open Go.RowKit Go.Proofs.YthlpimojojofbaaW.PrintWords Go.Proofs.YthlpimojojofbaaW.PrintLast Go.Proofs.YthlpimojojofbaaW.PrintMore Go.ChangeShapes Go.WideShapes Go.Joins Go.Deep
set_option linter.unusedVariables false
section
variable {H : Type} {enc : TypeId × Value → H} {P : Program} {W : World} {held : Bool}
theorem weightsAll_mem {e : TypeId} : ∀ {ds : List (DataW H)} {d : DataW H}, d ∈ ds → ∀ n ∈ d.weights P e, n ∈ DataW.weightsAll P e ds
  | d0 :: ds, d, hd, n, hn => by
    simp only [DataW.weightsAll, List.mem_append]
    rcases List.mem_cons.1 hd with rfl | hd
    · exact Or.inl hn
    · exact Or.inr (weightsAll_mem hd n hn)
abbrev Fit (P : Program) (t : TypeId) (d : DataW H) : Prop := ∀ n ∈ d.weights P t, n ≤ reachBytes
theorem fit_elem {t e : TypeId} {elems spare : List (DataW H)} (hu : P.underlying t = some (.slice e)) (h : Fit P t (.slice elems spare)) {d : DataW H} (hd : d ∈ elems) : Fit P e d := by
  intro n hn
  refine h n ?_
  simp only [DataW.weights, hu, List.mem_cons, List.mem_append]
  exact Or.inr (Or.inl (weightsAll_mem hd n hn))
theorem fit_len {t e : TypeId} {elems spare : List (DataW H)} (hu : P.underlying t = some (.slice e)) (h : Fit P t (.slice elems spare)) : (elems.length + spare.length) * P.bytesOf e ≤ reachBytes :=
  h _ (by simp [DataW.weights, hu])
theorem fit_arg {ts : List TypeId} {ds : List (DataW H)} (h : (DataW.weightsEach P ts ds).all (· ≤ reachBytes) = true) (j : Nat) {t : TypeId} {d : DataW H} (ht : ts[j]? = some t) (hd : ds[j]? = some d) : Fit P t d := by
  intro n hn
  have := List.all_eq_true.1 h _ (DataW.weights_mem_each ht hd n hn)
  simpa using this
theorem pick {β γ : Type} [Inhabited β] {n : Nat} {p : Nat → β → Prop} (h : ∀ i, i < n → ∃ x, p i x) : ∃ f : Nat → β, ∀ i, i < n → p i (f i) := by
  classical
  exact ⟨fun i => if hi : i < n then Classical.choose (h i hi) else default, fun i hi => by simp only [dif_pos hi]; exact Classical.choose_spec (h i hi)⟩
theorem open_C {α : Type} [Inhabited α] (d : Kd α) (B : α → Prop) {t e : TypeId} (ht : P.underlying t = some (.slice e)) (he : P.cellsOf e = d.sz)
    (hel : ∀ n cs y, DataW.trod enc P W 0 (fun _ => true) held n e cs = some y → Fit P e y.1 → ∃ x, d.K W x cs ∧ B x)
    {fuel : Nat} {cs : List Value} {y : DataW H × List MemPlace} (h : DataW.trod enc P W 0 (fun _ => true) held fuel t cs = some y) (hw : Fit P t y.1) :
    ∃ (A : Option Addr) (xs : List α) (c : Nat), cs = [.slice A xs.length c] ∧ xs.length ≤ c ∧ d.C W A xs.length xs ∧ (∀ x ∈ xs, B x) ∧ xs.length * P.bytesOf e ≤ reachBytes := by
  rcases Deep.open_slice ht h with ⟨rfl, rfl⟩ | ⟨a, len, cap, m, n, D, Pl, rfl, hb, hl, hm, hmm, rfl, hx⟩
  · exact ⟨none, [], 0, rfl, Nat.le_refl _, ⟨rfl, by simp, fun h => absurd h (by simp)⟩, by simp, by simp⟩
  · simp only [if_true] at hmm
    subst hmm
    have each : ∀ i, i < len → ∃ x : α, (∃ c, W.cells? 0 (a.add (i * d.sz)) d.sz = some c ∧ d.K W x c) ∧ B x := by
      intro i hi
      obtain ⟨cs', h1, h2⟩ := hx i (by omega)
      obtain ⟨x, hk, hB⟩ := hel n cs' _ h2 (fit_elem ht hw (List.mem_map.2 ⟨i, List.mem_range.2 hi, rfl⟩))
      rw [he] at h1
      exact ⟨x, ⟨cs', h1, hk⟩, hB⟩
    obtain ⟨f, hf⟩ := pick (γ := Unit) each
    have hlen : ((List.range len).map f).length = len := by simp
    refine ⟨some a, (List.range len).map f, m, by rw [hlen], by rw [hlen]; exact hl, ?_, ?_, ?_⟩
    · rw [hlen]
      refine ⟨hlen, by have : maxLen = 9223372036854775807 := by decide
                       omega, fun _ => ⟨a, rfl, fun j p hj => ?_⟩⟩
      have hj' : j < len := by have := (List.getElem?_eq_some_iff.1 hj).1; rw [hlen] at this; exact this
      rw [List.getElem?_map, List.getElem?_range hj'] at hj
      obtain ⟨⟨c, hc, hk⟩, -⟩ := hf j hj'
      have e1 : f j = p := by simpa using hj
      rw [e1] at hk
      obtain ⟨-, l1, h2⟩ := World.cells?_some hc
      refine ⟨c, l1, hk, fun i u hu => ?_⟩
      have hi : i < d.sz := by rw [← l1]; exact (List.getElem?_eq_some_iff.1 hu).1
      rw [← Deep.add_add, h2 i hi, hu]
    · intro x hx'
      obtain ⟨i, hi, rfl⟩ := List.mem_map.1 hx'
      exact (hf i (List.mem_range.1 hi)).2
    · rw [hlen]
      have := fit_len ht hw
      rw [List.length_map, List.length_range] at this
      exact Nat.le_trans (Nat.mul_le_mul_right _ (by omega)) this
theorem open_C_ints {t e : TypeId} {k : IntKind} (ht : P.underlying t = some (.slice e)) (he : P.underlying e = some (.int k)) (hc : P.cellsOf e = 1)
    {fuel : Nat} {cs : List Value} {y : DataW H × List MemPlace} (h : DataW.trod enc P W 0 (fun _ => true) held fuel t cs = some y) (hw : Fit P t y.1) :
    ∃ (A : Option Addr) (xs : List Int) (c : Nat), cs = [.slice A xs.length c] ∧ xs.length ≤ c ∧ (Kd.int k).C W A xs.length xs ∧ (∀ x ∈ xs, (Lit.int k x).wf = true) ∧ xs.length * P.bytesOf e ≤ reachBytes :=
  open_C (Kd.int k) (fun x => (Lit.int k x).wf = true) ht hc (fun n cs y hy _ => by obtain ⟨z, rfl, -, hz⟩ := DataW.trod_int he hy; exact ⟨z, rfl, hz⟩) h hw
theorem open_C_rows {t e q : TypeId} {k : IntKind} (qn : Nat) (ht : P.underlying t = some (.slice e)) (he : P.underlying e = some (.slice q)) (hq : P.underlying q = some (.int k)) (hc : P.cellsOf e = 1) (hcq : P.cellsOf q = 1)
    {fuel : Nat} {cs : List Value} {y : DataW H × List MemPlace} (h : DataW.trod enc P W 0 (fun _ => true) held fuel t cs = some y) (hw : Fit P t y.1) :
    ∃ (A : Option Addr) (xs : List (List Int)) (c : Nat), cs = [.slice A xs.length c] ∧ xs.length ≤ c ∧ (Kd.slice qn (Kd.int k)).C W A xs.length xs ∧ (∀ x ∈ xs, (∀ z ∈ x, (Lit.int k z).wf = true) ∧ x.length * P.bytesOf q ≤ reachBytes) ∧ xs.length * P.bytesOf e ≤ reachBytes :=
  open_C (Kd.slice qn (Kd.int k)) (fun x => (∀ z ∈ x, (Lit.int k z).wf = true) ∧ x.length * P.bytesOf q ≤ reachBytes) ht hc (fun n cs y hy hf => by
    obtain ⟨A, xs, c, rfl, h1, h2, h3, h4⟩ := open_C_ints he hq hcq hy hf
    exact ⟨xs, ⟨A, c, rfl, h1, h2⟩, h3, h4⟩) h hw
end
section
variable {H : Type} {enc : TypeId × Value → H} {W : World} {held : Bool}
instance : Inhabited S66 := ⟨z66⟩
set_option maxRecDepth 100000 in
theorem open_C_frags {fuel : Nat} {cs : List Value} {y : DataW H × List MemPlace} (h : DataW.trod enc Try.prog W 0 (fun _ => true) held fuel 57 cs = some y) (hw : Fit Try.prog 57 y.1) :
    ∃ (A : Option Addr) (xs : List S66) (c : Nat), cs = [.slice A xs.length c] ∧ xs.length ≤ c ∧ k66.C W A xs.length xs ∧ (∀ x ∈ xs, x.f2.length ≤ reachBytes) ∧ xs.length * Try.prog.bytesOf 66 ≤ reachBytes := by
  refine open_C k66 (fun x => x.f2.length ≤ reachBytes) Try.underlying57 (by kernel_rfl) (fun n cs y hy hf => ?_) h hw
  obtain ⟨y0, y1, y2, m, rfl, hl, h0, h1, h2⟩ := trod_struct3 Try.underlying66 hy
  have hl3 : cs.length = 3 := hl.trans (by kernel_rfl)
  obtain ⟨c0, c1, c2, rfl⟩ : ∃ a b c, cs = [a, b, c] := by
    match cs, hl3 with
    | [a, b, c], _ => exact ⟨a, b, c, rfl⟩
  have k1 : ∀ a : Nat, a = 1 → True := fun _ _ => trivial
  rw [show Try.prog.cellsOf 3 = 1 by kernel_rfl] at h0
  rw [show Try.prog.cellsOf 48 = 1 by kernel_rfl] at h1
  rw [show Try.prog.cellsOf 35 = 1 by kernel_rfl] at h2
  obtain ⟨z0, e0, -, -⟩ := DataW.trod_int Try.underlying3 h0
  obtain ⟨z1, e1, -, -⟩ := DataW.trod_int Try.underlying48 h1
  have hf2 : Fit Try.prog 35 y2.1 := by
    intro q hq
    refine hf q ?_
    simp only [DataW.weights, Try.underlying66]
    simp only [DataW.weightsEach, List.map_cons, List.map_nil, List.mem_append]
    exact Or.inr (Or.inr (Or.inl hq))
  obtain ⟨A2, xs2, c2', e2, l2, g2, -, b2⟩ := open_C_ints Try.underlying35 Try.underlying5 (by kernel_rfl) h2 hf2
  simp at e0 e1 e2
  subst e0 e1 e2
  rw [show Try.prog.bytesOf 5 = 1 by kernel_rfl] at b2
  exact ⟨⟨z0, z1, xs2⟩, k66_mk W ⟨z0, z1, xs2⟩ l2 g2, by simpa using b2⟩
end
end Go.Proofs.Ythlpimojojofbaa.F
