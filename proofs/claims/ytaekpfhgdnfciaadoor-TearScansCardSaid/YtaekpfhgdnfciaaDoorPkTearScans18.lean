/- Texts of mine put together: TearM, TearScans, OpenSync, OpenCrash, RowTearScans. -/
import Derived.Test.YtaekpfhgdnfciaaDoorPkTearScans14
import Derived.Test.YtaekpfhgdnfciaaDoorPkTearScans7
import Derived.Test.YtaekpfhgdnfciaaDoorPkTearScans16
import Derived.Test.YtaekpfhgdnfciaaDoorPkTearScans17
import Derived.Test.YtaekpfhgdnfciaaDoorPkTearScans3
import Derived.Test.YtaekpfhgdnfciaaDoorCards
import Derived.Test.YtaekpfhgdnfciaaDoorTie
import Derived.SevenTiedAt
import Derived.WalkKit
import Derived.ProofKit
import Derived.OpenShut
import Derived.ShutString
import Derived.ChangeOld
import Derived.Below
import Derived.SizedLaws
import Derived.Lib.SmallJoins
section
/- What is scanned of sectors each of whose bytes is of what the first s records laid or of what all laid, where each piece's place tells the piece or nothing. Plain. -/
set_option linter.unusedVariables false
set_option linter.unusedSimpArgs false
namespace Go.Proofs.YtaekpfhgdnfciaaDoor.Img
open Go.RowKit Go.Proofs.YtaekpfhgdnfciaaDoor.O Go.Proofs.YtaekpfhgdnfciaaDoorW.PrintWords Go.Proofs.YtaekpfhgdnfciaaDoorW.PrintLast Go.Proofs.YtaekpfhgdnfciaaDoorW.PrintMore Go.Proofs.YtaekpfhgdnfciaaDoor.F Go.Proofs.YtaekpfhgdnfciaaDoor.F.Nums Go.Proofs.YtaekpfhgdnfciaaDoor.Plain
theorem openF_congr {a b : List Int} (e i : Int) (h : a.take 12 = b.take 12) : openF a e i = openF b e i := by
 have h2 : ∀ j,j < 12 → a[j]? = b[j]? := fun j hj => by
  have := congrArg (fun l => l[j]?) h
  simpa only [List.getElem?_take_of_lt hj] using this
 unfold openF
 rw [getn_pre (l := a) (m := b) 8 (fun j hj => h2 j (by omega)),getn_pre (l := a.drop 8) (m := b.drop 8) 4 (fun j hj => by rw [List.getElem?_drop,List.getElem?_drop];exact h2 _ (by omega))]
theorem sealF_take (e i : Int) (r : List Int) : (sealF e i r).take 12 = (splice (splice z64b 0 (putl (e.toNat) 8)) 8 (putl (IntKind.u64.wrap i).toNat 4)).take 12 := by
 unfold sealF
 have h1 : (splice z64b 0 (putl e.toNat 8)).length = 64 := by rw [length_splice _ _ _ (by rw [putl_len];decide)];rfl
 have h2 : (splice (splice z64b 0 (putl e.toNat 8)) 8 (putl (IntKind.u64.wrap i).toNat 4)).length = 64 := by rw [length_splice _ _ _ (by rw [putl_len,h1];decide),h1]
 generalize splice (splice z64b 0 (putl (e.toNat) 8)) 8 (putl (IntKind.u64.wrap i).toNat 4) = C at *
 unfold splice
 rw [List.take_append_of_le_length (by rw [List.length_take];omega),List.take_take,Nat.min_self]
/-- a laid sector's bytes behind its stamp -/
theorem sec_lay (e : Int) (h0 : 0 ≤ e) (h1 : e ≤ 18446744073709551615) (he : e ≠ 0) (body : List Int) (hbl : body.length = 832) (b k j : Nat) (hb : b ≤ 16) (hk : k < 16) (hj : j < 52) : (secAt (flatW e body b 16) k).getD (12 + j) 0 = if k < b then body.getD (52 * k + j) 0 else 0 := by
 by_cases h : k < b
 ·have := room_lay e h0 h1 he body hbl b k j hb hk hj
  unfold roomAt at this
  rw [okAt_W e h0 h1 he body b k hb hk,if_pos (decide_eq_true h),List.getD_eq_getElem?_getD,List.getElem?_drop,← List.getD_eq_getElem?_getD] at this
  exact this
 ·rw [if_neg h,secAt_W e body b k hb hk,if_neg h]
  exact zs_getD 64 _
/-- what the mixture has: below the synced end what was laid, stamped; beyond the end nothing -/
theorem tear_low (e64 : Int) (h0 : 0 ≤ e64) (h1 : e64 ≤ 18446744073709551615) (he : e64 ≠ 0) (l : List (List Int)) (s : Nat) (hs : s ≤ l.length) (hall : layAll e64 l = true) (fl : List Int) (hf : fl.length = 64 * 16)
  (hmix : ∀ k,k < 16 → ∀ j,j < 64 → (secAt fl k).getD j 0 = (secAt (flatW e64 (laySt e64 l s).1 (secsOf (laySt e64 l s).2.toNat) 16) k).getD j 0 ∨ (secAt fl k).getD j 0 = (secAt (flatW e64 (laySt e64 l l.length).1 (secsOf (laySt e64 l l.length).2.toNat) 16) k).getD j 0) :
  (∀ i,i < (laySt e64 l s).2.toNat → (bodyF e64 fl 16 16).getD i 0 = (laySt e64 l l.length).1.getD i 0 ∧ (oksF e64 fl 16 16).getD (i / 52) false = true) ∧
  (∀ i,i < 832 → (laySt e64 l l.length).2.toNat ≤ i → (bodyF e64 fl 16 16).getD i 0 = 0) := by
 have hEs := laySt_end e64 l s
 have hEn := laySt_end e64 l l.length
 have hmono := end_mono e64 l hall s l.length hs (Nat.le_refl _)
 have hzO := fun i hi => lay_getD_zero e64 l hall s hs i hi
 have hzN := fun i hi => lay_getD_zero e64 l hall l.length (Nat.le_refl _) i hi
 have hkp := fun i hi => lay_getD_keep e64 l hall s l.length hs (Nat.le_refl _) i hi
 have hNl := laySt_len e64 l l.length
 have hOl := laySt_len e64 l s
 obtain ⟨eO,heO⟩ : ∃ x,(laySt e64 l s).2.toNat = x := ⟨_,rfl⟩
 obtain ⟨eN,heN⟩ : ∃ x,(laySt e64 l l.length).2.toNat = x := ⟨_,rfl⟩
 have hON : eO ≤ eN := by omega
 have hN8 : eN ≤ 832 := by omega
 rw [heO] at hmix hzO hkp ⊢
 rw [heN] at hmix hzN ⊢
 have hbO : secsOf eO ≤ 16 := by unfold secsOf;omega
 have hbN : secsOf eN ≤ 16 := by unfold secsOf;omega
 have hso := fun k j => sec_lay e64 h0 h1 he _ hOl (secsOf eO) k j hbO
 have hsn := fun k j => sec_lay e64 h0 h1 he _ hNl (secsOf eN) k j hbN
 have hst : ∀ k,k < secsOf eO → okAt e64 fl 16 k = true := by
  intro k hk
  have hk2 : k < secsOf eN := by unfold secsOf at *;omega
  have hk16 : k < 16 := by omega
  have hl64 : (secAt fl k).length = 64 := secAt_len hf hk16
  have ho : okAt e64 (flatW e64 (laySt e64 l s).1 (secsOf eO) 16) 16 k = true := by rw [okAt_W e64 h0 h1 he _ _ k hbO hk16];exact decide_eq_true hk
  have hsl : ∀ (X : List Int),(sealF e64 (k : Int) X).length = 64 := fun X => sealF_len _ _ _
  unfold okAt at ho ⊢
  rw [decide_eq_true hk16,Bool.true_and] at ho ⊢
  rw [← ho]
  refine openF_congr _ _ ?_
  have hm := hmix k hk16
  rw [secAt_W e64 _ _ k hbO hk16,if_pos hk,secAt_W e64 _ _ k hbN hk16,if_pos hk2] at hm
  rw [secAt_W e64 _ _ k hbO hk16,if_pos hk]
  have e12 : (sealF e64 (k : Int) (bodySec (laySt e64 l s).1 k)).take 12 = (sealF e64 (k : Int) (bodySec (laySt e64 l l.length).1 k)).take 12 := by rw [sealF_take,sealF_take]
  refine ext_getD (by rw [List.length_take,List.length_take,hl64,hsl]) (fun i hi => ?_)
  rw [List.length_take] at hi
  have hi12 : i < 12 := by omega
  rcases hm i (by omega) with h|h
  ·rw [getD_take hi12,getD_take hi12,h]
  ·rw [e12,getD_take hi12,getD_take hi12,h]
 have hF := fun i (hi : i < 832) => bodyF_at e64 fl 16 hf 16 i (by omega)
 have hk := fun k (hk : k < 16) => oksF_at e64 fl 16 16 k hk
 have hroom : ∀ k j,j < 52 → okAt e64 fl 16 k = true → (roomAt e64 fl 16 k).getD j 0 = (secAt fl k).getD (12 + j) 0 := by
  intro k j hj h
  unfold roomAt
  rw [if_pos h,List.getD_eq_getElem?_getD,List.getElem?_drop,← List.getD_eq_getElem?_getD]
 refine ⟨fun i hi => ?_,fun i hi hz => ?_⟩
 ·have hb : i / 52 < secsOf eO := by unfold secsOf;omega
  have hb2 : i / 52 < secsOf eN := by unfold secsOf;omega
  have ei : 52 * (i / 52) + i % 52 = i := by omega
  have hm : i % 52 < 52 := by omega
  have h9 := hst _ hb
  refine ⟨?_,by rw [hk _ (by omega),h9]⟩
  rw [hF i (by omega),hroom _ _ hm h9]
  rcases hmix (i / 52) (by omega) (12 + i % 52) (by omega) with h|h
  ·rw [h,hso _ _ (by omega) hm,if_pos hb,ei,hkp i hi]
  ·rw [h,hsn _ _ (by omega) hm,if_pos hb2,ei]
 ·have ei : 52 * (i / 52) + i % 52 = i := by omega
  have hm : i % 52 < 52 := by omega
  rw [hF i hi]
  cases h9 : okAt e64 fl 16 (i / 52) with
  |false => unfold roomAt;rw [h9];exact zs_getD 52 _
  |true =>
   rw [hroom _ _ hm h9]
   rcases hmix (i / 52) (by omega) (12 + i % 52) (by omega) with h|h
   ·rw [h,hso _ _ (by omega) hm,ei]
    split
    ·exact hzO i (by omega)
    ·rfl
   ·rw [h,hsn _ _ (by omega) hm,ei]
    split
    ·exact hzN i hz
    ·rfl
/-- what is told at an intact piece's place -/
theorem told_intact (e64 : Int) (l : List (List Int)) (hall : layAll e64 l = true) (F : List Int) (ok : List Bool) (hFl : F.length = 832) (hkl : ok.length = 16) (k : Nat) (hk : k < l.length) (p : Pc) (hp : p ∈ pcs e64 l k)
  (h : ∀ i,p.f0.toNat ≤ i → i < p.f0.toNat + (11 + (p.f3 - p.f2).toNat) → F.getD i 0 = (laySt e64 l l.length).1.getD i 0 ∧ ok.getD (i / 52) false = true) : told (e64 % 4294967296) F ok p.f0.toNat = some (wantT (l.getD k []) p) := by
 have hep : 0 ≤ e64 % 4294967296 ∧ e64 % 4294967296 ≤ 4294967295 := by omega
 have hNl := laySt_len e64 l l.length
 have hseg := lay_seg e64 l hall k l.length hk (Nat.le_refl _) p hp
 have hpo := cutP_pcs (laySt e64 l k).2 (l.getD k []) p hp
 have ha := (pcs_asc ((layAll_iff e64 l).1 hall k hk)).mem p hp
 generalize (laySt e64 l l.length).1 = N at *
 refine told_piece _ hep F ok hkl _ p hpo ha.2.2.1 ?_ ?_
 ·rw [← hseg]
  obtain ⟨g1,g2,g3,g4,g5,g6,g7,g8⟩ := hpo
  refine ext_getD (by simp [hFl,hNl]) (fun i hi => ?_)
  rw [List.length_take,List.length_drop] at hi
  rw [getD_take (by omega),getD_take (by omega),List.getD_eq_getElem?_getD,List.getD_eq_getElem?_getD,List.getElem?_drop,List.getElem?_drop,← List.getD_eq_getElem?_getD,← List.getD_eq_getElem?_getD]
  exact (h _ (by omega) (by omega)).1
 ·intro i h2 h3
  by_cases e : i = p.f0.toNat / 52
  ·have := (h p.f0.toNat (Nat.le_refl _) (by omega)).2
   rwa [← e] at this
  ·have := (h (52 * i) (by omega) (by omega)).2
   rwa [show 52 * i / 52 = i by omega] at this
theorem scan_tear (e64 : Int) (h0 : 0 ≤ e64) (h1 : e64 ≤ 18446744073709551615) (he : e64 ≠ 0) (l : List (List Int)) (s : Nat) (hs : s ≤ l.length) (hall : layAll e64 l = true) (h512 : ∀ x ∈ l,x.length ≤ 512) (fl : List Int) (hf : fl.length = 64 * 16)
  (hmix : ∀ k,k < 16 → ∀ j,j < 64 → (secAt fl k).getD j 0 = (secAt (flatW e64 (laySt e64 l s).1 (secsOf (laySt e64 l s).2.toNat) 16) k).getD j 0 ∨ (secAt fl k).getD j 0 = (secAt (flatW e64 (laySt e64 l l.length).1 (secsOf (laySt e64 l l.length).2.toNat) 16) k).getD j 0)
  (hT : ∀ k,k < l.length → ∀ p ∈ pcs e64 l k,told (e64 % 4294967296) (bodyF e64 fl 16 16) (oksF e64 fl 16 16) p.f0.toNat = some (wantT (l.getD k []) p) ∨ told (e64 % 4294967296) (bodyF e64 fl 16 16) (oksF e64 fl 16 16) p.f0.toNat = none) :
  ∃ m,s ≤ m ∧ m ≤ l.length ∧ (scanM (e64 % 4294967296) (bodyF e64 fl 16 16) (oksF e64 fl 16 16)).recs = l.take m := by
 obtain ⟨hlo,hhi⟩ := tear_low e64 h0 h1 he l s hs hall fl hf hmix
 have hFl : (bodyF e64 fl 16 16).length = 832 := bodyF_len hf 16
 have hkl : (oksF e64 fl 16 16).length = 16 := oksF_len 16
 have hEs := laySt_end e64 l s
 have hEn := laySt_end e64 l l.length
 have hint := fun k hk p hp => told_intact e64 l hall (bodyF e64 fl 16 16) (oksF e64 fl 16 16) hFl hkl k hk p hp
 generalize bodyF e64 fl 16 16 = F at *
 generalize oksF e64 fl 16 16 = ok at *
 clear hmix hf
 have hsome : ∀ k,k < s → ∀ p ∈ pcs e64 l k,told (e64 % 4294967296) F ok p.f0.toNat = some (wantT (l.getD k []) p) := by
  intro k hk p hp
  have ha := (pcs_asc ((layAll_iff e64 l).1 hall k (by omega))).mem p hp
  have hpo := cutP_pcs (laySt e64 l k).2 (l.getD k []) p hp
  have hm := end_mono e64 l hall (k + 1) s (by omega) hs
  obtain ⟨g1,g2,g3,g4,g5,g6,g7,g8⟩ := hpo
  exact hint k (by omega) p hp (fun i h2 h3 => hlo i (by omega))
 have hE : told (e64 % 4294967296) F ok (bgN (laySt e64 l l.length).2.toNat) = none := by
  generalize (laySt e64 l l.length).1 = N at *
  obtain ⟨eN,heN⟩ : ∃ x,(laySt e64 l l.length).2.toNat = x := ⟨_,rfl⟩
  rw [heN] at hhi ⊢
  have hc := bgN_cast eN
  have hle := bgN_le eN
  have hge := bg_ge (cl (eN : Int))
  have hmod := bg_mod (cl (eN : Int))
  rw [cl_in (a := (eN : Int)) (by omega) (by omega)] at hc hge hmod
  by_cases e : bgN eN = 832
  ·unfold told
   rw [if_pos e]
  ·exact told_zero _ F ok hFl _ (by omega) (by unfold lf;rw [if_neg (by omega)];omega) (fun i h6 h7 => hhi i (by omega) (by omega))
 obtain ⟨m,h2,h3,h4,h5,h6⟩ := scan_pre (told (e64 % 4294967296) F ok) e64 l hall h512 hT hE
 exact ⟨m,h6 s hs (fun k hk p hp => by rw [hsome k hk p hp];simp),h2,h3⟩
end Go.Proofs.YtaekpfhgdnfciaaDoor.Img
end

section
/- strandlinelaw20.TearScans: the statement's function. -/
set_option linter.unusedVariables false
set_option linter.unusedSimpArgs false
namespace Go.Proofs.YtaekpfhgdnfciaaDoor.O
open Go.RowKit Go.Proofs.YtaekpfhgdnfciaaDoorW.PrintWords Go.Proofs.YtaekpfhgdnfciaaDoorW.PrintLast Go.Proofs.YtaekpfhgdnfciaaDoorW.PrintMore Go.Proofs.YtaekpfhgdnfciaaDoor.F Go.Proofs.YtaekpfhgdnfciaaDoor.F.Nums Go.Proofs.YtaekpfhgdnfciaaDoor.Plain
theorem secAt_appF {fo fn keep : List Int} {torn cut : Int} {n : Nat} (ho : fo.length = 64 * n) (hn : fn.length = 64 * n) : ∀ m,m ≤ n → ∀ k,k < m → secAt (appF fo fn keep torn cut m) k = outAt fo fn keep torn cut k := by
 intro m
 induction m with
 |zero => intro _ k hk;omega
 |succ m ih =>
  intro hm k hk
  have hl := appF_len keep torn cut ho hn m (by omega) (by omega)
  by_cases e : k < m
  ·have e1 : secAt (appF fo fn keep torn cut (m + 1)) k = secAt (appF fo fn keep torn cut m) k := by
    show secAt (appF fo fn keep torn cut m ++ outAt fo fn keep torn cut m) k = _
    exact secAt_app _ _ k m hl e
   rw [e1]
   exact ih (by omega) k e
  ·obtain rfl : k = m := by omega
   have hol := outAt_len keep torn cut ho hn (show k < n by omega) (show k < n by omega)
   show secAt (appF fo fn keep torn cut k ++ outAt fo fn keep torn cut k) k = _
   have := secAt_end (appF fo fn keep torn cut k) (outAt fo fn keep torn cut k) k hl hol []
   rwa [List.append_nil] at this
theorem mixL_byte {xs ys : List Int} (hx : xs.length = 64) (hy : ys.length = 64) (c : Int) (j : Nat) (hj : j < 64) : (mixL xs ys c).getD j 0 = xs.getD j 0 ∨ (mixL xs ys c).getD j 0 = ys.getD j 0 := by
 have hc := nearN_le c
 unfold mixL
 generalize nearN c = m at *
 simp only [List.getD_eq_getElem?_getD]
 by_cases h : j < m
 ·right
  rw [List.getElem?_append_left (by rw [List.length_take];omega),List.getElem?_take_of_lt h]
 ·left
  rw [List.getElem?_append_right (by rw [List.length_take];omega),List.length_take,List.getElem?_drop,show m + (j - min m ys.length) = j by omega]
/-- what any crash leaves of a sector: each byte is the old one or the new one -/
theorem byte_crash {fo fn keep : List Int} {torn cut : Int} {n : Nat} (ho : fo.length = 64 * n) (hn : fn.length = 64 * n) (k : Nat) (hk : k < n) (j : Nat) (hj : j < 64) : (secAt (appF fo fn keep torn cut n) k).getD j 0 = (secAt fo k).getD j 0 ∨ (secAt (appF fo fn keep torn cut n) k).getD j 0 = (secAt fn k).getD j 0 := by
 rw [secAt_appF ho hn n (Nat.le_refl _) k hk]
 exact mixL_byte (secAt_len ho hk) (secAt_len hn hk) _ j hj
set_option maxRecDepth 100000 in
set_option maxHeartbeats 8000000 in
theorem tearScans_law (e64 : Int) (N : Nat) (l : List (List Int)) (A Ak : Option Addr) (c ck : Nat) (keep : List Int) (torn cut : Int) (w : World) (he : 0 ≤ e64 ∧ e64 ≤ 18446744073709551615) (hN : N ≤ 18446744073709551615) (hC : (Kd.slice 5 (Kd.int .u8)).C w A l.length l) (hc : l.length ≤ c) (hl : ∀ x ∈ l,Bytes x) (hll : ∀ x ∈ l,x.length ≤ 140737488355328) (hn : l.length ≤ 9000000000000)
  (hk : (Kd.int .u8).C w Ak keep.length keep) (hck : keep.length ≤ ck) (hkw : ∀ x ∈ keep,(Lit.int .u8 x).wf = true) (hH : Half w) :
  Calls Tryd.prog 8 #[.agg #[.int .u64 e64,.slice A l.length c,.int .u64 (N : Int)],.agg #[.slice Ak keep.length ck,.int .i64 torn,.int .i64 cut]] w fun e W => e = .returned (.bool true) ∧ Below w.heap.size w W := by
 have H := Own.start w
 have AW := awake20_calls
 by_cases hno : Img.layAll e64 l = false ∨ (l.all (fun x => decide (x.length ≤ 512)) && decide (l.length ≤ 100)) = false ∨ e64 = 0
 ·have AC := fun W h => after_nope e64 N l A Ak c keep.length ck torn cut W he h hc hl hll hn hno
  clear hno
  generalize l.length = n at *
  generalize keep.length = lk at *
  go_enter Tryd.func8,Tryd.ntmps8
  go_wp2_with (first
  |((with_reducible refine gate_dst (N := 2) rfl ?_);refine l_boxA rfl H 44 _ rfl _ rfl ?_;clear H;intro g2 W H)
  |((with_reducible refine gate_dst (N := 3) rfl ?_);refine l_boxA rfl H 46 _ rfl _ rfl ?_;clear H;intro g3 W H)
  |((with_reducible refine gate_dst (N := 10) rfl ?_);refine l_loadA rfl H 44 _ rfl _ rfl (by (repeat (first|exact In.head|apply In.tail))) _ _ Tryd.underlying44 rfl size44 (by (first|rfl|assumption|omega|(simp only [nums_length];omega)|(simp [nums_length,zs];done)|(simp [nums_length,zs];omega))) ?_)
  |((with_reducible refine gate_dst (N := 11) rfl ?_);refine l_loadA rfl H 46 _ rfl _ rfl (by (repeat (first|exact In.head|apply In.tail))) _ _ Tryd.underlying46 rfl size46 (by (first|rfl|assumption|omega|(simp only [nums_length];omega)|(simp [nums_length,zs];done)|(simp [nums_length,zs];omega))) ?_)
  |((with_reducible refine gate_dst (N := 20) rfl ?_);refine gate_guard (by rfl) ?_;refine l_load1 rfl H 22 _ rfl _ _ rfl (by (repeat (first|exact In.head|apply In.tail))) _ Tryd.underlying22 rfl _ (by first|rfl|assumption|exact nums_at _ (by omega)) ?_)
  |((with_reducible refine gate_dst (N := 22) rfl ?_);refine gate_guard (by rfl) ?_;refine l_load1 rfl H 25 _ rfl _ _ rfl (by (repeat (first|exact In.head|apply In.tail))) _ Tryd.underlying25 rfl _ (by first|rfl|assumption|exact nums_at _ (by omega)) ?_)
  |(go_at_call 18;(with_reducible refine (AC _ (Kd.C_below hC H.below)).mono ?_);rintro e W ⟨rfl,hb'⟩;replace H := H.to hb';clear hb')
  |(go_at_call 19;(with_reducible refine (AW _ (hH.below H.below)).mono ?_);rintro e W ⟨rfl,hb'⟩;replace H := H.to hb';clear hb'))
  go_ret
  exact ⟨rfl,H.below⟩
 ·have hok : Img.layAll e64 l = true := by
   cases h : Img.layAll e64 l with
   |true => rfl
   |false => exact absurd (.inl h) hno
  have hf : (l.all (fun x => decide (x.length ≤ 512)) && decide (l.length ≤ 100)) = true := by
   cases h : (l.all (fun x => decide (x.length ≤ 512)) && decide (l.length ≤ 100)) with
   |true => rfl
   |false => exact absurd (.inr (.inl h)) hno
  have h0 : e64 ≠ 0 := fun h => hno (.inr (.inr h))
  clear hno
  obtain ⟨s,hs⟩ : ∃ s,s = N % (l.length + 1) := ⟨_,rfl⟩
  have hsl : s ≤ l.length := by rw [hs];have := Nat.mod_lt N (show 0 < l.length + 1 by omega);omega
  obtain ⟨bO,htO,hbO⟩ := touch0 (Img.laySt e64 l s).2
  obtain ⟨bN,htN,hbN⟩ := touch0 (Img.laySt e64 l l.length).2
  have AC := fun W h h2 => after_yes e64 N l A Ak c ck keep torn cut W s bO bN he hN h hc hl hll hok hf h0 hs htO hbO htN hbN h2 hck hkw
  clear hs
  simp only [Bool.and_eq_true,List.all_eq_true,decide_eq_true_eq] at hf
  have hEs := Img.laySt_end e64 l s
  have hEn := Img.laySt_end e64 l l.length
  have hbo := Img.tch_secs hEs.1 hEs.2 htO
  have hbn := Img.tch_secs hEn.1 hEn.2 htN
  have hmx := fun k (hk : k < 16) j (hj : j < 64) => byte_crash (keep := keep) (torn := torn) (cut := cut) (flatW_len e64 (Img.laySt e64 l s).1 bO 16) (flatW_len e64 (Img.laySt e64 l l.length).1 bN 16) k hk j hj
  have hfl := appF_len keep torn cut (flatW_len e64 (Img.laySt e64 l s).1 bO 16) (flatW_len e64 (Img.laySt e64 l l.length).1 bN 16) 16 (Nat.le_refl _) (Nat.le_refl _)
  have hfb := appF_bytes (keep := keep) (torn := torn) (cut := cut) (flatW_bytes (Img.laySt_bytes e64 l hl s) e64 bO 16) (flatW_bytes (Img.laySt_bytes e64 l hl l.length) e64 bN 16) 16
  generalize appF (flatW e64 (Img.laySt e64 l s).1 bO 16) (flatW e64 (Img.laySt e64 l l.length).1 bN 16) keep torn cut 16 = fl at *
  rw [hbo,hbn] at hmx
  have hok0 : Img.layAll 0 l = true := by rw [layAll_any 0 e64 l];exact hok
  have FRC := fun A1 c1 W h1 h2 h3 h4 => free_calls e64 l A A1 c 16 c1 fl W he hl (fun x hx => Nat.lt_of_le_of_lt (hf.1 x hx) (by decide)) hf.2 h1 hfl hfb h2 h3 (by decide) h4
  rw [hok0] at FRC
  simp only [Bool.true_and] at FRC
  by_cases hz : badL e64 l (bodyF e64 fl 16 16) (oksF e64 fl 16 16) l.length = []
  ·rw [hz] at FRC
   simp only [List.isEmpty_nil] at FRC
   have hT : ∀ k,k < l.length → ∀ p ∈ Img.pcs e64 l k,told (e64 % 4294967296) (bodyF e64 fl 16 16) (oksF e64 fl 16 16) p.f0.toNat = some (Img.wantT (l.getD k []) p) ∨ told (e64 % 4294967296) (bodyF e64 fl 16 16) (oksF e64 fl 16 16) p.f0.toNat = none := fun k hk p hp =>
    badP_no (Img.cutP_pcs (Img.laySt e64 l k).2 (l.getD k []) p hp) (badL_nil.1 hz k hk p hp)
   obtain ⟨m,hsm,hmn,hr⟩ := Img.scan_tear e64 he.1 he.2 h0 l s hsl hok hf.1 fl hfl hmx hT
   have KC := fun A1 c1 W (hr : Rd W A1 (nums .u8 fl)) h h2 => scan_calls e64 he fl 16 (Nat.le_refl _) hfl hfb A1 c1 W hr h h2
   have hn100 := hf.2
   have hlm : (l.take m).length = m := by rw [List.length_take];omega
   have hCm := C_rows_take hC hmn
   clear hT hz
   generalize scanM (e64 % 4294967296) (bodyF e64 fl 16 16) (oksF e64 fl 16 16) = S at *
   clear hmx hok htO htN hbO hbN hbo hbn hEs hEn hf hfl hfb hok0
   generalize l.take m = lm at *
   have hn9 := hn
   obtain ⟨s1,s2,s3,s4,s5,s6,s7⟩ := S
   try simp only at hr
   subst hr
   have hm100 : m ≤ 100 := by omega
   have SM := fun A1 c1 W (hC1 : (Kd.slice 5 (Kd.int .u8)).C W A1 m s5) (hc1 : m ≤ c1) (h : (Kd.slice 5 (Kd.int .u8)).C W A m s5) => same04_calls s5 A1 A c1 c W (by omega) (hlm.symm ▸ hC1) (hlm.symm ▸ hc1) (hlm.symm ▸ h) (by omega)
   rw [hlm] at SM
   generalize l.length = n at *
   generalize keep.length = lk at *
   have q1 : decide (s ≤ m) = true := decide_eq_true hsm
   have q2 : decide (m ≤ n) = true := decide_eq_true hmn
   have m1 : (if n < m then (n : Int) else (m : Int)) = (m : Int) := if_neg (by omega)
   have hmc : m ≤ c := by omega
   go_enter Tryd.func8,Tryd.ntmps8
   go_wp2_with (first
  |((with_reducible refine gate_dst (N := 2) rfl ?_);refine l_boxA rfl H 44 _ rfl _ rfl ?_;clear H;intro g2 W H)
  |((with_reducible refine gate_dst (N := 3) rfl ?_);refine l_boxA rfl H 46 _ rfl _ rfl ?_;clear H;intro g3 W H)
  |((with_reducible refine gate_dst (N := 10) rfl ?_);refine l_loadA rfl H 44 _ rfl _ rfl (by (repeat (first|exact In.head|apply In.tail))) _ _ Tryd.underlying44 rfl size44 (by (first|rfl|assumption|omega|(simp only [nums_length];omega)|(simp [nums_length,zs];done)|(simp [nums_length,zs];omega))) ?_)
  |((with_reducible refine gate_dst (N := 11) rfl ?_);refine l_loadA rfl H 46 _ rfl _ rfl (by (repeat (first|exact In.head|apply In.tail))) _ _ Tryd.underlying46 rfl size46 (by (first|rfl|assumption|omega|(simp only [nums_length];omega)|(simp [nums_length,zs];done)|(simp [nums_length,zs];omega))) ?_)
  |((with_reducible refine gate_dst (N := 20) rfl ?_);refine gate_guard (by rfl) ?_;refine l_load1 rfl H 22 _ rfl _ _ rfl (by (repeat (first|exact In.head|apply In.tail))) _ Tryd.underlying22 rfl _ (by first|rfl|assumption|exact nums_at _ (by omega)) ?_)
  |((with_reducible refine gate_dst (N := 22) rfl ?_);refine gate_guard (by rfl) ?_;refine l_load1 rfl H 25 _ rfl _ _ rfl (by (repeat (first|exact In.head|apply In.tail))) _ Tryd.underlying25 rfl _ (by first|rfl|assumption|exact nums_at _ (by omega)) ?_)
  |((with_reducible refine gate_dst (N := 29) rfl ?_);refine l_load1 rfl H 22 _ rfl _ _ rfl (by (repeat (first|exact In.head|apply In.tail))) _ Tryd.underlying22 rfl _ (by first|rfl|assumption|exact nums_at _ (by omega)) ?_)
  |((with_reducible refine gate_dst (N := 8) rfl ?_);refine l_allocA rfl H 28 rfl _ zero28 ?_;clear H;intro g8 W H)
  |((with_reducible refine gate_store (t := 28) (p := 8) rfl ?_);refine l_storeW rfl H 28 _ _ rfl _ rfl _ rfl (by (repeat (first|exact In.head|apply In.tail))) _ size28 (by (first|rfl|assumption|omega|(simp only [nums_length];omega)|(simp [nums_length,zs];done)|(simp [nums_length,zs];omega))) (by (first|rfl|assumption|omega|(simp only [nums_length];omega)|(simp [nums_length,zs];done)|(simp [nums_length,zs];omega))) (by (first|exact nums_one|assumption|(intro u hu;simp at hu;subst hu;rfl)|(intro u hu;simp at hu;rcases hu with rfl|rfl|rfl|rfl|rfl|rfl|rfl <;> rfl)|(intro u hu;simp at hu;rcases hu with rfl|rfl|rfl|rfl <;> rfl)|(intro u hu;simp at hu;rcases hu with rfl|rfl|rfl <;> rfl)|(intro u hu;simp at hu;rcases hu with rfl|rfl <;> rfl))) ?_;clear H;intro W H)
   |(go_at_call 18;(with_reducible refine (AC _ (Kd.C_below hC H.below) (Kd.C_below hk H.below)).mono ?_);rintro e W ⟨v5,rfl,ho,hb'⟩;replace H := H.addRow hb' ho;clear ho hb';obtain ⟨A5,c5,rfl⟩ := H.row_slice .head)
   |(go_at_call 21;(with_reducible refine (FRC A5 c5 _ (Kd.C_below hC H.below) (H.rd (A := A5) (by repeat (first|exact In.head|apply In.tail))).1 (H.rd (A := A5) (by repeat (first|exact In.head|apply In.tail))).2.1 (hH.below H.below)).mono ?_);rintro e W ⟨rfl,hb'⟩;replace H := H.to hb';clear hb')
   |(go_at_call 10;(with_reducible refine (KC _ _ _ (H.rd .head).1 (H.rd .head).2.1 (hH.below H.below)).mono ?_);rintro e W ⟨S,Ar,cr,Ap,cp,cells,D,rfl,rfl,hD,hpl2,hr100,HO⟩;replace H := (H.addOwn HO).perm (List.Perm.cons _ (List.Perm.cons _ List.perm_append_comm));clear HO;dsimp only [List.cons_append,List.nil_append] at H;dsimp only at hD;simp only [hlm];simp only [hlm] at H;generalize (if Img.restB fl 16 (cl (s7 : Int)) = true then (1 : Int) else 2) = kd))
   refine start_ (n := 33) (S := Own _ _ _) (ds := []) #[f_,f_,f_,f_,f_,f_,f_,f_,f_,f_,f_,f_,f_,f_,f_,f_,f_,f_,f_,f_,f_,f_,f_,f_,f_,f_,f_,f_,f_,f_,f_,f_,f_] (by kernel_rfl) rfl rfl H.drew (fun hHeld => ?_)
   replace H := H.drew
   generalize World.drew _ = W at H hHeld ⊢
   refine pure_ (i := 0) (N := some 32) (v := ?_) (a' := ?_) #[t_,f_,f_,f_,f_,f_,f_,f_,f_,f_,f_,f_,f_,f_,f_,f_,f_,f_,f_,f_,f_,f_,f_,f_,f_,f_,f_,f_,f_,f_,f_,f_,f_] rfl rfl (by kernel_rfl) (fun _ _ _ h => h) (Or.inl ⟨by rfl,?_⟩) ?_ ?_
   rotate_left
   ·intro w'
    go_simp
    with_reducible rfl
   rotate_left
   ·simp only [ps_]
    rfl
   refine pure_ (i := 3) (N := some 35) (v := ?_) (a' := ?_) #[t_,f_,f_,t_,f_,f_,f_,f_,f_,f_,f_,f_,f_,f_,f_,f_,f_,f_,f_,f_,f_,f_,f_,f_,f_,f_,f_,f_,f_,f_,f_,f_,f_] rfl rfl (by kernel_rfl) (fun _ _ _ h => h) (Or.inl ⟨by rfl,?_⟩) ?_ ?_
   rotate_left
   ·intro w'
    go_simp
    with_reducible rfl
   rotate_left
   ·simp only [ps_]
    rfl
   refine one_ (i := 1) (N := some 33) #[t_,t_,f_,t_,f_,f_,f_,f_,f_,f_,f_,f_,f_,f_,f_,f_,f_,f_,f_,f_,f_,f_,f_,f_,f_,f_,f_,f_,f_,f_,f_,f_,f_] rfl rfl (by kernel_rfl) (by decide) (fun K hK => ?_)
   refine wanted_ rfl ?_
   refine w_load1 H 25 _ rfl _ _ rfl (by (repeat (first|exact In.head|apply In.tail))) _ Tryd.underlying25 rfl _ (by first|rfl|assumption|exact nums_at _ (by omega)) ?_
   refine hK.out _ _ ?_ (fun hHeld => ?_)
   ·first|trivial|exact H|exact H.del .head|exact (H.del .head).del .head|exact H.heap (by (repeat (first|exact In.head|apply In.tail)))
   clear hK K
   refine norm_ (a' := ?_) ?_ ?_
   rotate_left
   ·show Act.put _ (some 33) _ = _
    simp only [ps_]
    rfl
   refine pure_ (i := 2) (N := some 34) (v := ?_) (a' := ?_) #[t_,t_,t_,t_,f_,f_,f_,f_,f_,f_,f_,f_,f_,f_,f_,f_,f_,f_,f_,f_,f_,f_,f_,f_,f_,f_,f_,f_,f_,f_,f_,f_,f_] rfl rfl (by kernel_rfl) (fun _ _ _ h => h) (Or.inl ⟨by rfl,?_⟩) ?_ ?_
   rotate_left
   ·intro w'
    go_simp
    with_reducible rfl
   rotate_left
   ·simp only [ps_]
    rfl
   refine pure_ (i := 4) (N := some 36) (v := ?_) (a' := ?_) #[t_,t_,t_,t_,t_,f_,f_,f_,f_,f_,f_,f_,f_,f_,f_,f_,f_,f_,f_,f_,f_,f_,f_,f_,f_,f_,f_,f_,f_,f_,f_,f_,f_] rfl rfl (by kernel_rfl) (fun _ _ _ h => h) (Or.inl ⟨by rfl,?_⟩) ?_ ?_
   rotate_left
   ·intro w'
    go_simp
    with_reducible rfl
   rotate_left
   ·simp only [ps_]
    rfl
   refine pure_ (i := 5) (N := some 37) (v := ?_) (a' := ?_) #[t_,t_,t_,t_,t_,t_,f_,f_,f_,f_,f_,f_,f_,f_,f_,f_,f_,f_,f_,f_,f_,f_,f_,f_,f_,f_,f_,f_,f_,f_,f_,f_,f_] rfl rfl (by kernel_rfl) (fun _ _ _ h => h) (Or.inl ⟨by rfl,?_⟩) ?_ ?_
   rotate_left
   ·intro w'
    go_simp
    with_reducible rfl
   rotate_left
   ·simp only [ps_]
    rfl
   refine pure_ (i := 6) (N := some 38) (v := ?_) (a' := ?_) #[t_,t_,t_,t_,t_,t_,t_,f_,f_,f_,f_,f_,f_,f_,f_,f_,f_,f_,f_,f_,f_,f_,f_,f_,f_,f_,f_,f_,f_,f_,f_,f_,f_] rfl rfl (by kernel_rfl) (fun _ _ _ h => h) (Or.inl ⟨by rfl,?_⟩) ?_ ?_
   rotate_left
   ·intro w'
    go_simp
    with_reducible rfl
   rotate_left
   ·simp only [ps_]
    rfl
   refine pure_ (i := 9) (N := some 41) (v := ?_) (a' := ?_) #[t_,t_,t_,t_,t_,t_,t_,f_,f_,t_,f_,f_,f_,f_,f_,f_,f_,f_,f_,f_,f_,f_,f_,f_,f_,f_,f_,f_,f_,f_,f_,f_,f_] rfl rfl (by kernel_rfl) (fun _ _ _ h => h) (Or.inl ⟨by rfl,?_⟩) ?_ ?_
   rotate_left
   ·intro w'
    go_simp
    with_reducible rfl
   rotate_left
   ·simp only [ps_]
    rfl
   refine take_load1 (i := 7) (N := some 39) (a' := ?_) #[t_,t_,t_,t_,t_,t_,t_,t_,f_,t_,f_,f_,f_,f_,f_,f_,f_,f_,f_,f_,f_,f_,f_,f_,f_,f_,f_,f_,f_,f_,f_,f_,f_] rfl rfl (by kernel_rfl) (fun _ _ _ _ h => h) (by rfl) hHeld 25 _ rfl _ _ rfl (by (repeat (first|exact In.head|apply In.tail))) _ Tryd.underlying25 rfl _ (by first|rfl|assumption|exact nums_at _ (by omega)) ?_ ?_
   rotate_left
   ·simp only [ps_]
    rfl
   refine pure_ (i := 8) (N := some 40) (v := ?_) (a' := ?_) #[t_,t_,t_,t_,t_,t_,t_,t_,t_,t_,f_,f_,f_,f_,f_,f_,f_,f_,f_,f_,f_,f_,f_,f_,f_,f_,f_,f_,f_,f_,f_,f_,f_] rfl rfl (by kernel_rfl) (fun _ _ _ h => h) (Or.inl ⟨by rfl,?_⟩) ?_ ?_
   rotate_left
   ·intro w'
    go_simp
    with_reducible rfl
   rotate_left
   ·simp only [ps_]
    rfl
   refine one_ (i := 10) (N := some 42) #[t_,t_,t_,t_,t_,t_,t_,t_,t_,t_,t_,f_,f_,f_,f_,f_,f_,f_,f_,f_,f_,f_,f_,f_,f_,f_,f_,f_,f_,f_,f_,f_,f_] rfl rfl (by kernel_rfl) (by decide) (fun K hK => ?_)
   refine wanted_ rfl ?_
   refine w_load1 H 25 _ rfl _ _ rfl (by (repeat (first|exact In.head|apply In.tail))) _ Tryd.underlying25 rfl _ (by first|rfl|assumption|exact nums_at _ (by omega)) ?_
   refine hK.out _ _ ?_ (fun hHeld => ?_)
   ·first|trivial|exact H|exact H.del .head|exact (H.del .head).del .head|exact H.heap (by (repeat (first|exact In.head|apply In.tail)))
   clear hK K
   refine norm_ (a' := ?_) ?_ ?_
   rotate_left
   ·show Act.put _ (some 42) _ = _
    simp only [ps_]
    rfl
   refine pure_ (i := 11) (N := some 43) (v := ?_) (a' := ?_) #[t_,t_,t_,t_,t_,t_,t_,t_,t_,t_,t_,t_,f_,f_,f_,f_,f_,f_,f_,f_,f_,f_,f_,f_,f_,f_,f_,f_,f_,f_,f_,f_,f_] rfl rfl (by kernel_rfl) (fun _ _ _ h => h) (Or.inl ⟨by rfl,?_⟩) ?_ ?_
   rotate_left
   ·intro w'
    go_simp
    with_reducible rfl
   rotate_left
   ·simp only [ps_]
    rfl
   refine pure_ (i := 12) (N := some 44) (v := ?_) (a' := ?_) #[t_,t_,t_,t_,t_,t_,t_,t_,t_,t_,t_,t_,t_,f_,f_,f_,f_,f_,f_,f_,f_,f_,f_,f_,f_,f_,f_,f_,f_,f_,f_,f_,f_] rfl rfl (by kernel_rfl) (fun _ _ _ h => h) (Or.inl ⟨by rfl,?_⟩) ?_ ?_
   rotate_left
   ·intro w'
    go_simp
    with_reducible rfl
   rotate_left
   ·simp only [ps_]
    rfl
   refine pure_ (i := 13) (N := some 45) (v := ?_) (a' := ?_) #[t_,t_,t_,t_,t_,t_,t_,t_,t_,t_,t_,t_,t_,t_,f_,f_,f_,f_,f_,f_,f_,f_,f_,f_,f_,f_,f_,f_,f_,f_,f_,f_,f_] rfl rfl (by kernel_rfl) (fun _ _ _ h => h) (Or.inl ⟨by rfl,?_⟩) ?_ ?_
   rotate_left
   ·intro w'
    go_simp
    with_reducible rfl
   rotate_left
   ·simp only [ps_]
    rfl
   refine pure_ (i := 14) (N := some 46) (v := ?_) (a' := ?_) #[t_,t_,t_,t_,t_,t_,t_,t_,t_,t_,t_,t_,t_,t_,t_,f_,f_,f_,f_,f_,f_,f_,f_,f_,f_,f_,f_,f_,f_,f_,f_,f_,f_] rfl rfl (by kernel_rfl) (fun _ _ _ h => h) (Or.inl ⟨by rfl,?_⟩) ?_ ?_
   rotate_left
   ·intro w'
    go_simp
    with_reducible rfl
   rotate_left
   ·simp only [ps_]
    rfl
   refine pure_ (i := 15) (N := some 47) (v := ?_) (a' := ?_) #[t_,t_,t_,t_,t_,t_,t_,t_,t_,t_,t_,t_,t_,t_,t_,t_,f_,f_,f_,f_,f_,f_,f_,f_,f_,f_,f_,f_,f_,f_,f_,f_,f_] rfl rfl (by kernel_rfl) (fun _ _ _ h => h) (Or.inl ⟨by rfl,?_⟩) ?_ ?_
   rotate_left
   ·intro w'
    go_simp
    with_reducible rfl
   rotate_left
   ·simp only [ps_]
    rfl
   refine pure_ (i := 17) (N := some 49) (v := ?_) (a' := ?_) #[t_,t_,t_,t_,t_,t_,t_,t_,t_,t_,t_,t_,t_,t_,t_,t_,f_,t_,f_,f_,f_,f_,f_,f_,f_,f_,f_,f_,f_,f_,f_,f_,f_] rfl rfl (by kernel_rfl) (fun _ _ _ h => h) (Or.inl ⟨by rfl,?_⟩) ?_ ?_
   rotate_left
   ·intro w'
    go_simp
    with_reducible rfl
   rotate_left
   ·simp only [ps_]
    rfl
   refine pure_ (i := 19) (N := some 51) (v := ?_) (a' := ?_) #[t_,t_,t_,t_,t_,t_,t_,t_,t_,t_,t_,t_,t_,t_,t_,t_,f_,t_,f_,t_,f_,f_,f_,f_,f_,f_,f_,f_,f_,f_,f_,f_,f_] rfl rfl (by kernel_rfl) (fun _ _ _ h => h) (Or.inl ⟨by rfl,?_⟩) ?_ ?_
   rotate_left
   ·intro w'
    go_simp
    with_reducible rfl
   rotate_left
   ·simp only [ps_]
    rfl
   refine pure_ (i := 22) (N := some 54) (v := ?_) (a' := ?_) #[t_,t_,t_,t_,t_,t_,t_,t_,t_,t_,t_,t_,t_,t_,t_,t_,f_,t_,f_,t_,f_,f_,t_,f_,f_,f_,f_,f_,f_,f_,f_,f_,f_] rfl rfl (by kernel_rfl) (fun _ _ _ h => h) (Or.inl ⟨by rfl,?_⟩) ?_ ?_
   rotate_left
   ·intro w'
    go_simp
    with_reducible rfl
   rotate_left
   ·simp only [ps_]
    rfl
   refine take_load1 (i := 16) (N := some 48) (a' := ?_) #[t_,t_,t_,t_,t_,t_,t_,t_,t_,t_,t_,t_,t_,t_,t_,t_,t_,t_,f_,t_,f_,f_,t_,f_,f_,f_,f_,f_,f_,f_,f_,f_,f_] rfl rfl (by kernel_rfl) (fun _ _ _ _ h => h) (by rfl) hHeld 25 _ rfl _ _ rfl (by (repeat (first|exact In.head|apply In.tail))) _ Tryd.underlying25 rfl _ (by first|rfl|assumption|exact nums_at _ (by omega)) ?_ ?_
   rotate_left
   ·simp only [ps_]
    rfl
   refine take_load1 (i := 18) (N := some 50) (a' := ?_) #[t_,t_,t_,t_,t_,t_,t_,t_,t_,t_,t_,t_,t_,t_,t_,t_,t_,t_,t_,t_,f_,f_,t_,f_,f_,f_,f_,f_,f_,f_,f_,f_,f_] rfl rfl (by kernel_rfl) (fun _ _ _ _ h => h) (by rfl) hHeld 25 _ rfl _ _ rfl (by (repeat (first|exact In.head|apply In.tail))) _ Tryd.underlying25 rfl _ (by first|rfl|assumption|exact nums_at _ (by omega)) ?_ ?_
   rotate_left
   ·simp only [ps_]
    rfl
   refine take_load1 (i := 20) (N := some 52) (a' := ?_) #[t_,t_,t_,t_,t_,t_,t_,t_,t_,t_,t_,t_,t_,t_,t_,t_,t_,t_,t_,t_,t_,f_,t_,f_,f_,f_,f_,f_,f_,f_,f_,f_,f_] rfl rfl (by kernel_rfl) (fun _ _ _ _ h => h) (by rfl) hHeld 25 _ rfl _ _ rfl (by (repeat (first|exact In.head|apply In.tail))) _ Tryd.underlying25 rfl _ (by first|rfl|assumption|exact nums_at _ (by omega)) ?_ ?_
   rotate_left
   ·simp only [ps_]
    rfl
   refine pure_ (i := 21) (N := some 53) (v := ?_) (a' := ?_) #[t_,t_,t_,t_,t_,t_,t_,t_,t_,t_,t_,t_,t_,t_,t_,t_,t_,t_,t_,t_,t_,t_,t_,f_,f_,f_,f_,f_,f_,f_,f_,f_,f_] rfl rfl (by kernel_rfl) (fun _ _ _ h => h) (Or.inl ⟨by rfl,?_⟩) ?_ ?_
   rotate_left
   ·intro w'
    go_simp
    with_reducible rfl
   rotate_left
   ·simp only [ps_]
    rfl
   refine one_ (i := 23) (N := some 55) #[t_,t_,t_,t_,t_,t_,t_,t_,t_,t_,t_,t_,t_,t_,t_,t_,t_,t_,t_,t_,t_,t_,t_,t_,f_,f_,f_,f_,f_,f_,f_,f_,f_] rfl rfl (by kernel_rfl) (by decide) (fun K hK => ?_)
   refine wanted_ rfl ?_
   refine w_load1 H 25 _ rfl _ _ rfl (by (repeat (first|exact In.head|apply In.tail))) _ Tryd.underlying25 rfl _ (by first|rfl|assumption|exact nums_at _ (by omega)) ?_
   refine hK.out _ _ ?_ (fun hHeld => ?_)
   ·first|trivial|exact H|exact H.del .head|exact (H.del .head).del .head|exact H.heap (by (repeat (first|exact In.head|apply In.tail)))
   clear hK K
   refine norm_ (a' := ?_) ?_ ?_
   rotate_left
   ·show Act.put _ (some 55) _ = _
    simp only [ps_]
    rfl
   refine pure_ (i := 24) (N := some 56) (v := ?_) (a' := ?_) #[t_,t_,t_,t_,t_,t_,t_,t_,t_,t_,t_,t_,t_,t_,t_,t_,t_,t_,t_,t_,t_,t_,t_,t_,t_,f_,f_,f_,f_,f_,f_,f_,f_] rfl rfl (by kernel_rfl) (fun _ _ _ h => h) (Or.inl ⟨by rfl,?_⟩) ?_ ?_
   rotate_left
   ·intro w'
    go_simp
    with_reducible rfl
   rotate_left
   ·simp only [ps_]
    rfl
   refine pure_ (i := 25) (N := some 57) (v := ?_) (a' := ?_) #[t_,t_,t_,t_,t_,t_,t_,t_,t_,t_,t_,t_,t_,t_,t_,t_,t_,t_,t_,t_,t_,t_,t_,t_,t_,t_,f_,f_,f_,f_,f_,f_,f_] rfl rfl (by kernel_rfl) (fun _ _ _ h => h) (Or.inl ⟨by rfl,?_⟩) ?_ ?_
   rotate_left
   ·intro w'
    go_simp
    with_reducible rfl
   rotate_left
   ·simp only [ps_]
    rfl
   refine take_run (i := 26) (N := some 58) (a' := ?_) #[t_,t_,t_,t_,t_,t_,t_,t_,t_,t_,t_,t_,t_,t_,t_,t_,t_,t_,t_,t_,t_,t_,t_,t_,t_,t_,t_,f_,f_,f_,f_,f_,f_] rfl rfl (by kernel_rfl) (fun _ _ _ _ h => h) (by rfl) hHeld (.slice A m c) (fun X HX => x_slice_to _ _ rfl rfl Tryd.underlying25 size38 m rfl hmc X) ?_ ?_
   rotate_left
   ·simp only [ps_]
    rfl
   refine one_ (i := 27) (N := some 59) #[t_,t_,t_,t_,t_,t_,t_,t_,t_,t_,t_,t_,t_,t_,t_,t_,t_,t_,t_,t_,t_,t_,t_,t_,t_,t_,t_,t_,f_,f_,f_,f_,f_] rfl rfl (by kernel_rfl) (by decide) (fun K hK => ?_)
   refine callK_ (SM Ar cr _ (by subst hlm;exact hD.C H (by repeat (first|exact In.head|apply In.tail)) (fun r hr => by simp [hr]) (by omega)) (H.rd (n := m) (cc := cr) (by repeat (first|exact In.head|apply In.tail))).2.1 (Kd.C_below hCm H.below)) Tryd.func12 (by kernel_rfl) rfl (by rfl) rfl rfl (by (try simp only [List.map_toArray,List.map_cons,List.map_nil]);first|done|rfl) ?_
   rintro e W ⟨rfl,hb'⟩
   refine ⟨_,rfl,?_⟩
   replace H := H.to hb'
   clear hb'
   refine hK.out _ _ ?_ (fun hHeld => ?_)
   ·first|trivial|exact H|exact H.del .head|exact (H.del .head).del .head|exact H.heap (by (repeat (first|exact In.head|apply In.tail)))
   clear hK K
   refine norm_ (a' := ?_) ?_ ?_
   rotate_left
   ·show Act.put _ (some 59) _ = _
    simp only [ps_]
    rfl
   refine pure_ (i := 28) (N := some 60) (v := ?_) (a' := ?_) #[t_,t_,t_,t_,t_,t_,t_,t_,t_,t_,t_,t_,t_,t_,t_,t_,t_,t_,t_,t_,t_,t_,t_,t_,t_,t_,t_,t_,t_,f_,f_,f_,f_] rfl rfl (by kernel_rfl) (fun _ _ _ h => h) (Or.inl ⟨by rfl,?_⟩) ?_ ?_
   rotate_left
   ·intro w'
    go_simp
    with_reducible rfl
   rotate_left
   ·simp only [ps_]
    rfl
   refine pure_ (i := 29) (N := some 61) (v := ?_) (a' := ?_) #[t_,t_,t_,t_,t_,t_,t_,t_,t_,t_,t_,t_,t_,t_,t_,t_,t_,t_,t_,t_,t_,t_,t_,t_,t_,t_,t_,t_,t_,t_,f_,f_,f_] rfl rfl (by kernel_rfl) (fun _ _ _ h => h) (Or.inl ⟨by rfl,?_⟩) ?_ ?_
   rotate_left
   ·intro w'
    go_simp
    with_reducible rfl
   rotate_left
   ·simp only [ps_]
    rfl
   refine one_ (i := 30) (N := some 62) #[t_,t_,t_,t_,t_,t_,t_,t_,t_,t_,t_,t_,t_,t_,t_,t_,t_,t_,t_,t_,t_,t_,t_,t_,t_,t_,t_,t_,t_,t_,t_,f_,f_] rfl rfl (by kernel_rfl) (by decide) (fun K hK => ?_)
   refine callK_ (AW _ (hH.below H.below)) Tryd.func19 (by kernel_rfl) rfl (by rfl) rfl rfl (by (try simp only [List.map_toArray,List.map_cons,List.map_nil]);first|done|rfl) ?_
   rintro e W ⟨rfl,hb'⟩
   refine ⟨_,rfl,?_⟩
   replace H := H.to hb'
   clear hb'
   refine hK.out _ _ ?_ (fun hHeld => ?_)
   ·first|trivial|exact H|exact H.del .head|exact (H.del .head).del .head|exact H.heap (by (repeat (first|exact In.head|apply In.tail)))
   clear hK K
   refine norm_ (a' := ?_) ?_ ?_
   rotate_left
   ·show Act.put _ (some 62) _ = _
    simp only [ps_]
    rfl
   refine pure_ (i := 31) (N := some 63) (v := ?_) (a' := ?_) #[t_,t_,t_,t_,t_,t_,t_,t_,t_,t_,t_,t_,t_,t_,t_,t_,t_,t_,t_,t_,t_,t_,t_,t_,t_,t_,t_,t_,t_,t_,t_,t_,f_] rfl rfl (by kernel_rfl) (fun _ _ _ h => h) (Or.inl ⟨by rfl,?_⟩) ?_ ?_
   rotate_left
   ·intro w'
    go_simp
    with_reducible rfl
   rotate_left
   ·simp only [ps_]
    rfl
   refine pure_ (i := 32) (N := some 4) (v := ?_) (a' := ?_) #[t_,t_,t_,t_,t_,t_,t_,t_,t_,t_,t_,t_,t_,t_,t_,t_,t_,t_,t_,t_,t_,t_,t_,t_,t_,t_,t_,t_,t_,t_,t_,t_,t_] rfl rfl (by kernel_rfl) (fun _ _ _ h => h) (Or.inl ⟨by rfl,?_⟩) ?_ ?_
   rotate_left
   ·intro w'
    go_simp
    with_reducible rfl
   rotate_left
   ·simp only [ps_]
    rfl
   refine done_ (by kernel_rfl) ?_
   clear hHeld
   go_wp2_with fail
   go_ret
   exact ⟨rfl,H.below⟩
  ·have hie : (badL e64 l (bodyF e64 fl 16 16) (oksF e64 fl 16 16) l.length).isEmpty = false := by
    cases h : badL e64 l (bodyF e64 fl 16 16) (oksF e64 fl 16 16) l.length with
    |nil => exact absurd h hz
    |cons a b => rfl
   rw [hie] at FRC
   clear hz hie hok hok0 hf htO htN hn hll hl hmx hfl hfb hbo hbn hEs hEn
   generalize l.length = n at *
   generalize keep.length = lk at *
   go_enter Tryd.func8,Tryd.ntmps8
   go_wp2_with (first
  |((with_reducible refine gate_dst (N := 2) rfl ?_);refine l_boxA rfl H 44 _ rfl _ rfl ?_;clear H;intro g2 W H)
  |((with_reducible refine gate_dst (N := 3) rfl ?_);refine l_boxA rfl H 46 _ rfl _ rfl ?_;clear H;intro g3 W H)
  |((with_reducible refine gate_dst (N := 10) rfl ?_);refine l_loadA rfl H 44 _ rfl _ rfl (by (repeat (first|exact In.head|apply In.tail))) _ _ Tryd.underlying44 rfl size44 (by (first|rfl|assumption|omega|(simp only [nums_length];omega)|(simp [nums_length,zs];done)|(simp [nums_length,zs];omega))) ?_)
  |((with_reducible refine gate_dst (N := 11) rfl ?_);refine l_loadA rfl H 46 _ rfl _ rfl (by (repeat (first|exact In.head|apply In.tail))) _ _ Tryd.underlying46 rfl size46 (by (first|rfl|assumption|omega|(simp only [nums_length];omega)|(simp [nums_length,zs];done)|(simp [nums_length,zs];omega))) ?_)
  |((with_reducible refine gate_dst (N := 20) rfl ?_);refine gate_guard (by rfl) ?_;refine l_load1 rfl H 22 _ rfl _ _ rfl (by (repeat (first|exact In.head|apply In.tail))) _ Tryd.underlying22 rfl _ (by first|rfl|assumption|exact nums_at _ (by omega)) ?_)
  |((with_reducible refine gate_dst (N := 22) rfl ?_);refine gate_guard (by rfl) ?_;refine l_load1 rfl H 25 _ rfl _ _ rfl (by (repeat (first|exact In.head|apply In.tail))) _ Tryd.underlying25 rfl _ (by first|rfl|assumption|exact nums_at _ (by omega)) ?_)
   |(go_at_call 18;(with_reducible refine (AC _ (Kd.C_below hC H.below) (Kd.C_below hk H.below)).mono ?_);rintro e W ⟨v5,rfl,ho,hb'⟩;replace H := H.addRow hb' ho;clear ho hb';obtain ⟨A5,c5,rfl⟩ := H.row_slice .head)
   |(go_at_call 21;(with_reducible refine (FRC A5 c5 _ (Kd.C_below hC H.below) (H.rd (A := A5) (by repeat (first|exact In.head|apply In.tail))).1 (H.rd (A := A5) (by repeat (first|exact In.head|apply In.tail))).2.1 (hH.below H.below)).mono ?_);rintro e W ⟨rfl,hb'⟩;replace H := H.to hb';clear hb')
   |(go_at_call 19;(with_reducible refine (AW _ (hH.below H.below)).mono ?_);rintro e W ⟨rfl,hb'⟩;replace H := H.to hb';clear hb'))
   go_ret
   exact ⟨rfl,H.below⟩
end Go.Proofs.YtaekpfhgdnfciaaDoor.O
end

section
/- An argument strandlinelaw19.Synced by value. -/
namespace Go.Proofs.YtaekpfhgdnfciaaDoor.F
open Go.ChangeShapes Go.WideShapes Go.ChangeAt Go.RowKit Go.Joins Go.Deep Go.Proofs.YtaekpfhgdnfciaaDoorW.PrintWords
set_option linter.unusedVariables false
section
variable {H : Type} {enc : TypeId × Value → H} {W : World} {held : Bool}
set_option maxRecDepth 100000 in
theorem open_synced {r : Reach} {b0 : Nat} {v : Value} {d : DataW H} {p : List MemPlace} (hv : Value.okWide Tryd.prog W r b0 44 v) (h : DataW.Trod enc Tryd.prog W 0 (fun _ => true) held 44 v d p) (hw : Fit Tryd.prog 44 d) :
  ∃ (t u : Int) (A : Option Addr) (xs : List (List Int)) (c : Nat),v = .agg #[.int .u64 t,.slice A xs.length c,.int .u64 u] ∧ xs.length ≤ c ∧ (Kd.slice 5 (Kd.int .u8)).C W A xs.length xs ∧ (∀ x ∈ xs,(∀ z ∈ x,(Lit.int .u8 z).wf = true) ∧ x.length * Tryd.prog.bytesOf 5 ≤ reachBytes) ∧ xs.length * Tryd.prog.bytesOf 38 ≤ reachBytes ∧ (Lit.int .u64 t).wf = true ∧ (Lit.int .u64 u).wf = true := by
 simp only [Value.okWide,Tryd.underlying44] at hv
 obtain ⟨cs,rfl,-,-⟩ := hv
 obtain ⟨fuel,hf⟩ := h
 obtain ⟨y0,y1,y2,m,hx,hl,h0,h1,h2⟩ := trod_struct3 Tryd.underlying44 hf
 have hl3 : (Value.agg cs).cells.toList.length = 3 := hl.trans (by kernel_rfl)
 obtain ⟨c0,c1,c2,hcs⟩ : ∃ a b c,(Value.agg cs).cells.toList = [a,b,c] := by
  match h9 : (Value.agg cs).cells.toList,hl3 with
  |[a,b,c],_ => exact ⟨a,b,c,rfl⟩
 rw [hcs] at h0 h1 h2
 rw [show Tryd.prog.cellsOf 22 = 1 by kernel_rfl] at h0
 rw [show Tryd.prog.cellsOf 25 = 1 by kernel_rfl] at h1
 rw [show Tryd.prog.cellsOf 42 = 1 by kernel_rfl] at h2
 obtain ⟨z0,e0,-,u0⟩ := DataW.trod_int Tryd.underlying22 h0
 obtain ⟨z2,e2,-,u2⟩ := DataW.trod_int Tryd.underlying42 h2
 injection hx with hx1 hx2
 subst hx1
 have hf1 : Fit Tryd.prog 25 y1.1 := by
  intro q hq
  refine hw q ?_
  simp only [DataW.weights,Tryd.underlying44]
  simp only [DataW.weightsEach,List.map_cons,List.map_nil,List.mem_append]
  exact Or.inr (Or.inl hq)
 obtain ⟨A,xs,c,e1,l1,g1,b1,n1⟩ := open_C_rows 5 Tryd.underlying25 Tryd.underlying38 Tryd.underlying5 (by kernel_rfl) (by kernel_rfl) h1 hf1
 simp at e0 e1 e2
 subst e0 e1 e2
 refine ⟨z0,z2,A,xs,c,?_,l1,g1,b1,n1,u0,u2⟩
 have : cs.toList = [.int .u64 z0,.slice A xs.length c,.int .u64 z2] := hcs
 have e9 : cs = [Value.int .u64 z0,.slice A xs.length c,.int .u64 z2].toArray := by rw [← this]
 rw [e9]
end
end Go.Proofs.YtaekpfhgdnfciaaDoor.F
end

section
/- An argument api.Crash by value. -/
namespace Go.Proofs.YtaekpfhgdnfciaaDoor.F
open Go.ChangeShapes Go.WideShapes Go.ChangeAt Go.RowKit Go.Joins Go.Deep Go.Proofs.YtaekpfhgdnfciaaDoorW.PrintWords
set_option linter.unusedVariables false
section
variable {H : Type} {enc : TypeId × Value → H} {W : World} {held : Bool}
set_option maxRecDepth 100000 in
theorem open_crash {r : Reach} {b0 : Nat} {v : Value} {d : DataW H} {p : List MemPlace} (hv : Value.okWide Tryd.prog W r b0 46 v) (h : DataW.Trod enc Tryd.prog W 0 (fun _ => true) held 46 v d p) (hw : Fit Tryd.prog 46 d) :
  ∃ (A : Option Addr) (xs : List Int) (c : Nat) (t u : Int),v = .agg #[.slice A xs.length c,.int .i64 t,.int .i64 u] ∧ xs.length ≤ c ∧ (Kd.int .u8).C W A xs.length xs ∧ (∀ x ∈ xs,(Lit.int .u8 x).wf = true) := by
 simp only [Value.okWide,Tryd.underlying46] at hv
 obtain ⟨cs,rfl,-,-⟩ := hv
 obtain ⟨fuel,hf⟩ := h
 obtain ⟨y0,y1,y2,m,hx,hl,h0,h1,h2⟩ := trod_struct3 Tryd.underlying46 hf
 have hl3 : (Value.agg cs).cells.toList.length = 3 := hl.trans (by kernel_rfl)
 obtain ⟨c0,c1,c2,hcs⟩ : ∃ a b c,(Value.agg cs).cells.toList = [a,b,c] := by
  match h9 : (Value.agg cs).cells.toList,hl3 with
  |[a,b,c],_ => exact ⟨a,b,c,rfl⟩
 rw [hcs] at h0 h1 h2
 rw [show Tryd.prog.cellsOf 3 = 1 by kernel_rfl] at h1 h2
 rw [show Tryd.prog.cellsOf 38 = 1 by kernel_rfl] at h0
 obtain ⟨z1,e1,-,-⟩ := DataW.trod_int Tryd.underlying3 h1
 obtain ⟨z2,e2,-,-⟩ := DataW.trod_int Tryd.underlying3 h2
 injection hx with hx1 hx2
 subst hx1
 have hf0 : Fit Tryd.prog 38 y0.1 := by
  intro q hq
  refine hw q ?_
  simp only [DataW.weights,Tryd.underlying46]
  simp only [DataW.weightsEach,List.map_cons,List.map_nil,List.mem_append]
  exact Or.inl hq
 obtain ⟨A,xs,c,e0,l0,g0,b0,-⟩ := open_C_ints Tryd.underlying38 Tryd.underlying5 (by kernel_rfl) h0 hf0
 simp at e0 e1 e2
 subst e0 e1 e2
 refine ⟨A,xs,c,z1,z2,?_,l0,g0,b0⟩
 have : cs.toList = [.slice A xs.length c,.int .i64 z1,.int .i64 z2] := hcs
 have e9 : cs = [.slice A xs.length c,.int .i64 z1,.int .i64 z2].toArray := by rw [← this]
 rw [e9]
end
end Go.Proofs.YtaekpfhgdnfciaaDoor.F
end

section
/- 'strandlinelaw20.TearScans': whatever the input: true; the input reads as it did; the listed table tied to the program's text. -/
namespace Go.Proofs.YtaekpfhgdnfciaaDoor.tearScans
open Go.ChangeShapes Go.WideShapes Go.ChangeAt Go.RowKit Go.Joins Go.Proofs.YtaekpfhgdnfciaaDoor.Door Go.Proofs.YtaekpfhgdnfciaaDoorW.PrintWords
open Go.ChangeMaps (open_string shut_string)
set_option linter.unusedVariables false
set_option maxRecDepth 100000 in
set_option maxHeartbeats 4000000 in
theorem lifted (os : Os) (started : os.Started) (H : Type) (enc : TypeId × Value → H) :
  ReturnsInHanded {} Tryd.checked os 8 .any (fun w args => (Rows.tearScansSpec.pre enc Tryd.prog Tryd.f8 [] false w args ∧ laidMetH Tryd.prog laid1 w) ∧ sizedMet enc Tryd.prog Tryd.f8 (OpenSpec.ofChange Rows.tearScansSpec) false w args)
   (Rows.tearScansSpec.post enc Tryd.prog Tryd.f8 false true false false) := by
 refine returnsInHanded_of_change_and (C := Tryd.checked) (X := fun w _ => laidMetH Tryd.prog laid1 w) (fun _ _ _ hh h => h.of_heap hh) own started (by kernel_rfl) Tryd.func8
  (ChangeSpec.witness_shaped (enc := enc) (C := Tryd.checked) (os := os) (X := fun w _ => laidMetH Tryd.prog laid1 w) false (World.doorLaid Tryd.prog 400 os) #[(.agg #[.int .u64 0,.slice none 0 0,.int .u64 0]),(.agg #[.slice none 0 0,.int .i64 0,.int .i64 0])] 8 rfl (World.shaped_of_RefB (by kernel_rfl) (by kernel_rfl)) (by kernel_rfl) (by kernel_rfl) (by kernel_rfl) (door_met os _)) ?_
 intro W base args ds gs before hval0 hW _ hsz0 hL _
 have hsz : (DataW.weightsEach Tryd.prog (Tryd.f8.params.toList ++ Rows.tearScansSpec.plain.varTypes Tryd.prog) (ds ++ gs)).all (· ≤ reachBytes) = true := hsz0
 have hval : ∀ (j : Nat) t v,Tryd.f8.params[j]? = some t → args[j]? = some v → Value.okWide Tryd.prog W .any base t v := hval0
 have hW' := hW
 obtain ⟨p,q,hA0,hV,rfl,hfz,hnd⟩ := hW
 have hA : DataW.TrodAll enc Tryd.prog W 0 (fun _ => true) true Tryd.f8.params.toList args.toList ds p := hA0
 rw [Tryd.params8] at hA hval hsz
 obtain ⟨v0,vs0,d0,ds0,p0,q0,hargs,rfl,rfl,h0,r0⟩ := trodAll_cons hA
 obtain ⟨v1,vs1,d1,ds1,p1,q1,rfl,rfl,rfl,h1,r1⟩ := trodAll_cons r0
 obtain ⟨rfl,rfl,rfl⟩ := trodAll_nil r1
 obtain rfl : args = #[v0,v1] := by cases args;simp_all
 obtain ⟨rfl,rfl⟩ := trodVars_none hV
 have k0 := h0
 have lt0 : ∀ x ∈ p0,x.block < W.heap.size := by obtain ⟨m,hm⟩ := k0;exact DataW.trod_lt m _ _ _ hm
 obtain ⟨t0,u0,A0,l0,c0,rfl,hc0,hC0,hB0,hr0,y0,z0⟩ := F.open_synced (hval 0 44 v0 rfl rfl) h0 (F.fit_arg hsz 0 (t := 44) (d := d0) rfl rfl)
 have k1 := h1
 have lt1 : ∀ x ∈ p1,x.block < W.heap.size := by obtain ⟨m,hm⟩ := k1;exact DataW.trod_lt m _ _ _ hm
 obtain ⟨A1,l1,c1,t1,u1,rfl,hc1,hC1,hB1⟩ := F.open_crash (hval 1 46 v1 rfl rfl) h1 (F.fit_arg hsz 1 (t := 46) (d := d1) rfl rfl)
 clear hA0 hval0 hsz0
 have x0 := F.wf_u64 y0
 have x1 := F.wf_u64 z0
 obtain ⟨N0,rfl⟩ : ∃ N : Nat,u0 = (N : Int) := ⟨u0.toNat,by omega⟩
 have z2 : Tryd.prog.bytesOf 5 = 1 := by kernel_rfl
 have z3 : reachBytes = 140737488351232 := by decide
 have z4 : Tryd.prog.bytesOf 38 = 24 := by kernel_rfl
 rw [z4,z3] at hr0
 refine (O.tearScans_law t0 N0 l0 _ _ _ _ l1 t1 u1 W x0 (by omega) hC0 hc0 (fun x hx => O.bytes_of_wf (hB0 x hx).1) (fun x hx => by have := (hB0 x hx).2;rw [z2,z3] at this;omega) (by omega) hC1 hc1 hB1 (half_of hL)).mono fun e W' ⟨he,bel⟩ => ?_
 subst he
 exact ⟨_,rfl,_,_,_,[],_,[],hW',trodAll_mk1 (shut_bool Tryd.underlying4 _),(trodAll_cons_mk (Below.trod laidOut (by kernel_rfl) (of_decide_eq_true (by kernel_rfl)) k0 bel lt0) (trodAll_cons_mk (Below.trod laidOut (by kernel_rfl) (of_decide_eq_true (by kernel_rfl)) k1 bel lt1) trodAll_mk0)),rfl,bel.frame _,fun h => by cases h⟩
theorem over : Rows.TearScansSaid :=
 OpenClaim.holds_of_wide 8 Tryd.f8 rfl rfl rfl rfl rfl rfl rfl ⟨rfl,rfl,rfl,rfl,rfl⟩ rfl rfl rfl rfl rfl (by kernel_rfl) Tryd.func8 (by kernel_rfl)
  (of_decide_eq_true (by kernel_rfl)) (by unfold Func.isWrapper;first|(rw [if_pos (by decide +kernel)];kernel_rfl)|(rw [if_neg (by decide +kernel)];exact ⟨rfl,rfl⟩))
  (fun os started H enc _ => lifted os started H enc)
theorem card : Rows.TearScansCardSaid :=
 Claim7.holds_tied_plain_at .later [] [.data] true Rows.tearScansCard.stood.harness false
  over (fun _ h => by cases h) (by kernel_rfl) (fun _ h => by cases h) tearScans_row_tie rfl ⟨rfl,rfl⟩ (by kernel_rfl) rfl
  (fun f fn hf hfn => by
   obtain rfl : f = 8 := Option.some.inj ((show Tryd.prog.funcNamed "strandline/strandlinelaw20.TearScans" = some 8 by kernel_rfl).symm.trans hf) |>.symm
   obtain rfl : fn = Tryd.f8 := (Option.some.inj (Tryd.func8.symm.trans hfn)).symm
   exact ⟨by kernel_rfl,fun j t ht => by
    rw [Tryd.params8] at ht
    have hm : t ∈ [44,46] := by simpa using Array.mem_of_getElem? ht
    have hall : ([44,46].all fun u => !Tryd.prog.wantsStandIn u) = true := by kernel_rfl
    exact (show Tryd.prog.wantsStandIn t = false by simpa using List.all_eq_true.1 hall t hm)⟩)
  (by kernel_rfl)
end Go.Proofs.YtaekpfhgdnfciaaDoor.tearScans
namespace Go.Proofs.YtaekpfhgdnfciaaDoor
/-- The row, under a short name, for the claim. -/
theorem tearScansCard_holds : Rows.TearScansCardSaid := tearScans.card
#print axioms tearScansCard_holds
end Go.Proofs.YtaekpfhgdnfciaaDoor
end
