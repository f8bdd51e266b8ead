/- Texts of mine put together: ImgM, FkStrandlineref13. -/
import Derived.Test.YtaekpfhgdnfciaaDoorPkTearNear7
import Derived.Test.YtaekpfhgdnfciaaDoorPkTearNear3
import Derived.Test.YtaekpfhgdnfciaaDoorPkTearNear4
import Derived.Test.YtaekpfhgdnfciaaDoorPkTearNear6
set_option linter.unusedVariables false
set_option linter.unusedSimpArgs false

section
namespace Go.Proofs.YtaekpfhgdnfciaaDoor.Img
open Go.RowKit Go.Proofs.YtaekpfhgdnfciaaDoor.F Go.Proofs.YtaekpfhgdnfciaaDoor.F.Nums Go.Proofs.YtaekpfhgdnfciaaDoor.O Go.Proofs.YtaekpfhgdnfciaaDoorW.PrintWords Go.Proofs.YtaekpfhgdnfciaaDoorW.PrintLast Go.Proofs.YtaekpfhgdnfciaaDoorW.PrintMore Go.Proofs.YtaekpfhgdnfciaaDoor.Plain
theorem near_eq (a : Int) : span_near.f a 832 = some (cl a) := by unfold span_near.f;rw [near_cl]
theorem where_eq (a : Int) : span_Where.f a = some (cl a / 52,cl a % 52) := by
 have h0 := cl_lo a
 have h1 := cl_hi a
 unfold span_Where.f
 rw [near_eq]
 simp only [Option.bind_some]
 rw [td h0,tm h0,w64 (by omega) (by omega)]
theorem begin_eq (a : Int) : span_Begin.f a = some (bg (cl a)) := by
 have h0 := cl_lo a
 have h1 := cl_hi a
 unfold span_Begin.f
 rw [near_eq]
 simp only [Option.bind_some]
 rw [where_eq,cl_cl]
 simp only [Option.bind_some]
 rw [w64 (n := 52 - cl a % 52) (by omega) (by omega)]
 unfold bg
 by_cases h : 41 < cl a % 52
 ·rw [if_pos (by omega),if_pos h,w64 (by omega) (by omega)]
 ·rw [if_neg (by omega),if_neg h]
theorem left_eq (a : Int) : span_Left.f a = some (lf (cl a)) := by
 have h0 := cl_lo a
 have h1 := cl_hi a
 unfold span_Left.f
 rw [near_eq]
 simp only [Option.bind_some]
 rw [where_eq,cl_cl]
 simp only [Option.bind_some]
 unfold lf
 by_cases h : cl a = 832
 ·rw [if_pos h,h,if_pos (by decide)]
 ·rw [if_neg (by simp only [Bool.and_eq_true,beq_iff_eq];omega),if_neg h,tm h0,w64 (by omega) (by omega)]
/-! ### the pieces, in plain words -/
def cutS : Nat → Int → Int → Int → Option (List (Int × Int × Int) × Int)
 |0,_,_,_ => none
 |m + 1,at_,n,from_ => if bg (cl at_) = 832 then none else
   if n ≤ from_ + (lf (bg (cl at_)) - 11) then some ([(bg (cl at_),from_,n)],bg (cl at_) + 11 + (n - from_)) else
    (cutS m (bg (cl at_) + lf (bg (cl at_))) n (from_ + (lf (bg (cl at_)) - 11))).map fun p => ((bg (cl at_),from_,from_ + (lf (bg (cl at_)) - 11)) :: p.1,p.2)
theorem lf_ge {b : Int} (h0 : 0 ≤ b) (h1 : b ≤ 832) (hm : b % 52 ≤ 41) (h : b ≠ 832) : 11 ≤ lf b ∧ lf b ≤ 208 ∧ b + lf b ≤ 832 ∧ (b + lf b) % 208 = 0 := by
 unfold lf
 rw [if_neg h]
 omega
theorem bg_block {b : Int} (h : b % 208 = 0) : bg b = b := by
 unfold bg
 rw [if_neg (by omega)]
def pc (f l : Bool) : Int := if f then (if l then 1 else 2) else (if l then 4 else 3)
def mkP : Bool → List (Int × Int × Int) → List S94
 |_,[] => []
 |f,[t] => [⟨t.1,pc f true,t.2.1,t.2.2⟩]
 |f,t :: u :: rest => ⟨t.1,pc f false,t.2.1,t.2.2⟩ :: mkP false (u :: rest)
def Chain : List (Int × Int × Int) → Int → Int → Prop
 |[],from_,n => from_ = n
 |t :: rest,from_,n => t.2.1 = from_ ∧ from_ ≤ t.2.2 ∧ t.2.2 ≤ n ∧ 0 ≤ t.1 ∧ t.1 < 832 ∧ 11 + (t.2.2 - from_) ≤ lf t.1 ∧ Chain rest t.2.2 n
theorem cutS_ne {m : Nat} {at_ n from_ : Int} {p : List (Int × Int × Int) × Int} (h : cutS m at_ n from_ = some p) : p.1 ≠ [] := by
 cases m with
 |zero => cases h
 |succ m =>
  unfold cutS at h
  split at h
  ·cases h
  ·split at h
   ·obtain rfl := Option.some.inj h
    simp
   ·obtain ⟨q,_,rfl⟩ := Option.map_eq_some_iff.mp h
    simp
theorem cutS_len {m : Nat} : ∀ {at_ n from_ : Int} {p : List (Int × Int × Int) × Int},cutS m at_ n from_ = some p → p.1.length ≤ m := by
 induction m with
 |zero => intro _ _ _ _ h;cases h
 |succ m ih =>
  intro at_ n from_ p h
  unfold cutS at h
  split at h
  ·cases h
  ·split at h
   ·obtain rfl := Option.some.inj h
    simp
   ·obtain ⟨q,hq,rfl⟩ := Option.map_eq_some_iff.mp h
    have := ih hq
    simp
    omega
theorem cutS_chain {m : Nat} : ∀ {at_ n from_ : Int} {p : List (Int × Int × Int) × Int},from_ ≤ n → cutS m at_ n from_ = some p → Chain p.1 from_ n := by
 induction m with
 |zero => intro _ _ _ _ _ h;cases h
 |succ m ih =>
  intro at_ n from_ p hn h
  have h0 := cl_lo at_
  have h1 := cl_hi at_
  have hb0 := bg_lo h0
  have hb1 := bg_hi h1
  have hbm := bg_mod (cl at_)
  unfold cutS at h
  split at h
  ·cases h
  ·rename_i h8
   obtain ⟨l1,l2,l3,l4⟩ := lf_ge hb0 hb1 hbm h8
   split at h
   ·obtain rfl := Option.some.inj h
    simp only [Chain]
    refine ⟨trivial,hn,Int.le_refl _,hb0,by omega,by omega,trivial⟩
   ·obtain ⟨q,hq,rfl⟩ := Option.map_eq_some_iff.mp h
    simp only [Chain]
    exact ⟨trivial,by omega,by omega,hb0,by omega,by omega,ih (by omega) hq⟩
theorem cutS_bound {m : Nat} : ∀ {at_ n from_ : Int} {p : List (Int × Int × Int) × Int},from_ ≤ cl at_ → from_ ≤ n → cutS m at_ n from_ = some p → n ≤ 821 ∧ 0 ≤ p.2 ∧ p.2 ≤ 832 := by
 induction m with
 |zero => intro _ _ _ _ _ _ h;cases h
 |succ m ih =>
  intro at_ n from_ p hf hn h
  have h0 := cl_lo at_
  have h1 := cl_hi at_
  have hb0 := bg_lo h0
  have hb1 := bg_hi h1
  have hbm := bg_mod (cl at_)
  have hbg := bg_ge (cl at_)
  unfold cutS at h
  split at h
  ·cases h
  ·rename_i h8
   obtain ⟨l1,l2,l3,l4⟩ := lf_ge hb0 hb1 hbm h8
   split at h
   ·obtain rfl := Option.some.inj h
    simp only
    omega
   ·obtain ⟨q,hq,rfl⟩ := Option.map_eq_some_iff.mp h
    exact ih (at_ := bg (cl at_) + lf (bg (cl at_))) (from_ := from_ + (lf (bg (cl at_)) - 11)) (p := q) (by rw [cl_in (by omega) l3];omega) (by omega) hq
def rm : Nat → Int → Int
 |0,_ => 0
 |m + 1,b => if b = 832 then 0 else lf b - 11 + rm m (b + lf b)
theorem kind_eq (k : Nat) (hk : 1 < k) (f l : Bool) : cut_kind.f k f l = some (pc f l) := by
 obtain ⟨k,rfl⟩ : ∃ m,k = m + 2 := ⟨k - 2,by omega⟩
 unfold cut_kind.f pc
 cases f <;> cases l <;> simp [cut_kind.j0]
theorem next_eq (k : Nat) (hk : 1 < k) (at_ n from_ : Int) (out : List S94) (hn0 : 0 ≤ from_) (hn : from_ ≤ n) (hn2 : n ≤ 832) (ho : out.length < 1000) :
  cut_next.f k at_ n from_ out = some (if bg (cl at_) = 832 then none else
   if n ≤ from_ + (lf (bg (cl at_)) - 11) then some (bg (cl at_) + 11 + (n - from_),n,out ++ [⟨bg (cl at_),pc ((out.length : Int) == 0) true,from_,n⟩])
   else some (bg (cl at_) + lf (bg (cl at_)),from_ + (lf (bg (cl at_)) - 11),out ++ [⟨bg (cl at_),pc ((out.length : Int) == 0) false,from_,from_ + (lf (bg (cl at_)) - 11)⟩])) := by
 have h0 := cl_lo at_
 have h1 := cl_hi at_
 have hb0 := bg_lo h0
 have hb1 := bg_hi h1
 have hbm := bg_mod (cl at_)
 unfold cut_next.f
 rw [begin_eq]
 simp only [Option.bind_some]
 rw [left_eq,cl_in hb0 hb1]
 simp only [Option.bind_some]
 by_cases h8 : bg (cl at_) = 832
 ·rw [if_pos h8,h8,show lf 832 = 0 from rfl,if_pos (by rw [w64 (by decide) (by decide)];decide)]
 ·obtain ⟨l1,l2,l3,l4⟩ := lf_ge hb0 hb1 hbm h8
  rw [if_neg h8,w64 (n := lf (bg (cl at_)) - 11) (by omega) (by omega),if_neg (by omega),w64 (n := from_ + (lf (bg (cl at_)) - 11)) (by omega) (by omega),kind_eq k hk]
  simp only [Option.bind_some]
  rw [if_pos (by omega)]
  by_cases hc : n ≤ from_ + (lf (bg (cl at_)) - 11)
  ·have e : mn n (from_ + (lf (bg (cl at_)) - 11)) = n := by unfold mn;rw [if_neg (by omega)]
   rw [if_pos hc,e,show (n == n) = true by simp,w64 (n := bg (cl at_) + 11) (by omega) (by omega),w64 (n := bg (cl at_) + 11 + n) (by omega) (by omega),w64 (by omega) (by omega),show bg (cl at_) + 11 + n - from_ = bg (cl at_) + 11 + (n - from_) by omega]
  ·have e : mn n (from_ + (lf (bg (cl at_)) - 11)) = from_ + (lf (bg (cl at_)) - 11) := by unfold mn;rw [if_pos (by omega)]
   rw [if_neg hc,e,show (from_ + (lf (bg (cl at_)) - 11) == n) = false by rw [beq_eq_false_iff_ne];omega,w64 (n := bg (cl at_) + 11) (by omega) (by omega),w64 (n := bg (cl at_) + 11 + (from_ + (lf (bg (cl at_)) - 11))) (by omega) (by omega),w64 (by omega) (by omega),show bg (cl at_) + 11 + (from_ + (lf (bg (cl at_)) - 11)) - from_ = bg (cl at_) + lf (bg (cl at_)) by omega]
def cutR (out : List S94) : Option (List (Int × Int × Int) × Int) → List S94 × Int × Bool
 |none => ([],0,false)
 |some p => (out ++ mkP ((out.length : Int) == 0) p.1,p.2,true)
theorem cut_l (m : Nat) : ∀ (k : Nat) (at_ n from_ : Int) (out : List S94),m + 2 < k → 0 ≤ from_ → from_ ≤ n → n ≤ 832 → out.length + m < 1000 → 832 - bg (cl at_) ≤ 208 * m → (out = [] ∨ from_ < n) →
  cut_Cut.l0 k at_ n from_ out = some (cutR out (cutS m at_ n from_)) := by
 induction m with
 |zero =>
  intro k at_ n from_ out hk h0 hn hn2 ho hm hor
  have h1 := cl_hi at_
  have hb1 := bg_hi h1
  obtain ⟨k,rfl⟩ : ∃ j,k = j + 1 := ⟨k - 1,by omega⟩
  simp only [cut_Cut.l0]
  rw [if_pos (by rcases hor with rfl|h <;> simp [*]),next_eq k (by omega) at_ n from_ out h0 hn hn2 (by omega),if_pos (by omega)]
  simp only [Option.bind_some,Option.elim_none]
  rfl
 |succ m ih =>
  intro k at_ n from_ out hk h0 hn hn2 ho hm hor
  have c0 := cl_lo at_
  have c1 := cl_hi at_
  have hb0 := bg_lo c0
  have hb1 := bg_hi c1
  have hbm := bg_mod (cl at_)
  obtain ⟨k,rfl⟩ : ∃ j,k = j + 1 := ⟨k - 1,by omega⟩
  simp only [cut_Cut.l0]
  rw [if_pos (by rcases hor with rfl|h <;> simp [*]),next_eq k (by omega) at_ n from_ out h0 hn hn2 (by omega)]
  unfold cutS
  by_cases h8 : bg (cl at_) = 832
  ·rw [if_pos h8,if_pos h8]
   rfl
  ·obtain ⟨l1,l2,l3,l4⟩ := lf_ge hb0 hb1 hbm h8
   rw [if_neg h8,if_neg h8]
   by_cases hc : n ≤ from_ + (lf (bg (cl at_)) - 11)
   ·rw [if_pos hc,if_pos hc]
    simp only [Option.bind_some,Option.elim_some]
    obtain ⟨k,rfl⟩ : ∃ j,k = j + 1 := ⟨k - 1,by omega⟩
    simp only [cut_Cut.l0]
    rw [if_neg (by simp;omega)]
    rfl
   ·rw [if_neg hc,if_neg hc]
    simp only [Option.bind_some,Option.elim_some]
    rw [ih k _ n _ _ (by omega) (by omega) (by omega) hn2 (by simp;omega) (by rw [cl_in (by omega) l3,bg_block l4];omega) (.inr (by omega))]
    cases hs : cutS m (bg (cl at_) + lf (bg (cl at_))) n (from_ + (lf (bg (cl at_)) - 11)) with
    |none => rfl
    |some p =>
     simp only [Option.map_some,cutR]
     obtain ⟨t,rest,ht⟩ : ∃ t rest,p.1 = t :: rest := by
      cases hp : p.1 with
      |nil => exact absurd hp (cutS_ne hs)
      |cons t rest => exact ⟨t,rest,rfl⟩
     rw [ht,show (((out ++ [(⟨bg (cl at_),pc ((out.length : Int) == 0) false,from_,from_ + (lf (bg (cl at_)) - 11)⟩ : S94)]).length : Int) == 0) = false by rw [beq_eq_false_iff_ne];simp;omega]
     simp [mkP]
def cutP (at_ n : Int) : List S94 × Int × Bool := if n < 0 ∨ 832 < n then ([],0,false) else cutR [] (cutS 4 at_ n 0)
theorem cut_eq (k : Nat) (hk : 6 < k) (at_ n : Int) : cut_Cut.f k at_ n = some (cutP at_ n) := by
 have c0 := cl_lo at_
 have hb0 := bg_lo c0
 unfold cut_Cut.f cutP
 by_cases h1 : n < 0
 ·rw [if_pos h1,if_pos (.inl h1)]
 ·by_cases h2 : 832 < n
  ·rw [if_neg h1,if_pos h2,if_pos (.inr h2)]
  ·rw [if_neg h1,if_neg (by omega),if_neg (by omega)]
   exact cut_l 4 k at_ n 0 [] (by omega) (by omega) (by omega) (by omega) (by simp) (by omega) (.inl rfl)
theorem mkP_len (f : Bool) (ps : List (Int × Int × Int)) : (mkP f ps).length = ps.length := by
 induction ps generalizing f with
 |nil => cases f <;> rfl
 |cons t rest ih =>
  cases rest with
  |nil => rfl
  |cons u rest => simp only [mkP,List.length_cons];rw [ih];rfl
theorem mkP_drop (ps : List (Int × Int × Int)) : ∀ (f : Bool) (i : Nat) (h : i < ps.length),∃ kd : Int,(mkP f ps)[i]? = some ⟨(ps[i]).1,kd,(ps[i]).2.1,(ps[i]).2.2⟩ := by
 induction ps with
 |nil => intro f i h;simp at h
 |cons t rest ih =>
  intro f i h
  cases rest with
  |nil =>
   have : i = 0 := by simp at h;omega
   subst this
   exact ⟨_,rfl⟩
  |cons u rest =>
   cases i with
   |zero => exact ⟨_,rfl⟩
   |succ i =>
    obtain ⟨kd,hk⟩ := ih false i (by simpa using h)
    exact ⟨kd,by simpa [mkP] using hk⟩
def fragP (e : Int) (data : List Int) (p : S94) : S76 := ⟨p.f1,e,(data.take p.f3.toNat).drop p.f2.toNat⟩
def Fit (data : List Int) (l : List S94) : Prop := ∀ i : Nat,i < l.length → 0 ≤ (rd_T94 l i).f2 ∧ (rd_T94 l i).f2 ≤ (rd_T94 l i).f3 ∧ (rd_T94 l i).f3 ≤ (data.length : Int)
theorem rd_at (l : List S94) (i : Nat) (h : i < l.length) : l[i] = rd_T94 l i := by
 unfold rd_T94
 rw [List.getD_eq_getElem?_getD,Int.toNat_natCast,List.getElem?_eq_getElem h]
 rfl
theorem frags_l (e : Int) (data : List Int) (l : List S94) (hd : data.length < 140737488355328) (hl : l.length < 1000) (hf : Fit data l) (d : Nat) : ∀ (k i : Nat) (acc : List S76),i ≤ l.length → acc.length = i → l.length - i = d → d < k →
  cut_Frags.l0 k e data acc l (l.length : Int) i = some (acc ++ (l.drop i).map (fragP e data),true) := by
 induction d with
 |zero =>
  intro k i acc h1 ha hd hk
  obtain ⟨k,rfl⟩ : ∃ j,k = j + 1 := ⟨k - 1,by omega⟩
  simp only [cut_Frags.l0]
  rw [if_neg (by omega),List.drop_eq_nil_of_le (by omega)]
  simp
 |succ d ih =>
  intro k i acc h1 ha hd2 hk
  obtain ⟨k,rfl⟩ : ∃ j,k = j + 1 := ⟨k - 1,by omega⟩
  simp only [cut_Frags.l0]
  have hlt : i < l.length := by omega
  obtain ⟨f1,f2,f3⟩ := hf i hlt
  rw [if_pos (by omega),if_pos (by omega),if_pos (by omega)]
  simp only [Option.bind_some,List.nil_append,List.length_nil,Nat.zero_add]
  rw [if_pos f1,if_pos f2,if_pos f3,if_pos (by simp;omega),if_pos (by omega),w64 (n := (i : Int) + 1) (by omega) (by omega)]
  have hr := ih k (i + 1) (acc ++ [fragP e data (rd_T94 l i)]) (by omega) (by simp [ha]) (by omega) (by omega)
  rw [List.drop_eq_getElem_cons hlt,List.map_cons,rd_at l i hlt]
  rw [List.append_assoc] at hr
  exact hr
theorem chain_all (n : Int) : ∀ (ps : List (Int × Int × Int)) (from_ : Int),0 ≤ from_ → Chain ps from_ n → ∀ t ∈ ps,0 ≤ t.2.1 ∧ t.2.1 ≤ t.2.2 ∧ t.2.2 ≤ n := by
 intro ps
 induction ps with
 |nil => intro _ _ _ t ht;cases ht
 |cons u rest ih =>
  intro from_ h0 hc t ht
  obtain ⟨h1,h2,h3,h4,h5,h6,h7⟩ := hc
  rcases List.mem_cons.1 ht with rfl|ht
  ·exact ⟨by omega,by omega,h3⟩
  ·exact ih u.2.2 (by omega) h7 t ht
theorem cutP_fit (at_ : Int) (data : List Int) : Fit data (cutP at_ (data.length : Int)).1 := by
 intro i hi
 revert hi
 unfold cutP
 split
 ·intro hi;simp at hi
 ·cases hs : cutS 4 at_ (data.length : Int) 0 with
  |none => intro hi;simp [cutR] at hi
  |some p =>
   simp only [cutR,List.nil_append]
   intro hi
   rw [mkP_len] at hi
   have hc := chain_all _ p.1 0 (Int.le_refl _) (cutS_chain (by omega) hs) _ (List.getElem_mem hi)
   obtain ⟨kd,hk⟩ := mkP_drop p.1 ((([] : List S94).length : Int) == 0) i hi
   have e : rd_T94 (mkP ((([] : List S94).length : Int) == 0) p.1) (i : Int) = ⟨(p.1[i]).1,kd,(p.1[i]).2.1,(p.1[i]).2.2⟩ := by
    unfold rd_T94
    rw [List.getD_eq_getElem?_getD,Int.toNat_natCast,hk]
    rfl
   rw [e]
   exact hc
theorem cutP_len (at_ n : Int) : (cutP at_ n).1.length ≤ 4 := by
 unfold cutP
 split
 ·simp
 ·cases hs : cutS 4 at_ n 0 with
  |none => simp [cutR]
  |some p =>
   have := cutS_len hs
   simp only [cutR,List.nil_append,mkP_len]
   exact this
def fragsP (e at_ : Int) (data : List Int) : List S76 × Bool := ((cutP at_ (data.length : Int)).1.map (fragP e data),(cutP at_ (data.length : Int)).2.2)
theorem cutP_no (at_ n : Int) (h : (cutP at_ n).2.2 = false) : (cutP at_ n).1 = [] := by
 revert h
 unfold cutP
 split
 ·intro _;rfl
 ·cases hs : cutS 4 at_ n 0 with
  |none => intro _;rfl
  |some p => intro h;cases h
theorem frags_eq (k : Nat) (hk : 10 < k) (e at_ : Int) (data : List Int) (hd : data.length < 140737488355328) : cut_Frags.f k e at_ data = some (fragsP e at_ data) := by
 unfold cut_Frags.f fragsP
 rw [cut_eq k (by omega)]
 simp only [Option.bind_some]
 have hl := cutP_len at_ (data.length : Int)
 by_cases h : (cutP at_ (data.length : Int)).2.2 = true
 ·rw [if_pos h,h]
  have := frags_l e data (cutP at_ (data.length : Int)).1 hd (by omega) (cutP_fit at_ data) (cutP at_ (data.length : Int)).1.length k 0 [] (by omega) rfl (by omega) (by omega)
  simpa using this
 ·have h2 : (cutP at_ (data.length : Int)).2.2 = false := by simpa using h
  rw [if_neg h,h2,cutP_no at_ _ h2]
  rfl
abbrev Pc := S94
def PcOk (data : List Int) (p : Pc) : Prop := 0 ≤ p.f0 ∧ p.f0 < 832 ∧ (1 ≤ p.f1 ∧ p.f1 ≤ 4) ∧ 0 ≤ p.f2 ∧ p.f2 ≤ p.f3 ∧ p.f3 ≤ data.length ∧ p.f3 - p.f2 ≤ 197 ∧ p.f0 + 11 + (p.f3 - p.f2) ≤ 832
theorem pc_kind (f l : Bool) : 1 ≤ pc f l ∧ pc f l ≤ 4 := by cases f <;> cases l <;> decide
theorem lf_fit {b : Int} (h0 : 0 ≤ b) (h1 : b < 832) : lf b ≤ 208 ∧ b + lf b ≤ 832 := by
 unfold lf
 rw [if_neg (by omega)]
 omega
theorem chain_ok (n : Int) (data : List Int) (hn : n ≤ data.length) : ∀ (ps : List (Int × Int × Int)) (from_ : Int) (f : Bool),0 ≤ from_ → Chain ps from_ n → ∀ p ∈ mkP f ps,PcOk data p := by
 intro ps
 induction ps with
 |nil => intro _ _ _ _ p hp;cases hp
 |cons t rest ih =>
  intro from_ f h0 hc p hp
  obtain ⟨h1,h2,h3,h4,h5,h6,h7⟩ := hc
  obtain ⟨l1,l2⟩ := lf_fit h4 h5
  cases rest with
  |nil =>
   simp only [mkP,List.mem_singleton] at hp
   subst hp
   exact ⟨h4,h5,pc_kind _ _,by simp only;omega,by simp only;omega,by simp only;omega,by simp only;omega,by simp only;omega⟩
  |cons u rest =>
   simp only [mkP,List.mem_cons] at hp
   rcases hp with rfl|hp
   ·exact ⟨h4,h5,pc_kind _ _,by simp only;omega,by simp only;omega,by simp only;omega,by simp only;omega,by simp only;omega⟩
   ·exact ih t.2.2 false (by omega) h7 p hp
theorem cutP_pcs (at_ : Int) (data : List Int) : ∀ p ∈ (cutP at_ (data.length : Int)).1,PcOk data p := by
 unfold cutP
 split
 ·intro p hp;simp at hp
 ·cases hs : cutS 4 at_ (data.length : Int) 0 with
  |none => intro p hp;simp [cutR] at hp
  |some q =>
   simp only [cutR,List.nil_append]
   exact chain_ok _ data (Int.le_refl _) q.1 0 _ (Int.le_refl _) (cutS_chain (by omega) hs)
def pcE (ep : Int) (data : List Int) (p : Pc) : List Int := encL p.f1 ep ((data.take p.f3.toNat).drop p.f2.toNat)
theorem pcE_len {ep : Int} {data : List Int} {p : Pc} (h : PcOk data p) : (pcE ep data p).length = 11 + (p.f3 - p.f2).toNat := by
 obtain ⟨h1,h2,h3,h4,h5,h6,h7,h8⟩ := h
 unfold pcE
 rw [encL_len,List.length_drop,List.length_take]
 omega
def layP (ep : Int) (data : List Int) (cur : List Int) (p : Pc) : List Int := splice cur p.f0.toNat (pcE ep data p)
def layA (ep : Int) (data : List Int) (ps : List Pc) (cur : List Int) : List Int := ps.foldl (layP ep data) cur
theorem layP_len {ep : Int} {data cur : List Int} {p : Pc} (h : PcOk data p) (hc : cur.length = 832) : (layP ep data cur p).length = 832 := by
 have hl := pcE_len (ep := ep) h
 obtain ⟨h1,h2,h3,h4,h5,h6,h7,h8⟩ := h
 unfold layP splice
 simp [hl]
 omega
theorem layA_len {ep : Int} {data : List Int} : ∀ (ps : List Pc) (cur : List Int),(∀ p ∈ ps,PcOk data p) → cur.length = 832 → (layA ep data ps cur).length = 832 := by
 intro ps
 induction ps with
 |nil => intro cur _ hc;exact hc
 |cons p ps ih => intro cur hp hc;exact ih _ (fun q hq => hp q (List.mem_cons_of_mem _ hq)) (layP_len (hp p (List.mem_cons_self ..)) hc)
theorem layA_take {ep : Int} {data : List Int} (ps : List Pc) (cur : List Int) (i : Nat) (h : i < ps.length) : layA ep data (ps.take (i + 1)) cur = layP ep data (layA ep data (ps.take i) cur) ps[i] := by
 unfold layA
 rw [List.take_add_one,List.foldl_append,List.getElem?_eq_getElem h]
 rfl
theorem bytes_splice {cur ys : List Int} (o : Nat) (hc : Bytes cur) (hy : Bytes ys) : Bytes (splice cur o ys) := bytes_append (bytes_take hc _) (bytes_append hy (bytes_drop hc _))
theorem layA_bytes {ep : Int} {data : List Int} (hd : Bytes data) : ∀ (ps : List Pc) (cur : List Int),(∀ p ∈ ps,PcOk data p) → Bytes cur → Bytes (layA ep data ps cur) := by
 intro ps
 induction ps with
 |nil => intro cur _ hc;exact hc
 |cons p ps ih =>
  intro cur hp hc
  have h := hp p (List.mem_cons_self ..)
  exact ih _ (fun q hq => hp q (List.mem_cons_of_mem _ hq)) (bytes_splice _ hc (encL_bytes (by have := h.2.2.1;omega) (bytes_drop (bytes_take hd _) _)))
def base (b : List Int) : List Int := b.take 832 ++ zs (832 - b.length)
theorem base_len (b : List Int) : (base b).length = 832 := by
 unfold base zs
 rw [List.length_append,List.length_take,List.length_replicate]
 omega
theorem base_bytes {b : List Int} (h : Bytes b) : Bytes (base b) := bytes_append (bytes_take h _) (bytes_zs _)
theorem base_id {b : List Int} (h : b.length = 832) : base b = b := by
 unfold base
 rw [List.take_of_length_le (by omega),h]
 simp [zs]
def addB (e64 : Int) (body : List Int) (at_ : Int) (data : List Int) : List Int := layA (e64 % 4294967296) data (cutP at_ (data.length : Int)).1 (base body)
theorem addB_len (e64 : Int) (body : List Int) (at_ : Int) (data : List Int) : (addB e64 body at_ data).length = 832 := layA_len _ _ (cutP_pcs at_ data) (base_len body)
theorem addB_bytes (e64 : Int) {body : List Int} (at_ : Int) {data : List Int} (hb : Bytes body) (hd : Bytes data) : Bytes (addB e64 body at_ data) := layA_bytes hd _ _ (cutP_pcs at_ data) (base_bytes hb)
theorem base_copy (b : List Int) : splice (zs 832) 0 (b.take (min b.length 832)) = base b := by
 unfold splice base zs
 have hl : (b.take (min b.length 832)).length = min b.length 832 := by rw [List.length_take];omega
 rw [List.take_zero,List.nil_append,Nat.zero_add,hl,List.drop_replicate]
 congr 1
 ·by_cases h : b.length ≤ 832
  ·rw [Nat.min_eq_left h,List.take_of_length_le (Nat.le_refl _),List.take_of_length_le h]
  ·rw [Nat.min_eq_right (by omega)]
 ·congr 1
  omega
end Go.Proofs.YtaekpfhgdnfciaaDoor.Img
end

section
namespace Go.Proofs.YtaekpfhgdnfciaaDoor.F
open Go.RowKit Go.Proofs.YtaekpfhgdnfciaaDoorW.PrintWords Go.Proofs.YtaekpfhgdnfciaaDoorW.PrintLast Go.Proofs.YtaekpfhgdnfciaaDoorW.PrintMore
attribute [local go_sem high] eqA83
attribute [local go_sem] field83_0
attribute [local go_sem] field83_1
attribute [local go_sem] max2_int min2_int max_two min_two max_three min_three max_four min_four
/-! ### strandlineref13_Bytes: function 61 -/
def strandlineref13_Bytes.f (k : Nat) (a0_0 : Int) (a0_1 : Int) (l0_2 : List Int) : Option (List Int) := (strandlineref01_Put.f k (IntKind.u64.wrap ((l0_2.length : Int))) 2).bind fun t129 => (if t129.length < 140737488355328 then ((some (t129 ++ [(a0_0) % 256] : List Int)).bind fun y132 => ((strandlineref01_Put.f k (IntKind.u64.wrap (a0_1)) 4).bind fun t135 => (if y132.length + t135.length < 140737488355328 then ((some (y132 ++ t135 : List Int)).bind fun y138 => (if y138.length + l0_2.length < 140737488355328 then ((some (y138 ++ l0_2 : List Int)).bind fun y141 => ((strandlineref03_Of.f k y141).bind fun t144 => ((strandlineref03_Mask.f t144).bind fun t145 => ((strandlineref01_Put.f k (IntKind.u64.wrap (t145)) 4).bind fun t146 => (if t146.length + y141.length < 140737488355328 then (some (t146 ++ y141)) else (none)))))) else (none))) else (none)))) else (none))
theorem strandlineref13_Bytes.mono : ∀ a0 a1 a2 k,LeO (strandlineref13_Bytes.f k a0 a1 a2) (strandlineref13_Bytes.f (k + 1) a0 a1 a2) := by
 intro a0 a1 a2 k
 unfold strandlineref13_Bytes.f
 repeat' first
   |(with_reducible exact strandlineref01_Put.mono _ _ _)
   |(with_reducible exact strandlineref03_Of.mono _ _)
   |(with_reducible exact LeO.refl _)
   |(with_reducible exact LeO.none _)
   |(with_reducible refine LeO.ite ?_ ?_)
   |(with_reducible refine LeO.bind ?_ (fun _ => ?_))
   |exact strandlineref01_Put.mono _ _ _
   |exact strandlineref03_Of.mono _ _
   |exact LeO.none _
   |refine LeO.ite ?_ ?_
   |refine LeO.bind ?_ (fun _ => ?_)
set_option maxHeartbeats 8000000 in
set_option maxRecDepth 100000 in
theorem strandlineref13_Bytes.calls (k : Nat) (a0_0 : Int) (a0_1 : Int) (A0_2 : Option Addr) (c0_2 : Nat) (l0_2 : List Int) (r : List Int) (w : World) (hr0_2 : Kd.C (Kd.int .u8) w A0_2 l0_2.length l0_2) (hc0_2 : l0_2.length ≤ c0_2) (h : strandlineref13_Bytes.f k a0_0 a0_1 l0_2 = some r) :
  Calls Tryd.prog 61 #[.agg #[.int .i64 a0_0,.int .u32 a0_1,.slice A0_2 l0_2.length c0_2]] w fun e w' => ∃ v0_ : Value,e = .returned (v0_) ∧ Kd.R (Kd.int .u8) 5 w' w.heap.size (fun _ => True) v0_ r ∧ Below w.heap.size w w' := by
 have hu73 := Tryd.underlying73
 have hu83 := Tryd.underlying83
 have hu94 := Tryd.underlying94
 have hu106 := Tryd.underlying106
 have hu76 := Tryd.underlying76
 have HR0_2 := Aside0.mk hr0_2
 have HC0_2 := Aside0.mk hc0_2
 clear hr0_2 hc0_2
 have HB := Aside0.mk (Below.refl w.heap.size w)
 have H : ((strandlineref01_Put.f k (IntKind.u64.wrap ((l0_2.length : Int))) 2).bind fun t129 => (if t129.length < 140737488355328 then ((some (t129 ++ [(a0_0) % 256] : List Int)).bind fun y132 => ((strandlineref01_Put.f k (IntKind.u64.wrap (a0_1)) 4).bind fun t135 => (if y132.length + t135.length < 140737488355328 then ((some (y132 ++ t135 : List Int)).bind fun y138 => (if y138.length + l0_2.length < 140737488355328 then ((some (y138 ++ l0_2 : List Int)).bind fun y141 => ((strandlineref03_Of.f k y141).bind fun t144 => ((strandlineref03_Mask.f t144).bind fun t145 => ((strandlineref01_Put.f k (IntKind.u64.wrap (t145)) 4).bind fun t146 => (if t146.length + y141.length < 140737488355328 then (some (t146 ++ y141)) else (none)))))) else (none))) else (none)))) else (none))) = some r := h
 clear h
 replace H := Option.bind_eq_some_iff.mp H
 obtain ⟨t129,A20,H⟩ := H
 replace H : (if t129.length < 140737488355328 then ((some (t129 ++ [(a0_0) % 256] : List Int)).bind fun y132 => ((strandlineref01_Put.f k (IntKind.u64.wrap (a0_1)) 4).bind fun t135 => (if y132.length + t135.length < 140737488355328 then ((some (y132 ++ t135 : List Int)).bind fun y138 => (if y138.length + l0_2.length < 140737488355328 then ((some (y138 ++ l0_2 : List Int)).bind fun y141 => ((strandlineref03_Of.f k y141).bind fun t144 => ((strandlineref03_Mask.f t144).bind fun t145 => ((strandlineref01_Put.f k (IntKind.u64.wrap (t145)) 4).bind fun t146 => (if t146.length + y141.length < 140737488355328 then (some (t146 ++ y141)) else (none)))))) else (none))) else (none)))) else (none)) = some r := H
 have A2 := Aside0.mk A20
 clear A20
 by_cases c3 : t129.length < 140737488355328
 ·rw [if_pos c3] at H
  have LMc3 := Aside0.mk c3
  clear c3
  obtain ⟨y132,hy132⟩ : ∃ y_ : List Int,y_ = (t129 ++ [(a0_0) % 256]) := ⟨_,rfl⟩
  replace H : ((strandlineref01_Put.f k (IntKind.u64.wrap (a0_1)) 4).bind fun t135 => (if y132.length + t135.length < 140737488355328 then ((some (y132 ++ t135 : List Int)).bind fun y138 => (if y138.length + l0_2.length < 140737488355328 then ((some (y138 ++ l0_2 : List Int)).bind fun y141 => ((strandlineref03_Of.f k y141).bind fun t144 => ((strandlineref03_Mask.f t144).bind fun t145 => ((strandlineref01_Put.f k (IntKind.u64.wrap (t145)) 4).bind fun t146 => (if t146.length + y141.length < 140737488355328 then (some (t146 ++ y141)) else (none)))))) else (none))) else (none))) = some r := by first|(rw [hy132];with_reducible exact H)|(have H2_ := (Option.bind_some _ _).symm.trans H;rw [hy132];with_reducible exact H2_)|(have H2_ := (Option.bind_some _ _).symm.trans H;with_reducible exact H2_)|with_reducible exact H|(rw [hy132];exact H)|exact H
  have Ny132 := Aside0.mk hy132
  clear hy132
  replace H := Option.bind_eq_some_iff.mp H
  obtain ⟨t135,A40,H⟩ := H
  replace H : (if y132.length + t135.length < 140737488355328 then ((some (y132 ++ t135 : List Int)).bind fun y138 => (if y138.length + l0_2.length < 140737488355328 then ((some (y138 ++ l0_2 : List Int)).bind fun y141 => ((strandlineref03_Of.f k y141).bind fun t144 => ((strandlineref03_Mask.f t144).bind fun t145 => ((strandlineref01_Put.f k (IntKind.u64.wrap (t145)) 4).bind fun t146 => (if t146.length + y141.length < 140737488355328 then (some (t146 ++ y141)) else (none)))))) else (none))) else (none)) = some r := H
  have A4 := Aside0.mk A40
  clear A40
  by_cases c5 : y132.length + t135.length < 140737488355328
  ·rw [if_pos c5] at H
   have LMc5 := Aside0.mk c5
   clear c5
   obtain ⟨y138,hy138⟩ : ∃ y_ : List Int,y_ = (y132 ++ t135) := ⟨_,rfl⟩
   replace H : (if y138.length + l0_2.length < 140737488355328 then ((some (y138 ++ l0_2 : List Int)).bind fun y141 => ((strandlineref03_Of.f k y141).bind fun t144 => ((strandlineref03_Mask.f t144).bind fun t145 => ((strandlineref01_Put.f k (IntKind.u64.wrap (t145)) 4).bind fun t146 => (if t146.length + y141.length < 140737488355328 then (some (t146 ++ y141)) else (none)))))) else (none)) = some r := by first|(rw [hy138];with_reducible exact H)|(have H2_ := (Option.bind_some _ _).symm.trans H;rw [hy138];with_reducible exact H2_)|(have H2_ := (Option.bind_some _ _).symm.trans H;with_reducible exact H2_)|with_reducible exact H|(rw [hy138];exact H)|exact H
   have Ny138 := Aside0.mk hy138
   clear hy138
   by_cases c6 : y138.length + l0_2.length < 140737488355328
   ·rw [if_pos c6] at H
    have LMc6 := Aside0.mk c6
    clear c6
    obtain ⟨y141,hy141⟩ : ∃ y_ : List Int,y_ = (y138 ++ l0_2) := ⟨_,rfl⟩
    replace H : ((strandlineref03_Of.f k y141).bind fun t144 => ((strandlineref03_Mask.f t144).bind fun t145 => ((strandlineref01_Put.f k (IntKind.u64.wrap (t145)) 4).bind fun t146 => (if t146.length + y141.length < 140737488355328 then (some (t146 ++ y141)) else (none))))) = some r := by first|(rw [hy141];with_reducible exact H)|(have H2_ := (Option.bind_some _ _).symm.trans H;rw [hy141];with_reducible exact H2_)|(have H2_ := (Option.bind_some _ _).symm.trans H;with_reducible exact H2_)|with_reducible exact H|(rw [hy141];exact H)|exact H
    have Ny141 := Aside0.mk hy141
    clear hy141
    replace H := Option.bind_eq_some_iff.mp H
    obtain ⟨t144,A70,H⟩ := H
    replace H : ((strandlineref03_Mask.f t144).bind fun t145 => ((strandlineref01_Put.f k (IntKind.u64.wrap (t145)) 4).bind fun t146 => (if t146.length + y141.length < 140737488355328 then (some (t146 ++ y141)) else (none)))) = some r := H
    have A7 := Aside0.mk A70
    clear A70
    replace H := Option.bind_eq_some_iff.mp H
    obtain ⟨t145,A80,H⟩ := H
    replace H : ((strandlineref01_Put.f k (IntKind.u64.wrap (t145)) 4).bind fun t146 => (if t146.length + y141.length < 140737488355328 then (some (t146 ++ y141)) else (none))) = some r := H
    have A8 := Aside0.mk A80
    clear A80
    replace H := Option.bind_eq_some_iff.mp H
    obtain ⟨t146,A90,H⟩ := H
    replace H : (if t146.length + y141.length < 140737488355328 then (some (t146 ++ y141)) else (none)) = some r := H
    have A9 := Aside0.mk A90
    clear A90
    by_cases c10 : t146.length + y141.length < 140737488355328
    ·rw [if_pos c10] at H
     have LMc10 := Aside0.mk c10
     clear c10
     obtain ⟨y149,hy149⟩ : ∃ y_ : List Int,y_ = (t146 ++ y141) := ⟨_,rfl⟩
     replace H : (some y149) = some r := by first|(rw [hy149];with_reducible exact H)|(have H2_ := (Option.bind_some _ _).symm.trans H;rw [hy149];with_reducible exact H2_)|(have H2_ := (Option.bind_some _ _).symm.trans H;with_reducible exact H2_)|with_reducible exact H|(rw [hy149];exact H)|exact H
     have Ny149 := Aside0.mk hy149
     clear hy149
     obtain rfl := Option.some.inj H
     go_enter Tryd.func61,Tryd.ntmps61
     go_wp2_with (first|((with_reducible refine gate_dst (N := 1) rfl ?_);refine box_event ?hg (N := 1) ?hd (cs := #[.int .i64 a0_0,.int .u32 a0_1,.slice A0_2 l0_2.length c0_2]) (t := 76) ?hr ?_;(case hd => rfl);(case hg => rfl);(case hr => first|(go_simp;done)|(go_simp;rfl));intro gb128 hg w11 hbox hb;have n0_ := Aside0.mk (below_step (by repeat (first|(with_reducible first|exact HB.out|apply below_alloc|apply pw_below_drewN|apply below_drew1)|exact HB.out)) hb);have n1_ := Aside0.mk (hbox);have n2_ := Aside0.mk ((by rw [hg];exact (below_size (by repeat (first|(with_reducible first|exact HB.out|apply below_alloc|apply pw_below_drewN|apply below_drew1)|exact HB.out))) : w.heap.size ≤ gb128));have n3_ := Aside0.mk ((by rw [hg];exact (below_size (by repeat (first|(with_reducible first|exact HB.out|apply below_alloc|apply pw_below_drewN|apply below_drew1)|exact HB.out))) : w.heap.size ≤ gb128));clear HB;have HB := n0_;have BK128 := n1_;have GW128 := n2_;have GE128 := n3_;clear n0_ n1_ n2_ n3_;clear hb hbox hg;have hcz12_0 : w11.cell? ⟨gb128,0,none⟩ = some (.int .i64 a0_0) := (blk_cell BK128.out 0).trans rfl;have hcz12_1 : w11.cell? ⟨gb128,1,none⟩ = some (.int .u32 a0_1) := (blk_cell BK128.out 1).trans rfl;have hcz12_2 : w11.cell? ⟨gb128,2,none⟩ = some (.slice A0_2 l0_2.length c0_2) := (blk_cell BK128.out 2).trans rfl;have hfz12_0 := blk_frozen BK128.out 0;have hfz12_1 := blk_frozen BK128.out 1;have hfz12_2 := blk_frozen BK128.out 2)|((with_reducible refine gate_callee (f := 76) rfl ?_);refine goesL_ (some 8) rfl rfl Tryd.func76 (by kernel_rfl) rfl #[.int .u64 (IntKind.u64.wrap ((l0_2.length : Int))),.int .i64 2] rfl (by (try simp only [List.map_toArray,List.map_cons,List.map_nil]);first|done|rfl|(simp only [List.length_drop,List.length_take];rfl)) ?_;(with_reducible refine (strandlineref01_Put.calls k (IntKind.u64.wrap ((l0_2.length : Int))) 2 t129 _ A2.out).mono ?_);rintro e w13 ⟨v130,rfl,ho0,hb⟩;refine ⟨_,rfl,?_⟩;have n0_ := Aside0.mk (Kd.R_lower ho0 (below_size (by repeat (first|(with_reducible first|exact HB.out|apply below_alloc|apply pw_below_drewN|apply below_drew1|refine below_set ?_ GE128.out)|exact HB.out))));have n1_ := Aside0.mk (blk_below (g := gb128) (o := .cells #[.int .i64 a0_0,.int .u32 a0_1,.slice A0_2 l0_2.length c0_2] 76 (0,0)) (by (with_reducible repeat (first|refine blk_drewN ?_ _|refine blk_drew ?_|refine blk_alloc ?_ _));exact BK128.out) hb);have n2_ := Aside0.mk (below_step (by repeat (first|(with_reducible first|exact HB.out|apply below_alloc|apply pw_below_drewN|apply below_drew1|refine below_set ?_ GE128.out)|exact HB.out)) hb);clear BK128;clear HB;have HO131 := n0_;have BK128 := n1_;have HB := n2_;clear n0_ n1_ n2_;(try clear hb);(try clear hb2);(try clear hk);(try clear hi);(try clear ho0);have hcz14_0 : w13.cell? ⟨gb128,0,none⟩ = some (.int .i64 a0_0) := (blk_cell BK128.out 0).trans rfl;have hcz14_1 : w13.cell? ⟨gb128,1,none⟩ = some (.int .u32 a0_1) := (blk_cell BK128.out 1).trans rfl;have hcz14_2 : w13.cell? ⟨gb128,2,none⟩ = some (.slice A0_2 l0_2.length c0_2) := (blk_cell BK128.out 2).trans rfl;have hfz14_0 := blk_frozen BK128.out 0;have hfz14_1 := blk_frozen BK128.out 1;have hfz14_2 := blk_frozen BK128.out 2)|((with_reducible refine gate_builtin (b := .append) (xs := #[.tmp 9,.tmp 13]) rfl ?_);at_builtin;refine Kd.R_append (Kd.int .u8) (w0 := w) w.heap.size rfl (.tmp 9) (.tmp 13) 38 5 (.int .u8 0) 1 rfl Tryd.underlying38 info5 rfl (by decide) (by omega) v130 t129 ((a0_0) % 256) [.int .u8 ((a0_0) % 256)] (fun _ => True) (fun _ => False) rfl rfl ?aP (fun _ hk => hk.elim) ?aF ?aO ?aB ?aS ?aL ?_;(case aP => exact rfl);(case aB => exact (by repeat (first|(with_reducible first|exact HB.out|apply below_alloc|apply pw_below_drewN|apply below_drew1|refine below_set ?_ GE128.out)|exact HB.out)));(case aF => exact (fun _ _ => trivial));(case aO => exact (by (with_reducible repeat (first|apply Kd.R_alloc|apply Kd.R_drewN|apply Kd.R_drew));exact HO131.out));(case aS => exact (below_size (by repeat (first|(with_reducible first|exact HB.out|apply below_alloc|apply pw_below_drewN|apply below_drew1|refine below_set ?_ GE128.out)|exact HB.out))));(case aL => have := LMc3.out;omega);intro v133 w15 ho hb hg hat;rw [← Ny132.out] at ho;have n0_ := Aside0.mk (blk_grown (g := gb128) (o := .cells #[.int .i64 a0_0,.int .u32 a0_1,.slice A0_2 l0_2.length c0_2] 76 (0,0)) (by (with_reducible repeat (first|refine blk_drewN ?_ _|refine blk_drew ?_|refine blk_alloc ?_ _));exact BK128.out) hg (Kd.R_ne HO131.out BK128.out (by decide)));have n1_ := Aside0.mk (hb);have n2_ := Aside0.mk (ho);clear BK128;clear HB;clear HO131;have BK128 := n0_;have HB := n1_;have HO134 := n2_;clear n0_ n1_ n2_;clear ho hb hg hat;have hcz16_0 : w15.cell? ⟨gb128,0,none⟩ = some (.int .i64 a0_0) := (blk_cell BK128.out 0).trans rfl;have hcz16_1 : w15.cell? ⟨gb128,1,none⟩ = some (.int .u32 a0_1) := (blk_cell BK128.out 1).trans rfl;have hcz16_2 : w15.cell? ⟨gb128,2,none⟩ = some (.slice A0_2 l0_2.length c0_2) := (blk_cell BK128.out 2).trans rfl;have hfz16_0 := blk_frozen BK128.out 0;have hfz16_1 := blk_frozen BK128.out 1;have hfz16_2 := blk_frozen BK128.out 2)|((with_reducible refine gate_callee (f := 76) rfl ?_);refine goesL_ (some 19) rfl rfl Tryd.func76 (by kernel_rfl) rfl #[.int .u64 (IntKind.u64.wrap (a0_1)),.int .i64 4] rfl (by (try simp only [List.map_toArray,List.map_cons,List.map_nil]);first|done|rfl|(simp only [List.length_drop,List.length_take];rfl)) ?_;(with_reducible refine (strandlineref01_Put.calls k (IntKind.u64.wrap (a0_1)) 4 t135 _ A4.out).mono ?_);rintro e w17 ⟨v136,rfl,ho0,hb⟩;refine ⟨_,rfl,?_⟩;have n0_ := Aside0.mk (Kd.R_elder' (by (with_reducible repeat (first|apply Kd.R_alloc|apply Kd.R_drewN|apply Kd.R_drew));exact HO134.out) (Kd.R_base ho0) hb);have n1_ := Aside0.mk (Kd.R_lower (Kd.R_new' ho0 (Kd.R_lt (by (with_reducible repeat (first|apply Kd.R_alloc|apply Kd.R_drewN|apply Kd.R_drew));exact HO134.out))) (below_size (by repeat (first|(with_reducible first|exact HB.out|apply below_alloc|apply pw_below_drewN|apply below_drew1|refine below_set ?_ GE128.out)|exact HB.out))));have n2_ := Aside0.mk (blk_below (g := gb128) (o := .cells #[.int .i64 a0_0,.int .u32 a0_1,.slice A0_2 l0_2.length c0_2] 76 (0,0)) (by (with_reducible repeat (first|refine blk_drewN ?_ _|refine blk_drew ?_|refine blk_alloc ?_ _));exact BK128.out) hb);have n3_ := Aside0.mk (below_step (by repeat (first|(with_reducible first|exact HB.out|apply below_alloc|apply pw_below_drewN|apply below_drew1|refine below_set ?_ GE128.out)|exact HB.out)) hb);clear HO134;clear BK128;clear HB;have HO134 := n0_;have HO137 := n1_;have BK128 := n2_;have HB := n3_;clear n0_ n1_ n2_ n3_;(try clear hb);(try clear hb2);(try clear hk);(try clear hi);(try clear ho0);obtain ⟨Ao19,co19,eo19⟩ := Kd.R_slice HO137.out;subst eo19)|((with_reducible refine gate_builtin (b := .append) (xs := #[.tmp 15,.tmp 19]) rfl ?_);at_builtin;refine Kd.R_append_rows (Kd.int .u8) (w0 := w) w.heap.size rfl (.tmp 15) (.tmp 19) 38 5 (.int .u8 0) 1 rfl Tryd.underlying38 info5 rfl (by decide) (by omega) v133 y132 t135 _ _ _ (fun k_ => some k_ ≠ (.slice Ao19 t135.length co19 : Value).ownBlock) (fun _ => False) rfl rfl ?aO ?aR (fun _ _ h => h) (fun _ h => h.elim) ?aF ?aB ?aS ?aL ?_;(case aR => repeat (first|exact (Kd.R_reads' HO137.out).2.2|(with_reducible refine Kd.C_alloc ?_ _)|(with_reducible refine Kd.C_drewN ?_ _)|(with_reducible refine Kd.C_drew ?_)));(case aB => exact (by repeat (first|(with_reducible first|exact HB.out|apply below_alloc|apply pw_below_drewN|apply below_drew1|refine below_set ?_ GE128.out)|exact HB.out)));(case aF => exact (fun k_ hk => Kd.fresh' (Kd.R_lt (by (with_reducible repeat (first|apply Kd.R_alloc|apply Kd.R_drewN|apply Kd.R_drew));exact HO137.out)) k_ hk));(case aO => exact (by (with_reducible repeat (first|apply Kd.R_alloc|apply Kd.R_drewN|apply Kd.R_drew));exact Kd.R_mono HO134.out (fun _ hk => hk.2)));(case aS => exact (below_size (by repeat (first|(with_reducible first|exact HB.out|apply below_alloc|apply pw_below_drewN|apply below_drew1|refine below_set ?_ GE128.out)|exact HB.out))));(case aL => have := LMc5.out;omega);intro v139 w18 ho hb hg hat;rw [← Ny138.out] at ho;have n0_ := Aside0.mk (blk_grown (g := gb128) (o := .cells #[.int .i64 a0_0,.int .u32 a0_1,.slice A0_2 l0_2.length c0_2] 76 (0,0)) (by (with_reducible repeat (first|refine blk_drewN ?_ _|refine blk_drew ?_|refine blk_alloc ?_ _));exact BK128.out) hg (Kd.R_ne HO134.out BK128.out (by decide)));have n1_ := Aside0.mk (Kd.R_after (ok := (fun _ => True)) (by (with_reducible repeat (first|apply Kd.R_alloc|apply Kd.R_drewN|apply Kd.R_drew));exact HO137.out) hg hat);have n2_ := Aside0.mk (hb);have n3_ := Aside0.mk (ho);clear BK128;clear HO137;clear HB;clear HO134;have BK128 := n0_;have HO137 := n1_;have HB := n2_;have HO140 := n3_;clear n0_ n1_ n2_ n3_;clear ho hb hg hat;have hcz20_0 : w18.cell? ⟨gb128,0,none⟩ = some (.int .i64 a0_0) := (blk_cell BK128.out 0).trans rfl;have hcz20_1 : w18.cell? ⟨gb128,1,none⟩ = some (.int .u32 a0_1) := (blk_cell BK128.out 1).trans rfl;have hcz20_2 : w18.cell? ⟨gb128,2,none⟩ = some (.slice A0_2 l0_2.length c0_2) := (blk_cell BK128.out 2).trans rfl;have hfz20_0 := blk_frozen BK128.out 0;have hfz20_1 := blk_frozen BK128.out 1;have hfz20_2 := blk_frozen BK128.out 2)|((with_reducible refine gate_builtin (b := .append) (xs := #[.tmp 21,.tmp 23]) rfl ?_);at_builtin;refine Kd.R_append_rows (Kd.int .u8) (w0 := w) w.heap.size rfl (.tmp 21) (.tmp 23) 38 5 (.int .u8 0) 1 rfl Tryd.underlying38 info5 rfl (by decide) (by omega) v139 y138 l0_2 _ _ _ (fun k_ => some k_ ≠ (.slice Ao19 t135.length co19 : Value).ownBlock) (fun _ => False) rfl rfl ?aO ?aR (fun _ _ h => h) (fun _ h => h.elim) ?aF ?aB ?aS ?aL ?_;(case aR => repeat (first|exact (Kd.C_below HR0_2.out HB.out)|(with_reducible refine Kd.C_alloc ?_ _)|(with_reducible refine Kd.C_drewN ?_ _)|(with_reducible refine Kd.C_drew ?_)));(case aB => exact (by repeat (first|(with_reducible first|exact HB.out|apply below_alloc|apply pw_below_drewN|apply below_drew1|refine below_set ?_ GE128.out)|exact HB.out)));(case aF => exact (fun k_ hk => Kd.fresh' (Kd.R_lt (by (with_reducible repeat (first|apply Kd.R_alloc|apply Kd.R_drewN|apply Kd.R_drew));exact HO137.out)) k_ hk));(case aO => exact (by (with_reducible repeat (first|apply Kd.R_alloc|apply Kd.R_drewN|apply Kd.R_drew));exact HO140.out));(case aS => exact (below_size (by repeat (first|(with_reducible first|exact HB.out|apply below_alloc|apply pw_below_drewN|apply below_drew1|refine below_set ?_ GE128.out)|exact HB.out))));(case aL => have := LMc6.out;omega);intro v142 w21 ho hb hg hat;rw [← Ny141.out] at ho;have n0_ := Aside0.mk (blk_grown (g := gb128) (o := .cells #[.int .i64 a0_0,.int .u32 a0_1,.slice A0_2 l0_2.length c0_2] 76 (0,0)) (by (with_reducible repeat (first|refine blk_drewN ?_ _|refine blk_drew ?_|refine blk_alloc ?_ _));exact BK128.out) hg (Kd.R_ne HO140.out BK128.out (by decide)));have n1_ := Aside0.mk (Kd.R_after (ok := (fun _ => True)) (by (with_reducible repeat (first|apply Kd.R_alloc|apply Kd.R_drewN|apply Kd.R_drew));exact HO137.out) hg hat);have n2_ := Aside0.mk (hb);have n3_ := Aside0.mk (ho);clear BK128;clear HO137;clear HB;clear HO140;have BK128 := n0_;have HO137 := n1_;have HB := n2_;have HO143 := n3_;clear n0_ n1_ n2_ n3_;clear ho hb hg hat;obtain ⟨Ao22,co22,eo22⟩ := Kd.R_slice HO143.out;subst eo22)|((with_reducible refine gate_callee (f := 78) rfl ?_);refine goesL_ (some 26) rfl rfl Tryd.func78 (by kernel_rfl) rfl #[.slice Ao22 y141.length co22] rfl (by (try simp only [List.map_toArray,List.map_cons,List.map_nil]);first|done|rfl|(simp only [List.length_drop,List.length_take];rfl)) ?_;(with_reducible refine (strandlineref03_Of.calls k _ _ y141 t144 _ ?side1 ?side2 A7.out).mono ?_);(case side1 => repeat (first|exact (Kd.R_reads' HO143.out).2.2|(with_reducible refine Kd.C_alloc ?_ _)|(with_reducible refine Kd.C_drewN ?_ _)|(with_reducible refine Kd.C_drew ?_)));(case side2 => exact (Kd.R_reads' HO143.out).2.1);rintro e w' ⟨rfl,⟨nd,rfl⟩⟩;refine ⟨_,rfl,?_⟩)|((with_reducible refine gate_callee (f := 77) rfl ?_);refine goesL_ (some 27) rfl rfl Tryd.func77 (by kernel_rfl) rfl #[.int .u32 t144] rfl (by (try simp only [List.map_toArray,List.map_cons,List.map_nil]);first|done|rfl|(simp only [List.length_drop,List.length_take];rfl)) ?_;(with_reducible refine (strandlineref03_Mask.calls t144 t145 _ A8.out).mono ?_);rintro e w' ⟨rfl,⟨nd,rfl⟩⟩;refine ⟨_,rfl,?_⟩)|((with_reducible refine gate_callee (f := 76) rfl ?_);refine goesL_ (some 29) rfl rfl Tryd.func76 (by kernel_rfl) rfl #[.int .u64 (IntKind.u64.wrap (t145)),.int .i64 4] rfl (by (try simp only [List.map_toArray,List.map_cons,List.map_nil]);first|done|rfl|(simp only [List.length_drop,List.length_take];rfl)) ?_;(with_reducible refine (strandlineref01_Put.calls k (IntKind.u64.wrap (t145)) 4 t146 _ A9.out).mono ?_);rintro e w23 ⟨v147,rfl,ho0,hb⟩;refine ⟨_,rfl,?_⟩;have n0_ := Aside0.mk (Kd.R_elder' (by (with_reducible repeat (first|apply Kd.R_alloc|apply Kd.R_drewN|apply Kd.R_drew));exact HO137.out) (Kd.R_base ho0) hb);have n1_ := Aside0.mk (Kd.R_elder' (by (with_reducible repeat (first|apply Kd.R_alloc|apply Kd.R_drewN|apply Kd.R_drew));exact HO143.out) (Kd.R_base ho0) hb);have n2_ := Aside0.mk (Kd.R_lower (Kd.R_new' (Kd.R_new' ho0 (Kd.R_lt (by (with_reducible repeat (first|apply Kd.R_alloc|apply Kd.R_drewN|apply Kd.R_drew));exact HO137.out))) (Kd.R_lt (by (with_reducible repeat (first|apply Kd.R_alloc|apply Kd.R_drewN|apply Kd.R_drew));exact HO143.out))) (below_size (by repeat (first|(with_reducible first|exact HB.out|apply below_alloc|apply pw_below_drewN|apply below_drew1|refine below_set ?_ GE128.out)|exact HB.out))));have n3_ := Aside0.mk (blk_below (g := gb128) (o := .cells #[.int .i64 a0_0,.int .u32 a0_1,.slice A0_2 l0_2.length c0_2] 76 (0,0)) (by (with_reducible repeat (first|refine blk_drewN ?_ _|refine blk_drew ?_|refine blk_alloc ?_ _));exact BK128.out) hb);have n4_ := Aside0.mk (below_step (by repeat (first|(with_reducible first|exact HB.out|apply below_alloc|apply pw_below_drewN|apply below_drew1|refine below_set ?_ GE128.out)|exact HB.out)) hb);clear HO137;clear HO143;clear BK128;clear HB;have HO137 := n0_;have HO143 := n1_;have HO148 := n2_;have BK128 := n3_;have HB := n4_;clear n0_ n1_ n2_ n3_ n4_;(try clear hb);(try clear hb2);(try clear hk);(try clear hi);(try clear ho0))|((with_reducible refine gate_builtin (b := .append) (xs := #[.tmp 29,.tmp 30]) rfl ?_);at_builtin;refine Kd.R_append_rows (Kd.int .u8) (w0 := w) w.heap.size rfl (.tmp 29) (.tmp 30) 38 5 (.int .u8 0) 1 rfl Tryd.underlying38 info5 rfl (by decide) (by omega) v147 t146 y141 _ _ _ (fun k_ => some k_ ≠ (.slice Ao19 t135.length co19 : Value).ownBlock ∧ some k_ ≠ (.slice Ao22 y141.length co22 : Value).ownBlock) (fun _ => False) rfl rfl ?aO ?aR (fun _ _ h => h) (fun _ h => h.elim) ?aF ?aB ?aS ?aL ?_;(case aR => repeat (first|exact (Kd.R_reads' HO143.out).2.2|(with_reducible refine Kd.C_alloc ?_ _)|(with_reducible refine Kd.C_drewN ?_ _)|(with_reducible refine Kd.C_drew ?_)));(case aB => exact (by repeat (first|(with_reducible first|exact HB.out|apply below_alloc|apply pw_below_drewN|apply below_drew1|refine below_set ?_ GE128.out)|exact HB.out)));(case aF => exact (fun k_ hk => ⟨Kd.fresh' (Kd.R_lt (by (with_reducible repeat (first|apply Kd.R_alloc|apply Kd.R_drewN|apply Kd.R_drew));exact HO137.out)) k_ hk,Kd.fresh' (Kd.R_lt (by (with_reducible repeat (first|apply Kd.R_alloc|apply Kd.R_drewN|apply Kd.R_drew));exact HO143.out)) k_ hk⟩));(case aO => exact (by (with_reducible repeat (first|apply Kd.R_alloc|apply Kd.R_drewN|apply Kd.R_drew));exact Kd.R_mono HO148.out (fun _ hk => ⟨hk.1.2,hk.2⟩)));(case aS => exact (below_size (by repeat (first|(with_reducible first|exact HB.out|apply below_alloc|apply pw_below_drewN|apply below_drew1|refine below_set ?_ GE128.out)|exact HB.out))));(case aL => have := LMc10.out;omega);intro v150 w24 ho hb hg hat;rw [← Ny149.out] at ho;have n0_ := Aside0.mk (blk_grown (g := gb128) (o := .cells #[.int .i64 a0_0,.int .u32 a0_1,.slice A0_2 l0_2.length c0_2] 76 (0,0)) (by (with_reducible repeat (first|refine blk_drewN ?_ _|refine blk_drew ?_|refine blk_alloc ?_ _));exact BK128.out) hg (Kd.R_ne HO148.out BK128.out (by decide)));have n1_ := Aside0.mk (Kd.R_after (ok := (fun k_ => some k_ ≠ (.slice Ao22 y141.length co22 : Value).ownBlock)) (by (with_reducible repeat (first|apply Kd.R_alloc|apply Kd.R_drewN|apply Kd.R_drew));exact Kd.R_mono HO137.out (fun _ hk => ⟨hk.1.2,hk.2⟩)) hg hat);have n2_ := Aside0.mk (Kd.R_after (ok := (fun k_ => some k_ ≠ (.slice Ao19 t135.length co19 : Value).ownBlock)) (by (with_reducible repeat (first|apply Kd.R_alloc|apply Kd.R_drewN|apply Kd.R_drew));exact HO143.out) hg hat);have n3_ := Aside0.mk (hb);have n4_ := Aside0.mk (ho);clear BK128;clear HO137;clear HO143;clear HB;clear HO148;have BK128 := n0_;have HO137 := n1_;have HO143 := n2_;have HB := n3_;have HO151 := n4_;clear n0_ n1_ n2_ n3_ n4_;clear ho hb hg hat))
     go_ret
     exact ⟨_,by first|rfl|(simp [errW_none,errW_some] <;> rfl)|(simp [*,errW_none,errW_some] <;> rfl),by (with_reducible repeat (first|apply Kd.R_alloc|apply Kd.R_drewN|apply Kd.R_drew));exact Kd.R_mono HO151.out (fun _ hk => trivial),by repeat (first|(with_reducible first|exact HB.out|apply below_alloc|apply pw_below_drewN|apply below_drew1|refine below_set ?_ GE128.out)|exact HB.out)⟩
    ·rw [if_neg c10] at H
     exact absurd H (by simp)
   ·rw [if_neg c6] at H
    exact absurd H (by simp)
  ·rw [if_neg c5] at H
   exact absurd H (by simp)
 ·rw [if_neg c3] at H
  exact absurd H (by simp)
/-! ### strandlineref13_Same: function 40 -/
end Go.Proofs.YtaekpfhgdnfciaaDoor.F
end
