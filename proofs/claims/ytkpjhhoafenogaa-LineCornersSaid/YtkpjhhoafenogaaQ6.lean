/- Part 6 of what the proof rests on: a machine that runs functions of the program on pure values, proved sound; the functions that the law reaches, and what they compute. -/
import Derived.Test.YtkpjhhoafenogaaQ5
set_option linter.all false
namespace Go.Proofs
open Go Go.Pm
set_option maxRecDepth 100000
theorem zli {c:Nat→Bool} {n:Nat} : fst c n < n↔∃ i,i < n∧c i=true:=by
 refine ⟨fun h=>⟨_,h,zBs h⟩,fun ⟨i,hi,hc⟩=>?_⟩
 rcases Nat.lt_or_ge (fst c n) n with h | h
 ·exact h
 ·have := zBr (c := c) (n := n) (j := i) (by omega)
  rw [hc] at this;cases this
def zsP (g:Sl Gate):Prop:=∀ i,i < g.len→(g.get i).Z=(g.get 0).Z
def zsQ (g:Sl Gate) (s:straight):Prop:=∀ i,i < g.len→zyL s (g.get i)=true
def zdQ (g:Sl Gate) (s:straight):Prop:=∃ i,i < g.len∧zzf s (g.get i)=true
theorem zrY (g:Sl Gate) (G:zaw g):p67 ⟨g⟩=true∧(s67 ⟨g⟩=true↔zsP g):=by
  have hl:=G.2.2
  have hl1:=G.2.1
  have zC9:∀ x,zC9 ⟨g⟩ x=true:=fun x=>by
    unfold zC9
    rw [decide_eq_true (show 0≤(0:Int)∧(0:Int) < ((⟨g⟩:list).Gates.len:Int) from ⟨by omega,by show (0:Int) < (g.len:Int);omega⟩)];rfl
  have := zlV (c := zC8 ⟨g⟩) (lpS := ziP ⟨g⟩) (lpP := ziQ ⟨g⟩)
    (fun k s t i=>by
      show ziN ⟨g⟩ (ziP ⟨g⟩ k) s t i=_
      unfold ziN zlW;rfl)
    (fun k s t i=>by
      show ziO ⟨g⟩ (ziQ ⟨g⟩ k) s t i=_
      unfold ziO zlX
      rw [zC9]
      simp only [decide_true,Bool.true_and])
    g (by omega)
  obtain ⟨a,b⟩:=this
  have e:zHI ⟨g⟩ g=true:=a
  have f:zHH ⟨g⟩ g=_:=b
  unfold p67 s67 p99 s99
  show (decide ((decide (zHI ⟨g⟩ g=true) && true)=true) && true)=true∧((!decide (zHH ⟨g⟩ g ≥ 0))=true↔_)
  rw [e,f]
  refine ⟨by simp,?_⟩
  rw [Bool.not_eq_true',decide_eq_false_iff_not]
  by_cases h:fst (fun i=>zC8 ⟨g⟩ (g.get i)) g.len < g.len
  · rw [if_pos h]
    obtain ⟨i,hi,hc⟩:=zli.1 h
    refine ⟨fun k=>absurd (show ((fst (fun i=>zC8 ⟨g⟩ (g.get i)) g.len:Nat):Int) ≥ 0 by omega) k,fun k=>?_⟩
    have hc:((g.get i).Z != (g.get 0).Z)=true:=hc
    rw [k i hi] at hc
    simp at hc
  · rw [if_neg h]
    refine ⟨fun _ i hi=>?_,fun _=>by omega⟩
    have:=mt zli.2 h
    have hc : ¬ ((g.get i).Z != (g.get 0).Z)=true:=fun hc=>this ⟨i,hi,hc⟩
    simpa using hc
theorem zJR (g:Sl Gate) (G:zaw g) (v:Sl straight) {x:straight} (S:SOK x):p97 ⟨⟨g⟩,v⟩ x=true∧(s97 ⟨⟨g⟩,v⟩ x=true↔zsQ g x):=by
  have hl:=G.2.2
  have := zlV (c := zDd x) (lpS := zgO x) (lpP := zgP x)
    (fun k s t i=>by
      show zgM x (zgO x k) s t i=_
      unfold zgM zjI;rfl)
    (fun k s t i=>by
      show zgN x (zgP x k) s t i=_
      unfold zgN zjJ;rfl)
    g (by omega)
  obtain ⟨a,b⟩:=this
  have e:zuq x g=true:=a
  have f:zup x g=_:=b
  unfold p97 s97 zKj zKi
  show (decide ((decide (zuq x g=true) && true)=true) && true)=true∧((!decide (zup x g ≥ 0))=true↔_)
  rw [e,f]
  refine ⟨by simp,?_⟩
  rw [Bool.not_eq_true',decide_eq_false_iff_not]
  by_cases h:fst (fun i=>zDd x (g.get i)) g.len < g.len
  · rw [if_pos h]
    obtain ⟨i,hi,hc⟩:=zli.1 h
    refine ⟨fun k=>absurd (show ((fst (fun i=>zDd x (g.get i)) g.len:Nat):Int) ≥ 0 by omega) k,fun k=>?_⟩
    have hc:(!(zDb x (g.get i)))=true:=hc
    rw [zyM S (G.1 i hi),k i hi] at hc
    cases hc
  · rw [if_neg h]
    refine ⟨fun _ i hi=>?_,fun _=>by omega⟩
    have:=mt zli.2 h
    have hc : ¬ (!(zDb x (g.get i)))=true:=fun hc=>this ⟨i,hi,hc⟩
    rw [← zyM S (G.1 i hi)]
    simpa using hc
theorem zyQ (g:Sl Gate) (G:zaw g) (v:Sl straight) {x:straight} (S:SOK x):zGJ ⟨⟨g⟩,v⟩ x=true∧(zsS ⟨⟨g⟩,v⟩ x=true↔zdQ g x):=by
  have hl:=G.2.2
  have := zlV (c := zzd x) (lpS := zgS x) (lpP := zgT x)
    (fun k s t i=>by
      show zgQ x (zgS x k) s t i=_
      unfold zgQ zjK;rfl)
    (fun k s t i=>by
      show zgR x (zgT x k) s t i=_
      unfold zgR zjL;rfl)
    g (by omega)
  obtain ⟨a,b⟩:=this
  have e:zuu x g=true:=a
  have f:zut x g=_:=b
  unfold zGJ zsS zKl zKk
  show (decide ((decide (zuu x g=true) && true)=true) && true)=true∧(decide (zut x g ≥ 0)=true↔_)
  rw [e,f]
  refine ⟨by simp,?_⟩
  rw [decide_eq_true_eq]
  by_cases h:fst (fun i=>zzd x (g.get i)) g.len < g.len
  · rw [if_pos h]
    obtain ⟨i,hi,hc⟩:=zli.1 h
    have hc:zzd x (g.get i)=true:=hc
    rw [zyN S (G.1 i hi)] at hc
    exact ⟨fun _=>⟨i,hi,hc⟩,fun _=>by omega⟩
  · rw [if_neg h]
    have:=mt zli.2 h
    refine ⟨fun k=>absurd k (by omega),fun ⟨i,hi,hc⟩=>absurd ⟨i,hi,?_⟩ this⟩
    show zzd x (g.get i)=true
    rw [zyN S (G.1 i hi)];exact hc
theorem zCq {x:straight} (S:SOK x):p79 x=true∧s79 x=toL x:=by
 obtain ⟨S1,S2,S3⟩:=S
 obtain ⟨a1,a2⟩:=ziu (num:=x.slope) (den:=x.den) (by omega) (by omega) (by omega) (by omega)
 obtain ⟨b1,b2⟩:=ziu (num:=x.start) (den:=x.den) (by omega) (by omega) (by omega) (by omega)
 unfold p79 s79 toL
 rw [a1,a2,b1,b2]
 exact ⟨by simp,rfl⟩
-- the reference
theorem zlj (g:Sl Gate) (G:zaw g):p22 g=true∧(s22 g=true↔zsP g):=by
 have hl:=G.2.2
 have hl1:=G.2.1
 have key:∀ (m k i:Nat),i+m=g.len→m < k→zhU g k (i:Int)=true∧(zhT g k (i:Int)=true↔∀ j,i≤j→j < g.len→(g.get j).Z=(g.get 0).Z):=by
  intro m
  induction m with
  | zero =>
   intro k i hi hk
   obtain ⟨k,rfl⟩:∃ k',k=k'+1:=⟨k - 1,by omega⟩
   show zhS g (zhU g k) _=_∧(zhR g (zhT g k) _=_↔_)
   unfold zhS zhR
   rw [decide_eq_false (show ¬ (i:Int) < (g.len:Int) by omega),cond_false,cond_false]
   exact ⟨rfl,⟨fun _ j a b=>absurd b (by omega),fun _=>rfl⟩⟩
  | succ m ih =>
   intro k i hi hk
   obtain ⟨k,rfl⟩:∃ k',k=k'+1:=⟨k - 1,by omega⟩
   obtain ⟨i1,i2⟩:=ih k (i+1) (by omega) (by omega)
   show zhS g (zhU g k) _=_∧(zhR g (zhT g k) _=_↔_)
   generalize zhU g k=P at i1
   generalize zhT g k=S at i2
   unfold zhS zhR
   rw [decide_eq_true (show (i:Int) < (g.len:Int) by omega),decide_eq_true (show 0≤(i:Int)∧(i:Int) < (g.len:Int) by omega),decide_eq_true (show 0≤(0:Int)∧(0:Int) < (g.len:Int) by omega),cond_true,cond_true,Int.toNat_natCast,zbC (n:=g.len) (by omega) (by omega),i1]
   by_cases hz:(g.get i).Z=(g.get 0).Z
   ·rw [show ((g.get i).Z != (g.get 0).Z) = false by simpa using hz, cond_false, cond_false]
    refine ⟨by simp,i2.trans ⟨fun h j a b=>?_,fun h j a b=>h j (by omega) b⟩⟩
    by_cases hj:j=i
    ·rw [hj];exact hz
    ·exact h j (by omega) b
   ·rw [show ((g.get i).Z != (g.get 0).Z) = true by simpa using hz, cond_true, cond_true]
    exact ⟨by simp,⟨fun h=>(by cases h),fun h=>absurd (h i (Nat.le_refl _) (by omega)) hz⟩⟩
 obtain ⟨a,b⟩:=key (g.len - 1) Fuel 1 (by omega) (by simp only [Fuel];omega)
 refine ⟨a,Iff.trans b ⟨fun h i hi=>?_,fun h j _ hj=>h j hj⟩⟩
 by_cases h0:i=0
 ·rw [h0]
 ·exact h i (by omega) hi
theorem zmR (g:Sl Gate) (G:zaw g) {x:straight} (S:SOK x):zF0 (toL x) g=true∧(zqh (toL x) g=true↔zdQ g x):=by
  have hl:=G.2.2
  have e := zGn (good := fun i => !(zzf x (g.get i))) (bad := true) (fin := false) (finP := true) (n := g.len) (lpS := zfG (toL x) g) (lpP := zfH (toL x) g)
    (fun k i hi=>by
      show zfE (toL x) g (zfG (toL x) g k) (i:Int)=_
      generalize zfG (toL x) g k=F
      unfold zfE zmE
      rw [decide_eq_true (show (i:Int) < (g.len:Int) by omega),cond_true,Int.toNat_natCast,zyP S (G.1 i hi)]
      cases zzf x (g.get i) <;> rfl)
    (fun k=>by
      show zfE (toL x) g (zfG (toL x) g k) (g.len:Int)=_
      unfold zfE
      rw [decide_eq_false (show ¬ (g.len:Int) < (g.len:Int) by omega),cond_false])
    (fun k i hi=>by
      show zfF (toL x) g (zfH (toL x) g k) (i:Int)=_
      generalize zfH (toL x) g k=F
      unfold zfF zmF
      rw [decide_eq_true (show (i:Int) < (g.len:Int) by omega),decide_eq_true (show 0≤(i:Int)∧(i:Int) < (g.len:Int) by omega),cond_true,Int.toNat_natCast,zyP S (G.1 i hi),Bool.true_and,Bool.true_and]
      cases zzf x (g.get i) <;> rfl)
    (fun k=>by
      show zfF (toL x) g (zfH (toL x) g k) (g.len:Int)=_
      unfold zfF
      rw [decide_eq_false (show ¬ (g.len:Int) < (g.len:Int) by omega),cond_false])
    (by omega)
  by_cases h:∀ i,i < g.len→(!(zzf x (g.get i)))=true
  · obtain ⟨a, b⟩ := e.1 h
    have b:zqh (toL x) g=false:=b
    refine ⟨a,?_⟩
    rw [b]
    refine ⟨fun h=>(by cases h),fun ⟨i,hi,hc⟩=>?_⟩
    have:=h i hi
    rw [hc] at this;cases this
  · obtain ⟨a, b⟩ := e.2 h
    have b:zqh (toL x) g=true:=b
    refine ⟨a,?_⟩
    rw [b]
    refine ⟨fun _=>Classical.byContradiction fun hn=>h fun i hi=>?_,fun _=>rfl⟩
    cases hc:zzf x (g.get i)
    · rfl
    · exact absurd ⟨i,hi,hc⟩ hn
end Go.Proofs
namespace Go.Proofs
open Go Go.Pm
set_option maxRecDepth 100000
def zif (l:Line):List Int:=[l.Slope.Num,l.Slope.Den,l.Start.Num,l.Start.Den]
theorem zky {a b:Line} (h:zif a=zif b):a=b:=by
 unfold zif at h
 simp only [List.cons.injEq,and_true] at h
 obtain ⟨h1,h2,h3,h4⟩:=h
 obtain ⟨⟨a1,a2⟩,a3,a4⟩:=a
 obtain ⟨⟨b1,b2⟩,b3,b4⟩:=b
 simp only at h1 h2 h3 h4
 rw [h1,h2,h3,h4]
abbrev zgo {α:Type} [Inhabited α]:Sl α:=⟨0,fun _=>default⟩
theorem zA2 {g:Sl Gate} (h:zsP g):cst g=[]:=by
 rcases List.eq_nil_or_concat (cst g) with e | ⟨l,x,e⟩
 ·exact e
 ·have : x ∈ cst g := by rw [e]; simp
  obtain ⟨a,b,h1,h2,hz,_⟩:=zqy this
  exact absurd ((h a (by omega)).trans (h b h2).symm) hz
theorem zA3 (g:Sl Gate):∀ m i,(zCp g m i).length≤4 * g.len * m:=by
 intro m
 induction m with
 | zero=>intro i;exact Nat.le_refl _
 | succ m ih =>
  intro i
  show (zsO g i (g.len - (i+1)) (i+1) ++ zCp g m (i+1)).length≤_
  rw [List.length_append,Nat.mul_succ]
  have:=ih (i+1)
  have:=zrT g i (g.len - (i+1)) (i+1)
  omega
theorem zqz {g:Sl Gate} (G:zaw g):(cst g).length≤2304:=by
 have h1:=zA3 g g.len 0
 have hl:=G.2.2
 have:4 * g.len * g.len≤4 * 24 * 24:=Nat.mul_le_mul (by omega) hl
 exact Nat.le_trans h1 this
theorem zGq (g:Sl Gate) (G:zaw g):∀ (r acc:List straight) (n:Nat) (F:List Int→Option (List Int)),
    (∀ s∈r,SOK s)→acc.length+r.length≤10000→(∀ c,(zdM (F c) 0 != 0)=true↔∃ x∈acc,zif (toL x)=c)→acc.Pairwise (fun x y=>toL x ≠ toL y) →
    ∃ C:List straight,zeZ g r (acc.foldl apL zgo) n F=true∧zeY g r (acc.foldl apL zgo) n F=⟨⟨g⟩,C.foldl apL zgo⟩ ∧
      (∀ s∈C,s∈acc∨(s∈r∧zsQ g s))∧(∀ s∈acc,s∈C)∧(∀ s∈r,zsQ g s→∃ x∈C,toL x=toL s)∧C.Pairwise (fun x y=>toL x ≠ toL y):=by
  intro r
  induction r with
  | nil =>
    intro acc n F _ _ _ hp
    exact ⟨acc,rfl,rfl,fun s h=>.inl h,fun s h=>h,(fun s h=>by cases h),hp⟩
  | cons y r ih =>
    intro acc n F hs hl hF hp
    have hs':∀ s∈r,SOK s:=fun s h=>hs s (List.mem_cons_of_mem _ h)
    have Sy:=hs y List.mem_cons_self
    obtain ⟨e1,e2⟩:=zCq Sy
    obtain ⟨a1,a2⟩:=zJR g G (acc.foldl apL zgo) Sy
    rw [List.length_cons] at hl
    show ∃ C:List straight,zjP g y (zeZ g r) (acc.foldl apL zgo) n F=true∧zjO g y (zeY g r) (acc.foldl apL zgo) n F=_∧_
    unfold zjP zjO
    rw [e1,e2,a1]
    have hcode:([(toL y).Slope.Num,(toL y).Slope.Den,(toL y).Start.Num,(toL y).Start.Den]:List Int)=zif (toL y):=rfl
    rw [hcode]
    have skip:(∃ C:List straight,zeZ g r (acc.foldl apL zgo) n F=true∧zeY g r (acc.foldl apL zgo) n F=⟨⟨g⟩,C.foldl apL zgo⟩ ∧
      (∀ s∈C,s∈acc∨(s∈r∧zsQ g s))∧(∀ s∈acc,s∈C)∧(∀ s∈r,zsQ g s→∃ x∈C,toL x=toL s)∧C.Pairwise (fun x y=>toL x ≠ toL y)):=ih acc n F hs' (by omega) hF hp
    by_cases h1:(zdM (F (zif (toL y))) 0 != 0)=true
    · obtain ⟨C, c1, c2, c3, c4, c5, c6⟩ := skip
      rw [h1]
      refine ⟨C,by simp only [decide_true,Bool.true_and,Bool.not_true,cond_false];exact c1,by simp only [Bool.not_true,cond_false];exact c2,fun s h=>(c3 s h).imp id fun k=>⟨List.mem_cons_of_mem _ k.1,k.2⟩,c4,fun s h ha=>?_,c6⟩
      rcases List.mem_cons.1 h with rfl | h
      · obtain ⟨x, hx, hc⟩ := (hF _).1 h1
        exact ⟨x,c4 x hx,zky hc⟩
      · exact c5 s h ha
    · have h1' : (zdM (F (zif (toL y))) 0 != 0) = false := by simpa using h1
      rw [h1']
      by_cases h2:s97 ⟨⟨g⟩,acc.foldl apL zgo⟩ y=true
      · rw [h2]
        have hlen:(acc.foldl apL zgo).len=acc.length:=by rw [zci];simp
        have hfold:(⟨(acc.foldl apL zgo).len+1,zdA (acc.foldl apL zgo).len (acc.foldl apL zgo).get (fun _=>y)⟩:Sl straight)=(acc ++ [y]).foldl apL zgo:=by rw [List.foldl_append];rfl
        rw [hfold,hlen,decide_eq_true (show (acc.length+1) * 24≤140737488355328∧acc.length+1≤9223372036854775807 by omega)]
        obtain ⟨C, c1, c2, c3, c4, c5, c6⟩ := ih (acc ++ [y]) (addN (F (zif (toL y))) n) (zkO (zif (toL y)) [1] F) hs' (by rw [List.length_append]; simp only [List.length_cons, List.length_nil]; omega)
          (fun c=>by
            unfold zkO
            by_cases hc:c=zif (toL y)
            · rw [decide_eq_true hc]
              exact ⟨fun _=>⟨y,by simp,hc.symm⟩,fun _=>rfl⟩
            · rw [decide_eq_false hc]
              refine (hF c).trans ⟨fun ⟨x,hx,e⟩=>⟨x,List.mem_append.2 (.inl hx),e⟩,fun ⟨x,hx,e⟩=>?_⟩
              rcases List.mem_append.1 hx with hx | hx
              · exact ⟨x,hx,e⟩
              · rw [List.mem_singleton.1 hx] at e;exact absurd e.symm hc)
          (by
            rw [List.pairwise_append]
            refine ⟨hp,List.pairwise_singleton _ _,fun a ha b hb=>?_⟩
            rw [List.mem_singleton.1 hb]
            exact fun e=>h1 ((hF _).2 ⟨a,ha,by rw [e]⟩))
        have hy:y∈C:=c4 y (by simp)
        refine ⟨C,by simp only [decide_true,Bool.true_and,Bool.not_false,cond_true];exact c1,by simp only [Bool.not_false,cond_true];exact c2,fun s h=>?_,fun s h=>c4 s (List.mem_append.2 (.inl h)),fun s h ha=>?_,c6⟩
        · rcases c3 s h with h | h
          · rcases List.mem_append.1 h with h | h
            · exact .inl h
            · rw [List.mem_singleton.1 h];exact .inr ⟨List.mem_cons_self,a2.1 h2⟩
          · exact .inr ⟨List.mem_cons_of_mem _ h.1,h.2⟩
        · rcases List.mem_cons.1 h with rfl | h
          · exact ⟨s,hy,rfl⟩
          · exact c5 s h ha
      · have h2' : s97 ⟨⟨g⟩, acc.foldl apL zgo⟩ y = false := by simpa using h2
        rw [h2']
        obtain ⟨C,c1,c2,c3,c4,c5,c6⟩:=skip
        refine ⟨C,by simp only [decide_true,Bool.true_and,Bool.not_false,cond_true,cond_false];exact c1,by simp only [Bool.not_false,cond_true,cond_false];exact c2,fun s h=>(c3 s h).imp id fun k=>⟨List.mem_cons_of_mem _ k.1,k.2⟩,c4,fun s h ha=>?_,c6⟩
        rcases List.mem_cons.1 h with rfl | h
        · exact absurd (a2.2 ha) h2
        · exact c5 s h ha
theorem zmS (g:Sl Gate) (G:zaw g):∃ C:List straight,p65 g=true∧s65 g=⟨⟨g⟩,C.foldl apL zgo⟩∧(∀ s∈C,s∈cst g∧zsQ g s)∧(∀ s∈cst g,zsQ g s→∃ x∈C,toL x=toL s)∧C.Pairwise (fun x y=>toL x ≠ toL y):=by
 obtain ⟨e1,e2⟩:=zrY g G
 obtain ⟨f1,f2⟩:=zGp g G
 unfold p65 s65
 rw [e1]
 by_cases hf:zsP g
 ·rw [e2.2 hf]
  refine ⟨[],rfl,rfl,(fun s h=>by cases h),fun s h=>?_,List.Pairwise.nil⟩
  rw [zA2 hf] at h;cases h
 ·have : s67 ⟨g⟩ = false := by cases h : s67 ⟨g⟩; rfl; exact absurd (e2.1 h) hf
  rw [this]
  unfold zl6 zl5 zl4 zl3 zl2 zo0
  rw [f1,f2]
  obtain ⟨C,c1,c2,c3,_,c5,c6⟩:=zGq g G (cst g) [] 0 (fun _=>none) (fun s h=>zkx G h) (by have:=zqz G;simp only [List.length_nil];omega) (fun c=>⟨fun h=>by simp [zdM] at h,fun ⟨x,hx,_⟩=>by cases hx⟩) List.Pairwise.nil
  refine ⟨C,by simp only [decide_true,Bool.true_and,cond_false];exact c1,by simp only [cond_false];exact c2,fun s h=>?_,c5,c6⟩
  rcases c3 s h with h | h
  ·cases h
  ·exact h
end Go.Proofs
namespace Go.Proofs
open Go Go.Pm
set_option maxRecDepth 100000
theorem zA4 (l:Line) (g:Sl Gate):∀ (m i:Nat) (v:Sl Int),i+m=g.len→v.len≤i→((zg5 (addI l g) m i v).len < g.len↔v.len < i∨∃ j,i≤j∧j < g.len∧s72 l (g.get j)=false):=by
 intro m
 induction m with
 | zero =>
  intro i v hi hv
  have:i=g.len:=by omega
  subst this
  exact ⟨fun h=>.inl h,fun h=>h.elim id fun ⟨j,a,b,_⟩=>absurd b (by omega)⟩
 | succ m ih =>
  intro i v hi hv
  show (zg5 (addI l g) m (i+1) (addI l g i v)).len < g.len↔_
  rw [ih (i+1) (addI l g i v) (by omega) (zrQ l g i v hv)]
  unfold addI
  cases h:s72 l (g.get i)
  ·rw [cond_false]
   exact ⟨fun _=>.inr ⟨i,Nat.le_refl _,by omega,h⟩,fun _=>.inl (by omega)⟩
  ·rw [cond_true]
   refine ⟨fun k=>k.imp (fun (k:v.len+1 < i+1)=>by omega) fun ⟨j,a,b,c⟩=>⟨j,by omega,b,c⟩,fun k=>k.imp (fun k=>by show v.len+1 < i+1;omega) fun ⟨j,a,b,c⟩=>⟨j,?_,b,c⟩⟩
   by_cases hj:j=i
   ·rw [hj,h] at c;cases c
   ·omega
theorem zA5 {g:Sl Gate} (G:zaw g) {s:straight} (S:SOK s):p27 (toL s) g=true∧(((s27 (toL s) g).len:Int) < (g.len:Int)↔¬ zsQ g s):=by
 have hl:=G.2.2
 obtain ⟨a,b⟩:=zJN (toL s) g (by omega)
 refine ⟨a,?_⟩
 rw [b]
 have:=zA4 (toL s) g g.len 0 (⟨0,fun _=>default⟩:Sl Int) (by omega) (Nat.le_refl _)
 have e:((zKr (toL s) g).len < g.len↔_):=this
 rw [show (((zKr (toL s) g).len:Int) < (g.len:Int))↔(zKr (toL s) g).len < g.len by omega,e]
 constructor
 ·rintro (h | ⟨j, _, hj, hc⟩)
  ·exact absurd h (by omega)
  ·intro h
   have:=h j hj
   rw [← zrX S (G.1 j hj),hc] at this;cases this
 ·intro h
  refine .inr (Classical.byContradiction fun hn=>h fun i hi=>?_)
  rw [← zrX S (G.1 i hi)]
  cases hc:s72 (toL s) (g.get i)
  ·exact absurd ⟨i,Nat.zero_le _,hi,hc⟩ hn
  ·rfl
theorem zn0 {α:Type} (l:List α):∀ (v:Sl α) (i:Nat),i < v.len→(l.foldl apL v).get i=v.get i:=by
 induction l with
 | nil=>intro v i _;rfl
 | cons x l ih =>
  intro v i hi
  rw [List.foldl_cons,ih _ _ (show i < v.len+1 by omega)]
  show zdA v.len v.get (fun _=>x) i=_
  unfold zdA
  rw [show Nat.ble v.len i=false by rw [← Bool.not_eq_true,Nat.ble_eq];omega]
theorem zg8 {α:Type} (l:List α):∀ (v:Sl α) (i:Nat) (x:α),l[i]? = some x→(l.foldl apL v).get (v.len+i)=x:=by
 induction l with
 | nil=>intro v i x h;simp at h
 | cons y l ih =>
  intro v i x h
  rw [List.foldl_cons]
  cases i with
  | zero =>
   have h:some y=some x:=h
   cases h
   rw [zn0 _ _ _ (show v.len+0 < v.len+1 by omega)]
   show zdA v.len v.get (fun _=>y) (v.len+0)=_
   unfold zdA
   rw [show Nat.ble v.len (v.len+0)=true by rw [Nat.ble_eq];omega]
  | succ i =>
   have:=ih (apL v y) i x (by simpa using h)
   rw [← this]
   show _=(l.foldl apL (apL v y)).get (v.len+1+i)
   congr 1;omega
def zg9 (g:Sl Gate) (l:Line):Prop:=∃ s∈cst g,zsQ g s∧toL s=l
theorem zJS {g:Sl Gate} (G:zaw g) {a b:Line} (ha:zg9 g a) (hb:zg9 g b):p81 a b g=true:=by
 obtain ⟨x,hx,_,rfl⟩:=ha
 obtain ⟨y,hy,_,rfl⟩:=hb
 unfold p81 zqj
 rw [(zmR g G (zkx G hx)).1,(zmR g G (zkx G hy)).1]
 cases (zqh (toL x) g != zqh (toL y) g) <;> simp
def zGr (out:Sl Line) (A:Nat) (x:Line):Sl Line :=
 ⟨(((A:Int) - (0:Int)).toNat+1)+((out.len:Int) - (A:Int)).toNat,(zdA (((A:Int) - (0:Int)).toNat+1) (zdA (((A:Int) - (0:Int)).toNat) (fun i=>out.get (i+((0:Int).toNat))) (fun _=>x)) (fun i=>out.get (i+A)))⟩
theorem zmT {out:Sl Line} {A:Nat} {x:Line} (h:A≤out.len):(zGr out A x).len=out.len+1:=by
 show (((A:Int) - (0:Int)).toNat+1)+((out.len:Int) - (A:Int)).toNat=_;omega
theorem zih {out:Sl Line} {A:Nat} {x:Line} (j:Nat):(zGr out A x).get j=if j < A then out.get j else if j=A then x else out.get (j - 1):=by
 have e:((A:Int) - (0:Int)).toNat=A:=by omega
 show zdA (((A:Int) - (0:Int)).toNat+1) (zdA (((A:Int) - (0:Int)).toNat) (fun i=>out.get (i+((0:Int).toNat))) (fun _=>x)) (fun i=>out.get (i+A)) j=_
 rw [e]
 unfold zdA
 by_cases h1:A+1≤j
 ·rw [show Nat.ble (A + 1) j = true by rw [Nat.ble_eq]; exact h1, if_neg (by omega), if_neg (by omega)]
  show out.get (j - (A+1)+A)=_
  congr 1;omega
 ·rw [show Nat.ble (A + 1) j = false by rw [← Bool.not_eq_true, Nat.ble_eq]; exact h1]
  by_cases h2:A≤j
  ·have : j = A := by omega
   subst this
   rw [show Nat.ble j j=true by rw [Nat.ble_eq];omega,if_neg (by omega),if_pos rfl]
  ·rw [show Nat.ble A j = false by rw [← Bool.not_eq_true, Nat.ble_eq]; exact h2, if_pos (by omega)]
   rfl
open Classical in
noncomputable def zdW (out:Sl Line) (A:Nat) (x:Line):Sl Line:=if A < out.len∧out.get A=x then out else zGr out A x
theorem zM4 (g : Sl Gate) (lv : Sl Line) (i : Nat) (hi : i < lv.len) (hlv : lv.len ≤ 10000) (S1 : Sl Line → Int → Sl Line) (P1 : Sl Line → Int → Bool) (out : Sl Line) (A : Nat) (hA : A ≤ out.len) (ho : out.len ≤ 10000) :
  zkm P1 g lv out (i:Int) (A:Int)=P1 (zdW out A (lv.get i)) ((i+1:Nat):Int)∧zkl S1 g lv out (i:Int) (A:Int)=S1 (zdW out A (lv.get i)) ((i+1:Nat):Int):=by
 have w:=zbC (n:=lv.len) hi (by omega)
 have k1:decide (0≤(i:Int)∧(i:Int) < (lv.len:Int))=true:=decide_eq_true (by omega)
 have k2:decide (0≤(0:Int)∧(0:Int)≤(A:Int)∧(A:Int)≤(out.len:Int))=true:=decide_eq_true (by omega)
 have k3:decide (((A:Int) - (0:Int)).toNat * 32≤140737488355328∧((A:Int) - (0:Int)).toNat≤9223372036854775807)=true:=decide_eq_true (by omega)
 have k4:decide ((((A:Int) - (0:Int)).toNat+1) * 32≤140737488355328∧((A:Int) - (0:Int)).toNat+1≤9223372036854775807)=true:=decide_eq_true (by omega)
 have k5:decide (0≤(A:Int)∧(A:Int)≤(out.len:Int)∧(out.len:Int)≤(out.len:Int))=true:=decide_eq_true (by omega)
 have k6:decide (((((A:Int) - (0:Int)).toNat+1)+((out.len:Int) - (A:Int)).toNat) * 32≤140737488355328∧(((A:Int) - (0:Int)).toNat+1)+((out.len:Int) - (A:Int)).toNat≤9223372036854775807)=true:=decide_eq_true (by omega)
 unfold zkm zkl zdW
 rw [Int.toNat_natCast,Int.toNat_natCast,k1,k2,k3,k4,k5,k6,w]
 by_cases h1:A < out.len
 ·rw [decide_eq_true (show (A : Int) < (out.len : Int) by omega), decide_eq_true (show 0 ≤ (A : Int) ∧ (A : Int) < (out.len : Int) by omega)]
  by_cases h2:out.get A=lv.get i
  ·rw [if_pos ⟨h1, h2⟩, h2, beq_self_eq_true, beq_self_eq_true, beq_self_eq_true, beq_self_eq_true]
   exact ⟨rfl,rfl⟩
  ·rw [if_neg fun h => h2 h.2]
   have hne : ¬ (((out.get A).Slope.Num == (lv.get i).Slope.Num)=true∧((out.get A).Slope.Den == (lv.get i).Slope.Den)=true∧((out.get A).Start.Num == (lv.get i).Start.Num)=true∧((out.get A).Start.Den == (lv.get i).Start.Den)=true):=by
    rintro ⟨a,b,c,d⟩
    rw [beq_iff_eq] at a b c d
    exact h2 (zky (by unfold zif;rw [a,b,c,d]))
   generalize ((out.get A).Slope.Num == (lv.get i).Slope.Num)=b1 at hne ⊢
   generalize ((out.get A).Slope.Den == (lv.get i).Slope.Den)=b2 at hne ⊢
   generalize ((out.get A).Start.Num == (lv.get i).Start.Num)=b3 at hne ⊢
   generalize ((out.get A).Start.Den == (lv.get i).Start.Den)=b4 at hne ⊢
   cases b1 <;> cases b2 <;> cases b3 <;> cases b4 <;> first | exact ⟨rfl,rfl⟩ | exact absurd ⟨rfl,rfl,rfl,rfl⟩ hne
 ·rw [if_neg fun h => h1 h.1, decide_eq_false (show ¬ (A : Int) < (out.len : Int) by omega)]
  exact ⟨rfl,rfl⟩
theorem zOT (g : Sl Gate) (G : zaw g) (lv : Sl Line) (i : Nat) (hi : i < lv.len) (hlv : lv.len ≤ 10000) (hx : zg9 g (lv.get i)) (S1 : Sl Line → Int → Sl Line) (P1 : Sl Line → Int → Bool) (out : Sl Line) (ho : out.len ≤ 10000) (hM : ∀ j, j < out.len → zg9 g (out.get j)) :
  ∀ (m k a:Nat),a+m=out.len→m < k →
  zh7 P1 g lv k out (i:Int) (a:Int)=P1 (zdW out (zkI (fun j=>!(s81 (out.get j) (lv.get i) g)) m a) (lv.get i)) ((i+1:Nat):Int) ∧
  zgl S1 g lv k out (i:Int) (a:Int)=S1 (zdW out (zkI (fun j=>!(s81 (out.get j) (lv.get i) g)) m a) (lv.get i)) ((i+1:Nat):Int):=by
 intro m
 induction m with
 | zero =>
  intro k a ha hk
  obtain ⟨k,rfl⟩:∃ k',k=k'+1:=⟨k - 1,by omega⟩
  show zh6 P1 g lv (zh7 P1 g lv k) _ _ _=P1 (zdW out a _) _∧zh5 S1 g lv (zgl S1 g lv k) _ _ _=S1 (zdW out a _) _
  unfold zh6 zh5
  rw [decide_eq_false (show ¬ (a:Int) < (out.len:Int) by omega),cond_false,cond_false]
  exact zM4 g lv i hi hlv S1 P1 out a (by omega) ho
 | succ m ih =>
  intro k a ha hk
  obtain ⟨k,rfl⟩:∃ k',k=k'+1:=⟨k - 1,by omega⟩
  obtain ⟨i1,i2⟩:=ih k (a+1) (by omega) (by omega)
  show zh6 P1 g lv (zh7 P1 g lv k) _ _ _=_∧zh5 S1 g lv (zgl S1 g lv k) _ _ _=_
  generalize zh7 P1 g lv k=P at i1
  generalize zgl S1 g lv k=S at i2
  unfold zh6 zh5
  rw [decide_eq_true (show (a:Int) < (out.len:Int) by omega),decide_eq_true (show 0≤(a:Int)∧(a:Int) < (out.len:Int) by omega),decide_eq_true (show 0≤(i:Int)∧(i:Int) < (lv.len:Int) by omega),Int.toNat_natCast,Int.toNat_natCast,zJS G (hM a (by omega)) hx,zbC (n:=out.len) (by omega) (by omega)]
  cases h:s81 (out.get a) (lv.get i) g
  ·rw [zt1 (c := fun j => !(s81 (out.get j) (lv.get i) g)) (by show (!(s81 (out.get a) (lv.get i) g)) = true; rw [h]; rfl)]
   exact zM4 g lv i hi hlv S1 P1 out a (by omega) ho
  ·rw [zt2 (c := fun j => !(s81 (out.get j) (lv.get i) g)) (by show (!(s81 (out.get a) (lv.get i) g)) = false; rw [h]; rfl)]
   exact ⟨i1,i2⟩
end Go.Proofs
namespace Go.Proofs
open Go Go.Pm
set_option maxRecDepth 100000
def Bef (g:Sl Gate) (a b:Line):Prop:=s81 a b g=true
def Tot (g:Sl Gate):Prop:=(∀ a b c,zg9 g a→zg9 g b→zg9 g c→Bef g a b→Bef g b c→Bef g a c)∧∀ a b,zg9 g a→zg9 g b→a ≠ b→Bef g a b∨Bef g b a
def Srt (g:Sl Gate) (v:Sl Line):Prop:=∀ i j,i < j→j < v.len→Bef g (v.get i) (v.get j)
theorem zrZ {g:Sl Gate} (G:zaw g) {s:straight} (h:s∈cst g):zg9 g (toL s)↔zsQ g s:=by
 refine ⟨fun ⟨x,hx,ha,e⟩ i hi=>?_,fun ha=>⟨s,h,ha,rfl⟩⟩
 rw [← zrX (zkx G h) (G.1 i hi),← e,zrX (zkx G hx) (G.1 i hi)]
 exact ha i hi
theorem put_mem {g:Sl Gate} {out:Sl Line} {A:Nat} {x:Line} (hA:A≤out.len) (hM:∀ j,j < out.len→zg9 g (out.get j)) (hx:zg9 g x):∀ j,j < (zdW out A x).len→zg9 g ((zdW out A x).get j):=by
 unfold zdW
 by_cases h:A < out.len∧out.get A=x
 ·rw [if_pos h];exact hM
 ·rw [if_neg h]
  intro j hj
  rw [zmT hA] at hj
  rw [zih]
  split
  ·exact hM j (by omega)
  ·split
   ·exact hx
   ·exact hM (j - 1) (by omega)
theorem zGs {out:Sl Line} {A:Nat} {x:Line} (hA:A≤out.len):(∃ j,j < (zdW out A x).len∧(zdW out A x).get j=x)∧∀ j,j < out.len→∃ i,i < (zdW out A x).len∧(zdW out A x).get i=out.get j:=by
 unfold zdW
 by_cases h:A < out.len∧out.get A=x
 ·rw [if_pos h];exact ⟨⟨A,h.1,h.2⟩,fun j hj=>⟨j,hj,rfl⟩⟩
 ·rw [if_neg h, zmT hA]
  refine ⟨⟨A,by omega,by rw [zih,if_neg (by omega),if_pos rfl]⟩,fun j hj=>?_⟩
  by_cases hj2:j < A
  ·exact ⟨j,by omega,by rw [zih,if_pos hj2]⟩
  ·exact ⟨j+1,by omega,by rw [zih,if_neg (by omega),if_neg (by omega)];rfl⟩
theorem zGt {out:Sl Line} {A:Nat} {x:Line} (hA:A≤out.len):(zdW out A x).len≤out.len+1:=by
 unfold zdW;split
 ·omega
 ·rw [zmT hA];omega
theorem zGu {g : Sl Gate} (T : Tot g) {out : Sl Line} {x : Line} (hM : ∀ j, j < out.len → zg9 g (out.get j)) (hx : zg9 g x) (hs : Srt g out) :
  Srt g (zdW out (zkI (fun j=>!(s81 (out.get j) x g)) out.len 0) x):=by
 have hle:=zBq (fun j=>!(s81 (out.get j) x g)) out.len
 have hlo:∀ j,j < fst (fun j=>!(s81 (out.get j) x g)) out.len→Bef g (out.get j) x:=fun j hj=>by
  have:(!(s81 (out.get j) x g))=false:=zBr (c:=fun j=>!(s81 (out.get j) x g)) hj
  show s81 (out.get j) x g=true
  cases h:s81 (out.get j) x g
  ·rw [h] at this;cases this
  ·rfl
 have hhi:fst (fun j=>!(s81 (out.get j) x g)) out.len < out.len→¬ Bef g (out.get (fst (fun j=>!(s81 (out.get j) x g)) out.len)) x:=fun h hb=>by
  have:(!(s81 (out.get (fst (fun j=>!(s81 (out.get j) x g)) out.len)) x g))=true:=zBs (c:=fun j=>!(s81 (out.get j) x g)) h
  have hb:s81 (out.get (fst (fun j=>!(s81 (out.get j) x g)) out.len)) x g=true:=hb
  rw [hb] at this;cases this
 show Srt g (zdW out (fst (fun j=>!(s81 (out.get j) x g)) out.len) x)
 generalize fst (fun j=>!(s81 (out.get j) x g)) out.len=A at hle hlo hhi ⊢
 unfold zdW
 by_cases h:A < out.len∧out.get A=x
 ·rw [if_pos h];exact hs
 ·rw [if_neg h]
  intro i j hij hj
  rw [zmT hle] at hj
  rw [zih,zih]
  by_cases j1:j < A
  ·rw [if_pos (show i < A by omega),if_pos j1];exact hs i j hij (by omega)
  ·rw [if_neg j1]
   by_cases j2:j=A
   ·rw [if_pos j2,if_pos (show i < A by omega)];exact hlo i (by omega)
   ·rw [if_neg j2]
    by_cases i1:i < A
    ·rw [if_pos i1];exact hs i (j - 1) (by omega) (by omega)
    ·rw [if_neg i1]
     by_cases i2:i=A
     ·rw [if_pos i2]
      have hA:A < out.len:=by omega
      have b1:Bef g x (out.get A):=(T.2 x (out.get A) hx (hM A hA) (fun e=>h ⟨hA,e.symm⟩)).resolve_right (hhi hA)
      by_cases j3:j - 1=A
      ·rw [j3];exact b1
      ·exact T.1 _ _ _ hx (hM A hA) (hM (j - 1) (by omega)) b1 (hs A (j - 1) (by omega) (by omega))
     ·rw [if_neg i2];exact hs (i - 1) (j - 1) (by omega) (by omega)
structure Inv33 (g : Sl Gate) (lv : Sl Line) (i : Nat) (out : Sl Line) : Prop where
  len:out.len≤i
  mem:∀ j,j < out.len→zg9 g (out.get j)
  has:∀ j,j < i→zg9 g (lv.get j)→∃ a,a < out.len∧out.get a=lv.get j
  srt:Tot g→Srt g out
theorem zMh (g:Sl Gate) (G:zaw g) (lv:Sl Line) (hlv:lv.len≤10000) (hc:∀ i,i < lv.len→∃ s∈cst g,lv.get i=toL s):∀ (m k i:Nat) (out:Sl Line),i+m=lv.len→m < k→Inv33 g lv i out →
  zia g lv k out (i:Int)=true∧Inv33 g lv lv.len (zgm g lv k out (i:Int)):=by
 intro m
 induction m with
 | zero =>
  intro k i out hi hk I
  obtain ⟨k,rfl⟩:∃ k',k=k'+1:=⟨k - 1,by omega⟩
  show zh9 g lv (zia g lv k) _ _=_∧Inv33 g lv lv.len (zh8 g lv (zgm g lv k) _ _)
  unfold zh9 zh8
  rw [decide_eq_false (show ¬ (i:Int) < (lv.len:Int) by omega),cond_false,cond_false]
  have:i=lv.len:=by omega
  rw [← this]
  exact ⟨rfl,I⟩
 | succ m ih =>
  intro k i out hi hk I
  obtain ⟨k,rfl⟩:∃ k',k=k'+1:=⟨k - 1,by omega⟩
  have ih:=fun out I=>ih k (i+1) out (by omega) (by omega) I
  show zh9 g lv (zia g lv k) _ _=_∧Inv33 g lv lv.len (zh8 g lv (zgm g lv k) _ _)
  generalize zia g lv k=P at ih
  generalize zgm g lv k=S at ih
  obtain ⟨s,hs,es⟩:=hc i (by omega)
  obtain ⟨p1,p2⟩:=zA5 G (zkx G hs)
  rw [← es] at p1 p2
  unfold zh9 zh8 zql zqk
  rw [decide_eq_true (show (i:Int) < (lv.len:Int) by omega),decide_eq_true (show 0≤(i:Int)∧(i:Int) < (lv.len:Int) by omega),Int.toNat_natCast,p1,zbC (n:=lv.len) (by omega) (by omega),cond_true,cond_true]
  by_cases ha:zsQ g s
  ·rw [decide_eq_false (fun h => p2.1 h ha), cond_false, cond_false]
   have hx:zg9 g (lv.get i):=by rw [es];exact (zrZ G hs).2 ha
   have hl:=I.len
   obtain ⟨b1,b2⟩:=zOT g G lv i (by omega) hlv hx S P out (by omega) I.mem out.len Fuel 0 (by omega) (by simp only [Fuel];omega)
   have hA:=zBq (fun j=>!(s81 (out.get j) (lv.get i) g)) out.len
   have I':Inv33 g lv (i+1) (zdW out (zkI (fun j=>!(s81 (out.get j) (lv.get i) g)) out.len 0) (lv.get i)):=by
    refine ⟨Nat.le_trans (zGt hA) (by omega),put_mem hA I.mem hx,fun j hj hm=>?_,fun T=>zGu T I.mem hx (I.srt T)⟩
    obtain ⟨q1,q2⟩:=zGs (out:=out) (x:=lv.get i) hA
    by_cases hji:j=i
    ·rw [hji];exact q1
    ·obtain ⟨a, ha1, ha2⟩ := I.has j (by omega) hm
     obtain ⟨c,hc1,hc2⟩:=q2 a ha1
     exact ⟨c,hc1,hc2.trans ha2⟩
   have:=ih _ I'
   refine ⟨?_,?_⟩
   ·simp only [decide_true,Bool.true_and];exact b1.trans this.1
   ·have e : zgl S g lv Fuel out (i : Int) (0 : Int) = _ := b2
    rw [e];exact this.2
  ·rw [decide_eq_true (p2.2 ha), cond_true, cond_true]
   have I':Inv33 g lv (i+1) out:=by
    refine ⟨by have:=I.len;omega,I.mem,fun j hj hm=>?_,I.srt⟩
    by_cases hji:j=i
    ·rw [hji,es,zrZ G hs] at hm;exact absurd hm ha
    ·exact I.has j (by omega) hm
   have:=ih _ I'
   exact ⟨by simp only [decide_true,Bool.true_and];exact this.1,this.2⟩
theorem zkz (g:Sl Gate) (G:zaw g):p33 g=true∧(s33 g).len≤2304∧(∀ j,j < (s33 g).len→zg9 g ((s33 g).get j))∧(∀ l,zg9 g l→∃ a,a < (s33 g).len∧(s33 g).get a=l)∧(Tot g→Srt g (s33 g)):=by
  obtain ⟨e1,e2⟩:=zJP g G
  have hlen:(((cst g).map toL).foldl apL (⟨0,fun _=>default⟩:Sl Line)).len=(cst g).length:=by rw [zci,List.length_map];simp
  have hget:∀ i s,(cst g)[i]? = some s→(((cst g).map toL).foldl apL (⟨0,fun _=>default⟩:Sl Line)).get i=toL s:=fun i s h=>by
    have:=zg8 ((cst g).map toL) (⟨0,fun _=>default⟩:Sl Line) i (toL s) (by rw [List.getElem?_map,h];rfl)
    rw [Nat.zero_add] at this;exact this
  have hc:=zqz G
  obtain ⟨a, I⟩ := zMh g G (((cst g).map toL).foldl apL (⟨0, fun _ => default⟩ : Sl Line)) (by omega)
    (fun i hi=>by
      rw [hlen] at hi
      exact ⟨(cst g)[i],List.getElem_mem _,hget i _ (List.getElem?_eq_getElem hi)⟩)
    (cst g).length Fuel 0 (⟨0,fun _=>default⟩:Sl Line) (by omega) (by simp only [Fuel];omega)
    ⟨Nat.le_refl _,fun j hj=>absurd hj (Nat.not_lt_zero _),fun j hj=>absurd hj (Nat.not_lt_zero _),fun _ i j _ hj=>absurd hj (Nat.not_lt_zero _)⟩
  have es:s33 g=zgm g (((cst g).map toL).foldl apL (⟨0,fun _=>default⟩:Sl Line)) Fuel (⟨0,fun _=>default⟩:Sl Line) (0:Int):=by
    unfold s33;rw [e2];rfl
  have I:Inv33 g (((cst g).map toL).foldl apL (⟨0,fun _=>default⟩:Sl Line)) (((cst g).map toL).foldl apL (⟨0,fun _=>default⟩:Sl Line)).len (s33 g):=by rw [es];exact I
  refine ⟨?_,by have:=I.len;omega,I.mem,fun l ⟨s,hs,ha,e⟩=>?_,I.srt⟩
  · unfold p33
    rw [e1,e2]
    simp only [decide_true,Bool.true_and]
    exact a
  · obtain ⟨i, hi⟩ := List.getElem?_of_mem hs
    have hi2:i < (cst g).length:=(List.getElem?_eq_some_iff.1 hi).1
    have hgi:=hget i s hi
    obtain ⟨b,hb1,hb2⟩:=I.has i (by omega) (by rw [hgi];exact ⟨s,hs,ha,rfl⟩)
    exact ⟨b,hb1,by rw [hb2,hgi,e]⟩
end Go.Proofs
namespace Go.Proofs
open Go Go.Pm
set_option maxRecDepth 100000
def cmS (g:Sl Gate) (i:Nat) (s:Int×Int):Int×Int:=(if (g.get i).Low > s.1 then (g.get i).Low else s.1,if (g.get i).High < s.2 then (g.get i).High else s.2)
def com (g:Sl Gate):Int×Int:=zg5 (cmS g) (g.len - 1) 1 ((g.get 0).Low,(g.get 0).High)
theorem zOU (g:Sl Gate) (h:1≤g.len):zg5 (cmS g) g.len 0 ((g.get 0).Low,(g.get 0).High)=com g:=by
 obtain ⟨m,hm⟩:∃ m,g.len=m+1:=⟨g.len - 1,by omega⟩
 unfold com
 rw [hm]
 show zg5 (cmS g) m 1 (cmS g 0 ((g.get 0).Low,(g.get 0).High))=zg5 (cmS g) m 1 _
 have:cmS g 0 ((g.get 0).Low,(g.get 0).High)=((g.get 0).Low,(g.get 0).High):=by
  unfold cmS
  rw [if_neg (by show ¬ (g.get 0).Low > (g.get 0).Low;omega),if_neg (by show ¬ (g.get 0).High < (g.get 0).High;omega)]
 rw [this]
theorem zCr (g:Sl Gate) (G:zaw g):p98 ⟨g⟩=true∧s98 ⟨g⟩=⟨(com g).1,(com g).2⟩:=by
  have hl:=G.2
  have := zg6 (σ := Int × Int) (step := cmS g) (E := fun s => (⟨s.1, s.2⟩ : Span)) (EP := fun _ => true) (Inv := fun _ _ => True) (a := 0) (n := g.len) (lpS := fun k s i => zhv ⟨g⟩ k i s.1 s.2) (lpP := fun k s i => zhw ⟨g⟩ k i s.1 s.2)
    (fun k i s _ hi _=>by
      show zht ⟨g⟩ (zhv ⟨g⟩ k) (i:Int) s.1 s.2=_
      generalize zhv ⟨g⟩ k=S
      unfold zht
      rw [decide_eq_true (show (i:Int) < ((⟨g⟩:list).Gates.len:Int) by show (i:Int) < (g.len:Int);omega),cond_true,Int.toNat_natCast]
      rfl)
    (fun k s=>by
      show zht ⟨g⟩ (zhv ⟨g⟩ k) (g.len:Int) s.1 s.2=_
      unfold zht
      rw [decide_eq_false (show ¬ (g.len:Int) < ((⟨g⟩:list).Gates.len:Int) by show ¬ (g.len:Int) < (g.len:Int);omega),cond_false])
    (fun k i s _ hi _=>by
      show zhu ⟨g⟩ (zhw ⟨g⟩ k) (i:Int) s.1 s.2=_
      generalize zhw ⟨g⟩ k=S
      unfold zhu
      rw [decide_eq_true (show (i:Int) < ((⟨g⟩:list).Gates.len:Int) by show (i:Int) < (g.len:Int);omega),decide_eq_true (show 0≤(i:Int)∧(i:Int) < ((⟨g⟩:list).Gates.len:Int) by show 0≤(i:Int)∧(i:Int) < (g.len:Int);omega),cond_true,Bool.true_and,Int.toNat_natCast]
      rfl)
    (fun k s=>by
      show zhu ⟨g⟩ (zhw ⟨g⟩ k) (g.len:Int) s.1 s.2=_
      unfold zhu
      rw [decide_eq_false (show ¬ (g.len:Int) < ((⟨g⟩:list).Gates.len:Int) by show ¬ (g.len:Int) < (g.len:Int);omega),cond_false])
    (fun _ _ _ _ _=>trivial) (Nat.zero_le _) (by omega) ((g.get 0).Low,(g.get 0).High) trivial
  obtain ⟨a,b⟩:=this
  rw [show g.len - 0=g.len from rfl,zOU g hl.1] at b
  refine ⟨?_,b⟩
  unfold p98
  rw [decide_eq_true (show 0≤(0:Int)∧(0:Int) < ((⟨g⟩:list).Gates.len:Int) from ⟨by omega,by show (0:Int) < (g.len:Int);omega⟩),Bool.true_and,Bool.true_and]
  exact a
theorem zCs (g:Sl Gate) (G:zaw g):p71 g=true∧s71 g=((com g).1,(com g).2,decide ((com g).1≤(com g).2)):=by
  have hl:=G.2
  have := zg6 (σ := Int × Int) (step := cmS g) (E := fun s => (s.1, s.2, decide (s.1 ≤ s.2))) (EP := fun _ => true) (Inv := fun _ _ => True) (a := 1) (n := g.len) (lpS := fun k s i => zid g k s.1 s.2 i) (lpP := fun k s i => zie g k s.1 s.2 i)
    (fun k i s _ hi _=>by
      show zib g (zid g k) s.1 s.2 (i:Int)=_
      generalize zid g k=S
      unfold zib
      rw [decide_eq_true (show (i:Int) < (g.len:Int) by omega),cond_true,Int.toNat_natCast]
      rfl)
    (fun k s=>by
      show zib g (zid g k) s.1 s.2 (g.len:Int)=_
      unfold zib
      rw [decide_eq_false (show ¬ (g.len:Int) < (g.len:Int) by omega),cond_false])
    (fun k i s _ hi _=>by
      show zic g (zie g k) s.1 s.2 (i:Int)=_
      generalize zie g k=S
      unfold zic
      rw [decide_eq_true (show (i:Int) < (g.len:Int) by omega),decide_eq_true (show 0≤(i:Int)∧(i:Int) < (g.len:Int) by omega),cond_true,Bool.true_and,Bool.true_and,Int.toNat_natCast]
      rfl)
    (fun k s=>by
      show zic g (zie g k) s.1 s.2 (g.len:Int)=_
      unfold zic
      rw [decide_eq_false (show ¬ (g.len:Int) < (g.len:Int) by omega),cond_false])
    (fun _ _ _ _ _=>trivial) hl.1 (by omega) ((g.get 0).Low,(g.get 0).High) trivial
  obtain ⟨a,b⟩:=this
  refine ⟨?_,b⟩
  unfold p71
  rw [decide_eq_true (show 0≤(0:Int)∧(0:Int) < (g.len:Int) by omega),Bool.true_and,Bool.true_and]
  exact a
theorem zyR (g:Sl Gate) (G:zaw g):p66 (s65 g)=true∧p21 g=true∧s66 (s65 g)=s21 g:=by
 obtain ⟨C,_,c2,c3,c4,_⟩:=zmS g G
 obtain ⟨a1,a2⟩:=zrY g G
 obtain ⟨b1,b2⟩:=zCr g G
 obtain ⟨d1,d2⟩:=zCs g G
 obtain ⟨e1,e2⟩:=zlj g G
 obtain ⟨f1,_,f3,f4,_⟩:=zkz g G
 have h67:s67 ⟨g⟩=s22 g:=Bool.eq_iff_iff.2 (a2.trans e2.symm)
 have hcl:(C.foldl apL (zgo:Sl straight)).len=C.length:=by rw [zci];simp
 rw [c2]
 unfold p66 s66 p21 s21
 show (decide (p98 ⟨g⟩=true) && (decide (p67 ⟨g⟩=true) && true))=true∧_∧cond (s67 ⟨g⟩) (decide ((s98 ⟨g⟩).Low≤(s98 ⟨g⟩).High)) (decide (((C.foldl apL (zgo:Sl straight)).len:Int) > 0))=_
 rw [a1,b1,b2,d1,d2,e1,f1,h67,hcl]
 refine ⟨by simp,by cases s22 g <;> simp,?_⟩
 cases s22 g
 ·rw [cond_false, cond_false]
  refine decide_eq_decide.2 ⟨fun h=>?_,fun h=>?_⟩
  ·obtain ⟨x, hx⟩ := List.exists_mem_of_length_pos (l := C) (by omega)
   obtain ⟨a,ha,_⟩:=f4 (toL x) ⟨x,(c3 x hx).1,(c3 x hx).2,rfl⟩
   omega
  ·obtain ⟨s, hs, ha, _⟩ := f3 0 (by omega)
   obtain ⟨x,hx,_⟩:=c4 s hs ha
   have:=List.length_pos_of_mem hx
   omega
 ·rfl
end Go.Proofs
namespace Go.Proofs
open Go Go.Pm
set_option maxRecDepth 100000
def FOK (f:Frac):Prop:=(-1000000000000≤f.Num∧f.Num≤1000000000000)∧1≤f.Den∧f.Den≤100000
def ltF (a b:Frac):Prop:=a.Num * b.Den < b.Num * a.Den
theorem zyS (x y:Int):zBJ x y < 0↔x < y:=by
 unfold zBJ zBH
 by_cases h:x < y
 ·simp [h]
 ·by_cases h2:x > y <;> simp [h,h2]
theorem zyT (x y:Int):zBJ x y > 0↔x > y:=by
 unfold zBJ zBH
 by_cases h:x < y
 ·have : ¬ x > y := by omega
  simp [h];omega
 ·by_cases h2:x > y <;> simp [h,h2]
theorem cross {a b:Frac} (ha:FOK a) (hb:FOK b):w64 (a.Num * b.Den)=a.Num * b.Den:=by
 have:=ziY ha.1.1 ha.1.2 (show 0≤b.Den by have:=hb.2;omega) hb.2.2
 exact zaK (by omega) (by omega)
theorem zyU {a b:Frac} (ha:FOK a) (hb:FOK b):zAi a b=true↔ltF a b:=by
 unfold zAi s69 ltF
 rw [cross ha hb,cross hb ha,decide_eq_true_eq,zyS]
theorem zyV {a b:Frac} (ha:FOK a) (hb:FOK b):zAj a b=true↔ltF b a:=by
 unfold zAj s69 ltF
 rw [cross ha hb,cross hb ha,decide_eq_true_eq,zyT]
theorem zlk {a b:Frac} (ha:FOK a) (hb:FOK b):s29 a b=true↔ltF a b:=by
 unfold s29 ltF
 rw [cross ha hb,cross hb ha,decide_eq_true_eq]
theorem zfk {a b:Frac} (ha:0 < a.Den) (hb:0 < b.Den):ltF (red a.Num a.Den) (red b.Num b.Den)↔ltF a b:=by
 have a1:=zdH (num:=a.Num) ha
 have a2:=zda (num:=a.Num) ha
 have b1:=zdH (num:=b.Num) hb
 have b2:=zda (num:=b.Num) hb
 have ga:=zcf (num:=a.Num) ha
 have gb:=zcf (num:=b.Num) hb
 unfold ltF
 generalize red a.Num a.Den=x at *
 generalize red b.Num b.Den=y at *
 generalize (Int.gcd a.Num a.Den:Int)=G at *
 generalize (Int.gcd b.Num b.Den:Int)=K at *
 have hk:=Int.mul_pos ga gb
 have e1:a.Num * b.Den=(G * K) * (x.Num * y.Den):=by rw [← a1,← b2];ac_rfl
 have e2:b.Num * a.Den=(G * K) * (y.Num * x.Den):=by rw [← b1,← a2];ac_rfl
 rw [e1,e2]
 have:=zg7 (x:=y.Num * x.Den) (y:=x.Num * y.Den) hk
 constructor
 ·intro h;exact Int.not_le.1 fun k=>absurd (this.1 k) (by omega)
 ·intro h;exact Int.not_le.1 fun k=>absurd (this.2 k) (by omega)
theorem zfl {f:Frac} (h:FOK f):FOK (red f.Num f.Den):=by
 obtain ⟨h1,h2,h3⟩:=h
 have hd:0 < f.Den:=by omega
 have:=zgn (num:=f.Num) hd
 have:=zkv (num:=f.Num) hd
 have:=zcJ (num:=f.Num) hd
 exact ⟨⟨by omega,by omega⟩,by omega,by omega⟩
theorem zn1 {a b:Frac} (ha:0 < a.Den) (hb:0 < b.Den) (h1 : ¬ ltF a b) (h2 : ¬ ltF b a):red a.Num a.Den=red b.Num b.Den :=
 (znZ ha hb).2 (by unfold ltF at h1 h2;omega)
end Go.Proofs
namespace Go.Proofs
open Go Go.Pm
set_option maxRecDepth 100000
theorem zJT {x y X Y:Int} (h1 : -X≤x) (h2:x≤X) (h3 : -Y≤y) (h4:y≤Y) : -(X * Y)≤x * y∧x * y≤X * Y:=by
 rcases Int.le_total 0 y with h | h
 ·exact ziY h1 h2 h h4
 ·have := ziY (x := x) (y := -y) (X := X) (Y := Y) h1 h2 (by omega) (by omega)
  rw [Int.mul_neg] at this
  omega
theorem zr0 {s:straight} (S:SOK s) {z:Int} (hz : -200000≤z∧z≤200000):p28 (toL s) z=true∧s28 (toL s) z=red (plc s z) s.den:=by
 obtain ⟨S1,S2,S3⟩:=S
 have hd:0 < s.den:=by omega
 have g1:=zcf (num:=s.slope) hd
 have g2:=zcf (num:=s.start) hd
 have r1:=zgn (num:=s.slope) hd
 have r2:=zgn (num:=s.start) hd
 have e1:=zdH (num:=s.slope) hd
 have e2:=zda (num:=s.slope) hd
 have e3:=zdH (num:=s.start) hd
 have e4:=zda (num:=s.start) hd
 have p1:=zcJ (num:=s.slope) hd
 have p2:=zcJ (num:=s.start) hd
 have q1:=zkv (num:=s.slope) hd
 have q2:=zkv (num:=s.start) hd
 unfold p28 s28 zyp zyo toL
 simp only
 generalize (red s.slope s.den).Num=a at *
 generalize (red s.slope s.den).Den=b at *
 generalize (red s.start s.den).Num=c at *
 generalize (red s.start s.den).Den=d at *
 generalize (Int.gcd s.slope s.den:Int)=G1 at *
 generalize (Int.gcd s.start s.den:Int)=G2 at *
 obtain ⟨k1,k2⟩:=zCn d b (by omega) (by omega) (by omega)
 have g0:=zcf (num:=d) p1
 obtain ⟨d',hd'⟩:=zM2 d b
 obtain ⟨b',hb'⟩:=zM3 d b
 rw [k1,k2]
 generalize (Int.gcd d b:Int)=g at *
 have pd:0 < d':=by
  rcases Int.lt_or_le 0 d' with h | h
  ·exact h
  ·have:=Int.mul_le_mul_of_nonneg_left h (Int.le_of_lt g0);rw [← hd',Int.mul_zero] at this;omega
 have pb:0 < b':=by
  rcases Int.lt_or_le 0 b' with h | h
  ·exact h
  ·have:=Int.mul_le_mul_of_nonneg_left h (Int.le_of_lt g0);rw [← hb',Int.mul_zero] at this;omega
 have ld:d'≤d:=by have:=Int.mul_le_mul_of_nonneg_right (show 1≤g by omega) (Int.le_of_lt pd);omega
 have lb:b'≤b:=by have:=Int.mul_le_mul_of_nonneg_right (show 1≤g by omega) (Int.le_of_lt pb);omega
 have t1:d.tdiv g=d':=by rw [hd'];exact Int.mul_tdiv_cancel_left _ (by omega)
 have m1:=ziY (x:=d') (X:=100000) (y:=b) (Y:=100000) (by omega) (by omega) (by omega) (by omega)
 have m2:=Int.mul_pos pd p1
 have t2:(d' * b).tdiv d=b':=by
  have:d' * b=d * b':=by rw [hb',hd'];ac_rfl
  rw [this];exact Int.mul_tdiv_cancel_left _ (by omega)
 have t3:(d' * b).tdiv b=d':=by rw [Int.mul_comm];exact Int.mul_tdiv_cancel_left _ (by omega)
 have m3:=ziY (x:=c) (X:=200000000000) (y:=b') (Y:=100000) (by omega) (by omega) (by omega) (by omega)
 have m4:=ziY (x:=a) (X:=2000000) (y:=d') (Y:=100000) (by omega) (by omega) (by omega) (by omega)
 have m5:=zJT (x:=a * d') (X:=2000000 * 100000) (y:=z) (Y:=200000) (by omega) (by omega) (by omega) (by omega)
 rw [t1,zaK (x:=d') (by omega) (by omega),zaK (x:=d' * b) (by omega) (by omega),t2,t3,zaK (x:=b') (by omega) (by omega),zaK (x:=d') (by omega) (by omega),zaK (x:=c * b') (by omega) (by omega),zaK (x:=a * d') (by omega) (by omega),zaK (x:=a * d' * z) (by omega) (by omega),zaK (x:=c * b'+a * d' * z) (by omega) (by omega)]
 obtain ⟨x1,x2⟩:=zkw (num:=c * b'+a * d' * z) (den:=d' * b) (by omega) (by omega) (by omega) (by omega)
 rw [x1,x2,decide_eq_true (show g ≠ 0 by omega),decide_eq_true (show d ≠ 0 by omega),decide_eq_true (show b ≠ 0 by omega)]
 refine ⟨by simp,(znZ m2 hd).2 ?_⟩
 unfold plc
 have u1:c * b' * s.den=s.start * (d' * b):=by
  rw [← e3,← e4,hb',hd'];ac_rfl
 have u2:a * d' * z * s.den=s.slope * z * (d' * b):=by
  rw [← e1,← e2];ac_rfl
 rw [Int.add_mul,Int.add_mul,u1,u2]
theorem zfJ {a b c:Frac} (ha:0 < a.Den) (hb:0 < b.Den) (hc:0 < c.Den) (h1 : ¬ ltF b a) (h2 : ¬ ltF c b) : ¬ ltF c a:=by
 unfold ltF at *
 intro h3
 -- a ≤ b, b ≤ c, c < a
 have x1:a.Num * b.Den≤b.Num * a.Den:=by omega
 have x2:b.Num * c.Den≤c.Num * b.Den:=by omega
 have y1:=Int.mul_le_mul_of_nonneg_right x1 (Int.le_of_lt hc)
 have y2:=Int.mul_le_mul_of_nonneg_right x2 (Int.le_of_lt ha)
 have y3:=Int.mul_lt_mul_of_pos_right h3 hb
 have z1:b.Num * a.Den * c.Den=b.Num * c.Den * a.Den:=by ac_rfl
 have z2:c.Num * b.Den * a.Den=c.Num * a.Den * b.Den:=by ac_rfl
 have z3:a.Num * b.Den * c.Den=a.Num * c.Den * b.Den:=by ac_rfl
 omega
def zeD (v:Sl Frac) (f:Frac):Prop:=(∃ i,i < v.len∧v.get i=f)∧∀ j,j < v.len→¬ ltF (v.get j) f
def zeE (v:Sl Frac) (f:Frac):Prop:=(∃ i,i < v.len∧v.get i=f)∧∀ j,j < v.len→¬ ltF f (v.get j)
theorem zGv (v:Sl Frac) (h1:1≤v.len) (h2:v.len≤100000) (hv:∀ i,i < v.len→FOK (v.get i)):zGK v=true∧zeD v (zpc v):=by
  have key:∀ (m k i:Nat) (sl:Sl Frac) (o:Frac),sl.len=v.len - 1→(∀ x,sl.get x=v.get (x+1))→i+m=v.len - 1→m < k→(∃ a,a < v.len∧v.get a=o)→(∀ j,j≤i→¬ ltF (v.get j) o) →
      zfy v k sl (i:Int) o.Num o.Den=true∧zeD v (zfx v k sl (i:Int) o.Num o.Den):=by
    intro m
    induction m with
    | zero =>
      intro k i sl o hs hg hi hk ho hl
      obtain ⟨k,rfl⟩:∃ k',k=k'+1:=⟨k - 1,by omega⟩
      show zfw v (zfy v k) _ _ _ _=_∧zeD v (zfv v (zfx v k) _ _ _ _)
      unfold zfw zfv
      rw [decide_eq_false (show ¬ (i:Int) < (((v.len:Int) - (1:Int)).toNat:Int) by omega),cond_false,cond_false]
      exact ⟨rfl,ho,fun j hj=>hl j (by omega)⟩
    | succ m ih =>
      intro k i sl o hs hg hi hk ho hl
      obtain ⟨k,rfl⟩:∃ k',k=k'+1:=⟨k - 1,by omega⟩
      have ih:=fun o ho hl=>ih k (i+1) sl o hs hg (by omega) (by omega) ho hl
      show zfw v (zfy v k) _ _ _ _=_∧zeD v (zfv v (zfx v k) _ _ _ _)
      generalize zfy v k=P at ih
      generalize zfx v k=S at ih
      unfold zfw zfv zmh zmg
      have ho':=ho
      obtain ⟨a,ha,ea⟩:=ho'
      have fo:FOK o:=ea ▸ hv a ha
      have fx:=hv (i+1) (by omega)
      rw [decide_eq_true (show (i:Int) < (((v.len:Int) - (1:Int)).toNat:Int) by omega),decide_eq_true (show 0≤(i:Int)∧(i:Int) < (sl.len:Int) by omega),cond_true,cond_true,Bool.true_and,Int.toNat_natCast,hg,zbC (n:=v.len) (by omega) (by omega)]
      by_cases hlt:ltF (v.get (i+1)) o
      · rw [show zAi (v.get (i + 1)) (⟨o.Num, o.Den⟩ : Frac) = true from (zyU fx fo).2 hlt, cond_true, cond_true]
        refine ih (v.get (i+1)) ⟨i+1,by omega,rfl⟩ fun j hj=>?_
        by_cases hji:j=i+1
        · rw [hji];unfold ltF;omega
        · have g1 := hl j (by omega)
          have fj:=hv j (by omega)
          refine zfJ (b:=o) (by have:=fx.2;omega) (by have:=fo.2;omega) (by have:=fj.2;omega) ?_ g1
          unfold ltF at hlt ⊢;omega
      · have e:zAi (v.get (i+1)) (⟨o.Num,o.Den⟩:Frac)=false:=by
          cases h:zAi (v.get (i+1)) (⟨o.Num,o.Den⟩:Frac)
          · rfl
          · exact absurd ((zyU fx fo).1 h) hlt
        rw [e,cond_false,cond_false]
        refine ih o ho fun j hj=>?_
        by_cases hji:j=i+1
        · rw [hji];exact hlt
        · exact hl j (by omega)
  have hk := key (v.len - 1) Fuel 0 (⟨((v.len : Int) - (1:Int)).toNat, (fun i => v.get (i + ((1:Int).toNat)))⟩ : Sl Frac) (v.get 0) (by show ((v.len : Int) - (1:Int)).toNat = _; omega) (fun _ => rfl) (by omega) (by simp only [Fuel]; omega) ⟨0, by omega, rfl⟩
    (fun j hj => by have : j = 0 := by omega
                    rw [this];unfold ltF;omega)
  refine ⟨?_,hk.2⟩
  unfold zGK
  rw [decide_eq_true (show 0≤(0:Int)∧(0:Int) < (v.len:Int) by omega),decide_eq_true (show 0≤(1:Int)∧(1:Int)≤(v.len:Int)∧(v.len:Int)≤(v.len:Int) by omega),Bool.true_and,Bool.true_and]
  exact hk.1
end Go.Proofs
namespace Go.Proofs
open Go Go.Pm
set_option maxRecDepth 100000
theorem zA6 (v:Sl Frac) (h1:1≤v.len) (h2:v.len≤100000) (hv:∀ i,i < v.len→FOK (v.get i)):zsE v=true∧zeE v (s111a v):=by
  have key:∀ (m k i:Nat) (sl:Sl Frac) (o:Frac),sl.len=v.len - 1→(∀ x,sl.get x=v.get (x+1))→i+m=v.len - 1→m < k→(∃ a,a < v.len∧v.get a=o)→(∀ j,j≤i→¬ ltF o (v.get j)) →
      zd8 v k sl (i:Int) o.Num o.Den=true∧zeE v (zd7 v k sl (i:Int) o.Num o.Den):=by
    intro m
    induction m with
    | zero =>
      intro k i sl o hs hg hi hk ho hl
      obtain ⟨k,rfl⟩:∃ k',k=k'+1:=⟨k - 1,by omega⟩
      show zd6 v (zd8 v k) _ _ _ _=_∧zeE v (zd5 v (zd7 v k) _ _ _ _)
      unfold zd6 zd5
      rw [decide_eq_false (show ¬ (i:Int) < (((v.len:Int) - (1:Int)).toNat:Int) by omega),cond_false,cond_false]
      exact ⟨rfl,ho,fun j hj=>hl j (by omega)⟩
    | succ m ih =>
      intro k i sl o hs hg hi hk ho hl
      obtain ⟨k,rfl⟩:∃ k',k=k'+1:=⟨k - 1,by omega⟩
      have ih:=fun o ho hl=>ih k (i+1) sl o hs hg (by omega) (by omega) ho hl
      show zd6 v (zd8 v k) _ _ _ _=_∧zeE v (zd5 v (zd7 v k) _ _ _ _)
      generalize zd8 v k=P at ih
      generalize zd7 v k=S at ih
      unfold zd6 zd5 zjS zjR
      have ho':=ho
      obtain ⟨a,ha,ea⟩:=ho'
      have fo:FOK o:=ea ▸ hv a ha
      have fx:=hv (i+1) (by omega)
      rw [decide_eq_true (show (i:Int) < (((v.len:Int) - (1:Int)).toNat:Int) by omega),decide_eq_true (show 0≤(i:Int)∧(i:Int) < (sl.len:Int) by omega),cond_true,cond_true,Bool.true_and,Int.toNat_natCast,hg,zbC (n:=v.len) (by omega) (by omega)]
      by_cases hlt:ltF o (v.get (i+1))
      · rw [show zAj (v.get (i + 1)) (⟨o.Num, o.Den⟩ : Frac) = true from (zyV fx fo).2 hlt, cond_true, cond_true]
        refine ih (v.get (i+1)) ⟨i+1,by omega,rfl⟩ fun j hj=>?_
        by_cases hji:j=i+1
        · rw [hji];unfold ltF;omega
        · have g1 := hl j (by omega)
          have fj:=hv j (by omega)
          refine zfJ (b:=o) (by have:=fj.2;omega) (by have:=fo.2;omega) (by have:=fx.2;omega) g1 ?_
          unfold ltF at hlt ⊢;omega
      · have e:zAj (v.get (i+1)) (⟨o.Num,o.Den⟩:Frac)=false:=by
          cases h:zAj (v.get (i+1)) (⟨o.Num,o.Den⟩:Frac)
          · rfl
          · exact absurd ((zyV fx fo).1 h) hlt
        rw [e,cond_false,cond_false]
        refine ih o ho fun j hj=>?_
        by_cases hji:j=i+1
        · rw [hji];exact hlt
        · exact hl j (by omega)
  have hk := key (v.len - 1) Fuel 0 (⟨((v.len : Int) - (1:Int)).toNat, (fun i => v.get (i + ((1:Int).toNat)))⟩ : Sl Frac) (v.get 0) (by show ((v.len : Int) - (1:Int)).toNat = _; omega) (fun _ => rfl) (by omega) (by simp only [Fuel]; omega) ⟨0, by omega, rfl⟩
    (fun j hj => by have : j = 0 := by omega
                    rw [this];unfold ltF;omega)
  refine ⟨?_,hk.2⟩
  unfold zsE
  rw [decide_eq_true (show 0≤(0:Int)∧(0:Int) < (v.len:Int) by omega),decide_eq_true (show 0≤(1:Int)∧(1:Int)≤(v.len:Int)∧(v.len:Int)≤(v.len:Int) by omega),Bool.true_and,Bool.true_and]
  exact hk.1
theorem zyW {w : Nat → Frac} {n : Nat} (h1 : 1 ≤ n) (hn : n ≤ 100000) (hw : ∀ j, j < n → FOK (w j)) {lpS : Nat → Int → Frac → Frac → Frac × Frac} {lpP : Nat → Int → Frac → Frac → Bool}
    (hS:∀ (k i:Nat) (a b:Frac),i < n→lpS (k+1) (i:Int) a b=lpS k (w64 ((i:Int)+(1:Int))) (cond (s29 (w i) a) (w i) a) (cond (s29 b (w i)) (w i) b))
    (hE:∀ (k:Nat) (a b:Frac),lpS (k+1) (n:Int) a b=(a,b))
    (hP:∀ (k i:Nat) (a b:Frac),i < n→lpP (k+1) (i:Int) a b=lpP k (w64 ((i:Int)+(1:Int))) (cond (s29 (w i) a) (w i) a) (cond (s29 b (w i)) (w i) b))
    (hF:∀ (k:Nat) (a b:Frac),lpP (k+1) (n:Int) a b=true) :
    lpP Fuel (1:Int) (w 0) (w 0)=true∧zeD ⟨n,w⟩ (lpS Fuel (1:Int) (w 0) (w 0)).1∧zeE ⟨n,w⟩ (lpS Fuel (1:Int) (w 0) (w 0)).2:=by
  have key:∀ (m k i:Nat) (a b:Frac),i+m=n→m < k→(∃ j,j < n∧w j=a)→(∃ j,j < n∧w j=b)→(∀ j,j < i→¬ ltF (w j) a)→(∀ j,j < i→¬ ltF b (w j)) →
      lpP k (i:Int) a b=true∧zeD ⟨n,w⟩ (lpS k (i:Int) a b).1∧zeE ⟨n,w⟩ (lpS k (i:Int) a b).2:=by
    intro m
    induction m with
    | zero =>
      intro k i a b hi hk ha hb hl hg
      obtain ⟨k,rfl⟩:∃ k',k=k'+1:=⟨k - 1,by omega⟩
      obtain rfl:i=n:=by omega
      rw [hE,hF]
      exact ⟨rfl,⟨ha,hl⟩,hb,hg⟩
    | succ m ih =>
      intro k i a b hi hk ha hb hl hg
      obtain ⟨k,rfl⟩:∃ k',k=k'+1:=⟨k - 1,by omega⟩
      have hin:i < n:=by omega
      rw [hS k i a b hin,hP k i a b hin,zbC (n:=n) hin (by omega)]
      have fi:=hw i hin
      have fa:FOK a:=by obtain ⟨j,hj,e⟩:=ha;exact e ▸ hw j hj
      have fb:FOK b:=by obtain ⟨j,hj,e⟩:=hb;exact e ▸ hw j hj
      have pi:=fi.2;have pa:=fa.2;have pb:=fb.2
      refine ih k (i+1) _ _ (by omega) (by omega) ?_ ?_ ?_ ?_
      · cases s29 (w i) a
        · exact ha
        · exact ⟨i,hin,rfl⟩
      · cases s29 b (w i)
        · exact hb
        · exact ⟨i,hin,rfl⟩
      · intro j hj
        cases e:s29 (w i) a
        · by_cases hji : j = i
          · rw [hji];intro h;rw [(zlk fi fa).2 h] at e;cases e
          · exact hl j (by omega)
        · have hlt := (zlk fi fa).1 e
          show ¬ ltF (w j) (w i)
          by_cases hji:j=i
          · rw [hji];unfold ltF;omega
          · have fj := (hw j (by omega)).2
            refine zfJ (b:=a) (by omega) (by omega) (by omega) ?_ (hl j (by omega))
            unfold ltF at hlt ⊢;omega
      · intro j hj
        cases e:s29 b (w i)
        · by_cases hji : j = i
          · rw [hji];intro h;rw [(zlk fb fi).2 h] at e;cases e
          · exact hg j (by omega)
        · have hlt := (zlk fb fi).1 e
          show ¬ ltF (w i) (w j)
          by_cases hji:j=i
          · rw [hji];unfold ltF;omega
          · have fj := (hw j (by omega)).2
            refine zfJ (b:=b) (by omega) (by omega) (by omega) (hg j (by omega)) ?_
            unfold ltF at hlt ⊢;omega
  exact key (n - 1) Fuel 1 (w 0) (w 0) (by omega) (by simp only [Fuel]; omega) ⟨0, by omega, rfl⟩ ⟨0, by omega, rfl⟩
    (fun j hj => by have : j = 0 := by omega
                    rw [this]; unfold ltF; omega) (fun j hj => by have : j = 0 := by omega
                                                                  rw [this];unfold ltF;omega)
abbrev rd_ (f:Frac):Frac:=red f.Num f.Den
theorem zsR {f:Frac} (h:0 < f.Den):rd_ (rd_ f)=rd_ f:=by
 have p:=zcJ (num:=f.Num) h
 refine (znZ p h).2 ?_
 have e1:=zdH (num:=f.Num) h
 have e2:=zda (num:=f.Num) h
 show (red f.Num f.Den).Num * f.Den=f.Num * (red f.Num f.Den).Den
 generalize red f.Num f.Den=x at *
 generalize (Int.gcd f.Num f.Den:Int)=G at *
 rw [← e1,← e2];ac_rfl
theorem zn2 {a b:Frac} (ha:0 < a.Den) (hb:0 < b.Den):ltF (rd_ a) b↔ltF a b:=by
 have p:=zcJ (num:=a.Num) ha
 have e:red (rd_ a).Num (rd_ a).Den=red a.Num a.Den:=zsR ha
 rw [← zfk (a:=rd_ a) (b:=b) p hb,e,zfk ha hb]
theorem zn3 {a b:Frac} (ha:0 < a.Den) (hb:0 < b.Den):ltF a (rd_ b)↔ltF a b:=by
 have p:=zcJ (num:=b.Num) hb
 have e:red (rd_ b).Num (rd_ b).Den=red b.Num b.Den:=zsR hb
 rw [← zfk (a:=a) (b:=rd_ b) ha p,e,zfk ha hb]
def Cor (g:Sl Gate) (s:straight):Prop:=s∈cst g∧zsQ g s
def Bd (g:Sl Gate) (F:straight→Frac) (lo hi:Frac):Prop :=
 ((∃ s,Cor g s∧rd_ (F s)=lo)∧∀ s,Cor g s→¬ ltF (F s) lo)∧(∃ s,Cor g s∧rd_ (F s)=hi)∧∀ s,Cor g s→¬ ltF hi (F s)
theorem zyX {g:Sl Gate} {F:straight→Frac} (hF:∀ s,Cor g s→FOK (F s)) {a b c d:Frac} (h1:Bd g F a b) (h2:Bd g F c d):a=c∧b=d:=by
 obtain ⟨⟨⟨s,hs,e1⟩,l1⟩,⟨t,ht,e2⟩,g1⟩:=h1
 obtain ⟨⟨⟨u,hu,e3⟩,l2⟩,⟨v,hv,e4⟩,g2⟩:=h2
 have ps:=(hF s hs).2;have pt:=(hF t ht).2;have pu:=(hF u hu).2;have pv:=(hF v hv).2
 refine ⟨?_,?_⟩
 ·rw [← e1, ← e3]
  refine zn1 (by omega) (by omega) ?_ ?_
  ·have:=l2 s hs;rw [← e3,zn3 (by omega) (by omega)] at this;exact this
  ·have:=l1 u hu;rw [← e1,zn3 (by omega) (by omega)] at this;exact this
 ·rw [← e2, ← e4]
  refine zn1 (by omega) (by omega) ?_ ?_
  ·have:=g1 v hv;rw [← e2,zn2 (by omega) (by omega)] at this;exact this
  ·have:=g2 t ht;rw [← e4,zn2 (by omega) (by omega)] at this;exact this
theorem zJU {g : Sl Gate} {F : straight → Frac} (hF : ∀ s, Cor g s → FOK (F s)) {v : Sl Frac} {lo hi : Frac} (h1 : ∀ i, i < v.len → ∃ s, Cor g s ∧ rd_ (F s) = rd_ (v.get i) ∧ 0 < (v.get i).Den)
    (h2:∀ s,Cor g s→∃ i,i < v.len∧rd_ (F s)=rd_ (v.get i)) (hl:zeD v lo) (hg:zeE v hi):Bd g F (rd_ lo) (rd_ hi):=by
  obtain ⟨⟨i,hi1,ei⟩,l⟩:=hl
  obtain ⟨⟨j,hj1,ej⟩,r⟩:=hg
  obtain ⟨si,ci,ri,pi⟩:=h1 i hi1
  obtain ⟨sj,cj,rj,pj⟩:=h1 j hj1
  refine ⟨⟨⟨si,ci,by rw [ri,ei]⟩,fun s hs=>?_⟩,⟨sj,cj,by rw [rj,ej]⟩,fun s hs=>?_⟩
  · obtain ⟨k, hk, ek⟩ := h2 s hs
    have ps:=(hF s hs).2
    obtain ⟨_,_,_,pk⟩:=h1 k hk
    rw [ei] at pi
    rw [zn3 (by omega) pi,← zn2 (by omega) pi,ek,zn2 pk pi]
    exact l k hk
  · obtain ⟨k, hk, ek⟩ := h2 s hs
    have ps:=(hF s hs).2
    obtain ⟨_,_,_,pk⟩:=h1 k hk
    rw [ej] at pj
    rw [zn2 pj (by omega),← zn3 pj (by omega),ek,zn3 pj pk]
    exact r k hk
end Go.Proofs
namespace Go.Proofs
open Go Go.Pm
set_option maxRecDepth 100000
abbrev plF (z:Int) (s:straight):Frac:=⟨plc s z,s.den⟩
abbrev slF (s:straight):Frac:=⟨s.slope,s.den⟩
theorem zyY {s:straight} (S:SOK s) {z:Int} (hz : -200000≤z∧z≤200000):(-400000000000≤s.slope * z∧s.slope * z≤400000000000)∧-600000000000≤plc s z∧plc s z≤600000000000:=by
 have:=zJT S.1.1 S.1.2 hz.1 hz.2
 have:=S.2.1
 unfold plc
 omega
theorem zr1 {s:straight} (S:SOK s) {z:Int} (hz : -200000≤z∧z≤200000):FOK (plF z s) :=
 ⟨⟨by show -1000000000000≤plc s z;have:=zyY S hz;omega,by show plc s z≤1000000000000;have:=zyY S hz;omega⟩,S.2.2⟩
theorem zfm {s:straight} (S:SOK s):FOK (slF s):=⟨⟨by show -1000000000000≤s.slope;have:=S.1;omega,by show s.slope≤1000000000000;have:=S.1;omega⟩,S.2.2⟩
theorem zGw {s:straight} (S:SOK s) {z:Int} (hz : -200000≤z∧z≤200000):zuV z s=plF z s:=by
 obtain ⟨a,b⟩:=zyY S hz
 unfold plc at b
 unfold zuV zIo plF plc
 rw [zaK (x:=s.slope * z) (by omega) (by omega),zaK (x:=s.start+s.slope * z) (by omega) (by omega)]
theorem zb1 {g:Sl Gate} (G:zaw g) {s:straight} (h:Cor g s):SOK s:=zkx G h.1
abbrev lst {α:Type} [Inhabited α] (l:List α):Sl α:=l.foldl apL zgo
theorem zfn {α:Type} [Inhabited α] (l:List α):(lst l).len=l.length:=by
 show (l.foldl apL zgo).len=_
 rw [zci];simp [zgo]
theorem zgp {α:Type} [Inhabited α] {l:List α} {i:Nat} {x:α} (h:l[i]? = some x):(lst l).get i=x:=by
 have:=zg8 l zgo i x h
 rw [show (zgo:Sl α).len+i=i from Nat.zero_add i] at this;exact this
structure CorL (g : Sl Gate) (C : List straight) : Prop where
  len:C.length≤100000
  mem:∀ s∈C,Cor g s
  all:∀ s,Cor g s→∃ x∈C,toL x=toL s
def ne (C:List straight):Prop:=1≤C.length
theorem zyZ {g:Sl Gate} {C:List straight} (h:CorL g C):(1≤C.length)↔∃ s,Cor g s:=by
 constructor
 ·intro h1
  match C,h1 with
  | x :: C,_=>exact ⟨x,h.mem x List.mem_cons_self⟩
 ·intro ⟨s, hs⟩
  obtain ⟨x,hx,_⟩:=h.all s hs
  exact List.length_pos_of_mem hx
def frS (F:straight→Frac) (C:List straight):Sl Frac:=lst (C.map F)
theorem zJV {g : Sl Gate} (G : zaw g) {C : List straight} (H : CorL g C) {F : straight → Frac} (hF : ∀ s, Cor g s → FOK (F s)) (hc : ∀ x y, Cor g x → Cor g y → toL x = toL y → rd_ (F x) = rd_ (F y)) {lo hi : Frac}
    (hl:zeD (frS F C) lo) (hg:zeE (frS F C) hi):Bd g F (rd_ lo) (rd_ hi):=by
  have get:∀ (i:Nat) (s:straight),C[i]? = some s→(frS F C).get i=F s:=fun i s h=>zgp (by rw [List.getElem?_map,h];rfl)
  refine zJU hF (fun i hi=>?_) (fun s hs=>?_) hl hg
  · have hi : i < C.length := by have := zfn (C.map F); rw [List.length_map] at this; exact this ▸ hi
    have e:=List.getElem?_eq_getElem hi
    have m:=H.mem _ (List.getElem_mem hi)
    rw [get i _ e]
    exact ⟨_,m,rfl,by have:=(hF _ m).2;omega⟩
  · obtain ⟨x, hx, ex⟩ := H.all s hs
    obtain ⟨i,hi,rfl⟩:=List.getElem_of_mem hx
    refine ⟨i,?_,?_⟩
    · have:=zfn (C.map F);rw [List.length_map] at this;exact this.symm ▸ hi
    · rw [get i _ (List.getElem?_eq_getElem hi)]
      exact hc _ _ hs (H.mem _ hx) ex.symm
theorem zGx {g:Sl Gate} (G:zaw g) {z:Int} (hz : -200000≤z∧z≤200000) (x y:straight) (hx:Cor g x) (hy:Cor g y) (h:toL x=toL y):rd_ (plF z x)=rd_ (plF z y):=by
 have a:=(zr0 (zb1 G hx) hz).2
 have b:=(zr0 (zb1 G hy) hz).2
 show red (plc x z) x.den=red (plc y z) y.den
 rw [← a,← b,h]
theorem zGy {x y:straight} (h:toL x=toL y):rd_ (slF x)=rd_ (slF y):=congrArg Line.Slope h
theorem zmU (F:straight→Frac) (C:List straight):(frS F C).len=C.length:=by
 have:=zfn (C.map F);rw [List.length_map] at this;exact this
theorem zGz {g:Sl Gate} {C:List straight} (H:CorL g C) {F:straight→Frac} (hF:∀ s,Cor g s→FOK (F s)):∀ i,i < (frS F C).len→FOK ((frS F C).get i):=by
 intro i hi
 have hi:i < C.length:=zmU F C ▸ hi
 have:(frS F C).get i=F C[i]:=zgp (by rw [List.getElem?_map,List.getElem?_eq_getElem hi];rfl)
 rw [this]
 exact hF _ (H.mem _ (List.getElem_mem hi))
theorem zy0 {g : Sl Gate} (G : zaw g) {C : List straight} (H : CorL g C) (h1 : 1 ≤ C.length) {F : straight → Frac} (hF : ∀ s, Cor g s → FOK (F s)) (hc : ∀ x y, Cor g x → Cor g y → toL x = toL y → rd_ (F x) = rd_ (F y)) :
  zmi (frS F C)=true∧Bd g F (zew (frS F C)).1 (zew (frS F C)).2:=by
 have hn:=zmU F C
 have hl:=H.len
 have fv:=zGz H hF
 obtain ⟨a1,a2⟩:=zGv (frS F C) (by omega) (by omega) fv
 obtain ⟨b1,b2⟩:=zA6 (frS F C) (by omega) (by omega) fv
 have B:=zJV G H hF hc a2 b2
 have fa:FOK (zpc (frS F C)):=by obtain ⟨⟨i,hi,e⟩,_⟩:=a2;exact e ▸ fv i hi
 have fb:FOK (s111a (frS F C)):=by obtain ⟨⟨i,hi,e⟩,_⟩:=b2;exact e ▸ fv i hi
 obtain ⟨fa1,fa2⟩:=fa
 obtain ⟨fb1,fb2⟩:=fb
 obtain ⟨c1,c2⟩:=ziu (num:=(zpc (frS F C)).Num) (den:=(zpc (frS F C)).Den) (by omega) (by omega) (by omega) (by omega)
 obtain ⟨d1,d2⟩:=ziu (num:=(s111a (frS F C)).Num) (den:=(s111a (frS F C)).Den) (by omega) (by omega) (by omega) (by omega)
 unfold zmi zew zpi zph zpg zpf
 rw [a1,b1,c1,d1]
 refine ⟨by simp,?_⟩
 show Bd g F (s89 _ _) (s89 _ _)
 rw [c2,d2]
 exact B
theorem zy1 {F:straight→Frac} {C:List straight} {i:Nat} (hi:i < C.length):frS F (C.take (i+1))=apL (frS F (C.take i)) (F ((lst C).get i)):=by
 have e:=zgp (List.getElem?_eq_getElem hi)
 unfold frS
 rw [List.take_succ_eq_append_getElem hi,List.map_append]
 show (List.map F (C.take i) ++ List.map F [C[i]]).foldl apL zgo=_
 rw [List.foldl_append]
 show apL (lst (List.map F (List.take i C))) (F C[i])=_
 rw [e]
theorem zJW {g : Sl Gate} (G : zaw g) {C : List straight} (H : CorL g C) (h1 : 1 ≤ C.length) {z : Int} (hz : -200000 ≤ z ∧ z ≤ 200000) :
  p82 z ⟨⟨g⟩,lst C⟩=true∧Bd g (plF z) (s82 z ⟨⟨g⟩,lst C⟩).1 (s82 z ⟨⟨g⟩,lst C⟩).2:=by
 have hn:=zfn C
 have hl:=H.len
 obtain ⟨x1,x2⟩:=zy0 G H h1 (F:=plF z) (fun s hs=>zr1 (zb1 G hs) hz) (zGx G hz)
 have key:∀ (m k i:Nat),i+m=C.length→m < k→zhI z ⟨⟨g⟩,lst C⟩ k (i:Int) (frS (plF z) (C.take i))=true∧zhH z ⟨⟨g⟩,lst C⟩ k (i:Int) (frS (plF z) (C.take i))=zew (frS (plF z) C):=by
  intro m
  induction m with
  | zero =>
   intro k i hi hk
   obtain ⟨k,rfl⟩:∃ k',k=k'+1:=⟨k - 1,by omega⟩
   show zhG z ⟨⟨g⟩,lst C⟩ (zhI z ⟨⟨g⟩,lst C⟩ k) (i:Int) _=_∧zhF z ⟨⟨g⟩,lst C⟩ (zhH z ⟨⟨g⟩,lst C⟩ k) (i:Int) _=_
   unfold zhG zhF
   rw [decide_eq_false (show ¬ (i:Int) < (((⟨⟨g⟩,lst C⟩:set).corners.len:Nat):Int) by show ¬ (i:Int) < ((lst C).len:Int);omega),cond_false,cond_false,List.take_of_length_le (by omega)]
   exact ⟨x1,rfl⟩
  | succ m ih =>
   intro k i hi hk
   obtain ⟨k,rfl⟩:∃ k',k=k'+1:=⟨k - 1,by omega⟩
   have ih:=ih k (i+1) (by omega) (by omega)
   have hiC:i < C.length:=by omega
   show zhG z ⟨⟨g⟩,lst C⟩ (zhI z ⟨⟨g⟩,lst C⟩ k) (i:Int) _=_∧zhF z ⟨⟨g⟩,lst C⟩ (zhH z ⟨⟨g⟩,lst C⟩ k) (i:Int) _=_
   generalize zhI z ⟨⟨g⟩,lst C⟩ k=P at ih
   generalize zhH z ⟨⟨g⟩,lst C⟩ k=S at ih
   have so:zuV z ((lst C).get i)=plF z ((lst C).get i):=by
    rw [zgp (List.getElem?_eq_getElem hiC)]
    exact zGw (zb1 G (H.mem _ (List.getElem_mem hiC))) hz
   have hv:=zmU (plF z) (C.take i)
   rw [List.length_take] at hv
   unfold zhG zhF
   rw [decide_eq_true (show (i:Int) < (((⟨⟨g⟩,lst C⟩:set).corners.len:Nat):Int) by show (i:Int) < ((lst C).len:Int);omega),cond_true,cond_true,
    decide_eq_true (show 0≤(i:Int)∧(i:Int) < (((⟨⟨g⟩,lst C⟩:set).corners.len:Nat):Int) by show 0≤(i:Int)∧(i:Int) < ((lst C).len:Int);omega),Bool.true_and,
    decide_eq_true (show ((frS (plF z) (C.take i)).len+1) * 16≤140737488355328∧(frS (plF z) (C.take i)).len+1≤9223372036854775807 by omega),Bool.true_and,zbC (n:=C.length) hiC (by omega),Int.toNat_natCast]
   have e:=zy1 (F:=plF z) hiC
   rw [e] at ih
   show P ((i+1:Nat):Int) (apL (frS (plF z) (C.take i)) (zuV z ((lst C).get i)))=true∧S ((i+1:Nat):Int) (apL (frS (plF z) (C.take i)) (zuV z ((lst C).get i)))=_
   rw [so]
   exact ih
 have h:=key C.length Fuel 0 (by omega) (by simp only [Fuel];omega)
 have h2:s82 z ⟨⟨g⟩,lst C⟩=zew (frS (plF z) C):=h.2
 exact ⟨h.1,by rw [h2];exact x2⟩
theorem zGA {g : Sl Gate} (G : zaw g) {C : List straight} (H : CorL g C) (h1 : 1 ≤ C.length) :
  zKo ⟨⟨g⟩,lst C⟩=true∧Bd g slF (zAr ⟨⟨g⟩,lst C⟩).1 (zAr ⟨⟨g⟩,lst C⟩).2:=by
 have hn:=zfn C
 have hl:=H.len
 obtain ⟨x1,x2⟩:=zy0 G H h1 (F:=slF) (fun s hs=>zfm (zb1 G hs)) (fun _ _ _ _ h=>zGy h)
 have key:∀ (m k i:Nat),i+m=C.length→m < k→zfC ⟨⟨g⟩,lst C⟩ k (i:Int) (frS slF (C.take i))=true∧zfB ⟨⟨g⟩,lst C⟩ k (i:Int) (frS slF (C.take i))=zew (frS slF C):=by
  intro m
  induction m with
  | zero =>
   intro k i hi hk
   obtain ⟨k,rfl⟩:∃ k',k=k'+1:=⟨k - 1,by omega⟩
   show zfA ⟨⟨g⟩,lst C⟩ (zfC ⟨⟨g⟩,lst C⟩ k) (i:Int) _=_∧zfz ⟨⟨g⟩,lst C⟩ (zfB ⟨⟨g⟩,lst C⟩ k) (i:Int) _=_
   unfold zfA zfz
   rw [decide_eq_false (show ¬ (i:Int) < (((⟨⟨g⟩,lst C⟩:set).corners.len:Nat):Int) by show ¬ (i:Int) < ((lst C).len:Int);omega),cond_false,cond_false,List.take_of_length_le (by omega)]
   exact ⟨x1,rfl⟩
  | succ m ih =>
   intro k i hi hk
   obtain ⟨k,rfl⟩:∃ k',k=k'+1:=⟨k - 1,by omega⟩
   have ih:=ih k (i+1) (by omega) (by omega)
   have hiC:i < C.length:=by omega
   show zfA ⟨⟨g⟩,lst C⟩ (zfC ⟨⟨g⟩,lst C⟩ k) (i:Int) _=_∧zfz ⟨⟨g⟩,lst C⟩ (zfB ⟨⟨g⟩,lst C⟩ k) (i:Int) _=_
   generalize zfC ⟨⟨g⟩,lst C⟩ k=P at ih
   generalize zfB ⟨⟨g⟩,lst C⟩ k=S at ih
   have hv:=zmU slF (C.take i)
   rw [List.length_take] at hv
   unfold zfA zfz
   rw [decide_eq_true (show (i:Int) < (((⟨⟨g⟩,lst C⟩:set).corners.len:Nat):Int) by show (i:Int) < ((lst C).len:Int);omega),cond_true,cond_true,
    decide_eq_true (show 0≤(i:Int)∧(i:Int) < (((⟨⟨g⟩,lst C⟩:set).corners.len:Nat):Int) by show 0≤(i:Int)∧(i:Int) < ((lst C).len:Int);omega),Bool.true_and,
    decide_eq_true (show ((frS slF (C.take i)).len+1) * 16≤140737488355328∧(frS slF (C.take i)).len+1≤9223372036854775807 by omega),Bool.true_and,zbC (n:=C.length) hiC (by omega),Int.toNat_natCast]
   have e:=zy1 (F:=slF) hiC
   rw [e] at ih
   exact ih
 have h:=key C.length Fuel 0 (by omega) (by simp only [Fuel];omega)
 have h2:zAr ⟨⟨g⟩,lst C⟩=zew (frS slF C):=h.2
 exact ⟨h.1,by rw [h2];exact x2⟩
end Go.Proofs
namespace Go.Proofs
open Go Go.Pm
set_option maxRecDepth 100000
theorem zbB {g:Sl Gate} {l:Line} : zg9 g l↔∃ s,Cor g s∧toL s=l :=
 ⟨fun ⟨s,h1,h2,h3⟩=>⟨s,⟨h1,h2⟩,h3⟩,fun ⟨s,⟨h1,h2⟩,h3⟩=>⟨s,h1,h2,h3⟩⟩
theorem zCt {g : Sl Gate} (G : zaw g) {F : straight → Frac} {w : Nat → Frac} {lo hi : Frac} (hF : ∀ s, Cor g s → FOK (F s)) (hw : ∀ i s, i < (s33 g).len → Cor g s → (s33 g).get i = toL s → w i = rd_ (F s))
    (hl:zeD ⟨(s33 g).len,w⟩ lo) (hg:zeE ⟨(s33 g).len,w⟩ hi):Bd g F lo hi:=by
  obtain ⟨_,_,m1,m2,_⟩:=zkz g G
  have pos:∀ s,Cor g s→0 < (F s).Den:=fun s hs=>by have:=(hF s hs).2;omega
  have hx:∀ i,i < (s33 g).len→∃ s,Cor g s∧w i=rd_ (F s):=fun i hi=>by
    obtain ⟨s,hs,e⟩:=zbB.1 (m1 i hi)
    exact ⟨s,hs,hw i s hi hs e.symm⟩
  have B:=zJU (v:=⟨(s33 g).len,w⟩) hF (fun i hi=>by
      obtain ⟨s,hs,e⟩:=hx i hi
      refine ⟨s,hs,?_,?_⟩
      · show rd_ (F s)=rd_ (w i);rw [e,zsR (pos s hs)]
      · show 0 < (w i).Den;rw [e];exact zcJ (pos s hs))
    (fun s hs=>by
      obtain ⟨i,hi,e⟩:=m2 (toL s) (zbB.2 ⟨s,hs,rfl⟩)
      refine ⟨i,hi,?_⟩
      show rd_ (F s)=rd_ (w i)
      rw [hw i s hi hs e,zsR (pos s hs)]) hl hg
  obtain ⟨⟨i,hi1,e1⟩,_⟩:=hl
  obtain ⟨⟨j,hj1,e2⟩,_⟩:=hg
  obtain ⟨s,hs,e3⟩:=hx i hi1
  obtain ⟨t,ht,e4⟩:=hx j hj1
  have f1:rd_ lo=lo:=by rw [← e1];show rd_ (w i)=w i;rw [e3,zsR (pos s hs)]
  have f2:rd_ hi=hi:=by rw [← e2];show rd_ (w j)=w j;rw [e4,zsR (pos t ht)]
  rw [f1,f2] at B
  exact B
theorem zJX {g:Sl Gate} (G:zaw g) (hc:∃ s,Cor g s) {z:Int} (hz : -200000≤z∧z≤200000):zqv g z=true∧Bd g (plF z) (zqu g z).1 (zqu g z).2:=by
 obtain ⟨q,hlen,m1,m2,_⟩:=zkz g G
 have hpl:∀ i,i < (s33 g).len→p28 ((s33 g).get i) z=true:=fun i hi=>by
  obtain ⟨s,hs,e⟩:=zbB.1 (m1 i hi)
  rw [← e];exact (zr0 (zb1 G hs) hz).1
 have hw:∀ i s,i < (s33 g).len→Cor g s→(s33 g).get i=toL s→s28 ((s33 g).get i) z=rd_ (plF z s):=fun i s _ hs e=>by
  rw [e];exact (zr0 (zb1 G hs) hz).2
 have h1:1≤(s33 g).len:=by
  obtain ⟨s,hs⟩:=hc
  obtain ⟨a,ha,_⟩:=m2 _ (zbB.2 ⟨s,hs,rfl⟩);omega
 have E:=zyW (w:=fun i=>s28 ((s33 g).get i) z) (n:=(s33 g).len) h1 (by omega) (fun j hj=>by
   obtain ⟨s,hs,e⟩:=zbB.1 (m1 j hj)
   show FOK (s28 ((s33 g).get j) z)
   rw [hw j s hj hs e.symm];exact zfl (zr1 (zb1 G hs) hz))
  (lpS:=fun k i a b=>zkp z (s33 g) k i a.Num a.Den b.Num b.Den) (lpP:=fun k i a b=>zkq z (s33 g) k i a.Num a.Den b.Num b.Den)
  (fun k i a b hi=>by
   show zkn z (s33 g) (zkp z (s33 g) k) (i:Int) a.Num a.Den b.Num b.Den=_
   generalize zkp z (s33 g) k=S
   unfold zkn zys zyq zqr
   rw [decide_eq_true (show (i:Int) < ((s33 g).len:Int) by omega),cond_true,Int.toNat_natCast]
   show cond (s29 (s28 ((s33 g).get i) z) a) (cond (s29 b (s28 ((s33 g).get i) z)) _ _) (cond (s29 b (s28 ((s33 g).get i) z)) _ _)=_
   cases s29 (s28 ((s33 g).get i) z) a <;> cases s29 b (s28 ((s33 g).get i) z) <;> rfl)
  (fun k a b=>by
   show zkn z (s33 g) (zkp z (s33 g) k) ((s33 g).len:Int) a.Num a.Den b.Num b.Den=_
   unfold zkn
   rw [decide_eq_false (show ¬ ((s33 g).len:Int) < ((s33 g).len:Int) by omega),cond_false])
  (fun k i a b hi=>by
   show zko z (s33 g) (zkq z (s33 g) k) (i:Int) a.Num a.Den b.Num b.Den=_
   generalize zkq z (s33 g) k=P
   unfold zko zyt zyr zqs
   rw [decide_eq_true (show (i:Int) < ((s33 g).len:Int) by omega),cond_true,decide_eq_true (show 0≤(i:Int)∧(i:Int) < ((s33 g).len:Int) by omega),Int.toNat_natCast,hpl i hi,decide_eq_true (show true=true from rfl),Bool.true_and,Bool.true_and]
   show cond (s29 (s28 ((s33 g).get i) z) a) (cond (s29 b (s28 ((s33 g).get i) z)) _ _) (cond (s29 b (s28 ((s33 g).get i) z)) _ _)=_
   cases s29 (s28 ((s33 g).get i) z) a <;> cases s29 b (s28 ((s33 g).get i) z) <;> rfl)
  (fun k a b=>by
   show zko z (s33 g) (zkq z (s33 g) k) ((s33 g).len:Int) a.Num a.Den b.Num b.Den=_
   unfold zko
   rw [decide_eq_false (show ¬ ((s33 g).len:Int) < ((s33 g).len:Int) by omega),cond_false])
 obtain ⟨x1,x2,x3⟩:=E
 refine ⟨?_,zCt G (F:=plF z) (fun s hs=>zr1 (zb1 G hs) hz) hw x2 x3⟩
 unfold zqv zyv zyu
 rw [q,hpl 0 (by omega),decide_eq_true (show true=true from rfl),decide_eq_true (show 0≤(0:Int)∧(0:Int) < ((s33 g).len:Int) by omega)]
 simp only [Bool.true_and]
 exact x1
theorem zJY {g:Sl Gate} (G:zaw g) (hc:∃ s,Cor g s):p37 g=true∧Bd g slF (s37 g).1 (s37 g).2:=by
 obtain ⟨q,hlen,m1,m2,_⟩:=zkz g G
 have hw:∀ i s,i < (s33 g).len→Cor g s→(s33 g).get i=toL s→((s33 g).get i).Slope=rd_ (slF s):=fun i s _ hs e=>by rw [e];rfl
 have h1:1≤(s33 g).len:=by
  obtain ⟨s,hs⟩:=hc
  obtain ⟨a,ha,_⟩:=m2 _ (zbB.2 ⟨s,hs,rfl⟩);omega
 have E:=zyW (w:=fun i=>((s33 g).get i).Slope) (n:=(s33 g).len) h1 (by omega) (fun j hj=>by
   obtain ⟨s,hs,e⟩:=zbB.1 (m1 j hj)
   show FOK ((s33 g).get j).Slope
   rw [hw j s hj hs e.symm];exact zfl (zfm (zb1 G hs)))
  (lpS:=fun k i a b=>zkt (s33 g) k i a.Num a.Den b.Num b.Den) (lpP:=fun k i a b=>zku (s33 g) k i a.Num a.Den b.Num b.Den)
  (fun k i a b hi=>by
   show zkr (s33 g) (zkt (s33 g) k) (i:Int) a.Num a.Den b.Num b.Den=_
   generalize zkt (s33 g) k=S
   unfold zkr zyC zqw zyA
   rw [decide_eq_true (show (i:Int) < ((s33 g).len:Int) by omega),cond_true,Int.toNat_natCast]
   show cond (s29 ((s33 g).get i).Slope a) (cond (s29 b ((s33 g).get i).Slope) _ _) (cond (s29 b ((s33 g).get i).Slope) _ _)=_
   cases s29 ((s33 g).get i).Slope a <;> cases s29 b ((s33 g).get i).Slope <;> rfl)
  (fun k a b=>by
   show zkr (s33 g) (zkt (s33 g) k) ((s33 g).len:Int) a.Num a.Den b.Num b.Den=_
   unfold zkr
   rw [decide_eq_false (show ¬ ((s33 g).len:Int) < ((s33 g).len:Int) by omega),cond_false])
  (fun k i a b hi=>by
   show zks (s33 g) (zku (s33 g) k) (i:Int) a.Num a.Den b.Num b.Den=_
   generalize zku (s33 g) k=P
   unfold zks zyD zqx zyB
   rw [decide_eq_true (show (i:Int) < ((s33 g).len:Int) by omega),cond_true,decide_eq_true (show 0≤(i:Int)∧(i:Int) < ((s33 g).len:Int) by omega),Int.toNat_natCast]
   simp only [Bool.true_and]
   show cond (s29 ((s33 g).get i).Slope a) (cond (s29 b ((s33 g).get i).Slope) _ _) (cond (s29 b ((s33 g).get i).Slope) _ _)=_
   cases s29 ((s33 g).get i).Slope a <;> cases s29 b ((s33 g).get i).Slope <;> rfl)
  (fun k a b=>by
   show zks (s33 g) (zku (s33 g) k) ((s33 g).len:Int) a.Num a.Den b.Num b.Den=_
   unfold zks
   rw [decide_eq_false (show ¬ ((s33 g).len:Int) < ((s33 g).len:Int) by omega),cond_false])
 obtain ⟨x1,x2,x3⟩:=E
 refine ⟨?_,zCt G (F:=slF) (fun s hs=>zfm (zb1 G hs)) hw x2 x3⟩
 unfold p37 zyE
 rw [q,decide_eq_true (show true=true from rfl),decide_eq_true (show 0≤(0:Int)∧(0:Int) < ((s33 g).len:Int) by omega)]
 simp only [Bool.true_and]
 exact x1
theorem zJZ (g:Sl Gate) (G:zaw g):(-1000000≤(com g).1∧(com g).1≤1000000)∧-1000000≤(com g).2∧(com g).2≤1000000:=by
 have hl:=G.2
 refine znY (Inv:=fun _ (s:Int×Int)=>(-1000000≤s.1∧s.1≤1000000)∧-1000000≤s.2∧s.2≤1000000) (n:=g.len) (fun i s hi h=>?_) (g.len - 1) 1 _ (by omega) ⟨zed (G.1 0 (by omega)),zfN (G.1 0 (by omega))⟩
 have a:=zed (G.1 i hi)
 have b:=zfN (G.1 i hi)
 unfold cmS
 refine ⟨?_,?_⟩
 ·show -1000000 ≤ (if (g.get i).Low > s.1 then (g.get i).Low else s.1) ∧ _
  split
  ·exact a
  ·exact h.1
 ·show -1000000 ≤ (if (g.get i).High < s.2 then (g.get i).High else s.2) ∧ _
  split
  ·exact b
  ·exact h.2
theorem zn4 {α : Type} [DecidableEq α] : ∀ (l m : List α), l.Nodup → (∀ x ∈ l, x ∈ m) → l.length ≤ m.length
  | [],_,_,_=>Nat.zero_le _
  | x :: l,m,hn,h=>by
    have hx:=h x List.mem_cons_self
    rw [List.nodup_cons] at hn
    have:=zn4 l (m.erase x) hn.2 fun y hy=>(List.mem_erase_of_ne (fun (e:y=x)=>hn.1 (by rw [← e];exact hy))).2 (h y (List.mem_cons_of_mem _ hy))
    rw [List.length_erase_of_mem hx] at this
    have:=List.length_pos_of_mem hx
    rw [List.length_cons];omega
theorem zn5 (g:Sl Gate) (G:zaw g):∃ C,p65 g=true∧s65 g=⟨⟨g⟩,lst C⟩∧CorL g C∧(¬ zsP g→(s21 g=true↔∃ s,Cor g s)):=by
 obtain ⟨C,c1,c2,c3,c4,c5⟩:=zmS g G
 obtain ⟨f1,f2⟩:=zlj g G
 obtain ⟨q,hlen,m1,m2,_⟩:=zkz g G
 refine ⟨C,c1,c2,⟨?_,fun s hs=>c3 s hs,fun s hs=>c4 s hs.1 hs.2⟩,fun hf=>?_⟩
 ·-- the reference has as many
  have key:∀ (l:List straight),l.Pairwise (fun x y=>toL x ≠ toL y)→(∀ s∈l,s∈cst g)→l.length≤((cst g).map toL).length:=by
   intro l hp hs
   have hn:(l.map fun s=>zif (toL s)).Nodup:=List.pairwise_map.2 (hp.imp fun h e=>h (zky e))
   have:=zn4 _ ((cst g).map fun s=>zif (toL s)) hn (fun x hx=>by
    obtain ⟨s,hs1,rfl⟩:=List.mem_map.1 hx
    exact List.mem_map.2 ⟨s,hs s hs1,rfl⟩)
   rw [List.length_map,List.length_map] at this;rw [List.length_map];exact this
  have:=key C c5 (fun s hs=>(c3 s hs).1)
  have:=zqz G
  rw [List.length_map] at *
  omega
 ·have e : s22 g = false := by cases h : s22 g; rfl; exact absurd (f2.1 h) hf
  unfold s21
  rw [e,cond_false,decide_eq_true_eq]
  constructor
  ·intro h
   obtain ⟨s,hs,_⟩:=zbB.1 (m1 0 (by omega))
   exact ⟨s,hs⟩
  ·intro ⟨s, hs⟩
   obtain ⟨a,ha,_⟩:=m2 _ (zbB.2 ⟨s,hs,rfl⟩);omega
theorem zy2 (g:Sl Gate) (G:zaw g):p67 ⟨g⟩=true∧p22 g=true∧s67 ⟨g⟩=s22 g :=
 ⟨(zrY g G).1,(zlj g G).1,Bool.eq_iff_iff.2 ((zrY g G).2.trans (zlj g G).2.symm)⟩
theorem zii {g:Sl Gate} (G:zaw g) (h:s22 g=false) : ¬ zsP g:=fun k=>by rw [(zlj g G).2.2 k] at h;cases h
theorem zy3 (g:Sl Gate) (G:zaw g) (hs:s21 g=true) {z:Int} (hz : -200000≤z∧z≤200000):p68 (s65 g) z=true∧p36 g z=true∧s68 (s65 g) z=s36 g z:=by
 obtain ⟨C,c1,c2,H,c4⟩:=zn5 g G
 obtain ⟨f1,f2,f3⟩:=zy2 g G
 obtain ⟨k1,k2⟩:=zJZ g G
 rw [c2]
 unfold p68 s68 p36 s36 zyz zyy
 show (decide (p67 ⟨g⟩=true) && cond (s67 ⟨g⟩) (decide (p98 ⟨g⟩=true) && (decide (p89 (s98 ⟨g⟩).Low (1:Int)=true) && (decide (p89 (s98 ⟨g⟩).High (1:Int)=true) && true))) (decide (p82 z ⟨⟨g⟩,lst C⟩=true) && true))=true∧_ ∧
  cond (s67 ⟨g⟩) (s89 (s98 ⟨g⟩).Low (1:Int),s89 (s98 ⟨g⟩).High (1:Int)) ((s82 z ⟨⟨g⟩,lst C⟩).1,(s82 z ⟨⟨g⟩,lst C⟩).2)=_
 rw [f1,f2,f3]
 cases e:s22 g
 ·have hc := (c4 (zii G e)).1 hs
  obtain ⟨a1,a2⟩:=zJW G H ((zyZ H).2 hc) hz
  obtain ⟨b1,b2⟩:=zJX G hc hz
  obtain ⟨u1,u2⟩:=zyX (fun s hs=>zr1 (zb1 G hs) hz) a2 b2
  rw [cond_false,cond_false,cond_false,cond_false,a1,b1,u1,u2]
  exact ⟨by simp,by simp,rfl⟩
 ·obtain ⟨a1, a2⟩ := zCr g G
  obtain ⟨b1,b2⟩:=zCs g G
  obtain ⟨x1,x2⟩:=ziu (num:=(com g).1) (den:=1) (by omega) (by omega) (by omega) (by omega)
  obtain ⟨y1,y2⟩:=ziu (num:=(com g).2) (den:=1) (by omega) (by omega) (by omega) (by omega)
  obtain ⟨u1,u2⟩:=zkw (num:=(com g).1) (den:=1) (by omega) (by omega) (by omega) (by omega)
  obtain ⟨v1,v2⟩:=zkw (num:=(com g).2) (den:=1) (by omega) (by omega) (by omega) (by omega)
  rw [cond_true,cond_true,cond_true,cond_true,a1,a2,b1,b2]
  unfold zyx zyw
  show (decide (true=true) && (decide (true=true) && (decide (p89 (com g).1 1=true) && (decide (p89 (com g).2 1=true) && true))))=true∧(decide (true=true) && (decide (true=true) && (decide (p40 (com g).1 1=true) && (decide (p40 (com g).2 1=true) && true))))=true∧(s89 (com g).1 1,s89 (com g).2 1)=(s40 (com g).1 1,s40 (com g).2 1)
  rw [x1,x2,y1,y2,u1,u2,v1,v2]
  exact ⟨by simp,by simp,rfl⟩
theorem zy4 (g:Sl Gate) (G:zaw g) (hs:s21 g=true) (hf:s22 g=false):zKo (s65 g)=true∧p37 g=true∧zAr (s65 g)=s37 g:=by
 obtain ⟨C,c1,c2,H,c4⟩:=zn5 g G
 have hc:=(c4 (zii G hf)).1 hs
 obtain ⟨a1,a2⟩:=zGA G H ((zyZ H).2 hc)
 obtain ⟨b1,b2⟩:=zJY G hc
 obtain ⟨u1,u2⟩:=zyX (fun s hs=>zfm (zb1 G hs)) a2 b2
 rw [c2]
 exact ⟨a1,b1,Prod.ext u1 u2⟩
end Go.Proofs
namespace Go.Proofs
open Go Go.Pm
set_option maxRecDepth 100000
abbrev zF:Frac:=⟨0,0⟩
abbrev nS:set:=⟨⟨⟨0,fun _=>default⟩⟩,⟨0,fun _=>default⟩⟩
theorem zy5 (g:Sl Gate) (hn:g.len≤9223372036854775807):s20 g=true↔zaw g:=(zyH g hn).2
theorem zJ0 (g:Sl Gate) (G:zaw g):(p75 g=true∧s75 g=cond (!(s21 g)) (nS,5) (cond (s22 g) (nS,6) (s65 g,0))) ∧
  (∀ z,zDD z g=true∧zn7 z g=cond (!(s21 g)) (nS,5) (cond (s22 g) (cond (!((g.get 0).Z == z)) (nS,6) (s65 g,0)) (s65 g,0)))∧(zGI g=true∧zze g=cond (!(s21 g)) (nS,5) (s65 g,0)):=by
 have hl:=G.2
 obtain ⟨v1,v2⟩:=zyG g (by omega)
 have v2:=v2.2 G
 obtain ⟨q1,q2,q3⟩:=zyR g G
 obtain ⟨C,c1,c2,_⟩:=zn5 g G
 obtain ⟨f1,f2,f3⟩:=zy2 g G
 have el:(s65 g).list=⟨g⟩:=by rw [c2]
 refine ⟨?_,fun z=>?_,?_⟩
 ·unfold p75 s75 zo2 zo1
  rw [v1,v2,c1,q1,q3,el,f1,f3]
  simp only [decide_true,Bool.true_and,Bool.not_true,cond_false]
  cases s21 g <;> cases s22 g <;> exact ⟨rfl,rfl⟩
 ·unfold zDD zn7 zl8 zl7
  rw [v1,v2,c1,q1,q3,el,f1,f3,show p76 z ⟨g⟩=true by unfold p76;rw [decide_eq_true (show 0≤(0:Int)∧(0:Int) < ((⟨g⟩:list).Gates.len:Int) by show 0≤(0:Int)∧(0:Int) < (g.len:Int);omega)];rfl]
  simp only [decide_true,Bool.true_and,Bool.not_true,cond_false]
  cases s21 g <;> cases s22 g <;> exact ⟨rfl,rfl⟩
 ·unfold zGI zze zma zl9
  rw [v1,v2,c1,q1,q3,el,f1,f3]
  simp only [decide_true,Bool.true_and,Bool.not_true,cond_false]
  cases s21 g <;> cases s22 g <;> exact ⟨rfl,rfl⟩
theorem zGB (g:Sl Gate) (hn:g.len≤9223372036854775807) (h:s20 g=false):(p75 g=true∧s75 g=(nS,2))∧(∀ z,zDD z g=true∧zn7 z g=(nS,2))∧(zGI g=true∧zze g=(nS,2)):=by
 obtain ⟨v1,_⟩:=zyG g hn
 have v2:s64 g=false:=by rw [zJM g hn];exact h
 unfold p75 s75 zDD zn7 zGI zze
 rw [v1,v2]
 exact ⟨⟨rfl,rfl⟩,fun _=>⟨rfl,rfl⟩,rfl,rfl⟩
def atR (g:Sl Gate) (z:Int):Frac×Frac×Int:=cond (!(s20 g)) (zF,zF,2) (cond (!(s21 g)) (zF,zF,5) (cond (s22 g && !((g.get 0).Z == z)) (zF,zF,6) ((s36 g z).1,(s36 g z).2,0)))
theorem zJ1 (g:Sl Gate) (G:zaw g):p21 g=true∧p22 g=true∧(s21 g=true→∀ z,-200000≤z∧z≤200000→p36 g z=true)∧(s21 g=true→s22 g=false→p37 g=true) :=
 ⟨(zyR g G).2.1,(zlj g G).1,fun hs z hz=>(zy3 g G hs hz).2.1,fun hs hf=>(zy4 g G hs hf).2.1⟩
end Go.Proofs
namespace Go.Proofs
open Go Go.Pm
set_option maxRecDepth 100000
theorem zJ2 {z p y q:Int} (h:z ≠ y):plc (thr z p y q) z=p * (thr z p y q).den∧plc (thr z p y q) y=q * (thr z p y q).den:=by
 unfold thr plc
 split
 ·constructor
  ·show q * z - p * y + (p - q) * z = p * (z - y)
   rw [Int.sub_mul,Int.mul_sub];omega
  ·show q * z - p * y + (p - q) * y = q * (z - y)
   rw [Int.sub_mul,Int.mul_sub];omega
 ·constructor
  ·show p * y - q * z + (q - p) * z = p * (y - z)
   rw [Int.sub_mul,Int.mul_sub];omega
  ·show p * y - q * z + (q - p) * y = q * (y - z)
   rw [Int.sub_mul,Int.mul_sub];omega
def zy6 (g:Sl Gate) (s:straight):Prop:=∃ i,i < g.len∧plc s (g.get i).Z=(g.get i).High * s.den
theorem zy7 {g:Sl Gate} {s:straight} (h:s∈cst g):zdQ g s∨zy6 g s:=by
 obtain ⟨a,b,h1,h2,hz,p,q,hp,hq,rfl⟩:=zqy h
 have e:=(zJ2 (p:=p) (q:=q) hz).1
 rcases hp with rfl | rfl
 ·exact .inl ⟨a,by omega,decide_eq_true e⟩
 ·exact .inr ⟨a,by omega,e⟩
theorem par {s t:straight} (h:s.slope * t.den=t.slope * s.den) (z:Int):plc s z * t.den - plc t z * s.den=s.start * t.den - t.start * s.den:=by
  unfold plc
  rw [Int.add_mul,Int.add_mul]
  have e:s.slope * z * t.den=t.slope * z * s.den:=by
    calc s.slope * z * t.den = s.slope * t.den * z := by ac_rfl
      _=t.slope * z * s.den:=by rw [h];ac_rfl
  omega
theorem zy8 {g:Sl Gate} {s:straight} (h:zsQ g s) {i:Nat} (hi:i < g.len):(g.get i).Low * s.den≤plc s (g.get i).Z∧plc s (g.get i).Z≤(g.get i).High * s.den:=of_decide_eq_true (h i hi)
theorem zJ3 {g:Sl Gate} (G:zaw g) {s t:straight} (hs:Cor g s) (ht:Cor g t) (h:s.slope * t.den=t.slope * s.den) (hl:s.start * t.den < t.start * s.den) : ¬ zdQ g t∧¬ zy6 g s:=by
 have ps:0 < s.den:=by have:=(zb1 G hs).2.2;omega
 have pt:0 < t.den:=by have:=(zb1 G ht).2.2;omega
 constructor
 ·intro ⟨i, hi, e⟩
  have e:plc t (g.get i).Z=(g.get i).Low * t.den:=of_decide_eq_true e
  have a:=(zy8 hs.2 hi).1
  have p:=par h (g.get i).Z
  have a2:=Int.mul_le_mul_of_nonneg_right a (Int.le_of_lt pt)
  have:(g.get i).Low * s.den * t.den=plc t (g.get i).Z * s.den:=by rw [e];ac_rfl
  omega
 ·intro ⟨i, hi, e⟩
  have a:=(zy8 ht.2 hi).2
  have p:=par h (g.get i).Z
  have a2:=Int.mul_le_mul_of_nonneg_right a (Int.le_of_lt ps)
  have:(g.get i).High * t.den * s.den=plc s (g.get i).Z * t.den:=by rw [e];ac_rfl
  omega
theorem zr2 {g:Sl Gate} (G:zaw g) {s t:straight} (hs:Cor g s) (ht:Cor g t) (hf:zdQ g s↔zdQ g t) (h1 : ¬ ltF (slF s) (slF t)) (h2 : ¬ ltF (slF t) (slF s)):toL s=toL t:=by
 have ps:0 < s.den:=by have:=(zb1 G hs).2.2;omega
 have pt:0 < t.den:=by have:=(zb1 G ht).2.2;omega
 have h:s.slope * t.den=t.slope * s.den:=by
  have a : ¬ s.slope * t.den < t.slope * s.den:=h1
  have b : ¬ t.slope * s.den < s.slope * t.den:=h2
  omega
 have key:∀ {s t:straight},Cor g s→Cor g t→(zdQ g s↔zdQ g t)→s.slope * t.den=t.slope * s.den→¬ s.start * t.den < t.start * s.den:=fun {s t} hs ht hf h hl=>by
  obtain ⟨a,b⟩:=zJ3 G hs ht h hl
  rcases zy7 hs.1 with c | c
  ·exact a (hf.1 c)
  ·exact b c
 have e:s.start * t.den=t.start * s.den:=by
  have a:=key hs ht hf h
  have b:=key ht hs hf.symm h.symm
  omega
 unfold toL
 rw [(znZ ps pt).2 h,(znZ ps pt).2 e]
def zr3 (g:Sl Gate) (s t:straight):Prop:=(zdQ g s∧(zdQ g t→ltF (slF s) (slF t)))∨(¬ zdQ g s∧¬ zdQ g t∧ltF (slF t) (slF s))
theorem zCu {a:Frac} : ¬ ltF a a:=by unfold ltF;omega
theorem zy9 {a b:Frac} (h:ltF a b) : ¬ ltF b a:=by unfold ltF at *;omega
theorem zJ4 {a b c:Frac} (ha:0 < a.Den) (hb:0 < b.Den) (hc:0 < c.Den) (h1:ltF a b) (h2:ltF b c):ltF a c:=by
 unfold ltF at *
 have y1:=Int.mul_lt_mul_of_pos_right h1 hc
 have y2:=Int.mul_lt_mul_of_pos_right h2 ha
 have z1:b.Num * a.Den * c.Den=b.Num * c.Den * a.Den:=by ac_rfl
 have z2:c.Num * b.Den * a.Den=c.Num * a.Den * b.Den:=by ac_rfl
 have z3:a.Num * b.Den * c.Den=a.Num * c.Den * b.Den:=by ac_rfl
 have:a.Num * c.Den * b.Den < c.Num * a.Den * b.Den:=by omega
 exact Int.lt_of_mul_lt_mul_right this (Int.le_of_lt hb)
theorem zGC {g:Sl Gate} {s:straight} : ¬ zr3 g s s:=fun h=>by
 rcases h with ⟨a,b⟩ | ⟨_,_,c⟩
 ·exact zCu (b a)
 ·exact zCu c
theorem zmV {g:Sl Gate} {s t:straight} (h:zr3 g s t) : ¬ zr3 g t s:=fun k=>by
 rcases h with ⟨a,b⟩ | ⟨a,b,c⟩ <;> rcases k with ⟨x,y⟩ | ⟨x,y,z⟩
 ·exact zy9 (b x) (y a)
 ·exact y a
 ·exact b x
 ·exact zy9 c z
theorem zn6 {g:Sl Gate} (G:zaw g) {s t u:straight} (hs:Cor g s) (ht:Cor g t) (hu:Cor g u) (h:zr3 g s t) (k:zr3 g t u):zr3 g s u:=by
 have ps:0 < (slF s).Den:=by have:=(zfm (zb1 G hs)).2;omega
 have pt:0 < (slF t).Den:=by have:=(zfm (zb1 G ht)).2;omega
 have pu:0 < (slF u).Den:=by have:=(zfm (zb1 G hu)).2;omega
 rcases h with ⟨a,b⟩ | ⟨a,b,c⟩ <;> rcases k with ⟨x,y⟩ | ⟨x,y,z⟩
 ·exact .inl ⟨a,fun w=>zJ4 ps pt pu (b x) (y w)⟩
 ·exact .inl ⟨a,fun w=>absurd w y⟩
 ·exact absurd x b
 ·exact .inr ⟨a,y,zJ4 pu pt ps z c⟩
theorem zqA {g:Sl Gate} (G:zaw g) {s t:straight} (hs:Cor g s) (ht:Cor g t) (hn:toL s ≠ toL t):zr3 g s t∨zr3 g t s:=by
 by_cases a:zdQ g s <;> by_cases b:zdQ g t
 ·by_cases c : ltF (slF s) (slF t)
  ·exact .inl (.inl ⟨a,fun _=>c⟩)
  ·by_cases d : ltF (slF t) (slF s)
   ·exact .inr (.inl ⟨b,fun _=>d⟩)
   ·exact absurd (zr2 G hs ht ⟨fun _=>b,fun _=>a⟩ c d) hn
 ·exact .inl (.inl ⟨a,fun w=>absurd w b⟩)
 ·exact .inr (.inl ⟨b,fun w=>absurd w a⟩)
 ·by_cases c : ltF (slF s) (slF t)
  ·exact .inr (.inr ⟨b,a,c⟩)
  ·by_cases d : ltF (slF t) (slF s)
   ·exact .inl (.inr ⟨a,b,d⟩)
   ·exact absurd (zr2 G hs ht ⟨fun w=>absurd w a,fun w=>absurd w b⟩ c d) hn
theorem zfo {g:Sl Gate} (G:zaw g) {s t:straight} (hs:Cor g s) (ht:Cor g t):s81 (toL s) (toL t) g=true↔zr3 g s t:=by
 have S:=zb1 G hs
 have T:=zb1 G ht
 have es:=(zmR g G S).2
 have et:=(zmR g G T).2
 have fs:=zfm S
 have ft:=zfm T
 have ls:s29 (toL s).Slope (toL t).Slope=true↔ltF (slF s) (slF t):=by
  rw [zlk (a:=(toL s).Slope) (b:=(toL t).Slope) (zfl fs) (zfl ft)]
  exact zfk (a:=slF s) (b:=slF t) (by have:=fs.2;omega) (by have:=ft.2;omega)
 have lt:s29 (toL t).Slope (toL s).Slope=true↔ltF (slF t) (slF s):=by
  rw [zlk (a:=(toL t).Slope) (b:=(toL s).Slope) (zfl ft) (zfl fs)]
  exact zfk (a:=slF t) (b:=slF s) (by have:=ft.2;omega) (by have:=fs.2;omega)
 unfold s81 zqi zr3
 rw [← es,← et,← ls,← lt]
 cases zqh (toL s) g <;> cases zqh (toL t) g <;> cases s29 (toL s).Slope (toL t).Slope <;> cases s29 (toL t).Slope (toL s).Slope <;> simp
theorem zJ5 {g:Sl Gate} (G:zaw g):Tot g:=by
 refine ⟨fun a b c ha hb hc h1 h2=>?_,fun a b ha hb hn=>?_⟩
 ·obtain ⟨s, hs, rfl⟩ := zbB.1 ha
  obtain ⟨t,ht,rfl⟩:=zbB.1 hb
  obtain ⟨u,hu,rfl⟩:=zbB.1 hc
  exact (zfo G hs hu).2 (zn6 G hs ht hu ((zfo G hs ht).1 h1) ((zfo G ht hu).1 h2))
 ·obtain ⟨s, hs, rfl⟩ := zbB.1 ha
  obtain ⟨t,ht,rfl⟩:=zbB.1 hb
  exact (zqA G hs ht hn).imp (zfo G hs ht).2 (zfo G ht hs).2
theorem zza {g:Sl Gate} (G:zaw g) (v:Sl straight) {s t:straight} (hs:Cor g s) (ht:Cor g t):zBN ⟨⟨g⟩,v⟩ s t=true∧(zBM ⟨⟨g⟩,v⟩ s t < 0↔zr3 g s t):=by
 have S:=zb1 G hs
 have T:=zb1 G ht
 obtain ⟨a1,a2⟩:=zyQ g G v S
 obtain ⟨b1,b2⟩:=zyQ g G v T
 have fs:=zfm S
 have ft:=zfm T
 obtain ⟨c1,c2⟩:=ziu (num:=s.slope) (den:=s.den) (by have:=S.1;omega) (by have:=S.1;omega) (by have:=S.2.2;omega) (by have:=S.2.2;omega)
 obtain ⟨d1,d2⟩:=ziu (num:=t.slope) (den:=t.den) (by have:=T.1;omega) (by have:=T.1;omega) (by have:=T.2.2;omega) (by have:=T.2.2;omega)
 have rs:FOK (red s.slope s.den):=zfl (f:=slF s) fs
 have rt:FOK (red t.slope t.den):=zfl (f:=slF t) ft
 have q1:s69 (red s.slope s.den) (red t.slope t.den) < 0↔ltF (slF s) (slF t):=by
  unfold s69
  rw [cross rs rt,cross rt rs,zyS]
  exact zfk (a:=slF s) (b:=slF t) (by have:=fs.2;omega) (by have:=ft.2;omega)
 have q2:w64 (0 - s69 (red s.slope s.den) (red t.slope t.den)) < 0↔ltF (slF t) (slF s):=by
  have e:s69 (red s.slope s.den) (red t.slope t.den) > 0↔ltF (slF t) (slF s):=by
   unfold s69
   rw [cross rs rt,cross rt rs,zyT]
   exact zfk (a:=slF t) (b:=slF s) (by have:=ft.2;omega) (by have:=fs.2;omega)
  rw [← e]
  have:s69 (red s.slope s.den) (red t.slope t.den) = -1∨s69 (red s.slope s.den) (red t.slope t.den)=0∨s69 (red s.slope s.den) (red t.slope t.den)=1:=by
   unfold s69 zBJ
   cases decide (w64 ((red s.slope s.den).Num * (red t.slope t.den).Den) < w64 ((red t.slope t.den).Num * (red s.slope s.den).Den)) <;> cases decide (w64 ((red s.slope s.den).Num * (red t.slope t.den).Den) > w64 ((red t.slope t.den).Num * (red s.slope s.den).Den)) <;> simp [zBH]
  rcases this with h | h | h <;> rw [h] <;> decide
 constructor
 ·unfold zBN;rw [a1,b1,c1,d1];rfl
 ·unfold zBM zr3
  rw [c2,d2,← a2,← b2]
  cases zsS ⟨⟨g⟩,v⟩ s <;> cases zsS ⟨⟨g⟩,v⟩ t
  ·rw [cond_false,cond_false,cond_false,q2];simp
  ·simp
  ·simp
  ·rw [cond_true,cond_true,q1];simp
end Go.Proofs
namespace Go.Proofs
open Go Go.Pm
set_option maxRecDepth 100000
theorem zGD {α:Type} [Inhabited α] {l m:List α} (h:lst l=lst m):l=m:=by
 have hn:l.length=m.length:=by rw [← zfn l,← zfn m,h]
 refine List.ext_getElem hn fun i h1 h2=>?_
 have a:=zgp (List.getElem?_eq_getElem h1)
 have b:=zgp (List.getElem?_eq_getElem h2)
 rw [← a,← b,h]
theorem zJ6 (g:Sl Gate) (G:zaw g) {C:List straight} (h:s65 g=⟨⟨g⟩,lst C⟩):C.Pairwise (fun x y=>toL x ≠ toL y):=by
 obtain ⟨D,_,d2,_,_,d5⟩:=zmS g G
 rw [h] at d2
 have:lst C=lst D:=congrArg set.corners d2
 rw [zGD this];exact d5
theorem zJ7 (g:Sl Gate) (G:zaw g):p78 (s65 g)=true∧∃ D:List straight,D.length=(s78 (s65 g)).len∧D.length≤100000∧(∀ i (h:i < D.length),(s78 (s65 g)).get i=D[i])∧(∀ s∈D,Cor g s)∧(∀ s,Cor g s→∃ x∈D,toL x=toL s)∧D.Pairwise (zr3 g):=by
 obtain ⟨C,c1,c2,H,_⟩:=zn5 g G
 have P:=zJ6 g G c2
 have hn:=zfn C
 have hl:=H.len
 have get:∀ i (h:i < C.length),(lst C).get i=C[i]:=fun i h=>zgp (List.getElem?_eq_getElem h)
 have cor:∀ i (h:i < C.length),Cor g C[i]:=fun i h=>H.mem _ (List.getElem_mem h)
 let c:Nat→Nat→Int:=fun i j=>zBM ⟨⟨g⟩,lst C⟩ ((lst C).get i) ((lst C).get j)
 have hc:∀ i j (hi:i < C.length) (hj:j < C.length),c i j < 0↔zr3 g C[i] C[j]:=fun i j hi hj=>by
  show zBM ⟨⟨g⟩,lst C⟩ ((lst C).get i) ((lst C).get j) < 0↔_
  rw [get i hi,get j hj];exact (zza G (lst C) (cor i hi) (cor j hj)).2
 have ne:∀ i j (hi:i < C.length) (hj:j < C.length),i ≠ j→toL C[i] ≠ toL C[j]:=fun i j hi hj hij e=>by
  rw [List.pairwise_iff_getElem] at P
  rcases Nat.lt_or_ge i j with h | h
  ·exact P i j hi hj h e
  ·exact P j i hj hi (by omega) e.symm
 have S1:sortB (lst C).len (fun i j=>decide (zBN ⟨⟨g⟩,lst C⟩ ((lst C).get i) ((lst C).get j)=true)) c=true:=by
  simp only [sortB,List.all_eq_true,List.mem_range,Bool.and_eq_true,Bool.or_eq_true,decide_eq_true_eq,Bool.not_eq_true',Bool.and_eq_false_iff,decide_eq_false_iff_not]
  intro i hi
  have hi:i < C.length:=by omega
  refine ⟨by have : ¬ c i i < 0:=fun h=>zGC ((hc i i hi hi).1 h);omega,fun j hj=>?_⟩
  have hj:j < C.length:=by omega
  refine ⟨⟨by rw [get i hi,get j hj];exact (zza G (lst C) (cor i hi) (cor j hj)).1,?_⟩,fun k hk=>?_⟩
  ·by_cases hij : i = j
   ·exact .inl (.inl (by rw [hij];exact Nat.beq_refl j))
   ·rcases zqA G (cor i hi) (cor j hj) (ne i j hi hj hij) with h | h
    ·have : ¬ c j i < 0 := fun k => zmV h ((hc j i hj hi).1 k)
     exact .inl (.inr ⟨(hc i j hi hj).2 h,by omega⟩)
    ·have : ¬ c i j < 0 := fun k => zmV h ((hc i j hi hj).1 k)
     exact .inr ⟨(hc j i hj hi).2 h,by omega⟩
  ·have hk : k < C.length := by omega
   by_cases h1:c i j < 0
   ·by_cases h2 : c j k < 0
    ·exact .inr ((hc i k hi hk).2 (zn6 G (cor i hi) (cor j hj) (cor k hk) ((hc i j hi hj).1 h1) ((hc j k hj hk).1 h2)))
    ·exact .inl (.inr h2)
   ·exact .inl (.inl h1)
 have STOc:STO (lst C).len c:=(zq8 (s:=fun _ _=>True) S1 (fun _ _ _=>trivial) rfl).2
 have hp:p78 (s65 g)=true:=by
  rw [c2];unfold p78
  show (decide ((lst C).len * 24≤140737488355328∧(lst C).len≤9223372036854775807) && (decide ((lst C).len≤4611686018427387∧sortB (lst C).len (fun i j=>decide (zBN ⟨⟨g⟩,lst C⟩ ((lst C).get i) ((lst C).get j)=true)) c=true) && true))=true
  rw [S1,decide_eq_true (show (lst C).len * 24≤140737488355328∧(lst C).len≤9223372036854775807 by omega),decide_eq_true (show (lst C).len≤4611686018427387∧true=true from ⟨by omega,rfl⟩)];rfl
 have pm:=zhn (c:=c) (lst C).len
 have pl:(ziv (lst C).len c).length=C.length:=by rw [pm.length_eq,List.length_range,hn]
 have pr:∀ x∈ziv (lst C).len c,x < C.length:=fun x hx=>by have:=List.mem_range.1 (pm.mem_iff.1 hx);omega
 refine ⟨hp,(ziv (lst C).len c).map (fun i=>(lst C).get i),?_,by rw [List.length_map,pl];exact hl,fun i h=>?_,fun s hs=>?_,fun s hs=>?_,?_⟩
 ·rw [List.length_map,pl,c2];show C.length=(lst C).len;omega
 ·rw [c2]
  rw [List.getElem_map]
  have h2:i < (ziv (lst C).len c).length:=by rw [List.length_map] at h;exact h
  show (lst C).get ((ziv (lst C).len c).getD i 0)=_
  rw [List.getD_eq_getElem?_getD,List.getElem?_eq_getElem h2];rfl
 ·obtain ⟨i, hi, rfl⟩ := List.mem_map.1 hs
  have:=pr i hi
  rw [get i this];exact cor i this
 ·obtain ⟨x, hx, e⟩ := H.all s hs
  obtain ⟨i,hi,rfl⟩:=List.getElem_of_mem hx
  exact ⟨_,List.mem_map.2 ⟨i,pm.mem_iff.2 (List.mem_range.2 (by omega)),get i hi⟩,e⟩
 ·rw [List.pairwise_map]
  have nd:(ziv (lst C).len c).Nodup:=pm.nodup_iff.2 List.nodup_range
  refine (List.Pairwise.and (zra STOc) nd).imp_of_mem ?_
  intro a b ha hb hab
  have ha:=pr a ha
  have hb:=pr b hb
  rw [get a ha,get b hb]
  rcases zqA G (cor a ha) (cor b hb) (ne a b ha hb hab.2) with h | h
  ·exact h
  ·exact absurd ((hc b a hb ha).2 h) hab.1
theorem zA7 {g:Sl Gate} (G:zaw g) {l m:List Line} (hl:∀ x∈l,zg9 g x) (hm:∀ x∈m,zg9 g x) (sl:l.Pairwise (Bef g)) (sm:m.Pairwise (Bef g)) (h:∀ x,zg9 g x→x∈l∧x∈m):l=m:=by
 have asym:∀ {a b},zg9 g a→zg9 g b→Bef g a b→¬ Bef g b a:=fun {a b} ha hb h k=>by
  obtain ⟨s,hs,rfl⟩:=zbB.1 ha
  obtain ⟨t,ht,rfl⟩:=zbB.1 hb
  exact zmV ((zfo G hs ht).1 h) ((zfo G ht hs).1 k)
 have nd:∀ {l:List Line},(∀ x∈l,zg9 g x)→l.Pairwise (Bef g)→l.Nodup:=fun {l} hl sl=>sl.imp_of_mem fun {a b} ha hb hab e=>by
  subst e;exact asym (hl a ha) (hl a ha) hab hab
 refine List.Perm.eq_of_pairwise (le:=Bef g) (fun a b ha hb h1 h2=>absurd h2 (asym (hl a ha) (hm b hb) h1)) sl sm ?_
 exact (List.perm_ext_iff_of_nodup (nd hl sl) (nd hm sm)).2 fun x=>⟨fun hx=>(h x (hl x hx)).2,fun hx=>(h x (hm x hx)).1⟩
def coE (g:Sl Gate):Int:=cond (!(s20 g)) 2 (cond (!(s21 g)) 5 (cond (s22 g) 6 0))
theorem zCv (g:Sl Gate) (hn:g.len≤9223372036854775807):p31 g=true∧(s31 g).2=coE g∧(coE g ≠ 0→s31 g=(⟨0,fun _=>default⟩,coE g))∧(coE g=0→SEq (s31 g).1 (s33 g)∧1≤(s33 g).len∧(s33 g).len≤2304∧∀ j,j < (s33 g).len→zg9 g ((s33 g).get j)):=by
  have bad:∀ e:Int,e ≠ 0→s75 g=(nS,e)→p75 g=true→e=coE g→p31 g=true∧(s31 g).2=coE g∧(coE g ≠ 0→s31 g=(⟨0,fun _=>default⟩,coE g))∧(coE g=0→SEq (s31 g).1 (s33 g)∧1≤(s33 g).len∧(s33 g).len≤2304∧∀ j,j < (s33 g).len→zg9 g ((s33 g).get j)):=fun e he h1 h2 h3=>by
    unfold p31 s31 zmf zme
    rw [h1,h2,← h3]
    simp only [show (e != 0)=true by simpa using he,cond_true]
    exact ⟨rfl,trivial,fun _=>trivial,fun h=>absurd h he⟩
  cases hv:s20 g
  · obtain ⟨⟨b1, b2⟩, _⟩ := zGB g hn hv
    exact bad 2 (by decide) b2 b1 (by unfold coE;rw [hv];rfl)
  have G:=(zy5 g hn).1 hv
  obtain ⟨⟨b1,b2⟩,_⟩:=zJ0 g G
  cases hs:s21 g
  · exact bad 5 (by decide) (by rw [b2,hs];rfl) b1 (by unfold coE;rw [hv,hs];rfl)
  cases hf:s22 g
  · have e0 : coE g = 0 := by unfold coE; rw [hv, hs, hf]; rfl
    have b2:s75 g=(s65 g,0):=by rw [b2,hs,hf];rfl
    obtain ⟨q,D,d1,d2,d3,d4,d5,d6⟩:=zJ7 g G
    obtain ⟨r1,r2,r3,r4,r5⟩:=zkz g G
    have r5:=r5 (zJ5 G)
    have hD:∀ j,j < D.length→p79 ((s78 (s65 g)).get j)=true∧s79 ((s78 (s65 g)).get j)=toL ((s78 (s65 g)).get j):=fun j hj=>by
      rw [d3 j hj];exact zCq (zb1 G (d4 _ (List.getElem_mem hj)))
    have L := zg6 (σ := Sl Line) (step := fun i v => apL v (toL ((s78 (s65 g)).get i))) (E := fun v => (v, (0:Int))) (EP := fun _ => true) (Inv := fun i v => v.len = i ∧ ∀ j, j < i → v.get j = toL ((s78 (s65 g)).get j)) (a := 0) (n := D.length)
      (lpS:=fun k v i=>zhz (s78 (s65 g)) (D.length:Int) k i v) (lpP:=fun k v i=>zhA (s78 (s65 g)) (D.length:Int) k i v)
      (fun k i v _ hi _=>by
        show zhx (s78 (s65 g)) (D.length:Int) (zhz (s78 (s65 g)) (D.length:Int) k) (i:Int) v=_
        generalize zhz (s78 (s65 g)) (D.length:Int) k=S
        unfold zhx
        rw [decide_eq_true (show (i:Int) < (D.length:Int) by omega),cond_true,Int.toNat_natCast,(hD i hi).2];rfl)
      (fun k v=>by
        show zhx (s78 (s65 g)) (D.length:Int) (zhz (s78 (s65 g)) (D.length:Int) k) (D.length:Int) v=_
        unfold zhx
        rw [decide_eq_false (show ¬ (D.length:Int) < (D.length:Int) by omega),cond_false])
      (fun k i v _ hi hv=>by
        show zhy (s78 (s65 g)) (D.length:Int) (zhA (s78 (s65 g)) (D.length:Int) k) (i:Int) v=_
        generalize zhA (s78 (s65 g)) (D.length:Int) k=P
        obtain ⟨hv,_⟩:=hv
        unfold zhy
        rw [decide_eq_true (show (i:Int) < (D.length:Int) by omega),cond_true,decide_eq_true (show 0≤(i:Int)∧(i:Int) < ((s78 (s65 g)).len:Int) by omega),Int.toNat_natCast,(hD i hi).1,(hD i hi).2,decide_eq_true (show (v.len+1) * 32≤140737488355328∧v.len+1≤9223372036854775807 by omega),decide_eq_true (show true=true from rfl)];rfl)
      (fun k v=>by
        show zhy (s78 (s65 g)) (D.length:Int) (zhA (s78 (s65 g)) (D.length:Int) k) (D.length:Int) v=_
        unfold zhy
        rw [decide_eq_false (show ¬ (D.length:Int) < (D.length:Int) by omega),cond_false])
      (fun i v _ hi ⟨h1,h2⟩=>by
        refine ⟨by show v.len+1=i+1;omega,fun j hj=>?_⟩
        show zdA v.len v.get (fun _=>toL ((s78 (s65 g)).get i)) j=_
        unfold zdA
        by_cases h:j < i
        · rw [show Nat.ble v.len j=false by rw [← Bool.not_eq_true,Nat.ble_eq];omega];exact h2 j h
        · rw [show Nat.ble v.len j=true by rw [Nat.ble_eq];omega,show j=i by omega]) (Nat.zero_le _) (by omega) (zgo:Sl Line) ⟨rfl,fun j hj=>absurd hj (Nat.not_lt_zero j)⟩
    obtain ⟨l1,l2⟩:=L
    have I:=znY (step:=fun i v=>apL v (toL ((s78 (s65 g)).get i))) (Inv:=fun i (v:Sl Line)=>v.len=i∧∀ j,j < i→v.get j=toL ((s78 (s65 g)).get j)) (n:=D.length) (fun i v hi ⟨h1,h2⟩=>by
        refine ⟨by show v.len+1=i+1;omega,fun j hj=>?_⟩
        show zdA v.len v.get (fun _=>toL ((s78 (s65 g)).get i)) j=_
        unfold zdA
        by_cases h:j < i
        · rw [show Nat.ble v.len j=false by rw [← Bool.not_eq_true,Nat.ble_eq];omega];exact h2 j h
        · rw [show Nat.ble v.len j=true by rw [Nat.ble_eq];omega,show j=i by omega]) D.length 0 (zgo:Sl Line) (by omega) ⟨rfl,fun j hj=>absurd hj (Nat.not_lt_zero j)⟩
    rw [show D.length - 0=D.length from rfl] at l2
    generalize zg5 (fun i v=>apL v (toL ((s78 (s65 g)).get i))) D.length 0 (zgo:Sl Line)=v at l2 I
    have e31:s31 g=(v,0)∧p31 g=true:=by
      unfold s31 p31 zme zmf zo9 zpa zo7 zo8
      rw [b1,b2]
      have:(⟨⟨(s65 g).list.Gates⟩,(s65 g).corners⟩:set)=s65 g:=rfl
      show cond ((0:Int) != 0) _ (zo5 (s78 ⟨⟨(s65 g).list.Gates⟩,(s65 g).corners⟩) ((s78 ⟨⟨(s65 g).list.Gates⟩,(s65 g).corners⟩).len:Int) 0 zgo)=_∧(decide (true=true) && cond ((0:Int) != 0) true (decide (p78 ⟨⟨(s65 g).list.Gates⟩,(s65 g).corners⟩=true) && zmd (s78 ⟨⟨(s65 g).list.Gates⟩,(s65 g).corners⟩) ((s78 ⟨⟨(s65 g).list.Gates⟩,(s65 g).corners⟩).len:Int) 0 zgo))=true
      rw [this,q,← d1]
      refine ⟨l2,?_⟩
      have l1:zmd (s78 (s65 g)) (D.length:Int) 0 zgo=true:=l1
      rw [l1];rfl
    rw [e31.1,e0]
    refine ⟨e31.2,rfl,fun h=>absurd rfl h,fun _=>?_⟩
    have U := zA7 G (l := D.map toL) (m := (List.range (s33 g).len).map (s33 g).get)
      (fun x hx=>by obtain ⟨s,hs,rfl⟩:=List.mem_map.1 hx;exact zbB.2 ⟨s,d4 s hs,rfl⟩)
      (fun x hx=>by obtain ⟨i,hi,rfl⟩:=List.mem_map.1 hx;exact r3 i (List.mem_range.1 hi))
      (by rw [List.pairwise_map];exact d6.imp_of_mem fun {a b} ha hb h=>(zfo G (d4 a ha) (d4 b hb)).2 h)
      (by
        rw [List.pairwise_map,List.pairwise_iff_getElem]
        intro i j hi hj hij
        rw [List.getElem_range,List.getElem_range]
        rw [List.length_range] at hj
        exact r5 i j hij hj)
      (fun x hx=>by
        refine ⟨?_,?_⟩
        · obtain ⟨s, hs, rfl⟩ := zbB.1 hx
          obtain ⟨y,hy,e⟩:=d5 s hs
          exact List.mem_map.2 ⟨y,hy,e⟩
        · obtain ⟨a, ha, e⟩ := r4 x hx
          exact List.mem_map.2 ⟨a,List.mem_range.2 ha,e⟩)
    have lenE:D.length=(s33 g).len:=by have:=congrArg List.length U;rwa [List.length_map,List.length_map,List.length_range] at this
    obtain ⟨C,_,_,_,c4⟩:=zn5 g G
    refine ⟨⟨by show v.len=_;omega,fun i hi=>?_⟩,?_,r2,r3⟩
    · have hi : i < D.length := by have hi : i < v.len := hi; omega
      show v.get i=_
      rw [I.2 i hi,d3 i hi]
      have:(D.map toL)[i]? = ((List.range (s33 g).len).map (s33 g).get)[i]?:=by rw [U]
      rw [List.getElem?_map,List.getElem?_map,List.getElem?_eq_getElem hi,List.getElem?_range (by omega)] at this
      exact Option.some.inj this
    · obtain ⟨s, hs⟩ := (c4 (zii G hf)).1 hs
      obtain ⟨a,ha,_⟩:=r4 _ (zbB.2 ⟨s,hs,rfl⟩);omega
  · exact bad 6 (by decide) (by rw [b2,hs,hf];rfl) b1 (by unfold coE;rw [hv,hs,hf];rfl)
theorem zJ8 (g:Sl Gate) (hn:g.len≤9223372036854775807):p32 g=true∧(s32 g).2=coE g∧(coE g ≠ 0→s32 g=(⟨zF,zF⟩,coE g))∧(coE g=0→(s32 g).1=(s33 g).get 0):=by
 obtain ⟨a1,a2,a3,a4⟩:=zCv g hn
 unfold p32 s32
 rw [a1,a2]
 by_cases h:coE g=0
 ·obtain ⟨⟨b1, b2⟩, b3, _⟩ := a4 h
  rw [h]
  refine ⟨?_,rfl,fun k=>absurd rfl k,fun _=>b2 0 (by omega)⟩
  show (decide (true=true) && cond ((0:Int) != 0) true (decide (0≤(0:Int)∧(0:Int) < ((s31 g).1.len:Int)) && true))=true
  rw [decide_eq_true (show 0≤(0:Int)∧(0:Int) < ((s31 g).1.len:Int) by omega)];rfl
 ·have e : (coE g != 0) = true := by simpa using h
  rw [e]
  exact ⟨rfl,rfl,fun _=>rfl,fun k=>absurd k h⟩
end Go.Proofs
namespace Go.Proofs
open Go Go.Pm
set_option maxRecDepth 100000
theorem zA8 (a b:Sl Line) (h:SEq a b) (hn:a.len≤9223372036854775807):p34 a b=true∧s34 a b=true:=by
 obtain ⟨h1,h2⟩:=h
 have key:∀ (m k i:Nat),i+m=a.len→m < k→zhE a b k (i:Int)=true∧zhD a b k (i:Int)=true:=by
  intro m
  induction m with
  | zero =>
   intro k i hi hk
   obtain ⟨k,rfl⟩:∃ j,k=j+1:=⟨k - 1,by omega⟩
   show zhC a b (zhE a b k) (i:Int)=true∧zhB a b (zhD a b k) (i:Int)=true
   unfold zhC zhB
   rw [decide_eq_false (show ¬ (i:Int) < (a.len:Int) by omega)]
   exact ⟨rfl,rfl⟩
  | succ m ih =>
   intro k i hi hk
   obtain ⟨k,rfl⟩:∃ j,k=j+1:=⟨k - 1,by omega⟩
   have ih:=ih k (i+1) (by omega) (by omega)
   show zhC a b (zhE a b k) (i:Int)=true∧zhB a b (zhD a b k) (i:Int)=true
   generalize zhE a b k=P at ih
   generalize zhD a b k=S at ih
   unfold zhC zhB
   rw [decide_eq_true (show (i:Int) < (a.len:Int) by omega),decide_eq_true (show 0≤(i:Int)∧(i:Int) < (a.len:Int) by omega),decide_eq_true (show 0≤(i:Int)∧(i:Int) < (b.len:Int) by omega),Int.toNat_natCast,h2 i (by omega),zbC (n:=a.len) (by omega) (by omega)]
   simp only [beq_self_eq_true,Bool.not_true,cond_false,cond_true,Bool.true_and]
   exact ih
 have k:=key a.len Fuel 0 (by omega) (by simp only [Fuel];omega)
 unfold p34 s34
 rw [show ((a.len:Int) != (b.len:Int))=false by rw [h1];exact bne_self_eq_false _]
 exact k
theorem corners_true (g:Sl Gate):p5 g=true∧s5 g=true:=by
 unfold p5 s5
 by_cases hlen:(g.len:Int) > 40
 ·rw [decide_eq_true hlen];exact ⟨rfl,rfl⟩
 rw [decide_eq_false hlen,cond_false,cond_false]
 have hn:g.len≤9223372036854775807:=by omega
 obtain ⟨a1,a2,a3,a4⟩:=zCv g hn
 obtain ⟨b1,b2,b3,b4⟩:=zJ8 g hn
 obtain ⟨v1,_⟩:=zyH g hn
 unfold zyn zym zyl zyk zyj zyi zyh zyg zyf zye zyd zyc
 rw [a1,b1,v1]
 simp only [decide_true,Bool.true_and]
 have bad:∀ e:Int,e ≠ 0→coE g=e→zg4 g (s31 g).1 (s31 g).2 (s32 g).2 (s32 g).1.Slope.Num (s32 g).1.Slope.Den (s32 g).1.Start.Num (s32 g).1.Start.Den e=true∧zg3 g (s31 g).1 (s31 g).2 (s32 g).2 (s32 g).1.Slope.Num (s32 g).1.Slope.Den (s32 g).1.Start.Num (s32 g).1.Start.Den e=true:=fun e he h=>by
  have hc:coE g ≠ 0:=by rw [h];exact he
  rw [a3 hc,b3 hc,h]
  unfold zg4 zg3
  rw [show (e != 0)=true by simpa using he]
  refine ⟨rfl,?_⟩
  show cond true (cond (e == e) (cond (e == e) _ false) false) _=true
  rw [beq_self_eq_true];rfl
 cases hv:s20 g
 ·exact bad 2 (by decide) (by unfold coE;rw [hv];rfl)
 have G:=(zy5 g hn).1 hv
 obtain ⟨r1,r2,_⟩:=zJ1 g G
 rw [r1,r2]
 cases hs:s21 g
 ·exact bad 5 (by decide) (by unfold coE;rw [hv,hs];rfl)
 cases hf:s22 g
 ·have e0 : coE g = 0 := by unfold coE; rw [hv, hs, hf]; rfl
  obtain ⟨q1,q2,q3,_⟩:=a4 e0
  obtain ⟨x1,x2⟩:=zA8 (s31 g).1 (s33 g) q1 (by have:=q1.1;omega)
  have f:=b4 e0
  show zg4 g (s31 g).1 (s31 g).2 (s32 g).2 (s32 g).1.Slope.Num (s32 g).1.Slope.Den (s32 g).1.Start.Num (s32 g).1.Start.Den 0=true∧zg3 g (s31 g).1 (s31 g).2 (s32 g).2 (s32 g).1.Slope.Num (s32 g).1.Slope.Den (s32 g).1.Start.Num (s32 g).1.Start.Den 0=true
  rw [f,a2,b2,e0]
  unfold zg4 zg3 zyb zya zx9 zx8
  rw [x1,x2,(zkz g G).1,decide_eq_true (show 0≤(0:Int)∧(0:Int) < ((s33 g).len:Int) by omega)]
  simp only [beq_self_eq_true,bne_self_eq_false,cond_false,cond_true,decide_true,Bool.and_self,and_self]
 ·exact bad 6 (by decide) (by unfold coE;rw [hv,hs,hf];rfl)
end Go.Proofs
