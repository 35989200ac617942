/- Part 6 of what the proof rests on: a machine that runs functions of the program on pure values, proved sound; the functions that the law reaches, and what they compute. -/
import Derived.Test.YtkpjhhoafenogaaQ5
set_option linter.all false
namespace Go.Proofs
open Go Go.Pm
set_option maxRecDepth 100000
theorem ztP {c:Nat→Bool} {n:Nat} : fst c n < n↔∃ i,i < n∧c i=true:=by
 refine ⟨fun h=>⟨_,h,zCD h⟩,fun ⟨i,hi,hc⟩=>?_⟩
 rcases Nat.lt_or_ge (fst c n) n with h | h
 ·exact h
 ·have := zCC (c := c) (n := n) (j := i) (by omega)
  rw [hc] at this;cases this
def zhh (g:Sl Gate):Prop:=∀ i,i < g.len→(g.get i).Z=(g.get 0).Z
def ziB (g:Sl Gate) (s:straight):Prop:=∀ i,i < g.len→zhf s (g.get i)=true
def zKN (g:Sl Gate) (s:straight):Prop:=∃ i,i < g.len∧zDr s (g.get i)=true
theorem ztQ (g:Sl Gate) (G:zak g):p67 ⟨g⟩=true∧(s67 ⟨g⟩=true↔zhh g):=by
  have hl:=G.2.2
  have hl1:=G.2.1
  have zEb:∀ x,zEb ⟨g⟩ x=true:=fun x=>by
    unfold zEb
    rw [decide_eq_true (show 0≤(0:Int)∧(0:Int) < ((⟨g⟩:list).Gates.len:Int) from ⟨by omega,by show (0:Int) < (g.len:Int);omega⟩)];rfl
  have := zsX (c := zEa ⟨g⟩) (lpS := ziS ⟨g⟩) (lpP := ziT ⟨g⟩)
    (fun k s t i=>by
      show ziQ ⟨g⟩ (ziS ⟨g⟩ k) s t i=_
      unfold ziQ zm6;rfl)
    (fun k s t i=>by
      show ziR ⟨g⟩ (ziT ⟨g⟩ k) s t i=_
      unfold ziR zm7
      rw [zEb]
      simp only [decide_true,Bool.true_and])
    g (by omega)
  obtain ⟨a,b⟩:=this
  have e:zIN ⟨g⟩ g=true:=a
  have f:zIM ⟨g⟩ g=_:=b
  unfold p67 s67 p99 s99
  show (decide ((decide (zIN ⟨g⟩ g=true) && true)=true) && true)=true∧((!decide (zIM ⟨g⟩ g ≥ 0))=true↔_)
  rw [e,f]
  refine ⟨by simp,?_⟩
  rw [Bool.not_eq_true',decide_eq_false_iff_not]
  by_cases h:fst (fun i=>zEa ⟨g⟩ (g.get i)) g.len < g.len
  · rw [if_pos h]
    obtain ⟨i,hi,hc⟩:=ztP.1 h
    refine ⟨fun k=>absurd (show ((fst (fun i=>zEa ⟨g⟩ (g.get i)) g.len:Nat):Int) ≥ 0 by omega) k,fun k=>?_⟩
    have hc:((g.get i).Z != (g.get 0).Z)=true:=hc
    rw [k i hi] at hc
    simp at hc
  · rw [if_neg h]
    refine ⟨fun _ i hi=>?_,fun _=>by omega⟩
    have:=mt ztP.2 h
    have hc : ¬ ((g.get i).Z != (g.get 0).Z)=true:=fun hc=>this ⟨i,hi,hc⟩
    simpa using hc
theorem zKO (g:Sl Gate) (G:zak g) (v:Sl straight) {x:straight} (S:SOK x):p97 ⟨⟨g⟩,v⟩ x=true∧(s97 ⟨⟨g⟩,v⟩ x=true↔ziB g x):=by
  have hl:=G.2.2
  have := zsX (c := zEf x) (lpS := zg0 x) (lpP := zg1 x)
    (fun k s t i=>by
      show zgY x (zg0 x k) s t i=_
      unfold zgY zjP;rfl)
    (fun k s t i=>by
      show zgZ x (zg1 x k) s t i=_
      unfold zgZ zjQ;rfl)
    g (by omega)
  obtain ⟨a,b⟩:=this
  have e:zv9 x g=true:=a
  have f:zv8 x g=_:=b
  unfold p97 s97 zLc zLb
  show (decide ((decide (zv9 x g=true) && true)=true) && true)=true∧((!decide (zv8 x g ≥ 0))=true↔_)
  rw [e,f]
  refine ⟨by simp,?_⟩
  rw [Bool.not_eq_true',decide_eq_false_iff_not]
  by_cases h:fst (fun i=>zEf x (g.get i)) g.len < g.len
  · rw [if_pos h]
    obtain ⟨i,hi,hc⟩:=ztP.1 h
    refine ⟨fun k=>absurd (show ((fst (fun i=>zEf x (g.get i)) g.len:Nat):Int) ≥ 0 by omega) k,fun k=>?_⟩
    have hc:(!(zEd x (g.get i)))=true:=hc
    rw [zzQ S (G.1 i hi),k i hi] at hc
    cases hc
  · rw [if_neg h]
    refine ⟨fun _ i hi=>?_,fun _=>by omega⟩
    have:=mt ztP.2 h
    have hc : ¬ (!(zEd x (g.get i)))=true:=fun hc=>this ⟨i,hi,hc⟩
    rw [← zzQ S (G.1 i hi)]
    simpa using hc
theorem zKP {x:straight} (S:SOK x):p79 x=true∧s79 x=toL x:=by
 obtain ⟨S1,S2,S3⟩:=S
 obtain ⟨a1,a2⟩:=zmt (num:=x.slope) (den:=x.den) (by omega) (by omega) (by omega) (by omega)
 obtain ⟨b1,b2⟩:=zmt (num:=x.start) (den:=x.den) (by omega) (by omega) (by omega) (by omega)
 unfold p79 s79 toL
 rw [a1,a2,b1,b2]
 exact ⟨by simp,rfl⟩
-- the reference
theorem zhi (g:Sl Gate) (G:zak g):p22 g=true∧(s22 g=true↔zhh g):=by
 have hl:=G.2.2
 have hl1:=G.2.1
 have key:∀ (m k i:Nat),i+m=g.len→m < k→zkI g k (i:Int)=true∧(zkH g k (i:Int)=true↔∀ j,i≤j→j < g.len→(g.get j).Z=(g.get 0).Z):=by
  intro m
  induction m with
  | zero =>
   intro k i hi hk
   obtain ⟨k,rfl⟩:∃ k',k=k'+1:=⟨k - 1,by omega⟩
   show zkG g (zkI g k) _=_∧(zkF g (zkH g k) _=_↔_)
   unfold zkG zkF
   rw [decide_eq_false (show ¬ (i:Int) < (g.len:Int) by omega),cond_false,cond_false]
   exact ⟨rfl,⟨fun _ j a b=>absurd b (by omega),fun _=>rfl⟩⟩
  | succ m ih =>
   intro k i hi hk
   obtain ⟨k,rfl⟩:∃ k',k=k'+1:=⟨k - 1,by omega⟩
   obtain ⟨i1,i2⟩:=ih k (i+1) (by omega) (by omega)
   show zkG g (zkI g k) _=_∧(zkF g (zkH g k) _=_↔_)
   generalize zkI g k=P at i1
   generalize zkH g k=S at i2
   unfold zkG zkF
   rw [decide_eq_true (show (i:Int) < (g.len:Int) by omega),decide_eq_true (show 0≤(i:Int)∧(i:Int) < (g.len:Int) by omega),decide_eq_true (show 0≤(0:Int)∧(0:Int) < (g.len:Int) by omega),cond_true,cond_true,Int.toNat_natCast,zaD (n:=g.len) (by omega) (by omega),i1]
   by_cases hz:(g.get i).Z=(g.get 0).Z
   ·rw [show ((g.get i).Z != (g.get 0).Z) = false by simpa using hz, cond_false, cond_false]
    refine ⟨by simp,i2.trans ⟨fun h j a b=>?_,fun h j a b=>h j (by omega) b⟩⟩
    by_cases hj:j=i
    ·rw [hj];exact hz
    ·exact h j (by omega) b
   ·rw [show ((g.get i).Z != (g.get 0).Z) = true by simpa using hz, cond_true, cond_true]
    exact ⟨by simp,⟨fun h=>(by cases h),fun h=>absurd (h i (Nat.le_refl _) (by omega)) hz⟩⟩
 obtain ⟨a,b⟩:=key (g.len - 1) Fuel 1 (by omega) (by simp only [Fuel];omega)
 refine ⟨a,Iff.trans b ⟨fun h i hi=>?_,fun h j _ hj=>h j hj⟩⟩
 by_cases h0:i=0
 ·rw [h0]
 ·exact h i (by omega) hi
theorem zzT (g:Sl Gate) (G:zak g) {x:straight} (S:SOK x):zHZ (toL x) g=true∧(zuK (toL x) g=true↔zKN g x):=by
  have hl:=G.2.2
  have e := zzL (good := fun i => !(zDr x (g.get i))) (bad := true) (fin := false) (finP := true) (n := g.len) (lpS := zhb (toL x) g) (lpP := zhc (toL x) g)
    (fun k i hi=>by
      show zg9 (toL x) g (zhb (toL x) g k) (i:Int)=_
      generalize zhb (toL x) g k=F
      unfold zg9 ztD
      rw [decide_eq_true (show (i:Int) < (g.len:Int) by omega),cond_true,Int.toNat_natCast,zzS S (G.1 i hi)]
      cases zDr x (g.get i) <;> rfl)
    (fun k=>by
      show zg9 (toL x) g (zhb (toL x) g k) (g.len:Int)=_
      unfold zg9
      rw [decide_eq_false (show ¬ (g.len:Int) < (g.len:Int) by omega),cond_false])
    (fun k i hi=>by
      show zha (toL x) g (zhc (toL x) g k) (i:Int)=_
      generalize zhc (toL x) g k=F
      unfold zha ztE
      rw [decide_eq_true (show (i:Int) < (g.len:Int) by omega),decide_eq_true (show 0≤(i:Int)∧(i:Int) < (g.len:Int) by omega),cond_true,Int.toNat_natCast,zzS S (G.1 i hi),Bool.true_and,Bool.true_and]
      cases zDr x (g.get i) <;> rfl)
    (fun k=>by
      show zha (toL x) g (zhc (toL x) g k) (g.len:Int)=_
      unfold zha
      rw [decide_eq_false (show ¬ (g.len:Int) < (g.len:Int) by omega),cond_false])
    (by omega)
  by_cases h:∀ i,i < g.len→(!(zDr x (g.get i)))=true
  · obtain ⟨a, b⟩ := e.1 h
    have b:zuK (toL x) g=false:=b
    refine ⟨a,?_⟩
    rw [b]
    refine ⟨fun h=>(by cases h),fun ⟨i,hi,hc⟩=>?_⟩
    have:=h i hi
    rw [hc] at this;cases this
  · obtain ⟨a, b⟩ := e.2 h
    have b:zuK (toL x) g=true:=b
    refine ⟨a,?_⟩
    rw [b]
    refine ⟨fun _=>Classical.byContradiction fun hn=>h fun i hi=>?_,fun _=>rfl⟩
    cases hc:zDr x (g.get i)
    · rfl
    · exact absurd ⟨i,hi,hc⟩ hn
end Go.Proofs
namespace Go.Proofs
open Go Go.Pm
set_option maxRecDepth 100000
def zik (l:Line):List Int:=[l.Slope.Num,l.Slope.Den,l.Start.Num,l.Start.Den]
theorem zlt {a b:Line} (h:zik a=zik b):a=b:=by
 unfold zik at h
 simp only [List.cons.injEq,and_true] at h
 obtain ⟨h1,h2,h3,h4⟩:=h
 obtain ⟨⟨a1,a2⟩,a3,a4⟩:=a
 obtain ⟨⟨b1,b2⟩,b3,b4⟩:=b
 simp only at h1 h2 h3 h4
 rw [h1,h2,h3,h4]
abbrev zgA {α:Type} [Inhabited α]:Sl α:=⟨0,fun _=>default⟩
theorem zCa {g:Sl Gate} (h:zhh g):cst g=[]:=by
 rcases List.eq_nil_or_concat (cst g) with e | ⟨l,x,e⟩
 ·exact e
 ·have : x ∈ cst g := by rw [e]; simp
  obtain ⟨a,b,h1,h2,hz,_⟩:=zzP this
  exact absurd ((h a (by omega)).trans (h b h2).symm) hz
theorem zCb (g:Sl Gate):∀ m i,(zAp g m i).length≤4 * g.len * m:=by
 intro m
 induction m with
 | zero=>intro i;exact Nat.le_refl _
 | succ m ih =>
  intro i
  show (zpB g i (g.len - (i+1)) (i+1) ++ zAp g m (i+1)).length≤_
  rw [List.length_append,Nat.mul_succ]
  have:=ih (i+1)
  have:=ztK g i (g.len - (i+1)) (i+1)
  omega
theorem zsm {g:Sl Gate} (G:zak g):(cst g).length≤2304:=by
 have h1:=zCb g g.len 0
 have hl:=G.2.2
 have:4 * g.len * g.len≤4 * 24 * 24:=Nat.mul_le_mul (by omega) hl
 exact Nat.le_trans h1 this
theorem zHB (g:Sl Gate) (G:zak g):∀ (r acc:List straight) (n:Nat) (F:List Int→Option (List Int)),
    (∀ s∈r,SOK s)→acc.length+r.length≤10000→(∀ c,(zdY (F c) 0 != 0)=true↔∃ x∈acc,zik (toL x)=c)→acc.Pairwise (fun x y=>toL x ≠ toL y) →
    ∃ C:List straight,zfq g r (acc.foldl apL zgA) n F=true∧zfp g r (acc.foldl apL zgA) n F=⟨⟨g⟩,C.foldl apL zgA⟩ ∧
      (∀ s∈C,s∈acc∨(s∈r∧ziB g s))∧(∀ s∈acc,s∈C)∧(∀ s∈r,ziB g s→∃ x∈C,toL x=toL s)∧C.Pairwise (fun x y=>toL x ≠ toL y):=by
  intro r
  induction r with
  | nil =>
    intro acc n F _ _ _ hp
    exact ⟨acc,rfl,rfl,fun s h=>.inl h,fun s h=>h,(fun s h=>by cases h),hp⟩
  | cons y r ih =>
    intro acc n F hs hl hF hp
    have hs':∀ s∈r,SOK s:=fun s h=>hs s (List.mem_cons_of_mem _ h)
    have Sy:=hs y List.mem_cons_self
    obtain ⟨e1,e2⟩:=zKP Sy
    obtain ⟨a1,a2⟩:=zKO g G (acc.foldl apL zgA) Sy
    rw [List.length_cons] at hl
    show ∃ C:List straight,zjZ g y (zfq g r) (acc.foldl apL zgA) n F=true∧zjY g y (zfp g r) (acc.foldl apL zgA) n F=_∧_
    unfold zjZ zjY
    rw [e1,e2,a1]
    have hcode:([(toL y).Slope.Num,(toL y).Slope.Den,(toL y).Start.Num,(toL y).Start.Den]:List Int)=zik (toL y):=rfl
    rw [hcode]
    have skip:(∃ C:List straight,zfq g r (acc.foldl apL zgA) n F=true∧zfp g r (acc.foldl apL zgA) n F=⟨⟨g⟩,C.foldl apL zgA⟩ ∧
      (∀ s∈C,s∈acc∨(s∈r∧ziB g s))∧(∀ s∈acc,s∈C)∧(∀ s∈r,ziB g s→∃ x∈C,toL x=toL s)∧C.Pairwise (fun x y=>toL x ≠ toL y)):=ih acc n F hs' (by omega) hF hp
    by_cases h1:(zdY (F (zik (toL y))) 0 != 0)=true
    · obtain ⟨C, c1, c2, c3, c4, c5, c6⟩ := skip
      rw [h1]
      refine ⟨C,by simp only [decide_true,Bool.true_and,Bool.not_true,cond_false];exact c1,by simp only [Bool.not_true,cond_false];exact c2,fun s h=>(c3 s h).imp id fun k=>⟨List.mem_cons_of_mem _ k.1,k.2⟩,c4,fun s h ha=>?_,c6⟩
      rcases List.mem_cons.1 h with rfl | h
      · obtain ⟨x, hx, hc⟩ := (hF _).1 h1
        exact ⟨x,c4 x hx,zlt hc⟩
      · exact c5 s h ha
    · have h1' : (zdY (F (zik (toL y))) 0 != 0) = false := by simpa using h1
      rw [h1']
      by_cases h2:s97 ⟨⟨g⟩,acc.foldl apL zgA⟩ y=true
      · rw [h2]
        have hlen:(acc.foldl apL zgA).len=acc.length:=by rw [zcv];simp
        have hfold:(⟨(acc.foldl apL zgA).len+1,zdv (acc.foldl apL zgA).len (acc.foldl apL zgA).get (fun _=>y)⟩:Sl straight)=(acc ++ [y]).foldl apL zgA:=by rw [List.foldl_append];rfl
        rw [hfold,hlen,decide_eq_true (show (acc.length+1) * 24≤140737488355328∧acc.length+1≤9223372036854775807 by omega)]
        obtain ⟨C, c1, c2, c3, c4, c5, c6⟩ := ih (acc ++ [y]) (addN (F (zik (toL y))) n) (zlU (zik (toL y)) [1] F) hs' (by rw [List.length_append]; simp only [List.length_cons, List.length_nil]; omega)
          (fun c=>by
            unfold zlU
            by_cases hc:c=zik (toL y)
            · rw [decide_eq_true hc]
              exact ⟨fun _=>⟨y,by simp,hc.symm⟩,fun _=>rfl⟩
            · rw [decide_eq_false hc]
              refine (hF c).trans ⟨fun ⟨x,hx,e⟩=>⟨x,List.mem_append.2 (.inl hx),e⟩,fun ⟨x,hx,e⟩=>?_⟩
              rcases List.mem_append.1 hx with hx | hx
              · exact ⟨x,hx,e⟩
              · rw [List.mem_singleton.1 hx] at e;exact absurd e.symm hc)
          (by
            rw [List.pairwise_append]
            refine ⟨hp,List.pairwise_singleton _ _,fun a ha b hb=>?_⟩
            rw [List.mem_singleton.1 hb]
            exact fun e=>h1 ((hF _).2 ⟨a,ha,by rw [e]⟩))
        have hy:y∈C:=c4 y (by simp)
        refine ⟨C,by simp only [decide_true,Bool.true_and,Bool.not_false,cond_true];exact c1,by simp only [Bool.not_false,cond_true];exact c2,fun s h=>?_,fun s h=>c4 s (List.mem_append.2 (.inl h)),fun s h ha=>?_,c6⟩
        · rcases c3 s h with h | h
          · rcases List.mem_append.1 h with h | h
            · exact .inl h
            · rw [List.mem_singleton.1 h];exact .inr ⟨List.mem_cons_self,a2.1 h2⟩
          · exact .inr ⟨List.mem_cons_of_mem _ h.1,h.2⟩
        · rcases List.mem_cons.1 h with rfl | h
          · exact ⟨s,hy,rfl⟩
          · exact c5 s h ha
      · have h2' : s97 ⟨⟨g⟩, acc.foldl apL zgA⟩ y = false := by simpa using h2
        rw [h2']
        obtain ⟨C,c1,c2,c3,c4,c5,c6⟩:=skip
        refine ⟨C,by simp only [decide_true,Bool.true_and,Bool.not_false,cond_true,cond_false];exact c1,by simp only [Bool.not_false,cond_true,cond_false];exact c2,fun s h=>(c3 s h).imp id fun k=>⟨List.mem_cons_of_mem _ k.1,k.2⟩,c4,fun s h ha=>?_,c6⟩
        rcases List.mem_cons.1 h with rfl | h
        · exact absurd (a2.2 ha) h2
        · exact c5 s h ha
theorem zof (g:Sl Gate) (G:zak g):∃ C:List straight,p65 g=true∧s65 g=⟨⟨g⟩,C.foldl apL zgA⟩∧(∀ s∈C,s∈cst g∧ziB g s)∧(∀ s∈cst g,ziB g s→∃ x∈C,toL x=toL s)∧C.Pairwise (fun x y=>toL x ≠ toL y):=by
 obtain ⟨e1,e2⟩:=ztQ g G
 obtain ⟨f1,f2⟩:=zHA g G
 unfold p65 s65
 rw [e1]
 by_cases hf:zhh g
 ·rw [e2.2 hf]
  refine ⟨[],rfl,rfl,(fun s h=>by cases h),fun s h=>?_,List.Pairwise.nil⟩
  rw [zCa hf] at h;cases h
 ·have : s67 ⟨g⟩ = false := by cases h : s67 ⟨g⟩; rfl; exact absurd (e2.1 h) hf
  rw [this]
  unfold znj zni znh zng znf zqP
  rw [f1,f2]
  obtain ⟨C,c1,c2,c3,_,c5,c6⟩:=zHB g G (cst g) [] 0 (fun _=>none) (fun s h=>zls G h) (by have:=zsm G;simp only [List.length_nil];omega) (fun c=>⟨fun h=>by simp [zdY] at h,fun ⟨x,hx,_⟩=>by cases hx⟩) List.Pairwise.nil
  refine ⟨C,by simp only [decide_true,Bool.true_and,cond_false];exact c1,by simp only [cond_false];exact c2,fun s h=>?_,c5,c6⟩
  rcases c3 s h with h | h
  ·cases h
  ·exact h
end Go.Proofs
namespace Go.Proofs
open Go Go.Pm
set_option maxRecDepth 100000
theorem zCc (l:Line) (g:Sl Gate):∀ (m i:Nat) (v:Sl Int),i+m=g.len→v.len≤i→((zhd (addI l g) m i v).len < g.len↔v.len < i∨∃ j,i≤j∧j < g.len∧s72 l (g.get j)=false):=by
 intro m
 induction m with
 | zero =>
  intro i v hi hv
  have:i=g.len:=by omega
  subst this
  exact ⟨fun h=>.inl h,fun h=>h.elim id fun ⟨j,a,b,_⟩=>absurd b (by omega)⟩
 | succ m ih =>
  intro i v hi hv
  show (zhd (addI l g) m (i+1) (addI l g i v)).len < g.len↔_
  rw [ih (i+1) (addI l g i v) (by omega) (ztH l g i v hv)]
  unfold addI
  cases h:s72 l (g.get i)
  ·rw [cond_false]
   exact ⟨fun _=>.inr ⟨i,Nat.le_refl _,by omega,h⟩,fun _=>.inl (by omega)⟩
  ·rw [cond_true]
   refine ⟨fun k=>k.imp (fun (k:v.len+1 < i+1)=>by omega) fun ⟨j,a,b,c⟩=>⟨j,by omega,b,c⟩,fun k=>k.imp (fun k=>by show v.len+1 < i+1;omega) fun ⟨j,a,b,c⟩=>⟨j,?_,b,c⟩⟩
   by_cases hj:j=i
   ·rw [hj,h] at c;cases c
   ·omega
theorem zCd {g:Sl Gate} (G:zak g) {s:straight} (S:SOK s):p27 (toL s) g=true∧(((s27 (toL s) g).len:Int) < (g.len:Int)↔¬ ziB g s):=by
 have hl:=G.2.2
 obtain ⟨a,b⟩:=zKJ (toL s) g (by omega)
 refine ⟨a,?_⟩
 rw [b]
 have:=zCc (toL s) g g.len 0 (⟨0,fun _=>default⟩:Sl Int) (by omega) (Nat.le_refl _)
 have e:((zLn (toL s) g).len < g.len↔_):=this
 rw [show (((zLn (toL s) g).len:Int) < (g.len:Int))↔(zLn (toL s) g).len < g.len by omega,e]
 constructor
 ·rintro (h | ⟨j, _, hj, hc⟩)
  ·exact absurd h (by omega)
  ·intro h
   have:=h j hj
   rw [← ztO S (G.1 j hj),hc] at this;cases this
 ·intro h
  refine .inr (Classical.byContradiction fun hn=>h fun i hi=>?_)
  rw [← ztO S (G.1 i hi)]
  cases hc:s72 (toL s) (g.get i)
  ·exact absurd ⟨i,Nat.zero_le _,hi,hc⟩ hn
  ·rfl
theorem zpC {α:Type} (l:List α):∀ (v:Sl α) (i:Nat),i < v.len→(l.foldl apL v).get i=v.get i:=by
 induction l with
 | nil=>intro v i _;rfl
 | cons x l ih =>
  intro v i hi
  rw [List.foldl_cons,ih _ _ (show i < v.len+1 by omega)]
  show zdv v.len v.get (fun _=>x) i=_
  unfold zdv
  rw [show Nat.ble v.len i=false by rw [← Bool.not_eq_true,Nat.ble_eq];omega]
theorem zhj {α:Type} (l:List α):∀ (v:Sl α) (i:Nat) (x:α),l[i]? = some x→(l.foldl apL v).get (v.len+i)=x:=by
 induction l with
 | nil=>intro v i x h;simp at h
 | cons y l ih =>
  intro v i x h
  rw [List.foldl_cons]
  cases i with
  | zero =>
   have h:some y=some x:=h
   cases h
   rw [zpC _ _ _ (show v.len+0 < v.len+1 by omega)]
   show zdv v.len v.get (fun _=>y) (v.len+0)=_
   unfold zdv
   rw [show Nat.ble v.len (v.len+0)=true by rw [Nat.ble_eq];omega]
  | succ i =>
   have:=ih (apL v y) i x (by simpa using h)
   rw [← this]
   show _=(l.foldl apL (apL v y)).get (v.len+1+i)
   congr 1;omega
def zlT (g:Sl Gate) (l:Line):Prop:=∃ s∈cst g,ziB g s∧toL s=l
theorem zKQ {g:Sl Gate} (G:zak g) {a b:Line} (ha:zlT g a) (hb:zlT g b):p81 a b g=true:=by
 obtain ⟨x,hx,_,rfl⟩:=ha
 obtain ⟨y,hy,_,rfl⟩:=hb
 unfold p81 zzf
 rw [(zzT g G (zls G hx)).1,(zzT g G (zls G hy)).1]
 cases (zuK (toL x) g != zuK (toL y) g) <;> simp
def zHC (out:Sl Line) (A:Nat) (x:Line):Sl Line :=
 ⟨(((A:Int) - (0:Int)).toNat+1)+((out.len:Int) - (A:Int)).toNat,(zdv (((A:Int) - (0:Int)).toNat+1) (zdv (((A:Int) - (0:Int)).toNat) (fun i=>out.get (i+((0:Int).toNat))) (fun _=>x)) (fun i=>out.get (i+A)))⟩
theorem zog {out:Sl Line} {A:Nat} {x:Line} (h:A≤out.len):(zHC out A x).len=out.len+1:=by
 show (((A:Int) - (0:Int)).toNat+1)+((out.len:Int) - (A:Int)).toNat=_;omega
theorem zil {out:Sl Line} {A:Nat} {x:Line} (j:Nat):(zHC out A x).get j=if j < A then out.get j else if j=A then x else out.get (j - 1):=by
 have e:((A:Int) - (0:Int)).toNat=A:=by omega
 show zdv (((A:Int) - (0:Int)).toNat+1) (zdv (((A:Int) - (0:Int)).toNat) (fun i=>out.get (i+((0:Int).toNat))) (fun _=>x)) (fun i=>out.get (i+A)) j=_
 rw [e]
 unfold zdv
 by_cases h1:A+1≤j
 ·rw [show Nat.ble (A + 1) j = true by rw [Nat.ble_eq]; exact h1, if_neg (by omega), if_neg (by omega)]
  show out.get (j - (A+1)+A)=_
  congr 1;omega
 ·rw [show Nat.ble (A + 1) j = false by rw [← Bool.not_eq_true, Nat.ble_eq]; exact h1]
  by_cases h2:A≤j
  ·have : j = A := by omega
   subst this
   rw [show Nat.ble j j=true by rw [Nat.ble_eq];omega,if_neg (by omega),if_pos rfl]
  ·rw [show Nat.ble A j = false by rw [← Bool.not_eq_true, Nat.ble_eq]; exact h2, if_pos (by omega)]
   rfl
open Classical in
noncomputable def zeh (out:Sl Line) (A:Nat) (x:Line):Sl Line:=if A < out.len∧out.get A=x then out else zHC out A x
theorem zOe (g : Sl Gate) (lv : Sl Line) (i : Nat) (hi : i < lv.len) (hlv : lv.len ≤ 10000) (S1 : Sl Line → Int → Sl Line) (P1 : Sl Line → Int → Bool) (out : Sl Line) (A : Nat) (hA : A ≤ out.len) (ho : out.len ≤ 10000) :
  zn3 P1 g lv out (i:Int) (A:Int)=P1 (zeh out A (lv.get i)) ((i+1:Nat):Int)∧zn2 S1 g lv out (i:Int) (A:Int)=S1 (zeh out A (lv.get i)) ((i+1:Nat):Int):=by
 have w:=zaD (n:=lv.len) hi (by omega)
 have k1:decide (0≤(i:Int)∧(i:Int) < (lv.len:Int))=true:=decide_eq_true (by omega)
 have k2:decide (0≤(0:Int)∧(0:Int)≤(A:Int)∧(A:Int)≤(out.len:Int))=true:=decide_eq_true (by omega)
 have k3:decide (((A:Int) - (0:Int)).toNat * 32≤140737488355328∧((A:Int) - (0:Int)).toNat≤9223372036854775807)=true:=decide_eq_true (by omega)
 have k4:decide ((((A:Int) - (0:Int)).toNat+1) * 32≤140737488355328∧((A:Int) - (0:Int)).toNat+1≤9223372036854775807)=true:=decide_eq_true (by omega)
 have k5:decide (0≤(A:Int)∧(A:Int)≤(out.len:Int)∧(out.len:Int)≤(out.len:Int))=true:=decide_eq_true (by omega)
 have k6:decide (((((A:Int) - (0:Int)).toNat+1)+((out.len:Int) - (A:Int)).toNat) * 32≤140737488355328∧(((A:Int) - (0:Int)).toNat+1)+((out.len:Int) - (A:Int)).toNat≤9223372036854775807)=true:=decide_eq_true (by omega)
 unfold zn3 zn2 zeh
 rw [Int.toNat_natCast,Int.toNat_natCast,k1,k2,k3,k4,k5,k6,w]
 by_cases h1:A < out.len
 ·rw [decide_eq_true (show (A : Int) < (out.len : Int) by omega), decide_eq_true (show 0 ≤ (A : Int) ∧ (A : Int) < (out.len : Int) by omega)]
  by_cases h2:out.get A=lv.get i
  ·rw [if_pos ⟨h1, h2⟩, h2, beq_self_eq_true, beq_self_eq_true, beq_self_eq_true, beq_self_eq_true]
   exact ⟨rfl,rfl⟩
  ·rw [if_neg fun h => h2 h.2]
   have hne : ¬ (((out.get A).Slope.Num == (lv.get i).Slope.Num)=true∧((out.get A).Slope.Den == (lv.get i).Slope.Den)=true∧((out.get A).Start.Num == (lv.get i).Start.Num)=true∧((out.get A).Start.Den == (lv.get i).Start.Den)=true):=by
    rintro ⟨a,b,c,d⟩
    rw [beq_iff_eq] at a b c d
    exact h2 (zlt (by unfold zik;rw [a,b,c,d]))
   generalize ((out.get A).Slope.Num == (lv.get i).Slope.Num)=b1 at hne ⊢
   generalize ((out.get A).Slope.Den == (lv.get i).Slope.Den)=b2 at hne ⊢
   generalize ((out.get A).Start.Num == (lv.get i).Start.Num)=b3 at hne ⊢
   generalize ((out.get A).Start.Den == (lv.get i).Start.Den)=b4 at hne ⊢
   cases b1 <;> cases b2 <;> cases b3 <;> cases b4 <;> first | exact ⟨rfl,rfl⟩ | exact absurd ⟨rfl,rfl,rfl,rfl⟩ hne
 ·rw [if_neg fun h => h1 h.1, decide_eq_false (show ¬ (A : Int) < (out.len : Int) by omega)]
  exact ⟨rfl,rfl⟩
theorem zP8 (g : Sl Gate) (G : zak g) (lv : Sl Line) (i : Nat) (hi : i < lv.len) (hlv : lv.len ≤ 10000) (hx : zlT g (lv.get i)) (S1 : Sl Line → Int → Sl Line) (P1 : Sl Line → Int → Bool) (out : Sl Line) (ho : out.len ≤ 10000) (hM : ∀ j, j < out.len → zlT g (out.get j)) :
  ∀ (m k a:Nat),a+m=out.len→m < k →
  zkM P1 g lv k out (i:Int) (a:Int)=P1 (zeh out (zlM (fun j=>!(s81 (out.get j) (lv.get i) g)) m a) (lv.get i)) ((i+1:Nat):Int) ∧
  zii S1 g lv k out (i:Int) (a:Int)=S1 (zeh out (zlM (fun j=>!(s81 (out.get j) (lv.get i) g)) m a) (lv.get i)) ((i+1:Nat):Int):=by
 intro m
 induction m with
 | zero =>
  intro k a ha hk
  obtain ⟨k,rfl⟩:∃ k',k=k'+1:=⟨k - 1,by omega⟩
  show zkL P1 g lv (zkM P1 g lv k) _ _ _=P1 (zeh out a _) _∧zkK S1 g lv (zii S1 g lv k) _ _ _=S1 (zeh out a _) _
  unfold zkL zkK
  rw [decide_eq_false (show ¬ (a:Int) < (out.len:Int) by omega),cond_false,cond_false]
  exact zOe g lv i hi hlv S1 P1 out a (by omega) ho
 | succ m ih =>
  intro k a ha hk
  obtain ⟨k,rfl⟩:∃ k',k=k'+1:=⟨k - 1,by omega⟩
  obtain ⟨i1,i2⟩:=ih k (a+1) (by omega) (by omega)
  show zkL P1 g lv (zkM P1 g lv k) _ _ _=_∧zkK S1 g lv (zii S1 g lv k) _ _ _=_
  generalize zkM P1 g lv k=P at i1
  generalize zii S1 g lv k=S at i2
  unfold zkL zkK
  rw [decide_eq_true (show (a:Int) < (out.len:Int) by omega),decide_eq_true (show 0≤(a:Int)∧(a:Int) < (out.len:Int) by omega),decide_eq_true (show 0≤(i:Int)∧(i:Int) < (lv.len:Int) by omega),Int.toNat_natCast,Int.toNat_natCast,zKQ G (hM a (by omega)) hx,zaD (n:=out.len) (by omega) (by omega)]
  cases h:s81 (out.get a) (lv.get i) g
  ·rw [zvQ (c := fun j => !(s81 (out.get j) (lv.get i) g)) (by show (!(s81 (out.get a) (lv.get i) g)) = true; rw [h]; rfl)]
   exact zOe g lv i hi hlv S1 P1 out a (by omega) ho
  ·rw [zvR (c := fun j => !(s81 (out.get j) (lv.get i) g)) (by show (!(s81 (out.get a) (lv.get i) g)) = false; rw [h]; rfl)]
   exact ⟨i1,i2⟩
end Go.Proofs
namespace Go.Proofs
open Go Go.Pm
set_option maxRecDepth 100000
def Bef (g:Sl Gate) (a b:Line):Prop:=s81 a b g=true
def Tot (g:Sl Gate):Prop:=(∀ a b c,zlT g a→zlT g b→zlT g c→Bef g a b→Bef g b c→Bef g a c)∧∀ a b,zlT g a→zlT g b→a ≠ b→Bef g a b∨Bef g b a
def Srt (g:Sl Gate) (v:Sl Line):Prop:=∀ i j,i < j→j < v.len→Bef g (v.get i) (v.get j)
theorem ztR {g:Sl Gate} (G:zak g) {s:straight} (h:s∈cst g):zlT g (toL s)↔ziB g s:=by
 refine ⟨fun ⟨x,hx,ha,e⟩ i hi=>?_,fun ha=>⟨s,h,ha,rfl⟩⟩
 rw [← ztO (zls G h) (G.1 i hi),← e,ztO (zls G hx) (G.1 i hi)]
 exact ha i hi
theorem put_mem {g:Sl Gate} {out:Sl Line} {A:Nat} {x:Line} (hA:A≤out.len) (hM:∀ j,j < out.len→zlT g (out.get j)) (hx:zlT g x):∀ j,j < (zeh out A x).len→zlT g ((zeh out A x).get j):=by
 unfold zeh
 by_cases h:A < out.len∧out.get A=x
 ·rw [if_pos h];exact hM
 ·rw [if_neg h]
  intro j hj
  rw [zog hA] at hj
  rw [zil]
  split
  ·exact hM j (by omega)
  ·split
   ·exact hx
   ·exact hM (j - 1) (by omega)
theorem zHD {out:Sl Line} {A:Nat} {x:Line} (hA:A≤out.len):(∃ j,j < (zeh out A x).len∧(zeh out A x).get j=x)∧∀ j,j < out.len→∃ i,i < (zeh out A x).len∧(zeh out A x).get i=out.get j:=by
 unfold zeh
 by_cases h:A < out.len∧out.get A=x
 ·rw [if_pos h];exact ⟨⟨A,h.1,h.2⟩,fun j hj=>⟨j,hj,rfl⟩⟩
 ·rw [if_neg h, zog hA]
  refine ⟨⟨A,by omega,by rw [zil,if_neg (by omega),if_pos rfl]⟩,fun j hj=>?_⟩
  by_cases hj2:j < A
  ·exact ⟨j,by omega,by rw [zil,if_pos hj2]⟩
  ·exact ⟨j+1,by omega,by rw [zil,if_neg (by omega),if_neg (by omega)];rfl⟩
theorem zHE {out:Sl Line} {A:Nat} {x:Line} (hA:A≤out.len):(zeh out A x).len≤out.len+1:=by
 unfold zeh;split
 ·omega
 ·rw [zog hA];omega
theorem zHF {g : Sl Gate} (T : Tot g) {out : Sl Line} {x : Line} (hM : ∀ j, j < out.len → zlT g (out.get j)) (hx : zlT g x) (hs : Srt g out) :
  Srt g (zeh out (zlM (fun j=>!(s81 (out.get j) x g)) out.len 0) x):=by
 have hle:=zCB (fun j=>!(s81 (out.get j) x g)) out.len
 have hlo:∀ j,j < fst (fun j=>!(s81 (out.get j) x g)) out.len→Bef g (out.get j) x:=fun j hj=>by
  have:(!(s81 (out.get j) x g))=false:=zCC (c:=fun j=>!(s81 (out.get j) x g)) hj
  show s81 (out.get j) x g=true
  cases h:s81 (out.get j) x g
  ·rw [h] at this;cases this
  ·rfl
 have hhi:fst (fun j=>!(s81 (out.get j) x g)) out.len < out.len→¬ Bef g (out.get (fst (fun j=>!(s81 (out.get j) x g)) out.len)) x:=fun h hb=>by
  have:(!(s81 (out.get (fst (fun j=>!(s81 (out.get j) x g)) out.len)) x g))=true:=zCD (c:=fun j=>!(s81 (out.get j) x g)) h
  have hb:s81 (out.get (fst (fun j=>!(s81 (out.get j) x g)) out.len)) x g=true:=hb
  rw [hb] at this;cases this
 show Srt g (zeh out (fst (fun j=>!(s81 (out.get j) x g)) out.len) x)
 generalize fst (fun j=>!(s81 (out.get j) x g)) out.len=A at hle hlo hhi ⊢
 unfold zeh
 by_cases h:A < out.len∧out.get A=x
 ·rw [if_pos h];exact hs
 ·rw [if_neg h]
  intro i j hij hj
  rw [zog hle] at hj
  rw [zil,zil]
  by_cases j1:j < A
  ·rw [if_pos (show i < A by omega),if_pos j1];exact hs i j hij (by omega)
  ·rw [if_neg j1]
   by_cases j2:j=A
   ·rw [if_pos j2,if_pos (show i < A by omega)];exact hlo i (by omega)
   ·rw [if_neg j2]
    by_cases i1:i < A
    ·rw [if_pos i1];exact hs i (j - 1) (by omega) (by omega)
    ·rw [if_neg i1]
     by_cases i2:i=A
     ·rw [if_pos i2]
      have hA:A < out.len:=by omega
      have b1:Bef g x (out.get A):=(T.2 x (out.get A) hx (hM A hA) (fun e=>h ⟨hA,e.symm⟩)).resolve_right (hhi hA)
      by_cases j3:j - 1=A
      ·rw [j3];exact b1
      ·exact T.1 _ _ _ hx (hM A hA) (hM (j - 1) (by omega)) b1 (hs A (j - 1) (by omega) (by omega))
     ·rw [if_neg i2];exact hs (i - 1) (j - 1) (by omega) (by omega)
structure Inv33 (g : Sl Gate) (lv : Sl Line) (i : Nat) (out : Sl Line) : Prop where
  len:out.len≤i
  mem:∀ j,j < out.len→zlT g (out.get j)
  has:∀ j,j < i→zlT g (lv.get j)→∃ a,a < out.len∧out.get a=lv.get j
  srt:Tot g→Srt g out
theorem zNo (g:Sl Gate) (G:zak g) (lv:Sl Line) (hlv:lv.len≤10000) (hc:∀ i,i < lv.len→∃ s∈cst g,lv.get i=toL s):∀ (m k i:Nat) (out:Sl Line),i+m=lv.len→m < k→Inv33 g lv i out →
  zkP g lv k out (i:Int)=true∧Inv33 g lv lv.len (zij g lv k out (i:Int)):=by
 intro m
 induction m with
 | zero =>
  intro k i out hi hk I
  obtain ⟨k,rfl⟩:∃ k',k=k'+1:=⟨k - 1,by omega⟩
  show zkO g lv (zkP g lv k) _ _=_∧Inv33 g lv lv.len (zkN g lv (zij g lv k) _ _)
  unfold zkO zkN
  rw [decide_eq_false (show ¬ (i:Int) < (lv.len:Int) by omega),cond_false,cond_false]
  have:i=lv.len:=by omega
  rw [← this]
  exact ⟨rfl,I⟩
 | succ m ih =>
  intro k i out hi hk I
  obtain ⟨k,rfl⟩:∃ k',k=k'+1:=⟨k - 1,by omega⟩
  have ih:=fun out I=>ih k (i+1) out (by omega) (by omega) I
  show zkO g lv (zkP g lv k) _ _=_∧Inv33 g lv lv.len (zkN g lv (zij g lv k) _ _)
  generalize zkP g lv k=P at ih
  generalize zij g lv k=S at ih
  obtain ⟨s,hs,es⟩:=hc i (by omega)
  obtain ⟨p1,p2⟩:=zCd G (zls G hs)
  rw [← es] at p1 p2
  unfold zkO zkN zzh zzg
  rw [decide_eq_true (show (i:Int) < (lv.len:Int) by omega),decide_eq_true (show 0≤(i:Int)∧(i:Int) < (lv.len:Int) by omega),Int.toNat_natCast,p1,zaD (n:=lv.len) (by omega) (by omega),cond_true,cond_true]
  by_cases ha:ziB g s
  ·rw [decide_eq_false (fun h => p2.1 h ha), cond_false, cond_false]
   have hx:zlT g (lv.get i):=by rw [es];exact (ztR G hs).2 ha
   have hl:=I.len
   obtain ⟨b1,b2⟩:=zP8 g G lv i (by omega) hlv hx S P out (by omega) I.mem out.len Fuel 0 (by omega) (by simp only [Fuel];omega)
   have hA:=zCB (fun j=>!(s81 (out.get j) (lv.get i) g)) out.len
   have I':Inv33 g lv (i+1) (zeh out (zlM (fun j=>!(s81 (out.get j) (lv.get i) g)) out.len 0) (lv.get i)):=by
    refine ⟨Nat.le_trans (zHE hA) (by omega),put_mem hA I.mem hx,fun j hj hm=>?_,fun T=>zHF T I.mem hx (I.srt T)⟩
    obtain ⟨q1,q2⟩:=zHD (out:=out) (x:=lv.get i) hA
    by_cases hji:j=i
    ·rw [hji];exact q1
    ·obtain ⟨a, ha1, ha2⟩ := I.has j (by omega) hm
     obtain ⟨c,hc1,hc2⟩:=q2 a ha1
     exact ⟨c,hc1,hc2.trans ha2⟩
   have:=ih _ I'
   refine ⟨?_,?_⟩
   ·simp only [decide_true,Bool.true_and];exact b1.trans this.1
   ·have e : zii S g lv Fuel out (i : Int) (0 : Int) = _ := b2
    rw [e];exact this.2
  ·rw [decide_eq_true (p2.2 ha), cond_true, cond_true]
   have I':Inv33 g lv (i+1) out:=by
    refine ⟨by have:=I.len;omega,I.mem,fun j hj hm=>?_,I.srt⟩
    by_cases hji:j=i
    ·rw [hji,es,ztR G hs] at hm;exact absurd hm ha
    ·exact I.has j (by omega) hm
   have:=ih _ I'
   exact ⟨by simp only [decide_true,Bool.true_and];exact this.1,this.2⟩
theorem zpD (g:Sl Gate) (G:zak g):p33 g=true∧(s33 g).len≤2304∧(∀ j,j < (s33 g).len→zlT g ((s33 g).get j))∧(∀ l,zlT g l→∃ a,a < (s33 g).len∧(s33 g).get a=l)∧(Tot g→Srt g (s33 g)):=by
  obtain ⟨e1,e2⟩:=zKL g G
  have hlen:(((cst g).map toL).foldl apL (⟨0,fun _=>default⟩:Sl Line)).len=(cst g).length:=by rw [zcv,List.length_map];simp
  have hget:∀ i s,(cst g)[i]? = some s→(((cst g).map toL).foldl apL (⟨0,fun _=>default⟩:Sl Line)).get i=toL s:=fun i s h=>by
    have:=zhj ((cst g).map toL) (⟨0,fun _=>default⟩:Sl Line) i (toL s) (by rw [List.getElem?_map,h];rfl)
    rw [Nat.zero_add] at this;exact this
  have hc:=zsm G
  obtain ⟨a, I⟩ := zNo g G (((cst g).map toL).foldl apL (⟨0, fun _ => default⟩ : Sl Line)) (by omega)
    (fun i hi=>by
      rw [hlen] at hi
      exact ⟨(cst g)[i],List.getElem_mem _,hget i _ (List.getElem?_eq_getElem hi)⟩)
    (cst g).length Fuel 0 (⟨0,fun _=>default⟩:Sl Line) (by omega) (by simp only [Fuel];omega)
    ⟨Nat.le_refl _,fun j hj=>absurd hj (Nat.not_lt_zero _),fun j hj=>absurd hj (Nat.not_lt_zero _),fun _ i j _ hj=>absurd hj (Nat.not_lt_zero _)⟩
  have es:s33 g=zij g (((cst g).map toL).foldl apL (⟨0,fun _=>default⟩:Sl Line)) Fuel (⟨0,fun _=>default⟩:Sl Line) (0:Int):=by
    unfold s33;rw [e2];rfl
  have I:Inv33 g (((cst g).map toL).foldl apL (⟨0,fun _=>default⟩:Sl Line)) (((cst g).map toL).foldl apL (⟨0,fun _=>default⟩:Sl Line)).len (s33 g):=by rw [es];exact I
  refine ⟨?_,by have:=I.len;omega,I.mem,fun l ⟨s,hs,ha,e⟩=>?_,I.srt⟩
  · unfold p33
    rw [e1,e2]
    simp only [decide_true,Bool.true_and]
    exact a
  · obtain ⟨i, hi⟩ := List.getElem?_of_mem hs
    have hi2:i < (cst g).length:=(List.getElem?_eq_some_iff.1 hi).1
    have hgi:=hget i s hi
    obtain ⟨b,hb1,hb2⟩:=I.has i (by omega) (by rw [hgi];exact ⟨s,hs,ha,rfl⟩)
    exact ⟨b,hb1,by rw [hb2,hgi,e]⟩
end Go.Proofs
namespace Go.Proofs
open Go Go.Pm
set_option maxRecDepth 100000
def cmS (g:Sl Gate) (i:Nat) (s:Int×Int):Int×Int:=(if (g.get i).Low > s.1 then (g.get i).Low else s.1,if (g.get i).High < s.2 then (g.get i).High else s.2)
def com (g:Sl Gate):Int×Int:=zhd (cmS g) (g.len - 1) 1 ((g.get 0).Low,(g.get 0).High)
theorem zP9 (g:Sl Gate) (h:1≤g.len):zhd (cmS g) g.len 0 ((g.get 0).Low,(g.get 0).High)=com g:=by
 obtain ⟨m,hm⟩:∃ m,g.len=m+1:=⟨g.len - 1,by omega⟩
 unfold com
 rw [hm]
 show zhd (cmS g) m 1 (cmS g 0 ((g.get 0).Low,(g.get 0).High))=zhd (cmS g) m 1 _
 have:cmS g 0 ((g.get 0).Low,(g.get 0).High)=((g.get 0).Low,(g.get 0).High):=by
  unfold cmS
  rw [if_neg (by show ¬ (g.get 0).Low > (g.get 0).Low;omega),if_neg (by show ¬ (g.get 0).High < (g.get 0).High;omega)]
 rw [this]
theorem zDs (g:Sl Gate) (G:zak g):p98 ⟨g⟩=true∧s98 ⟨g⟩=⟨(com g).1,(com g).2⟩:=by
  have hl:=G.2
  have := zfC (σ := Int × Int) (step := cmS g) (E := fun s => (⟨s.1, s.2⟩ : Span)) (EP := fun _ => true) (Inv := fun _ _ => True) (a := 0) (n := g.len) (lpS := fun k s i => zhA ⟨g⟩ k i s.1 s.2) (lpP := fun k s i => zhB ⟨g⟩ k i s.1 s.2)
    (fun k i s _ hi _=>by
      show zhy ⟨g⟩ (zhA ⟨g⟩ k) (i:Int) s.1 s.2=_
      generalize zhA ⟨g⟩ k=S
      unfold zhy
      rw [decide_eq_true (show (i:Int) < ((⟨g⟩:list).Gates.len:Int) by show (i:Int) < (g.len:Int);omega),cond_true,Int.toNat_natCast]
      rfl)
    (fun k s=>by
      show zhy ⟨g⟩ (zhA ⟨g⟩ k) (g.len:Int) s.1 s.2=_
      unfold zhy
      rw [decide_eq_false (show ¬ (g.len:Int) < ((⟨g⟩:list).Gates.len:Int) by show ¬ (g.len:Int) < (g.len:Int);omega),cond_false])
    (fun k i s _ hi _=>by
      show zhz ⟨g⟩ (zhB ⟨g⟩ k) (i:Int) s.1 s.2=_
      generalize zhB ⟨g⟩ k=S
      unfold zhz
      rw [decide_eq_true (show (i:Int) < ((⟨g⟩:list).Gates.len:Int) by show (i:Int) < (g.len:Int);omega),decide_eq_true (show 0≤(i:Int)∧(i:Int) < ((⟨g⟩:list).Gates.len:Int) by show 0≤(i:Int)∧(i:Int) < (g.len:Int);omega),cond_true,Bool.true_and,Int.toNat_natCast]
      rfl)
    (fun k s=>by
      show zhz ⟨g⟩ (zhB ⟨g⟩ k) (g.len:Int) s.1 s.2=_
      unfold zhz
      rw [decide_eq_false (show ¬ (g.len:Int) < ((⟨g⟩:list).Gates.len:Int) by show ¬ (g.len:Int) < (g.len:Int);omega),cond_false])
    (fun _ _ _ _ _=>trivial) (Nat.zero_le _) (by omega) ((g.get 0).Low,(g.get 0).High) trivial
  obtain ⟨a,b⟩:=this
  rw [show g.len - 0=g.len from rfl,zP9 g hl.1] at b
  refine ⟨?_,b⟩
  unfold p98
  rw [decide_eq_true (show 0≤(0:Int)∧(0:Int) < ((⟨g⟩:list).Gates.len:Int) from ⟨by omega,by show (0:Int) < (g.len:Int);omega⟩),Bool.true_and,Bool.true_and]
  exact a
theorem zpE (g:Sl Gate) (G:zak g):p71 g=true∧s71 g=((com g).1,(com g).2,decide ((com g).1≤(com g).2)):=by
  have hl:=G.2
  have := zfC (σ := Int × Int) (step := cmS g) (E := fun s => (s.1, s.2, decide (s.1 ≤ s.2))) (EP := fun _ => true) (Inv := fun _ _ => True) (a := 1) (n := g.len) (lpS := fun k s i => zkS g k s.1 s.2 i) (lpP := fun k s i => zkT g k s.1 s.2 i)
    (fun k i s _ hi _=>by
      show zkQ g (zkS g k) s.1 s.2 (i:Int)=_
      generalize zkS g k=S
      unfold zkQ
      rw [decide_eq_true (show (i:Int) < (g.len:Int) by omega),cond_true,Int.toNat_natCast]
      rfl)
    (fun k s=>by
      show zkQ g (zkS g k) s.1 s.2 (g.len:Int)=_
      unfold zkQ
      rw [decide_eq_false (show ¬ (g.len:Int) < (g.len:Int) by omega),cond_false])
    (fun k i s _ hi _=>by
      show zkR g (zkT g k) s.1 s.2 (i:Int)=_
      generalize zkT g k=S
      unfold zkR
      rw [decide_eq_true (show (i:Int) < (g.len:Int) by omega),decide_eq_true (show 0≤(i:Int)∧(i:Int) < (g.len:Int) by omega),cond_true,Bool.true_and,Bool.true_and,Int.toNat_natCast]
      rfl)
    (fun k s=>by
      show zkR g (zkT g k) s.1 s.2 (g.len:Int)=_
      unfold zkR
      rw [decide_eq_false (show ¬ (g.len:Int) < (g.len:Int) by omega),cond_false])
    (fun _ _ _ _ _=>trivial) hl.1 (by omega) ((g.get 0).Low,(g.get 0).High) trivial
  obtain ⟨a,b⟩:=this
  refine ⟨?_,b⟩
  unfold p71
  rw [decide_eq_true (show 0≤(0:Int)∧(0:Int) < (g.len:Int) by omega),Bool.true_and,Bool.true_and]
  exact a
theorem zzU (g:Sl Gate) (G:zak g):p66 (s65 g)=true∧p21 g=true∧s66 (s65 g)=s21 g:=by
 obtain ⟨C,_,c2,c3,c4,_⟩:=zof g G
 obtain ⟨a1,a2⟩:=ztQ g G
 obtain ⟨b1,b2⟩:=zDs g G
 obtain ⟨d1,d2⟩:=zpE g G
 obtain ⟨e1,e2⟩:=zhi g G
 obtain ⟨f1,_,f3,f4,_⟩:=zpD g G
 have h67:s67 ⟨g⟩=s22 g:=Bool.eq_iff_iff.2 (a2.trans e2.symm)
 have hcl:(C.foldl apL (zgA:Sl straight)).len=C.length:=by rw [zcv];simp
 rw [c2]
 unfold p66 s66 p21 s21
 show (decide (p98 ⟨g⟩=true) && (decide (p67 ⟨g⟩=true) && true))=true∧_∧cond (s67 ⟨g⟩) (decide ((s98 ⟨g⟩).Low≤(s98 ⟨g⟩).High)) (decide (((C.foldl apL (zgA:Sl straight)).len:Int) > 0))=_
 rw [a1,b1,b2,d1,d2,e1,f1,h67,hcl]
 refine ⟨by simp,by cases s22 g <;> simp,?_⟩
 cases s22 g
 ·rw [cond_false, cond_false]
  refine decide_eq_decide.2 ⟨fun h=>?_,fun h=>?_⟩
  ·obtain ⟨x, hx⟩ := List.exists_mem_of_length_pos (l := C) (by omega)
   obtain ⟨a,ha,_⟩:=f4 (toL x) ⟨x,(c3 x hx).1,(c3 x hx).2,rfl⟩
   omega
  ·obtain ⟨s, hs, ha, _⟩ := f3 0 (by omega)
   obtain ⟨x,hx,_⟩:=c4 s hs ha
   have:=List.length_pos_of_mem hx
   omega
 ·rfl
end Go.Proofs
namespace Go.Proofs
open Go Go.Pm
set_option maxRecDepth 100000
def FOK (f:Frac):Prop:=(-1000000000000≤f.Num∧f.Num≤1000000000000)∧1≤f.Den∧f.Den≤100000
def ltF (a b:Frac):Prop:=a.Num * b.Den < b.Num * a.Den
theorem zHG (x y:Int):zEu x y < 0↔x < y:=by
 unfold zEu zEs
 by_cases h:x < y
 ·simp [h]
 ·by_cases h2:x > y <;> simp [h,h2]
theorem zHH (x y:Int):zEu x y > 0↔x > y:=by
 unfold zEu zEs
 by_cases h:x < y
 ·have : ¬ x > y := by omega
  simp [h];omega
 ·by_cases h2:x > y <;> simp [h,h2]
theorem cross {a b:Frac} (ha:FOK a) (hb:FOK b):w64 (a.Num * b.Den)=a.Num * b.Den:=by
 have:=ziJ ha.1.1 ha.1.2 (show 0≤b.Den by have:=hb.2;omega) hb.2.2
 exact zaC (by omega) (by omega)
theorem zzV {a b:Frac} (ha:FOK a) (hb:FOK b):zBm a b=true↔ltF a b:=by
 unfold zBm s69 ltF
 rw [cross ha hb,cross hb ha,decide_eq_true_eq,zHG]
theorem zzW {a b:Frac} (ha:FOK a) (hb:FOK b):zBn a b=true↔ltF b a:=by
 unfold zBn s69 ltF
 rw [cross ha hb,cross hb ha,decide_eq_true_eq,zHH]
theorem ztS {a b:Frac} (ha:FOK a) (hb:FOK b):s29 a b=true↔ltF a b:=by
 unfold s29 ltF
 rw [cross ha hb,cross hb ha,decide_eq_true_eq]
theorem zoh {a b:Frac} (ha:0 < a.Den) (hb:0 < b.Den):ltF (red a.Num a.Den) (red b.Num b.Den)↔ltF a b:=by
 have a1:=zdn (num:=a.Num) ha
 have a2:=zc6 (num:=a.Num) ha
 have b1:=zdn (num:=b.Num) hb
 have b2:=zc6 (num:=b.Num) hb
 have ga:=zcs (num:=a.Num) ha
 have gb:=zcs (num:=b.Num) hb
 unfold ltF
 generalize red a.Num a.Den=x at *
 generalize red b.Num b.Den=y at *
 generalize (Int.gcd a.Num a.Den:Int)=G at *
 generalize (Int.gcd b.Num b.Den:Int)=K at *
 have hk:=Int.mul_pos ga gb
 have e1:a.Num * b.Den=(G * K) * (x.Num * y.Den):=by rw [← a1,← b2];ac_rfl
 have e2:b.Num * a.Den=(G * K) * (y.Num * x.Den):=by rw [← b1,← a2];ac_rfl
 rw [e1,e2]
 have:=zhg (x:=y.Num * x.Den) (y:=x.Num * y.Den) hk
 constructor
 ·intro h;exact Int.not_le.1 fun k=>absurd (this.1 k) (by omega)
 ·intro h;exact Int.not_le.1 fun k=>absurd (this.2 k) (by omega)
theorem zlu {f:Frac} (h:FOK f):FOK (red f.Num f.Den):=by
 obtain ⟨h1,h2,h3⟩:=h
 have hd:0 < f.Den:=by omega
 have:=zgz (num:=f.Num) hd
 have:=zlr (num:=f.Num) hd
 have:=zcG (num:=f.Num) hd
 exact ⟨⟨by omega,by omega⟩,by omega,by omega⟩
theorem zhk {a b:Frac} (ha:0 < a.Den) (hb:0 < b.Den) (h1 : ¬ ltF a b) (h2 : ¬ ltF b a):red a.Num a.Den=red b.Num b.Den :=
 (ztI ha hb).2 (by unfold ltF at h1 h2;omega)
end Go.Proofs
namespace Go.Proofs
open Go Go.Pm
set_option maxRecDepth 100000
theorem zKR {x y X Y:Int} (h1 : -X≤x) (h2:x≤X) (h3 : -Y≤y) (h4:y≤Y) : -(X * Y)≤x * y∧x * y≤X * Y:=by
 rcases Int.le_total 0 y with h | h
 ·exact ziJ h1 h2 h h4
 ·have := ziJ (x := x) (y := -y) (X := X) (Y := Y) h1 h2 (by omega) (by omega)
  rw [Int.mul_neg] at this
  omega
theorem ztT {s:straight} (S:SOK s) {z:Int} (hz : -200000≤z∧z≤200000):p28 (toL s) z=true∧s28 (toL s) z=red (plc s z) s.den:=by
 obtain ⟨S1,S2,S3⟩:=S
 have hd:0 < s.den:=by omega
 have g1:=zcs (num:=s.slope) hd
 have g2:=zcs (num:=s.start) hd
 have r1:=zgz (num:=s.slope) hd
 have r2:=zgz (num:=s.start) hd
 have e1:=zdn (num:=s.slope) hd
 have e2:=zc6 (num:=s.slope) hd
 have e3:=zdn (num:=s.start) hd
 have e4:=zc6 (num:=s.start) hd
 have p1:=zcG (num:=s.slope) hd
 have p2:=zcG (num:=s.start) hd
 have q1:=zlr (num:=s.slope) hd
 have q2:=zlr (num:=s.start) hd
 unfold p28 s28 zzj zzi toL
 simp only
 generalize (red s.slope s.den).Num=a at *
 generalize (red s.slope s.den).Den=b at *
 generalize (red s.start s.den).Num=c at *
 generalize (red s.start s.den).Den=d at *
 generalize (Int.gcd s.slope s.den:Int)=G1 at *
 generalize (Int.gcd s.start s.den:Int)=G2 at *
 obtain ⟨k1,k2⟩:=zDp d b (by omega) (by omega) (by omega)
 have g0:=zcs (num:=d) p1
 obtain ⟨d',hd'⟩:=zOc d b
 obtain ⟨b',hb'⟩:=zOd d b
 rw [k1,k2]
 generalize (Int.gcd d b:Int)=g at *
 have pd:0 < d':=by
  rcases Int.lt_or_le 0 d' with h | h
  ·exact h
  ·have:=Int.mul_le_mul_of_nonneg_left h (Int.le_of_lt g0);rw [← hd',Int.mul_zero] at this;omega
 have pb:0 < b':=by
  rcases Int.lt_or_le 0 b' with h | h
  ·exact h
  ·have:=Int.mul_le_mul_of_nonneg_left h (Int.le_of_lt g0);rw [← hb',Int.mul_zero] at this;omega
 have ld:d'≤d:=by have:=Int.mul_le_mul_of_nonneg_right (show 1≤g by omega) (Int.le_of_lt pd);omega
 have lb:b'≤b:=by have:=Int.mul_le_mul_of_nonneg_right (show 1≤g by omega) (Int.le_of_lt pb);omega
 have t1:d.tdiv g=d':=by rw [hd'];exact Int.mul_tdiv_cancel_left _ (by omega)
 have m1:=ziJ (x:=d') (X:=100000) (y:=b) (Y:=100000) (by omega) (by omega) (by omega) (by omega)
 have m2:=Int.mul_pos pd p1
 have t2:(d' * b).tdiv d=b':=by
  have:d' * b=d * b':=by rw [hb',hd'];ac_rfl
  rw [this];exact Int.mul_tdiv_cancel_left _ (by omega)
 have t3:(d' * b).tdiv b=d':=by rw [Int.mul_comm];exact Int.mul_tdiv_cancel_left _ (by omega)
 have m3:=ziJ (x:=c) (X:=200000000000) (y:=b') (Y:=100000) (by omega) (by omega) (by omega) (by omega)
 have m4:=ziJ (x:=a) (X:=2000000) (y:=d') (Y:=100000) (by omega) (by omega) (by omega) (by omega)
 have m5:=zKR (x:=a * d') (X:=2000000 * 100000) (y:=z) (Y:=200000) (by omega) (by omega) (by omega) (by omega)
 rw [t1,zaC (x:=d') (by omega) (by omega),zaC (x:=d' * b) (by omega) (by omega),t2,t3,zaC (x:=b') (by omega) (by omega),zaC (x:=d') (by omega) (by omega),zaC (x:=c * b') (by omega) (by omega),zaC (x:=a * d') (by omega) (by omega),zaC (x:=a * d' * z) (by omega) (by omega),zaC (x:=c * b'+a * d' * z) (by omega) (by omega)]
 obtain ⟨x1,x2⟩:=ze7 (num:=c * b'+a * d' * z) (den:=d' * b) (by omega) (by omega) (by omega) (by omega)
 rw [x1,x2,decide_eq_true (show g ≠ 0 by omega),decide_eq_true (show d ≠ 0 by omega),decide_eq_true (show b ≠ 0 by omega)]
 refine ⟨by simp,(ztI m2 hd).2 ?_⟩
 unfold plc
 have u1:c * b' * s.den=s.start * (d' * b):=by
  rw [← e3,← e4,hb',hd'];ac_rfl
 have u2:a * d' * z * s.den=s.slope * z * (d' * b):=by
  rw [← e1,← e2];ac_rfl
 rw [Int.add_mul,Int.add_mul,u1,u2]
theorem zdF {a b c:Frac} (ha:0 < a.Den) (hb:0 < b.Den) (hc:0 < c.Den) (h1 : ¬ ltF b a) (h2 : ¬ ltF c b) : ¬ ltF c a:=by
 unfold ltF at *
 intro h3
 -- a ≤ b, b ≤ c, c < a
 have x1:a.Num * b.Den≤b.Num * a.Den:=by omega
 have x2:b.Num * c.Den≤c.Num * b.Den:=by omega
 have y1:=Int.mul_le_mul_of_nonneg_right x1 (Int.le_of_lt hc)
 have y2:=Int.mul_le_mul_of_nonneg_right x2 (Int.le_of_lt ha)
 have y3:=Int.mul_lt_mul_of_pos_right h3 hb
 have z1:b.Num * a.Den * c.Den=b.Num * c.Den * a.Den:=by ac_rfl
 have z2:c.Num * b.Den * a.Den=c.Num * a.Den * b.Den:=by ac_rfl
 have z3:a.Num * b.Den * c.Den=a.Num * c.Den * b.Den:=by ac_rfl
 omega
def ze2 (v:Sl Frac) (f:Frac):Prop:=(∃ i,i < v.len∧v.get i=f)∧∀ j,j < v.len→¬ ltF (v.get j) f
def ze3 (v:Sl Frac) (f:Frac):Prop:=(∃ i,i < v.len∧v.get i=f)∧∀ j,j < v.len→¬ ltF f (v.get j)
theorem zHI (v:Sl Frac) (h1:1≤v.len) (h2:v.len≤100000) (hv:∀ i,i < v.len→FOK (v.get i)):zHU v=true∧ze2 v (zqz v):=by
  have key:∀ (m k i:Nat) (sl:Sl Frac) (o:Frac),sl.len=v.len - 1→(∀ x,sl.get x=v.get (x+1))→i+m=v.len - 1→m < k→(∃ a,a < v.len∧v.get a=o)→(∀ j,j≤i→¬ ltF (v.get j) o) →
      zfN v k sl (i:Int) o.Num o.Den=true∧ze2 v (zfM v k sl (i:Int) o.Num o.Den):=by
    intro m
    induction m with
    | zero =>
      intro k i sl o hs hg hi hk ho hl
      obtain ⟨k,rfl⟩:∃ k',k=k'+1:=⟨k - 1,by omega⟩
      show zfL v (zfN v k) _ _ _ _=_∧ze2 v (zfK v (zfM v k) _ _ _ _)
      unfold zfL zfK
      rw [decide_eq_false (show ¬ (i:Int) < (((v.len:Int) - (1:Int)).toNat:Int) by omega),cond_false,cond_false]
      exact ⟨rfl,ho,fun j hj=>hl j (by omega)⟩
    | succ m ih =>
      intro k i sl o hs hg hi hk ho hl
      obtain ⟨k,rfl⟩:∃ k',k=k'+1:=⟨k - 1,by omega⟩
      have ih:=fun o ho hl=>ih k (i+1) sl o hs hg (by omega) (by omega) ho hl
      show zfL v (zfN v k) _ _ _ _=_∧ze2 v (zfK v (zfM v k) _ _ _ _)
      generalize zfN v k=P at ih
      generalize zfM v k=S at ih
      unfold zfL zfK zm9 zm8
      have ho':=ho
      obtain ⟨a,ha,ea⟩:=ho'
      have fo:FOK o:=ea ▸ hv a ha
      have fx:=hv (i+1) (by omega)
      rw [decide_eq_true (show (i:Int) < (((v.len:Int) - (1:Int)).toNat:Int) by omega),decide_eq_true (show 0≤(i:Int)∧(i:Int) < (sl.len:Int) by omega),cond_true,cond_true,Bool.true_and,Int.toNat_natCast,hg,zaD (n:=v.len) (by omega) (by omega)]
      by_cases hlt:ltF (v.get (i+1)) o
      · rw [show zBm (v.get (i + 1)) (⟨o.Num, o.Den⟩ : Frac) = true from (zzV fx fo).2 hlt, cond_true, cond_true]
        refine ih (v.get (i+1)) ⟨i+1,by omega,rfl⟩ fun j hj=>?_
        by_cases hji:j=i+1
        · rw [hji];unfold ltF;omega
        · have g1 := hl j (by omega)
          have fj:=hv j (by omega)
          refine zdF (b:=o) (by have:=fx.2;omega) (by have:=fo.2;omega) (by have:=fj.2;omega) ?_ g1
          unfold ltF at hlt ⊢;omega
      · have e:zBm (v.get (i+1)) (⟨o.Num,o.Den⟩:Frac)=false:=by
          cases h:zBm (v.get (i+1)) (⟨o.Num,o.Den⟩:Frac)
          · rfl
          · exact absurd ((zzV fx fo).1 h) hlt
        rw [e,cond_false,cond_false]
        refine ih o ho fun j hj=>?_
        by_cases hji:j=i+1
        · rw [hji];exact hlt
        · exact hl j (by omega)
  have hk := key (v.len - 1) Fuel 0 (⟨((v.len : Int) - (1:Int)).toNat, (fun i => v.get (i + ((1:Int).toNat)))⟩ : Sl Frac) (v.get 0) (by show ((v.len : Int) - (1:Int)).toNat = _; omega) (fun _ => rfl) (by omega) (by simp only [Fuel]; omega) ⟨0, by omega, rfl⟩
    (fun j hj => by have : j = 0 := by omega
                    rw [this];unfold ltF;omega)
  refine ⟨?_,hk.2⟩
  unfold zHU
  rw [decide_eq_true (show 0≤(0:Int)∧(0:Int) < (v.len:Int) by omega),decide_eq_true (show 0≤(1:Int)∧(1:Int)≤(v.len:Int)∧(v.len:Int)≤(v.len:Int) by omega),Bool.true_and,Bool.true_and]
  exact hk.1
end Go.Proofs
namespace Go.Proofs
open Go Go.Pm
set_option maxRecDepth 100000
theorem zCe (v:Sl Frac) (h1:1≤v.len) (h2:v.len≤100000) (hv:∀ i,i < v.len→FOK (v.get i)):zux v=true∧ze3 v (s111a v):=by
  have key:∀ (m k i:Nat) (sl:Sl Frac) (o:Frac),sl.len=v.len - 1→(∀ x,sl.get x=v.get (x+1))→i+m=v.len - 1→m < k→(∃ a,a < v.len∧v.get a=o)→(∀ j,j≤i→¬ ltF o (v.get j)) →
      zet v k sl (i:Int) o.Num o.Den=true∧ze3 v (zes v k sl (i:Int) o.Num o.Den):=by
    intro m
    induction m with
    | zero =>
      intro k i sl o hs hg hi hk ho hl
      obtain ⟨k,rfl⟩:∃ k',k=k'+1:=⟨k - 1,by omega⟩
      show zer v (zet v k) _ _ _ _=_∧ze3 v (zeq v (zes v k) _ _ _ _)
      unfold zer zeq
      rw [decide_eq_false (show ¬ (i:Int) < (((v.len:Int) - (1:Int)).toNat:Int) by omega),cond_false,cond_false]
      exact ⟨rfl,ho,fun j hj=>hl j (by omega)⟩
    | succ m ih =>
      intro k i sl o hs hg hi hk ho hl
      obtain ⟨k,rfl⟩:∃ k',k=k'+1:=⟨k - 1,by omega⟩
      have ih:=fun o ho hl=>ih k (i+1) sl o hs hg (by omega) (by omega) ho hl
      show zer v (zet v k) _ _ _ _=_∧ze3 v (zeq v (zes v k) _ _ _ _)
      generalize zet v k=P at ih
      generalize zes v k=S at ih
      unfold zer zeq zjT zjS
      have ho':=ho
      obtain ⟨a,ha,ea⟩:=ho'
      have fo:FOK o:=ea ▸ hv a ha
      have fx:=hv (i+1) (by omega)
      rw [decide_eq_true (show (i:Int) < (((v.len:Int) - (1:Int)).toNat:Int) by omega),decide_eq_true (show 0≤(i:Int)∧(i:Int) < (sl.len:Int) by omega),cond_true,cond_true,Bool.true_and,Int.toNat_natCast,hg,zaD (n:=v.len) (by omega) (by omega)]
      by_cases hlt:ltF o (v.get (i+1))
      · rw [show zBn (v.get (i + 1)) (⟨o.Num, o.Den⟩ : Frac) = true from (zzW fx fo).2 hlt, cond_true, cond_true]
        refine ih (v.get (i+1)) ⟨i+1,by omega,rfl⟩ fun j hj=>?_
        by_cases hji:j=i+1
        · rw [hji];unfold ltF;omega
        · have g1 := hl j (by omega)
          have fj:=hv j (by omega)
          refine zdF (b:=o) (by have:=fj.2;omega) (by have:=fo.2;omega) (by have:=fx.2;omega) g1 ?_
          unfold ltF at hlt ⊢;omega
      · have e:zBn (v.get (i+1)) (⟨o.Num,o.Den⟩:Frac)=false:=by
          cases h:zBn (v.get (i+1)) (⟨o.Num,o.Den⟩:Frac)
          · rfl
          · exact absurd ((zzW fx fo).1 h) hlt
        rw [e,cond_false,cond_false]
        refine ih o ho fun j hj=>?_
        by_cases hji:j=i+1
        · rw [hji];exact hlt
        · exact hl j (by omega)
  have hk := key (v.len - 1) Fuel 0 (⟨((v.len : Int) - (1:Int)).toNat, (fun i => v.get (i + ((1:Int).toNat)))⟩ : Sl Frac) (v.get 0) (by show ((v.len : Int) - (1:Int)).toNat = _; omega) (fun _ => rfl) (by omega) (by simp only [Fuel]; omega) ⟨0, by omega, rfl⟩
    (fun j hj => by have : j = 0 := by omega
                    rw [this];unfold ltF;omega)
  refine ⟨?_,hk.2⟩
  unfold zux
  rw [decide_eq_true (show 0≤(0:Int)∧(0:Int) < (v.len:Int) by omega),decide_eq_true (show 0≤(1:Int)∧(1:Int)≤(v.len:Int)∧(v.len:Int)≤(v.len:Int) by omega),Bool.true_and,Bool.true_and]
  exact hk.1
theorem zzX {w : Nat → Frac} {n : Nat} (h1 : 1 ≤ n) (hn : n ≤ 100000) (hw : ∀ j, j < n → FOK (w j)) {lpS : Nat → Int → Frac → Frac → Frac × Frac} {lpP : Nat → Int → Frac → Frac → Bool}
    (hS:∀ (k i:Nat) (a b:Frac),i < n→lpS (k+1) (i:Int) a b=lpS k (w64 ((i:Int)+(1:Int))) (cond (s29 (w i) a) (w i) a) (cond (s29 b (w i)) (w i) b))
    (hE:∀ (k:Nat) (a b:Frac),lpS (k+1) (n:Int) a b=(a,b))
    (hP:∀ (k i:Nat) (a b:Frac),i < n→lpP (k+1) (i:Int) a b=lpP k (w64 ((i:Int)+(1:Int))) (cond (s29 (w i) a) (w i) a) (cond (s29 b (w i)) (w i) b))
    (hF:∀ (k:Nat) (a b:Frac),lpP (k+1) (n:Int) a b=true) :
    lpP Fuel (1:Int) (w 0) (w 0)=true∧ze2 ⟨n,w⟩ (lpS Fuel (1:Int) (w 0) (w 0)).1∧ze3 ⟨n,w⟩ (lpS Fuel (1:Int) (w 0) (w 0)).2:=by
  have key:∀ (m k i:Nat) (a b:Frac),i+m=n→m < k→(∃ j,j < n∧w j=a)→(∃ j,j < n∧w j=b)→(∀ j,j < i→¬ ltF (w j) a)→(∀ j,j < i→¬ ltF b (w j)) →
      lpP k (i:Int) a b=true∧ze2 ⟨n,w⟩ (lpS k (i:Int) a b).1∧ze3 ⟨n,w⟩ (lpS k (i:Int) a b).2:=by
    intro m
    induction m with
    | zero =>
      intro k i a b hi hk ha hb hl hg
      obtain ⟨k,rfl⟩:∃ k',k=k'+1:=⟨k - 1,by omega⟩
      obtain rfl:i=n:=by omega
      rw [hE,hF]
      exact ⟨rfl,⟨ha,hl⟩,hb,hg⟩
    | succ m ih =>
      intro k i a b hi hk ha hb hl hg
      obtain ⟨k,rfl⟩:∃ k',k=k'+1:=⟨k - 1,by omega⟩
      have hin:i < n:=by omega
      rw [hS k i a b hin,hP k i a b hin,zaD (n:=n) hin (by omega)]
      have fi:=hw i hin
      have fa:FOK a:=by obtain ⟨j,hj,e⟩:=ha;exact e ▸ hw j hj
      have fb:FOK b:=by obtain ⟨j,hj,e⟩:=hb;exact e ▸ hw j hj
      have pi:=fi.2;have pa:=fa.2;have pb:=fb.2
      refine ih k (i+1) _ _ (by omega) (by omega) ?_ ?_ ?_ ?_
      · cases s29 (w i) a
        · exact ha
        · exact ⟨i,hin,rfl⟩
      · cases s29 b (w i)
        · exact hb
        · exact ⟨i,hin,rfl⟩
      · intro j hj
        cases e:s29 (w i) a
        · by_cases hji : j = i
          · rw [hji];intro h;rw [(ztS fi fa).2 h] at e;cases e
          · exact hl j (by omega)
        · have hlt := (ztS fi fa).1 e
          show ¬ ltF (w j) (w i)
          by_cases hji:j=i
          · rw [hji];unfold ltF;omega
          · have fj := (hw j (by omega)).2
            refine zdF (b:=a) (by omega) (by omega) (by omega) ?_ (hl j (by omega))
            unfold ltF at hlt ⊢;omega
      · intro j hj
        cases e:s29 b (w i)
        · by_cases hji : j = i
          · rw [hji];intro h;rw [(ztS fb fi).2 h] at e;cases e
          · exact hg j (by omega)
        · have hlt := (ztS fb fi).1 e
          show ¬ ltF (w i) (w j)
          by_cases hji:j=i
          · rw [hji];unfold ltF;omega
          · have fj := (hw j (by omega)).2
            refine zdF (b:=b) (by omega) (by omega) (by omega) (hg j (by omega)) ?_
            unfold ltF at hlt ⊢;omega
  exact key (n - 1) Fuel 1 (w 0) (w 0) (by omega) (by simp only [Fuel]; omega) ⟨0, by omega, rfl⟩ ⟨0, by omega, rfl⟩
    (fun j hj => by have : j = 0 := by omega
                    rw [this]; unfold ltF; omega) (fun j hj => by have : j = 0 := by omega
                                                                  rw [this];unfold ltF;omega)
abbrev rd_ (f:Frac):Frac:=red f.Num f.Den
theorem zuI {f:Frac} (h:0 < f.Den):rd_ (rd_ f)=rd_ f:=by
 have p:=zcG (num:=f.Num) h
 refine (ztI p h).2 ?_
 have e1:=zdn (num:=f.Num) h
 have e2:=zc6 (num:=f.Num) h
 show (red f.Num f.Den).Num * f.Den=f.Num * (red f.Num f.Den).Den
 generalize red f.Num f.Den=x at *
 generalize (Int.gcd f.Num f.Den:Int)=G at *
 rw [← e1,← e2];ac_rfl
theorem zlv {a b:Frac} (ha:0 < a.Den) (hb:0 < b.Den):ltF (rd_ a) b↔ltF a b:=by
 have p:=zcG (num:=a.Num) ha
 have e:red (rd_ a).Num (rd_ a).Den=red a.Num a.Den:=zuI ha
 rw [← zoh (a:=rd_ a) (b:=b) p hb,e,zoh ha hb]
theorem zlw {a b:Frac} (ha:0 < a.Den) (hb:0 < b.Den):ltF a (rd_ b)↔ltF a b:=by
 have p:=zcG (num:=b.Num) hb
 have e:red (rd_ b).Num (rd_ b).Den=red b.Num b.Den:=zuI hb
 rw [← zoh (a:=a) (b:=rd_ b) ha p,e,zoh ha hb]
def Cor (g:Sl Gate) (s:straight):Prop:=s∈cst g∧ziB g s
def Bd (g:Sl Gate) (F:straight→Frac) (lo hi:Frac):Prop :=
 ((∃ s,Cor g s∧rd_ (F s)=lo)∧∀ s,Cor g s→¬ ltF (F s) lo)∧(∃ s,Cor g s∧rd_ (F s)=hi)∧∀ s,Cor g s→¬ ltF hi (F s)
theorem zzY {g:Sl Gate} {F:straight→Frac} (hF:∀ s,Cor g s→FOK (F s)) {a b c d:Frac} (h1:Bd g F a b) (h2:Bd g F c d):a=c∧b=d:=by
 obtain ⟨⟨⟨s,hs,e1⟩,l1⟩,⟨t,ht,e2⟩,g1⟩:=h1
 obtain ⟨⟨⟨u,hu,e3⟩,l2⟩,⟨v,hv,e4⟩,g2⟩:=h2
 have ps:=(hF s hs).2;have pt:=(hF t ht).2;have pu:=(hF u hu).2;have pv:=(hF v hv).2
 refine ⟨?_,?_⟩
 ·rw [← e1, ← e3]
  refine zhk (by omega) (by omega) ?_ ?_
  ·have:=l2 s hs;rw [← e3,zlw (by omega) (by omega)] at this;exact this
  ·have:=l1 u hu;rw [← e1,zlw (by omega) (by omega)] at this;exact this
 ·rw [← e2, ← e4]
  refine zhk (by omega) (by omega) ?_ ?_
  ·have:=g1 v hv;rw [← e2,zlv (by omega) (by omega)] at this;exact this
  ·have:=g2 t ht;rw [← e4,zlv (by omega) (by omega)] at this;exact this
theorem zKS {g : Sl Gate} {F : straight → Frac} (hF : ∀ s, Cor g s → FOK (F s)) {v : Sl Frac} {lo hi : Frac} (h1 : ∀ i, i < v.len → ∃ s, Cor g s ∧ rd_ (F s) = rd_ (v.get i) ∧ 0 < (v.get i).Den)
    (h2:∀ s,Cor g s→∃ i,i < v.len∧rd_ (F s)=rd_ (v.get i)) (hl:ze2 v lo) (hg:ze3 v hi):Bd g F (rd_ lo) (rd_ hi):=by
  obtain ⟨⟨i,hi1,ei⟩,l⟩:=hl
  obtain ⟨⟨j,hj1,ej⟩,r⟩:=hg
  obtain ⟨si,ci,ri,pi⟩:=h1 i hi1
  obtain ⟨sj,cj,rj,pj⟩:=h1 j hj1
  refine ⟨⟨⟨si,ci,by rw [ri,ei]⟩,fun s hs=>?_⟩,⟨sj,cj,by rw [rj,ej]⟩,fun s hs=>?_⟩
  · obtain ⟨k, hk, ek⟩ := h2 s hs
    have ps:=(hF s hs).2
    obtain ⟨_,_,_,pk⟩:=h1 k hk
    rw [ei] at pi
    rw [zlw (by omega) pi,← zlv (by omega) pi,ek,zlv pk pi]
    exact l k hk
  · obtain ⟨k, hk, ek⟩ := h2 s hs
    have ps:=(hF s hs).2
    obtain ⟨_,_,_,pk⟩:=h1 k hk
    rw [ej] at pj
    rw [zlv pj (by omega),← zlw pj (by omega),ek,zlw pj pk]
    exact r k hk
end Go.Proofs
namespace Go.Proofs
open Go Go.Pm
set_option maxRecDepth 100000
abbrev plF (z:Int) (s:straight):Frac:=⟨plc s z,s.den⟩
abbrev slF (s:straight):Frac:=⟨s.slope,s.den⟩
theorem zzZ {s:straight} (S:SOK s) {z:Int} (hz : -200000≤z∧z≤200000):(-400000000000≤s.slope * z∧s.slope * z≤400000000000)∧-600000000000≤plc s z∧plc s z≤600000000000:=by
 have:=zKR S.1.1 S.1.2 hz.1 hz.2
 have:=S.2.1
 unfold plc
 omega
theorem zlx {s:straight} (S:SOK s) {z:Int} (hz : -200000≤z∧z≤200000):FOK (plF z s) :=
 ⟨⟨by show -1000000000000≤plc s z;have:=zzZ S hz;omega,by show plc s z≤1000000000000;have:=zzZ S hz;omega⟩,S.2.2⟩
theorem zly {s:straight} (S:SOK s):FOK (slF s):=⟨⟨by show -1000000000000≤s.slope;have:=S.1;omega,by show s.slope≤1000000000000;have:=S.1;omega⟩,S.2.2⟩
theorem zHJ {s:straight} (S:SOK s) {z:Int} (hz : -200000≤z∧z≤200000):zwk z s=plF z s:=by
 obtain ⟨a,b⟩:=zzZ S hz
 unfold plc at b
 unfold zwk zI3 plF plc
 rw [zaC (x:=s.slope * z) (by omega) (by omega),zaC (x:=s.start+s.slope * z) (by omega) (by omega)]
theorem zck {g:Sl Gate} (G:zak g) {s:straight} (h:Cor g s):SOK s:=zls G h.1
abbrev lst {α:Type} [Inhabited α] (l:List α):Sl α:=l.foldl apL zgA
theorem zlz {α:Type} [Inhabited α] (l:List α):(lst l).len=l.length:=by
 show (l.foldl apL zgA).len=_
 rw [zcv];simp [zgA]
theorem zoi {α:Type} [Inhabited α] {l:List α} {i:Nat} {x:α} (h:l[i]? = some x):(lst l).get i=x:=by
 have:=zhj l zgA i x h
 rw [show (zgA:Sl α).len+i=i from Nat.zero_add i] at this;exact this
structure CorL (g : Sl Gate) (C : List straight) : Prop where
  len:C.length≤100000
  mem:∀ s∈C,Cor g s
  all:∀ s,Cor g s→∃ x∈C,toL x=toL s
theorem zz0 {g:Sl Gate} {C:List straight} (h:CorL g C):(1≤C.length)↔∃ s,Cor g s:=by
 constructor
 ·intro h1
  match C,h1 with
  | x :: C,_=>exact ⟨x,h.mem x List.mem_cons_self⟩
 ·intro ⟨s, hs⟩
  obtain ⟨x,hx,_⟩:=h.all s hs
  exact List.length_pos_of_mem hx
def frS (F:straight→Frac) (C:List straight):Sl Frac:=lst (C.map F)
theorem zKT {g : Sl Gate} (G : zak g) {C : List straight} (H : CorL g C) {F : straight → Frac} (hF : ∀ s, Cor g s → FOK (F s)) (hc : ∀ x y, Cor g x → Cor g y → toL x = toL y → rd_ (F x) = rd_ (F y)) {lo hi : Frac}
    (hl:ze2 (frS F C) lo) (hg:ze3 (frS F C) hi):Bd g F (rd_ lo) (rd_ hi):=by
  have get:∀ (i:Nat) (s:straight),C[i]? = some s→(frS F C).get i=F s:=fun i s h=>zoi (by rw [List.getElem?_map,h];rfl)
  refine zKS hF (fun i hi=>?_) (fun s hs=>?_) hl hg
  · have hi : i < C.length := by have := zlz (C.map F); rw [List.length_map] at this; exact this ▸ hi
    have e:=List.getElem?_eq_getElem hi
    have m:=H.mem _ (List.getElem_mem hi)
    rw [get i _ e]
    exact ⟨_,m,rfl,by have:=(hF _ m).2;omega⟩
  · obtain ⟨x, hx, ex⟩ := H.all s hs
    obtain ⟨i,hi,rfl⟩:=List.getElem_of_mem hx
    refine ⟨i,?_,?_⟩
    · have:=zlz (C.map F);rw [List.length_map] at this;exact this.symm ▸ hi
    · rw [get i _ (List.getElem?_eq_getElem hi)]
      exact hc _ _ hs (H.mem _ hx) ex.symm
theorem zHK {g:Sl Gate} (G:zak g) {z:Int} (hz : -200000≤z∧z≤200000) (x y:straight) (hx:Cor g x) (hy:Cor g y) (h:toL x=toL y):rd_ (plF z x)=rd_ (plF z y):=by
 have a:=(ztT (zck G hx) hz).2
 have b:=(ztT (zck G hy) hz).2
 show red (plc x z) x.den=red (plc y z) y.den
 rw [← a,← b,h]
theorem zHL {x y:straight} (h:toL x=toL y):rd_ (slF x)=rd_ (slF y):=congrArg Line.Slope h
theorem zoj (F:straight→Frac) (C:List straight):(frS F C).len=C.length:=by
 have:=zlz (C.map F);rw [List.length_map] at this;exact this
theorem zHM {g:Sl Gate} {C:List straight} (H:CorL g C) {F:straight→Frac} (hF:∀ s,Cor g s→FOK (F s)):∀ i,i < (frS F C).len→FOK ((frS F C).get i):=by
 intro i hi
 have hi:i < C.length:=zoj F C ▸ hi
 have:(frS F C).get i=F C[i]:=zoi (by rw [List.getElem?_map,List.getElem?_eq_getElem hi];rfl)
 rw [this]
 exact hF _ (H.mem _ (List.getElem_mem hi))
theorem zz1 {g : Sl Gate} (G : zak g) {C : List straight} (H : CorL g C) (h1 : 1 ≤ C.length) {F : straight → Frac} (hF : ∀ s, Cor g s → FOK (F s)) (hc : ∀ x y, Cor g x → Cor g y → toL x = toL y → rd_ (F x) = rd_ (F y)) :
  zna (frS F C)=true∧Bd g F (zeO (frS F C)).1 (zeO (frS F C)).2:=by
 have hn:=zoj F C
 have hl:=H.len
 have fv:=zHM H hF
 obtain ⟨a1,a2⟩:=zHI (frS F C) (by omega) (by omega) fv
 obtain ⟨b1,b2⟩:=zCe (frS F C) (by omega) (by omega) fv
 have B:=zKT G H hF hc a2 b2
 have fa:FOK (zqz (frS F C)):=by obtain ⟨⟨i,hi,e⟩,_⟩:=a2;exact e ▸ fv i hi
 have fb:FOK (s111a (frS F C)):=by obtain ⟨⟨i,hi,e⟩,_⟩:=b2;exact e ▸ fv i hi
 obtain ⟨fa1,fa2⟩:=fa
 obtain ⟨fb1,fb2⟩:=fb
 obtain ⟨c1,c2⟩:=zmt (num:=(zqz (frS F C)).Num) (den:=(zqz (frS F C)).Den) (by omega) (by omega) (by omega) (by omega)
 obtain ⟨d1,d2⟩:=zmt (num:=(s111a (frS F C)).Num) (den:=(s111a (frS F C)).Den) (by omega) (by omega) (by omega) (by omega)
 unfold zna zeO zqF zqE zqD zqC
 rw [a1,b1,c1,d1]
 refine ⟨by simp,?_⟩
 show Bd g F (s89 _ _) (s89 _ _)
 rw [c2,d2]
 exact B
theorem zz2 {F:straight→Frac} {C:List straight} {i:Nat} (hi:i < C.length):frS F (C.take (i+1))=apL (frS F (C.take i)) (F ((lst C).get i)):=by
 have e:=zoi (List.getElem?_eq_getElem hi)
 unfold frS
 rw [List.take_succ_eq_append_getElem hi,List.map_append]
 show (List.map F (C.take i) ++ List.map F [C[i]]).foldl apL zgA=_
 rw [List.foldl_append]
 show apL (lst (List.map F (List.take i C))) (F C[i])=_
 rw [e]
theorem zKU {g : Sl Gate} (G : zak g) {C : List straight} (H : CorL g C) (h1 : 1 ≤ C.length) {z : Int} (hz : -200000 ≤ z ∧ z ≤ 200000) :
  p82 z ⟨⟨g⟩,lst C⟩=true∧Bd g (plF z) (s82 z ⟨⟨g⟩,lst C⟩).1 (s82 z ⟨⟨g⟩,lst C⟩).2:=by
 have hn:=zlz C
 have hl:=H.len
 obtain ⟨x1,x2⟩:=zz1 G H h1 (F:=plF z) (fun s hs=>zlx (zck G hs) hz) (zHK G hz)
 have key:∀ (m k i:Nat),i+m=C.length→m < k→zhF z ⟨⟨g⟩,lst C⟩ k (i:Int) (frS (plF z) (C.take i))=true∧zhE z ⟨⟨g⟩,lst C⟩ k (i:Int) (frS (plF z) (C.take i))=zeO (frS (plF z) C):=by
  intro m
  induction m with
  | zero =>
   intro k i hi hk
   obtain ⟨k,rfl⟩:∃ k',k=k'+1:=⟨k - 1,by omega⟩
   show zhD z ⟨⟨g⟩,lst C⟩ (zhF z ⟨⟨g⟩,lst C⟩ k) (i:Int) _=_∧zhC z ⟨⟨g⟩,lst C⟩ (zhE z ⟨⟨g⟩,lst C⟩ k) (i:Int) _=_
   unfold zhD zhC
   rw [decide_eq_false (show ¬ (i:Int) < (((⟨⟨g⟩,lst C⟩:set).corners.len:Nat):Int) by show ¬ (i:Int) < ((lst C).len:Int);omega),cond_false,cond_false,List.take_of_length_le (by omega)]
   exact ⟨x1,rfl⟩
  | succ m ih =>
   intro k i hi hk
   obtain ⟨k,rfl⟩:∃ k',k=k'+1:=⟨k - 1,by omega⟩
   have ih:=ih k (i+1) (by omega) (by omega)
   have hiC:i < C.length:=by omega
   show zhD z ⟨⟨g⟩,lst C⟩ (zhF z ⟨⟨g⟩,lst C⟩ k) (i:Int) _=_∧zhC z ⟨⟨g⟩,lst C⟩ (zhE z ⟨⟨g⟩,lst C⟩ k) (i:Int) _=_
   generalize zhF z ⟨⟨g⟩,lst C⟩ k=P at ih
   generalize zhE z ⟨⟨g⟩,lst C⟩ k=S at ih
   have so:zwk z ((lst C).get i)=plF z ((lst C).get i):=by
    rw [zoi (List.getElem?_eq_getElem hiC)]
    exact zHJ (zck G (H.mem _ (List.getElem_mem hiC))) hz
   have hv:=zoj (plF z) (C.take i)
   rw [List.length_take] at hv
   unfold zhD zhC
   rw [decide_eq_true (show (i:Int) < (((⟨⟨g⟩,lst C⟩:set).corners.len:Nat):Int) by show (i:Int) < ((lst C).len:Int);omega),cond_true,cond_true,
    decide_eq_true (show 0≤(i:Int)∧(i:Int) < (((⟨⟨g⟩,lst C⟩:set).corners.len:Nat):Int) by show 0≤(i:Int)∧(i:Int) < ((lst C).len:Int);omega),Bool.true_and,
    decide_eq_true (show ((frS (plF z) (C.take i)).len+1) * 16≤140737488355328∧(frS (plF z) (C.take i)).len+1≤9223372036854775807 by omega),Bool.true_and,zaD (n:=C.length) hiC (by omega),Int.toNat_natCast]
   have e:=zz2 (F:=plF z) hiC
   rw [e] at ih
   show P ((i+1:Nat):Int) (apL (frS (plF z) (C.take i)) (zwk z ((lst C).get i)))=true∧S ((i+1:Nat):Int) (apL (frS (plF z) (C.take i)) (zwk z ((lst C).get i)))=_
   rw [so]
   exact ih
 have h:=key C.length Fuel 0 (by omega) (by simp only [Fuel];omega)
 have h2:s82 z ⟨⟨g⟩,lst C⟩=zeO (frS (plF z) C):=h.2
 exact ⟨h.1,by rw [h2];exact x2⟩
theorem zHN {g : Sl Gate} (G : zak g) {C : List straight} (H : CorL g C) (h1 : 1 ≤ C.length) :
  zHW ⟨⟨g⟩,lst C⟩=true∧Bd g slF (zuy ⟨⟨g⟩,lst C⟩).1 (zuy ⟨⟨g⟩,lst C⟩).2:=by
 have hn:=zlz C
 have hl:=H.len
 obtain ⟨x1,x2⟩:=zz1 G H h1 (F:=slF) (fun s hs=>zly (zck G hs)) (fun _ _ _ _ h=>zHL h)
 have key:∀ (m k i:Nat),i+m=C.length→m < k→zfR ⟨⟨g⟩,lst C⟩ k (i:Int) (frS slF (C.take i))=true∧zfQ ⟨⟨g⟩,lst C⟩ k (i:Int) (frS slF (C.take i))=zeO (frS slF C):=by
  intro m
  induction m with
  | zero =>
   intro k i hi hk
   obtain ⟨k,rfl⟩:∃ k',k=k'+1:=⟨k - 1,by omega⟩
   show zfP ⟨⟨g⟩,lst C⟩ (zfR ⟨⟨g⟩,lst C⟩ k) (i:Int) _=_∧zfO ⟨⟨g⟩,lst C⟩ (zfQ ⟨⟨g⟩,lst C⟩ k) (i:Int) _=_
   unfold zfP zfO
   rw [decide_eq_false (show ¬ (i:Int) < (((⟨⟨g⟩,lst C⟩:set).corners.len:Nat):Int) by show ¬ (i:Int) < ((lst C).len:Int);omega),cond_false,cond_false,List.take_of_length_le (by omega)]
   exact ⟨x1,rfl⟩
  | succ m ih =>
   intro k i hi hk
   obtain ⟨k,rfl⟩:∃ k',k=k'+1:=⟨k - 1,by omega⟩
   have ih:=ih k (i+1) (by omega) (by omega)
   have hiC:i < C.length:=by omega
   show zfP ⟨⟨g⟩,lst C⟩ (zfR ⟨⟨g⟩,lst C⟩ k) (i:Int) _=_∧zfO ⟨⟨g⟩,lst C⟩ (zfQ ⟨⟨g⟩,lst C⟩ k) (i:Int) _=_
   generalize zfR ⟨⟨g⟩,lst C⟩ k=P at ih
   generalize zfQ ⟨⟨g⟩,lst C⟩ k=S at ih
   have hv:=zoj slF (C.take i)
   rw [List.length_take] at hv
   unfold zfP zfO
   rw [decide_eq_true (show (i:Int) < (((⟨⟨g⟩,lst C⟩:set).corners.len:Nat):Int) by show (i:Int) < ((lst C).len:Int);omega),cond_true,cond_true,
    decide_eq_true (show 0≤(i:Int)∧(i:Int) < (((⟨⟨g⟩,lst C⟩:set).corners.len:Nat):Int) by show 0≤(i:Int)∧(i:Int) < ((lst C).len:Int);omega),Bool.true_and,
    decide_eq_true (show ((frS slF (C.take i)).len+1) * 16≤140737488355328∧(frS slF (C.take i)).len+1≤9223372036854775807 by omega),Bool.true_and,zaD (n:=C.length) hiC (by omega),Int.toNat_natCast]
   have e:=zz2 (F:=slF) hiC
   rw [e] at ih
   exact ih
 have h:=key C.length Fuel 0 (by omega) (by simp only [Fuel];omega)
 have h2:zuy ⟨⟨g⟩,lst C⟩=zeO (frS slF C):=h.2
 exact ⟨h.1,by rw [h2];exact x2⟩
end Go.Proofs
namespace Go.Proofs
open Go Go.Pm
set_option maxRecDepth 100000
theorem zdB {g:Sl Gate} {l:Line} : zlT g l↔∃ s,Cor g s∧toL s=l :=
 ⟨fun ⟨s,h1,h2,h3⟩=>⟨s,⟨h1,h2⟩,h3⟩,fun ⟨s,⟨h1,h2⟩,h3⟩=>⟨s,h1,h2,h3⟩⟩
theorem zDt {g : Sl Gate} (G : zak g) {F : straight → Frac} {w : Nat → Frac} {lo hi : Frac} (hF : ∀ s, Cor g s → FOK (F s)) (hw : ∀ i s, i < (s33 g).len → Cor g s → (s33 g).get i = toL s → w i = rd_ (F s))
    (hl:ze2 ⟨(s33 g).len,w⟩ lo) (hg:ze3 ⟨(s33 g).len,w⟩ hi):Bd g F lo hi:=by
  obtain ⟨_,_,m1,m2,_⟩:=zpD g G
  have pos:∀ s,Cor g s→0 < (F s).Den:=fun s hs=>by have:=(hF s hs).2;omega
  have hx:∀ i,i < (s33 g).len→∃ s,Cor g s∧w i=rd_ (F s):=fun i hi=>by
    obtain ⟨s,hs,e⟩:=zdB.1 (m1 i hi)
    exact ⟨s,hs,hw i s hi hs e.symm⟩
  have B:=zKS (v:=⟨(s33 g).len,w⟩) hF (fun i hi=>by
      obtain ⟨s,hs,e⟩:=hx i hi
      refine ⟨s,hs,?_,?_⟩
      · show rd_ (F s)=rd_ (w i);rw [e,zuI (pos s hs)]
      · show 0 < (w i).Den;rw [e];exact zcG (pos s hs))
    (fun s hs=>by
      obtain ⟨i,hi,e⟩:=m2 (toL s) (zdB.2 ⟨s,hs,rfl⟩)
      refine ⟨i,hi,?_⟩
      show rd_ (F s)=rd_ (w i)
      rw [hw i s hi hs e,zuI (pos s hs)]) hl hg
  obtain ⟨⟨i,hi1,e1⟩,_⟩:=hl
  obtain ⟨⟨j,hj1,e2⟩,_⟩:=hg
  obtain ⟨s,hs,e3⟩:=hx i hi1
  obtain ⟨t,ht,e4⟩:=hx j hj1
  have f1:rd_ lo=lo:=by rw [← e1];show rd_ (w i)=w i;rw [e3,zuI (pos s hs)]
  have f2:rd_ hi=hi:=by rw [← e2];show rd_ (w j)=w j;rw [e4,zuI (pos t ht)]
  rw [f1,f2] at B
  exact B
theorem zz3 {g:Sl Gate} (G:zak g) (hc:∃ s,Cor g s) {z:Int} (hz : -200000≤z∧z≤200000):zsg g z=true∧Bd g (plF z) (zsf g z).1 (zsf g z).2:=by
 obtain ⟨q,hlen,m1,m2,_⟩:=zpD g G
 have hpl:∀ i,i < (s33 g).len→p28 ((s33 g).get i) z=true:=fun i hi=>by
  obtain ⟨s,hs,e⟩:=zdB.1 (m1 i hi)
  rw [← e];exact (ztT (zck G hs) hz).1
 have hw:∀ i s,i < (s33 g).len→Cor g s→(s33 g).get i=toL s→s28 ((s33 g).get i) z=rd_ (plF z s):=fun i s _ hs e=>by
  rw [e];exact (ztT (zck G hs) hz).2
 have h1:1≤(s33 g).len:=by
  obtain ⟨s,hs⟩:=hc
  obtain ⟨a,ha,_⟩:=m2 _ (zdB.2 ⟨s,hs,rfl⟩);omega
 have E:=zzX (w:=fun i=>s28 ((s33 g).get i) z) (n:=(s33 g).len) h1 (by omega) (fun j hj=>by
   obtain ⟨s,hs,e⟩:=zdB.1 (m1 j hj)
   show FOK (s28 ((s33 g).get j) z)
   rw [hw j s hj hs e.symm];exact zlu (zlx (zck G hs) hz))
  (lpS:=fun k i a b=>zkW z (s33 g) k i a.Num a.Den b.Num b.Den) (lpP:=fun k i a b=>zkX z (s33 g) k i a.Num a.Den b.Num b.Den)
  (fun k i a b hi=>by
   show zkU z (s33 g) (zkW z (s33 g) k) (i:Int) a.Num a.Den b.Num b.Den=_
   generalize zkW z (s33 g) k=S
   unfold zkU zzn zzl zsd
   rw [decide_eq_true (show (i:Int) < ((s33 g).len:Int) by omega),cond_true,Int.toNat_natCast]
   show cond (s29 (s28 ((s33 g).get i) z) a) (cond (s29 b (s28 ((s33 g).get i) z)) _ _) (cond (s29 b (s28 ((s33 g).get i) z)) _ _)=_
   cases s29 (s28 ((s33 g).get i) z) a <;> cases s29 b (s28 ((s33 g).get i) z) <;> rfl)
  (fun k a b=>by
   show zkU z (s33 g) (zkW z (s33 g) k) ((s33 g).len:Int) a.Num a.Den b.Num b.Den=_
   unfold zkU
   rw [decide_eq_false (show ¬ ((s33 g).len:Int) < ((s33 g).len:Int) by omega),cond_false])
  (fun k i a b hi=>by
   show zkV z (s33 g) (zkX z (s33 g) k) (i:Int) a.Num a.Den b.Num b.Den=_
   generalize zkX z (s33 g) k=P
   unfold zkV zzo zzm zse
   rw [decide_eq_true (show (i:Int) < ((s33 g).len:Int) by omega),cond_true,decide_eq_true (show 0≤(i:Int)∧(i:Int) < ((s33 g).len:Int) by omega),Int.toNat_natCast,hpl i hi,decide_eq_true (show true=true from rfl),Bool.true_and,Bool.true_and]
   show cond (s29 (s28 ((s33 g).get i) z) a) (cond (s29 b (s28 ((s33 g).get i) z)) _ _) (cond (s29 b (s28 ((s33 g).get i) z)) _ _)=_
   cases s29 (s28 ((s33 g).get i) z) a <;> cases s29 b (s28 ((s33 g).get i) z) <;> rfl)
  (fun k a b=>by
   show zkV z (s33 g) (zkX z (s33 g) k) ((s33 g).len:Int) a.Num a.Den b.Num b.Den=_
   unfold zkV
   rw [decide_eq_false (show ¬ ((s33 g).len:Int) < ((s33 g).len:Int) by omega),cond_false])
 obtain ⟨x1,x2,x3⟩:=E
 refine ⟨?_,zDt G (F:=plF z) (fun s hs=>zlx (zck G hs) hz) hw x2 x3⟩
 unfold zsg zzq zzp
 rw [q,hpl 0 (by omega),decide_eq_true (show true=true from rfl),decide_eq_true (show 0≤(0:Int)∧(0:Int) < ((s33 g).len:Int) by omega)]
 simp only [Bool.true_and]
 exact x1
theorem zDu {g:Sl Gate} (G:zak g) (hc:∃ s,Cor g s):p37 g=true∧Bd g slF (s37 g).1 (s37 g).2:=by
 obtain ⟨q,hlen,m1,m2,_⟩:=zpD g G
 have hw:∀ i s,i < (s33 g).len→Cor g s→(s33 g).get i=toL s→((s33 g).get i).Slope=rd_ (slF s):=fun i s _ hs e=>by rw [e];rfl
 have h1:1≤(s33 g).len:=by
  obtain ⟨s,hs⟩:=hc
  obtain ⟨a,ha,_⟩:=m2 _ (zdB.2 ⟨s,hs,rfl⟩);omega
 have E:=zzX (w:=fun i=>((s33 g).get i).Slope) (n:=(s33 g).len) h1 (by omega) (fun j hj=>by
   obtain ⟨s,hs,e⟩:=zdB.1 (m1 j hj)
   show FOK ((s33 g).get j).Slope
   rw [hw j s hj hs e.symm];exact zlu (zly (zck G hs)))
  (lpS:=fun k i a b=>zk1 (s33 g) k i a.Num a.Den b.Num b.Den) (lpP:=fun k i a b=>zk2 (s33 g) k i a.Num a.Den b.Num b.Den)
  (fun k i a b hi=>by
   show zkZ (s33 g) (zk1 (s33 g) k) (i:Int) a.Num a.Den b.Num b.Den=_
   generalize zk1 (s33 g) k=S
   unfold zkZ zzy zsk zzw
   rw [decide_eq_true (show (i:Int) < ((s33 g).len:Int) by omega),cond_true,Int.toNat_natCast]
   show cond (s29 ((s33 g).get i).Slope a) (cond (s29 b ((s33 g).get i).Slope) _ _) (cond (s29 b ((s33 g).get i).Slope) _ _)=_
   cases s29 ((s33 g).get i).Slope a <;> cases s29 b ((s33 g).get i).Slope <;> rfl)
  (fun k a b=>by
   show zkZ (s33 g) (zk1 (s33 g) k) ((s33 g).len:Int) a.Num a.Den b.Num b.Den=_
   unfold zkZ
   rw [decide_eq_false (show ¬ ((s33 g).len:Int) < ((s33 g).len:Int) by omega),cond_false])
  (fun k i a b hi=>by
   show zk0 (s33 g) (zk2 (s33 g) k) (i:Int) a.Num a.Den b.Num b.Den=_
   generalize zk2 (s33 g) k=P
   unfold zk0 zzz zsl zzx
   rw [decide_eq_true (show (i:Int) < ((s33 g).len:Int) by omega),cond_true,decide_eq_true (show 0≤(i:Int)∧(i:Int) < ((s33 g).len:Int) by omega),Int.toNat_natCast]
   simp only [Bool.true_and]
   show cond (s29 ((s33 g).get i).Slope a) (cond (s29 b ((s33 g).get i).Slope) _ _) (cond (s29 b ((s33 g).get i).Slope) _ _)=_
   cases s29 ((s33 g).get i).Slope a <;> cases s29 b ((s33 g).get i).Slope <;> rfl)
  (fun k a b=>by
   show zk0 (s33 g) (zk2 (s33 g) k) ((s33 g).len:Int) a.Num a.Den b.Num b.Den=_
   unfold zk0
   rw [decide_eq_false (show ¬ ((s33 g).len:Int) < ((s33 g).len:Int) by omega),cond_false])
 obtain ⟨x1,x2,x3⟩:=E
 refine ⟨?_,zDt G (F:=slF) (fun s hs=>zly (zck G hs)) hw x2 x3⟩
 unfold p37 zzA
 rw [q,decide_eq_true (show true=true from rfl),decide_eq_true (show 0≤(0:Int)∧(0:Int) < ((s33 g).len:Int) by omega)]
 simp only [Bool.true_and]
 exact x1
theorem zpF (g:Sl Gate) (G:zak g):(-1000000≤(com g).1∧(com g).1≤1000000)∧-1000000≤(com g).2∧(com g).2≤1000000:=by
 have hl:=G.2
 refine zhe (Inv:=fun _ (s:Int×Int)=>(-1000000≤s.1∧s.1≤1000000)∧-1000000≤s.2∧s.2≤1000000) (n:=g.len) (fun i s hi h=>?_) (g.len - 1) 1 _ (by omega) ⟨ze1 (G.1 0 (by omega)),zfD (G.1 0 (by omega))⟩
 have a:=ze1 (G.1 i hi)
 have b:=zfD (G.1 i hi)
 unfold cmS
 refine ⟨?_,?_⟩
 ·show -1000000 ≤ (if (g.get i).Low > s.1 then (g.get i).Low else s.1) ∧ _
  split
  ·exact a
  ·exact h.1
 ·show -1000000 ≤ (if (g.get i).High < s.2 then (g.get i).High else s.2) ∧ _
  split
  ·exact b
  ·exact h.2
theorem zpG {α : Type} [DecidableEq α] : ∀ (l m : List α), l.Nodup → (∀ x ∈ l, x ∈ m) → l.length ≤ m.length
  | [],_,_,_=>Nat.zero_le _
  | x :: l,m,hn,h=>by
    have hx:=h x List.mem_cons_self
    rw [List.nodup_cons] at hn
    have:=zpG l (m.erase x) hn.2 fun y hy=>(List.mem_erase_of_ne (fun (e:y=x)=>hn.1 (by rw [← e];exact hy))).2 (h y (List.mem_cons_of_mem _ hy))
    rw [List.length_erase_of_mem hx] at this
    have:=List.length_pos_of_mem hx
    rw [List.length_cons];omega
theorem zlA (g:Sl Gate) (G:zak g):∃ C,p65 g=true∧s65 g=⟨⟨g⟩,lst C⟩∧CorL g C∧(¬ zhh g→(s21 g=true↔∃ s,Cor g s)):=by
 obtain ⟨C,c1,c2,c3,c4,c5⟩:=zof g G
 obtain ⟨f1,f2⟩:=zhi g G
 obtain ⟨q,hlen,m1,m2,_⟩:=zpD g G
 refine ⟨C,c1,c2,⟨?_,fun s hs=>c3 s hs,fun s hs=>c4 s hs.1 hs.2⟩,fun hf=>?_⟩
 ·-- the reference has as many
  have key:∀ (l:List straight),l.Pairwise (fun x y=>toL x ≠ toL y)→(∀ s∈l,s∈cst g)→l.length≤((cst g).map toL).length:=by
   intro l hp hs
   have hn:(l.map fun s=>zik (toL s)).Nodup:=List.pairwise_map.2 (hp.imp fun h e=>h (zlt e))
   have:=zpG _ ((cst g).map fun s=>zik (toL s)) hn (fun x hx=>by
    obtain ⟨s,hs1,rfl⟩:=List.mem_map.1 hx
    exact List.mem_map.2 ⟨s,hs s hs1,rfl⟩)
   rw [List.length_map,List.length_map] at this;rw [List.length_map];exact this
  have:=key C c5 (fun s hs=>(c3 s hs).1)
  have:=zsm G
  rw [List.length_map] at *
  omega
 ·have e : s22 g = false := by cases h : s22 g; rfl; exact absurd (f2.1 h) hf
  unfold s21
  rw [e,cond_false,decide_eq_true_eq]
  constructor
  ·intro h
   obtain ⟨s,hs,_⟩:=zdB.1 (m1 0 (by omega))
   exact ⟨s,hs⟩
  ·intro ⟨s, hs⟩
   obtain ⟨a,ha,_⟩:=m2 _ (zdB.2 ⟨s,hs,rfl⟩);omega
theorem zz4 (g:Sl Gate) (G:zak g):p67 ⟨g⟩=true∧p22 g=true∧s67 ⟨g⟩=s22 g :=
 ⟨(ztQ g G).1,(zhi g G).1,Bool.eq_iff_iff.2 ((ztQ g G).2.trans (zhi g G).2.symm)⟩
theorem zb2 {g:Sl Gate} (G:zak g) (h:s22 g=false) : ¬ zhh g:=fun k=>by rw [(zhi g G).2.2 k] at h;cases h
theorem zz5 (g:Sl Gate) (G:zak g) (hs:s21 g=true) {z:Int} (hz : -200000≤z∧z≤200000):p68 (s65 g) z=true∧p36 g z=true∧s68 (s65 g) z=s36 g z:=by
 obtain ⟨C,c1,c2,H,c4⟩:=zlA g G
 obtain ⟨f1,f2,f3⟩:=zz4 g G
 obtain ⟨k1,k2⟩:=zpF g G
 rw [c2]
 unfold p68 s68 p36 s36 zzs zkY
 show (decide (p67 ⟨g⟩=true) && cond (s67 ⟨g⟩) (decide (p98 ⟨g⟩=true) && (decide (p89 (s98 ⟨g⟩).Low (1:Int)=true) && (decide (p89 (s98 ⟨g⟩).High (1:Int)=true) && true))) (decide (p82 z ⟨⟨g⟩,lst C⟩=true) && true))=true∧_ ∧
  cond (s67 ⟨g⟩) (s89 (s98 ⟨g⟩).Low (1:Int),s89 (s98 ⟨g⟩).High (1:Int)) ((s82 z ⟨⟨g⟩,lst C⟩).1,(s82 z ⟨⟨g⟩,lst C⟩).2)=_
 rw [f1,f2,f3]
 cases e:s22 g
 ·have hc := (c4 (zb2 G e)).1 hs
  obtain ⟨a1,a2⟩:=zKU G H ((zz0 H).2 hc) hz
  obtain ⟨b1,b2⟩:=zz3 G hc hz
  obtain ⟨u1,u2⟩:=zzY (fun s hs=>zlx (zck G hs) hz) a2 b2
  rw [cond_false,cond_false,cond_false,cond_false,a1,b1,u1,u2]
  exact ⟨by simp,by simp,rfl⟩
 ·obtain ⟨a1, a2⟩ := zDs g G
  obtain ⟨b1,b2⟩:=zpE g G
  obtain ⟨x1,x2⟩:=zmt (num:=(com g).1) (den:=1) (by omega) (by omega) (by omega) (by omega)
  obtain ⟨y1,y2⟩:=zmt (num:=(com g).2) (den:=1) (by omega) (by omega) (by omega) (by omega)
  obtain ⟨u1,u2⟩:=ze7 (num:=(com g).1) (den:=1) (by omega) (by omega) (by omega) (by omega)
  obtain ⟨v1,v2⟩:=ze7 (num:=(com g).2) (den:=1) (by omega) (by omega) (by omega) (by omega)
  rw [cond_true,cond_true,cond_true,cond_true,a1,a2,b1,b2]
  unfold zzr zsh
  show (decide (true=true) && (decide (true=true) && (decide (p89 (com g).1 1=true) && (decide (p89 (com g).2 1=true) && true))))=true∧(decide (true=true) && (decide (true=true) && (decide (p40 (com g).1 1=true) && (decide (p40 (com g).2 1=true) && true))))=true∧(s89 (com g).1 1,s89 (com g).2 1)=(s40 (com g).1 1,s40 (com g).2 1)
  rw [x1,x2,y1,y2,u1,u2,v1,v2]
  exact ⟨by simp,by simp,rfl⟩
theorem zz6 (g:Sl Gate) (G:zak g) (hs:s21 g=true) (hf:s22 g=false):zHW (s65 g)=true∧p37 g=true∧zuy (s65 g)=s37 g:=by
 obtain ⟨C,c1,c2,H,c4⟩:=zlA g G
 have hc:=(c4 (zb2 G hf)).1 hs
 obtain ⟨a1,a2⟩:=zHN G H ((zz0 H).2 hc)
 obtain ⟨b1,b2⟩:=zDu G hc
 obtain ⟨u1,u2⟩:=zzY (fun s hs=>zly (zck G hs)) a2 b2
 rw [c2]
 exact ⟨a1,b1,Prod.ext u1 u2⟩
end Go.Proofs
namespace Go.Proofs
open Go Go.Pm
set_option maxRecDepth 100000
abbrev zF:Frac:=⟨0,0⟩
abbrev nS:set:=⟨⟨⟨0,fun _=>default⟩⟩,⟨0,fun _=>default⟩⟩
theorem zim (g:Sl Gate) (hn:g.len≤9223372036854775807):s20 g=true↔zak g:=(ztG g hn).2
theorem zDv (g:Sl Gate) (G:zak g):(p75 g=true∧s75 g=cond (!(s21 g)) (nS,5) (cond (s22 g) (nS,6) (s65 g,0))) ∧
  (∀ z,zE2 z g=true∧zpK z g=cond (!(s21 g)) (nS,5) (cond (s22 g) (cond (!((g.get 0).Z == z)) (nS,6) (s65 g,0)) (s65 g,0)))∧(zHX g=true∧zAm g=cond (!(s21 g)) (nS,5) (s65 g,0)):=by
 have hl:=G.2
 obtain ⟨v1,v2⟩:=zpz g (by omega)
 have v2:=v2.2 G
 obtain ⟨q1,q2,q3⟩:=zzU g G
 obtain ⟨C,c1,c2,_⟩:=zlA g G
 obtain ⟨f1,f2,f3⟩:=zz4 g G
 have el:(s65 g).list=⟨g⟩:=by rw [c2]
 refine ⟨?_,fun z=>?_,?_⟩
 ·unfold p75 s75 zqR zqQ
  rw [v1,v2,c1,q1,q3,el,f1,f3]
  simp only [decide_true,Bool.true_and,Bool.not_true,cond_false]
  cases s21 g <;> cases s22 g <;> exact ⟨rfl,rfl⟩
 ·unfold zE2 zpK znl znk
  rw [v1,v2,c1,q1,q3,el,f1,f3,show p76 z ⟨g⟩=true by unfold p76;rw [decide_eq_true (show 0≤(0:Int)∧(0:Int) < ((⟨g⟩:list).Gates.len:Int) by show 0≤(0:Int)∧(0:Int) < (g.len:Int);omega)];rfl]
  simp only [decide_true,Bool.true_and,Bool.not_true,cond_false]
  cases s21 g <;> cases s22 g <;> exact ⟨rfl,rfl⟩
 ·unfold zHX zAm znn znm
  rw [v1,v2,c1,q1,q3,el,f1,f3]
  simp only [decide_true,Bool.true_and,Bool.not_true,cond_false]
  cases s21 g <;> cases s22 g <;> exact ⟨rfl,rfl⟩
theorem zz7 (g:Sl Gate) (hn:g.len≤9223372036854775807) (h:s20 g=false):(p75 g=true∧s75 g=(nS,2))∧(∀ z,zE2 z g=true∧zpK z g=(nS,2))∧(zHX g=true∧zAm g=(nS,2)):=by
 obtain ⟨v1,_⟩:=zpz g hn
 have v2:s64 g=false:=by rw [zKI g hn];exact h
 unfold p75 s75 zE2 zpK zHX zAm
 rw [v1,v2]
 exact ⟨⟨rfl,rfl⟩,fun _=>⟨rfl,rfl⟩,rfl,rfl⟩
def atR (g:Sl Gate) (z:Int):Frac×Frac×Int:=cond (!(s20 g)) (zF,zF,2) (cond (!(s21 g)) (zF,zF,5) (cond (s22 g && !((g.get 0).Z == z)) (zF,zF,6) ((s36 g z).1,(s36 g z).2,0)))
theorem zDw (g:Sl Gate) (hn:g.len≤9223372036854775807) (z:Int):p30 g z=true∧s30 g z=cond (s74 z (-100000) 200000) (atR g z) (zF,zF,2):=by
 unfold p30 s30 zq3 zq2
 cases hz:s74 z (-100000) 200000
 ·exact ⟨rfl,rfl⟩
 ·rw [zpy, decide_eq_true_eq] at hz
  simp only [Bool.not_true,cond_false,cond_true]
  unfold zq1 zq0 atR
  cases hv:s20 g
  ·obtain ⟨_, b, _⟩ := zz7 g hn hv
   obtain ⟨b1,b2⟩:=b z
   rw [b1,b2]
   exact ⟨rfl,rfl⟩
  ·have G := (zim g hn).1 hv
   obtain ⟨_,b,_⟩:=zDv g G
   obtain ⟨b1,b2⟩:=b z
   rw [b1,b2]
   cases hs:s21 g
   ·exact ⟨rfl,rfl⟩
   ·obtain ⟨x1, x2, x3⟩ := zz5 g G hs (z := z) (by omega)
    have fin:∀ e,znt z (s65 g,e).2 (s65 g).list.Gates (s65 g).corners=cond (e != 0) true true∧zns z (s65 g,e).2 (s65 g).list.Gates (s65 g).corners=cond (e != 0) (zF,zF,e) ((s36 g z).1,(s36 g z).2,0):=fun e=>by
     unfold znt zns zqZ zqY zqX
     have:(⟨⟨(s65 g).list.Gates⟩,(s65 g).corners⟩:set)=s65 g:=rfl
     rw [this,x1,x3]
     exact ⟨rfl,rfl⟩
    cases hf:s22 g
    ·exact fin 0
    ·cases he : (g.get 0).Z == z
     ·exact ⟨rfl,rfl⟩
     ·exact fin 0
def slR (g:Sl Gate):Frac×Frac×Int:=cond (!(s20 g)) (zF,zF,2) (cond (!(s21 g)) (zF,zF,5) (cond (s22 g) (zF,zF,6) ((s37 g).1,(s37 g).2,0)))
theorem zDx (g:Sl Gate) (hn:g.len≤9223372036854775807):p35 g=true∧s35 g=slR g:=by
 unfold p35 s35 slR
 cases hv:s20 g
 ·obtain ⟨⟨b1, b2⟩, _⟩ := zz7 g hn hv
  rw [b1,b2]
  exact ⟨rfl,rfl⟩
 ·have G := (zim g hn).1 hv
  obtain ⟨⟨b1,b2⟩,_⟩:=zDv g G
  rw [b1,b2]
  cases hs:s21 g
  ·exact ⟨rfl,rfl⟩
  ·cases hf : s22 g
   ·obtain ⟨x1, x2, x3⟩ := zz6 g G hs hf
    unfold zr1 zr0
    have:(⟨⟨(s65 g).list.Gates⟩,(s65 g).corners⟩:set)=s65 g:=rfl
    show (decide (true=true) && cond ((0:Int) != 0) true (decide (zHW ⟨⟨(s65 g).list.Gates⟩,(s65 g).corners⟩=true) && true))=true∧cond ((0:Int) != 0) _ ((zuy ⟨⟨(s65 g).list.Gates⟩,(s65 g).corners⟩).1,(zuy ⟨⟨(s65 g).list.Gates⟩,(s65 g).corners⟩).2,(0:Int))=_
    rw [this,x1,x3]
    exact ⟨rfl,rfl⟩
   ·exact ⟨rfl,rfl⟩
end Go.Proofs
namespace Go.Proofs
open Go Go.Pm
set_option maxRecDepth 100000
theorem zz8 {x:Int} (h : -1000000≤x∧x≤1000000):FOK (red x 1):=zlu (f:=⟨x,1⟩) ⟨⟨by show -1000000000000≤x;omega,by show x≤1000000000000;omega⟩,by show (1:Int)≤1;omega,by show (1:Int)≤100000;omega⟩
theorem zz9 {g:Sl Gate} {F:straight→Frac} (hF:∀ s,Cor g s→FOK (F s)) {lo hi:Frac} (h:Bd g F lo hi):FOK lo∧FOK hi:=by
 obtain ⟨⟨⟨s,hs,e1⟩,_⟩,⟨t,ht,e2⟩,_⟩:=h
 exact ⟨e1 ▸ zlu (hF s hs),e2 ▸ zlu (hF t ht)⟩
theorem zHO (g:Sl Gate) (G:zak g) (hs:s21 g=true) {z:Int} (hz : -200000≤z∧z≤200000):FOK (s36 g z).1∧FOK (s36 g z).2:=by
 unfold s36 zkY
 cases hf:s22 g
 ·obtain ⟨C, _, _, _, c4⟩ := zlA g G
  exact zz9 (fun s hs=>zlx (zck G hs) hz) (zz3 G ((c4 (zb2 G hf)).1 hs) hz).2
 ·obtain ⟨b1, b2⟩ := zpE g G
  obtain ⟨k1,k2⟩:=zpF g G
  obtain ⟨u1,u2⟩:=ze7 (num:=(com g).1) (den:=1) (by omega) (by omega) (by omega) (by omega)
  obtain ⟨v1,v2⟩:=ze7 (num:=(com g).2) (den:=1) (by omega) (by omega) (by omega) (by omega)
  rw [b2]
  show FOK (s40 (com g).1 1)∧FOK (s40 (com g).2 1)
  rw [u2,v2]
  exact ⟨zz8 k1,zz8 k2⟩
end Go.Proofs
namespace Go.Proofs
open Go Go.Pm
set_option maxRecDepth 100000
theorem zDy {z p y q:Int} (h:z ≠ y):plc (thr z p y q) z=p * (thr z p y q).den∧plc (thr z p y q) y=q * (thr z p y q).den:=by
 unfold thr plc
 split
 ·constructor
  ·show q * z - p * y + (p - q) * z = p * (z - y)
   rw [Int.sub_mul,Int.mul_sub];omega
  ·show q * z - p * y + (p - q) * y = q * (z - y)
   rw [Int.sub_mul,Int.mul_sub];omega
 ·constructor
  ·show p * y - q * z + (q - p) * z = p * (y - z)
   rw [Int.sub_mul,Int.mul_sub];omega
  ·show p * y - q * z + (q - p) * y = q * (y - z)
   rw [Int.sub_mul,Int.mul_sub];omega
theorem zin {g:Sl Gate} {s:straight} (h:ziB g s) {i:Nat} (hi:i < g.len):(g.get i).Low * s.den≤plc s (g.get i).Z∧plc s (g.get i).Z≤(g.get i).High * s.den:=of_decide_eq_true (h i hi)
end Go.Proofs
namespace Go.Proofs
open Go Go.Pm
set_option maxRecDepth 100000
theorem zmu {g : Sl Gate} {i b : Nat} {x : straight} (hx : x ∈ zpA (g.get i) (g.get b)) : ∀ m k, k ≤ b → b < k + m → x ∈ zpB g i m k
  | 0,k,h1,h2=>by omega
  | m+1,k,h1,h2=>by
    show x∈zpA (g.get i) (g.get k) ++ zpB g i m (k+1)
    by_cases h:k=b
    · rw [h];exact List.mem_append_left _ hx
    · exact List.mem_append_right _ (zmu hx m (k+1) (by omega) (by omega))
theorem zmv {g : Sl Gate} {a : Nat} {x : straight} (hx : x ∈ zpB g a (g.len - (a + 1)) (a + 1)) : ∀ m i, i ≤ a → a < i + m → x ∈ zAp g m i
  | 0,i,h1,h2=>by omega
  | m+1,i,h1,h2=>by
    show x∈zpB g i (g.len - (i+1)) (i+1) ++ zAp g m (i+1)
    by_cases h:i=a
    · rw [h];exact List.mem_append_left _ hx
    · exact List.mem_append_right _ (zmv hx m (i+1) (by omega) (by omega))
theorem zCf {z p y q:Int} (h:z ≠ y):thr z p y q=thr y q z p:=by
 unfold thr
 by_cases h1:z > y
 ·rw [if_pos h1,if_neg (show ¬ y > z by omega)]
 ·rw [if_neg h1,if_pos (show y > z by omega)]
theorem zOf {g:Sl Gate} {a b:Nat} (ha:a < g.len) (hb:b < g.len) (hz:(g.get a).Z ≠ (g.get b).Z) {p q:Int} (hp:p=(g.get a).Low∨p=(g.get a).High) (hq:q=(g.get b).Low∨q=(g.get b).High):thr (g.get a).Z p (g.get b).Z q∈cst g:=by
 have key:∀ {a b:Nat} {p q:Int},a < b→b < g.len→(g.get a).Z ≠ (g.get b).Z→(p=(g.get a).Low∨p=(g.get a).High)→(q=(g.get b).Low∨q=(g.get b).High)→thr (g.get a).Z p (g.get b).Z q∈cst g:=fun {a b p q} h1 h2 hz hp hq=>by
  refine zmv (zmu ?_ _ _ h1 (by omega)) _ 0 (Nat.zero_le _) (by omega)
  unfold zpA
  rw [if_neg hz]
  rcases hp with rfl | rfl <;> rcases hq with rfl | rfl <;> simp
 rcases Nat.lt_or_ge a b with h | h
 ·exact key h hb hz hp hq
 ·have : a ≠ b := fun e => hz (by rw [e])
  rw [zCf hz]
  exact key (by omega) ha (Ne.symm hz) hq hp
theorem zlB {Q : Nat → Prop} {le : Nat → Nat → Prop} (tot : ∀ i j, Q i → Q j → le i j ∨ le j i) (tr : ∀ i j k, Q i → Q j → Q k → le i j → le j k → le i k) : ∀ n, (∃ k, k < n ∧ Q k) → ∃ k, k < n ∧ Q k ∧ ∀ j, j < n → Q j → le j k
  | 0,⟨k,h,_⟩=>absurd h (Nat.not_lt_zero k)
  | n+1,hex=>by
    by_cases h:∃ k,k < n∧Q k
    · obtain ⟨k, hk, qk, hm⟩ := zlB tot tr n h
      by_cases qn:Q n
      · rcases tot n k qn qk with h1 | h1
        · exact ⟨k,by omega,qk,fun j hj qj=>by
            by_cases e:j=n
            · rw [e];exact h1
            · exact hm j (by omega) qj⟩
        · exact ⟨n,by omega,qn,fun j hj qj=>by
            by_cases e:j=n
            · rw [e];rcases tot n n qn qn with h2 | h2 <;> exact h2
            · exact tr j k n qj qk qn (hm j (by omega) qj) h1⟩
      · exact ⟨k,by omega,qk,fun j hj qj=>hm j (by
          have:j ≠ n:=fun e=>qn (e ▸ qj)
          omega) qj⟩
    · obtain ⟨k, hk, qk⟩ := hex
      have e:k=n:=by
        rcases Nat.lt_or_ge k n with h1 | h1
        · exact absurd ⟨k,h1,qk⟩ h
        · omega
      subst e
      exact ⟨k,by omega,qk,fun j hj qj=>by
        by_cases e:j=k
        · rw [e];rcases tot k k qk qk with h2 | h2 <;> exact h2
        · exact absurd ⟨j,by omega,qj⟩ h⟩
def leS (a b:straight):Prop:=a.slope * b.den≤b.slope * a.den
theorem ztU {a b c:straight} (ha:0 < a.den) (hb:0 < b.den) (hc:0 < c.den) (h1:leS a b) (h2:leS b c):leS a c:=by
 unfold leS at *
 have y1:=Int.mul_le_mul_of_nonneg_right h1 (Int.le_of_lt hc)
 have y2:=Int.mul_le_mul_of_nonneg_right h2 (Int.le_of_lt ha)
 refine Int.le_of_mul_le_mul_right (a:=b.den) ?_ hb
 grind
def lcS (g:Sl Gate) (i:Nat) (p:Int) (k:Nat):straight:=thr (g.get i).Z p (g.get k).Z (if (g.get k).Z > (g.get i).Z then (g.get k).Low else (g.get k).High)
def ucS (g:Sl Gate) (i:Nat) (p:Int) (k:Nat):straight:=thr (g.get i).Z p (g.get k).Z (if (g.get k).Z > (g.get i).Z then (g.get k).High else (g.get k).Low)
theorem zok {g:Sl Gate} {i k:Nat} {p:Int} {c:straight} (he:plc c (g.get i).Z=p * c.den) (hz:(g.get k).Z ≠ (g.get i).Z):zhf c (g.get k)=true↔leS (lcS g i p k) c∧leS c (ucS g i p k):=by
 unfold zhf leS lcS ucS thr
 rw [decide_eq_true_eq]
 unfold plc at *
 by_cases h:(g.get k).Z > (g.get i).Z
 ·simp only [if_pos h, if_neg (show ¬ (g.get i).Z > (g.get k).Z by omega)]
  constructor
  ·intro ⟨h1,h2⟩;constructor <;> grind
  ·intro ⟨h1,h2⟩;constructor <;> grind
 ·simp only [if_neg h, if_pos (show (g.get i).Z > (g.get k).Z by omega)]
  constructor
  ·intro ⟨h1,h2⟩;constructor <;> grind
  ·intro ⟨h1,h2⟩;constructor <;> grind
theorem zAa {z p y q:Int} (h:z ≠ y):0 < (thr z p y q).den:=by
 unfold thr
 by_cases h1:z > y
 ·rw [if_pos h1];show 0 < z - y;omega
 ·rw [if_neg h1];show 0 < y - z;omega
theorem zpH {g:Sl Gate} {i k:Nat} {p:Int} {s c:straight} (ps:0 < s.den) (pc:0 < c.den) (he:plc s (g.get i).Z=p * s.den) (hc:plc c (g.get i).Z=p * c.den) (hz:(g.get k).Z=(g.get i).Z) (h:zhf s (g.get k)=true):zhf c (g.get k)=true:=by
 unfold zhf at *
 rw [decide_eq_true_eq] at *
 rw [hz,he] at h
 rw [hz,hc]
 exact ⟨Int.mul_le_mul_of_nonneg_right (Int.le_of_mul_le_mul_right h.1 ps) (Int.le_of_lt pc),Int.mul_le_mul_of_nonneg_right (Int.le_of_mul_le_mul_right h.2 ps) (Int.le_of_lt pc)⟩
theorem rot {g : Sl Gate} {s : straight} (hd : 0 < s.den) (ha : ziB g s) {i : Nat} (hi : i < g.len) {p : Int} (hp : p = (g.get i).Low ∨ p = (g.get i).High) (he : plc s (g.get i).Z = p * s.den) (hn : ∃ k, k < g.len ∧ (g.get k).Z ≠ (g.get i).Z) :
  (∃ c,Cor g c∧0 < c.den∧plc c (g.get i).Z=p * c.den∧leS c s)∧∃ c,Cor g c∧0 < c.den∧plc c (g.get i).Z=p * c.den∧leS s c:=by
 have ld:∀ k,(g.get k).Z ≠ (g.get i).Z→0 < (lcS g i p k).den:=fun k h=>zAa (Ne.symm h)
 have ud:∀ k,(g.get k).Z ≠ (g.get i).Z→0 < (ucS g i p k).den:=fun k h=>zAa (Ne.symm h)
 have le1:∀ k,(g.get k).Z ≠ (g.get i).Z→plc (lcS g i p k) (g.get i).Z=p * (lcS g i p k).den:=fun k h=>(zDy (Ne.symm h)).1
 have ue1:∀ k,(g.get k).Z ≠ (g.get i).Z→plc (ucS g i p k) (g.get i).Z=p * (ucS g i p k).den:=fun k h=>(zDy (Ne.symm h)).1
 have sp:∀ k,k < g.len→(g.get k).Z ≠ (g.get i).Z→leS (lcS g i p k) s∧leS s (ucS g i p k):=fun k hk hz=>(zok he hz).1 (ha k hk)
 constructor
 ·obtain ⟨k, hk, qk, hm⟩ := zlB (Q := fun k => (g.get k).Z ≠ (g.get i).Z) (le := fun a b => leS (lcS g i p a) (lcS g i p b)) (fun a b _ _ => Int.le_total _ _) (fun a b c ha hb hc h1 h2 => ztU (ld a ha) (ld b hb) (ld c hc) h1 h2) g.len hn
  refine ⟨lcS g i p k,⟨zOf hi hk (Ne.symm qk) hp (by split <;> simp),fun j hj=>?_⟩,ld k qk,le1 k qk,(sp k hk qk).1⟩
  by_cases hz:(g.get j).Z=(g.get i).Z
  ·exact zpH hd (ld k qk) he (le1 k qk) hz (ha j hj)
  ·exact (zok (le1 k qk) hz).2 ⟨hm j hj hz,ztU (ld k qk) hd (ud j hz) (sp k hk qk).1 (sp j hj hz).2⟩
 ·obtain ⟨k, hk, qk, hm⟩ := zlB (Q := fun k => (g.get k).Z ≠ (g.get i).Z) (le := fun a b => leS (ucS g i p b) (ucS g i p a)) (fun a b _ _ => Int.le_total _ _) (fun a b c ha hb hc h1 h2 => ztU (ud c hc) (ud b hb) (ud a ha) h2 h1) g.len hn
  refine ⟨ucS g i p k,⟨zOf hi hk (Ne.symm qk) hp (by split <;> simp),fun j hj=>?_⟩,ud k qk,ue1 k qk,(sp k hk qk).2⟩
  by_cases hz:(g.get j).Z=(g.get i).Z
  ·exact zpH hd (ud k qk) he (ue1 k qk) hz (ha j hj)
  ·exact (zok (ue1 k qk) hz).2 ⟨ztU (ld j hz) hd (ud k qk) (sp j hj hz).1 (sp k hk qk).2,hm j hj hz⟩
theorem zKV {g:Sl Gate} (hl:1≤g.len) {s:straight} (ha:ziB g s):∃ d,0≤d∧ziB g ⟨s.slope,s.start - d,s.den⟩∧∃ i,i < g.len∧plc ⟨s.slope,s.start - d,s.den⟩ (g.get i).Z=(g.get i).Low * s.den:=by
 obtain ⟨k,hk,_,hm⟩:=zlB (Q:=fun _=>True) (le:=fun a b=>plc s (g.get b).Z - (g.get b).Low * s.den≤plc s (g.get a).Z - (g.get a).Low * s.den) (fun a b _ _=>Int.le_total _ _) (fun a b c _ _ _ h1 h2=>Int.le_trans h2 h1) g.len ⟨0,hl,trivial⟩
 have hk2:=zin ha hk
 refine ⟨plc s (g.get k).Z - (g.get k).Low * s.den,by omega,fun j hj=>decide_eq_true ?_,k,hk,by unfold plc;simp only;omega⟩
 have h1:=hm j hj trivial
 have h2:=zin ha hj
 unfold plc at *
 simp only
 omega
theorem zKW {g:Sl Gate} (hl:1≤g.len) {s:straight} (ha:ziB g s):∃ d,0≤d∧ziB g ⟨s.slope,s.start+d,s.den⟩∧∃ i,i < g.len∧plc ⟨s.slope,s.start+d,s.den⟩ (g.get i).Z=(g.get i).High * s.den:=by
 obtain ⟨k,hk,_,hm⟩:=zlB (Q:=fun _=>True) (le:=fun a b=>(g.get b).High * s.den - plc s (g.get b).Z≤(g.get a).High * s.den - plc s (g.get a).Z) (fun a b _ _=>Int.le_total _ _) (fun a b c _ _ _ h1 h2=>Int.le_trans h2 h1) g.len ⟨0,hl,trivial⟩
 have hk2:=zin ha hk
 refine ⟨(g.get k).High * s.den - plc s (g.get k).Z,by omega,fun j hj=>decide_eq_true ?_,k,hk,by unfold plc;simp only;omega⟩
 have h1:=hm j hj trivial
 have h2:=zin ha hj
 unfold plc at *
 simp only
 omega
theorem ztV {g:Sl Gate} (nf : ¬ zhh g) (i:Nat) (hi:i < g.len):∃ k,k < g.len∧(g.get k).Z ≠ (g.get i).Z:=by
 by_cases h:∃ k,k < g.len∧(g.get k).Z ≠ (g.get i).Z
 ·exact h
 ·have all : ∀ k, k < g.len → (g.get k).Z = (g.get i).Z := fun k hk => Classical.byContradiction fun e => h ⟨k, hk, e⟩
  exact absurd (fun k hk=>(all k hk).trans (all 0 (by omega)).symm) nf
theorem zAb {a b:straight} {z p h:Int} (ha:plc a z=p * a.den) (hb:plc b z=p * b.den) (hs:leS a b) (hh:z≤h):plc a h * b.den≤plc b h * a.den:=by
 have y:=Int.mul_le_mul_of_nonneg_right hs (show 0≤h - z by omega)
 unfold plc at *
 have e1:a.start=p * a.den - a.slope * z:=by omega
 have e2:b.start=p * b.den - b.slope * z:=by omega
 rw [e1,e2]
 clear ha hb hs e1 e2
 grind
theorem zAc {a b:straight} {z p h:Int} (ha:plc a z=p * a.den) (hb:plc b z=p * b.den) (hs:leS a b) (hh:h≤z):plc b h * a.den≤plc a h * b.den:=by
 have y:=Int.mul_le_mul_of_nonneg_right hs (show 0≤z - h by omega)
 unfold plc at *
 have e1:a.start=p * a.den - a.slope * z:=by omega
 have e2:b.start=p * b.den - b.slope * z:=by omega
 rw [e1,e2]
 clear ha hb hs e1 e2
 grind
theorem lp {g : Sl Gate} (hl : 1 ≤ g.len) (nf : ¬ zhh g) {s : straight} (hd : 0 < s.den) (ha : ziB g s) :
  (∀ h,(∃ c,Cor g c∧plc c h * s.den≤plc s h * c.den)∧∃ c,Cor g c∧plc s h * c.den≤plc c h * s.den)∧(∃ c,Cor g c∧leS c s)∧∃ c,Cor g c∧leS s c:=by
 obtain ⟨d,d0,da,i,hi,di⟩:=zKV hl ha
 obtain ⟨e,e0,ea,j,hj,ej⟩:=zKW hl ha
 obtain ⟨⟨c1,c1c,c1d,c1p,c1s⟩,⟨c2,c2c,c2d,c2p,c2s⟩⟩:=rot (s:=⟨s.slope,s.start - d,s.den⟩) hd da hi (.inl rfl) di (ztV nf i hi)
 obtain ⟨⟨f1,f1c,f1d,f1p,f1s⟩,⟨f2,f2c,f2d,f2p,f2s⟩⟩:=rot (s:=⟨s.slope,s.start+e,s.den⟩) hd ea hj (.inr rfl) ej (ztV nf j hj)
 have lo:∀ {c:straight} {h:Int},0 < c.den→plc c h * s.den≤plc ⟨s.slope,s.start - d,s.den⟩ h * c.den→plc c h * s.den≤plc s h * c.den:=fun {c h} pc k=>by
  have:=Int.mul_nonneg d0 (Int.le_of_lt pc)
  unfold plc at *
  simp only at k
  grind
 have hi':∀ {c:straight} {h:Int},0 < c.den→plc ⟨s.slope,s.start+e,s.den⟩ h * c.den≤plc c h * s.den→plc s h * c.den≤plc c h * s.den:=fun {c h} pc k=>by
  have:=Int.mul_nonneg e0 (Int.le_of_lt pc)
  unfold plc at *
  simp only at k
  grind
 refine ⟨fun h=>⟨?_,?_⟩,⟨c1,c1c,c1s⟩,⟨c2,c2c,c2s⟩⟩
 ·rcases Int.le_total (g.get i).Z h with k | k
  ·exact ⟨c1,c1c,lo c1d (zAb (b:=⟨s.slope,s.start - d,s.den⟩) c1p di c1s k)⟩
  ·exact ⟨c2,c2c,lo c2d (zAc (a:=⟨s.slope,s.start - d,s.den⟩) di c2p c2s k)⟩
 ·rcases Int.le_total (g.get j).Z h with k | k
  ·exact ⟨f2,f2c,hi' f2d (zAb (a:=⟨s.slope,s.start+e,s.den⟩) ej f2p f2s k)⟩
  ·exact ⟨f1,f1c,hi' f1d (zAc (b:=⟨s.slope,s.start+e,s.den⟩) f1p ej f1s k)⟩
end Go.Proofs
namespace Go.Proofs
open Go Go.Pm
set_option maxRecDepth 100000
theorem zKX {g : Sl Gate} (G : zak g) (nf : ¬ zhh g) {F : straight → Frac} (hF : ∀ s, Cor g s → FOK (F s)) {lo hi : Frac} (B : Bd g F lo hi) {x : Frac} (px : 0 < x.Den)
    (h1:∃ c,Cor g c∧¬ ltF x (F c)) (h2:∃ c,Cor g c∧¬ ltF (F c) x) : ¬ ltF x lo∧¬ ltF hi x:=by
  obtain ⟨c,hc,kc⟩:=h1
  obtain ⟨d,hd,kd⟩:=h2
  obtain ⟨fl,fh⟩:=zz9 hF B
  have pc:=(hF c hc).2;have pd:=(hF d hd).2;have pl:=fl.2;have ph:=fh.2
  exact ⟨zdF (b:=F c) (by omega) (by omega) (by omega) (B.1.2 c hc) kc,zdF (b:=F d) (by omega) (by omega) (by omega) kd (B.2.2 d hd)⟩
theorem zDz {g:Sl Gate} (G:zak g) (hs:s21 g=true) (hf:s22 g=false) {z:Int} (hz : -200000≤z∧z≤200000):Bd g (plF z) (s36 g z).1 (s36 g z).2:=by
 obtain ⟨C,_,_,_,c4⟩:=zlA g G
 have:=(zz3 G ((c4 (zb2 G hf)).1 hs) hz).2
 unfold s36 zkY
 rw [hf];exact this
theorem zAd {g:Sl Gate} (G:zak g) (hs:s21 g=true) (hf:s22 g=false):Bd g slF (s37 g).1 (s37 g).2:=by
 obtain ⟨C,_,_,_,c4⟩:=zlA g G
 exact (zDu G ((c4 (zb2 G hf)).1 hs)).2
theorem zCg {g:Sl Gate} (G:zak g) (hf:s22 g=false):s21 g=true↔∃ s,0 < s.den∧ziB g s:=by
 obtain ⟨C,_,_,_,c4⟩:=zlA g G
 rw [c4 (zb2 G hf)]
 constructor
 ·intro ⟨s, hs⟩
  exact ⟨s,by have:=(zck G hs).2.2;omega,hs.2⟩
 ·intro ⟨s, hd, ha⟩
  obtain ⟨_,⟨c,hc,_⟩,_⟩:=lp G.2.1 (zb2 G hf) hd ha
  exact ⟨c,hc⟩
end Go.Proofs
namespace Go.Proofs
open Go Go.Pm
set_option maxRecDepth 100000
def pkS (g:Sl Gate) (set:Sl Int) (i:Nat) (v:Sl Gate):Sl Gate:=apL v (g.get (set.get i).toNat)
def pick (g:Sl Gate) (set:Sl Int):Sl Gate:=zhd (pkS g set) set.len 0 zgA
def inR (g:Sl Gate) (set:Sl Int):Prop:=∀ i,i < set.len→0≤set.get i∧set.get i < (g.len:Int)
theorem zAe {α:Type} (v:Sl α) (x:α) (i:Nat) (h:i < v.len):(apL v x).get i=v.get i:=by
 show zdv v.len v.get (fun _=>x) i=_
 unfold zdv
 rw [show Nat.ble v.len i=false by rw [← Bool.not_eq_true,Nat.ble_eq];omega]
theorem zAf {α:Type} (v:Sl α) (x:α):(apL v x).get v.len=x:=by
 show zdv v.len v.get (fun _=>x) v.len=_
 unfold zdv
 rw [show Nat.ble v.len v.len=true by rw [Nat.ble_eq];omega]
theorem zCh (g:Sl Gate) (G:zak g) (set:Sl Int) (h:inR g set):(pick g set).len=set.len∧∀ j,j < set.len→zez ((pick g set).get j) :=
 zhe (Inv:=fun i (v:Sl Gate)=>v.len=i∧∀ j,j < i→zez (v.get j)) (n:=set.len) (fun i v hi ⟨h1,h2⟩=>by
  refine ⟨by show v.len+1=i+1;omega,fun j hj=>?_⟩
  show zez ((apL v (g.get (set.get i).toNat)).get j)
  by_cases hji:j < v.len
  ·rw [zAe _ _ _ hji];exact h2 j (by omega)
  ·have : j = v.len := by omega
   rw [this,zAf]
   have:=h i hi
   exact G.1 _ (by omega)) set.len 0 zgA (by omega) ⟨rfl,fun j hj=>absurd hj (Nat.not_lt_zero _)⟩
theorem zAg (g:Sl Gate) (G:zak g) (set:Sl Int) (h:inR g set) (h1:1≤set.len) (h2:set.len≤24):zak (pick g set):=by
 obtain ⟨a,b⟩:=zCh g G set h
 exact ⟨fun i hi=>b i (by omega),by omega,by omega⟩
theorem zKY (g:Sl Gate) (set:Sl Int) (h:inR g set) (h2:set.len≤24):p47 g set=true∧s47 g set=pick g set:=by
  have := zfC (σ := Sl Gate) (step := pkS g set) (E := id) (EP := fun _ => true) (Inv := fun i (v : Sl Gate) => v.len = i) (a := 0) (n := set.len) (lpS := fun k v i => zk5 g set k i v) (lpP := fun k v i => zk6 g set k i v)
    (fun k i v _ hi _=>by
      show zk3 g set (zk5 g set k) (i:Int) v=_
      generalize zk5 g set k=S
      unfold zk3
      rw [decide_eq_true (show (i:Int) < (set.len:Int) by omega),cond_true,Int.toNat_natCast]
      rfl)
    (fun k v=>by
      show zk3 g set (zk5 g set k) (set.len:Int) v=_
      unfold zk3
      rw [decide_eq_false (show ¬ (set.len:Int) < (set.len:Int) by omega),cond_false];rfl)
    (fun k i v _ hi hv=>by
      show zk4 g set (zk6 g set k) (i:Int) v=_
      generalize zk6 g set k=S
      unfold zk4
      rw [decide_eq_true (show (i:Int) < (set.len:Int) by omega),cond_true,Int.toNat_natCast,decide_eq_true (show 0≤(i:Int)∧(i:Int) < (set.len:Int) by omega),decide_eq_true (h i hi),decide_eq_true (show (v.len+1) * 24≤140737488355328∧v.len+1≤9223372036854775807 by omega)]
      rfl)
    (fun k v=>by
      show zk4 g set (zk6 g set k) (set.len:Int) v=_
      unfold zk4
      rw [decide_eq_false (show ¬ (set.len:Int) < (set.len:Int) by omega),cond_false])
    (fun i v _ _ h=>by show v.len+1=i+1;omega) (Nat.zero_le _) (by omega) (zgA:Sl Gate) rfl
  exact this
theorem zDA (g:Sl Gate) (G:zak g) (set:Sl Int) (h:inR g set) (h1:1≤set.len) (h2:set.len≤24):p84 g set=true∧s84 g set=s21 (pick g set)∧p21 (pick g set)=true:=by
  have K:=zAg g G set h h1 h2
  obtain ⟨C,l1,_⟩:=zof _ K
  obtain ⟨q1,q2,q3⟩:=zzU _ K
  have := zfC (σ := Sl Gate) (step := pkS g set) (E := fun v => s66 (s65 v)) (EP := fun v => decide (p65 v = true) && (decide (p66 (s65 v) = true) && true)) (Inv := fun i (v : Sl Gate) => v.len = i) (a := 0) (n := set.len) (lpS := fun k v i => zhP g set k i v) (lpP := fun k v i => zhQ g set k i v)
    (fun k i v _ hi _=>by
      show zhN g set (zhP g set k) (i:Int) v=_
      generalize zhP g set k=S
      unfold zhN
      rw [decide_eq_true (show (i:Int) < (set.len:Int) by omega),cond_true,Int.toNat_natCast]
      rfl)
    (fun k v=>by
      show zhN g set (zhP g set k) (set.len:Int) v=_
      unfold zhN
      rw [decide_eq_false (show ¬ (set.len:Int) < (set.len:Int) by omega),cond_false])
    (fun k i v _ hi hv=>by
      show zhO g set (zhQ g set k) (i:Int) v=_
      generalize zhQ g set k=S
      unfold zhO
      rw [decide_eq_true (show (i:Int) < (set.len:Int) by omega),cond_true,Int.toNat_natCast,decide_eq_true (show 0≤(i:Int)∧(i:Int) < (set.len:Int) by omega),decide_eq_true (h i hi),decide_eq_true (show (v.len+1) * 24≤140737488355328∧v.len+1≤9223372036854775807 by omega)]
      simp only [Bool.true_and]
      rfl)
    (fun k v=>by
      show zhO g set (zhQ g set k) (set.len:Int) v=_
      unfold zhO
      rw [decide_eq_false (show ¬ (set.len:Int) < (set.len:Int) by omega),cond_false])
    (fun i v _ _ h=>by show v.len+1=i+1;omega) (Nat.zero_le _) (by omega) (zgA:Sl Gate) rfl
  obtain ⟨a,b⟩:=this
  have a:p84 g set=(decide (p65 (pick g set)=true) && (decide (p66 (s65 (pick g set))=true) && true)):=a
  have b:s84 g set=s66 (s65 (pick g set)):=b
  rw [l1,q1] at a
  exact ⟨by rw [a];simp,by rw [b,q3],q2⟩
theorem zDB (g:Sl Gate) (G:zak g) (set:Sl Int) (h:inR g set) (h1:1≤set.len) (h2:set.len≤24):p84 g set=true∧p47 g set=true∧p21 (s47 g set)=true∧s84 g set=s21 (s47 g set):=by
 obtain ⟨a,b,c⟩:=zDA g G set h h1 h2
 obtain ⟨d,e⟩:=zKY g set h h2
 exact ⟨a,d,by rw [e];exact c,by rw [e];exact b⟩
def Rel (a:Sl Int×Int) (b:Sl Int):Prop:=a.1=b∧a.2=(if b.len=0 then 7 else 0)∧b.len≤3
def two (a b:Int):Sl Int:=⟨2,zbN (zcK [(zaj a),(zaj b)])⟩
def three (a b c:Int):Sl Int:=⟨3,zbN (zcK [(zaj a),(zaj b),(zaj c)])⟩
theorem zDC {g:Sl Gate} {a b:Nat} (ha:a < g.len) (hb:b < g.len):inR g (two a b):=by
 intro i hi
 have hi:i < 2:=hi
 match i,hi with
 | 0,_=>show 0≤(a:Int)∧(a:Int) < _;omega
 | 1,_=>show 0≤(b:Int)∧(b:Int) < _;omega
theorem ztW {g:Sl Gate} {a b c:Nat} (ha:a < g.len) (hb:b < g.len) (hc:c < g.len):inR g (three a b c):=by
 intro i hi
 have hi:i < 3:=hi
 match i,hi with
 | 0,_=>show 0≤(a:Int)∧(a:Int) < _;omega
 | 1,_=>show 0≤(b:Int)∧(b:Int) < _;omega
 | 2,_=>show 0≤(c:Int)∧(c:Int) < _;omega
section loops
variable (g:Sl Gate) (G:zak g)
include G
theorem zQa (i j : Nat) (hi : i < g.len) (hj : j < g.len) (S6 : Int → Sl Int × Int) (S7 : Int → Int → Int → Sl Int × Int) (P6 : Int → Bool) (P7 : Int → Int → Int → Bool) (T4 : Int → Sl Int) (T5 : Int → Int → Sl Int) (Q4 : Int → Bool) (Q5 : Int → Int → Bool)
    (hP:P7 (i:Int) ((j+1:Nat):Int) (i:Int)=true) (hQ:Q5 (i:Int) ((j+1:Nat):Int)=true) (hR:Rel (S7 (i:Int) ((j+1:Nat):Int) (i:Int)) (T5 (i:Int) ((j+1:Nat):Int))) :
    ∀ (m k c:Nat),c+m=g.len→m < k→zhS P6 P7 g k (i:Int) (j:Int) (c:Int) (i:Int)=true∧zla Q4 Q5 g k (i:Int) (j:Int) (c:Int)=true∧Rel (zd7 S6 S7 g k (i:Int) (j:Int) (c:Int) (i:Int)) (zk9 T4 T5 g k (i:Int) (j:Int) (c:Int)):=by
  have hl:=G.2
  have wj:=zaD (n:=g.len) hj (by omega)
  intro m
  induction m with
  | zero =>
    intro k c hc hk
    obtain ⟨k,rfl⟩:∃ k',k=k'+1:=⟨k - 1,by omega⟩
    show zhR P6 P7 g (zhS P6 P7 g k) _ _ _ _=true∧zk8 Q4 Q5 g (zla Q4 Q5 g k) _ _ _=true∧Rel (zd6 S6 S7 g (zd7 S6 S7 g k) _ _ _ _) (zk7 T4 T5 g (zk9 T4 T5 g k) _ _ _)
    unfold zhR zk8 zd6 zk7
    rw [decide_eq_false (show ¬ (c:Int) < (g.len:Int) by omega),cond_false,cond_false,cond_false,cond_false,wj]
    exact ⟨hP,hQ,hR⟩
  | succ m ih =>
    intro k c hc hk
    obtain ⟨k,rfl⟩:∃ k',k=k'+1:=⟨k - 1,by omega⟩
    obtain ⟨i1,i2,i3⟩:=ih k (c+1) (by omega) (by omega)
    obtain ⟨a1,a2,a3,a4⟩:=zDB g G (three i j c) (ztW hi hj (by omega)) (by show 1≤3;omega) (by show 3≤24;omega)
    have wc:=zaD (i:=c) (n:=g.len) (by omega) (by omega)
    show zhR P6 P7 g (zhS P6 P7 g k) _ _ _ _=true∧zk8 Q4 Q5 g (zla Q4 Q5 g k) _ _ _=true∧Rel (zd6 S6 S7 g (zd7 S6 S7 g k) _ _ _ _) (zk7 T4 T5 g (zk9 T4 T5 g k) _ _ _)
    generalize zhS P6 P7 g k=A1 at i1
    generalize zla Q4 Q5 g k=A2 at i2
    generalize zd7 S6 S7 g k=A3 at i3
    generalize zk9 T4 T5 g k=A4 at i3
    have hth:(⟨3,zbN (zcK [(zaj (i:Int)),(zaj (j:Int)),(zaj (c:Int))])⟩:Sl Int)=three i j c:=rfl
    unfold zhR zk8 zd6 zk7 zq9 zzC znu zzB
    rw [hth,a1,a2,a3,a4,wc,decide_eq_true (show (c:Int) < (g.len:Int) by omega)]
    cases s21 (s47 g (three i j c))
    · exact ⟨by simp only [decide_true,Bool.true_and,cond_true,Bool.not_false],by simp only [decide_true,Bool.true_and,cond_true,Bool.not_false],rfl,rfl,by show 3≤3;omega⟩
    · exact ⟨by simp only [decide_true,Bool.true_and,cond_true,cond_false,Bool.not_true];exact i1,by simp only [decide_true,Bool.true_and,cond_true,cond_false,Bool.not_true];exact i2,i3⟩
theorem zQb (i : Nat) (hi : i < g.len) (S6 : Int → Sl Int × Int) (P6 : Int → Bool) (T4 : Int → Sl Int) (Q4 : Int → Bool)
    (hP:P6 ((i+1:Nat):Int)=true) (hQ:Q4 ((i+1:Nat):Int)=true) (hR:Rel (S6 ((i+1:Nat):Int)) (T4 ((i+1:Nat):Int))) :
    ∀ (m k j:Nat),j+m=g.len→m < k→zhU P6 g k (i:Int) (j:Int) (i:Int)=true∧zle Q4 g k (i:Int) (j:Int)=true∧Rel (zd9 S6 g k (i:Int) (j:Int) (i:Int)) (zld T4 g k (i:Int) (j:Int)):=by
  have hl:=G.2
  have wi:=zaD (n:=g.len) hi (by omega)
  intro m
  induction m with
  | zero =>
    intro k j hj hk
    obtain ⟨k,rfl⟩:∃ k',k=k'+1:=⟨k - 1,by omega⟩
    show zhT P6 g (zhU P6 g k) _ _ _=true∧zlc Q4 g (zle Q4 g k) _ _=true∧Rel (zd8 S6 g (zd9 S6 g k) _ _ _) (zlb T4 g (zld T4 g k) _ _)
    unfold zhT zlc zd8 zlb
    rw [decide_eq_false (show ¬ (j:Int) < (g.len:Int) by omega),cond_false,cond_false,cond_false,cond_false,wi]
    exact ⟨hP,hQ,hR⟩
  | succ m ih =>
    intro k j hj hk
    obtain ⟨k,rfl⟩:∃ k',k=k'+1:=⟨k - 1,by omega⟩
    obtain ⟨i1,i2,i3⟩:=ih k (j+1) (by omega) (by omega)
    have wj:=zaD (i:=j) (n:=g.len) (by omega) (by omega)
    show zhT P6 g (zhU P6 g k) _ _ _=true∧zlc Q4 g (zle Q4 g k) _ _=true∧Rel (zd8 S6 g (zd9 S6 g k) _ _ _) (zlb T4 g (zld T4 g k) _ _)
    generalize zhU P6 g k=A1 at i1
    generalize zle Q4 g k=A2 at i2
    generalize zd9 S6 g k=A3 at i3
    generalize zld T4 g k=A4 at i3
    unfold zhT zlc zd8 zlb zra zzE znv zzD
    rw [wj,decide_eq_true (show (j:Int) < (g.len:Int) by omega),cond_true,cond_true,cond_true,cond_true]
    exact zQa g G i j hi (by omega) S6 A3 P6 A1 T4 A4 Q4 A2 i1 i2 i3 (g.len - (j+1)) Fuel (j+1) (by omega) (by simp only [Fuel];omega)
theorem zQc:∀ (m k i:Nat),i+m=g.len→m < k→zhW g k (i:Int)=true∧zli g k (i:Int)=true∧Rel (zeb g k (i:Int)) (zlh g k (i:Int)):=by
 have hl:=G.2
 intro m
 induction m with
 | zero =>
  intro k i hi hk
  obtain ⟨k,rfl⟩:∃ k',k=k'+1:=⟨k - 1,by omega⟩
  show zhV g (zhW g k) _=true∧zlg g (zli g k) _=true∧Rel (zea g (zeb g k) _) (zlf g (zlh g k) _)
  unfold zhV zlg zea zlf
  rw [decide_eq_false (show ¬ (i:Int) < (g.len:Int) by omega),cond_false,cond_false,cond_false,cond_false]
  exact ⟨rfl,rfl,rfl,rfl,by show 0≤3;omega⟩
 | succ m ih =>
  intro k i hi hk
  obtain ⟨k,rfl⟩:∃ k',k=k'+1:=⟨k - 1,by omega⟩
  obtain ⟨i1,i2,i3⟩:=ih k (i+1) (by omega) (by omega)
  have wi:=zaD (i:=i) (n:=g.len) (by omega) (by omega)
  show zhV g (zhW g k) _=true∧zlg g (zli g k) _=true∧Rel (zea g (zeb g k) _) (zlf g (zlh g k) _)
  generalize zhW g k=A1 at i1
  generalize zli g k=A2 at i2
  generalize zeb g k=A3 at i3
  generalize zlh g k=A4 at i3
  unfold zhV zlg zea zlf zrb zzG znw zzF
  rw [wi,decide_eq_true (show (i:Int) < (g.len:Int) by omega),cond_true,cond_true,cond_true,cond_true]
  exact zQb g G i (by omega) A3 A1 A4 A2 i1 i2 i3 (g.len - (i+1)) Fuel (i+1) (by omega) (by simp only [Fuel];omega)
theorem zQd (i : Nat) (hi : i < g.len) (S2 : Int → Sl Int × Int) (P2 : Int → Bool) (T0 : Int → Sl Int) (Q0 : Int → Bool)
    (hP:P2 ((i+1:Nat):Int)=true) (hQ:Q0 ((i+1:Nat):Int)=true) (hR:Rel (S2 ((i+1:Nat):Int)) (T0 ((i+1:Nat):Int))) :
    ∀ (m k j:Nat),j+m=g.len→m < k→zhY P2 g k (i:Int) (j:Int) (i:Int)=true∧zlm Q0 g k (i:Int) (j:Int)=true∧Rel (zed S2 g k (i:Int) (j:Int) (i:Int)) (zll T0 g k (i:Int) (j:Int)):=by
  have hl:=G.2
  have wi:=zaD (n:=g.len) hi (by omega)
  intro m
  induction m with
  | zero =>
    intro k j hj hk
    obtain ⟨k,rfl⟩:∃ k',k=k'+1:=⟨k - 1,by omega⟩
    show zhX P2 g (zhY P2 g k) _ _ _=true∧zlk Q0 g (zlm Q0 g k) _ _=true∧Rel (zec S2 g (zed S2 g k) _ _ _) (zlj T0 g (zll T0 g k) _ _)
    unfold zhX zlk zec zlj
    rw [decide_eq_false (show ¬ (j:Int) < (g.len:Int) by omega),cond_false,cond_false,cond_false,cond_false,wi]
    exact ⟨hP,hQ,hR⟩
  | succ m ih =>
    intro k j hj hk
    obtain ⟨k,rfl⟩:∃ k',k=k'+1:=⟨k - 1,by omega⟩
    obtain ⟨i1,i2,i3⟩:=ih k (j+1) (by omega) (by omega)
    obtain ⟨a1,a2,a3,a4⟩:=zDB g G (two i j) (zDC hi (by omega)) (by show 1≤2;omega) (by show 2≤24;omega)
    have wj:=zaD (i:=j) (n:=g.len) (by omega) (by omega)
    show zhX P2 g (zhY P2 g k) _ _ _=true∧zlk Q0 g (zlm Q0 g k) _ _=true∧Rel (zec S2 g (zed S2 g k) _ _ _) (zlj T0 g (zll T0 g k) _ _)
    generalize zhY P2 g k=A1 at i1
    generalize zlm Q0 g k=A2 at i2
    generalize zed S2 g k=A3 at i3
    generalize zll T0 g k=A4 at i3
    have hth:(⟨2,zbN (zcK [(zaj (i:Int)),(zaj (j:Int))])⟩:Sl Int)=two i j:=rfl
    unfold zhX zlk zec zlj zrd zzI znx zzH
    rw [hth,a1,a2,a3,a4,wj,decide_eq_true (show (j:Int) < (g.len:Int) by omega)]
    cases s21 (s47 g (two i j))
    · exact ⟨by simp only [decide_true,Bool.true_and,cond_true,Bool.not_false],by simp only [decide_true,Bool.true_and,cond_true,Bool.not_false],rfl,rfl,by show 2≤3;omega⟩
    · exact ⟨by simp only [decide_true,Bool.true_and,cond_true,cond_false,Bool.not_true];exact i1,by simp only [decide_true,Bool.true_and,cond_true,cond_false,Bool.not_true];exact i2,i3⟩
theorem zQe:∀ (m k i:Nat),i+m=g.len→m < k→zh0 g k (i:Int)=true∧zlq g k (i:Int)=true∧Rel (zef g k (i:Int)) (zlp g k (i:Int)):=by
 have hl:=G.2
 intro m
 induction m with
 | zero =>
  intro k i hi hk
  obtain ⟨k,rfl⟩:∃ k',k=k'+1:=⟨k - 1,by omega⟩
  show zhZ g (zh0 g k) _=true∧zlo g (zlq g k) _=true∧Rel (zee g (zef g k) _) (zln g (zlp g k) _)
  unfold zhZ zlo zee zln
  rw [decide_eq_false (show ¬ (i:Int) < (g.len:Int) by omega),cond_false,cond_false,cond_false,cond_false]
  exact zQc g G g.len Fuel 0 (by omega) (by simp only [Fuel];omega)
 | succ m ih =>
  intro k i hi hk
  obtain ⟨k,rfl⟩:∃ k',k=k'+1:=⟨k - 1,by omega⟩
  obtain ⟨i1,i2,i3⟩:=ih k (i+1) (by omega) (by omega)
  have wi:=zaD (i:=i) (n:=g.len) (by omega) (by omega)
  show zhZ g (zh0 g k) _=true∧zlo g (zlq g k) _=true∧Rel (zee g (zef g k) _) (zln g (zlp g k) _)
  generalize zh0 g k=A1 at i1
  generalize zlq g k=A2 at i2
  generalize zef g k=A3 at i3
  generalize zlp g k=A4 at i3
  unfold zhZ zlo zee zln zre zzK znz zzJ
  rw [wi,decide_eq_true (show (i:Int) < (g.len:Int) by omega),cond_true,cond_true,cond_true,cond_true]
  exact zQd g G i (by omega) A3 A1 A4 A2 i1 i2 i3 (g.len - (i+1)) Fuel (i+1) (by omega) (by simp only [Fuel];omega)
end loops
theorem zpI (g:Sl Gate) (G:zak g):zrf g=true∧p43 g=true∧Rel (znA g) (s43 g):=zQe g G g.len Fuel 0 (by omega) (by have:=G.2;simp only [Fuel];omega)
end Go.Proofs
namespace Go.Proofs
open Go Go.Pm
set_option maxRecDepth 100000
theorem zAh {g:Sl Gate} (G:zak g):(∀ i,i < g.len→(g.get i).Low≤(com g).1∧(com g).2≤(g.get i).High)∧(∃ i,i < g.len∧(com g).1=(g.get i).Low)∧∃ i,i < g.len∧(com g).2=(g.get i).High:=by
 have hl:=G.2
 have:=zhe (step:=cmS g) (n:=g.len) (Inv:=fun n (s:Int×Int)=>(∀ i,i < n→(g.get i).Low≤s.1∧s.2≤(g.get i).High)∧(∃ i,i < g.len∧s.1=(g.get i).Low)∧∃ i,i < g.len∧s.2=(g.get i).High) (fun i s hi ⟨h1,h2,h3⟩=>by
  unfold cmS
  refine ⟨fun j hj=>?_,?_,?_⟩
  ·show (g.get j).Low ≤ (if (g.get i).Low > s.1 then (g.get i).Low else s.1) ∧ (if (g.get i).High < s.2 then (g.get i).High else s.2) ≤ (g.get j).High
   by_cases e:j=i
   ·rw [e];constructor <;> split <;> omega
   ·have := h1 j (by omega)
    constructor <;> split <;> omega
  ·show ∃ k, k < g.len ∧ (if (g.get i).Low > s.1 then (g.get i).Low else s.1) = _
   split
   ·exact ⟨i,hi,rfl⟩
   ·exact h2
  ·show ∃ k, k < g.len ∧ (if (g.get i).High < s.2 then (g.get i).High else s.2) = _
   split
   ·exact ⟨i,hi,rfl⟩
   ·exact h3) (g.len - 1) 1 ((g.get 0).Low,(g.get 0).High) (by omega) ⟨fun i hi=>by rw [show i=0 by omega];exact ⟨Int.le_refl _,Int.le_refl _⟩,⟨0,by omega,rfl⟩,0,by omega,rfl⟩
 exact this
theorem zol {g:Sl Gate} (G:zak g):s21 g=true↔∃ s,0 < s.den∧ziB g s:=by
 cases hf:s22 g
 ·exact zCg G hf
 ·have fl := (zhi g G).2.1 hf
  have e:s21 g=decide ((com g).1≤(com g).2):=by unfold s21;rw [hf,(zpE g G).2];rfl
  obtain ⟨c1,⟨i,hi,c2⟩,⟨j,hj,c3⟩⟩:=zAh G
  rw [e,decide_eq_true_eq]
  constructor
  ·intro h
   refine ⟨⟨0,(com g).1,1⟩,by show (0:Int) < 1;omega,fun k hk=>decide_eq_true ?_⟩
   have:=c1 k hk
   unfold plc;simp only;omega
  ·intro ⟨s, hd, ha⟩
   have a:=(zin ha hi).1
   have b:=(zin ha hj).2
   rw [fl i hi] at a
   rw [fl j hj] at b
   rw [c2,c3]
   exact Int.le_of_mul_le_mul_right (Int.le_trans a b) hd
theorem zCi (g:Sl Gate) (set:Sl Int):(pick g set).len=set.len∧∀ j,j < set.len→(pick g set).get j=g.get (set.get j).toNat :=
 zhe (Inv:=fun i (v:Sl Gate)=>v.len=i∧∀ j,j < i→v.get j=g.get (set.get j).toNat) (n:=set.len) (fun i v _ ⟨h1,h2⟩=>by
  refine ⟨by show v.len+1=i+1;omega,fun j hj=>?_⟩
  show (apL v (g.get (set.get i).toNat)).get j=_
  by_cases h:j < v.len
  ·rw [zAe _ _ _ h];exact h2 j (by omega)
  ·have e : j = v.len := by omega
   rw [e,zAf,h1]) set.len 0 zgA (by omega) ⟨rfl,fun j hj=>absurd hj (Nat.not_lt_zero _)⟩
def ff {β : Type} (hit : Nat → Option β) : Nat → Nat → Option β
  | 0,_=>none
  | m+1,i=>match hit i with | some r=>some r | none=>ff hit m (i+1)
theorem zlC {β:Type} (hit:Nat→Option β) (m i:Nat):ff hit (m+1) i=match hit i with | some r=>some r | none=>ff hit m (i+1):=rfl
theorem zfU {β : Type} {f f' : Nat → Option β} : ∀ {m i : Nat}, (∀ x, i ≤ x → x < i + m → f x = f' x) → ff f m i = ff f' m i
  | 0,_,_=>rfl
  | m+1,i,h=>by
    unfold ff
    rw [h i (by omega) (by omega),zfU (m:=m) (i:=i+1) fun x a b=>h x (by omega) (by omega)]
def opt (o:Option (Sl Int)) (d:Sl Int×Int):Sl Int×Int:=match o with | some r=>(r,0) | none=>d
def rr2 (i j:Int):Sl Int:=⟨2,zhn i [i,j]⟩
def rr3 (i j k:Int):Sl Int:=⟨3,zhn i [i,j,k]⟩
def h3 (g:Sl Gate) (i j k:Nat):Option (Sl Int):=cond (s84 g (three i j k)) none (some (rr3 i j k))
def h2 (g:Sl Gate) (i j:Nat):Option (Sl Int):=ff (h3 g i j) (g.len - (j+1)) (j+1)
def h1 (g:Sl Gate) (i:Nat):Option (Sl Int):=ff (h2 g i) (g.len - (i+1)) (i+1)
def e2 (g:Sl Gate) (i j:Nat):Option (Sl Int):=cond (s84 g (two i j)) none (some (rr2 i j))
def e1 (g:Sl Gate) (i:Nat):Option (Sl Int):=ff (e2 g i) (g.len - (i+1)) (i+1)
def emp (g:Sl Gate):Sl Int×Int:=opt (ff (e1 g) g.len 0) (opt (ff (h1 g) g.len 0) (⟨0,fun _=>default⟩,7))
section
variable (g:Sl Gate) (hn:g.len≤24)
include hn
theorem em8 (i j:Nat) (hj:j < g.len) (S6:Int→Sl Int×Int) (S7:Int→Int→Int→Sl Int×Int) (t:Int):∀ (m k c:Nat),c+m=g.len→m < k→zd7 S6 S7 g k (i:Int) (j:Int) (c:Int) t=opt (ff (h3 g i j) m c) (S7 (i:Int) ((j+1:Nat):Int) t):=by
 intro m
 induction m with
 | zero =>
  intro k c hc hk
  obtain ⟨k,rfl⟩:∃ x,k=x+1:=⟨k - 1,by omega⟩
  show zd6 S6 S7 g (zd7 S6 S7 g k) (i:Int) (j:Int) (c:Int) t=_
  unfold zd6
  rw [decide_eq_false (show ¬ (c:Int) < (g.len:Int) by omega),cond_false,zaD (n:=g.len) hj (by omega)];rfl
 | succ m ih =>
  intro k c hc hk
  obtain ⟨k,rfl⟩:∃ x,k=x+1:=⟨k - 1,by omega⟩
  have ih:=ih k (c+1) (by omega) (by omega)
  show zd6 S6 S7 g (zd7 S6 S7 g k) (i:Int) (j:Int) (c:Int) t=_
  generalize zd7 S6 S7 g k=A at ih
  unfold zd6 znu
  rw [decide_eq_true (show (c:Int) < (g.len:Int) by omega),cond_true,zaD (n:=g.len) (i:=c) (by omega) (by omega)]
  rw [zlC]
  unfold h3
  show cond (!(s84 g (three i j c))) _ _=_
  cases s84 g (three (i:Int) (j:Int) (c:Int))
  ·rfl
  ·exact ih
theorem em7 (i:Nat) (hi:i < g.len) (S6:Int→Sl Int×Int):∀ (m k j:Nat),j+m=g.len→m < k→zd9 S6 g k (i:Int) (j:Int) (i:Int)=opt (ff (h2 g i) m j) (S6 ((i+1:Nat):Int)):=by
 intro m
 induction m with
 | zero =>
  intro k j hc hk
  obtain ⟨k,rfl⟩:∃ x,k=x+1:=⟨k - 1,by omega⟩
  show zd8 S6 g (zd9 S6 g k) (i:Int) (j:Int) (i:Int)=_
  unfold zd8
  rw [decide_eq_false (show ¬ (j:Int) < (g.len:Int) by omega),cond_false,zaD (n:=g.len) hi (by omega)];rfl
 | succ m ih =>
  intro k j hc hk
  obtain ⟨k,rfl⟩:∃ x,k=x+1:=⟨k - 1,by omega⟩
  have ih:=ih k (j+1) (by omega) (by omega)
  show zd8 S6 g (zd9 S6 g k) (i:Int) (j:Int) (i:Int)=_
  generalize zd9 S6 g k=A at ih
  have E:=em8 g hn i j (by omega) S6 A (i:Int) (g.len - (j+1)) Fuel (j+1) (by omega) (by simp only [Fuel];omega)
  unfold zd8 znv
  rw [decide_eq_true (show (j:Int) < (g.len:Int) by omega),cond_true,zaD (n:=g.len) (i:=j) (by omega) (by omega),E,ih]
  rw [zlC]
  show opt (h2 g i j) _=_
  cases h2 g i j <;> rfl
theorem em6:∀ (m k i:Nat),i+m=g.len→m < k→zeb g k (i:Int)=opt (ff (h1 g) m i) (⟨0,fun _=>default⟩,7):=by
 intro m
 induction m with
 | zero =>
  intro k i hc hk
  obtain ⟨k,rfl⟩:∃ x,k=x+1:=⟨k - 1,by omega⟩
  show zea g (zeb g k) (i:Int)=_
  unfold zea
  rw [decide_eq_false (show ¬ (i:Int) < (g.len:Int) by omega),cond_false];rfl
 | succ m ih =>
  intro k i hc hk
  obtain ⟨k,rfl⟩:∃ x,k=x+1:=⟨k - 1,by omega⟩
  have ih:=ih k (i+1) (by omega) (by omega)
  show zea g (zeb g k) (i:Int)=_
  generalize zeb g k=A at ih
  have E:=em7 g hn i (by omega) A (g.len - (i+1)) Fuel (i+1) (by omega) (by simp only [Fuel];omega)
  unfold zea znw
  rw [decide_eq_true (show (i:Int) < (g.len:Int) by omega),cond_true,zaD (n:=g.len) (i:=i) (by omega) (by omega),E,ih]
  rw [zlC]
  show opt (h1 g i) _=_
  cases h1 g i <;> rfl
theorem em3 (i:Nat) (hi:i < g.len) (S2:Int→Sl Int×Int):∀ (m k j:Nat),j+m=g.len→m < k→zed S2 g k (i:Int) (j:Int) (i:Int)=opt (ff (e2 g i) m j) (S2 ((i+1:Nat):Int)):=by
 intro m
 induction m with
 | zero =>
  intro k j hc hk
  obtain ⟨k,rfl⟩:∃ x,k=x+1:=⟨k - 1,by omega⟩
  show zec S2 g (zed S2 g k) (i:Int) (j:Int) (i:Int)=_
  unfold zec
  rw [decide_eq_false (show ¬ (j:Int) < (g.len:Int) by omega),cond_false,zaD (n:=g.len) hi (by omega)];rfl
 | succ m ih =>
  intro k j hc hk
  obtain ⟨k,rfl⟩:∃ x,k=x+1:=⟨k - 1,by omega⟩
  have ih:=ih k (j+1) (by omega) (by omega)
  show zec S2 g (zed S2 g k) (i:Int) (j:Int) (i:Int)=_
  generalize zed S2 g k=A at ih
  unfold zec znx
  rw [decide_eq_true (show (j:Int) < (g.len:Int) by omega),cond_true,zaD (n:=g.len) (i:=j) (by omega) (by omega)]
  rw [zlC]
  unfold e2
  show cond (!(s84 g (two i j))) _ _=_
  cases s84 g (two (i:Int) (j:Int))
  ·rfl
  ·exact ih
theorem em2:∀ (m k i:Nat),i+m=g.len→m < k→zef g k (i:Int)=opt (ff (e1 g) m i) (zny g):=by
 intro m
 induction m with
 | zero =>
  intro k i hc hk
  obtain ⟨k,rfl⟩:∃ x,k=x+1:=⟨k - 1,by omega⟩
  show zee g (zef g k) (i:Int)=_
  unfold zee
  rw [decide_eq_false (show ¬ (i:Int) < (g.len:Int) by omega),cond_false];rfl
 | succ m ih =>
  intro k i hc hk
  obtain ⟨k,rfl⟩:∃ x,k=x+1:=⟨k - 1,by omega⟩
  have ih:=ih k (i+1) (by omega) (by omega)
  show zee g (zef g k) (i:Int)=_
  generalize zef g k=A at ih
  have E:=em3 g hn i (by omega) A (g.len - (i+1)) Fuel (i+1) (by omega) (by simp only [Fuel];omega)
  unfold zee znz
  rw [decide_eq_true (show (i:Int) < (g.len:Int) by omega),cond_true,zaD (n:=g.len) (i:=i) (by omega) (by omega),E,ih]
  rw [zlC]
  show opt (e1 g i) _=_
  cases e1 g i <;> rfl
end
theorem zDD (g:Sl Gate) (G:zak g):p38 g=true∧s38 g=emp g:=by
 have hl:=G.2
 obtain ⟨a1,a2⟩:=zpz g (by omega)
 have a2:=a2.2 G
 unfold p38 s38 zrg znB
 rw [a1,a2]
 refine ⟨(zpI g G).1,?_⟩
 have E2:=em2 g (by omega) g.len Fuel 0 (by omega) (by simp only [Fuel];omega)
 have E6:=em6 g (by omega) g.len Fuel 0 (by omega) (by simp only [Fuel];omega)
 have E6:zny g=opt (ff (h1 g) g.len 0) (⟨0,fun _=>default⟩,7):=E6
 rw [E6] at E2
 exact E2
def adS (a b:straight):straight:=⟨a.slope+b.slope,a.start+b.start,a.den+b.den⟩
def smS (k:Int) (a:straight):straight:=⟨k * a.slope,k * a.start,k * a.den⟩
structure Cone (K : straight → Prop) : Prop where
  zero:K ⟨0,0,0⟩
  add:∀ {a b},K a→K b→K (adS a b)
  mul:∀ {k a},0≤k→K a→K (smS k a)
def pos (x:Int):Int:=if 0 < x then x else 0
end Go.Proofs
namespace Go.Proofs
open Go Go.Pm
set_option maxRecDepth 100000
def Mv (b t:Int) (g m:Sl Gate):Prop:=m.len=g.len∧∀ i,i < g.len→m.get i=⟨(g.get i).Z,(g.get i).Low+(b+t * (g.get i).Z),(g.get i).High+(b+t * (g.get i).Z)⟩
def phi (b t:Int) (s:straight):straight:=⟨s.slope+t * s.den,s.start+b * s.den,s.den⟩
theorem zAi (b t:Int) (s:straight) (z:Int):plc (phi b t s) z=plc s z+(b+t * z) * s.den:=by unfold phi plc;simp only;grind
theorem zi5 {b t:Int} {g m:Sl Gate} (H:Mv b t g m) (s:straight) {i:Nat} (hi:i < g.len):zhf (phi b t s) (m.get i)=zhf s (g.get i):=by
 rw [H.2 i hi,Bool.eq_iff_iff]
 unfold zhf
 rw [decide_eq_true_iff,decide_eq_true_iff]
 simp only
 rw [zAi]
 have e:(phi b t s).den=s.den:=rfl
 rw [e]
 simp only [Int.add_mul]
 omega
theorem zio {b t:Int} {g m:Sl Gate} (H:Mv b t g m) (s:straight):ziB m (phi b t s)↔ziB g s :=
 ⟨fun h i hi=>by rw [← zi5 H s hi];exact h i (by rw [H.1];exact hi),fun h i hi=>by have hi:i < g.len:=H.1 ▸ hi;rw [zi5 H s hi];exact h i hi⟩
theorem zlD (b t:Int) (s:straight):phi b t (phi (-b) (-t) s)=s:=by
 unfold phi;cases s;simp only [straight.mk.injEq];refine ⟨?_,?_,trivial⟩ <;> grind
theorem zsn {b t:Int} {g m:Sl Gate} (H:Mv b t g m) (G:zak g) (M:zak m):s22 m=s22 g:=by
 have hl:=G.2.1
 rw [Bool.eq_iff_iff,(zhi m M).2,(zhi g G).2]
 have z:∀ i,i < g.len→(m.get i).Z=(g.get i).Z:=fun i hi=>by rw [H.2 i hi]
 constructor
 ·intro h i hi
  have:=h i (by rw [H.1];exact hi)
  rwa [z i hi,z 0 (by omega)] at this
 ·intro h i hi
  have hi:i < g.len:=H.1 ▸ hi
  rw [z i hi,z 0 (by omega)];exact h i hi
theorem zso {b t:Int} {g m:Sl Gate} (H:Mv b t g m) (G:zak g) (M:zak m):s21 m=s21 g:=by
 rw [Bool.eq_iff_iff,zol M,zol G]
 constructor
 ·intro ⟨s, hd, ha⟩
  exact ⟨phi (-b) (-t) s,hd,(zio H _).1 (by rw [zlD];exact ha)⟩
 ·intro ⟨s, hd, ha⟩
  exact ⟨phi b t s,hd,(zio H s).2 ha⟩
theorem zDE {b t:Int} {g m:Sl Gate} (H:Mv b t g m) (G:zak g) (M:zak m) {set:Sl Int} (hI:inR g set) (h1:1≤set.len) (h2:set.len≤24):s84 m set=s84 g set:=by
 have agr:∀ {g:Sl Gate} (G:zak g),inR g set→(s84 g set=true↔∃ s,0 < s.den∧∀ a,a < set.len→zhf s (g.get (set.get a).toNat)=true):=fun {g} G hI=>by
  obtain ⟨_,b,_⟩:=zDA g G set hI h1 h2
  obtain ⟨p1,p2⟩:=zCi g set
  rw [b,zol (zAg g G set hI h1 h2)]
  exact ⟨fun ⟨s,hd,ha⟩=>⟨s,hd,fun a h=>by rw [← p2 a h];exact ha a (by omega)⟩,fun ⟨s,hd,ha⟩=>⟨s,hd,fun a h=>by rw [p2 a (by omega)];exact ha a (by omega)⟩⟩
 have hM:inR m set:=fun i hi=>by rw [H.1];exact hI i hi
 have lt:∀ a,a < set.len→(set.get a).toNat < g.len:=fun a ha=>by have:=hI a ha;omega
 rw [Bool.eq_iff_iff,agr M hM,agr G hI]
 constructor
 ·intro ⟨s, hd, ha⟩
  exact ⟨phi (-b) (-t) s,hd,fun a h=>by rw [← zi5 H _ (lt a h),zlD];exact ha a h⟩
 ·intro ⟨s, hd, ha⟩
  exact ⟨phi b t s,hd,fun a h=>by rw [zi5 H s (lt a h)];exact ha a h⟩
theorem zKZ {b t:Int} {g m:Sl Gate} (H:Mv b t g m) (G:zak g) (M:zak m):emp m=emp g:=by
 have E2:∀ i j,i < j→j < g.len→e2 m i j=e2 g i j:=fun i j h1 h2=>by
  unfold e2;rw [zDE H G M (zDC (by omega) h2) (by show 1≤2;omega) (by show 2≤24;omega)]
 have H3:∀ i j k,i < j→j < k→k < g.len→h3 m i j k=h3 g i j k:=fun i j k h1 h2 h4=>by
  unfold h3;rw [zDE H G M (ztW (by omega) (by omega) h4) (by show 1≤3;omega) (by show 3≤24;omega)]
 have E1:∀ i,i < g.len→e1 m i=e1 g i:=fun i hi=>by
  unfold e1;rw [H.1];exact zfU fun j a c=>E2 i j (by omega) (by omega)
 have H1:∀ i,i < g.len→h1 m i=h1 g i:=fun i hi=>by
  unfold h1;rw [H.1];exact zfU fun j a c=>by
   unfold h2;rw [H.1];exact zfU fun k u v=>H3 i j k (by omega) (by omega) (by omega)
 unfold emp
 rw [H.1,zfU (f:=e1 m) (f':=e1 g) fun i _ c=>E1 i (by omega),zfU (f:=h1 m) (f':=h1 g) fun i _ c=>H1 i (by omega)]
theorem zpJ {n d k x y:Int} (hd:0 < d) (hy:0 < y) (h:red x y=red n d):red ((red x y).Num+k * (red x y).Den) (red x y).Den=red (n+k * d) d:=by
 have p:=zcG (num:=x) hy
 have a:=zdn (num:=n) hd
 have b:=zc6 (num:=n) hd
 rw [h] at p ⊢
 refine (ztI p hd).2 ?_
 generalize red n d=f at *
 generalize (Int.gcd n d:Int)=q at *
 rw [← a,← b];grind
theorem ztX {g m : Sl Gate} (G : zak g) (M : zak m) (nf : ¬ zhh g) (nm : ¬ zhh m) {b t k : Int} (H : Mv b t g m) {F : straight → Frac} (hF : ∀ {g : Sl Gate}, zak g → ∀ s, Cor g s → FOK (F s)) (hden : ∀ s, (F s).Den = s.den)
    (hk:∀ s,(F (phi b t s)).Num=(F s).Num+k * s.den)
    (ext:∀ {g:Sl Gate},zak g→¬ zhh g→∀ {lo hi},Bd g F lo hi→∀ s,0 < s.den→ziB g s→¬ ltF (F s) lo∧¬ ltF hi (F s))
    {lo hi lo' hi':Frac} (B:Bd g F lo hi) (B':Bd m F lo' hi'):lo'=red (lo.Num+k * lo.Den) lo.Den∧hi'=red (hi.Num+k * hi.Den) hi.Den:=by
  have eg:=fun s hd ha=>ext G nf B s hd ha
  have em:=fun s hd ha=>ext M nm B' s hd ha
  obtain ⟨⟨⟨d,hd,e1⟩,_⟩,⟨u,hu,e2⟩,_⟩:=B
  obtain ⟨⟨⟨c,hc,e3⟩,_⟩,⟨v,hv,e4⟩,_⟩:=B'
  have pd:0 < d.den:=by have:=(zck G hd).2.2;omega
  have pu:0 < u.den:=by have:=(zck G hu).2.2;omega
  have pc:0 < c.den:=by have:=(zck M hc).2.2;omega
  have pv:0 < v.den:=by have:=(zck M hv).2.2;omega
  have D:∀ s,0 < s.den→0 < (F s).Den:=fun s h=>by rw [hden];exact h
  -- both ways
  have cross:∀ {x y:straight},0 < x.den→0 < y.den→(F x).Num=(F (phi (-b) (-t) x)).Num+k * x.den:=fun {x y} _ _=>by
    have:=hk (phi (-b) (-t) x)
    rw [zlD] at this;exact this
  have form:∀ {s:straight},0 < s.den→red ((rd_ (F s)).Num+k * (rd_ (F s)).Den) (rd_ (F s)).Den=rd_ (F (phi b t s)):=fun {s} hs=>by
    have e:=zpJ (n:=(F s).Num) (d:=s.den) (k:=k) (x:=(F s).Num) (y:=(F s).Den) hs (D s hs) (by rw [hden])
    have:rd_ (F (phi b t s))=red ((F s).Num+k * s.den) s.den:=by
      show red _ _=_
      rw [hk,hden];rfl
    rw [this];exact e
  constructor
  · rw [← e1, form pd, ← e3]
    have x1:=(em (phi b t d) pd ((zio H d).2 hd.2)).1
    rw [← e3,zlw (D (phi b t d) pd) (D c pc)] at x1
    have x2:=(eg (phi (-b) (-t) c) pc ((zio H _).1 (by rw [zlD];exact hc.2))).1
    rw [← e1,zlw (D (phi (-b) (-t) c) pc) (D d pd)] at x2
    refine zhk (D c pc) (D (phi b t d) pd) (fun h=>x2 ?_) x1
    unfold ltF at h ⊢
    rw [hden,hden,hk,cross pc pd] at h
    rw [hden,hden]
    have e5:(phi b t d).den=d.den:=rfl
    have e6:(phi (-b) (-t) c).den=c.den:=rfl
    rw [e5] at h
    rw [e6]
    grind
  · rw [← e2, form pu, ← e4]
    have x1:=(em (phi b t u) pu ((zio H u).2 hu.2)).2
    rw [← e4,zlv (D v pv) (D (phi b t u) pu)] at x1
    have x2:=(eg (phi (-b) (-t) v) pv ((zio H _).1 (by rw [zlD];exact hv.2))).2
    rw [← e2,zlv (D u pu) (D (phi (-b) (-t) v) pv)] at x2
    refine zhk (D v pv) (D (phi b t u) pu) x1 (fun h=>x2 ?_)
    unfold ltF at h ⊢
    rw [hden,hden,hk,cross pv pu] at h
    rw [hden,hden]
    have e5:(phi b t u).den=u.den:=rfl
    have e6:(phi (-b) (-t) v).den=v.den:=rfl
    rw [e5] at h
    rw [e6]
    grind
theorem zK1 {g:Sl Gate} (G:zak g) (nf : ¬ zhh g) {h:Int} (hz : -200000≤h∧h≤200000) {lo hi:Frac} (B:Bd g (plF h) lo hi) (s:straight) (hd:0 < s.den) (ha:ziB g s) : ¬ ltF (plF h s) lo∧¬ ltF hi (plF h s):=by
 obtain ⟨⟨c,hc,kc⟩,d,hd2,kd⟩:=(lp G.2.1 nf hd ha).1 h
 exact zKX G nf (fun s hs=>zlx (zck G hs) hz) B hd ⟨c,hc,by unfold ltF;simp only;omega⟩ ⟨d,hd2,by unfold ltF;simp only;omega⟩
theorem zK2 {g:Sl Gate} (G:zak g) (nf : ¬ zhh g) {lo hi:Frac} (B:Bd g slF lo hi) (s:straight) (hd:0 < s.den) (ha:ziB g s) : ¬ ltF (slF s) lo∧¬ ltF hi (slF s):=by
 obtain ⟨_,⟨c,hc,kc⟩,d,hd2,kd⟩:=lp G.2.1 nf hd ha
 unfold leS at kc kd
 exact zKX G nf (fun s hs=>zly (zck G hs)) B hd ⟨c,hc,by unfold ltF;simp only;omega⟩ ⟨d,hd2,by unfold ltF;simp only;omega⟩
def shF (k:Int) (f:Frac):Frac:=red (f.Num+k * f.Den) f.Den
theorem zNp {b t:Int} {g m:Sl Gate} (H:Mv b t g m) (G:zak g) (M:zak m) (hs:s21 g=true) {z:Int} (hz : -200000≤z∧z≤200000) (hf:s22 g=true→(g.get 0).Z=z):(s36 m z).1=shF (b+t * z) (s36 g z).1∧(s36 m z).2=shF (b+t * z) (s36 g z).2:=by
 have hsm:=zso H G M
 have hfm:=zsn H G M
 cases e:s22 g
 ·have B := zDz G hs e hz
  have B':=zDz M (by rw [hsm];exact hs) (by rw [hfm];exact e) hz
  exact ztX G M (zb2 G e) (zb2 M (by rw [hfm];exact e)) H (F:=plF z) (fun G s hs=>zlx (zck G hs) hz) (fun _=>rfl) (fun s=>zAi b t s z) (fun G nf _ _ B=>zK1 G nf hz B) B B'
 ·have hl := G.2.1
  have fl:=(zhi g G).2.1 e
  have ez:=hf e
  obtain ⟨a1,⟨i,hi,a2⟩,⟨j,hj,a3⟩⟩:=zAh G
  obtain ⟨b1,⟨u,hu,b2⟩,⟨v,hv,b3⟩⟩:=zAh M
  have hu:u < g.len:=H.1 ▸ hu
  have hv:v < g.len:=H.1 ▸ hv
  have Z:∀ i,i < g.len→(g.get i).Z=z:=fun i hi=>(fl i hi).trans ez
  have mg:∀ i,i < g.len→(m.get i).Low=(g.get i).Low+(b+t * z)∧(m.get i).High=(g.get i).High+(b+t * z):=fun i hi=>by rw [H.2 i hi,Z i hi];exact ⟨rfl,rfl⟩
  have c1:(com m).1=(com g).1+(b+t * z):=by
   have x:=(b1 i (by rw [H.1];exact hi)).1
   rw [(mg i hi).1] at x
   rw [(mg u hu).1] at b2
   have y:=(a1 u hu).1
   omega
  have c2:(com m).2=(com g).2+(b+t * z):=by
   have x:=(b1 j (by rw [H.1];exact hj)).2
   rw [(mg j hj).2] at x
   rw [(mg v hv).2] at b3
   have y:=(a1 v hv).2
   omega
  obtain ⟨k1,k2⟩:=zpF g G
  obtain ⟨l1,l2⟩:=zpF m M
  have val:∀ {g:Sl Gate} (G:zak g),s22 g=true→s36 g z=(red (com g).1 1,red (com g).2 1):=fun {g} G e=>by
   obtain ⟨k1,k2⟩:=zpF g G
   have e1:=(ze7 (num:=(com g).1) (den:=1) (by omega) (by omega) (by omega) (by omega)).2
   have e2:=(ze7 (num:=(com g).2) (den:=1) (by omega) (by omega) (by omega) (by omega)).2
   unfold s36 zkY zsh
   rw [e,(zpE g G).2]
   show (s40 (com g).1 1,s40 (com g).2 1)=_
   rw [e1,e2]
  rw [val G e,val M (by rw [hfm];exact e),c1,c2]
  have sh:∀ x k:Int,red (x+k) 1=shF k (red x 1):=fun x k=>by
   have:=zpJ (n:=x) (d:=1) (k:=k) (x:=x) (y:=1) (by decide) (by decide) rfl
   unfold shF;rw [this];simp
  exact ⟨sh _ _,sh _ _⟩
theorem zNq {b t:Int} {g m:Sl Gate} (H:Mv b t g m) (G:zak g) (M:zak m) (hs:s21 g=true) (e:s22 g=false):(s37 m).1=shF t (s37 g).1∧(s37 m).2=shF t (s37 g).2:=by
 have hsm:=zso H G M
 have hfm:=zsn H G M
 exact ztX G M (zb2 G e) (zb2 M (by rw [hfm];exact e)) H (F:=slF) (fun G s hs=>zly (zck G hs)) (fun _=>rfl) (fun _=>rfl) (fun G nf _ _ B=>zK2 G nf B) (zAd G hs e) (zAd M (by rw [hsm];exact hs) (by rw [hfm];exact e))
theorem zCj {f:Frac} (hf:FOK f) {k:Int} (hk : -1000000≤k∧k≤1000000):p40 (w64 (f.Num+(w64 (k * f.Den)))) (if f.Den > (1:Int) then f.Den else (1:Int))=true∧s40 (w64 (f.Num+(w64 (k * f.Den)))) (if f.Den > (1:Int) then f.Den else (1:Int))=shF k f:=by
 obtain ⟨h1,h2,h3⟩:=hf
 have m:=ziJ (x:=k) (X:=1000000) (y:=f.Den) (Y:=100000) (by omega) (by omega) (by omega) (by omega)
 rw [zaC (x:=k * f.Den) (by omega) (by omega),zaC (x:=f.Num+k * f.Den) (by omega) (by omega),show (if f.Den > (1:Int) then f.Den else (1:Int))=f.Den by split <;> omega]
 exact ze7 (by omega) (by omega) (by omega) (by omega)
theorem zK3 (g:Sl Gate) (G:zak g) (hs:s21 g=true) (e:s22 g=false):FOK (s37 g).1∧FOK (s37 g).2:=zz9 (fun s hs=>zly (zck G hs)) (zAd G hs e)
theorem zQf (t g8:Int) (ht : -5≤t∧t≤5) (s1 s2 u1 u2:Frac) (h:g8=0→FOK s1∧FOK s2∧u1=shF t s1∧u2=shF t s2):znW t g8 s1.Num s1.Den s2.Num s2.Den u1.Num u1.Den u2.Num u2.Den=true∧znV t g8 s1.Num s1.Den s2.Num s2.Den u1.Num u1.Den u2.Num u2.Den=true:=by
 unfold znW znV zks
 cases e:g8 == 0
 ·exact ⟨rfl,rfl⟩
 ·obtain ⟨f1, f2, e1, e2⟩ := h (by simpa using e)
  obtain ⟨a1,a2⟩:=zCj f1 (k:=t) (by omega)
  obtain ⟨b1,b2⟩:=zCj f2 (k:=t) (by omega)
  rw [e1,e2,a1,a2,b1,b2]
  generalize shF t s1=x
  generalize shF t s2=y
  simp only [beq_self_eq_true,Bool.not_true,cond_false,cond_true,decide_true,Bool.and_self,and_self]
theorem zQg (b t z : Int) (hb : -1000 ≤ b ∧ b ≤ 1000) (ht : -5 ≤ t ∧ t ≤ 5) (hz : 0 ≤ z ∧ z ≤ 100000) (e6 g8 : Int) (a1 a2 c1 c2 s1 s2 u1 u2 : Frac) (h6 : e6 = 0 → FOK a1 ∧ FOK a2 ∧ c1 = shF (b + t * z) a1 ∧ c2 = shF (b + t * z) a2) (h : g8 = 0 → FOK s1 ∧ FOK s2 ∧ u1 = shF t s1 ∧ u2 = shF t s2) :
  znY b t z e6 a1.Num a1.Den a2.Num a2.Den c1.Num c1.Den c2.Num c2.Den g8 s1.Num s1.Den s2.Num s2.Den u1.Num u1.Den u2.Num u2.Den=true∧znX b t z e6 a1.Num a1.Den a2.Num a2.Den c1.Num c1.Den c2.Num c2.Den g8 s1.Num s1.Den s2.Num s2.Den u1.Num u1.Den u2.Num u2.Den=true:=by
 obtain ⟨x1,x2⟩:=zQf t g8 ht s1 s2 u1 u2 h
 unfold znY znX zku zkt
 rw [x1,x2]
 cases e:e6 == 0
 ·exact ⟨rfl,rfl⟩
 ·obtain ⟨f1, f2, e1, e2⟩ := h6 (by simpa using e)
  have m:=ziJ (x:=t) (X:=5) (y:=z) (Y:=100000) (by omega) (by omega) (by omega) (by omega)
  obtain ⟨k1,k2⟩:=zCj f1 (k:=b+t * z) (by omega)
  obtain ⟨l1,l2⟩:=zCj f2 (k:=b+t * z) (by omega)
  rw [zaC (x:=t * z) (by omega) (by omega),zaC (x:=b+t * z) (by omega) (by omega),e1,e2,k1,k2,l1,l2]
  generalize shF (b+t * z) a1=x
  generalize shF (b+t * z) a2=y
  simp only [beq_self_eq_true,Bool.not_true,cond_false,cond_true,decide_true,Bool.and_self,and_self]
theorem zAj (g m:Sl Gate) (b t z:Int) (hb : -1000≤b∧b≤1000) (ht : -5≤t∧t≤5) (hz:0≤z∧z≤100000) (H:Mv b t g m) (G:zak g) (M:zak m):ztA g b t z m=true∧ztz g b t z m=true:=by
 have hng:g.len≤9223372036854775807:=by have:=G.2;omega
 have hnm:m.len≤9223372036854775807:=by have:=M.2;omega
 have vg:=(zim g hng).2 G
 have vm:=(zim m hnm).2 M
 have hsm:=zso H G M
 have hfm:=zsn H G M
 have hl:=G.2.1
 obtain ⟨a1,a2⟩:=zDw g hng z
 obtain ⟨b1,b2⟩:=zDw m hnm z
 obtain ⟨c1,c2⟩:=zDx g hng
 obtain ⟨d1,d2⟩:=zDx m hnm
 obtain ⟨x1,x2⟩:=zDD g G
 obtain ⟨y1,y2⟩:=zDD m M
 have zz : -200000≤z∧z≤200000:=by omega
 have z0:(m.get 0).Z=(g.get 0).Z:=by rw [H.2 0 (by omega)]
 rw [zpy,decide_eq_true (show -100000≤z∧z≤200000 by omega),cond_true] at a2 b2
 have eAt:(atR m z).2.2=(atR g z).2.2∧((atR g z).2.2=0→FOK (atR g z).1∧FOK (atR g z).2.1∧(atR m z).1=shF (b+t * z) (atR g z).1∧(atR m z).2.1=shF (b+t * z) (atR g z).2.1):=by
  unfold atR
  rw [vg,vm,hsm,hfm,z0]
  cases hs:s21 g
  ·simp only [Bool.not_true, Bool.not_false, cond_true, cond_false]
   exact ⟨trivial,fun h=>absurd h (by decide)⟩
  ·cases hc : (s22 g && !((g.get 0).Z == z))
   ·have q:=zNp H G M hs zz (fun hf=>by
     rw [hf] at hc
     have:((g.get 0).Z == z)=true:=by simpa using hc
     simpa using this)
    have f:=zHO g G hs zz
    simp only [Bool.not_true,cond_false]
    exact ⟨trivial,fun _=>⟨f.1,f.2,q.1,q.2⟩⟩
   ·simp only [Bool.not_true, cond_true, cond_false]
    exact ⟨trivial,fun h=>absurd h (by decide)⟩
 have eSl:(slR m).2.2=(slR g).2.2∧((slR g).2.2=0→FOK (slR g).1∧FOK (slR g).2.1∧(slR m).1=shF t (slR g).1∧(slR m).2.1=shF t (slR g).2.1):=by
  unfold slR
  rw [vg,vm,hsm,hfm]
  cases hs:s21 g
  ·simp only [Bool.not_true, Bool.not_false, cond_true, cond_false]
   exact ⟨trivial,fun h=>absurd h (by decide)⟩
  ·cases hf : s22 g
   ·have q := zNq H G M hs hf
    have f:=zK3 g G hs hf
    simp only [Bool.not_true,cond_false]
    exact ⟨trivial,fun _=>⟨f.1,f.2,q.1,q.2⟩⟩
   ·simp only [Bool.not_true, cond_true, cond_false]
    exact ⟨trivial,fun h=>absurd h (by decide)⟩
 have em:=zKZ H G M
 have xl:(emp g).1.len≤3:=by
  have r:=(zpI g G).2.2
  have e:znA g=emp g:=by
   have a:=(zpz g hng).2.2 G
   have q:=x2
   unfold s38 znB at q
   rw [a] at q;exact q
  rw [e] at r
  rw [r.1];exact r.2.2
 obtain ⟨o1,o2⟩:=zB8 (emp g).1 (emp g).1 ⟨rfl,fun _ _=>rfl⟩ (by omega)
 unfold ztA ztz zy4 zy3 zy2 zy1 zy0 zyZ zyY zyX zr9 zr8
 rw [a1,a2,b1,b2,c1,c2,d1,d2,x1,x2,y1,y2,em,eAt.1,eSl.1]
 obtain ⟨_,eAt⟩:=eAt
 obtain ⟨_,eSl⟩:=eSl
 obtain ⟨T1,T2⟩:=zQg b t z hb ht hz (atR g z).2.2 (slR g).2.2 (atR g z).1 (atR g z).2.1 (atR m z).1 (atR m z).2.1 (slR g).1 (slR g).2.1 (slR m).1 (slR m).2.1 eAt eSl
 unfold zr7 zr6 zie zid
 rw [T1,T2,o1,o2,bne_self_eq_false,bne_self_eq_false,bne_self_eq_false,bne_self_eq_false]
 simp only [decide_true,Bool.true_and,cond_false,and_self]
theorem zHP (g:Sl Gate) (G:zak g) (hl16:g.len≤16) (b t z:Int) (hb : -1000≤b∧b≤1000) (ht : -5≤t∧t≤5) (hz:0≤z∧z≤100000):∀ (k n i:Nat) (v:Sl Gate),i+k=g.len→k < n→v.len=i→(∀ j,j < i→v.get j=⟨(g.get j).Z,(g.get j).Low+(b+t * (g.get j).Z),(g.get j).High+(b+t * (g.get j).Z)⟩)→zms g b t z n (i:Int) v=true∧zmr g b t z n (i:Int) v=true:=by
 have hl:=G.2
 intro k
 induction k with
 | zero =>
  intro n i v hi hk hv hg
  obtain ⟨n,rfl⟩:∃ x,n=x+1:=⟨n - 1,by omega⟩
  show zmq g b t z (zms g b t z n) (i:Int) v=true∧zmp g b t z (zmr g b t z n) (i:Int) v=true
  have hn:v.len≤9223372036854775807:=by omega
  unfold zmq zmp zy8 zy7 zy6 zy5
  rw [decide_eq_false (show ¬ (i:Int) < (g.len:Int) by omega),cond_false,cond_false,(ztG v hn).1]
  cases e:s20 v
  ·exact ⟨rfl,rfl⟩
  ·obtain ⟨q1, q2⟩ := zAj g v b t z hb ht hz ⟨by omega, fun j hj => hg j (by omega)⟩ G ((zim v hn).1 e)
   rw [q1,q2];exact ⟨rfl,rfl⟩
 | succ k ih =>
  intro n i v hi hk hv hg
  obtain ⟨n,rfl⟩:∃ x,n=x+1:=⟨n - 1,by omega⟩
  have ih:=fun v hv hg=>ih n (i+1) v (by omega) (by omega) hv hg
  show zmq g b t z (zms g b t z n) (i:Int) v=true∧zmp g b t z (zmr g b t z n) (i:Int) v=true
  generalize zms g b t z n=P at ih
  generalize zmr g b t z n=S at ih
  have gi:=G.1 i (by omega)
  have lo:=ze1 gi
  have hi':=zfD gi
  have m:=ziJ (x:=t) (X:=5) (y:=(g.get i).Z) (Y:=100000) (by omega) (by omega) (by have:=gi.1;omega) (by have:=gi.1;omega)
  unfold zmq zmp
  rw [decide_eq_true (show (i:Int) < (g.len:Int) by omega),cond_true,cond_true,decide_eq_true (show 0≤(i:Int)∧(i:Int) < (g.len:Int) by omega),decide_eq_true (show (v.len+1) * 24≤140737488355328∧v.len+1≤9223372036854775807 by omega),Bool.true_and,Bool.true_and,zaD (n:=g.len) (i:=i) (by omega) (by omega),Int.toNat_natCast,
   zaC (x:=t * (g.get i).Z) (by omega) (by omega),zaC (x:=(g.get i).Low+b) (by omega) (by omega),zaC (x:=(g.get i).High+b) (by omega) (by omega),zaC (x:=(g.get i).Low+b+t * (g.get i).Z) (by omega) (by omega),zaC (x:=(g.get i).High+b+t * (g.get i).Z) (by omega) (by omega)]
  refine ih (apL v ⟨(g.get i).Z,(g.get i).Low+b+t * (g.get i).Z,(g.get i).High+b+t * (g.get i).Z⟩) (by show v.len+1=i+1;omega) fun j hj=>?_
  by_cases h:j < v.len
  ·rw [zAe _ _ _ h];exact hg j (by omega)
  ·have e : j = v.len := by omega
   rw [e,zAf,hv,Int.add_assoc,Int.add_assoc]
theorem moved_true (g:Sl Gate) (hn:g.len≤9223372036854775807) (b t z:Int):p7 g b t z=true∧s7 g b t z=true:=by
 have tr:∀ x,zf5 g b t z x=cond x true (ztC g b t z)∧zf4 g b t z x=cond x true (ztB g b t z):=fun _=>⟨rfl,rfl⟩
 unfold p7 s7
 rw [(tr true).1,(tr true).2,(ztG g hn).1,cond_true,cond_true]
 by_cases hl:(g.len:Int) > 16
 ·rw [decide_eq_true hl];exact ⟨rfl,rfl⟩
 cases hv:s20 g
 ·rw [decide_eq_false hl];exact ⟨rfl,rfl⟩
 by_cases h1:b < -1000
 ·rw [decide_eq_false hl,decide_eq_true h1];exact ⟨rfl,rfl⟩
 by_cases h2:b > 1000
 ·rw [decide_eq_false hl,decide_eq_false h1,decide_eq_true h2];exact ⟨rfl,rfl⟩
 by_cases h3:t < -5
 ·rw [decide_eq_false hl,decide_eq_false h1,decide_eq_false h2,decide_eq_true h3];exact ⟨rfl,rfl⟩
 by_cases h4:t > 5
 ·rw [decide_eq_false hl,decide_eq_false h1,decide_eq_false h2,decide_eq_false h3,decide_eq_true h4];exact ⟨rfl,rfl⟩
 by_cases h5:z < 0
 ·rw [decide_eq_false hl,decide_eq_false h1,decide_eq_false h2,decide_eq_false h3,decide_eq_false h4,decide_eq_true h5];exact ⟨rfl,rfl⟩
 rw [decide_eq_false hl,decide_eq_false h1,decide_eq_false h2,decide_eq_false h3,decide_eq_false h4,decide_eq_false h5,(tr _).1,(tr _).2]
 by_cases h6:z > 100000
 ·rw [decide_eq_true h6];exact ⟨rfl,rfl⟩
 rw [decide_eq_false h6]
 have G:=(zim g hn).1 hv
 obtain ⟨q1,q2⟩:=zHP g G (by omega) b t z (by omega) (by omega) (by omega) g.len Fuel 0 zgA (by omega) (by have:=G.2;simp only [Fuel];omega) rfl (fun j hj=>absurd hj (Nat.not_lt_zero j))
 have q1:ztC g b t z=true:=q1
 have q2:ztB g b t z=true:=q2
 rw [q1,q2];exact ⟨rfl,rfl⟩
end Go.Proofs
