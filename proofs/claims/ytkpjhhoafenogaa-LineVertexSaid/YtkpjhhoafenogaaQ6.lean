/- Part 6 of what the proof rests on: a machine that runs functions of the program on pure values, proved sound; the functions that the law reaches, and what they compute. -/
import Derived.Test.YtkpjhhoafenogaaQ5
set_option linter.all false
namespace Go.Proofs
open Go Go.Pm
set_option maxRecDepth 100000
theorem zsv {c:Nat→Bool} {n:Nat} : fst c n < n↔∃ i,i < n∧c i=true:=by
 refine ⟨fun h=>⟨_,h,zBV h⟩,fun ⟨i,hi,hc⟩=>?_⟩
 rcases Nat.lt_or_ge (fst c n) n with h | h
 ·exact h
 ·have := zBU (c := c) (n := n) (j := i) (by omega)
  rw [hc] at this;cases this
def zk2 (g:Sl Gate):Prop:=∀ i,i < g.len→(g.get i).Z=(g.get 0).Z
def zie (g:Sl Gate) (s:straight):Prop:=∀ i,i < g.len→zk1 s (g.get i)=true
def zJR (g:Sl Gate) (s:straight):Prop:=∃ i,i < g.len∧zCK s (g.get i)=true
theorem zsw (g:Sl Gate) (G:zav g):p67 ⟨g⟩=true∧(s67 ⟨g⟩=true↔zk2 g):=by
  have hl:=G.2.2
  have hl1:=G.2.1
  have zDt:∀ x,zDt ⟨g⟩ x=true:=fun x=>by
    unfold zDt
    rw [decide_eq_true (show 0≤(0:Int)∧(0:Int) < ((⟨g⟩:list).Gates.len:Int) from ⟨by omega,by show (0:Int) < (g.len:Int);omega⟩)];rfl
  have := zrR (c := zDs ⟨g⟩) (lpS := ziq ⟨g⟩) (lpP := zir ⟨g⟩)
    (fun k s t i=>by
      show zin ⟨g⟩ (ziq ⟨g⟩ k) s t i=_
      unfold zin zme;rfl)
    (fun k s t i=>by
      show zio ⟨g⟩ (zir ⟨g⟩ k) s t i=_
      unfold zio zmf
      rw [zDt]
      simp only [decide_true,Bool.true_and])
    g (by omega)
  obtain ⟨a,b⟩:=this
  have e:zHU ⟨g⟩ g=true:=a
  have f:zHT ⟨g⟩ g=_:=b
  unfold p67 s67 p99 s99
  show (decide ((decide (zHU ⟨g⟩ g=true) && true)=true) && true)=true∧((!decide (zHT ⟨g⟩ g ≥ 0))=true↔_)
  rw [e,f]
  refine ⟨by simp,?_⟩
  rw [Bool.not_eq_true',decide_eq_false_iff_not]
  by_cases h:fst (fun i=>zDs ⟨g⟩ (g.get i)) g.len < g.len
  · rw [if_pos h]
    obtain ⟨i,hi,hc⟩:=zsv.1 h
    refine ⟨fun k=>absurd (show ((fst (fun i=>zDs ⟨g⟩ (g.get i)) g.len:Nat):Int) ≥ 0 by omega) k,fun k=>?_⟩
    have hc:((g.get i).Z != (g.get 0).Z)=true:=hc
    rw [k i hi] at hc
    simp at hc
  · rw [if_neg h]
    refine ⟨fun _ i hi=>?_,fun _=>by omega⟩
    have:=mt zsv.2 h
    have hc : ¬ ((g.get i).Z != (g.get 0).Z)=true:=fun hc=>this ⟨i,hi,hc⟩
    simpa using hc
theorem zJS (g:Sl Gate) (G:zav g) (v:Sl straight) {x:straight} (S:SOK x):p97 ⟨⟨g⟩,v⟩ x=true∧(s97 ⟨⟨g⟩,v⟩ x=true↔zie g x):=by
  have hl:=G.2.2
  have := zrR (c := zDx x) (lpS := zgG x) (lpP := zgH x)
    (fun k s t i=>by
      show zgE x (zgG x k) s t i=_
      unfold zgE zjr;rfl)
    (fun k s t i=>by
      show zgF x (zgH x k) s t i=_
      unfold zgF zjs;rfl)
    g (by omega)
  obtain ⟨a,b⟩:=this
  have e:zuU x g=true:=a
  have f:zuT x g=_:=b
  unfold p97 s97 zKg zKf
  show (decide ((decide (zuU x g=true) && true)=true) && true)=true∧((!decide (zuT x g ≥ 0))=true↔_)
  rw [e,f]
  refine ⟨by simp,?_⟩
  rw [Bool.not_eq_true',decide_eq_false_iff_not]
  by_cases h:fst (fun i=>zDx x (g.get i)) g.len < g.len
  · rw [if_pos h]
    obtain ⟨i,hi,hc⟩:=zsv.1 h
    refine ⟨fun k=>absurd (show ((fst (fun i=>zDx x (g.get i)) g.len:Nat):Int) ≥ 0 by omega) k,fun k=>?_⟩
    have hc:(!(zDv x (g.get i)))=true:=hc
    rw [zzb S (G.1 i hi),k i hi] at hc
    cases hc
  · rw [if_neg h]
    refine ⟨fun _ i hi=>?_,fun _=>by omega⟩
    have:=mt zsv.2 h
    have hc : ¬ (!(zDv x (g.get i)))=true:=fun hc=>this ⟨i,hi,hc⟩
    rw [← zzb S (G.1 i hi)]
    simpa using hc
theorem zJT {x:straight} (S:SOK x):p79 x=true∧s79 x=toL x:=by
 obtain ⟨S1,S2,S3⟩:=S
 obtain ⟨a1,a2⟩:=zlB (num:=x.slope) (den:=x.den) (by omega) (by omega) (by omega) (by omega)
 obtain ⟨b1,b2⟩:=zlB (num:=x.start) (den:=x.den) (by omega) (by omega) (by omega) (by omega)
 unfold p79 s79 toL
 rw [a1,a2,b1,b2]
 exact ⟨by simp,rfl⟩
-- the reference
theorem zh6 (g:Sl Gate) (G:zav g):p22 g=true∧(s22 g=true↔zk2 g):=by
 have hl:=G.2.2
 have hl1:=G.2.1
 have key:∀ (m k i:Nat),i+m=g.len→m < k→zhz g k (i:Int)=true∧(zhy g k (i:Int)=true↔∀ j,i≤j→j < g.len→(g.get j).Z=(g.get 0).Z):=by
  intro m
  induction m with
  | zero =>
   intro k i hi hk
   obtain ⟨k,rfl⟩:∃ k',k=k'+1:=⟨k - 1,by omega⟩
   show zhx g (zhz g k) _=_∧(zhw g (zhy g k) _=_↔_)
   unfold zhx zhw
   rw [decide_eq_false (show ¬ (i:Int) < (g.len:Int) by omega),cond_false,cond_false]
   exact ⟨rfl,⟨fun _ j a b=>absurd b (by omega),fun _=>rfl⟩⟩
  | succ m ih =>
   intro k i hi hk
   obtain ⟨k,rfl⟩:∃ k',k=k'+1:=⟨k - 1,by omega⟩
   obtain ⟨i1,i2⟩:=ih k (i+1) (by omega) (by omega)
   show zhx g (zhz g k) _=_∧(zhw g (zhy g k) _=_↔_)
   generalize zhz g k=P at i1
   generalize zhy g k=S at i2
   unfold zhx zhw
   rw [decide_eq_true (show (i:Int) < (g.len:Int) by omega),decide_eq_true (show 0≤(i:Int)∧(i:Int) < (g.len:Int) by omega),decide_eq_true (show 0≤(0:Int)∧(0:Int) < (g.len:Int) by omega),cond_true,cond_true,Int.toNat_natCast,zbA (n:=g.len) (by omega) (by omega),i1]
   by_cases hz:(g.get i).Z=(g.get 0).Z
   ·rw [show ((g.get i).Z != (g.get 0).Z) = false by simpa using hz, cond_false, cond_false]
    refine ⟨by simp,i2.trans ⟨fun h j a b=>?_,fun h j a b=>h j (by omega) b⟩⟩
    by_cases hj:j=i
    ·rw [hj];exact hz
    ·exact h j (by omega) b
   ·rw [show ((g.get i).Z != (g.get 0).Z) = true by simpa using hz, cond_true, cond_true]
    exact ⟨by simp,⟨fun h=>(by cases h),fun h=>absurd (h i (Nat.le_refl _) (by omega)) hz⟩⟩
 obtain ⟨a,b⟩:=key (g.len - 1) Fuel 1 (by omega) (by simp only [Fuel];omega)
 refine ⟨a,Iff.trans b ⟨fun h i hi=>?_,fun h j _ hj=>h j hj⟩⟩
 by_cases h0:i=0
 ·rw [h0]
 ·exact h i (by omega) hi
theorem zze (g:Sl Gate) (G:zav g) {x:straight} (S:SOK x):zG3 (toL x) g=true∧(ztt (toL x) g=true↔zJR g x):=by
  have hl:=G.2.2
  have e := zGG (good := fun i => !(zCK x (g.get i))) (bad := true) (fin := false) (finP := true) (n := g.len) (lpS := zgR (toL x) g) (lpP := zgS (toL x) g)
    (fun k i hi=>by
      show zgP (toL x) g (zgR (toL x) g k) (i:Int)=_
      generalize zgR (toL x) g k=F
      unfold zgP zsk
      rw [decide_eq_true (show (i:Int) < (g.len:Int) by omega),cond_true,Int.toNat_natCast,zzd S (G.1 i hi)]
      cases zCK x (g.get i) <;> rfl)
    (fun k=>by
      show zgP (toL x) g (zgR (toL x) g k) (g.len:Int)=_
      unfold zgP
      rw [decide_eq_false (show ¬ (g.len:Int) < (g.len:Int) by omega),cond_false])
    (fun k i hi=>by
      show zgQ (toL x) g (zgS (toL x) g k) (i:Int)=_
      generalize zgS (toL x) g k=F
      unfold zgQ zsl
      rw [decide_eq_true (show (i:Int) < (g.len:Int) by omega),decide_eq_true (show 0≤(i:Int)∧(i:Int) < (g.len:Int) by omega),cond_true,Int.toNat_natCast,zzd S (G.1 i hi),Bool.true_and,Bool.true_and]
      cases zCK x (g.get i) <;> rfl)
    (fun k=>by
      show zgQ (toL x) g (zgS (toL x) g k) (g.len:Int)=_
      unfold zgQ
      rw [decide_eq_false (show ¬ (g.len:Int) < (g.len:Int) by omega),cond_false])
    (by omega)
  by_cases h:∀ i,i < g.len→(!(zCK x (g.get i)))=true
  · obtain ⟨a, b⟩ := e.1 h
    have b:ztt (toL x) g=false:=b
    refine ⟨a,?_⟩
    rw [b]
    refine ⟨fun h=>(by cases h),fun ⟨i,hi,hc⟩=>?_⟩
    have:=h i hi
    rw [hc] at this;cases this
  · obtain ⟨a, b⟩ := e.2 h
    have b:ztt (toL x) g=true:=b
    refine ⟨a,?_⟩
    rw [b]
    refine ⟨fun _=>Classical.byContradiction fun hn=>h fun i hi=>?_,fun _=>rfl⟩
    cases hc:zCK x (g.get i)
    · rfl
    · exact absurd ⟨i,hi,hc⟩ hn
end Go.Proofs
namespace Go.Proofs
open Go Go.Pm
set_option maxRecDepth 100000
def zhS (l:Line):List Int:=[l.Slope.Num,l.Slope.Den,l.Start.Num,l.Start.Den]
theorem zky {a b:Line} (h:zhS a=zhS b):a=b:=by
 unfold zhS at h
 simp only [List.cons.injEq,and_true] at h
 obtain ⟨h1,h2,h3,h4⟩:=h
 obtain ⟨⟨a1,a2⟩,a3,a4⟩:=a
 obtain ⟨⟨b1,b2⟩,b3,b4⟩:=b
 simp only at h1 h2 h3 h4
 rw [h1,h2,h3,h4]
abbrev zif {α:Type} [Inhabited α]:Sl α:=⟨0,fun _=>default⟩
theorem zBw {g:Sl Gate} (h:zk2 g):cst g=[]:=by
 rcases List.eq_nil_or_concat (cst g) with e | ⟨l,x,e⟩
 ·exact e
 ·have : x ∈ cst g := by rw [e]; simp
  obtain ⟨a,b,h1,h2,hz,_⟩:=zza this
  exact absurd ((h a (by omega)).trans (h b h2).symm) hz
theorem zBx (g:Sl Gate):∀ m i,(zzG g m i).length≤4 * g.len * m:=by
 intro m
 induction m with
 | zero=>intro i;exact Nat.le_refl _
 | succ m ih =>
  intro i
  show (zoF g i (g.len - (i+1)) (i+1) ++ zzG g m (i+1)).length≤_
  rw [List.length_append,Nat.mul_succ]
  have:=ih (i+1)
  have:=zsq g i (g.len - (i+1)) (i+1)
  omega
theorem zrh {g:Sl Gate} (G:zav g):(cst g).length≤2304:=by
 have h1:=zBx g g.len 0
 have hl:=G.2.2
 have:4 * g.len * g.len≤4 * 24 * 24:=Nat.mul_le_mul (by omega) hl
 exact Nat.le_trans h1 this
theorem zGJ (g:Sl Gate) (G:zav g):∀ (r acc:List straight) (n:Nat) (F:List Int→Option (List Int)),
    (∀ s∈r,SOK s)→acc.length+r.length≤10000→(∀ c,(zdN (F c) 0 != 0)=true↔∃ x∈acc,zhS (toL x)=c)→acc.Pairwise (fun x y=>toL x ≠ toL y) →
    ∃ C:List straight,ze1 g r (acc.foldl apL zif) n F=true∧ze0 g r (acc.foldl apL zif) n F=⟨⟨g⟩,C.foldl apL zif⟩ ∧
      (∀ s∈C,s∈acc∨(s∈r∧zie g s))∧(∀ s∈acc,s∈C)∧(∀ s∈r,zie g s→∃ x∈C,toL x=toL s)∧C.Pairwise (fun x y=>toL x ≠ toL y):=by
  intro r
  induction r with
  | nil =>
    intro acc n F _ _ _ hp
    exact ⟨acc,rfl,rfl,fun s h=>.inl h,fun s h=>h,(fun s h=>by cases h),hp⟩
  | cons y r ih =>
    intro acc n F hs hl hF hp
    have hs':∀ s∈r,SOK s:=fun s h=>hs s (List.mem_cons_of_mem _ h)
    have Sy:=hs y List.mem_cons_self
    obtain ⟨e1,e2⟩:=zJT Sy
    obtain ⟨a1,a2⟩:=zJS g G (acc.foldl apL zif) Sy
    rw [List.length_cons] at hl
    show ∃ C:List straight,zjw g y (ze1 g r) (acc.foldl apL zif) n F=true∧zjv g y (ze0 g r) (acc.foldl apL zif) n F=_∧_
    unfold zjw zjv
    rw [e1,e2,a1]
    have hcode:([(toL y).Slope.Num,(toL y).Slope.Den,(toL y).Start.Num,(toL y).Start.Den]:List Int)=zhS (toL y):=rfl
    rw [hcode]
    have skip:(∃ C:List straight,ze1 g r (acc.foldl apL zif) n F=true∧ze0 g r (acc.foldl apL zif) n F=⟨⟨g⟩,C.foldl apL zif⟩ ∧
      (∀ s∈C,s∈acc∨(s∈r∧zie g s))∧(∀ s∈acc,s∈C)∧(∀ s∈r,zie g s→∃ x∈C,toL x=toL s)∧C.Pairwise (fun x y=>toL x ≠ toL y)):=ih acc n F hs' (by omega) hF hp
    by_cases h1:(zdN (F (zhS (toL y))) 0 != 0)=true
    · obtain ⟨C, c1, c2, c3, c4, c5, c6⟩ := skip
      rw [h1]
      refine ⟨C,by simp only [decide_true,Bool.true_and,Bool.not_true,cond_false];exact c1,by simp only [Bool.not_true,cond_false];exact c2,fun s h=>(c3 s h).imp id fun k=>⟨List.mem_cons_of_mem _ k.1,k.2⟩,c4,fun s h ha=>?_,c6⟩
      rcases List.mem_cons.1 h with rfl | h
      · obtain ⟨x, hx, hc⟩ := (hF _).1 h1
        exact ⟨x,c4 x hx,zky hc⟩
      · exact c5 s h ha
    · have h1' : (zdN (F (zhS (toL y))) 0 != 0) = false := by simpa using h1
      rw [h1']
      by_cases h2:s97 ⟨⟨g⟩,acc.foldl apL zif⟩ y=true
      · rw [h2]
        have hlen:(acc.foldl apL zif).len=acc.length:=by rw [zcg];simp
        have hfold:(⟨(acc.foldl apL zif).len+1,zd5 (acc.foldl apL zif).len (acc.foldl apL zif).get (fun _=>y)⟩:Sl straight)=(acc ++ [y]).foldl apL zif:=by rw [List.foldl_append];rfl
        rw [hfold,hlen,decide_eq_true (show (acc.length+1) * 24≤140737488355328∧acc.length+1≤9223372036854775807 by omega)]
        obtain ⟨C, c1, c2, c3, c4, c5, c6⟩ := ih (acc ++ [y]) (addN (F (zhS (toL y))) n) (zk4 (zhS (toL y)) [1] F) hs' (by rw [List.length_append]; simp only [List.length_cons, List.length_nil]; omega)
          (fun c=>by
            unfold zk4
            by_cases hc:c=zhS (toL y)
            · rw [decide_eq_true hc]
              exact ⟨fun _=>⟨y,by simp,hc.symm⟩,fun _=>rfl⟩
            · rw [decide_eq_false hc]
              refine (hF c).trans ⟨fun ⟨x,hx,e⟩=>⟨x,List.mem_append.2 (.inl hx),e⟩,fun ⟨x,hx,e⟩=>?_⟩
              rcases List.mem_append.1 hx with hx | hx
              · exact ⟨x,hx,e⟩
              · rw [List.mem_singleton.1 hx] at e;exact absurd e.symm hc)
          (by
            rw [List.pairwise_append]
            refine ⟨hp,List.pairwise_singleton _ _,fun a ha b hb=>?_⟩
            rw [List.mem_singleton.1 hb]
            exact fun e=>h1 ((hF _).2 ⟨a,ha,by rw [e]⟩))
        have hy:y∈C:=c4 y (by simp)
        refine ⟨C,by simp only [decide_true,Bool.true_and,Bool.not_false,cond_true];exact c1,by simp only [Bool.not_false,cond_true];exact c2,fun s h=>?_,fun s h=>c4 s (List.mem_append.2 (.inl h)),fun s h ha=>?_,c6⟩
        · rcases c3 s h with h | h
          · rcases List.mem_append.1 h with h | h
            · exact .inl h
            · rw [List.mem_singleton.1 h];exact .inr ⟨List.mem_cons_self,a2.1 h2⟩
          · exact .inr ⟨List.mem_cons_of_mem _ h.1,h.2⟩
        · rcases List.mem_cons.1 h with rfl | h
          · exact ⟨s,hy,rfl⟩
          · exact c5 s h ha
      · have h2' : s97 ⟨⟨g⟩, acc.foldl apL zif⟩ y = false := by simpa using h2
        rw [h2']
        obtain ⟨C,c1,c2,c3,c4,c5,c6⟩:=skip
        refine ⟨C,by simp only [decide_true,Bool.true_and,Bool.not_false,cond_true,cond_false];exact c1,by simp only [Bool.not_false,cond_true,cond_false];exact c2,fun s h=>(c3 s h).imp id fun k=>⟨List.mem_cons_of_mem _ k.1,k.2⟩,c4,fun s h ha=>?_,c6⟩
        rcases List.mem_cons.1 h with rfl | h
        · exact absurd (a2.2 ha) h2
        · exact c5 s h ha
theorem zsx (g:Sl Gate) (G:zav g):∃ C:List straight,p65 g=true∧s65 g=⟨⟨g⟩,C.foldl apL zif⟩∧(∀ s∈C,s∈cst g∧zie g s)∧(∀ s∈cst g,zie g s→∃ x∈C,toL x=toL s)∧C.Pairwise (fun x y=>toL x ≠ toL y):=by
 obtain ⟨e1,e2⟩:=zsw g G
 obtain ⟨f1,f2⟩:=zGI g G
 unfold p65 s65
 rw [e1]
 by_cases hf:zk2 g
 ·rw [e2.2 hf]
  refine ⟨[],rfl,rfl,(fun s h=>by cases h),fun s h=>?_,List.Pairwise.nil⟩
  rw [zBw hf] at h;cases h
 ·have : s67 ⟨g⟩ = false := by cases h : s67 ⟨g⟩; rfl; exact absurd (e2.1 h) hf
  rw [this]
  unfold zmo zmn zmm zml zmk zpE
  rw [f1,f2]
  obtain ⟨C,c1,c2,c3,_,c5,c6⟩:=zGJ g G (cst g) [] 0 (fun _=>none) (fun s h=>zkx G h) (by have:=zrh G;simp only [List.length_nil];omega) (fun c=>⟨fun h=>by simp [zdN] at h,fun ⟨x,hx,_⟩=>by cases hx⟩) List.Pairwise.nil
  refine ⟨C,by simp only [decide_true,Bool.true_and,cond_false];exact c1,by simp only [cond_false];exact c2,fun s h=>?_,c5,c6⟩
  rcases c3 s h with h | h
  ·cases h
  ·exact h
end Go.Proofs
namespace Go.Proofs
open Go Go.Pm
set_option maxRecDepth 100000
theorem zBy (l:Line) (g:Sl Gate):∀ (m i:Nat) (v:Sl Int),i+m=g.len→v.len≤i→((zhR (addI l g) m i v).len < g.len↔v.len < i∨∃ j,i≤j∧j < g.len∧s72 l (g.get j)=false):=by
 intro m
 induction m with
 | zero =>
  intro i v hi hv
  have:i=g.len:=by omega
  subst this
  exact ⟨fun h=>.inl h,fun h=>h.elim id fun ⟨j,a,b,_⟩=>absurd b (by omega)⟩
 | succ m ih =>
  intro i v hi hv
  show (zhR (addI l g) m (i+1) (addI l g i v)).len < g.len↔_
  rw [ih (i+1) (addI l g i v) (by omega) (zso l g i v hv)]
  unfold addI
  cases h:s72 l (g.get i)
  ·rw [cond_false]
   exact ⟨fun _=>.inr ⟨i,Nat.le_refl _,by omega,h⟩,fun _=>.inl (by omega)⟩
  ·rw [cond_true]
   refine ⟨fun k=>k.imp (fun (k:v.len+1 < i+1)=>by omega) fun ⟨j,a,b,c⟩=>⟨j,by omega,b,c⟩,fun k=>k.imp (fun k=>by show v.len+1 < i+1;omega) fun ⟨j,a,b,c⟩=>⟨j,?_,b,c⟩⟩
   by_cases hj:j=i
   ·rw [hj,h] at c;cases c
   ·omega
theorem znh {g:Sl Gate} (G:zav g) {s:straight} (S:SOK s):p27 (toL s) g=true∧(((s27 (toL s) g).len:Int) < (g.len:Int)↔¬ zie g s):=by
 have hl:=G.2.2
 obtain ⟨a,b⟩:=zJP (toL s) g (by omega)
 refine ⟨a,?_⟩
 rw [b]
 have:=zBy (toL s) g g.len 0 (⟨0,fun _=>default⟩:Sl Int) (by omega) (Nat.le_refl _)
 have e:((zKr (toL s) g).len < g.len↔_):=this
 rw [show (((zKr (toL s) g).len:Int) < (g.len:Int))↔(zKr (toL s) g).len < g.len by omega,e]
 constructor
 ·rintro (h | ⟨j, _, hj, hc⟩)
  ·exact absurd h (by omega)
  ·intro h
   have:=h j hj
   rw [← zsu S (G.1 j hj),hc] at this;cases this
 ·intro h
  refine .inr (Classical.byContradiction fun hn=>h fun i hi=>?_)
  rw [← zsu S (G.1 i hi)]
  cases hc:s72 (toL s) (g.get i)
  ·exact absurd ⟨i,Nat.zero_le _,hi,hc⟩ hn
  ·rfl
theorem zoG {α:Type} (l:List α):∀ (v:Sl α) (i:Nat),i < v.len→(l.foldl apL v).get i=v.get i:=by
 induction l with
 | nil=>intro v i _;rfl
 | cons x l ih =>
  intro v i hi
  rw [List.foldl_cons,ih _ _ (show i < v.len+1 by omega)]
  show zd5 v.len v.get (fun _=>x) i=_
  unfold zd5
  rw [show Nat.ble v.len i=false by rw [← Bool.not_eq_true,Nat.ble_eq];omega]
theorem zgV {α:Type} (l:List α):∀ (v:Sl α) (i:Nat) (x:α),l[i]? = some x→(l.foldl apL v).get (v.len+i)=x:=by
 induction l with
 | nil=>intro v i x h;simp at h
 | cons y l ih =>
  intro v i x h
  rw [List.foldl_cons]
  cases i with
  | zero =>
   have h:some y=some x:=h
   cases h
   rw [zoG _ _ _ (show v.len+0 < v.len+1 by omega)]
   show zd5 v.len v.get (fun _=>y) (v.len+0)=_
   unfold zd5
   rw [show Nat.ble v.len (v.len+0)=true by rw [Nat.ble_eq];omega]
  | succ i =>
   have:=ih (apL v y) i x (by simpa using h)
   rw [← this]
   show _=(l.foldl apL (apL v y)).get (v.len+1+i)
   congr 1;omega
def zk3 (g:Sl Gate) (l:Line):Prop:=∃ s∈cst g,zie g s∧toL s=l
theorem zJU {g:Sl Gate} (G:zav g) {a b:Line} (ha:zk3 g a) (hb:zk3 g b):p81 a b g=true:=by
 obtain ⟨x,hx,_,rfl⟩:=ha
 obtain ⟨y,hy,_,rfl⟩:=hb
 unfold p81 zyA
 rw [(zze g G (zkx G hx)).1,(zze g G (zkx G hy)).1]
 cases (ztt (toL x) g != ztt (toL y) g) <;> simp
def zGK (out:Sl Line) (A:Nat) (x:Line):Sl Line :=
 ⟨(((A:Int) - (0:Int)).toNat+1)+((out.len:Int) - (A:Int)).toNat,(zd5 (((A:Int) - (0:Int)).toNat+1) (zd5 (((A:Int) - (0:Int)).toNat) (fun i=>out.get (i+((0:Int).toNat))) (fun _=>x)) (fun i=>out.get (i+A)))⟩
theorem zni {out:Sl Line} {A:Nat} {x:Line} (h:A≤out.len):(zGK out A x).len=out.len+1:=by
 show (((A:Int) - (0:Int)).toNat+1)+((out.len:Int) - (A:Int)).toNat=_;omega
theorem zhT {out:Sl Line} {A:Nat} {x:Line} (j:Nat):(zGK out A x).get j=if j < A then out.get j else if j=A then x else out.get (j - 1):=by
 have e:((A:Int) - (0:Int)).toNat=A:=by omega
 show zd5 (((A:Int) - (0:Int)).toNat+1) (zd5 (((A:Int) - (0:Int)).toNat) (fun i=>out.get (i+((0:Int).toNat))) (fun _=>x)) (fun i=>out.get (i+A)) j=_
 rw [e]
 unfold zd5
 by_cases h1:A+1≤j
 ·rw [show Nat.ble (A + 1) j = true by rw [Nat.ble_eq]; exact h1, if_neg (by omega), if_neg (by omega)]
  show out.get (j - (A+1)+A)=_
  congr 1;omega
 ·rw [show Nat.ble (A + 1) j = false by rw [← Bool.not_eq_true, Nat.ble_eq]; exact h1]
  by_cases h2:A≤j
  ·have : j = A := by omega
   subst this
   rw [show Nat.ble j j=true by rw [Nat.ble_eq];omega,if_neg (by omega),if_pos rfl]
  ·rw [show Nat.ble A j = false by rw [← Bool.not_eq_true, Nat.ble_eq]; exact h2, if_pos (by omega)]
   rfl
open Classical in
noncomputable def zdX (out:Sl Line) (A:Nat) (x:Line):Sl Line:=if A < out.len∧out.get A=x then out else zGK out A x
theorem zNg (g : Sl Gate) (lv : Sl Line) (i : Nat) (hi : i < lv.len) (hlv : lv.len ≤ 10000) (S1 : Sl Line → Int → Sl Line) (P1 : Sl Line → Int → Bool) (out : Sl Line) (A : Nat) (hA : A ≤ out.len) (ho : out.len ≤ 10000) :
  zm4 P1 g lv out (i:Int) (A:Int)=P1 (zdX out A (lv.get i)) ((i+1:Nat):Int)∧zm3 S1 g lv out (i:Int) (A:Int)=S1 (zdX out A (lv.get i)) ((i+1:Nat):Int):=by
 have w:=zbA (n:=lv.len) hi (by omega)
 have k1:decide (0≤(i:Int)∧(i:Int) < (lv.len:Int))=true:=decide_eq_true (by omega)
 have k2:decide (0≤(0:Int)∧(0:Int)≤(A:Int)∧(A:Int)≤(out.len:Int))=true:=decide_eq_true (by omega)
 have k3:decide (((A:Int) - (0:Int)).toNat * 32≤140737488355328∧((A:Int) - (0:Int)).toNat≤9223372036854775807)=true:=decide_eq_true (by omega)
 have k4:decide ((((A:Int) - (0:Int)).toNat+1) * 32≤140737488355328∧((A:Int) - (0:Int)).toNat+1≤9223372036854775807)=true:=decide_eq_true (by omega)
 have k5:decide (0≤(A:Int)∧(A:Int)≤(out.len:Int)∧(out.len:Int)≤(out.len:Int))=true:=decide_eq_true (by omega)
 have k6:decide (((((A:Int) - (0:Int)).toNat+1)+((out.len:Int) - (A:Int)).toNat) * 32≤140737488355328∧(((A:Int) - (0:Int)).toNat+1)+((out.len:Int) - (A:Int)).toNat≤9223372036854775807)=true:=decide_eq_true (by omega)
 unfold zm4 zm3 zdX
 rw [Int.toNat_natCast,Int.toNat_natCast,k1,k2,k3,k4,k5,k6,w]
 by_cases h1:A < out.len
 ·rw [decide_eq_true (show (A : Int) < (out.len : Int) by omega), decide_eq_true (show 0 ≤ (A : Int) ∧ (A : Int) < (out.len : Int) by omega)]
  by_cases h2:out.get A=lv.get i
  ·rw [if_pos ⟨h1, h2⟩, h2, beq_self_eq_true, beq_self_eq_true, beq_self_eq_true, beq_self_eq_true]
   exact ⟨rfl,rfl⟩
  ·rw [if_neg fun h => h2 h.2]
   have hne : ¬ (((out.get A).Slope.Num == (lv.get i).Slope.Num)=true∧((out.get A).Slope.Den == (lv.get i).Slope.Den)=true∧((out.get A).Start.Num == (lv.get i).Start.Num)=true∧((out.get A).Start.Den == (lv.get i).Start.Den)=true):=by
    rintro ⟨a,b,c,d⟩
    rw [beq_iff_eq] at a b c d
    exact h2 (zky (by unfold zhS;rw [a,b,c,d]))
   generalize ((out.get A).Slope.Num == (lv.get i).Slope.Num)=b1 at hne ⊢
   generalize ((out.get A).Slope.Den == (lv.get i).Slope.Den)=b2 at hne ⊢
   generalize ((out.get A).Start.Num == (lv.get i).Start.Num)=b3 at hne ⊢
   generalize ((out.get A).Start.Den == (lv.get i).Start.Den)=b4 at hne ⊢
   cases b1 <;> cases b2 <;> cases b3 <;> cases b4 <;> first | exact ⟨rfl,rfl⟩ | exact absurd ⟨rfl,rfl,rfl,rfl⟩ hne
 ·rw [if_neg fun h => h1 h.1, decide_eq_false (show ¬ (A : Int) < (out.len : Int) by omega)]
  exact ⟨rfl,rfl⟩
theorem zPf (g : Sl Gate) (G : zav g) (lv : Sl Line) (i : Nat) (hi : i < lv.len) (hlv : lv.len ≤ 10000) (hx : zk3 g (lv.get i)) (S1 : Sl Line → Int → Sl Line) (P1 : Sl Line → Int → Bool) (out : Sl Line) (ho : out.len ≤ 10000) (hM : ∀ j, j < out.len → zk3 g (out.get j)) :
  ∀ (m k a:Nat),a+m=out.len→m < k →
  zke P1 g lv k out (i:Int) (a:Int)=P1 (zdX out (zkO (fun j=>!(s81 (out.get j) (lv.get i) g)) m a) (lv.get i)) ((i+1:Nat):Int) ∧
  zhO S1 g lv k out (i:Int) (a:Int)=S1 (zdX out (zkO (fun j=>!(s81 (out.get j) (lv.get i) g)) m a) (lv.get i)) ((i+1:Nat):Int):=by
 intro m
 induction m with
 | zero =>
  intro k a ha hk
  obtain ⟨k,rfl⟩:∃ k',k=k'+1:=⟨k - 1,by omega⟩
  show zkd P1 g lv (zke P1 g lv k) _ _ _=P1 (zdX out a _) _∧zkc S1 g lv (zhO S1 g lv k) _ _ _=S1 (zdX out a _) _
  unfold zkd zkc
  rw [decide_eq_false (show ¬ (a:Int) < (out.len:Int) by omega),cond_false,cond_false]
  exact zNg g lv i hi hlv S1 P1 out a (by omega) ho
 | succ m ih =>
  intro k a ha hk
  obtain ⟨k,rfl⟩:∃ k',k=k'+1:=⟨k - 1,by omega⟩
  obtain ⟨i1,i2⟩:=ih k (a+1) (by omega) (by omega)
  show zkd P1 g lv (zke P1 g lv k) _ _ _=_∧zkc S1 g lv (zhO S1 g lv k) _ _ _=_
  generalize zke P1 g lv k=P at i1
  generalize zhO S1 g lv k=S at i2
  unfold zkd zkc
  rw [decide_eq_true (show (a:Int) < (out.len:Int) by omega),decide_eq_true (show 0≤(a:Int)∧(a:Int) < (out.len:Int) by omega),decide_eq_true (show 0≤(i:Int)∧(i:Int) < (lv.len:Int) by omega),Int.toNat_natCast,Int.toNat_natCast,zJU G (hM a (by omega)) hx,zbA (n:=out.len) (by omega) (by omega)]
  cases h:s81 (out.get a) (lv.get i) g
  ·rw [zuB (c := fun j => !(s81 (out.get j) (lv.get i) g)) (by show (!(s81 (out.get a) (lv.get i) g)) = true; rw [h]; rfl)]
   exact zNg g lv i hi hlv S1 P1 out a (by omega) ho
  ·rw [zuC (c := fun j => !(s81 (out.get j) (lv.get i) g)) (by show (!(s81 (out.get a) (lv.get i) g)) = false; rw [h]; rfl)]
   exact ⟨i1,i2⟩
end Go.Proofs
namespace Go.Proofs
open Go Go.Pm
set_option maxRecDepth 100000
def Bef (g:Sl Gate) (a b:Line):Prop:=s81 a b g=true
def Tot (g:Sl Gate):Prop:=(∀ a b c,zk3 g a→zk3 g b→zk3 g c→Bef g a b→Bef g b c→Bef g a c)∧∀ a b,zk3 g a→zk3 g b→a ≠ b→Bef g a b∨Bef g b a
def Srt (g:Sl Gate) (v:Sl Line):Prop:=∀ i j,i < j→j < v.len→Bef g (v.get i) (v.get j)
theorem zsy {g:Sl Gate} (G:zav g) {s:straight} (h:s∈cst g):zk3 g (toL s)↔zie g s:=by
 refine ⟨fun ⟨x,hx,ha,e⟩ i hi=>?_,fun ha=>⟨s,h,ha,rfl⟩⟩
 rw [← zsu (zkx G h) (G.1 i hi),← e,zsu (zkx G hx) (G.1 i hi)]
 exact ha i hi
theorem put_mem {g:Sl Gate} {out:Sl Line} {A:Nat} {x:Line} (hA:A≤out.len) (hM:∀ j,j < out.len→zk3 g (out.get j)) (hx:zk3 g x):∀ j,j < (zdX out A x).len→zk3 g ((zdX out A x).get j):=by
 unfold zdX
 by_cases h:A < out.len∧out.get A=x
 ·rw [if_pos h];exact hM
 ·rw [if_neg h]
  intro j hj
  rw [zni hA] at hj
  rw [zhT]
  split
  ·exact hM j (by omega)
  ·split
   ·exact hx
   ·exact hM (j - 1) (by omega)
theorem zGL {out:Sl Line} {A:Nat} {x:Line} (hA:A≤out.len):(∃ j,j < (zdX out A x).len∧(zdX out A x).get j=x)∧∀ j,j < out.len→∃ i,i < (zdX out A x).len∧(zdX out A x).get i=out.get j:=by
 unfold zdX
 by_cases h:A < out.len∧out.get A=x
 ·rw [if_pos h];exact ⟨⟨A,h.1,h.2⟩,fun j hj=>⟨j,hj,rfl⟩⟩
 ·rw [if_neg h, zni hA]
  refine ⟨⟨A,by omega,by rw [zhT,if_neg (by omega),if_pos rfl]⟩,fun j hj=>?_⟩
  by_cases hj2:j < A
  ·exact ⟨j,by omega,by rw [zhT,if_pos hj2]⟩
  ·exact ⟨j+1,by omega,by rw [zhT,if_neg (by omega),if_neg (by omega)];rfl⟩
theorem zGM {out:Sl Line} {A:Nat} {x:Line} (hA:A≤out.len):(zdX out A x).len≤out.len+1:=by
 unfold zdX;split
 ·omega
 ·rw [zni hA];omega
theorem zGN {g : Sl Gate} (T : Tot g) {out : Sl Line} {x : Line} (hM : ∀ j, j < out.len → zk3 g (out.get j)) (hx : zk3 g x) (hs : Srt g out) :
  Srt g (zdX out (zkO (fun j=>!(s81 (out.get j) x g)) out.len 0) x):=by
 have hle:=zBT (fun j=>!(s81 (out.get j) x g)) out.len
 have hlo:∀ j,j < fst (fun j=>!(s81 (out.get j) x g)) out.len→Bef g (out.get j) x:=fun j hj=>by
  have:(!(s81 (out.get j) x g))=false:=zBU (c:=fun j=>!(s81 (out.get j) x g)) hj
  show s81 (out.get j) x g=true
  cases h:s81 (out.get j) x g
  ·rw [h] at this;cases this
  ·rfl
 have hhi:fst (fun j=>!(s81 (out.get j) x g)) out.len < out.len→¬ Bef g (out.get (fst (fun j=>!(s81 (out.get j) x g)) out.len)) x:=fun h hb=>by
  have:(!(s81 (out.get (fst (fun j=>!(s81 (out.get j) x g)) out.len)) x g))=true:=zBV (c:=fun j=>!(s81 (out.get j) x g)) h
  have hb:s81 (out.get (fst (fun j=>!(s81 (out.get j) x g)) out.len)) x g=true:=hb
  rw [hb] at this;cases this
 show Srt g (zdX out (fst (fun j=>!(s81 (out.get j) x g)) out.len) x)
 generalize fst (fun j=>!(s81 (out.get j) x g)) out.len=A at hle hlo hhi ⊢
 unfold zdX
 by_cases h:A < out.len∧out.get A=x
 ·rw [if_pos h];exact hs
 ·rw [if_neg h]
  intro i j hij hj
  rw [zni hle] at hj
  rw [zhT,zhT]
  by_cases j1:j < A
  ·rw [if_pos (show i < A by omega),if_pos j1];exact hs i j hij (by omega)
  ·rw [if_neg j1]
   by_cases j2:j=A
   ·rw [if_pos j2,if_pos (show i < A by omega)];exact hlo i (by omega)
   ·rw [if_neg j2]
    by_cases i1:i < A
    ·rw [if_pos i1];exact hs i (j - 1) (by omega) (by omega)
    ·rw [if_neg i1]
     by_cases i2:i=A
     ·rw [if_pos i2]
      have hA:A < out.len:=by omega
      have b1:Bef g x (out.get A):=(T.2 x (out.get A) hx (hM A hA) (fun e=>h ⟨hA,e.symm⟩)).resolve_right (hhi hA)
      by_cases j3:j - 1=A
      ·rw [j3];exact b1
      ·exact T.1 _ _ _ hx (hM A hA) (hM (j - 1) (by omega)) b1 (hs A (j - 1) (by omega) (by omega))
     ·rw [if_neg i2];exact hs (i - 1) (j - 1) (by omega) (by omega)
structure Inv33 (g : Sl Gate) (lv : Sl Line) (i : Nat) (out : Sl Line) : Prop where
  len:out.len≤i
  mem:∀ j,j < out.len→zk3 g (out.get j)
  has:∀ j,j < i→zk3 g (lv.get j)→∃ a,a < out.len∧out.get a=lv.get j
  srt:Tot g→Srt g out
theorem zMs (g:Sl Gate) (G:zav g) (lv:Sl Line) (hlv:lv.len≤10000) (hc:∀ i,i < lv.len→∃ s∈cst g,lv.get i=toL s):∀ (m k i:Nat) (out:Sl Line),i+m=lv.len→m < k→Inv33 g lv i out →
  zkh g lv k out (i:Int)=true∧Inv33 g lv lv.len (zhP g lv k out (i:Int)):=by
 intro m
 induction m with
 | zero =>
  intro k i out hi hk I
  obtain ⟨k,rfl⟩:∃ k',k=k'+1:=⟨k - 1,by omega⟩
  show zkg g lv (zkh g lv k) _ _=_∧Inv33 g lv lv.len (zkf g lv (zhP g lv k) _ _)
  unfold zkg zkf
  rw [decide_eq_false (show ¬ (i:Int) < (lv.len:Int) by omega),cond_false,cond_false]
  have:i=lv.len:=by omega
  rw [← this]
  exact ⟨rfl,I⟩
 | succ m ih =>
  intro k i out hi hk I
  obtain ⟨k,rfl⟩:∃ k',k=k'+1:=⟨k - 1,by omega⟩
  have ih:=fun out I=>ih k (i+1) out (by omega) (by omega) I
  show zkg g lv (zkh g lv k) _ _=_∧Inv33 g lv lv.len (zkf g lv (zhP g lv k) _ _)
  generalize zkh g lv k=P at ih
  generalize zhP g lv k=S at ih
  obtain ⟨s,hs,es⟩:=hc i (by omega)
  obtain ⟨p1,p2⟩:=znh G (zkx G hs)
  rw [← es] at p1 p2
  unfold zkg zkf zyC zyB
  rw [decide_eq_true (show (i:Int) < (lv.len:Int) by omega),decide_eq_true (show 0≤(i:Int)∧(i:Int) < (lv.len:Int) by omega),Int.toNat_natCast,p1,zbA (n:=lv.len) (by omega) (by omega),cond_true,cond_true]
  by_cases ha:zie g s
  ·rw [decide_eq_false (fun h => p2.1 h ha), cond_false, cond_false]
   have hx:zk3 g (lv.get i):=by rw [es];exact (zsy G hs).2 ha
   have hl:=I.len
   obtain ⟨b1,b2⟩:=zPf g G lv i (by omega) hlv hx S P out (by omega) I.mem out.len Fuel 0 (by omega) (by simp only [Fuel];omega)
   have hA:=zBT (fun j=>!(s81 (out.get j) (lv.get i) g)) out.len
   have I':Inv33 g lv (i+1) (zdX out (zkO (fun j=>!(s81 (out.get j) (lv.get i) g)) out.len 0) (lv.get i)):=by
    refine ⟨Nat.le_trans (zGM hA) (by omega),put_mem hA I.mem hx,fun j hj hm=>?_,fun T=>zGN T I.mem hx (I.srt T)⟩
    obtain ⟨q1,q2⟩:=zGL (out:=out) (x:=lv.get i) hA
    by_cases hji:j=i
    ·rw [hji];exact q1
    ·obtain ⟨a, ha1, ha2⟩ := I.has j (by omega) hm
     obtain ⟨c,hc1,hc2⟩:=q2 a ha1
     exact ⟨c,hc1,hc2.trans ha2⟩
   have:=ih _ I'
   refine ⟨?_,?_⟩
   ·simp only [decide_true,Bool.true_and];exact b1.trans this.1
   ·have e : zhO S g lv Fuel out (i : Int) (0 : Int) = _ := b2
    rw [e];exact this.2
  ·rw [decide_eq_true (p2.2 ha), cond_true, cond_true]
   have I':Inv33 g lv (i+1) out:=by
    refine ⟨by have:=I.len;omega,I.mem,fun j hj hm=>?_,I.srt⟩
    by_cases hji:j=i
    ·rw [hji,es,zsy G hs] at hm;exact absurd hm ha
    ·exact I.has j (by omega) hm
   have:=ih _ I'
   exact ⟨by simp only [decide_true,Bool.true_and];exact this.1,this.2⟩
theorem zoH (g:Sl Gate) (G:zav g):p33 g=true∧(s33 g).len≤2304∧(∀ j,j < (s33 g).len→zk3 g ((s33 g).get j))∧(∀ l,zk3 g l→∃ a,a < (s33 g).len∧(s33 g).get a=l)∧(Tot g→Srt g (s33 g)):=by
  obtain ⟨e1,e2⟩:=zJQ g G
  have hlen:(((cst g).map toL).foldl apL (⟨0,fun _=>default⟩:Sl Line)).len=(cst g).length:=by rw [zcg,List.length_map];simp
  have hget:∀ i s,(cst g)[i]? = some s→(((cst g).map toL).foldl apL (⟨0,fun _=>default⟩:Sl Line)).get i=toL s:=fun i s h=>by
    have:=zgV ((cst g).map toL) (⟨0,fun _=>default⟩:Sl Line) i (toL s) (by rw [List.getElem?_map,h];rfl)
    rw [Nat.zero_add] at this;exact this
  have hc:=zrh G
  obtain ⟨a, I⟩ := zMs g G (((cst g).map toL).foldl apL (⟨0, fun _ => default⟩ : Sl Line)) (by omega)
    (fun i hi=>by
      rw [hlen] at hi
      exact ⟨(cst g)[i],List.getElem_mem _,hget i _ (List.getElem?_eq_getElem hi)⟩)
    (cst g).length Fuel 0 (⟨0,fun _=>default⟩:Sl Line) (by omega) (by simp only [Fuel];omega)
    ⟨Nat.le_refl _,fun j hj=>absurd hj (Nat.not_lt_zero _),fun j hj=>absurd hj (Nat.not_lt_zero _),fun _ i j _ hj=>absurd hj (Nat.not_lt_zero _)⟩
  have es:s33 g=zhP g (((cst g).map toL).foldl apL (⟨0,fun _=>default⟩:Sl Line)) Fuel (⟨0,fun _=>default⟩:Sl Line) (0:Int):=by
    unfold s33;rw [e2];rfl
  have I:Inv33 g (((cst g).map toL).foldl apL (⟨0,fun _=>default⟩:Sl Line)) (((cst g).map toL).foldl apL (⟨0,fun _=>default⟩:Sl Line)).len (s33 g):=by rw [es];exact I
  refine ⟨?_,by have:=I.len;omega,I.mem,fun l ⟨s,hs,ha,e⟩=>?_,I.srt⟩
  · unfold p33
    rw [e1,e2]
    simp only [decide_true,Bool.true_and]
    exact a
  · obtain ⟨i, hi⟩ := List.getElem?_of_mem hs
    have hi2:i < (cst g).length:=(List.getElem?_eq_some_iff.1 hi).1
    have hgi:=hget i s hi
    obtain ⟨b,hb1,hb2⟩:=I.has i (by omega) (by rw [hgi];exact ⟨s,hs,ha,rfl⟩)
    exact ⟨b,hb1,by rw [hb2,hgi,e]⟩
end Go.Proofs
namespace Go.Proofs
open Go Go.Pm
set_option maxRecDepth 100000
def cmS (g:Sl Gate) (i:Nat) (s:Int×Int):Int×Int:=(if (g.get i).Low > s.1 then (g.get i).Low else s.1,if (g.get i).High < s.2 then (g.get i).High else s.2)
def com (g:Sl Gate):Int×Int:=zhR (cmS g) (g.len - 1) 1 ((g.get 0).Low,(g.get 0).High)
theorem zPg (g:Sl Gate) (h:1≤g.len):zhR (cmS g) g.len 0 ((g.get 0).Low,(g.get 0).High)=com g:=by
 obtain ⟨m,hm⟩:∃ m,g.len=m+1:=⟨g.len - 1,by omega⟩
 unfold com
 rw [hm]
 show zhR (cmS g) m 1 (cmS g 0 ((g.get 0).Low,(g.get 0).High))=zhR (cmS g) m 1 _
 have:cmS g 0 ((g.get 0).Low,(g.get 0).High)=((g.get 0).Low,(g.get 0).High):=by
  unfold cmS
  rw [if_neg (by show ¬ (g.get 0).Low > (g.get 0).Low;omega),if_neg (by show ¬ (g.get 0).High < (g.get 0).High;omega)]
 rw [this]
theorem zCL (g:Sl Gate) (G:zav g):p98 ⟨g⟩=true∧s98 ⟨g⟩=⟨(com g).1,(com g).2⟩:=by
  have hl:=G.2
  have := zkv (σ := Int × Int) (step := cmS g) (E := fun s => (⟨s.1, s.2⟩ : Span)) (EP := fun _ => true) (Inv := fun _ _ => True) (a := 0) (n := g.len) (lpS := fun k s i => zhg ⟨g⟩ k i s.1 s.2) (lpP := fun k s i => zhh ⟨g⟩ k i s.1 s.2)
    (fun k i s _ hi _=>by
      show zhe ⟨g⟩ (zhg ⟨g⟩ k) (i:Int) s.1 s.2=_
      generalize zhg ⟨g⟩ k=S
      unfold zhe
      rw [decide_eq_true (show (i:Int) < ((⟨g⟩:list).Gates.len:Int) by show (i:Int) < (g.len:Int);omega),cond_true,Int.toNat_natCast]
      rfl)
    (fun k s=>by
      show zhe ⟨g⟩ (zhg ⟨g⟩ k) (g.len:Int) s.1 s.2=_
      unfold zhe
      rw [decide_eq_false (show ¬ (g.len:Int) < ((⟨g⟩:list).Gates.len:Int) by show ¬ (g.len:Int) < (g.len:Int);omega),cond_false])
    (fun k i s _ hi _=>by
      show zhf ⟨g⟩ (zhh ⟨g⟩ k) (i:Int) s.1 s.2=_
      generalize zhh ⟨g⟩ k=S
      unfold zhf
      rw [decide_eq_true (show (i:Int) < ((⟨g⟩:list).Gates.len:Int) by show (i:Int) < (g.len:Int);omega),decide_eq_true (show 0≤(i:Int)∧(i:Int) < ((⟨g⟩:list).Gates.len:Int) by show 0≤(i:Int)∧(i:Int) < (g.len:Int);omega),cond_true,Bool.true_and,Int.toNat_natCast]
      rfl)
    (fun k s=>by
      show zhf ⟨g⟩ (zhh ⟨g⟩ k) (g.len:Int) s.1 s.2=_
      unfold zhf
      rw [decide_eq_false (show ¬ (g.len:Int) < ((⟨g⟩:list).Gates.len:Int) by show ¬ (g.len:Int) < (g.len:Int);omega),cond_false])
    (fun _ _ _ _ _=>trivial) (Nat.zero_le _) (by omega) ((g.get 0).Low,(g.get 0).High) trivial
  obtain ⟨a,b⟩:=this
  rw [show g.len - 0=g.len from rfl,zPg g hl.1] at b
  refine ⟨?_,b⟩
  unfold p98
  rw [decide_eq_true (show 0≤(0:Int)∧(0:Int) < ((⟨g⟩:list).Gates.len:Int) from ⟨by omega,by show (0:Int) < (g.len:Int);omega⟩),Bool.true_and,Bool.true_and]
  exact a
theorem zzf (g:Sl Gate) (G:zav g):p71 g=true∧s71 g=((com g).1,(com g).2,decide ((com g).1≤(com g).2)):=by
  have hl:=G.2
  have := zkv (σ := Int × Int) (step := cmS g) (E := fun s => (s.1, s.2, decide (s.1 ≤ s.2))) (EP := fun _ => true) (Inv := fun _ _ => True) (a := 1) (n := g.len) (lpS := fun k s i => zkk g k s.1 s.2 i) (lpP := fun k s i => zkl g k s.1 s.2 i)
    (fun k i s _ hi _=>by
      show zki g (zkk g k) s.1 s.2 (i:Int)=_
      generalize zkk g k=S
      unfold zki
      rw [decide_eq_true (show (i:Int) < (g.len:Int) by omega),cond_true,Int.toNat_natCast]
      rfl)
    (fun k s=>by
      show zki g (zkk g k) s.1 s.2 (g.len:Int)=_
      unfold zki
      rw [decide_eq_false (show ¬ (g.len:Int) < (g.len:Int) by omega),cond_false])
    (fun k i s _ hi _=>by
      show zkj g (zkl g k) s.1 s.2 (i:Int)=_
      generalize zkl g k=S
      unfold zkj
      rw [decide_eq_true (show (i:Int) < (g.len:Int) by omega),decide_eq_true (show 0≤(i:Int)∧(i:Int) < (g.len:Int) by omega),cond_true,Bool.true_and,Bool.true_and,Int.toNat_natCast]
      rfl)
    (fun k s=>by
      show zkj g (zkl g k) s.1 s.2 (g.len:Int)=_
      unfold zkj
      rw [decide_eq_false (show ¬ (g.len:Int) < (g.len:Int) by omega),cond_false])
    (fun _ _ _ _ _=>trivial) hl.1 (by omega) ((g.get 0).Low,(g.get 0).High) trivial
  obtain ⟨a,b⟩:=this
  refine ⟨?_,b⟩
  unfold p71
  rw [decide_eq_true (show 0≤(0:Int)∧(0:Int) < (g.len:Int) by omega),Bool.true_and,Bool.true_and]
  exact a
theorem znj (g:Sl Gate) (G:zav g):p66 (s65 g)=true∧p21 g=true∧s66 (s65 g)=s21 g:=by
 obtain ⟨C,_,c2,c3,c4,_⟩:=zsx g G
 obtain ⟨a1,a2⟩:=zsw g G
 obtain ⟨b1,b2⟩:=zCL g G
 obtain ⟨d1,d2⟩:=zzf g G
 obtain ⟨e1,e2⟩:=zh6 g G
 obtain ⟨f1,_,f3,f4,_⟩:=zoH g G
 have h67:s67 ⟨g⟩=s22 g:=Bool.eq_iff_iff.2 (a2.trans e2.symm)
 have hcl:(C.foldl apL (zif:Sl straight)).len=C.length:=by rw [zcg];simp
 rw [c2]
 unfold p66 s66 p21 s21
 show (decide (p98 ⟨g⟩=true) && (decide (p67 ⟨g⟩=true) && true))=true∧_∧cond (s67 ⟨g⟩) (decide ((s98 ⟨g⟩).Low≤(s98 ⟨g⟩).High)) (decide (((C.foldl apL (zif:Sl straight)).len:Int) > 0))=_
 rw [a1,b1,b2,d1,d2,e1,f1,h67,hcl]
 refine ⟨by simp,by cases s22 g <;> simp,?_⟩
 cases s22 g
 ·rw [cond_false, cond_false]
  refine decide_eq_decide.2 ⟨fun h=>?_,fun h=>?_⟩
  ·obtain ⟨x, hx⟩ := List.exists_mem_of_length_pos (l := C) (by omega)
   obtain ⟨a,ha,_⟩:=f4 (toL x) ⟨x,(c3 x hx).1,(c3 x hx).2,rfl⟩
   omega
  ·obtain ⟨s, hs, ha, _⟩ := f3 0 (by omega)
   obtain ⟨x,hx,_⟩:=c4 s hs ha
   have:=List.length_pos_of_mem hx
   omega
 ·rfl
end Go.Proofs
namespace Go.Proofs
open Go Go.Pm
set_option maxRecDepth 100000
def FOK (f:Frac):Prop:=(-1000000000000≤f.Num∧f.Num≤1000000000000)∧1≤f.Den∧f.Den≤100000
def ltF (a b:Frac):Prop:=a.Num * b.Den < b.Num * a.Den
theorem zzg (x y:Int):zDY x y < 0↔x < y:=by
 unfold zDY zDW
 by_cases h:x < y
 ·simp [h]
 ·by_cases h2:x > y <;> simp [h,h2]
theorem zzh (x y:Int):zDY x y > 0↔x > y:=by
 unfold zDY zDW
 by_cases h:x < y
 ·have : ¬ x > y := by omega
  simp [h];omega
 ·by_cases h2:x > y <;> simp [h,h2]
theorem cross {a b:Frac} (ha:FOK a) (hb:FOK b):w64 (a.Num * b.Den)=a.Num * b.Den:=by
 have:=zkI ha.1.1 ha.1.2 (show 0≤b.Den by have:=hb.2;omega) hb.2.2
 exact zaG (by omega) (by omega)
theorem zzi {a b:Frac} (ha:FOK a) (hb:FOK b):zAJ a b=true↔ltF a b:=by
 unfold zAJ s69 ltF
 rw [cross ha hb,cross hb ha,decide_eq_true_eq,zzg]
theorem zzj {a b:Frac} (ha:FOK a) (hb:FOK b):zAK a b=true↔ltF b a:=by
 unfold zAK s69 ltF
 rw [cross ha hb,cross hb ha,decide_eq_true_eq,zzh]
theorem zfg {a b:Frac} (ha:FOK a) (hb:FOK b):s29 a b=true↔ltF a b:=by
 unfold s29 ltF
 rw [cross ha hb,cross hb ha,decide_eq_true_eq]
theorem znk {a b:Frac} (ha:0 < a.Den) (hb:0 < b.Den):ltF (red a.Num a.Den) (red b.Num b.Den)↔ltF a b:=by
 have a1:=zdJ (num:=a.Num) ha
 have a2:=zc9 (num:=a.Num) ha
 have b1:=zdJ (num:=b.Num) hb
 have b2:=zc9 (num:=b.Num) hb
 have ga:=zcd (num:=a.Num) ha
 have gb:=zcd (num:=b.Num) hb
 unfold ltF
 generalize red a.Num a.Den=x at *
 generalize red b.Num b.Den=y at *
 generalize (Int.gcd a.Num a.Den:Int)=G at *
 generalize (Int.gcd b.Num b.Den:Int)=K at *
 have hk:=Int.mul_pos ga gb
 have e1:a.Num * b.Den=(G * K) * (x.Num * y.Den):=by rw [← a1,← b2];ac_rfl
 have e2:b.Num * a.Den=(G * K) * (y.Num * x.Den):=by rw [← b1,← a2];ac_rfl
 rw [e1,e2]
 have:=zgU (x:=y.Num * x.Den) (y:=x.Num * y.Den) hk
 constructor
 ·intro h;exact Int.not_le.1 fun k=>absurd (this.1 k) (by omega)
 ·intro h;exact Int.not_le.1 fun k=>absurd (this.2 k) (by omega)
theorem zhU {f:Frac} (h:FOK f):FOK (red f.Num f.Den):=by
 obtain ⟨h1,h2,h3⟩:=h
 have hd:0 < f.Den:=by omega
 have:=zgf (num:=f.Num) hd
 have:=zkw (num:=f.Num) hd
 have:=zcH (num:=f.Num) hd
 exact ⟨⟨by omega,by omega⟩,by omega,by omega⟩
theorem zoI {a b:Frac} (ha:0 < a.Den) (hb:0 < b.Den) (h1 : ¬ ltF a b) (h2 : ¬ ltF b a):red a.Num a.Den=red b.Num b.Den :=
 (zy9 ha hb).2 (by unfold ltF at h1 h2;omega)
end Go.Proofs
namespace Go.Proofs
open Go Go.Pm
set_option maxRecDepth 100000
theorem zJV {x y X Y:Int} (h1 : -X≤x) (h2:x≤X) (h3 : -Y≤y) (h4:y≤Y) : -(X * Y)≤x * y∧x * y≤X * Y:=by
 rcases Int.le_total 0 y with h | h
 ·exact zkI h1 h2 h h4
 ·have := zkI (x := x) (y := -y) (X := X) (Y := Y) h1 h2 (by omega) (by omega)
  rw [Int.mul_neg] at this
  omega
theorem zh7 {s:straight} (S:SOK s) {z:Int} (hz : -200000≤z∧z≤200000):p28 (toL s) z=true∧s28 (toL s) z=red (plc s z) s.den:=by
 obtain ⟨S1,S2,S3⟩:=S
 have hd:0 < s.den:=by omega
 have g1:=zcd (num:=s.slope) hd
 have g2:=zcd (num:=s.start) hd
 have r1:=zgf (num:=s.slope) hd
 have r2:=zgf (num:=s.start) hd
 have e1:=zdJ (num:=s.slope) hd
 have e2:=zc9 (num:=s.slope) hd
 have e3:=zdJ (num:=s.start) hd
 have e4:=zc9 (num:=s.start) hd
 have p1:=zcH (num:=s.slope) hd
 have p2:=zcH (num:=s.start) hd
 have q1:=zkw (num:=s.slope) hd
 have q2:=zkw (num:=s.start) hd
 unfold p28 s28 zq0 zqZ toL
 simp only
 generalize (red s.slope s.den).Num=a at *
 generalize (red s.slope s.den).Den=b at *
 generalize (red s.start s.den).Num=c at *
 generalize (red s.start s.den).Den=d at *
 generalize (Int.gcd s.slope s.den:Int)=G1 at *
 generalize (Int.gcd s.start s.den:Int)=G2 at *
 obtain ⟨k1,k2⟩:=zCG d b (by omega) (by omega) (by omega)
 have g0:=zcd (num:=d) p1
 obtain ⟨d',hd'⟩:=zNe d b
 obtain ⟨b',hb'⟩:=zNf d b
 rw [k1,k2]
 generalize (Int.gcd d b:Int)=g at *
 have pd:0 < d':=by
  rcases Int.lt_or_le 0 d' with h | h
  ·exact h
  ·have:=Int.mul_le_mul_of_nonneg_left h (Int.le_of_lt g0);rw [← hd',Int.mul_zero] at this;omega
 have pb:0 < b':=by
  rcases Int.lt_or_le 0 b' with h | h
  ·exact h
  ·have:=Int.mul_le_mul_of_nonneg_left h (Int.le_of_lt g0);rw [← hb',Int.mul_zero] at this;omega
 have ld:d'≤d:=by have:=Int.mul_le_mul_of_nonneg_right (show 1≤g by omega) (Int.le_of_lt pd);omega
 have lb:b'≤b:=by have:=Int.mul_le_mul_of_nonneg_right (show 1≤g by omega) (Int.le_of_lt pb);omega
 have t1:d.tdiv g=d':=by rw [hd'];exact Int.mul_tdiv_cancel_left _ (by omega)
 have m1:=zkI (x:=d') (X:=100000) (y:=b) (Y:=100000) (by omega) (by omega) (by omega) (by omega)
 have m2:=Int.mul_pos pd p1
 have t2:(d' * b).tdiv d=b':=by
  have:d' * b=d * b':=by rw [hb',hd'];ac_rfl
  rw [this];exact Int.mul_tdiv_cancel_left _ (by omega)
 have t3:(d' * b).tdiv b=d':=by rw [Int.mul_comm];exact Int.mul_tdiv_cancel_left _ (by omega)
 have m3:=zkI (x:=c) (X:=200000000000) (y:=b') (Y:=100000) (by omega) (by omega) (by omega) (by omega)
 have m4:=zkI (x:=a) (X:=2000000) (y:=d') (Y:=100000) (by omega) (by omega) (by omega) (by omega)
 have m5:=zJV (x:=a * d') (X:=2000000 * 100000) (y:=z) (Y:=200000) (by omega) (by omega) (by omega) (by omega)
 rw [t1,zaG (x:=d') (by omega) (by omega),zaG (x:=d' * b) (by omega) (by omega),t2,t3,zaG (x:=b') (by omega) (by omega),zaG (x:=d') (by omega) (by omega),zaG (x:=c * b') (by omega) (by omega),zaG (x:=a * d') (by omega) (by omega),zaG (x:=a * d' * z) (by omega) (by omega),zaG (x:=c * b'+a * d' * z) (by omega) (by omega)]
 obtain ⟨x1,x2⟩:=zgT (num:=c * b'+a * d' * z) (den:=d' * b) (by omega) (by omega) (by omega) (by omega)
 rw [x1,x2,decide_eq_true (show g ≠ 0 by omega),decide_eq_true (show d ≠ 0 by omega),decide_eq_true (show b ≠ 0 by omega)]
 refine ⟨by simp,(zy9 m2 hd).2 ?_⟩
 unfold plc
 have u1:c * b' * s.den=s.start * (d' * b):=by
  rw [← e3,← e4,hb',hd'];ac_rfl
 have u2:a * d' * z * s.den=s.slope * z * (d' * b):=by
  rw [← e1,← e2];ac_rfl
 rw [Int.add_mul,Int.add_mul,u1,u2]
theorem zcU {a b c:Frac} (ha:0 < a.Den) (hb:0 < b.Den) (hc:0 < c.Den) (h1 : ¬ ltF b a) (h2 : ¬ ltF c b) : ¬ ltF c a:=by
 unfold ltF at *
 intro h3
 -- a ≤ b, b ≤ c, c < a
 have x1:a.Num * b.Den≤b.Num * a.Den:=by omega
 have x2:b.Num * c.Den≤c.Num * b.Den:=by omega
 have y1:=Int.mul_le_mul_of_nonneg_right x1 (Int.le_of_lt hc)
 have y2:=Int.mul_le_mul_of_nonneg_right x2 (Int.le_of_lt ha)
 have y3:=Int.mul_lt_mul_of_pos_right h3 hb
 have z1:b.Num * a.Den * c.Den=b.Num * c.Den * a.Den:=by ac_rfl
 have z2:c.Num * b.Den * a.Den=c.Num * a.Den * b.Den:=by ac_rfl
 have z3:a.Num * b.Den * c.Den=a.Num * c.Den * b.Den:=by ac_rfl
 omega
def zeE (v:Sl Frac) (f:Frac):Prop:=(∃ i,i < v.len∧v.get i=f)∧∀ j,j < v.len→¬ ltF (v.get j) f
def zeF (v:Sl Frac) (f:Frac):Prop:=(∃ i,i < v.len∧v.get i=f)∧∀ j,j < v.len→¬ ltF f (v.get j)
theorem zGO (v:Sl Frac) (h1:1≤v.len) (h2:v.len≤100000) (hv:∀ i,i < v.len→FOK (v.get i)):zGZ v=true∧zeE v (zpH v):=by
  have key:∀ (m k i:Nat) (sl:Sl Frac) (o:Frac),sl.len=v.len - 1→(∀ x,sl.get x=v.get (x+1))→i+m=v.len - 1→m < k→(∃ a,a < v.len∧v.get a=o)→(∀ j,j≤i→¬ ltF (v.get j) o) →
      zfq v k sl (i:Int) o.Num o.Den=true∧zeE v (zfp v k sl (i:Int) o.Num o.Den):=by
    intro m
    induction m with
    | zero =>
      intro k i sl o hs hg hi hk ho hl
      obtain ⟨k,rfl⟩:∃ k',k=k'+1:=⟨k - 1,by omega⟩
      show zfo v (zfq v k) _ _ _ _=_∧zeE v (zfn v (zfp v k) _ _ _ _)
      unfold zfo zfn
      rw [decide_eq_false (show ¬ (i:Int) < (((v.len:Int) - (1:Int)).toNat:Int) by omega),cond_false,cond_false]
      exact ⟨rfl,ho,fun j hj=>hl j (by omega)⟩
    | succ m ih =>
      intro k i sl o hs hg hi hk ho hl
      obtain ⟨k,rfl⟩:∃ k',k=k'+1:=⟨k - 1,by omega⟩
      have ih:=fun o ho hl=>ih k (i+1) sl o hs hg (by omega) (by omega) ho hl
      show zfo v (zfq v k) _ _ _ _=_∧zeE v (zfn v (zfp v k) _ _ _ _)
      generalize zfq v k=P at ih
      generalize zfp v k=S at ih
      unfold zfo zfn zmq zmp
      have ho':=ho
      obtain ⟨a,ha,ea⟩:=ho'
      have fo:FOK o:=ea ▸ hv a ha
      have fx:=hv (i+1) (by omega)
      rw [decide_eq_true (show (i:Int) < (((v.len:Int) - (1:Int)).toNat:Int) by omega),decide_eq_true (show 0≤(i:Int)∧(i:Int) < (sl.len:Int) by omega),cond_true,cond_true,Bool.true_and,Int.toNat_natCast,hg,zbA (n:=v.len) (by omega) (by omega)]
      by_cases hlt:ltF (v.get (i+1)) o
      · rw [show zAJ (v.get (i + 1)) (⟨o.Num, o.Den⟩ : Frac) = true from (zzi fx fo).2 hlt, cond_true, cond_true]
        refine ih (v.get (i+1)) ⟨i+1,by omega,rfl⟩ fun j hj=>?_
        by_cases hji:j=i+1
        · rw [hji];unfold ltF;omega
        · have g1 := hl j (by omega)
          have fj:=hv j (by omega)
          refine zcU (b:=o) (by have:=fx.2;omega) (by have:=fo.2;omega) (by have:=fj.2;omega) ?_ g1
          unfold ltF at hlt ⊢;omega
      · have e:zAJ (v.get (i+1)) (⟨o.Num,o.Den⟩:Frac)=false:=by
          cases h:zAJ (v.get (i+1)) (⟨o.Num,o.Den⟩:Frac)
          · rfl
          · exact absurd ((zzi fx fo).1 h) hlt
        rw [e,cond_false,cond_false]
        refine ih o ho fun j hj=>?_
        by_cases hji:j=i+1
        · rw [hji];exact hlt
        · exact hl j (by omega)
  have hk := key (v.len - 1) Fuel 0 (⟨((v.len : Int) - (1:Int)).toNat, (fun i => v.get (i + ((1:Int).toNat)))⟩ : Sl Frac) (v.get 0) (by show ((v.len : Int) - (1:Int)).toNat = _; omega) (fun _ => rfl) (by omega) (by simp only [Fuel]; omega) ⟨0, by omega, rfl⟩
    (fun j hj => by have : j = 0 := by omega
                    rw [this];unfold ltF;omega)
  refine ⟨?_,hk.2⟩
  unfold zGZ
  rw [decide_eq_true (show 0≤(0:Int)∧(0:Int) < (v.len:Int) by omega),decide_eq_true (show 0≤(1:Int)∧(1:Int)≤(v.len:Int)∧(v.len:Int)≤(v.len:Int) by omega),Bool.true_and,Bool.true_and]
  exact hk.1
end Go.Proofs
namespace Go.Proofs
open Go Go.Pm
set_option maxRecDepth 100000
theorem zBz (v:Sl Frac) (h1:1≤v.len) (h2:v.len≤100000) (hv:∀ i,i < v.len→FOK (v.get i)):zti v=true∧zeF v (s111a v):=by
  have key:∀ (m k i:Nat) (sl:Sl Frac) (o:Frac),sl.len=v.len - 1→(∀ x,sl.get x=v.get (x+1))→i+m=v.len - 1→m < k→(∃ a,a < v.len∧v.get a=o)→(∀ j,j≤i→¬ ltF o (v.get j)) →
      zea v k sl (i:Int) o.Num o.Den=true∧zeF v (zd9 v k sl (i:Int) o.Num o.Den):=by
    intro m
    induction m with
    | zero =>
      intro k i sl o hs hg hi hk ho hl
      obtain ⟨k,rfl⟩:∃ k',k=k'+1:=⟨k - 1,by omega⟩
      show zd8 v (zea v k) _ _ _ _=_∧zeF v (zd7 v (zd9 v k) _ _ _ _)
      unfold zd8 zd7
      rw [decide_eq_false (show ¬ (i:Int) < (((v.len:Int) - (1:Int)).toNat:Int) by omega),cond_false,cond_false]
      exact ⟨rfl,ho,fun j hj=>hl j (by omega)⟩
    | succ m ih =>
      intro k i sl o hs hg hi hk ho hl
      obtain ⟨k,rfl⟩:∃ k',k=k'+1:=⟨k - 1,by omega⟩
      have ih:=fun o ho hl=>ih k (i+1) sl o hs hg (by omega) (by omega) ho hl
      show zd8 v (zea v k) _ _ _ _=_∧zeF v (zd7 v (zd9 v k) _ _ _ _)
      generalize zea v k=P at ih
      generalize zd9 v k=S at ih
      unfold zd8 zd7 zjz zjy
      have ho':=ho
      obtain ⟨a,ha,ea⟩:=ho'
      have fo:FOK o:=ea ▸ hv a ha
      have fx:=hv (i+1) (by omega)
      rw [decide_eq_true (show (i:Int) < (((v.len:Int) - (1:Int)).toNat:Int) by omega),decide_eq_true (show 0≤(i:Int)∧(i:Int) < (sl.len:Int) by omega),cond_true,cond_true,Bool.true_and,Int.toNat_natCast,hg,zbA (n:=v.len) (by omega) (by omega)]
      by_cases hlt:ltF o (v.get (i+1))
      · rw [show zAK (v.get (i + 1)) (⟨o.Num, o.Den⟩ : Frac) = true from (zzj fx fo).2 hlt, cond_true, cond_true]
        refine ih (v.get (i+1)) ⟨i+1,by omega,rfl⟩ fun j hj=>?_
        by_cases hji:j=i+1
        · rw [hji];unfold ltF;omega
        · have g1 := hl j (by omega)
          have fj:=hv j (by omega)
          refine zcU (b:=o) (by have:=fj.2;omega) (by have:=fo.2;omega) (by have:=fx.2;omega) g1 ?_
          unfold ltF at hlt ⊢;omega
      · have e:zAK (v.get (i+1)) (⟨o.Num,o.Den⟩:Frac)=false:=by
          cases h:zAK (v.get (i+1)) (⟨o.Num,o.Den⟩:Frac)
          · rfl
          · exact absurd ((zzj fx fo).1 h) hlt
        rw [e,cond_false,cond_false]
        refine ih o ho fun j hj=>?_
        by_cases hji:j=i+1
        · rw [hji];exact hlt
        · exact hl j (by omega)
  have hk := key (v.len - 1) Fuel 0 (⟨((v.len : Int) - (1:Int)).toNat, (fun i => v.get (i + ((1:Int).toNat)))⟩ : Sl Frac) (v.get 0) (by show ((v.len : Int) - (1:Int)).toNat = _; omega) (fun _ => rfl) (by omega) (by simp only [Fuel]; omega) ⟨0, by omega, rfl⟩
    (fun j hj => by have : j = 0 := by omega
                    rw [this];unfold ltF;omega)
  refine ⟨?_,hk.2⟩
  unfold zti
  rw [decide_eq_true (show 0≤(0:Int)∧(0:Int) < (v.len:Int) by omega),decide_eq_true (show 0≤(1:Int)∧(1:Int)≤(v.len:Int)∧(v.len:Int)≤(v.len:Int) by omega),Bool.true_and,Bool.true_and]
  exact hk.1
theorem zzk {w : Nat → Frac} {n : Nat} (h1 : 1 ≤ n) (hn : n ≤ 100000) (hw : ∀ j, j < n → FOK (w j)) {lpS : Nat → Int → Frac → Frac → Frac × Frac} {lpP : Nat → Int → Frac → Frac → Bool}
    (hS:∀ (k i:Nat) (a b:Frac),i < n→lpS (k+1) (i:Int) a b=lpS k (w64 ((i:Int)+(1:Int))) (cond (s29 (w i) a) (w i) a) (cond (s29 b (w i)) (w i) b))
    (hE:∀ (k:Nat) (a b:Frac),lpS (k+1) (n:Int) a b=(a,b))
    (hP:∀ (k i:Nat) (a b:Frac),i < n→lpP (k+1) (i:Int) a b=lpP k (w64 ((i:Int)+(1:Int))) (cond (s29 (w i) a) (w i) a) (cond (s29 b (w i)) (w i) b))
    (hF:∀ (k:Nat) (a b:Frac),lpP (k+1) (n:Int) a b=true) :
    lpP Fuel (1:Int) (w 0) (w 0)=true∧zeE ⟨n,w⟩ (lpS Fuel (1:Int) (w 0) (w 0)).1∧zeF ⟨n,w⟩ (lpS Fuel (1:Int) (w 0) (w 0)).2:=by
  have key:∀ (m k i:Nat) (a b:Frac),i+m=n→m < k→(∃ j,j < n∧w j=a)→(∃ j,j < n∧w j=b)→(∀ j,j < i→¬ ltF (w j) a)→(∀ j,j < i→¬ ltF b (w j)) →
      lpP k (i:Int) a b=true∧zeE ⟨n,w⟩ (lpS k (i:Int) a b).1∧zeF ⟨n,w⟩ (lpS k (i:Int) a b).2:=by
    intro m
    induction m with
    | zero =>
      intro k i a b hi hk ha hb hl hg
      obtain ⟨k,rfl⟩:∃ k',k=k'+1:=⟨k - 1,by omega⟩
      obtain rfl:i=n:=by omega
      rw [hE,hF]
      exact ⟨rfl,⟨ha,hl⟩,hb,hg⟩
    | succ m ih =>
      intro k i a b hi hk ha hb hl hg
      obtain ⟨k,rfl⟩:∃ k',k=k'+1:=⟨k - 1,by omega⟩
      have hin:i < n:=by omega
      rw [hS k i a b hin,hP k i a b hin,zbA (n:=n) hin (by omega)]
      have fi:=hw i hin
      have fa:FOK a:=by obtain ⟨j,hj,e⟩:=ha;exact e ▸ hw j hj
      have fb:FOK b:=by obtain ⟨j,hj,e⟩:=hb;exact e ▸ hw j hj
      have pi:=fi.2;have pa:=fa.2;have pb:=fb.2
      refine ih k (i+1) _ _ (by omega) (by omega) ?_ ?_ ?_ ?_
      · cases s29 (w i) a
        · exact ha
        · exact ⟨i,hin,rfl⟩
      · cases s29 b (w i)
        · exact hb
        · exact ⟨i,hin,rfl⟩
      · intro j hj
        cases e:s29 (w i) a
        · by_cases hji : j = i
          · rw [hji];intro h;rw [(zfg fi fa).2 h] at e;cases e
          · exact hl j (by omega)
        · have hlt := (zfg fi fa).1 e
          show ¬ ltF (w j) (w i)
          by_cases hji:j=i
          · rw [hji];unfold ltF;omega
          · have fj := (hw j (by omega)).2
            refine zcU (b:=a) (by omega) (by omega) (by omega) ?_ (hl j (by omega))
            unfold ltF at hlt ⊢;omega
      · intro j hj
        cases e:s29 b (w i)
        · by_cases hji : j = i
          · rw [hji];intro h;rw [(zfg fb fi).2 h] at e;cases e
          · exact hg j (by omega)
        · have hlt := (zfg fb fi).1 e
          show ¬ ltF (w i) (w j)
          by_cases hji:j=i
          · rw [hji];unfold ltF;omega
          · have fj := (hw j (by omega)).2
            refine zcU (b:=b) (by omega) (by omega) (by omega) (hg j (by omega)) ?_
            unfold ltF at hlt ⊢;omega
  exact key (n - 1) Fuel 1 (w 0) (w 0) (by omega) (by simp only [Fuel]; omega) ⟨0, by omega, rfl⟩ ⟨0, by omega, rfl⟩
    (fun j hj => by have : j = 0 := by omega
                    rw [this]; unfold ltF; omega) (fun j hj => by have : j = 0 := by omega
                                                                  rw [this];unfold ltF;omega)
abbrev rd_ (f:Frac):Frac:=red f.Num f.Den
theorem ztq {f:Frac} (h:0 < f.Den):rd_ (rd_ f)=rd_ f:=by
 have p:=zcH (num:=f.Num) h
 refine (zy9 p h).2 ?_
 have e1:=zdJ (num:=f.Num) h
 have e2:=zc9 (num:=f.Num) h
 show (red f.Num f.Den).Num * f.Den=f.Num * (red f.Num f.Den).Den
 generalize red f.Num f.Den=x at *
 generalize (Int.gcd f.Num f.Den:Int)=G at *
 rw [← e1,← e2];ac_rfl
theorem zkz {a b:Frac} (ha:0 < a.Den) (hb:0 < b.Den):ltF (rd_ a) b↔ltF a b:=by
 have p:=zcH (num:=a.Num) ha
 have e:red (rd_ a).Num (rd_ a).Den=red a.Num a.Den:=ztq ha
 rw [← znk (a:=rd_ a) (b:=b) p hb,e,znk ha hb]
theorem zkA {a b:Frac} (ha:0 < a.Den) (hb:0 < b.Den):ltF a (rd_ b)↔ltF a b:=by
 have p:=zcH (num:=b.Num) hb
 have e:red (rd_ b).Num (rd_ b).Den=red b.Num b.Den:=ztq hb
 rw [← znk (a:=a) (b:=rd_ b) ha p,e,znk ha hb]
def Cor (g:Sl Gate) (s:straight):Prop:=s∈cst g∧zie g s
def Bd (g:Sl Gate) (F:straight→Frac) (lo hi:Frac):Prop :=
 ((∃ s,Cor g s∧rd_ (F s)=lo)∧∀ s,Cor g s→¬ ltF (F s) lo)∧(∃ s,Cor g s∧rd_ (F s)=hi)∧∀ s,Cor g s→¬ ltF hi (F s)
theorem zzl {g:Sl Gate} {F:straight→Frac} (hF:∀ s,Cor g s→FOK (F s)) {a b c d:Frac} (h1:Bd g F a b) (h2:Bd g F c d):a=c∧b=d:=by
 obtain ⟨⟨⟨s,hs,e1⟩,l1⟩,⟨t,ht,e2⟩,g1⟩:=h1
 obtain ⟨⟨⟨u,hu,e3⟩,l2⟩,⟨v,hv,e4⟩,g2⟩:=h2
 have ps:=(hF s hs).2;have pt:=(hF t ht).2;have pu:=(hF u hu).2;have pv:=(hF v hv).2
 refine ⟨?_,?_⟩
 ·rw [← e1, ← e3]
  refine zoI (by omega) (by omega) ?_ ?_
  ·have:=l2 s hs;rw [← e3,zkA (by omega) (by omega)] at this;exact this
  ·have:=l1 u hu;rw [← e1,zkA (by omega) (by omega)] at this;exact this
 ·rw [← e2, ← e4]
  refine zoI (by omega) (by omega) ?_ ?_
  ·have:=g1 v hv;rw [← e2,zkz (by omega) (by omega)] at this;exact this
  ·have:=g2 t ht;rw [← e4,zkz (by omega) (by omega)] at this;exact this
theorem zJW {g : Sl Gate} {F : straight → Frac} (hF : ∀ s, Cor g s → FOK (F s)) {v : Sl Frac} {lo hi : Frac} (h1 : ∀ i, i < v.len → ∃ s, Cor g s ∧ rd_ (F s) = rd_ (v.get i) ∧ 0 < (v.get i).Den)
    (h2:∀ s,Cor g s→∃ i,i < v.len∧rd_ (F s)=rd_ (v.get i)) (hl:zeE v lo) (hg:zeF v hi):Bd g F (rd_ lo) (rd_ hi):=by
  obtain ⟨⟨i,hi1,ei⟩,l⟩:=hl
  obtain ⟨⟨j,hj1,ej⟩,r⟩:=hg
  obtain ⟨si,ci,ri,pi⟩:=h1 i hi1
  obtain ⟨sj,cj,rj,pj⟩:=h1 j hj1
  refine ⟨⟨⟨si,ci,by rw [ri,ei]⟩,fun s hs=>?_⟩,⟨sj,cj,by rw [rj,ej]⟩,fun s hs=>?_⟩
  · obtain ⟨k, hk, ek⟩ := h2 s hs
    have ps:=(hF s hs).2
    obtain ⟨_,_,_,pk⟩:=h1 k hk
    rw [ei] at pi
    rw [zkA (by omega) pi,← zkz (by omega) pi,ek,zkz pk pi]
    exact l k hk
  · obtain ⟨k, hk, ek⟩ := h2 s hs
    have ps:=(hF s hs).2
    obtain ⟨_,_,_,pk⟩:=h1 k hk
    rw [ej] at pj
    rw [zkz pj (by omega),← zkA pj (by omega),ek,zkA pj pk]
    exact r k hk
end Go.Proofs
namespace Go.Proofs
open Go Go.Pm
set_option maxRecDepth 100000
abbrev plF (z:Int) (s:straight):Frac:=⟨plc s z,s.den⟩
abbrev slF (s:straight):Frac:=⟨s.slope,s.den⟩
theorem zzm {s:straight} (S:SOK s) {z:Int} (hz : -200000≤z∧z≤200000):(-400000000000≤s.slope * z∧s.slope * z≤400000000000)∧-600000000000≤plc s z∧plc s z≤600000000000:=by
 have:=zJV S.1.1 S.1.2 hz.1 hz.2
 have:=S.2.1
 unfold plc
 omega
theorem zkB {s:straight} (S:SOK s) {z:Int} (hz : -200000≤z∧z≤200000):FOK (plF z s) :=
 ⟨⟨by show -1000000000000≤plc s z;have:=zzm S hz;omega,by show plc s z≤1000000000000;have:=zzm S hz;omega⟩,S.2.2⟩
theorem zsz {s:straight} (S:SOK s):FOK (slF s):=⟨⟨by show -1000000000000≤s.slope;have:=S.1;omega,by show s.slope≤1000000000000;have:=S.1;omega⟩,S.2.2⟩
theorem zGP {s:straight} (S:SOK s) {z:Int} (hz : -200000≤z∧z≤200000):zve z s=plF z s:=by
 obtain ⟨a,b⟩:=zzm S hz
 unfold plc at b
 unfold zve zIp plF plc
 rw [zaG (x:=s.slope * z) (by omega) (by omega),zaG (x:=s.start+s.slope * z) (by omega) (by omega)]
theorem zde {g:Sl Gate} (G:zav g) {s:straight} (h:Cor g s):SOK s:=zkx G h.1
abbrev lst {α:Type} [Inhabited α] (l:List α):Sl α:=l.foldl apL zif
theorem zkC {α:Type} [Inhabited α] (l:List α):(lst l).len=l.length:=by
 show (l.foldl apL zif).len=_
 rw [zcg];simp [zif]
theorem znl {α:Type} [Inhabited α] {l:List α} {i:Nat} {x:α} (h:l[i]? = some x):(lst l).get i=x:=by
 have:=zgV l zif i x h
 rw [show (zif:Sl α).len+i=i from Nat.zero_add i] at this;exact this
structure CorL (g : Sl Gate) (C : List straight) : Prop where
  len:C.length≤100000
  mem:∀ s∈C,Cor g s
  all:∀ s,Cor g s→∃ x∈C,toL x=toL s
theorem zzn {g:Sl Gate} {C:List straight} (h:CorL g C):(1≤C.length)↔∃ s,Cor g s:=by
 constructor
 ·intro h1
  match C,h1 with
  | x :: C,_=>exact ⟨x,h.mem x List.mem_cons_self⟩
 ·intro ⟨s, hs⟩
  obtain ⟨x,hx,_⟩:=h.all s hs
  exact List.length_pos_of_mem hx
def frS (F:straight→Frac) (C:List straight):Sl Frac:=lst (C.map F)
theorem zJX {g : Sl Gate} (G : zav g) {C : List straight} (H : CorL g C) {F : straight → Frac} (hF : ∀ s, Cor g s → FOK (F s)) (hc : ∀ x y, Cor g x → Cor g y → toL x = toL y → rd_ (F x) = rd_ (F y)) {lo hi : Frac}
    (hl:zeE (frS F C) lo) (hg:zeF (frS F C) hi):Bd g F (rd_ lo) (rd_ hi):=by
  have get:∀ (i:Nat) (s:straight),C[i]? = some s→(frS F C).get i=F s:=fun i s h=>znl (by rw [List.getElem?_map,h];rfl)
  refine zJW hF (fun i hi=>?_) (fun s hs=>?_) hl hg
  · have hi : i < C.length := by have := zkC (C.map F); rw [List.length_map] at this; exact this ▸ hi
    have e:=List.getElem?_eq_getElem hi
    have m:=H.mem _ (List.getElem_mem hi)
    rw [get i _ e]
    exact ⟨_,m,rfl,by have:=(hF _ m).2;omega⟩
  · obtain ⟨x, hx, ex⟩ := H.all s hs
    obtain ⟨i,hi,rfl⟩:=List.getElem_of_mem hx
    refine ⟨i,?_,?_⟩
    · have:=zkC (C.map F);rw [List.length_map] at this;exact this.symm ▸ hi
    · rw [get i _ (List.getElem?_eq_getElem hi)]
      exact hc _ _ hs (H.mem _ hx) ex.symm
theorem zGQ {g:Sl Gate} (G:zav g) {z:Int} (hz : -200000≤z∧z≤200000) (x y:straight) (hx:Cor g x) (hy:Cor g y) (h:toL x=toL y):rd_ (plF z x)=rd_ (plF z y):=by
 have a:=(zh7 (zde G hx) hz).2
 have b:=(zh7 (zde G hy) hz).2
 show red (plc x z) x.den=red (plc y z) y.den
 rw [← a,← b,h]
theorem zGR {x y:straight} (h:toL x=toL y):rd_ (slF x)=rd_ (slF y):=congrArg Line.Slope h
theorem znm (F:straight→Frac) (C:List straight):(frS F C).len=C.length:=by
 have:=zkC (C.map F);rw [List.length_map] at this;exact this
theorem zGS {g:Sl Gate} {C:List straight} (H:CorL g C) {F:straight→Frac} (hF:∀ s,Cor g s→FOK (F s)):∀ i,i < (frS F C).len→FOK ((frS F C).get i):=by
 intro i hi
 have hi:i < C.length:=znm F C ▸ hi
 have:(frS F C).get i=F C[i]:=znl (by rw [List.getElem?_map,List.getElem?_eq_getElem hi];rfl)
 rw [this]
 exact hF _ (H.mem _ (List.getElem_mem hi))
theorem zzo {g : Sl Gate} (G : zav g) {C : List straight} (H : CorL g C) (h1 : 1 ≤ C.length) {F : straight → Frac} (hF : ∀ s, Cor g s → FOK (F s)) (hc : ∀ x y, Cor g x → Cor g y → toL x = toL y → rd_ (F x) = rd_ (F y)) :
  zmr (frS F C)=true∧Bd g F (zex (frS F C)).1 (zex (frS F C)).2:=by
 have hn:=znm F C
 have hl:=H.len
 have fv:=zGS H hF
 obtain ⟨a1,a2⟩:=zGO (frS F C) (by omega) (by omega) fv
 obtain ⟨b1,b2⟩:=zBz (frS F C) (by omega) (by omega) fv
 have B:=zJX G H hF hc a2 b2
 have fa:FOK (zpH (frS F C)):=by obtain ⟨⟨i,hi,e⟩,_⟩:=a2;exact e ▸ fv i hi
 have fb:FOK (s111a (frS F C)):=by obtain ⟨⟨i,hi,e⟩,_⟩:=b2;exact e ▸ fv i hi
 obtain ⟨fa1,fa2⟩:=fa
 obtain ⟨fb1,fb2⟩:=fb
 obtain ⟨c1,c2⟩:=zlB (num:=(zpH (frS F C)).Num) (den:=(zpH (frS F C)).Den) (by omega) (by omega) (by omega) (by omega)
 obtain ⟨d1,d2⟩:=zlB (num:=(s111a (frS F C)).Num) (den:=(s111a (frS F C)).Den) (by omega) (by omega) (by omega) (by omega)
 unfold zmr zex zpN zpM zpL zpK
 rw [a1,b1,c1,d1]
 refine ⟨by simp,?_⟩
 show Bd g F (s89 _ _) (s89 _ _)
 rw [c2,d2]
 exact B
theorem zzp {F:straight→Frac} {C:List straight} {i:Nat} (hi:i < C.length):frS F (C.take (i+1))=apL (frS F (C.take i)) (F ((lst C).get i)):=by
 have e:=znl (List.getElem?_eq_getElem hi)
 unfold frS
 rw [List.take_succ_eq_append_getElem hi,List.map_append]
 show (List.map F (C.take i) ++ List.map F [C[i]]).foldl apL zif=_
 rw [List.foldl_append]
 show apL (lst (List.map F (List.take i C))) (F C[i])=_
 rw [e]
theorem zJY {g : Sl Gate} (G : zav g) {C : List straight} (H : CorL g C) (h1 : 1 ≤ C.length) {z : Int} (hz : -200000 ≤ z ∧ z ≤ 200000) :
  p82 z ⟨⟨g⟩,lst C⟩=true∧Bd g (plF z) (s82 z ⟨⟨g⟩,lst C⟩).1 (s82 z ⟨⟨g⟩,lst C⟩).2:=by
 have hn:=zkC C
 have hl:=H.len
 obtain ⟨x1,x2⟩:=zzo G H h1 (F:=plF z) (fun s hs=>zkB (zde G hs) hz) (zGQ G hz)
 have key:∀ (m k i:Nat),i+m=C.length→m < k→zhl z ⟨⟨g⟩,lst C⟩ k (i:Int) (frS (plF z) (C.take i))=true∧zhk z ⟨⟨g⟩,lst C⟩ k (i:Int) (frS (plF z) (C.take i))=zex (frS (plF z) C):=by
  intro m
  induction m with
  | zero =>
   intro k i hi hk
   obtain ⟨k,rfl⟩:∃ k',k=k'+1:=⟨k - 1,by omega⟩
   show zhj z ⟨⟨g⟩,lst C⟩ (zhl z ⟨⟨g⟩,lst C⟩ k) (i:Int) _=_∧zhi z ⟨⟨g⟩,lst C⟩ (zhk z ⟨⟨g⟩,lst C⟩ k) (i:Int) _=_
   unfold zhj zhi
   rw [decide_eq_false (show ¬ (i:Int) < (((⟨⟨g⟩,lst C⟩:set).corners.len:Nat):Int) by show ¬ (i:Int) < ((lst C).len:Int);omega),cond_false,cond_false,List.take_of_length_le (by omega)]
   exact ⟨x1,rfl⟩
  | succ m ih =>
   intro k i hi hk
   obtain ⟨k,rfl⟩:∃ k',k=k'+1:=⟨k - 1,by omega⟩
   have ih:=ih k (i+1) (by omega) (by omega)
   have hiC:i < C.length:=by omega
   show zhj z ⟨⟨g⟩,lst C⟩ (zhl z ⟨⟨g⟩,lst C⟩ k) (i:Int) _=_∧zhi z ⟨⟨g⟩,lst C⟩ (zhk z ⟨⟨g⟩,lst C⟩ k) (i:Int) _=_
   generalize zhl z ⟨⟨g⟩,lst C⟩ k=P at ih
   generalize zhk z ⟨⟨g⟩,lst C⟩ k=S at ih
   have so:zve z ((lst C).get i)=plF z ((lst C).get i):=by
    rw [znl (List.getElem?_eq_getElem hiC)]
    exact zGP (zde G (H.mem _ (List.getElem_mem hiC))) hz
   have hv:=znm (plF z) (C.take i)
   rw [List.length_take] at hv
   unfold zhj zhi
   rw [decide_eq_true (show (i:Int) < (((⟨⟨g⟩,lst C⟩:set).corners.len:Nat):Int) by show (i:Int) < ((lst C).len:Int);omega),cond_true,cond_true,
    decide_eq_true (show 0≤(i:Int)∧(i:Int) < (((⟨⟨g⟩,lst C⟩:set).corners.len:Nat):Int) by show 0≤(i:Int)∧(i:Int) < ((lst C).len:Int);omega),Bool.true_and,
    decide_eq_true (show ((frS (plF z) (C.take i)).len+1) * 16≤140737488355328∧(frS (plF z) (C.take i)).len+1≤9223372036854775807 by omega),Bool.true_and,zbA (n:=C.length) hiC (by omega),Int.toNat_natCast]
   have e:=zzp (F:=plF z) hiC
   rw [e] at ih
   show P ((i+1:Nat):Int) (apL (frS (plF z) (C.take i)) (zve z ((lst C).get i)))=true∧S ((i+1:Nat):Int) (apL (frS (plF z) (C.take i)) (zve z ((lst C).get i)))=_
   rw [so]
   exact ih
 have h:=key C.length Fuel 0 (by omega) (by simp only [Fuel];omega)
 have h2:s82 z ⟨⟨g⟩,lst C⟩=zex (frS (plF z) C):=h.2
 exact ⟨h.1,by rw [h2];exact x2⟩
theorem zGT {g : Sl Gate} (G : zav g) {C : List straight} (H : CorL g C) (h1 : 1 ≤ C.length) :
  zKl ⟨⟨g⟩,lst C⟩=true∧Bd g slF (zAS ⟨⟨g⟩,lst C⟩).1 (zAS ⟨⟨g⟩,lst C⟩).2:=by
 have hn:=zkC C
 have hl:=H.len
 obtain ⟨x1,x2⟩:=zzo G H h1 (F:=slF) (fun s hs=>zsz (zde G hs)) (fun _ _ _ _ h=>zGR h)
 have key:∀ (m k i:Nat),i+m=C.length→m < k→zfu ⟨⟨g⟩,lst C⟩ k (i:Int) (frS slF (C.take i))=true∧zft ⟨⟨g⟩,lst C⟩ k (i:Int) (frS slF (C.take i))=zex (frS slF C):=by
  intro m
  induction m with
  | zero =>
   intro k i hi hk
   obtain ⟨k,rfl⟩:∃ k',k=k'+1:=⟨k - 1,by omega⟩
   show zfs ⟨⟨g⟩,lst C⟩ (zfu ⟨⟨g⟩,lst C⟩ k) (i:Int) _=_∧zfr ⟨⟨g⟩,lst C⟩ (zft ⟨⟨g⟩,lst C⟩ k) (i:Int) _=_
   unfold zfs zfr
   rw [decide_eq_false (show ¬ (i:Int) < (((⟨⟨g⟩,lst C⟩:set).corners.len:Nat):Int) by show ¬ (i:Int) < ((lst C).len:Int);omega),cond_false,cond_false,List.take_of_length_le (by omega)]
   exact ⟨x1,rfl⟩
  | succ m ih =>
   intro k i hi hk
   obtain ⟨k,rfl⟩:∃ k',k=k'+1:=⟨k - 1,by omega⟩
   have ih:=ih k (i+1) (by omega) (by omega)
   have hiC:i < C.length:=by omega
   show zfs ⟨⟨g⟩,lst C⟩ (zfu ⟨⟨g⟩,lst C⟩ k) (i:Int) _=_∧zfr ⟨⟨g⟩,lst C⟩ (zft ⟨⟨g⟩,lst C⟩ k) (i:Int) _=_
   generalize zfu ⟨⟨g⟩,lst C⟩ k=P at ih
   generalize zft ⟨⟨g⟩,lst C⟩ k=S at ih
   have hv:=znm slF (C.take i)
   rw [List.length_take] at hv
   unfold zfs zfr
   rw [decide_eq_true (show (i:Int) < (((⟨⟨g⟩,lst C⟩:set).corners.len:Nat):Int) by show (i:Int) < ((lst C).len:Int);omega),cond_true,cond_true,
    decide_eq_true (show 0≤(i:Int)∧(i:Int) < (((⟨⟨g⟩,lst C⟩:set).corners.len:Nat):Int) by show 0≤(i:Int)∧(i:Int) < ((lst C).len:Int);omega),Bool.true_and,
    decide_eq_true (show ((frS slF (C.take i)).len+1) * 16≤140737488355328∧(frS slF (C.take i)).len+1≤9223372036854775807 by omega),Bool.true_and,zbA (n:=C.length) hiC (by omega),Int.toNat_natCast]
   have e:=zzp (F:=slF) hiC
   rw [e] at ih
   exact ih
 have h:=key C.length Fuel 0 (by omega) (by simp only [Fuel];omega)
 have h2:zAS ⟨⟨g⟩,lst C⟩=zex (frS slF C):=h.2
 exact ⟨h.1,by rw [h2];exact x2⟩
end Go.Proofs
namespace Go.Proofs
open Go Go.Pm
set_option maxRecDepth 100000
theorem zdp {g:Sl Gate} {l:Line} : zk3 g l↔∃ s,Cor g s∧toL s=l :=
 ⟨fun ⟨s,h1,h2,h3⟩=>⟨s,⟨h1,h2⟩,h3⟩,fun ⟨s,⟨h1,h2⟩,h3⟩=>⟨s,h1,h2,h3⟩⟩
theorem zCM {g : Sl Gate} (G : zav g) {F : straight → Frac} {w : Nat → Frac} {lo hi : Frac} (hF : ∀ s, Cor g s → FOK (F s)) (hw : ∀ i s, i < (s33 g).len → Cor g s → (s33 g).get i = toL s → w i = rd_ (F s))
    (hl:zeE ⟨(s33 g).len,w⟩ lo) (hg:zeF ⟨(s33 g).len,w⟩ hi):Bd g F lo hi:=by
  obtain ⟨_,_,m1,m2,_⟩:=zoH g G
  have pos:∀ s,Cor g s→0 < (F s).Den:=fun s hs=>by have:=(hF s hs).2;omega
  have hx:∀ i,i < (s33 g).len→∃ s,Cor g s∧w i=rd_ (F s):=fun i hi=>by
    obtain ⟨s,hs,e⟩:=zdp.1 (m1 i hi)
    exact ⟨s,hs,hw i s hi hs e.symm⟩
  have B:=zJW (v:=⟨(s33 g).len,w⟩) hF (fun i hi=>by
      obtain ⟨s,hs,e⟩:=hx i hi
      refine ⟨s,hs,?_,?_⟩
      · show rd_ (F s)=rd_ (w i);rw [e,ztq (pos s hs)]
      · show 0 < (w i).Den;rw [e];exact zcH (pos s hs))
    (fun s hs=>by
      obtain ⟨i,hi,e⟩:=m2 (toL s) (zdp.2 ⟨s,hs,rfl⟩)
      refine ⟨i,hi,?_⟩
      show rd_ (F s)=rd_ (w i)
      rw [hw i s hi hs e,ztq (pos s hs)]) hl hg
  obtain ⟨⟨i,hi1,e1⟩,_⟩:=hl
  obtain ⟨⟨j,hj1,e2⟩,_⟩:=hg
  obtain ⟨s,hs,e3⟩:=hx i hi1
  obtain ⟨t,ht,e4⟩:=hx j hj1
  have f1:rd_ lo=lo:=by rw [← e1];show rd_ (w i)=w i;rw [e3,ztq (pos s hs)]
  have f2:rd_ hi=hi:=by rw [← e2];show rd_ (w j)=w j;rw [e4,ztq (pos t ht)]
  rw [f1,f2] at B
  exact B
theorem zzq {g:Sl Gate} (G:zav g) (hc:∃ s,Cor g s) {z:Int} (hz : -200000≤z∧z≤200000):zq7 g z=true∧Bd g (plF z) (zq6 g z).1 (zq6 g z).2:=by
 obtain ⟨q,hlen,m1,m2,_⟩:=zoH g G
 have hpl:∀ i,i < (s33 g).len→p28 ((s33 g).get i) z=true:=fun i hi=>by
  obtain ⟨s,hs,e⟩:=zdp.1 (m1 i hi)
  rw [← e];exact (zh7 (zde G hs) hz).1
 have hw:∀ i s,i < (s33 g).len→Cor g s→(s33 g).get i=toL s→s28 ((s33 g).get i) z=rd_ (plF z s):=fun i s _ hs e=>by
  rw [e];exact (zh7 (zde G hs) hz).2
 have h1:1≤(s33 g).len:=by
  obtain ⟨s,hs⟩:=hc
  obtain ⟨a,ha,_⟩:=m2 _ (zdp.2 ⟨s,hs,rfl⟩);omega
 have E:=zzk (w:=fun i=>s28 ((s33 g).get i) z) (n:=(s33 g).len) h1 (by omega) (fun j hj=>by
   obtain ⟨s,hs,e⟩:=zdp.1 (m1 j hj)
   show FOK (s28 ((s33 g).get j) z)
   rw [hw j s hj hs e.symm];exact zhU (zkB (zde G hs) hz))
  (lpS:=fun k i a b=>zko z (s33 g) k i a.Num a.Den b.Num b.Den) (lpP:=fun k i a b=>zkp z (s33 g) k i a.Num a.Den b.Num b.Den)
  (fun k i a b hi=>by
   show zkm z (s33 g) (zko z (s33 g) k) (i:Int) a.Num a.Den b.Num b.Den=_
   generalize zko z (s33 g) k=S
   unfold zkm zyH zyF zq4
   rw [decide_eq_true (show (i:Int) < ((s33 g).len:Int) by omega),cond_true,Int.toNat_natCast]
   show cond (s29 (s28 ((s33 g).get i) z) a) (cond (s29 b (s28 ((s33 g).get i) z)) _ _) (cond (s29 b (s28 ((s33 g).get i) z)) _ _)=_
   cases s29 (s28 ((s33 g).get i) z) a <;> cases s29 b (s28 ((s33 g).get i) z) <;> rfl)
  (fun k a b=>by
   show zkm z (s33 g) (zko z (s33 g) k) ((s33 g).len:Int) a.Num a.Den b.Num b.Den=_
   unfold zkm
   rw [decide_eq_false (show ¬ ((s33 g).len:Int) < ((s33 g).len:Int) by omega),cond_false])
  (fun k i a b hi=>by
   show zkn z (s33 g) (zkp z (s33 g) k) (i:Int) a.Num a.Den b.Num b.Den=_
   generalize zkp z (s33 g) k=P
   unfold zkn zyI zyG zq5
   rw [decide_eq_true (show (i:Int) < ((s33 g).len:Int) by omega),cond_true,decide_eq_true (show 0≤(i:Int)∧(i:Int) < ((s33 g).len:Int) by omega),Int.toNat_natCast,hpl i hi,decide_eq_true (show true=true from rfl),Bool.true_and,Bool.true_and]
   show cond (s29 (s28 ((s33 g).get i) z) a) (cond (s29 b (s28 ((s33 g).get i) z)) _ _) (cond (s29 b (s28 ((s33 g).get i) z)) _ _)=_
   cases s29 (s28 ((s33 g).get i) z) a <;> cases s29 b (s28 ((s33 g).get i) z) <;> rfl)
  (fun k a b=>by
   show zkn z (s33 g) (zkp z (s33 g) k) ((s33 g).len:Int) a.Num a.Den b.Num b.Den=_
   unfold zkn
   rw [decide_eq_false (show ¬ ((s33 g).len:Int) < ((s33 g).len:Int) by omega),cond_false])
 obtain ⟨x1,x2,x3⟩:=E
 refine ⟨?_,zCM G (F:=plF z) (fun s hs=>zkB (zde G hs) hz) hw x2 x3⟩
 unfold zq7 zyK zyJ
 rw [q,hpl 0 (by omega),decide_eq_true (show true=true from rfl),decide_eq_true (show 0≤(0:Int)∧(0:Int) < ((s33 g).len:Int) by omega)]
 simp only [Bool.true_and]
 exact x1
theorem zJZ {g:Sl Gate} (G:zav g) (hc:∃ s,Cor g s):p37 g=true∧Bd g slF (s37 g).1 (s37 g).2:=by
 obtain ⟨q,hlen,m1,m2,_⟩:=zoH g G
 have hw:∀ i s,i < (s33 g).len→Cor g s→(s33 g).get i=toL s→((s33 g).get i).Slope=rd_ (slF s):=fun i s _ hs e=>by rw [e];rfl
 have h1:1≤(s33 g).len:=by
  obtain ⟨s,hs⟩:=hc
  obtain ⟨a,ha,_⟩:=m2 _ (zdp.2 ⟨s,hs,rfl⟩);omega
 have E:=zzk (w:=fun i=>((s33 g).get i).Slope) (n:=(s33 g).len) h1 (by omega) (fun j hj=>by
   obtain ⟨s,hs,e⟩:=zdp.1 (m1 j hj)
   show FOK ((s33 g).get j).Slope
   rw [hw j s hj hs e.symm];exact zhU (zsz (zde G hs)))
  (lpS:=fun k i a b=>zks (s33 g) k i a.Num a.Den b.Num b.Den) (lpP:=fun k i a b=>zkt (s33 g) k i a.Num a.Den b.Num b.Den)
  (fun k i a b hi=>by
   show zkq (s33 g) (zks (s33 g) k) (i:Int) a.Num a.Den b.Num b.Den=_
   generalize zks (s33 g) k=S
   unfold zkq zyT zra zyR
   rw [decide_eq_true (show (i:Int) < ((s33 g).len:Int) by omega),cond_true,Int.toNat_natCast]
   show cond (s29 ((s33 g).get i).Slope a) (cond (s29 b ((s33 g).get i).Slope) _ _) (cond (s29 b ((s33 g).get i).Slope) _ _)=_
   cases s29 ((s33 g).get i).Slope a <;> cases s29 b ((s33 g).get i).Slope <;> rfl)
  (fun k a b=>by
   show zkq (s33 g) (zks (s33 g) k) ((s33 g).len:Int) a.Num a.Den b.Num b.Den=_
   unfold zkq
   rw [decide_eq_false (show ¬ ((s33 g).len:Int) < ((s33 g).len:Int) by omega),cond_false])
  (fun k i a b hi=>by
   show zkr (s33 g) (zkt (s33 g) k) (i:Int) a.Num a.Den b.Num b.Den=_
   generalize zkt (s33 g) k=P
   unfold zkr zyU zrb zyS
   rw [decide_eq_true (show (i:Int) < ((s33 g).len:Int) by omega),cond_true,decide_eq_true (show 0≤(i:Int)∧(i:Int) < ((s33 g).len:Int) by omega),Int.toNat_natCast]
   simp only [Bool.true_and]
   show cond (s29 ((s33 g).get i).Slope a) (cond (s29 b ((s33 g).get i).Slope) _ _) (cond (s29 b ((s33 g).get i).Slope) _ _)=_
   cases s29 ((s33 g).get i).Slope a <;> cases s29 b ((s33 g).get i).Slope <;> rfl)
  (fun k a b=>by
   show zkr (s33 g) (zkt (s33 g) k) ((s33 g).len:Int) a.Num a.Den b.Num b.Den=_
   unfold zkr
   rw [decide_eq_false (show ¬ ((s33 g).len:Int) < ((s33 g).len:Int) by omega),cond_false])
 obtain ⟨x1,x2,x3⟩:=E
 refine ⟨?_,zCM G (F:=slF) (fun s hs=>zsz (zde G hs)) hw x2 x3⟩
 unfold p37 zyV
 rw [q,decide_eq_true (show true=true from rfl),decide_eq_true (show 0≤(0:Int)∧(0:Int) < ((s33 g).len:Int) by omega)]
 simp only [Bool.true_and]
 exact x1
theorem zCN (g:Sl Gate) (G:zav g):(-1000000≤(com g).1∧(com g).1≤1000000)∧-1000000≤(com g).2∧(com g).2≤1000000:=by
 have hl:=G.2
 refine zy6 (Inv:=fun _ (s:Int×Int)=>(-1000000≤s.1∧s.1≤1000000)∧-1000000≤s.2∧s.2≤1000000) (n:=g.len) (fun i s hi h=>?_) (g.len - 1) 1 _ (by omega) ⟨zeM (G.1 0 (by omega)),zfA (G.1 0 (by omega))⟩
 have a:=zeM (G.1 i hi)
 have b:=zfA (G.1 i hi)
 unfold cmS
 refine ⟨?_,?_⟩
 ·show -1000000 ≤ (if (g.get i).Low > s.1 then (g.get i).Low else s.1) ∧ _
  split
  ·exact a
  ·exact h.1
 ·show -1000000 ≤ (if (g.get i).High < s.2 then (g.get i).High else s.2) ∧ _
  split
  ·exact b
  ·exact h.2
theorem zoJ {α : Type} [DecidableEq α] : ∀ (l m : List α), l.Nodup → (∀ x ∈ l, x ∈ m) → l.length ≤ m.length
  | [],_,_,_=>Nat.zero_le _
  | x :: l,m,hn,h=>by
    have hx:=h x List.mem_cons_self
    rw [List.nodup_cons] at hn
    have:=zoJ l (m.erase x) hn.2 fun y hy=>(List.mem_erase_of_ne (fun (e:y=x)=>hn.1 (by rw [← e];exact hy))).2 (h y (List.mem_cons_of_mem _ hy))
    rw [List.length_erase_of_mem hx] at this
    have:=List.length_pos_of_mem hx
    rw [List.length_cons];omega
theorem zh8 (g:Sl Gate) (G:zav g):∃ C,p65 g=true∧s65 g=⟨⟨g⟩,lst C⟩∧CorL g C∧(¬ zk2 g→(s21 g=true↔∃ s,Cor g s)):=by
 obtain ⟨C,c1,c2,c3,c4,c5⟩:=zsx g G
 obtain ⟨f1,f2⟩:=zh6 g G
 obtain ⟨q,hlen,m1,m2,_⟩:=zoH g G
 refine ⟨C,c1,c2,⟨?_,fun s hs=>c3 s hs,fun s hs=>c4 s hs.1 hs.2⟩,fun hf=>?_⟩
 ·-- the reference has as many
  have key:∀ (l:List straight),l.Pairwise (fun x y=>toL x ≠ toL y)→(∀ s∈l,s∈cst g)→l.length≤((cst g).map toL).length:=by
   intro l hp hs
   have hn:(l.map fun s=>zhS (toL s)).Nodup:=List.pairwise_map.2 (hp.imp fun h e=>h (zky e))
   have:=zoJ _ ((cst g).map fun s=>zhS (toL s)) hn (fun x hx=>by
    obtain ⟨s,hs1,rfl⟩:=List.mem_map.1 hx
    exact List.mem_map.2 ⟨s,hs s hs1,rfl⟩)
   rw [List.length_map,List.length_map] at this;rw [List.length_map];exact this
  have:=key C c5 (fun s hs=>(c3 s hs).1)
  have:=zrh G
  rw [List.length_map] at *
  omega
 ·have e : s22 g = false := by cases h : s22 g; rfl; exact absurd (f2.1 h) hf
  unfold s21
  rw [e,cond_false,decide_eq_true_eq]
  constructor
  ·intro h
   obtain ⟨s,hs,_⟩:=zdp.1 (m1 0 (by omega))
   exact ⟨s,hs⟩
  ·intro ⟨s, hs⟩
   obtain ⟨a,ha,_⟩:=m2 _ (zdp.2 ⟨s,hs,rfl⟩);omega
theorem znn (g:Sl Gate) (G:zav g):p67 ⟨g⟩=true∧p22 g=true∧s67 ⟨g⟩=s22 g :=
 ⟨(zsw g G).1,(zh6 g G).1,Bool.eq_iff_iff.2 ((zsw g G).2.trans (zh6 g G).2.symm)⟩
theorem zcw {g:Sl Gate} (G:zav g) (h:s22 g=false) : ¬ zk2 g:=fun k=>by rw [(zh6 g G).2.2 k] at h;cases h
theorem zgW (g:Sl Gate) (G:zav g) (hs:s21 g=true) {z:Int} (hz : -200000≤z∧z≤200000):p68 (s65 g) z=true∧p36 g z=true∧s68 (s65 g) z=s36 g z:=by
 obtain ⟨C,c1,c2,H,c4⟩:=zh8 g G
 obtain ⟨f1,f2,f3⟩:=znn g G
 obtain ⟨k1,k2⟩:=zCN g G
 rw [c2]
 unfold p68 s68 p36 s36 zyN znb
 show (decide (p67 ⟨g⟩=true) && cond (s67 ⟨g⟩) (decide (p98 ⟨g⟩=true) && (decide (p89 (s98 ⟨g⟩).Low (1:Int)=true) && (decide (p89 (s98 ⟨g⟩).High (1:Int)=true) && true))) (decide (p82 z ⟨⟨g⟩,lst C⟩=true) && true))=true∧_ ∧
  cond (s67 ⟨g⟩) (s89 (s98 ⟨g⟩).Low (1:Int),s89 (s98 ⟨g⟩).High (1:Int)) ((s82 z ⟨⟨g⟩,lst C⟩).1,(s82 z ⟨⟨g⟩,lst C⟩).2)=_
 rw [f1,f2,f3]
 cases e:s22 g
 ·have hc := (c4 (zcw G e)).1 hs
  obtain ⟨a1,a2⟩:=zJY G H ((zzn H).2 hc) hz
  obtain ⟨b1,b2⟩:=zzq G hc hz
  obtain ⟨u1,u2⟩:=zzl (fun s hs=>zkB (zde G hs) hz) a2 b2
  rw [cond_false,cond_false,cond_false,cond_false,a1,b1,u1,u2]
  exact ⟨by simp,by simp,rfl⟩
 ·obtain ⟨a1, a2⟩ := zCL g G
  obtain ⟨b1,b2⟩:=zzf g G
  obtain ⟨x1,x2⟩:=zlB (num:=(com g).1) (den:=1) (by omega) (by omega) (by omega) (by omega)
  obtain ⟨y1,y2⟩:=zlB (num:=(com g).2) (den:=1) (by omega) (by omega) (by omega) (by omega)
  obtain ⟨u1,u2⟩:=zgT (num:=(com g).1) (den:=1) (by omega) (by omega) (by omega) (by omega)
  obtain ⟨v1,v2⟩:=zgT (num:=(com g).2) (den:=1) (by omega) (by omega) (by omega) (by omega)
  rw [cond_true,cond_true,cond_true,cond_true,a1,a2,b1,b2]
  unfold zyM zyL
  show (decide (true=true) && (decide (true=true) && (decide (p89 (com g).1 1=true) && (decide (p89 (com g).2 1=true) && true))))=true∧(decide (true=true) && (decide (true=true) && (decide (p40 (com g).1 1=true) && (decide (p40 (com g).2 1=true) && true))))=true∧(s89 (com g).1 1,s89 (com g).2 1)=(s40 (com g).1 1,s40 (com g).2 1)
  rw [x1,x2,y1,y2,u1,u2,v1,v2]
  exact ⟨by simp,by simp,rfl⟩
theorem zzr (g:Sl Gate) (G:zav g) (hs:s21 g=true) (hf:s22 g=false):zKl (s65 g)=true∧p37 g=true∧zAS (s65 g)=s37 g:=by
 obtain ⟨C,c1,c2,H,c4⟩:=zh8 g G
 have hc:=(c4 (zcw G hf)).1 hs
 obtain ⟨a1,a2⟩:=zGT G H ((zzn H).2 hc)
 obtain ⟨b1,b2⟩:=zJZ G hc
 obtain ⟨u1,u2⟩:=zzl (fun s hs=>zsz (zde G hs)) a2 b2
 rw [c2]
 exact ⟨a1,b1,Prod.ext u1 u2⟩
end Go.Proofs
namespace Go.Proofs
open Go Go.Pm
set_option maxRecDepth 100000
abbrev zF:Frac:=⟨0,0⟩
abbrev nS:set:=⟨⟨⟨0,fun _=>default⟩⟩,⟨0,fun _=>default⟩⟩
theorem zgg (g:Sl Gate) (hn:g.len≤9223372036854775807):s20 g=true↔zav g:=(zsn g hn).2
theorem zJ0 (g:Sl Gate) (G:zav g):(p75 g=true∧s75 g=cond (!(s21 g)) (nS,5) (cond (s22 g) (nS,6) (s65 g,0))) ∧
  (∀ z,zEs z g=true∧zoL z g=cond (!(s21 g)) (nS,5) (cond (s22 g) (cond (!((g.get 0).Z == z)) (nS,6) (s65 g,0)) (s65 g,0)))∧(zG2 g=true∧zzE g=cond (!(s21 g)) (nS,5) (s65 g,0)):=by
 have hl:=G.2
 obtain ⟨v1,v2⟩:=zoD g (by omega)
 have v2:=v2.2 G
 obtain ⟨q1,q2,q3⟩:=znj g G
 obtain ⟨C,c1,c2,_⟩:=zh8 g G
 obtain ⟨f1,f2,f3⟩:=znn g G
 have el:(s65 g).list=⟨g⟩:=by rw [c2]
 refine ⟨?_,fun z=>?_,?_⟩
 ·unfold p75 s75 zp3 zp2
  rw [v1,v2,c1,q1,q3,el,f1,f3]
  simp only [decide_true,Bool.true_and,Bool.not_true,cond_false]
  cases s21 g <;> cases s22 g <;> exact ⟨rfl,rfl⟩
 ·unfold zEs zoL zmD zmC
  rw [v1,v2,c1,q1,q3,el,f1,f3,show p76 z ⟨g⟩=true by unfold p76;rw [decide_eq_true (show 0≤(0:Int)∧(0:Int) < ((⟨g⟩:list).Gates.len:Int) by show 0≤(0:Int)∧(0:Int) < (g.len:Int);omega)];rfl]
  simp only [decide_true,Bool.true_and,Bool.not_true,cond_false]
  cases s21 g <;> cases s22 g <;> exact ⟨rfl,rfl⟩
 ·unfold zG2 zzE zmF zmE
  rw [v1,v2,c1,q1,q3,el,f1,f3]
  simp only [decide_true,Bool.true_and,Bool.not_true,cond_false]
  cases s21 g <;> cases s22 g <;> exact ⟨rfl,rfl⟩
theorem zGU (g:Sl Gate) (hn:g.len≤9223372036854775807) (h:s20 g=false):(p75 g=true∧s75 g=(nS,2))∧(∀ z,zEs z g=true∧zoL z g=(nS,2))∧(zG2 g=true∧zzE g=(nS,2)):=by
 obtain ⟨v1,_⟩:=zoD g hn
 have v2:s64 g=false:=by rw [zy4 g hn];exact h
 unfold p75 s75 zEs zoL zG2 zzE
 rw [v1,v2]
 exact ⟨⟨rfl,rfl⟩,fun _=>⟨rfl,rfl⟩,rfl,rfl⟩
def atR (g:Sl Gate) (z:Int):Frac×Frac×Int:=cond (!(s20 g)) (zF,zF,2) (cond (!(s21 g)) (zF,zF,5) (cond (s22 g && !((g.get 0).Z == z)) (zF,zF,6) ((s36 g z).1,(s36 g z).2,0)))
theorem zzs (g:Sl Gate) (hn:g.len≤9223372036854775807) (z:Int):p30 g z=true∧s30 g z=cond (s74 z (-100000) 200000) (atR g z) (zF,zF,2):=by
 unfold p30 s30 zqf zqe
 cases hz:s74 z (-100000) 200000
 ·exact ⟨rfl,rfl⟩
 ·rw [zoC, decide_eq_true_eq] at hz
  simp only [Bool.not_true,cond_false,cond_true]
  unfold zqd zqc atR
  cases hv:s20 g
  ·obtain ⟨_, b, _⟩ := zGU g hn hv
   obtain ⟨b1,b2⟩:=b z
   rw [b1,b2]
   exact ⟨rfl,rfl⟩
  ·have G := (zgg g hn).1 hv
   obtain ⟨_,b,_⟩:=zJ0 g G
   obtain ⟨b1,b2⟩:=b z
   rw [b1,b2]
   cases hs:s21 g
   ·exact ⟨rfl,rfl⟩
   ·obtain ⟨x1, x2, x3⟩ := zgW g G hs (z := z) (by omega)
    have fin:∀ e,zmJ z (s65 g,e).2 (s65 g).list.Gates (s65 g).corners=cond (e != 0) true true∧zmI z (s65 g,e).2 (s65 g).list.Gates (s65 g).corners=cond (e != 0) (zF,zF,e) ((s36 g z).1,(s36 g z).2,0):=fun e=>by
     unfold zmJ zmI zqb zqa zp9
     have:(⟨⟨(s65 g).list.Gates⟩,(s65 g).corners⟩:set)=s65 g:=rfl
     rw [this,x1,x3]
     exact ⟨rfl,rfl⟩
    cases hf:s22 g
    ·exact fin 0
    ·cases he : (g.get 0).Z == z
     ·exact ⟨rfl,rfl⟩
     ·exact fin 0
theorem zCO (g:Sl Gate) (G:zav g):p21 g=true∧p22 g=true∧(s21 g=true→∀ z,-200000≤z∧z≤200000→p36 g z=true)∧(s21 g=true→s22 g=false→p37 g=true) :=
 ⟨(znj g G).2.1,(zh6 g G).1,fun hs z hz=>(zgW g G hs hz).2.1,fun hs hf=>(zzr g G hs hf).2.1⟩
end Go.Proofs
namespace Go.Proofs
open Go Go.Pm
set_option maxRecDepth 100000
theorem zJ1 {a b:Frac} (ha:FOK a) (hb:FOK b):decide (s69 a b < 0)=s29 a b:=by
 have e:s69 a b < 0↔ltF a b:=by unfold s69 ltF;rw [cross ha hb,cross hb ha,zzg]
 cases h:s29 a b
 ·exact decide_eq_false fun k=>by rw [(zfg ha hb).2 (e.1 k)] at h;cases h
 ·exact decide_eq_true (e.2 ((zfg ha hb).1 h))
theorem zCP {a b:Frac} (ha:FOK a) (hb:FOK b):decide (s69 a b > 0)=s29 b a:=by
 have e:s69 a b > 0↔ltF b a:=by unfold s69 ltF;rw [cross ha hb,cross hb ha,zzh]
 cases h:s29 b a
 ·exact decide_eq_false fun k=>by rw [(zfg hb ha).2 (e.1 k)] at h;cases h
 ·exact decide_eq_true (e.2 ((zfg hb ha).1 h))
theorem zsA {a b:Frac} (ha:FOK a) (hb:FOK b):decide (s69 a b≤0) = !(s29 b a):=by
 have:=zCP ha hb
 rw [← this]
 by_cases h:s69 a b≤0
 ·rw [decide_eq_true h,decide_eq_false (show ¬ s69 a b > 0 by omega)];rfl
 ·rw [decide_eq_false h,decide_eq_true (show s69 a b > 0 by omega)];rfl
theorem zzt {x:Int} (h : -1000000≤x∧x≤1000000):FOK (red x 1):=zhU (f:=⟨x,1⟩) ⟨⟨by show -1000000000000≤x;omega,by show x≤1000000000000;omega⟩,by show (1:Int)≤1;omega,by show (1:Int)≤100000;omega⟩
theorem zCQ {g:Sl Gate} {F:straight→Frac} (hF:∀ s,Cor g s→FOK (F s)) {lo hi:Frac} (h:Bd g F lo hi):FOK lo∧FOK hi:=by
 obtain ⟨⟨⟨s,hs,e1⟩,_⟩,⟨t,ht,e2⟩,_⟩:=h
 exact ⟨e1 ▸ zhU (hF s hs),e2 ▸ zhU (hF t ht)⟩
theorem zhV (g:Sl Gate) (G:zav g) (hs:s21 g=true) {z:Int} (hz : -200000≤z∧z≤200000):FOK (s36 g z).1∧FOK (s36 g z).2:=by
 unfold s36 znb
 cases hf:s22 g
 ·obtain ⟨C, _, _, _, c4⟩ := zh8 g G
  exact zCQ (fun s hs=>zkB (zde G hs) hz) (zzq G ((c4 (zcw G hf)).1 hs) hz).2
 ·obtain ⟨b1, b2⟩ := zzf g G
  obtain ⟨k1,k2⟩:=zCN g G
  obtain ⟨u1,u2⟩:=zgT (num:=(com g).1) (den:=1) (by omega) (by omega) (by omega) (by omega)
  obtain ⟨v1,v2⟩:=zgT (num:=(com g).2) (den:=1) (by omega) (by omega) (by omega) (by omega)
  rw [b2]
  show FOK (s40 (com g).1 1)∧FOK (s40 (com g).2 1)
  rw [u2,v2]
  exact ⟨zzt k1,zzt k2⟩
end Go.Proofs
namespace Go.Proofs
open Go Go.Pm
set_option maxRecDepth 100000
def zJ2 (u:Int×Frac×Frac×Int) (v:Int×Frac×Frac):Prop:=(v.1 = -1000000∧u=(0,zF,zF,5))∨(v.1 ≠ -1000000∧u=(v.1,v.2.1,v.2.2,0))
def cmF (a b:Sl Gate) (h:Int):Frac:=cond (s29 (s36 a h).1 (s36 b h).1) (s36 b h).1 (s36 a h).1
def cmT (a b:Sl Gate) (h:Int):Frac:=cond (s29 (s36 b h).2 (s36 a h).2) (s36 b h).2 (s36 a h).2
section
variable (a b:Sl Gate) (Ga:zav a) (Gb:zav b) (ha:s21 a=true) (hb:s21 b=true) (low high:Int) (hl : -100000≤low) (hh:high≤200000)
include Ga Gb ha hb
theorem zno (P0 : Int → Bool) (S0 : Int → Int × Frac × Frac) (z : Int) (hz1 : -100000 ≤ z) (hz2 : z ≤ 200000) (h : z ≤ high) :
  zhQ a b high P0 z=cond (!(s29 (cmT a b z) (cmF a b z))) true (P0 (z+1))∧zge a b high S0 z=cond (!(s29 (cmT a b z) (cmF a b z))) (z,cmF a b z,cmT a b z) (S0 (z+1)):=by
 have q1:=(zCO a Ga).2.2.1 ha z (by omega)
 have q2:=(zCO b Gb).2.2.1 hb z (by omega)
 unfold zhQ zge zy3 zy2 zy1 zy0 zyZ zyY zrg zrf zyX zyW zre zrd cmF cmT
 rw [q1,q2,decide_eq_true h,zaG (x:=z+1) (by omega) (by omega)]
 simp only [decide_true,Bool.true_and,cond_true]
 generalize s36 a z=p
 generalize s36 b z=r
 cases s29 p.1 r.1 <;> cases s29 r.2 p.2 <;> exact ⟨rfl,rfl⟩
theorem zzu (P7 : Int → Int → Int → Int → Int → Bool) (S7 : Int → Int → Int → Int → Int → Int × Frac × Frac × Int) (i : Nat) (f0 f1 t0 t1 : Int) (h : low + i ≤ high) (hl : -100000 ≤ low) (hh : high ≤ 200000) :
  zf5 low high (s65 a).list.Gates (s65 a).corners (s65 b).list.Gates (s65 b).corners P7 (i:Int) f0 f1 t0 t1=cond (!(s29 (cmT a b (low+i)) (cmF a b (low+i)))) true (P7 ((i+1:Nat):Int) (cmF a b (low+i)).Num (cmF a b (low+i)).Den (cmT a b (low+i)).Num (cmT a b (low+i)).Den) ∧
  zf4 low high (s65 a).list.Gates (s65 a).corners (s65 b).list.Gates (s65 b).corners S7 (i:Int) f0 f1 t0 t1=cond (!(s29 (cmT a b (low+i)) (cmF a b (low+i)))) (low+i,cmF a b (low+i),cmT a b (low+i),0) (S7 ((i+1:Nat):Int) (cmF a b (low+i)).Num (cmF a b (low+i)).Den (cmT a b (low+i)).Num (cmT a b (low+i)).Den):=by
 have hz : -200000≤low+i∧low+i≤200000:=by omega
 obtain ⟨x1,x2,x3⟩:=zgW a Ga ha hz
 obtain ⟨y1,y2,y3⟩:=zgW b Gb hb hz
 obtain ⟨fa,fA⟩:=zhV a Ga ha hz
 obtain ⟨fb,fB⟩:=zhV b Gb hb hz
 have ea:(⟨⟨(s65 a).list.Gates⟩,(s65 a).corners⟩:set)=s65 a:=rfl
 have eb:(⟨⟨(s65 b).list.Gates⟩,(s65 b).corners⟩:set)=s65 b:=rfl
 unfold zf5 zf4 zpV zpU zmx zmw zmv zmu ziC ziB zmt zms ziA ziz zjJ
 rw [ea,eb,zaG (x:=low+i) (by omega) (by omega),x1,x3,y1,y3,zaG (x:=high - low) (by omega) (by omega),zaG (x:=high - low+1) (by omega) (by omega),decide_eq_true (show (i:Int) < high - low+1 by omega),zbA (n:=i+1) (by omega) (by omega),decide_eq_false (show ¬ low+i > high by omega)]
 simp only [decide_true,Bool.true_and,cond_true,cond_false]
 unfold cmF cmT
 generalize s36 a (low+i)=p at *
 generalize s36 b (low+i)=r at *
 obtain ⟨p1,p2⟩:=p
 obtain ⟨r1,r2⟩:=r
 simp only at fa fA fb fB ⊢
 have t1:decide (s69 (⟨r1.Num,r1.Den⟩:Frac) (⟨p1.Num,p1.Den⟩:Frac) > 0)=s29 p1 r1:=zCP fb fa
 have t2:decide (s69 (⟨r2.Num,r2.Den⟩:Frac) (⟨p2.Num,p2.Den⟩:Frac) < 0)=s29 r2 p2:=zJ1 fB fA
 have t3:decide (s69 (⟨r1.Num,r1.Den⟩:Frac) (⟨r2.Num,r2.Den⟩:Frac)≤0) = !(s29 r2 r1):=zsA fb fB
 have t4:decide (s69 (⟨r1.Num,r1.Den⟩:Frac) (⟨p2.Num,p2.Den⟩:Frac)≤0) = !(s29 p2 r1):=zsA fb fA
 have t5:decide (s69 (⟨p1.Num,p1.Den⟩:Frac) (⟨r2.Num,r2.Den⟩:Frac)≤0) = !(s29 r2 p1):=zsA fa fB
 have t6:decide (s69 (⟨p1.Num,p1.Den⟩:Frac) (⟨p2.Num,p2.Den⟩:Frac)≤0) = !(s29 p2 p1):=zsA fa fA
 rw [t1,t2,t3,t4,t5,t6]
 cases s29 p1 r1 <;> cases s29 r2 p2 <;> exact ⟨rfl,rfl⟩
theorem ztr (hl : -100000≤low) (hh:high≤200000):∀ (m k k' i:Nat) (f0 f1 t0 t1:Int),low+i+m=high+1→m < k→m < k' →
  zhn low high (s65 a).list.Gates (s65 a).corners (s65 b).list.Gates (s65 b).corners k (i:Int) f0 f1 t0 t1=true∧zku a b high k' (low+i)=true ∧
  zJ2 (zhm low high (s65 a).list.Gates (s65 a).corners (s65 b).list.Gates (s65 b).corners k (i:Int) f0 f1 t0 t1) (zdI a b high k' (low+i)):=by
 intro m
 induction m with
 | zero =>
  intro k k' i f0 f1 t0 t1 hi hk hk'
  obtain ⟨k,rfl⟩:∃ j,k=j+1:=⟨k - 1,by omega⟩
  obtain ⟨k',rfl⟩:∃ j,k'=j+1:=⟨k' - 1,by omega⟩
  show zf5 low high _ _ _ _ (zhn low high _ _ _ _ k) (i:Int) f0 f1 t0 t1=true∧zhQ a b high (zku a b high k') (low+i)=true∧zJ2 (zf4 low high _ _ _ _ (zhm low high _ _ _ _ k) (i:Int) f0 f1 t0 t1) (zge a b high (zdI a b high k') (low+i))
  unfold zf5 zhQ zf4 zge zjJ
  rw [zaG (x:=high - low) (by omega) (by omega),zaG (x:=high - low+1) (by omega) (by omega),decide_eq_false (show ¬ (i:Int) < high - low+1 by omega),decide_eq_false (show ¬ low+i≤high by omega),zaG (x:=high+1) (by omega) (by omega),decide_eq_true (show high+1 > high by omega)]
  exact ⟨rfl,rfl,.inl ⟨rfl,rfl⟩⟩
 | succ m ih =>
  intro k k' i f0 f1 t0 t1 hi hk hk'
  obtain ⟨k,rfl⟩:∃ j,k=j+1:=⟨k - 1,by omega⟩
  obtain ⟨k',rfl⟩:∃ j,k'=j+1:=⟨k' - 1,by omega⟩
  have ih:=fun f0 f1 t0 t1=>ih k k' (i+1) f0 f1 t0 t1 (by omega) (by omega) (by omega)
  show zf5 low high _ _ _ _ (zhn low high _ _ _ _ k) (i:Int) f0 f1 t0 t1=true∧zhQ a b high (zku a b high k') (low+i)=true∧zJ2 (zf4 low high _ _ _ _ (zhm low high _ _ _ _ k) (i:Int) f0 f1 t0 t1) (zge a b high (zdI a b high k') (low+i))
  generalize zhn low high (s65 a).list.Gates (s65 a).corners (s65 b).list.Gates (s65 b).corners k=P at ih ⊢
  generalize zhm low high (s65 a).list.Gates (s65 a).corners (s65 b).list.Gates (s65 b).corners k=S at ih ⊢
  generalize zku a b high k'=Q at ih ⊢
  generalize zdI a b high k'=R at ih ⊢
  obtain ⟨u1,u2⟩:=zzu a b Ga Gb ha hb low high P S i f0 f1 t0 t1 (by omega) hl hh
  obtain ⟨v1,v2⟩:=zno a b Ga Gb ha hb high Q R (low+i) (by omega) (by omega) (by omega)
  rw [u1,u2,v1,v2]
  have e:low+((i+1:Nat):Int)=low+i+1:=by omega
  rw [e] at ih
  cases s29 (cmT a b (low+i)) (cmF a b (low+i))
  ·exact ⟨rfl,rfl,.inr ⟨by show low+i ≠ -1000000;omega,rfl⟩⟩
  ·exact ih _ _ _ _
end
def crR (a b:Sl Gate) (low high:Int) (u:Int×Frac×Frac×Int):Prop :=
 cond (s20 a && s20 b && decide (-100000≤low∧low≤high∧high≤200000)) (cond (s21 a && s21 b) (cond (s22 a || s22 b) (u=(0,zF,zF,6)) (p23 a b low high=true∧zJ2 u (s23 a b low high))) (u=(0,zF,zF,5))) (u=(0,zF,zF,2))
theorem zJ3 (a b:Sl Gate) (na:a.len≤9223372036854775807) (nb:b.len≤9223372036854775807) (low high:Int):p19 a b low high=true∧crR a b low high (s19 a b low high):=by
 obtain ⟨va,_⟩:=zoD a na
 obtain ⟨vb,_⟩:=zoD b nb
 unfold p19 s19 crR zf7 zf6
 rw [va,vb,zy4 a na,zy4 b nb]
 simp only [decide_true,Bool.true_and]
 by_cases h1:low < -100000
 ·rw [decide_eq_true h1, decide_eq_false (show ¬ (-100000 ≤ low ∧ low ≤ high ∧ high ≤ 200000) by omega), Bool.and_false]
  exact ⟨rfl,rfl⟩
 by_cases h2:low > high
 ·rw [decide_eq_false h1, decide_eq_true h2, decide_eq_false (show ¬ (-100000 ≤ low ∧ low ≤ high ∧ high ≤ 200000) by omega), Bool.and_false]
  exact ⟨rfl,rfl⟩
 by_cases h3:high > 200000
 ·rw [decide_eq_false h1, decide_eq_false h2, decide_eq_true h3, decide_eq_false (show ¬ (-100000 ≤ low ∧ low ≤ high ∧ high ≤ 200000) by omega), Bool.and_false]
  exact ⟨rfl,rfl⟩
 rw [decide_eq_false h1,decide_eq_false h2,decide_eq_false h3,decide_eq_true (show (-100000≤low∧low≤high∧high≤200000) by omega),Bool.and_true]
 cases ea:s20 a
 ·exact ⟨rfl,rfl⟩
 cases eb:s20 b
 ·exact ⟨rfl,rfl⟩
 have Ga:=(zgg a na).1 ea
 have Gb:=(zgg b nb).1 eb
 obtain ⟨A1,_,A3⟩:=znj a Ga
 obtain ⟨B1,_,B3⟩:=znj b Gb
 obtain ⟨C,c1,c2,_⟩:=zh8 a Ga
 obtain ⟨D,d1,d2,_⟩:=zh8 b Gb
 obtain ⟨f1,_,f3⟩:=znn a Ga
 obtain ⟨g1,_,g3⟩:=znn b Gb
 have ga:(s65 a).list.Gates=a:=by rw [c2]
 have gb:(s65 b).list.Gates=b:=by rw [d2]
 have xa:(⟨⟨(s65 a).list.Gates⟩,(s65 a).corners⟩:set)=s65 a:=rfl
 have xb:(⟨⟨(s65 b).list.Gates⟩,(s65 b).corners⟩:set)=s65 b:=rfl
 simp only [Bool.not_true,cond_false,cond_true,Bool.and_self]
 unfold zp1 zp0 zpZ zpY zmB zmA zpX zpW zmz zmy
 rw [c1,d1,xa,xb,A1,B1,A3,B3]
 rw [show (⟨(s65 a).list.Gates⟩:list)=⟨a⟩ by rw [ga],show (⟨(s65 b).list.Gates⟩:list)=⟨b⟩ by rw [gb],f1,f3,g1,g3]
 simp only [decide_true,Bool.true_and]
 cases ha:s21 a
 ·exact ⟨rfl,rfl⟩
 cases hb:s21 b
 ·exact ⟨rfl,rfl⟩
 cases s22 a
 ·cases s22 b
  ·have L := ztr a b Ga Gb ha hb low high (by omega) (by omega) (high + 1 - low).toNat Fuel Fuel 0 0 0 0 0 (by omega) (by simp only [Fuel]; omega) (by simp only [Fuel]; omega)
   have e0:low+((0:Nat):Int)=low:=by omega
   rw [e0] at L
   exact ⟨L.1,L.2⟩
  ·exact ⟨rfl,rfl⟩
 ·exact ⟨rfl,rfl⟩
end Go.Proofs
namespace Go.Proofs
open Go Go.Pm
set_option maxRecDepth 100000
theorem zCR {z p y q:Int} (h:z ≠ y):plc (thr z p y q) z=p * (thr z p y q).den∧plc (thr z p y q) y=q * (thr z p y q).den:=by
 unfold thr plc
 split
 ·constructor
  ·show q * z - p * y + (p - q) * z = p * (z - y)
   rw [Int.sub_mul,Int.mul_sub];omega
  ·show q * z - p * y + (p - q) * y = q * (z - y)
   rw [Int.sub_mul,Int.mul_sub];omega
 ·constructor
  ·show p * y - q * z + (q - p) * z = p * (y - z)
   rw [Int.sub_mul,Int.mul_sub];omega
  ·show p * y - q * z + (q - p) * y = q * (y - z)
   rw [Int.sub_mul,Int.mul_sub];omega
theorem znp {g:Sl Gate} {s:straight} (h:zie g s) {i:Nat} (hi:i < g.len):(g.get i).Low * s.den≤plc s (g.get i).Z∧plc s (g.get i).Z≤(g.get i).High * s.den:=of_decide_eq_true (h i hi)
theorem zsB {a:Frac} : ¬ ltF a a:=by unfold ltF;omega
theorem zzv {a b:Frac} (h:ltF a b) : ¬ ltF b a:=by unfold ltF at *;omega
end Go.Proofs
namespace Go.Proofs
open Go Go.Pm
set_option maxRecDepth 100000
theorem zlC {g : Sl Gate} {i b : Nat} {x : straight} (hx : x ∈ zoE (g.get i) (g.get b)) : ∀ m k, k ≤ b → b < k + m → x ∈ zoF g i m k
  | 0,k,h1,h2=>by omega
  | m+1,k,h1,h2=>by
    show x∈zoE (g.get i) (g.get k) ++ zoF g i m (k+1)
    by_cases h:k=b
    · rw [h];exact List.mem_append_left _ hx
    · exact List.mem_append_right _ (zlC hx m (k+1) (by omega) (by omega))
theorem zlD {g : Sl Gate} {a : Nat} {x : straight} (hx : x ∈ zoF g a (g.len - (a + 1)) (a + 1)) : ∀ m i, i ≤ a → a < i + m → x ∈ zzG g m i
  | 0,i,h1,h2=>by omega
  | m+1,i,h1,h2=>by
    show x∈zoF g i (g.len - (i+1)) (i+1) ++ zzG g m (i+1)
    by_cases h:i=a
    · rw [h];exact List.mem_append_left _ hx
    · exact List.mem_append_right _ (zlD hx m (i+1) (by omega) (by omega))
theorem zBA {z p y q:Int} (h:z ≠ y):thr z p y q=thr y q z p:=by
 unfold thr
 by_cases h1:z > y
 ·rw [if_pos h1,if_neg (show ¬ y > z by omega)]
 ·rw [if_neg h1,if_pos (show y > z by omega)]
theorem zNh {g:Sl Gate} {a b:Nat} (ha:a < g.len) (hb:b < g.len) (hz:(g.get a).Z ≠ (g.get b).Z) {p q:Int} (hp:p=(g.get a).Low∨p=(g.get a).High) (hq:q=(g.get b).Low∨q=(g.get b).High):thr (g.get a).Z p (g.get b).Z q∈cst g:=by
 have key:∀ {a b:Nat} {p q:Int},a < b→b < g.len→(g.get a).Z ≠ (g.get b).Z→(p=(g.get a).Low∨p=(g.get a).High)→(q=(g.get b).Low∨q=(g.get b).High)→thr (g.get a).Z p (g.get b).Z q∈cst g:=fun {a b p q} h1 h2 hz hp hq=>by
  refine zlD (zlC ?_ _ _ h1 (by omega)) _ 0 (Nat.zero_le _) (by omega)
  unfold zoE
  rw [if_neg hz]
  rcases hp with rfl | rfl <;> rcases hq with rfl | rfl <;> simp
 rcases Nat.lt_or_ge a b with h | h
 ·exact key h hb hz hp hq
 ·have : a ≠ b := fun e => hz (by rw [e])
  rw [zBA hz]
  exact key (by omega) ha (Ne.symm hz) hq hp
theorem zkD {Q : Nat → Prop} {le : Nat → Nat → Prop} (tot : ∀ i j, Q i → Q j → le i j ∨ le j i) (tr : ∀ i j k, Q i → Q j → Q k → le i j → le j k → le i k) : ∀ n, (∃ k, k < n ∧ Q k) → ∃ k, k < n ∧ Q k ∧ ∀ j, j < n → Q j → le j k
  | 0,⟨k,h,_⟩=>absurd h (Nat.not_lt_zero k)
  | n+1,hex=>by
    by_cases h:∃ k,k < n∧Q k
    · obtain ⟨k, hk, qk, hm⟩ := zkD tot tr n h
      by_cases qn:Q n
      · rcases tot n k qn qk with h1 | h1
        · exact ⟨k,by omega,qk,fun j hj qj=>by
            by_cases e:j=n
            · rw [e];exact h1
            · exact hm j (by omega) qj⟩
        · exact ⟨n,by omega,qn,fun j hj qj=>by
            by_cases e:j=n
            · rw [e];rcases tot n n qn qn with h2 | h2 <;> exact h2
            · exact tr j k n qj qk qn (hm j (by omega) qj) h1⟩
      · exact ⟨k,by omega,qk,fun j hj qj=>hm j (by
          have:j ≠ n:=fun e=>qn (e ▸ qj)
          omega) qj⟩
    · obtain ⟨k, hk, qk⟩ := hex
      have e:k=n:=by
        rcases Nat.lt_or_ge k n with h1 | h1
        · exact absurd ⟨k,h1,qk⟩ h
        · omega
      subst e
      exact ⟨k,by omega,qk,fun j hj qj=>by
        by_cases e:j=k
        · rw [e];rcases tot k k qk qk with h2 | h2 <;> exact h2
        · exact absurd ⟨j,by omega,qj⟩ h⟩
def leS (a b:straight):Prop:=a.slope * b.den≤b.slope * a.den
theorem zsC {a b c:straight} (ha:0 < a.den) (hb:0 < b.den) (hc:0 < c.den) (h1:leS a b) (h2:leS b c):leS a c:=by
 unfold leS at *
 have y1:=Int.mul_le_mul_of_nonneg_right h1 (Int.le_of_lt hc)
 have y2:=Int.mul_le_mul_of_nonneg_right h2 (Int.le_of_lt ha)
 refine Int.le_of_mul_le_mul_right (a:=b.den) ?_ hb
 grind
def lcS (g:Sl Gate) (i:Nat) (p:Int) (k:Nat):straight:=thr (g.get i).Z p (g.get k).Z (if (g.get k).Z > (g.get i).Z then (g.get k).Low else (g.get k).High)
def ucS (g:Sl Gate) (i:Nat) (p:Int) (k:Nat):straight:=thr (g.get i).Z p (g.get k).Z (if (g.get k).Z > (g.get i).Z then (g.get k).High else (g.get k).Low)
theorem znq {g:Sl Gate} {i k:Nat} {p:Int} {c:straight} (he:plc c (g.get i).Z=p * c.den) (hz:(g.get k).Z ≠ (g.get i).Z):zk1 c (g.get k)=true↔leS (lcS g i p k) c∧leS c (ucS g i p k):=by
 unfold zk1 leS lcS ucS thr
 rw [decide_eq_true_eq]
 unfold plc at *
 by_cases h:(g.get k).Z > (g.get i).Z
 ·simp only [if_pos h, if_neg (show ¬ (g.get i).Z > (g.get k).Z by omega)]
  constructor
  ·intro ⟨h1,h2⟩;constructor <;> grind
  ·intro ⟨h1,h2⟩;constructor <;> grind
 ·simp only [if_neg h, if_pos (show (g.get i).Z > (g.get k).Z by omega)]
  constructor
  ·intro ⟨h1,h2⟩;constructor <;> grind
  ·intro ⟨h1,h2⟩;constructor <;> grind
theorem zzw {z p y q:Int} (h:z ≠ y):0 < (thr z p y q).den:=by
 unfold thr
 by_cases h1:z > y
 ·rw [if_pos h1];show 0 < z - y;omega
 ·rw [if_neg h1];show 0 < y - z;omega
theorem zoK {g:Sl Gate} {i k:Nat} {p:Int} {s c:straight} (ps:0 < s.den) (pc:0 < c.den) (he:plc s (g.get i).Z=p * s.den) (hc:plc c (g.get i).Z=p * c.den) (hz:(g.get k).Z=(g.get i).Z) (h:zk1 s (g.get k)=true):zk1 c (g.get k)=true:=by
 unfold zk1 at *
 rw [decide_eq_true_eq] at *
 rw [hz,he] at h
 rw [hz,hc]
 exact ⟨Int.mul_le_mul_of_nonneg_right (Int.le_of_mul_le_mul_right h.1 ps) (Int.le_of_lt pc),Int.mul_le_mul_of_nonneg_right (Int.le_of_mul_le_mul_right h.2 ps) (Int.le_of_lt pc)⟩
theorem rot {g : Sl Gate} {s : straight} (hd : 0 < s.den) (ha : zie g s) {i : Nat} (hi : i < g.len) {p : Int} (hp : p = (g.get i).Low ∨ p = (g.get i).High) (he : plc s (g.get i).Z = p * s.den) (hn : ∃ k, k < g.len ∧ (g.get k).Z ≠ (g.get i).Z) :
  (∃ c,Cor g c∧0 < c.den∧plc c (g.get i).Z=p * c.den∧leS c s)∧∃ c,Cor g c∧0 < c.den∧plc c (g.get i).Z=p * c.den∧leS s c:=by
 have ld:∀ k,(g.get k).Z ≠ (g.get i).Z→0 < (lcS g i p k).den:=fun k h=>zzw (Ne.symm h)
 have ud:∀ k,(g.get k).Z ≠ (g.get i).Z→0 < (ucS g i p k).den:=fun k h=>zzw (Ne.symm h)
 have le1:∀ k,(g.get k).Z ≠ (g.get i).Z→plc (lcS g i p k) (g.get i).Z=p * (lcS g i p k).den:=fun k h=>(zCR (Ne.symm h)).1
 have ue1:∀ k,(g.get k).Z ≠ (g.get i).Z→plc (ucS g i p k) (g.get i).Z=p * (ucS g i p k).den:=fun k h=>(zCR (Ne.symm h)).1
 have sp:∀ k,k < g.len→(g.get k).Z ≠ (g.get i).Z→leS (lcS g i p k) s∧leS s (ucS g i p k):=fun k hk hz=>(znq he hz).1 (ha k hk)
 constructor
 ·obtain ⟨k, hk, qk, hm⟩ := zkD (Q := fun k => (g.get k).Z ≠ (g.get i).Z) (le := fun a b => leS (lcS g i p a) (lcS g i p b)) (fun a b _ _ => Int.le_total _ _) (fun a b c ha hb hc h1 h2 => zsC (ld a ha) (ld b hb) (ld c hc) h1 h2) g.len hn
  refine ⟨lcS g i p k,⟨zNh hi hk (Ne.symm qk) hp (by split <;> simp),fun j hj=>?_⟩,ld k qk,le1 k qk,(sp k hk qk).1⟩
  by_cases hz:(g.get j).Z=(g.get i).Z
  ·exact zoK hd (ld k qk) he (le1 k qk) hz (ha j hj)
  ·exact (znq (le1 k qk) hz).2 ⟨hm j hj hz,zsC (ld k qk) hd (ud j hz) (sp k hk qk).1 (sp j hj hz).2⟩
 ·obtain ⟨k, hk, qk, hm⟩ := zkD (Q := fun k => (g.get k).Z ≠ (g.get i).Z) (le := fun a b => leS (ucS g i p b) (ucS g i p a)) (fun a b _ _ => Int.le_total _ _) (fun a b c ha hb hc h1 h2 => zsC (ud c hc) (ud b hb) (ud a ha) h2 h1) g.len hn
  refine ⟨ucS g i p k,⟨zNh hi hk (Ne.symm qk) hp (by split <;> simp),fun j hj=>?_⟩,ud k qk,ue1 k qk,(sp k hk qk).2⟩
  by_cases hz:(g.get j).Z=(g.get i).Z
  ·exact zoK hd (ud k qk) he (ue1 k qk) hz (ha j hj)
  ·exact (znq (ue1 k qk) hz).2 ⟨zsC (ld j hz) hd (ud k qk) (sp j hj hz).1 (sp k hk qk).2,hm j hj hz⟩
theorem zJ4 {g:Sl Gate} (hl:1≤g.len) {s:straight} (ha:zie g s):∃ d,0≤d∧zie g ⟨s.slope,s.start - d,s.den⟩∧∃ i,i < g.len∧plc ⟨s.slope,s.start - d,s.den⟩ (g.get i).Z=(g.get i).Low * s.den:=by
 obtain ⟨k,hk,_,hm⟩:=zkD (Q:=fun _=>True) (le:=fun a b=>plc s (g.get b).Z - (g.get b).Low * s.den≤plc s (g.get a).Z - (g.get a).Low * s.den) (fun a b _ _=>Int.le_total _ _) (fun a b c _ _ _ h1 h2=>Int.le_trans h2 h1) g.len ⟨0,hl,trivial⟩
 have hk2:=znp ha hk
 refine ⟨plc s (g.get k).Z - (g.get k).Low * s.den,by omega,fun j hj=>decide_eq_true ?_,k,hk,by unfold plc;simp only;omega⟩
 have h1:=hm j hj trivial
 have h2:=znp ha hj
 unfold plc at *
 simp only
 omega
theorem zJ5 {g:Sl Gate} (hl:1≤g.len) {s:straight} (ha:zie g s):∃ d,0≤d∧zie g ⟨s.slope,s.start+d,s.den⟩∧∃ i,i < g.len∧plc ⟨s.slope,s.start+d,s.den⟩ (g.get i).Z=(g.get i).High * s.den:=by
 obtain ⟨k,hk,_,hm⟩:=zkD (Q:=fun _=>True) (le:=fun a b=>(g.get b).High * s.den - plc s (g.get b).Z≤(g.get a).High * s.den - plc s (g.get a).Z) (fun a b _ _=>Int.le_total _ _) (fun a b c _ _ _ h1 h2=>Int.le_trans h2 h1) g.len ⟨0,hl,trivial⟩
 have hk2:=znp ha hk
 refine ⟨(g.get k).High * s.den - plc s (g.get k).Z,by omega,fun j hj=>decide_eq_true ?_,k,hk,by unfold plc;simp only;omega⟩
 have h1:=hm j hj trivial
 have h2:=znp ha hj
 unfold plc at *
 simp only
 omega
theorem zsD {g:Sl Gate} (nf : ¬ zk2 g) (i:Nat) (hi:i < g.len):∃ k,k < g.len∧(g.get k).Z ≠ (g.get i).Z:=by
 by_cases h:∃ k,k < g.len∧(g.get k).Z ≠ (g.get i).Z
 ·exact h
 ·have all : ∀ k, k < g.len → (g.get k).Z = (g.get i).Z := fun k hk => Classical.byContradiction fun e => h ⟨k, hk, e⟩
  exact absurd (fun k hk=>(all k hk).trans (all 0 (by omega)).symm) nf
theorem zzx {a b:straight} {z p h:Int} (ha:plc a z=p * a.den) (hb:plc b z=p * b.den) (hs:leS a b) (hh:z≤h):plc a h * b.den≤plc b h * a.den:=by
 have y:=Int.mul_le_mul_of_nonneg_right hs (show 0≤h - z by omega)
 unfold plc at *
 have e1:a.start=p * a.den - a.slope * z:=by omega
 have e2:b.start=p * b.den - b.slope * z:=by omega
 rw [e1,e2]
 clear ha hb hs e1 e2
 grind
theorem zzy {a b:straight} {z p h:Int} (ha:plc a z=p * a.den) (hb:plc b z=p * b.den) (hs:leS a b) (hh:h≤z):plc b h * a.den≤plc a h * b.den:=by
 have y:=Int.mul_le_mul_of_nonneg_right hs (show 0≤z - h by omega)
 unfold plc at *
 have e1:a.start=p * a.den - a.slope * z:=by omega
 have e2:b.start=p * b.den - b.slope * z:=by omega
 rw [e1,e2]
 clear ha hb hs e1 e2
 grind
theorem lp {g : Sl Gate} (hl : 1 ≤ g.len) (nf : ¬ zk2 g) {s : straight} (hd : 0 < s.den) (ha : zie g s) :
  (∀ h,(∃ c,Cor g c∧plc c h * s.den≤plc s h * c.den)∧∃ c,Cor g c∧plc s h * c.den≤plc c h * s.den)∧(∃ c,Cor g c∧leS c s)∧∃ c,Cor g c∧leS s c:=by
 obtain ⟨d,d0,da,i,hi,di⟩:=zJ4 hl ha
 obtain ⟨e,e0,ea,j,hj,ej⟩:=zJ5 hl ha
 obtain ⟨⟨c1,c1c,c1d,c1p,c1s⟩,⟨c2,c2c,c2d,c2p,c2s⟩⟩:=rot (s:=⟨s.slope,s.start - d,s.den⟩) hd da hi (.inl rfl) di (zsD nf i hi)
 obtain ⟨⟨f1,f1c,f1d,f1p,f1s⟩,⟨f2,f2c,f2d,f2p,f2s⟩⟩:=rot (s:=⟨s.slope,s.start+e,s.den⟩) hd ea hj (.inr rfl) ej (zsD nf j hj)
 have lo:∀ {c:straight} {h:Int},0 < c.den→plc c h * s.den≤plc ⟨s.slope,s.start - d,s.den⟩ h * c.den→plc c h * s.den≤plc s h * c.den:=fun {c h} pc k=>by
  have:=Int.mul_nonneg d0 (Int.le_of_lt pc)
  unfold plc at *
  simp only at k
  grind
 have hi':∀ {c:straight} {h:Int},0 < c.den→plc ⟨s.slope,s.start+e,s.den⟩ h * c.den≤plc c h * s.den→plc s h * c.den≤plc c h * s.den:=fun {c h} pc k=>by
  have:=Int.mul_nonneg e0 (Int.le_of_lt pc)
  unfold plc at *
  simp only at k
  grind
 refine ⟨fun h=>⟨?_,?_⟩,⟨c1,c1c,c1s⟩,⟨c2,c2c,c2s⟩⟩
 ·rcases Int.le_total (g.get i).Z h with k | k
  ·exact ⟨c1,c1c,lo c1d (zzx (b:=⟨s.slope,s.start - d,s.den⟩) c1p di c1s k)⟩
  ·exact ⟨c2,c2c,lo c2d (zzy (a:=⟨s.slope,s.start - d,s.den⟩) di c2p c2s k)⟩
 ·rcases Int.le_total (g.get j).Z h with k | k
  ·exact ⟨f2,f2c,hi' f2d (zzx (a:=⟨s.slope,s.start+e,s.den⟩) ej f2p f2s k)⟩
  ·exact ⟨f1,f1c,hi' f1d (zzy (b:=⟨s.slope,s.start+e,s.den⟩) f1p ej f1s k)⟩
end Go.Proofs
namespace Go.Proofs
open Go Go.Pm
set_option maxRecDepth 100000
theorem zMt {g : Sl Gate} (G : zav g) (nf : ¬ zk2 g) {F : straight → Frac} (hF : ∀ s, Cor g s → FOK (F s)) {lo hi : Frac} (B : Bd g F lo hi) {x : Frac} (px : 0 < x.Den)
    (h1:∃ c,Cor g c∧¬ ltF x (F c)) (h2:∃ c,Cor g c∧¬ ltF (F c) x) : ¬ ltF x lo∧¬ ltF hi x:=by
  obtain ⟨c,hc,kc⟩:=h1
  obtain ⟨d,hd,kd⟩:=h2
  obtain ⟨fl,fh⟩:=zCQ hF B
  have pc:=(hF c hc).2;have pd:=(hF d hd).2;have pl:=fl.2;have ph:=fh.2
  exact ⟨zcU (b:=F c) (by omega) (by omega) (by omega) (B.1.2 c hc) kc,zcU (b:=F d) (by omega) (by omega) (by omega) kd (B.2.2 d hd)⟩
theorem zJ6 {g:Sl Gate} (G:zav g) (nf : ¬ zk2 g) {s:straight} (S:SOK s) (ha:zie g s) {h:Int} (hz : -200000≤h∧h≤200000) {lo hi:Frac} (B:Bd g (plF h) lo hi) : ¬ ltF (plF h s) lo∧¬ ltF hi (plF h s):=by
 have hd:0 < s.den:=by have:=S.2.2;omega
 obtain ⟨⟨c,hc,kc⟩,d,hd2,kd⟩:=(lp G.2.1 nf hd ha).1 h
 exact zMt G nf (fun s hs=>zkB (zde G hs) hz) B hd ⟨c,hc,by unfold ltF;simp only;omega⟩ ⟨d,hd2,by unfold ltF;simp only;omega⟩
theorem zCS {g:Sl Gate} (G:zav g) (hs:s21 g=true) (hf:s22 g=false) {z:Int} (hz : -200000≤z∧z≤200000):Bd g (plF z) (s36 g z).1 (s36 g z).2:=by
 obtain ⟨C,_,_,_,c4⟩:=zh8 g G
 have:=(zzq G ((c4 (zcw G hf)).1 hs) hz).2
 unfold s36 znb
 rw [hf];exact this
theorem zsE {g:Sl Gate} (G:zav g) (hf:s22 g=false):s21 g=true↔∃ s,0 < s.den∧zie g s:=by
 obtain ⟨C,_,_,_,c4⟩:=zh8 g G
 rw [c4 (zcw G hf)]
 constructor
 ·intro ⟨s, hs⟩
  exact ⟨s,by have:=(zde G hs).2.2;omega,hs.2⟩
 ·intro ⟨s, hd, ha⟩
  obtain ⟨_,⟨c,hc,_⟩,_⟩:=lp G.2.1 (zcw G hf) hd ha
  exact ⟨c,hc⟩
def zzz (z x w y:Int):Prop:=(0≤z∧z≤100000)∧(0≤w∧w≤100000)∧z ≠ w∧(-1000000≤x∧x≤1000000)∧-1000000≤y∧y≤1000000
theorem zzA (z x w y:Int):s25 z x w y=true↔zzz z x w y:=by
 unfold s25 zzz
 by_cases h1:z ≥ 0 <;> by_cases h2:z≤100000 <;> by_cases h3:w ≥ 0 <;> by_cases h4:w≤100000 <;> by_cases h5:z=w <;> by_cases h6:x ≥ -1000000 <;> by_cases h7:x≤1000000 <;> by_cases h8:y ≥ -1000000 <;> by_cases h9:y≤1000000 <;> simp [h1,h2,h3,h4,h5,h6,h7,h8,h9] <;> omega
theorem zzB {z x w y:Int} (E:zzz z x w y):p26 z x w y=true∧s26 z x w y=toL (thr z x w y)∧SOK (thr z x w y):=by
 obtain ⟨e1,e2,e3,e4,e5⟩:=E
 obtain ⟨a,b⟩:=zCI e1 e2 e4 e5 e3
 exact ⟨a,b,zCJ e1 e2 e4 e5 e3⟩
end Go.Proofs
namespace Go.Proofs
open Go Go.Pm
set_option maxRecDepth 100000
theorem zkE {x y:Frac} (hx:FOK x) (hy:FOK y) (h : ¬ ltF x y):s29 x y=false:=by
 cases e:s29 x y
 ·rfl
 ·exact absurd ((zfg hx hy).1 e) h
section
variable (a b:Sl Gate) (Ga:zav a) (Gb:zav b) (ha:s21 a=true) (hb:s21 b=true) (high:Int) (hh:high≤200000)
include Ga Gb ha hb hh
theorem zBB (at_:Int) (hat:at_≤high) (ok:s29 (cmT a b at_) (cmF a b at_)=false):∀ (m k:Nat) (z:Int),z+m=at_→m < k→-100000≤z →
  ∃ y,z≤y∧y≤at_∧s29 (cmT a b y) (cmF a b y)=false∧zdI a b high k z=(y,cmF a b y,cmT a b y):=by
 intro m
 induction m with
 | zero =>
  intro k z hz hk hl
  obtain ⟨k,rfl⟩:∃ j,k=j+1:=⟨k - 1,by omega⟩
  obtain rfl:z=at_:=by omega
  refine ⟨z,by omega,by omega,ok,?_⟩
  show zge a b high (zdI a b high k) z=_
  rw [(zno a b Ga Gb ha hb high (fun _=>true) (zdI a b high k) z hl (by omega) hat).2,ok];rfl
 | succ m ih =>
  intro k z hz hk hl
  obtain ⟨k,rfl⟩:∃ j,k=j+1:=⟨k - 1,by omega⟩
  have e:zdI a b high (k+1) z=cond (!(s29 (cmT a b z) (cmF a b z))) (z,cmF a b z,cmT a b z) (zdI a b high k (z+1)):=(zno a b Ga Gb ha hb high (fun _=>true) (zdI a b high k) z hl (by omega) (by omega)).2
  cases h:s29 (cmT a b z) (cmF a b z)
  ·exact ⟨z,by omega,by omega,h,by rw [e,h];rfl⟩
  ·obtain ⟨y, y1, y2, y3, y4⟩ := ih k (z + 1) (by omega) (by omega) (by omega)
   exact ⟨y,by omega,y2,y3,by rw [e,h];exact y4⟩
end
theorem at_in {g:Sl Gate} (hn:g.len≤9223372036854775807) (hv:s20 g=true) (hs:s21 g=true) (hf:s22 g=false) {z:Int} (hz : -100000≤z∧z≤200000):s30 g z=((s36 g z).1,(s36 g z).2,0):=by
 rw [(zzs g hn z).2,zoC,decide_eq_true hz]
 unfold atR;rw [hv,hs,hf];rfl
theorem zts (a b : Sl Gate) (na : a.len ≤ 9223372036854775807) (nb : b.len ≤ 9223372036854775807) (va : s20 a = true) (vb : s20 b = true) (fa : s22 a = false) (fb : s22 b = false) (low at_ high : Int) (h1 : -100000 ≤ low) (h2 : low ≤ at_) (h3 : at_ ≤ high) (h4 : high ≤ 200000)
    {L M:straight} (SL:SOK L) (SM:SOK M) (pL:zie a L) (pM:zie b M) (e:s28 (toL L) at_=s28 (toL M) at_):zoz a b low at_ high=true∧zoy a b low at_ high=true:=by
  have Ga:=(zgg a na).1 va
  have Gb:=(zgg b nb).1 vb
  have ha:=(zsE Ga fa).2 ⟨L,by have:=SL.2.2;omega,pL⟩
  have hb:=(zsE Gb fb).2 ⟨M,by have:=SM.2.2;omega,pM⟩
  have hz : -200000≤at_∧at_≤200000:=by omega
  have ok:s29 (cmT a b at_) (cmF a b at_)=false:=by
    have BA:=zCS Ga ha fa hz
    have BB:=zCS Gb hb fb hz
    obtain ⟨FA1,FA2⟩:=zhV a Ga ha hz
    obtain ⟨FB1,FB2⟩:=zhV b Gb hb hz
    obtain ⟨l1,l2⟩:=zJ6 Ga (zcw Ga fa) SL pL hz BA
    obtain ⟨m1,m2⟩:=zJ6 Gb (zcw Gb fb) SM pM hz BB
    have fn:FOK (rd_ (plF at_ L)):=zhU (zkB SL hz)
    have eN:rd_ (plF at_ M)=rd_ (plF at_ L):=by
      have x:=(zh7 SL hz).2
      have y:=(zh7 SM hz).2
      show red (plc M at_) M.den=red (plc L at_) L.den
      rw [← x,← y,e]
    have pl:0 < L.den:=by have:=SL.2.2;omega
    have pm:0 < M.den:=by have:=SM.2.2;omega
    have l1 : ¬ ltF (rd_ (plF at_ L)) (s36 a at_).1:=fun k=>l1 ((zkz (a:=plF at_ L) pl (by have:=FA1.2;omega)).1 k)
    have l2 : ¬ ltF (s36 a at_).2 (rd_ (plF at_ L)):=fun k=>l2 ((zkA (b:=plF at_ L) (by have:=FA2.2;omega) pl).1 k)
    have m1 : ¬ ltF (rd_ (plF at_ L)) (s36 b at_).1:=fun k=>m1 ((zkz (a:=plF at_ M) pm (by have:=FB1.2;omega)).1 (by rw [eN];exact k))
    have m2 : ¬ ltF (s36 b at_).2 (rd_ (plF at_ L)):=fun k=>m2 ((zkA (b:=plF at_ M) (by have:=FB2.2;omega) pm).1 (by rw [eN];exact k))
    generalize rd_ (plF at_ L)=n at *
    have f1:FOK (cmF a b at_)∧¬ ltF n (cmF a b at_):=by
      unfold cmF
      cases s29 (s36 a at_).1 (s36 b at_).1
      · exact ⟨FA1,l1⟩
      · exact ⟨FB1,m1⟩
    have f2:FOK (cmT a b at_)∧¬ ltF (cmT a b at_) n:=by
      unfold cmT
      cases s29 (s36 b at_).2 (s36 a at_).2
      · exact ⟨FA2,l2⟩
      · exact ⟨FB2,m2⟩
    exact zkE f2.1 f1.1 (zcU (b:=n) (by have:=f1.1.2;omega) (by have:=fn.2;omega) (by have:=f2.1.2;omega) f1.2 f2.2)
  obtain ⟨y,y1,y2,y3,y4⟩:=zBB a b Ga Gb ha hb high h4 at_ h3 ok (at_ - low).toNat Fuel low (by omega) (by simp only [Fuel];omega) h1
  obtain ⟨c1,c2⟩:=zJ3 a b na nb low high
  have y4:s23 a b low high=(y,cmF a b y,cmT a b y):=y4
  have c3:s19 a b low high=(y,cmF a b y,cmT a b y,0):=by
    unfold crR at c2
    rw [va,vb,decide_eq_true (show -100000≤low∧low≤high∧high≤200000 by omega),ha,hb,fa,fb] at c2
    obtain ⟨_,c2⟩:p23 a b low high=true∧zJ2 (s19 a b low high) (s23 a b low high):=c2
    rw [y4] at c2
    rcases c2 with ⟨c,_⟩ | ⟨_,c⟩
    · have c : y = -1000000 := c
      omega
    · exact c
  have hy : -200000≤y∧y≤200000:=by omega
  unfold zoz zoy zyq zyp zlA zlz
  rw [c1,c3]
  dsimp only
  have e29:s29 (⟨(cmT a b y).Num,(cmT a b y).Den⟩:Frac) (⟨(cmF a b y).Num,(cmF a b y).Den⟩:Frac)=false:=y3
  rw [bne_self_eq_false,decide_eq_false (show ¬ y < low by omega),decide_eq_false (show ¬ y > at_ by omega),e29]
  rw [cond_false,cond_false,cond_false,cond_false,cond_false,cond_false,cond_false,cond_false]
  unfold zyo zyn zym zyl zyk
  rw [(zzs a na y).1,(zzs b nb y).1,at_in na va ha fa (by omega),at_in nb vb hb fb (by omega)]
  refine ⟨rfl,?_⟩
  obtain ⟨FA1,FA2⟩:=zhV a Ga ha hy
  obtain ⟨FB1,FB2⟩:=zhV b Gb hb hy
  have g1:s29 (cmF a b y) (s36 a y).1=false∧s29 (cmF a b y) (s36 b y).1=false:=by
    unfold cmF
    cases h:s29 (s36 a y).1 (s36 b y).1
    · exact ⟨zkE FA1 FA1 zsB,h⟩
    · exact ⟨zkE FB1 FA1 (zzv ((zfg FA1 FB1).1 h)),zkE FB1 FB1 zsB⟩
  have g2:s29 (s36 a y).2 (cmT a b y)=false∧s29 (s36 b y).2 (cmT a b y)=false:=by
    unfold cmT
    cases h:s29 (s36 b y).2 (s36 a y).2
    · exact ⟨zkE FA2 FA2 zsB,h⟩
    · exact ⟨zkE FA2 FB2 (zzv ((zfg FB2 FA2).1 h)),zkE FB2 FB2 zsB⟩
  show cond ((0:Int) == 0) (cond ((0:Int) == 0) (cond (!(s29 (cmF a b y) (s36 a y).1)) (cond (!(s29 (cmF a b y) (s36 b y).1)) (cond (!(s29 (s36 a y).2 (cmT a b y))) (cond (!(s29 (s36 b y).2 (cmT a b y))) true false) false) false) false) false) false=true
  rw [g1.1,g1.2,g2.1,g2.2];rfl
theorem vertex_true (a b:Sl Gate) (na:a.len≤9223372036854775807) (nb:b.len≤9223372036854775807) (o t:Int×Int×Int×Int) (low at_ high:Int):p4 a b o t low at_ high=true∧s4 a b o t low at_ high=true:=by
 have tr:zdS a b o t low at_ high true=true∧zdR a b o t low at_ high true=true:=⟨rfl,rfl⟩
 obtain ⟨t1,t2⟩:=tr
 unfold p4 s4
 rw [(zsn a na).1,(zsn b nb).1,t1,t2]
 cases va:s20 a
 ·exact ⟨rfl,rfl⟩
 cases vb:s20 b
 ·exact ⟨rfl,rfl⟩
 have Ga:=(zgg a na).1 va
 have Gb:=(zgg b nb).1 vb
 rw [(zh6 a Ga).1,(zh6 b Gb).1]
 cases fa:s22 a
 ·cases fb : s22 b
  ·cases ea : s25 o.1 o.2.1 o.2.2.1 o.2.2.2
   ·exact ⟨rfl,rfl⟩
   cases eb:s25 t.1 t.2.1 t.2.2.1 t.2.2.2
   ·exact ⟨rfl,rfl⟩
   by_cases h1:low < -100000
   ·rw [decide_eq_true h1];exact ⟨rfl,rfl⟩
   by_cases h2:low > at_
   ·rw [decide_eq_false h1,decide_eq_true h2];exact ⟨rfl,rfl⟩
   by_cases h3:at_ > high
   ·rw [decide_eq_false h1,decide_eq_false h2,decide_eq_true h3];exact ⟨rfl,rfl⟩
   by_cases h4:high > 200000
   ·rw [decide_eq_false h1,decide_eq_false h2,decide_eq_false h3,decide_eq_true h4];exact ⟨rfl,rfl⟩
   rw [decide_eq_false h1,decide_eq_false h2,decide_eq_false h3,decide_eq_false h4]
   obtain ⟨x1,x2,SL⟩:=zzB ((zzA _ _ _ _).1 ea)
   obtain ⟨y1,y2,SM⟩:=zzB ((zzA _ _ _ _).1 eb)
   have fin:zdS a b o t low at_ high false=true∧zdR a b o t low at_ high false=true:=by
    unfold zdS zdR
    rw [cond_false,cond_false]
    unfold zyv zyu
    rw [x1,x2,y1,y2]
    generalize thr o.1 o.2.1 o.2.2.1 o.2.2.2=L at SL
    generalize thr t.1 t.2.1 t.2.2.1 t.2.2.2=M at SM
    unfold zyt zys zoB zoA
    have eL:(⟨⟨(toL L).Slope.Num,(toL L).Slope.Den⟩,⟨(toL L).Start.Num,(toL L).Start.Den⟩⟩:Line)=toL L:=rfl
    have eM:(⟨⟨(toL M).Slope.Num,(toL M).Slope.Den⟩,⟨(toL M).Start.Num,(toL M).Start.Den⟩⟩:Line)=toL M:=rfl
    obtain ⟨u1,u2⟩:=znh Ga SL
    obtain ⟨w1,w2⟩:=znh Gb SM
    have hz : -200000≤at_∧at_≤200000:=by omega
    rw [eL,eM,u1,w1,(zh7 SL hz).1,(zh7 SM hz).1]
    by_cases k1:((s27 (toL L) a).len:Int) < (a.len:Int)
    ·rw [decide_eq_true k1];exact ⟨rfl,rfl⟩
    by_cases k2:((s27 (toL M) b).len:Int) < (b.len:Int)
    ·rw [decide_eq_false k1,decide_eq_true k2];exact ⟨rfl,rfl⟩
    rw [decide_eq_false k1,decide_eq_false k2]
    have pL:zie a L:=Classical.byContradiction fun h=>k1 (u2.2 h)
    have pM:zie b M:=Classical.byContradiction fun h=>k2 (w2.2 h)
    have fin4:=fun e=>zts a b na nb va vb fa fb low at_ high (by omega) (by omega) (by omega) (by omega) SL SM pL pM e
    generalize zoz a b low at_ high=PP at fin4 ⊢
    generalize zoy a b low at_ high=SS at fin4 ⊢
    generalize s28 (toL L) at_=f at fin4 ⊢
    generalize s28 (toL M) at_=k at fin4 ⊢
    obtain ⟨f1,f2⟩:=f
    obtain ⟨k1,k2⟩:=k
    dsimp only
    cases e1:f1 == k1
    ·exact ⟨rfl,rfl⟩
    cases e2:f2 == k2
    ·exact ⟨rfl,rfl⟩
    rw [beq_iff_eq] at e1 e2
    obtain ⟨g1,g2⟩:=fin4 (by rw [e1,e2])
    rw [g1,g2];exact ⟨rfl,rfl⟩
   obtain ⟨f1,f2⟩:=fin
   rw [f1,f2];exact ⟨rfl,rfl⟩
  ·exact ⟨rfl,rfl⟩
 ·exact ⟨rfl,rfl⟩
end Go.Proofs
