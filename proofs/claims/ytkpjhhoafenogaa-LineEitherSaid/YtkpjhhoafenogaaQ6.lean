/- Part 6 of what the proof rests on: a machine that runs functions of the program on pure values, proved sound; the functions that the law reaches, and what they compute. -/
import Derived.Test.YtkpjhhoafenogaaQ5
set_option linter.all false
namespace Go.Proofs
open Go Go.Pm
set_option maxRecDepth 100000
theorem zlI {c:Nat→Bool} {n:Nat} : fst c n < n↔∃ i,i < n∧c i=true:=by
 refine ⟨fun h=>⟨_,h,zBL h⟩,fun ⟨i,hi,hc⟩=>?_⟩
 rcases Nat.lt_or_ge (fst c n) n with h | h
 ·exact h
 ·have := zBK (c := c) (n := n) (j := i) (by omega)
  rw [hc] at this;cases this
def zoQ (g:Sl Gate):Prop:=∀ i,i < g.len→(g.get i).Z=(g.get 0).Z
def zk3 (g:Sl Gate) (s:straight):Prop:=∀ i,i < g.len→zef s (g.get i)=true
def zdN (g:Sl Gate) (s:straight):Prop:=∃ i,i < g.len∧zzC s (g.get i)=true
theorem ztd (g:Sl Gate) (G:zau g):p67 ⟨g⟩=true∧(s67 ⟨g⟩=true↔zoQ g):=by
  have hl:=G.2.2
  have hl1:=G.2.1
  have zDq:∀ x,zDq ⟨g⟩ x=true:=fun x=>by
    unfold zDq
    rw [decide_eq_true (show 0≤(0:Int)∧(0:Int) < ((⟨g⟩:list).Gates.len:Int) from ⟨by omega,by show (0:Int) < (g.len:Int);omega⟩)];rfl
  have := zml (c := zDp ⟨g⟩) (lpS := ziF ⟨g⟩) (lpP := ziG ⟨g⟩)
    (fun k s t i=>by
      show ziD ⟨g⟩ (ziF ⟨g⟩ k) s t i=_
      unfold ziD zmm;rfl)
    (fun k s t i=>by
      show ziE ⟨g⟩ (ziG ⟨g⟩ k) s t i=_
      unfold ziE zmn
      rw [zDq]
      simp only [decide_true,Bool.true_and])
    g (by omega)
  obtain ⟨a,b⟩:=this
  have e:zIz ⟨g⟩ g=true:=a
  have f:zIy ⟨g⟩ g=_:=b
  unfold p67 s67 p99 s99
  show (decide ((decide (zIz ⟨g⟩ g=true) && true)=true) && true)=true∧((!decide (zIy ⟨g⟩ g ≥ 0))=true↔_)
  rw [e,f]
  refine ⟨by simp,?_⟩
  rw [Bool.not_eq_true',decide_eq_false_iff_not]
  by_cases h:fst (fun i=>zDp ⟨g⟩ (g.get i)) g.len < g.len
  · rw [if_pos h]
    obtain ⟨i,hi,hc⟩:=zlI.1 h
    refine ⟨fun k=>absurd (show ((fst (fun i=>zDp ⟨g⟩ (g.get i)) g.len:Nat):Int) ≥ 0 by omega) k,fun k=>?_⟩
    have hc:((g.get i).Z != (g.get 0).Z)=true:=hc
    rw [k i hi] at hc
    simp at hc
  · rw [if_neg h]
    refine ⟨fun _ i hi=>?_,fun _=>by omega⟩
    have:=mt zlI.2 h
    have hc : ¬ ((g.get i).Z != (g.get 0).Z)=true:=fun hc=>this ⟨i,hi,hc⟩
    simpa using hc
theorem zKt (g:Sl Gate) (G:zau g) (v:Sl straight) {x:straight} (S:SOK x):p97 ⟨⟨g⟩,v⟩ x=true∧(s97 ⟨⟨g⟩,v⟩ x=true↔zk3 g x):=by
  have hl:=G.2.2
  have := zml (c := zDu x) (lpS := zgu x) (lpP := zgv x)
    (fun k s t i=>by
      show zgs x (zgu x k) s t i=_
      unfold zgs zjC;rfl)
    (fun k s t i=>by
      show zgt x (zgv x k) s t i=_
      unfold zgt zjD;rfl)
    g (by omega)
  obtain ⟨a,b⟩:=this
  have e:zvu x g=true:=a
  have f:zvt x g=_:=b
  unfold p97 s97 zKR zKQ
  show (decide ((decide (zvu x g=true) && true)=true) && true)=true∧((!decide (zvt x g ≥ 0))=true↔_)
  rw [e,f]
  refine ⟨by simp,?_⟩
  rw [Bool.not_eq_true',decide_eq_false_iff_not]
  by_cases h:fst (fun i=>zDu x (g.get i)) g.len < g.len
  · rw [if_pos h]
    obtain ⟨i,hi,hc⟩:=zlI.1 h
    refine ⟨fun k=>absurd (show ((fst (fun i=>zDu x (g.get i)) g.len:Nat):Int) ≥ 0 by omega) k,fun k=>?_⟩
    have hc:(!(zDs x (g.get i)))=true:=hc
    rw [zza S (G.1 i hi),k i hi] at hc
    cases hc
  · rw [if_neg h]
    refine ⟨fun _ i hi=>?_,fun _=>by omega⟩
    have:=mt zlI.2 h
    have hc : ¬ (!(zDs x (g.get i)))=true:=fun hc=>this ⟨i,hi,hc⟩
    rw [← zza S (G.1 i hi)]
    simpa using hc
theorem zze (g:Sl Gate) (G:zau g) (v:Sl straight) {x:straight} (S:SOK x):zHG ⟨⟨g⟩,v⟩ x=true∧(zt2 ⟨⟨g⟩,v⟩ x=true↔zdN g x):=by
  have hl:=G.2.2
  have := zml (c := zzy x) (lpS := zgy x) (lpP := zgz x)
    (fun k s t i=>by
      show zgw x (zgy x k) s t i=_
      unfold zgw zjE;rfl)
    (fun k s t i=>by
      show zgx x (zgz x k) s t i=_
      unfold zgx zjF;rfl)
    g (by omega)
  obtain ⟨a,b⟩:=this
  have e:zvy x g=true:=a
  have f:zvx x g=_:=b
  unfold zHG zt2 zKT zKS
  show (decide ((decide (zvy x g=true) && true)=true) && true)=true∧(decide (zvx x g ≥ 0)=true↔_)
  rw [e,f]
  refine ⟨by simp,?_⟩
  rw [decide_eq_true_eq]
  by_cases h:fst (fun i=>zzy x (g.get i)) g.len < g.len
  · rw [if_pos h]
    obtain ⟨i,hi,hc⟩:=zlI.1 h
    have hc:zzy x (g.get i)=true:=hc
    rw [zzb S (G.1 i hi)] at hc
    exact ⟨fun _=>⟨i,hi,hc⟩,fun _=>by omega⟩
  · rw [if_neg h]
    have:=mt zlI.2 h
    refine ⟨fun k=>absurd k (by omega),fun ⟨i,hi,hc⟩=>absurd ⟨i,hi,?_⟩ this⟩
    show zzy x (g.get i)=true
    rw [zzb S (G.1 i hi)];exact hc
theorem zCG {x:straight} (S:SOK x):p79 x=true∧s79 x=toL x:=by
 obtain ⟨S1,S2,S3⟩:=S
 obtain ⟨a1,a2⟩:=zs5 (num:=x.slope) (den:=x.den) (by omega) (by omega) (by omega) (by omega)
 obtain ⟨b1,b2⟩:=zs5 (num:=x.start) (den:=x.den) (by omega) (by omega) (by omega) (by omega)
 unfold p79 s79 toL
 rw [a1,a2,b1,b2]
 exact ⟨by simp,rfl⟩
-- the reference
theorem zkV (g:Sl Gate) (G:zau g):p22 g=true∧(s22 g=true↔zoQ g):=by
 have hl:=G.2.2
 have hl1:=G.2.1
 have key:∀ (m k i:Nat),i+m=g.len→m < k→zhK g k (i:Int)=true∧(zhJ g k (i:Int)=true↔∀ j,i≤j→j < g.len→(g.get j).Z=(g.get 0).Z):=by
  intro m
  induction m with
  | zero =>
   intro k i hi hk
   obtain ⟨k,rfl⟩:∃ k',k=k'+1:=⟨k - 1,by omega⟩
   show zhI g (zhK g k) _=_∧(zhH g (zhJ g k) _=_↔_)
   unfold zhI zhH
   rw [decide_eq_false (show ¬ (i:Int) < (g.len:Int) by omega),cond_false,cond_false]
   exact ⟨rfl,⟨fun _ j a b=>absurd b (by omega),fun _=>rfl⟩⟩
  | succ m ih =>
   intro k i hi hk
   obtain ⟨k,rfl⟩:∃ k',k=k'+1:=⟨k - 1,by omega⟩
   obtain ⟨i1,i2⟩:=ih k (i+1) (by omega) (by omega)
   show zhI g (zhK g k) _=_∧(zhH g (zhJ g k) _=_↔_)
   generalize zhK g k=P at i1
   generalize zhJ g k=S at i2
   unfold zhI zhH
   rw [decide_eq_true (show (i:Int) < (g.len:Int) by omega),decide_eq_true (show 0≤(i:Int)∧(i:Int) < (g.len:Int) by omega),decide_eq_true (show 0≤(0:Int)∧(0:Int) < (g.len:Int) by omega),cond_true,cond_true,Int.toNat_natCast,zaK (n:=g.len) (by omega) (by omega),i1]
   by_cases hz:(g.get i).Z=(g.get 0).Z
   ·rw [show ((g.get i).Z != (g.get 0).Z) = false by simpa using hz, cond_false, cond_false]
    refine ⟨by simp,i2.trans ⟨fun h j a b=>?_,fun h j a b=>h j (by omega) b⟩⟩
    by_cases hj:j=i
    ·rw [hj];exact hz
    ·exact h j (by omega) b
   ·rw [show ((g.get i).Z != (g.get 0).Z) = true by simpa using hz, cond_true, cond_true]
    exact ⟨by simp,⟨fun h=>(by cases h),fun h=>absurd (h i (Nat.le_refl _) (by omega)) hz⟩⟩
 obtain ⟨a,b⟩:=key (g.len - 1) Fuel 1 (by omega) (by simp only [Fuel];omega)
 refine ⟨a,Iff.trans b ⟨fun h i hi=>?_,fun h j _ hj=>h j hj⟩⟩
 by_cases h0:i=0
 ·rw [h0]
 ·exact h i (by omega) hi
theorem znv (g:Sl Gate) (G:zau g) {x:straight} (S:SOK x):zHH (toL x) g=true∧(zs3 (toL x) g=true↔zdN g x):=by
  have hl:=G.2.2
  have e := zrA (good := fun i => !(zzC x (g.get i))) (bad := true) (fin := false) (finP := true) (n := g.len) (lpS := zgJ (toL x) g) (lpP := zgK (toL x) g)
    (fun k i hi=>by
      show zgH (toL x) g (zgJ (toL x) g k) (i:Int)=_
      generalize zgJ (toL x) g k=F
      unfold zgH zsY
      rw [decide_eq_true (show (i:Int) < (g.len:Int) by omega),cond_true,Int.toNat_natCast,zzd S (G.1 i hi)]
      cases zzC x (g.get i) <;> rfl)
    (fun k=>by
      show zgH (toL x) g (zgJ (toL x) g k) (g.len:Int)=_
      unfold zgH
      rw [decide_eq_false (show ¬ (g.len:Int) < (g.len:Int) by omega),cond_false])
    (fun k i hi=>by
      show zgI (toL x) g (zgK (toL x) g k) (i:Int)=_
      generalize zgK (toL x) g k=F
      unfold zgI zsZ
      rw [decide_eq_true (show (i:Int) < (g.len:Int) by omega),decide_eq_true (show 0≤(i:Int)∧(i:Int) < (g.len:Int) by omega),cond_true,Int.toNat_natCast,zzd S (G.1 i hi),Bool.true_and,Bool.true_and]
      cases zzC x (g.get i) <;> rfl)
    (fun k=>by
      show zgI (toL x) g (zgK (toL x) g k) (g.len:Int)=_
      unfold zgI
      rw [decide_eq_false (show ¬ (g.len:Int) < (g.len:Int) by omega),cond_false])
    (by omega)
  by_cases h:∀ i,i < g.len→(!(zzC x (g.get i)))=true
  · obtain ⟨a, b⟩ := e.1 h
    have b:zs3 (toL x) g=false:=b
    refine ⟨a,?_⟩
    rw [b]
    refine ⟨fun h=>(by cases h),fun ⟨i,hi,hc⟩=>?_⟩
    have:=h i hi
    rw [hc] at this;cases this
  · obtain ⟨a, b⟩ := e.2 h
    have b:zs3 (toL x) g=true:=b
    refine ⟨a,?_⟩
    rw [b]
    refine ⟨fun _=>Classical.byContradiction fun hn=>h fun i hi=>?_,fun _=>rfl⟩
    cases hc:zzC x (g.get i)
    · rfl
    · exact absurd ⟨i,hi,hc⟩ hn
end Go.Proofs
namespace Go.Proofs
open Go Go.Pm
set_option maxRecDepth 100000
def zh7 (l:Line):List Int:=[l.Slope.Num,l.Slope.Den,l.Start.Num,l.Start.Den]
theorem zkW {a b:Line} (h:zh7 a=zh7 b):a=b:=by
 unfold zh7 at h
 simp only [List.cons.injEq,and_true] at h
 obtain ⟨h1,h2,h3,h4⟩:=h
 obtain ⟨⟨a1,a2⟩,a3,a4⟩:=a
 obtain ⟨⟨b1,b2⟩,b3,b4⟩:=b
 simp only at h1 h2 h3 h4
 rw [h1,h2,h3,h4]
abbrev zfh {α:Type} [Inhabited α]:Sl α:=⟨0,fun _=>default⟩
theorem zBi {g:Sl Gate} (h:zoQ g):cst g=[]:=by
 rcases List.eq_nil_or_concat (cst g) with e | ⟨l,x,e⟩
 ·exact e
 ·have : x ∈ cst g := by rw [e]; simp
  obtain ⟨a,b,h1,h2,hz,_⟩:=zrB this
  exact absurd ((h a (by omega)).trans (h b h2).symm) hz
theorem zBj (g:Sl Gate):∀ m i,(zzB g m i).length≤4 * g.len * m:=by
 intro m
 induction m with
 | zero=>intro i;exact Nat.le_refl _
 | succ m ih =>
  intro i
  show (zoP g i (g.len - (i+1)) (i+1) ++ zzB g m (i+1)).length≤_
  rw [List.length_append,Nat.mul_succ]
  have:=ih (i+1)
  have:=zs8 g i (g.len - (i+1)) (i+1)
  omega
theorem zrC {g:Sl Gate} (G:zau g):(cst g).length≤2304:=by
 have h1:=zBj g g.len 0
 have hl:=G.2.2
 have:4 * g.len * g.len≤4 * 24 * 24:=Nat.mul_le_mul (by omega) hl
 exact Nat.le_trans h1 this
theorem zHf (g:Sl Gate) (G:zau g):∀ (r acc:List straight) (n:Nat) (F:List Int→Option (List Int)),
    (∀ s∈r,SOK s)→acc.length+r.length≤10000→(∀ c,(zdI (F c) 0 != 0)=true↔∃ x∈acc,zh7 (toL x)=c)→acc.Pairwise (fun x y=>toL x ≠ toL y) →
    ∃ C:List straight,ze0 g r (acc.foldl apL zfh) n F=true∧zeZ g r (acc.foldl apL zfh) n F=⟨⟨g⟩,C.foldl apL zfh⟩ ∧
      (∀ s∈C,s∈acc∨(s∈r∧zk3 g s))∧(∀ s∈acc,s∈C)∧(∀ s∈r,zk3 g s→∃ x∈C,toL x=toL s)∧C.Pairwise (fun x y=>toL x ≠ toL y):=by
  intro r
  induction r with
  | nil =>
    intro acc n F _ _ _ hp
    exact ⟨acc,rfl,rfl,fun s h=>.inl h,fun s h=>h,(fun s h=>by cases h),hp⟩
  | cons y r ih =>
    intro acc n F hs hl hF hp
    have hs':∀ s∈r,SOK s:=fun s h=>hs s (List.mem_cons_of_mem _ h)
    have Sy:=hs y List.mem_cons_self
    obtain ⟨e1,e2⟩:=zCG Sy
    obtain ⟨a1,a2⟩:=zKt g G (acc.foldl apL zfh) Sy
    rw [List.length_cons] at hl
    show ∃ C:List straight,zjJ g y (ze0 g r) (acc.foldl apL zfh) n F=true∧zjI g y (zeZ g r) (acc.foldl apL zfh) n F=_∧_
    unfold zjJ zjI
    rw [e1,e2,a1]
    have hcode:([(toL y).Slope.Num,(toL y).Slope.Den,(toL y).Start.Num,(toL y).Start.Den]:List Int)=zh7 (toL y):=rfl
    rw [hcode]
    have skip:(∃ C:List straight,ze0 g r (acc.foldl apL zfh) n F=true∧zeZ g r (acc.foldl apL zfh) n F=⟨⟨g⟩,C.foldl apL zfh⟩ ∧
      (∀ s∈C,s∈acc∨(s∈r∧zk3 g s))∧(∀ s∈acc,s∈C)∧(∀ s∈r,zk3 g s→∃ x∈C,toL x=toL s)∧C.Pairwise (fun x y=>toL x ≠ toL y)):=ih acc n F hs' (by omega) hF hp
    by_cases h1:(zdI (F (zh7 (toL y))) 0 != 0)=true
    · obtain ⟨C, c1, c2, c3, c4, c5, c6⟩ := skip
      rw [h1]
      refine ⟨C,by simp only [decide_true,Bool.true_and,Bool.not_true,cond_false];exact c1,by simp only [Bool.not_true,cond_false];exact c2,fun s h=>(c3 s h).imp id fun k=>⟨List.mem_cons_of_mem _ k.1,k.2⟩,c4,fun s h ha=>?_,c6⟩
      rcases List.mem_cons.1 h with rfl | h
      · obtain ⟨x, hx, hc⟩ := (hF _).1 h1
        exact ⟨x,c4 x hx,zkW hc⟩
      · exact c5 s h ha
    · have h1' : (zdI (F (zh7 (toL y))) 0 != 0) = false := by simpa using h1
      rw [h1']
      by_cases h2:s97 ⟨⟨g⟩,acc.foldl apL zfh⟩ y=true
      · rw [h2]
        have hlen:(acc.foldl apL zfh).len=acc.length:=by rw [zch];simp
        have hfold:(⟨(acc.foldl apL zfh).len+1,zc7 (acc.foldl apL zfh).len (acc.foldl apL zfh).get (fun _=>y)⟩:Sl straight)=(acc ++ [y]).foldl apL zfh:=by rw [List.foldl_append];rfl
        rw [hfold,hlen,decide_eq_true (show (acc.length+1) * 24≤140737488355328∧acc.length+1≤9223372036854775807 by omega)]
        obtain ⟨C, c1, c2, c3, c4, c5, c6⟩ := ih (acc ++ [y]) (addN (F (zh7 (toL y))) n) (zle (zh7 (toL y)) [1] F) hs' (by rw [List.length_append]; simp only [List.length_cons, List.length_nil]; omega)
          (fun c=>by
            unfold zle
            by_cases hc:c=zh7 (toL y)
            · rw [decide_eq_true hc]
              exact ⟨fun _=>⟨y,by simp,hc.symm⟩,fun _=>rfl⟩
            · rw [decide_eq_false hc]
              refine (hF c).trans ⟨fun ⟨x,hx,e⟩=>⟨x,List.mem_append.2 (.inl hx),e⟩,fun ⟨x,hx,e⟩=>?_⟩
              rcases List.mem_append.1 hx with hx | hx
              · exact ⟨x,hx,e⟩
              · rw [List.mem_singleton.1 hx] at e;exact absurd e.symm hc)
          (by
            rw [List.pairwise_append]
            refine ⟨hp,List.pairwise_singleton _ _,fun a ha b hb=>?_⟩
            rw [List.mem_singleton.1 hb]
            exact fun e=>h1 ((hF _).2 ⟨a,ha,by rw [e]⟩))
        have hy:y∈C:=c4 y (by simp)
        refine ⟨C,by simp only [decide_true,Bool.true_and,Bool.not_false,cond_true];exact c1,by simp only [Bool.not_false,cond_true];exact c2,fun s h=>?_,fun s h=>c4 s (List.mem_append.2 (.inl h)),fun s h ha=>?_,c6⟩
        · rcases c3 s h with h | h
          · rcases List.mem_append.1 h with h | h
            · exact .inl h
            · rw [List.mem_singleton.1 h];exact .inr ⟨List.mem_cons_self,a2.1 h2⟩
          · exact .inr ⟨List.mem_cons_of_mem _ h.1,h.2⟩
        · rcases List.mem_cons.1 h with rfl | h
          · exact ⟨s,hy,rfl⟩
          · exact c5 s h ha
      · have h2' : s97 ⟨⟨g⟩, acc.foldl apL zfh⟩ y = false := by simpa using h2
        rw [h2']
        obtain ⟨C,c1,c2,c3,c4,c5,c6⟩:=skip
        refine ⟨C,by simp only [decide_true,Bool.true_and,Bool.not_false,cond_true,cond_false];exact c1,by simp only [Bool.not_false,cond_true,cond_false];exact c2,fun s h=>(c3 s h).imp id fun k=>⟨List.mem_cons_of_mem _ k.1,k.2⟩,c4,fun s h ha=>?_,c6⟩
        rcases List.mem_cons.1 h with rfl | h
        · exact absurd (a2.2 ha) h2
        · exact c5 s h ha
theorem ziS (g:Sl Gate) (G:zau g):∃ C:List straight,p65 g=true∧s65 g=⟨⟨g⟩,C.foldl apL zfh⟩∧(∀ s∈C,s∈cst g∧zk3 g s)∧(∀ s∈cst g,zk3 g s→∃ x∈C,toL x=toL s)∧C.Pairwise (fun x y=>toL x ≠ toL y):=by
 obtain ⟨e1,e2⟩:=ztd g G
 obtain ⟨f1,f2⟩:=zHe g G
 unfold p65 s65
 rw [e1]
 by_cases hf:zoQ g
 ·rw [e2.2 hf]
  refine ⟨[],rfl,rfl,(fun s h=>by cases h),fun s h=>?_,List.Pairwise.nil⟩
  rw [zBi hf] at h;cases h
 ·have : s67 ⟨g⟩ = false := by cases h : s67 ⟨g⟩; rfl; exact absurd (e2.1 h) hf
  rw [this]
  unfold zmw zmv zmu zmt zms zpQ
  rw [f1,f2]
  obtain ⟨C,c1,c2,c3,_,c5,c6⟩:=zHf g G (cst g) [] 0 (fun _=>none) (fun s h=>zkU G h) (by have:=zrC G;simp only [List.length_nil];omega) (fun c=>⟨fun h=>by simp [zdI] at h,fun ⟨x,hx,_⟩=>by cases hx⟩) List.Pairwise.nil
  refine ⟨C,by simp only [decide_true,Bool.true_and,cond_false];exact c1,by simp only [cond_false];exact c2,fun s h=>?_,c5,c6⟩
  rcases c3 s h with h | h
  ·cases h
  ·exact h
end Go.Proofs
namespace Go.Proofs
open Go Go.Pm
set_option maxRecDepth 100000
theorem zBk (l:Line) (g:Sl Gate):∀ (m i:Nat) (v:Sl Int),i+m=g.len→v.len≤i→((zf5 (addI l g) m i v).len < g.len↔v.len < i∨∃ j,i≤j∧j < g.len∧s72 l (g.get j)=false):=by
 intro m
 induction m with
 | zero =>
  intro i v hi hv
  have:i=g.len:=by omega
  subst this
  exact ⟨fun h=>.inl h,fun h=>h.elim id fun ⟨j,a,b,_⟩=>absurd b (by omega)⟩
 | succ m ih =>
  intro i v hi hv
  show (zf5 (addI l g) m (i+1) (addI l g i v)).len < g.len↔_
  rw [ih (i+1) (addI l g i v) (by omega) (zs4 l g i v hv)]
  unfold addI
  cases h:s72 l (g.get i)
  ·rw [cond_false]
   exact ⟨fun _=>.inr ⟨i,Nat.le_refl _,by omega,h⟩,fun _=>.inl (by omega)⟩
  ·rw [cond_true]
   refine ⟨fun k=>k.imp (fun (k:v.len+1 < i+1)=>by omega) fun ⟨j,a,b,c⟩=>⟨j,by omega,b,c⟩,fun k=>k.imp (fun k=>by show v.len+1 < i+1;omega) fun ⟨j,a,b,c⟩=>⟨j,?_,b,c⟩⟩
   by_cases hj:j=i
   ·rw [hj,h] at c;cases c
   ·omega
theorem zte {g:Sl Gate} (G:zau g) {s:straight} (S:SOK s):p27 (toL s) g=true∧(((s27 (toL s) g).len:Int) < (g.len:Int)↔¬ zk3 g s):=by
 have hl:=G.2.2
 obtain ⟨a,b⟩:=zKr (toL s) g (by omega)
 refine ⟨a,?_⟩
 rw [b]
 have:=zBk (toL s) g g.len 0 (⟨0,fun _=>default⟩:Sl Int) (by omega) (Nat.le_refl _)
 have e:((zK5 (toL s) g).len < g.len↔_):=this
 rw [show (((zK5 (toL s) g).len:Int) < (g.len:Int))↔(zK5 (toL s) g).len < g.len by omega,e]
 constructor
 ·rintro (h | ⟨j, _, hj, hc⟩)
  ·exact absurd h (by omega)
  ·intro h
   have:=h j hj
   rw [← ztc S (G.1 j hj),hc] at this;cases this
 ·intro h
  refine .inr (Classical.byContradiction fun hn=>h fun i hi=>?_)
  rw [← ztc S (G.1 i hi)]
  cases hc:s72 (toL s) (g.get i)
  ·exact absurd ⟨i,Nat.zero_le _,hi,hc⟩ hn
  ·rfl
theorem zoR {α:Type} (l:List α):∀ (v:Sl α) (i:Nat),i < v.len→(l.foldl apL v).get i=v.get i:=by
 induction l with
 | nil=>intro v i _;rfl
 | cons x l ih =>
  intro v i hi
  rw [List.foldl_cons,ih _ _ (show i < v.len+1 by omega)]
  show zc7 v.len v.get (fun _=>x) i=_
  unfold zc7
  rw [show Nat.ble v.len i=false by rw [← Bool.not_eq_true,Nat.ble_eq];omega]
theorem zgO {α:Type} (l:List α):∀ (v:Sl α) (i:Nat) (x:α),l[i]? = some x→(l.foldl apL v).get (v.len+i)=x:=by
 induction l with
 | nil=>intro v i x h;simp at h
 | cons y l ih =>
  intro v i x h
  rw [List.foldl_cons]
  cases i with
  | zero =>
   have h:some y=some x:=h
   cases h
   rw [zoR _ _ _ (show v.len+0 < v.len+1 by omega)]
   show zc7 v.len v.get (fun _=>y) (v.len+0)=_
   unfold zc7
   rw [show Nat.ble v.len (v.len+0)=true by rw [Nat.ble_eq];omega]
  | succ i =>
   have:=ih (apL v y) i x (by simpa using h)
   rw [← this]
   show _=(l.foldl apL (apL v y)).get (v.len+1+i)
   congr 1;omega
def zgP (g:Sl Gate) (l:Line):Prop:=∃ s∈cst g,zk3 g s∧toL s=l
theorem zKu {g:Sl Gate} (G:zau g) {a b:Line} (ha:zgP g a) (hb:zgP g b):p81 a b g=true:=by
 obtain ⟨x,hx,_,rfl⟩:=ha
 obtain ⟨y,hy,_,rfl⟩:=hb
 unfold p81 zyN
 rw [(znv g G (zkU G hx)).1,(znv g G (zkU G hy)).1]
 cases (zs3 (toL x) g != zs3 (toL y) g) <;> simp
def zHg (out:Sl Line) (A:Nat) (x:Line):Sl Line :=
 ⟨(((A:Int) - (0:Int)).toNat+1)+((out.len:Int) - (A:Int)).toNat,(zc7 (((A:Int) - (0:Int)).toNat+1) (zc7 (((A:Int) - (0:Int)).toNat) (fun i=>out.get (i+((0:Int).toNat))) (fun _=>x)) (fun i=>out.get (i+A)))⟩
theorem znw {out:Sl Line} {A:Nat} {x:Line} (h:A≤out.len):(zHg out A x).len=out.len+1:=by
 show (((A:Int) - (0:Int)).toNat+1)+((out.len:Int) - (A:Int)).toNat=_;omega
theorem zh8 {out:Sl Line} {A:Nat} {x:Line} (j:Nat):(zHg out A x).get j=if j < A then out.get j else if j=A then x else out.get (j - 1):=by
 have e:((A:Int) - (0:Int)).toNat=A:=by omega
 show zc7 (((A:Int) - (0:Int)).toNat+1) (zc7 (((A:Int) - (0:Int)).toNat) (fun i=>out.get (i+((0:Int).toNat))) (fun _=>x)) (fun i=>out.get (i+A)) j=_
 rw [e]
 unfold zc7
 by_cases h1:A+1≤j
 ·rw [show Nat.ble (A + 1) j = true by rw [Nat.ble_eq]; exact h1, if_neg (by omega), if_neg (by omega)]
  show out.get (j - (A+1)+A)=_
  congr 1;omega
 ·rw [show Nat.ble (A + 1) j = false by rw [← Bool.not_eq_true, Nat.ble_eq]; exact h1]
  by_cases h2:A≤j
  ·have : j = A := by omega
   subst this
   rw [show Nat.ble j j=true by rw [Nat.ble_eq];omega,if_neg (by omega),if_pos rfl]
  ·rw [show Nat.ble A j = false by rw [← Bool.not_eq_true, Nat.ble_eq]; exact h2, if_pos (by omega)]
   rfl
open Classical in
noncomputable def zd2 (out:Sl Line) (A:Nat) (x:Line):Sl Line:=if A < out.len∧out.get A=x then out else zHg out A x
theorem zNR (g : Sl Gate) (lv : Sl Line) (i : Nat) (hi : i < lv.len) (hlv : lv.len ≤ 10000) (S1 : Sl Line → Int → Sl Line) (P1 : Sl Line → Int → Bool) (out : Sl Line) (A : Nat) (hA : A ≤ out.len) (ho : out.len ≤ 10000) :
  znk P1 g lv out (i:Int) (A:Int)=P1 (zd2 out A (lv.get i)) ((i+1:Nat):Int)∧znj S1 g lv out (i:Int) (A:Int)=S1 (zd2 out A (lv.get i)) ((i+1:Nat):Int):=by
 have w:=zaK (n:=lv.len) hi (by omega)
 have k1:decide (0≤(i:Int)∧(i:Int) < (lv.len:Int))=true:=decide_eq_true (by omega)
 have k2:decide (0≤(0:Int)∧(0:Int)≤(A:Int)∧(A:Int)≤(out.len:Int))=true:=decide_eq_true (by omega)
 have k3:decide (((A:Int) - (0:Int)).toNat * 32≤140737488355328∧((A:Int) - (0:Int)).toNat≤9223372036854775807)=true:=decide_eq_true (by omega)
 have k4:decide ((((A:Int) - (0:Int)).toNat+1) * 32≤140737488355328∧((A:Int) - (0:Int)).toNat+1≤9223372036854775807)=true:=decide_eq_true (by omega)
 have k5:decide (0≤(A:Int)∧(A:Int)≤(out.len:Int)∧(out.len:Int)≤(out.len:Int))=true:=decide_eq_true (by omega)
 have k6:decide (((((A:Int) - (0:Int)).toNat+1)+((out.len:Int) - (A:Int)).toNat) * 32≤140737488355328∧(((A:Int) - (0:Int)).toNat+1)+((out.len:Int) - (A:Int)).toNat≤9223372036854775807)=true:=decide_eq_true (by omega)
 unfold znk znj zd2
 rw [Int.toNat_natCast,Int.toNat_natCast,k1,k2,k3,k4,k5,k6,w]
 by_cases h1:A < out.len
 ·rw [decide_eq_true (show (A : Int) < (out.len : Int) by omega), decide_eq_true (show 0 ≤ (A : Int) ∧ (A : Int) < (out.len : Int) by omega)]
  by_cases h2:out.get A=lv.get i
  ·rw [if_pos ⟨h1, h2⟩, h2, beq_self_eq_true, beq_self_eq_true, beq_self_eq_true, beq_self_eq_true]
   exact ⟨rfl,rfl⟩
  ·rw [if_neg fun h => h2 h.2]
   have hne : ¬ (((out.get A).Slope.Num == (lv.get i).Slope.Num)=true∧((out.get A).Slope.Den == (lv.get i).Slope.Den)=true∧((out.get A).Start.Num == (lv.get i).Start.Num)=true∧((out.get A).Start.Den == (lv.get i).Start.Den)=true):=by
    rintro ⟨a,b,c,d⟩
    rw [beq_iff_eq] at a b c d
    exact h2 (zkW (by unfold zh7;rw [a,b,c,d]))
   generalize ((out.get A).Slope.Num == (lv.get i).Slope.Num)=b1 at hne ⊢
   generalize ((out.get A).Slope.Den == (lv.get i).Slope.Den)=b2 at hne ⊢
   generalize ((out.get A).Start.Num == (lv.get i).Start.Num)=b3 at hne ⊢
   generalize ((out.get A).Start.Den == (lv.get i).Start.Den)=b4 at hne ⊢
   cases b1 <;> cases b2 <;> cases b3 <;> cases b4 <;> first | exact ⟨rfl,rfl⟩ | exact absurd ⟨rfl,rfl,rfl,rfl⟩ hne
 ·rw [if_neg fun h => h1 h.1, decide_eq_false (show ¬ (A : Int) < (out.len : Int) by omega)]
  exact ⟨rfl,rfl⟩
theorem zPX (g : Sl Gate) (G : zau g) (lv : Sl Line) (i : Nat) (hi : i < lv.len) (hlv : lv.len ≤ 10000) (hx : zgP g (lv.get i)) (S1 : Sl Line → Int → Sl Line) (P1 : Sl Line → Int → Bool) (out : Sl Line) (ho : out.len ≤ 10000) (hM : ∀ j, j < out.len → zgP g (out.get j)) :
  ∀ (m k a:Nat),a+m=out.len→m < k →
  zko P1 g lv k out (i:Int) (a:Int)=P1 (zd2 out (zk9 (fun j=>!(s81 (out.get j) (lv.get i) g)) m a) (lv.get i)) ((i+1:Nat):Int) ∧
  zh3 S1 g lv k out (i:Int) (a:Int)=S1 (zd2 out (zk9 (fun j=>!(s81 (out.get j) (lv.get i) g)) m a) (lv.get i)) ((i+1:Nat):Int):=by
 intro m
 induction m with
 | zero =>
  intro k a ha hk
  obtain ⟨k,rfl⟩:∃ k',k=k'+1:=⟨k - 1,by omega⟩
  show zkn P1 g lv (zko P1 g lv k) _ _ _=P1 (zd2 out a _) _∧zkm S1 g lv (zh3 S1 g lv k) _ _ _=S1 (zd2 out a _) _
  unfold zkn zkm
  rw [decide_eq_false (show ¬ (a:Int) < (out.len:Int) by omega),cond_false,cond_false]
  exact zNR g lv i hi hlv S1 P1 out a (by omega) ho
 | succ m ih =>
  intro k a ha hk
  obtain ⟨k,rfl⟩:∃ k',k=k'+1:=⟨k - 1,by omega⟩
  obtain ⟨i1,i2⟩:=ih k (a+1) (by omega) (by omega)
  show zkn P1 g lv (zko P1 g lv k) _ _ _=_∧zkm S1 g lv (zh3 S1 g lv k) _ _ _=_
  generalize zko P1 g lv k=P at i1
  generalize zh3 S1 g lv k=S at i2
  unfold zkn zkm
  rw [decide_eq_true (show (a:Int) < (out.len:Int) by omega),decide_eq_true (show 0≤(a:Int)∧(a:Int) < (out.len:Int) by omega),decide_eq_true (show 0≤(i:Int)∧(i:Int) < (lv.len:Int) by omega),Int.toNat_natCast,Int.toNat_natCast,zKu G (hM a (by omega)) hx,zaK (n:=out.len) (by omega) (by omega)]
  cases h:s81 (out.get a) (lv.get i) g
  ·rw [zvb (c := fun j => !(s81 (out.get j) (lv.get i) g)) (by show (!(s81 (out.get a) (lv.get i) g)) = true; rw [h]; rfl)]
   exact zNR g lv i hi hlv S1 P1 out a (by omega) ho
  ·rw [zvc (c := fun j => !(s81 (out.get j) (lv.get i) g)) (by show (!(s81 (out.get a) (lv.get i) g)) = false; rw [h]; rfl)]
   exact ⟨i1,i2⟩
end Go.Proofs
namespace Go.Proofs
open Go Go.Pm
set_option maxRecDepth 100000
def Bef (g:Sl Gate) (a b:Line):Prop:=s81 a b g=true
def Tot (g:Sl Gate):Prop:=(∀ a b c,zgP g a→zgP g b→zgP g c→Bef g a b→Bef g b c→Bef g a c)∧∀ a b,zgP g a→zgP g b→a ≠ b→Bef g a b∨Bef g b a
def Srt (g:Sl Gate) (v:Sl Line):Prop:=∀ i j,i < j→j < v.len→Bef g (v.get i) (v.get j)
theorem ztf {g:Sl Gate} (G:zau g) {s:straight} (h:s∈cst g):zgP g (toL s)↔zk3 g s:=by
 refine ⟨fun ⟨x,hx,ha,e⟩ i hi=>?_,fun ha=>⟨s,h,ha,rfl⟩⟩
 rw [← ztc (zkU G h) (G.1 i hi),← e,ztc (zkU G hx) (G.1 i hi)]
 exact ha i hi
theorem put_mem {g:Sl Gate} {out:Sl Line} {A:Nat} {x:Line} (hA:A≤out.len) (hM:∀ j,j < out.len→zgP g (out.get j)) (hx:zgP g x):∀ j,j < (zd2 out A x).len→zgP g ((zd2 out A x).get j):=by
 unfold zd2
 by_cases h:A < out.len∧out.get A=x
 ·rw [if_pos h];exact hM
 ·rw [if_neg h]
  intro j hj
  rw [znw hA] at hj
  rw [zh8]
  split
  ·exact hM j (by omega)
  ·split
   ·exact hx
   ·exact hM (j - 1) (by omega)
theorem zHh {out:Sl Line} {A:Nat} {x:Line} (hA:A≤out.len):(∃ j,j < (zd2 out A x).len∧(zd2 out A x).get j=x)∧∀ j,j < out.len→∃ i,i < (zd2 out A x).len∧(zd2 out A x).get i=out.get j:=by
 unfold zd2
 by_cases h:A < out.len∧out.get A=x
 ·rw [if_pos h];exact ⟨⟨A,h.1,h.2⟩,fun j hj=>⟨j,hj,rfl⟩⟩
 ·rw [if_neg h, znw hA]
  refine ⟨⟨A,by omega,by rw [zh8,if_neg (by omega),if_pos rfl]⟩,fun j hj=>?_⟩
  by_cases hj2:j < A
  ·exact ⟨j,by omega,by rw [zh8,if_pos hj2]⟩
  ·exact ⟨j+1,by omega,by rw [zh8,if_neg (by omega),if_neg (by omega)];rfl⟩
theorem zHi {out:Sl Line} {A:Nat} {x:Line} (hA:A≤out.len):(zd2 out A x).len≤out.len+1:=by
 unfold zd2;split
 ·omega
 ·rw [znw hA];omega
theorem zHj {g : Sl Gate} (T : Tot g) {out : Sl Line} {x : Line} (hM : ∀ j, j < out.len → zgP g (out.get j)) (hx : zgP g x) (hs : Srt g out) :
  Srt g (zd2 out (zk9 (fun j=>!(s81 (out.get j) x g)) out.len 0) x):=by
 have hle:=zBJ (fun j=>!(s81 (out.get j) x g)) out.len
 have hlo:∀ j,j < fst (fun j=>!(s81 (out.get j) x g)) out.len→Bef g (out.get j) x:=fun j hj=>by
  have:(!(s81 (out.get j) x g))=false:=zBK (c:=fun j=>!(s81 (out.get j) x g)) hj
  show s81 (out.get j) x g=true
  cases h:s81 (out.get j) x g
  ·rw [h] at this;cases this
  ·rfl
 have hhi:fst (fun j=>!(s81 (out.get j) x g)) out.len < out.len→¬ Bef g (out.get (fst (fun j=>!(s81 (out.get j) x g)) out.len)) x:=fun h hb=>by
  have:(!(s81 (out.get (fst (fun j=>!(s81 (out.get j) x g)) out.len)) x g))=true:=zBL (c:=fun j=>!(s81 (out.get j) x g)) h
  have hb:s81 (out.get (fst (fun j=>!(s81 (out.get j) x g)) out.len)) x g=true:=hb
  rw [hb] at this;cases this
 show Srt g (zd2 out (fst (fun j=>!(s81 (out.get j) x g)) out.len) x)
 generalize fst (fun j=>!(s81 (out.get j) x g)) out.len=A at hle hlo hhi ⊢
 unfold zd2
 by_cases h:A < out.len∧out.get A=x
 ·rw [if_pos h];exact hs
 ·rw [if_neg h]
  intro i j hij hj
  rw [znw hle] at hj
  rw [zh8,zh8]
  by_cases j1:j < A
  ·rw [if_pos (show i < A by omega),if_pos j1];exact hs i j hij (by omega)
  ·rw [if_neg j1]
   by_cases j2:j=A
   ·rw [if_pos j2,if_pos (show i < A by omega)];exact hlo i (by omega)
   ·rw [if_neg j2]
    by_cases i1:i < A
    ·rw [if_pos i1];exact hs i (j - 1) (by omega) (by omega)
    ·rw [if_neg i1]
     by_cases i2:i=A
     ·rw [if_pos i2]
      have hA:A < out.len:=by omega
      have b1:Bef g x (out.get A):=(T.2 x (out.get A) hx (hM A hA) (fun e=>h ⟨hA,e.symm⟩)).resolve_right (hhi hA)
      by_cases j3:j - 1=A
      ·rw [j3];exact b1
      ·exact T.1 _ _ _ hx (hM A hA) (hM (j - 1) (by omega)) b1 (hs A (j - 1) (by omega) (by omega))
     ·rw [if_neg i2];exact hs (i - 1) (j - 1) (by omega) (by omega)
structure Inv33 (g : Sl Gate) (lv : Sl Line) (i : Nat) (out : Sl Line) : Prop where
  len:out.len≤i
  mem:∀ j,j < out.len→zgP g (out.get j)
  has:∀ j,j < i→zgP g (lv.get j)→∃ a,a < out.len∧out.get a=lv.get j
  srt:Tot g→Srt g out
theorem zM4 (g:Sl Gate) (G:zau g) (lv:Sl Line) (hlv:lv.len≤10000) (hc:∀ i,i < lv.len→∃ s∈cst g,lv.get i=toL s):∀ (m k i:Nat) (out:Sl Line),i+m=lv.len→m < k→Inv33 g lv i out →
  zkr g lv k out (i:Int)=true∧Inv33 g lv lv.len (zh4 g lv k out (i:Int)):=by
 intro m
 induction m with
 | zero =>
  intro k i out hi hk I
  obtain ⟨k,rfl⟩:∃ k',k=k'+1:=⟨k - 1,by omega⟩
  show zkq g lv (zkr g lv k) _ _=_∧Inv33 g lv lv.len (zkp g lv (zh4 g lv k) _ _)
  unfold zkq zkp
  rw [decide_eq_false (show ¬ (i:Int) < (lv.len:Int) by omega),cond_false,cond_false]
  have:i=lv.len:=by omega
  rw [← this]
  exact ⟨rfl,I⟩
 | succ m ih =>
  intro k i out hi hk I
  obtain ⟨k,rfl⟩:∃ k',k=k'+1:=⟨k - 1,by omega⟩
  have ih:=fun out I=>ih k (i+1) out (by omega) (by omega) I
  show zkq g lv (zkr g lv k) _ _=_∧Inv33 g lv lv.len (zkp g lv (zh4 g lv k) _ _)
  generalize zkr g lv k=P at ih
  generalize zh4 g lv k=S at ih
  obtain ⟨s,hs,es⟩:=hc i (by omega)
  obtain ⟨p1,p2⟩:=zte G (zkU G hs)
  rw [← es] at p1 p2
  unfold zkq zkp zyP zyO
  rw [decide_eq_true (show (i:Int) < (lv.len:Int) by omega),decide_eq_true (show 0≤(i:Int)∧(i:Int) < (lv.len:Int) by omega),Int.toNat_natCast,p1,zaK (n:=lv.len) (by omega) (by omega),cond_true,cond_true]
  by_cases ha:zk3 g s
  ·rw [decide_eq_false (fun h => p2.1 h ha), cond_false, cond_false]
   have hx:zgP g (lv.get i):=by rw [es];exact (ztf G hs).2 ha
   have hl:=I.len
   obtain ⟨b1,b2⟩:=zPX g G lv i (by omega) hlv hx S P out (by omega) I.mem out.len Fuel 0 (by omega) (by simp only [Fuel];omega)
   have hA:=zBJ (fun j=>!(s81 (out.get j) (lv.get i) g)) out.len
   have I':Inv33 g lv (i+1) (zd2 out (zk9 (fun j=>!(s81 (out.get j) (lv.get i) g)) out.len 0) (lv.get i)):=by
    refine ⟨Nat.le_trans (zHi hA) (by omega),put_mem hA I.mem hx,fun j hj hm=>?_,fun T=>zHj T I.mem hx (I.srt T)⟩
    obtain ⟨q1,q2⟩:=zHh (out:=out) (x:=lv.get i) hA
    by_cases hji:j=i
    ·rw [hji];exact q1
    ·obtain ⟨a, ha1, ha2⟩ := I.has j (by omega) hm
     obtain ⟨c,hc1,hc2⟩:=q2 a ha1
     exact ⟨c,hc1,hc2.trans ha2⟩
   have:=ih _ I'
   refine ⟨?_,?_⟩
   ·simp only [decide_true,Bool.true_and];exact b1.trans this.1
   ·have e : zh3 S g lv Fuel out (i : Int) (0 : Int) = _ := b2
    rw [e];exact this.2
  ·rw [decide_eq_true (p2.2 ha), cond_true, cond_true]
   have I':Inv33 g lv (i+1) out:=by
    refine ⟨by have:=I.len;omega,I.mem,fun j hj hm=>?_,I.srt⟩
    by_cases hji:j=i
    ·rw [hji,es,ztf G hs] at hm;exact absurd hm ha
    ·exact I.has j (by omega) hm
   have:=ih _ I'
   exact ⟨by simp only [decide_true,Bool.true_and];exact this.1,this.2⟩
theorem zzf (g:Sl Gate) (G:zau g):p33 g=true∧(s33 g).len≤2304∧(∀ j,j < (s33 g).len→zgP g ((s33 g).get j))∧(∀ l,zgP g l→∃ a,a < (s33 g).len∧(s33 g).get a=l)∧(Tot g→Srt g (s33 g)):=by
  obtain ⟨e1,e2⟩:=zKs g G
  have hlen:(((cst g).map toL).foldl apL (⟨0,fun _=>default⟩:Sl Line)).len=(cst g).length:=by rw [zch,List.length_map];simp
  have hget:∀ i s,(cst g)[i]? = some s→(((cst g).map toL).foldl apL (⟨0,fun _=>default⟩:Sl Line)).get i=toL s:=fun i s h=>by
    have:=zgO ((cst g).map toL) (⟨0,fun _=>default⟩:Sl Line) i (toL s) (by rw [List.getElem?_map,h];rfl)
    rw [Nat.zero_add] at this;exact this
  have hc:=zrC G
  obtain ⟨a, I⟩ := zM4 g G (((cst g).map toL).foldl apL (⟨0, fun _ => default⟩ : Sl Line)) (by omega)
    (fun i hi=>by
      rw [hlen] at hi
      exact ⟨(cst g)[i],List.getElem_mem _,hget i _ (List.getElem?_eq_getElem hi)⟩)
    (cst g).length Fuel 0 (⟨0,fun _=>default⟩:Sl Line) (by omega) (by simp only [Fuel];omega)
    ⟨Nat.le_refl _,fun j hj=>absurd hj (Nat.not_lt_zero _),fun j hj=>absurd hj (Nat.not_lt_zero _),fun _ i j _ hj=>absurd hj (Nat.not_lt_zero _)⟩
  have es:s33 g=zh4 g (((cst g).map toL).foldl apL (⟨0,fun _=>default⟩:Sl Line)) Fuel (⟨0,fun _=>default⟩:Sl Line) (0:Int):=by
    unfold s33;rw [e2];rfl
  have I:Inv33 g (((cst g).map toL).foldl apL (⟨0,fun _=>default⟩:Sl Line)) (((cst g).map toL).foldl apL (⟨0,fun _=>default⟩:Sl Line)).len (s33 g):=by rw [es];exact I
  refine ⟨?_,by have:=I.len;omega,I.mem,fun l ⟨s,hs,ha,e⟩=>?_,I.srt⟩
  · unfold p33
    rw [e1,e2]
    simp only [decide_true,Bool.true_and]
    exact a
  · obtain ⟨i, hi⟩ := List.getElem?_of_mem hs
    have hi2:i < (cst g).length:=(List.getElem?_eq_some_iff.1 hi).1
    have hgi:=hget i s hi
    obtain ⟨b,hb1,hb2⟩:=I.has i (by omega) (by rw [hgi];exact ⟨s,hs,ha,rfl⟩)
    exact ⟨b,hb1,by rw [hb2,hgi,e]⟩
end Go.Proofs
namespace Go.Proofs
open Go Go.Pm
set_option maxRecDepth 100000
def cmS (g:Sl Gate) (i:Nat) (s:Int×Int):Int×Int:=(if (g.get i).Low > s.1 then (g.get i).Low else s.1,if (g.get i).High < s.2 then (g.get i).High else s.2)
def com (g:Sl Gate):Int×Int:=zf5 (cmS g) (g.len - 1) 1 ((g.get 0).Low,(g.get 0).High)
theorem zPY (g:Sl Gate) (h:1≤g.len):zf5 (cmS g) g.len 0 ((g.get 0).Low,(g.get 0).High)=com g:=by
 obtain ⟨m,hm⟩:∃ m,g.len=m+1:=⟨g.len - 1,by omega⟩
 unfold com
 rw [hm]
 show zf5 (cmS g) m 1 (cmS g 0 ((g.get 0).Low,(g.get 0).High))=zf5 (cmS g) m 1 _
 have:cmS g 0 ((g.get 0).Low,(g.get 0).High)=((g.get 0).Low,(g.get 0).High):=by
  unfold cmS
  rw [if_neg (by show ¬ (g.get 0).Low > (g.get 0).Low;omega),if_neg (by show ¬ (g.get 0).High < (g.get 0).High;omega)]
 rw [this]
theorem zKv (g:Sl Gate) (G:zau g):p98 ⟨g⟩=true∧s98 ⟨g⟩=⟨(com g).1,(com g).2⟩:=by
  have hl:=G.2
  have := zee (σ := Int × Int) (step := cmS g) (E := fun s => (⟨s.1, s.2⟩ : Span)) (EP := fun _ => true) (Inv := fun _ _ => True) (a := 0) (n := g.len) (lpS := fun k s i => zhd ⟨g⟩ k i s.1 s.2) (lpP := fun k s i => zhe ⟨g⟩ k i s.1 s.2)
    (fun k i s _ hi _=>by
      show zhb ⟨g⟩ (zhd ⟨g⟩ k) (i:Int) s.1 s.2=_
      generalize zhd ⟨g⟩ k=S
      unfold zhb
      rw [decide_eq_true (show (i:Int) < ((⟨g⟩:list).Gates.len:Int) by show (i:Int) < (g.len:Int);omega),cond_true,Int.toNat_natCast]
      rfl)
    (fun k s=>by
      show zhb ⟨g⟩ (zhd ⟨g⟩ k) (g.len:Int) s.1 s.2=_
      unfold zhb
      rw [decide_eq_false (show ¬ (g.len:Int) < ((⟨g⟩:list).Gates.len:Int) by show ¬ (g.len:Int) < (g.len:Int);omega),cond_false])
    (fun k i s _ hi _=>by
      show zhc ⟨g⟩ (zhe ⟨g⟩ k) (i:Int) s.1 s.2=_
      generalize zhe ⟨g⟩ k=S
      unfold zhc
      rw [decide_eq_true (show (i:Int) < ((⟨g⟩:list).Gates.len:Int) by show (i:Int) < (g.len:Int);omega),decide_eq_true (show 0≤(i:Int)∧(i:Int) < ((⟨g⟩:list).Gates.len:Int) by show 0≤(i:Int)∧(i:Int) < (g.len:Int);omega),cond_true,Bool.true_and,Int.toNat_natCast]
      rfl)
    (fun k s=>by
      show zhc ⟨g⟩ (zhe ⟨g⟩ k) (g.len:Int) s.1 s.2=_
      unfold zhc
      rw [decide_eq_false (show ¬ (g.len:Int) < ((⟨g⟩:list).Gates.len:Int) by show ¬ (g.len:Int) < (g.len:Int);omega),cond_false])
    (fun _ _ _ _ _=>trivial) (Nat.zero_le _) (by omega) ((g.get 0).Low,(g.get 0).High) trivial
  obtain ⟨a,b⟩:=this
  rw [show g.len - 0=g.len from rfl,zPY g hl.1] at b
  refine ⟨?_,b⟩
  unfold p98
  rw [decide_eq_true (show 0≤(0:Int)∧(0:Int) < ((⟨g⟩:list).Gates.len:Int) from ⟨by omega,by show (0:Int) < (g.len:Int);omega⟩),Bool.true_and,Bool.true_and]
  exact a
theorem zCH (g:Sl Gate) (G:zau g):p71 g=true∧s71 g=((com g).1,(com g).2,decide ((com g).1≤(com g).2)):=by
  have hl:=G.2
  have := zee (σ := Int × Int) (step := cmS g) (E := fun s => (s.1, s.2, decide (s.1 ≤ s.2))) (EP := fun _ => true) (Inv := fun _ _ => True) (a := 1) (n := g.len) (lpS := fun k s i => zku g k s.1 s.2 i) (lpP := fun k s i => zkv g k s.1 s.2 i)
    (fun k i s _ hi _=>by
      show zks g (zku g k) s.1 s.2 (i:Int)=_
      generalize zku g k=S
      unfold zks
      rw [decide_eq_true (show (i:Int) < (g.len:Int) by omega),cond_true,Int.toNat_natCast]
      rfl)
    (fun k s=>by
      show zks g (zku g k) s.1 s.2 (g.len:Int)=_
      unfold zks
      rw [decide_eq_false (show ¬ (g.len:Int) < (g.len:Int) by omega),cond_false])
    (fun k i s _ hi _=>by
      show zkt g (zkv g k) s.1 s.2 (i:Int)=_
      generalize zkv g k=S
      unfold zkt
      rw [decide_eq_true (show (i:Int) < (g.len:Int) by omega),decide_eq_true (show 0≤(i:Int)∧(i:Int) < (g.len:Int) by omega),cond_true,Bool.true_and,Bool.true_and,Int.toNat_natCast]
      rfl)
    (fun k s=>by
      show zkt g (zkv g k) s.1 s.2 (g.len:Int)=_
      unfold zkt
      rw [decide_eq_false (show ¬ (g.len:Int) < (g.len:Int) by omega),cond_false])
    (fun _ _ _ _ _=>trivial) hl.1 (by omega) ((g.get 0).Low,(g.get 0).High) trivial
  obtain ⟨a,b⟩:=this
  refine ⟨?_,b⟩
  unfold p71
  rw [decide_eq_true (show 0≤(0:Int)∧(0:Int) < (g.len:Int) by omega),Bool.true_and,Bool.true_and]
  exact a
theorem zzg (g:Sl Gate) (G:zau g):p66 (s65 g)=true∧p21 g=true∧s66 (s65 g)=s21 g:=by
 obtain ⟨C,_,c2,c3,c4,_⟩:=ziS g G
 obtain ⟨a1,a2⟩:=ztd g G
 obtain ⟨b1,b2⟩:=zKv g G
 obtain ⟨d1,d2⟩:=zCH g G
 obtain ⟨e1,e2⟩:=zkV g G
 obtain ⟨f1,_,f3,f4,_⟩:=zzf g G
 have h67:s67 ⟨g⟩=s22 g:=Bool.eq_iff_iff.2 (a2.trans e2.symm)
 have hcl:(C.foldl apL (zfh:Sl straight)).len=C.length:=by rw [zch];simp
 rw [c2]
 unfold p66 s66 p21 s21
 show (decide (p98 ⟨g⟩=true) && (decide (p67 ⟨g⟩=true) && true))=true∧_∧cond (s67 ⟨g⟩) (decide ((s98 ⟨g⟩).Low≤(s98 ⟨g⟩).High)) (decide (((C.foldl apL (zfh:Sl straight)).len:Int) > 0))=_
 rw [a1,b1,b2,d1,d2,e1,f1,h67,hcl]
 refine ⟨by simp,by cases s22 g <;> simp,?_⟩
 cases s22 g
 ·rw [cond_false, cond_false]
  refine decide_eq_decide.2 ⟨fun h=>?_,fun h=>?_⟩
  ·obtain ⟨x, hx⟩ := List.exists_mem_of_length_pos (l := C) (by omega)
   obtain ⟨a,ha,_⟩:=f4 (toL x) ⟨x,(c3 x hx).1,(c3 x hx).2,rfl⟩
   omega
  ·obtain ⟨s, hs, ha, _⟩ := f3 0 (by omega)
   obtain ⟨x,hx,_⟩:=c4 s hs ha
   have:=List.length_pos_of_mem hx
   omega
 ·rfl
end Go.Proofs
namespace Go.Proofs
open Go Go.Pm
set_option maxRecDepth 100000
def FOK (f:Frac):Prop:=(-1000000000000≤f.Num∧f.Num≤1000000000000)∧1≤f.Den∧f.Den≤100000
def ltF (a b:Frac):Prop:=a.Num * b.Den < b.Num * a.Den
theorem zHk (x y:Int):zB6 x y < 0↔x < y:=by
 unfold zB6 zB4
 by_cases h:x < y
 ·simp [h]
 ·by_cases h2:x > y <;> simp [h,h2]
theorem zHl (x y:Int):zB6 x y > 0↔x > y:=by
 unfold zB6 zB4
 by_cases h:x < y
 ·have : ¬ x > y := by omega
  simp [h];omega
 ·by_cases h2:x > y <;> simp [h,h2]
theorem cross {a b:Frac} (ha:FOK a) (hb:FOK b):w64 (a.Num * b.Den)=a.Num * b.Den:=by
 have:=znr ha.1.1 ha.1.2 (show 0≤b.Den by have:=hb.2;omega) hb.2.2
 exact zaR (by omega) (by omega)
theorem zCI {a b:Frac} (ha:FOK a) (hb:FOK b):s29 a b=true↔ltF a b:=by
 unfold s29 ltF
 rw [cross ha hb,cross hb ha,decide_eq_true_eq]
theorem znx {a b:Frac} (ha:0 < a.Den) (hb:0 < b.Den):ltF (red a.Num a.Den) (red b.Num b.Den)↔ltF a b:=by
 have a1:=zff (num:=a.Num) ha
 have a2:=zeE (num:=a.Num) ha
 have b1:=zff (num:=b.Num) hb
 have b2:=zeE (num:=b.Num) hb
 have ga:=zcJ (num:=a.Num) ha
 have gb:=zcJ (num:=b.Num) hb
 unfold ltF
 generalize red a.Num a.Den=x at *
 generalize red b.Num b.Den=y at *
 generalize (Int.gcd a.Num a.Den:Int)=G at *
 generalize (Int.gcd b.Num b.Den:Int)=K at *
 have hk:=Int.mul_pos ga gb
 have e1:a.Num * b.Den=(G * K) * (x.Num * y.Den):=by rw [← a1,← b2];ac_rfl
 have e2:b.Num * a.Den=(G * K) * (y.Num * x.Den):=by rw [← b1,← a2];ac_rfl
 rw [e1,e2]
 have:=zgN (x:=y.Num * x.Den) (y:=x.Num * y.Den) hk
 constructor
 ·intro h;exact Int.not_le.1 fun k=>absurd (this.1 k) (by omega)
 ·intro h;exact Int.not_le.1 fun k=>absurd (this.2 k) (by omega)
theorem zh9 {f:Frac} (h:FOK f):FOK (red f.Num f.Den):=by
 obtain ⟨h1,h2,h3⟩:=h
 have hd:0 < f.Den:=by omega
 have:=zkT (num:=f.Num) hd
 have:=zoN (num:=f.Num) hd
 have:=zfg (num:=f.Num) hd
 exact ⟨⟨by omega,by omega⟩,by omega,by omega⟩
end Go.Proofs
namespace Go.Proofs
open Go Go.Pm
set_option maxRecDepth 100000
end Go.Proofs
namespace Go.Proofs
open Go Go.Pm
set_option maxRecDepth 100000
def Cor (g:Sl Gate) (s:straight):Prop:=s∈cst g∧zk3 g s
end Go.Proofs
namespace Go.Proofs
open Go Go.Pm
set_option maxRecDepth 100000
abbrev slF (s:straight):Frac:=⟨s.slope,s.den⟩
theorem zkX {s:straight} (S:SOK s):FOK (slF s):=⟨⟨by show -1000000000000≤s.slope;have:=S.1;omega,by show s.slope≤1000000000000;have:=S.1;omega⟩,S.2.2⟩
theorem zeg {g:Sl Gate} (G:zau g) {s:straight} (h:Cor g s):SOK s:=zkU G h.1
abbrev lst {α:Type} [Inhabited α] (l:List α):Sl α:=l.foldl apL zfh
theorem zrD {α:Type} [Inhabited α] (l:List α):(lst l).len=l.length:=by
 show (l.foldl apL zfh).len=_
 rw [zch];simp [zfh]
theorem zrE {α:Type} [Inhabited α] {l:List α} {i:Nat} {x:α} (h:l[i]? = some x):(lst l).get i=x:=by
 have:=zgO l zfh i x h
 rw [show (zfh:Sl α).len+i=i from Nat.zero_add i] at this;exact this
structure CorL (g : Sl Gate) (C : List straight) : Prop where
  len:C.length≤100000
  mem:∀ s∈C,Cor g s
  all:∀ s,Cor g s→∃ x∈C,toL x=toL s
def ne (C:List straight):Prop:=1≤C.length
end Go.Proofs
namespace Go.Proofs
open Go Go.Pm
set_option maxRecDepth 100000
theorem zcm {g:Sl Gate} {l:Line} : zgP g l↔∃ s,Cor g s∧toL s=l :=
 ⟨fun ⟨s,h1,h2,h3⟩=>⟨s,⟨h1,h2⟩,h3⟩,fun ⟨s,⟨h1,h2⟩,h3⟩=>⟨s,h1,h2,h3⟩⟩
theorem zoS {α : Type} [DecidableEq α] : ∀ (l m : List α), l.Nodup → (∀ x ∈ l, x ∈ m) → l.length ≤ m.length
  | [],_,_,_=>Nat.zero_le _
  | x :: l,m,hn,h=>by
    have hx:=h x List.mem_cons_self
    rw [List.nodup_cons] at hn
    have:=zoS l (m.erase x) hn.2 fun y hy=>(List.mem_erase_of_ne (fun (e:y=x)=>hn.1 (by rw [← e];exact hy))).2 (h y (List.mem_cons_of_mem _ hy))
    rw [List.length_erase_of_mem hx] at this
    have:=List.length_pos_of_mem hx
    rw [List.length_cons];omega
theorem ztg (g:Sl Gate) (G:zau g):∃ C,p65 g=true∧s65 g=⟨⟨g⟩,lst C⟩∧CorL g C∧(¬ zoQ g→(s21 g=true↔∃ s,Cor g s)):=by
 obtain ⟨C,c1,c2,c3,c4,c5⟩:=ziS g G
 obtain ⟨f1,f2⟩:=zkV g G
 obtain ⟨q,hlen,m1,m2,_⟩:=zzf g G
 refine ⟨C,c1,c2,⟨?_,fun s hs=>c3 s hs,fun s hs=>c4 s hs.1 hs.2⟩,fun hf=>?_⟩
 ·-- the reference has as many
  have key:∀ (l:List straight),l.Pairwise (fun x y=>toL x ≠ toL y)→(∀ s∈l,s∈cst g)→l.length≤((cst g).map toL).length:=by
   intro l hp hs
   have hn:(l.map fun s=>zh7 (toL s)).Nodup:=List.pairwise_map.2 (hp.imp fun h e=>h (zkW e))
   have:=zoS _ ((cst g).map fun s=>zh7 (toL s)) hn (fun x hx=>by
    obtain ⟨s,hs1,rfl⟩:=List.mem_map.1 hx
    exact List.mem_map.2 ⟨s,hs s hs1,rfl⟩)
   rw [List.length_map,List.length_map] at this;rw [List.length_map];exact this
  have:=key C c5 (fun s hs=>(c3 s hs).1)
  have:=zrC G
  rw [List.length_map] at *
  omega
 ·have e : s22 g = false := by cases h : s22 g; rfl; exact absurd (f2.1 h) hf
  unfold s21
  rw [e,cond_false,decide_eq_true_eq]
  constructor
  ·intro h
   obtain ⟨s,hs,_⟩:=zcm.1 (m1 0 (by omega))
   exact ⟨s,hs⟩
  ·intro ⟨s, hs⟩
   obtain ⟨a,ha,_⟩:=m2 _ (zcm.2 ⟨s,hs,rfl⟩);omega
theorem zHm (g:Sl Gate) (G:zau g):p67 ⟨g⟩=true∧p22 g=true∧s67 ⟨g⟩=s22 g :=
 ⟨(ztd g G).1,(zkV g G).1,Bool.eq_iff_iff.2 ((ztd g G).2.trans (zkV g G).2.symm)⟩
theorem zia {g:Sl Gate} (G:zau g) (h:s22 g=false) : ¬ zoQ g:=fun k=>by rw [(zkV g G).2.2 k] at h;cases h
end Go.Proofs
namespace Go.Proofs
open Go Go.Pm
set_option maxRecDepth 100000
abbrev zF:Frac:=⟨0,0⟩
abbrev nS:set:=⟨⟨⟨0,fun _=>default⟩⟩,⟨0,fun _=>default⟩⟩
theorem zzh (g:Sl Gate) (hn:g.len≤9223372036854775807):s20 g=true↔zau g:=(zy6 g hn).2
theorem zKw (g:Sl Gate) (G:zau g):(p75 g=true∧s75 g=cond (!(s21 g)) (nS,5) (cond (s22 g) (nS,6) (s65 g,0))) ∧
  (∀ z,zEB z g=true∧zoX z g=cond (!(s21 g)) (nS,5) (cond (s22 g) (cond (!((g.get 0).Z == z)) (nS,6) (s65 g,0)) (s65 g,0)))∧(zHF g=true∧zzz g=cond (!(s21 g)) (nS,5) (s65 g,0)):=by
 have hl:=G.2
 obtain ⟨v1,v2⟩:=zoM g (by omega)
 have v2:=v2.2 G
 obtain ⟨q1,q2,q3⟩:=zzg g G
 obtain ⟨C,c1,c2,_⟩:=ztg g G
 obtain ⟨f1,f2,f3⟩:=zHm g G
 have el:(s65 g).list=⟨g⟩:=by rw [c2]
 refine ⟨?_,fun z=>?_,?_⟩
 ·unfold p75 s75 zql zqk
  rw [v1,v2,c1,q1,q3,el,f1,f3]
  simp only [decide_true,Bool.true_and,Bool.not_true,cond_false]
  cases s21 g <;> cases s22 g <;> exact ⟨rfl,rfl⟩
 ·unfold zEB zoX zmI zmH
  rw [v1,v2,c1,q1,q3,el,f1,f3,show p76 z ⟨g⟩=true by unfold p76;rw [decide_eq_true (show 0≤(0:Int)∧(0:Int) < ((⟨g⟩:list).Gates.len:Int) by show 0≤(0:Int)∧(0:Int) < (g.len:Int);omega)];rfl]
  simp only [decide_true,Bool.true_and,Bool.not_true,cond_false]
  cases s21 g <;> cases s22 g <;> exact ⟨rfl,rfl⟩
 ·unfold zHF zzz zmK zmJ
  rw [v1,v2,c1,q1,q3,el,f1,f3]
  simp only [decide_true,Bool.true_and,Bool.not_true,cond_false]
  cases s21 g <;> cases s22 g <;> exact ⟨rfl,rfl⟩
theorem zHn (g:Sl Gate) (hn:g.len≤9223372036854775807) (h:s20 g=false):(p75 g=true∧s75 g=(nS,2))∧(∀ z,zEB z g=true∧zoX z g=(nS,2))∧(zHF g=true∧zzz g=(nS,2)):=by
 obtain ⟨v1,_⟩:=zoM g hn
 have v2:s64 g=false:=by rw [zKp g hn];exact h
 unfold p75 s75 zEB zoX zHF zzz
 rw [v1,v2]
 exact ⟨⟨rfl,rfl⟩,fun _=>⟨rfl,rfl⟩,rfl,rfl⟩
def atR (g:Sl Gate) (z:Int):Frac×Frac×Int:=cond (!(s20 g)) (zF,zF,2) (cond (!(s21 g)) (zF,zF,5) (cond (s22 g && !((g.get 0).Z == z)) (zF,zF,6) ((s36 g z).1,(s36 g z).2,0)))
end Go.Proofs
namespace Go.Proofs
open Go Go.Pm
set_option maxRecDepth 100000
end Go.Proofs
namespace Go.Proofs
open Go Go.Pm
set_option maxRecDepth 100000
theorem zzi {z p y q:Int} (h:z ≠ y):plc (thr z p y q) z=p * (thr z p y q).den∧plc (thr z p y q) y=q * (thr z p y q).den:=by
 unfold thr plc
 split
 ·constructor
  ·show q * z - p * y + (p - q) * z = p * (z - y)
   rw [Int.sub_mul,Int.mul_sub];omega
  ·show q * z - p * y + (p - q) * y = q * (z - y)
   rw [Int.sub_mul,Int.mul_sub];omega
 ·constructor
  ·show p * y - q * z + (q - p) * z = p * (y - z)
   rw [Int.sub_mul,Int.mul_sub];omega
  ·show p * y - q * z + (q - p) * y = q * (y - z)
   rw [Int.sub_mul,Int.mul_sub];omega
def zzj (g:Sl Gate) (s:straight):Prop:=∃ i,i < g.len∧plc s (g.get i).Z=(g.get i).High * s.den
theorem zzk {g:Sl Gate} {s:straight} (h:s∈cst g):zdN g s∨zzj g s:=by
 obtain ⟨a,b,h1,h2,hz,p,q,hp,hq,rfl⟩:=zrB h
 have e:=(zzi (p:=p) (q:=q) hz).1
 rcases hp with rfl | rfl
 ·exact .inl ⟨a,by omega,decide_eq_true e⟩
 ·exact .inr ⟨a,by omega,e⟩
theorem par {s t:straight} (h:s.slope * t.den=t.slope * s.den) (z:Int):plc s z * t.den - plc t z * s.den=s.start * t.den - t.start * s.den:=by
  unfold plc
  rw [Int.add_mul,Int.add_mul]
  have e:s.slope * z * t.den=t.slope * z * s.den:=by
    calc s.slope * z * t.den = s.slope * t.den * z := by ac_rfl
      _=t.slope * z * s.den:=by rw [h];ac_rfl
  omega
theorem zfi {g:Sl Gate} {s:straight} (h:zk3 g s) {i:Nat} (hi:i < g.len):(g.get i).Low * s.den≤plc s (g.get i).Z∧plc s (g.get i).Z≤(g.get i).High * s.den:=of_decide_eq_true (h i hi)
theorem zKx {g:Sl Gate} (G:zau g) {s t:straight} (hs:Cor g s) (ht:Cor g t) (h:s.slope * t.den=t.slope * s.den) (hl:s.start * t.den < t.start * s.den) : ¬ zdN g t∧¬ zzj g s:=by
 have ps:0 < s.den:=by have:=(zeg G hs).2.2;omega
 have pt:0 < t.den:=by have:=(zeg G ht).2.2;omega
 constructor
 ·intro ⟨i, hi, e⟩
  have e:plc t (g.get i).Z=(g.get i).Low * t.den:=of_decide_eq_true e
  have a:=(zfi hs.2 hi).1
  have p:=par h (g.get i).Z
  have a2:=Int.mul_le_mul_of_nonneg_right a (Int.le_of_lt pt)
  have:(g.get i).Low * s.den * t.den=plc t (g.get i).Z * s.den:=by rw [e];ac_rfl
  omega
 ·intro ⟨i, hi, e⟩
  have a:=(zfi ht.2 hi).2
  have p:=par h (g.get i).Z
  have a2:=Int.mul_le_mul_of_nonneg_right a (Int.le_of_lt ps)
  have:(g.get i).High * t.den * s.den=plc s (g.get i).Z * t.den:=by rw [e];ac_rfl
  omega
theorem zth {g:Sl Gate} (G:zau g) {s t:straight} (hs:Cor g s) (ht:Cor g t) (hf:zdN g s↔zdN g t) (h1 : ¬ ltF (slF s) (slF t)) (h2 : ¬ ltF (slF t) (slF s)):toL s=toL t:=by
 have ps:0 < s.den:=by have:=(zeg G hs).2.2;omega
 have pt:0 < t.den:=by have:=(zeg G ht).2.2;omega
 have h:s.slope * t.den=t.slope * s.den:=by
  have a : ¬ s.slope * t.den < t.slope * s.den:=h1
  have b : ¬ t.slope * s.den < s.slope * t.den:=h2
  omega
 have key:∀ {s t:straight},Cor g s→Cor g t→(zdN g s↔zdN g t)→s.slope * t.den=t.slope * s.den→¬ s.start * t.den < t.start * s.den:=fun {s t} hs ht hf h hl=>by
  obtain ⟨a,b⟩:=zKx G hs ht h hl
  rcases zzk hs.1 with c | c
  ·exact a (hf.1 c)
  ·exact b c
 have e:s.start * t.den=t.start * s.den:=by
  have a:=key hs ht hf h
  have b:=key ht hs hf.symm h.symm
  omega
 unfold toL
 rw [(zCD ps pt).2 h,(zCD ps pt).2 e]
def zti (g:Sl Gate) (s t:straight):Prop:=(zdN g s∧(zdN g t→ltF (slF s) (slF t)))∨(¬ zdN g s∧¬ zdN g t∧ltF (slF t) (slF s))
theorem zCJ {a:Frac} : ¬ ltF a a:=by unfold ltF;omega
theorem zzl {a b:Frac} (h:ltF a b) : ¬ ltF b a:=by unfold ltF at *;omega
theorem zKz {a b c:Frac} (ha:0 < a.Den) (hb:0 < b.Den) (hc:0 < c.Den) (h1:ltF a b) (h2:ltF b c):ltF a c:=by
 unfold ltF at *
 have y1:=Int.mul_lt_mul_of_pos_right h1 hc
 have y2:=Int.mul_lt_mul_of_pos_right h2 ha
 have z1:b.Num * a.Den * c.Den=b.Num * c.Den * a.Den:=by ac_rfl
 have z2:c.Num * b.Den * a.Den=c.Num * a.Den * b.Den:=by ac_rfl
 have z3:a.Num * b.Den * c.Den=a.Num * c.Den * b.Den:=by ac_rfl
 have:a.Num * c.Den * b.Den < c.Num * a.Den * b.Den:=by omega
 exact Int.lt_of_mul_lt_mul_right this (Int.le_of_lt hb)
theorem zHo {g:Sl Gate} {s:straight} : ¬ zti g s s:=fun h=>by
 rcases h with ⟨a,b⟩ | ⟨_,_,c⟩
 ·exact zCJ (b a)
 ·exact zCJ c
theorem zny {g:Sl Gate} {s t:straight} (h:zti g s t) : ¬ zti g t s:=fun k=>by
 rcases h with ⟨a,b⟩ | ⟨a,b,c⟩ <;> rcases k with ⟨x,y⟩ | ⟨x,y,z⟩
 ·exact zzl (b x) (y a)
 ·exact y a
 ·exact b x
 ·exact zzl c z
theorem zoT {g:Sl Gate} (G:zau g) {s t u:straight} (hs:Cor g s) (ht:Cor g t) (hu:Cor g u) (h:zti g s t) (k:zti g t u):zti g s u:=by
 have ps:0 < (slF s).Den:=by have:=(zkX (zeg G hs)).2;omega
 have pt:0 < (slF t).Den:=by have:=(zkX (zeg G ht)).2;omega
 have pu:0 < (slF u).Den:=by have:=(zkX (zeg G hu)).2;omega
 rcases h with ⟨a,b⟩ | ⟨a,b,c⟩ <;> rcases k with ⟨x,y⟩ | ⟨x,y,z⟩
 ·exact .inl ⟨a,fun w=>zKz ps pt pu (b x) (y w)⟩
 ·exact .inl ⟨a,fun w=>absurd w y⟩
 ·exact absurd x b
 ·exact .inr ⟨a,y,zKz pu pt ps z c⟩
theorem zrF {g:Sl Gate} (G:zau g) {s t:straight} (hs:Cor g s) (ht:Cor g t) (hn:toL s ≠ toL t):zti g s t∨zti g t s:=by
 by_cases a:zdN g s <;> by_cases b:zdN g t
 ·by_cases c : ltF (slF s) (slF t)
  ·exact .inl (.inl ⟨a,fun _=>c⟩)
  ·by_cases d : ltF (slF t) (slF s)
   ·exact .inr (.inl ⟨b,fun _=>d⟩)
   ·exact absurd (zth G hs ht ⟨fun _=>b,fun _=>a⟩ c d) hn
 ·exact .inl (.inl ⟨a,fun w=>absurd w b⟩)
 ·exact .inr (.inl ⟨b,fun w=>absurd w a⟩)
 ·by_cases c : ltF (slF s) (slF t)
  ·exact .inr (.inr ⟨b,a,c⟩)
  ·by_cases d : ltF (slF t) (slF s)
   ·exact .inl (.inr ⟨a,b,d⟩)
   ·exact absurd (zth G hs ht ⟨fun w=>absurd w a,fun w=>absurd w b⟩ c d) hn
theorem zfj {g:Sl Gate} (G:zau g) {s t:straight} (hs:Cor g s) (ht:Cor g t):s81 (toL s) (toL t) g=true↔zti g s t:=by
 have S:=zeg G hs
 have T:=zeg G ht
 have es:=(znv g G S).2
 have et:=(znv g G T).2
 have fs:=zkX S
 have ft:=zkX T
 have ls:s29 (toL s).Slope (toL t).Slope=true↔ltF (slF s) (slF t):=by
  rw [zCI (a:=(toL s).Slope) (b:=(toL t).Slope) (zh9 fs) (zh9 ft)]
  exact znx (a:=slF s) (b:=slF t) (by have:=fs.2;omega) (by have:=ft.2;omega)
 have lt:s29 (toL t).Slope (toL s).Slope=true↔ltF (slF t) (slF s):=by
  rw [zCI (a:=(toL t).Slope) (b:=(toL s).Slope) (zh9 ft) (zh9 fs)]
  exact znx (a:=slF t) (b:=slF s) (by have:=ft.2;omega) (by have:=fs.2;omega)
 unfold s81 zyM zti
 rw [← es,← et,← ls,← lt]
 cases zs3 (toL s) g <;> cases zs3 (toL t) g <;> cases s29 (toL s).Slope (toL t).Slope <;> cases s29 (toL t).Slope (toL s).Slope <;> simp
theorem zKA {g:Sl Gate} (G:zau g):Tot g:=by
 refine ⟨fun a b c ha hb hc h1 h2=>?_,fun a b ha hb hn=>?_⟩
 ·obtain ⟨s, hs, rfl⟩ := zcm.1 ha
  obtain ⟨t,ht,rfl⟩:=zcm.1 hb
  obtain ⟨u,hu,rfl⟩:=zcm.1 hc
  exact (zfj G hs hu).2 (zoT G hs ht hu ((zfj G hs ht).1 h1) ((zfj G ht hu).1 h2))
 ·obtain ⟨s, hs, rfl⟩ := zcm.1 ha
  obtain ⟨t,ht,rfl⟩:=zcm.1 hb
  exact (zrF G hs ht hn).imp (zfj G hs ht).2 (zfj G ht hs).2
theorem zzm {g:Sl Gate} (G:zau g) (v:Sl straight) {s t:straight} (hs:Cor g s) (ht:Cor g t):zCj ⟨⟨g⟩,v⟩ s t=true∧(zCi ⟨⟨g⟩,v⟩ s t < 0↔zti g s t):=by
 have S:=zeg G hs
 have T:=zeg G ht
 obtain ⟨a1,a2⟩:=zze g G v S
 obtain ⟨b1,b2⟩:=zze g G v T
 have fs:=zkX S
 have ft:=zkX T
 obtain ⟨c1,c2⟩:=zs5 (num:=s.slope) (den:=s.den) (by have:=S.1;omega) (by have:=S.1;omega) (by have:=S.2.2;omega) (by have:=S.2.2;omega)
 obtain ⟨d1,d2⟩:=zs5 (num:=t.slope) (den:=t.den) (by have:=T.1;omega) (by have:=T.1;omega) (by have:=T.2.2;omega) (by have:=T.2.2;omega)
 have rs:FOK (red s.slope s.den):=zh9 (f:=slF s) fs
 have rt:FOK (red t.slope t.den):=zh9 (f:=slF t) ft
 have q1:s69 (red s.slope s.den) (red t.slope t.den) < 0↔ltF (slF s) (slF t):=by
  unfold s69
  rw [cross rs rt,cross rt rs,zHk]
  exact znx (a:=slF s) (b:=slF t) (by have:=fs.2;omega) (by have:=ft.2;omega)
 have q2:w64 (0 - s69 (red s.slope s.den) (red t.slope t.den)) < 0↔ltF (slF t) (slF s):=by
  have e:s69 (red s.slope s.den) (red t.slope t.den) > 0↔ltF (slF t) (slF s):=by
   unfold s69
   rw [cross rs rt,cross rt rs,zHl]
   exact znx (a:=slF t) (b:=slF s) (by have:=ft.2;omega) (by have:=fs.2;omega)
  rw [← e]
  have:s69 (red s.slope s.den) (red t.slope t.den) = -1∨s69 (red s.slope s.den) (red t.slope t.den)=0∨s69 (red s.slope s.den) (red t.slope t.den)=1:=by
   unfold s69 zB6
   cases decide (w64 ((red s.slope s.den).Num * (red t.slope t.den).Den) < w64 ((red t.slope t.den).Num * (red s.slope s.den).Den)) <;> cases decide (w64 ((red s.slope s.den).Num * (red t.slope t.den).Den) > w64 ((red t.slope t.den).Num * (red s.slope s.den).Den)) <;> simp [zB4]
  rcases this with h | h | h <;> rw [h] <;> decide
 constructor
 ·unfold zCj;rw [a1,b1,c1,d1];rfl
 ·unfold zCi zti
  rw [c2,d2,← a2,← b2]
  cases zt2 ⟨⟨g⟩,v⟩ s <;> cases zt2 ⟨⟨g⟩,v⟩ t
  ·rw [cond_false,cond_false,cond_false,q2];simp
  ·simp
  ·simp
  ·rw [cond_true,cond_true,q1];simp
end Go.Proofs
namespace Go.Proofs
open Go Go.Pm
set_option maxRecDepth 100000
theorem zlJ {g : Sl Gate} {i b : Nat} {x : straight} (hx : x ∈ zoO (g.get i) (g.get b)) : ∀ m k, k ≤ b → b < k + m → x ∈ zoP g i m k
  | 0,k,h1,h2=>by omega
  | m+1,k,h1,h2=>by
    show x∈zoO (g.get i) (g.get k) ++ zoP g i m (k+1)
    by_cases h:k=b
    · rw [h];exact List.mem_append_left _ hx
    · exact List.mem_append_right _ (zlJ hx m (k+1) (by omega) (by omega))
theorem zlK {g : Sl Gate} {a : Nat} {x : straight} (hx : x ∈ zoP g a (g.len - (a + 1)) (a + 1)) : ∀ m i, i ≤ a → a < i + m → x ∈ zzB g m i
  | 0,i,h1,h2=>by omega
  | m+1,i,h1,h2=>by
    show x∈zoP g i (g.len - (i+1)) (i+1) ++ zzB g m (i+1)
    by_cases h:i=a
    · rw [h];exact List.mem_append_left _ hx
    · exact List.mem_append_right _ (zlK hx m (i+1) (by omega) (by omega))
theorem zBl {z p y q:Int} (h:z ≠ y):thr z p y q=thr y q z p:=by
 unfold thr
 by_cases h1:z > y
 ·rw [if_pos h1,if_neg (show ¬ y > z by omega)]
 ·rw [if_neg h1,if_pos (show y > z by omega)]
theorem zNS {g:Sl Gate} {a b:Nat} (ha:a < g.len) (hb:b < g.len) (hz:(g.get a).Z ≠ (g.get b).Z) {p q:Int} (hp:p=(g.get a).Low∨p=(g.get a).High) (hq:q=(g.get b).Low∨q=(g.get b).High):thr (g.get a).Z p (g.get b).Z q∈cst g:=by
 have key:∀ {a b:Nat} {p q:Int},a < b→b < g.len→(g.get a).Z ≠ (g.get b).Z→(p=(g.get a).Low∨p=(g.get a).High)→(q=(g.get b).Low∨q=(g.get b).High)→thr (g.get a).Z p (g.get b).Z q∈cst g:=fun {a b p q} h1 h2 hz hp hq=>by
  refine zlK (zlJ ?_ _ _ h1 (by omega)) _ 0 (Nat.zero_le _) (by omega)
  unfold zoO
  rw [if_neg hz]
  rcases hp with rfl | rfl <;> rcases hq with rfl | rfl <;> simp
 rcases Nat.lt_or_ge a b with h | h
 ·exact key h hb hz hp hq
 ·have : a ≠ b := fun e => hz (by rw [e])
  rw [zBl hz]
  exact key (by omega) ha (Ne.symm hz) hq hp
theorem zkY {Q : Nat → Prop} {le : Nat → Nat → Prop} (tot : ∀ i j, Q i → Q j → le i j ∨ le j i) (tr : ∀ i j k, Q i → Q j → Q k → le i j → le j k → le i k) : ∀ n, (∃ k, k < n ∧ Q k) → ∃ k, k < n ∧ Q k ∧ ∀ j, j < n → Q j → le j k
  | 0,⟨k,h,_⟩=>absurd h (Nat.not_lt_zero k)
  | n+1,hex=>by
    by_cases h:∃ k,k < n∧Q k
    · obtain ⟨k, hk, qk, hm⟩ := zkY tot tr n h
      by_cases qn:Q n
      · rcases tot n k qn qk with h1 | h1
        · exact ⟨k,by omega,qk,fun j hj qj=>by
            by_cases e:j=n
            · rw [e];exact h1
            · exact hm j (by omega) qj⟩
        · exact ⟨n,by omega,qn,fun j hj qj=>by
            by_cases e:j=n
            · rw [e];rcases tot n n qn qn with h2 | h2 <;> exact h2
            · exact tr j k n qj qk qn (hm j (by omega) qj) h1⟩
      · exact ⟨k,by omega,qk,fun j hj qj=>hm j (by
          have:j ≠ n:=fun e=>qn (e ▸ qj)
          omega) qj⟩
    · obtain ⟨k, hk, qk⟩ := hex
      have e:k=n:=by
        rcases Nat.lt_or_ge k n with h1 | h1
        · exact absurd ⟨k,h1,qk⟩ h
        · omega
      subst e
      exact ⟨k,by omega,qk,fun j hj qj=>by
        by_cases e:j=k
        · rw [e];rcases tot k k qk qk with h2 | h2 <;> exact h2
        · exact absurd ⟨j,by omega,qj⟩ h⟩
def leS (a b:straight):Prop:=a.slope * b.den≤b.slope * a.den
theorem ztj {a b c:straight} (ha:0 < a.den) (hb:0 < b.den) (hc:0 < c.den) (h1:leS a b) (h2:leS b c):leS a c:=by
 unfold leS at *
 have y1:=Int.mul_le_mul_of_nonneg_right h1 (Int.le_of_lt hc)
 have y2:=Int.mul_le_mul_of_nonneg_right h2 (Int.le_of_lt ha)
 refine Int.le_of_mul_le_mul_right (a:=b.den) ?_ hb
 grind
def lcS (g:Sl Gate) (i:Nat) (p:Int) (k:Nat):straight:=thr (g.get i).Z p (g.get k).Z (if (g.get k).Z > (g.get i).Z then (g.get k).Low else (g.get k).High)
def ucS (g:Sl Gate) (i:Nat) (p:Int) (k:Nat):straight:=thr (g.get i).Z p (g.get k).Z (if (g.get k).Z > (g.get i).Z then (g.get k).High else (g.get k).Low)
theorem znz {g:Sl Gate} {i k:Nat} {p:Int} {c:straight} (he:plc c (g.get i).Z=p * c.den) (hz:(g.get k).Z ≠ (g.get i).Z):zef c (g.get k)=true↔leS (lcS g i p k) c∧leS c (ucS g i p k):=by
 unfold zef leS lcS ucS thr
 rw [decide_eq_true_eq]
 unfold plc at *
 by_cases h:(g.get k).Z > (g.get i).Z
 ·simp only [if_pos h, if_neg (show ¬ (g.get i).Z > (g.get k).Z by omega)]
  constructor
  ·intro ⟨h1,h2⟩;constructor <;> grind
  ·intro ⟨h1,h2⟩;constructor <;> grind
 ·simp only [if_neg h, if_pos (show (g.get i).Z > (g.get k).Z by omega)]
  constructor
  ·intro ⟨h1,h2⟩;constructor <;> grind
  ·intro ⟨h1,h2⟩;constructor <;> grind
theorem zzn {z p y q:Int} (h:z ≠ y):0 < (thr z p y q).den:=by
 unfold thr
 by_cases h1:z > y
 ·rw [if_pos h1];show 0 < z - y;omega
 ·rw [if_neg h1];show 0 < y - z;omega
theorem zoU {g:Sl Gate} {i k:Nat} {p:Int} {s c:straight} (ps:0 < s.den) (pc:0 < c.den) (he:plc s (g.get i).Z=p * s.den) (hc:plc c (g.get i).Z=p * c.den) (hz:(g.get k).Z=(g.get i).Z) (h:zef s (g.get k)=true):zef c (g.get k)=true:=by
 unfold zef at *
 rw [decide_eq_true_eq] at *
 rw [hz,he] at h
 rw [hz,hc]
 exact ⟨Int.mul_le_mul_of_nonneg_right (Int.le_of_mul_le_mul_right h.1 ps) (Int.le_of_lt pc),Int.mul_le_mul_of_nonneg_right (Int.le_of_mul_le_mul_right h.2 ps) (Int.le_of_lt pc)⟩
theorem rot {g : Sl Gate} {s : straight} (hd : 0 < s.den) (ha : zk3 g s) {i : Nat} (hi : i < g.len) {p : Int} (hp : p = (g.get i).Low ∨ p = (g.get i).High) (he : plc s (g.get i).Z = p * s.den) (hn : ∃ k, k < g.len ∧ (g.get k).Z ≠ (g.get i).Z) :
  (∃ c,Cor g c∧0 < c.den∧plc c (g.get i).Z=p * c.den∧leS c s)∧∃ c,Cor g c∧0 < c.den∧plc c (g.get i).Z=p * c.den∧leS s c:=by
 have ld:∀ k,(g.get k).Z ≠ (g.get i).Z→0 < (lcS g i p k).den:=fun k h=>zzn (Ne.symm h)
 have ud:∀ k,(g.get k).Z ≠ (g.get i).Z→0 < (ucS g i p k).den:=fun k h=>zzn (Ne.symm h)
 have le1:∀ k,(g.get k).Z ≠ (g.get i).Z→plc (lcS g i p k) (g.get i).Z=p * (lcS g i p k).den:=fun k h=>(zzi (Ne.symm h)).1
 have ue1:∀ k,(g.get k).Z ≠ (g.get i).Z→plc (ucS g i p k) (g.get i).Z=p * (ucS g i p k).den:=fun k h=>(zzi (Ne.symm h)).1
 have sp:∀ k,k < g.len→(g.get k).Z ≠ (g.get i).Z→leS (lcS g i p k) s∧leS s (ucS g i p k):=fun k hk hz=>(znz he hz).1 (ha k hk)
 constructor
 ·obtain ⟨k, hk, qk, hm⟩ := zkY (Q := fun k => (g.get k).Z ≠ (g.get i).Z) (le := fun a b => leS (lcS g i p a) (lcS g i p b)) (fun a b _ _ => Int.le_total _ _) (fun a b c ha hb hc h1 h2 => ztj (ld a ha) (ld b hb) (ld c hc) h1 h2) g.len hn
  refine ⟨lcS g i p k,⟨zNS hi hk (Ne.symm qk) hp (by split <;> simp),fun j hj=>?_⟩,ld k qk,le1 k qk,(sp k hk qk).1⟩
  by_cases hz:(g.get j).Z=(g.get i).Z
  ·exact zoU hd (ld k qk) he (le1 k qk) hz (ha j hj)
  ·exact (znz (le1 k qk) hz).2 ⟨hm j hj hz,ztj (ld k qk) hd (ud j hz) (sp k hk qk).1 (sp j hj hz).2⟩
 ·obtain ⟨k, hk, qk, hm⟩ := zkY (Q := fun k => (g.get k).Z ≠ (g.get i).Z) (le := fun a b => leS (ucS g i p b) (ucS g i p a)) (fun a b _ _ => Int.le_total _ _) (fun a b c ha hb hc h1 h2 => ztj (ud c hc) (ud b hb) (ud a ha) h2 h1) g.len hn
  refine ⟨ucS g i p k,⟨zNS hi hk (Ne.symm qk) hp (by split <;> simp),fun j hj=>?_⟩,ud k qk,ue1 k qk,(sp k hk qk).2⟩
  by_cases hz:(g.get j).Z=(g.get i).Z
  ·exact zoU hd (ud k qk) he (ue1 k qk) hz (ha j hj)
  ·exact (znz (ue1 k qk) hz).2 ⟨ztj (ld j hz) hd (ud k qk) (sp j hj hz).1 (sp k hk qk).2,hm j hj hz⟩
theorem zKB {g:Sl Gate} (hl:1≤g.len) {s:straight} (ha:zk3 g s):∃ d,0≤d∧zk3 g ⟨s.slope,s.start - d,s.den⟩∧∃ i,i < g.len∧plc ⟨s.slope,s.start - d,s.den⟩ (g.get i).Z=(g.get i).Low * s.den:=by
 obtain ⟨k,hk,_,hm⟩:=zkY (Q:=fun _=>True) (le:=fun a b=>plc s (g.get b).Z - (g.get b).Low * s.den≤plc s (g.get a).Z - (g.get a).Low * s.den) (fun a b _ _=>Int.le_total _ _) (fun a b c _ _ _ h1 h2=>Int.le_trans h2 h1) g.len ⟨0,hl,trivial⟩
 have hk2:=zfi ha hk
 refine ⟨plc s (g.get k).Z - (g.get k).Low * s.den,by omega,fun j hj=>decide_eq_true ?_,k,hk,by unfold plc;simp only;omega⟩
 have h1:=hm j hj trivial
 have h2:=zfi ha hj
 unfold plc at *
 simp only
 omega
theorem zKC {g:Sl Gate} (hl:1≤g.len) {s:straight} (ha:zk3 g s):∃ d,0≤d∧zk3 g ⟨s.slope,s.start+d,s.den⟩∧∃ i,i < g.len∧plc ⟨s.slope,s.start+d,s.den⟩ (g.get i).Z=(g.get i).High * s.den:=by
 obtain ⟨k,hk,_,hm⟩:=zkY (Q:=fun _=>True) (le:=fun a b=>(g.get b).High * s.den - plc s (g.get b).Z≤(g.get a).High * s.den - plc s (g.get a).Z) (fun a b _ _=>Int.le_total _ _) (fun a b c _ _ _ h1 h2=>Int.le_trans h2 h1) g.len ⟨0,hl,trivial⟩
 have hk2:=zfi ha hk
 refine ⟨(g.get k).High * s.den - plc s (g.get k).Z,by omega,fun j hj=>decide_eq_true ?_,k,hk,by unfold plc;simp only;omega⟩
 have h1:=hm j hj trivial
 have h2:=zfi ha hj
 unfold plc at *
 simp only
 omega
theorem ztk {g:Sl Gate} (nf : ¬ zoQ g) (i:Nat) (hi:i < g.len):∃ k,k < g.len∧(g.get k).Z ≠ (g.get i).Z:=by
 by_cases h:∃ k,k < g.len∧(g.get k).Z ≠ (g.get i).Z
 ·exact h
 ·have all : ∀ k, k < g.len → (g.get k).Z = (g.get i).Z := fun k hk => Classical.byContradiction fun e => h ⟨k, hk, e⟩
  exact absurd (fun k hk=>(all k hk).trans (all 0 (by omega)).symm) nf
theorem zzo {a b:straight} {z p h:Int} (ha:plc a z=p * a.den) (hb:plc b z=p * b.den) (hs:leS a b) (hh:z≤h):plc a h * b.den≤plc b h * a.den:=by
 have y:=Int.mul_le_mul_of_nonneg_right hs (show 0≤h - z by omega)
 unfold plc at *
 have e1:a.start=p * a.den - a.slope * z:=by omega
 have e2:b.start=p * b.den - b.slope * z:=by omega
 rw [e1,e2]
 clear ha hb hs e1 e2
 grind
theorem zzp {a b:straight} {z p h:Int} (ha:plc a z=p * a.den) (hb:plc b z=p * b.den) (hs:leS a b) (hh:h≤z):plc b h * a.den≤plc a h * b.den:=by
 have y:=Int.mul_le_mul_of_nonneg_right hs (show 0≤z - h by omega)
 unfold plc at *
 have e1:a.start=p * a.den - a.slope * z:=by omega
 have e2:b.start=p * b.den - b.slope * z:=by omega
 rw [e1,e2]
 clear ha hb hs e1 e2
 grind
theorem lp {g : Sl Gate} (hl : 1 ≤ g.len) (nf : ¬ zoQ g) {s : straight} (hd : 0 < s.den) (ha : zk3 g s) :
  (∀ h,(∃ c,Cor g c∧plc c h * s.den≤plc s h * c.den)∧∃ c,Cor g c∧plc s h * c.den≤plc c h * s.den)∧(∃ c,Cor g c∧leS c s)∧∃ c,Cor g c∧leS s c:=by
 obtain ⟨d,d0,da,i,hi,di⟩:=zKB hl ha
 obtain ⟨e,e0,ea,j,hj,ej⟩:=zKC hl ha
 obtain ⟨⟨c1,c1c,c1d,c1p,c1s⟩,⟨c2,c2c,c2d,c2p,c2s⟩⟩:=rot (s:=⟨s.slope,s.start - d,s.den⟩) hd da hi (.inl rfl) di (ztk nf i hi)
 obtain ⟨⟨f1,f1c,f1d,f1p,f1s⟩,⟨f2,f2c,f2d,f2p,f2s⟩⟩:=rot (s:=⟨s.slope,s.start+e,s.den⟩) hd ea hj (.inr rfl) ej (ztk nf j hj)
 have lo:∀ {c:straight} {h:Int},0 < c.den→plc c h * s.den≤plc ⟨s.slope,s.start - d,s.den⟩ h * c.den→plc c h * s.den≤plc s h * c.den:=fun {c h} pc k=>by
  have:=Int.mul_nonneg d0 (Int.le_of_lt pc)
  unfold plc at *
  simp only at k
  grind
 have hi':∀ {c:straight} {h:Int},0 < c.den→plc ⟨s.slope,s.start+e,s.den⟩ h * c.den≤plc c h * s.den→plc s h * c.den≤plc c h * s.den:=fun {c h} pc k=>by
  have:=Int.mul_nonneg e0 (Int.le_of_lt pc)
  unfold plc at *
  simp only at k
  grind
 refine ⟨fun h=>⟨?_,?_⟩,⟨c1,c1c,c1s⟩,⟨c2,c2c,c2s⟩⟩
 ·rcases Int.le_total (g.get i).Z h with k | k
  ·exact ⟨c1,c1c,lo c1d (zzo (b:=⟨s.slope,s.start - d,s.den⟩) c1p di c1s k)⟩
  ·exact ⟨c2,c2c,lo c2d (zzp (a:=⟨s.slope,s.start - d,s.den⟩) di c2p c2s k)⟩
 ·rcases Int.le_total (g.get j).Z h with k | k
  ·exact ⟨f2,f2c,hi' f2d (zzo (a:=⟨s.slope,s.start+e,s.den⟩) ej f2p f2s k)⟩
  ·exact ⟨f1,f1c,hi' f1d (zzp (b:=⟨s.slope,s.start+e,s.den⟩) f1p ej f1s k)⟩
end Go.Proofs
namespace Go.Proofs
open Go Go.Pm
set_option maxRecDepth 100000
theorem zBm {g:Sl Gate} (G:zau g) (hf:s22 g=false):s21 g=true↔∃ s,0 < s.den∧zk3 g s:=by
 obtain ⟨C,_,_,_,c4⟩:=ztg g G
 rw [c4 (zia G hf)]
 constructor
 ·intro ⟨s, hs⟩
  exact ⟨s,by have:=(zeg G hs).2.2;omega,hs.2⟩
 ·intro ⟨s, hd, ha⟩
  obtain ⟨_,⟨c,hc,_⟩,_⟩:=lp G.2.1 (zia G hf) hd ha
  exact ⟨c,hc⟩
def zoV (z x w y:Int):Prop:=(0≤z∧z≤100000)∧(0≤w∧w≤100000)∧z ≠ w∧(-1000000≤x∧x≤1000000)∧-1000000≤y∧y≤1000000
theorem zHp (z x w y:Int):s25 z x w y=true↔zoV z x w y:=by
 unfold s25 zoV
 by_cases h1:z ≥ 0 <;> by_cases h2:z≤100000 <;> by_cases h3:w ≥ 0 <;> by_cases h4:w≤100000 <;> by_cases h5:z=w <;> by_cases h6:x ≥ -1000000 <;> by_cases h7:x≤1000000 <;> by_cases h8:y ≥ -1000000 <;> by_cases h9:y≤1000000 <;> simp [h1,h2,h3,h4,h5,h6,h7,h8,h9] <;> omega
theorem zHq {z x w y:Int} (E:zoV z x w y):p26 z x w y=true∧s26 z x w y=toL (thr z x w y)∧SOK (thr z x w y):=by
 obtain ⟨e1,e2,e3,e4,e5⟩:=E
 obtain ⟨a,b⟩:=zCE e1 e2 e4 e5 e3
 exact ⟨a,b,zCF e1 e2 e4 e5 e3⟩
end Go.Proofs
namespace Go.Proofs
open Go Go.Pm
set_option maxRecDepth 100000
def pkS (g:Sl Gate) (set:Sl Int) (i:Nat) (v:Sl Gate):Sl Gate:=apL v (g.get (set.get i).toNat)
def pick (g:Sl Gate) (set:Sl Int):Sl Gate:=zf5 (pkS g set) set.len 0 zfh
def inR (g:Sl Gate) (set:Sl Int):Prop:=∀ i,i < set.len→0≤set.get i∧set.get i < (g.len:Int)
theorem zCK {α:Type} (v:Sl α) (x:α) (i:Nat) (h:i < v.len):(apL v x).get i=v.get i:=by
 show zc7 v.len v.get (fun _=>x) i=_
 unfold zc7
 rw [show Nat.ble v.len i=false by rw [← Bool.not_eq_true,Nat.ble_eq];omega]
theorem zCL {α:Type} (v:Sl α) (x:α):(apL v x).get v.len=x:=by
 show zc7 v.len v.get (fun _=>x) v.len=_
 unfold zc7
 rw [show Nat.ble v.len v.len=true by rw [Nat.ble_eq];omega]
theorem zBn (g:Sl Gate) (G:zau g) (set:Sl Int) (h:inR g set):(pick g set).len=set.len∧∀ j,j < set.len→zdM ((pick g set).get j) :=
 zgL (Inv:=fun i (v:Sl Gate)=>v.len=i∧∀ j,j < i→zdM (v.get j)) (n:=set.len) (fun i v hi ⟨h1,h2⟩=>by
  refine ⟨by show v.len+1=i+1;omega,fun j hj=>?_⟩
  show zdM ((apL v (g.get (set.get i).toNat)).get j)
  by_cases hji:j < v.len
  ·rw [zCK _ _ _ hji];exact h2 j (by omega)
  ·have : j = v.len := by omega
   rw [this,zCL]
   have:=h i hi
   exact G.1 _ (by omega)) set.len 0 zfh (by omega) ⟨rfl,fun j hj=>absurd hj (Nat.not_lt_zero _)⟩
theorem zrG (g:Sl Gate) (G:zau g) (set:Sl Int) (h:inR g set) (h1:1≤set.len) (h2:set.len≤24):zau (pick g set):=by
 obtain ⟨a,b⟩:=zBn g G set h
 exact ⟨fun i hi=>b i (by omega),by omega,by omega⟩
theorem zCM (g:Sl Gate) (set:Sl Int) (h:inR g set) (h2:set.len≤24):p47 g set=true∧s47 g set=pick g set:=by
  have := zee (σ := Sl Gate) (step := pkS g set) (E := id) (EP := fun _ => true) (Inv := fun i (v : Sl Gate) => v.len = i) (a := 0) (n := set.len) (lpS := fun k v i => zhT g set k i v) (lpP := fun k v i => zhU g set k i v)
    (fun k i v _ hi _=>by
      show zhR g set (zhT g set k) (i:Int) v=_
      generalize zhT g set k=S
      unfold zhR
      rw [decide_eq_true (show (i:Int) < (set.len:Int) by omega),cond_true,Int.toNat_natCast]
      rfl)
    (fun k v=>by
      show zhR g set (zhT g set k) (set.len:Int) v=_
      unfold zhR
      rw [decide_eq_false (show ¬ (set.len:Int) < (set.len:Int) by omega),cond_false];rfl)
    (fun k i v _ hi hv=>by
      show zhS g set (zhU g set k) (i:Int) v=_
      generalize zhU g set k=S
      unfold zhS
      rw [decide_eq_true (show (i:Int) < (set.len:Int) by omega),cond_true,Int.toNat_natCast,decide_eq_true (show 0≤(i:Int)∧(i:Int) < (set.len:Int) by omega),decide_eq_true (h i hi),decide_eq_true (show (v.len+1) * 24≤140737488355328∧v.len+1≤9223372036854775807 by omega)]
      rfl)
    (fun k v=>by
      show zhS g set (zhU g set k) (set.len:Int) v=_
      unfold zhS
      rw [decide_eq_false (show ¬ (set.len:Int) < (set.len:Int) by omega),cond_false])
    (fun i v _ _ h=>by show v.len+1=i+1;omega) (Nat.zero_le _) (by omega) (zfh:Sl Gate) rfl
  exact this
theorem zCN (g:Sl Gate) (G:zau g) (set:Sl Int) (h:inR g set) (h1:1≤set.len) (h2:set.len≤24):p84 g set=true∧s84 g set=s21 (pick g set)∧p21 (pick g set)=true:=by
  have K:=zrG g G set h h1 h2
  obtain ⟨C,l1,_⟩:=ziS _ K
  obtain ⟨q1,q2,q3⟩:=zzg _ K
  have := zee (σ := Sl Gate) (step := pkS g set) (E := fun v => s66 (s65 v)) (EP := fun v => decide (p65 v = true) && (decide (p66 (s65 v) = true) && true)) (Inv := fun i (v : Sl Gate) => v.len = i) (a := 0) (n := set.len) (lpS := fun k v i => zhh g set k i v) (lpP := fun k v i => zhi g set k i v)
    (fun k i v _ hi _=>by
      show zhf g set (zhh g set k) (i:Int) v=_
      generalize zhh g set k=S
      unfold zhf
      rw [decide_eq_true (show (i:Int) < (set.len:Int) by omega),cond_true,Int.toNat_natCast]
      rfl)
    (fun k v=>by
      show zhf g set (zhh g set k) (set.len:Int) v=_
      unfold zhf
      rw [decide_eq_false (show ¬ (set.len:Int) < (set.len:Int) by omega),cond_false])
    (fun k i v _ hi hv=>by
      show zhg g set (zhi g set k) (i:Int) v=_
      generalize zhi g set k=S
      unfold zhg
      rw [decide_eq_true (show (i:Int) < (set.len:Int) by omega),cond_true,Int.toNat_natCast,decide_eq_true (show 0≤(i:Int)∧(i:Int) < (set.len:Int) by omega),decide_eq_true (h i hi),decide_eq_true (show (v.len+1) * 24≤140737488355328∧v.len+1≤9223372036854775807 by omega)]
      simp only [Bool.true_and]
      rfl)
    (fun k v=>by
      show zhg g set (zhi g set k) (set.len:Int) v=_
      unfold zhg
      rw [decide_eq_false (show ¬ (set.len:Int) < (set.len:Int) by omega),cond_false])
    (fun i v _ _ h=>by show v.len+1=i+1;omega) (Nat.zero_le _) (by omega) (zfh:Sl Gate) rfl
  obtain ⟨a,b⟩:=this
  have a:p84 g set=(decide (p65 (pick g set)=true) && (decide (p66 (s65 (pick g set))=true) && true)):=a
  have b:s84 g set=s66 (s65 (pick g set)):=b
  rw [l1,q1] at a
  exact ⟨by rw [a];simp,by rw [b,q3],q2⟩
theorem zzq (g:Sl Gate) (G:zau g) (set:Sl Int) (h:inR g set) (h1:1≤set.len) (h2:set.len≤24):p84 g set=true∧p47 g set=true∧p21 (s47 g set)=true∧s84 g set=s21 (s47 g set):=by
 obtain ⟨a,b,c⟩:=zCN g G set h h1 h2
 obtain ⟨d,e⟩:=zCM g set h h2
 exact ⟨a,d,by rw [e];exact c,by rw [e];exact b⟩
def Rel (a:Sl Int×Int) (b:Sl Int):Prop:=a.1=b∧a.2=(if b.len=0 then 7 else 0)∧b.len≤3
def two (a b:Int):Sl Int:=⟨2,zbc (zcn [(zaj a),(zaj b)])⟩
def three (a b c:Int):Sl Int:=⟨3,zbc (zcn [(zaj a),(zaj b),(zaj c)])⟩
theorem zCO {g:Sl Gate} {a b:Nat} (ha:a < g.len) (hb:b < g.len):inR g (two a b):=by
 intro i hi
 have hi:i < 2:=hi
 match i,hi with
 | 0,_=>show 0≤(a:Int)∧(a:Int) < _;omega
 | 1,_=>show 0≤(b:Int)∧(b:Int) < _;omega
theorem ztl {g:Sl Gate} {a b c:Nat} (ha:a < g.len) (hb:b < g.len) (hc:c < g.len):inR g (three a b c):=by
 intro i hi
 have hi:i < 3:=hi
 match i,hi with
 | 0,_=>show 0≤(a:Int)∧(a:Int) < _;omega
 | 1,_=>show 0≤(b:Int)∧(b:Int) < _;omega
 | 2,_=>show 0≤(c:Int)∧(c:Int) < _;omega
section loops
variable (g:Sl Gate) (G:zau g)
include G
theorem zPZ (i j : Nat) (hi : i < g.len) (hj : j < g.len) (S6 : Int → Sl Int × Int) (S7 : Int → Int → Int → Sl Int × Int) (P6 : Int → Bool) (P7 : Int → Int → Int → Bool) (T4 : Int → Sl Int) (T5 : Int → Int → Sl Int) (Q4 : Int → Bool) (Q5 : Int → Int → Bool)
    (hP:P7 (i:Int) ((j+1:Nat):Int) (i:Int)=true) (hQ:Q5 (i:Int) ((j+1:Nat):Int)=true) (hR:Rel (S7 (i:Int) ((j+1:Nat):Int) (i:Int)) (T5 (i:Int) ((j+1:Nat):Int))) :
    ∀ (m k c:Nat),c+m=g.len→m < k→zhk P6 P7 g k (i:Int) (j:Int) (c:Int) (i:Int)=true∧zkB Q4 Q5 g k (i:Int) (j:Int) (c:Int)=true∧Rel (zdR S6 S7 g k (i:Int) (j:Int) (c:Int) (i:Int)) (zkA T4 T5 g k (i:Int) (j:Int) (c:Int)):=by
  have hl:=G.2
  have wj:=zaK (n:=g.len) hj (by omega)
  intro m
  induction m with
  | zero =>
    intro k c hc hk
    obtain ⟨k,rfl⟩:∃ k',k=k'+1:=⟨k - 1,by omega⟩
    show zhj P6 P7 g (zhk P6 P7 g k) _ _ _ _=true∧zkz Q4 Q5 g (zkB Q4 Q5 g k) _ _ _=true∧Rel (zdQ S6 S7 g (zdR S6 S7 g k) _ _ _ _) (zky T4 T5 g (zkA T4 T5 g k) _ _ _)
    unfold zhj zkz zdQ zky
    rw [decide_eq_false (show ¬ (c:Int) < (g.len:Int) by omega),cond_false,cond_false,cond_false,cond_false,wj]
    exact ⟨hP,hQ,hR⟩
  | succ m ih =>
    intro k c hc hk
    obtain ⟨k,rfl⟩:∃ k',k=k'+1:=⟨k - 1,by omega⟩
    obtain ⟨i1,i2,i3⟩:=ih k (c+1) (by omega) (by omega)
    obtain ⟨a1,a2,a3,a4⟩:=zzq g G (three i j c) (ztl hi hj (by omega)) (by show 1≤3;omega) (by show 3≤24;omega)
    have wc:=zaK (i:=c) (n:=g.len) (by omega) (by omega)
    show zhj P6 P7 g (zhk P6 P7 g k) _ _ _ _=true∧zkz Q4 Q5 g (zkB Q4 Q5 g k) _ _ _=true∧Rel (zdQ S6 S7 g (zdR S6 S7 g k) _ _ _ _) (zky T4 T5 g (zkA T4 T5 g k) _ _ _)
    generalize zhk P6 P7 g k=A1 at i1
    generalize zkB Q4 Q5 g k=A2 at i2
    generalize zdR S6 S7 g k=A3 at i3
    generalize zkA T4 T5 g k=A4 at i3
    have hth:(⟨3,zbc (zcn [(zaj (i:Int)),(zaj (j:Int)),(zaj (c:Int))])⟩:Sl Int)=three i j c:=rfl
    unfold zhj zkz zdQ zky zpW zyX zmx zyW
    rw [hth,a1,a2,a3,a4,wc,decide_eq_true (show (c:Int) < (g.len:Int) by omega)]
    cases s21 (s47 g (three i j c))
    · exact ⟨by simp only [decide_true,Bool.true_and,cond_true,Bool.not_false],by simp only [decide_true,Bool.true_and,cond_true,Bool.not_false],rfl,rfl,by show 3≤3;omega⟩
    · exact ⟨by simp only [decide_true,Bool.true_and,cond_true,cond_false,Bool.not_true];exact i1,by simp only [decide_true,Bool.true_and,cond_true,cond_false,Bool.not_true];exact i2,i3⟩
theorem zP0 (i : Nat) (hi : i < g.len) (S6 : Int → Sl Int × Int) (P6 : Int → Bool) (T4 : Int → Sl Int) (Q4 : Int → Bool)
    (hP:P6 ((i+1:Nat):Int)=true) (hQ:Q4 ((i+1:Nat):Int)=true) (hR:Rel (S6 ((i+1:Nat):Int)) (T4 ((i+1:Nat):Int))) :
    ∀ (m k j:Nat),j+m=g.len→m < k→zhm P6 g k (i:Int) (j:Int) (i:Int)=true∧zkF Q4 g k (i:Int) (j:Int)=true∧Rel (zdT S6 g k (i:Int) (j:Int) (i:Int)) (zkE T4 g k (i:Int) (j:Int)):=by
  have hl:=G.2
  have wi:=zaK (n:=g.len) hi (by omega)
  intro m
  induction m with
  | zero =>
    intro k j hj hk
    obtain ⟨k,rfl⟩:∃ k',k=k'+1:=⟨k - 1,by omega⟩
    show zhl P6 g (zhm P6 g k) _ _ _=true∧zkD Q4 g (zkF Q4 g k) _ _=true∧Rel (zdS S6 g (zdT S6 g k) _ _ _) (zkC T4 g (zkE T4 g k) _ _)
    unfold zhl zkD zdS zkC
    rw [decide_eq_false (show ¬ (j:Int) < (g.len:Int) by omega),cond_false,cond_false,cond_false,cond_false,wi]
    exact ⟨hP,hQ,hR⟩
  | succ m ih =>
    intro k j hj hk
    obtain ⟨k,rfl⟩:∃ k',k=k'+1:=⟨k - 1,by omega⟩
    obtain ⟨i1,i2,i3⟩:=ih k (j+1) (by omega) (by omega)
    have wj:=zaK (i:=j) (n:=g.len) (by omega) (by omega)
    show zhl P6 g (zhm P6 g k) _ _ _=true∧zkD Q4 g (zkF Q4 g k) _ _=true∧Rel (zdS S6 g (zdT S6 g k) _ _ _) (zkC T4 g (zkE T4 g k) _ _)
    generalize zhm P6 g k=A1 at i1
    generalize zkF Q4 g k=A2 at i2
    generalize zdT S6 g k=A3 at i3
    generalize zkE T4 g k=A4 at i3
    unfold zhl zkD zdS zkC zpX zyZ zmy zyY
    rw [wj,decide_eq_true (show (j:Int) < (g.len:Int) by omega),cond_true,cond_true,cond_true,cond_true]
    exact zPZ g G i j hi (by omega) S6 A3 P6 A1 T4 A4 Q4 A2 i1 i2 i3 (g.len - (j+1)) Fuel (j+1) (by omega) (by simp only [Fuel];omega)
theorem zP1:∀ (m k i:Nat),i+m=g.len→m < k→zho g k (i:Int)=true∧zkJ g k (i:Int)=true∧Rel (zdV g k (i:Int)) (zkI g k (i:Int)):=by
 have hl:=G.2
 intro m
 induction m with
 | zero =>
  intro k i hi hk
  obtain ⟨k,rfl⟩:∃ k',k=k'+1:=⟨k - 1,by omega⟩
  show zhn g (zho g k) _=true∧zkH g (zkJ g k) _=true∧Rel (zdU g (zdV g k) _) (zkG g (zkI g k) _)
  unfold zhn zkH zdU zkG
  rw [decide_eq_false (show ¬ (i:Int) < (g.len:Int) by omega),cond_false,cond_false,cond_false,cond_false]
  exact ⟨rfl,rfl,rfl,rfl,by show 0≤3;omega⟩
 | succ m ih =>
  intro k i hi hk
  obtain ⟨k,rfl⟩:∃ k',k=k'+1:=⟨k - 1,by omega⟩
  obtain ⟨i1,i2,i3⟩:=ih k (i+1) (by omega) (by omega)
  have wi:=zaK (i:=i) (n:=g.len) (by omega) (by omega)
  show zhn g (zho g k) _=true∧zkH g (zkJ g k) _=true∧Rel (zdU g (zdV g k) _) (zkG g (zkI g k) _)
  generalize zho g k=A1 at i1
  generalize zkJ g k=A2 at i2
  generalize zdV g k=A3 at i3
  generalize zkI g k=A4 at i3
  unfold zhn zkH zdU zkG zpY zy1 zmz zy0
  rw [wi,decide_eq_true (show (i:Int) < (g.len:Int) by omega),cond_true,cond_true,cond_true,cond_true]
  exact zP0 g G i (by omega) A3 A1 A4 A2 i1 i2 i3 (g.len - (i+1)) Fuel (i+1) (by omega) (by simp only [Fuel];omega)
theorem zP2 (i : Nat) (hi : i < g.len) (S2 : Int → Sl Int × Int) (P2 : Int → Bool) (T0 : Int → Sl Int) (Q0 : Int → Bool)
    (hP:P2 ((i+1:Nat):Int)=true) (hQ:Q0 ((i+1:Nat):Int)=true) (hR:Rel (S2 ((i+1:Nat):Int)) (T0 ((i+1:Nat):Int))) :
    ∀ (m k j:Nat),j+m=g.len→m < k→zhq P2 g k (i:Int) (j:Int) (i:Int)=true∧zkN Q0 g k (i:Int) (j:Int)=true∧Rel (zdX S2 g k (i:Int) (j:Int) (i:Int)) (zkM T0 g k (i:Int) (j:Int)):=by
  have hl:=G.2
  have wi:=zaK (n:=g.len) hi (by omega)
  intro m
  induction m with
  | zero =>
    intro k j hj hk
    obtain ⟨k,rfl⟩:∃ k',k=k'+1:=⟨k - 1,by omega⟩
    show zhp P2 g (zhq P2 g k) _ _ _=true∧zkL Q0 g (zkN Q0 g k) _ _=true∧Rel (zdW S2 g (zdX S2 g k) _ _ _) (zkK T0 g (zkM T0 g k) _ _)
    unfold zhp zkL zdW zkK
    rw [decide_eq_false (show ¬ (j:Int) < (g.len:Int) by omega),cond_false,cond_false,cond_false,cond_false,wi]
    exact ⟨hP,hQ,hR⟩
  | succ m ih =>
    intro k j hj hk
    obtain ⟨k,rfl⟩:∃ k',k=k'+1:=⟨k - 1,by omega⟩
    obtain ⟨i1,i2,i3⟩:=ih k (j+1) (by omega) (by omega)
    obtain ⟨a1,a2,a3,a4⟩:=zzq g G (two i j) (zCO hi (by omega)) (by show 1≤2;omega) (by show 2≤24;omega)
    have wj:=zaK (i:=j) (n:=g.len) (by omega) (by omega)
    show zhp P2 g (zhq P2 g k) _ _ _=true∧zkL Q0 g (zkN Q0 g k) _ _=true∧Rel (zdW S2 g (zdX S2 g k) _ _ _) (zkK T0 g (zkM T0 g k) _ _)
    generalize zhq P2 g k=A1 at i1
    generalize zkN Q0 g k=A2 at i2
    generalize zdX S2 g k=A3 at i3
    generalize zkM T0 g k=A4 at i3
    have hth:(⟨2,zbc (zcn [(zaj (i:Int)),(zaj (j:Int))])⟩:Sl Int)=two i j:=rfl
    unfold zhp zkL zdW zkK zpZ zy3 zmA zy2
    rw [hth,a1,a2,a3,a4,wj,decide_eq_true (show (j:Int) < (g.len:Int) by omega)]
    cases s21 (s47 g (two i j))
    · exact ⟨by simp only [decide_true,Bool.true_and,cond_true,Bool.not_false],by simp only [decide_true,Bool.true_and,cond_true,Bool.not_false],rfl,rfl,by show 2≤3;omega⟩
    · exact ⟨by simp only [decide_true,Bool.true_and,cond_true,cond_false,Bool.not_true];exact i1,by simp only [decide_true,Bool.true_and,cond_true,cond_false,Bool.not_true];exact i2,i3⟩
theorem zP3:∀ (m k i:Nat),i+m=g.len→m < k→zhs g k (i:Int)=true∧zkR g k (i:Int)=true∧Rel (zdZ g k (i:Int)) (zkQ g k (i:Int)):=by
 have hl:=G.2
 intro m
 induction m with
 | zero =>
  intro k i hi hk
  obtain ⟨k,rfl⟩:∃ k',k=k'+1:=⟨k - 1,by omega⟩
  show zhr g (zhs g k) _=true∧zkP g (zkR g k) _=true∧Rel (zdY g (zdZ g k) _) (zkO g (zkQ g k) _)
  unfold zhr zkP zdY zkO
  rw [decide_eq_false (show ¬ (i:Int) < (g.len:Int) by omega),cond_false,cond_false,cond_false,cond_false]
  exact zP1 g G g.len Fuel 0 (by omega) (by simp only [Fuel];omega)
 | succ m ih =>
  intro k i hi hk
  obtain ⟨k,rfl⟩:∃ k',k=k'+1:=⟨k - 1,by omega⟩
  obtain ⟨i1,i2,i3⟩:=ih k (i+1) (by omega) (by omega)
  have wi:=zaK (i:=i) (n:=g.len) (by omega) (by omega)
  show zhr g (zhs g k) _=true∧zkP g (zkR g k) _=true∧Rel (zdY g (zdZ g k) _) (zkO g (zkQ g k) _)
  generalize zhs g k=A1 at i1
  generalize zkR g k=A2 at i2
  generalize zdZ g k=A3 at i3
  generalize zkQ g k=A4 at i3
  unfold zhr zkP zdY zkO zp0 zy5 zmC zy4
  rw [wi,decide_eq_true (show (i:Int) < (g.len:Int) by omega),cond_true,cond_true,cond_true,cond_true]
  exact zP2 g G i (by omega) A3 A1 A4 A2 i1 i2 i3 (g.len - (i+1)) Fuel (i+1) (by omega) (by simp only [Fuel];omega)
end loops
theorem zzr (g:Sl Gate) (G:zau g):zp2 g=true∧p43 g=true∧Rel (zp1 g) (s43 g):=zP3 g G g.len Fuel 0 (by omega) (by have:=G.2;simp only [Fuel];omega)
def zBo (g:Sl Gate) (h:Sl Int) (i:Nat):Bool:=decide ((0≤h.get i∧h.get i≤(g.len:Int) - 1)∧(0 < i→h.get (i - 1) < h.get i))
theorem zzs {i:Nat} (h:0 < i) (hn:i≤9223372036854775807):w64 ((i:Int) - (1:Int))=((i - 1:Nat):Int):=by
 rw [zaR (by omega) (by omega)];omega
theorem zgQ {α : Type} (g : Sl Gate) (h : Sl Int) (i : Nat) (hi : i ≤ 100) (hg : g.len ≤ 24) (a b : α) :
  (cond (!(s70 (h.get i) (0:Int) (w64 ((g.len:Int) - (1:Int))))) b (cond (decide ((i:Int) > (0:Int))) (cond (decide ((h.get i)≤(h.get ((w64 ((i:Int) - (1:Int))).toNat)))) b a) a))=cond (zBo g h i) a b:=by
 rw [zkS,zaR (x:=(g.len:Int) - 1) (by omega) (by omega)]
 by_cases h1:0≤h.get i∧h.get i≤(g.len:Int) - 1
 ·rw [decide_eq_true h1]
  by_cases h2:0 < i
  ·rw [decide_eq_true (show (i : Int) > 0 by omega), zzs h2 (by omega), Int.toNat_natCast]
   by_cases h3:h.get i≤h.get (i - 1)
   ·rw [decide_eq_true h3,show zBo g h i=false from decide_eq_false fun k=>absurd (k.2 h2) (by omega)];rfl
   ·rw [decide_eq_false h3,show zBo g h i=true from decide_eq_true ⟨h1,fun _=>by omega⟩];rfl
  ·rw [decide_eq_false (show ¬ (i:Int) > 0 by omega),show zBo g h i=true from decide_eq_true ⟨h1,fun k=>absurd k h2⟩];rfl
 ·rw [decide_eq_false h1,show zBo g h i=false from decide_eq_false fun k=>h1 k.1];rfl
theorem zHr {g:Sl Gate} {h:Sl Int} (k:∀ i,i < h.len→zBo g h i=true):inR g h:=fun i hi=>by
 have:=(of_decide_eq_true (k i hi)).1;omega
theorem zzt (g:Sl Gate) (G:zau g) (h:Sl Int) (hh:h.len≤10):p42 g h=true∧(2≤h.len∧h.len≤3→zm9 g h=true∧zke g h=s42 g h)∧(¬ (2≤h.len∧h.len≤3)→s42 g h=false):=by
  have hl:=G.2
  have A := zrA (good := zBo g h) (bad := false) (fin := !(s84 g h)) (finP := (decide (p84 g h = true) && true)) (n := h.len) (lpS := fun k i => zdC g k h h (h.len : Int) i) (lpP := fun k i => zf2 g k h h (h.len : Int) i)
    (fun k i hi=>by
      show zd1 g (zdC g k) h h (h.len:Int) (i:Int)=_
      generalize zdC g k=S
      unfold zd1 zhP
      rw [decide_eq_true (show (i:Int) < (h.len:Int) by omega),cond_true,Int.toNat_natCast,← zgQ g h i (by omega) hl.2,show s74 (h.get i) 0 (w64 ((g.len:Int) - 1))=s70 (h.get i) 0 (w64 ((g.len:Int) - 1)) from rfl]
      cases s70 (h.get i) 0 (w64 ((g.len:Int) - 1)) <;> cases decide ((i:Int) > 0) <;> rfl)
    (fun k=>by
      show zd1 g (zdC g k) h h (h.len:Int) (h.len:Int)=_
      unfold zd1
      rw [decide_eq_false (show ¬ (h.len:Int) < (h.len:Int) by omega),cond_false])
    (fun k i hi=>by
      show zhQ g (zf2 g k) h h (h.len:Int) (i:Int)=_
      generalize zf2 g k=S
      unfold zhQ zkd
      rw [decide_eq_true (show (i:Int) < (h.len:Int) by omega),cond_true,Int.toNat_natCast,← zgQ g h i (by omega) hl.2,show s74 (h.get i) 0 (w64 ((g.len:Int) - 1))=s70 (h.get i) 0 (w64 ((g.len:Int) - 1)) from rfl,decide_eq_true (show 0≤(i:Int)∧(i:Int) < (h.len:Int) by omega),Bool.true_and]
      by_cases h0:0 < i
      · rw [zzs h0 (by omega), Int.toNat_natCast, decide_eq_true (show 0 ≤ ((i - 1 : Nat) : Int) ∧ ((i - 1 : Nat) : Int) < (h.len : Int) by omega), Bool.true_and]
        cases s70 (h.get i) 0 (w64 ((g.len:Int) - 1)) <;> cases decide ((i:Int) > 0) <;> rfl
      · rw [decide_eq_false (show ¬ (i : Int) > 0 by omega)]
        cases s70 (h.get i) 0 (w64 ((g.len:Int) - 1)) <;> rfl)
    (fun k=>by
      show zhQ g (zf2 g k) h h (h.len:Int) (h.len:Int)=_
      unfold zhQ
      rw [decide_eq_false (show ¬ (h.len:Int) < (h.len:Int) by omega),cond_false])
    (by omega)
  have B := zrA (good := zBo g h) (bad := false) (fin := cond (s70 (h.len : Int) 2 3) (!(s21 (s47 g h))) false) (finP := cond (s70 (h.len : Int) 2 3) (decide (p47 g h = true) && (decide (p21 (s47 g h) = true) && true)) true) (n := h.len) (lpS := fun k i => zh5 g k h i) (lpP := fun k i => zh6 g k h i)
    (fun k i hi=>by
      show zkw g (zh5 g k) h (i:Int)=_
      generalize zh5 g k=S
      unfold zkw znp
      rw [decide_eq_true (show (i:Int) < (h.len:Int) by omega),cond_true,Int.toNat_natCast,← zgQ g h i (by omega) hl.2]
      cases s70 (h.get i) 0 (w64 ((g.len:Int) - 1)) <;> cases decide ((i:Int) > 0) <;> rfl)
    (fun k=>by
      show zkw g (zh5 g k) h (h.len:Int)=_
      unfold zkw
      rw [decide_eq_false (show ¬ (h.len:Int) < (h.len:Int) by omega),cond_false])
    (fun k i hi=>by
      show zkx g (zh6 g k) h (i:Int)=_
      generalize zh6 g k=S
      unfold zkx znq
      rw [decide_eq_true (show (i:Int) < (h.len:Int) by omega),cond_true,Int.toNat_natCast,← zgQ g h i (by omega) hl.2,decide_eq_true (show 0≤(i:Int)∧(i:Int) < (h.len:Int) by omega),Bool.true_and,Bool.true_and]
      by_cases h0:0 < i
      · rw [zzs h0 (by omega), Int.toNat_natCast, decide_eq_true (show 0 ≤ ((i - 1 : Nat) : Int) ∧ ((i - 1 : Nat) : Int) < (h.len : Int) by omega), Bool.true_and]
        cases s70 (h.get i) 0 (w64 ((g.len:Int) - 1)) <;> cases decide ((i:Int) > 0) <;> rfl
      · rw [decide_eq_false (show ¬ (i : Int) > 0 by omega)]
        cases s70 (h.get i) 0 (w64 ((g.len:Int) - 1)) <;> rfl)
    (fun k=>by
      show zkx g (zh6 g k) h (h.len:Int)=_
      unfold zkx
      rw [decide_eq_false (show ¬ (h.len:Int) < (h.len:Int) by omega),cond_false])
    (by omega)
  have eS:zke g h=zdC g Fuel h h (h.len:Int) 0:=rfl
  have eP:zm9 g h=zf2 g Fuel h h (h.len:Int) 0:=rfl
  have fS:s42 g h=zh5 g Fuel h 0:=rfl
  have fP:p42 g h=zh6 g Fuel h 0:=rfl
  rw [eS,eP,fS,fP]
  by_cases good:∀ i,i < h.len→zBo g h i=true
  · obtain ⟨a1, a2⟩ := A.1 good
    obtain ⟨b1,b2⟩:=B.1 good
    by_cases h23:2≤h.len∧h.len≤3
    · obtain ⟨c1, c2, c3, c4⟩ := zzq g G h (zHr good) (by omega) (by omega)
      rw [zkS,decide_eq_true (show (2:Int)≤(h.len:Int)∧(h.len:Int)≤3 by omega),cond_true] at b1 b2
      rw [c2,c3] at b1
      rw [c1] at a1
      exact ⟨by simpa using b1,fun _=>⟨by simpa using a1,a2.trans ((by rw [c4]:(!(s84 g h)) = !(s21 (s47 g h))).trans b2.symm)⟩,fun hn=>absurd h23 hn⟩
    · rw [zkS, decide_eq_false (show ¬ ((2:Int) ≤ (h.len : Int) ∧ (h.len : Int) ≤ 3) by omega), cond_false] at b1 b2
      exact ⟨b1,fun k=>absurd k h23,fun _=>b2⟩
  · obtain ⟨a1, a2⟩ := A.2 good
    obtain ⟨b1,b2⟩:=B.2 good
    exact ⟨b1,fun _=>⟨a1,a2.trans b2.symm⟩,fun _=>b2⟩
end Go.Proofs
namespace Go.Proofs
open Go Go.Pm
set_option maxRecDepth 100000
theorem zKD {g:Sl Gate} (G:zau g):(∀ i,i < g.len→(g.get i).Low≤(com g).1∧(com g).2≤(g.get i).High)∧(∃ i,i < g.len∧(com g).1=(g.get i).Low)∧∃ i,i < g.len∧(com g).2=(g.get i).High:=by
 have hl:=G.2
 have:=zgL (step:=cmS g) (n:=g.len) (Inv:=fun n (s:Int×Int)=>(∀ i,i < n→(g.get i).Low≤s.1∧s.2≤(g.get i).High)∧(∃ i,i < g.len∧s.1=(g.get i).Low)∧∃ i,i < g.len∧s.2=(g.get i).High) (fun i s hi ⟨h1,h2,h3⟩=>by
  unfold cmS
  refine ⟨fun j hj=>?_,?_,?_⟩
  ·show (g.get j).Low ≤ (if (g.get i).Low > s.1 then (g.get i).Low else s.1) ∧ (if (g.get i).High < s.2 then (g.get i).High else s.2) ≤ (g.get j).High
   by_cases e:j=i
   ·rw [e];constructor <;> split <;> omega
   ·have := h1 j (by omega)
    constructor <;> split <;> omega
  ·show ∃ k, k < g.len ∧ (if (g.get i).Low > s.1 then (g.get i).Low else s.1) = _
   split
   ·exact ⟨i,hi,rfl⟩
   ·exact h2
  ·show ∃ k, k < g.len ∧ (if (g.get i).High < s.2 then (g.get i).High else s.2) = _
   split
   ·exact ⟨i,hi,rfl⟩
   ·exact h3) (g.len - 1) 1 ((g.get 0).Low,(g.get 0).High) (by omega) ⟨fun i hi=>by rw [show i=0 by omega];exact ⟨Int.le_refl _,Int.le_refl _⟩,⟨0,by omega,rfl⟩,0,by omega,rfl⟩
 exact this
theorem znA {g:Sl Gate} (G:zau g):s21 g=true↔∃ s,0 < s.den∧zk3 g s:=by
 cases hf:s22 g
 ·exact zBm G hf
 ·have fl := (zkV g G).2.1 hf
  have e:s21 g=decide ((com g).1≤(com g).2):=by unfold s21;rw [hf,(zCH g G).2];rfl
  obtain ⟨c1,⟨i,hi,c2⟩,⟨j,hj,c3⟩⟩:=zKD G
  rw [e,decide_eq_true_eq]
  constructor
  ·intro h
   refine ⟨⟨0,(com g).1,1⟩,by show (0:Int) < 1;omega,fun k hk=>decide_eq_true ?_⟩
   have:=c1 k hk
   unfold plc;simp only;omega
  ·intro ⟨s, hd, ha⟩
   have a:=(zfi ha hi).1
   have b:=(zfi ha hj).2
   rw [fl i hi] at a
   rw [fl j hj] at b
   rw [c2,c3]
   exact Int.le_of_mul_le_mul_right (Int.le_trans a b) hd
theorem ztm (g:Sl Gate) (set:Sl Int):(pick g set).len=set.len∧∀ j,j < set.len→(pick g set).get j=g.get (set.get j).toNat :=
 zgL (Inv:=fun i (v:Sl Gate)=>v.len=i∧∀ j,j < i→v.get j=g.get (set.get j).toNat) (n:=set.len) (fun i v _ ⟨h1,h2⟩=>by
  refine ⟨by show v.len+1=i+1;omega,fun j hj=>?_⟩
  show (apL v (g.get (set.get i).toNat)).get j=_
  by_cases h:j < v.len
  ·rw [zCK _ _ _ h];exact h2 j (by omega)
  ·have e : j = v.len := by omega
   rw [e,zCL,h1]) set.len 0 zfh (by omega) ⟨rfl,fun j hj=>absurd hj (Nat.not_lt_zero _)⟩
def ff {β : Type} (hit : Nat → Option β) : Nat → Nat → Option β
  | 0,_=>none
  | m+1,i=>match hit i with | some r=>some r | none=>ff hit m (i+1)
theorem zkZ {β:Type} (hit:Nat→Option β) (m i:Nat):ff hit (m+1) i=match hit i with | some r=>some r | none=>ff hit m (i+1):=rfl
theorem zib {β : Type} {hit : Nat → Option β} {r : β} : ∀ {m i : Nat}, ff hit m i = some r → ∃ x, i ≤ x ∧ x < i + m ∧ hit x = some r
  | 0,_,h=>by cases h
  | m+1,i,h=>by
    unfold ff at h
    cases e:hit i with
    | some y=>rw [e] at h;exact ⟨i,by omega,by omega,by rw [e];exact h⟩
    | none=>rw [e] at h;obtain ⟨x,a,b,c⟩:=zib h;exact ⟨x,by omega,by omega,c⟩
theorem zic {β : Type} {hit : Nat → Option β} : ∀ {m i : Nat}, ff hit m i = none → ∀ x, i ≤ x → x < i + m → hit x = none
  | 0,_,_,x,a,b=>by omega
  | m+1,i,h,x,a,b=>by
    unfold ff at h
    cases e:hit i with
    | some y=>rw [e] at h;cases h
    | none =>
      rw [e] at h
      by_cases k:x=i
      · rw [k];exact e
      · exact zic h x (by omega) (by omega)
def opt (o:Option (Sl Int)) (d:Sl Int×Int):Sl Int×Int:=match o with | some r=>(r,0) | none=>d
def rr2 (i j:Int):Sl Int:=⟨2,zgU i [i,j]⟩
def rr3 (i j k:Int):Sl Int:=⟨3,zgU i [i,j,k]⟩
def h3 (g:Sl Gate) (i j k:Nat):Option (Sl Int):=cond (s84 g (three i j k)) none (some (rr3 i j k))
def h2 (g:Sl Gate) (i j:Nat):Option (Sl Int):=ff (h3 g i j) (g.len - (j+1)) (j+1)
def h1 (g:Sl Gate) (i:Nat):Option (Sl Int):=ff (h2 g i) (g.len - (i+1)) (i+1)
def e2 (g:Sl Gate) (i j:Nat):Option (Sl Int):=cond (s84 g (two i j)) none (some (rr2 i j))
def e1 (g:Sl Gate) (i:Nat):Option (Sl Int):=ff (e2 g i) (g.len - (i+1)) (i+1)
def emp (g:Sl Gate):Sl Int×Int:=opt (ff (e1 g) g.len 0) (opt (ff (h1 g) g.len 0) (⟨0,fun _=>default⟩,7))
section
variable (g:Sl Gate) (hn:g.len≤24)
include hn
theorem em8 (i j:Nat) (hj:j < g.len) (S6:Int→Sl Int×Int) (S7:Int→Int→Int→Sl Int×Int) (t:Int):∀ (m k c:Nat),c+m=g.len→m < k→zdR S6 S7 g k (i:Int) (j:Int) (c:Int) t=opt (ff (h3 g i j) m c) (S7 (i:Int) ((j+1:Nat):Int) t):=by
 intro m
 induction m with
 | zero =>
  intro k c hc hk
  obtain ⟨k,rfl⟩:∃ x,k=x+1:=⟨k - 1,by omega⟩
  show zdQ S6 S7 g (zdR S6 S7 g k) (i:Int) (j:Int) (c:Int) t=_
  unfold zdQ
  rw [decide_eq_false (show ¬ (c:Int) < (g.len:Int) by omega),cond_false,zaK (n:=g.len) hj (by omega)];rfl
 | succ m ih =>
  intro k c hc hk
  obtain ⟨k,rfl⟩:∃ x,k=x+1:=⟨k - 1,by omega⟩
  have ih:=ih k (c+1) (by omega) (by omega)
  show zdQ S6 S7 g (zdR S6 S7 g k) (i:Int) (j:Int) (c:Int) t=_
  generalize zdR S6 S7 g k=A at ih
  unfold zdQ zmx
  rw [decide_eq_true (show (c:Int) < (g.len:Int) by omega),cond_true,zaK (n:=g.len) (i:=c) (by omega) (by omega)]
  rw [zkZ]
  unfold h3
  show cond (!(s84 g (three i j c))) _ _=_
  cases s84 g (three (i:Int) (j:Int) (c:Int))
  ·rfl
  ·exact ih
theorem em7 (i:Nat) (hi:i < g.len) (S6:Int→Sl Int×Int):∀ (m k j:Nat),j+m=g.len→m < k→zdT S6 g k (i:Int) (j:Int) (i:Int)=opt (ff (h2 g i) m j) (S6 ((i+1:Nat):Int)):=by
 intro m
 induction m with
 | zero =>
  intro k j hc hk
  obtain ⟨k,rfl⟩:∃ x,k=x+1:=⟨k - 1,by omega⟩
  show zdS S6 g (zdT S6 g k) (i:Int) (j:Int) (i:Int)=_
  unfold zdS
  rw [decide_eq_false (show ¬ (j:Int) < (g.len:Int) by omega),cond_false,zaK (n:=g.len) hi (by omega)];rfl
 | succ m ih =>
  intro k j hc hk
  obtain ⟨k,rfl⟩:∃ x,k=x+1:=⟨k - 1,by omega⟩
  have ih:=ih k (j+1) (by omega) (by omega)
  show zdS S6 g (zdT S6 g k) (i:Int) (j:Int) (i:Int)=_
  generalize zdT S6 g k=A at ih
  have E:=em8 g hn i j (by omega) S6 A (i:Int) (g.len - (j+1)) Fuel (j+1) (by omega) (by simp only [Fuel];omega)
  unfold zdS zmy
  rw [decide_eq_true (show (j:Int) < (g.len:Int) by omega),cond_true,zaK (n:=g.len) (i:=j) (by omega) (by omega),E,ih]
  rw [zkZ]
  show opt (h2 g i j) _=_
  cases h2 g i j <;> rfl
theorem em6:∀ (m k i:Nat),i+m=g.len→m < k→zdV g k (i:Int)=opt (ff (h1 g) m i) (⟨0,fun _=>default⟩,7):=by
 intro m
 induction m with
 | zero =>
  intro k i hc hk
  obtain ⟨k,rfl⟩:∃ x,k=x+1:=⟨k - 1,by omega⟩
  show zdU g (zdV g k) (i:Int)=_
  unfold zdU
  rw [decide_eq_false (show ¬ (i:Int) < (g.len:Int) by omega),cond_false];rfl
 | succ m ih =>
  intro k i hc hk
  obtain ⟨k,rfl⟩:∃ x,k=x+1:=⟨k - 1,by omega⟩
  have ih:=ih k (i+1) (by omega) (by omega)
  show zdU g (zdV g k) (i:Int)=_
  generalize zdV g k=A at ih
  have E:=em7 g hn i (by omega) A (g.len - (i+1)) Fuel (i+1) (by omega) (by simp only [Fuel];omega)
  unfold zdU zmz
  rw [decide_eq_true (show (i:Int) < (g.len:Int) by omega),cond_true,zaK (n:=g.len) (i:=i) (by omega) (by omega),E,ih]
  rw [zkZ]
  show opt (h1 g i) _=_
  cases h1 g i <;> rfl
theorem em3 (i:Nat) (hi:i < g.len) (S2:Int→Sl Int×Int):∀ (m k j:Nat),j+m=g.len→m < k→zdX S2 g k (i:Int) (j:Int) (i:Int)=opt (ff (e2 g i) m j) (S2 ((i+1:Nat):Int)):=by
 intro m
 induction m with
 | zero =>
  intro k j hc hk
  obtain ⟨k,rfl⟩:∃ x,k=x+1:=⟨k - 1,by omega⟩
  show zdW S2 g (zdX S2 g k) (i:Int) (j:Int) (i:Int)=_
  unfold zdW
  rw [decide_eq_false (show ¬ (j:Int) < (g.len:Int) by omega),cond_false,zaK (n:=g.len) hi (by omega)];rfl
 | succ m ih =>
  intro k j hc hk
  obtain ⟨k,rfl⟩:∃ x,k=x+1:=⟨k - 1,by omega⟩
  have ih:=ih k (j+1) (by omega) (by omega)
  show zdW S2 g (zdX S2 g k) (i:Int) (j:Int) (i:Int)=_
  generalize zdX S2 g k=A at ih
  unfold zdW zmA
  rw [decide_eq_true (show (j:Int) < (g.len:Int) by omega),cond_true,zaK (n:=g.len) (i:=j) (by omega) (by omega)]
  rw [zkZ]
  unfold e2
  show cond (!(s84 g (two i j))) _ _=_
  cases s84 g (two (i:Int) (j:Int))
  ·rfl
  ·exact ih
theorem em2:∀ (m k i:Nat),i+m=g.len→m < k→zdZ g k (i:Int)=opt (ff (e1 g) m i) (zmB g):=by
 intro m
 induction m with
 | zero =>
  intro k i hc hk
  obtain ⟨k,rfl⟩:∃ x,k=x+1:=⟨k - 1,by omega⟩
  show zdY g (zdZ g k) (i:Int)=_
  unfold zdY
  rw [decide_eq_false (show ¬ (i:Int) < (g.len:Int) by omega),cond_false];rfl
 | succ m ih =>
  intro k i hc hk
  obtain ⟨k,rfl⟩:∃ x,k=x+1:=⟨k - 1,by omega⟩
  have ih:=ih k (i+1) (by omega) (by omega)
  show zdY g (zdZ g k) (i:Int)=_
  generalize zdZ g k=A at ih
  have E:=em3 g hn i (by omega) A (g.len - (i+1)) Fuel (i+1) (by omega) (by simp only [Fuel];omega)
  unfold zdY zmC
  rw [decide_eq_true (show (i:Int) < (g.len:Int) by omega),cond_true,zaK (n:=g.len) (i:=i) (by omega) (by omega),E,ih]
  rw [zkZ]
  show opt (e1 g i) _=_
  cases e1 g i <;> rfl
end
theorem zKE (g:Sl Gate) (G:zau g):p38 g=true∧s38 g=emp g:=by
 have hl:=G.2
 obtain ⟨a1,a2⟩:=zoM g (by omega)
 have a2:=a2.2 G
 unfold p38 s38 zp4 zp3
 rw [a1,a2]
 refine ⟨(zzr g G).1,?_⟩
 have E2:=em2 g (by omega) g.len Fuel 0 (by omega) (by simp only [Fuel];omega)
 have E6:=em6 g (by omega) g.len Fuel 0 (by omega) (by simp only [Fuel];omega)
 have E6:zmB g=opt (ff (h1 g) g.len 0) (⟨0,fun _=>default⟩,7):=E6
 rw [E6] at E2
 exact E2
def adS (a b:straight):straight:=⟨a.slope+b.slope,a.start+b.start,a.den+b.den⟩
def smS (k:Int) (a:straight):straight:=⟨k * a.slope,k * a.start,k * a.den⟩
structure Cone (K : straight → Prop) : Prop where
  zero:K ⟨0,0,0⟩
  add:∀ {a b},K a→K b→K (adS a b)
  mul:∀ {k a},0≤k→K a→K (smS k a)
theorem zzu (g:Gate):Cone (fun s=>zef s g=true):=by
 refine ⟨decide_eq_true (by unfold plc;simp only;omega),fun {a b} ha hb=>decide_eq_true ?_,fun {k a} hk ha=>decide_eq_true ?_⟩
 ·have ha := of_decide_eq_true ha
  have hb:=of_decide_eq_true hb
  unfold plc adS at *
  simp only
  constructor <;> grind
 ·obtain ⟨h1, h2⟩ := of_decide_eq_true ha
  have x1:=Int.mul_le_mul_of_nonneg_left h1 hk
  have x2:=Int.mul_le_mul_of_nonneg_left h2 hk
  unfold plc smS at *
  simp only
  constructor <;> grind
theorem zBp {K L:straight→Prop} (hK:Cone K) (hL:Cone L):Cone (fun s=>K s∧L s) :=
 ⟨⟨hK.zero,hL.zero⟩,fun a b=>⟨hK.add a.1 b.1,hL.add a.2 b.2⟩,fun k a=>⟨hK.mul k a.1,hL.mul k a.2⟩⟩
def pos (x:Int):Int:=if 0 < x then x else 0
theorem zoW (x:Int):0≤pos x:=by unfold pos;split <;> omega
theorem ziT (x:Int):pos x - pos (-x)=x:=by unfold pos;split <;> split <;> omega
theorem zBq {x:Int} (h:x≤0):pos x=0:=by unfold pos;rw [if_neg (by omega)]
theorem zP4 (x1 y1 x2 y2 x3 y3:Int):∃ c1 c2 c3:Int,(c1 ≠ 0∨c2 ≠ 0∨c3 ≠ 0)∧c1 * x1+c2 * x2+c3 * x3=0∧c1 * y1+c2 * y2+c3 * y3=0:=by
 by_cases h:x1 * y2 - x2 * y1=0
 ·by_cases hx : x1 = 0 ∧ x2 = 0
  ·by_cases hy : y1 = 0 ∧ y2 = 0
   ·exact ⟨1,0,0,.inl (by decide),by rw [hx.1];omega,by rw [hy.1];omega⟩
   ·exact ⟨y2,-y1,0,by omega,by rw [hx.1,hx.2];omega,by grind⟩
  ·exact ⟨x2,-x1,0,by omega,by grind,by grind⟩
 ·exact ⟨x2 * y3 - x3 * y2,x3 * y1 - x1 * y3,x1 * y2 - x2 * y1,.inr (.inr h),by grind,by grind⟩
theorem zP5 {a b c d:straight} (hd:0 < d.den):∃ k1 k2 k3 k4:Int,(k1 ≠ 0∨k2 ≠ 0∨k3 ≠ 0∨k4 ≠ 0)∧k1 * a.slope+k2 * b.slope+k3 * c.slope+k4 * d.slope=0∧k1 * a.start+k2 * b.start+k3 * c.start+k4 * d.start=0∧k1 * a.den+k2 * b.den+k3 * c.den+k4 * d.den=0:=by
 obtain ⟨c1,c2,c3,hc,e1,e2⟩:=zP4 (d.den * a.slope - a.den * d.slope) (d.den * a.start - a.den * d.start) (d.den * b.slope - b.den * d.slope) (d.den * b.start - b.den * d.start) (d.den * c.slope - c.den * d.slope) (d.den * c.start - c.den * d.start)
 refine ⟨c1 * d.den,c2 * d.den,c3 * d.den,-(c1 * a.den+c2 * b.den+c3 * c.den),?_,by grind,by grind,by grind⟩
 rcases hc with h | h | h
 ·exact .inl (Int.mul_ne_zero h (by omega))
 ·exact .inr (.inl (Int.mul_ne_zero h (by omega)))
 ·exact .inr (.inr (.inl (Int.mul_ne_zero h (by omega))))
def zHI (k1 k2 k3 k4:Int) (a b c d:straight):straight:=adS (adS (smS k1 a) (smS k2 b)) (adS (smS k3 c) (smS k4 d))
theorem zHs (a:straight):smS 0 a=⟨0,0,0⟩:=by unfold smS;simp
theorem zM5 {A B C D : straight → Prop} (hA : Cone A) (hB : Cone B) (hC : Cone C) (hD : Cone D) {a b c d : straight} (pa : 0 < a.den) (pb : 0 < b.den) (pc : 0 < c.den) (pd : 0 < d.den)
    (ha:B a∧C a∧D a) (hb:A b∧C b∧D b) (hc:A c∧B c∧D c) (hd:A d∧B d∧C d):∃ w,0 < w.den∧A w∧B w∧C w∧D w:=by
  obtain ⟨k1,k2,k3,k4,hk,e1,e2,e3⟩:=zP5 (a:=a) (b:=b) (c:=c) pd
  have same:zHI (pos k1) (pos k2) (pos k3) (pos k4) a b c d=zHI (pos (-k1)) (pos (-k2)) (pos (-k3)) (pos (-k4)) a b c d:=by
    have d1:=ziT k1;have d2:=ziT k2;have d3:=ziT k3;have d4:=ziT k4
    generalize pos k1=p1 at *;generalize pos k2=p2 at *;generalize pos k3=p3 at *;generalize pos k4=p4 at *
    generalize pos (-k1)=q1 at *;generalize pos (-k2)=q2 at *;generalize pos (-k3)=q3 at *;generalize pos (-k4)=q4 at *
    subst d1 d2 d3 d4
    unfold zHI adS smS
    simp only [straight.mk.injEq]
    refine ⟨?_,?_,?_⟩ <;> grind
  have put:∀ {K:straight→Prop} (hK:Cone K) (x:Int) (v:straight),(0 < x→K v)→K (smS (pos x) v):=fun {K} hK x v h=>by
    by_cases hx:0 < x
    · exact hK.mul (zoW x) (h hx)
    · rw [zBq (by omega),zHs];exact hK.zero
  have mem:∀ {K:straight→Prop} (hK:Cone K),(0 < k1→K a)→(0 < k2→K b)→(0 < k3→K c)→(0 < k4→K d)→K (zHI (pos k1) (pos k2) (pos k3) (pos k4) a b c d):=fun {K} hK h1 h2 h3 h4 =>
    hK.add (hK.add (put hK k1 a h1) (put hK k2 b h2)) (hK.add (put hK k3 c h3) (put hK k4 d h4))
  have mem':∀ {K:straight→Prop} (hK:Cone K),(0 < -k1→K a)→(0 < -k2→K b)→(0 < -k3→K c)→(0 < -k4→K d)→K (zHI (pos k1) (pos k2) (pos k3) (pos k4) a b c d):=fun {K} hK h1 h2 h3 h4=>by
    rw [same]
    exact hK.add (hK.add (put hK (-k1) a h1) (put hK (-k2) b h2)) (hK.add (put hK (-k3) c h3) (put hK (-k4) d h4))
  refine ⟨zHI (pos k1) (pos k2) (pos k3) (pos k4) a b c d,?_,?_,?_,?_,?_⟩
  · have n1 := Int.mul_nonneg (zoW k1) (Int.le_of_lt pa)
    have n2:=Int.mul_nonneg (zoW k2) (Int.le_of_lt pb)
    have n3:=Int.mul_nonneg (zoW k3) (Int.le_of_lt pc)
    have n4:=Int.mul_nonneg (zoW k4) (Int.le_of_lt pd)
    have one:∀ {x y:Int},0 < y→(0 < x→0 < pos x * y)∧(x≤0→x * y≤0)∧(x < 0→x * y < 0):=fun {x y} hy=>⟨fun h=>by
      have:pos x=x:=by unfold pos;rw [if_pos h]
      rw [this];exact Int.mul_pos h hy,fun h=>Int.mul_nonpos_of_nonpos_of_nonneg h (Int.le_of_lt hy),fun h=>Int.mul_neg_of_neg_of_pos h hy⟩
    show 0 < (pos k1 * a.den+pos k2 * b.den)+(pos k3 * c.den+pos k4 * d.den)
    obtain ⟨a1,a2,a3⟩:=one (x:=k1) pa
    obtain ⟨b1,b2,b3⟩:=one (x:=k2) pb
    obtain ⟨c1,c2,c3⟩:=one (x:=k3) pc
    obtain ⟨d1,d2,d3⟩:=one (x:=k4) pd
    by_cases p1:0 < k1
    · have:=a1 p1;omega
    by_cases p2:0 < k2
    · have:=b1 p2;omega
    by_cases p3:0 < k3
    · have:=c1 p3;omega
    by_cases p4:0 < k4
    · have:=d1 p4;omega
    have:=a2 (by omega);have:=b2 (by omega);have:=c2 (by omega);have:=d2 (by omega)
    by_cases q1:k1 < 0
    · have:=a3 q1;omega
    by_cases q2:k2 < 0
    · have:=b3 q2;omega
    by_cases q3:k3 < 0
    · have:=c3 q3;omega
    by_cases q4:k4 < 0
    · have:=d3 q4;omega
    omega
  · by_cases h : 0 < k1
    · exact mem' hA (fun k=>absurd k (by omega)) (fun _=>hb.1) (fun _=>hc.1) (fun _=>hd.1)
    · exact mem hA (fun k=>absurd k h) (fun _=>hb.1) (fun _=>hc.1) (fun _=>hd.1)
  · by_cases h : 0 < k2
    · exact mem' hB (fun _=>ha.1) (fun k=>absurd k (by omega)) (fun _=>hc.2.1) (fun _=>hd.2.1)
    · exact mem hB (fun _=>ha.1) (fun k=>absurd k h) (fun _=>hc.2.1) (fun _=>hd.2.1)
  · by_cases h : 0 < k3
    · exact mem' hC (fun _=>ha.2.1) (fun _=>hb.2.1) (fun k=>absurd k (by omega)) (fun _=>hd.2.2)
    · exact mem hC (fun _=>ha.2.1) (fun _=>hb.2.1) (fun k=>absurd k h) (fun _=>hd.2.2)
  · by_cases h : 0 < k4
    · exact mem' hD (fun _=>ha.2.2) (fun _=>hb.2.2) (fun _=>hc.2.2) (fun k=>absurd k (by omega))
    · exact mem hD (fun _=>ha.2.2) (fun _=>hb.2.2) (fun _=>hc.2.2) (fun k=>absurd k h)
theorem zKF : ∀ (n : Nat) (K : Nat → straight → Prop), (∀ i, Cone (K i)) → (∀ i j k, i < n → j < n → k < n → ∃ s, 0 < s.den ∧ K i s ∧ K j s ∧ K k s) → ∃ s, 0 < s.den ∧ ∀ i, i < n → K i s
  | 0,_,_,_=>⟨⟨0,0,1⟩,by show (0:Int) < 1;omega,fun i hi=>absurd hi (Nat.not_lt_zero i)⟩
  | n+1,K,hK,h=>by
    obtain ⟨s,hd,hs⟩:=zKF n (fun i s=>K i s∧K n s) (fun i=>zBp (hK i) (hK n)) fun i j k hi hj hk=>by
      obtain ⟨a,pa,a1,a2,a3⟩:=h j k n (by omega) (by omega) (by omega)
      obtain ⟨b,pb,b1,b2,b3⟩:=h i k n (by omega) (by omega) (by omega)
      obtain ⟨c,pc,c1,c2,c3⟩:=h i j n (by omega) (by omega) (by omega)
      obtain ⟨d,pd,d1,d2,d3⟩:=h i j k (by omega) (by omega) (by omega)
      obtain ⟨w,pw,w1,w2,w3,w4⟩:=zM5 (hK i) (hK j) (hK k) (hK n) pa pb pc pd ⟨a1,a2,a3⟩ ⟨b1,b2,b3⟩ ⟨c1,c2,c3⟩ ⟨d1,d2,d3⟩
      exact ⟨w,pw,⟨w1,w4⟩,⟨w2,w4⟩,w3,w4⟩
    rcases Nat.eq_zero_or_pos n with e | e
    · subst e
      obtain ⟨t,pt,t1,_⟩:=h 0 0 0 (by omega) (by omega) (by omega)
      exact ⟨t,pt,fun i hi=>by rw [show i=0 by omega];exact t1⟩
    · exact ⟨s,hd,fun i hi=>by
        by_cases k:i=n
        · rw [k];exact (hs 0 e).2
        · exact (hs i (by omega)).1⟩
end Go.Proofs
namespace Go.Proofs
open Go Go.Pm
set_option maxRecDepth 100000
theorem zHt {α:Type} [Inhabited α] {l m:List α} (h:lst l=lst m):l=m:=by
 have hn:l.length=m.length:=by rw [← zrD l,← zrD m,h]
 refine List.ext_getElem hn fun i h1 h2=>?_
 have a:=zrE (List.getElem?_eq_getElem h1)
 have b:=zrE (List.getElem?_eq_getElem h2)
 rw [← a,← b,h]
theorem zKG (g:Sl Gate) (G:zau g) {C:List straight} (h:s65 g=⟨⟨g⟩,lst C⟩):C.Pairwise (fun x y=>toL x ≠ toL y):=by
 obtain ⟨D,_,d2,_,_,d5⟩:=ziS g G
 rw [h] at d2
 have:lst C=lst D:=congrArg set.corners d2
 rw [zHt this];exact d5
theorem zKH (g:Sl Gate) (G:zau g):p78 (s65 g)=true∧∃ D:List straight,D.length=(s78 (s65 g)).len∧D.length≤100000∧(∀ i (h:i < D.length),(s78 (s65 g)).get i=D[i])∧(∀ s∈D,Cor g s)∧(∀ s,Cor g s→∃ x∈D,toL x=toL s)∧D.Pairwise (zti g):=by
 obtain ⟨C,c1,c2,H,_⟩:=ztg g G
 have P:=zKG g G c2
 have hn:=zrD C
 have hl:=H.len
 have get:∀ i (h:i < C.length),(lst C).get i=C[i]:=fun i h=>zrE (List.getElem?_eq_getElem h)
 have cor:∀ i (h:i < C.length),Cor g C[i]:=fun i h=>H.mem _ (List.getElem_mem h)
 let c:Nat→Nat→Int:=fun i j=>zCi ⟨⟨g⟩,lst C⟩ ((lst C).get i) ((lst C).get j)
 have hc:∀ i j (hi:i < C.length) (hj:j < C.length),c i j < 0↔zti g C[i] C[j]:=fun i j hi hj=>by
  show zCi ⟨⟨g⟩,lst C⟩ ((lst C).get i) ((lst C).get j) < 0↔_
  rw [get i hi,get j hj];exact (zzm G (lst C) (cor i hi) (cor j hj)).2
 have ne:∀ i j (hi:i < C.length) (hj:j < C.length),i ≠ j→toL C[i] ≠ toL C[j]:=fun i j hi hj hij e=>by
  rw [List.pairwise_iff_getElem] at P
  rcases Nat.lt_or_ge i j with h | h
  ·exact P i j hi hj h e
  ·exact P j i hj hi (by omega) e.symm
 have S1:sortB (lst C).len (fun i j=>decide (zCj ⟨⟨g⟩,lst C⟩ ((lst C).get i) ((lst C).get j)=true)) c=true:=by
  simp only [sortB,List.all_eq_true,List.mem_range,Bool.and_eq_true,Bool.or_eq_true,decide_eq_true_eq,Bool.not_eq_true',Bool.and_eq_false_iff,decide_eq_false_iff_not]
  intro i hi
  have hi:i < C.length:=by omega
  refine ⟨by have : ¬ c i i < 0:=fun h=>zHo ((hc i i hi hi).1 h);omega,fun j hj=>?_⟩
  have hj:j < C.length:=by omega
  refine ⟨⟨by rw [get i hi,get j hj];exact (zzm G (lst C) (cor i hi) (cor j hj)).1,?_⟩,fun k hk=>?_⟩
  ·by_cases hij : i = j
   ·exact .inl (.inl (by rw [hij];exact Nat.beq_refl j))
   ·rcases zrF G (cor i hi) (cor j hj) (ne i j hi hj hij) with h | h
    ·have : ¬ c j i < 0 := fun k => zny h ((hc j i hj hi).1 k)
     exact .inl (.inr ⟨(hc i j hi hj).2 h,by omega⟩)
    ·have : ¬ c i j < 0 := fun k => zny h ((hc i j hi hj).1 k)
     exact .inr ⟨(hc j i hj hi).2 h,by omega⟩
  ·have hk : k < C.length := by omega
   by_cases h1:c i j < 0
   ·by_cases h2 : c j k < 0
    ·exact .inr ((hc i k hi hk).2 (zoT G (cor i hi) (cor j hj) (cor k hk) ((hc i j hi hj).1 h1) ((hc j k hj hk).1 h2)))
    ·exact .inl (.inr h2)
   ·exact .inl (.inl h1)
 have STOc:STO (lst C).len c:=(zse (s:=fun _ _=>True) S1 (fun _ _ _=>trivial) rfl).2
 have hp:p78 (s65 g)=true:=by
  rw [c2];unfold p78
  show (decide ((lst C).len * 24≤140737488355328∧(lst C).len≤9223372036854775807) && (decide ((lst C).len≤4611686018427387∧sortB (lst C).len (fun i j=>decide (zCj ⟨⟨g⟩,lst C⟩ ((lst C).get i) ((lst C).get j)=true)) c=true) && true))=true
  rw [S1,decide_eq_true (show (lst C).len * 24≤140737488355328∧(lst C).len≤9223372036854775807 by omega),decide_eq_true (show (lst C).len≤4611686018427387∧true=true from ⟨by omega,rfl⟩)];rfl
 have pm:=zg5 (c:=c) (lst C).len
 have pl:(ziq (lst C).len c).length=C.length:=by rw [pm.length_eq,List.length_range,hn]
 have pr:∀ x∈ziq (lst C).len c,x < C.length:=fun x hx=>by have:=List.mem_range.1 (pm.mem_iff.1 hx);omega
 refine ⟨hp,(ziq (lst C).len c).map (fun i=>(lst C).get i),?_,by rw [List.length_map,pl];exact hl,fun i h=>?_,fun s hs=>?_,fun s hs=>?_,?_⟩
 ·rw [List.length_map,pl,c2];show C.length=(lst C).len;omega
 ·rw [c2]
  rw [List.getElem_map]
  have h2:i < (ziq (lst C).len c).length:=by rw [List.length_map] at h;exact h
  show (lst C).get ((ziq (lst C).len c).getD i 0)=_
  rw [List.getD_eq_getElem?_getD,List.getElem?_eq_getElem h2];rfl
 ·obtain ⟨i, hi, rfl⟩ := List.mem_map.1 hs
  have:=pr i hi
  rw [get i this];exact cor i this
 ·obtain ⟨x, hx, e⟩ := H.all s hs
  obtain ⟨i,hi,rfl⟩:=List.getElem_of_mem hx
  exact ⟨_,List.mem_map.2 ⟨i,pm.mem_iff.2 (List.mem_range.2 (by omega)),get i hi⟩,e⟩
 ·rw [List.pairwise_map]
  have nd:(ziq (lst C).len c).Nodup:=pm.nodup_iff.2 List.nodup_range
  refine (List.Pairwise.and (zsg STOc) nd).imp_of_mem ?_
  intro a b ha hb hab
  have ha:=pr a ha
  have hb:=pr b hb
  rw [get a ha,get b hb]
  rcases zrF G (cor a ha) (cor b hb) (ne a b ha hb hab.2) with h | h
  ·exact h
  ·exact absurd ((hc b a hb ha).2 h) hab.1
theorem zBr {g:Sl Gate} (G:zau g) {l m:List Line} (hl:∀ x∈l,zgP g x) (hm:∀ x∈m,zgP g x) (sl:l.Pairwise (Bef g)) (sm:m.Pairwise (Bef g)) (h:∀ x,zgP g x→x∈l∧x∈m):l=m:=by
 have asym:∀ {a b},zgP g a→zgP g b→Bef g a b→¬ Bef g b a:=fun {a b} ha hb h k=>by
  obtain ⟨s,hs,rfl⟩:=zcm.1 ha
  obtain ⟨t,ht,rfl⟩:=zcm.1 hb
  exact zny ((zfj G hs ht).1 h) ((zfj G ht hs).1 k)
 have nd:∀ {l:List Line},(∀ x∈l,zgP g x)→l.Pairwise (Bef g)→l.Nodup:=fun {l} hl sl=>sl.imp_of_mem fun {a b} ha hb hab e=>by
  subst e;exact asym (hl a ha) (hl a ha) hab hab
 refine List.Perm.eq_of_pairwise (le:=Bef g) (fun a b ha hb h1 h2=>absurd h2 (asym (hl a ha) (hm b hb) h1)) sl sm ?_
 exact (List.perm_ext_iff_of_nodup (nd hl sl) (nd hm sm)).2 fun x=>⟨fun hx=>(h x (hl x hx)).2,fun hx=>(h x (hm x hx)).1⟩
def coE (g:Sl Gate):Int:=cond (!(s20 g)) 2 (cond (!(s21 g)) 5 (cond (s22 g) 6 0))
theorem zKI (g:Sl Gate) (hn:g.len≤9223372036854775807):p31 g=true∧(s31 g).2=coE g∧(coE g ≠ 0→s31 g=(⟨0,fun _=>default⟩,coE g))∧(coE g=0→SEq (s31 g).1 (s33 g)∧1≤(s33 g).len∧(s33 g).len≤2304∧∀ j,j < (s33 g).len→zgP g ((s33 g).get j)):=by
  have bad:∀ e:Int,e ≠ 0→s75 g=(nS,e)→p75 g=true→e=coE g→p31 g=true∧(s31 g).2=coE g∧(coE g ≠ 0→s31 g=(⟨0,fun _=>default⟩,coE g))∧(coE g=0→SEq (s31 g).1 (s33 g)∧1≤(s33 g).len∧(s33 g).len≤2304∧∀ j,j < (s33 g).len→zgP g ((s33 g).get j)):=fun e he h1 h2 h3=>by
    unfold p31 s31 zmT zmS
    rw [h1,h2,← h3]
    simp only [show (e != 0)=true by simpa using he,cond_true]
    exact ⟨rfl,trivial,fun _=>trivial,fun h=>absurd h he⟩
  cases hv:s20 g
  · obtain ⟨⟨b1, b2⟩, _⟩ := zHn g hn hv
    exact bad 2 (by decide) b2 b1 (by unfold coE;rw [hv];rfl)
  have G:=(zzh g hn).1 hv
  obtain ⟨⟨b1,b2⟩,_⟩:=zKw g G
  cases hs:s21 g
  · exact bad 5 (by decide) (by rw [b2,hs];rfl) b1 (by unfold coE;rw [hv,hs];rfl)
  cases hf:s22 g
  · have e0 : coE g = 0 := by unfold coE; rw [hv, hs, hf]; rfl
    have b2:s75 g=(s65 g,0):=by rw [b2,hs,hf];rfl
    obtain ⟨q,D,d1,d2,d3,d4,d5,d6⟩:=zKH g G
    obtain ⟨r1,r2,r3,r4,r5⟩:=zzf g G
    have r5:=r5 (zKA G)
    have hD:∀ j,j < D.length→p79 ((s78 (s65 g)).get j)=true∧s79 ((s78 (s65 g)).get j)=toL ((s78 (s65 g)).get j):=fun j hj=>by
      rw [d3 j hj];exact zCG (zeg G (d4 _ (List.getElem_mem hj)))
    have L := zee (σ := Sl Line) (step := fun i v => apL v (toL ((s78 (s65 g)).get i))) (E := fun v => (v, (0:Int))) (EP := fun _ => true) (Inv := fun i v => v.len = i ∧ ∀ j, j < i → v.get j = toL ((s78 (s65 g)).get j)) (a := 0) (n := D.length)
      (lpS:=fun k v i=>zhz (s78 (s65 g)) (D.length:Int) k i v) (lpP:=fun k v i=>zhA (s78 (s65 g)) (D.length:Int) k i v)
      (fun k i v _ hi _=>by
        show zhx (s78 (s65 g)) (D.length:Int) (zhz (s78 (s65 g)) (D.length:Int) k) (i:Int) v=_
        generalize zhz (s78 (s65 g)) (D.length:Int) k=S
        unfold zhx
        rw [decide_eq_true (show (i:Int) < (D.length:Int) by omega),cond_true,Int.toNat_natCast,(hD i hi).2];rfl)
      (fun k v=>by
        show zhx (s78 (s65 g)) (D.length:Int) (zhz (s78 (s65 g)) (D.length:Int) k) (D.length:Int) v=_
        unfold zhx
        rw [decide_eq_false (show ¬ (D.length:Int) < (D.length:Int) by omega),cond_false])
      (fun k i v _ hi hv=>by
        show zhy (s78 (s65 g)) (D.length:Int) (zhA (s78 (s65 g)) (D.length:Int) k) (i:Int) v=_
        generalize zhA (s78 (s65 g)) (D.length:Int) k=P
        obtain ⟨hv,_⟩:=hv
        unfold zhy
        rw [decide_eq_true (show (i:Int) < (D.length:Int) by omega),cond_true,decide_eq_true (show 0≤(i:Int)∧(i:Int) < ((s78 (s65 g)).len:Int) by omega),Int.toNat_natCast,(hD i hi).1,(hD i hi).2,decide_eq_true (show (v.len+1) * 32≤140737488355328∧v.len+1≤9223372036854775807 by omega),decide_eq_true (show true=true from rfl)];rfl)
      (fun k v=>by
        show zhy (s78 (s65 g)) (D.length:Int) (zhA (s78 (s65 g)) (D.length:Int) k) (D.length:Int) v=_
        unfold zhy
        rw [decide_eq_false (show ¬ (D.length:Int) < (D.length:Int) by omega),cond_false])
      (fun i v _ hi ⟨h1,h2⟩=>by
        refine ⟨by show v.len+1=i+1;omega,fun j hj=>?_⟩
        show zc7 v.len v.get (fun _=>toL ((s78 (s65 g)).get i)) j=_
        unfold zc7
        by_cases h:j < i
        · rw [show Nat.ble v.len j=false by rw [← Bool.not_eq_true,Nat.ble_eq];omega];exact h2 j h
        · rw [show Nat.ble v.len j=true by rw [Nat.ble_eq];omega,show j=i by omega]) (Nat.zero_le _) (by omega) (zfh:Sl Line) ⟨rfl,fun j hj=>absurd hj (Nat.not_lt_zero j)⟩
    obtain ⟨l1,l2⟩:=L
    have I:=zgL (step:=fun i v=>apL v (toL ((s78 (s65 g)).get i))) (Inv:=fun i (v:Sl Line)=>v.len=i∧∀ j,j < i→v.get j=toL ((s78 (s65 g)).get j)) (n:=D.length) (fun i v hi ⟨h1,h2⟩=>by
        refine ⟨by show v.len+1=i+1;omega,fun j hj=>?_⟩
        show zc7 v.len v.get (fun _=>toL ((s78 (s65 g)).get i)) j=_
        unfold zc7
        by_cases h:j < i
        · rw [show Nat.ble v.len j=false by rw [← Bool.not_eq_true,Nat.ble_eq];omega];exact h2 j h
        · rw [show Nat.ble v.len j=true by rw [Nat.ble_eq];omega,show j=i by omega]) D.length 0 (zfh:Sl Line) (by omega) ⟨rfl,fun j hj=>absurd hj (Nat.not_lt_zero j)⟩
    rw [show D.length - 0=D.length from rfl] at l2
    generalize zf5 (fun i v=>apL v (toL ((s78 (s65 g)).get i))) D.length 0 (zfh:Sl Line)=v at l2 I
    have e31:s31 g=(v,0)∧p31 g=true:=by
      unfold s31 p31 zmS zmT zqy zqz zqw zqx
      rw [b1,b2]
      have:(⟨⟨(s65 g).list.Gates⟩,(s65 g).corners⟩:set)=s65 g:=rfl
      show cond ((0:Int) != 0) _ (zqu (s78 ⟨⟨(s65 g).list.Gates⟩,(s65 g).corners⟩) ((s78 ⟨⟨(s65 g).list.Gates⟩,(s65 g).corners⟩).len:Int) 0 zfh)=_∧(decide (true=true) && cond ((0:Int) != 0) true (decide (p78 ⟨⟨(s65 g).list.Gates⟩,(s65 g).corners⟩=true) && zmR (s78 ⟨⟨(s65 g).list.Gates⟩,(s65 g).corners⟩) ((s78 ⟨⟨(s65 g).list.Gates⟩,(s65 g).corners⟩).len:Int) 0 zfh))=true
      rw [this,q,← d1]
      refine ⟨l2,?_⟩
      have l1:zmR (s78 (s65 g)) (D.length:Int) 0 zfh=true:=l1
      rw [l1];rfl
    rw [e31.1,e0]
    refine ⟨e31.2,rfl,fun h=>absurd rfl h,fun _=>?_⟩
    have U := zBr G (l := D.map toL) (m := (List.range (s33 g).len).map (s33 g).get)
      (fun x hx=>by obtain ⟨s,hs,rfl⟩:=List.mem_map.1 hx;exact zcm.2 ⟨s,d4 s hs,rfl⟩)
      (fun x hx=>by obtain ⟨i,hi,rfl⟩:=List.mem_map.1 hx;exact r3 i (List.mem_range.1 hi))
      (by rw [List.pairwise_map];exact d6.imp_of_mem fun {a b} ha hb h=>(zfj G (d4 a ha) (d4 b hb)).2 h)
      (by
        rw [List.pairwise_map,List.pairwise_iff_getElem]
        intro i j hi hj hij
        rw [List.getElem_range,List.getElem_range]
        rw [List.length_range] at hj
        exact r5 i j hij hj)
      (fun x hx=>by
        refine ⟨?_,?_⟩
        · obtain ⟨s, hs, rfl⟩ := zcm.1 hx
          obtain ⟨y,hy,e⟩:=d5 s hs
          exact List.mem_map.2 ⟨y,hy,e⟩
        · obtain ⟨a, ha, e⟩ := r4 x hx
          exact List.mem_map.2 ⟨a,List.mem_range.2 ha,e⟩)
    have lenE:D.length=(s33 g).len:=by have:=congrArg List.length U;rwa [List.length_map,List.length_map,List.length_range] at this
    obtain ⟨C,_,_,_,c4⟩:=ztg g G
    refine ⟨⟨by show v.len=_;omega,fun i hi=>?_⟩,?_,r2,r3⟩
    · have hi : i < D.length := by have hi : i < v.len := hi; omega
      show v.get i=_
      rw [I.2 i hi,d3 i hi]
      have:(D.map toL)[i]? = ((List.range (s33 g).len).map (s33 g).get)[i]?:=by rw [U]
      rw [List.getElem?_map,List.getElem?_map,List.getElem?_eq_getElem hi,List.getElem?_range (by omega)] at this
      exact Option.some.inj this
    · obtain ⟨s, hs⟩ := (c4 (zia G hf)).1 hs
      obtain ⟨a,ha,_⟩:=r4 _ (zcm.2 ⟨s,hs,rfl⟩);omega
  · exact bad 6 (by decide) (by rw [b2,hs,hf];rfl) b1 (by unfold coE;rw [hv,hs,hf];rfl)
theorem zKJ (g:Sl Gate) (hn:g.len≤9223372036854775807):p32 g=true∧(s32 g).2=coE g∧(coE g ≠ 0→s32 g=(⟨zF,zF⟩,coE g))∧(coE g=0→(s32 g).1=(s33 g).get 0):=by
 obtain ⟨a1,a2,a3,a4⟩:=zKI g hn
 unfold p32 s32
 rw [a1,a2]
 by_cases h:coE g=0
 ·obtain ⟨⟨b1, b2⟩, b3, _⟩ := a4 h
  rw [h]
  refine ⟨?_,rfl,fun k=>absurd rfl k,fun _=>b2 0 (by omega)⟩
  show (decide (true=true) && cond ((0:Int) != 0) true (decide (0≤(0:Int)∧(0:Int) < ((s31 g).1.len:Int)) && true))=true
  rw [decide_eq_true (show 0≤(0:Int)∧(0:Int) < ((s31 g).1.len:Int) by omega)];rfl
 ·have e : (coE g != 0) = true := by simpa using h
  rw [e]
  exact ⟨rfl,rfl,fun _=>rfl,fun k=>absurd k h⟩
end Go.Proofs
namespace Go.Proofs
open Go Go.Pm
set_option maxRecDepth 100000
theorem zCP (a b:Int):two a b=rr2 a b:=by
 show (⟨2,zbc (zcn (zaj a :: zaj b :: [].map zaj))⟩:Sl Int)=_
 rw [zdg];rfl
theorem ztn (a b c:Int):three a b c=rr3 a b c:=by
 show (⟨3,zbc (zcn (zaj a :: zaj b :: [c].map zaj))⟩:Sl Int)=_
 rw [zdg];rfl
structure Bad (g : Sl Gate) (r : Sl Int) : Prop where
  len:2≤r.len∧r.len≤3
  mem:∀ a,a < r.len→0≤r.get a∧r.get a < (g.len:Int)
  inc:∀ a,0 < a→a < r.len→r.get (a - 1) < r.get a
  no:s84 g r=false
theorem zP6 {g:Sl Gate} {i j:Nat} (h1:i < j) (h2:j < g.len) (h:s84 g (two i j)=false):Bad g (rr2 i j):=by
 refine ⟨⟨Nat.le_refl _,by show 2≤3;omega⟩,fun a ha=>?_,fun a h0 ha=>?_,by rw [← zCP];exact h⟩
 ·have ha : a < 2 := ha
  match a,ha with
  | 0,_=>show 0≤(i:Int)∧(i:Int) < _;omega
  | 1,_=>show 0≤(j:Int)∧(j:Int) < _;omega
 ·have ha : a < 2 := ha
  match a,ha with
  | 1,_=>show (i:Int) < (j:Int);omega
theorem zP7 {g:Sl Gate} {i j k:Nat} (h1:i < j) (h2:j < k) (h3:k < g.len) (h:s84 g (three i j k)=false):Bad g (rr3 i j k):=by
 refine ⟨⟨by show 2≤3;omega,Nat.le_refl _⟩,fun a ha=>?_,fun a h0 ha=>?_,by rw [← ztn];exact h⟩
 ·have ha : a < 3 := ha
  match a,ha with
  | 0,_=>show 0≤(i:Int)∧(i:Int) < _;omega
  | 1,_=>show 0≤(j:Int)∧(j:Int) < _;omega
  | 2,_=>show 0≤(k:Int)∧(k:Int) < _;omega
 ·have ha : a < 3 := ha
  match a,ha with
  | 1,_=>show (i:Int) < (j:Int);omega
  | 2,_=>show (j:Int) < (k:Int);omega
theorem znB {g:Sl Gate} (G:zau g) {set:Sl Int} (hI:inR g set) (h1:1≤set.len) (h2:set.len≤24):s84 g set=true↔∃ s,0 < s.den∧∀ a,a < set.len→zef s (g.get (set.get a).toNat)=true:=by
 obtain ⟨_,b,_⟩:=zCN g G set hI h1 h2
 obtain ⟨p1,p2⟩:=ztm g set
 rw [b,znA (zrG g G set hI h1 h2)]
 constructor
 ·intro ⟨s, hd, ha⟩
  exact ⟨s,hd,fun a h=>by rw [← p2 a h];exact ha a (by omega)⟩
 ·intro ⟨s, hd, ha⟩
  exact ⟨s,hd,fun a h=>by rw [p2 a (by omega)];exact ha a (by omega)⟩
theorem zzv (g:Sl Gate) (G:zau g):(∃ r,emp g=(r,0)∧Bad g r)∨(emp g=(⟨0,fun _=>default⟩,7)∧s21 g=true):=by
 have hl:=G.2
 cases x1:ff (e1 g) g.len 0 with
 | some r =>
  obtain ⟨i,_,i2,i3⟩:=zib x1
  obtain ⟨j,j1,j2,j3⟩:=zib i3
  refine .inl ⟨r,by unfold emp;rw [x1];rfl,?_⟩
  cases e:s84 g (two i j)
  ·unfold e2 at j3; rw [e] at j3
   have:rr2 i j=r:=Option.some.inj j3
   rw [← this];exact zP6 (by omega) (by omega) e
  ·unfold e2 at j3;rw [e] at j3;cases j3
 | none =>
  cases x2:ff (h1 g) g.len 0 with
  | some r =>
   obtain ⟨i,_,i2,i3⟩:=zib x2
   obtain ⟨j,j1,j2,j3⟩:=zib i3
   obtain ⟨k,k1,k2,k3⟩:=zib j3
   refine .inl ⟨r,by unfold emp;rw [x1,x2];rfl,?_⟩
   cases e:s84 g (three i j k)
   ·unfold h3 at k3; rw [e] at k3
    have:rr3 i j k=r:=Option.some.inj k3
    rw [← this];exact zP7 (by omega) (by omega) (by omega) e
   ·unfold h3 at k3;rw [e] at k3;cases k3
  | none =>
   refine .inr ⟨by unfold emp;rw [x1,x2];rfl,?_⟩
   have A2:∀ i j,i < j→j < g.len→∃ s,0 < s.den∧zef s (g.get i)=true∧zef s (g.get j)=true:=fun i j hij hj=>by
    have a:=zic x1 i (Nat.zero_le _) (by omega)
    have b:=zic a j (by omega) (by omega)
    have c:s84 g (two i j)=true:=by
     cases e:s84 g (two i j)
     ·unfold e2 at b;rw [e] at b;cases b
     ·rfl
    obtain ⟨s,hd,hs⟩:=(znB G (zCO (by omega) hj) (by show 1≤2;omega) (by show 2≤24;omega)).1 c
    rw [zCP] at hs
    exact ⟨s,hd,hs 0 (by show 0 < 2;omega),hs 1 (by show 1 < 2;omega)⟩
   have A3:∀ i j k,i < j→j < k→k < g.len→∃ s,0 < s.den∧zef s (g.get i)=true∧zef s (g.get j)=true∧zef s (g.get k)=true:=fun i j k hij hjk hk=>by
    have a:=zic x2 i (Nat.zero_le _) (by omega)
    have b:=zic a j (by omega) (by omega)
    have c:=zic b k (by omega) (by omega)
    have c:s84 g (three i j k)=true:=by
     cases e:s84 g (three i j k)
     ·unfold h3 at c;rw [e] at c;cases c
     ·rfl
    obtain ⟨s,hd,hs⟩:=(znB G (ztl (by omega) (by omega) hk) (by show 1≤3;omega) (by show 3≤24;omega)).1 c
    rw [ztn] at hs
    exact ⟨s,hd,hs 0 (by show 0 < 3;omega),hs 1 (by show 1 < 3;omega),hs 2 (by show 2 < 3;omega)⟩
   have A1:∀ i,i < g.len→∃ s,0 < s.den∧zef s (g.get i)=true:=fun i hi=>by
    have:=(G.1 i hi).2
    refine ⟨⟨0,(g.get i).Low,1⟩,by show (0:Int) < 1;omega,decide_eq_true ?_⟩
    unfold plc;simp only;omega
   refine (znA G).2 ?_
   obtain ⟨s,hd,hs⟩:=zKF g.len (fun i s=>zef s (g.get i)=true) (fun i=>zzu (g.get i)) fun i j k hi hj hk=>by
    rcases Nat.lt_trichotomy i j with a | a | a
    ·rcases Nat.lt_trichotomy j k with b | b | b
     ·obtain ⟨s,p,q,r,t⟩:=A3 i j k a b hk;exact ⟨s,p,q,r,t⟩
     ·obtain ⟨s,p,q,r⟩:=A2 i j a hj;exact ⟨s,p,q,r,by rw [← b];exact r⟩
     ·rcases Nat.lt_trichotomy i k with c | c | c
      ·obtain ⟨s,p,q,r,t⟩:=A3 i k j c b hj;exact ⟨s,p,q,t,r⟩
      ·obtain ⟨s,p,q,r⟩:=A2 i j a hj;exact ⟨s,p,q,r,by rw [← c];exact q⟩
      ·obtain ⟨s,p,q,r,t⟩:=A3 k i j c a hj;exact ⟨s,p,r,t,q⟩
    ·subst a
     rcases Nat.lt_trichotomy i k with c | c | c
     ·obtain ⟨s,p,q,r⟩:=A2 i k c hk;exact ⟨s,p,q,q,r⟩
     ·subst c;obtain ⟨s,p,q⟩:=A1 i hi;exact ⟨s,p,q,q,q⟩
     ·obtain ⟨s,p,q,r⟩:=A2 k i c hi;exact ⟨s,p,r,r,q⟩
    ·rcases Nat.lt_trichotomy i k with b | b | b
     ·obtain ⟨s,p,q,r,t⟩:=A3 j i k a b hk;exact ⟨s,p,r,q,t⟩
     ·obtain ⟨s,p,q,r⟩:=A2 j i a hi;exact ⟨s,p,r,q,by rw [← b];exact r⟩
     ·rcases Nat.lt_trichotomy j k with c | c | c
      ·obtain ⟨s,p,q,r,t⟩:=A3 j k i c b hi;exact ⟨s,p,t,q,r⟩
      ·obtain ⟨s,p,q,r⟩:=A2 j i a hi;exact ⟨s,p,r,q,by rw [← c];exact q⟩
      ·obtain ⟨s,p,q,r,t⟩:=A3 k j i c a hi;exact ⟨s,p,t,r,q⟩
   exact ⟨s,hd,hs⟩
theorem zto {g:Sl Gate} (G:zau g) {r:Sl Int} (B:Bad g r) {s:straight} (hd:0 < s.den) : ¬ ∀ a,a < r.len→zef s (g.get (r.get a).toNat)=true:=fun h=>by
 have:=(znB G (set:=r) (fun a ha=>B.mem a ha) (by have:=B.len;omega) (by have:=B.len;omega)).2 ⟨s,hd,h⟩
 rw [B.no] at this;cases this
theorem zHu {g:Sl Gate} (G:zau g) {r:Sl Int} (B:Bad g r):s21 g=false:=by
 cases e:s21 g
 ·rfl
 ·obtain ⟨s, hd, ha⟩ := (znA G).1 e
  exact absurd (fun a h=>ha _ (by have:=B.mem a h;omega)) (zto G B hd)
theorem zHv {g:Sl Gate} (G:zau g) {r:Sl Int} (B:Bad g r):∀ (m k i:Nat),i+m=r.len→m < k→zdC g k r r (r.len:Int) (i:Int)=true:=by
 have hl:=G.2
 have hr:=B.len
 intro m
 induction m with
 | zero =>
  intro k i hi hk
  obtain ⟨k,rfl⟩:∃ x,k=x+1:=⟨k - 1,by omega⟩
  show zd1 g (zdC g k) r r (r.len:Int) (i:Int)=true
  unfold zd1
  rw [decide_eq_false (show ¬ (i:Int) < (r.len:Int) by omega),cond_false,B.no];rfl
 | succ m ih =>
  intro k i hi hk
  obtain ⟨k,rfl⟩:∃ x,k=x+1:=⟨k - 1,by omega⟩
  have ih:=ih k (i+1) (by omega) (by omega)
  show zd1 g (zdC g k) r r (r.len:Int) (i:Int)=true
  generalize zdC g k=S at ih
  have hm:=B.mem i (by omega)
  unfold zd1 zhP
  rw [decide_eq_true (show (i:Int) < (r.len:Int) by omega),cond_true,Int.toNat_natCast,zoL,zaR (x:=(g.len:Int) - 1) (by omega) (by omega),decide_eq_true (show 0≤r.get i∧r.get i≤(g.len:Int) - 1 by omega),Bool.not_true,cond_false,zaK (n:=r.len) (i:=i) (by omega) (by omega)]
  by_cases h0:0 < i
  ·have := B.inc i h0 (by omega)
   rw [decide_eq_true (show (i:Int) > 0 by omega),cond_true,zzs h0 (by omega),Int.toNat_natCast,decide_eq_false (show ¬ r.get i≤r.get (i - 1) by omega),cond_false]
   exact ih
  ·rw [decide_eq_false (show ¬ (i : Int) > 0 by omega), cond_false, cond_false]
   exact ih
theorem zHw {g:Sl Gate} (G:zau g) {r:Sl Int} (B:Bad g r):p41 g r=true∧s41 g r=true:=by
 have hl:=G.2
 have hr:=B.len
 obtain ⟨a1,a2⟩:=zoM g (by omega)
 have p:=((zzt g G r (by omega)).2.1 hr).1
 have v:zke g r=true:=zHv G B r.len Fuel 0 (by omega) (by simp only [Fuel];omega)
 unfold p41 s41 znb zna
 rw [a1,a2.2 G,zoL,decide_eq_true (show 2≤(r.len:Int)∧(r.len:Int)≤3 by omega),Bool.not_true,cond_false,cond_false,cond_false,cond_false,p,v]
 exact ⟨rfl,rfl⟩
theorem zP8 {g:Sl Gate} (G:zau g) {r:Sl Int} (B:Bad g r) {z x w y:Int} (E:zoV z x w y):∀ (m k i:Nat),i+m=r.len→m < k→zhY g z x w y r k (i:Int)=true∧zhX g z x w y r k (i:Int)=true:=by
 have hl:=G.2
 have hr:=B.len
 obtain ⟨e1,e2,SL⟩:=zHq E
 intro m
 induction m with
 | zero =>
  intro k i hi hk
  obtain ⟨k,rfl⟩:∃ x,k=x+1:=⟨k - 1,by omega⟩
  show zhW g z x w y r (zhY g z x w y r k) (i:Int)=true∧zhV g z x w y r (zhX g z x w y r k) (i:Int)=true
  unfold zhW zhV
  rw [decide_eq_false (show ¬ (i:Int) < (r.len:Int) by omega),cond_false,cond_false]
  unfold zrl zrk
  obtain ⟨q1,q2⟩:=zCM g r (fun a ha=>B.mem a ha) (by omega)
  have GP:=zrG g G r (fun a ha=>B.mem a ha) (by omega) (by omega)
  obtain ⟨p1,p2⟩:=ztm g r
  obtain ⟨t1,t2⟩:=zte GP SL
  have na : ¬ zk3 (pick g r) (thr z x w y):=fun h=>zto G B (s:=thr z x w y) (by have:=SL.2.2;omega) fun a ha=>by rw [← p2 a ha];exact h a (by omega)
  have lt:=t2.2 na
  rw [e1,e2,q1,q2,t1,decide_eq_true (show ((s27 (toL (thr z x w y)) (pick g r)).len:Int) < (r.len:Int) by omega)]
  exact ⟨rfl,rfl⟩
 | succ m ih =>
  intro k i hi hk
  obtain ⟨k,rfl⟩:∃ x,k=x+1:=⟨k - 1,by omega⟩
  obtain ⟨i1,i2⟩:=ih k (i+1) (by omega) (by omega)
  show zhW g z x w y r (zhY g z x w y r k) (i:Int)=true∧zhV g z x w y r (zhX g z x w y r k) (i:Int)=true
  generalize zhY g z x w y r k=P at i1
  generalize zhX g z x w y r k=S at i2
  have hm:=B.mem i (by omega)
  have k0:decide (0≤(i:Int)∧(i:Int) < (r.len:Int))=true:=decide_eq_true (by omega)
  unfold zhW zhV
  rw [decide_eq_true (show (i:Int) < (r.len:Int) by omega),k0,Int.toNat_natCast,decide_eq_false (show ¬ r.get i < 0 by omega),decide_eq_false (show ¬ r.get i ≥ (g.len:Int) by omega),zaK (n:=r.len) (i:=i) (by omega) (by omega)]
  rw [cond_true,cond_true,cond_false,cond_false,cond_false,cond_false]
  by_cases h0:0 < i
  ·have := B.inc i h0 (by omega)
   rw [decide_eq_true (show (i:Int) > 0 by omega),zzs h0 (by omega),Int.toNat_natCast,decide_eq_false (show ¬ r.get i≤r.get (i - 1) by omega),decide_eq_true (show 0≤((i - 1:Nat):Int)∧((i - 1:Nat):Int) < (r.len:Int) by omega),cond_true,cond_true,cond_false,cond_false,i1,i2]
   exact ⟨rfl,rfl⟩
  ·rw [decide_eq_false (show ¬ (i : Int) > 0 by omega), cond_false, cond_false, i1, i2]
   exact ⟨rfl,rfl⟩
theorem zt1 (g:Sl Gate) (hn:g.len≤9223372036854775807) (hv:s20 g=true) {z x w y:Int} (E:zoV z x w y):zne g z x w y=true∧znd g z x w y=true:=by
 have G:=(zzh g hn).1 hv
 obtain ⟨a1,a2⟩:=zKE g G
 obtain ⟨b1,b2,_⟩:=zKJ g hn
 unfold zne znd zrx zrv zru zrt
 rw [a1,a2,b1,b2,(zkV g G).1]
 rcases zzv g G with ⟨r,e,B⟩ | ⟨e,hs⟩
 ·have hc : coE g = 5 := by unfold coE; rw [hv, zHu G B]; rfl
  obtain ⟨q1,q2⟩:=zHw G B
  have T:=zP8 G B E r.len Fuel 0 (by omega) (by have:=B.len;simp only [Fuel];omega)
  obtain ⟨T1,T2⟩:=T
  have T1:zrn g z x w y r 0=true:=T1
  have T2:zrm g z x w y r 0=true:=T2
  have hr:=B.len
  rw [e,hc]
  dsimp only
  rw [bne_self_eq_false,cond_false,cond_false]
  unfold zrr zrq zh0 zhZ zrp zro
  rw [T1,T2,q1,q2,bne_self_eq_false,decide_eq_false (show ¬ (r.len:Int) < 2 by omega),decide_eq_false (show ¬ (r.len:Int) > 3 by omega)]
  exact ⟨rfl,rfl⟩
 ·rw [e]
  cases hf:s22 g
  ·have hc : coE g = 0 := by unfold coE; rw [hv, hs, hf]; rfl
   rw [hc];exact ⟨rfl,rfl⟩
  ·have hc : coE g = 6 := by unfold coE; rw [hv, hs, hf]; rfl
   rw [hc];exact ⟨rfl,rfl⟩
theorem either_true (g:Sl Gate) (hn:g.len≤9223372036854775807) (z x w y:Int):p10 g z x w y=true∧s10 g z x w y=true:=by
 unfold p10 s10 zng znf
 rw [(zy6 g hn).1]
 cases hv:s20 g
 ·exact ⟨rfl,rfl⟩
 cases he:s25 z x w y
 ·exact ⟨rfl,rfl⟩
 obtain ⟨u1,u2⟩:=zt1 g hn hv ((zHp z x w y).1 he)
 rw [u1,u2]
 exact ⟨rfl,rfl⟩
end Go.Proofs
