/- Part 5 of what the proof rests on: a machine that runs functions of the program on pure values, proved sound; the functions that the law reaches, what they compute, and plain laws of that. -/
import Derived.Test.YtjkijdhdbhooiaaGreatQ4
import Derived.Shelf.SlSortCmp.NoneTotal
import Derived.Shelf.SlicesE.Clone
import Derived.Shelf.SlLaysF0
import Derived.Test.YtjkijdhdbhooiaaGreatProg
import Derived.Shelf.SlLaysE0
set_option linter.all false
noncomputable section
namespace Go.Proofs
open Go Go.Pm
set_option maxRecDepth 100000
theorem zJ7 {E:ZF} : yO (zi8 E):=λ x a b=>ae.ext λ k=>by rw[zHt,kc k,bn];congr 1;simp only[inB];grind
def Ci (g:aC):Bool:=inB g.Z 0 100000 && (decide (g.Low >= -1000000) && (decide (g.Low<=g.High) && decide (g.High<=1000000)))
def fF (g:aC):Prop:=(0<=g.Z/\g.Z<=100000)/\-1000000<=g.Low/\g.Low<=g.High/\g.High<=1000000
def dm (l:Sl aC):Prop:=(∀ i,i < l.len->fF (l.get i))/\1<=l.len/\l.len<=24
theorem zeZ {g:aC} : Ci g=true↔fF g:=by
 simp only[Ci,inB,fE,decide_eq_true_eq,fF,ge_iff_le]
def xJ (a b:aC):List straight:=if a.Z=b.Z then [] else [zM a.Z a.Low b.Z b.Low,zM a.Z a.Low b.Z b.High,zM a.Z a.High b.Z b.Low,zM a.Z a.High b.Z b.High]
def zy (g : Sl aC) (i : Nat) : Nat → Nat → List straight
  | 0,_=>[]
  | m+1,k=>xJ (g.get i) (g.get k) ++ zy g i m (k+1)
def Jk (g : Sl aC) : Nat → Nat → List straight
  | 0,_=>[]
  | m+1,i=>zy g i (g.len - (i+1)) (i+1) ++ Jk g m (i+1)
def cst (g:Sl aC):List straight:=Jk g g.len 0
theorem mF {g:aC}(h:fF g) : -1000000<=g.Low/\g.Low<=1000000:=⟨h.2.1,by have:=h.2;omega⟩
theorem oD {g:aC}(h:fF g) : -1000000<=g.High/\g.High<=1000000:=⟨by have:=h.2;omega,h.2.2.2⟩
abbrev zqz (C:Int×Int×Int×Int->ae straight):Prop:=∀ z p y q,(0<=z/\z<=100000)->(0<=y/\y<=100000)->(-1000000<=p/\p<=1000000)->(-1000000<=q/\q<=1000000)->C (z,p,y,q)=.ok (zM z p y q)
theorem zJ8 {E:zaf} : zqz (zjU E):=λ z p y q hz hy hp hq=>ae.ext λ k=>by
 have b1:=mO hp.1 hp.2 hy.1 hy.2;have b2:=mO hq.1 hq.2 hz.1 hz.2;rw[e229,bn,bg (x:=p * y) (by omega) (by omega),bg (x:=q * z) (by omega) (by omega)];unfold zM;by_cases h:z > y
 ·rw[decide_eq_true h,cond_true,if_pos h,bg (x:=p - q) (by omega) (by omega),bg (x:=z - y) (by omega) (by omega),bg (x:=q * z - p * y) (by omega) (by omega)]
 ·rw[decide_eq_false h,cond_false,if_neg h,bg (x:=q - p) (by omega) (by omega),bg (x:=y - z) (by omega) (by omega),bg (x:=p * y - q * z) (by omega) (by omega)]
abbrev zqA (I:Pt list->ae (List straight)):Prop:=∀ l:Pt list,dm l.v.bI->I l=.ok (cst l.v.bI)
theorem zJ9 {E:Nw}(N:Big E.N) (zae:zqz E.c229):zqA (zqs E):=λ l G=>by
 have hl:=G.2.2;refine yP ?_ (λ _=>rfl) (λ _=>rfl);rw[e228]
 have inn:∀ (n i:Nat) (R:List (List PA)) (sl:Sl aC),i < l.v.bI.len->sl.len=l.v.bI.len - (i+1)->(∀ x,sl.get x=l.v.bI.get (x+(i+1)))->GZ E n l (aO ((i:Int)+1))=some R ->
   ∀ (m j n1:Nat),j+m=sl.len->m < n1->G5 E n n1 l (i:Int) sl (sl.len:Int) (j:Int) (l.v.bI.get i)=some ((zy l.v.bI i m (j+(i+1))).map dw.enc ++ R):=by
  intro n i R sl hi hs hg hR m
  induction m with
  | zero =>
   intro j n1 hj hn;obtain⟨n1,rfl⟩:∃ n',n1=n'+1:=⟨n1 - 1,by omega⟩;rw[zeO,decide_eq_false (by omega),cond_false,hR];rfl
  | succ m ih =>
   intro j n1 hj hn;obtain⟨n1,rfl⟩:∃ n',n1=n'+1:=⟨n1 - 1,by omega⟩;have gi:=G.1 i hi;have gk:=G.1 (j+(i+1)) (by omega);have i1:=ih (j+1) n1 (by omega) (by omega);rw[zeO,decide_eq_true (by omega),cond_true,bD (by omega),bT (by omega),i1,Int.toNat_natCast,hg];show _=some (List.map dw.enc (xJ (l.v.bI.get i) (l.v.bI.get (j+(i+1))) ++ zy l.v.bI i m (j+(i+1)+1)) ++ R);unfold xJ;by_cases hz:(l.v.bI.get i).Z=(l.v.bI.get (j+(i+1))).Z
   ·rw[if_pos hz,show ((l.v.bI.get i).Z == (l.v.bI.get (j+(i+1))).Z)=true by simpa using hz,cond_true,show j+1+(i+1)=j+(i+1)+1 by omega];rfl
   ·rw[if_neg hz,show ((l.v.bI.get i).Z == (l.v.bI.get (j+(i+1))).Z)=false by simpa using hz,cond_false,zae _ _ _ _ gi.1 gk.1 (mF gi) (mF gk),zae _ _ _ _ gi.1 gk.1 (mF gi) (oD gk),zae _ _ _ _ gi.1 gk.1 (oD gi) (mF gk),zae _ _ _ _ gi.1 gk.1 (oD gi) (oD gk),bn,bn,bn,bn,
     show j+1+(i+1)=j+(i+1)+1 by omega];rfl
 have key:∀ (m i n:Nat),i+m=l.v.bI.len->m < n->GZ E n l (i:Int)=some ((Jk l.v.bI m i).map dw.enc):=by
  intro m
  induction m with
  | zero =>
   intro i n hi hn;obtain⟨n,rfl⟩:∃ n',n=n'+1:=⟨n - 1,by omega⟩;rw[zeN,decide_eq_false (by omega)];rfl
  | succ m ih =>
   intro i n hi hn;obtain⟨n,rfl⟩:∃ n',n=n'+1:=⟨n - 1,by omega⟩;have i1:=ih (i+1) n (by omega) (by omega);rw[zeN,decide_eq_true (by omega),cond_true,bD (by omega),bT (by omega),bD (by omega),Int.toNat_natCast];have hs:((l.v.bI.len:Int) - ((i+1:Nat):Int)).toNat=l.v.bI.len - (i+1):=by omega
   have:=inn n i _ ⟨((l.v.bI.len:Int) - ((i+1:Nat):Int)).toNat,Jf l.v.bI.get (((i+1:Nat):Int)).toNat⟩ (by omega) hs (λ x=>by show l.v.bI.get (x+(((i+1:Nat):Int)).toNat)=_;rw[Int.toNat_natCast]) (by rw[bT (by omega)];exact i1) (l.v.bI.len - (i+1)) 0 E.N (by show 0+(l.v.bI.len - (i+1))=((l.v.bI.len:Int) - ((i+1:Nat):Int)).toNat;omega) (by have:=N;omega);rw[Nat.zero_add] at this;refine this.trans ?_;show _=some (((zy l.v.bI i (l.v.bI.len - (i+1)) (i+1)) ++ Jk l.v.bI m (i+1)).map dw.enc);rw[List.map_append]
 exact key l.v.bI.len 0 E.N (by omega) (by have:=N;omega)
abbrev zqB (C:aC->ae Bool):Prop:=∀ g,C g=.ok (Ci g)
theorem zKa {E:ZE}(xG:yO E.c157):zqB (zi7 E):=λ g=>ae.ext λ k=>by
 rw[zHp,xG,bn,bn];unfold Ci;cases inB g.Z 0 100000 <;> cases decide (g.Low >= -1000000) <;> cases decide (g.Low<=g.High) <;> rfl
def sW (l:Sl aC):Bool:=dR (λ i=>Ci (l.get i)) l.len && inB (l.len:Int) 1 24
theorem nC {l:Sl aC} : sW l=true↔dm l:=by
 simp only[sW,fE,dG,inB,decide_eq_true_eq,zeZ,dm];exact and_congr Iff.rfl (by omega)
abbrev zj7 (C:Sl aC->ae Bool):Prop:=∀ l:Sl aC,l.len<=1000->C l=.ok (sW l)
theorem zKb {E:UD}(N:Big E.N) (zpE:zqB E.c156) (xG:yO E.c157):zj7 (ziA E):=λ l hl=>ae.ext λ k=>by
 rw[e109,bn,loopA (L:=λ n i=>MX E n l i k) (p:=λ i=>Ci (l.get i)) (m:=l.len) (fin:=k (inB (l.len:Int) 1 24)) (stop:=k false) (by omega) (λ n i hi=>?_) (λ n=>?_) _ (by have:=N;omega)]
 ·unfold sW;cases dR (λ i=>Ci (l.get i)) l.len <;> rfl
 ·rw [zdL, decide_eq_true (by omega), cond_true, bD (by omega), zpE, bn, Int.toNat_natCast];cases Ci (l.get i) <;> rfl
 ·rw[zdL,decide_eq_false (by omega),cond_false,xG,bn]
/-! The first one of a list that is as wanted. -/
def fst (p : Nat → Bool) : Nat → Nat → Int
  | 0,_=>-1
  | m+1,i=>cond (p i) (i:Int) (fst p m (i+1))
theorem Xz (p:Nat->Bool):∀ m i,(0<=fst p m i↔∃ j,i<=j/\j < i+m/\p j=true):=by
 intro m
 induction m with
 | zero=>intro i;exact⟨λ h=>by simp[fst] at h,λ ⟨j,h1,h2,_⟩=>by omega⟩
 | succ m ih =>
  intro i;simp only[fst];cases h:p i with
  | true=>exact⟨λ _=>⟨i,iZ _,by omega,h⟩,λ _=>by simp⟩
  | false =>
   rw[cond_false,ih];exact⟨λ ⟨j,h1,h2,h3⟩=>⟨j,by omega,by omega,h3⟩,λ ⟨j,h1,h2,h3⟩=>⟨j,by
    have:j ≠ i:=λ e=>by rw[e,h] at h3;cases h3
    omega,by omega,h3⟩⟩
theorem sZ (p:Nat->Bool) (m:Nat):decide (fst p m 0 >= 0) = !dR (λ i=>!p i) m:=by
 rw[Bool.eq_iff_iff];simp only[decide_eq_true_eq,ge_iff_le,Xz,Bool.not_eq_true',<- Bool.not_eq_true,dG];constructor
 ·rintro ⟨j, _, h2, h3⟩ h;have:=h j (by omega);rw[h3] at this;exact absurd rfl this
 ·intro h;apply Classical.byContradiction;intro hc;exact h λ i hi hp=>hc ⟨i,Nat.zero_le _,by omega,hp⟩
theorem Cj {A : Type} {L : Nat → Int → Option A} {p : Nat → Bool} {m : Nat} {k : Int → Option A} (hm : m < 4611686018427387904)
    (hL:∀ n i,i < m->L (n+1) (i:Int)=cond (p i) (k (i:Int)) (L n (aO ((i:Int)+1)))) (hE:∀ n,L (n+1) (m:Int)=k (-1)):∀ n,m < n->L n 0=k (fst p m 0):=by
  have key:∀ (d i n:Nat),i+d=m->d < n->L n (i:Int)=k (fst p d i):=by
    intro d
    induction d with
    | zero =>
      intro i n hi hn;obtain⟨n,rfl⟩:∃ n',n=n'+1:=⟨n - 1,by omega⟩;have e:i=m:=by omega
      subst e;exact hE n
    | succ d ih =>
      intro i n hi hn;obtain⟨n,rfl⟩:∃ n',n=n'+1:=⟨n - 1,by omega⟩;rw[hL n i (by omega),bT (by omega),ih (i+1) n (by omega) (by omega)];simp only[fst];cases p i <;> rfl
  intro n hn;exact key m 0 n (by omega) hn
def KC (x:straight) (g:aC):Bool:=inB (aO (x.start+aO (x.bK * g.Z))) (aO (g.Low * x.den)) (aO (g.High * x.den))
abbrev zqC (C:straight×aC->ae Bool):Prop:=∀ x g,C (x,g)=.ok (KC x g)
theorem zKc {E:zai}(xG:yO E.c157):zqC (zjW E):=λ x g=>ae.ext λ k=>by rw[e231,xG,bn,bn];rfl
abbrev zqD (C:aC×Pt straight->ae Bool):Prop:=∀ g (x:Pt straight),C (g,x)=.ok (!KC x.v g)
theorem zKd {E:zah}(zqu:zqC E.zls):zqD (zjV E):=λ g x=>ae.ext λ k=>by rw[e230,zqu,bn,bn]
def QV (x:straight) (g:aC):Bool:=aO (x.start+aO (x.bK * g.Z)) == aO (g.Low * x.den)
abbrev zqE (C:aC×Pt straight->ae Bool):Prop:=∀ g (x:Pt straight),C (g,x)=.ok (QV x.v g)
theorem zKe {E:zar} : zqE (zj6 E):=λ g x=>ae.ext λ k=>by rw[e257,bn];rfl
abbrev zqF (C:aC×Pt list->ae Bool):Prop:=∀ g (x:Pt list),0 < x.v.bI.len->C (g,x)=.ok (g.Z != (x.v.bI.get 0).Z)
theorem zKf {E:Z8} : zqF (zjI E):=λ g x h=>ae.ext λ k=>by rw[e207,bn,bD (by omega)]
abbrev zas:=dN 207 Unit (Pt list) ⊕ dN 230 Unit (Pt straight) ⊕ dN 257 Unit (Pt straight)
def ze0 : zas → aC → Bool
  | .inl c,g=>g.Z != (c.v.v.bI.get 0).Z
  | .inr (.inl c),g=>!KC c.v.v g
  | .inr (.inr c),g=>QV c.v.v g
def okG : zas → Prop
  | .inl c=>0 < c.v.v.bI.len
  | _=>True
abbrev QIx {γ:Type}(i:γ->zas) (C:Sl aC×γ->ae Int):Prop:=∀ (l:Sl aC) (c:γ),l.len<=1000->okG (i c)->C (l,c)=.ok (fst (λ j=>ze0 (i c) (l.get j)) l.len 0)
abbrev Jl {γ:Type}(i:γ->zas) (C:Sl aC×γ->ae Bool):Prop:=∀ (l:Sl aC) (c:γ),l.len<=1000->okG (i c)->C (l,c)=.ok (!dR (λ j=>!ze0 (i c) (l.get j)) l.len)
abbrev ze1 (C:Sl aC×zas->ae Int):Prop:=QIx id C
abbrev QX (C:Sl aC×zas->ae Bool):Prop:=Jl id C
theorem ze2 {E:ou}(N:Big E.N) (zqv:zqF E.zlm):QIx .inl (zo E):=λ l c hl ho=>ae.ext λ k=>by
 rw[zeP,bn];refine Cj (L:=λ n i=>sS E n l c i k) (p:=λ j=>ze0 (.inl c) (l.get j)) (m:=l.len) (k:=k) (by omega) (λ n i hi=>?_) (λ n=>?_) _ (by have:=N;omega)
 ·rw[G6,decide_eq_true (by omega),cond_true,bD (by omega),zqv _ _ ho,bn,Int.toNat_natCast];rfl
 ·rw[G6,decide_eq_false (by omega)];rfl
theorem ze3 {E:oz}(N:Big E.N) (zqw:zqD E.zlr):QIx (λ c=>.inr (.inl c)) (zq E):=λ l c hl ho=>ae.ext λ k=>by
 rw[zeR,bn];refine Cj (L:=λ n i=>sU E n l c i k) (p:=λ j=>ze0 (.inr (.inl c)) (l.get j)) (m:=l.len) (k:=k) (by omega) (λ n i hi=>?_) (λ n=>?_) _ (by have:=N;omega)
 ·rw[G7,decide_eq_true (by omega),cond_true,bD (by omega),zqw,bn,Int.toNat_natCast];rfl
 ·rw[G7,decide_eq_false (by omega)];rfl
theorem ze4 {E:oC}(N:Big E.N) (zqx:zqE E.zlu):QIx (λ c=>.inr (.inr c)) (zu E):=λ l c hl ho=>ae.ext λ k=>by
 rw[zeT,bn];refine Cj (L:=λ n i=>sV E n l c i k) (p:=λ j=>ze0 (.inr (.inr c)) (l.get j)) (m:=l.len) (k:=k) (by omega) (λ n i hi=>?_) (λ n=>?_) _ (by have:=N;omega)
 ·rw[G8,decide_eq_true (by omega),cond_true,bD (by omega),zqx,bn,Int.toNat_natCast];rfl
 ·rw[G8,decide_eq_false (by omega)];rfl
theorem zKg {f:Sl aC×dN 207 Unit (Pt list)->ae Int}{g:Sl aC×dN 230 Unit (Pt straight)->ae Int}{h:Sl aC×dN 257 Unit (Pt straight)->ae Int}(a:QIx .inl f) (b:QIx (λ c=>.inr (.inl c)) g) (d:QIx (λ c=>.inr (.inr c)) h):ze1 (ae.two f (ae.two g h)):=λ l c hl ho=>by
 rcases c with c | c | c
 ·exact a l c hl ho
 ·exact b l c hl ho
 ·exact d l c hl ho
theorem ze5 {E:qY}(GU:ze1 E.zK):Jl .inl (zh E):=λ l c hl ho=>ae.ext λ k=>by rw[zex,GU l (.inl c) hl ho,bn,bn,sZ];rfl
theorem ze6 {E:qZ}(GU:ze1 E.zK):Jl (λ c=>.inr (.inl c)) (zi E):=λ l c hl ho=>ae.ext λ k=>by rw[zeB,GU l (.inr (.inl c)) hl ho,bn,bn,sZ];rfl
theorem ze7 {E:rq}(GU:ze1 E.zK):Jl (λ c=>.inr (.inr c)) (zk E):=λ l c hl ho=>ae.ext λ k=>by rw[zeF,GU l (.inr (.inr c)) hl ho,bn,bn,sZ];rfl
theorem zKh {f:Sl aC×dN 207 Unit (Pt list)->ae Bool}{g:Sl aC×dN 230 Unit (Pt straight)->ae Bool}{h:Sl aC×dN 257 Unit (Pt straight)->ae Bool}(a:Jl .inl f) (b:Jl (λ c=>.inr (.inl c)) g) (d:Jl (λ c=>.inr (.inr c)) h):QX (ae.two f (ae.two g h)):=λ l c hl ho=>by
 rcases c with c | c | c
 ·exact a l c hl ho
 ·exact b l c hl ho
 ·exact d l c hl ho
def fV (l:Sl aC):Bool:=dR (λ j=>(l.get j).Z == (l.get 0).Z) l.len
theorem zj8 {a b:Int} : (!(a != b))=(a == b):=by cases h:a == b <;> simp[bne,h]
abbrev Vo (C:list->ae Bool):Prop:=∀ x:list,0 < x.bI.len->x.bI.len<=1000->C x=.ok (fV x.bI)
theorem zKi {E:ZL}(GI:QX E.c206):Vo (zjf E):=λ x h0 h1=>ae.ext λ k=>by
 rw[e167,GI x.bI (.inl ⟨(),⟨x⟩⟩) h1 h0,bn,bn,Bool.not_not];congr 1;exact Gt λ i _=>zj8
def allB (l:Sl aC) (x:straight):Bool:=dR (λ j=>KC x (l.get j)) l.len
abbrev zqG (C:set×straight->ae Bool):Prop:=∀ (s:set) x,s.list.bI.len<=1000->C (s,x)=.ok (allB s.list.bI x)
theorem zKj {E:Z4}(GI:QX E.c206):zqG (zjD E):=λ s x h1=>ae.ext λ k=>by
 rw[e199,GI s.list.bI (.inr (.inl ⟨(),⟨x⟩⟩)) h1 trivial,bn,bn,Bool.not_not];congr 1;exact Gt λ i _=>Bool.not_not _
abbrev zqH (C:set×straight->ae Bool):Prop:=∀ (s:set) x,s.list.bI.len<=1000->C (s,x)=.ok (!dR (λ j=>!QV x (s.list.bI.get j)) s.list.bI.len)
theorem zKk {E:zaq}(GI:QX E.c206):zqH (zj5 E):=λ s x h1=>ae.ext λ k=>by
 rw[zJZ,GI s.list.bI (.inr (.inr ⟨(),⟨x⟩⟩)) h1 trivial,bn,bn];rfl
def fG (l : Sl aC) : Nat → bZ
  | 0=>⟨(l.get 0).Low,(l.get 0).High⟩
  | n+1=>⟨if (l.get n).Low > (fG l n).Low then (l.get n).Low else (fG l n).Low,if (l.get n).High < (fG l n).High then (l.get n).High else (fG l n).High⟩
abbrev zj9 (C:list->ae bZ):Prop:=∀ x:list,0 < x.bI.len->x.bI.len<=1000->C x=.ok (fG x.bI x.bI.len)
theorem zKl {E:Ve}(N:Big E.N):zj9 (zjE E):=λ x h0 h1=>ae.ext λ k=>by
 rw[zIQ,bD (by omega),bD (by omega),bn];refine jX (X:=λ n i=>Nr E n x (i:Int) (fG x.bI i) k) (m:=x.bI.len) (λ n i hi=>?_) (λ n=>?_) _ (by have:=N;omega)
 ·rw[zet,decide_eq_true (by omega),cond_true,bD (by omega),bT (by omega),Int.toNat_natCast];rfl
 ·rw[zet,decide_eq_false (by omega)];rfl
def wS (s:straight):Prop:=(-2000000<=s.bK/\s.bK<=2000000)/\(-200000000000<=s.start/\s.start<=200000000000)/\1<=s.den/\s.den<=100000
theorem zqI {z p y q:Int}(hz:0<=z/\z<=100000) (hy:0<=y/\y<=100000) (hp : -1000000<=p/\p<=1000000) (hq : -1000000<=q/\q<=1000000) (hn:z ≠ y):wS (zM z p y q):=by
 have b1:=mO hp.1 hp.2 hy.1 hy.2;have b2:=mO hq.1 hq.2 hz.1 hz.2;unfold zM wS;by_cases h:z > y
 ·rw[if_pos h];exact⟨⟨by show _<=p - q;omega,by show p - q<=_;omega⟩,⟨by show _<=q * z - p * y;omega,by show q * z - p * y<=_;omega⟩,by show _<=z - y;omega,by show z - y<=_;omega⟩
 ·rw[if_neg h];exact⟨⟨by show _<=q - p;omega,by show q - p<=_;omega⟩,⟨by show _<=p * y - q * z;omega,by show p * y - q * z<=_;omega⟩,by show _<=y - z;omega,by show y - z<=_;omega⟩
theorem ze8 {a b:aC}{s:straight}(h:s∈xJ a b):a.Z ≠ b.Z/\∃ p q,(p=a.Low\/p=a.High)/\(q=b.Low\/q=b.High)/\s=zM a.Z p b.Z q:=by
 unfold xJ at h;by_cases hz:a.Z=b.Z
 ·rw[if_pos hz] at h;cases h
 ·rw [if_neg hz] at h;refine⟨hz,?_⟩;simp only[jf,List.not_mem_nil,or_false] at h;rcases h with h | h | h | h
  ·exact⟨_,_,.inl rfl,.inl rfl,h⟩
  ·exact⟨_,_,.inl rfl,.inr rfl,h⟩
  ·exact⟨_,_,.inr rfl,.inl rfl,h⟩
  ·exact⟨_,_,.inr rfl,.inr rfl,h⟩
theorem QY {g : Sl aC} {i : Nat} {s : straight} : ∀ {m k : Nat}, s ∈ zy g i m k → ∃ j, k ≤ j ∧ j < k + m ∧ s ∈ xJ (g.get i) (g.get j)
  | 0,_,h=>by cases h
  | m+1,k,h=>by
    rcases dL.1 h with h | h
    · exact⟨k,iZ _,by omega,h⟩
    · obtain ⟨j, a, b, c⟩ := QY h;exact⟨j,by omega,by omega,c⟩
theorem QZ {g : Sl aC} {s : straight} : ∀ {m i : Nat}, s ∈ Jk g m i → ∃ a b, i ≤ a ∧ a < i + m ∧ a < b ∧ b < g.len ∧ s ∈ xJ (g.get a) (g.get b)
  | 0,_,h=>by cases h
  | m+1,i,h=>by
    rcases dL.1 h with h | h
    · obtain ⟨j, a, b, c⟩ := QY h;exact⟨i,j,iZ _,by omega,by omega,by omega,c⟩
    · obtain ⟨a, b, h1, h2, h3, h4, h5⟩ := QZ h;exact⟨a,b,by omega,by omega,h3,h4,h5⟩
theorem XB {g:Sl aC}{s:straight}(h:s∈cst g):∃ a b,a < b/\b < g.len/\(g.get a).Z ≠ (g.get b).Z/\∃ p q,(p=(g.get a).Low\/p=(g.get a).High)/\(q=(g.get b).Low\/q=(g.get b).High)/\s=zM (g.get a).Z p (g.get b).Z q:=by
 obtain⟨a,b,_,_,h3,h4,h5⟩:=QZ h;obtain⟨hz,r⟩:=ze8 h5;exact⟨a,b,h3,h4,hz,r⟩
theorem qc {g:Sl aC}(G:dm g){s:straight}(h:s∈cst g):wS s:=by
 obtain⟨a,b,h1,h2,hz,p,q,hp,hq,rfl⟩:=XB h;have ga:=G.1 a (by omega);have gb:=G.1 b h2;refine zqI ga.1 gb.1 ?_ ?_ hz
 ·rcases hp with rfl | rfl;exact mF ga;exact oD ga
 ·rcases hq with rfl | rfl;exact mF gb;exact oD gb
def oZ (l:Line):List Int:=[l.dM.Num,l.dM.cO,l.Start.Num,l.Start.cO]
theorem zat {a b:Line}(h:oZ a=oZ b):a=b:=by
 unfold oZ at h;simp only[Bq,and_true] at h;obtain⟨h1,h2,h3,h4⟩:=h;obtain⟨⟨a1,a2⟩,a3,a4⟩:=a;obtain⟨⟨b1,b2⟩,b3,b4⟩:=b;simp only at h1 h2 h3 h4;rw[h1,h2,h3,h4]
theorem Q3 (a b:aC):(xJ a b).length<=4:=by unfold xJ;split <;> simp
theorem Q4 (g:Sl aC) (i m k:Nat):(zy g i m k).length<=4 * m:=by
 induction m generalizing k with
 | zero=>exact iZ _
 | succ m ih=>show (xJ _ _ ++ zy g i m (k+1)).length<=_;rw[RY];have:=ih (k+1);have:=Q3 (g.get i) (g.get k);omega
theorem ze9 (g:Sl aC):∀ m i,(Jk g m i).length<=4 * g.len * m:=by
 intro m
 induction m with
 | zero=>intro i;exact iZ _
 | succ m ih =>
  intro i;show (zy g i (g.len - (i+1)) (i+1) ++ Jk g m (i+1)).length<=_;rw[RY,Nat.mul_succ];have:=ih (i+1);have:=Q4 g i (g.len - (i+1)) (i+1);omega
theorem Nz {g:Sl aC}(G:dm g):(cst g).length<=2304:=by
 have h1:=ze9 g g.len 0;have hl:=G.2.2;have:4 * g.len * g.len<=4 * 24 * 24:=Nat.mul_le_mul (by omega) hl;exact Bv h1 this

def qp {α:Type} [bG α] (v:Sl α) (x:α):Sl α:=⟨v.len+1,jd v.len v.get (λ _=>x)⟩
theorem qg {α:Type} [bG α] (l:List α):∀ v:Sl α,(l.foldl qp v).len=v.len+l.length:=by
 induction l with
 | nil=>intro v;rfl
 | cons x l ih=>intro v;rw[List.foldl_cons,ih];show v.len+1+l.length=v.len+(l.length+1);omega
theorem NC {α:Type} [bG α] [qm α] (l:List α):∀ (v:Sl α) (i:Nat),i < v.len->(l.foldl qp v).get i=v.get i:=by
 induction l with
 | nil=>intro v i _;rfl
 | cons x l ih =>
  intro v i hi;rw[List.foldl_cons,ih _ _ (show i < v.len+1 by omega)];show jd v.len v.get (λ _=>x) i=_;rw[iy,if_neg (by omega)]
theorem wU {α:Type} [bG α] [qm α] (l:List α):∀ (v:Sl α) (i:Nat) (x:α),l[i]? = some x->(l.foldl qp v).get (v.len+i)=x:=by
 induction l with
 | nil=>intro v i x h;simp at h
 | cons y l ih =>
  intro v i x h;rw[List.foldl_cons];cases i with
  | zero =>
   simp only[List.getElem?_cons_zero,bJ] at h;subst h;rw[NC l _ _ (show v.len+0 < v.len+1 by omega)];show jd v.len v.get (λ _=>y) (v.len+0)=_;rw[iy,if_pos (by omega)]
  | succ i =>
   have:=ih (qp v y) i x (by simpa using h);rw[<- this];congr 1;show v.len+(i+1)=v.len+1+i;omega
abbrev zka (C:straight->ae Line):Prop:=∀ x,wS x->C x=.ok (eQ x)
theorem zKm {E:ZZ}(sH:Ha E.lC):zka (zjC E):=λ x h=>ae.ext λ k=>by
 obtain⟨h1,h2,h3⟩:=h;rw[zIL,sH _ _ (by omega) (by omega) (by omega) (by omega),sH _ _ (by omega) (by omega) (by omega) (by omega),bn,bn,bn];rfl
def Bg (g : Sl aC) : List straight → List straight → (List Int → Option (List Int)) → List straight
  | [],acc,_=>acc
  | y :: r,acc,F=>cond (!(CJ (F (oZ (eQ y))) 0 != 0)) (cond (allB g y) (Bg g r (acc ++ [y]) (D7 (oZ (eQ y)) [1] F)) (Bg g r acc F)) (Bg g r acc F)
def kE (g:Sl aC):List straight:=cond (fV g) [] (Bg g (cst g) [] λ _=>none)
abbrev Cm {α:Type} [Inhabited α]:Sl α:=⟨0,λ _=>default⟩
abbrev zkb (C:Sl aC->ae set):Prop:=∀ g,dm g->C g=.ok ⟨⟨g⟩,(kE g).foldl qp Cm⟩
theorem zKn {E:U2}(sG:Vo E.c167) (i228:zqA E.i228) (U3:zka E.c198) (zp3:zqG E.zlj):zkb (zi9 E):=λ g G=>ae.ext λ k=>by
 have hl:=G.2;rw[zHv,sG ⟨g⟩ (by show 0 < g.len;omega) (by show g.len<=1000;omega),bn,bn];unfold kE;cases fV g with
 | true=>rfl
 | false =>
  rw[cond_false,cond_false,i228 ⟨⟨g⟩⟩ G,bn];have key:∀ (r acc:List straight) (n:Nat) (F:List Int->Option (List Int)),(∀ s∈r,wS s)->acc.length+r.length<=10000->lY E r g (acc.foldl qp Cm) n F k=k ⟨⟨g⟩,(Bg g r acc F).foldl qp Cm⟩:=by
   intro r
   induction r with
   | nil=>intro acc n F _ _;exact zja ..
   | cons y r ih =>
    intro acc n F hs hn;have hs':∀ s∈r,wS s:=λ s h=>hs s (je _ h);rw[Oi] at hn;rw[zp2,U3 y (hs y kR),bn,zp3 ⟨⟨g⟩,_⟩ y (by show g.len<=1000;omega),bn];have e1:∀ m F,lY E r g (acc.foldl qp Cm) m F k=_:=λ m F=>ih acc m F hs' (by omega);have e2:∀ m F,lY E r g ((acc ++ [y]).foldl qp Cm) m F k=_:=λ m F=>ih (acc ++ [y]) m F hs' (by rw[RY];simp only[Oi,SE];omega);have hlen:(acc.foldl qp Cm).len=acc.length:=by rw[qg];simp
    have hroom:room ((acc.foldl qp Cm).len+1) 24=true:=decide_eq_true (by rw[hlen];omega);have hf:(⟨(acc.foldl qp Cm).len+1,jd (acc.foldl qp Cm).len (acc.foldl qp Cm).get (λ _=>y)⟩:Sl straight)=(acc ++ [y]).foldl qp Cm:=by rw[List.foldl_append];rfl
    rw[hroom,hf];show cond (!(CJ (F (oZ (eQ y))) 0 != 0)) (cond (allB g y) (lY E r g ((acc ++ [y]).foldl qp Cm) _ (D7 (oZ (eQ y)) [1] F) k) (lY E r g (acc.foldl qp Cm) n F k)) (lY E r g (acc.foldl qp Cm) n F k)=_;rw[e1,e2];simp only[Bg];cases (CJ (F (oZ (eQ y))) 0 != 0) <;> cases allB g y <;> rfl
  exact key (cst g) [] 0 _ (λ s h=>qc G h) (by have:=Nz G;simp only[SE];omega)
theorem zkc (g:Sl aC):∀ (r acc:List straight) (F:List Int->Option (List Int)),(∀ c,(CJ (F c) 0 != 0)=true↔∃ x∈acc,oZ (eQ x)=c)->acc.Pairwise (λ x y=>eQ x ≠ eQ y) ->
    (∀ s∈Bg g r acc F,s∈acc\/(s∈r/\allB g s=true))/\(∀ s∈acc,s∈Bg g r acc F)/\(∀ s∈r,allB g s=true->∃ x∈Bg g r acc F,eQ x=eQ s)/\(Bg g r acc F).Pairwise (λ x y=>eQ x ≠ eQ y):=by
  intro r
  induction r with
  | nil=>intro acc F _ hp;exact⟨λ s h=>.inl h,λ s h=>h,(λ s h=>by cases h),hp⟩
  | cons y r ih =>
    intro acc F hF hp;have skip:=ih acc F hF hp;simp only[Bg];cases h1:(CJ (F (oZ (eQ y))) 0 != 0) with
    | true =>
      obtain⟨c3,c4,c5,c6⟩:=skip;simp only[Bool.not_true,cond_false];refine⟨λ s h=>(c3 s h).imp id λ k=>⟨je _ k.1,k.2⟩,c4,λ s h ha=>?_,c6⟩;rcases jf.1 h with rfl | h
      · obtain ⟨x, hx, hc⟩ := (hF _).1 h1;exact⟨x,c4 x hx,zat hc⟩
      · exact c5 s h ha
    | false =>
      cases h2:allB g y with
      | true =>
        simp only[Bool.not_false,cond_true]
        obtain ⟨c3, c4, c5, c6⟩ := ih (acc ++ [y]) (D7 (oZ (eQ y)) [1] F)
          (λ c=>by
            unfold D7;by_cases hc:c=oZ (eQ y)
            · rw [decide_eq_true hc];exact⟨λ _=>⟨y,by simp,hc.symm⟩,λ _=>rfl⟩
            · rw [decide_eq_false hc];refine (hF c).trans ⟨λ ⟨x,hx,e⟩=>⟨x,dL.2 (.inl hx),e⟩,λ ⟨x,hx,e⟩=>?_⟩;rcases dL.1 hx with hx | hx
              · exact⟨x,hx,e⟩
              · rw[jM.1 hx] at e;exact absurd e.symm hc)
          (by
            rw[List.pairwise_append];refine⟨hp,List.pairwise_singleton _ _,λ a ha b hb=>?_⟩;rw[jM.1 hb];exact λ e=>by rw[(hF _).2 ⟨a,ha,by rw[e]⟩] at h1;cases h1)
        have hy:=c4 y (by simp);refine⟨λ s h=>?_,λ s h=>c4 s (dL.2 (.inl h)),λ s h ha=>?_,c6⟩
        · rcases c3 s h with h | h
          · rcases dL.1 h with h | h
            · exact .inl h
            · rw[jM.1 h];exact .inr ⟨kR,h2⟩
          · exact .inr ⟨je _ h.1,h.2⟩
        · rcases jf.1 h with rfl | h
          · exact⟨s,hy,rfl⟩
          · exact c5 s h ha
      | false =>
        obtain⟨c3,c4,c5,c6⟩:=skip;simp only[Bool.not_false,cond_true,cond_false];refine⟨λ s h=>(c3 s h).imp id λ k=>⟨je _ k.1,k.2⟩,c4,λ s h ha=>?_,c6⟩;rcases jf.1 h with rfl | h
        · rw[h2] at ha;cases ha
        · exact c5 s h ha
theorem Vp {g:Sl aC}(hf:fV g=false):(∀ s∈kE g,s∈cst g/\allB g s=true)/\(∀ s∈cst g,allB g s=true->∃ x∈kE g,eQ x=eQ s)/\(kE g).Pairwise (λ x y=>eQ x ≠ eQ y):=by
 unfold kE;rw[hf,cond_false];obtain⟨c3,_,c5,c6⟩:=zkc g (cst g) [] (λ _=>none) (λ c=>⟨λ h=>by simp[CJ] at h,λ ⟨x,hx,_⟩=>by cases hx⟩) List.Pairwise.nil;refine⟨λ s h=>?_,c5,c6⟩;rcases c3 s h with h | h
 ·cases h
 ·exact h
def iF (g:Sl aC):Bool:=cond (fV g) (decide ((fG g g.len).Low<=(fG g g.len).High)) (decide (((kE g).length:Int) > 0))
def gB (g:Sl aC):set:=⟨⟨g⟩,(kE g).foldl qp Cm⟩
theorem He (g:Sl aC):(gB g).cu.len=(kE g).length:=by show ((kE g).foldl qp Cm).len=_;rw[qg];simp
abbrev zkd (C:set->ae Bool):Prop:=∀ g,dm g->C (gB g)=.ok (iF g)
theorem zKo {E:ZH}(U4:zj9 E.Oh) (sG:Vo E.c167):zkd (zjb E):=λ g G=>ae.ext λ k=>by
 have hl:=G.2;rw[zHA,U4 _ (by show 0 < g.len;omega) (by show g.len<=1000;omega),bn,sG _ (by show 0 < g.len;omega) (by show g.len<=1000;omega),bn,bn,He,kc k];rfl
def DI (g:Sl aC) (b:Bool):set×Int:=cond (sW g) (cond (iF g) (cond (fV g && !b) (⟨⟨Cm⟩,Cm⟩,6) (gB g,0)) (⟨⟨Cm⟩,Cm⟩,5)) (⟨⟨Cm⟩,Cm⟩,2)
abbrev zqJ (C:list->ae Bool):Prop:=∀ l,C l=.ok false
theorem zKp {E:Zo} : zqJ (ziH E):=λ l=>ae.ext λ k=>by rw[e118,bn]
abbrev zqK (C:list×Pt Int->ae Bool):Prop:=∀ (l:list) (z:Pt Int),0 < l.bI.len->C (l,z)=.ok ((l.bI.get 0).Z == z.v)
theorem zKq {E:ZI} : zqK (zjc E):=λ l z h=>ae.ext λ k=>by rw[e162,bn,bD (by omega)]
abbrev zqL:=dN 118 Unit Unit ⊕ dN 162 Unit (Pt Int)
def zKr (g : Sl aC) : zqL → Bool
  | .inl _=>false
  | .inr c=>(g.get 0).Z == c.v.v
abbrev QOp {γ:Type}(i:γ->zqL) (C:Sl aC×γ->ae (set×Int)):Prop:=∀ (g:Sl aC) (c:γ),g.len<=1000->C (g,c)=.ok (DI g (zKr g (i c)))
abbrev zke (C:Sl aC×zqL->ae (set×Int)):Prop:=QOp id C
theorem zfa {E:qR}(UI:zj7 E.c109) (UJ:zkb E.Ob) (UK:zkd E.c159) (sG:Vo E.c167) (zpJ:zqJ E.zk4):QOp .inl (yS E):=λ g c hl=>ae.ext λ k=>by
 rw[zdP,UI g hl,bn,bn];unfold DI;cases hg:sW g with
 | false=>rfl
 | true =>
  have G:=nC.1 hg;have G2:=G.2;rw[UJ g G,bn,show (⟨⟨g⟩,(kE g).foldl qp Cm⟩:set)=gB g from rfl,UK g G,bn,sG _ (by show 0 < g.len;omega) (by show g.len<=1000;omega),bn,zpJ,bn];show cond (!true) _ (cond (!iF g) _ (cond (fV g) _ _))=_;cases iF g <;> cases fV g <;> rfl
theorem zfb {E:qU}(UI:zj7 E.c109) (UJ:zkb E.Ob) (UK:zkd E.c159) (sG:Vo E.c167) (zpK:zqK E.c162):QOp .inr (yU E):=λ g c hl=>ae.ext λ k=>by
 rw[zdT,UI g hl,bn,bn];unfold DI;cases hg:sW g with
 | false=>rfl
 | true =>
  have G:=nC.1 hg;have G2:=G.2;rw[UJ g G,bn,show (⟨⟨g⟩,(kE g).foldl qp Cm⟩:set)=gB g from rfl,UK g G,bn,sG _ (by show 0 < g.len;omega) (by show g.len<=1000;omega),bn,zpK _ _ (by show 0 < g.len;omega),bn];show cond (!true) _ (cond (!iF g) _ (cond (fV g) (cond (!((g.get 0).Z == c.v.v)) _ _) _))=k (cond true (cond (iF g) (cond (fV g && !((g.get 0).Z == c.v.v)) _ _) _) _);cases iF g <;> cases fV g <;> cases ((g.get 0).Z == c.v.v) <;> rfl
theorem zKs {f:Sl aC×dN 118 Unit Unit->ae (set×Int)}{h:Sl aC×dN 162 Unit (Pt Int)->ae (set×Int)}(a:QOp .inl f) (b:QOp .inr h):zke (ae.two f h):=λ g c hl=>by
 rcases c with c | c
 ·exact a g c hl
 ·exact b g c hl
def iR (s:straight) (z:Int):Int:=s.start+s.bK * z
def oG (s:straight) (g:aC):Bool:=decide (g.Low * s.den<=iR s g.Z/\iR s g.Z<=g.High * s.den)
def zqN (s:straight) (g:aC):Bool:=decide (iR s g.Z=g.Low * s.den)
theorem XD {s:straight}(S:wS s){z:Int}(hz : -200000<=z/\z<=200000):aO (s.start+aO (s.bK * z))=iR s z/\(-600000000000<=iR s z/\iR s z<=600000000000):=by
 have b : -400000000000<=s.bK * z/\s.bK * z<=400000000000:=by
  rcases Int.lt_or_le z 0 with h | h
  ·have := mO (x := s.bK) (y := -z) (X := 2000000) (Y := 200000) (by have := S.1; omega) (by have := S.1; omega) (by omega) (by omega);rw[Int.mul_neg] at this;omega
  ·exact mO (X:=2000000) (Y:=200000) (by have:=S.1;omega) (by have:=S.1;omega) h (by omega)
 have:=S.2.1;unfold iR;rw[bg (x:=s.bK * z) (by omega) (by omega),bg (by omega) (by omega)];omega
theorem zfc {s:straight}(S:wS s){p:Int}(hp : -1000000<=p/\p<=1000000):aO (p * s.den)=p * s.den:=by
 have:=mO hp.1 hp.2 (show 0<=s.den by have:=S.2.2;omega) S.2.2.2;exact bg (by omega) (by omega)
theorem Q5 {s:straight}(S:wS s){g:aC}(h:fF g):KC s g=oG s g:=by
 unfold KC oG inB;rw[(XD S (z:=g.Z) (by have:=h.1;omega)).1,zfc S (mF h),zfc S (oD h)]
theorem XE {s:straight}(S:wS s){g:aC}(h:fF g):QV s g=zqN s g:=by
 unfold QV zqN;rw[(XD S (z:=g.Z) (by have:=h.1;omega)).1,zfc S (mF h)];rw[Bool.eq_iff_iff];simp
def Bh (g:Sl aC) (s:straight):Prop:=∀ i,i < g.len->oG s (g.get i)=true
def lu (g:Sl aC) (s:straight):Prop:=∃ i,i < g.len/\zqN s (g.get i)=true
theorem Hf {g:Sl aC}(G:dm g){s:straight}(S:wS s):allB g s=true↔Bh g s:=by
 unfold allB;rw[dG];exact⟨λ h i hi=>by rw[<- Q5 S (G.1 i hi)];exact h i hi,λ h i hi=>by rw[Q5 S (G.1 i hi)];exact h i hi⟩
theorem Q7 {g:Sl aC}(G:dm g){s:straight}(S:wS s):(!dR (λ j=>!QV s (g.get j)) g.len)=true↔lu g s:=by
 rw[Bool.not_eq_true',<- Bool.not_eq_true,dG];constructor
 ·intro h;apply Classical.byContradiction;intro hc;refine h λ i hi=>?_;cases e:QV s (g.get i) with
  | false=>rfl
  | true=>rw[XE S (G.1 i hi)] at e;exact (hc ⟨i,hi,e⟩).elim
 ·rintro ⟨i, hi, e⟩ h;have:=h i hi;rw[XE S (G.1 i hi),e] at this;cases this
def CX (g:Sl aC) (s:straight):Prop:=s∈cst g/\Bh g s
theorem uh {g:Sl aC}(G:dm g){s:straight}(h:CX g s):wS s:=qc G h.1
def zA (a b:aS):Prop:=a.Num * b.cO < b.Num * a.cO
def Hg (s:straight):aS:=⟨s.bK,s.den⟩
theorem Vq {z p y q:Int}(h:z ≠ y):iR (zM z p y q) z=p * (zM z p y q).den/\iR (zM z p y q) y=q * (zM z p y q).den:=by
 unfold zM iR;split
 ·constructor
  ·show q * z - p * y + (p - q) * z = p * (z - y);rw[Int.sub_mul,Int.mul_sub];omega
  ·show q * z - p * y + (p - q) * y = q * (z - y);rw[Int.sub_mul,Int.mul_sub];omega
 ·constructor
  ·show p * y - q * z + (q - p) * z = p * (y - z);rw[Int.sub_mul,Int.mul_sub];omega
  ·show p * y - q * z + (q - p) * y = q * (y - z);rw[Int.sub_mul,Int.mul_sub];omega
def XF (g:Sl aC) (s:straight):Prop:=∃ i,i < g.len/\iR s (g.get i).Z=(g.get i).High * s.den
theorem zau {g:Sl aC}{s:straight}(h:s∈cst g):lu g s\/XF g s:=by
 obtain⟨a,b,h1,h2,hz,p,q,hp,hq,rfl⟩:=XB h;have e:=(Vq (p:=p) (q:=q) hz).1;rcases hp with rfl | rfl
 ·exact .inl ⟨a,by omega,decide_eq_true e⟩
 ·exact .inr ⟨a,by omega,e⟩
theorem par {s t:straight}(h:s.bK * t.den=t.bK * s.den) (z:Int):iR s z * t.den - iR t z * s.den=s.start * t.den - t.start * s.den:=by
  unfold iR;rw[Int.add_mul,Int.add_mul];have e:s.bK * z * t.den=t.bK * z * s.den:=by
    calc s.bK * z * t.den = s.bK * t.den * z := by ac_rfl
      _=t.bK * z * s.den:=by rw[h];ac_rfl
  omega
theorem vW {g:Sl aC}{s:straight}(h:Bh g s){i:Nat}(hi:i < g.len):(g.get i).Low * s.den<=iR s (g.get i).Z/\iR s (g.get i).Z<=(g.get i).High * s.den:=of_decide_eq_true (h i hi)
theorem zqO {g:Sl aC}(G:dm g){s t:straight}(hs:CX g s) (ht:CX g t) (h:s.bK * t.den=t.bK * s.den) (hl:s.start * t.den < t.start * s.den) : ¬ lu g t/\¬ XF g s:=by
 have ps:0 < s.den:=by have:=(uh G hs).2.2;omega
 have pt:0 < t.den:=by have:=(uh G ht).2.2;omega
 constructor
 ·intro ⟨i, hi, e⟩;have e:iR t (g.get i).Z=(g.get i).Low * t.den:=of_decide_eq_true e;have a:=(vW hs.2 hi).1;have p:=par h (g.get i).Z;have a2:=Int.mul_le_mul_of_nonneg_right a (Int.le_of_lt pt);have:(g.get i).Low * s.den * t.den=iR t (g.get i).Z * s.den:=by rw[e];ac_rfl
  omega
 ·intro ⟨i, hi, e⟩;have a:=(vW ht.2 hi).2;have p:=par h (g.get i).Z;have a2:=Int.mul_le_mul_of_nonneg_right a (Int.le_of_lt ps);have:(g.get i).High * t.den * s.den=iR s (g.get i).Z * t.den:=by rw[e];ac_rfl
  omega
theorem Q8 {g:Sl aC}(G:dm g){s t:straight}(hs:CX g s) (ht:CX g t) (hf:lu g s↔lu g t) (h1 : ¬ zA (Hg s) (Hg t)) (h2 : ¬ zA (Hg t) (Hg s)):eQ s=eQ t:=by
 have ps:0 < s.den:=by have:=(uh G hs).2.2;omega
 have pt:0 < t.den:=by have:=(uh G ht).2.2;omega
 have h:s.bK * t.den=t.bK * s.den:=by
  have a : ¬ s.bK * t.den < t.bK * s.den:=h1;have b : ¬ t.bK * s.den < s.bK * t.den:=h2;omega
 have key:∀ {s t:straight},CX g s->CX g t->(lu g s↔lu g t)->s.bK * t.den=t.bK * s.den->¬ s.start * t.den < t.start * s.den:=fun {s t} hs ht hf h hl=>by
  obtain⟨a,b⟩:=zqO G hs ht h hl;rcases zau hs.1 with c | c
  ·exact a (hf.1 c)
  ·exact b c
 have e:s.start * t.den=t.start * s.den:=by
  have a:=key hs ht hf h;have b:=key ht hs hf.symm h.symm;omega
 unfold eQ;rw[(Vl ps pt).2 h,(Vl ps pt).2 e]
def Hl (g:Sl aC) (s t:straight):Prop:=(lu g s/\(lu g t->zA (Hg s) (Hg t)))\/(¬ lu g s/\¬ lu g t/\zA (Hg t) (Hg s))
theorem ND {a:aS} : ¬ zA a a:=by unfold zA;omega
theorem XG {a b:aS}(h:zA a b) : ¬ zA b a:=by unfold zA at *;omega
theorem XH {a b c:aS}(ha:0 < a.cO) (hb:0 < b.cO) (hc:0 < c.cO) (h1:zA a b) (h2:zA b c):zA a c:=by
 unfold zA at *;have y1:=Int.mul_lt_mul_of_pos_right h1 hc;have y2:=Int.mul_lt_mul_of_pos_right h2 ha;have z1:b.Num * a.cO * c.cO=b.Num * c.cO * a.cO:=by ac_rfl
 have z2:c.Num * b.cO * a.cO=c.Num * a.cO * b.cO:=by ac_rfl
 have z3:a.Num * b.cO * c.cO=a.Num * c.cO * b.cO:=by ac_rfl
 have:a.Num * c.cO * b.cO < c.Num * a.cO * b.cO:=by omega
 exact Int.lt_of_mul_lt_mul_right this (Int.le_of_lt hb)
theorem zkf {g:Sl aC}{s:straight} : ¬ Hl g s s:=λ h=>by
 rcases h with ⟨a,b⟩ | ⟨_,_,c⟩
 ·exact ND (b a)
 ·exact ND c
theorem zfd {g:Sl aC}{s t:straight}(h:Hl g s t) : ¬ Hl g t s:=λ k=>by
 rcases h with ⟨a,b⟩ | ⟨a,b,c⟩ <;> rcases k with ⟨x,y⟩ | ⟨x,y,z⟩
 ·exact XG (b x) (y a)
 ·exact y a
 ·exact b x
 ·exact XG c z
theorem zav {g:Sl aC}(G:dm g){s t u:straight}(hs:CX g s) (ht:CX g t) (hu:CX g u) (h:Hl g s t) (k:Hl g t u):Hl g s u:=by
 have ps:0 < (Hg s).cO:=by have:=(uh G hs).2.2;show 0 < s.den;omega
 have pt:0 < (Hg t).cO:=by have:=(uh G ht).2.2;show 0 < t.den;omega
 have pu:0 < (Hg u).cO:=by have:=(uh G hu).2.2;show 0 < u.den;omega
 rcases h with ⟨a,b⟩ | ⟨a,b,c⟩ <;> rcases k with ⟨x,y⟩ | ⟨x,y,z⟩
 ·exact .inl ⟨a,λ w=>XH ps pt pu (b x) (y w)⟩
 ·exact .inl ⟨a,λ w=>absurd w y⟩
 ·exact absurd x b
 ·exact .inr ⟨a,y,XH pu pt ps z c⟩
theorem zkg {g:Sl aC}(G:dm g){s t:straight}(hs:CX g s) (ht:CX g t) (hn:eQ s ≠ eQ t):Hl g s t\/Hl g t s:=by
 by_cases a:lu g s <;> by_cases b:lu g t
 ·by_cases c : zA (Hg s) (Hg t)
  ·exact .inl (.inl ⟨a,λ _=>c⟩)
  ·by_cases d : zA (Hg t) (Hg s)
   ·exact .inr (.inl ⟨b,λ _=>d⟩)
   ·exact absurd (Q8 G hs ht ⟨λ _=>b,λ _=>a⟩ c d) hn
 ·exact .inl (.inl ⟨a,λ w=>absurd w b⟩)
 ·exact .inr (.inl ⟨b,λ w=>absurd w a⟩)
 ·by_cases c : zA (Hg s) (Hg t)
  ·exact .inr (.inr ⟨b,a,c⟩)
  ·by_cases d : zA (Hg t) (Hg s)
   ·exact .inl (.inr ⟨a,b,d⟩)
   ·exact absurd (Q8 G hs ht ⟨λ w=>absurd w a,λ w=>absurd w b⟩ c d) hn
abbrev zkh (C:Int->ae Bool):Prop:=∀ x,C x=.ok false
theorem zKt {E:zal} : zkh (zjZ E):=λ x=>ae.ext λ k=>by rw[zJH,bn,show (x != x)=false by simp]
def mQ (a b:Int):Int:=cond (decide (a < b)) (-1) (cond (decide (a > b)) 1 0)
abbrev Vr (C:Int×Int->ae Int):Prop:=∀ a b,C (a,b)=.ok (mQ a b)
theorem zKu {E:Z9}(QH:zkh E.IU):Vr (zjJ E):=λ a b=>ae.ext λ k=>by
 rw[e208,QH,bn,QH,bn,bn];unfold mQ;cases decide (a < b) <;> cases decide (a > b) <;> rfl
def FOK (f:aS):Prop:=(-1000000000<=f.Num/\f.Num<=1000000000)/\0 < f.cO/\f.cO<=1000000000
def cmF (a b:aS):Int:=mQ (a.Num * b.cO) (b.Num * a.cO)
theorem zyp {a b:aS}(h1:FOK a) (h2:FOK b):aO (a.Num * b.cO)=a.Num * b.cO:=by
 have:=mO h1.1.1 h1.1.2 (Int.le_of_lt h2.2.1) h2.2.2;exact bg (by omega) (by omega)
abbrev zfe (C:aS×aS->ae Int):Prop:=∀ a b:aS,aO (a.Num * b.cO)=a.Num * b.cO->aO (b.Num * a.cO)=b.Num * a.cO->C (a,b)=.ok (cmF a b)
theorem zKw {E:ZN}(U5:Vr E.c208):zfe (zjh E):=λ a b h1 h2=>ae.ext λ k=>by
 rw[e170,U5,bn,bn,h1,h2];rfl
theorem zff {a b:aS} : cmF a b < 0↔zA a b:=by
 unfold cmF mQ zA;by_cases h:a.Num * b.cO < b.Num * a.cO
 ·rw[decide_eq_true h];simp[h]
 ·rw [decide_eq_false h];cases decide (a.Num * b.cO > b.Num * a.cO) <;> simp[h]
theorem zfg {a b:aS} : 0 - cmF a b < 0↔zA b a:=by
 unfold cmF mQ zA;by_cases h:a.Num * b.cO < b.Num * a.cO
 ·rw[decide_eq_true h];simp;omega
 ·rw [decide_eq_false h];by_cases h2:a.Num * b.cO > b.Num * a.cO
  ·rw[decide_eq_true h2];simp;omega
  ·rw[decide_eq_false h2];simp;omega
theorem zyq (a b:aS) : -1<=cmF a b/\cmF a b<=1:=by
 unfold cmF mQ;cases decide (a.Num * b.cO < b.Num * a.cO) <;> cases decide (a.Num * b.cO > b.Num * a.cO) <;> simp
theorem zfh {a b c d:Int}(hb:0 < b) (hd:0 < d):zA (red a b) (red c d)↔a * d < c * b:=by
 have a1:=mP (num:=a) hb;have a2:=lG (num:=a) hb;have c1:=mP (num:=c) hd;have c2:=lG (num:=c) hd;have hG:=jo (num:=a) hb;have hK:=jo (num:=c) hd;unfold zA;generalize (Int.gcd a b:Int)=G at a1 a2 hG;generalize (Int.gcd c d:Int)=K at c1 c2 hK;generalize (red a b).Num=p at a1 ⊢;generalize (red a b).cO=q at a2 ⊢;generalize (red c d).Num=u at c1 ⊢;generalize (red c d).cO=v at c2 ⊢;subst a1 a2 c1 c2;have e1:G * p * (K * v)=p * v * (G * K):=by ac_rfl
 have e2:K * u * (G * q)=u * q * (G * K):=by ac_rfl
 rw[e1,e2];have hp:=Int.mul_pos hG hK;exact⟨λ h=>Int.mul_lt_mul_of_pos_right h hp,λ h=>Int.lt_of_mul_lt_mul_right h (Int.le_of_lt hp)⟩
theorem DJ {a b:Int}(h1 : -1000000000<=a) (h2:a<=1000000000) (hb:0 < b) (hb2:b<=1000000000):FOK (red a b):=by
 have r1:=zx (num:=a) hb;have r2:=G9 (num:=a) hb;have r3:=kz (num:=a) hb;exact⟨by omega,by omega,by omega⟩
def ui (g:Sl aC) (s:straight):Bool:=!dR (λ j=>!QV s (g.get j)) g.len
def zfi (g:Sl aC) (s t:straight):Int:=cond (ui g s) (cond (ui g t) (cmF (red s.bK s.den) (red t.bK t.den)) (-1)) (cond (ui g t) 1 (aO (0 - cmF (red s.bK s.den) (red t.bK t.den))))
abbrev zqP (C:straight×straight×Pt set->ae Int):Prop:=∀ s t (P:Pt set),wS s->wS t->P.v.list.bI.len<=1000->C (s,t,P)=.ok (zfi P.v.list.bI s t)
theorem zKx {E:zao}(zj4:zqH E.zgl) (sH:Ha E.lC) (GM:zfe E.zJ):zqP (zj3 E):=λ s t P S T hl=>ae.ext λ k=>by
 have s1:=S.1;have s3:=S.2.2;have t1:=T.1;have t3:=T.2.2
 rw[e254,zj4 _ _ hl,bn,zj4 _ _ hl,bn,sH _ _ (by omega) (by omega) (by omega) (by omega),bn,sH _ _ (by omega) (by omega) (by omega) (by omega),bn,
  GM _ _ (zyp (DJ (by omega) (by omega) (by omega) (by omega)) (DJ (by omega) (by omega) (by omega) (by omega))) (zyp (DJ (by omega) (by omega) (by omega) (by omega)) (DJ (by omega) (by omega) (by omega) (by omega))),bn,bn]
 unfold zfi;show cond (ui P.v.list.bI s) (cond (ui P.v.list.bI t) _ (cond (ui P.v.list.bI s) _ (cond (ui P.v.list.bI t) _ _))) (cond (ui P.v.list.bI s) _ (cond (ui P.v.list.bI t) _ _))=_;cases ui P.v.list.bI s <;> cases ui P.v.list.bI t <;> rfl
theorem zki {g:Sl aC}(G:dm g){s t:straight}(hs:CX g s) (ht:CX g t):zfi g s t < 0↔Hl g s t:=by
 have S:=uh G hs;have T:=uh G ht;have a:=Q7 G S;have b:=Q7 G T;have ps:0 < s.den:=by have:=S.2.2;omega
 have pt:0 < t.den:=by have:=T.2.2;omega
 have e1:=(zff (a:=red s.bK s.den) (b:=red t.bK t.den)).trans (zfh ps pt);have e2:=(zfg (a:=red s.bK s.den) (b:=red t.bK t.den)).trans (zfh pt ps);have bb:=zyq (red s.bK s.den) (red t.bK t.den);have e3:zA (Hg s) (Hg t)↔s.bK * t.den < t.bK * s.den:=Iff.rfl;have e4:zA (Hg t) (Hg s)↔t.bK * s.den < s.bK * t.den:=Iff.rfl;unfold zfi Hl;rw[<- a,<- b,e3,e4,<- e1,<- e2,bg (by omega) (by omega)];show cond (ui g s) _ _ < 0↔(ui g s=true/\(ui g t=true->_))\/(¬ ui g s=true/\¬ ui g t=true/\_);cases ui g s <;> cases ui g t <;> simp
end Go.Proofs
namespace Go.Pm
section perm
variable {c:Nat->Nat->Int}
theorem vX (x : Nat) : ∀ l : List Nat, (KR c x l).Perm (x :: l)
  | []=>.refl _
  | y :: r=>by
    unfold KR;split
    · exact .refl _
    · exact ((vX x r).cons y).trans (.swap _ _ _)
theorem xK (n:Nat):(um n c).Perm (List.range n):=by
 unfold um;generalize List.range n=l
 induction l with
 | nil=>exact .refl _
 | cons x l ih=>exact (vX x _).trans (ih.cons x)
def leB (c:Nat->Nat->Int) (a b:Nat):Prop:=¬ c b a < 0
theorem XI {n : Nat} (H : STO n c) {x : Nat} (hx : x < n) : ∀ {l : List Nat}, (∀ y ∈ l, y < n) → l.Pairwise (leB c) → (KR c x l).Pairwise (leB c)
  | [],_,_=>by simp[KR]
  | y :: r,hl,hp=>by
    have hy:=hl y kR;rw[List.pairwise_cons] at hp;unfold KR;split
    · rename_i h;have h:=of_decide_eq_true h;rw[List.pairwise_cons];refine⟨λ z hz=>?_,List.pairwise_cons.2 hp⟩;have hxy:leB c x y:=λ h2=>by
        have:=H.1 x hx;have:=H.2.2 x y x hx hy hx h h2;omega
      rcases jf.1 hz with rfl | hz
      · exact hxy
      · intro h2;exact hp.1 z hz (H.2.2 z x y (hl z (je _ hz)) hx hy h2 h)
    · rename_i h;have h:=of_decide_eq_false h;rw[List.pairwise_cons];refine⟨λ z hz=>?_,XI H hx (λ z hz=>hl z (je _ hz)) hp.2⟩;rcases jf.1 ((vX x r).mem_iff.1 hz) with rfl | hz
      · exact h
      · exact hp.1 z hz
theorem Q9 {n:Nat}(H:STO n c):(um n c).Pairwise (leB c):=by
 have key:∀ l:List Nat,(∀ y∈l,y < n)->(l.foldr (KR c) []).Pairwise (leB c)/\∀ y∈l.foldr (KR c) [],y < n:=by
  intro l
  induction l with
  | nil=>intro _;exact⟨List.Pairwise.nil,λ y hy=>by simp at hy⟩
  | cons x l ih =>
   intro h;obtain⟨h1,h2⟩:=ih λ y hy=>h y (je _ hy);have hx:=h x kR;refine⟨XI H hx h2 h1,λ y hy=>?_⟩;rcases jf.1 ((vX x _).mem_iff.1 hy) with rfl | hy
   ·exact hx
   ·exact h2 y hy
 exact (key _ λ y hy=>List.mem_range.1 hy).1
theorem Vs {n:Nat}(H:STO n c){l:List Nat}(hp:l.Perm (List.range n)) (hs:l.Pairwise (leB c)):l=um n c:=by
 refine List.Perm.eq_of_pairwise (le:=leB c) (λ a b ha hb h1 h2=>?_) hs (Q9 H) (hp.trans (xK n).symm);have ha:=List.mem_range.1 (hp.mem_iff.1 ha);have hb:=List.mem_range.1 ((xK n).mem_iff.1 hb);by_cases e:a=b
 ·exact e
 ·rcases H.2.1 a b ha hb e with h | h
  ·exact absurd h.1 h2
  ·exact absurd h.1 h1
end perm
end Go.Pm
namespace Go.Proofs
open Go Go.Pm
set_option maxRecDepth 100000
theorem zmv {α : Type} [bG α] [qm α] {C : List PA → ae (List PA)} {caps : List PV} {ag : Bool} {w : Sl α} {cmp : α → α → Int} {R : α → α → Prop} (hn : w.len ≤ 1000000)
    (hc:∀ i j,i < w.len->j < w.len->Ea C caps ag (pR w) i j=some (cmp (w.get i) (w.get j))) (hR:∀ i j,i < w.len->j < w.len->(cmp (w.get i) (w.get j) < 0↔R (w.get i) (w.get j)))
    (irr:∀ i,i < w.len->¬ R (w.get i) (w.get i)) (tot:∀ i j,i < w.len->j < w.len->i ≠ j->R (w.get i) (w.get j)\/R (w.get j) (w.get i)) (asym:∀ i j,i < w.len->j < w.len->R (w.get i) (w.get j)->¬ R (w.get j) (w.get i))
    (tr:∀ i j k,i < w.len->j < w.len->k < w.len->R (w.get i) (w.get j)->R (w.get j) (w.get k)->R (w.get i) (w.get k)) :
    soP C caps ag w=true/\∃ l:List Nat,l.Perm (List.range w.len)/\l.Pairwise (λ i j=>R (w.get i) (w.get j))/\∀ i (h:i < l.length),soG C caps ag w i=w.get l[i]:=by
  have hv:∀ i j,i < w.len->j < w.len->(kT C caps ag (pR w) i j < 0↔R (w.get i) (w.get j)):=λ i j hi hj=>by
    unfold kT;rw[hc i j hi hj];exact hR i j hi hj
  have S1:zbG w.len (λ i j=>(Ea C caps ag (pR w) i j).isSome) (kT C caps ag (pR w))=true:=by
    simp only[zbG,List.all_eq_true,List.mem_range,fE,Bool.or_eq_true,decide_eq_true_eq,Bool.not_eq_true',Bool.and_eq_false_iff,decide_eq_false_iff_not];intro i hi;refine⟨by have : ¬ kT C caps ag (pR w) i i < 0:=λ h=>irr i hi ((hv i i hi hi).1 h);omega,λ j hj=>?_⟩;refine⟨⟨by rw[hc i j hi hj];rfl,?_⟩,λ k hk=>?_⟩
    · by_cases hij : i = j
      · exact .inl (.inl (by rw[hij];exact Nat.beq_refl j))
      · rcases tot i j hi hj hij with h | h
        · have : ¬ kT C caps ag (pR w) j i < 0 := fun k => asym i j hi hj h ((hv j i hj hi).1 k);exact .inl (.inr ⟨(hv i j hi hj).2 h,by omega⟩)
        · have : ¬ kT C caps ag (pR w) i j < 0 := fun k => asym j i hj hi h ((hv i j hi hj).1 k);exact .inr ⟨(hv j i hj hi).2 h,by omega⟩
    · by_cases h1 : kT C caps ag (pR w) i j < 0
      · by_cases h2 : kT C caps ag (pR w) j k < 0
        · exact .inr ((hv i k hi hk).2 (tr i j k hi hj hk ((hv i j hi hj).1 h1) ((hv j k hj hk).1 h2)))
        · exact .inl (.inr h2)
      · exact .inl (.inl h1)
  have hb:(znu w.len (λ i j=>(Ea C caps ag (pR w) i j).isSome) (kT C caps ag (pR w))).b=true:=by
    show (Nat.ble w.len 4611686018427387 && zbG w.len _ _)=true;rw[S1,Nat.ble_eq_true_of_le (by omega)];rfl
  have T:STO w.len (kT C caps ag (pR w)):=(CP.h _ hb).2.2;have pm:=xK (c:=kT C caps ag (pR w)) w.len;refine⟨hb,um w.len (kT C caps ag (pR w)),pm,?_,λ i h=>?_⟩
  · have nd : (um w.len (kT C caps ag (pR w))).Nodup := pm.nodup_iff.2 List.nodup_range;refine (List.Pairwise.and (Q9 T) nd).imp_of_mem ?_;intro a b ha hb hab;have ha:=List.mem_range.1 (pm.mem_iff.1 ha);have hb:=List.mem_range.1 (pm.mem_iff.1 hb);rcases tot a b ha hb hab.2 with h | h
    · exact h
    · exact absurd ((hv b a hb ha).2 h) hab.1
  · show (bG.dec (bG.enc (w.get ((um w.len (kT C caps ag (pR w))).getD i ((um w.len (kT C caps ag (pR w))).getD 0 0))))).1 = _;rw[qm.de,List.getD_eq_getElem?_getD,zL h];rfl
theorem ru (g:Sl aC){i:Nat}(h:i < (kE g).length):(gB g).cu.get i=(kE g)[i]:=by
 have:=wU (kE g) Cm i (kE g)[i] (zL h);rw[show (Cm:Sl straight).len+i=i by show 0+i=i;omega] at this;exact this
theorem zfj (g:Sl aC):∀ (r acc:List straight) (F:List Int->Option (List Int)),(Bg g r acc F).length<=acc.length+r.length:=by
 intro r
 induction r with
 | nil=>intro acc F;exact iZ _
 | cons y r ih =>
  intro acc F;have a:=ih (acc ++ [y]) (D7 (oZ (eQ y)) [1] F);have b:=ih acc F;rw[RY] at a;simp only[Oi,SE] at a ⊢;simp only[Bg];cases (CJ (F (oZ (eQ y))) 0 != 0) <;> cases allB g y <;> simp only[Bool.not_true,Bool.not_false,cond_true,cond_false] <;> omega
theorem NE {g:Sl aC}(G:dm g):(kE g).length<=2304:=by
 unfold kE;cases fV g with
 | true=>exact Nat.zero_le _
 | false =>
  have a:=zfj g (cst g) [] λ _=>none;have b:=Nz G;rw[cond_false];simp only[SE,Nat.zero_add] at a;omega
theorem XJ {g:Sl aC}(G:dm g){s:straight}(h:s∈kE g):CX g s:=by
 cases hf:fV g with
 | true=>unfold kE at h;rw[hf] at h;cases h
 | false =>
  obtain⟨a,b⟩:=(Vp hf).1 s h;exact⟨a,(Hf G (qc G a)).1 b⟩
abbrev zqQ (C:set->ae (Sl straight)):Prop:=∀ g,dm g->∃ D:Sl straight,C (gB g)=.ok D/\D.len=(kE g).length/\∀ i,i < D.len->wS (D.get i)
theorem zKz {E:zan}(zKA:zqP E.RV):zqQ (zj2 E):=λ g G=>by
  have hl:=NE G;have hG:=G.2.2;have len:=He g;have cr:∀ i,i < (gB g).cu.len->CX g ((gB g).cu.get i):=λ i hi=>by
    rw[ru g (by omega)];exact XJ G (List.getElem_mem _)
  have ne:∀ i j,i < (gB g).cu.len->j < (gB g).cu.len->i ≠ j->eQ ((gB g).cu.get i) ≠ eQ ((gB g).cu.get j):=λ i j hi hj hij e=>by
    rw[ru g (by omega),ru g (by omega)] at e;cases hf:fV g with
    | true =>
      have:kE g=[]:=by unfold kE;rw[hf];rfl
      rw[this] at len;simp at len;omega
    | false =>
      have P:=(Vp hf).2.2;rw[List.pairwise_iff_getElem] at P;rcases Nat.lt_or_ge i j with h | h
      · exact P i j (by omega) (by omega) h e
      · exact P j i (by omega) (by omega) (by omega) e.symm
  obtain ⟨hp, l, h1, _, h3⟩ := zmv (C := ae.un E.RV) (caps := bG.enc (⟨gB g⟩ : Pt set)) (ag := true) (w := (gB g).cu) (cmp := zfi g) (R := Hl g) (by omega)
    (λ i j hi hj=>by
      show (E.RV ((gB g).cu.get i,(gB g).cu.get j,(⟨gB g⟩:Pt set))).T _=_;rw[zKA _ _ _ (uh G (cr i hi)) (uh G (cr j hj)) (by show g.len<=1000;omega)];rfl)
    (λ i j hi hj=>zki G (cr i hi) (cr j hj)) (λ i hi=>zkf) (λ i j hi hj hij=>zkg G (cr i hi) (cr j hj) (ne i j hi hj hij)) (λ i j _ _ h=>zfd h)
    (λ i j k hi hj hk a b=>zav G (cr i hi) (cr j hj) (cr k hk) a b)
  have ll:l.length=(gB g).cu.len:=by rw[h1.length_eq,List.length_range]
  refine⟨⟨(gB g).cu.len,soG (ae.un E.RV) (bG.enc (⟨gB g⟩:Pt set)) true (gB g).cu⟩,ae.ext λ k=>?_,len,λ i hi=>?_⟩
  · rw[e249,hp,bn,show room (gB g).cu.len 24=true from decide_eq_true (by omega)];rfl
  · have hi : i < (gB g).cu.len := hi;show wS (soG _ _ _ _ i);rw[h3 i (by omega)];exact uh G (cr _ (List.mem_range.1 (h1.mem_iff.1 (List.getElem_mem _))))
def NF (g:Sl aC):Int:=(DI g false).2
abbrev zqR (C:Sl aC->ae (Sl Line×Int)):Prop:=∀ g:Sl aC,g.len<=1000->∃ L,C g=.ok (L,NF g)/\(NF g=0->0 < L.len)
theorem zKB {E:Vj}(N:Big E.N) (UF:zke E.c117) (zqy:zqQ E.zgk) (U3:zka E.c198):zqR (zeV E):=λ g hl=>by
 have e:∀ (A:Type) (k:Sl Line×Int->Option A),(zeV E g).T k=cond ((DI g false).2 != 0) (k (⟨0,λ _=>default⟩,(DI g false).2)) ((E.zgk (DI g false).1).T λ r2=>Bf E E.N r2 (r2.len:Int) 0 ⟨0,λ _=>⟨⟨0,0⟩,⟨0,0⟩⟩⟩ k):=λ A k=>by
  rw[e240,UF g (.inl ⟨(),()⟩) hl,bn];rfl
 unfold NF;by_cases h0:(DI g false).2=0
 ·have:sW g=true/\iF g=true/\fV g=false:=by
   unfold DI at h0;revert h0;cases sW g <;> cases iF g <;> cases fV g <;> simp
  obtain⟨hg,hs,hf⟩:=this;have G:=nC.1 hg;have e1:(DI g false).1=gB g:=by unfold DI;rw[hg,hs,hf];rfl
  obtain⟨D,d1,d2,d3⟩:=zqy g G;have dl:D.len<=2304:=by rw[d2];exact NE G
  have key:∃ L:Sl Line,L.len=D.len/\∀ (A:Type) (k:Sl Line×Int->Option A),Bf E E.N D (D.len:Int) 0 ⟨0,λ _=>⟨⟨0,0⟩,⟨0,0⟩⟩⟩ k=k (L,0):=by
   let acc:Nat->Sl Line:=λ n=>Nat.rec ⟨0,λ _=>⟨⟨0,0⟩,⟨0,0⟩⟩⟩ (λ i v=>qp v (eQ (D.get i))) n;have al:∀ n,(acc n).len=n:=λ n=>by
    induction n with
    | zero=>rfl
    | succ n ih=>show (acc n).len+1=n+1;rw[ih]
   refine⟨acc D.len,al _,λ A k=>?_⟩;refine jX (X:=λ n i=>Bf E n D (D.len:Int) (i:Int) (acc i) k) (m:=D.len) (λ n i hi=>?_) (λ n=>?_) _ (by have:=N;omega)
   ·rw[zeW,decide_eq_true (by omega),cond_true,bD (by omega),Int.toNat_natCast,U3 _ (d3 i hi),bn,bT (by omega),show room ((acc i).len+1) 32=true from decide_eq_true (by rw[al];omega)];rfl
   ·rw[zeW,decide_eq_false (by omega)];rfl
  obtain⟨L,l1,l2⟩:=key;refine⟨L,ae.ext λ k=>?_,λ _=>?_⟩
  ·rw[e,h0,e1,d1,bn,l2];rfl
  ·rw [l1, d2];unfold iF at hs;rw[hf,cond_false,decide_eq_true_eq] at hs;omega
 ·exact⟨_,ae.ext λ k=>by rw[e,show ((DI g false).2 != 0)=true by simpa using h0];rfl,λ h=>absurd h h0⟩
abbrev zqS (C:Sl aC->ae (Line×Int)):Prop:=∀ g:Sl aC,g.len<=1000->∃ l,C g=.ok (l,NF g)
theorem zKC {E:zaa}(zqp:zqR E.zlt):zqS (zjL E):=λ g hl=>by
 obtain⟨L,h1,h2⟩:=zqp g hl;by_cases h0:NF g=0
 ·exact⟨_,ae.ext λ k=>by rw[e211,h1,bn,h0];show bf (decide ((0:Int)<=0/\0 < (L.len:Int))) _=_;rw[bD ⟨Int.le_refl 0,by have:=h2 h0;omega⟩];rfl⟩
 ·exact⟨_,ae.ext λ k=>by rw[e211,h1,bn];show cond (NF g != 0) _ _=_;rw[show (NF g != 0)=true by simpa using h0];rfl⟩
theorem zqT {g:Sl aC}(G:dm g):(NF g != 5)=iF g:=by
 unfold NF DI;rw[nC.2 G];cases iF g <;> cases fV g <;> rfl
theorem zkj {g:Sl aC}(h:0 < g.len):fV g=dR (λ i=>(g.get (i+1)).Z == (g.get 0).Z) (g.len - 1):=by
 unfold fV;rw[Bool.eq_iff_iff,dG,dG];refine⟨λ a i hi=>a (i+1) (by omega),λ a i hi=>?_⟩;cases i with
 | zero=>simp
 | succ i=>exact a i (by omega)
abbrev zfk (C:Sl aC->ae Bool):Prop:=∀ g:Sl aC,0 < g.len->g.len<=1000->C g=.ok (fV g)
theorem zKD {E:UY}(N:Big E.N):zfk (zi0 E):=λ g h0 h1=>ae.ext λ k=>by
 rw[zG7,bn,zkj h0];have:=loopA (L:=λ n i=>xH E n g (i+1) k) (p:=λ i=>(g.get (i+1)).Z == (g.get 0).Z) (m:=g.len - 1) (fin:=k true) (stop:=k false) (by omega) (λ n i hi=>by
  show xH E (n+1) g ((i:Int)+1) k=cond _ (xH E n g (aO ((i:Int)+1)+1) k) _
  rw[zd3,decide_eq_true (by omega),cond_true,bD (by omega),bD (by omega),show ((i:Int)+1).toNat=i+1 by omega,show (i:Int)+1=((i+1:Nat):Int) by omega,bT (by omega),
   show aO ((i+1:Nat):Int)=((i+1:Nat):Int) from bg (by omega) (by omega)]
  rw[show ((i+1:Nat):Int)+1=((i+1+1:Nat):Int) by omega];cases h:(g.get (i+1)).Z == (g.get 0).Z <;> simp[bne,h]) (λ n=>by
  show xH E (n+1) g (((g.len - 1:Nat):Int)+1) k=_;rw[zd3,decide_eq_false (by omega)];rfl) E.N (by have:=N;omega)
 rw[show (1:Int)=0+1 from rfl];refine this.trans ?_;cases dR (λ i=>(g.get (i+1)).Z == (g.get 0).Z) (g.len - 1) <;> rfl
theorem Vt (g:Sl aC):fG g 1=⟨(g.get 0).Low,(g.get 0).High⟩:=by
 show (⟨_,_⟩:bZ)=_;simp only[fG,gt_iff_lt,Int.lt_irrefl,if_false]
abbrev zkk (C:Sl aC->ae (Int×Int×Bool)):Prop:=∀ g:Sl aC,0 < g.len->g.len<=1000->C g=.ok ((fG g g.len).Low,(fG g g.len).High,decide ((fG g g.len).Low<=(fG g g.len).High))
theorem zKE {E:Va}(N:Big E.N):zkk (zjy E):=λ g h0 h1=>ae.ext λ k=>by
 rw[zIz,bD (by omega),bD (by omega),bn];have:=jX (X:=λ n i=>Nq E n g (fG g (i+1)).Low (fG g (i+1)).High ((i+1:Nat):Int) k) (m:=g.len - 1) (fin:=k ((fG g g.len).Low,(fG g g.len).High,decide ((fG g g.len).Low<=(fG g g.len).High))) (λ n i hi=>by
  rw[zem,decide_eq_true (by omega),cond_true,bD (by omega),bD (by omega),bT (by omega),Int.toNat_natCast];rfl) (λ n=>by
  rw[zem,show g.len - 1+1=g.len by omega,decide_eq_false (by omega)];rfl) E.N (by have:=N;omega)
 rw[show (0+1:Nat)=1 from rfl,Vt] at this;exact this
def plN (l:Line) (z:Int):Int:=l.Start.Num * l.dM.cO+l.dM.Num * z * l.Start.cO
def Sz (l:Line):Int:=l.Start.cO * l.dM.cO
theorem XK {s:straight}(S:wS s):(-2000000<=(eQ s).dM.Num/\(eQ s).dM.Num<=2000000)/\(-200000000000<=(eQ s).Start.Num/\(eQ s).Start.Num<=200000000000)/\(0 < (eQ s).dM.cO/\(eQ s).dM.cO<=100000)/\0 < (eQ s).Start.cO/\(eQ s).Start.cO<=100000:=by
 have h1:=S.1;have h2:=S.2.1;have h3:=S.2.2;have p:0 < s.den:=by omega
 have a1:=zx (num:=s.bK) p;have a2:=G9 (num:=s.bK) p;have a3:=kz (num:=s.bK) p;have b1:=zx (num:=s.start) p;have b2:=G9 (num:=s.start) p;have b3:=kz (num:=s.start) p;show (_<=(red s.bK s.den).Num/\(red s.bK s.den).Num<=_)/\(_<=(red s.start s.den).Num/\(red s.start s.den).Num<=_)/\(_ < (red s.bK s.den).cO/\(red s.bK s.den).cO<=_)/\_ < (red s.start s.den).cO/\(red s.start s.den).cO<=_;omega
theorem zfl {s:straight}(S:wS s) (z:Int):iR s z * Sz (eQ s)=plN (eQ s) z * s.den:=by
  have p:0 < s.den:=by have:=S.2.2;omega
  have a1:=mP (num:=s.bK) p;have a2:=lG (num:=s.bK) p;have b1:=mP (num:=s.start) p;have b2:=lG (num:=s.start) p;unfold iR Sz plN;show (s.start+s.bK * z) * ((red s.start s.den).cO * (red s.bK s.den).cO)=((red s.start s.den).Num * (red s.bK s.den).cO+(red s.bK s.den).Num * z * (red s.start s.den).cO) * s.den;generalize (Int.gcd s.bK s.den:Int)=G at a1 a2;generalize (Int.gcd s.start s.den:Int)=K at b1 b2;generalize (red s.bK s.den).Num=x at a1 ⊢;generalize (red s.bK s.den).cO=q at a2 ⊢;generalize (red s.start s.den).Num=u at b1 ⊢;generalize (red s.start s.den).cO=v at b2 ⊢;rw[Int.add_mul,Int.add_mul];have e1:s.start * (v * q)=u * q * s.den:=by
    calc s.start * (v * q) = K * u * (v * q) := by rw [b1]
      _=u * q * (K * v):=by ac_rfl
      _=u * q * s.den:=by rw[b2]
  have e2:s.bK * z * (v * q)=x * z * v * s.den:=by
    calc s.bK * z * (v * q) = G * x * z * (v * q) := by rw [a1]
      _=x * z * v * (G * q):=by ac_rfl
      _=x * z * v * s.den:=by rw[a2]
  rw[e1,e2]
theorem XL {s:straight}(S:wS s):0 < Sz (eQ s):=by
 have:=XK S;exact Int.mul_pos this.2.2.2.1 this.2.2.1.1
theorem Rf {s:straight}(S:wS s) (z n:Int):(n * Sz (eQ s)<=plN (eQ s) z↔n * s.den<=iR s z)/\(plN (eQ s) z<=n * Sz (eQ s)↔iR s z<=n * s.den):=by
 have p:0 < s.den:=by have:=S.2.2;omega
 have d:=XL S;have c:=zfl S z;generalize Sz (eQ s)=D at c d ⊢;generalize plN (eQ s) z=M at c ⊢;generalize iR s z=X at c ⊢;have e:n * D * s.den=n * s.den * D:=by ac_rfl
 constructor
 ·constructor
  ·intro h;have:=Int.mul_le_mul_of_nonneg_right h (Int.le_of_lt p);refine Int.le_of_mul_le_mul_right (?_:n * s.den * D<=X * D) d;omega
  ·intro h;have:=Int.mul_le_mul_of_nonneg_right h (Int.le_of_lt d);refine Int.le_of_mul_le_mul_right (?_:n * D * s.den<=M * s.den) p;omega
 ·constructor
  ·intro h;have:=Int.mul_le_mul_of_nonneg_right h (Int.le_of_lt p);refine Int.le_of_mul_le_mul_right (?_:X * D<=n * s.den * D) d;omega
  ·intro h;have:=Int.mul_le_mul_of_nonneg_right h (Int.le_of_lt d);refine Int.le_of_mul_le_mul_right (?_:M * s.den<=n * D * s.den) p;omega
abbrev zkl (C:Line×Int->ae (Int×Int)):Prop:=∀ s z,wS s->-200000<=z/\z<=200000->C (eQ s,z)=.ok (plN (eQ s) z,Sz (eQ s))
theorem zKF {E:ZK} : zkl (zje E):=λ s z S hz=>ae.ext λ k=>by
 obtain⟨h1,h2,h3,h4⟩:=XK S;have m1:=mO h2.1 h2.2 (Int.le_of_lt h3.1) h3.2;have m2 : -400000000000<=(eQ s).dM.Num * z/\(eQ s).dM.Num * z<=400000000000:=by
  rcases Int.lt_or_le z 0 with h | h
  ·have := mO (y := -z) (Y := 200000) h1.1 h1.2 (by omega) (by omega);rw[Int.mul_neg] at this;omega
  ·have := mO (y := z) (Y := 200000) h1.1 h1.2 h (by omega);omega
 have m3:=mO m2.1 m2.2 (Int.le_of_lt h4.1) h4.2;have m4:=mO (x:=(eQ s).Start.cO) (X:=100000) (by omega) h4.2 (Int.le_of_lt h3.1) h3.2;rw[e166,bn,bg (x:=(eQ s).Start.Num * (eQ s).dM.cO) (by omega) (by omega),bg (x:=(eQ s).dM.Num * z) (by omega) (by omega),bg (x:=(eQ s).dM.Num * z * (eQ s).Start.cO) (by omega) (by omega),bg (by omega) (by omega),bg (by omega) (by omega)];rfl
abbrev zqU (C:Line×aC->ae Bool):Prop:=∀ s g,wS s->fF g->C (eQ s,g)=.ok (oG s g)
theorem zKG {E:Zn}(UH:zkl E.Oc):zqU (ziG E):=λ s g S G=>ae.ext λ k=>by
 obtain⟨h1,h2,h3,h4⟩:=XK S;have m4:=mO (x:=(eQ s).Start.cO) (X:=100000) (by omega) h4.2 (Int.le_of_lt h3.1) h3.2;have d:=XL S;have m5:Sz (eQ s)<=10000000000:=m4.2;have l1:=mO (mF G).1 (mF G).2 (Int.le_of_lt d) m5;have l2:=mO (oD G).1 (oD G).2 (Int.le_of_lt d) m5;rw[e116,UH s g.Z S (by have:=G.1;omega),bn,bn];show cond (decide (aO (g.Low * Sz (eQ s))<=plN (eQ s) g.Z)) (k (decide (plN (eQ s) g.Z<=aO (g.High * Sz (eQ s))))) (k false)=_;rw[bg (x:=g.Low * Sz (eQ s)) (by omega) (by omega),bg (x:=g.High * Sz (eQ s)) (by omega) (by omega),kc k];congr 1;unfold oG;have a:=(Rf S g.Z g.Low).1;have b:=(Rf S g.Z g.High).2;rw[Bool.eq_iff_iff,decide_eq_true_eq,<- a,<- b];by_cases h:g.Low * Sz (eQ s)<=plN (eQ s) g.Z <;> simp[h]
abbrev Q55 (C:Int×Int×Int×Int->ae Line):Prop:=∀ z p y q,(0<=z/\z<=100000)->(0<=y/\y<=100000)->(-1000000<=p/\p<=1000000)->(-1000000<=q/\q<=1000000)->z ≠ y->C (z,p,y,q)=.ok (eQ (zM z p y q))
theorem s55 {E:E55}(UB:Ha E.Ou):Q55 (F55 E):=λ z p y q hz hy hp hq hn=>ae.ext λ k=>by
 have b1:=mO hp.1 hp.2 hy.1 hy.2;have b2:=mO hq.1 hq.2 hz.1 hz.2;rw[e55,bn];unfold zM;by_cases h:z > y
 ·rw[decide_eq_true (show y < z from h),cond_true,if_pos h,zmi,bg (x:=q * z) (by omega) (by omega),bg (x:=p * y) (by omega) (by omega),bg (x:=p - q) (by omega) (by omega),bg (x:=z - y) (by omega) (by omega),bg (x:=q * z - p * y) (by omega) (by omega),
   UB _ _ (by omega) (by omega) (by omega) (by omega),bn,UB _ _ (by omega) (by omega) (by omega) (by omega),bn];rfl
 ·rw[decide_eq_false (show ¬ y < z from h),cond_false,if_neg h,zmi,bg (x:=p * y) (by omega) (by omega),bg (x:=q * z) (by omega) (by omega),bg (x:=q - p) (by omega) (by omega),bg (x:=y - z) (by omega) (by omega),bg (x:=p * y - q * z) (by omega) (by omega),
   UB _ _ (by omega) (by omega) (by omega) (by omega),bn,UB _ _ (by omega) (by omega) (by omega) (by omega),bn];rfl
abbrev zqV (C:aC×Int->ae Int):Prop:=∀ g e,C (g,e)=.ok (cond (e == 0) g.Low g.High)
theorem zKI {E:zam} : zqV (zj0 E):=λ g e=>ae.ext λ k=>by rw[e247,bn,kc k]
theorem zys {α:Type} [bG α] [qm α] (a b:α):Qi [a,b] 0=a:=by
 show (bG.dec (CE (shp 8) (bG.enc a) (bG.enc a))).1=a;rw[jO (pz 8) (bG.sm _ _),qm.de]
theorem zyt {α:Type} [bG α] [qm α] (a b:α):Qi [a,b] 1=b:=by
 show (bG.dec (CE (shp 8) (bG.enc a) (bG.enc b))).1=b;rw[jO (pz 8) (bG.sm _ _),qm.de]
theorem Rh {l:Sl aQ}{p:Int}(h:nS l p=true){i:Nat}(hi:i < l.len):(0<=(l.get i).dI.Low/\(l.get i).dI.Low<=(l.get i).dI.High/\(l.get i).dI.High<=aO (p.tdiv 2)) /\
  (i=0\/((l.get (i - 1)).Time < (l.get i).Time/\(l.get (i - 1)).dI.Low<=(l.get i).dI.Low)):=by
 simp only[nS,fE,dG] at h;have:=h.1 i hi;simp only[stB,inB,fE,Bool.or_eq_true,decide_eq_true_eq] at this;exact⟨⟨this.1.1.2.1,this.1.1.2.2,this.1.2⟩,this.2.imp id λ x=>⟨x.1.1,x.1.2⟩⟩
theorem NG {l : Sl aQ} {p : Int} (h : nS l p = true) : ∀ {j : Nat}, j < l.len → ∀ {i : Nat}, i < j → (l.get i).Time < (l.get j).Time ∧ (l.get i).dI.Low ≤ (l.get j).dI.Low
  | 0,_,_,hi=>absurd hi (by omega)
  | j+1,hj,i,hi=>by
    have:=(Rh h hj).2;rw[Nat.add_sub_cancel] at this;rcases this with h0 | ⟨a,b⟩
    · omega
    · by_cases e : i = j
      · rw[e];exact⟨a,b⟩
      · obtain ⟨c, d⟩ := NG h (j := j) (by omega) (i := i) (by omega);omega
theorem Ri (l : Sl aQ) (t : Int) : ∀ n, qP l t n = 0 ∨ ∃ i, i < n ∧ (l.get i).Time ≤ t ∧ qP l t n = (l.get i).dI.Low
  | 0=>.inl rfl
  | n+1=>by
    simp only[qP];by_cases h:(l.get n).Time<=t
    · rw[decide_eq_true h];exact .inr ⟨n,by omega,h,rfl⟩
    · rw [decide_eq_false h];rcases Ri l t n with e | ⟨i,a,b,c⟩
      · exact .inl e
      · exact .inr ⟨i,by omega,b,c⟩
theorem Rj (l : Sl aQ) (t z : Int) : ∀ d, d ≤ l.len → uY l t z d = z ∨ ∃ j, j < l.len ∧ t ≤ (l.get j).Time ∧ uY l t z d = (l.get j).dI.High
  | 0,_=>.inl rfl
  | d+1,hd=>by
    simp only[uY];by_cases h:(l.get (l.len - 1 - d)).Time >= t
    · rw[decide_eq_true h];exact .inr ⟨l.len - 1 - d,by omega,h,rfl⟩
    · rw [decide_eq_false h];exact Rj l t z d (by omega)
theorem zkm {p:af}(hp:Xj p) (h:nS p.aQ p.aZ=true){t:Int}(ht:0<=t/\t<=1000000):0<=(pX p t).1/\(pX p t).1<=(pX p t).2/\(pX p t).2<=p.aZ:=by
 obtain⟨_,_,_,_,hpi,_,_,_,_,hj,_⟩:=hp;have e1:aO (t - p.dH)=t - p.dH:=bg (by omega) (by omega);have e2:aO (t+p.dH)=t+p.dH:=bg (by omega) (by omega);have e4:0<=p.aZ.tdiv 2/\p.aZ.tdiv 2<=p.aZ:=by
  rw[Int.tdiv_eq_ediv_of_nonneg (by omega)];omega
 have e3:aO (p.aZ.tdiv 2)=p.aZ.tdiv 2:=bg (by omega) (by omega);have a:=Ri p.aQ (t - p.dH) p.aQ.len;have b:=Rj p.aQ (t+p.dH) (p.aZ.tdiv 2) p.aQ.len (iZ _);unfold pX;rw[e1,e2,e3];show 0<=qP _ _ _/\qP _ _ _<=uY _ _ _ _/\uY _ _ _ _<=_;rcases a with a | ⟨i,a1,a2,a3⟩ <;> rcases b with b | ⟨j,b1,b2,b3⟩
 ·rw[a,b];omega
 ·rw[a,b3];have:=(Rh h b1).1;rw[e3] at this;omega
 ·rw[a3,b];have:=(Rh h a1).1;rw[e3] at this;omega
 ·rw [a3, b3];have x:=(Rh h a1).1;have y:=(Rh h b1).1;rw[e3] at x y;by_cases e:i=j
  ·subst e;omega
  ·have hij:i < j:=by
    rcases Nat.lt_or_ge i j with h1 | h1
    ·exact h1
    ·have:=(NG h a1 (i:=j) (by omega)).1;omega
   have:=(NG h b1 hij).2;omega
theorem NH {p:af}(hp:Xj p){a b:Int}(h1:a<=b) (h2:p.First - p.aZ - p.dC<=a) (h3:b<=p.First+(p.bM+1) * p.aZ+p.dC):fF (gate p a b):=by
 obtain⟨_,_,hz,hf,hpi,hst,hsp,ho,_,_,_,hl,hr⟩:=hp;obtain⟨e1,e2,e3⟩:=zxt hf hpi hst hsp ho;obtain⟨q1,q2⟩:=vU (a:=p.bM+1) (b:=p.aZ) (by omega) (by omega);refine⟨hz,?_⟩;show _<=aO (a+p.bu.Low)/\aO (a+p.bu.Low)<=aO (b+p.bu.High)/\aO (b+p.bu.High)<=_;rw[bg (x:=a+p.bu.Low) (by omega) (by omega),bg (x:=b+p.bu.High) (by omega) (by omega)];omega
theorem zfm {p:af}{a b c d:Int}(h1:fF (gate p a b)) (h2:fF (gate p c d)) (h:(gate p a b).Low<=(gate p c d).High):fF ⟨p.Z,(gate p a b).Low,(gate p c d).High⟩ :=
 ⟨h1.1,h1.2.1,h,h2.2.2.2⟩
theorem zyu {b:Bool}{x y:Sl aC}(h1:∀ i,i < x.len->fF (x.get i)) (h2:∀ i,i < y.len->fF (y.get i)) {i:Nat}(hi:i < (cond b x y).len):fF ((cond b x y).get i):=by
 cases b
 ·exact h2 i hi
 ·exact h1 i hi
theorem zqW {p:af}(hp:Xj p) (hb:Zg p=true){h:bC}(hh:hpB p h=true){i:Nat}(hi:i < (gaP p h).len):fF ((gaP p h).get i):=by
 simp only[hpB,inB,fE,decide_eq_true_eq] at hh;obtain⟨⟨⟨⟨⟨hc,hm⟩,_⟩,_⟩,_⟩,hk⟩:=hh;obtain⟨hki,_,hz,hf,hpi,hst,hsp,ho,_,hj,_,hl,hr⟩:=hp;have hp':Xj p:=zxu hb;have q0:=vU (a:=h.Channel) (b:=p.aZ) (by omega) (by omega);have q1:=vU (a:=h.Channel+1) (b:=p.aZ) (by omega) (by omega);have q2:=vU (a:=h.Channel+h.iM - 1) (b:=p.aZ) (by omega) (by omega);have q3:=vU (a:=p.bM+1) (b:=p.aZ) (by omega) (by omega);have m0:h.Channel * p.aZ+p.aZ<=(p.bM+1) * p.aZ:=by
  have:=Int.mul_le_mul_of_nonneg_right (show h.Channel+1<=p.bM+1 by omega) (show 0<=p.aZ by omega);rw[Int.add_mul,Int.one_mul] at this;omega
 have m1:(h.Channel+1) * p.aZ<=(p.bM+1) * p.aZ:=Int.mul_le_mul_of_nonneg_right (by omega) (by omega);revert hi;unfold gaP;cases hk2:p.Kind != 2 with
 | true =>
  simp only[cond_true]
  rw[bg (x:=h.Channel+h.iM) (by omega) (by omega),bg (x:=h.Channel+h.iM - 1) (by omega) (by omega),bg (x:=(h.Channel+h.iM - 1) * p.aZ) (by omega) (by omega),bg (x:=p.First+(h.Channel+h.iM - 1) * p.aZ) (by omega) (by omega),bg (x:=p.First+(h.Channel+h.iM - 1) * p.aZ - p.dC) (by omega) (by omega),
   bg (x:=h.Channel+1) (by omega) (by omega),bg (x:=(h.Channel+1) * p.aZ) (by omega) (by omega),bg (x:=p.First+(h.Channel+1) * p.aZ) (by omega) (by omega),bg (x:=p.First+(h.Channel+1) * p.aZ+p.dC) (by omega) (by omega)]
  by_cases c:p.First+(h.Channel+h.iM - 1) * p.aZ - p.dC > p.First+(h.Channel+1) * p.aZ+p.dC
  ·rw[decide_eq_true c];intro hi;exact absurd hi (Si _)
  ·rw [decide_eq_false c];intro hi;exact NH hp' (by omega) (by omega) (by omega)
 | false =>
  have hk3:p.Kind=2:=by simpa using hk2
  have hd:0<=h.aQ/\h.aQ<=1000000:=by
   simp only[knB,hk3,beq_self_eq_true,cond_true,inB,fE,decide_eq_true_eq] at hk;exact hk.2
  have hs:nS p.aQ p.aZ=true:=by
   simp only[Zg,fE,hk3,beq_self_eq_true,cond_true] at hb;exact hb.1.1.2
  obtain⟨r1,r2,r3⟩:=zkm hp' hs hd;simp only[cond_false];generalize pX p h.aQ=R at r1 r2 r3 ⊢;rw[bg (x:=h.Channel * p.aZ) (by omega) (by omega),bg (x:=p.First+h.Channel * p.aZ) (by omega) (by omega),bg (x:=p.First+h.Channel * p.aZ - R.2) (by omega) (by omega),bg (x:=p.First+h.Channel * p.aZ - R.1) (by omega) (by omega),bg (x:=p.First+h.Channel * p.aZ+R.1) (by omega) (by omega),bg (x:=p.First+h.Channel * p.aZ+R.2) (by omega) (by omega)];have g1:fF (gate p (p.First+h.Channel * p.aZ - R.2) (p.First+h.Channel * p.aZ - R.1)):=NH hp' (by omega) (by omega) (by omega);have g2:fF (gate p (p.First+h.Channel * p.aZ+R.1) (p.First+h.Channel * p.aZ+R.2)):=NH hp' (by omega) (by omega) (by omega);have g3:(gate p (p.First+h.Channel * p.aZ - R.2) (p.First+h.Channel * p.aZ - R.1)).Low<=(gate p (p.First+h.Channel * p.aZ+R.1) (p.First+h.Channel * p.aZ+R.2)).High:=by
   show aO _<=aO _;rw[bg (by omega) (by omega),bg (by omega) (by omega)];omega
  intro hi;refine zyu (λ _ _=>zfm g1 g2 g3) (λ i hi=>?_) hi;have hi:i < 2:=hi;rcases (show i=0\/i=1 by omega) with e | e <;> subst e
  ·show fF (Qi _ 0);rw[zys];exact g1
  ·show fF (Qi _ 1);rw[zyt];exact g2
theorem zqX {s:au}(hs:dU s=true){h:bC}(hh:jY s h=true){i:Nat}(hi:i < (xP s h).len):fF ((xP s h).get i):=by
 have hp:=Gv hh;have h1:h.af.toNat < s.aj.len:=by omega
 simp only[jY,fE,decide_eq_true_eq] at hh;exact zqW (vV hs h1) (Gu hs h1) hh.2 hi
abbrev jc:=List (Int×Int)
section
variable (ag:jc->Bool) (us:jc->Int->Bool) (sd:Nat->jc)
def gr : Nat → jc → Nat → List jc
  | 0,_,_=>[]
  | f+1,c,i=>(sd i).flatMap λ p=>cond (us c p.1 || !ag (c ++ [p])) [] ((c ++ [p]) :: gr f (c ++ [p]) (p.1.toNat+1))
def NI : Nat → List jc → jc → Nat → List jc
  | 0,out,_,_=>out
  | f+1,out,c,i=>(sd i).foldl (λ out p=>cond (us c p.1 || (decide (2000 < out.length) || !ag (c ++ [p]))) out (NI f (out ++ [c ++ [p]]) (c ++ [p]) (p.1.toNat+1))) out
inductive Ch : jc → Nat → Prop
  | nil:Ch [] 0
  | snoc {c:jc} {i:Nat} {p:Int×Int} : Ch c i->p∈sd i->us c p.1=false->ag (c ++ [p])=true->Ch (c ++ [p]) (p.1.toNat+1)
end
section
variable {ag:jc->Bool}{us:jc->Int->Bool}{sd:Nat->jc}
theorem NJ : ∀ {f c i x}, x ∈ gr ag us sd f c i → ∃ p e, p ∈ sd i ∧ x = c ++ p :: e
  | f+1,c,i,x,h=>by
    simp only[gr,jE] at h;obtain⟨p,hp,h⟩:=h;cases hc:us c p.1 || !ag (c ++ [p]) with
    | true=>rw[hc] at h;cases h
    | false =>
      rw[hc] at h;rcases jf.1 h with h | h
      · exact⟨p,[],hp,h⟩
      · obtain ⟨q, e, _, h⟩ := NJ h;exact⟨p,q :: e,hp,by rw[h];simp⟩
theorem zmw : ∀ {f c i x}, Ch ag us sd c i → x ∈ gr ag us sd f c i → ∃ j, Ch ag us sd x j
  | f+1,c,i,x,hc,h=>by
    simp only[gr,jE] at h;obtain⟨p,hp,h⟩:=h;cases hu:us c p.1 || !ag (c ++ [p]) with
    | true=>rw[hu] at h;cases h
    | false =>
      rw[hu] at h;simp only[Bool.or_eq_false_iff,Bool.not_eq_false'] at hu;have hn:=Ch.snoc hc hp hu.1 hu.2;rcases jf.1 h with h | h
      · exact⟨_,h ▸ hn⟩
      · exact zmw hn h
theorem Hm (hs : ∀ i, (sd i).Nodup) : ∀ f c i, (gr ag us sd f c i).Nodup
  | 0,_,_=>List.Pairwise.nil
  | f+1,c,i=>by
    rw[gr];unfold List.Nodup;rw[List.pairwise_flatMap];have pre:∀ p,∀ x∈cond (us c p.1 || !ag (c ++ [p])) [] ((c ++ [p]) :: gr ag us sd f (c ++ [p]) (p.1.toNat+1)),∃ e,x=c ++ p :: e:=λ p x hx=>by
      cases hu:us c p.1 || !ag (c ++ [p]) with
      | true=>rw[hu] at hx;cases hx
      | false =>
        rw[hu] at hx;rcases jf.1 hx with h | h
        · exact⟨[],h⟩
        · obtain ⟨q, e, _, h⟩ := NJ h;exact⟨q :: e,by rw[h];simp⟩
    refine⟨λ p _=>?_,(hs i).imp_of_mem fun {p q} _ _ hpq x hx y hy e=>?_⟩
    · cases us c p.1 || !ag (c ++ [p]) with
      | true=>exact List.Pairwise.nil
      | false =>
        refine List.Pairwise.cons (λ y hy e=>?_) (Hm hs f _ _);obtain⟨q,r,_,h⟩:=NJ hy;rw[<- e] at h;have:=congrArg List.length h;simp at this
    · obtain ⟨a, ha⟩ := pre p x hx;obtain⟨b,hb⟩:=pre q y hy;rw[ha,hb] at e;have:=List.append_cancel_left e;rw[Bq] at this;exact hpq this.1
theorem zfn : ∀ {f out c i}, (out.length ≤ (NI ag us sd f out c i).length) ∧ ((NI ag us sd f out c i).length ≤ 2000 → NI ag us sd f out c i = out ++ gr ag us sd f c i)
  | 0,out,c,i=>⟨iZ _,λ _=>by simp[NI,gr]⟩
  | f+1,out,c,i=>by
    simp only[NI,gr];generalize sd i=l
    induction l generalizing out with
    | nil=>exact⟨iZ _,λ _=>by simp⟩
    | cons p l ih =>
      rw[List.foldl_cons,lJ];cases hu:us c p.1 || !ag (c ++ [p]) with
      | true =>
        have:(us c p.1 || (decide (2000 < out.length) || !ag (c ++ [p])))=true:=by
          revert hu;cases us c p.1 <;> cases ag (c ++ [p]) <;> simp
        rw[this];exact ih out
      | false =>
        have:(us c p.1 || (decide (2000 < out.length) || !ag (c ++ [p])))=decide (2000 < out.length):=by
          revert hu;cases us c p.1 <;> cases ag (c ++ [p]) <;> simp
        rw[this,cond_false];by_cases h:2000 < out.length
        · rw [decide_eq_true h];obtain⟨a,_⟩:=ih out;exact⟨a,λ h2=>by have:_<=2000:=h2;rw[cond_true] at this;omega⟩
        · rw [decide_eq_false h, cond_false];obtain⟨a,b⟩:=zfn (f:=f) (out:=out ++ [c ++ [p]]) (c:=c ++ [p]) (i:=p.1.toNat+1);obtain⟨a2,b2⟩:=ih (NI ag us sd f (out ++ [c ++ [p]]) (c ++ [p]) (p.1.toNat+1));rw[RY] at a;refine⟨by omega,λ h2=>?_⟩;rw[b2 h2,b (by omega)];simp
theorem XM : ∀ {f out c i x}, Ch ag us sd c i → x ∈ NI ag us sd f out c i → x ∈ out ∨ ∃ j, Ch ag us sd x j
  | 0,out,c,i,x,_,h=>.inl h
  | f+1,out,c,i,x,hc,h=>by
    simp only[NI] at h;have key:∀ (l:jc) (out:List jc),(∀ p∈l,p∈sd i)->x∈l.foldl (λ out p=>cond (us c p.1 || (decide (2000 < out.length) || !ag (c ++ [p]))) out (NI ag us sd f (out ++ [c ++ [p]]) (c ++ [p]) (p.1.toNat+1))) out->x∈out\/∃ j,Ch ag us sd x j:=by
      intro l
      induction l with
      | nil=>intro out _ h;exact .inl h
      | cons p l ih =>
        intro out hp h;rw[List.foldl_cons] at h;have ih:=ih _ (λ q hq=>hp q (je _ hq)) h;rcases ih with ih | ih
        · cases hu:us c p.1 || (decide (2000 < out.length) || !ag (c ++ [p])) with
          | true=>rw[hu] at ih;exact .inl ih
          | false =>
            rw[hu] at ih;simp only[Bool.or_eq_false_iff,Bool.not_eq_false'] at hu;have hn:=Ch.snoc hc (hp p kR) hu.1 hu.2.2;rcases XM hn ih with h | h
            · rcases dL.1 h with h | h
              · exact .inl h
              · rw[jM.1 h];exact .inr ⟨_,hn⟩
            · exact .inr h
        · exact .inr ih
    exact key _ _ (λ _ h=>h) h
end
theorem zqY {α : Type} {F : List α} (len : α → Nat) (sub : α → α → Prop) (refl : ∀ a, sub a a) (tr : ∀ a b c, sub a b → sub b c → sub a c) (B : Nat) (hB : ∀ a ∈ F, len a ≤ B) :
  ∀ a∈F,∃ m∈F,sub a m/\∀ x∈F,¬ (len m < len x/\sub m x):=by
 have key:∀ d a,a∈F->B - len a<=d->∃ m∈F,sub a m/\∀ x∈F,¬ (len m < len x/\sub m x):=by
  intro d
  induction d with
  | zero =>
   intro a ha hd;exact⟨a,ha,refl a,λ x hx h=>by have:=hB x hx;omega⟩
  | succ d ih =>
   intro a ha hd;by_cases h:∃ x∈F,len a < len x/\sub a x
   ·obtain ⟨x, hx, h1, h2⟩ := h;have:=hB x hx;obtain⟨m,hm,h3,h4⟩:=ih x hx (by omega);exact⟨m,hm,tr _ _ _ h2 h3,h4⟩
   ·exact⟨a,ha,refl a,λ x hx h2=>h ⟨x,hx,h2⟩⟩
 exact λ a ha=>key _ a ha (iZ _)
def gX (t:ai):jc:=(List.range t.Hits.len).map λ i=>(t.Hits.get i,t.bz.get i)
theorem mV (t:ai):(gX t).length=t.Hits.len:=by simp[gX]
theorem NL {t:ai}{i:Nat}(h:i < t.Hits.len):(gX t)[i]? = some (t.Hits.get i,t.bz.get i):=by
 simp[gX,List.getElem?_range h]
def Oq (x:Int) (t:ai):Prop:=t.View=x/\t.bz.len=t.Hits.len
def wV (l:Sl bC) (c:jc) (i:Int):Bool:=c.any λ q=>(l.get q.1.toNat).af == (l.get i.toNat).af
def IZ (s:au) (l:Sl bC) (x:Int) (i:Nat):jc:=sdL s l x (l.len - i) i
theorem zB {i : Int} {y : Int × Int} : ∀ {d k}, y ∈ Xl i d k ↔ y.1 = i ∧ (k : Int) ≤ y.2 ∧ y.2 < ((k + d : Nat) : Int)
  | 0,k=>by
    refine⟨λ h=>(by cases h),λ h=>?_⟩;omega
  | d+1,k=>by
    rw[Xl,jf,zB];constructor
    · rintro (h | h)
      · rw[h];show i=i/\(k:Int)<=(k:Int)/\(k:Int) < _;omega
      · omega
    · intro h;by_cases e:y.2=(k:Int)
      · exact .inl (Prod.ext h.1 e)
      · exact .inr (by omega)
theorem NM {s : au} {l : Sl bC} {x : Int} {y : Int × Int} : ∀ {d i}, y ∈ sdL s l x d i ↔ ((i : Int) ≤ y.1 ∧ y.1 < ((i + d : Nat) : Int)) ∧ Qr s l y.1.toNat = x ∧ 0 ≤ y.2 ∧ y.2 < (yR s l y.1.toNat : Int)
  | 0,i=>⟨λ h=>(by cases h),λ h=>by omega⟩
  | d+1,i=>by
    rw[sdL,dL,NM];constructor
    · rintro (h | h)
      · cases hv:Qr s l i == x with
        | false=>rw[hv] at h;cases h
        | true =>
          rw[hv,cond_true,zB] at h;rw[h.1,Int.toNat_natCast];exact⟨by omega,eq_of_beq hv,by omega,by omega⟩
      · exact⟨by omega,h.2⟩
    · rintro ⟨h1, h2, h3, h4⟩;by_cases e:y.1=(i:Int)
      · refine .inl ?_;rw[e,Int.toNat_natCast] at h2 h4;rw[beq_iff_eq.2 h2,cond_true,zB];exact⟨e,by omega,by omega⟩
      · exact .inr ⟨by omega,h2,h3,h4⟩
theorem XN {s:au}{l:Sl bC}{x:Int}{y:Int×Int}{i:Nat}(hi:i<=l.len):y∈IZ s l x i↔((i:Int)<=y.1/\y.1 < (l.len:Int))/\Qr s l y.1.toNat=x/\0<=y.2/\y.2 < (yR s l y.1.toNat:Int):=by
 unfold IZ;rw[NM,show i+(l.len - i)=l.len by omega]
theorem Rk {s:au}{l:Sl bC}{x:Int}{y:Int×Int}{i:Nat}(h:y∈IZ s l x i):i < l.len/\((i:Int)<=y.1/\y.1 < (l.len:Int))/\Qr s l y.1.toNat=x/\0<=y.2/\y.2 < (yR s l y.1.toNat:Int):=by
 by_cases hi:i<=l.len
 ·have:=(XN hi).1 h;exact⟨by omega,this⟩
 ·unfold IZ at h;rw[show l.len - i=0 by omega] at h;cases h
theorem KD (i : Int) : ∀ d k, (Xl i d k).Nodup
  | 0,_=>List.Pairwise.nil
  | d+1,k=>by
    rw[Xl];refine List.Pairwise.cons (λ y hy e=>?_) (KD i d (k+1));have:=zB.1 hy;rw[<- e] at this;have:=this.2.1;simp only at this;omega
theorem KE (s : au) (l : Sl bC) (x : Int) : ∀ d i, (sdL s l x d i).Nodup
  | 0,_=>List.Pairwise.nil
  | d+1,i=>by
    rw[sdL];unfold List.Nodup;rw[List.pairwise_append];refine⟨?_,KE s l x d (i+1),λ a ha b hb e=>?_⟩
    · cases Qr s l i == x
      · exact List.Pairwise.nil
      · exact KD _ _ _
    · have h1:a.1=(i:Int):=by
        cases hv:Qr s l i == x with
        | false=>rw[hv] at ha;cases ha
        | true=>rw[hv,cond_true] at ha;exact (zB.1 ha).1
      have:=(NM.1 hb).1;rw[<- e] at this;omega
structure Val (s : au) (l : Sl bC) (x : Int) (c : jc) (j : Nat) : Prop where
  le:c.length<=j/\j<=l.len
  mem:∀ p∈c,(0<=p.1/\p.1 < (j:Int))/\Qr s l p.1.toNat=x/\0<=p.2/\p.2 < (yR s l p.1.toNat:Int)
  pw:c.Pairwise λ p q=>p.1 < q.1/\(l.get p.1.toNat).af ≠ (l.get q.1.toNat).af
theorem Val.snoc {s:au}{l:Sl bC}{x:Int}{c:jc}{j:Nat}{p:Int×Int}(h:Val s l x c j) (hp:p∈IZ s l x j) (hu:wV l c p.1=false):Val s l x (c ++ [p]) (p.1.toNat+1):=by
 obtain⟨h1,h2,h3,h4⟩:=Rk hp;have hle:=h.le;refine⟨by rw[RY];simp only[Oi,SE];omega,λ q hq=>?_,?_⟩
 ·rcases dL.1 hq with hq | hq
  ·have := h.mem q hq;exact⟨by omega,this.2⟩
  ·rw[jM.1 hq];exact⟨by omega,h3,h4⟩
 ·rw [List.pairwise_append];refine⟨h.pw,List.pairwise_singleton _ _,λ a ha b hb=>?_⟩;rw[jM.1 hb];have:=(h.mem a ha).1;refine⟨by omega,λ e=>?_⟩;unfold wV at hu;rw[List.any_eq_false] at hu;exact hu a ha (by simpa using e)
theorem Vu {ag:jc->Bool}{s:au}{l:Sl bC}{x:Int}{c:jc}{j:Nat}(h:Ch ag (wV l) (IZ s l x) c j):Val s l x c j:=by
 induction h with
 | nil=>exact⟨⟨iZ _,Nat.zero_le _⟩,(λ p h=>by cases h),List.Pairwise.nil⟩
 | snoc _ hp hu _ ih=>exact ih.snoc hp hu
theorem vY {t:ai}{c:jc}(hc:gX t=c){i:Nat}(hi:i < t.Hits.len):c[i]? = some (t.Hits.get i,t.bz.get i):=by rw[<- hc];exact NL hi
theorem DK {s:au}{l:Sl bC}{x:Int}{t:ai}{c:jc}{j:Nat}(hx:vwB x=true) (ht:Oq x t) (hc:gX t=c) (h:Val s l x c j) (hn:c ≠ []):Zj s l t=true:=by
 have hlen:c.length=t.Hits.len:=by rw[<- hc,mV]
 have hle:=h.le;have pw:=List.pairwise_iff_getElem.1 h.pw;have ge:∀ i (hi:i < t.Hits.len) (hi':i < c.length),c[i]=(t.Hits.get i,t.bz.get i):=λ i hi hi'=>by
  have:=vY hc hi;rw[zL hi'] at this;exact Option.some.inj this
 simp only[Zj,fE,decide_eq_true_eq,dG];refine⟨⟨⟨by rw[ht.1];exact hx,?_⟩,ht.2⟩,λ i hi=>?_⟩
 ·rcases Nat.eq_zero_or_pos t.Hits.len with h0 | h0
  ·rw[h0] at hlen;exact absurd (List.length_eq_zero_iff.1 hlen) hn
  ·exact h0
 ·have hi' : i < c.length := by omega
  have m:=h.mem c[i] (List.getElem_mem _);rw[ge i hi hi'] at m;simp only[chP,fE,Bool.or_eq_true,decide_eq_true_eq,inB,usB,dG,Bool.not_eq_true',decide_eq_false_iff_not];refine⟨⟨⟨⟨by simp only at m;omega,?_⟩,by rw[ht.1];exact m.2.1⟩,?_⟩,λ k hk=>?_⟩
  ·rcases Nat.eq_zero_or_pos i with h0 | h0
   ·exact .inl h0
   ·refine .inr ?_;have:=(pw (i - 1) i (by omega) hi' (by omega)).1;rw[ge i hi hi',ge (i - 1) (by omega) (by omega)] at this;exact this
  ·have := m.2.2;show 0<=t.bz.get i/\t.bz.get i<=((yR s l (t.Hits.get i).toNat:Nat):Int) - 1;simp only at this;omega
  ·have := (pw k i (by omega) hi' hk).2;rw[ge i hi hi',ge k (by omega) (by omega)] at this;exact this
def zN (s:au) (l:Sl bC) (c:jc):Sl aC:=gw z0 (λ i=>(xP s (l.get ((c[i]?).getD (0,0)).1.toNat)).get ((c[i]?).getD (0,0)).2.toNat) c.length
theorem NP {s:au}{l:Sl bC}{t:ai}{c:jc}(hc:gX t=c):gtS s l t=zN s l c:=by
 unfold gtS zN;rw[<- hc,mV];exact Gx λ i hi=>by rw[NL hi];rfl
theorem NQ {s:au}{l:Sl bC}{x:Int}{c:jc}{j:Nat}(he:Evt s l) (hl:l.len<=24) (h:Val s l x c j) (hn:c ≠ []):dm (zN s l c):=by
 have e:(zN s l c).len=c.length:=Gw _ _ _;have hle:=h.le;refine⟨λ i hi=>?_,by
  rw[e];rcases Nat.eq_zero_or_pos c.length with h0 | h0
  ·exact absurd (List.length_eq_zero_iff.1 h0) hn
  ·exact h0,by omega⟩
 rw[e] at hi;show fF ((gw z0 _ c.length).get i);rw[Uz hi,zL hi];have m:=h.mem c[i] (List.getElem_mem _);have m2:=m.2.2;show fF ((xP s (l.get (c[i]).1.toNat)).get (c[i]).2.toNat);refine zqX he.se (dG.1 he.hi _ (by omega)) ?_;show _ < yR s l (c[i]).1.toNat;omega
def zmx (g:Sl aC):Prop:=∀ k,k < g.len->(g.get k).Z=(g.get 0).Z
theorem Ho {g : Sl aC} {i b : Nat} {x : straight} (hx : x ∈ xJ (g.get i) (g.get b)) : ∀ m k, k ≤ b → b < k + m → x ∈ zy g i m k
  | 0,k,h1,h2=>by omega
  | m+1,k,h1,h2=>by
    show x∈xJ (g.get i) (g.get k) ++ zy g i m (k+1);by_cases h:k=b
    · rw[h];exact List.mem_append_left _ hx
    · exact List.mem_append_right _ (Ho hx m (k+1) (by omega) (by omega))
theorem Hq {g : Sl aC} {a : Nat} {x : straight} (hx : x ∈ zy g a (g.len - (a + 1)) (a + 1)) : ∀ m i, i ≤ a → a < i + m → x ∈ Jk g m i
  | 0,i,h1,h2=>by omega
  | m+1,i,h1,h2=>by
    show x∈zy g i (g.len - (i+1)) (i+1) ++ Jk g m (i+1);by_cases h:i=a
    · rw[h];exact List.mem_append_left _ hx
    · exact List.mem_append_right _ (Hq hx m (i+1) (by omega) (by omega))
theorem zfo {z p y q:Int}(h:z ≠ y):zM z p y q=zM y q z p:=by
 unfold zM;by_cases h1:z > y
 ·rw[if_pos h1,if_neg (show ¬ y > z by omega)]
 ·rw[if_neg h1,if_pos (show y > z by omega)]
theorem zyv {g:Sl aC}{a b:Nat}(ha:a < g.len) (hb:b < g.len) (hz:(g.get a).Z ≠ (g.get b).Z){p q:Int}(hp:p=(g.get a).Low\/p=(g.get a).High) (hq:q=(g.get b).Low\/q=(g.get b).High):zM (g.get a).Z p (g.get b).Z q∈cst g:=by
 have key:∀ {a b:Nat} {p q:Int},a < b->b < g.len->(g.get a).Z ≠ (g.get b).Z->(p=(g.get a).Low\/p=(g.get a).High)->(q=(g.get b).Low\/q=(g.get b).High)->zM (g.get a).Z p (g.get b).Z q∈cst g:=fun {a b p q} h1 h2 hz hp hq=>by
  refine Hq (Ho ?_ _ _ h1 (by omega)) _ 0 (Nat.zero_le _) (by omega);unfold xJ;rw[if_neg hz];rcases hp with rfl | rfl <;> rcases hq with rfl | rfl <;> simp
 rcases Nat.lt_or_ge a b with h | h
 ·exact key h hb hz hp hq
 ·have : a ≠ b := fun e => hz (by rw [e]);rw[zfo hz];exact key (by omega) ha (Ne.symm hz) hq hp
theorem zC {Q : Nat → Prop} {le : Nat → Nat → Prop} (tot : ∀ i j, Q i → Q j → le i j ∨ le j i) (tr : ∀ i j k, Q i → Q j → Q k → le i j → le j k → le i k) : ∀ n, (∃ k, k < n ∧ Q k) → ∃ k, k < n ∧ Q k ∧ ∀ j, j < n → Q j → le j k
  | 0,⟨k,h,_⟩=>absurd h (Si k)
  | n+1,hex=>by
    by_cases h:∃ k,k < n/\Q k
    · obtain ⟨k, hk, qk, hm⟩ := zC tot tr n h;by_cases qn:Q n
      · rcases tot n k qn qk with h1 | h1
        · exact⟨k,by omega,qk,λ j hj qj=>by
            by_cases e:j=n
            · rw[e];exact h1
            · exact hm j (by omega) qj⟩
        · exact⟨n,by omega,qn,λ j hj qj=>by
            by_cases e:j=n
            · rw[e];rcases tot n n qn qn with h2 | h2 <;> exact h2
            · exact tr j k n qj qk qn (hm j (by omega) qj) h1⟩
      · exact⟨k,by omega,qk,λ j hj qj=>hm j (by
          have:j ≠ n:=λ e=>qn (e ▸ qj);omega) qj⟩
    · obtain ⟨k, hk, qk⟩ := hex;have e:k=n:=by
        rcases Nat.lt_or_ge k n with h1 | h1
        · exact absurd ⟨k,h1,qk⟩ h
        · omega
      subst e;exact⟨k,by omega,qk,λ j hj qj=>by
        by_cases e:j=k
        · rw[e];rcases tot k k qk qk with h2 | h2 <;> exact h2
        · exact absurd ⟨j,by omega,qj⟩ h⟩
def Rl (a b:straight):Prop:=a.bK * b.den<=b.bK * a.den
theorem NR {a b c:straight}(ha:0 < a.den) (hb:0 < b.den) (hc:0 < c.den) (h1:Rl a b) (h2:Rl b c):Rl a c:=by
 unfold Rl at *;have y1:=Int.mul_le_mul_of_nonneg_right h1 (Int.le_of_lt hc);have y2:=Int.mul_le_mul_of_nonneg_right h2 (Int.le_of_lt ha);refine Int.le_of_mul_le_mul_right (a:=b.den) ?_ hb
 grind
def lcS (g:Sl aC) (i:Nat) (p:Int) (k:Nat):straight:=zM (g.get i).Z p (g.get k).Z (if (g.get k).Z > (g.get i).Z then (g.get k).Low else (g.get k).High)
def ucS (g:Sl aC) (i:Nat) (p:Int) (k:Nat):straight:=zM (g.get i).Z p (g.get k).Z (if (g.get k).Z > (g.get i).Z then (g.get k).High else (g.get k).Low)
theorem Hr {g:Sl aC}{i k:Nat}{p:Int}{c:straight}(he:iR c (g.get i).Z=p * c.den) (hz:(g.get k).Z ≠ (g.get i).Z):oG c (g.get k)=true↔Rl (lcS g i p k) c/\Rl c (ucS g i p k):=by
 unfold oG Rl lcS ucS zM;rw[decide_eq_true_eq];unfold iR at *;by_cases h:(g.get k).Z > (g.get i).Z
 ·simp only [if_pos h, if_neg (show ¬ (g.get i).Z > (g.get k).Z by omega)];constructor
  ·intro ⟨h1,h2⟩;constructor <;> grind
  ·intro ⟨h1,h2⟩;constructor <;> grind
 ·simp only [if_neg h, if_pos (show (g.get i).Z > (g.get k).Z by omega)];constructor
  ·intro ⟨h1,h2⟩;constructor <;> grind
  ·intro ⟨h1,h2⟩;constructor <;> grind
theorem XO {z p y q:Int}(h:z ≠ y):0 < (zM z p y q).den:=by
 unfold zM;by_cases h1:z > y
 ·rw[if_pos h1];show 0 < z - y;omega
 ·rw[if_neg h1];show 0 < y - z;omega
theorem KG {g:Sl aC}{i k:Nat}{p:Int}{s c:straight}(ps:0 < s.den) (pc:0 < c.den) (he:iR s (g.get i).Z=p * s.den) (hc:iR c (g.get i).Z=p * c.den) (hz:(g.get k).Z=(g.get i).Z) (h:oG s (g.get k)=true):oG c (g.get k)=true:=by
 unfold oG at *;rw[decide_eq_true_eq] at *;rw[hz,he] at h;rw[hz,hc];exact⟨Int.mul_le_mul_of_nonneg_right (Int.le_of_mul_le_mul_right h.1 ps) (Int.le_of_lt pc),Int.mul_le_mul_of_nonneg_right (Int.le_of_mul_le_mul_right h.2 ps) (Int.le_of_lt pc)⟩
theorem rot {g : Sl aC} {s : straight} (hd : 0 < s.den) (ha : Bh g s) {i : Nat} (hi : i < g.len) {p : Int} (hp : p = (g.get i).Low ∨ p = (g.get i).High) (he : iR s (g.get i).Z = p * s.den) (hn : ∃ k, k < g.len ∧ (g.get k).Z ≠ (g.get i).Z) :
  (∃ c,CX g c/\0 < c.den/\iR c (g.get i).Z=p * c.den/\Rl c s)/\∃ c,CX g c/\0 < c.den/\iR c (g.get i).Z=p * c.den/\Rl s c:=by
 have ld:∀ k,(g.get k).Z ≠ (g.get i).Z->0 < (lcS g i p k).den:=λ k h=>XO (Ne.symm h);have ud:∀ k,(g.get k).Z ≠ (g.get i).Z->0 < (ucS g i p k).den:=λ k h=>XO (Ne.symm h);have le1:∀ k,(g.get k).Z ≠ (g.get i).Z->iR (lcS g i p k) (g.get i).Z=p * (lcS g i p k).den:=λ k h=>(Vq (Ne.symm h)).1;have ue1:∀ k,(g.get k).Z ≠ (g.get i).Z->iR (ucS g i p k) (g.get i).Z=p * (ucS g i p k).den:=λ k h=>(Vq (Ne.symm h)).1;have sp:∀ k,k < g.len->(g.get k).Z ≠ (g.get i).Z->Rl (lcS g i p k) s/\Rl s (ucS g i p k):=λ k hk hz=>(Hr he hz).1 (ha k hk);constructor
 ·obtain ⟨k, hk, qk, hm⟩ := zC (Q := fun k => (g.get k).Z ≠ (g.get i).Z) (le := fun a b => Rl (lcS g i p a) (lcS g i p b)) (fun a b _ _ => Int.le_total _ _) (fun a b c ha hb hc h1 h2 => NR (ld a ha) (ld b hb) (ld c hc) h1 h2) g.len hn;refine⟨lcS g i p k,⟨zyv hi hk (Ne.symm qk) hp (by split <;> simp),λ j hj=>?_⟩,ld k qk,le1 k qk,(sp k hk qk).1⟩;by_cases hz:(g.get j).Z=(g.get i).Z
  ·exact KG hd (ld k qk) he (le1 k qk) hz (ha j hj)
  ·exact (Hr (le1 k qk) hz).2 ⟨hm j hj hz,NR (ld k qk) hd (ud j hz) (sp k hk qk).1 (sp j hj hz).2⟩
 ·obtain ⟨k, hk, qk, hm⟩ := zC (Q := fun k => (g.get k).Z ≠ (g.get i).Z) (le := fun a b => Rl (ucS g i p b) (ucS g i p a)) (fun a b _ _ => Int.le_total _ _) (fun a b c ha hb hc h1 h2 => NR (ud c hc) (ud b hb) (ud a ha) h2 h1) g.len hn;refine⟨ucS g i p k,⟨zyv hi hk (Ne.symm qk) hp (by split <;> simp),λ j hj=>?_⟩,ud k qk,ue1 k qk,(sp k hk qk).2⟩;by_cases hz:(g.get j).Z=(g.get i).Z
  ·exact KG hd (ud k qk) he (ue1 k qk) hz (ha j hj)
  ·exact (Hr (ue1 k qk) hz).2 ⟨NR (ld j hz) hd (ud k qk) (sp j hj hz).1 (sp k hk qk).2,hm j hj hz⟩
theorem zqZ {g:Sl aC}(hl:1<=g.len){s:straight}(ha:Bh g s):∃ d,0<=d/\Bh g ⟨s.bK,s.start - d,s.den⟩/\∃ i,i < g.len/\iR ⟨s.bK,s.start - d,s.den⟩ (g.get i).Z=(g.get i).Low * s.den:=by
 obtain⟨k,hk,_,hm⟩:=zC (Q:=λ _=>True) (le:=λ a b=>iR s (g.get b).Z - (g.get b).Low * s.den<=iR s (g.get a).Z - (g.get a).Low * s.den) (λ a b _ _=>Int.le_total _ _) (λ a b c _ _ _ h1 h2=>Int.le_trans h2 h1) g.len ⟨0,hl,trivial⟩;have hk2:=vW ha hk;refine⟨iR s (g.get k).Z - (g.get k).Low * s.den,by omega,λ j hj=>decide_eq_true ?_,k,hk,by unfold iR;simp only;omega⟩;have h1:=hm j hj trivial;have h2:=vW ha hj;unfold iR at *;simp only;omega
theorem zq0 {g:Sl aC}(hl:1<=g.len){s:straight}(ha:Bh g s):∃ d,0<=d/\Bh g ⟨s.bK,s.start+d,s.den⟩/\∃ i,i < g.len/\iR ⟨s.bK,s.start+d,s.den⟩ (g.get i).Z=(g.get i).High * s.den:=by
 obtain⟨k,hk,_,hm⟩:=zC (Q:=λ _=>True) (le:=λ a b=>(g.get b).High * s.den - iR s (g.get b).Z<=(g.get a).High * s.den - iR s (g.get a).Z) (λ a b _ _=>Int.le_total _ _) (λ a b c _ _ _ h1 h2=>Int.le_trans h2 h1) g.len ⟨0,hl,trivial⟩;have hk2:=vW ha hk;refine⟨(g.get k).High * s.den - iR s (g.get k).Z,by omega,λ j hj=>decide_eq_true ?_,k,hk,by unfold iR;simp only;omega⟩;have h1:=hm j hj trivial;have h2:=vW ha hj;unfold iR at *;simp only;omega
theorem Rn {g:Sl aC}(nf : ¬ zmx g) (i:Nat) (hi:i < g.len):∃ k,k < g.len/\(g.get k).Z ≠ (g.get i).Z:=by
 by_cases h:∃ k,k < g.len/\(g.get k).Z ≠ (g.get i).Z
 ·exact h
 ·have all : ∀ k, k < g.len → (g.get k).Z = (g.get i).Z := fun k hk => Classical.byContradiction fun e => h ⟨k, hk, e⟩;exact absurd (λ k hk=>(all k hk).trans (all 0 (by omega)).symm) nf
theorem XP {a b:straight}{z p h:Int}(ha:iR a z=p * a.den) (hb:iR b z=p * b.den) (hs:Rl a b) (hh:z<=h):iR a h * b.den<=iR b h * a.den:=by
 have y:=Int.mul_le_mul_of_nonneg_right hs (show 0<=h - z by omega);unfold iR at *;have e1:a.start=p * a.den - a.bK * z:=by omega
 have e2:b.start=p * b.den - b.bK * z:=by omega
 rw[e1,e2];clear ha hb hs e1 e2
 grind
theorem XQ {a b:straight}{z p h:Int}(ha:iR a z=p * a.den) (hb:iR b z=p * b.den) (hs:Rl a b) (hh:h<=z):iR b h * a.den<=iR a h * b.den:=by
 have y:=Int.mul_le_mul_of_nonneg_right hs (show 0<=z - h by omega);unfold iR at *;have e1:a.start=p * a.den - a.bK * z:=by omega
 have e2:b.start=p * b.den - b.bK * z:=by omega
 rw[e1,e2];clear ha hb hs e1 e2
 grind
theorem lp {g : Sl aC} (hl : 1 ≤ g.len) (nf : ¬ zmx g) {s : straight} (hd : 0 < s.den) (ha : Bh g s) :
  (∀ h,(∃ c,CX g c/\iR c h * s.den<=iR s h * c.den)/\∃ c,CX g c/\iR s h * c.den<=iR c h * s.den)/\(∃ c,CX g c/\Rl c s)/\∃ c,CX g c/\Rl s c:=by
 obtain⟨d,d0,da,i,hi,di⟩:=zqZ hl ha;obtain⟨e,e0,ea,j,hj,ej⟩:=zq0 hl ha;obtain⟨⟨c1,c1c,c1d,c1p,c1s⟩,⟨c2,c2c,c2d,c2p,c2s⟩⟩:=rot (s:=⟨s.bK,s.start - d,s.den⟩) hd da hi (.inl rfl) di (Rn nf i hi);obtain⟨⟨f1,f1c,f1d,f1p,f1s⟩,⟨f2,f2c,f2d,f2p,f2s⟩⟩:=rot (s:=⟨s.bK,s.start+e,s.den⟩) hd ea hj (.inr rfl) ej (Rn nf j hj);have lo:∀ {c:straight} {h:Int},0 < c.den->iR c h * s.den<=iR ⟨s.bK,s.start - d,s.den⟩ h * c.den->iR c h * s.den<=iR s h * c.den:=fun {c h} pc k=>by
  have:=Int.mul_nonneg d0 (Int.le_of_lt pc);unfold iR at *;simp only at k
  grind
 have hi':∀ {c:straight} {h:Int},0 < c.den->iR ⟨s.bK,s.start+e,s.den⟩ h * c.den<=iR c h * s.den->iR s h * c.den<=iR c h * s.den:=fun {c h} pc k=>by
  have:=Int.mul_nonneg e0 (Int.le_of_lt pc);unfold iR at *;simp only at k
  grind
 refine⟨λ h=>⟨?_,?_⟩,⟨c1,c1c,c1s⟩,⟨c2,c2c,c2s⟩⟩
 ·rcases Int.le_total (g.get i).Z h with k | k
  ·exact⟨c1,c1c,lo c1d (XP (b:=⟨s.bK,s.start - d,s.den⟩) c1p di c1s k)⟩
  ·exact⟨c2,c2c,lo c2d (XQ (a:=⟨s.bK,s.start - d,s.den⟩) di c2p c2s k)⟩
 ·rcases Int.le_total (g.get j).Z h with k | k
  ·exact⟨f2,f2c,hi' f2d (XP (a:=⟨s.bK,s.start+e,s.den⟩) ej f2p f2s k)⟩
  ·exact⟨f1,f1c,hi' f1d (XQ (b:=⟨s.bK,s.start+e,s.den⟩) f1p ej f1s k)⟩
def tq (lt : aS → aS → Bool) (f : Nat → aS) : Nat → aS
  | 0=>f 0
  | n+1=>cond (lt (f n) (tq lt f n)) (f n) (tq lt f n)
theorem Vw {lt : aS → aS → Bool} {Q : aS → Prop} {f : Nat → aS} (irr : ∀ a, Q a → lt a a = false) (tr : ∀ a b c, Q a → Q b → Q c → lt a b = true → lt b c = true → lt a c = true) :
  ∀ n,(∀ i,i < n+1->Q (f i))->(∃ i,i < n+1/\tq lt f (n+1)=f i)/\∀ j,j < n+1->lt (f j) (tq lt f (n+1))=false
 | 0,hq=>by
  have e:tq lt f 1=f 0:=by simp only[tq];cases lt (f 0) (f 0) <;> rfl
  rw[e];exact⟨⟨0,by omega,rfl⟩,λ j hj=>by rw[show j=0 by omega];exact irr _ (hq 0 (by omega))⟩
 | n+1,hq=>by
  obtain⟨⟨i,hi,e⟩,h⟩:=Vw irr tr n λ i hi=>hq i (by omega);have qe:Q (tq lt f (n+1)):=by rw[e];exact hq i (by omega)
  rw[tq];cases hl:lt (f (n+1)) (tq lt f (n+1)) with
  | true =>
   rw[cond_true];refine⟨⟨n+1,by omega,rfl⟩,λ j hj=>?_⟩;by_cases ej:j=n+1
   ·rw[ej];exact irr _ (hq _ (by omega))
   ·cases hx:lt (f j) (f (n+1)) with
    | false=>rfl
    | true=>rw[<- h j (by omega),tr _ _ _ (hq j (by omega)) (hq (n+1) (by omega)) qe hx hl]
  | false =>
   rw[cond_false];refine⟨⟨i,by omega,e⟩,λ j hj=>?_⟩;by_cases ej:j=n+1
   ·rw[ej];exact hl
   ·exact h j (by omega)
def ltB (a b:aS):Bool:=decide (cmF a b < 0)
def gtB (a b:aS):Bool:=decide (cmF a b > 0)
theorem zD {a b:aS} : gtB a b=true↔zA b a:=by
 unfold gtB;rw[decide_eq_true_eq,<- zfg];omega
theorem zF {a b:aS} : ltB a b=true↔zA a b:=by
 unfold ltB;rw[decide_eq_true_eq,zff]
def I4 (z:Int) (s:straight):aS:=⟨iR s z,s.den⟩
def loF (g:Sl aC) (z:Int):aS:=tq ltB (λ i=>I4 z ((gB g).cu.get i)) (kE g).length
def hiF (g:Sl aC) (z:Int):aS:=tq gtB (λ i=>I4 z ((gB g).cu.get i)) (kE g).length
theorem Bi {g:Sl aC}(G:dm g){i:Nat}(h:i < (kE g).length):CX g ((gB g).cu.get i):=by
 rw[ru g h];exact XJ G (List.getElem_mem _)
theorem zq1 {g:Sl aC}(G:dm g) (z:Int) (h:0 < (kE g).length):(∃ s,CX g s/\loF g z=I4 z s)/\∀ s∈kE g,¬ zA (I4 z s) (loF g z):=by
  obtain⟨n,hn⟩:∃ n,(kE g).length=n+1:=⟨(kE g).length - 1,by omega⟩;have pos:∀ i,i < n+1->0 < (I4 z ((gB g).cu.get i)).cO:=λ i hi=>by have:=(uh G (Bi G (i:=i) (by omega))).2.2;show 0 < ((gB g).cu.get i).den;omega
  have := Vw (lt := ltB) (Q := fun a => 0 < a.cO) (f := fun i => I4 z ((gB g).cu.get i)) (fun a _ => by cases e : ltB a a with | false => rfl | true => exact absurd (zF.1 e) ND)
    (λ a b c ha hb hc h1 h2=>zF.2 (XH ha hb hc (zF.1 h1) (zF.1 h2))) n pos
  unfold loF;rw[hn];obtain⟨⟨i,hi,e⟩,h2⟩:=this;refine⟨⟨_,Bi G (i:=i) (by omega),e⟩,λ s hs hl=>?_⟩;obtain⟨j,hj,rfl⟩:=List.getElem_of_mem hs;have:=h2 j (by omega);rw[ru g hj] at this;rw[zF.2 hl] at this;cases this
theorem zq2 {g:Sl aC}(G:dm g) (z:Int) (h:0 < (kE g).length):(∃ s,CX g s/\hiF g z=I4 z s)/\∀ s∈kE g,¬ zA (hiF g z) (I4 z s):=by
  obtain⟨n,hn⟩:∃ n,(kE g).length=n+1:=⟨(kE g).length - 1,by omega⟩;have pos:∀ i,i < n+1->0 < (I4 z ((gB g).cu.get i)).cO:=λ i hi=>by have:=(uh G (Bi G (i:=i) (by omega))).2.2;show 0 < ((gB g).cu.get i).den;omega
  have := Vw (lt := gtB) (Q := fun a => 0 < a.cO) (f := fun i => I4 z ((gB g).cu.get i)) (fun a _ => by cases e : gtB a a with | false => rfl | true => exact absurd (zD.1 e) ND)
    (λ a b c ha hb hc h1 h2=>zD.2 (XH hc hb ha (zD.1 h2) (zD.1 h1))) n pos
  unfold hiF;rw[hn];obtain⟨⟨i,hi,e⟩,h2⟩:=this;refine⟨⟨_,Bi G (i:=i) (by omega),e⟩,λ s hs hl=>?_⟩;obtain⟨j,hj,rfl⟩:=List.getElem_of_mem hs;have:=h2 j (by omega);rw[ru g hj] at this;rw[zD.2 hl] at this;cases this
def cmpL : List Int → List Int → Int
  | [],[]=>0
  | [],_ :: _=>-1
  | _ :: _,[]=>1
  | a :: x,b :: y=>cond (mQ a b != 0) (mQ a b) (cmpL x y)
theorem xM {a b:Int} : mQ a b=0↔a=b:=by
 unfold mQ;by_cases h:a < b
 ·rw[decide_eq_true h];simp;omega
 ·rw [decide_eq_false h];by_cases k:a > b
  ·rw[decide_eq_true k];simp;omega
  ·rw[decide_eq_false k];simp;omega
theorem XR {a b:Int} : mQ a b < 0↔a < b:=by
 unfold mQ;by_cases h:a < b
 ·rw[decide_eq_true h];simp[h]
 ·rw [decide_eq_false h];cases decide (a > b) <;> simp[h]
theorem tu : ∀ {x y : List Int}, cmpL x y < 0 ↔ (∃ b y', x = [] ∧ y = b :: y') ∨ ∃ a x' b y', x = a :: x' ∧ y = b :: y' ∧ (a < b ∨ a = b ∧ cmpL x' y' < 0)
  | [],[]=>by simp[cmpL]
  | [],b :: y=>by simp[cmpL]
  | a :: x,[]=>by simp[cmpL]
  | a :: x,b :: y=>by
    simp only[cmpL];have e:((∃ b' y',a :: x=[]/\b :: y=b' :: y')\/∃ a' x' b' y',a :: x=a' :: x'/\b :: y=b' :: y'/\(a' < b'\/a'=b'/\cmpL x' y' < 0))↔(a < b\/a=b/\cmpL x y < 0):=by
      constructor
      · rintro (⟨b', y', h, _⟩ | ⟨a', x', b', y', h1, h2, h⟩)
        · cases h
        · cases h1;cases h2;exact h
      · intro h;exact .inr ⟨a,x,b,y,rfl,rfl,h⟩
    rw[e];by_cases h:a=b
    · subst h;rw[show (mQ a a != 0)=false by rw[xM.2 rfl];rfl];simp
    · rw [show (mQ a b != 0) = true by simpa [xM] using h, cond_true, XR];simp[h]
theorem Ht : ∀ {x y : List Int}, cmpL x y = 0 ↔ x = y
  | [],[]=>by simp[cmpL]
  | [],b :: y=>by simp[cmpL]
  | a :: x,[]=>by simp[cmpL]
  | a :: x,b :: y=>by
    simp only[cmpL];by_cases h:a=b
    · subst h;rw[show (mQ a a != 0)=false by rw[xM.2 rfl];rfl,cond_false,Ht];simp
    · rw[show (mQ a b != 0)=true by simpa [xM] using h,cond_true,xM];simp[h]
theorem Rq (x:List Int) : ¬ cmpL x x < 0:=by rw[Ht.2 rfl];omega
theorem NS : ∀ {x y z : List Int}, cmpL x y < 0 → cmpL y z < 0 → cmpL x z < 0
  | x,y,z,h1,h2=>by
    rw[tu] at h1 h2;rcases h1 with ⟨b,y',rfl,rfl⟩ | ⟨a,x',b,y',rfl,rfl,h1⟩
    · rcases h2 with ⟨c, z', h, _⟩ | ⟨b', y'', c, z', h, rfl, h2⟩
      · cases h
      · exact tu.2 (.inl ⟨c,z',rfl,rfl⟩)
    · rcases h2 with ⟨c, z', h, _⟩ | ⟨b', y'', c, z', h, rfl, h2⟩
      · cases h
      · cases h;refine tu.2 (.inr ⟨a,x',c,z',rfl,rfl,?_⟩);rcases h1 with h1 | ⟨rfl,h1⟩ <;> rcases h2 with h2 | ⟨rfl,h2⟩
        · exact .inl (by omega)
        · exact .inl h1
        · exact .inl h2
        · exact .inr ⟨rfl,NS h1 h2⟩
theorem Hu : ∀ {x y : List Int}, x ≠ y → cmpL x y < 0 ∨ cmpL y x < 0
  | [],[],h=>absurd rfl h
  | [],b :: y,_=>.inl (by simp[cmpL])
  | a :: x,[],_=>.inr (by simp[cmpL])
  | a :: x,b :: y,h=>by
    rcases Int.lt_trichotomy a b with k | k | k
    · exact .inl (tu.2 (.inr ⟨a,x,b,y,rfl,rfl,.inl k⟩))
    · subst k;have:x ≠ y:=λ e=>h (by rw[e]);rcases Hu this with k | k
      · exact .inl (tu.2 (.inr ⟨a,x,a,y,rfl,rfl,.inr ⟨rfl,k⟩⟩))
      · exact .inr (tu.2 (.inr ⟨a,y,a,x,rfl,rfl,.inr ⟨rfl,k⟩⟩))
    · exact .inr (tu.2 (.inr ⟨b,y,a,x,rfl,rfl,.inl k⟩))
def tC (w:Sl Int):List Int:=(List.range w.len).map w.get
theorem XT (w:Sl Int):(tC w).length=w.len:=by simp[tC]
def zkp (a b:ai):Int:=cond (mQ a.View b.View != 0) (mQ a.View b.View) (cond (cmpL (tC a.Hits) (tC b.Hits) != 0) (cmpL (tC a.Hits) (tC b.Hits)) (cmpL (tC a.bz) (tC b.bz)))
def ltT (a b:ai):Prop:=a.View < b.View\/a.View=b.View/\(cmpL (tC a.Hits) (tC b.Hits) < 0\/tC a.Hits=tC b.Hits/\cmpL (tC a.bz) (tC b.bz) < 0)
theorem zkq {a b:ai} : zkp a b < 0↔ltT a b:=by
 unfold zkp ltT;by_cases h:a.View=b.View
 ·rw [show (mQ a.View b.View != 0) = false by rw [xM.2 h]; rfl, cond_false];by_cases k:tC a.Hits=tC b.Hits
  ·rw [show (cmpL (tC a.Hits) (tC b.Hits) != 0) = false by rw [Ht.2 k]; rfl, cond_false, Ht.2 k];simp[h,k]
  ·rw [show (cmpL (tC a.Hits) (tC b.Hits) != 0) = true by simpa [Ht] using k, cond_true];simp[h,k]
 ·rw [show (mQ a.View b.View != 0) = true by simpa [xM] using h, cond_true, XR];simp[h]
theorem XU (a:ai) : ¬ ltT a a:=λ h=>by
 rcases h with h | ⟨_,h | ⟨_,h⟩⟩
 ·omega
 ·exact Rq _ h
 ·exact Rq _ h
theorem zfp {a b c:ai}(h:ltT a b) (k:ltT b c):ltT a c:=by
 rcases h with h | ⟨h,h2⟩ <;> rcases k with k | ⟨k,k2⟩
 ·exact .inl (by omega)
 ·exact .inl (by omega)
 ·exact .inl (by omega)
 ·refine .inr ⟨by omega, ?_⟩;rcases h2 with h2 | ⟨h2,h3⟩ <;> rcases k2 with k2 | ⟨k2,k3⟩
  ·exact .inl (NS h2 k2)
  ·exact .inl (k2 ▸ h2)
  ·exact .inl (h2 ▸ k2)
  ·exact .inr ⟨h2.trans k2,NS h3 k3⟩
theorem zfq {a b:ai}(h:ltT a b) : ¬ ltT b a:=λ k=>XU a (zfp h k)
theorem zkr {a b:ai}(h : ¬ (a.View=b.View/\tC a.Hits=tC b.Hits/\tC a.bz=tC b.bz)):ltT a b\/ltT b a:=by
 rcases Int.lt_trichotomy a.View b.View with k | k | k
 ·exact .inl (.inl k)
 ·by_cases h1 : tC a.Hits = tC b.Hits
  ·have : tC a.bz ≠ tC b.bz := fun e => h ⟨k, h1, e⟩;rcases Hu this with h2 | h2
   ·exact .inl (.inr ⟨k,.inr ⟨h1,h2⟩⟩)
   ·exact .inr (.inr ⟨k.symm,.inr ⟨h1.symm,h2⟩⟩)
  ·rcases Hu h1 with h2 | h2
   ·exact .inl (.inr ⟨k,.inl h2⟩)
   ·exact .inr (.inr ⟨k.symm,.inl h2⟩)
 ·exact .inr (.inl k)
theorem zq3 {a b:ai}(h1:tC a.Hits=tC b.Hits) (h2:tC a.bz=tC b.bz) (ha:a.bz.len=a.Hits.len) (hb:b.bz.len=b.Hits.len):gX a=gX b:=by
 have l1:a.Hits.len=b.Hits.len:=by rw[<- XT,<- XT,h1]
 have key:∀ t:ai,t.bz.len=t.Hits.len->gX t=(tC t.Hits).zip (tC t.bz):=λ t ht=>by
  unfold gX tC;rw[ht,List.zip_map']
 rw[key a ha,key b hb,h1,h2]
def ry (a b:ai):Bool:=(gX b).all (λ p=>(gX a).contains p) && (b.View == a.View)
theorem Hy {a b:ai} : ry a b=true↔(∀ p∈gX b,p∈gX a)/\b.View=a.View:=by
 unfold ry;simp[List.all_eq_true]
theorem zfr {t u:ai}{p:Int×Int}(h1:u.Hits.len=t.Hits.len+1) (h2:∀ j,j < t.Hits.len->u.Hits.get j=t.Hits.get j/\u.bz.get j=t.bz.get j) (h3:u.Hits.get t.Hits.len=p.1/\u.bz.get t.Hits.len=p.2):gX u=gX t ++ [p]:=by
 unfold gX;rw[h1,List.range_succ,List.map_append];congr 1
 ·exact List.map_congr_left λ i hi=>by
   have:=h2 i (List.mem_range.1 hi);rw[this.1,this.2]
 ·show [(u.Hits.get t.Hits.len, u.bz.get t.Hits.len)] = [p];rw[h3.1,h3.2]
def tH (s : straight) (g : Sl aC) : Nat → Sl Int
  | 0=>⟨0,λ _=>0⟩
  | i+1=>cond (oG s (g.get i)) (qp (tH s g i) (i:Int)) (tH s g i)
theorem Hz (s : straight) (g : Sl aC) : ∀ i, (tH s g i).len ≤ i ∧ ((tH s g i).len = i ↔ ∀ j, j < i → oG s (g.get j) = true) ∧ (0 < (tH s g i).len ↔ ∃ j, j < i ∧ oG s (g.get j) = true)
  | 0=>⟨iZ _,⟨λ _ j hj=>absurd hj (Si j),λ _=>rfl⟩,⟨λ h=>absurd h (Nat.lt_irrefl 0),λ ⟨j,hj,_⟩=>absurd hj (Si j)⟩⟩
  | i+1=>by
    obtain⟨a,b,c⟩:=Hz s g i;simp only[tH];cases h:oG s (g.get i) with
    | true =>
      show (tH s g i).len+1<=i+1/\((tH s g i).len+1=i+1↔_)/\(0 < (tH s g i).len+1↔_);refine⟨by omega,⟨λ e j hj=>?_,λ e=>?_⟩,⟨λ _=>⟨i,by omega,h⟩,λ _=>by omega⟩⟩
      · by_cases k : j = i
        · rw[k];exact h
        · exact b.1 (by omega) j (by omega)
      · rw[b.2 λ j hj=>e j (by omega)]
    | false =>
      show (tH s g i).len<=i+1/\((tH s g i).len=i+1↔_)/\(0 < (tH s g i).len↔_);refine⟨by omega,⟨λ e=>by omega,λ e=>by rw[e i (by omega)] at h;cases h⟩,c.trans ⟨λ ⟨j,h1,h2⟩=>⟨j,by omega,h2⟩,λ ⟨j,h1,h2⟩=>⟨j,?_,h2⟩⟩⟩;have:j ≠ i:=λ e=>by rw[e,h] at h2;cases h2
      omega
abbrev Q57 (C:Line×Sl aC->ae (Sl Int)):Prop:=∀ s (g:Sl aC),wS s->g.len<=1000->(∀ i,i < g.len->fF (g.get i))->C (eQ s,g)=.ok (tH s g g.len)
theorem s57 {E:E57}(N:Big E.N) (h116:zqU E.c116):Q57 (F57 E):=λ s g S hl G=>ae.ext λ k=>by
 rw[e57,bn];refine jX (X:=λ n i=>Qu E n (eQ s) g (i:Int) (tH s g i) k) (m:=g.len) (λ n i hi=>?_) (λ n=>?_) _ (by have:=N;omega)
 ·rw [zmj, decide_eq_true (by omega), cond_true, bD (by omega), Int.toNat_natCast, h116 s _ S (G i hi), bn, bT (by omega), jl (by have := (Hz s g i).1; omega) (by omega)];simp only[tH];cases oG s (g.get i) <;> rfl
 ·rw[zmj,decide_eq_false (by omega)];rfl
def eL:Sl Line:=⟨0,λ _=>⟨⟨0,0⟩,⟨0,0⟩⟩⟩
def xe (v:Sl Line) (l:List straight):Sl Line:=(l.map eQ).foldl qp v
theorem rC (v:Sl Line) (l:List straight):(xe v l).len=v.len+l.length:=by unfold xe;rw[qg,List.length_map]
theorem vz (v:Sl Line) (a b:List straight):xe v (a ++ b)=xe (xe v a) b:=by unfold xe;rw[List.map_append,List.foldl_append]
def CY (g:Sl aC):Sl Line:=xe eL (cst g)
theorem zks (g:Sl aC):(CY g).len=(cst g).length:=by unfold CY;rw[rC];show 0+_=_;omega
theorem NT (g:Sl aC){i:Nat}(h:i < (cst g).length):(CY g).get i=eQ (cst g)[i]:=by
 have:=wU ((cst g).map eQ) eL i (eQ (cst g)[i]) (by rw[VJ,zL h];rfl);rw[show (eL:Sl Line).len+i=i by show 0+i=i;omega] at this;exact this
abbrev zq4 (C:Sl aC->ae (Sl Line)):Prop:=∀ g,dm g->C g=.ok (CY g)
theorem zKL {E:Nv}(N:Big E.N) (zjQ:zqV E.zgj) (h55:Q55 E.c55):zq4 (zjP E):=λ g G=>ae.ext λ k=>by
 have hg:=G.2;have hN:=N;have inn:∀ n0 n1 (i j:Nat) (w:Sl Line),i < g.len->j < g.len->w.len<=100000->Be E n0 n1 E.N g (i:Int) (j:Int) 0 w k=Bd E n0 n1 g (i:Int) ((j+1:Nat):Int) (xe w (xJ (g.get i) (g.get j))) k:=by
  intro n0 n1 i j w hi hj hw;have gi:=G.1 i hi;have gj:=G.1 j hj;obtain⟨n,hn⟩:∃ n,E.N=n+1+1+1+1+1:=⟨E.N - 5,by omega⟩
  have st:∀ n (v:Int) (w:Sl Line) (p q:Int),(0<=v/\v < 4)->w.len<=200000->(g.get i).Z ≠ (g.get j).Z->p=cond (aO (v.tdiv 2) == 0) (g.get i).Low (g.get i).High->q=cond (v.tmod 2 == 0) (g.get j).Low (g.get j).High->(-1000000<=p/\p<=1000000)->(-1000000<=q/\q<=1000000) ->
    Be E n0 n1 (n+1) g (i:Int) (j:Int) v w k=Be E n0 n1 n g (i:Int) (j:Int) (v+1) (xe w [zM (g.get i).Z p (g.get j).Z q]) k:=by
   intro n v w p q hv hw hz hp hq hpb hqb;rw[Vh,decide_eq_true (show v < 4 by omega),cond_true];simp only[bD (show 0<=(i:Int)/\(i:Int) < (g.len:Int) by omega),bD (show 0<=(j:Int)/\(j:Int) < (g.len:Int) by omega)];rw[Int.toNat_natCast,Int.toNat_natCast,show ((g.get i).Z != (g.get j).Z)=true by simpa using hz,cond_true,zjQ,bn,zjQ,bn,<- hp,<- hq,h55 _ _ _ _ gi.1 gj.1 hpb hqb hz,bn,jl (by omega) (by omega),bg (by omega) (by omega)];rfl
  unfold xJ;rw[hn];by_cases hz:(g.get i).Z=(g.get j).Z
  ·rw [if_pos hz, Vh, decide_eq_true (by omega), cond_true, bD (by omega), bD (by omega), Int.toNat_natCast, Int.toNat_natCast, show ((g.get i).Z != (g.get j).Z) = false by simpa using hz, cond_false, bT (by omega)];rfl
  ·rw [if_neg hz]
   rw[st _ 0 w (g.get i).Low (g.get j).Low (by omega) (by omega) hz rfl rfl (mF gi) (mF gj),
    st _ (0+1) _ (g.get i).Low (g.get j).High (by omega) (by rw[rC];simp only[Oi,SE];omega) hz rfl rfl (mF gi) (oD gj),<- vz,
    st _ (0+1+1) _ (g.get i).High (g.get j).Low (by omega) (by rw[rC];simp only[RY,Oi,SE];omega) hz rfl rfl (oD gi) (mF gj),<- vz,
    st _ (0+1+1+1) _ (g.get i).High (g.get j).High (by omega) (by rw[rC];simp only[RY,Oi,SE];omega) hz rfl rfl (oD gi) (oD gj),<- vz,Vh,decide_eq_false (by omega),cond_false,bT (by omega)]
   rfl
 have mid:∀ n0 (i:Nat),i < g.len->∀ (m j n1:Nat) (w:Sl Line),j+m=g.len->m < n1->w.len+4 * m<=100000->Bd E n0 n1 g (i:Int) (j:Int) w k=GY E n0 g ((i+1:Nat):Int) (xe w (zy g i m j)) k:=by
  intro n0 i hi m
  induction m with
  | zero =>
   intro j n1 w hj hn hw;obtain⟨n1,rfl⟩:∃ n',n1=n'+1:=⟨n1 - 1,by omega⟩;rw[zeM,decide_eq_false (by omega),cond_false,bT (by omega)];rfl
  | succ m ih =>
   intro j n1 w hj hn hw;obtain⟨n1,rfl⟩:∃ n',n1=n'+1:=⟨n1 - 1,by omega⟩;have:=Q3 (g.get i) (g.get j);rw[zeM,decide_eq_true (by omega),cond_true,inn n0 n1 i j w hi (by omega) (by omega),ih (j+1) n1 _ (by omega) (by omega) (by rw[rC];omega),<- vz];rfl
 have out:∀ (m i n:Nat) (w:Sl Line),i+m=g.len->m < n->w.len+96 * m<=10000->GY E n g (i:Int) w k=k (xe w (Jk g m i)):=by
  intro m
  induction m with
  | zero =>
   intro i n w hi hn hw;obtain⟨n,rfl⟩:∃ n',n=n'+1:=⟨n - 1,by omega⟩;rw[zeL,decide_eq_false (by omega)];rfl
  | succ m ih =>
   intro i n w hi hn hw;obtain⟨n,rfl⟩:∃ n',n=n'+1:=⟨n - 1,by omega⟩;have:=Q4 g i (g.len - (i+1)) (i+1);rw[zeL,decide_eq_true (by omega),cond_true,bT (by omega),mid n i (by omega) (g.len - (i+1)) (i+1) E.N w (by omega) (by omega) (by omega),ih (i+1) n _ (by omega) (by omega) (by rw[rC];omega),<- vz];rfl
 rw[zJf,bn];exact out g.len 0 E.N eL (by omega) (by omega) (by show 0+_<=_;omega)
abbrev zq5 (C:Line×Sl aC->ae Bool):Prop:=∀ s g,wS s->dm g->∃ b,C (eQ s,g)=.ok b
theorem zKM {E:Vk}(N:Big E.N) (UH:zkl E.Oc):zq5 (zj1 E):=λ s g S G=>by
 have hg:=G.2;exact⟨_,ae.ext λ k=>by
  rw[e248,bn];refine (loopA (L:=λ n v=>Ny E n (eQ s) g v k) (p:=λ i=>!(plN (eQ s) (g.get i).Z == aO ((g.get i).Low * Sz (eQ s)))) (m:=g.len) (fin:=k false) (stop:=k true) (by omega) (λ n i hi=>?_) (λ n=>?_) _ (by have:=N;omega)).trans (kc k _ _ _)
  ·have gi := G.1 i hi;rw[zeX,decide_eq_true (by omega),cond_true,bD (by omega),Int.toNat_natCast,UH s _ S (by have:=gi.1;omega),bn,bD (by omega)];show cond (plN (eQ s) (g.get i).Z == aO ((g.get i).Low * Sz (eQ s))) _ _=_;cases plN (eQ s) (g.get i).Z == aO ((g.get i).Low * Sz (eQ s)) <;> rfl
  ·rw[zeX,decide_eq_false (by omega)];rfl⟩
def leB (a b:aS):Bool:=decide (aO (a.Num * b.cO) < aO (b.Num * a.cO))
abbrev Q56 (C:aS×aS->ae Bool):Prop:=∀ a b,C (a,b)=.ok (leB a b)
theorem s56 {E:E56} : Q56 (F56 E):=λ a b=>ae.ext λ k=>by rw[e56,bn];rfl
abbrev zq6 (C:Line×Line×Sl aC->ae Bool):Prop:=∀ s t g,wS s->wS t->dm g->∃ b,C (eQ s,eQ t,g)=.ok b
theorem zKN {E:zac}(zjS:zq5 E.VH) (h56:Q56 E.c56):zq6 (zjR E):=λ s t g S T G=>by
 obtain⟨a,ha⟩:=zjS s g S G;obtain⟨b,hb⟩:=zjS t g T G;exact⟨cond (a != b) a (cond a (leB (eQ s).dM (eQ t).dM) (leB (eQ t).dM (eQ s).dM)),ae.ext λ k=>by
  rw[e226,ha,hb,bn,bn,bn,bn,h56,h56,bn,bn,kc k,kc k,bn]⟩
def LnS (g:Sl aC) (v:Sl Line):Prop:=∀ i,i < v.len->∃ s,s∈cst g/\v.get i=eQ s
abbrev zkt (C:Sl aC->ae (Sl Line)):Prop:=∀ g,dm g->∃ L:Sl Line,C g=.ok L/\(0 < L.len↔∃ s∈cst g,Bh g s)/\L.len<=2304/\LnS g L
theorem zKO {E:Ji}(N:Big E.N) (zqb:zq4 E.zlq) (h57:Q57 E.c57) (zqc:zq6 E.c226):zkt (zjz E):=λ g G=>by
 have hg:=G.2;have hN:=N;have hc:=Nz G;have hcd:=zks g;have pos:∀ n0 (i:Nat),i < (cst g).length->∀ (v:Sl Line),LnS g v->v.len<=2304->∃ a,a<=v.len/\∀ (A:Type) (k:Sl Line->Option A),vg E n0 E.N g v (CY g) (i:Int) 0 k=sK E n0 g v (CY g) (i:Int) (a:Int) k:=by
  intro n0 i hi v hv hl;have key:∀ (m j n1:Nat),j+m=v.len->m < n1->∃ a,a<=v.len/\∀ (A:Type) (k:Sl Line->Option A),vg E n0 n1 g v (CY g) (i:Int) (j:Int) k=sK E n0 g v (CY g) (i:Int) (a:Int) k:=by
   intro m
   induction m with
   | zero =>
    intro j n1 hj hn;obtain⟨n1,rfl⟩:∃ n',n1=n'+1:=⟨n1 - 1,by omega⟩;exact⟨j,by omega,λ A k=>by rw[zeq,decide_eq_false (by omega)];rfl⟩
   | succ m ih =>
    intro j n1 hj hn;obtain⟨n1,rfl⟩:∃ n',n1=n'+1:=⟨n1 - 1,by omega⟩;obtain⟨s,hs,es⟩:=hv j (by omega);obtain⟨b,hb⟩:=zqc s (cst g)[i] g (qc G hs) (qc G (List.getElem_mem hi)) G;have st:∀ (A:Type) (k:Sl Line->Option A),vg E n0 (n1+1) g v (CY g) (i:Int) (j:Int) k=cond b (vg E n0 n1 g v (CY g) (i:Int) ((j+1:Nat):Int) k) (sK E n0 g v (CY g) (i:Int) (j:Int) k):=λ A k=>by
     rw[zeq,decide_eq_true (by omega),cond_true,bD (by omega),bD (by omega),Int.toNat_natCast,Int.toNat_natCast,es,NT g hi,hb,bn,bT (by omega)]
    cases b with
    | true =>
     obtain⟨a,h1,h2⟩:=ih (j+1) n1 (by omega) (by omega);exact⟨a,h1,λ A k=>by rw[st];exact h2 A k⟩
    | false=>exact⟨j,by omega,λ A k=>by rw[st];rfl⟩
  exact key v.len 0 E.N (by omega) (by omega)
 have key:∀ (m i n:Nat) (v:Sl Line),i+m=(cst g).length->m < n->LnS g v->v.len<=i->∃ L:Sl Line,(∀ (A:Type) (k:Sl Line->Option A),l7 E n g v (CY g) (i:Int) k=k L)/\(0 < L.len↔0 < v.len\/∃ j,∃ h:j < (cst g).length,i<=j/\Bh g (cst g)[j])/\L.len<=(cst g).length/\LnS g L:=by
  intro m
  induction m with
  | zero =>
   intro i n v hi hn hv hl;obtain⟨n,rfl⟩:∃ n',n=n'+1:=⟨n - 1,by omega⟩;exact⟨v,λ A k=>by rw[zep,decide_eq_false (by omega)];rfl,⟨.inl,λ h=>h.elim id λ ⟨j,h1,h2,_⟩=>by omega⟩,by omega,hv⟩
  | succ m ih =>
   intro i n v hi hn hv hl;obtain⟨n,rfl⟩:∃ n',n=n'+1:=⟨n - 1,by omega⟩;have hi':i < (cst g).length:=by omega
   have S:=qc G (List.getElem_mem hi');have pl:=Hz (cst g)[i] g g.len;have st:∀ (A:Type) (k:Sl Line->Option A),l7 E (n+1) g v (CY g) (i:Int) k=cond (decide (((tH (cst g)[i] g g.len).len:Int) < (g.len:Int))) (l7 E n g v (CY g) ((i+1:Nat):Int) k) (vg E n E.N g v (CY g) (i:Int) 0 k):=λ A k=>by
    rw[zep,decide_eq_true (by omega),cond_true,bD (by omega),Int.toNat_natCast,NT g hi',h57 _ g S (by omega) G.1,bn,bT (by omega)]
   by_cases ha:Bh g (cst g)[i]
   ·have e : (tH (cst g)[i] g g.len).len = g.len := pl.2.1.2 ha;obtain⟨a,a1,a2⟩:=pos n i hi' v hv (by omega);have st2:∀ (A:Type) (k:Sl Line->Option A),l7 E (n+1) g v (CY g) (i:Int) k=sK E n g v (CY g) (i:Int) (a:Int) k:=λ A k=>by rw[st,decide_eq_false (by omega),cond_false,a2]
    have ins:∃ v':Sl Line,(∀ (A:Type) (k:Sl Line->Option A),GR E n g v (CY g) (i:Int) (a:Int) k=l7 E n g v' (CY g) ((i+1:Nat):Int) k)/\v'.len=v.len+1/\LnS g v':=by
     refine⟨_,λ A k=>by
      rw[zqa,bD (by omega),jl (by omega) (by omega),bD (by omega),jl (by omega) (by omega),bD (by omega),jl (by omega) (by omega),bT (by omega)],?_,?_⟩
     ·show ((((a:Int) - 0).toNat+1)+((v.len:Int) - (a:Int)).toNat)=_;omega
     ·intro q hq;have hq:q < ((((a:Int) - 0).toNat+1)+((v.len:Int) - (a:Int)).toNat):=hq;show ∃ s,s∈cst g/\jd (((a:Int) - 0).toNat+1) (jd ((a:Int) - 0).toNat (Jf v.get 0) (λ _=>(CY g).get (i:Int).toNat)) (Jf v.get (a:Int).toNat) q=eQ s;rw[iy];split
      ·exact hv (q - (((a:Int) - 0).toNat+1)+(a:Int).toNat) (by omega)
      ·rw [iy];split
       ·rw[Int.toNat_natCast,NT g hi'];exact⟨_,List.getElem_mem hi',rfl⟩
       ·exact hv (q+0) (by omega)
    obtain⟨v',i1,i2,i3⟩:=ins;have fin:∃ v'':Sl Line,(∀ (A:Type) (k:Sl Line->Option A),sK E n g v (CY g) (i:Int) (a:Int) k=l7 E n g v'' (CY g) ((i+1:Nat):Int) k)/\0 < v''.len/\v''.len<=i+1/\LnS g v'':=by
     by_cases h1:(a:Int) < (v.len:Int)
     ·have e3:∃ B:Bool,∀ (A:Type) (k:Sl Line->Option A),sK E n g v (CY g) (i:Int) (a:Int) k=cond B (l7 E n g v (CY g) ((i+1:Nat):Int) k) (GR E n g v (CY g) (i:Int) (a:Int) k):=⟨_,λ A k=>by
       rw[zer,decide_eq_true h1,cond_true,bD (by omega),bD (by omega),bT (by omega)]⟩
      obtain⟨B,e3⟩:=e3;cases B with
      | true=>exact⟨v,λ A k=>by rw[e3];rfl,by omega,by omega,hv⟩
      | false=>exact⟨v',λ A k=>by rw[e3];exact i1 A k,by omega,by omega,i3⟩
     ·exact⟨v',λ A k=>by rw[zer,decide_eq_false h1];exact i1 A k,by omega,by omega,i3⟩
    obtain⟨v'',f1,f2,f3,f4⟩:=fin;obtain⟨L,l1,l2,l3,l4⟩:=ih (i+1) n v'' (by omega) (by omega) f4 f3;exact⟨L,λ A k=>by rw[st2,f1,l1],l2.trans ⟨λ _=>.inr ⟨i,hi',iZ _,ha⟩,λ _=>.inl f2⟩,l3,l4⟩
   ·have e:(tH (cst g)[i] g g.len).len < g.len:=by
     rcases Nat.lt_or_ge (tH (cst g)[i] g g.len).len g.len with h | h
     ·exact h
     ·exact absurd (pl.2.1.1 (by omega)) ha
    obtain⟨L,l1,l2,l3,l4⟩:=ih (i+1) n v (by omega) (by omega) hv (by omega);refine⟨L,λ A k=>by rw[st,decide_eq_true (by omega),cond_true,l1],l2.trans ⟨λ h=>h.imp id λ ⟨j,h1,h2,h3⟩=>⟨j,h1,by omega,h3⟩,λ h=>h.imp id λ ⟨j,h1,h2,h3⟩=>⟨j,h1,?_,h3⟩⟩,l3,l4⟩;have:j ≠ i:=λ e=>ha (by subst e;exact h3);omega
 obtain⟨L,l1,l2,l3,l4⟩:=key (cst g).length 0 E.N eL (by omega) (by omega) (λ i hi=>absurd hi (Si i)) (iZ _);refine⟨L,ae.ext λ k=>by rw[zIB,zqb g G,bn,bn];exact l1 _ k,l2.trans ⟨λ h=>?_,λ ⟨s,hs,ha⟩=>?_⟩,by omega,l4⟩
 ·rcases h with h | ⟨j, h1, _, h3⟩
  ·exact absurd h (Nat.lt_irrefl 0)
  ·exact⟨_,List.getElem_mem h1,h3⟩
 ·obtain ⟨j, h1, rfl⟩ := List.getElem_of_mem hs;exact .inr ⟨j,h1,Nat.zero_le _,ha⟩
theorem KH {g:Sl aC}(G:dm g) (hf:fV g=false):iF g=true↔∃ s∈cst g,Bh g s:=by
 unfold iF;rw[hf,cond_false,decide_eq_true_eq];obtain⟨c1,c2,_⟩:=Vp hf;constructor
 ·intro h;obtain⟨a,b⟩:=c1 _ (List.getElem_mem (l:=kE g) (n:=0) (by omega));exact⟨_,a,(Hf G (qc G a)).1 b⟩
 ·rintro ⟨s, hs, ha⟩;obtain⟨x,hx,_⟩:=c2 s hs ((Hf G (qc G hs)).2 ha);have:=List.length_pos_of_mem hx;omega
abbrev zq7 (C:Sl aC->ae Bool):Prop:=∀ g,dm g->C g=.ok (iF g)
theorem zKP {E:Zz}(CV:zfk E.zI) (UU:zkk E.c193) (UV:zkt E.c194):zq7 (ziX E):=λ g G=>ae.ext λ k=>by
 have hg:=G.2;rw[zG1,CV g (by omega) (by omega),bn,bn];cases hf:fV g with
 | true =>
  rw[cond_true,UU g (by omega) (by omega),bn];unfold iF;rw[hf];rfl
 | false =>
  obtain⟨L,l1,l2,_⟩:=UV g G;rw[cond_false,l1,bn];congr 1;rw[Bool.eq_iff_iff,KH G hf,<- l2,decide_eq_true_eq];omega
def Jm (z:Int):Prop:=-100000<=z/\z<=200000
abbrev zq8 (C:straight×Int->ae aS):Prop:=∀ s z,wS s->Jm z->C (s,z)=.ok (I4 z s)
theorem zKQ {E:Z7} : zq8 (zjG E):=λ s z S hz=>ae.ext λ k=>by
 rw[e203,bn,(XD S (z:=z) ⟨by have:=hz.1;omega,hz.2⟩).1];rfl
abbrev zq9 (C:straight×Pt Int->ae aS):Prop:=∀ s (z:Pt Int),wS s->Jm z.v->C (s,z)=.ok (I4 z.v s)
theorem zKR {E:Z5}(zqh:zq8 E.c203):zq9 (zjF E):=λ s z S hz=>ae.ext λ k=>by rw[zIU,zqh _ _ S hz]
theorem Vx {s:straight}(S:wS s){z:Int}(hz:Jm z):(-600000000000<=(I4 z s).Num/\(I4 z s).Num<=600000000000)/\0 < (I4 z s).cO/\(I4 z s).cO<=100000:=by
 have:=(XD S (z:=z) ⟨by have:=hz.1;omega,hz.2⟩).2;have:=S.2.2;exact⟨‹_›,by show 0 < s.den;omega,by show s.den<=_;omega⟩
def POK (f:aS):Prop:=(-600000000000<=f.Num/\f.Num<=600000000000)/\0 < f.cO/\f.cO<=100000
theorem XV {a b:aS}(h1:POK a) (h2:POK b):aO (a.Num * b.cO)=a.Num * b.cO:=by
 have:=mO h1.1.1 h1.1.2 (Int.le_of_lt h2.2.1) h2.2.2;exact bg (by omega) (by omega)
abbrev zra (C:aS×aS->ae Bool):Prop:=∀ a b,POK a->POK b->C (a,b)=.ok (ltB a b)
theorem zKS {E:ZM}(GM:zfe E.zJ):zra (zjg E):=λ a b h1 h2=>ae.ext λ k=>by rw[e169,GM _ _ (XV h1 h2) (XV h2 h1),bn,bn];rfl
abbrev zrb (C:aS×aS->ae Bool):Prop:=∀ a b,POK a->POK b->C (a,b)=.ok (gtB a b)
theorem zKT {E:ZO}(GM:zfe E.zJ):zrb (zji E):=λ a b h1 h2=>ae.ext λ k=>by rw[zHX,GM _ _ (XV h1 h2) (XV h2 h1),bn,bn];rfl
abbrev zrd:=dN 169 Unit Unit ⊕ dN 171 Unit Unit
def oH : zrd → aS → aS → Bool
  | .inl _=>ltB
  | .inr _=>gtB
abbrev QEx {γ:Type}(i:γ->zrd) (C:Sl aS×γ->ae aS):Prop:=∀ (l:Sl aS) (c:γ),0 < l.len->l.len<=10000->(∀ i,i < l.len->POK (l.get i))->C (l,c)=.ok (tq (oH (i c)) l.get l.len)
abbrev zrf (C:Sl aS×zrd->ae aS):Prop:=QEx id C
theorem Rt {lt:aS->aS->Bool}{f:Nat->aS} : tq lt f 1=f 0:=by simp only[tq];cases lt (f 0) (f 0) <;> rfl
theorem Ru {lt:aS->aS->Bool}{f:Nat->aS}{n:Nat} : tq lt f (n+1)=cond (lt (f n) (tq lt f n)) (f n) (tq lt f n):=rfl
theorem zG {lt : aS → aS → Bool} {f : Nat → aS} : ∀ n, ∃ i, i < n + 1 ∧ tq lt f (n + 1) = f i
  | 0=>⟨0,by omega,Rt⟩
  | n+1=>by
    obtain⟨i,hi,e⟩:=zG (lt:=lt) (f:=f) n;rw[Ru];cases lt (f (n+1)) (tq lt f (n+1)) with
    | true=>exact⟨n+1,by omega,rfl⟩
    | false=>exact⟨i,by omega,e⟩
theorem zfs {E:nY}(N:Big E.N) (zp4:zra E.zld):QEx .inl (yY E):=λ l c h0 hl hp=>ae.ext λ k=>by
 rw[zd6,bn,bD (by omega),bD (by omega),<- Rt (lt:=oH (.inl c)) (f:=l.get)];have hm:(((l.len:Int) - 1).toNat:Int)=((l.len - 1:Nat):Int):=by omega
 refine (jX (X:=λ n i=>lh E n l (i:Int) (tq (oH (.inl c)) l.get (i+1)) k) (m:=l.len - 1) (fin:=k (tq (oH (.inl c)) l.get l.len)) (λ n i hi=>?_) (λ n=>?_) E.N (by have:=N;omega))
 ·obtain ⟨j, hj, e⟩ := zG (lt := oH (.inl c)) (f := l.get) i;have hq:POK (tq (oH (.inl c)) l.get (i+1)):=by rw[e];exact hp j (by omega)
  rw[GK,hm,decide_eq_true (by omega),cond_true,bD (by omega),Int.toNat_natCast,show Jf l.get 1 i=l.get (i+1) from rfl,zp4 _ _ (hp (i+1) (by omega)) hq,bn,bT (by omega),Ru (n:=i+1)];show cond (ltB (l.get (i+1)) (tq (oH (.inl c)) l.get (i+1))) _ _=lh E n l _ (cond (ltB (l.get (i+1)) (tq (oH (.inl c)) l.get (i+1))) _ _) k;cases ltB (l.get (i+1)) (tq (oH (.inl c)) l.get (i+1)) <;> rfl
 ·rw[GK,hm,decide_eq_false (by omega),show l.len - 1+1=l.len by omega];rfl
theorem zft {E:nZ}(N:Big E.N) (zp5:zrb E.c171):QEx .inr (yZ E):=λ l c h0 hl hp=>ae.ext λ k=>by
 rw[zd8,bn,bD (by omega),bD (by omega),<- Rt (lt:=oH (.inr c)) (f:=l.get)];have hm:(((l.len:Int) - 1).toNat:Int)=((l.len - 1:Nat):Int):=by omega
 refine (jX (X:=λ n i=>lq E n l (i:Int) (tq (oH (.inr c)) l.get (i+1)) k) (m:=l.len - 1) (fin:=k (tq (oH (.inr c)) l.get l.len)) (λ n i hi=>?_) (λ n=>?_) E.N (by have:=N;omega))
 ·obtain ⟨j, hj, e⟩ := zG (lt := oH (.inr c)) (f := l.get) i;have hq:POK (tq (oH (.inr c)) l.get (i+1)):=by rw[e];exact hp j (by omega)
  rw[GL,hm,decide_eq_true (by omega),cond_true,bD (by omega),Int.toNat_natCast,show Jf l.get 1 i=l.get (i+1) from rfl,zp5 _ _ (hp (i+1) (by omega)) hq,bn,bT (by omega),Ru (n:=i+1)];show cond (gtB (l.get (i+1)) (tq (oH (.inr c)) l.get (i+1))) _ _=lq E n l _ (cond (gtB (l.get (i+1)) (tq (oH (.inr c)) l.get (i+1))) _ _) k;cases gtB (l.get (i+1)) (tq (oH (.inr c)) l.get (i+1)) <;> rfl
 ·rw[GL,hm,decide_eq_false (by omega),show l.len - 1+1=l.len by omega];rfl
theorem zKU {f:Sl aS×dN 169 Unit Unit->ae aS}{g:Sl aS×dN 171 Unit Unit->ae aS}(a:QEx .inl f) (b:QEx .inr g):zrf (ae.two f g):=λ l c h0 hl hp=>by
 rcases c with c | c
 ·exact a l c h0 hl hp
 ·exact b l c h0 hl hp
def Jn (g : Sl aC) (z : Int) : Nat → Sl aS
  | 0=>⟨0,λ _=>⟨0,0⟩⟩
  | i+1=>qp (Jn g z i) (I4 z ((gB g).cu.get i))
theorem lH (g : Sl aC) (z : Int) : ∀ n, (Jn g z n).len = n
  | 0=>rfl
  | n+1=>by show (Jn g z n).len+1=n+1;rw[lH g z n]
theorem DL (g : Sl aC) (z : Int) : ∀ n i, i < n → (Jn g z n).get i = I4 z ((gB g).cu.get i)
  | n+1,i,h=>by
    show jd (Jn g z n).len (Jn g z n).get (λ _=>I4 z ((gB g).cu.get n)) i=_;rw[iy,lH];by_cases e:i=n
    · rw[if_pos (by omega),e]
    · rw[if_neg (by omega),DL g z n i (by omega)]
theorem Bj {lt : aS → aS → Bool} {f g : Nat → aS} : ∀ n, (∀ i, i < n + 1 → f i = g i) → tq lt f (n + 1) = tq lt g (n + 1)
  | 0,h=>by rw[Rt,Rt,h 0 (by omega)]
  | n+1,h=>by rw[Ru,Ru (f:=g) (n:=n+1),Bj n λ i hi=>h i (by omega),h (n+1) (by omega)]
abbrev zrg (C:set×dN 202 Unit (Pt Int)->ae (aS×aS)):Prop:=∀ g (c:dN 202 Unit (Pt Int)),dm g->Jm c.v.v->0 < (kE g).length->C (gB g,c)=.ok (red (loF g c.v.v).Num (loF g c.v.v).cO,red (hiF g c.v.v).Num (hiF g c.v.v).cO)
theorem zKV {E:UL}(N:Big E.N) (zpL:zq9 E.zlk) (ziK:zrf E.c168) (sH:Ha E.lC):zrg (ziI E):=λ g c G hz h0=>ae.ext λ k=>by
 have hl:=NE G;have hs:=He g;have pok:∀ i,i < (kE g).length->POK (I4 c.v.v ((gB g).cu.get i)):=λ i hi=>Vx (uh G (Bi G hi)) hz;obtain⟨n,hn⟩:∃ n,(kE g).length=n+1:=⟨(kE g).length - 1,by omega⟩;have lo:∃ i,i < n+1/\loF g c.v.v=I4 c.v.v ((gB g).cu.get i):=by unfold loF;rw[hn];exact zG n
 have hi:∃ i,i < n+1/\hiF g c.v.v=I4 c.v.v ((gB g).cu.get i):=by unfold hiF;rw[hn];exact zG n
 obtain⟨i1,i2,i3⟩:=lo;obtain⟨j1,j2,j3⟩:=hi;have pl:POK (loF g c.v.v):=by rw[i3];exact pok _ (by omega)
 have ph:POK (hiF g c.v.v):=by rw[j3];exact pok _ (by omega)
 rw[e119,bn];refine jX (X:=λ n i=>Na E n (gB g) c (i:Int) (Jn g c.v.v i) k) (m:=(kE g).length) (λ n i hi=>?_) (λ m=>?_) _ (by have:=N;omega)
 ·rw[zdV,hs,decide_eq_true (by omega),cond_true,bD (by omega),Int.toNat_natCast,zpL _ _ (uh G (Bi G hi)) hz,bn,jl (by rw[lH];omega) (by omega),bT (by omega)];rfl
 ·have hp:∀ i,i < (Jn g c.v.v (kE g).length).len->POK ((Jn g c.v.v (kE g).length).get i):=λ i hi=>by
   rw[lH] at hi;rw[DL _ _ _ _ hi];exact pok i hi
  rw[zdV,hs,decide_eq_false (by omega),cond_false,ziK _ _ (by rw[lH];omega) (by rw[lH];omega) hp,bn,ziK _ _ (by rw[lH];omega) (by rw[lH];omega) hp,bn];have e1:tq (oH (.inl ⟨(),()⟩)) (Jn g c.v.v (kE g).length).get (Jn g c.v.v (kE g).length).len=loF g c.v.v:=by
   rw[lH];unfold loF;rw[hn];exact Bj n λ i hi=>DL _ _ _ _ hi
  have e2:tq (oH (.inr ⟨(),()⟩)) (Jn g c.v.v (kE g).length).get (Jn g c.v.v (kE g).length).len=hiF g c.v.v:=by
   rw[lH];unfold hiF;rw[hn];exact Bj n λ i hi=>DL _ _ _ _ hi
  show (E.lC ((tq (oH (.inl ⟨(),()⟩)) (Jn g c.v.v (kE g).length).get (Jn g c.v.v (kE g).length).len).Num,(tq (oH (.inl ⟨(),()⟩)) (Jn g c.v.v (kE g).length).get (Jn g c.v.v (kE g).length).len).cO)).T (λ r4=>(E.lC ((tq (oH (.inr ⟨(),()⟩)) (Jn g c.v.v (kE g).length).get (Jn g c.v.v (kE g).length).len).Num,(tq (oH (.inr ⟨(),()⟩)) (Jn g c.v.v (kE g).length).get (Jn g c.v.v (kE g).length).len).cO)).T λ r5=>k (r4,r5))=_;rw[e1,e2,sH _ _ (by have:=pl.1;omega) (by have:=pl.1;omega) pl.2.1 (by have:=pl.2.2;omega),bn,sH _ _ (by have:=ph.1;omega) (by have:=ph.1;omega) ph.2.1 (by have:=ph.2.2;omega),bn]
def DN (g:Sl aC) (z:Int):aS×aS:=cond (fV g) (red (fG g g.len).Low 1,red (fG g g.len).High 1) (red (loF g z).Num (loF g z).cO,red (hiF g z).Num (hiF g z).cO)
theorem DR {g : Sl aC} (G : ∀ i, i < g.len → fF (g.get i)) (h0 : 0 < g.len) : ∀ n, n ≤ g.len → (-1000000 ≤ (fG g n).Low ∧ (fG g n).Low ≤ 1000000) ∧ -1000000 ≤ (fG g n).High ∧ (fG g n).High ≤ 1000000
  | 0,_=>⟨mF (G 0 h0),oD (G 0 h0)⟩
  | n+1,h=>by
    obtain⟨a,b⟩:=DR G h0 n (by omega);have c:=mF (G n (by omega));have d:=oD (G n (by omega));simp only[fG];constructor
    · split <;> assumption
    · split <;> assumption
abbrev zrh (C:set×Int->ae (aS×aS)):Prop:=∀ g z,dm g->Jm z->(fV g=false->0 < (kE g).length)->C (gB g,z)=.ok (DN g z)
theorem zKX {E:ZJ}(sG:Vo E.c167) (U4:zj9 E.Oh) (sH:Ha E.lC) (h119:zrg E.c119):zrh (zjd E):=λ g z G hz hc=>ae.ext λ k=>by
 have hg:=G.2;rw[zHH,sG (gB g).list (by show 0 < g.len;omega) (by show g.len<=1000;omega),bn,bn];show cond (fV g) _ _=_;unfold DN;cases hf:fV g with
 | true =>
  obtain⟨a,b⟩:=DR G.1 (by omega) g.len (iZ _);rw[cond_true,U4 _ (by show 0 < g.len;omega) (by show g.len<=1000;omega),bn];show (E.lC ((fG g g.len).Low,1)).T (λ r3=>(E.lC ((fG g g.len).High,1)).T λ r4=>k (r3,r4))=_;rw[sH _ _ (by omega) (by omega) (by omega) (by omega),bn,sH _ _ (by omega) (by omega) (by omega) (by omega),bn];rfl
 | false=>rw[cond_false,h119 g ⟨(),⟨z⟩⟩ G hz (hc hf),bn];rfl
abbrev zri (C:Sl aC×Int->ae (aS×aS×Int)):Prop:=∀ g z,dm g->Jm z->C (g,z)=.ok (cond ((DI g ((g.get 0).Z == z)).2 != 0) (⟨0,0⟩,⟨0,0⟩,(DI g ((g.get 0).Z == z)).2) ((DN g z).1,(DN g z).2,0))
theorem zKY {E:Zm}(xG:yO E.c157) (UF:zke E.c117) (zpF:zrh E.zbj):zri (ziD E):=λ g z G hz=>ae.ext λ k=>by
 have hg:=G.2;rw[zGd,xG,bn,bn,show inB z (-100000) 200000=true from decide_eq_true hz,UF g _ (by omega),bn];show cond ((DI g ((g.get 0).Z == z)).2 != 0) (k (⟨0,0⟩,⟨0,0⟩,(DI g ((g.get 0).Z == z)).2)) ((E.zbj ((DI g ((g.get 0).Z == z)).1,z)).T λ r3=>k (r3.1,r3.2,0))=_;unfold DI;rw[nC.2 G];cases hs:iF g with
 | false=>rfl
 | true =>
  cases hf:fV g && !((g.get 0).Z == z) with
  | true=>rfl
  | false =>
   show (E.zbj (gB g,z)).T _=_;rw[zpF g z G hz λ hf=>by unfold iF at hs;rw[hf,cond_false,decide_eq_true_eq] at hs;omega,bn];rfl
def zrj (p:af) (h:bC):bZ:=cond (p.Kind == 3) p.Clock ⟨aO (aO (h.Time - p.Clock.High) - p.dH),aO (aO (h.Time - p.Clock.Low)+p.dH)⟩
def Jo (s:au) (h:bC):bZ:=zrj (s.aj.get h.af.toNat) h
abbrev zrk (C:placed×bC->ae bZ):Prop:=∀ q h,C (q,h)=.ok (zrj q.af h)
theorem zKZ {E:Zl} : zrk (ziC E):=λ q h=>ae.ext λ k=>by rw[zF9,bn,kc k];rfl
abbrev Q74 (C:au×bC->ae bZ):Prop:=∀ s h,jY s h=true->C (s,h)=.ok (Jo s h)
theorem s74 {E:E74} : Q74 (F74 E):=λ s h hh=>ae.ext λ k=>by rw[e74,bn,bD (Gv hh),kc k];rfl
def tmG (s:au) (l:Sl bC):Sl aC:=⟨l.len,λ i=>⟨0,(Jo s (l.get i)).Low,(Jo s (l.get i)).High⟩⟩
theorem HY {g h : Sl aC} {m : Nat} (h0 : 0 < m) (e : ∀ i, i < m → g.get i = h.get i) : ∀ n, n ≤ m → fG g n = fG h n
  | 0,_=>by simp only[fG,e 0 h0]
  | n+1,hn=>by simp only[fG,HY h0 e n (by omega),e n (by omega)]
abbrev zrl (C:au×Sl bC->ae (bZ×Bool)):Prop:=∀ s (l:Sl bC),0 < l.len->l.len<=1000->(∀ i,i < l.len->jY s (l.get i)=true)->C (s,l)=.ok (fG (tmG s l) l.len,decide ((fG (tmG s l) l.len).Low<=(fG (tmG s l) l.len).High))
theorem zK2 {E:UW}(N:Big E.N) (h74:Q74 E.c74):zrl (ziY E):=λ s l h0 h1 hh=>ae.ext λ k=>by
 have:=jX (X:=λ n i=>Nh E n s l ((i+1:Nat):Int) (fG (tmG s l) (i+1)) k) (m:=l.len - 1) (fin:=k (fG (tmG s l) l.len,decide ((fG (tmG s l) l.len).Low<=(fG (tmG s l) l.len).High))) (λ n i hi=>by
  rw[zd1,decide_eq_true (by omega),cond_true,bD (by omega),Int.toNat_natCast,h74 _ _ (hh (i+1) (by omega)),bn,bT (by omega)];rfl) (λ n=>by
  rw[zd1,show l.len - 1+1=l.len by omega,decide_eq_false (by omega)];rfl) E.N (by have:=N;omega)
 rw[show (0+1:Nat)=1 from rfl,Vt] at this;rw[zG3,bD (by omega),h74 _ _ (hh 0 h0),bn,bn];exact this
abbrev zrm (C:au×Sl bC->ae Int):Prop:=∀ s (l:Sl bC),pW s->dU s=true->l.len<=1000->(∀ i,i < l.len->jY s (l.get i)=true)->C (s,l)=.ok 0
theorem zK3 {E:UE}(N:Big E.N) (xE:QSe E.c160) (h112:Zi E.ql):zrm (ziB E):=λ s l hs hb hl hh=>ae.ext λ k=>by
 rw[zF6,decide_eq_false (by omega),cond_false,xE s hs,bn,hb,bn];refine jX (X:=λ n i=>MZ E n s l (i:Int) k) (m:=l.len) (λ n i hi=>?_) (λ n=>?_) _ (by have:=N;omega)
 ·rw [zdM, decide_eq_true (by omega), cond_true, bD (by omega), Int.toNat_natCast, h112 _ _ hs hb, bn, bT (by omega)];show cond (!jY s (l.get i)) _ _=_;rw[hh i hi];rfl
 ·rw[zdM,decide_eq_false (by omega)];rfl
def cmS (x:bZ):bZ×Int:=cond (decide (x.Low > x.High)) (⟨0,0⟩,5) (x,0)
abbrev Q50 (C:au×Sl bC->ae (bZ×Int)):Prop:=∀ s (l:Sl bC),pW s->dU s=true->0 < l.len->l.len<=1000->(∀ i,i < l.len->jY s (l.get i)=true)->C (s,l)=.ok (cmS (fG (tmG s l) l.len))
theorem s50 {E:E50}(N:Big E.N) (zpk:zrm E.zk3) (h112:Zi E.ql) (ziw:zrk E.VF):Q50 (F50 E):=λ s l hs hb h0 hl hh=>ae.ext λ k=>by
 have hm:(((l.len:Int) - 1).toNat:Int)=((l.len - 1:Nat):Int):=by omega
 have tm:∀ i,i < l.len->zrj (ofP s (l.get i)).af (l.get i)=Jo s (l.get i):=λ i hi=>by rw[zdG (hh i hi)];rfl
 have:=jX (X:=λ n i=>Xn E n s l (i:Int) (fG (tmG s l) (i+1)) k) (m:=l.len - 1) (fin:=k (cmS (fG (tmG s l) l.len))) (λ n i hi=>by
  rw[zmf,hm,decide_eq_true (by omega),cond_true,bD (by omega),Int.toNat_natCast];show (E.ql (s,l.get (i+1))).T _=_;rw[h112 _ _ hs hb,bn];show (E.VF (ofP s (l.get (i+1)),l.get (i+1))).T _=_;rw[ziw,bn,tm (i+1) (by omega),bT (by omega)];rfl) (λ n=>by
  rw[zmf,hm,show l.len - 1+1=l.len by omega,decide_eq_false (by omega),cond_false,kc k];rfl) E.N (by have:=N;omega)
 rw[show (0+1:Nat)=1 from rfl,Vt] at this;rw[e50,zpk s l hs hb hl hh,bn,show ((0:Int) != 0)=false from rfl,cond_false,show ((l.len:Int) == 0)=false by rw[dqU];omega,cond_false,bD (by omega),h112 _ _ hs hb,bn,bD (by omega)];show (E.VF (ofP s (l.get 0),l.get 0)).T _=_;rw[ziw,bn,bD (by omega),tm 0 h0,bn];exact this
def KI (l : Sl bC) (w : Sl Int) : Nat → Sl bC
  | 0=>⟨0,λ _=>⟨0,0,0,0,0,0⟩⟩
  | i+1=>qp (KI l w i) (l.get (w.get i).toNat)
theorem lI (l : Sl bC) (w : Sl Int) : ∀ n, (KI l w n).len = n
  | 0=>rfl
  | n+1=>by show (KI l w n).len+1=n+1;rw[lI l w n]
theorem NU (l : Sl bC) (w : Sl Int) : ∀ n i, i < n → (KI l w n).get i = l.get (w.get i).toNat
  | n+1,i,h=>by
    show jd (KI l w n).len (KI l w n).get (λ _=>l.get (w.get n).toNat) i=_;rw[iy,lI];by_cases e:i=n
    · rw[if_pos (by omega),e]
    · rw[if_neg (by omega),NU l w n i (by omega)]
def InH (l:Sl bC) (w:Sl Int):Prop:=∀ i,i < w.len->0<=w.get i/\w.get i < (l.len:Int)
theorem zfu {s:au}{l:Sl bC}(he:Evt s l){w:Sl Int}(h:InH l w):∀ i,i < (KI l w w.len).len->jY s ((KI l w w.len).get i)=true:=λ i hi=>by
 rw[lI] at hi;rw[NU _ _ _ _ hi];have:=h i hi;exact dG.1 he.hi _ (by omega)
def Rw (s:au) (l:Sl bC) (c:jc):bZ:=fG ⟨c.length,λ i=>⟨0,(Jo s (l.get ((c[i]?).getD (0,0)).1.toNat)).Low,(Jo s (l.get ((c[i]?).getD (0,0)).1.toNat)).High⟩⟩ c.length
theorem XW {s:au}{l:Sl bC}{t:ai}{c:jc}(hc:gX t=c) (h0:0 < t.Hits.len):fG (tmG s (KI l t.Hits t.Hits.len)) (KI l t.Hits t.Hits.len).len=Rw s l c:=by
 unfold Rw;rw[lI,<- hc,mV];refine HY h0 (λ i hi=>?_) _ (iZ _);show (⟨0,(Jo s ((KI l t.Hits t.Hits.len).get i)).Low,(Jo s ((KI l t.Hits t.Hits.len).get i)).High⟩:aC)=⟨0,(Jo s (l.get (((gX t)[i]?).getD (0,0)).1.toNat)).Low,(Jo s (l.get (((gX t)[i]?).getD (0,0)).1.toNat)).High⟩;rw[NU _ _ _ _ hi,NL hi];rfl
def Vy (s:au) (l:Sl bC) (c:jc):Bool:=decide ((Rw s l c).Low<=(Rw s l c).High)
abbrev Q93 (C:Pt aW×ai->ae (bZ×Bool)):Prop:=∀ s l r t c,Evt s l->InH l t.Hits->0 < t.Hits.len->t.Hits.len<=100->gX t=c->C (iL s r l,t)=.ok ((cmS (Rw s l c)).1,Vy s l c)
theorem s93 {E:E93}(N:Big E.N) (h50:Q50 E.c50):Q93 (F93 E):=λ s l r t c he hi h0 h1 hc=>ae.ext λ k=>by
 rw[e93,bn];refine jX (X:=λ n i=>Xv E n (iL s r l) t (i:Int) (KI l t.Hits i) k) (m:=t.Hits.len) (λ n i hi'=>?_) (λ n=>?_) _ (by have:=N;omega)
 ·have a := hi i hi';rw[zmq,decide_eq_true (by omega),cond_true,bD (by omega),Int.toNat_natCast,bD (show 0<=t.Hits.get i/\t.Hits.get i < ((iL s r l).v.hits.len:Int) from a),jl (by rw[lI];omega) (by omega),bT (by omega)];rfl
 ·rw [zmq, decide_eq_false (by omega), cond_false];show (E.c50 (s,KI l t.Hits t.Hits.len)).T _=_;rw[h50 _ _ he.sh he.se (by rw[lI];omega) (by rw[lI];omega) (zfu he hi),bn,XW hc h0];have:((cmS (Rw s l c)).2 == 0)=Vy s l c:=by
   unfold cmS Vy;by_cases h:(Rw s l c).Low > (Rw s l c).High
   ·rw[decide_eq_true h,decide_eq_false (by omega)];rfl
   ·rw[decide_eq_false h,decide_eq_true (by omega)];rfl
  rw[this]
abbrev zro (C:Sl bC×Sl Int->ae (Sl bC)):Prop:=∀ (l:Sl bC) (w:Sl Int),InH l w->w.len<=100->C (l,w)=.ok (KI l w w.len)
theorem zK6 {E:UX}(N:Big E.N):zro (ziZ E):=λ l w hi h1=>ae.ext λ k=>by
 rw[zG5,bn];refine jX (X:=λ n i=>Nj E n l w (i:Int) (KI l w i) k) (m:=w.len) (λ n i hi'=>?_) (λ n=>?_) _ (by have:=N;omega)
 ·have a := hi i hi';rw[zd2,decide_eq_true (by omega),cond_true,bD (by omega),Int.toNat_natCast,bD a,jl (by rw[lI];omega) (by omega),bT (by omega)];rfl
 ·rw[zd2,decide_eq_false (by omega)];rfl
abbrev Q90 (C:au×Sl bC×Sl Int->ae Bool):Prop:=∀ s l (w:Sl Int),Evt s l->InH l w->0 < w.len->w.len<=100->C (s,l,w)=.ok (decide ((fG (tmG s (KI l w w.len)) (KI l w w.len).len).Low<=(fG (tmG s (KI l w w.len)) (KI l w w.len).len).High))
theorem s90 {E:E90}(zps:zro E.c148) (zpt:zrl E.zla):Q90 (F90 E):=λ s l w he hi h0 h1=>ae.ext λ k=>by
 rw[e90,zps _ _ hi h1,bn,zpt _ _ (by rw[lI];omega) (by rw[lI];omega) (zfu he hi),bn,bn]
def zO (s:au) (l:Sl bC) (c:jc):Bool:=Vy s l c && iF (zN s l c)
theorem Bl {s:au}{l:Sl bC}{x:Int}{t:ai}{c:jc}{j:Nat}(hc:gX t=c) (h:Val s l x c j):InH l t.Hits:=λ i hi=>by
 have:=vY hc hi;have m:=(h.mem _ (DW this)).1;have:=h.le;simp only at m;omega
theorem NV {t:ai}{c:jc}(hc:gX t=c) (hn:c ≠ []):0 < t.Hits.len:=by
 rw[<- mV,hc];exact List.length_pos_iff.2 hn
theorem o5 {s:au}{l:Sl bC}{x:Int}{t:ai}{c:jc}{j:Nat}(hc:gX t=c) (h:Val s l x c j):t.Hits.len<=l.len:=by
 rw[<- mV,hc];have:=h.le;omega
structure Ev (s : au) (l : Sl bC) (x : Int) : Prop extends Evt s l where
  l24:l.len<=24
  vw:vwB x=true
abbrev zrp (C:Pt aW×ai->ae Bool):Prop:=∀ s l r x t c j,Ev s l x->Oq x t->gX t=c->Val s l x c j->c ≠ []->C (iL s r l,t)=.ok (zO s l c)
theorem zK8 {E:ZT}(h93:Q93 E.c93) (UQ:zit E.c105) (zp9:zqS E.zlo):zrp (zjq E):=λ s l r x t c j he ht hc hv hn=>ae.ext λ k=>by
 have hl:=o5 hc hv;have uZ:=he.l24;have G:=NQ he.toEvt he.l24 hv hn;obtain⟨y,hy⟩:=zp9 (zN s l c) (by have:=G.2;omega);rw[zIf,h93 s l r t c he.toEvt (Bl hc hv) (NV hc hn) (by omega) hc,bn,bn];unfold zO;cases Vy s l c with
 | false=>rfl
 | true =>
  show (E.c105 (iL s r l,t)).T _=_;rw[UQ s l r t he.toEvt (by omega) (DK he.vw ht hc hv hn),bn,NP hc,hy,bn,<- zqT G];rfl
abbrev zku (C:au×Sl bC×ai->ae Bool):Prop:=∀ s l x t c j,Ev s l x->Oq x t->gX t=c->Val s l x c j->c ≠ []->C (s,l,t)=.ok (zO s l c)
theorem zK9 {E:ZY}(h65:Q65 E.c65) (zqg:zq7 E.c145) (h90:Q90 E.c90):zku (zjB E):=λ s l x t c j he ht hc hv hn=>ae.ext λ k=>by
 have hl:=o5 hc hv;have uZ:=he.l24;have G:=NQ he.toEvt he.l24 hv hn;rw[zIG,h65 s l t he.toEvt (by omega) (DK he.vw ht hc hv hn),bn,NP hc,zqg _ G,bn,h90 s l _ he.toEvt (Bl hc hv) (NV hc hn) (by omega),bn,XW hc (NV hc hn),bn];unfold zO;show cond (iF (zN s l c)) (k (Vy s l c)) (k false)=_;cases iF (zN s l c) <;> cases Vy s l c <;> rfl
abbrev zrq (C:Int×Pt (Pt aW)×Pt Int->ae Bool):Prop:=∀ s l r i k,0<=i/\i < (l.len:Int)->0<=k/\k < (l.len:Int)->C (i,⟨iL s r l⟩,⟨k⟩)=.ok ((l.get i.toNat).af == (l.get k.toNat).af)
theorem zLa {E:ZR} : zrq (zjo E):=λ s l r i k hi hk=>ae.ext λ K=>by
 rw[zIb,bn];exact (bD (p:=0<=i/\i < (l.len:Int)) hi).trans (bD (p:=0<=k/\k < (l.len:Int)) hk)
abbrev zrr (C:Int×Pt (Pt aW)×Pt Int->ae Bool):Prop:=∀ s l r i p,0<=i/\i < (l.len:Int)->C (i,⟨iL s r l⟩,⟨p⟩)=.ok ((l.get i.toNat).af == p)
theorem zLb {E:ZV} : zrr (zjv E):=λ s l r i p hi=>ae.ext λ K=>by
 rw[e190,bn];exact bD (p:=0<=i/\i < (l.len:Int)) hi
abbrev zaz:=dN 180 Unit (Pt (Pt aW)×Pt Int) ⊕ dN 190 Unit (Pt (Pt aW)×Pt Int)
def zkv (l : Sl bC) : zaz → Int → Bool
  | .inl c,h=>(l.get h.toNat).af == (l.get c.v.2.v.toNat).af
  | .inr c,h=>(l.get h.toNat).af == c.v.2.v
def okU (s : au) (l : Sl bC) (r : bP) : zaz → Prop
  | .inl c=>c.v.1.v=iL s r l/\0<=c.v.2.v/\c.v.2.v < (l.len:Int)
  | .inr c=>c.v.1.v=iL s r l
abbrev QUx {γ:Type}(i:γ->zaz) (C:Sl Int×γ->ae Int):Prop:=∀ s l r (w:Sl Int) (c:γ),InH l w->w.len<=1000->okU s l r (i c)->C (w,c)=.ok (fst (λ j=>zkv l (i c) (w.get j)) w.len 0)
abbrev QUa {γ:Type}(i:γ->zaz) (C:Sl Int×γ->ae Bool):Prop:=∀ s l r (w:Sl Int) (c:γ),InH l w->w.len<=1000->okU s l r (i c)->C (w,c)=.ok (!dR (λ j=>!zkv l (i c) (w.get j)) w.len)
abbrev zkw (C:Sl Int×zaz->ae Int):Prop:=QUx id C
abbrev zkx (C:Sl Int×zaz->ae Bool):Prop:=QUa id C
theorem zfv {E:oh}(N:Big E.N) (zqn:zrq E.zgf):QUx .inl (zl E):=λ s l r w c hi hw ho=>ae.ext λ k=>by
 obtain⟨⟨⟩,⟨a⟩,⟨b⟩⟩:=c;obtain⟨rfl,hb⟩:=ho;rw[zeH,bn];refine Cj (L:=λ n i=>sO E n w _ i k) (p:=λ j=>zkv l (.inl ⟨(),⟨iL s r l⟩,⟨b⟩⟩) (w.get j)) (m:=w.len) (k:=k) (by omega) (λ n i hi'=>?_) (λ n=>?_) _ (by have:=N;omega)
 ·rw [GV, decide_eq_true (by omega), cond_true, bD (by omega), Int.toNat_natCast];show (E.zgf (w.get i,⟨iL s r l⟩,⟨b⟩)).T _=_;rw[zqn s l r _ _ (hi i hi') hb,bn];rfl
 ·rw[GV,decide_eq_false (by omega)];rfl
theorem zfw {E:oq}(N:Big E.N) (zqo:zrr E.zgh):QUx .inr (zn E):=λ s l r w c hi hw ho=>ae.ext λ k=>by
 obtain⟨⟨⟩,⟨a⟩,⟨b⟩⟩:=c;have ho:a=iL s r l:=ho;subst ho;rw[zeJ,bn];refine Cj (L:=λ n i=>sQ E n w _ i k) (p:=λ j=>zkv l (.inr ⟨(),⟨iL s r l⟩,⟨b⟩⟩) (w.get j)) (m:=w.len) (k:=k) (by omega) (λ n i hi'=>?_) (λ n=>?_) _ (by have:=N;omega)
 ·rw [GX, decide_eq_true (by omega), cond_true, bD (by omega), Int.toNat_natCast];show (E.zgh (w.get i,⟨iL s r l⟩,⟨b⟩)).T _=_;rw[zqo s l r _ _ (hi i hi'),bn];rfl
 ·rw[GX,decide_eq_false (by omega)];rfl
theorem zLc {f:Sl Int×dN 180 Unit (Pt (Pt aW)×Pt Int)->ae Int}{g:Sl Int×dN 190 Unit (Pt (Pt aW)×Pt Int)->ae Int}(a:QUx .inl f) (b:QUx .inr g):zkw (ae.two f g):=λ s l r w c hi hw ho=>by
 rcases c with c | c
 ·exact a s l r w c hi hw ho
 ·exact b s l r w c hi hw ho
theorem zfx {E:qW}(U7:zkw E.c210):QUa .inl (zf E):=λ s l r w c hi hw ho=>ae.ext λ k=>by rw[zee,U7 s l r w (.inl c) hi hw ho,bn,bn,sZ];rfl
theorem zfy {E:qX}(U7:zkw E.c210):QUa .inr (zg E):=λ s l r w c hi hw ho=>ae.ext λ k=>by rw[zei,U7 s l r w (.inr c) hi hw ho,bn,bn,sZ];rfl
theorem zLd {f:Sl Int×dN 180 Unit (Pt (Pt aW)×Pt Int)->ae Bool}{g:Sl Int×dN 190 Unit (Pt (Pt aW)×Pt Int)->ae Bool}(a:QUa .inl f) (b:QUa .inr g):zkx (ae.two f g):=λ s l r w c hi hw ho=>by
 rcases c with c | c
 ·exact a s l r w c hi hw ho
 ·exact b s l r w c hi hw ho
theorem zfz {l:Sl bC}{t:ai}{c:jc}(hc:gX t=c) (p:Int->Bool):(!dR (λ j=>!p (t.Hits.get j)) t.Hits.len)=c.any λ q=>p q.1:=by
 rw[Bool.eq_iff_iff,Bool.not_eq_true',<- Bool.not_eq_true,dG,List.any_eq_true];constructor
 ·intro h;apply Classical.byContradiction;intro hn;refine h λ j hj=>?_;cases e:p (t.Hits.get j) with
  | false=>rfl
  | true=>exact (hn ⟨_,DW (vY hc hj),e⟩).elim
 ·rintro ⟨q, hq, e⟩ h;obtain⟨j,hj,rfl⟩:=List.getElem_of_mem hq;have hl:j < t.Hits.len:=by rw[<- mV,hc];exact hj
  have:=vY hc hl;rw[zL hj] at this;have:=Option.some.inj this;have h2:=h j hl;rw[this] at e;rw[e] at h2;cases h2
def zQ (w:Sl ai):List jc:=(List.range w.len).map λ i=>gX (w.get i)
theorem jq (w:Sl ai):(zQ w).length=w.len:=by simp[zQ]
theorem zky {w:Sl ai}{i:Nat}(h:i < w.len):(zQ w)[i]? = some (gX (w.get i)):=by simp[zQ,List.getElem?_range h]
def wE (x:Int) (w:Sl ai):Prop:=∀ i,i < w.len->Oq x (w.get i)
theorem XX (w:Sl ai) (t:ai):zQ (qp w t)=zQ w ++ [gX t]:=by
 unfold zQ;show (List.range (w.len+1)).map _=_;rw[List.range_succ,List.map_append];congr 1
 ·exact List.map_congr_left λ i hi=>by
   show gX (jd w.len w.get (λ _=>t) i)=_;rw[iy,if_neg (by have:=List.mem_range.1 hi;omega)]
 ·show [gX (jd w.len w.get (fun _ => t) w.len)] = _;rw[iy,if_pos (iZ _)]
theorem Rx {x:Int}{w:Sl ai}{t:ai}(h:wE x w) (ht:Oq x t):wE x (qp w t):=λ i hi=>by
 show Oq x (jd w.len w.get (λ _=>t) i);rw[iy];by_cases e:w.len<=i
 ·rw[if_pos e];exact ht
 ·rw[if_neg e];exact h i (by omega)
def SA (x:Int) (t:ai) (p:Int×Int):ai:=⟨x,⟨t.Hits.len+1,jd t.Hits.len t.Hits.get λ _=>p.1⟩,⟨t.bz.len+1,jd t.bz.len t.bz.get λ _=>p.2⟩⟩
theorem XY {x:Int}{t:ai}{p:Int×Int}(h:t.bz.len=t.Hits.len):gX (SA x t p)=gX t ++ [p]:=by
 refine zfr rfl (λ j hj=>?_) ?_
 ·show jd t.Hits.len t.Hits.get (fun _ => p.1) j = _ ∧ jd t.bz.len t.bz.get (fun _ => p.2) j = _;rw[iy,iy,if_neg (by omega),if_neg (by omega)];exact⟨rfl,rfl⟩
 ·show jd t.Hits.len t.Hits.get (fun _ => p.1) t.Hits.len = _ ∧ jd t.bz.len t.bz.get (fun _ => p.2) t.Hits.len = _;rw[iy,iy,if_pos (by omega),if_pos (by omega)];exact⟨rfl,rfl⟩
theorem Bo {x:Int}{t:ai}{p:Int×Int}(h:t.bz.len=t.Hits.len):Oq x (SA x t p):=⟨rfl,by show t.bz.len+1=t.Hits.len+1;rw[h]⟩
abbrev zyx:=ai×Int×Bc 143 (Pt aW)×Bc 38 Int×Bw 30 43 3 56 ai×Bs 255 178 2 4×Unit
abbrev XZ:=Unit×(Unit×Unit×Pt aW×Int×Sl ai×Unit×Unit)
def QM (f:Nat) (C:zyx->ae XZ):Prop:=∀ s l r x t c (i:Nat) (w:Sl ai),Ev s l x->Val s l x c i->gX t=c->t.bz.len=t.Hits.len->l.len < i+f->wE x w->w.len+(gr (zO s l) (wV l) (IZ s l x) f c i).length<=2000 ->
 ∃ w',C (t,(i:Int),⟨iL s r l⟩,⟨x⟩,⟨w⟩,{},())=.ok ((),(),(),iL s r l,x,w',(),())/\zQ w'=zQ w ++ gr (zO s l) (wV l) (IZ s l x) f c i/\wE x w'
theorem zLe {E:ZQ}{f:Nat}(UR:zkx E.IR) (zp8:zrp E.c182) (i173:zpi E.i173) (hm:QM f E.IV):QM (f+1) (zjm E):=λ s l r x t c i w he hv hc ht hf hw hn=>by
 have uZ:=he.l24;have hle:=hv.le;have hlen:=o5 hc hv
 have key:∀ (ys:jc) (w:Sl ai),(∀ y∈ys,y∈IZ s l x i)->wE x w->w.len+(ys.flatMap λ p=>cond (wV l c p.1 || !zO s l (c ++ [p])) [] ((c ++ [p]) :: gr (zO s l) (wV l) (IZ s l x) f (c ++ [p]) (p.1.toNat+1))).length<=2000 ->
   ∃ w',(∀ (A:Type) (k:XZ->Option A) (w0:Sl ai),lZ E ys t (i:Int) (iL s r l) x w0 (iL s r l) x w k=k ((),(),(),iL s r l,x,w',(),()))/\zQ w'=zQ w ++ (ys.flatMap λ p=>cond (wV l c p.1 || !zO s l (c ++ [p])) [] ((c ++ [p]) :: gr (zO s l) (wV l) (IZ s l x) f (c ++ [p]) (p.1.toNat+1)))/\wE x w':=by
  intro ys
  induction ys with
  | nil=>intro w _ hw _;exact⟨w,λ A k w0=>zjn ..,by simp,hw⟩
  | cons y ys ih =>
   intro w hy hw hn;rw[lJ] at hn ⊢;rw[RY] at hn;have hys:∀ z∈ys,z∈IZ s l x i:=λ z hz=>hy z (je _ hz);obtain⟨_,y1,_,_⟩:=Rk (hy y kR);have u:(E.IR (t.Hits,.inl ⟨(),⟨iL s r l⟩,⟨y.1⟩⟩))=.ok (wV l c y.1):=by
    rw[UR s l r t.Hits (.inl ⟨(),⟨iL s r l⟩,⟨y.1⟩⟩) (Bl hc hv) (by omega) ⟨rfl,(by show 0<=y.1;omega),(by show y.1 < (l.len:Int);omega)⟩];exact congrArg ae.ok (zfz (l:=l) hc λ h=>(l.get h.toNat).af == (l.get y.1.toNat).af)
   have skip:∀ (A:Type) (k:XZ->Option A) (w0:Sl ai),wV l c y.1=true->lZ E (y :: ys) t (i:Int) (iL s r l) x w0 (iL s r l) x w k=lZ E ys t (i:Int) (iL s r l) x w0 (iL s r l) x w k:=λ A k w0 e=>by
    rw[zeb,u,bn,e];rfl
   cases hu:wV l c y.1 with
   | true =>
    rw[hu] at hn;obtain⟨w',a,b,d⟩:=ih w hys hw (by simpa using hn);exact⟨w',λ A k w0=>by rw[skip A k w0 hu,a],by rw[b];rfl,d⟩
   | false =>
    have hv2:=hv.snoc (hy y kR) hu;have hc2:gX (SA x t y)=c ++ [y]:=by rw[XY ht,hc]
    have ag:=zp8 s l r x (SA x t y) (c ++ [y]) _ he (Bo ht) hc2 hv2 (by simp);have st:∀ (A:Type) (k:XZ->Option A) (w0:Sl ai),lZ E (y :: ys) t (i:Int) (iL s r l) x w0 (iL s r l) x w k=cond (!zO s l (c ++ [y])) (lZ E ys t (i:Int) (iL s r l) x w0 (iL s r l) x w k) (bf (room (w.len+1) 56) (cond (decide ((w.len:Int)+1 > 2000)) none ((E.IV (SA x t y,aO (y.1+1),⟨iL s r l⟩,⟨x⟩,⟨qp w (SA x t y)⟩,{},())).T λ r3=>lZ E ys t (i:Int) (iL s r l) x w0 r3.2.2.2.1 r3.2.2.2.2.1 r3.2.2.2.2.2.1 k))):=λ A k w0=>by
     rw[zeb,u,bn,hu,cond_false,jl (by omega) (by omega),jl (by omega) (by omega),jl (by omega) (by omega),jl (by omega) (by omega)];show (E.c182 (iL s r l,SA x t y)).T _=_;rw[ag,bn];rfl
    cases ha:zO s l (c ++ [y]) with
    | false =>
     rw[hu,ha] at hn;obtain⟨w',a,b,d⟩:=ih w hys hw (by simpa using hn);exact⟨w',λ A k w0=>by rw[st,ha];exact a A k w0,by rw[b];rfl,d⟩
    | true =>
     rw[hu,ha] at hn;simp only[Bool.not_true,Bool.or_self,cond_false,Oi] at hn;have e1:aO (y.1+1)=((y.1.toNat+1:Nat):Int):=by rw[bg (by omega) (by omega)];omega
     obtain⟨w1,a1,b1,d1⟩:=hm s l r x (SA x t y) (c ++ [y]) (y.1.toNat+1) (qp w (SA x t y)) he hv2 hc2 (Bo (x:=x) ht).2 (by omega) (Rx hw (Bo ht)) (by show w.len+1+_<=_;omega);have l1:w1.len=w.len+1+(gr (zO s l) (wV l) (IZ s l x) f (c ++ [y]) (y.1.toNat+1)).length:=by
      rw[<- jq,b1,RY,jq];rfl
     obtain⟨w',a,b,d⟩:=ih w1 hys d1 (by rw[l1];omega);refine⟨w',λ A k w0=>?_,?_,d⟩
     ·rw [st, ha, e1, a1, bn, jl (by omega) (by omega), decide_eq_false (by omega)];exact a A k w0
     ·rw[b,b1,XX,hc2];simp
 obtain⟨w',a,b,d⟩:=key (IZ s l x i) w (λ y hy=>hy) hw hn;refine⟨w',ae.ext λ k=>?_,b,d⟩;rw[zH5,i173 s l r x i he.toEvt hle.2,bn,bn];exact a _ k w
def l9 (s:au) (l:Sl bC) (x:Int):List jc:=gr (zO s l) (wV l) (IZ s l x) 30 [] 0
theorem X0 (s:au) (l:Sl bC) (x:Int):Val s l x [] 0:=⟨⟨iZ _,Nat.zero_le _⟩,(λ p h=>by cases h),List.Pairwise.nil⟩
abbrev zrv (C:Pt aW×Int->ae (Sl ai×Bool)):Prop:=∀ s l r x,Ev s l x->(l9 s l x).length<=2000->∃ w,C (iL s r l,x)=.ok (w,true)/\zQ w=l9 s l x/\wE x w
theorem zLf {E:Zq}(hm:QM 30 E.IV):zrv (ziN E):=λ s l r x he hn=>by
 have uZ:=he.l24;obtain⟨w',a,b,d⟩:=hm s l r x ⟨0,⟨0,λ _=>default⟩,⟨0,λ _=>default⟩⟩ [] 0 ⟨0,λ _=>⟨0,⟨0,λ _=>0⟩,⟨0,λ _=>0⟩⟩⟩ he (X0 s l x) rfl rfl (by omega) (λ i hi=>absurd hi (Si i)) (by show 0+(l9 s l x).length<=_;omega);exact⟨w',ae.ext λ k=>by rw[e127];show (E.IV (_,((0:Nat):Int),_)).T _=_;rw[a,bn,bn],b,d⟩
abbrev zrx (C:ai×Int×Int->ae ai):Prop:=∀ t i k,t.Hits.len<=1000->t.bz.len<=1000->C (t,i,k)=.ok (SA t.View t (i,k))
theorem zLg {E:zad} : zrx (zjT E):=λ t i k h1 h2=>ae.ext λ K=>by
 rw[e227,bn,jl (by omega) (by omega),jl (by omega) (by omega),jl (by omega) (by omega),jl (by omega) (by omega)];rfl
abbrev stC (s:au) (l:Sl bC) (x:Int) (f:Nat) (c:jc):List jc->Int×Int->List jc:=λ out p=>cond (wV l c p.1 || (decide (2000 < out.length) || !zO s l (c ++ [p]))) out (NI (zO s l) (wV l) (IZ s l x) f (out ++ [c ++ [p]]) (c ++ [p]) (p.1.toNat+1))
def QW (f:Nat) (C:(au×Sl bC×ai×Int)×Sl ai->ae (Sl ai)):Prop:=∀ s l x t c (i:Nat) (w:Sl ai),Ev s l x->Val s l x c i->gX t=c->Oq x t->l.len < i+f->wE x w->w.len<=2001 ->
 ∃ w',C ((s,l,t,(i:Int)),w)=.ok w'/\zQ w'=NI (zO s l) (wV l) (IZ s l x) f (zQ w) c i/\wE x w'
theorem zfA {s : au} {l : Sl bC} {x : Int} {f : Nat} {c : jc} {i : Int} (h : wV l c i = true) : ∀ (d k : Nat) (out : List jc), (Xl i d k).foldl (stC s l x f c) out = out
  | 0,_,_=>rfl
  | d+1,k,out=>by
    rw[Xl,List.foldl_cons];show (Xl i d (k+1)).foldl _ (cond (wV l c i || _) out _)=out;rw[h];exact zfA h d (k+1) out
theorem Ry {s : au} {l : Sl bC} {x : Int} {f : Nat} {c : jc} {i : Int} : ∀ (d k : Nat) (out : List jc), 2000 < out.length → (Xl i d k).foldl (stC s l x f c) out = out
  | 0,_,_,_=>rfl
  | d+1,k,out,h=>by
    rw[Xl,List.foldl_cons];have:stC s l x f c out (i,(k:Int))=out:=by
      show cond (wV l c i || (decide (2000 < out.length) || _)) out _=out;rw[decide_eq_true h,Bool.true_or,Bool.or_true];rfl
    rw[this];exact Ry d (k+1) out h
theorem NW {ag : jc → Bool} {us : jc → Int → Bool} {sd : Nat → jc} : ∀ {f out c i}, out.length ≤ 2001 → (NI ag us sd f out c i).length ≤ 2001
  | 0,out,c,i,h=>h
  | f+1,out,c,i,h=>by
    simp only[NI];generalize sd i=l
    induction l generalizing out with
    | nil=>exact h
    | cons p l ih =>
      rw[List.foldl_cons];refine ih _ ?_;cases hc:us c p.1 || (decide (2000 < out.length) || !ag (c ++ [p])) with
      | true=>exact h
      | false =>
        simp only[Bool.or_eq_false_iff,decide_eq_false_iff_not] at hc;exact NW (by rw[RY];simp only[Oi,SE];omega)
theorem zLh {E:Vb}{f:Nat}(N:Big E.N) (h87:Q87 E.c87) (h75:Q75 E.c75) (zqf:zrx E.c227) (U1:zku E.c196) (hm:QW f E.IW):QW (f+1) (zjA E):=λ s l x t c i w he hv hc ht hf hw hn=>by
 have uZ:=he.l24;have hle:=hv.le;have hlen:=o5 hc hv;have hN:=N
 -- the kQ of one hit
 have inn:∀ (n0:Nat) (a:Nat),i<=a->a < l.len->Qr s l a=x->wV l c (a:Int)=false->∀ (m k n1:Nat) (w:Sl ai),k+m=yR s l a->m < n1->wE x w->w.len<=2001 ->
   ∃ w',(∀ (A:Type) (K:Sl ai->Option A),sN E n0 n1 s l t (a:Int) (xP s (l.get a)) (k:Int) w K=og E n0 s l t ((a+1:Nat):Int) w' K)/\zQ w'=(Xl (a:Int) m k).foldl (stC s l x f c) (zQ w)/\wE x w':=by
  intro n0 a ha1 ha2 hva hus m
  induction m with
  | zero =>
   intro k n1 w hk hn1 hw hwl;obtain⟨n1,rfl⟩:∃ n',n1=n'+1:=⟨n1 - 1,by omega⟩;refine⟨w,λ A K=>?_,rfl,hw⟩;rw[Vd,decide_eq_false (by have:(xP s (l.get a)).len=yR s l a:=rfl;omega),cond_false,bT (by omega)]
  | succ m ih =>
   intro k n1 w hk hn1 hw hwl;obtain⟨n1,rfl⟩:∃ n',n1=n'+1:=⟨n1 - 1,by omega⟩;have hgl:(xP s (l.get a)).len=yR s l a:=rfl;have hg2:=DF s l a;by_cases hfull:2000 < w.len
   ·refine ⟨w, fun A K => ?_, (Ry _ _ _ (by rw [jq]; exact hfull)).symm, hw⟩;rw[Vd,decide_eq_true (by omega),cond_true,decide_eq_false (by omega),cond_false,bT (by omega)]
   ·have hp : ((a : Int), (k : Int)) ∈ IZ s l x i := (XN hle.2).2 ⟨by simp only; omega, by simpa using hva, by simp only; omega, by simp only [Int.toNat_natCast]; omega⟩;have hv2:=hv.snoc hp hus;have hc2:gX (SA x t ((a:Int),(k:Int)))=c ++ [((a:Int),(k:Int))]:=by rw[XY ht.2,hc]
    have ag:=U1 s l x (SA x t ((a:Int),(k:Int))) _ _ he (Bo ht.2) hc2 hv2 (by simp);have st:∀ (A:Type) (K:Sl ai->Option A),sN E n0 (n1+1) s l t (a:Int) (xP s (l.get a)) (k:Int) w K=cond (zO s l (c ++ [((a:Int),(k:Int))])) ((E.IW ((s,l,SA x t ((a:Int),(k:Int)),((a+1:Nat):Int)),qp w (SA x t ((a:Int),(k:Int))))).T λ r3=>sN E n0 n1 s l t (a:Int) (xP s (l.get a)) ((k+1:Nat):Int) r3 K) (sN E n0 n1 s l t (a:Int) (xP s (l.get a)) ((k+1:Nat):Int) w K):=λ A K=>by
     rw[Vd,decide_eq_true (by omega),cond_true,decide_eq_true (by omega),cond_true,zqf _ _ _ (by omega) (by rw[ht.2];omega),bn,ht.1,ag,bn,jl (by omega) (by omega),bT (by omega),bT (by omega)];rfl
    rw[Xl,List.foldl_cons];cases hag:zO s l (c ++ [((a:Int),(k:Int))]) with
    | false =>
     have e:stC s l x f c (zQ w) ((a:Int),(k:Int))=zQ w:=by
      show cond (wV l c (a:Int) || (_ || !zO s l (c ++ [((a:Int),(k:Int))]))) _ _=_;rw[hag,Bool.not_false,Bool.or_true,Bool.or_true];rfl
     rw[e];obtain⟨w',a1,a2,a3⟩:=ih (k+1) n1 w (by omega) (by omega) hw hwl;exact⟨w',λ A K=>by rw[st,hag];exact a1 A K,a2,a3⟩
    | true =>
     have e:stC s l x f c (zQ w) ((a:Int),(k:Int))=NI (zO s l) (wV l) (IZ s l x) f (zQ w ++ [c ++ [((a:Int),(k:Int))]]) (c ++ [((a:Int),(k:Int))]) (a+1):=by
      show cond (wV l c (a:Int) || (decide (2000 < (zQ w).length) || !zO s l (c ++ [((a:Int),(k:Int))]))) _ _=_;rw[hag,hus,jq,decide_eq_false hfull];rfl
     rw[e];obtain⟨w1,b1,b2,b3⟩:=hm s l x (SA x t ((a:Int),(k:Int))) _ (a+1) (qp w (SA x t ((a:Int),(k:Int)))) he hv2 hc2 (Bo ht.2) (by omega) (Rx hw (Bo ht.2)) (by show w.len+1<=_;omega);rw[XX,hc2] at b2;have l1:w1.len<=2001:=by
      rw[<- jq,b2];exact NW (by rw[RY,jq];simp only[Oi,SE];omega)
     obtain⟨w',a1,a2,a3⟩:=ih (k+1) n1 w1 (by omega) (by omega) b3 l1;rw[b2] at a2;exact⟨w',λ A K=>by rw[st,hag,cond_true,b1,bn];exact a1 A K,a2,a3⟩
 have zkz:∀ (ys:jc) (out:List jc),out.length<=2001->(ys.foldl (stC s l x f c) out).length<=2001:=by
  intro ys
  induction ys with
  | nil=>intro out h;exact h
  | cons p ys ih =>
   intro out h;rw[List.foldl_cons];refine ih _ ?_;show (cond (wV l c p.1 || (decide (2000 < out.length) || !zO s l (c ++ [p]))) out _).length<=_;cases hq:wV l c p.1 || (decide (2000 < out.length) || !zO s l (c ++ [p])) with
   | true=>exact h
   | false =>
    simp only[Bool.or_eq_false_iff,decide_eq_false_iff_not] at hq;exact NW (by rw[RY];simp only[Oi,SE];omega)
 have key:∀ (d a n:Nat) (w:Sl ai),a+d=l.len->i<=a->d < n->wE x w->w.len<=2001->∃ w',(∀ (A:Type) (K:Sl ai->Option A),og E n s l t (a:Int) w K=K w')/\zQ w'=(sdL s l x d a).foldl (stC s l x f c) (zQ w)/\wE x w':=by
  intro d
  induction d with
  | zero =>
   intro a n w ha hi hn hw hwl;obtain⟨n,rfl⟩:∃ n',n=n'+1:=⟨n - 1,by omega⟩;exact⟨w,λ A K=>by rw[zes,decide_eq_false (by omega)];rfl,rfl,hw⟩
  | succ d ih =>
   intro a n w ha hi hn hw hwl;obtain⟨n,rfl⟩:∃ n',n=n'+1:=⟨n - 1,by omega⟩;have hpl:=he.pl (i:=a) (by omega);rw[sdL,List.foldl_append];have us:E.c87 (l,t.Hits,(l.get a).af)=.ok (wV l c (a:Int)):=by
    rw[h87 l t.Hits _ (by omega) (Bl hc hv)];refine congrArg ae.ok ?_;have:=zfz (l:=l) hc λ h=>(l.get h.toNat).af == (l.get a).af;unfold wV;rw[Int.toNat_natCast,<- this];rfl
   have st:∀ (A:Type) (K:Sl ai->Option A),og E (n+1) s l t (a:Int) w K=cond (Qr s l a != x) (og E n s l t ((a+1:Nat):Int) w K) (cond (wV l c (a:Int)) (og E n s l t ((a+1:Nat):Int) w K) (sN E n E.N s l t (a:Int) (xP s (l.get a)) ((0:Nat):Int) w K)):=λ A K=>by
    rw[zes,decide_eq_true (by omega),cond_true,bD (by omega),Int.toNat_natCast,bD hpl,us,bn,h75 s _ he.sh hpl,bn,bT (by omega),ht.1];rfl
   cases hv1:Qr s l a == x with
   | false =>
    have e1:(Qr s l a != x)=true:=by rw[bne,hv1];rfl
    rw[e1] at st;obtain⟨w',a1,a2,a3⟩:=ih (a+1) n w (by omega) (by omega) (by omega) hw hwl;exact⟨w',λ A K=>by rw[st];exact a1 A K,a2,a3⟩
   | true =>
    have e1:(Qr s l a != x)=false:=by rw[bne,hv1];rfl
    rw[e1] at st;rw[cond_true];cases hu:wV l c (a:Int) with
    | true =>
     rw[hu] at st;obtain⟨w',a1,a2,a3⟩:=ih (a+1) n w (by omega) (by omega) (by omega) hw hwl;exact⟨w',λ A K=>by rw[st];exact a1 A K,by rw[zfA hu];exact a2,a3⟩
    | false =>
     rw[hu] at st;obtain⟨w1,b1,b2,b3⟩:=inn n a hi (by omega) (eq_of_beq hv1) hu (yR s l a) 0 E.N w (by omega) (by have:=DF s l a;omega) hw hwl;have l1:w1.len<=2001:=by
      rw[<- jq,b2];exact zkz _ _ (by rw[jq];exact hwl)
     obtain⟨w',a1,a2,a3⟩:=ih (a+1) n w1 (by omega) (by omega) (by omega) b3 l1;rw[b2] at a2;exact⟨w',λ A K=>by rw[st];exact (b1 A K).trans (a1 A K),a2,a3⟩
 obtain⟨w',a1,a2,a3⟩:=key (l.len - i) i E.N w (by omega) (iZ _) (by omega) hw hn;refine⟨w',ae.ext λ K=>by rw[e195,bn];exact a1 _ K,?_,a3⟩;rw[a2,NI];rfl
def Rz (s:au) (l:Sl bC) (x:Int):List jc:=NI (zO s l) (wV l) (IZ s l x) 30 [] [] 0
theorem X3 {s:au}{l:Sl bC}{x:Int}(h:(Rz s l x).length<=2000):Rz s l x=l9 s l x:=by
 have:=(zfn (f:=30) (out:=[]) (c:=[]) (i:=0)).2 h;rw[List.nil_append] at this;exact this
abbrev zry (C:au×Sl bC×Int->ae (Sl ai×Bool)):Prop:=∀ s l x,Ev s l x->∃ w,C (s,l,x)=.ok (w,decide ((Rz s l x).length<=2000))/\zQ w=Rz s l x/\wE x w/\w.len<=2001
theorem zLi {E:ZB}(hm:QW 30 E.IW):zry (zi5 E):=λ s l x he=>by
 have uZ:=he.l24;obtain⟨w',a,b,d⟩:=hm s l x ⟨x,⟨0,λ _=>default⟩,⟨0,λ _=>default⟩⟩ [] 0 ⟨0,λ _=>⟨0,⟨0,λ _=>default⟩,⟨0,λ _=>default⟩⟩⟩ he (X0 s l x) rfl ⟨rfl,rfl⟩ (by omega) (λ i hi=>absurd hi (Si i)) (Nat.zero_le _);have hb:zQ w'=Rz s l x:=b;refine⟨w',ae.ext λ k=>?_,hb,d,?_⟩
 ·rw [e153];show (E.IW ((_,_,_,((0:Nat):Int)),_)).T _=_;rw[a,bn,bn];have:decide ((w'.len:Int)<=2000)=decide ((Rz s l x).length<=2000):=by rw[<- hb,jq];exact decide_eq_decide.2 (by omega)
  rw[this]
 ·rw[<- jq,hb];exact NW (Nat.zero_le _)
abbrev zrz (C:Int->ae Bool):Prop:=∀ x,C x=.ok false
theorem zLj {E:zak} : zrz (zjY E):=λ x=>ae.ext λ k=>by rw[e237,bn,show (x != x)=false by simp]
abbrev zrA (C:Int×Int->ae Bool):Prop:=∀ a b,C (a,b)=.ok (decide (a < b))
theorem zLk {E:zaj}(QH:zkh E.IU):zrA (zjX E):=λ a b=>ae.ext λ k=>by rw[zJA,QH,bn,bn];rfl
theorem zrB {a:Int}(h:0<=a/\a<=1000000):aO (CG .u64 (IntKind.u64.wrap (aO a)) 1)=a / 2:=by
 have e1:aO a=a:=bg (by omega) (by omega);have e2:IntKind.u64.wrap a=a:=by
  have hb:IntKind.u64.bits=64:=rfl;have hs:IntKind.u64.signed=false:=rfl;unfold IntKind.wrap;rw[hb,hs];simp only[Bool.false_and,Bool.false_eq_true,if_false];omega
 have e3:CG .u64 a 1=a / 2:=by
  show a.fdiv (2 ^ (min (1:Int).toNat 64))=_;rw[Int.fdiv_eq_ediv_of_nonneg _ (by decide)];rfl
 rw[e1,e2,e3,bg (by omega) (by omega)]
def hasB (w:Sl Int) (x:Int):Bool:=!dR (λ j=>!decide (w.get j=x)) w.len
theorem RD {w:Sl Int}{x:Int} : hasB w x=true↔∃ j,j < w.len/\w.get j=x:=by
 unfold hasB;rw[Bool.not_eq_true',<- Bool.not_eq_true,dG];constructor
 ·intro h;apply Classical.byContradiction;intro hc;exact h λ i hi=>by simpa using λ e=>hc ⟨i,hi,e⟩
 ·rintro ⟨j, hj, e⟩ h;have:=h j hj;simp[e] at this
def zkA (w:Sl Int):Prop:=∀ i j,i < j->j < w.len->w.get i < w.get j
abbrev zrC (C:Sl Int×Int->ae (Int×Bool)):Prop:=∀ w x,zkA w->w.len<=1000->∃ r,C (w,x)=.ok (r,hasB w x)
theorem zLl {E:Vf}(N:Big E.N) (zqk:zrA E.c236) (zql:zrz E.zgi):zrC (zjH E):=λ w x hw hl=>by
 have key:∀ (d i j n:Nat),i+d=j->j<=w.len->d < n->(∀ p,p < i->w.get p < x)->(∀ p,j<=p->p < w.len->x<=w.get p)->∃ r,∀ (A:Type) (k:Int×Bool->Option A),vk E n w x (i:Int) (j:Int) k=k (r,hasB w x):=by
  intro d
  induction d using Nat.strongRecOn with
  | _ d ih =>
   intro i j n hd hj hn h1 h2;obtain⟨n,rfl⟩:∃ n',n=n'+1:=⟨n - 1,by omega⟩;by_cases h0:d=0
   ·have e : i = j := by omega
    subst e;have no:(i < w.len->w.get i ≠ x)->hasB w x=false:=λ hn=>by
     cases hb:hasB w x with
     | false=>rfl
     | true =>
      obtain⟨p,hp,e⟩:=RD.1 hb;rcases Nat.lt_trichotomy p i with q | q | q
      ·have:=h1 p q;omega
      ·subst q;exact absurd e (hn hp)
      ·have a := hw i p q hp;have:=h2 i (iZ _) (by omega);omega
    by_cases hi:i < w.len
    ·by_cases hx : w.get i = x
     ·refine ⟨(i : Int), fun A k => ?_⟩;rw[Ns,decide_eq_false (by omega),cond_false,decide_eq_true (by omega),cond_true,bD (by omega),Int.toNat_natCast,show (w.get i == x)=true by simpa using hx,cond_true,RD.2 ⟨i,hi,hx⟩]
     ·refine ⟨(i : Int), fun A k => ?_⟩;rw[Ns,decide_eq_false (by omega),cond_false,decide_eq_true (by omega),cond_true,bD (by omega),Int.toNat_natCast,show (w.get i == x)=false by simpa using hx,cond_false,bD (by omega),zql,bn,no λ _=>hx];rfl
    ·refine ⟨(i : Int), fun A k => ?_⟩;rw[Ns,decide_eq_false (by omega),cond_false,decide_eq_false (by omega),cond_false,no λ h=>absurd h hi]
   ·have em : aO (CG .u64 (IntKind.u64.wrap (aO ((i : Int) + (j : Int)))) 1) = (((i + j) / 2 : Nat) : Int) := by rw [zrB (by omega)]; omega
    generalize hm:(i+j) / 2=m at em;have m1:i<=m/\m < j:=by omega
    have st:∀ (A:Type) (k:Int×Bool->Option A),vk E (n+1) w x (i:Int) (j:Int) k=cond (decide (w.get m < x)) (vk E n w x ((m+1:Nat):Int) (j:Int) k) (vk E n w x (i:Int) (m:Int) k):=λ A k=>by
     rw[Ns,em,decide_eq_true (by omega),cond_true,bD (by omega),Int.toNat_natCast,zqk,bn,bT (by omega)]
    by_cases c:w.get m < x
    ·obtain⟨r,hr⟩:=ih (j - (m+1)) (by omega) (m+1) j n (by omega) hj (by omega) (λ p hp=>by
      by_cases e:p=m
      ·rw[e];exact c
      ·have:=hw p m (by omega) (by omega);omega) h2
     exact⟨r,λ A k=>by rw[st,decide_eq_true c];exact hr A k⟩
    ·obtain⟨r,hr⟩:=ih (m - i) (by omega) i m n (by omega) (by omega) (by omega) h1 (λ p hp hp2=>by
      by_cases e:p=m
      ·rw[e];omega
      ·have:=hw m p (by omega) hp2;omega)
     exact⟨r,λ A k=>by rw[st,decide_eq_false c];exact hr A k⟩
 obtain⟨r,hr⟩:=key w.len 0 w.len E.N (by omega) (iZ _) (by have:=N;omega) (λ p hp=>absurd hp (Si p)) (λ p h1 h2=>by omega);exact⟨r,ae.ext λ k=>by rw[zI0,bn];exact hr _ k⟩
def H5 (p:af):Int:=cond (p.Kind == 2) (aO (p.aZ.tdiv 2)) 0
def zLm (p:af) (c:Nat):bZ:=⟨aO (aO (p.First+aO ((c:Int) * p.aZ)) - H5 p),aO (aO (aO (aO (p.First+aO ((c:Int) * p.aZ)) - H5 p)+p.aZ) - 1)⟩
def Vz (p : af) : Nat → Nat → List (Int × bZ)
  | 0,_=>[]
  | m+1,c=>cond (hasB p.Dead (c:Int)) (Vz p m (c+1)) (((c:Int),zLm p c) :: Vz p m (c+1))
abbrev zrD (I:Pt placed->ae (List (Int×bZ))):Prop:=∀ q:Pt placed,Xj q.v.af->zkA q.v.af.Dead->q.v.af.Dead.len<=1000->I q=.ok (Vz q.v.af q.v.af.bM.toNat 0)
theorem zLn {E:QG}(N:Big E.N) (zqj:zrC E.zll):zrD (zqi E):=λ q hp hi hl=>by
 refine yP ?_ (λ _=>rfl) (λ _=>rfl);obtain⟨_,_,_,_,_,hst,_⟩:=hp;have key:∀ (m c n:Nat),c+m=q.v.af.bM.toNat->m < n->Ba E n q (H5 q.v.af) (c:Int)=some ((Vz q.v.af m c).map dw.enc):=by
  intro m
  induction m with
  | zero =>
   intro c n hc hn;obtain⟨n,rfl⟩:∃ n',n=n'+1:=⟨n - 1,by omega⟩;rw[zeu,decide_eq_false (by omega)];rfl
  | succ m ih =>
   intro c n hc hn;obtain⟨n,rfl⟩:∃ n',n=n'+1:=⟨n - 1,by omega⟩;obtain⟨r,hr⟩:=zqj q.v.af.Dead (c:Int) hi hl;rw[zeu,decide_eq_true (by omega),cond_true,hr,bn,bT (by omega),ih (c+1) n (by omega) (by omega)];show cond (hasB q.v.af.Dead (c:Int)) _ _=_;simp only[Vz];cases hasB q.v.af.Dead (c:Int) <;> rfl
 have h0:=key q.v.af.bM.toNat 0 E.N (by omega) (by have:=N;omega);rw[e204];unfold H5 at h0;revert h0;cases q.v.af.Kind == 2 <;> exact id
def nxt : List (Int × bZ) → Int → Int
  | [],n=>n
  | y :: r,n=>nxt r (cond (decide (y.2.Low<=n) && decide (n<=y.2.High)) (aO (y.2.High+1)) n)
def zfB (x:bZ):Bool:=decide (-1000000<=x.Low/\x.Low<=x.High/\x.High<=1000000)
def RF (p:af) (x:bZ):Bool:=decide (nxt (Vz p p.bM.toNat 0) (aO (x.Low - p.bu.High)) > aO (x.High - p.bu.Low))
theorem zkB {p:af}(h:Zg p=true):zkA p.Dead/\p.Dead.len<=100:=by
 simp only[Zg,fE,decide_eq_true_eq,dG] at h;obtain⟨⟨_,h1⟩,h2⟩:=h;refine⟨λ i j=>?_,h1⟩;have step:∀ j,j+1 < p.Dead.len->p.Dead.get j < p.Dead.get (j+1):=λ j hj=>by
  have:=h2 (j+1) hj;simp only[dB,fE,Bool.or_eq_true,decide_eq_true_eq,Nat.add_sub_cancel] at this;exact this.2.resolve_left (by omega)
 intro hij hj
 induction j with
 | zero=>omega
 | succ j ih =>
  have:=step j hj;by_cases e:i=j
  ·rw[e];exact this
  ·have:=ih (by omega) (by omega);omega
abbrev zrE (C:au×Int×bZ->ae (Bool×Bool×Int)):Prop:=∀ s (i:Nat) x,pW s->dU s=true->i < s.aj.len->∃ b,C (s,(i:Int),x)=.ok (cond (zfB x) (RF (s.aj.get i) x,b,0) (false,false,2))
theorem zLp {E:Qv}(xE:QSe E.c160) (jC:yO E.fK) (Qn:zim E.c164) (zbm:zrD E.zbm):zrE (ziE E):=λ s i x hs hb hi=>by
 have hl:=qO hb;obtain⟨d1,d2⟩:=zkB (Gu hb hi);have key:∀ (l:List (Int×bZ)) (lo hg nx:Int) (cn:Bool),∃ b,∀ (A:Type) (k:Bool×Bool×Int->Option A),pY E l s (i:Int) lo hg cn nx k=k (decide (nxt l nx > hg),b,0):=by
  intro l
  induction l with
  | nil=>intro lo hg nx cn;exact⟨cn,λ A k=>ziF ..⟩
  | cons y l ih =>
   intro lo hg nx cn;have st:∃ cn',∀ (A:Type) (k:Bool×Bool×Int->Option A),pY E (y :: l) s (i:Int) lo hg cn nx k=pY E l s (i:Int) lo hg cn' (cond (decide (y.2.Low<=nx) && decide (nx<=y.2.High)) (aO (y.2.High+1)) nx) k:=by
    have e2:∀ cn' (A:Type) (k:Bool×Bool×Int->Option A),Gz E l s (i:Int) lo hg cn' nx y.2 k=pY E l s (i:Int) lo hg cn' (cond (decide (y.2.Low<=nx) && decide (nx<=y.2.High)) (aO (y.2.High+1)) nx) k:=λ cn' A k=>by
     rw[zpI];cases decide (y.2.Low<=nx) <;> cases decide (nx<=y.2.High) <;> rfl
    cases cn with
    | true=>exact⟨true,λ A k=>by rw[UG];exact e2 _ A k⟩
    | false =>
     cases hd:decide (aO (y.2.Low - (s.aj.get (i:Int).toNat).dC)<=hg) with
     | true=>exact⟨_,λ A k=>by rw[UG,hd];exact e2 _ A k⟩
     | false=>exact⟨false,λ A k=>by rw[UG,hd];exact e2 _ A k⟩
   obtain⟨cn',h⟩:=st;obtain⟨b,h2⟩:=ih lo hg (cond (decide (y.2.Low<=nx) && decide (nx<=y.2.High)) (aO (y.2.High+1)) nx) cn';exact⟨b,λ A k=>by rw[h,h2];rfl⟩
 obtain⟨b,hk⟩:=key (Vz (s.aj.get i) (s.aj.get i).bM.toNat 0) (aO (x.Low - (s.aj.get i).bu.High)) (aO (x.High - (s.aj.get i).bu.Low)) (aO (x.Low - (s.aj.get i).bu.High)) false;refine⟨b,ae.ext λ k=>?_⟩;rw[e115,xE s hs,bn,hb,jC,bn,bn,A7 (by omega),show inB (i:Int) 0 ((s.aj.len:Int) - 1)=true from decide_eq_true (by omega),Qn _ _ (by omega),bn,bD (by omega),Int.toNat_natCast,zbm ⟨⟨s.aj.get i,(i:Int)⟩⟩ (vV hb hi) d1 (by show (s.aj.get i).Dead.len<=1000;omega),bn];show cond (!decide (-1000000<=x.Low/\x.Low<=x.High/\x.High<=1000000)) _ _=_;rw[show decide (-1000000<=x.Low/\x.Low<=x.High/\x.High<=1000000)=zfB x from rfl];cases zfB x with
 | false=>rfl
 | true=>exact hk _ k
/-! Fractions, rounded. -/
def FlK (f:aS):Prop:=(-100000000000000000<=f.Num/\f.Num<=100000000000000000)/\0 < f.cO/\f.cO<=100000000000000000
abbrev zkC (C:aS->ae Int):Prop:=∀ f,FlK f->C f=.ok (f.Num / f.cO)
theorem zmz {a b:Int}(h1 : -100000000000000000<=a/\a<=100000000000000000) (h2:0 < b) : -100000000000000000<=a / b/\a / b<=100000000000000000:=by
 refine⟨Int.le_ediv_of_mul_le h2 ?_,?_⟩
 ·have := Int.mul_le_mul_of_nonneg_left (show (1 : Int) ≤ b by omega) (show (0 : Int) ≤ 100000000000000000 by omega);omega
 ·rcases Int.lt_or_le a 0 with h | h
  ·have:=Int.ediv_neg_of_neg_of_pos h h2;omega
  ·have:=Int.ediv_le_self b h;omega
theorem zLq {E:ZW} : zkC (zjw E):=λ f h=>ae.ext λ k=>by
 obtain⟨h1,h2,h3⟩:=h;have q:=zmz h1 h2;rw[zIt,bn];by_cases hn:f.Num < 0
 ·have e1:(-f.Num+f.cO - 1) / f.cO = -(f.Num / f.cO):=by
   have a:=Int.emod_add_mul_ediv f.Num f.cO;have b:=Int.emod_nonneg f.Num (show f.cO ≠ 0 by omega);have c:=Int.emod_lt_of_pos f.Num h2;refine ((Int.ediv_emod_unique (r:=f.cO - 1 - f.Num % f.cO) h2).2 ⟨?_,by omega,by omega⟩).1;rw[Int.mul_neg];omega
  rw[decide_eq_true hn,cond_true,bD (by omega),bg (x:=0 - f.Num) (by omega) (by omega),bg (x:=0 - f.Num+f.cO) (by omega) (by omega),bg (x:=0 - f.Num+f.cO - 1) (by omega) (by omega),Int.tdiv_eq_ediv_of_nonneg (by omega),show 0 - f.Num+f.cO - 1 = -f.Num+f.cO - 1 by omega,e1,bg (x:=-(f.Num / f.cO)) (by omega) (by omega),show 0 - -(f.Num / f.cO)=f.Num / f.cO by omega,bg (by omega) (by omega)]
 ·rw[decide_eq_false hn,cond_false,bD (by omega),Int.tdiv_eq_ediv_of_nonneg (by omega),bg (by omega) (by omega)]
abbrev zrG (C:aS->ae Int):Prop:=∀ f,FlK f->C f=.ok (-(-f.Num / f.cO))
theorem zLr {E:ZX}(UT:zkC E.Jq):zrG (zjx E):=λ f h=>ae.ext λ k=>by
 obtain⟨h1,h2,h3⟩:=h;have q:=zmz (a:=-f.Num) (by omega) h2;rw[zIx,bg (x:=0 - f.Num) (by omega) (by omega),show 0 - f.Num = -f.Num by omega,UT ⟨-f.Num,f.cO⟩ ⟨by show _<=-f.Num/\-f.Num<=_;omega,h2,h3⟩,bn,bn];show k (aO (0 - -f.Num / f.cO))=_;rw[bg (by omega) (by omega),show 0 - -f.Num / f.cO = -(-f.Num / f.cO) by omega]
def ls {α:Type}(w:Sl α):List α:=(List.range w.len).map w.get
theorem qh {α:Type}(w:Sl α):(ls w).length=w.len:=by simp[ls]
theorem zfC {α:Type}{w:Sl α}{i:Nat}(h:i < w.len):(ls w)[i]? = some (w.get i):=by simp[ls,List.getElem?_range h]
theorem iW {α:Type}{w:Sl α}{x:α} : x∈ls w↔∃ i,i < w.len/\w.get i=x:=by simp[ls]
theorem zfD {α:Type} [bG α] [qm α] (w:Sl α) (x:α):ls (qp w x)=ls w ++ [x]:=by
 unfold ls;show (List.range (w.len+1)).map _=_;rw[List.range_succ,List.map_append];congr 1
 ·exact List.map_congr_left λ i hi=>by
   show jd w.len w.get (λ _=>x) i=_;rw[iy,if_neg (by have:=List.mem_range.1 hi;omega)]
 ·show [jd w.len w.get (fun _ => x) w.len] = _;rw[iy,if_pos (iZ _)]
theorem zrH {α:Type} [bG α] [qm α] (a b:Sl α):ls (⟨a.len+b.len,jd a.len a.get b.get⟩:Sl α)=ls a ++ ls b:=by
 unfold ls;show (List.range (a.len+b.len)).map (jd a.len a.get b.get)=_;rw[List.range_add,List.map_append,List.map_map];congr 1
 ·exact List.map_congr_left λ i hi=>by rw[iy,if_neg (by have:=List.mem_range.1 hi;omega)]
 ·exact List.map_congr_left λ i _=>by
   show jd a.len a.get b.get (a.len+i)=_;rw[iy,if_pos (by omega),Nat.add_sub_cancel_left]
theorem VA (w:Sl ai):zQ w=(ls w).map gX:=by unfold zQ ls;rw[List.map_map];rfl
theorem zkD {x:Int}{w:Sl ai} : wE x w↔∀ t∈ls w,Oq x t:=by
 constructor
 ·intro h t ht;obtain⟨i,hi,rfl⟩:=iW.1 ht;exact h i hi
 ·intro h i hi;exact h _ (iW.2 ⟨i,hi,rfl⟩)
def NY {α : Type} [bG α] (z : Nat → α) (p : α → Bool) (w : Sl α) : Nat → Sl α
  | 0=>⟨0,z⟩
  | i+1=>cond (p (w.get i)) (qp (NY z p w i) (w.get i)) (NY z p w i)
theorem vZ {α : Type} [bG α] (z : Nat → α) (p : α → Bool) (w : Sl α) : ∀ n, (NY z p w n).len ≤ n
  | 0=>iZ _
  | n+1=>by
    have:=vZ z p w n;simp only[NY];cases p (w.get n) with
    | true=>show (NY z p w n).len+1<=n+1;omega
    | false=>show (NY z p w n).len<=n+1;omega
theorem NZ {α : Type} [bG α] [qm α] (z : Nat → α) (p : α → Bool) (w : Sl α) : ∀ n, ls (NY z p w n) = ((List.range n).map w.get).filter p
  | 0=>rfl
  | n+1=>by
    rw[List.range_succ,List.map_append,List.filter_append,<- NZ z p w n];simp only[NY,nG,List.map_nil];cases h:p (w.get n) with
    | true=>rw[cond_true,zfD];simp[h]
    | false=>rw[cond_false];simp[h]
def usP (l:Sl bC) (c:jc) (i:Nat):Bool:=c.any λ q=>(l.get q.1.toNat).af == (i:Int)
def atB (g : Sl aC) (p : af) : Bool := cond ((opn' g p).2 != 0) false (cond (decide ((DN g p.Z).1.Num / (DN g p.Z).1.cO < -1000000)) false (cond (decide (-(-(DN g p.Z).2.Num / (DN g p.Z).2.cO) > 1000000)) false
  (zfB ⟨(DN g p.Z).1.Num / (DN g p.Z).1.cO,-(-(DN g p.Z).2.Num / (DN g p.Z).2.cO)⟩ && RF p ⟨(DN g p.Z).1.Num / (DN g p.Z).1.cO,-(-(DN g p.Z).2.Num / (DN g p.Z).2.cO)⟩)))
where opn' (g:Sl aC) (p:af):set×Int:=DI g ((g.get 0).Z == p.Z)
def zfE (s:au) (l:Sl bC) (x:Int) (c:jc) (i:Nat):Bool:=cond ((s.aj.get i).View != x) false (cond (usP l c i) false (atB (zN s l c) (s.aj.get i)))
def zyz (s:au) (l:Sl bC) (x:Int) (c:jc):List Int:=((List.range' 0 s.aj.len).filter (zfE s l x c)).map Int.ofNat
theorem DT {a b:Int}(h1 : -100000000000000000<=a) (h2:a<=100000000000000000) (hb:0 < b) (hb2:b<=100000000000000000):FlK (red a b):=by
 have r1:=zx (num:=a) hb;have r2:=G9 (num:=a) hb;have r3:=kz (num:=a) hb;exact⟨by omega,by omega,by omega⟩
theorem zrI {g:Sl aC}(G:dm g){z:Int}(hz:Jm z) (hc:fV g=false->0 < (kE g).length):FlK (DN g z).1/\FlK (DN g z).2:=by
 have hg:=G.2;unfold DN;cases hf:fV g with
 | true =>
  obtain⟨a,b⟩:=DR G.1 (by omega) g.len (iZ _);exact⟨DT (by omega) (by omega) (by omega) (by omega),DT (by omega) (by omega) (by omega) (by omega)⟩
 | false =>
  obtain⟨⟨s,s1,s2⟩,_⟩:=zq1 G z (hc hf);obtain⟨⟨t,t1,t2⟩,_⟩:=zq2 G z (hc hf);have a:=Vx (uh G s1) hz;have b:=Vx (uh G t1) hz;rw[<- s2] at a;rw[<- t2] at b;exact⟨DT (by omega) (by omega) (by omega) (by omega),DT (by omega) (by omega) (by omega) (by omega)⟩
theorem zmA {p:af}(h:Xj p):Jm p.Z:=by
 obtain⟨_,_,hz,_⟩:=h;exact⟨by omega,by omega⟩
theorem zyA {g:Sl aC}(G:dm g){b:Bool}(h:(DI g b).2=0):iF g=true/\(fV g=false->0 < (kE g).length):=by
 unfold DI at h;rw[nC.2 G] at h;cases hs:iF g with
 | false=>rw[hs] at h;cases h
 | true =>
  refine⟨rfl,λ hf=>?_⟩;unfold iF at hs;rw[hf,cond_false,decide_eq_true_eq] at hs;omega
abbrev zrJ (C:Pt aW×ai->ae (Sl Int)):Prop:=∀ s l r x t c j,Ev s l x->Oq x t->gX t=c->Val s l x c j->c ≠ []->∃ w:Sl Int,C (iL s r l,t)=.ok w/\ls w=zyz s l x c
theorem zLu {E:UN}(N:Big E.N) (UQ:zit E.c105) (UR:zkx E.IR) (zpV:zri E.zgb) (UT:zkC E.Jq) (zpW:zrG E.zli) (zpX:zrE E.zgc):zrJ (ziV E):=λ s l r x t c j he ht hc hv hn=>by
 have hl:=o5 hc hv;have uZ:=he.l24;have G:=NQ he.toEvt he.l24 hv hn;have hp:=qO he.se;have key:∀ (m i n:Nat) (w:Sl Int),i+m=s.aj.len->m < n->w.len<=i->∃ w':Sl Int,(∀ (A:Type) (k:Sl Int->Option A),ku E n (iL s r l) t (zN s l c) (i:Int) w k=k w')/\ls w'=ls w ++ ((List.range' i m).filter (zfE s l x c)).map Int.ofNat:=by
  intro m
  induction m with
  | zero =>
   intro i n w hi hn hw;obtain⟨n,rfl⟩:∃ n',n=n'+1:=⟨n - 1,by omega⟩;exact⟨w,λ A k=>by rw[zd0,decide_eq_false (by show ¬ (i:Int) < (s.aj.len:Int);omega)];rfl,by simp⟩
  | succ m ih =>
   intro i n w hi hn hw;obtain⟨n,rfl⟩:∃ n',n=n'+1:=⟨n - 1,by omega⟩;have hpl:=vV he.se (i:=i) (by omega);have hz:=zmA hpl;rw[List.range'_succ];have st:∀ (A:Type) (k:Sl Int->Option A),ku E (n+1) (iL s r l) t (zN s l c) (i:Int) w k=cond (zfE s l x c i) (ku E n (iL s r l) t (zN s l c) ((i+1:Nat):Int) (qp w (i:Int)) k) (ku E n (iL s r l) t (zN s l c) ((i+1:Nat):Int) w k):=λ A k=>by
    have u:E.IR (t.Hits,.inr ⟨(),⟨iL s r l⟩,⟨(i:Int)⟩⟩)=.ok (usP l c i):=by
     rw[UR s l r t.Hits (.inr ⟨(),⟨iL s r l⟩,⟨(i:Int)⟩⟩) (Bl hc hv) (by omega) rfl];exact congrArg ae.ok (zfz (l:=l) hc λ h=>(l.get h.toNat).af == (i:Int))
    rw[zd0,decide_eq_true (show (i:Int) < ((iL s r l).v.au.aj.len:Int) by show (i:Int) < (s.aj.len:Int);omega),cond_true,bD (show 0<=(i:Int)/\(i:Int) < ((iL s r l).v.au.aj.len:Int) by show _/\(i:Int) < (s.aj.len:Int);omega),Int.toNat_natCast,u,bn,bT (by omega),ht.1];show cond ((s.aj.get i).View != x) _ _=_;unfold zfE;cases (s.aj.get i).View != x with
    | true=>rfl
    | false =>
     simp only[cond_false];cases usP l c i with
     | true=>rfl
     | false =>
      simp only[cond_false];show (E.zgb (zN s l c,(s.aj.get i).Z)).T _=_;rw[zpV _ _ G hz,bn];unfold atB atB.opn';cases ho:(DI (zN s l c) (((zN s l c).get 0).Z == (s.aj.get i).Z)).2 != 0 with
      | true =>
       simp only[cond_true];show cond ((DI (zN s l c) (((zN s l c).get 0).Z == (s.aj.get i).Z)).2 != 0) _ _=_;rw[ho];rfl
      | false =>
       obtain⟨_,hco⟩:=zyA G (by simpa using ho);obtain⟨b1,b2⟩:=zrI G hz hco;simp only[cond_false];show (E.Jq (DN (zN s l c) (s.aj.get i).Z).1).T _=_;rw[UT _ b1,bn,zpW _ b2,bn];generalize (DN (zN s l c) (s.aj.get i).Z).1.Num / (DN (zN s l c) (s.aj.get i).Z).1.cO=fa;generalize -(-(DN (zN s l c) (s.aj.get i).Z).2.Num / (DN (zN s l c) (s.aj.get i).Z).2.cO)=fb;cases decide (fa < -1000000) with
       | true=>rfl
       | false =>
        cases decide (fb > 1000000) with
        | true=>rfl
        | false =>
         simp only[cond_false];obtain⟨b,hb⟩:=zpX s i ⟨fa,fb⟩ he.sh he.se (by omega);show (E.zgc (s,(i:Int),⟨fa,fb⟩)).T _=_;rw[hb,bn];cases zfB ⟨fa,fb⟩ with
         | false=>rfl
         | true =>
          show cond (RF (s.aj.get i) ⟨fa,fb⟩) (bf (room (w.len+1) 8) _) _=cond (true && RF (s.aj.get i) ⟨fa,fb⟩) _ _;rw[jl (by omega) (by omega)];cases RF (s.aj.get i) ⟨fa,fb⟩ <;> rfl
   cases hb:zfE s l x c i with
   | true =>
    rw[hb] at st;obtain⟨w',a,b⟩:=ih (i+1) n (qp w (i:Int)) (by omega) (by omega) (by show w.len+1<=i+1;omega);exact⟨w',λ A k=>by rw[st];exact a A k,by rw[b,zfD];simp[hb]⟩
   | false =>
    rw[hb] at st;obtain⟨w',a,b⟩:=ih (i+1) n w (by omega) (by omega) (by omega);exact⟨w',λ A k=>by rw[st];exact a A k,by rw[b];simp[hb]⟩
 obtain⟨w',a,b⟩:=key s.aj.len 0 E.N ⟨0,λ _=>0⟩ (by omega) (by have:=N;omega) (iZ _);refine⟨w',ae.ext λ k=>?_,b⟩;rw[zGT,UQ s l r t he.toEvt (by omega) (DK he.vw ht hc hv hn),bn,NP hc,bn];exact a _ k
def qi (s:au) (l:Sl bC) (x:Int) (r:bP) (c:jc):Bool:=decide ((c.length:Int) >= r.jL) && decide (((zyz s l x c).length:Int)<=r.kF)
abbrev zrK (C:Pt aW×ai->ae Bool):Prop:=∀ s l r x t c j,Ev s l x->Oq x t->gX t=c->Val s l x c j->c ≠ []->C (iL s r l,t)=.ok (qi s l x r c)
theorem zLv {E:Zr}(zpR:zrJ E.c141):zrK (ziO E):=λ s l r x t c j he ht hc hv hn=>ae.ext λ k=>by
 obtain⟨w,h1,h2⟩:=zpR s l r x t c j he ht hc hv hn;rw[e129,h1,bn,bn];unfold qi;rw[<- h2,qh,<- hc,mV];show cond (decide ((t.Hits.len:Int) >= r.jL)) (k (decide ((w.len:Int)<=r.kF))) (k false)=_;cases decide ((t.Hits.len:Int) >= r.jL) <;> rfl
/-! Choices that contain others. -/
abbrev zrL (C:Sl Int×Int->ae Int):Prop:=∀ (w:Sl Int) x,w.len<=1000->C (w,x)=.ok (fst (λ j=>x == w.get j) w.len 0)
theorem zLw {E:U0}(N:Big E.N):zrL (zi4 E):=λ w x hw=>ae.ext λ k=>by
 rw[e152,bn];refine Cj (L:=λ n i=>Nk E n w x i k) (p:=λ j=>x == w.get j) (m:=w.len) (k:=k) (by omega) (λ n i hi=>?_) (λ n=>?_) _ (by have:=N;omega)
 ·rw[zd5,decide_eq_true (by omega),cond_true,bD (by omega),Int.toNat_natCast]
 ·rw[zd5,decide_eq_false (by omega)];rfl
theorem zfF (p : Nat → Bool) : ∀ m i, 0 ≤ fst p m i → ∃ j : Nat, fst p m i = (j : Int) ∧ i ≤ j ∧ j < i + m ∧ p j = true
  | 0,i,h=>by simp[fst] at h
  | m+1,i,h=>by
    simp only[fst] at h ⊢;cases hp:p i with
    | true=>exact⟨i,rfl,iZ _,by omega,hp⟩
    | false =>
      rw[hp,cond_false] at h;obtain⟨j,a,b,c,d⟩:=zfF p m (i+1) h;exact⟨j,a,by omega,by omega,d⟩
structure One (t : ai) : Prop where
  le:t.Hits.len<=100
  sd:t.bz.len=t.Hits.len
  un:∀ i j,i < t.Hits.len->j < t.Hits.len->t.Hits.get i=t.Hits.get j->i=j
theorem mW {t:ai}{p:Int×Int} : p∈gX t↔∃ i,i < t.Hits.len/\t.Hits.get i=p.1/\t.bz.get i=p.2:=by
 unfold gX;simp only[vC,List.mem_range];constructor
 ·rintro⟨i,hi,rfl⟩;exact⟨i,hi,rfl,rfl⟩
 ·rintro⟨i,hi,h1,h2⟩;exact⟨i,hi,by rw[h1,h2]⟩
abbrev Q92 (C:ai×ai->ae Bool):Prop:=∀ a b,One a->One b->C (a,b)=.ok (ry a b)
theorem s92 {E:E92}(N:Big E.N) (zpx:zrL E.c152):Q92 (F92 E):=λ a b ha hb=>ae.ext λ k=>by
 have la:=ha.le;have lb:=hb.le;rw[e92,bn,loopA (L:=λ n i=>Xu E n a b i k) (p:=λ i=>(gX a).contains (b.Hits.get i,b.bz.get i)) (m:=b.Hits.len) (fin:=k (a.View == b.View)) (stop:=k false) (by omega) (λ n i hi=>?_) (λ n=>?_) _ (by have:=N;omega)]
 ·have e:ry a b=(dR (λ i=>(gX a).contains (b.Hits.get i,b.bz.get i)) b.Hits.len && (a.View == b.View)):=by
   unfold ry;congr 1
   ·rw [Bool.eq_iff_iff, dG, List.all_eq_true];constructor
    ·intro h i hi;exact h _ (mW.2 ⟨i,hi,rfl,rfl⟩)
    ·intro h p hp;obtain⟨i,hi,h1,h2⟩:=mW.1 hp;have:=h i hi;rw[h1,h2] at this;exact this
   ·rw[Bool.eq_iff_iff,beq_iff_eq,beq_iff_eq];exact eq_comm
  rw[e];cases dR (λ i=>(gX a).contains (b.Hits.get i,b.bz.get i)) b.Hits.len <;> rfl
 ·rw [zmo, decide_eq_true (by omega), cond_true, bD (by omega), Int.toNat_natCast, zpx _ _ (by omega), bn];by_cases h0:fst (λ j=>b.Hits.get i == a.Hits.get j) a.Hits.len 0 < 0
  ·have:(gX a).contains (b.Hits.get i,b.bz.get i)=false:=by
    cases hc:(gX a).contains (b.Hits.get i,b.bz.get i) with
    | false=>rfl
    | true =>
     obtain⟨j,hj,h1,_⟩:=mW.1 (List.contains_iff_mem.1 hc);have:=(Xz (λ j=>b.Hits.get i == a.Hits.get j) a.Hits.len 0).2 ⟨j,Nat.zero_le _,by omega,by simp[h1]⟩;omega
   rw[decide_eq_true h0,this];rfl
  ·obtain ⟨j, e, _, hj, hp⟩ := zfF (fun j => b.Hits.get i == a.Hits.get j) a.Hits.len 0 (by omega);have sa:=ha.sd;have sb:=hb.sd;have hp:b.Hits.get i=a.Hits.get j:=eq_of_beq hp;rw[decide_eq_false h0,cond_false,e,bD (by omega),bD (by omega),Int.toNat_natCast];have:(gX a).contains (b.Hits.get i,b.bz.get i)=(a.bz.get j == b.bz.get i):=by
    rw[Bool.eq_iff_iff,List.contains_iff_mem,mW,beq_iff_eq];constructor
    ·rintro ⟨q, hq, h1, h2⟩;have:=ha.un q j hq (by omega) (h1.trans hp);rw[this] at h2;exact h2
    ·intro h;exact⟨j,by omega,hp.symm,h⟩
   rw[this,bne];cases a.bz.get j == b.bz.get i <;> rfl
 ·rw[zmo,decide_eq_false (by omega)];rfl
theorem zkE {s:au}{l:Sl bC}{x:Int}{t:ai}{c:jc}{j:Nat}(uZ:l.len<=24) (ht:Oq x t) (hc:gX t=c) (h:Val s l x c j):One t:=by
 have hl:=o5 hc h;have lc:c.length=t.Hits.len:=by rw[<- hc,mV]
 refine⟨by omega,ht.2,λ a b ha hb e=>?_⟩;have pw:=List.pairwise_iff_getElem.1 h.pw;have ge:∀ i (hi:i < t.Hits.len),c[i]'(by omega)=(t.Hits.get i,t.bz.get i):=λ i hi=>by
  have:=vY hc hi;rw[zL (by omega)] at this;exact Option.some.inj this
 rcases Nat.lt_trichotomy a b with q | q | q
 ·have := (pw a b (by omega) (by omega) q).1;rw[ge a ha,ge b hb] at this;simp only at this;omega
 ·exact q
 ·have := (pw b a (by omega) (by omega) q).1;rw[ge a ha,ge b hb] at this;simp only at this;omega
def SB (a b:ai):Bool:=decide ((a.Hits.len:Int) > (b.Hits.len:Int)) && ry a b
abbrev zrM (C:ai×Pt ai->ae Bool):Prop:=∀ a (b:Pt ai),One a->One b.v->C (a,b)=.ok (SB a b.v)
theorem zLy {E:Zv}(h92:Q92 E.c92):zrM (ziR E):=λ a b ha hb=>ae.ext λ k=>by
 rw[zGI,h92 _ _ ha hb,bn,bn];unfold SB;cases decide ((a.Hits.len:Int) > (b.v.Hits.len:Int)) <;> rfl
abbrev Q97 (C:Sl ai×dN 132 Unit (Pt ai)->ae Int):Prop:=∀ (w:Sl ai) (c:dN 132 Unit (Pt ai)),(∀ t∈ls w,One t)->w.len<=10000->One c.v.v->C (w,c)=.ok (fst (λ j=>SB (w.get j) c.v.v) w.len 0)
theorem s97 {E:E97}(N:Big E.N) (zpD:zrM E.zk7):Q97 (F97 E):=λ w c hw hl hc=>ae.ext λ k=>by
 rw[e97,bn];refine Cj (L:=λ n i=>Xw E n w c i k) (p:=λ j=>SB (w.get j) c.v.v) (m:=w.len) (k:=k) (by omega) (λ n i hi=>?_) (λ n=>?_) _ (by have:=N;omega)
 ·rw[zms,decide_eq_true (by omega),cond_true,bD (by omega),Int.toNat_natCast,zpD _ _ (hw _ (iW.2 ⟨i,hi,rfl⟩)) hc,bn]
 ·rw[zms,decide_eq_false (by omega)];rfl
theorem zfG {α:Type}{w:Sl α}{p:α->Bool} : (!dR (λ j=>!p (w.get j)) w.len)=(ls w).any p:=by
 rw[Bool.eq_iff_iff,Bool.not_eq_true',<- Bool.not_eq_true,dG,List.any_eq_true];constructor
 ·intro h;apply Classical.byContradiction;intro hn;refine h λ j hj=>?_;cases e:p (w.get j) with
  | false=>rfl
  | true=>exact (hn ⟨_,iW.2 ⟨j,hj,rfl⟩,e⟩).elim
 ·rintro ⟨q, hq, e⟩ h;obtain⟨j,hj,rfl⟩:=iW.1 hq;have:=h j hj;rw[e] at this;cases this
abbrev zrN (C:Sl ai×dN 132 Unit (Pt ai)->ae Bool):Prop:=∀ (w:Sl ai) (c:dN 132 Unit (Pt ai)),(∀ t∈ls w,One t)->w.len<=10000->One c.v.v->C (w,c)=.ok ((ls w).any λ x=>SB x c.v.v)
theorem zLA {E:Zu}(h97:Q97 E.c97):zrN (ziQ E):=λ w c hw hl hc=>ae.ext λ k=>by
 rw[zGE,h97 w c hw hl hc,bn,bn,sZ (λ j=>SB (w.get j) c.v.v),zfG (p:=λ x=>SB x c.v.v)]
abbrev zrO (C:ai×Pt (Pt found)->ae Bool):Prop:=∀ t (f:Pt (Pt found)),(∀ t∈ls f.v.v.fits,One t)->f.v.v.fits.len<=10000->One t->C (t,f)=.ok (!(ls f.v.v.fits).any λ x=>SB x t)
theorem zLB {E:Zt}(zpS:zrN E.c131):zrO (ziP E):=λ t f hf hl ht=>ae.ext λ k=>by
 rw[zGA,zpS f.v.v.fits _ hf hl ht,bn,bn]
/-! Those that are as wanted. -/
abbrev RG:Nat->ai:=λ _=>⟨0,⟨0,λ _=>0⟩,⟨0,λ _=>0⟩⟩
abbrev zkF:=dN 129 (Pt aW) Unit ⊕ dN 130 Unit (Pt (Pt found))
def wF : zkF → ai → Bool
  | .inl c,t=>qi c.a.v.au c.a.v.hits t.View c.a.v.rules (gX t)
  | .inr c,t=>!(ls c.v.v.v.fits).any λ x=>SB x t
structure lw (s : au) (l : Sl bC) (t : ai) : Prop where
  ev:Ev s l t.View
  tv:Oq t.View t
  vl:∃ j,Val s l t.View (gX t) j
  ne:gX t ≠ []
theorem lw.one {s:au}{l:Sl bC}{t:ai}(h:lw s l t):One t:=by
 obtain⟨j,hj⟩:=h.vl;exact zkE h.ev.l24 h.tv rfl hj
def okF : zkF → Sl ai → Prop
  | .inl c,w=>∃ s l r,c.a=iL s r l/\∀ t∈ls w,lw s l t
  | .inr c,w=>(∀ t∈ls w,One t)/\(∀ t∈ls c.v.v.v.fits,One t)/\c.v.v.v.fits.len<=10000
abbrev QFi {γ:Type}(i:γ->zkF) (C:Sl ai×γ->ae (Sl ai×Unit)):Prop:=∀ (w:Sl ai) (c:γ),okF (i c) w->w.len<=10000->C (w,c)=.ok (NY RG (wF (i c)) w w.len,())
abbrev zrQ (C:Sl ai×zkF->ae (Sl ai×Unit)):Prop:=QFi id C
theorem zfH {E:nT}(N:Big E.N) (zpP:zrK E.zk6):QFi .inl (yV E):=λ w c ho hl=>ae.ext λ k=>by
 obtain⟨s,l,r,e,hc⟩:=ho;rw[zdW,bn];refine jX (X:=λ n i=>nU E n w c (i:Int) (NY RG (wF (.inl c)) w i) k) (m:=w.len) (λ n i hi=>?_) (λ n=>?_) _ (by have:=N;omega)
 ·have h := hc _ (iW.2 ⟨i, hi, rfl⟩);obtain⟨j,hj⟩:=h.vl;have:=vZ RG (wF (.inl c)) w i;have e2:wF (.inl c) (w.get i)=qi s l (w.get i).View r (gX (w.get i)):=by show qi c.a.v.au c.a.v.hits (w.get i).View c.a.v.rules (gX (w.get i))=_;rw[e];rfl
  rw[GG,decide_eq_true (by omega),cond_true,bD (by omega),Int.toNat_natCast,e,zpP s l r _ _ _ j h.ev h.tv rfl hj h.ne,bn,jl (by omega) (by omega),bT (by omega)];simp only[NY,e2];cases qi s l (w.get i).View r (gX (w.get i)) <;> rfl
 ·rw[GG,decide_eq_false (by omega)];rfl
theorem zfI {E:nV}(N:Big E.N) (zpQ:zrO E.c130):QFi .inr (yX E):=λ w c ho hl=>ae.ext λ k=>by
 obtain⟨h1,h2,h3⟩:=ho;rw[zdY,bn];refine jX (X:=λ n i=>nX E n w c (i:Int) (NY RG (wF (.inr c)) w i) k) (m:=w.len) (λ n i hi=>?_) (λ n=>?_) _ (by have:=N;omega)
 ·have := vZ RG (wF (.inr c)) w i;have e2:wF (.inr c) (w.get i) = !(ls c.v.v.v.fits).any λ x=>SB x (w.get i):=rfl;rw[GH,decide_eq_true (by omega),cond_true,bD (by omega),Int.toNat_natCast,zpQ _ c.v h2 h3 (h1 _ (iW.2 ⟨i,hi,rfl⟩)),bn,jl (by omega) (by omega),bT (by omega)];simp only[NY,e2];cases !(ls c.v.v.v.fits).any λ x=>SB x (w.get i) <;> rfl
 ·rw[GH,decide_eq_false (by omega)];rfl
theorem zLC {f:Sl ai×dN 129 (Pt aW) Unit->ae (Sl ai×Unit)}{g:Sl ai×dN 130 Unit (Pt (Pt found))->ae (Sl ai×Unit)}(a:QFi .inl f) (b:QFi .inr g):zrQ (ae.two f g):=λ w c ho hl=>by
 rcases c with c | c
 ·exact a w c ho hl
 ·exact b w c ho hl
/-! The order. -/
abbrev zrR (C:Int->ae Bool):Prop:=∀ x,C x=.ok false
theorem zLD {E:zab} : zrR (zjM E):=λ x=>ae.ext λ k=>by rw[e222,bn,show (x != x)=false by simp]
theorem zLE {E:ZU}(zjt:zrR E.c222):Vr (zjs E):=λ a b=>ae.ext λ k=>by
 rw[zIl,zjt,bn,zjt,bn,bn];unfold mQ;cases decide (a < b) <;> cases decide (a > b) <;> rfl
abbrev zaA (C:Sl Int×Sl Int->ae Int):Prop:=∀ a b:Sl Int,a.len<=1000->b.len<=1000->C (a,b)=.ok (cmpL (tC a) (tC b))
theorem zLF {E:U9}(N:Big E.N) (U5:Vr E.c208):zaA (zju E):=λ a b ha hb=>ae.ext λ k=>by
 have key:∀ (m i n:Nat),i+m=a.len->m < n->Np E n a b (i:Int) k=k (cmpL ((List.range' i m).map a.get) ((List.range' i (b.len - i)).map b.get)):=by
  intro m
  induction m with
  | zero =>
   intro i n hi hn;obtain⟨n,rfl⟩:∃ n',n=n'+1:=⟨n - 1,by omega⟩;rw[zel,decide_eq_false (by omega),cond_false,kc k];congr 1;cases h:b.len - i with
   | zero=>rw[decide_eq_false (by omega)];rfl
   | succ q=>rw[decide_eq_true (by omega)];rfl
  | succ m ih =>
   intro i n hi hn;obtain⟨n,rfl⟩:∃ n',n=n'+1:=⟨n - 1,by omega⟩;rw[zel,decide_eq_true (by omega),cond_true,bD (by omega),List.range'_succ,nG];cases h:b.len - i with
   | zero=>rw[decide_eq_true (by omega)];rfl
   | succ q =>
    rw[decide_eq_false (by omega),cond_false,bD (by omega),Int.toNat_natCast,U5,bn,bT (by omega),ih (i+1) n (by omega) (by omega),List.range'_succ,nG,kc k,show b.len - (i+1)=q by omega];rfl
 rw[e187,bn];have:=key a.len 0 E.N (by omega) (by have:=N;omega);unfold tC;rw[List.range_eq_range',List.range_eq_range'];exact this
theorem zLG (a b c:Int):Qi [a,b,c] 0=a/\Qi [a,b,c] 1=b/\Qi [a,b,c] 2=c:=by
 refine⟨?_,?_,?_⟩
 ·show (bG.dec (CE (shp 8) (bG.enc a) (bG.enc a))).1 = a;rw[jO (pz 8) (bG.sm _ _),qm.de]
 ·show (bG.dec (CE (shp 8) (bG.enc a) (bG.enc b))).1 = b;rw[jO (pz 8) (bG.sm _ _),qm.de]
 ·show (bG.dec (CE (shp 8) (bG.enc a) (bG.enc c))).1 = c;rw[jO (pz 8) (bG.sm _ _),qm.de]
abbrev zrS (C:Sl Int->ae Int):Prop:=∀ a b c:Int,C ⟨3,Qi [a,b,c]⟩=.ok (cond (a != 0) a (cond (b != 0) b c))
theorem zLH {E:U8}(N:Big E.N):zrS (zjr E):=λ a b c=>ae.ext λ k=>by
 obtain⟨n,hn⟩:∃ n,E.N=n+1+1+1+1:=⟨E.N - 4,by have:=N;omega⟩;obtain⟨g0,g1,g2⟩:=zLG a b c;have st:∀ n (i:Nat),i < 3->A8 E (n+1) ⟨3,Qi [a,b,c]⟩ (i:Int) k=cond (Qi [a,b,c] i != 0) (k (Qi [a,b,c] i)) (A8 E n ⟨3,Qi [a,b,c]⟩ ((i+1:Nat):Int) k):=λ n i hi=>by
  rw[zek,decide_eq_true (show (i:Int) < ((3:Nat):Int) by omega),cond_true,bD (show 0<=(i:Int)/\(i:Int) < ((3:Nat):Int) by omega),bT (by omega)];rfl
 have en:∀ n,A8 E (n+1) ⟨3,Qi [a,b,c]⟩ ((3:Nat):Int) k=k 0:=λ n=>by
  rw[zek,decide_eq_false (show ¬ ((3:Nat):Int) < ((3:Nat):Int) by omega)];rfl
 rw[e185,bn,hn];refine (st _ 0 (by omega)).trans ?_;rw[st _ 1 (by omega),st _ 2 (by omega),en,g0,g1,g2];by_cases h:c=0
 ·subst h;cases a != 0 <;> cases b != 0 <;> rfl
 ·rw [show (c != 0) = true by simpa using h];cases a != 0 <;> cases b != 0 <;> rfl
abbrev zrT (C:ai×ai->ae Int):Prop:=∀ a b:ai,One a->One b->C (a,b)=.ok (zkp a b)
theorem zLI {E:Zw}(zpT:Vr E.zlg) (ziT:zaA E.zgg) (zpU:zrS E.zlf):zrT (ziS E):=λ a b ha hb=>ae.ext λ k=>by
 have a1:=ha.le;have a2:=ha.sd;have b1:=hb.le;have b2:=hb.sd;rw[zGN,zpT,bn,ziT _ _ (by omega) (by omega),bn,ziT _ _ (by omega) (by omega),bn,zpU,bn,bn];rfl
abbrev zrU (C:Sl Bool×Bool->ae Int):Prop:=∀ (w:Sl Bool) x,w.len<=1000->C (w,x)=.ok (fst (λ j=>x == w.get j) w.len 0)
theorem zLJ {E:U6}(N:Big E.N):zrU (zjk E):=λ w x hw=>ae.ext λ k=>by
 rw[zH3,bn];refine Cj (L:=λ n i=>Nl E n w x i k) (p:=λ j=>x == w.get j) (m:=w.len) (k:=k) (by omega) (λ n i hi=>?_) (λ n=>?_) _ (by have:=N;omega)
 ·rw[zea,decide_eq_true (by omega),cond_true,bD (by omega),Int.toNat_natCast]
 ·rw[zea,decide_eq_false (by omega)];rfl
abbrev zrV (C:Sl Bool×Bool->ae Bool):Prop:=∀ (w:Sl Bool) x,w.len<=1000->C (w,x)=.ok ((ls w).any λ b=>x == b)
theorem zLK {E:Zp}(zpN:zrU E.zle):zrV (ziM E):=λ w x hw=>ae.ext λ k=>by
 rw[e126,zpN w x hw,bn,bn,sZ (λ j=>x == w.get j),zfG (p:=λ b=>x == b)]
structure Ot (s : au) (r : bP) (l : Sl bC) (f : found) : Prop where
  ev:f.aW=iL s r l
  fx:∃ X Y:List ai,ls f.fits=X ++ Y/\(∀ t∈X,Oq 1 t)/\(∀ t∈Y,Oq 2 t)/\X.map gX=(l9 s l 1).filter (qi s l 1 r)/\Y.map gX=(l9 s l 2).filter (qi s l 2 r)
  tr:(ls f.lD).Perm ((ls f.fits).filter λ t=>!(ls f.fits).any λ x=>SB x t)
  st:(ls f.lD).Pairwise ltT
theorem RH {s:au}{l:Sl bC}{x:Int}{c:jc}(h:c∈l9 s l x):(∃ j,Ch (zO s l) (wV l) (IZ s l x) c j)/\c ≠ []:=by
 refine⟨zmw .nil h,?_⟩;obtain⟨p,e,_,h⟩:=NJ h;rw[h];simp
theorem KJ (s:au) (l:Sl bC) (x:Int) (i:Nat):(IZ s l x i).Nodup:=KE s l x _ _
theorem xN {P : Int → jc → Bool} {x : Int} : ∀ {L : List ai}, (∀ t ∈ L, t.View = x) → (L.filter fun t => P t.View (gX t)).map gX = (L.map gX).filter (P x)
  | [],_=>rfl
  | t :: L,h=>by
    have ih:=xN (P:=P) (L:=L) λ u hu=>h u (je _ hu);have e:=h t kR;rw[nG,List.filter_cons,List.filter_cons,e];by_cases hp:P x (gX t)=true
    · rw[if_pos hp,if_pos hp,nG,ih]
    · rw[if_neg hp,if_neg hp,ih]
def Df (a b:ai):Prop:=¬ (a.View=b.View/\gX a=gX b)
theorem zrW {a b:ai}(h:Df a b):Df b a:=λ k=>h ⟨k.1.symm,k.2.symm⟩
theorem zmB {X:List ai}(h:(X.map gX).Nodup):X.Pairwise Df:=by
 unfold List.Nodup at h;rw[List.pairwise_map] at h;exact h.imp λ hn k=>hn k.2
abbrev Q72 (C:au×bP×Sl bC×Sl Bool->ae (Int ⊕ (Pt found×Int))):Prop:=∀ s r l (w:Sl Bool),pW s->l.len<=40->qQ s r l=0->(l9 s l 1).length<=2000->(l9 s l 2).length<=2000->w.len<=10->(∀ b∈ls w,b=true)->∃ f:Pt found,C (s,r,l,w)=.ok (.inr (f,0))/\Ot s r l f.v
theorem s72 {E:E72}(h78:Q78 E.c78) (zpo:zrV E.zbh) (h127:zrv E.c127) (h128:zrQ E.CZ) (zLM:zrT E.RU):Q72 (F72 E):=λ s r l w hs hl h0 n1 n2 hw hb=>by
  obtain⟨he,_,uZ⟩:=MW hs h0;have ev1:Ev s l 1:={ toEvt:=he,l24:=uZ,vw:=rfl };have ev2:Ev s l 2:={ toEvt:=he,l24:=uZ,vw:=rfl };obtain⟨w1,a1,b1,c1⟩:=h127 s l r 1 ev1 n1;obtain⟨w2,a2,b2,c2⟩:=h127 s l r 2 ev2 n2;have ln1:w1.len<=2000:=by rw[<- jq,b1];exact n1
  have ln2:w2.len<=2000:=by rw[<- jq,b2];exact n2
  have cs:∀ {x:Int} {w:Sl ai},Ev s l x->zQ w=l9 s l x->wE x w->∀ t∈ls w,t.View=x/\lw s l t:=fun {x w} ev hb hc t ht=>by
    have hv:=zkD.1 hc t ht;have hm:gX t∈l9 s l x:=by rw[<- hb,VA];exact List.mem_map_of_mem ht
    obtain⟨⟨j,hj⟩,hne⟩:=RH hm;have e:=hv.1;subst e;exact⟨rfl,ev,hv,⟨j,Vu hj⟩,hne⟩
  have k1:=cs ev1 b1 c1;have k2:=cs ev2 b2 c2;have f1:=h128 w1 (.inl ⟨iL s r l,()⟩) ⟨s,l,r,rfl,λ t ht=>(k1 t ht).2⟩ (by omega);have f2:=h128 w2 (.inl ⟨iL s r l,()⟩) ⟨s,l,r,rfl,λ t ht=>(k2 t ht).2⟩ (by omega);have g1:ls (NY RG (wF (id (.inl ⟨iL s r l,()⟩))) w1 w1.len)=(ls w1).filter λ t=>qi s l t.View r (gX t):=NZ _ _ _ _;have g2:ls (NY RG (wF (id (.inl ⟨iL s r l,()⟩))) w2 w2.len)=(ls w2).filter λ t=>qi s l t.View r (gX t):=NZ _ _ _ _;have m1:=vZ RG (wF (id (.inl ⟨iL s r l,()⟩))) w1 w1.len;have m2:=vZ RG (wF (id (.inl ⟨iL s r l,()⟩))) w2 w2.len;generalize hu1:NY RG (wF (id (.inl ⟨iL s r l,()⟩))) w1 w1.len=u1 at f1 g1 m1;generalize hu2:NY RG (wF (id (.inl ⟨iL s r l,()⟩))) w2 w2.len=u2 at f2 g2 m2;have hX:(ls u1).map gX=(l9 s l 1).filter (qi s l 1 r):=by
    rw[g1,xN (P:=λ x c=>qi s l x r c) (x:=1) λ t ht=>(k1 t ht).1,<- b1,VA]
  have hY:(ls u2).map gX=(l9 s l 2).filter (qi s l 2 r):=by
    rw[g2,xN (P:=λ x c=>qi s l x r c) (x:=2) λ t ht=>(k2 t ht).1,<- b2,VA]
  have q1:∀ t∈ls u1,t.View=1/\lw s l t:=λ t ht=>by rw[g1] at ht;exact k1 t (List.mem_filter.1 ht).1
  have q2:∀ t∈ls u2,t.View=2/\lw s l t:=λ t ht=>by rw[g2] at ht;exact k2 t (List.mem_filter.1 ht).1
  let ft:Sl ai:=⟨u1.len+u2.len,jd u1.len u1.get u2.get⟩;have hf:ls ft=ls u1 ++ ls u2:=zrH u1 u2;have qf:∀ t∈ls ft,lw s l t:=λ t ht=>by
    rw[hf] at ht;rcases dL.1 ht with h | h
    · exact (q1 t h).2
    · exact (q2 t h).2
  have dff:(ls ft).Pairwise Df:=by
    rw[hf,List.pairwise_append];refine⟨zmB ?_,zmB ?_,λ a ha b hb=>λ k=>?_⟩
    · rw[hX];exact (Hm (KJ s l 1) _ _ _).filter _
    · rw[hY];exact (Hm (KJ s l 2) _ _ _).filter _
    · have:=(q1 a ha).1;have:=(q2 b hb).1;have:=k.1;omega
  let cl:dN 130 Unit (Pt (Pt found)):=⟨(),⟨⟨⟨iL s r l,ft,⟨0,RG⟩⟩⟩⟩⟩;have lf:ft.len<=4000:=by show u1.len+u2.len<=4000;omega
  have f3:=h128 ft (.inr cl) ⟨λ t ht=>(qf t ht).one,λ t ht=>(qf t ht).one,by show ft.len<=10000;omega⟩ (by omega);have g3:ls (NY RG (wF (id (.inr cl))) ft ft.len)=(ls ft).filter λ t=>!(ls ft).any λ x=>SB x t:=NZ _ _ _ _;have m3:=vZ RG (wF (id (.inr cl))) ft ft.len;generalize hu3:NY RG (wF (id (.inr cl))) ft ft.len=u3 at f3 g3 m3;have q3:∀ t∈ls u3,lw s l t:=λ t ht=>by rw[g3] at ht;exact qf t (List.mem_filter.1 ht).1
  have df3:(ls u3).Pairwise Df:=by rw[g3];exact dff.sublist List.filter_sublist
  have in3:∀ i,i < u3.len->lw s l (u3.get i):=λ i hi=>q3 _ (iW.2 ⟨i,hi,rfl⟩);have ne3:∀ i j,i < u3.len->j < u3.len->i ≠ j->Df (u3.get i) (u3.get j):=λ i j hi hj hij=>by
    have P:=List.pairwise_iff_getElem.1 df3;have ge:∀ i (hi:i < u3.len),(ls u3)[i]'(by rw[qh];exact hi)=u3.get i:=λ i hi=>by
      have:=zfC hi;rw[zL (by rw[qh];exact hi)] at this;exact Option.some.inj this
    rcases Nat.lt_or_ge i j with h | h
    · have := P i j (by rw [qh]; exact hi) (by rw [qh]; exact hj) h;rwa[ge i hi,ge j hj] at this
    · have := P j i (by rw [qh]; exact hj) (by rw [qh]; exact hi) (by omega);rw[ge i hi,ge j hj] at this;exact zrW this
  obtain ⟨hp, p, p1, p2, p3⟩ := zmv (C := ae.un E.RU) (caps := []) (ag := true) (w := u3) (cmp := zkp) (R := ltT) (by omega)
    (λ i j hi hj=>by
      show (E.RU (u3.get i,u3.get j)).T _=_;rw[zLM _ _ (in3 i hi).one (in3 j hj).one];rfl)
    (λ i j hi hj=>zkq) (λ i hi=>XU _) (λ i j hi hj hij=>zkr λ h=>ne3 i j hi hj hij ⟨h.1,zq3 h.2.1 h.2.2 (in3 i hi).tv.2 (in3 j hj).tv.2⟩) (λ i j _ _ h=>zfq h)
    (λ i j k _ _ _ a b=>zfp a b)
  have pl:p.length=u3.len:=by rw[p1.length_eq,List.length_range]
  let tr:Sl ai:=⟨u3.len,soG (ae.un E.RU) [] true u3⟩;have ht:ls tr=p.map u3.get:=by
    refine List.ext_getElem (by rw[qh,List.length_map,pl]) λ i h1 h2=>?_;have hi:i < u3.len:=by rw[qh] at h1;exact h1
    have:=zfC (w:=tr) (i:=i) hi;rw[zL h1] at this;rw[Option.some.inj this,List.getElem_map];exact p3 i (by omega)
  refine⟨⟨⟨iL s r l,ft,tr⟩⟩,ae.ext λ k=>?_,rfl,⟨ls u1,ls u2,hf,λ t h=>?_,λ t h=>?_,hX,hY⟩,?_,?_⟩
  · have no:((ls w).any λ b=>false == b)=false:=by
      rw[List.any_eq_false];intro b hb2;rw[hb b hb2];simp
    rw[e72,h78 s r l hs hl,bn];have eo:opn s r l=.inr (iL s r l,0):=by unfold opn;rw[h0];rfl
    rw[eo];show (E.zbh (w,false)).T _=_;rw[zpo w false (by omega),bn,no];show (E.c127 (iL s r l,1)).T _=_;rw[a1,bn];show (E.CZ (w1,.inl ⟨iL s r l,()⟩)).T _=_;rw[f1,bn];show bf (room u1.len 56) ((E.c127 (iL s r l,2)).T _)=_;rw[jl (by omega) (by omega),a2,bn];show (E.CZ (w2,.inl ⟨iL s r l,()⟩)).T _=_;rw[f2,bn];show bf (room (u1.len+u2.len) 56) ((E.CZ (ft,.inr cl)).T _)=_;rw[jl (by omega) (by omega),f3,bn];show Xp E (iL s r l) ft u3 k=_;rw[zxB,hp];rfl
  · have:=q1 t h;exact⟨this.1,this.2.tv.2⟩
  · have:=q2 t h;exact⟨this.1,this.2.tv.2⟩
  · show (ls tr).Perm _;rw[ht];show (p.map u3.get).Perm ((ls ft).filter λ t=>!(ls ft).any λ x=>SB x t);rw[<- g3];exact p1.map _
  · show (ls tr).Pairwise ltT;rw[ht,List.pairwise_map];exact p2
abbrev Q20 (C:au×bP×Sl bC->ae (Sl ai×Int)):Prop:=∀ s r l,pW s->l.len<=40->qQ s r l=0->(l9 s l 1).length<=2000->(l9 s l 2).length<=2000->∃ f:found,C (s,r,l)=.ok (f.lD,0)/\Ot s r l f
theorem s20 {E:E20}(h72:Q72 E.c72):Q20 (F20 E):=λ s r l hs hl h0 n1 n2=>by
 obtain⟨f,h1,h2⟩:=h72 s r l ⟨0,λ _=>default⟩ hs hl h0 n1 n2 (Nat.zero_le _) (λ b hb=>by cases hb);exact⟨f.v,ae.ext λ k=>by rw[e20,h1,bn,bn];rfl,h2⟩
theorem zrX {s:straight}(S:wS s):(eQ s).Start.Num * s.den=s.start * (eQ s).Start.cO/\(eQ s).dM.Num * s.den=s.bK * (eQ s).dM.cO:=by
 have p:0 < s.den:=by have:=S.2.2;omega
 have key:∀ a,(red a s.den).Num * s.den=a * (red a s.den).cO:=λ a=>by
  have h1:=mP (num:=a) p;have h2:=lG (num:=a) p;generalize (Int.gcd a s.den:Int)=G at h1 h2;generalize (red a s.den).Num=x at *;generalize (red a s.den).cO=y at *;rw[<- h1,<- h2];ac_rfl
 exact⟨key _,key _⟩
abbrev Q76 (C:Line×Int->ae aS):Prop:=∀ s z,wS s->Jm z->C (eQ s,z)=.ok (red (iR s z) s.den)
theorem s76 {E:E76}(UC:Vm E.Oa) (UB:Ha E.Ou):Q76 (F76 E):=λ s z S hz=>ae.ext λ k=>by
  obtain⟨h1,h2,h3,h4⟩:=XK S;obtain⟨x1,x2⟩:=zrX S;have pd:0 < s.den:=by have:=S.2.2;omega
  rw[e76,UC _ _ (by omega) (by omega) (by omega),bn,bn];have hr:=jo (num:=(eQ s).Start.cO) (den:=(eQ s).dM.cO) h3.1;obtain⟨a,ha⟩:=zyn (eQ s).Start.cO (eQ s).dM.cO;obtain⟨b,hb⟩:=zyo (eQ s).Start.cO (eQ s).dM.cO;generalize (Int.gcd (eQ s).Start.cO (eQ s).dM.cO:Int)=r at hr ha hb ⊢;generalize (eQ s).Start.cO=A at *;generalize (eQ s).dM.cO=B at *;generalize (eQ s).Start.Num=u at *;generalize (eQ s).dM.Num=v at *;have pa:0 < a:=by
    rcases Int.lt_or_le 0 a with h | h
    · exact h
    · have:=Int.mul_le_mul_of_nonneg_left h (Int.le_of_lt hr);rw[Int.mul_zero] at this;omega
  have pb:0 < b:=by
    rcases Int.lt_or_le 0 b with h | h
    · exact h
    · have:=Int.mul_le_mul_of_nonneg_left h (Int.le_of_lt hr);rw[Int.mul_zero] at this;omega
  have aA:a<=A:=by
    have:=Int.mul_le_mul_of_nonneg_right (show (1:Int)<=r by omega) (Int.le_of_lt pa);omega
  have bB:b<=B:=by
    have:=Int.mul_le_mul_of_nonneg_right (show (1:Int)<=r by omega) (Int.le_of_lt pb);omega
  have e1:A.tdiv r=a:=by rw[ha,Int.mul_tdiv_cancel_left _ (by omega)]
  have e2:(a * B).tdiv A=b:=by
    have:a * B=A * b:=by rw[ha,hb];ac_rfl
    rw[this,Int.mul_tdiv_cancel_left _ (by omega)]
  have e3:(a * B).tdiv B=a:=by rw[Int.mul_comm,Int.mul_tdiv_cancel_left _ (by omega)]
  have m0:=mO (x:=a) (X:=100000) (by omega) (by omega) (Int.le_of_lt h3.1) h3.2;have m1:=mO h2.1 h2.2 (y:=b) (Y:=100000) (by omega) (by omega);have m2:=mO h1.1 h1.2 (y:=a) (Y:=100000) (by omega) (by omega);have m3 : -40000000000000000<=v * a * z/\v * a * z<=40000000000000000:=by
    have hz1:=hz.1;have hz2:=hz.2;rcases Int.lt_or_le z 0 with h | h
    · have := mO (y := -z) (Y := 200000) m2.1 m2.2 (by omega) (by omega);rw[Int.mul_neg] at this;omega
    · have := mO (y := z) (Y := 200000) m2.1 m2.2 h (by omega);omega
  have pos:0 < a * B:=Int.mul_pos pa h3.1
  rw[bg (x:=A.tdiv r) (by rw[e1];omega) (by rw[e1];omega),e1,bg (x:=a * B) (by omega) (by omega),bg (x:=(a * B).tdiv A) (by rw[e2];omega) (by rw[e2];omega),bg (x:=(a * B).tdiv B) (by rw[e3];omega) (by rw[e3];omega),e2,e3,
    bg (x:=u * b) (by omega) (by omega),bg (x:=v * a) (by omega) (by omega),bg (x:=v * a * z) (by omega) (by omega),bg (x:=u * b+v * a * z) (by omega) (by omega),bD (by omega),bD (by omega),bD (by omega),UB _ _ (by omega) (by omega) pos (by omega),bn]
  congr 1;refine (Vl pos pd).2 ?_;unfold iR;have f1:u * b * s.den=s.start * (a * B):=by
    calc u * b * s.den = u * s.den * b := by ac_rfl
      _=s.start * A * b:=by rw[x1]
      _=s.start * (a * B):=by rw[ha,hb];ac_rfl
  have f2:v * a * z * s.den=s.bK * z * (a * B):=by
    calc v * a * z * s.den = v * s.den * (a * z) := by ac_rfl
      _=s.bK * B * (a * z):=by rw[x2]
      _=s.bK * z * (a * B):=by ac_rfl
  rw[Int.add_mul,Int.add_mul,f1,f2]
def PlQ (g:Sl aC) (z:Int) (f:aS):Prop:=∃ t∈cst g,f=red (iR t z) t.den
theorem PlQ.pos {g:Sl aC}(G:dm g){z:Int}{f:aS}(h:PlQ g z f):0 < f.cO:=by
 obtain⟨t,ht,rfl⟩:=h;exact kz (by have:=(qc G ht).2.2;omega)
abbrev zrZ (C:Sl aC×Int->ae (aS×aS)):Prop:=∀ g z,dm g->Jm z->iF g=true->∃ a b,C (g,z)=.ok (a,b)/\0 < a.cO/\0 < b.cO
theorem zLP {E:QA}(N:Big E.N) (CV:zfk E.zI) (UU:zkk E.c193) (UB:Ha E.Ou) (UV:zkt E.c194) (h76:Q76 E.c76) (h56:Q56 E.c56):zrZ (zi1 E):=λ g z G hz hs=>by
 have hg:=G.2;cases hf:fV g with
 | true =>
  obtain⟨a,b⟩:=DR G.1 (by omega) g.len (iZ _);refine⟨red (fG g g.len).Low 1,red (fG g g.len).High 1,ae.ext λ k=>?_,kz (by omega),kz (by omega)⟩;rw[zxW,CV g (by omega) (by omega),bn,hf,cond_true,UU g (by omega) (by omega),bn,bn];show (E.Ou ((fG g g.len).Low,1)).T (λ r3=>(E.Ou ((fG g g.len).High,1)).T λ r4=>k (r3,r4))=_;rw[UB _ _ (by omega) (by omega) (by omega) (by omega),bn,UB _ _ (by omega) (by omega) (by omega) (by omega),bn]
 | false =>
  obtain⟨L,l1,l2,l3,l4⟩:=UV g G;have l0:0 < L.len:=l2.2 ((KH G hf).1 hs);have pc:∀ i,i < L.len->∃ f,PlQ g z f/\E.c76 (L.get i,z)=.ok f:=λ i hi=>by
   obtain⟨t,ht,e⟩:=l4 i hi;exact⟨_,⟨t,ht,rfl⟩,by rw[e];exact h76 t z (qc G ht) hz⟩
  have key:∀ (m i n:Nat) (x y:aS),i+m=L.len->m < n->PlQ g z x->PlQ g z y->∃ a b,(∀ (A:Type) (k:aS×aS->Option A),xI E n z L (i:Int) x y k=k (a,b))/\PlQ g z a/\PlQ g z b:=by
   intro m
   induction m with
   | zero =>
    intro i n x y hi hn hx hy;obtain⟨n,rfl⟩:∃ n',n=n'+1:=⟨n - 1,by omega⟩;exact⟨x,y,λ A k=>by rw[zd4,decide_eq_false (by omega)];rfl,hx,hy⟩
   | succ m ih =>
    intro i n x y hi hn hx hy;obtain⟨n,rfl⟩:∃ n',n=n'+1:=⟨n - 1,by omega⟩;obtain⟨f,hf,ef⟩:=pc i (by omega);have st:∀ (A:Type) (k:aS×aS->Option A),xI E (n+1) z L (i:Int) x y k=xI E n z L ((i+1:Nat):Int) (cond (leB f x) f x) (cond (leB y f) f y) k:=λ A k=>by
     rw[zd4,decide_eq_true (by omega),cond_true,bD (by omega),Int.toNat_natCast,ef,bn,h56,bn];cases leB f x <;> simp only[cond_true,cond_false] <;> rw[zp0,h56,bn,bT (by omega)] <;> cases leB y f <;> rfl
    obtain⟨a,b,h1,h2,h3⟩:=ih (i+1) n (cond (leB f x) f x) (cond (leB y f) f y) (by omega) (by omega) (by cases leB f x <;> assumption) (by cases leB y f <;> assumption);exact⟨a,b,λ A k=>by rw[st];exact h1 A k,h2,h3⟩
  obtain⟨f,hf0,ef⟩:=pc 0 l0;obtain⟨a,b,h1,h2,h3⟩:=key (L.len - 1) 1 E.N f f (by omega) (by have:=N;omega) hf0 hf0;refine⟨a,b,ae.ext λ k=>?_,h2.pos G,h3.pos G⟩;rw[zxW,CV g (by omega) (by omega),bn,hf,cond_false,l1,bn,bD (by omega),ef,bn,bD (by omega),bn,bn];exact h1 _ k
abbrev zr0 (C:aS->ae Int):Prop:=∀ f:aS,0 < f.cO->∃ n,C f=.ok n
theorem zLQ {E:ZA} : zr0 (zi3 E):=λ f h=>by
 exact⟨_,ae.ext λ k=>by rw[zHd,bD (by omega),kc k,bn]⟩
/-! What a plane sees. -/
def rD (p:af) (c:Int):bZ:=⟨aO (aO (p.First+aO (c * p.aZ)) - H5 p),aO (aO (aO (aO (p.First+aO (c * p.aZ)) - H5 p)+p.aZ) - 1)⟩
abbrev zr1 (C:af×Int->ae (Int×Int)):Prop:=∀ p c,C (p,c)=.ok ((rD p c).Low,(rD p c).High)
theorem zLR {E:Zx} : zr1 (ziU E):=λ p c=>ae.ext λ k=>by
 rw[zGR,bn];unfold rD H5;cases p.Kind == 2 <;> rfl
def KL (p:af) (lo hi:Int) (c:Nat):Bool:=hasB p.Dead (c:Int) && (decide ((rD p (c:Int)).Low<=hi) && decide ((rD p (c:Int)).High >= lo))
def zfJ (p:af) (x:bZ):Bool:=(decide (aO (x.Low - p.bu.High) >= (rD p 0).Low) && decide (aO (x.High - p.bu.Low)<=(rD p (aO (p.bM - 1))).High)) && dR (λ c=>!KL p (aO (x.Low - p.bu.High)) (aO (x.High - p.bu.Low)) c) p.bM.toNat
abbrev Q77 (C:af×bZ->ae (Bool×Bool)):Prop:=∀ p x,Xj p->Few p->∃ b,C (p,x)=.ok (zfJ p x,b)
theorem s77 {E:E77}(N:Big E.N) (zdK:zr1 E.zbi) (Uo:zin E.Jp):Q77 (F77 E):=λ p x hp hf=>by
  obtain⟨_,_,_,_,_,hst,_⟩:=hp;have key:∀ (m c n:Nat) (lo hi:Int) (mu ca:Bool),c+m=p.bM.toNat->m < n->∃ b,∀ (A:Type) (k:Bool×Bool->Option A),jZ E n p lo hi mu ca (c:Int) k=k (mu && (List.range' c m).all (λ c=>!KL p lo hi c),b):=by
    intro m
    induction m with
    | zero =>
      intro c n lo hi mu ca hc hn;obtain⟨n,rfl⟩:∃ n',n=n'+1:=⟨n - 1,by omega⟩;exact⟨ca,λ A k=>by rw[zmk,decide_eq_false (by omega)];simp⟩
    | succ m ih =>
      intro c n lo hi mu ca hc hn;obtain⟨n,rfl⟩:∃ n',n=n'+1:=⟨n - 1,by omega⟩;rw[List.range'_succ];have st:∃ ca',∀ (A:Type) (k:Bool×Bool->Option A),jZ E (n+1) p lo hi mu ca (c:Int) k=jZ E n p lo hi (mu && !KL p lo hi c) ca' ((c+1:Nat):Int) k:=by
        have hd:E.Jp (p,(c:Int))=.ok (hasB p.Dead (c:Int)):=Uo p _ hf
        have e0 : ∀ (A : Type) (k : Bool × Bool → Option A), jZ E (n + 1) p lo hi mu ca (c : Int) k = cond (hasB p.Dead (c : Int)) (cond (decide ((rD p (c : Int)).Low ≤ hi)) (cond (decide ((rD p (c : Int)).High ≥ lo)) (jZ E n p lo hi false ca ((c + 1 : Nat) : Int) k) (jZ E n p lo hi mu ca ((c + 1 : Nat) : Int) k)) (jZ E n p lo hi mu ca ((c + 1 : Nat) : Int) k))
            (jZ E n p lo hi mu (cond (decide (aO ((rD p (c:Int)).Low - p.dC)<=hi)) (cond (decide (aO ((rD p (c:Int)).High+p.dC) >= lo)) true ca) ca) ((c+1:Nat):Int) k):=λ A k=>by
          rw[zmk,decide_eq_true (by omega),cond_true,zdK,bn,hd,bn,bT (by omega)];cases hasB p.Dead (c:Int) with
          | true=>rfl
          | false =>
            simp only[cond_false];cases decide (aO ((rD p (c:Int)).Low - p.dC)<=hi) with
            | false=>rfl
            | true =>
              simp only[cond_true];cases decide (aO ((rD p (c:Int)).High+p.dC) >= lo) <;> rfl
        cases h1:hasB p.Dead (c:Int) with
        | false =>
          rw[h1] at e0;exact⟨_,λ A k=>by rw[e0];simp only[KL,h1,Bool.false_and,Bool.not_false,Bool.and_true];rfl⟩
        | true =>
          rw[h1] at e0;refine⟨ca,λ A k=>?_⟩;rw[e0];simp only[KL,h1,Bool.true_and,cond_true];cases decide ((rD p (c:Int)).Low<=hi) <;> cases decide ((rD p (c:Int)).High >= lo) <;> simp
      obtain⟨ca',h⟩:=st;obtain⟨b,h2⟩:=ih (c+1) n lo hi (mu && !KL p lo hi c) ca' (by omega) (by omega);exact⟨b,λ A k=>by rw[h,h2,List.all_cons,Bool.and_assoc]⟩
  have al:∀ (q:Nat->Bool) n,(List.range' 0 n).all q=dR q n:=λ q n=>by
    rw[Bool.eq_iff_iff,dG,List.all_eq_true];exact⟨λ h i hi=>h i (by simp;omega),λ h i hi=>h i (by simp at hi;omega)⟩
  obtain⟨b,hb⟩:=key p.bM.toNat 0 E.N (aO (x.Low - p.bu.High)) (aO (x.High - p.bu.Low)) (decide (aO (x.Low - p.bu.High) >= (rD p 0).Low) && decide (aO (x.High - p.bu.Low)<=(rD p (aO (p.bM - 1))).High)) false (by omega) (by have:=N;omega);refine⟨b,ae.ext λ k=>?_⟩;rw[e77,zdK,bn,zdK,bn,bn];have hb:=hb _ k;rw[al] at hb;refine Eq.trans ?_ hb;show cond (decide (aO (x.Low - p.bu.High) >= (rD p 0).Low)) (jZ E E.N p _ _ (decide (aO (x.High - p.bu.Low)<=(rD p (aO (p.bM - 1))).High)) false 0 k) (jZ E E.N p _ _ false false 0 k)=_;cases decide (aO (x.Low - p.bu.High) >= (rD p 0).Low) <;> rfl
structure mf (s : au) (l : Sl bC) (t : ai) : Prop extends lw s l t where
  ag:zO s l (gX t)=true
abbrev Q91 (C:au×Sl bC×ai->ae (Sl Int)):Prop:=∀ s l t,mf s l t->∃ w:Sl Int,C (s,l,t)=.ok w
theorem s91 {E:E91}(N:Big E.N) (h65:Q65 E.c65) (h87:Q87 E.c87) (CV:zfk E.zI) (zpv:zrZ E.zlb) (ziy:zr0 E.VG) (h86:yO E.c86) (h77:Q77 E.c77):Q91 (F91 E):=λ s l t ha=>by
 obtain⟨j,hv⟩:=ha.vl;have he:=ha.ev;have hl:=o5 rfl hv;have uZ:=he.l24;have G:=NQ he.toEvt he.l24 hv ha.ne;have hG:=G.2;have hp:=qO he.se;have so:iF (zN s l (gX t))=true:=by
  have:=ha.ag;unfold zO at this;rw[fE] at this;exact this.2
 have key:∀ (m i n:Nat) (w:Sl Int),i+m=s.aj.len->m < n->w.len<=i->∃ w':Sl Int,∀ (A:Type) (k:Sl Int->Option A),tZ E n s l t (zN s l (gX t)) (i:Int) w k=k w':=by
  intro m
  induction m with
  | zero =>
   intro i n w hi hn hw;obtain⟨n,rfl⟩:∃ n',n=n'+1:=⟨n - 1,by omega⟩;exact⟨w,λ A k=>by rw[zmn,decide_eq_false (by omega)];rfl⟩
  | succ m ih =>
   intro i n w hi hn hw;obtain⟨n,rfl⟩:∃ n',n=n'+1:=⟨n - 1,by omega⟩;have hpl:=vV he.se (i:=i) (by omega);have hz:=zmA hpl;obtain⟨wa,ya⟩:=ih (i+1) n (qp w (i:Int)) (by omega) (by omega) (by show w.len+1<=i+1;omega);obtain⟨wb,yb⟩:=ih (i+1) n w (by omega) (by omega) (by omega);obtain⟨a,b,e1,e2,e3⟩:=zpv _ _ G hz so;obtain⟨x,ex⟩:=ziy a e2;obtain⟨y,ey⟩:=ziy ⟨aO (0 - b.Num),b.cO⟩ e3;obtain⟨c,ec⟩:=h77 (s.aj.get i) ⟨x,aO (0 - y)⟩ hpl (he.sh.2 i (by omega));have st:∀ (A:Type) (k:Sl Int->Option A),tZ E (n+1) s l t (zN s l (gX t)) (i:Int) w k=cond ((s.aj.get i).View != t.View) (k wb) (cond (!usB l t.Hits t.Hits.len (i:Int)) (k wb) (cond (fV (zN s l (gX t))) (k wb) (cond (!inB x (-1000000) 1000000) (k wb) (cond (!inB (aO (0 - y)) (-1000000) 1000000) (k wb) (cond (zfJ (s.aj.get i) ⟨x,aO (0 - y)⟩) (k wa) (k wb)))))):=λ A k=>by
    rw[zmn,decide_eq_true (by omega),cond_true,bD (by omega),Int.toNat_natCast,bT (by omega),yb,h87 l t.Hits _ (by omega) (Bl rfl hv),bn,CV _ (by omega) (by omega),bn,bD (by omega),e1,bn];show cond _ _ (cond _ _ (cond _ _ ((E.VG a).T λ r4=>(E.VG ⟨aO (0 - b.Num),b.cO⟩).T _)))=_;rw[ex,bn,ey,bn,h86,bn,h86,bn,bD (by omega),ec,bn,jl (by omega) (by omega)];show cond _ _ (cond _ _ (cond _ _ (cond _ _ (cond _ _ (cond (zfJ (s.aj.get i) ⟨x,aO (0 - y)⟩) (tZ E n s l t (zN s l (gX t)) ((i+1:Nat):Int) (qp w (i:Int)) k) _)))))=_;rw[ya]
   exact⟨_,λ A k=>by rw[st,kc k,kc k,kc k,kc k,kc k,kc k]⟩
 obtain⟨w',h⟩:=key s.aj.len 0 E.N ⟨0,λ _=>0⟩ (by omega) (by have:=N;omega) (iZ _);refine⟨w',ae.ext λ k=>?_⟩;rw[e91,h65 s l t he.toEvt (by omega) (DK he.vw ha.tv rfl hv ha.ne),bn,NP rfl,bn];exact h _ k
abbrev zr2 (C:au×bP×Sl bC×ai->ae Bool):Prop:=∀ s r l t,mf s l t->∃ b,C (s,r,l,t)=.ok b
theorem zLU {E:ZC}(U1:zku E.c196) (h91:Q91 E.c91):zr2 (zi6 E):=λ s r l t ha=>by
 obtain⟨j,hv⟩:=ha.vl;obtain⟨w,hw⟩:=h91 s l t ha;exact⟨_,ae.ext λ k=>by rw[e154,U1 s l _ t _ j ha.ev ha.tv rfl hv ha.ne,bn,ha.ag,cond_true,hw,bn,kc k,bn]⟩
/-! Choices that contain others: hits in their order. -/
structure VB (t : ai) : Prop where
  le:t.Hits.len<=100
  sd:t.bz.len=t.Hits.len
  inc:zkA t.Hits
theorem zkG {s:au}{l:Sl bC}{x:Int}{t:ai}{c:jc}{j:Nat}(uZ:l.len<=24) (ht:Oq x t) (hc:gX t=c) (h:Val s l x c j):VB t:=by
 have hl:=o5 hc h;have lc:c.length=t.Hits.len:=by rw[<- hc,mV]
 refine⟨by omega,ht.2,λ a b hab hb=>?_⟩;have pw:=List.pairwise_iff_getElem.1 h.pw;have ge:∀ i (hi:i < t.Hits.len),c[i]'(by omega)=(t.Hits.get i,t.bz.get i):=λ i hi=>by
  have:=vY hc hi;rw[zL (by omega)] at this;exact Option.some.inj this
 have:=(pw a b (by omega) (by omega) hab).1;rw[ge a (by omega),ge b hb] at this;exact this
theorem lw.inc {s:au}{l:Sl bC}{t:ai}(h:lw s l t):VB t:=by
 obtain⟨j,hj⟩:=h.vl;exact zkG h.ev.l24 h.tv rfl hj
abbrev Q53 (C:ai×ai->ae Bool):Prop:=∀ a b,VB a->VB b->C (a,b)=.ok (ry a b)
theorem s53 {E:E53}(N:Big E.N):Q53 (F53 E):=λ a b ha hb=>ae.ext λ k=>by
 have la:=ha.le;have lb:=hb.le;have sa:=ha.sd;have sb:=hb.sd;have ia:=ha.inc;have ib:=hb.inc;have hN:=N;have key:∀ (m i n q:Nat),i+m=b.Hits.len->m < n->q<=a.Hits.len->(∀ p,p < q->i < b.Hits.len->a.Hits.get p < b.Hits.get i)->Xo E n a b (q:Int) (i:Int) k=k ((List.range' i m).all (λ i=>(gX a).contains (b.Hits.get i,b.bz.get i)) && (a.View == b.View)):=by
  intro m
  induction m with
  | zero =>
   intro i n q hi hn hq hlt;obtain⟨n,rfl⟩:∃ n',n=n'+1:=⟨n - 1,by omega⟩;rw[zmg,decide_eq_false (by omega)];rfl
  | succ m ih =>
   intro i n q hi hn hq hlt;obtain⟨n,rfl⟩:∃ n',n=n'+1:=⟨n - 1,by omega⟩;have hib:i < b.Hits.len:=by omega
   rw[zmg,decide_eq_true (by omega),cond_true,List.range'_succ,List.all_cons]
   -- the place where the hit can stand
   have adv:∀ (d q n1:Nat),q+d=a.Hits.len->d < n1->(∀ p,p < q->a.Hits.get p < b.Hits.get i)->∃ q',q'<=a.Hits.len/\(∀ p,p < q'->a.Hits.get p < b.Hits.get i)/\(q' < a.Hits.len->b.Hits.get i<=a.Hits.get q')/\Kz E n n1 a b (q:Int) (i:Int) k=Qs E n a b (q':Int) (i:Int) k:=by
    intro d
    induction d with
    | zero =>
     intro q n1 hq hn1 hlt;obtain⟨n1,rfl⟩:∃ n',n1=n'+1:=⟨n1 - 1,by omega⟩;exact⟨q,by omega,hlt,λ h=>by omega,by rw[zmh,decide_eq_false (by omega)];rfl⟩
    | succ d ih2 =>
     intro q n1 hq hn1 hlt;obtain⟨n1,rfl⟩:∃ n',n1=n'+1:=⟨n1 - 1,by omega⟩;have st:Kz E n (n1+1) a b (q:Int) (i:Int) k=cond (decide (a.Hits.get q < b.Hits.get i)) (Kz E n n1 a b ((q+1:Nat):Int) (i:Int) k) (Qs E n a b (q:Int) (i:Int) k):=by
      rw[zmh,decide_eq_true (by omega),cond_true,bD (by omega),bD (by omega),Int.toNat_natCast,Int.toNat_natCast,bT (by omega)]
     by_cases h:a.Hits.get q < b.Hits.get i
     ·obtain⟨q',h1,h2,h3,h4⟩:=ih2 (q+1) n1 (by omega) (by omega) (λ p hp=>by
       by_cases e:p=q
       ·rw[e];exact h
       ·exact hlt p (by omega))
      exact⟨q',h1,h2,h3,by rw[st,decide_eq_true h];exact h4⟩
     ·exact⟨q,by omega,hlt,λ _=>by omega,by rw[st,decide_eq_false h];rfl⟩
   obtain⟨q',h1,h2,h3,h4⟩:=adv (a.Hits.len - q) q E.N (by omega) (by omega) (λ p hp=>hlt p hp hib);rw[h4];have only:∀ p,p < a.Hits.len->a.Hits.get p=b.Hits.get i->p=q':=λ p hp e=>by
    rcases Nat.lt_trichotomy p q' with h | h | h
    ·have:=h2 p h;omega
    ·exact h
    ·have := ia q' p h hp;have:=h3 (by omega);omega
   rw[zxz];by_cases c1:q'=a.Hits.len
   ·have:(gX a).contains (b.Hits.get i,b.bz.get i)=false:=by
     cases hc:(gX a).contains (b.Hits.get i,b.bz.get i) with
     | false=>rfl
     | true =>
      obtain⟨p,hp,e,_⟩:=mW.1 (List.contains_iff_mem.1 hc);have:=only p hp e;omega
    rw[show ((q':Int) == (a.Hits.len:Int))=true by rw[beq_iff_eq];omega,this];rfl
   ·rw [show ((q' : Int) == (a.Hits.len : Int)) = false by rw [dqU]; omega, cond_false, bD (by omega), bD (by omega), Int.toNat_natCast, Int.toNat_natCast];by_cases c2:a.Hits.get q'=b.Hits.get i
    ·have:(gX a).contains (b.Hits.get i,b.bz.get i)=(a.bz.get q' == b.bz.get i):=by
      rw[Bool.eq_iff_iff,List.contains_iff_mem,mW,beq_iff_eq];constructor
      ·rintro ⟨p, hp, e, e2⟩;rw[only p hp e] at e2;exact e2
      ·intro h;exact⟨q',by omega,c2,h⟩
     rw[show (a.Hits.get q' != b.Hits.get i)=false by simp[c2],cond_false,bD (by omega),bD (by omega),this,bT (by omega),bne];cases a.bz.get q' == b.bz.get i with
     | false=>rfl
     | true =>
      rw[Bool.true_and];refine ih (i+1) n q' (by omega) (by omega) h1 (λ p hp hi2=>?_);have:=h2 p hp;have:=ib i (i+1) (by omega) hi2;omega
    ·have:(gX a).contains (b.Hits.get i,b.bz.get i)=false:=by
      cases hc:(gX a).contains (b.Hits.get i,b.bz.get i) with
      | false=>rfl
      | true =>
       obtain⟨p,hp,e,_⟩:=mW.1 (List.contains_iff_mem.1 hc);rw[only p hp e] at e;exact absurd e c2
     rw[show (a.Hits.get q' != b.Hits.get i)=true by simpa using c2,this];rfl
 rw[e53,bn];refine (key b.Hits.len 0 E.N 0 (by omega) (by omega) (Nat.zero_le _) (λ p hp=>absurd hp (Si p))).trans ?_;congr 1;unfold ry;congr 1
 ·rw [Bool.eq_iff_iff, List.all_eq_true, List.all_eq_true];constructor
  ·intro h p hp;obtain⟨i,hi,e1,e2⟩:=mW.1 hp;have:=h i (by simp;omega);rw[e1,e2] at this;exact this
  ·intro h i hi;exact h _ (mW.2 ⟨i,by simp at hi;omega,rfl,rfl⟩)
 ·rw[Bool.eq_iff_iff,beq_iff_eq,beq_iff_eq];exact eq_comm
theorem s38 {E:E38}(N:Big E.N):zaA (F38 E):=λ a b ha hb=>ae.ext λ k=>by
 have key:∀ (m i n:Nat),i+m=a.len->i<=b.len->m < n->Xm E n a b (i:Int) k=k (cmpL ((List.range' i m).map a.get) ((List.range' i (b.len - i)).map b.get)):=by
  intro m
  induction m with
  | zero =>
   intro i n hi hb hn;obtain⟨n,rfl⟩:∃ n',n=n'+1:=⟨n - 1,by omega⟩;rw[zmc,decide_eq_false (by omega),cond_false,zmd,zme,decide_eq_false (show ¬ (a.len:Int) > (b.len:Int) by omega),cond_false,kc k];congr 1;cases h:b.len - i with
   | zero=>rw[decide_eq_false (by omega)];rfl
   | succ q=>rw[decide_eq_true (by omega)];rfl
  | succ m ih =>
   intro i n hi hb hn;obtain⟨n,rfl⟩:∃ n',n=n'+1:=⟨n - 1,by omega⟩;rw[zmc,decide_eq_true (by omega),cond_true,List.range'_succ,nG];cases h:b.len - i with
   | zero=>rw[decide_eq_false (by omega),cond_false,zmd,zme,decide_eq_false (by omega),decide_eq_true (show (a.len:Int) > (b.len:Int) by omega)];rfl
   | succ q =>
    rw[decide_eq_true (by omega),cond_true,bD (by omega),bD (by omega),bD (by omega),bD (by omega),Int.toNat_natCast,bT (by omega),ih (i+1) n (by omega) (by omega) (by omega),List.range'_succ,nG,show b.len - (i+1)=q by omega];show _=k (cond (mQ (a.get i) (b.get i) != 0) (mQ (a.get i) (b.get i)) _);unfold mQ;cases decide (a.get i < b.get i) <;> cases decide (a.get i > b.get i) <;> rfl
 rw[e38,bn];have:=key a.len 0 E.N (by omega) (Nat.zero_le _) (by have:=N;omega);unfold tC;rw[List.range_eq_range',List.range_eq_range'];exact this
abbrev zr3 (C:ai×ai->ae Bool):Prop:=∀ a b,One a->One b->∃ r,C (a,b)=.ok r
theorem zLV {E:Zy}(h38:zaA E.c38):zr3 (ziW E):=λ a b ha hb=>by
 have a1:=ha.le;have a2:=ha.sd;have b1:=hb.le;have b2:=hb.sd;exact⟨_,ae.ext λ k=>by rw[zGX,h38 _ _ (by omega) (by omega),bn,h38 _ _ (by omega) (by omega),bn,kc k,kc k,bn]⟩
structure E17 where
  N:Nat
  c23:au×(Sl bC)×Int->ae (Bool)
  c26:au×bP×(Sl bC)->ae (Int)
  c28:au×bP×(Sl bC)->ae ((Sl ai)×Bool)
abbrev G17 (E:E17):aX:=dh (((Tabs.nil.addF 23 (ae.un E.c23)).addF 26 (ae.un E.c26)).addF 28 (ae.un E.c28)) []
def A17:bW:=aU ax 17 [] {}
def F17 (E:E17):au×bP×(Sl bC)×Int->ae ((Sl ai)×Bool):=ae.ty (aF ax E.N (G17 E) A17 17)
section
variable (E:E17){A:Type}(k:((Sl ai)×Bool)->Option A)
theorem e17 (a0:au) (a1:bP) (a2:(Sl bC)) (a3:Int):(F17 E (a0,a1,a2,a3)).T k =
  (E.c23 (a0,a2,a3)).T λ r1 =>
  cond (!r1)
  (k ((⟨0,λ _=>default⟩:(Sl ai)),false))
  (cond (decide ((a2.len:Int) > a3))
 (k ((⟨0,λ _=>default⟩:(Sl ai)),false))
 ((E.c26 (a0,a1,a2)).T λ r2 =>
 cond (r2 != 0)
 (k ((⟨0,λ _=>default⟩:(Sl ai)),false))
 ((E.c28 (a0,a1,a2)).T λ r3 =>
 k (r3.1,r3.2)))):=bH.trans (by kernel_rfl)
end
theorem o17 [aJ] (E:E17) (h23:Ok ax 23 (ae.un E.c23)) (h26:Ok ax 26 (ae.un E.c26)) (h28:Ok ax 28 (ae.un E.c28)):Ok ax 17 (ae.un (F17 E)):=aY (aP (((ay.nil.addF h23).addF h26).addF h28) (ak (by kernel_rfl)))
structure E46 where
  N:Nat
  c53:ai×ai->ae (Bool)
abbrev G46 (E:E46):aX:=dh (Tabs.nil.addF 53 (ae.un E.c53)) []
def A46:bW:=aU ax 46 [] {}
def F46 (E:E46):(Sl ai)×(Sl ai)->ae (Bool):=ae.ty (aF ax E.N (G46 E) A46 46)
section
variable (E:E46){A:Type}(k:Bool->Option A)
def RI (E:E46) (n:Nat) (a0:(Sl ai)) (a1:(Sl ai)) (v5:Int){A:Type}(k:Bool->Option A):Option A :=
  iG ax (G46 E) E.N A46 46 [1,0,1,0] [.n n] (iH k)
    ⟨[(0,eP a0),(1,eP a1),(5,.int v5)],[],[]⟩
def RJ (E:E46) (n0:Nat) (n:Nat) (a0:(Sl ai)) (a1:(Sl ai)) (v5:Int) (v6:Bool) (v7:Int){A:Type}(k:Bool->Option A):Option A :=
  iG ax (G46 E) E.N A46 46 [1,0,1,0,0,1,0,0,1,0,1,0] [.n n0,.n n] (iH k)
    ⟨[(0,eP a0),(1,eP a1),(5,.int v5),(6,.bool v6),(7,.int v7)],[],[]⟩
theorem e46 (a0:(Sl ai)) (a1:(Sl ai)):(F46 E (a0,a1)).T k =
  RI E E.N a0 a1 0 k:=bH.trans (by kernel_rfl)
theorem zmD (n0:Nat) (a0:(Sl ai)) (a1:(Sl ai)) (v5:Int):RI E (n0+1) a0 a1 v5 k =
  cond (decide (v5 < (a0.len:Int)))
  (RJ E n0 E.N a0 a1 v5 false 0 k)
  (k true):=by kernel_rfl
theorem zmE (n0:Nat) (n1:Nat) (a0:(Sl ai)) (a1:(Sl ai)) (v5:Int) (v6:Bool) (v7:Int):RJ E n0 (n1+1) a0 a1 v5 v6 v7 k =
  cond (decide (v7 < (a1.len:Int)))
  (cond v6
 (RJ E n0 n1 a0 a1 v5 true (aO (v7+1)) k)
 (bf (decide (0<=v7/\v7 < (a1.len:Int))) (bf (decide (0<=v5/\v5 < (a0.len:Int))) ((E.c53 ((a1.get v7.toNat),(a0.get v5.toNat))).T λ r1 =>
 RJ E n0 n1 a0 a1 v5 r1 (aO (v7+1)) k))))
  (cond (!v6)
 (k false)
 (RI E n0 a0 a1 (aO (v5+1)) k)):=by kernel_rfl
end
theorem o46 [aJ] (E:E46) (h53:Ok ax 53 (ae.un E.c53)):Ok ax 46 (ae.un (F46 E)):=aY (aP (ay.nil.addF h53) (ak (by kernel_rfl)))
theorem zyB {ag:jc->Bool}{us:jc->Int->Bool}{sd:Nat->jc}{c:jc}{j:Nat}(h:Ch ag us sd c j):c=[]\/ag c=true:=by
 cases h with
 | nil=>exact .inl rfl
 | snoc _ _ _ h=>exact .inr h
theorem zfK {ag : jc → Bool} {us : jc → Int → Bool} {sd : Nat → jc} : ∀ {f out c i}, (∀ x ∈ out, x ≠ []) → ∀ x ∈ NI ag us sd f out c i, x ≠ []
  | 0,out,c,i,h=>h
  | f+1,out,c,i,h=>by
    simp only[NI];generalize sd i=l
    induction l generalizing out with
    | nil=>exact h
    | cons p l ih =>
      rw[List.foldl_cons];refine ih _ ?_;cases us c p.1 || (decide (2000 < out.length) || !ag (c ++ [p])) with
      | true=>exact h
      | false =>
        refine zfK λ x hx=>?_;rcases dL.1 hx with hx | hx
        · exact h x hx
        · rw[jM.1 hx];simp
theorem RN {s:au}{l:Sl bC}{x:Int}(he:Ev s l x){t:ai}(ht:Oq x t) (hc:gX t∈Rz s l x):mf s l t:=by
 have ne:=zfK (f:=30) (out:=[]) (λ x h=>by cases h) _ hc;rcases XM .nil hc with h | ⟨j,hj⟩
 ·cases h
 ·have e := ht.1;subst e;exact { ev:=he,tv:=ht,vl:=⟨j,Vu hj⟩,ne:=ne,ag:=(zyB hj).resolve_left ne }
theorem zr4 {P:ai->Prop}{w:Sl ai}{t:ai}(h:∀ t∈ls w,P t) (ht:P t):∀ u∈ls (qp w t),P u:=λ u hu=>by
 rw[zfD] at hu;rcases dL.1 hu with hu | hu
 ·exact h u hu
 ·rw[jM.1 hu];exact ht
def zH (s:au) (l:Sl bC) (x:Int):Bool:=decide ((Rz s l x).length<=2000)
abbrev Q94 (C:au×bP×Sl bC×Int->ae (Sl ai×Bool)):Prop:=∀ s r l x,Ev s l x->∃ w:Sl ai,C (s,r,l,x)=.ok (w,zH s l x)/\w.len<=2001/\∀ t∈ls w,mf s l t
theorem s94 {E:E94}(N:Big E.N) (zpA:zry E.zlc) (zpB:zr2 E.c154):Q94 (F94 E):=λ s r l x he=>by
 obtain⟨v,h1,h2,h3,h4⟩:=zpA s l x he;have ha:∀ i,i < v.len->mf s l (v.get i):=λ i hi=>RN he (h3 i hi) (by rw[<- h2];exact DW (zky hi));cases hb:zH s l x with
 | false=>exact⟨⟨0,λ _=>default⟩,ae.ext λ k=>by rw[e94,h1,bn];show cond (!zH s l x) _ _=_;rw[hb];rfl,Nat.zero_le _,λ t h=>by cases h⟩
 | true =>
  have key:∀ (m i n:Nat) (w:Sl ai),i+m=v.len->m < n->w.len<=i->(∀ t∈ls w,mf s l t)->∃ w':Sl ai,(∀ (A:Type) (k:Sl ai×Bool->Option A),Cf E n s r l v (i:Int) w k=k (w',true))/\w'.len<=v.len/\∀ t∈ls w',mf s l t:=by
   intro m
   induction m with
   | zero =>
    intro i n w hi hn hw hq;obtain⟨n,rfl⟩:∃ n',n=n'+1:=⟨n - 1,by omega⟩;exact⟨w,λ A k=>by rw[zmr,decide_eq_false (by omega)];rfl,by omega,hq⟩
   | succ m ih =>
    intro i n w hi hn hw hq;obtain⟨n,rfl⟩:∃ n',n=n'+1:=⟨n - 1,by omega⟩;obtain⟨b,eb⟩:=zpB s r l _ (ha i (by omega));have st:∀ (A:Type) (k:Sl ai×Bool->Option A),Cf E (n+1) s r l v (i:Int) w k=cond b (Cf E n s r l v ((i+1:Nat):Int) (qp w (v.get i)) k) (Cf E n s r l v ((i+1:Nat):Int) w k):=λ A k=>by
     rw[zmr,decide_eq_true (by omega),cond_true,bD (by omega),Int.toNat_natCast,eb,bn,bT (by omega),bD (by omega),jl (by omega) (by omega)];rfl
    cases b with
    | true =>
     obtain⟨w',a,c,d⟩:=ih (i+1) n (qp w (v.get i)) (by omega) (by omega) (by show w.len+1<=i+1;omega) (zr4 hq (ha i (by omega)));exact⟨w',λ A k=>by rw[st];exact a A k,c,d⟩
    | false =>
     obtain⟨w',a,c,d⟩:=ih (i+1) n w (by omega) (by omega) (by omega) hq;exact⟨w',λ A k=>by rw[st];exact a A k,c,d⟩
  obtain⟨w',a,c,d⟩:=key v.len 0 E.N ⟨0,RG⟩ (by omega) (by have:=N;omega) (iZ _) (λ t h=>by cases h);refine⟨w',ae.ext λ k=>?_,by omega,d⟩;rw[e94,h1,bn];show cond (!zH s l x) _ _=_;rw[hb];exact a _ k
abbrev Q88 (C:au×bP×Sl bC×Int->ae (Sl ai×Bool)):Prop:=∀ s r l x,Ev s l x->∃ w:Sl ai,C (s,r,l,x)=.ok (w,zH s l x)/\w.len<=2001
theorem s88 {E:E88}(N:Big E.N) (h94:Q94 E.c94) (h53:Q53 E.c53) (zpr:zr3 E.zk9):Q88 (F88 E):=λ s r l x he=>by
 have hN:=N;obtain⟨v,h1,h2,h3⟩:=h94 s r l x he;have ha:∀ i,i < v.len->mf s l (v.get i):=λ i hi=>h3 _ (iW.2 ⟨i,hi,rfl⟩);cases hb:zH s l x with
 | false=>exact⟨_,ae.ext λ k=>by rw[e88,h1,bn];show cond (!zH s l x) _ _=_;rw[hb];rfl,Nat.zero_le _⟩
 | true =>
  have mo:∀ n0 (i:Nat),i < v.len->∀ (m j n1:Nat) (w:Sl ai) (f:Bool),j+m=v.len->m < n1->∃ B:Bool,∀ (A:Type) (k:Sl ai×Bool->Option A),Ce E n0 n1 v (i:Int) f (j:Int) w k=cond B (wR E n0 v ((i+1:Nat):Int) w k) (Gy E n0 E.N v w (i:Int) 0 k):=by
   intro n0 i hi m
   induction m with
   | zero =>
    intro j n1 w f hj hn;obtain⟨n1,rfl⟩:∃ n',n1=n'+1:=⟨n1 - 1,by omega⟩;exact⟨!f,λ A k=>by rw[Xr,decide_eq_false (by omega),cond_false,bT (by omega)]⟩
   | succ m ih =>
    intro j n1 w f hj hn;obtain⟨n1,rfl⟩:∃ n',n1=n'+1:=⟨n1 - 1,by omega⟩;have st:∃ f':Bool,∀ (A:Type) (k:Sl ai×Bool->Option A),Ce E n0 (n1+1) v (i:Int) f (j:Int) w k=Ce E n0 n1 v (i:Int) f' ((j+1:Nat):Int) w k:=by
     cases f with
     | false=>exact⟨false,λ A k=>by rw[Xr,decide_eq_true (by omega),bT (by omega)];rfl⟩
     | true =>
      by_cases e:i=j
      ·exact⟨true,λ A k=>by rw[Xr,decide_eq_true (by omega),bT (by omega),show ((i:Int) == (j:Int))=true by rw[beq_iff_eq];omega];rfl⟩
      ·exact⟨_,λ A k=>by
        rw[Xr,decide_eq_true (by omega),bT (by omega),show ((i:Int) == (j:Int))=false by rw[dqU];omega,cond_true,cond_true,cond_false,bD (by omega),bD (by omega),Int.toNat_natCast,Int.toNat_natCast,h53 _ _ (ha j (by omega)).inc (ha i hi).inc,bn]⟩
    obtain⟨f',h⟩:=st;obtain⟨B,h2⟩:=ih (j+1) n1 w f' (by omega) (by omega);exact⟨B,λ A k=>by rw[h,h2]⟩
  have pos:∀ n0 (i:Nat),i < v.len->∀ (w:Sl ai),(∀ t∈ls w,mf s l t)->∀ (m j n1:Nat),j+m=w.len->w.len<=2001->m < n1->∃ a,a<=w.len/\∀ (A:Type) (k:Sl ai×Bool->Option A),Gy E n0 n1 v w (i:Int) (j:Int) k=KA E n0 v w (i:Int) (a:Int) k:=by
   intro n0 i hi w hw m
   induction m with
   | zero =>
    intro j n1 hj hl hn;obtain⟨n1,rfl⟩:∃ n',n1=n'+1:=⟨n1 - 1,by omega⟩;exact⟨j,by omega,λ A k=>by rw[zmm,decide_eq_false (by omega)];rfl⟩
   | succ m ih =>
    intro j n1 hj hl hn;obtain⟨n1,rfl⟩:∃ n',n1=n'+1:=⟨n1 - 1,by omega⟩;obtain⟨b,eb⟩:=zpr (w.get j) (v.get i) (hw _ (iW.2 ⟨j,by omega,rfl⟩)).one (ha i hi).one;have st:∀ (A:Type) (k:Sl ai×Bool->Option A),Gy E n0 (n1+1) v w (i:Int) (j:Int) k=cond b (Gy E n0 n1 v w (i:Int) ((j+1:Nat):Int) k) (KA E n0 v w (i:Int) (j:Int) k):=λ A k=>by
     rw[zmm,decide_eq_true (by omega),cond_true,bD (by omega),bD (by omega),Int.toNat_natCast,Int.toNat_natCast,eb,bn,bT (by omega)]
    cases b with
    | true =>
     obtain⟨a,a1,a2⟩:=ih (j+1) n1 (by omega) hl (by omega);exact⟨a,a1,λ A k=>by rw[st];exact a2 A k⟩
    | false=>exact⟨j,by omega,λ A k=>by rw[st];rfl⟩
  have key:∀ (m i n:Nat) (w:Sl ai),i+m=v.len->m < n->w.len<=i->(∀ t∈ls w,mf s l t)->∃ w':Sl ai,(∀ (A:Type) (k:Sl ai×Bool->Option A),wR E n v (i:Int) w k=k (w',true))/\w'.len<=v.len:=by
   intro m
   induction m with
   | zero =>
    intro i n w hi hn hw hq;obtain⟨n,rfl⟩:∃ n',n=n'+1:=⟨n - 1,by omega⟩;exact⟨w,λ A k=>by rw[zml,decide_eq_false (by omega)];rfl,by omega⟩
   | succ m ih =>
    intro i n w hi hn hw hq;obtain⟨n,rfl⟩:∃ n',n=n'+1:=⟨n - 1,by omega⟩;have hi':i < v.len:=by omega
    obtain⟨B,hB⟩:=mo n i hi' v.len 0 E.N w true (by omega) (by omega);obtain⟨a,a1,a2⟩:=pos n i hi' w hq w.len 0 E.N (by omega) (by omega) (by omega);have ins:∃ w':Sl ai,(∀ (A:Type) (k:Sl ai×Bool->Option A),KA E n v w (i:Int) (a:Int) k=wR E n v ((i+1:Nat):Int) w' k)/\w'.len=w.len+1/\∀ t∈ls w',mf s l t:=by
     refine⟨_,λ A k=>by
      rw[zxE,bD (by omega),jl (by omega) (by omega),bD (by omega),jl (by omega) (by omega),bD (by omega),jl (by omega) (by omega),bT (by omega)],?_,?_⟩
     ·show ((((a:Int) - 0).toNat+1)+((w.len:Int) - (a:Int)).toNat)=_;omega
     ·intro t ht;obtain⟨q,hq',rfl⟩:=iW.1 ht;have hq':q < ((((a:Int) - 0).toNat+1)+((w.len:Int) - (a:Int)).toNat):=hq';show mf s l (jd (((a:Int) - 0).toNat+1) (jd ((a:Int) - 0).toNat (Jf w.get 0) (λ _=>v.get (i:Int).toNat)) (Jf w.get (a:Int).toNat) q);rw[iy];split
      ·exact hq _ (iW.2 ⟨q - (((a:Int) - 0).toNat+1)+(a:Int).toNat,by omega,rfl⟩)
      ·rw [iy];split
       ·rw[Int.toNat_natCast];exact ha i hi'
       ·exact hq _ (iW.2 ⟨q+0,by omega,rfl⟩)
    obtain⟨w1,i1,i2,i3⟩:=ins;have st:∀ (A:Type) (k:Sl ai×Bool->Option A),wR E (n+1) v (i:Int) w k=cond B (wR E n v ((i+1:Nat):Int) w k) (wR E n v ((i+1:Nat):Int) w1 k):=λ A k=>by
     rw[zml,decide_eq_true (by omega),cond_true];have h0:=hB A k;have h1:=a2 A k;rw[show ((0:Nat):Int)=0 from rfl] at h0 h1;rw[h0,h1,i1]
    cases B with
    | true =>
     obtain⟨w',x1,x2⟩:=ih (i+1) n w (by omega) (by omega) (by omega) hq;exact⟨w',λ A k=>by rw[st];exact x1 A k,x2⟩
    | false =>
     obtain⟨w',x1,x2⟩:=ih (i+1) n w1 (by omega) (by omega) (by omega) i3;exact⟨w',λ A k=>by rw[st];exact x1 A k,x2⟩
  obtain⟨w',a,c⟩:=key v.len 0 E.N ⟨0,RG⟩ (by omega) (by omega) (iZ _) (λ t h=>by cases h);refine⟨w',ae.ext λ k=>?_,by omega⟩;rw[e88,h1,bn];show cond (!zH s l x) _ _=_;rw[hb];exact a _ k
abbrev Q28 (C:au×bP×Sl bC->ae (Sl ai×Bool)):Prop:=∀ s r l,Ev s l 1->Ev s l 2->∃ w:Sl ai,C (s,r,l)=.ok (w,zH s l 1 && zH s l 2)
theorem s28 {E:E28}(h88:Q88 E.v88):Q28 (F28 E):=λ s r l h1 h2=>by
 obtain⟨a,a1,a2⟩:=h88 s r l 1 h1;obtain⟨b,b1,b2⟩:=h88 s r l 2 h2;refine⟨⟨a.len+b.len,jd a.len a.get b.get⟩,ae.ext λ k=>?_⟩;rw[e28,a1,bn,b1,bn,jl (show a.len+b.len<=1000000 by omega) (by omega)];show cond (zH s l 1) _ _=_;cases zH s l 1 <;> rfl
structure Fair (s : au) (r : bP) (l : Sl bC) (m : Int) : Prop where
  sh:pW s
  le:l.len<=40
  lm:(l.len:Int)<=m
  rf:qQ s r l=0
  n1:(l9 s l 1).length<=2000
  n2:(l9 s l 2).length<=2000
abbrev Q17 (C:au×bP×Sl bC×Int->ae (Sl ai×Bool)):Prop:=∀ s r l m,∃ w b,C (s,r,l,m)=.ok (w,b)/\(b=true->Fair s r l m)
theorem s17 {E:E17}(h23:Q23 E.c23) (h26:Q26 E.c26) (h28:Q28 E.c28):Q17 (F17 E):=λ s r l m=>by
 cases hsh:Zk s l m with
 | false=>exact⟨⟨0,λ _=>default⟩,false,ae.ext λ k=>by rw[e17,h23,bn,hsh];rfl,λ h=>by cases h⟩
 | true =>
  obtain⟨hs,hl,_⟩:=zph hsh;by_cases hm:(l.len:Int) > m
  ·exact⟨⟨0,λ _=>default⟩,false,ae.ext λ k=>by rw[e17,h23,bn,hsh,decide_eq_true hm];rfl,λ h=>by cases h⟩
  ·by_cases h0 : qQ s r l = 0
   ·obtain ⟨he, _, uZ⟩ := MW hs h0;obtain⟨w,hw⟩:=h28 s r l { toEvt:=he,l24:=uZ,vw:=rfl } { toEvt:=he,l24:=uZ,vw:=rfl };refine⟨w,zH s l 1 && zH s l 2,ae.ext λ k=>by rw[e17,h23,bn,hsh,decide_eq_false hm,h26 s r l hs hl,bn,h0];show (E.c28 (s,r,l)).T _=_;rw[hw,bn],λ h=>?_⟩;rw[fE] at h;have a:=of_decide_eq_true h.1;have b:=of_decide_eq_true h.2;refine⟨hs,hl,by omega,h0,?_,?_⟩
    ·rw[<- X3 a];exact a
    ·rw[<- X3 b];exact b
   ·exact⟨⟨0,λ _=>default⟩,false,ae.ext λ k=>by rw[e17,h23,bn,hsh,decide_eq_false hm,h26 s r l hs hl,bn,show (qQ s r l != 0)=true by simpa using h0];rfl,λ h=>by cases h⟩
structure E11 where
  N:Nat
  c17:au×bP×(Sl bC)×Int->ae ((Sl ai)×Bool)
  c19:Unit->ae (Bool)
  c20:au×bP×(Sl bC)->ae ((Sl ai)×Int)
  c46:(Sl ai)×(Sl ai)->ae (Bool)
abbrev G11 (E:E11):aX:=dh ((((Tabs.nil.addF 17 (ae.un E.c17)).addF 19 (ae.un E.c19)).addF 20 (ae.un E.c20)).addF 46 (ae.un E.c46)) []
def A11:bW:=aU ax 11 [] {}
def F11 (E:E11):au×bP×(Sl bC)×Int×Int->ae (Bool):=ae.ty (aF ax E.N (G11 E) A11 11)
section
variable (E:E11){A:Type}(k:Bool->Option A)
theorem e11 (a0:au) (a1:bP) (a2:(Sl bC)) (a3:Int) (a4:Int):(F11 E (a0,a1,a2,a3,a4)).T k =
  (E.c17 (a0,a1,a2,8)).T λ r1 =>
  cond (!r1.2)
  ((E.c19 ()).T λ r2 =>
 k r2)
  (cond (decide (a3 < 0))
 ((E.c19 ()).T λ r3 =>
 k r3)
 (cond (decide (a3 > 16))
 ((E.c19 ()).T λ r4 =>
 k r4)
 (cond (decide (a4 < 0))
 ((E.c19 ()).T λ r5 =>
 k r5)
 (cond (decide (a4 > 16))
 ((E.c19 ()).T λ r6 =>
 k r6)
 ((E.c20 (a0,a1,a2)).T λ r7 =>
 (E.c20 (a0,(⟨(if (aO (a1.jL - a3)) > 1 then (aO (a1.jL - a3)) else 1),(if (aO (a1.kF+a4)) < 16 then (aO (a1.kF+a4)) else 16)⟩:bP),a2)).T λ r8 =>
 cond (r7.2 == 0)
 (cond (r8.2 == 0)
 ((E.c46 (r7.1,r8.1)).T λ r9 =>
 cond r9
 ((E.c19 ()).T λ r10 =>
 k r10)
 (k false))
 (k false))
 (k false)))))):=bH.trans (by kernel_rfl)
end
theorem o11 [aJ] (E:E11) (h17:Ok ax 17 (ae.un E.c17)) (h19:Ok ax 19 (ae.un E.c19)) (h20:Ok ax 20 (ae.un E.c20)) (h46:Ok ax 46 (ae.un E.c46)):Ok ax 11 (ae.un (F11 E)):=aY (aP ((((ay.nil.addF h17).addF h19).addF h20).addF h46) (ak (by kernel_rfl)))
theorem allL {α:Type}{w:Sl α}{p:α->Bool} : dR (λ i=>p (w.get i)) w.len=(ls w).all p:=by
 rw[Bool.eq_iff_iff,dG,List.all_eq_true];constructor
 ·intro h t ht;obtain⟨i,hi,rfl⟩:=iW.1 ht;exact h i hi
 ·intro h i hi;exact h _ (iW.2 ⟨i,hi,rfl⟩)
abbrev Q46 (C:Sl ai×Sl ai->ae Bool):Prop:=∀ a b:Sl ai,a.len<=10000->b.len<=10000->(∀ t∈ls a,VB t)->(∀ t∈ls b,VB t)->C (a,b)=.ok ((ls a).all λ t=>(ls b).any λ x=>ry x t)
theorem s46 {E:E46}(N:Big E.N) (h53:Q53 E.c53):Q46 (F46 E):=λ a b la lb ha hb=>ae.ext λ k=>by
 have hN:=N;have inn:∀ n0 (i:Nat),i < a.len->∀ (m j n1:Nat) (f:Bool),j+m=b.len->m < n1->RJ E n0 n1 a b (i:Int) f (j:Int) k=cond (f || (List.range' j m).any λ j=>ry (b.get j) (a.get i)) (RI E n0 a b ((i+1:Nat):Int) k) (k false):=by
  intro n0 i hi m
  induction m with
  | zero =>
   intro j n1 f hj hn;obtain⟨n1,rfl⟩:∃ n',n1=n'+1:=⟨n1 - 1,by omega⟩;rw[zmE,decide_eq_false (by omega),cond_false,bT (by omega)];cases f <;> rfl
  | succ m ih =>
   intro j n1 f hj hn;obtain⟨n1,rfl⟩:∃ n',n1=n'+1:=⟨n1 - 1,by omega⟩;rw[zmE,decide_eq_true (by omega),cond_true,bT (by omega),List.range'_succ,List.any_cons];cases f with
   | true=>rw[cond_true,ih (j+1) n1 true (by omega) (by omega)];rfl
   | false =>
    rw[cond_false,bD (by omega),bD (by omega),Int.toNat_natCast,Int.toNat_natCast,h53 _ _ (hb _ (iW.2 ⟨j,by omega,rfl⟩)) (ha _ (iW.2 ⟨i,hi,rfl⟩)),bn,ih (j+1) n1 _ (by omega) (by omega)];rw[Bool.false_or]
 rw[e46,bn,loopA (L:=λ n i=>RI E n a b i k) (p:=λ i=>(ls b).any λ x=>ry x (a.get i)) (m:=a.len) (fin:=k true) (stop:=k false) (by omega) (λ n i hi=>?_) (λ n=>?_) _ (by omega),allL (p:=λ t=>(ls b).any λ x=>ry x t)]
 ·cases (ls a).all λ t=>(ls b).any λ x=>ry x t <;> rfl
 ·rw [zmD, decide_eq_true (by omega), cond_true];have:=inn n i hi b.len 0 E.N false (by omega) (by omega);refine this.trans ?_;rw[Bool.false_or,bT (by omega)];congr 1;unfold ls;rw[List.any_map,List.range_eq_range'];rfl
 ·rw[zmD,decide_eq_false (by omega)];rfl
theorem zaB (t:ai):ry t t=true:=Hy.2 ⟨λ _ h=>h,rfl⟩
theorem zkH {a b c:ai}(h1:ry b a=true) (h2:ry c b=true):ry c a=true:=by
 rw[Hy] at *;exact⟨λ p hp=>h2.1 p (h1.1 p hp),h1.2.trans h2.2⟩
theorem Ot.fit {s:au}{r:bP}{l:Sl bC}{f:found}(h:Ot s r l f){t:ai}(ht:t∈ls f.fits):(t.View=1\/t.View=2)/\Oq t.View t/\gX t∈(l9 s l t.View).filter (qi s l t.View r):=by
 obtain⟨X,Y,e,x1,y1,x2,y2⟩:=h.fx;rw[e] at ht;rcases dL.1 ht with h | h
 ·have a := (x1 t h).1;exact⟨.inl a,⟨rfl,(x1 t h).2⟩,by rw[a,<- x2];exact List.mem_map_of_mem h⟩
 ·have a := (y1 t h).1;exact⟨.inr a,⟨rfl,(y1 t h).2⟩,by rw[a,<- y2];exact List.mem_map_of_mem h⟩
theorem Ot.has {s:au}{r:bP}{l:Sl bC}{f:found}(h:Ot s r l f){x:Int}(hx:x=1\/x=2){c:jc}(hc:c∈(l9 s l x).filter (qi s l x r)):∃ t∈ls f.fits,t.View=x/\gX t=c:=by
 obtain⟨X,Y,e,x1,y1,x2,y2⟩:=h.fx;rcases hx with rfl | rfl
 ·rw [← x2] at hc;obtain⟨t,ht,he⟩:=vC.1 hc;exact⟨t,by rw[e];exact List.mem_append_left _ ht,(x1 t ht).1,he⟩
 ·rw [← y2] at hc;obtain⟨t,ht,he⟩:=vC.1 hc;exact⟨t,by rw[e];exact List.mem_append_right _ ht,(y1 t ht).1,he⟩
theorem Ot.chosen {s:au}{r:bP}{l:Sl bC}{f:found}(h:Ot s r l f) (he:Evt s l) (uZ:l.len<=24){t:ai}(ht:t∈ls f.fits):lw s l t:=by
 obtain⟨v,tv,m⟩:=h.fit ht;obtain⟨⟨j,hj⟩,ne⟩:=RH (List.mem_filter.1 m).1;exact { ev:={ toEvt:=he,l24:=uZ,vw:=decide_eq_true v },tv:=tv,vl:=⟨j,Vu hj⟩,ne:=ne }
theorem Ot.sub {s:au}{r:bP}{l:Sl bC}{f:found}(h:Ot s r l f){t:ai}(ht:t∈ls f.lD):t∈ls f.fits:=(List.mem_filter.1 (h.tr.mem_iff.1 ht)).1
theorem Ot.max {s:au}{r:bP}{l:Sl bC}{f:found}(h:Ot s r l f) (he:Evt s l) (uZ:l.len<=24){t:ai}(ht:t∈ls f.fits):∃ m∈ls f.lD,ry m t=true:=by
 obtain⟨m,hm,h1,h2⟩:=zqY (F:=ls f.fits) (λ t=>t.Hits.len) (λ a b=>ry b a=true) zaB (λ a b c h1 h2=>zkH h1 h2) 100 (λ a ha=>(h.chosen he uZ ha).one.le) t ht;refine⟨m,h.tr.mem_iff.2 (List.mem_filter.2 ⟨hm,?_⟩),h1⟩;rw[Bool.not_eq_true',List.any_eq_false];intro x hx hg;unfold SB at hg;rw[fE,decide_eq_true_eq] at hg;exact h2 x hx ⟨by have:=hg.1;omega,hg.2⟩
theorem Ot.cont {s s' : au} {r q : bP} {l l' : Sl bC} {f g : found} (h : Ot s r l f) (k : Ot s' q l' g) (he : Evt s' l') (uZ : l'.len ≤ 24) (sub : ∀ x c, (x = 1 ∨ x = 2) → c ∈ (l9 s l x).filter (qi s l x r) → c ∈ (l9 s' l' x).filter (qi s' l' x q)) :
  ((ls f.lD).all λ t=>(ls g.lD).any λ x=>ry x t)=true:=by
 rw[List.all_eq_true];intro t ht;obtain⟨v,tv,m⟩:=h.fit (h.sub ht);obtain⟨u,hu,e1,e2⟩:=k.has v (sub _ _ v m);obtain⟨w,hw,e3⟩:=k.max he uZ hu;rw[List.any_eq_true];refine⟨w,hw,?_⟩;rw[Hy] at e3 ⊢;rw[e2] at e3;exact⟨e3.1,e1.symm.trans e3.2⟩
theorem Ot.len {s:au}{r:bP}{l:Sl bC}{f:found}(h:Ot s r l f) (n1:(l9 s l 1).length<=2000) (n2:(l9 s l 2).length<=2000):f.lD.len<=4000:=by
 obtain⟨X,Y,e,x1,y1,x2,y2⟩:=h.fx;have a:=h.tr.length_eq;rw[qh] at a;have b:=List.length_filter_le (λ t=>!(ls f.fits).any λ x=>SB x t) (ls f.fits);rw[e,RY] at b;have c:=congrArg List.length x2;have d:=congrArg List.length y2;rw[List.length_map] at c d;have:=List.length_filter_le (qi s l 1 r) (l9 s l 1);have:=List.length_filter_le (qi s l 2 r) (l9 s l 2);rw[e] at a;omega
theorem Fair.evt {s:au}{r:bP}{l:Sl bC}{m:Int}(h:Fair s r l m):Evt s l/\l.len<=24/\jD r=true:=by
 obtain⟨a,b,c⟩:=MW h.sh h.rf;exact⟨a,c,b⟩
theorem zyC {s:au}{r:bP}{l:Sl bC}(he:Evt s l) (uZ:l.len<=24) (hr:jD r=true):qQ s r l=0:=by
 unfold qQ;rw[decide_eq_false (by omega),he.se,hr,he.hi];rfl
abbrev Q11 (C:au×bP×Sl bC×Int×Int->ae Bool):Prop:=∀ s r l a b,C (s,r,l,a,b)=.ok true
theorem s11 {E:E11}(h17:Q17 E.c17) (h19:Q19 E.c19) (h20:Q20 E.c20) (h46:Q46 E.c46):Q11 (F11 E):=λ s r l a b=>ae.ext λ k=>by
 obtain⟨w,is,h1,h2⟩:=h17 s r l 8;rw[e11,h1,h19,bn,bn];cases is with
 | false=>rfl
 | true =>
  have hf:=h2 rfl;obtain⟨he,uZ,hr⟩:=hf.evt;show cond _ _ _=_;by_cases a0:a < 0
  ·rw[decide_eq_true a0];rfl
  by_cases a1:a > 16
  ·rw[decide_eq_false a0,decide_eq_true a1];rfl
  by_cases b0:b < 0
  ·rw[decide_eq_false a0,decide_eq_false a1,decide_eq_true b0];rfl
  by_cases b1:b > 16
  ·rw[decide_eq_false a0,decide_eq_false a1,decide_eq_false b0,decide_eq_true b1];rfl
  rw[decide_eq_false a0,decide_eq_false a1,decide_eq_false b0,decide_eq_false b1];simp only[cond_false];have rb:=hr;simp only[jD,inB,fE,decide_eq_true_eq] at rb;rw[bg (x:=r.jL - a) (by omega) (by omega),bg (x:=r.kF+b) (by omega) (by omega)];generalize hq:(⟨if r.jL - a > 1 then r.jL - a else 1,if r.kF+b < 16 then r.kF+b else 16⟩:bP)=q;have q1:1<=q.jL/\q.jL<=r.jL:=by rw[<- hq];show 1<=(if r.jL - a > 1 then r.jL - a else 1)/\(if r.jL - a > 1 then r.jL - a else 1)<=r.jL;split <;> omega
  have q2:r.kF<=q.kF/\q.kF<=16:=by rw[<- hq];show r.kF<=(if r.kF+b < 16 then r.kF+b else 16)/\(if r.kF+b < 16 then r.kF+b else 16)<=16;split <;> omega
  have hrq:jD q=true:=by simp only[jD,inB,fE,decide_eq_true_eq];omega
  obtain⟨f,f1,f2⟩:=h20 s r l hf.sh hf.le hf.rf hf.n1 hf.n2;obtain⟨g,g1,g2⟩:=h20 s q l hf.sh hf.le (zyC he uZ hrq) hf.n1 hf.n2;have inc:∀ {r:bP} {f:found},Ot s r l f->∀ t∈ls f.lD,VB t:=λ h t ht=>(h.chosen he uZ (h.sub ht)).inc;have l1:=f2.len hf.n1 hf.n2;have l2:=g2.len hf.n1 hf.n2;have fin:=f2.cont g2 he uZ λ x c _ hc=>by
   rw[List.mem_filter] at hc ⊢;refine⟨hc.1,?_⟩;have:=hc.2;simp only[qi,fE,decide_eq_true_eq] at this ⊢;omega
  rw[f1,bn,g1,bn];show (E.c46 (f.lD,g.lD)).T _=_;rw[h46 _ _ (by omega) (by omega) (inc f2) (inc g2),bn,fin];rfl
end Go.Proofs
namespace Go.Pm
variable [aJ]
open Go.Shelf Go.RowKit Go.Lib Go.Sort Go.Proofs


theorem zaC {w w':World}(h1:w'.heap=w.heap) (h2:w'.tape=w.tape) (h3:w'.drawn=w.drawn) (h4:w'.os=w.os) (h5:w'.output=w.output):w'=w:=by
 cases w;cases w';simp_all
theorem zfL {w w':World}{h:Fz}(b : @tN ⟨1⟩ h w.heap.size w w'):∃ q os,w'=grow (w.drewN q) os:=by
 obtain⟨bos,zyD,zL3,zQf,zr5,zr6⟩:=b;refine⟨w'.drawn - w.drawn,w'.heap.extract w.heap.size w'.heap.size,zaC ?_ zyD ?_ bos zL3⟩
 ·show w'.heap = w.heap ++ w'.heap.extract w.heap.size w'.heap.size;apply Array.ext_getElem?;intro i;rw[Array.getElem?_append];split
  ·rename_i hl;exact zr6 i hl
  ·rename_i hl;rw[Array.getElem?_extract];by_cases hlt:i < w'.heap.size
   ·rw[if_pos (by omega)];congr 1;omega
   ·rw[if_neg (by omega),Array.getElem?_eq_none (by omega)]
 ·show w'.drawn = w.drawn + (w'.drawn - w.drawn);have:w.drawn * 1<=w'.drawn * 1:=zr5;omega

theorem N7 {w : World} {g q : Nat} {cur : Array Value} {e : TypeId} {fr : Nat × Nat} {off : Nat} (F : Array Value) (hb : w.heap[g]? = some (.cells cur e fr)) :
  ∃ cur',(putRow id (Sort.ahead w q) g off F).heap[g]? = some (.cells cur' e fr)/\cur'.size=cur.size:=by
 refine⟨putCells id off F cur,?_,by simp[putCells]⟩;simp[putRow,mapBlock,Sort.ahead,Array.getElem?_modify,hb,onCells]
theorem CB {w:World}{g q off:Nat}(F:Array Value){k:Nat}(hk:k ≠ g):(putRow id (Sort.ahead w q) g off F).heap[k]? = w.heap[k]?:=by
 simp[putRow,mapBlock,Sort.ahead,Array.getElem?_modify,Ne.symm hk]

theorem zfM {C : List PA → ae (List PA)} {caps : List PV} {ag : Bool} {get : Nat → List PV} {i j : Nat} (h : (Ea C caps ag get i j).isSome = true) :
  ∃ rs,(C (elP ag (get i) :: elP ag (get j) :: caps.map .one)).o=some rs/\rs=[.one (.int .i64 (kT C caps ag get i j))]:=by
 unfold kT;cases e:Ea C caps ag get i j with
 | none=>rw[e] at h;cases h
 | some c =>
  unfold Ea at e;obtain⟨rs,h1,h2⟩:=ae.T_some e;refine⟨rs,h1,?_⟩;split at h2
  ·cases h2;rfl
  ·cases h2
theorem KN {P:Program}{ρ:Ren}(L:SlLaysF0.n6 P ρ){e s b:Nat}(he:ρ.t 24=e) (hag:ig P e=some true) (hsz:mg P e=some s) (hc:dA P (ρ.f 6)):dX P (ρ.f 6) (.sort e s b):=by
 intro w h base v n get gf caps cv ag C hC hcv hag' _ hpos ⟨xs,hown,hr⟩ hone hw hob hbase ⟨hn,hS,hO⟩;rw[hag] at hag';simp only[bJ] at hag';subst hag';refine⟨hc,?_⟩;have hdr:∀ (w':World) (k:Nat),w.drawn<=w.drawn+k:=λ _ k=>Nat.le_add_right _ _;have none:∀ (p:Option Addr) (cap:Nat),n=0->v=.slice p 0 cap->Calls P (ρ.f 6) #[v,.func (.func gf) #[] cv.toArray] w λ r w'=>r=.returned (.tuple #[])/\wB h w' base e s v n (Eb n (kT C caps true get) get)/\GrB w w' v.ownBlock:=by
  rintro p cap rfl rfl;refine (AnyF.slices_SortFunc_none L p cap _ w).mono ?_;rintro r w' ⟨rfl,rfl⟩;exact⟨rfl,⟨xs,hown,λ i hi=>absurd hi (Si i)⟩,⟨rfl,rfl,rfl,iZ _,λ _ _ _=>rfl⟩,iZ _⟩
 rcases hown.2 with ⟨h1,h2⟩ | ⟨blk,cap,cur,rfl,hb,hcell,hncap,hcap,hcs,htk⟩
 ·exact none _ _ h2 h1
 by_cases hn0:n=0
 ·subst hn0;exact none _ _ rfl rfl
 have:Inhabited (Fin n):=⟨⟨0,by omega⟩⟩;let enc:Fin n->List Value:=λ i=>(xs.drop (i.val * s)).take s;let c:=kT C caps true get;let cf:Fin n->Fin n->Int:=λ x y=>c x.val y.val;let d:Array (Fin n):=Array.ofFn id;have hds:d.size=n:=Array.size_ofFn;have hdi:∀ i (hi:i < n),d[i]! = ⟨i,hi⟩:=λ i hi=>by
  rw[getElem!_pos d i (by rw[hds];exact hi)];simp[d]
 have hlt:blk < w.heap.size:=(RX.1 hcell).1;have hbn:h blk=Option.none:=hob blk rfl;have hmul:∀ i,i < n->i * s+s<=n * s:=λ i hi=>by have:=KP s (Nat.succ_le_of_lt hi);rw[Oj] at this;exact this
 have hk:∀ x,(enc x).length=s:=λ x=>by
  have:=hmul x.val x.isLt;simp only[enc,List.length_take,List.length_drop,hown.1];omega
 have zL4:∀ j,j < n * s->cur[j]? = xs[j]?:=λ j hj=>by
  have:(cur.toList.take (n * s))[j]? = xs[j]?:=by rw[htk]
  rw[C9,if_pos hj] at this;simpa using this
 have hxl:∀ j,j < n * s->∃ u,xs[j]? = some u:=λ j hj=>⟨xs[j]'(by rw[hown.1];exact hj),zL _⟩;have h1:∀ x,∀ u∈enc x,u.oneCell'=true:=λ x u hu=>by
  obtain⟨j,hj⟩:=List.getElem?_of_mem hu;obtain⟨p,_,hp⟩:=(hr x.val x.isLt).get' j u hj;exact hp.one
 have zyE:∀ j (hj:j < n * s),(flatK enc s d)[j]! = xs[j]'(by rw[hown.1];exact hj):=λ j hj=>by
  have hq:j / s < n:=Nat.div_lt_of_lt_mul (by rw[Nat.mul_comm];exact hj);rw[get_flatK _ _ _ _ (by rw[hds];exact hj),hdi _ hq];have hm:=Nat.mod_lt j hpos;have hdm:=Nat.div_add_mod j s;rw[getElem!_pos _ _ (by rw[hk];exact hm)];simp only[enc,List.getElem_take,List.getElem_drop];congr 1;rw[Nat.mul_comm];exact hdm
 have hH:HoldsK enc s w blk 0 d:=λ j hj=>by
  have hj:j < n * s:=by rw[size_flatK,hds] at hj;exact hj
  refine⟨?_,frozen_of_row w blk _ cur e hcell⟩;rw[zyE j hj,cell_of hcell,Nat.zero_add,zL4 j hj];exact zL _
 have eg:∀ args w,(callFunc gf args).run P w=.ok (.enter gf args) w:=by
  have hcg:dA P gf:=by
   obtain⟨rs,hwp,_⟩:=zfM (hS 0 0 (by omega) (by omega));exact (hC _ _ hwp w h (.agg (enc ⟨0,by omega⟩).toArray :: .agg (enc ⟨0,by omega⟩).toArray :: cv) ⟨⟨_,rfl,hr 0 (by omega)⟩,⟨_,rfl,hr 0 (by omega)⟩,RL.map_left.2 hcv⟩ hw).1
  exact λ args w=>dQ hcg
 have hcmp:CmpLays P gf cv.toArray enc s cf blk 0 d.size w:=by
  intro m os dk hdk x y;obtain⟨rs,hwp,hrs⟩:=zfM (hS x.val y.val x.isLt y.isLt);have hwh:Hw h (sortWorldK enc s w blk 0 m dk os):=hw.same λ k o hk=>by
   have hkb:k ≠ blk:=λ e=>by rw[e,hbn] at hk;cases hk
   have hkl:=hw.lt hk;show ((putRow id (Sort.ahead w m) blk 0 (flatK enc s dk)).heap ++ os)[k]? = _;rw[Array.getElem?_append_left (by simpa [putRow,mapBlock,Sort.ahead] using hkl)];exact CB _ hkb
  obtain⟨_,hrun⟩:=hC _ _ hwp (sortWorldK enc s w blk 0 m dk os) h (.agg (enc x).toArray :: .agg (enc y).toArray :: cv) ⟨⟨_,rfl,hr x.val x.isLt⟩,⟨_,rfl,hr y.val y.isLt⟩,RL.map_left.2 hcv⟩ hwh;rw[show (#[Value.agg (enc x).toArray,.agg (enc y).toArray] ++ cv.toArray)=(Value.agg (enc x).toArray :: .agg (enc y).toArray :: cv).toArray by simp];refine hrun.mono ?_;rintro e' w' ⟨h',v',rfl,hres,hbel,_,_,_⟩;subst hrs;have hv':v'=.int .i64 (cf x y):=by
   have:Rep h' (.int .i64 (cf x y)) v':=hres;cases this;rfl
  subst hv';exact⟨rfl,zfL hbel⟩
 have zL5:SWO (ltOf cf):=by
  refine⟨λ x=>?_,λ x y z hxy hyz=>?_,λ x y z hxy hyz=>?_⟩
  ·have : 0 ≤ c x.val x.val := hO.1 x.val x.isLt;simp only[ltOf,decide_eq_false_iff_not];show ¬ c x.val x.val < 0;omega
  ·simp only [ltOf, decide_eq_true_eq] at hxy hyz ⊢;exact hO.2.2 _ _ _ x.isLt y.isLt z.isLt hxy hyz
  ·simp only [ltOf, decide_eq_false_iff_not] at hxy hyz ⊢;intro hxz;have hxy : ¬ c x.val y.val < 0:=hxy;have hyz : ¬ c y.val z.val < 0:=hyz;have hxz:c x.val z.val < 0:=hxz;by_cases e1:y.val=z.val
   ·rw[e1] at hxy;exact hxy hxz
   ·by_cases e2 : x.val = y.val
    ·rw[e2] at hxz;exact hyz hxz
    ·have a1 : c z.val y.val < 0 := by rcases hO.2.1 y.val z.val y.isLt z.isLt e1 with h | h; exact absurd h.1 hyz; exact h.1
     exact hxy (hO.2.2 _ _ _ x.isLt z.isLt y.isLt hxz a1)
 have aE:∀ w,(isAgg (ρ.t 24)).run P w=.ok true w:=λ w=>by rw[he];exact kV hag
 have zE:∀ w,(Go.sizeOf (ρ.t 24)).run P w=.ok s w:=λ w=>by rw[he];exact run_sizeOf hsz
 have hrun:=AnyQ.slices_SortFunc L s aE zE enc hk h1 cf zL5 gf cv.toArray blk 0 cap d w eg hcmp hH hlt (by rw[hds];omega);rw[hds] at hrun;refine hrun.mono ?_;rintro r w' ⟨rfl,d',m,os,hperm,hsort,rfl⟩;obtain⟨hps,_,hpp⟩:=hperm;have VC:d'.size=n:=by rw[hps,hds]
 have hall:∀ (z:Array (Fin n)),z.size=n->z.extract 0 n=z:=λ z hz=>Array.ext (by simp[hz]) (λ i h1 h2=>by simp);rw[hall d' VC,hall d hds] at hpp;have hl:d'.toList.map Fin.val=um n c:=by
  refine Vs hO ?_ ?_
  ·refine (hpp.map Fin.val).trans ?_;have:d.toList.map Fin.val=List.range n:=by
    apply List.ext_getElem?;intro i;simp only[d,VJ];by_cases hi:i < n
    ·simp[hi]
    ·rw[dqM (by simp;omega),dqM (by simp;omega)];rfl
   rw[this]
  ·rw [List.pairwise_map, List.pairwise_iff_getElem];intro i j hi hj hij;have hi':i < n:=by simpa [VC] using hi
   have hj':j < n:=by simpa [VC] using hj
   have:=hsort i j (Nat.zero_le _) hij hj';rw[getElem!_pos d' j (by omega),getElem!_pos d' i (by omega)] at this;simp only[ltOf,decide_eq_false_iff_not] at this;exact this
 have hget:∀ i (hi:i < n),Eb n c get i=get (d'[i]'(by omega)).val:=λ i hi=>by
  unfold Eb;rw[<- hl];congr 1;rw[List.getD_eq_getElem?_getD,VJ];simp[VC,hi]
 obtain⟨cur',hcell',hsz'⟩:=N7 (q:=m) (off:=0) (flatK enc s d') hcell;have hgrow:(sortWorldK enc s w blk 0 m d' os).heap[blk]? = some (.cells cur' e (0,0)):=by
  show ((putRow id (Sort.ahead w m) blk 0 (flatK enc s d')).heap ++ os)[blk]? = _;rw[Array.getElem?_append_left (by simpa [putRow,mapBlock,Sort.ahead] using hlt)];exact hcell'
 have hH':HoldsK enc s (sortWorldK enc s w blk 0 m d' os) blk 0 d':=holdsK_sortWorldK_c enc s w blk 0 d d' m os hH hlt (by rw[VC,hds]);have zyF:∀ j (hj:j < n * s),cur'[j]? = some ((flatK enc s d')[j]!):=λ j hj=>by
  have:=(hH' j (by rw[size_flatK,VC];exact hj)).1;rw[cell_of hgrow,Nat.zero_add] at this;exact this
 refine⟨rfl,⟨cur'.toList.take (n * s),⟨by rw[List.length_take,Array.length_toList,hsz',hcs];exact Nat.min_eq_left (KP s hncap),.inr ⟨blk,cap,cur',rfl,hb,hgrow,hncap,hcap,by rw[hsz',hcs],rfl⟩⟩,λ i hi=>?_⟩,?_⟩
 ·have e1:((cur'.toList.take (n * s)).drop (i * s)).take s=enc (d'[i]'(by omega)):=by
   apply List.ext_getElem?;intro j;have hm:=hmul i hi;rw[C9];split
   ·rename_i hj;rw[dqI,C9,if_pos (by omega),Array.getElem?_toList,zyF _ (by omega)];have hdiv:(i * s+j) / s=i:=by rw[Nat.mul_comm,Nat.mul_add_div hpos,Nat.div_eq_of_lt hj,Nat.add_zero]
    have hmod:(i * s+j) % s=j:=by rw[Nat.mul_comm,Nat.mul_add_mod,Nat.mod_eq_of_lt hj]
    rw[get_flatK _ _ _ _ (by rw[VC];omega),hdiv,hmod,getElem!_pos d' i (by omega),getElem!_pos _ _ (by rw[hk];exact hj)];exact (zL _).symm
   ·rename_i hj;rw[dqM (by rw[hk];omega)]
  rw[e1,hget i hi];exact hr _ (d'[i]'(by omega)).isLt
 ·refine ⟨⟨rfl, rfl, rfl, ?_, fun k hk hne => ?_⟩, Eo (Nat.le_add_right _ _)⟩
  ·show w.heap.size ≤ ((putRow id (Sort.ahead w m) blk 0 (flatK enc s d')).heap ++ os).size;simp[putRow,mapBlock,Sort.ahead]
  ·show ((putRow id (Sort.ahead w m) blk 0 (flatK enc s d')).heap ++ os)[k]? = _;rw[Array.getElem?_append_left (by simpa [putRow,mapBlock,Sort.ahead] using hk)];exact CB _ λ e=>hne (by rw[e];rfl)
end Go.Pm
namespace Go.Pm
open Go.Shelf Go.RowKit Go.Lib Go.Proofs
theorem VD {P : Program} {ρ : Ren} (L : SlLaysE0.n41 P ρ) (i0 : TypeInfo) (z : Value) (size bytes : Nat) (hi : P.info? (ρ.t 23) = some i0) (hz0 : i0.zero = some z) (hz1 : i0.size = size) (hz2 : i0.bytes = bytes) (hzs : z.cells.size = size) (hsz : 0 < size)
    (z23:∀ w,(Go.sizeOf (ρ.t 23)).run P w=.ok size w) (a:Addr) (c:Nat) (w:World) :
    Calls P (ρ.f 41) #[.slice (some a) 0 c] w λ e w'=>∃ v',e=.returned v'/\w'.ownsRow w.heap.size (ρ.t 23) size v' 0 []/\Below w.heap.size w w':=by
  have mixed:=L.mixed;have t4:=L.t4;have a4:=L.a4;have z4:=L.z4;have v4:=L.v4;have t22:=L.t22;have a22:=L.a22;have z22:=L.z22;have v22:=L.v22;have q22:∀ (w:World) (a:Option Addr) (n c n' c':Nat),(binOp .eql (ρ.t 22) (.slice a n c) (.slice none n' c')).run P w=.ok (.bool a.isNone) w:=λ w a n c n' c'=>Lib.run_eql_slice_nil w _ _ a n c n' c' L.t22;have u22:∀ w,Sem.run P (underlying (ρ.t 22)) w=.ok (TypeDesc.slice (ρ.t 23)) w:=λ w=>run_underlying t22;obtain⟨_,_,FG⟩:=L.f41
  go_enter FG,SlBodyN.n41_ntmps ρ
  go_wp2_with (at_builtin;refine wpList_append_own _ rfl _ _ (ρ.t 22) rfl w.heap.size (ρ.t 23) i0 z size bytes t22 hi hz0 hz1 hz2 hzs hsz _ _ _ rfl (World.ownsRow_made w #[] 0 (iZ _) (Nat.zero_le _) (by simp)) a 0 c [] rfl (by simp) (by intro j u hj;simp at hj) (by intro u hu;cases hu) (by unfold maxLen;omega) (by omega) (by simp) ?_)
  intro v' w1 hown hgrow hnil
  go_wp2
  go_ret
  exact⟨v',rfl,by simpa using hown,((Below.refl _ w).alloc (iZ _) _).grown hgrow (by simp) (by intro k hk;simp[Value.ownBlock] at hk;omega)⟩
theorem KO {P : Program} {ρ : Ren} (L : SlLaysE0.n41 P ρ) {e s b : Nat} {i0 : TypeInfo} {z : Value} (he : ρ.t 23 = e) (hi : P.info? e = some i0) (hz0 : i0.zero = some z) (hz1 : i0.size = s) (hz2 : i0.bytes = b) (hzs : z.cells.size = s) (hsz : mg P e = some s) (hs : 0 < s)
    (hc:dA P (ρ.f 41)):dX P (ρ.f 41) (.clone e s b):=by
  subst he;intro w h v n get hv hw h1 h2;refine⟨hc,?_⟩;have zE:∀ w,(Go.sizeOf (ρ.t 23)).run P w=.ok s w:=λ w=>run_sizeOf hsz
  have fin:∀ (v':Value) (w':World) (news:List Value),w'.ownsRow w.heap.size (ρ.t 23) s v' n news->Below w.heap.size w w'->(∀ i,i < n->RL (Rep h) (get i) ((news.drop (i * s)).take s)) ->
      ∃ (h':Fz) (u:Value),Ending.returned v'=.returned u/\u.oneCell'=true/\wB h' w' w.heap.size (ρ.t 23) s u n get/\(∀ k,u.ownBlock=some k->h' k=none) /\
        tN h w.heap.size w w'/\iP h h'/\Hw h' w'/\∀ b o,h' b=some o->h b=some o\/w.heap.size<=b:=by
    intro v' w' news hown hbel hr;have hb:tN h w.heap.size w w':=⟨hbel.os,hbel.tape,hbel.output,hbel.size,iZ _,λ k hk=>hbel.block k hk⟩;refine⟨h,v',rfl,?_,⟨news,hown,hr⟩,λ k hk=>?_,hb,λ _ _ h=>h,hw.same λ k o hk=>hb.block k (hw.lt hk),λ _ _ h=>.inl h⟩
    · rcases hown.2 with ⟨rfl,_⟩ | ⟨g,cap,cur,rfl,_⟩ <;> rfl
    · rcases hown.2 with ⟨rfl, _⟩ | ⟨g, cap, cur, rfl, hg, _⟩
      · cases hk
      · have : g = k := by simpa [Value.ownBlock] using hk
        subst this;cases e:h g with
        | none=>rfl
        | some o=>have:=hw.lt e;omega
  cases hv with
  | sl0 _ _ hu =>
    refine (AnyE.slices_Clone_nil L 0 0 w).mono ?_;rintro r w' ⟨rfl,rfl⟩;exact fin _ _ [] (World.ownsRow_nil _ _ _ _) (Below.refl _ _) λ i hi=>absurd hi (Si i)
  | sle _ _ a cap hu =>
    refine (VD L i0 z s b hi hz0 hz1 hz2 hzs hs zE a cap w).mono ?_;rintro r w' ⟨v',rfl,hown,hbel⟩;exact fin _ _ [] hown hbel λ i hi=>absurd hi (Si i)
  | sl _ _ _ hu bk off cap C ty fr vs hb hcap hlen hcl hr =>
    let news:List Value:=(List.range (n * s)).map λ q=>vs (q / s) (q % s);have hl:news.length=n * s:=by simp[news]
    have hq:∀ q,q < n * s->q / s < n/\q % s < s:=λ q hq=>⟨Nat.div_lt_of_lt_mul (by rw[Nat.mul_comm];exact hq),Nat.mod_lt q hs⟩;have hn:∀ q,q < n * s->news[q]? = some (vs (q / s) (q % s)):=λ q hq=>by simp[news,hq]
    have hx:∀ i j,i < n->j < s->∃ x,(get i)[j]? = some x:=λ i j hi hj=>⟨_,zL (by rw[hlen i hi];exact hj)⟩;have hcell:=hw.fz hb;refine (AnyE.slices_Clone L i0 z s b hi hz0 hz1 hz2 hzs hs zE bk off n cap news w hl h2 h1 (λ j u hj=>?_) λ u hu=>?_).mono ?_
    · have hjl : j < n * s := by have := (wW.1 hj).1; omega
      obtain⟨a1,a2⟩:=hq j hjl;rw[hn j hjl] at hj;cases hj;obtain⟨x,hx⟩:=hx _ _ a1 a2;have hc:=hcl _ _ x a1 hx;have hone:=(hr _ _ x a1 hx).one;rw[show off+j / s * s+j % s=off+j by rw[Nat.add_assoc,Nat.mul_comm];rw[Nat.div_add_mod]] at hc;rw[cell_of hcell];exact hc
    · obtain ⟨j, hj⟩ := List.getElem?_of_mem hu;have hjl:j < n * s:=by have:=(wW.1 hj).1;omega
      obtain⟨a1,a2⟩:=hq j hjl;rw[hn j hjl] at hj;cases hj;obtain⟨x,hx⟩:=hx _ _ a1 a2;exact (hr _ _ x a1 hx).one
    · rintro r w' ⟨v', rfl, hown, _, hbel⟩;refine fin _ _ news hown hbel λ i hi=>RL.of_get ?_ λ j x y hx hy=>?_
      · have hm : i * s + s ≤ n * s := by have := KP s (Nat.succ_le_of_lt hi); rw [Oj] at this; exact this
        rw[hlen i hi,List.length_take,List.length_drop,hl];omega
      · have hj : j < s := by have := (wW.1 hx).1; rw [hlen i hi] at this; exact this
        have hm:i * s+s<=n * s:=by have:=KP s (Nat.succ_le_of_lt hi);rw[Oj] at this;exact this
        rw[C9,if_pos hj,dqI,hn _ (by omega)] at hy;rw[show (i * s+j) / s=i by rw[Nat.mul_comm,Nat.mul_add_div hs,Nat.div_eq_of_lt hj,Nat.add_zero],show (i * s+j) % s=j by rw[Nat.mul_comm,Nat.mul_add_mod,Nat.mod_eq_of_lt hj]] at hy;cases hy;exact hr i j x hi hx
end Go.Pm
namespace Go.Proofs
open Go.Shelf
def Tryz.laysS253_ren:Go.Shelf.Ren:=⟨fun | 6=>253 | 15=>184 | 14=>256 | 28=>220 | 29=>221 | 20=>258 | 21=>259 | 22=>260 | 23=>261 | 24=>262 | 25=>263 | 26=>264 | 27=>265 | 46=>266 | 47=>242 | 48=>243 | 49=>267 | 50=>268 | 57=>269 | n=>n,fun | 22=>195 | 24=>204 | 25=>322 | 3=>3 | 39=>260 | 0=>0 | 53=>292 | 55=>294 | 4=>4 | 46=>286 | 45=>285 | 50=>174 | 5=>5 | 9=>9 | 66=>305 | 70=>309 | 76=>317 | 77=>221 | n=>n,fun | n=>n⟩
theorem Tryz.laysS253 : Go.Proofs.SlLaysF0.n6 Tryz.prog Tryz.laysS253_ren := {
  mixed:=by kernel_rfl
  f6:=⟨Tryz.f253.name,by decide,Tryz.func253.trans (congrArg some (by kernel_rfl))⟩
  f14:=⟨Tryz.f256.name,by decide,Tryz.func256.trans (congrArg some (by kernel_rfl))⟩
  f15:=Tryz.func184.trans (congrArg some (by kernel_rfl))
  f20:=⟨Tryz.f258.name,by decide,Tryz.func258.trans (congrArg some (by kernel_rfl))⟩
  f21:=⟨Tryz.f259.name,by decide,Tryz.func259.trans (congrArg some (by kernel_rfl))⟩
  f22:=⟨Tryz.f260.name,by decide,Tryz.func260.trans (congrArg some (by kernel_rfl))⟩
  f23:=⟨Tryz.f261.name,by decide,Tryz.func261.trans (congrArg some (by kernel_rfl))⟩
  f24:=⟨Tryz.f262.name,by decide,Tryz.func262.trans (congrArg some (by kernel_rfl))⟩
  f25:=⟨Tryz.f263.name,by decide,Tryz.func263.trans (congrArg some (by kernel_rfl))⟩
  f26:=⟨Tryz.f264.name,by decide,Tryz.func264.trans (congrArg some (by kernel_rfl))⟩
  f27:=⟨Tryz.f265.name,by decide,Tryz.func265.trans (congrArg some (by kernel_rfl))⟩
  f28:=Tryz.func220.trans (congrArg some (by kernel_rfl))
  f29:=Tryz.func221.trans (congrArg some (by kernel_rfl))
  f46:=⟨Tryz.f266.name,by decide,Tryz.func266.trans (congrArg some (by kernel_rfl))⟩
  f47:=Tryz.func242.trans (congrArg some (by kernel_rfl))
  f48:=Tryz.func243.trans (congrArg some (by kernel_rfl))
  f49:=⟨Tryz.f267.name,by decide,Tryz.func267.trans (congrArg some (by kernel_rfl))⟩
  f50:=⟨Tryz.f268.name,by decide,Tryz.func268.trans (congrArg some (by kernel_rfl))⟩
  f57:=⟨Tryz.f269.name,by decide,Tryz.func269.trans (congrArg some (by kernel_rfl))⟩
  t0:=Tryz.underlying0
  a0:=Tryz.isAgg0
  z0:=Tryz.sizeOf0
  v0:=Tryz.zeroValue0
  t3:=Tryz.underlying3
  a3:=Tryz.isAgg3
  z3:=Tryz.sizeOf3
  v3:=Tryz.zeroValue3
  t4:=Tryz.underlying4
  a4:=Tryz.isAgg4
  z4:=Tryz.sizeOf4
  v4:=Tryz.zeroValue4
  t5:=Tryz.underlying5
  a5:=Tryz.isAgg5
  z5:=Tryz.sizeOf5
  v5:=Tryz.zeroValue5
  t9:=Tryz.underlying9
  a9:=Tryz.isAgg9
  z9:=Tryz.sizeOf9
  v9:=Tryz.zeroValue9
  t22:=Tryz.underlying195
  a22:=Tryz.isAgg195
  z22:=Tryz.sizeOf195
  v22:=Tryz.zeroValue195
  t25:=Tryz.underlying322
  a25:=Tryz.isAgg322
  z25:=Tryz.sizeOf322
  v25:=Tryz.zeroValue322
  t39:=Tryz.underlying260
  a39:=Tryz.isAgg260
  z39:=Tryz.sizeOf260
  v39:=Tryz.zeroValue260
  t45:=Tryz.underlying285
  a45:=Tryz.isAgg285
  z45:=Tryz.sizeOf285
  v45:=Tryz.zeroValue285
  t46:=Tryz.underlying286
  a46:=Tryz.isAgg286
  z46:=Tryz.sizeOf286
  v46:=Tryz.zeroValue286
  t50:=Tryz.underlying174
  a50:=Tryz.isAgg174
  z50:=Tryz.sizeOf174
  v50:=Tryz.zeroValue174
  t53:=Tryz.underlying292
  a53:=Tryz.isAgg292
  z53:=Tryz.sizeOf292
  v53:=Tryz.zeroValue292
  t55:=Tryz.underlying294
  a55:=Tryz.isAgg294
  z55:=Tryz.sizeOf294
  v55:=Tryz.zeroValue294
  t66:=Tryz.underlying305
  a66:=Tryz.isAgg305
  z66:=Tryz.sizeOf305
  v66:=Tryz.zeroValue305
  t70:=Tryz.underlying309
  a70:=Tryz.isAgg309
  z70:=Tryz.sizeOf309
  v70:=Tryz.zeroValue309
  t76:=Tryz.underlying317
  a76:=Tryz.isAgg317
  z76:=Tryz.sizeOf317
  v76:=Tryz.zeroValue317
  t77:=Tryz.underlying221
  a77:=Tryz.isAgg221
  z77:=Tryz.sizeOf221
  v77:=Tryz.zeroValue221 }
def Tryz.laysS133_ren:Go.Shelf.Ren:=⟨fun | 6=>133 | 15=>184 | 14=>183 | 28=>220 | 29=>221 | 20=>212 | 21=>213 | 22=>214 | 23=>215 | 24=>216 | 25=>217 | 26=>218 | 27=>219 | 46=>241 | 47=>242 | 48=>243 | 49=>244 | 50=>245 | 57=>250 | n=>n,fun | 22=>30 | 24=>43 | 25=>220 | 3=>3 | 39=>260 | 0=>0 | 53=>292 | 55=>294 | 4=>4 | 46=>286 | 45=>285 | 50=>174 | 5=>5 | 9=>9 | 66=>305 | 70=>309 | 76=>317 | 77=>221 | n=>n,fun | n=>n⟩
theorem Tryz.laysS133 : Go.Proofs.SlLaysF0.n6 Tryz.prog Tryz.laysS133_ren := {
  mixed:=by kernel_rfl
  f6:=⟨Tryz.f133.name,by decide,Tryz.func133.trans (congrArg some (by kernel_rfl))⟩
  f14:=⟨Tryz.f183.name,by decide,Tryz.func183.trans (congrArg some (by kernel_rfl))⟩
  f15:=Tryz.func184.trans (congrArg some (by kernel_rfl))
  f20:=⟨Tryz.f212.name,by decide,Tryz.func212.trans (congrArg some (by kernel_rfl))⟩
  f21:=⟨Tryz.f213.name,by decide,Tryz.func213.trans (congrArg some (by kernel_rfl))⟩
  f22:=⟨Tryz.f214.name,by decide,Tryz.func214.trans (congrArg some (by kernel_rfl))⟩
  f23:=⟨Tryz.f215.name,by decide,Tryz.func215.trans (congrArg some (by kernel_rfl))⟩
  f24:=⟨Tryz.f216.name,by decide,Tryz.func216.trans (congrArg some (by kernel_rfl))⟩
  f25:=⟨Tryz.f217.name,by decide,Tryz.func217.trans (congrArg some (by kernel_rfl))⟩
  f26:=⟨Tryz.f218.name,by decide,Tryz.func218.trans (congrArg some (by kernel_rfl))⟩
  f27:=⟨Tryz.f219.name,by decide,Tryz.func219.trans (congrArg some (by kernel_rfl))⟩
  f28:=Tryz.func220.trans (congrArg some (by kernel_rfl))
  f29:=Tryz.func221.trans (congrArg some (by kernel_rfl))
  f46:=⟨Tryz.f241.name,by decide,Tryz.func241.trans (congrArg some (by kernel_rfl))⟩
  f47:=Tryz.func242.trans (congrArg some (by kernel_rfl))
  f48:=Tryz.func243.trans (congrArg some (by kernel_rfl))
  f49:=⟨Tryz.f244.name,by decide,Tryz.func244.trans (congrArg some (by kernel_rfl))⟩
  f50:=⟨Tryz.f245.name,by decide,Tryz.func245.trans (congrArg some (by kernel_rfl))⟩
  f57:=⟨Tryz.f250.name,by decide,Tryz.func250.trans (congrArg some (by kernel_rfl))⟩
  t0:=Tryz.underlying0
  a0:=Tryz.isAgg0
  z0:=Tryz.sizeOf0
  v0:=Tryz.zeroValue0
  t3:=Tryz.underlying3
  a3:=Tryz.isAgg3
  z3:=Tryz.sizeOf3
  v3:=Tryz.zeroValue3
  t4:=Tryz.underlying4
  a4:=Tryz.isAgg4
  z4:=Tryz.sizeOf4
  v4:=Tryz.zeroValue4
  t5:=Tryz.underlying5
  a5:=Tryz.isAgg5
  z5:=Tryz.sizeOf5
  v5:=Tryz.zeroValue5
  t9:=Tryz.underlying9
  a9:=Tryz.isAgg9
  z9:=Tryz.sizeOf9
  v9:=Tryz.zeroValue9
  t22:=Tryz.underlying30
  a22:=Tryz.isAgg30
  z22:=Tryz.sizeOf30
  v22:=Tryz.zeroValue30
  t25:=Tryz.underlying220
  a25:=Tryz.isAgg220
  z25:=Tryz.sizeOf220
  v25:=Tryz.zeroValue220
  t39:=Tryz.underlying260
  a39:=Tryz.isAgg260
  z39:=Tryz.sizeOf260
  v39:=Tryz.zeroValue260
  t45:=Tryz.underlying285
  a45:=Tryz.isAgg285
  z45:=Tryz.sizeOf285
  v45:=Tryz.zeroValue285
  t46:=Tryz.underlying286
  a46:=Tryz.isAgg286
  z46:=Tryz.sizeOf286
  v46:=Tryz.zeroValue286
  t50:=Tryz.underlying174
  a50:=Tryz.isAgg174
  z50:=Tryz.sizeOf174
  v50:=Tryz.zeroValue174
  t53:=Tryz.underlying292
  a53:=Tryz.isAgg292
  z53:=Tryz.sizeOf292
  v53:=Tryz.zeroValue292
  t55:=Tryz.underlying294
  a55:=Tryz.isAgg294
  z55:=Tryz.sizeOf294
  v55:=Tryz.zeroValue294
  t66:=Tryz.underlying305
  a66:=Tryz.isAgg305
  z66:=Tryz.sizeOf305
  v66:=Tryz.zeroValue305
  t70:=Tryz.underlying309
  a70:=Tryz.isAgg309
  z70:=Tryz.sizeOf309
  v70:=Tryz.zeroValue309
  t76:=Tryz.underlying317
  a76:=Tryz.isAgg317
  z76:=Tryz.sizeOf317
  v76:=Tryz.zeroValue317
  t77:=Tryz.underlying221
  a77:=Tryz.isAgg221
  z77:=Tryz.sizeOf221
  v77:=Tryz.zeroValue221 }
end Go.Proofs
namespace Go.Proofs
open Go.Shelf
def Tryz.laysC181_ren:Go.Shelf.Ren:=⟨fun | 41=>181 | n=>n,fun | 22=>39 | 23=>3 | n=>n,fun | n=>n⟩
theorem Tryz.laysC181 : Go.Proofs.SlLaysE0.n41 Tryz.prog Tryz.laysC181_ren := {
  mixed:=by kernel_rfl
  f41:=⟨Tryz.f181.name,by decide,Tryz.func181.trans (congrArg some (by kernel_rfl))⟩
  t4:=Tryz.underlying4
  a4:=Tryz.isAgg4
  z4:=Tryz.sizeOf4
  v4:=Tryz.zeroValue4
  t22:=Tryz.underlying39
  a22:=Tryz.isAgg39
  z22:=Tryz.sizeOf39
  v22:=Tryz.zeroValue39 }
def Tryz.laysC252_ren:Go.Shelf.Ren:=⟨fun | 41=>252 | n=>n,fun | 22=>195 | 23=>204 | n=>n,fun | n=>n⟩
theorem Tryz.laysC252 : Go.Proofs.SlLaysE0.n41 Tryz.prog Tryz.laysC252_ren := {
  mixed:=by kernel_rfl
  f41:=⟨Tryz.f252.name,by decide,Tryz.func252.trans (congrArg some (by kernel_rfl))⟩
  t4:=Tryz.underlying4
  a4:=Tryz.isAgg4
  z4:=Tryz.sizeOf4
  v4:=Tryz.zeroValue4
  t22:=Tryz.underlying195
  a22:=Tryz.isAgg195
  z22:=Tryz.sizeOf195
  v22:=Tryz.zeroValue195 }
end Go.Proofs
