/- Part 5: framework, functions, plain laws. -/
import Derived.Test.YtjkijdhdbhooiaaGreatQ4
set_option linter.all false
noncomputable section
namespace Go.Proofs
open Go Go.Pm
set_option maxRecDepth 100000
theorem zTS{E:zpT}:BB (zpU E):=λx a b=>ae.ext λk=>by rw[zSq,kc k,aX];congr 1;simp only[inB];grind
def Hr(g:ax):Bool:=inB g.Z 0 100000&&(decide (g.Low >= -1000000)&&(decide (g.Low<=g.High)&&decide (g.High<=1000000)))
def gJ(g:ax):Prop:=(0<=g.Z/\g.Z<=100000)/\-1000000<=g.Low/\g.Low<=g.High/\g.High<=1000000
def bU(l:Sl ax):Prop:=(∀i,i<l.len->gJ (l.get i))/\1<=l.len/\l.len<=24
theorem zj2{g:ax}:Hr g=true↔gJ g:=by
 simp only[Hr,inB,gz,oW,gJ,ge_iff_le]
def BI(a b:ax):List straight:=if a.Z=b.Z then []else [EP a.Z a.Low b.Z b.Low,EP a.Z a.Low b.Z b.High,EP a.Z a.High b.Z b.Low,EP a.Z a.High b.Z b.High]
def Ei(g:Sl ax)(i:Nat):Nat→Nat→List straight|0,_=>[]|m+1,k=>BI (g.get i) (g.get k)++Ei g i m (k+1)
def Ov(g:Sl ax):Nat→Nat→List straight|0,_=>[]|m+1,i=>Ei g i (g.len-(i+1)) (i+1)++Ov g m (i+1)
def cst(g:Sl ax):List straight:=Ov g g.len 0
theorem qc{g:ax}(h:gJ g) : -1000000<=g.Low/\g.Low<=1000000:=⟨h.2.1,by have:=h.2;omega⟩
theorem rC{g:ax}(h:gJ g) : -1000000<=g.High/\g.High<=1000000:=⟨by have:=h.2;omega,h.2.2.2⟩
abbrev zzq(C:Int×Int×Int×Int->ae straight):Prop:=∀z p y q,(0<=z/\z<=100000)->(0<=y/\y<=100000)->(-1000000<=p/\p<=1000000)->(-1000000<=q/\q<=1000000)->C (z,p,y,q)=.ok (EP z p y q)
theorem zTT{E:zq6}:zzq (zq7 E):=λz p y q hz hy hp hq=>ae.ext λk=>by
 have b1:=qp hp.1 hp.2 hy.1 hy.2;have b2:=qp hq.1 hq.2 hz.1 hz.2;rw[e229,aX,aZ (x:=p*y) omY omY,aZ (x:=q*z) omY omY];unfold EP;by_cases h:z>y;rw[dM h,dS,eX h,aZ (x:=p-q) omY omY,aZ (x:=z-y) omY omY,aZ (x:=q*z-p*y) omY omY];rw[dR h,dF,fF h,aZ (x:=q-p) omY omY,aZ (x:=y-z) omY omY,aZ (x:=p*y-q*z) omY omY]
abbrev zzr(I:Pt list->ae (List straight)):Prop:=∀l:Pt list,bU l.v.bM->I l=.ok (cst l.v.bM)
theorem zTU{E:WM}(N:Big E.N)(zeO:zzq E.c229):zzr (zzk E):=λl G=>by
 have hl:=G.2.2;refine Dy ?_ (λ_=>rfl) (λ_=>rfl);rw[e228]
 have inn:∀(n i:Nat)(R:List (List PA))(sl:Sl ax),i<l.v.bM.len->sl.len=l.v.bM.len-(i+1)->(∀x,sl.get x=l.v.bM.get (x+(i+1)))->MZ E n l (aO ((i:Int)+1))=some R ->
   ∀(m j n1:Nat),j+m=sl.len->m<n1->Na E n n1 l (i:Int) sl (sl.len:Int) (j:Int) (l.v.bM.get i)=some ((Ei l.v.bM i m (j+(i+1))).map dE.enc++R):=by
  intro n i R sl hi hs hg hR m
  induction m with
  | zero =>
   intro j n1 hj hn;obtain⟨n1,rfl⟩:∃n',n1=n'+1:=⟨n1-1,omY⟩;rw[zjR,dR omY,dF,hR];rfl
  | succ m ih =>
   intro j n1 hj hn;obtain⟨n1,rfl⟩:∃n',n1=n'+1:=⟨n1-1,omY⟩;have gi:=G.1 i hi;have gk:=G.1 (j+(i+1)) omY;have i1:=ih (j+1) n1 omY omY;rw[zjR,dM omY,dS,bn omY,bF omY,i1,gy,hg];show _=some (List.map dE.enc (BI (l.v.bM.get i) (l.v.bM.get (j+(i+1)))++Ei l.v.bM i m (j+(i+1)+1))++R);unfold BI;by_cases hz:(l.v.bM.get i).Z=(l.v.bM.get (j+(i+1))).Z;rw[eX hz,show((l.v.bM.get i).Z==(l.v.bM.get (j+(i+1))).Z)=true by simpa using hz,dS,show j+1+(i+1)=j+(i+1)+1 by omega];rfl
   rw[fF hz,show((l.v.bM.get i).Z==(l.v.bM.get (j+(i+1))).Z)=false by simpa using hz,dF,zeO _ _ _ _ gi.1 gk.1 (qc gi) (qc gk),zeO _ _ _ _ gi.1 gk.1 (qc gi) (rC gk),zeO _ _ _ _ gi.1 gk.1 (rC gi) (qc gk),zeO _ _ _ _ gi.1 gk.1 (rC gi) (rC gk),aX,aX,aX,aX,
    show j+1+(i+1)=j+(i+1)+1 by omega];rfl
 have key:∀(m i n:Nat),i+m=l.v.bM.len->m<n->MZ E n l (i:Int)=some ((Ov l.v.bM m i).map dE.enc):=by
  intro m
  induction m with
  | zero =>
   intro i n hi hn;obtain⟨n,rfl⟩:∃n',n=n'+1:=⟨n-1,omY⟩;rw[zjQ,dR omY];rfl
  | succ m ih =>
   intro i n hi hn;obtain⟨n,rfl⟩:∃n',n=n'+1:=⟨n-1,omY⟩;have i1:=ih (i+1) n omY omY;rw[zjQ,dM omY,dS,bn omY,bF omY,bn omY,gy];have hs:((l.v.bM.len:Int)-((i+1:Nat):Int)).toNat=l.v.bM.len-(i+1):=by omega
   have:=inn n i _ ⟨((l.v.bM.len:Int)-((i+1:Nat):Int)).toNat,Ar l.v.bM.get (((i+1:Nat):Int)).toNat⟩ omY hs (λx=>by show l.v.bM.get (x+(((i+1:Nat):Int)).toNat)=_;rw[gy]) (by rw[bF omY];exact i1) (l.v.bM.len-(i+1)) 0 E.N (by show 0+(l.v.bM.len-(i+1))=((l.v.bM.len:Int)-((i+1:Nat):Int)).toNat;omega) (by have:=N;omega);rw[Oa]at this;refine this.trans ?_;show _=some (((Ei l.v.bM i (l.v.bM.len-(i+1)) (i+1))++Ov l.v.bM m (i+1)).map dE.enc);rw[Ud]
 exact key l.v.bM.len 0 E.N omY (by have:=N;omega)
abbrev zzs(C:ax->ae Bool):Prop:=∀g,C g=.ok (Hr g)
theorem zTV{E:zpR}(BD:BB E.c157):zzs (zpS E):=λg=>ae.ext λk=>by
 rw[zSo,BD,aX,aX];unfold Hr;cases inB g.Z 0 100000<;>cases decide (g.Low >= -1000000)<;>cases decide (g.Low<=g.High)<;>rfl
def wX(l:Sl ax):Bool:=eH (λi=>Hr (l.get i)) l.len&&inB (l.len:Int) 1 24
theorem nY{l:Sl ax}:wX l=true↔bU l:=by
 simp only[wX,gz,dA,inB,oW,zj2,bU];exact and_congr Uw omY
abbrev zj3(C:Sl ax->ae Bool):Prop:=∀l:Sl ax,l.len<=1000->C l=.ok (wX l)
theorem zTW{E:zew}(N:Big E.N)(zyw:zzs E.c156)(BD:BB E.c157):zj3 (zo5 E):=λl hl=>ae.ext λk=>by
 rw[e109,aX,loopA (L:=λn i=>Sj E n l i k) (p:=λi=>Hr (l.get i)) (m:=l.len) (fin:=k (inB (l.len:Int) 1 24)) (stop:=k false) omY (λn i hi=>?_) (λn=>?_) _ (by have:=N;omega)];unfold wX;cases eH (λi=>Hr (l.get i)) l.len<;>rfl;rw [ziX,dM omY,dS,bn omY,zyw,aX,gy];cases Hr (l.get i)<;>rfl;rw[ziX,dR omY,dF,BD,aX]
/-! The first one of a list that is as wanted. -/
def fst(p:Nat→Bool):Nat→Nat→Int|0,_=>-1|m+1,i=>cond (p i) (i:Int) (fst p m (i+1))
theorem zck(p:Nat->Bool):∀m i,(0<=fst p m i↔∃j,i<=j/\j<i+m/\p j=true):=by
 intro m
 induction m with
 | zero=>intro i;exact⟨λh=>by simp[fst]at h,λ⟨j,h1,h2,_⟩=>by omega⟩
 | succ m ih =>
  intro i;simp only[fst];cases h:p i with
  | true=>exact⟨λ_=>⟨i,kw _,omY,h⟩,λ_=>by simp⟩
  | false =>
   rw[dF,ih];exact⟨λ⟨j,h1,h2,h3⟩=>⟨j,omY,omY,h3⟩,λ⟨j,h1,h2,h3⟩=>⟨j,by
    have:j≠i:=λe=>by rw[e,h]at h3;cases h3
    omega,omY,h3⟩⟩
theorem wY(p:Nat->Bool)(m:Nat):decide (fst p m 0>=0) = !eH (λi=>!p i) m:=by
 rw[Yh];simp only[oW,ge_iff_le,zck,N8,<- qjo,dA];constructor;rintro⟨j,_,h2,h3⟩ h;have:=h j omY;rw[h3]at this;exact absurd rfl this;intro h;apply qdv;intro hc;exact h λi hi hp=>hc ⟨i,AP _,omY,hp⟩
theorem Ht{A:Type}{L:Nat→Int→Option A}{p:Nat→Bool}{m:Nat}{k:Int→Option A}(hm:m<4611686018427387904)
    (hL:∀n i,i<m->L (n+1) (i:Int)=cond (p i) (k (i:Int)) (L n (aO ((i:Int)+1)))) (hE:∀n,L (n+1) (m:Int)=k (-1)):∀n,m<n->L n 0=k (fst p m 0):=by
  have key:∀(d i n:Nat),i+d=m->d<n->L n (i:Int)=k (fst p d i):=by
    intro d
    induction d with
    | zero =>
      intro i n hi hn;obtain⟨n,rfl⟩:∃n',n=n'+1:=⟨n-1,omY⟩;have e:i=m:=by omega
      subst e;exact hE n
    | succ d ih =>
      intro i n hi hn;obtain⟨n,rfl⟩:∃n',n=n'+1:=⟨n-1,omY⟩;rw[hL n i omY,bF omY,ih (i+1) n omY omY];simp only[fst];cases p i<;>rfl
  intro n hn;exact key m 0 n omY hn
def Qc(x:straight)(g:ax):Bool:=inB (aO (x.start+aO (x.bD*g.Z))) (aO (g.Low*x.den)) (aO (g.High*x.den))
abbrev zzt(C:straight×ax->ae Bool):Prop:=∀x g,C (x,g)=.ok (Qc x g)
theorem zTX{E:zra}(BD:BB E.c157):zzt (zrb E):=λx g=>ae.ext λk=>by rw[e231,BD,aX,aX];rfl
abbrev zzu(C:ax×Pt straight->ae Bool):Prop:=∀g (x:Pt straight),C (g,x)=.ok (!Qc x.v g)
theorem zTY{E:zq8}(zzl:zzt E.zsZ):zzu (zq9 E):=λg x=>ae.ext λk=>by rw[e230,zzl,aX,aX]
def WW(x:straight)(g:ax):Bool:=aO (x.start+aO (x.bD*g.Z))==aO (g.Low*x.den)
abbrev zzv(C:ax×Pt straight->ae Bool):Prop:=∀g (x:Pt straight),C (g,x)=.ok (WW x.v g)
theorem zTZ{E:zru}:zzv (zrv E):=λg x=>ae.ext λk=>by rw[e257,aX];rfl
abbrev zzw(C:ax×Pt list->ae Bool):Prop:=∀g (x:Pt list),0<x.v.bM.len->C (g,x)=.ok (g.Z != (x.v.bM.get 0).Z)
theorem zT0{E:zqO}:zzw (zqP E):=λg x h=>ae.ext λk=>by rw[e207,aX,bn omY]
abbrev zeR:=dY 207 Unit (Pt list) ⊕ dY 230 Unit (Pt straight) ⊕ dY 257 Unit (Pt straight)
def zj4:zeR→ax→Bool|.inl c,g=>g.Z != (c.v.v.bM.get 0).Z|.inr (.inl c),g=>!Qc c.v.v g|.inr (.inr c),g=>WW c.v.v g
def okG:zeR→Prop|.inl c=>0<c.v.v.bM.len|_=>True
abbrev QIx{γ:Type}(i:γ->zeR)(C:Sl ax×γ->ae Int):Prop:=∀(l:Sl ax)(c:γ),l.len<=1000->okG (i c)->C (l,c)=.ok (fst (λj=>zj4 (i c) (l.get j)) l.len 0)
abbrev Ox{γ:Type}(i:γ->zeR)(C:Sl ax×γ->ae Bool):Prop:=∀(l:Sl ax)(c:γ),l.len<=1000->okG (i c)->C (l,c)=.ok (!eH (λj=>!zj4 (i c) (l.get j)) l.len)
abbrev zj5(C:Sl ax×zeR->ae Int):Prop:=QIx id C
abbrev WX(C:Sl ax×zeR->ae Bool):Prop:=Ox id C
theorem zj6{E:vk}(N:Big E.N)(zzm:zzw E.zsS):QIx .inl (Ee E):=λl c hl ho=>ae.ext λk=>by
 rw[zjS,aX];refine Ht (L:=λn i=>wU E n l c i k) (p:=λj=>zj4 (.inl c) (l.get j)) (m:=l.len) (k:=k) omY (λn i hi=>?_) (λn=>?_) _ (by have:=N;omega);rw[Nb,dM omY,dS,bn omY,zzm _ _ ho,aX,gy];rfl;rw[Nb,dR omY];rfl
theorem zj7{E:vz}(N:Big E.N)(zzn:zzu E.zsY):QIx (λc=>.inr (.inl c)) (Ef E):=λl c hl ho=>ae.ext λk=>by
 rw[zjU,aX];refine Ht (L:=λn i=>wV E n l c i k) (p:=λj=>zj4 (.inr (.inl c)) (l.get j)) (m:=l.len) (k:=k) omY (λn i hi=>?_) (λn=>?_) _ (by have:=N;omega);rw[Nc,dM omY,dS,bn omY,zzn,aX,gy];rfl;rw[Nc,dR omY];rfl
theorem zj8{E:vC}(N:Big E.N)(zzo:zzv E.zs4):QIx (λc=>.inr (.inr c)) (Eg E):=λl c hl ho=>ae.ext λk=>by
 rw[zjW,aX];refine Ht (L:=λn i=>wW E n l c i k) (p:=λj=>zj4 (.inr (.inr c)) (l.get j)) (m:=l.len) (k:=k) omY (λn i hi=>?_) (λn=>?_) _ (by have:=N;omega);rw[Nh,dM omY,dS,bn omY,zzo,aX,gy];rfl;rw[Nh,dR omY];rfl
theorem zT1{f:Sl ax×dY 207 Unit (Pt list)->ae Int}{g:Sl ax×dY 230 Unit (Pt straight)->ae Int}{h:Sl ax×dY 257 Unit (Pt straight)->ae Int}(a:QIx .inl f)(b:QIx (λc=>.inr (.inl c)) g)(d:QIx (λc=>.inr (.inr c)) h):zj5 (ae.two f (ae.two g h)):=λl c hl ho=>by
 rcases c with c|c|c
 exact a l c hl ho;exact b l c hl ho;exact d l c hl ho
theorem zj9{E:D6}(MS:zj5 E.EG):Ox .inl (D7 E):=λl c hl ho=>ae.ext λk=>by rw[zjE,MS l (.inl c) hl ho,aX,aX,wY];rfl
theorem zka{E:D8}(MS:zj5 E.EG):Ox (λc=>.inr (.inl c)) (D9 E):=λl c hl ho=>ae.ext λk=>by rw[zjG,MS l (.inr (.inl c)) hl ho,aX,aX,wY];rfl
theorem zkb{E:Ea}(MS:zj5 E.EG):Ox (λc=>.inr (.inr c)) (Eb E):=λl c hl ho=>ae.ext λk=>by rw[zjI,MS l (.inr (.inr c)) hl ho,aX,aX,wY];rfl
theorem zT2{f:Sl ax×dY 207 Unit (Pt list)->ae Bool}{g:Sl ax×dY 230 Unit (Pt straight)->ae Bool}{h:Sl ax×dY 257 Unit (Pt straight)->ae Bool}(a:Ox .inl f)(b:Ox (λc=>.inr (.inl c)) g)(d:Ox (λc=>.inr (.inr c)) h):WX (ae.two f (ae.two g h)):=λl c hl ho=>by
 rcases c with c|c|c
 exact a l c hl ho;exact b l c hl ho;exact d l c hl ho
def fV(l:Sl ax):Bool:=eH (λj=>(l.get j).Z==(l.get 0).Z) l.len
theorem zrx{a b:Int}:(!(a != b))=(a==b):=by cases h:a==b<;>simp[bne,h]
abbrev zab(C:list->ae Bool):Prop:=∀x:list,0<x.bM.len->x.bM.len<=1000->C x=.ok (fV x.bM)
theorem zT3{E:zp5}(MM:WX E.c206):zab (zp6 E):=λx h0 h1=>ae.ext λk=>by
 rw[e167,MM x.bM (.inl ⟨(),⟨x⟩⟩) h1 h0,aX,aX,jqF];congr 1;exact BA λi _=>zrx
def allB(l:Sl ax)(x:straight):Bool:=eH (λj=>Qc x (l.get j)) l.len
abbrev zzx(C:set×straight->ae Bool):Prop:=∀(s:set) x,s.list.bM.len<=1000->C (s,x)=.ok (allB s.list.bM x)
theorem zT4{E:zqG}(MM:WX E.c206):zzx (zqH E):=λs x h1=>ae.ext λk=>by
 rw[e199,MM s.list.bM (.inr (.inl ⟨(),⟨x⟩⟩)) h1 trivial,aX,aX,jqF];congr 1;exact BA λi _=>jqF _
abbrev zzy(C:set×straight->ae Bool):Prop:=∀(s:set) x,s.list.bM.len<=1000->C (s,x)=.ok (!eH (λj=>!WW x (s.list.bM.get j)) s.list.bM.len)
theorem zT5{E:zrr}(MM:WX E.c206):zzy (zrt E):=λs x h1=>ae.ext λk=>by
 rw[zTM,MM s.list.bM (.inr (.inr ⟨(),⟨x⟩⟩)) h1 trivial,aX,aX];rfl
def eU(l:Sl ax):Nat→bZ
  | 0=>⟨(l.get 0).Low,(l.get 0).High⟩
  | n+1=>⟨if(l.get n).Low>(eU l n).Low then(l.get n).Low else(eU l n).Low,if(l.get n).High<(eU l n).High then(l.get n).High else(eU l n).High⟩
abbrev zry(C:list->ae bZ):Prop:=∀x:list,0<x.bM.len->x.bM.len<=1000->C x=.ok (eU x.bM x.bM.len)
theorem zT6{E:zeL}(N:Big E.N):zry (zqI E):=λx h0 h1=>ae.ext λk=>by
 rw[zTd,bn omY,bn omY,aX];refine jO (X:=λn i=>SL E n x (i:Int) (eU x.bM i) k) (m:=x.bM.len) (λn i hi=>?_) (λn=>?_) _ (by have:=N;omega);rw[zjC,dM omY,dS,bn omY,bF omY,gy];rfl;rw[zjC,dR omY];rfl
def Az(s:straight):Prop:=(-2000000<=s.bD/\s.bD<=2000000)/\(-200000000000<=s.start/\s.start<=200000000000)/\1<=s.den/\s.den<=100000
theorem zzz{z p y q:Int}(hz:0<=z/\z<=100000)(hy:0<=y/\y<=100000)(hp : -1000000<=p/\p<=1000000)(hq : -1000000<=q/\q<=1000000)(hn:z≠y):Az (EP z p y q):=by
 have b1:=qp hp.1 hp.2 hy.1 hy.2;have b2:=qp hq.1 hq.2 hz.1 hz.2;unfold EP Az;by_cases h:z>y;rw[eX h];exact⟨⟨by show _<=p-q;omega,by show p-q<=_;omega⟩,⟨by show _<=q*z-p*y;omega,by show q*z-p*y<=_;omega⟩,by show _<=z-y;omega,by show z-y<=_;omega⟩;rw[fF h];exact⟨⟨by show _<=q-p;omega,by show q-p<=_;omega⟩,⟨by show _<=p*y-q*z;omega,by show p*y-q*z<=_;omega⟩,by show _<=y-z;omega,by show y-z<=_;omega⟩
theorem zkc{a b:ax}{s:straight}(h:s∈BI a b):a.Z≠b.Z/\∃p q,(p=a.Low\/p=a.High)/\(q=b.Low\/q=b.High)/\s=EP a.Z p b.Z q:=by
 unfold BI at h;by_cases hz:a.Z=b.Z;rw[eX hz]at h;cases h;rw [fF hz]at h;refine⟨hz,?_⟩;simp only[kF,qjn,jqp]at h;rcases h with h|h|h|h
 exact⟨_,_,.inl rfl,.inl rfl,h⟩;exact⟨_,_,.inl rfl,.inr rfl,h⟩;exact⟨_,_,.inr rfl,.inl rfl,h⟩;exact⟨_,_,.inr rfl,.inr rfl,h⟩
theorem WY{g:Sl ax}{i:Nat}{s:straight}:∀{m k:Nat},s∈Ei g i m k→∃j,k≤j∧j<k+m∧s∈BI (g.get i) (g.get j)
  | 0,_,h=>by cases h
  | m+1,k,h=>by
    rcases dW.1 h with h|h
    exact⟨k,kw _,omY,h⟩;obtain⟨j,a,b,c⟩:=WY h;exact⟨j,omY,omY,c⟩
theorem WZ{g:Sl ax}{s:straight}:∀{m i:Nat},s∈Ov g m i→∃a b,i≤a∧a<i+m∧a<b∧b<g.len∧s∈BI (g.get a) (g.get b)
  | 0,_,h=>by cases h
  | m+1,i,h=>by
    rcases dW.1 h with h|h
    obtain⟨j,a,b,c⟩:=WY h;exact⟨i,j,kw _,omY,omY,omY,c⟩;obtain⟨a,b,h1,h2,h3,h4,h5⟩:=WZ h;exact⟨a,b,omY,omY,h3,h4,h5⟩
theorem zcl{g:Sl ax}{s:straight}(h:s∈cst g):∃a b,a<b/\b<g.len/\(g.get a).Z≠(g.get b).Z/\∃p q,(p=(g.get a).Low\/p=(g.get a).High)/\(q=(g.get b).Low\/q=(g.get b).High)/\s=EP (g.get a).Z p (g.get b).Z q:=by
 obtain⟨a,b,_,_,h3,h4,h5⟩:=WZ h;obtain⟨hz,r⟩:=zkc h5;exact⟨a,b,h3,h4,hz,r⟩
theorem rD{g:Sl ax}(G:bU g){s:straight}(h:s∈cst g):Az s:=by
 obtain⟨a,b,h1,h2,hz,p,q,hp,hq,rfl⟩:=zcl h;have ga:=G.1 a omY;have gb:=G.1 b h2;refine zzz ga.1 gb.1 ?_ ?_ hz;rcases hp with rfl|rfl;exact qc ga;exact rC ga
 rcases hq with rfl|rfl;exact qc gb;exact rC gb
def sQ(l:Line):List Int:=[l.dX.Num,l.dX.bV,l.Start.Num,l.Start.bV]
theorem zeS{a b:Line}(h:sQ a=sQ b):a=b:=by
 unfold sQ at h;simp only[Gu,qj9]at h;obtain⟨h1,h2,h3,h4⟩:=h;obtain⟨⟨a1,a2⟩,a3,a4⟩:=a;obtain⟨⟨b1,b2⟩,b3,b4⟩:=b;simp only at h1 h2 h3 h4;rw[h1,h2,h3,h4]
theorem W9(a b:ax):(BI a b).length<=4:=by unfold BI;split<;>simp
theorem Xa(g:Sl ax)(i m k:Nat):(Ei g i m k).length<=4*m:=by
 induction m generalizing k with|zero=>exact kw _|succ m ih=>show(BI _ _++Ei g i m (k+1)).length<=_;rw[N7];have:=ih (k+1);have:=W9 (g.get i) (g.get k);omega
theorem zkd(g:Sl ax):∀m i,(Ov g m i).length<=4*g.len*m:=by
 intro m
 induction m with
 | zero=>intro i;exact kw _
 | succ m ih =>
  intro i;show(Ei g i (g.len-(i+1)) (i+1)++Ov g m (i+1)).length<=_;rw[N7,Nat.mul_succ];have:=ih (i+1);have:=Xa g i (g.len-(i+1)) (i+1);omega
theorem SV{g:Sl ax}(G:bU g):(cst g).length<=2304:=by
 have h1:=zkd g g.len 0;have hl:=G.2.2;have:4*g.len*g.len<=4*24*24:=jqk omY hl;exact Gv h1 this
def rE{α:Type}[bG α](v:Sl α)(x:α):Sl α:=⟨v.len+1,jY v.len v.get (λ_=>x)⟩
theorem uo{α:Type}[bG α](l:List α):∀v:Sl α,(l.foldl rE v).len=v.len+l.length:=by
 induction l with|nil=>intro v;rfl|cons x l ih=>intro v;rw[Yf,ih];show v.len+1+l.length=v.len+(l.length+1);omega
theorem SX{α:Type}[bG α][uh α](l:List α):∀(v:Sl α)(i:Nat),i<v.len->(l.foldl rE v).get i=v.get i:=by
 induction l with
 | nil=>intro v i _;rfl
 | cons x l ih =>
  intro v i hi;rw[Yf,ih _ _ (show i<v.len+1 by omega)];show jY v.len v.get (λ_=>x) i=_;rw[jA,fF omY]
theorem AA{α:Type}[bG α][uh α](l:List α):∀(v:Sl α)(i:Nat)(x:α),l[i]? = some x->(l.foldl rE v).get (v.len+i)=x:=by
 induction l with
 | nil=>intro v i x h;simp at h
 | cons y l ih =>
  intro v i x h;rw[Yf];cases i with
  | zero =>
   simp only[qdy,bQ]at h;subst h;rw[SX l _ _ (show v.len+0<v.len+1 by omega)];show jY v.len v.get (λ_=>y) (v.len+0)=_;rw[jA,eX omY]
  | succ i =>
   have:=ih (rE v y) i x (by simpa using h);rw[<- this];congr 1;show v.len+(i+1)=v.len+1+i;omega
abbrev zrz(C:straight->ae Line):Prop:=∀x,Az x->C x=.ok (gu x)
theorem zT7{E:zqE}(qo:IA E.kE):zrz (zqF E):=λx h=>ae.ext λk=>by
 obtain⟨h1,h2,h3⟩:=h;rw[zTa,qo _ _ omY omY omY omY,qo _ _ omY omY omY omY,aX,aX,aX];rfl
def Gg(g:Sl ax):List straight→List straight→(List Int→Option (List Int))→List straight|[],acc,_=>acc|y::r,acc,F=>cond (!(xX (F (sQ (gu y))) 0 != 0)) (cond (allB g y) (Gg g r (acc++[y]) (Cb (sQ (gu y)) [1] F)) (Gg g r acc F)) (Gg g r acc F)
def jC(g:Sl ax):List straight:=cond (fV g) [] (Gg g (cst g) [] λ_=>none)
abbrev Hu{α:Type}[Inhabited α]:Sl α:=⟨0,λ_=>default⟩
abbrev zke(C:Sl ax->ae set):Prop:=∀g,bU g->C g=.ok ⟨⟨g⟩,(jC g).foldl rE Hu⟩
theorem zT8{E:zeE}(wL:zab E.c167)(i228:zzr E.i228)(ZW:zrz E.c198)(zyU:zzx E.zsP):zke (zpV E):=λg G=>ae.ext λk=>by
 have hl:=G.2;rw[zSs,wL ⟨g⟩ (by show 0<g.len;omega) (by show g.len<=1000;omega),aX,aX];unfold jC;cases fV g with
 | true=>rfl
 | false =>
  rw[dF,dF,i228 ⟨⟨g⟩⟩ G,aX];have key:∀(r acc:List straight)(n:Nat)(F:List Int->Option (List Int)),(∀s∈r,Az s)->acc.length+r.length<=10000->pz E r g (acc.foldl rE Hu) n F k=k ⟨⟨g⟩,(Gg g r acc F).foldl rE Hu⟩:=by
   intro r
   induction r with
   | nil=>intro acc n F _ _;exact zpW ..
   | cons y r ih =>
    intro acc n F hs hn;have rM:∀s∈r,Az s:=λs h=>hs s (jS _ h);rw[EN]at hn;rw[zyT,ZW y (hs y kQ),aX,zyU ⟨⟨g⟩,_⟩ y (by show g.len<=1000;omega),aX];have e1:∀m F,pz E r g (acc.foldl rE Hu) m F k=_:=λm F=>ih acc m F rM omY;have e2:∀m F,pz E r g ((acc++[y]).foldl rE Hu) m F k=_:=λm F=>ih (acc++[y]) m F rM (by rw[N7];simp only[EN,Uu];omega);have hlen:(acc.foldl rE Hu).len=acc.length:=by rw[uo];simp
    have EM:room ((acc.foldl rE Hu).len+1) 24=true:=dM (by rw[hlen];omega);have hf:(⟨(acc.foldl rE Hu).len+1,jY (acc.foldl rE Hu).len (acc.foldl rE Hu).get (λ_=>y)⟩:Sl straight)=(acc++[y]).foldl rE Hu:=by rw[qj1];rfl
    rw[EM,hf];show cond (!(xX (F (sQ (gu y))) 0 != 0)) (cond (allB g y) (pz E r g ((acc++[y]).foldl rE Hu) _ (Cb (sQ (gu y)) [1] F) k) (pz E r g (acc.foldl rE Hu) n F k)) (pz E r g (acc.foldl rE Hu) n F k)=_;rw[e1,e2];simp only[Gg];cases(xX (F (sQ (gu y))) 0 != 0)<;>cases allB g y<;>rfl
  exact key (cst g) [] 0 _ (λs h=>rD G h) (by have:=SV G;simp only[Uu];omega)
theorem zrA(g:Sl ax):∀(r acc:List straight)(F:List Int->Option (List Int)),(∀c,(xX (F c) 0 != 0)=true↔∃x∈acc,sQ (gu x)=c)->acc.Pairwise (λx y=>gu x≠gu y) ->
    (∀s∈Gg g r acc F,s∈acc\/(s∈r/\allB g s=true))/\(∀s∈acc,s∈Gg g r acc F)/\(∀s∈r,allB g s=true->∃x∈Gg g r acc F,gu x=gu s)/\(Gg g r acc F).Pairwise (λx y=>gu x≠gu y):=by
  intro r
  induction r with
  | nil=>intro acc F _ hp;exact⟨λs h=>.inl h,λs h=>h,(λs h=>by cases h),hp⟩
  | cons y r ih =>
    intro acc F hF hp;have skip:=ih acc F hF hp;simp only[Gg];cases h1:(xX (F (sQ (gu y))) 0 != 0)with
    | true =>
      obtain⟨c3,c4,c5,c6⟩:=skip;simp only[Js,dF];refine⟨λs h=>(c3 s h).imp id λk=>⟨jS _ k.1,k.2⟩,c4,λs h ha=>?_,c6⟩;rcases kF.1 h with rfl|h
      obtain⟨x,hx,hc⟩:=(hF _).1 h1;exact⟨x,c4 x hx,zeS hc⟩;exact c5 s h ha
    | false =>
      cases h2:allB g y with
      | true =>
        simp only[qdM,dS]
        obtain⟨c3,c4,c5,c6⟩:=ih (acc++[y]) (Cb (sQ (gu y)) [1] F)
          (λc=>by
            unfold Cb;by_cases hc:c=sQ (gu y);rw [dM hc];exact⟨λ_=>⟨y,by simp,hc.symm⟩,λ_=>rfl⟩;rw [dR hc];refine(hF c).trans ⟨λ⟨x,hx,e⟩=>⟨x,dW.2 (.inl hx),e⟩,λ⟨x,hx,e⟩=>?_⟩;rcases dW.1 hx with hx|hx
            exact⟨x,hx,e⟩;rw[kY.1 hx]at e;exact absurd e.symm hc)
          (by
            rw[qdG];refine⟨hp,jqt _ _,λa ha b hb=>?_⟩;rw[kY.1 hb];exact λe=>by rw[(hF _).2 ⟨a,ha,by rw[e]⟩]at h1;cases h1)
        have hy:=c4 y (by simp);refine⟨λs h=>?_,λs h=>c4 s (dW.2 (.inl h)),λs h ha=>?_,c6⟩;rcases c3 s h with h|h
        rcases dW.1 h with h|h
        exact .inl h;rw[kY.1 h];exact .inr ⟨kQ,h2⟩;exact .inr ⟨jS _ h.1,h.2⟩;rcases kF.1 h with rfl|h
        exact⟨s,hy,rfl⟩;exact c5 s h ha
      | false =>
        obtain⟨c3,c4,c5,c6⟩:=skip;simp only[qdM,dS,dF];refine⟨λs h=>(c3 s h).imp id λk=>⟨jS _ k.1,k.2⟩,c4,λs h ha=>?_,c6⟩;rcases kF.1 h with rfl|h
        rw[h2]at ha;cases ha;exact c5 s h ha
theorem zac{g:Sl ax}(hf:fV g=false):(∀s∈jC g,s∈cst g/\allB g s=true)/\(∀s∈cst g,allB g s=true->∃x∈jC g,gu x=gu s)/\(jC g).Pairwise (λx y=>gu x≠gu y):=by
 unfold jC;rw[hf,dF];obtain⟨c3,_,c5,c6⟩:=zrA g (cst g) [] (λ_=>none) (λc=>⟨λh=>by simp[xX]at h,λ⟨x,hx,_⟩=>by cases hx⟩) List.Pairwise.nil;refine⟨λs h=>?_,c5,c6⟩;rcases c3 s h with h|h
 cases h;exact h
def fD(g:Sl ax):Bool:=cond (fV g) (decide ((eU g g.len).Low<=(eU g g.len).High)) (decide (((jC g).length:Int)>0))
def iU(g:Sl ax):set:=⟨⟨g⟩,(jC g).foldl rE Hu⟩
theorem Ej(g:Sl ax):(iU g).cZ.len=(jC g).length:=by show((jC g).foldl rE Hu).len=_;rw[uo];simp
abbrev zkf(C:set->ae Bool):Prop:=∀g,bU g->C (iU g)=.ok (fD g)
theorem zT9{E:zpX}(ZX:zry E.TV)(wL:zab E.c167):zkf (zpY E):=λg G=>ae.ext λk=>by
 have hl:=G.2;rw[zSv,ZX _ (by show 0<g.len;omega) (by show g.len<=1000;omega),aX,wL _ (by show 0<g.len;omega) (by show g.len<=1000;omega),aX,aX,Ej,kc k];rfl
def Hy(g:Sl ax)(b:Bool):set×Int:=cond (wX g) (cond (fD g) (cond (fV g && !b) (⟨⟨Hu⟩,Hu⟩,6) (iU g,0)) (⟨⟨Hu⟩,Hu⟩,5)) (⟨⟨Hu⟩,Hu⟩,2)
abbrev zzA(C:list->ae Bool):Prop:=∀l,C l=.ok false
theorem zUa{E:zpf}:zzA (zpg E):=λl=>ae.ext λk=>by rw[e118,aX]
abbrev zzB(C:list×Pt Int->ae Bool):Prop:=∀(l:list)(z:Pt Int),0<l.bM.len->C (l,z)=.ok ((l.bM.get 0).Z==z.v)
theorem zUb{E:zpZ}:zzB (zp0 E):=λl z h=>ae.ext λk=>by rw[e162,aX,bn omY]
abbrev zzC:=dY 118 Unit Unit ⊕ dY 162 Unit (Pt Int)
def zUc(g:Sl ax):zzC→Bool|.inl _=>false|.inr c=>(g.get 0).Z==c.v.v
abbrev QOp{γ:Type}(i:γ->zzC)(C:Sl ax×γ->ae (set×Int)):Prop:=∀(g:Sl ax)(c:γ),g.len<=1000->C (g,c)=.ok (Hy g (zUc g (i c)))
abbrev zrB(C:Sl ax×zzC->ae (set×Int)):Prop:=QOp id C
theorem zkg{E:DF}(MC:zj3 E.c109)(MF:zke E.BR)(MG:zkf E.c159)(wL:zab E.c167)(zyB:zzA E.zsy):QOp .inl (DI E):=λg c hl=>ae.ext λk=>by
 rw[ziZ,MC g hl,aX,aX];unfold Hy;cases hg:wX g with
 | false=>rfl
 | true =>
  have G:=nY.1 hg;have G2:=G.2;rw[MF g G,aX,show(⟨⟨g⟩,(jC g).foldl rE Hu⟩:set)=iU g from rfl,MG g G,aX,wL _ (by show 0<g.len;omega) (by show g.len<=1000;omega),aX,zyB,aX];show cond (!true) _ (cond (!fD g) _ (cond (fV g) _ _))=_;cases fD g<;>cases fV g<;>rfl
theorem zkh{E:DJ}(MC:zj3 E.c109)(MF:zke E.BR)(MG:zkf E.c159)(wL:zab E.c167)(zyC:zzB E.c162):QOp .inr (DK E):=λg c hl=>ae.ext λk=>by
 rw[zi1,MC g hl,aX,aX];unfold Hy;cases hg:wX g with
 | false=>rfl
 | true =>
  have G:=nY.1 hg;have G2:=G.2;rw[MF g G,aX,show(⟨⟨g⟩,(jC g).foldl rE Hu⟩:set)=iU g from rfl,MG g G,aX,wL _ (by show 0<g.len;omega) (by show g.len<=1000;omega),aX,zyC _ _ (by show 0<g.len;omega),aX];show cond (!true) _ (cond (!fD g) _ (cond (fV g) (cond (!((g.get 0).Z==c.v.v)) _ _) _))=k (cond true (cond (fD g) (cond (fV g && !((g.get 0).Z==c.v.v)) _ _) _) _);cases fD g<;>cases fV g<;>cases((g.get 0).Z==c.v.v)<;>rfl
theorem zUd{f:Sl ax×dY 118 Unit Unit->ae (set×Int)}{h:Sl ax×dY 162 Unit (Pt Int)->ae (set×Int)}(a:QOp .inl f)(b:QOp .inr h):zrB (ae.two f h):=λg c hl=>by
 rcases c with c|c
 exact a g c hl;exact b g c hl
def jJ(s:straight)(z:Int):Int:=s.start+s.bD*z
def iK(s:straight)(g:ax):Bool:=decide (g.Low*s.den<=jJ s g.Z/\jJ s g.Z<=g.High*s.den)
def zzE(s:straight)(g:ax):Bool:=decide (jJ s g.Z=g.Low*s.den)
theorem zcm{s:straight}(S:Az s){z:Int}(hz : -200000<=z/\z<=200000):aO (s.start+aO (s.bD*z))=jJ s z/\(-600000000000<=jJ s z/\jJ s z<=600000000000):=by
 have b : -400000000000<=s.bD*z/\s.bD*z<=400000000000:=by
  rcases qdY z 0 with h|h
  have:=qp (x:=s.bD) (y := -z) (X:=2000000) (Y:=200000) (by have:=S.1;omega) (by have:=S.1;omega) omY omY;rw[qjg]at this;omega;exact qp (X:=2000000) (Y:=200000) (by have:=S.1;omega) (by have:=S.1;omega) h omY
 have:=S.2.1;unfold jJ;rw[aZ (x:=s.bD*z) omY omY,aZ omY omY];omega
theorem zki{s:straight}(S:Az s){p:Int}(hp : -1000000<=p/\p<=1000000):aO (p*s.den)=p*s.den:=by
 have:=qp hp.1 hp.2 (show 0<=s.den by have:=S.2.2;omega) S.2.2.2;exact aZ omY omY
theorem Xb{s:straight}(S:Az s){g:ax}(h:gJ g):Qc s g=iK s g:=by
 unfold Qc iK inB;rw[(zcm S (z:=g.Z) (by have:=h.1;omega)).1,zki S (qc h),zki S (rC h)]
theorem zcn{s:straight}(S:Az s){g:ax}(h:gJ g):WW s g=zzE s g:=by
 unfold WW zzE;rw[(zcm S (z:=g.Z) (by have:=h.1;omega)).1,zki S (qc h)];rw[Yh];simp
def zV(g:Sl ax)(s:straight):Prop:=∀i,i<g.len->iK s (g.get i)=true
def nZ(g:Sl ax)(s:straight):Prop:=∃i,i<g.len/\zzE s (g.get i)=true
theorem Nk{g:Sl ax}(G:bU g){s:straight}(S:Az s):allB g s=true↔zV g s:=by
 unfold allB;rw[dA];exact⟨λh i hi=>by rw[<- Xb S (G.1 i hi)];exact h i hi,λh i hi=>by rw[Xb S (G.1 i hi)];exact h i hi⟩
theorem Xc{g:Sl ax}(G:bU g){s:straight}(S:Az s):(!eH (λj=>!WW s (g.get j)) g.len)=true↔nZ g s:=by
 rw[N8,<- qjo,dA];constructor
 ·intro h;apply qdv;intro hc;refine h λi hi=>?_;cases e:WW s (g.get i)with|false=>rfl|true=>rw[zcn S (G.1 i hi)]at e;exact(hc ⟨i,hi,e⟩).elim
 rintro⟨i,hi,e⟩ h;have:=h i hi;rw[zcn S (G.1 i hi),e]at this;cases this
def BJ(g:Sl ax)(s:straight):Prop:=s∈cst g/\zV g s
theorem yS{g:Sl ax}(G:bU g){s:straight}(h:BJ g s):Az s:=rD G h.1
def BK(a b:aP):Prop:=a.Num*b.bV<b.Num*a.bV
def Nl(s:straight):aP:=⟨s.bD,s.den⟩
theorem zad{z p y q:Int}(h:z≠y):jJ (EP z p y q) z=p*(EP z p y q).den/\jJ (EP z p y q) y=q*(EP z p y q).den:=by
 unfold EP jJ;split;constructor;show q*z-p*y+(p-q)*z=p*(z-y);rw[jqc,qjF];omega;show q*z-p*y+(p-q)*y=q*(z-y);rw[jqc,qjF];omega;constructor;show p*y-q*z+(q-p)*z=p*(y-z);rw[jqc,qjF];omega;show p*y-q*z+(q-p)*y=q*(y-z);rw[jqc,qjF];omega
def zco(g:Sl ax)(s:straight):Prop:=∃i,i<g.len/\jJ s (g.get i).Z=(g.get i).High*s.den
theorem zeT{g:Sl ax}{s:straight}(h:s∈cst g):nZ g s\/zco g s:=by
 obtain⟨a,b,h1,h2,hz,p,q,hp,hq,rfl⟩:=zcl h;have e:=(zad (p:=p) (q:=q) hz).1;rcases hp with rfl|rfl
 exact .inl ⟨a,omY,dM e⟩;exact .inr ⟨a,omY,e⟩
theorem par{s t:straight}(h:s.bD*t.den=t.bD*s.den)(z:Int):jJ s z*t.den-jJ t z*s.den=s.start*t.den-t.start*s.den:=by
  unfold jJ;rw[qjs,qjs];have e:s.bD*z*t.den=t.bD*z*s.den:=by
    calc s.bD * z * t.den = s.bD * t.den * z := by ac_rfl
      _=t.bD*z*s.den:=by rw[h];ac_rfl
  omega
theorem wZ{g:Sl ax}{s:straight}(h:zV g s){i:Nat}(hi:i<g.len):(g.get i).Low*s.den<=jJ s (g.get i).Z/\jJ s (g.get i).Z<=(g.get i).High*s.den:=qdk (h i hi)
theorem zzF{g:Sl ax}(G:bU g){s t:straight}(hs:BJ g s)(ht:BJ g t)(h:s.bD*t.den=t.bD*s.den)(hl:s.start*t.den<t.start*s.den):¬nZ g t/\¬zco g s:=by
 have ps:0<s.den:=by have:=(yS G hs).2.2;omega
 have pt:0<t.den:=by have:=(yS G ht).2.2;omega
 constructor;intro⟨i,hi,e⟩;have e:jJ t (g.get i).Z=(g.get i).Low*t.den:=qdk e;have a:=(wZ hs.2 hi).1;have p:=par h (g.get i).Z;have a2:=Qy a (xQ pt);have:(g.get i).Low*s.den*t.den=jJ t (g.get i).Z*s.den:=by rw[e];ac_rfl
 omega;intro⟨i,hi,e⟩;have a:=(wZ ht.2 hi).2;have p:=par h (g.get i).Z;have a2:=Qy a (xQ ps);have:(g.get i).High*t.den*s.den=jJ s (g.get i).Z*t.den:=by rw[e];ac_rfl
 omega
theorem Xd{g:Sl ax}(G:bU g){s t:straight}(hs:BJ g s)(ht:BJ g t)(hf:nZ g s↔nZ g t)(h1:¬BK (Nl s) (Nl t))(h2:¬BK (Nl t) (Nl s)):gu s=gu t:=by
 have ps:0<s.den:=by have:=(yS G hs).2.2;omega
 have pt:0<t.den:=by have:=(yS G ht).2.2;omega
 have h:s.bD*t.den=t.bD*s.den:=by
  have a:¬s.bD*t.den<t.bD*s.den:=h1;have b:¬t.bD*s.den<s.bD*t.den:=h2;omega
 have key:∀{s t:straight},BJ g s->BJ g t->(nZ g s↔nZ g t)->s.bD*t.den=t.bD*s.den->¬s.start*t.den<t.start*s.den:=fun {s t} hs ht hf h hl=>by
  obtain⟨a,b⟩:=zzF G hs ht h hl;rcases zeT hs.1 with c|c
  exact a (hf.1 c);exact b c
 have e:s.start*t.den=t.start*s.den:=by
  have a:=key hs ht hf h;have b:=key ht hs hf.symm h.symm;omega
 unfold gu;rw[(Z9 ps pt).2 h,(Z9 ps pt).2 e]
def Np(g:Sl ax)(s t:straight):Prop:=(nZ g s/\(nZ g t->BK (Nl s) (Nl t)))\/(¬nZ g s/\¬nZ g t/\BK (Nl t) (Nl s))
theorem SY{a:aP}:¬BK a a:=by unfold BK;omega
theorem zcp{a b:aP}(h:BK a b):¬BK b a:=by unfold BK at *;omega
theorem zcq{a b c:aP}(ha:0<a.bV)(hb:0<b.bV)(hc:0<c.bV)(h1:BK a b)(h2:BK b c):BK a c:=by
 unfold BK at *;have y1:=qjt h1 hc;have y2:=qjt h2 ha;have z1:b.Num*a.bV*c.bV=b.Num*c.bV*a.bV:=by ac_rfl
 have z2:c.Num*b.bV*a.bV=c.Num*a.bV*b.bV:=by ac_rfl
 have z3:a.Num*b.bV*c.bV=a.Num*c.bV*b.bV:=by ac_rfl
 have:a.Num*c.bV*b.bV<c.Num*a.bV*b.bV:=by omega
 exact jqg this (xQ hb)
theorem zrC{g:Sl ax}{s:straight}:¬Np g s s:=λh=>by
 rcases h with⟨a,b⟩|⟨_,_,c⟩
 exact SY (b a);exact SY c
theorem zkj{g:Sl ax}{s t:straight}(h:Np g s t):¬Np g t s:=λk=>by
 rcases h with⟨a,b⟩|⟨a,b,c⟩<;>rcases k with⟨x,y⟩|⟨x,y,z⟩
 exact zcp (b x) (y a);exact y a;exact b x;exact zcp c z
theorem zeU{g:Sl ax}(G:bU g){s t u:straight}(hs:BJ g s)(ht:BJ g t)(hu:BJ g u)(h:Np g s t)(k:Np g t u):Np g s u:=by
 have ps:0<(Nl s).bV:=by have:=(yS G hs).2.2;show 0<s.den;omega
 have pt:0<(Nl t).bV:=by have:=(yS G ht).2.2;show 0<t.den;omega
 have pu:0<(Nl u).bV:=by have:=(yS G hu).2.2;show 0<u.den;omega
 rcases h with⟨a,b⟩|⟨a,b,c⟩<;>rcases k with⟨x,y⟩|⟨x,y,z⟩
 exact .inl ⟨a,λw=>zcq ps pt pu (b x) (y w)⟩;exact .inl ⟨a,λw=>absurd w y⟩;exact absurd x b;exact .inr ⟨a,y,zcq pu pt ps z c⟩
theorem zrD{g:Sl ax}(G:bU g){s t:straight}(hs:BJ g s)(ht:BJ g t)(hn:gu s≠gu t):Np g s t\/Np g t s:=by
 by_cases a:nZ g s<;>by_cases b:nZ g t;by_cases c:BK (Nl s) (Nl t);exact .inl (.inl ⟨a,λ_=>c⟩);by_cases d:BK (Nl t) (Nl s);exact .inr (.inl ⟨b,λ_=>d⟩);exact absurd (Xd G hs ht ⟨λ_=>b,λ_=>a⟩ c d) hn;exact .inl (.inl ⟨a,λw=>absurd w b⟩);exact .inr (.inl ⟨b,λw=>absurd w a⟩);by_cases c:BK (Nl s) (Nl t);exact .inr (.inr ⟨b,a,c⟩);by_cases d:BK (Nl t) (Nl s);exact .inl (.inr ⟨a,b,d⟩);exact absurd (Xd G hs ht ⟨λw=>absurd w a,λw=>absurd w b⟩ c d) hn
abbrev zrE(C:Int->ae Bool):Prop:=∀x,C x=.ok false
theorem zUe{E:zrh}:zrE (zri E):=λx=>ae.ext λk=>by rw[zTC,aX,show(x != x)=false by simp]
def qx(a b:Int):Int:=cond (decide (a<b)) (-1) (cond (decide (a>b)) 1 0)
abbrev zae(C:Int×Int->ae Int):Prop:=∀a b,C (a,b)=.ok (qx a b)
theorem zUf{E:zqQ}(WF:zrE E.NM):zae (zqR E):=λa b=>ae.ext λk=>by
 rw[e208,WF,aX,WF,aX,aX];unfold qx;cases decide (a<b)<;>cases decide (a>b)<;>rfl
def FOK(f:aP):Prop:=(-1000000000<=f.Num/\f.Num<=1000000000)/\0<f.bV/\f.bV<=1000000000
def cmF(a b:aP):Int:=qx (a.Num*b.bV) (b.Num*a.bV)
theorem zHu{a b:aP}(h1:FOK a)(h2:FOK b):aO (a.Num*b.bV)=a.Num*b.bV:=by
 have:=qp h1.1.1 h1.1.2 (xQ h2.2.1) h2.2.2;exact aZ omY omY
abbrev zkk(C:aP×aP->ae Int):Prop:=∀a b:aP,aO (a.Num*b.bV)=a.Num*b.bV->aO (b.Num*a.bV)=b.Num*a.bV->C (a,b)=.ok (cmF a b)
theorem zUh{E:zp9}(ZY:zae E.c208):zkk (zqa E):=λa b h1 h2=>ae.ext λk=>by
 rw[e170,ZY,aX,aX,h1,h2];rfl
theorem zkl{a b:aP}:cmF a b<0↔BK a b:=by
 unfold cmF qx BK;by_cases h:a.Num*b.bV<b.Num*a.bV;rw[dM h];simp[h];rw [dR h];cases decide (a.Num*b.bV>b.Num*a.bV)<;>simp[h]
theorem zkm{a b:aP}:0-cmF a b<0↔BK b a:=by
 unfold cmF qx BK;by_cases h:a.Num*b.bV<b.Num*a.bV;rw[dM h];simp;omega;rw [dR h];by_cases h2:a.Num*b.bV>b.Num*a.bV;rw[dM h2];simp;omega;rw[dR h2];simp;omega
theorem zHv(a b:aP) : -1<=cmF a b/\cmF a b<=1:=by
 unfold cmF qx;cases decide (a.Num*b.bV<b.Num*a.bV)<;>cases decide (a.Num*b.bV>b.Num*a.bV)<;>simp
theorem zkn{a b c d:Int}(hb:0<b)(hd:0<d):BK (red a b) (red c d)↔a*d<c*b:=by
 have a1:=qw (num:=a) hb;have a2:=oz (num:=a) hb;have c1:=qw (num:=c) hd;have c2:=oz (num:=c) hd;have hG:=lh (num:=a) hb;have hK:=lh (num:=c) hd;unfold BK;generalize (Int.gcd a b:Int)=G at a1 a2 hG;generalize (Int.gcd c d:Int)=K at c1 c2 hK;generalize (red a b).Num=p at a1 ⊢;generalize (red a b).bV=q at a2 ⊢;generalize (red c d).Num=u at c1 ⊢;generalize (red c d).bV=v at c2 ⊢;subst a1 a2 c1 c2;have e1:G*p*(K*v)=p*v*(G*K):=by ac_rfl
 have e2:K*u*(G*q)=u*q*(G*K):=by ac_rfl
 rw[e1,e2];have hp:=qjS hG hK;exact⟨λh=>qjt h hp,λh=>jqg h (xQ hp)⟩
theorem Jg{a b:Int}(h1 : -1000000000<=a)(h2:a<=1000000000)(hb:0<b)(Ur:b<=1000000000):FOK (red a b):=by
 have r1:=Eh (num:=a) hb;have r2:=Nj (num:=a) hb;have r3:=mO (num:=a) hb;exact⟨omY,omY,omY⟩
def xN(g:Sl ax)(s:straight):Bool:=!eH (λj=>!WW s (g.get j)) g.len
def zko(g:Sl ax)(s t:straight):Int:=cond (xN g s) (cond (xN g t) (cmF (red s.bD s.den) (red t.bD t.den)) (-1)) (cond (xN g t) 1 (aO (0-cmF (red s.bD s.den) (red t.bD t.den))))
abbrev zzG(C:straight×straight×Pt set->ae Int):Prop:=∀s t (P:Pt set),Az s->Az t->P.v.list.bM.len<=1000->C (s,t,P)=.ok (zko P.v.list.bM s t)
theorem zUi{E:zro}(zrq:zzy E.zlM)(qo:IA E.kE)(MP:zkk E.EF):zzG (zrp E):=λs t P S T hl=>ae.ext λk=>by
 have s1:=S.1;have s3:=S.2.2;have t1:=T.1;have t3:=T.2.2
 rw[e254,zrq _ _ hl,aX,zrq _ _ hl,aX,qo _ _ omY omY omY omY,aX,qo _ _ omY omY omY omY,aX,
  MP _ _ (zHu (Jg omY omY omY omY) (Jg omY omY omY omY)) (zHu (Jg omY omY omY omY) (Jg omY omY omY omY)),aX,aX]
 unfold zko;show cond (xN P.v.list.bM s) (cond (xN P.v.list.bM t) _ (cond (xN P.v.list.bM s) _ (cond (xN P.v.list.bM t) _ _))) (cond (xN P.v.list.bM s) _ (cond (xN P.v.list.bM t) _ _))=_;cases xN P.v.list.bM s<;>cases xN P.v.list.bM t<;>rfl
theorem zrF{g:Sl ax}(G:bU g){s t:straight}(hs:BJ g s)(ht:BJ g t):zko g s t<0↔Np g s t:=by
 have S:=yS G hs;have T:=yS G ht;have a:=Xc G S;have b:=Xc G T;have ps:0<s.den:=by have:=S.2.2;omega
 have pt:0<t.den:=by have:=T.2.2;omega
 have e1:=(zkl (a:=red s.bD s.den) (b:=red t.bD t.den)).trans (zkn ps pt);have e2:=(zkm (a:=red s.bD s.den) (b:=red t.bD t.den)).trans (zkn pt ps);have bb:=zHv (red s.bD s.den) (red t.bD t.den);have e3:BK (Nl s) (Nl t)↔s.bD*t.den<t.bD*s.den:=Uw;have e4:BK (Nl t) (Nl s)↔t.bD*s.den<s.bD*t.den:=Uw;unfold zko Np;rw[<- a,<- b,e3,e4,<- e1,<- e2,aZ omY omY];show cond (xN g s) _ _<0↔(xN g s=true/\(xN g t=true->_))\/(¬xN g s=true/\¬xN g t=true/\_);cases xN g s<;>cases xN g t<;>simp
end Go.Proofs
namespace Go.Pm
section perm
variable{c:Nat->Nat->Int}
theorem zC(x:Nat):∀l:List Nat,(QC c x l).Perm (x::l)
  | []=>.refl _
  | y::r=>by
    unfold QC;split;exact .refl _;exact((zC x r).cons y).trans (.swap _ _ _)
theorem BL(n:Nat):(xZ n c).Perm (List.range n):=by
 unfold xZ;generalize List.range n=l
 induction l with|nil=>exact .refl _|cons x l ih=>exact(zC x _).trans (ih.cons x)
def leB(c:Nat->Nat->Int)(a b:Nat):Prop:=¬c b a<0
theorem zcr{n:Nat}(H:STO n c){x:Nat}(hx:x<n):∀{l:List Nat},(∀y∈l,y<n)→l.Pairwise (leB c)→(QC c x l).Pairwise (leB c)
  | [],_,_=>by simp[QC]
  | y::r,hl,hp=>by
    have hy:=hl y kQ;rw[qdz]at hp;unfold QC;split;rename_i h;have h:=qdk h;rw[qdz];refine⟨λz hz=>?_,qdz.2 hp⟩;have hxy:leB c x y:=λh2=>by
      have:=H.1 x hx;have:=H.2.2 x y x hx hy hx h h2;omega
    rcases kF.1 hz with rfl|hz
    exact hxy;intro h2;exact hp.1 z hz (H.2.2 z x y (hl z (jS _ hz)) hx hy h2 h);rename_i h;have h:=of_decide_eq_false h;rw[qdz];refine⟨λz hz=>?_,zcr H hx (λz hz=>hl z (jS _ hz)) hp.2⟩;rcases kF.1 ((zC x r).mem_iff.1 hz)with rfl|hz
    exact h;exact hp.1 z hz
theorem Xe{n:Nat}(H:STO n c):(xZ n c).Pairwise (leB c):=by
 have key:∀l:List Nat,(∀y∈l,y<n)->(l.foldr (QC c) []).Pairwise (leB c)/\∀y∈l.foldr (QC c) [],y<n:=by
  intro l
  induction l with
  | nil=>intro _;exact⟨List.Pairwise.nil,λy hy=>by simp at hy⟩
  | cons x l ih =>
   intro h;obtain⟨h1,h2⟩:=ih λy hy=>h y (jS _ hy);have hx:=h x kQ;refine⟨zcr H hx h2 h1,λy hy=>?_⟩;rcases kF.1 ((zC x _).mem_iff.1 hy)with rfl|hy
   exact hx;exact h2 y hy
 exact(key _ λy hy=>NT.1 hy).1
theorem zaf{n:Nat}(H:STO n c){l:List Nat}(hp:l.Perm (List.range n))(hs:l.Pairwise (leB c)):l=xZ n c:=by
 refine jqo (le:=leB c) (λa b ha hb h1 h2=>?_) hs (Xe H) (hp.trans (BL n).symm);have ha:=NT.1 (hp.mem_iff.1 ha);have hb:=NT.1 ((BL n).mem_iff.1 hb);by_cases e:a=b;exact e;rcases H.2.1 a b ha hb e with h|h
 exact absurd h.1 h2;exact absurd h.1 h1
end perm
end Go.Pm
namespace Go.Proofs
open Go Go.Pm
set_option maxRecDepth 100000
theorem zuL{α:Type}[bG α][uh α]{C:List PA→ae (List PA)}{caps:List PV}{ag:Bool}{w:Sl α}{cmp:α→α→Int}{R:α→α→Prop}(hn:w.len≤1000000)
    (hc:∀i j,i<w.len->j<w.len->JC C caps ag (ui w) i j=some (cmp (w.get i) (w.get j))) (hR:∀i j,i<w.len->j<w.len->(cmp (w.get i) (w.get j)<0↔R (w.get i) (w.get j)))
    (irr:∀i,i<w.len->¬R (w.get i) (w.get i)) (tot:∀i j,i<w.len->j<w.len->i≠j->R (w.get i) (w.get j)\/R (w.get j) (w.get i)) (asym:∀i j,i<w.len->j<w.len->R (w.get i) (w.get j)->¬R (w.get j) (w.get i))
    (tr:∀i j k,i<w.len->j<w.len->k<w.len->R (w.get i) (w.get j)->R (w.get j) (w.get k)->R (w.get i) (w.get k)) :
    soP C caps ag w=true/\∃l:List Nat,l.Perm (List.range w.len)/\l.Pairwise (λi j=>R (w.get i) (w.get j))/\∀i (h:i<l.length),soG C caps ag w i=w.get l[i]:=by
  have hv:∀i j,i<w.len->j<w.len->(nJ C caps ag (ui w) i j<0↔R (w.get i) (w.get j)):=λi j hi hj=>by
    unfold nJ;rw[hc i j hi hj];exact hR i j hi hj
  have S1:zgB w.len (λi j=>(JC C caps ag (ui w) i j).isSome) (nJ C caps ag (ui w))=true:=by
    simp only[zgB,Af,NT,gz,qdj,oW,N8,jqw,dqS];intro i hi;refine⟨by have:¬nJ C caps ag (ui w) i i<0:=λh=>irr i hi ((hv i i hi hi).1 h);omega,λj hj=>?_⟩;refine⟨⟨by rw[hc i j hi hj];rfl,?_⟩,λk hk=>?_⟩;by_cases NY:i=j;exact .inl (.inl (by rw[NY];exact Nat.beq_refl j));rcases tot i j hi hj NY with h|h
    have:¬nJ C caps ag (ui w) j i<0:=fun k=>asym i j hi hj h ((hv j i hj hi).1 k);exact .inl (.inr ⟨(hv i j hi hj).2 h,omY⟩);have:¬nJ C caps ag (ui w) i j<0:=fun k=>asym j i hj hi h ((hv i j hi hj).1 k);exact .inr ⟨(hv j i hj hi).2 h,omY⟩;by_cases h1:nJ C caps ag (ui w) i j<0;by_cases h2:nJ C caps ag (ui w) j k<0;exact .inr ((hv i k hi hk).2 (tr i j k hi hj hk ((hv i j hi hj).1 h1) ((hv j k hj hk).1 h2)));exact .inl (.inr h2);exact .inl (.inl h1)
  have hb:(zwu w.len (λi j=>(JC C caps ag (ui w) i j).isSome) (nJ C caps ag (ui w))).b=true:=by
    show(Nat.ble w.len 4611686018427387&&zgB w.len _ _)=true;rw[S1,qjJ omY];rfl
  have T:STO w.len (nJ C caps ag (ui w)):=(CP.h _ hb).2.2;have pm:=BL (c:=nJ C caps ag (ui w)) w.len;refine⟨hb,xZ w.len (nJ C caps ag (ui w)),pm,?_,λi h=>?_⟩;have nd:(xZ w.len (nJ C caps ag (ui w))).Nodup:=pm.nodup_iff.2 List.nodup_range;refine(List.Pairwise.and (Xe T) nd).imp_of_mem ?_;intro a b ha hb hab;have ha:=NT.1 (pm.mem_iff.1 ha);have hb:=NT.1 (pm.mem_iff.1 hb);rcases tot a b ha hb hab.2 with h|h
  exact h;exact absurd ((hv b a hb ha).2 h) hab.1;show(bG.dec (bG.enc (w.get ((xZ w.len (nJ C caps ag (ui w))).getD i ((xZ w.len (nJ C caps ag (ui w))).getD 0 0))))).1=_;rw[uh.de,jqh,Ae h];rfl
theorem vF(g:Sl ax){i:Nat}(h:i<(jC g).length):(iU g).cZ.get i=(jC g)[i]:=by
 have:=AA (jC g) Hu i (jC g)[i] (Ae h);rw[show(Hu:Sl straight).len+i=i by show 0+i=i;omega]at this;exact this
theorem zkp(g:Sl ax):∀(r acc:List straight)(F:List Int->Option (List Int)),(Gg g r acc F).length<=acc.length+r.length:=by
 intro r
 induction r with
 | nil=>intro acc F;exact kw _
 | cons y r ih =>
  intro acc F;have a:=ih (acc++[y]) (Cb (sQ (gu y)) [1] F);have b:=ih acc F;rw[N7]at a;simp only[EN,Uu]at a ⊢;simp only[Gg];cases(xX (F (sQ (gu y))) 0 != 0)<;>cases allB g y<;>simp only[Js,qdM,dS,dF]<;>omega
theorem Jh{g:Sl ax}(G:bU g):(jC g).length<=2304:=by
 unfold jC;cases fV g with
 | true=>exact AP _
 | false =>
  have a:=zkp g (cst g) [] λ_=>none;have b:=SV G;rw[dF];simp only[Uu,Oa]at a;omega
theorem zcs{g:Sl ax}(G:bU g){s:straight}(h:s∈jC g):BJ g s:=by
 cases hf:fV g with
 | true=>unfold jC at h;rw[hf]at h;cases h
 | false =>
  obtain⟨a,b⟩:=(zac hf).1 s h;exact⟨a,(Nk G (rD G a)).1 b⟩
abbrev zzH(C:set->ae (Sl straight)):Prop:=∀g,bU g->∃D:Sl straight,C (iU g)=.ok D/\D.len=(jC g).length/\∀i,i<D.len->Az (D.get i)
theorem zUj{E:zrm}(zUk:zzG E.X5):zzH (zrn E):=λg G=>by
  have hl:=Jh G;have hG:=G.2.2;have len:=Ej g;have cr:∀i,i<(iU g).cZ.len->BJ g ((iU g).cZ.get i):=λi hi=>by
    rw[vF g omY];exact zcs G (qde _)
  have ne:∀i j,i<(iU g).cZ.len->j<(iU g).cZ.len->i≠j->gu ((iU g).cZ.get i)≠gu ((iU g).cZ.get j):=λi j hi hj NY e=>by
    rw[vF g omY,vF g omY]at e;cases hf:fV g with
    | true =>
      have:jC g=[]:=by unfold jC;rw[hf];rfl
      rw[this]at len;simp at len;omega
    | false =>
      have P:=(zac hf).2.2;rw[qdn]at P;rcases qdX i j with h|h
      exact P i j omY omY h e;exact P j i omY omY omY e.symm
  obtain⟨hp,l,h1,_,h3⟩:=zuL (C:=ae.un E.X5) (caps:=bG.enc (⟨iU g⟩:Pt set)) (ag:=true) (w:=(iU g).cZ) (cmp:=zko g) (R:=Np g) omY
    (λi j hi hj=>by
      show(E.X5 ((iU g).cZ.get i,(iU g).cZ.get j,(⟨iU g⟩:Pt set))).T _=_;rw[zUk _ _ _ (yS G (cr i hi)) (yS G (cr j hj)) (by show g.len<=1000;omega)];rfl)
    (λi j hi hj=>zrF G (cr i hi) (cr j hj)) (λi hi=>zrC) (λi j hi hj NY=>zrD G (cr i hi) (cr j hj) (ne i j hi hj NY)) (λi j _ _ h=>zkj h)
    (λi j k hi hj hk a b=>zeU G (cr i hi) (cr j hj) (cr k hk) a b)
  have ll:l.length=(iU g).cZ.len:=by rw[h1.length_eq,List.length_range]
  refine⟨⟨(iU g).cZ.len,soG (ae.un E.X5) (bG.enc (⟨iU g⟩:Pt set)) true (iU g).cZ⟩,ae.ext λk=>?_,len,λi hi=>?_⟩;rw[e249,hp,aX,show room (iU g).cZ.len 24=true from dM omY];rfl;have hi:i<(iU g).cZ.len:=hi;show Az (soG _ _ _ _ i);rw[h3 i omY];exact yS G (cr _ (NT.1 (h1.mem_iff.1 (qde _))))
def Tc(g:Sl ax):Int:=(Hy g false).2
abbrev zzI(C:Sl ax->ae (Sl Line×Int)):Prop:=∀g:Sl ax,g.len<=1000->∃L,C g=.ok (L,Tc g)/\(Tc g=0->0<L.len)
theorem zUl{E:zeP}(N:Big E.N)(ZG:zrB E.c117)(zzp:zzH E.zlL)(ZW:zrz E.c198):zzI (zjY E):=λg hl=>by
 have e:∀(A:Type)(k:Sl Line×Int->Option A),(zjY E g).T k=cond ((Hy g false).2 != 0) (k (⟨0,λ_=>default⟩,(Hy g false).2)) ((E.zlL (Hy g false).1).T λr2=>Gf E E.N r2 (r2.len:Int) 0 ⟨0,λ_=>⟨⟨0,0⟩,⟨0,0⟩⟩⟩ k):=λA k=>by
  rw[e240,ZG g (.inl ⟨(),()⟩) hl,aX];rfl
 unfold Tc;by_cases h0:(Hy g false).2=0;have:wX g=true/\fD g=true/\fV g=false:=by
  unfold Hy at h0;revert h0;cases wX g<;>cases fD g<;>cases fV g<;>simp
 obtain⟨hg,hs,hf⟩:=this;have G:=nY.1 hg;have e1:(Hy g false).1=iU g:=by unfold Hy;rw[hg,hs,hf];rfl
 obtain⟨D,d1,d2,d3⟩:=zzp g G;have dl:D.len<=2304:=by rw[d2];exact Jh G
 have key:∃L:Sl Line,L.len=D.len/\∀(A:Type)(k:Sl Line×Int->Option A),Gf E E.N D (D.len:Int) 0 ⟨0,λ_=>⟨⟨0,0⟩,⟨0,0⟩⟩⟩ k=k (L,0):=by
  let acc:Nat->Sl Line:=λn=>Nat.rec ⟨0,λ_=>⟨⟨0,0⟩,⟨0,0⟩⟩⟩ (λi v=>rE v (gu (D.get i))) n;have al:∀n,(acc n).len=n:=λn=>by
   induction n with|zero=>rfl|succ n ih=>show(acc n).len+1=n+1;rw[ih]
  refine⟨acc D.len,al _,λA k=>?_⟩;refine jO (X:=λn i=>Gf E n D (D.len:Int) (i:Int) (acc i) k) (m:=D.len) (λn i hi=>?_) (λn=>?_) _ (by have:=N;omega);rw[zjZ,dM omY,dS,bn omY,gy,ZW _ (d3 i hi),aX,bF omY,show room ((acc i).len+1) 32=true from dM (by rw[al];omega)];rfl;rw[zjZ,dR omY];rfl
 obtain⟨L,l1,l2⟩:=key;refine⟨L,ae.ext λk=>?_,λ_=>?_⟩;rw[e,h0,e1,d1,aX,l2];rfl;rw [l1,d2];unfold fD at hs;rw[hf,dF,oW]at hs;omega;exact⟨_,ae.ext λk=>by rw[e,show((Hy g false).2 != 0)=true by simpa using h0];rfl,λh=>absurd h h0⟩
abbrev zzJ(C:Sl ax->ae (Line×Int)):Prop:=∀g:Sl ax,g.len<=1000->∃l,C g=.ok (l,Tc g)
theorem zUm{E:zqT}(zzh:zzI E.zs3):zzJ (zqU E):=λg hl=>by
 obtain⟨L,h1,h2⟩:=zzh g hl;by_cases h0:Tc g=0;exact⟨_,ae.ext λk=>by rw[e211,h1,aX,h0];show aU (decide ((0:Int)<=0/\0<(L.len:Int))) _=_;rw[bn ⟨Int.le_refl 0,by have:=h2 h0;omega⟩];rfl⟩;exact⟨_,ae.ext λk=>by rw[e211,h1,aX];show cond (Tc g != 0) _ _=_;rw[show(Tc g != 0)=true by simpa using h0];rfl⟩
theorem zzK{g:Sl ax}(G:bU g):(Tc g != 5)=fD g:=by
 unfold Tc Hy;rw[nY.2 G];cases fD g<;>cases fV g<;>rfl
theorem zrG{g:Sl ax}(h:0<g.len):fV g=eH (λi=>(g.get (i+1)).Z==(g.get 0).Z) (g.len-1):=by
 unfold fV;rw[Yh,dA,dA];refine⟨λa i hi=>a (i+1) omY,λa i hi=>?_⟩;cases i with|zero=>simp|succ i=>exact a i omY
abbrev zkq(C:Sl ax->ae Bool):Prop:=∀g:Sl ax,0<g.len->g.len<=1000->C g=.ok (fV g)
theorem zUn{E:zeC}(N:Big E.N):zkq (zpH E):=λg h0 h1=>ae.ext λk=>by
 rw[zSe,aX,zrG h0];have:=loopA (L:=λn i=>BF E n g (i+1) k) (p:=λi=>(g.get (i+1)).Z==(g.get 0).Z) (m:=g.len-1) (fin:=k true) (stop:=k false) omY (λn i hi=>by
  show BF E (n+1) g ((i:Int)+1) k=cond _ (BF E n g (aO ((i:Int)+1)+1) k) _
  rw[zjf,dM omY,dS,bn omY,bn omY,show((i:Int)+1).toNat=i+1 by omega,show(i:Int)+1=((i+1:Nat):Int)by omega,bF omY,
   show aO ((i+1:Nat):Int)=((i+1:Nat):Int)from aZ omY omY]
  rw[show((i+1:Nat):Int)+1=((i+1+1:Nat):Int)by omega];cases h:(g.get (i+1)).Z==(g.get 0).Z<;>simp[bne,h]) (λn=>by
  show BF E (n+1) g (((g.len-1:Nat):Int)+1) k=_;rw[zjf,dR omY];rfl) E.N (by have:=N;omega)
 rw[show(1:Int)=0+1 from rfl];refine this.trans ?_;cases eH (λi=>(g.get (i+1)).Z==(g.get 0).Z) (g.len-1)<;>rfl
theorem zah(g:Sl ax):eU g 1=⟨(g.get 0).Low,(g.get 0).High⟩:=by
 show(⟨_,_⟩:bZ)=_;simp only[eU,gt_iff_lt,QB,qd4]
abbrev zrH(C:Sl ax->ae (Int×Int×Bool)):Prop:=∀g:Sl ax,0<g.len->g.len<=1000->C g=.ok ((eU g g.len).Low,(eU g g.len).High,decide ((eU g g.len).Low<=(eU g g.len).High))
theorem zUo{E:zeK}(N:Big E.N):zrH (zqz E):=λg h0 h1=>ae.ext λk=>by
 rw[zS2,bn omY,bn omY,aX];have:=jO (X:=λn i=>SI E n g (eU g (i+1)).Low (eU g (i+1)).High ((i+1:Nat):Int) k) (m:=g.len-1) (fin:=k ((eU g g.len).Low,(eU g g.len).High,decide ((eU g g.len).Low<=(eU g g.len).High))) (λn i hi=>by
  rw[zjv,dM omY,dS,bn omY,bn omY,bF omY,gy];rfl) (λn=>by
  rw[zjv,show g.len-1+1=g.len by omega,dR omY];rfl) E.N (by have:=N;omega)
 rw[show(0+1:Nat)=1 from rfl,zah]at this;exact this
def plN(l:Line)(z:Int):Int:=l.Start.Num*l.dX.bV+l.dX.Num*z*l.Start.bV
def Yk(l:Line):Int:=l.Start.bV*l.dX.bV
theorem zct{s:straight}(S:Az s):(-2000000<=(gu s).dX.Num/\(gu s).dX.Num<=2000000)/\(-200000000000<=(gu s).Start.Num/\(gu s).Start.Num<=200000000000)/\(0<(gu s).dX.bV/\(gu s).dX.bV<=100000)/\0<(gu s).Start.bV/\(gu s).Start.bV<=100000:=by
 have h1:=S.1;have h2:=S.2.1;have h3:=S.2.2;have p:0<s.den:=by omega
 have a1:=Eh (num:=s.bD) p;have a2:=Nj (num:=s.bD) p;have a3:=mO (num:=s.bD) p;have b1:=Eh (num:=s.start) p;have b2:=Nj (num:=s.start) p;have b3:=mO (num:=s.start) p;show(_<=(red s.bD s.den).Num/\(red s.bD s.den).Num<=_)/\(_<=(red s.start s.den).Num/\(red s.start s.den).Num<=_)/\(_<(red s.bD s.den).bV/\(red s.bD s.den).bV<=_)/\_<(red s.start s.den).bV/\(red s.start s.den).bV<=_;omega
theorem zkr{s:straight}(S:Az s)(z:Int):jJ s z*Yk (gu s)=plN (gu s) z*s.den:=by
  have p:0<s.den:=by have:=S.2.2;omega
  have a1:=qw (num:=s.bD) p;have a2:=oz (num:=s.bD) p;have b1:=qw (num:=s.start) p;have b2:=oz (num:=s.start) p;unfold jJ Yk plN;show(s.start+s.bD*z)*((red s.start s.den).bV*(red s.bD s.den).bV)=((red s.start s.den).Num*(red s.bD s.den).bV+(red s.bD s.den).Num*z*(red s.start s.den).bV)*s.den;generalize (Int.gcd s.bD s.den:Int)=G at a1 a2;generalize (Int.gcd s.start s.den:Int)=K at b1 b2;generalize (red s.bD s.den).Num=x at a1 ⊢;generalize (red s.bD s.den).bV=q at a2 ⊢;generalize (red s.start s.den).Num=u at b1 ⊢;generalize (red s.start s.den).bV=v at b2 ⊢;rw[qjs,qjs];have e1:s.start*(v*q)=u*q*s.den:=by
    calc s.start * (v * q) = K * u * (v * q) := by rw [b1]
      _=u*q*(K*v):=by ac_rfl
      _=u*q*s.den:=by rw[b2]
  have e2:s.bD*z*(v*q)=x*z*v*s.den:=by
    calc s.bD * z * (v * q) = G * x * z * (v * q) := by rw [a1]
      _=x*z*v*(G*q):=by ac_rfl
      _=x*z*v*s.den:=by rw[a2]
  rw[e1,e2]
theorem zcu{s:straight}(S:Az s):0<Yk (gu s):=by
 have:=zct S;exact qjS this.2.2.2.1 this.2.2.1.1
theorem Xf{s:straight}(S:Az s)(z n:Int):(n*Yk (gu s)<=plN (gu s) z↔n*s.den<=jJ s z)/\(plN (gu s) z<=n*Yk (gu s)↔jJ s z<=n*s.den):=by
 have p:0<s.den:=by have:=S.2.2;omega
 have d:=zcu S;have c:=zkr S z;generalize Yk (gu s)=D at c d ⊢;generalize plN (gu s) z=M at c ⊢;generalize jJ s z=X at c ⊢;have e:n*D*s.den=n*s.den*D:=by ac_rfl
 constructor;constructor;intro h;have:=Qy h (xQ p);refine qdi (?_:n*s.den*D<=X*D) d;omega;intro h;have:=Qy h (xQ d);refine qdi (?_:n*D*s.den<=M*s.den) p;omega;constructor;intro h;have:=Qy h (xQ p);refine qdi (?_:X*D<=n*s.den*D) d;omega;intro h;have:=Qy h (xQ d);refine qdi (?_:M*s.den<=n*D*s.den) p;omega
abbrev zrI(C:Line×Int->ae (Int×Int)):Prop:=∀s z,Az s->-200000<=z/\z<=200000->C (gu s,z)=.ok (plN (gu s) z,Yk (gu s))
theorem zUp{E:zp3}:zrI (zp4 E):=λs z S hz=>ae.ext λk=>by
 obtain⟨h1,h2,h3,h4⟩:=zct S;have m1:=qp h2.1 h2.2 (xQ h3.1) h3.2;have m2 : -400000000000<=(gu s).dX.Num*z/\(gu s).dX.Num*z<=400000000000:=by
  rcases qdY z 0 with h|h
  have:=qp (y := -z) (Y:=200000) h1.1 h1.2 omY omY;rw[qjg]at this;omega;have:=qp (y:=z) (Y:=200000) h1.1 h1.2 h omY;omega
 have m3:=qp m2.1 m2.2 (xQ h4.1) h4.2;have m4:=qp (x:=(gu s).Start.bV) (X:=100000) omY h4.2 (xQ h3.1) h3.2;rw[e166,aX,aZ (x:=(gu s).Start.Num*(gu s).dX.bV) omY omY,aZ (x:=(gu s).dX.Num*z) omY omY,aZ (x:=(gu s).dX.Num*z*(gu s).Start.bV) omY omY,aZ omY omY,aZ omY omY];rfl
abbrev zzL(C:Line×ax->ae Bool):Prop:=∀s g,Az s->gJ g->C (gu s,g)=.ok (iK s g)
theorem zUq{E:zpd}(ZJ:zrI E.TS):zzL (zpe E):=λs g S G=>ae.ext λk=>by
 obtain⟨h1,h2,h3,h4⟩:=zct S;have m4:=qp (x:=(gu s).Start.bV) (X:=100000) omY h4.2 (xQ h3.1) h3.2;have d:=zcu S;have m5:Yk (gu s)<=10000000000:=m4.2;have l1:=qp (qc G).1 (qc G).2 (xQ d) m5;have l2:=qp (rC G).1 (rC G).2 (xQ d) m5;rw[e116,ZJ s g.Z S (by have:=G.1;omega),aX,aX];show cond (decide (aO (g.Low*Yk (gu s))<=plN (gu s) g.Z)) (k (decide (plN (gu s) g.Z<=aO (g.High*Yk (gu s))))) (k false)=_;rw[aZ (x:=g.Low*Yk (gu s)) omY omY,aZ (x:=g.High*Yk (gu s)) omY omY,kc k];congr 1;unfold iK;have a:=(Xf S g.Z g.Low).1;have b:=(Xf S g.Z g.High).2;rw[Yh,oW,<- a,<- b];by_cases h:g.Low*Yk (gu s)<=plN (gu s) g.Z<;>simp[h]
abbrev Q55(C:Int×Int×Int×Int->ae Line):Prop:=∀z p y q,(0<=z/\z<=100000)->(0<=y/\y<=100000)->(-1000000<=p/\p<=1000000)->(-1000000<=q/\q<=1000000)->z≠y->C (z,p,y,q)=.ok (gu (EP z p y q))
theorem s55{E:E55}(ZE:IA E.Ul):Q55 (F55 E):=λz p y q hz hy hp hq hn=>ae.ext λk=>by
 have b1:=qp hp.1 hp.2 hy.1 hy.2;have b2:=qp hq.1 hq.2 hz.1 hz.2;rw[e55,aX];unfold EP;by_cases h:z>y
 rw[dM (show y<z from h),dS,eX h,zuy,aZ (x:=q*z) omY omY,aZ (x:=p*y) omY omY,aZ (x:=p-q) omY omY,aZ (x:=z-y) omY omY,aZ (x:=q*z-p*y) omY omY,
  ZE _ _ omY omY omY omY,aX,ZE _ _ omY omY omY omY,aX];rfl
 rw[dR (show ¬y<z from h),dF,fF h,zuy,aZ (x:=p*y) omY omY,aZ (x:=q*z) omY omY,aZ (x:=q-p) omY omY,aZ (x:=y-z) omY omY,aZ (x:=p*y-q*z) omY omY,
  ZE _ _ omY omY omY omY,aX,ZE _ _ omY omY omY omY,aX];rfl
abbrev zzM(C:ax×Int->ae Int):Prop:=∀g e,C (g,e)=.ok (cond (e==0) g.Low g.High)
theorem zUs{E:zrj}:zzM (zrk E):=λg e=>ae.ext λk=>by rw[e247,aX,kc k]
theorem zcv{α:Type}[bG α][uh α](a b:α):kL [a,b] 0=a:=by
 show(bG.dec (Il (shp 8) (bG.enc a) (bG.enc a))).1=a;rw[lZ (tJ 8) (bG.sm _ _),uh.de]
theorem zcw{α:Type}[bG α][uh α](a b:α):kL [a,b] 1=b:=by
 show(bG.dec (Il (shp 8) (bG.enc a) (bG.enc b))).1=b;rw[lZ (tJ 8) (bG.sm _ _),uh.de]
theorem Xg{l:Sl aT}{p:Int}(h:qW l p=true){i:Nat}(hi:i<l.len):(0<=(l.get i).dQ.Low/\(l.get i).dQ.Low<=(l.get i).dQ.High/\(l.get i).dQ.High<=aO (p.tdiv 2)) /\
  (i=0\/((l.get (i-1)).Time<(l.get i).Time/\(l.get (i-1)).dQ.Low<=(l.get i).dQ.Low)):=by
 simp only[qW,gz,dA]at h;have:=h.1 i hi;simp only[stB,inB,gz,qdj,oW]at this;exact⟨⟨this.1.1.2.1,this.1.1.2.2,this.1.2⟩,this.2.imp id λx=>⟨x.1.1,x.1.2⟩⟩
theorem Td{l:Sl aT}{p:Int}(h:qW l p=true):∀{j:Nat},j<l.len→∀{i:Nat},i<j→(l.get i).Time<(l.get j).Time∧(l.get i).dQ.Low≤(l.get j).dQ.Low
  | 0,_,_,hi=>absurd hi omY
  | j+1,hj,i,hi=>by
    have:=(Xg h hj).2;rw[qjX]at this;rcases this with h0|⟨a,b⟩
    omega;by_cases e:i=j;rw[e];exact⟨a,b⟩;obtain⟨c,d⟩:=Td h (j:=j) omY (i:=i) omY;omega
theorem Xh(l:Sl aT)(t:Int):∀n,uS l t n=0∨∃i,i<n∧(l.get i).Time≤t∧uS l t n=(l.get i).dQ.Low
  | 0=>.inl rfl
  | n+1=>by
    simp only[uS];by_cases h:(l.get n).Time<=t;rw[dM h];exact .inr ⟨n,omY,h,rfl⟩;rw [dR h];rcases Xh l t n with e|⟨i,a,b,c⟩
    exact .inl e;exact .inr ⟨i,omY,b,c⟩
theorem Xi(l:Sl aT)(t z:Int):∀d,d≤l.len→yO l t z d=z∨∃j,j<l.len∧t≤(l.get j).Time∧yO l t z d=(l.get j).dQ.High
  | 0,_=>.inl rfl
  | d+1,hd=>by
    simp only[yO];by_cases h:(l.get (l.len-1-d)).Time>=t;rw[dM h];exact .inr ⟨l.len-1-d,omY,h,rfl⟩;rw [dR h];exact Xi l t z d omY
theorem zrJ{p:ak}(hp:PlN p)(h:qW p.aT p.aY=true){t:Int}(ht:0<=t/\t<=1000000):0<=(ul p t).1/\(ul p t).1<=(ul p t).2/\(ul p t).2<=p.aY:=by
 obtain⟨_,_,_,_,hpi,_,_,_,_,hj,_⟩:=hp;have e1:aO (t-p.dL)=t-p.dL:=aZ omY omY;have e2:aO (t+p.dL)=t+p.dL:=aZ omY omY;have e4:0<=p.aY.tdiv 2/\p.aY.tdiv 2<=p.aY:=by
  rw[qdI omY];omega
 have e3:aO (p.aY.tdiv 2)=p.aY.tdiv 2:=aZ omY omY;have a:=Xh p.aT (t-p.dL) p.aT.len;have b:=Xi p.aT (t+p.dL) (p.aY.tdiv 2) p.aT.len (kw _);unfold ul;rw[e1,e2,e3];show 0<=uS _ _ _/\uS _ _ _<=yO _ _ _ _/\yO _ _ _ _<=_;rcases a with a|⟨i,a1,a2,a3⟩<;>rcases b with b|⟨j,b1,b2,b3⟩
 rw[a,b];omega;rw[a,b3];have:=(Xg h b1).1;rw[e3]at this;omega;rw[a3,b];have:=(Xg h a1).1;rw[e3]at this;omega;rw [a3,b3];have x:=(Xg h a1).1;have y:=(Xg h b1).1;rw[e3]at x y;by_cases e:i=j;subst e;omega;have NY:i<j:=by
  rcases qdX i j with h1|h1
  exact h1;have:=(Td h a1 (i:=j) omY).1;omega
 have:=(Td h b1 NY).2;omega
theorem Tf{p:ak}(hp:PlN p){a b:Int}(h1:a<=b)(h2:p.First-p.aY-p.dK<=a)(h3:b<=p.First+(p.bT+1)*p.aY+p.dK):gJ (gate p a b):=by
 obtain⟨_,_,hz,hf,hpi,Ih,hsp,ho,_,_,_,hl,hr⟩:=hp;obtain⟨e1,e2,e3⟩:=zGA hf hpi Ih hsp ho;obtain⟨q1,q2⟩:=zB (a:=p.bT+1) (b:=p.aY) omY omY;refine⟨hz,?_⟩;show _<=aO (a+p.bz.Low)/\aO (a+p.bz.Low)<=aO (b+p.bz.High)/\aO (b+p.bz.High)<=_;rw[aZ (x:=a+p.bz.Low) omY omY,aZ (x:=b+p.bz.High) omY omY];omega
theorem zks{p:ak}{a b c d:Int}(h1:gJ (gate p a b))(h2:gJ (gate p c d))(h:(gate p a b).Low<=(gate p c d).High):gJ ⟨p.Z,(gate p a b).Low,(gate p c d).High⟩ :=
 ⟨h1.1,h1.2.1,h,h2.2.2.2⟩
theorem zHx{b:Bool}{x y:Sl ax}(h1:∀i,i<x.len->gJ (x.get i))(h2:∀i,i<y.len->gJ (y.get i)){i:Nat}(hi:i<(cond b x y).len):gJ ((cond b x y).get i):=by
 cases b;exact h2 i hi;exact h1 i hi
theorem zzN{p:ak}(hp:PlN p)(hb:plB p=true){h:bi}(hh:hpB p h=true){i:Nat}(hi:i<(gaP p h).len):gJ ((gaP p h).get i):=by
 simp only[hpB,inB,gz,oW]at hh;obtain⟨⟨⟨⟨⟨hc,hm⟩,_⟩,_⟩,_⟩,hk⟩:=hh;obtain⟨hki,_,hz,hf,hpi,Ih,hsp,ho,_,hj,_,hl,hr⟩:=hp;have hp':PlN p:=zGB hb;have q0:=zB (a:=h.Channel) (b:=p.aY) omY omY;have q1:=zB (a:=h.Channel+1) (b:=p.aY) omY omY;have q2:=zB (a:=h.Channel+h.jR-1) (b:=p.aY) omY omY;have q3:=zB (a:=p.bT+1) (b:=p.aY) omY omY;have m0:h.Channel*p.aY+p.aY<=(p.bT+1)*p.aY:=by
  have:=Qy (show h.Channel+1<=p.bT+1 by omega) (show 0<=p.aY by omega);rw[qjs,Int.one_mul]at this;omega
 have m1:(h.Channel+1)*p.aY<=(p.bT+1)*p.aY:=Qy omY omY;revert hi;unfold gaP;cases hk2:p.Kind != 2 with
 | true =>
  simp only[dS]
  rw[aZ (x:=h.Channel+h.jR) omY omY,aZ (x:=h.Channel+h.jR-1) omY omY,aZ (x:=(h.Channel+h.jR-1)*p.aY) omY omY,aZ (x:=p.First+(h.Channel+h.jR-1)*p.aY) omY omY,aZ (x:=p.First+(h.Channel+h.jR-1)*p.aY-p.dK) omY omY,
   aZ (x:=h.Channel+1) omY omY,aZ (x:=(h.Channel+1)*p.aY) omY omY,aZ (x:=p.First+(h.Channel+1)*p.aY) omY omY,aZ (x:=p.First+(h.Channel+1)*p.aY+p.dK) omY omY]
  by_cases c:p.First+(h.Channel+h.jR-1)*p.aY-p.dK>p.First+(h.Channel+1)*p.aY+p.dK;rw[dM c];intro hi;exact absurd hi (Ut _);rw [dR c];intro hi;exact Tf hp' omY omY omY
 | false =>
  have hk3:p.Kind=2:=by simpa using hk2
  have hd:0<=h.aT/\h.aT<=1000000:=by
   simp only[knB,hk3,qj6,dS,inB,gz,oW]at hk;exact hk.2
  have hs:qW p.aT p.aY=true:=by
   simp only[plB,gz,hk3,qj6,dS]at hb;exact hb.1.1.2
  obtain⟨r1,r2,r3⟩:=zrJ hp' hs hd;simp only[dF];generalize ul p h.aT=R at r1 r2 r3 ⊢;rw[aZ (x:=h.Channel*p.aY) omY omY,aZ (x:=p.First+h.Channel*p.aY) omY omY,aZ (x:=p.First+h.Channel*p.aY-R.2) omY omY,aZ (x:=p.First+h.Channel*p.aY-R.1) omY omY,aZ (x:=p.First+h.Channel*p.aY+R.1) omY omY,aZ (x:=p.First+h.Channel*p.aY+R.2) omY omY];have g1:gJ (gate p (p.First+h.Channel*p.aY-R.2) (p.First+h.Channel*p.aY-R.1)):=Tf hp' omY omY omY;have g2:gJ (gate p (p.First+h.Channel*p.aY+R.1) (p.First+h.Channel*p.aY+R.2)):=Tf hp' omY omY omY;have g3:(gate p (p.First+h.Channel*p.aY-R.2) (p.First+h.Channel*p.aY-R.1)).Low<=(gate p (p.First+h.Channel*p.aY+R.1) (p.First+h.Channel*p.aY+R.2)).High:=by
   show aO _<=aO _;rw[aZ omY omY,aZ omY omY];omega
  intro hi;refine zHx (λ_ _=>zks g1 g2 g3) (λi hi=>?_) hi;have hi:i<2:=hi;rcases(show i=0\/i=1 by omega)with e|e<;>subst e
  show gJ (kL _ 0);rw[zcv];exact g1;show gJ (kL _ 1);rw[zcw];exact g2
theorem zzO{s:au}(hs:fE s=true){h:bi}(hh:kV s h=true){i:Nat}(hi:i<(wJ s h).len):gJ ((wJ s h).get i):=by
 have hp:=Mc hh;have h1:h.ak.toNat<s.aj.len:=by omega
 simp only[kV,gz,oW]at hh;exact zzN (sN hs h1) (L9 hs h1) hh.2 hi
abbrev iY:=List (Int×Int)
section
variable(ag:iY->Bool)(us:iY->Int->Bool)(sd:Nat->iY)
def gr:Nat→iY→Nat→List iY
  | 0,_,_=>[]
  | f+1,c,i=>(sd i).flatMap λp=>cond (us c p.1 || !ag (c++[p])) [] ((c++[p])::gr f (c++[p]) (p.1.toNat+1))
def Ti:Nat→List iY→iY→Nat→List iY
  | 0,out,_,_=>out
  | f+1,out,c,i=>(sd i).foldl (λout p=>cond (us c p.1||(decide (2000<out.length) || !ag (c++[p]))) out (Ti f (out++[c++[p]]) (c++[p]) (p.1.toNat+1))) out
inductive Ch:iY→Nat→Prop
  | nil:Ch [] 0
  | snoc {c:iY} {i:Nat} {p:Int×Int}:Ch c i->p∈sd i->us c p.1=false->ag (c++[p])=true->Ch (c++[p]) (p.1.toNat+1)
end
section
variable{ag:iY->Bool}{us:iY->Int->Bool}{sd:Nat->iY}
theorem Tj:∀{f c i x},x∈gr ag us sd f c i→∃p e,p∈sd i∧x=c++p::e
  | f+1,c,i,x,h=>by
    simp only[gr,lD]at h;obtain⟨p,hp,h⟩:=h;cases hc:us c p.1 || !ag (c++[p])with
    | true=>rw[hc]at h;cases h
    | false =>
      rw[hc]at h;rcases kF.1 h with h|h
      exact⟨p,[],hp,h⟩;obtain⟨q,e,_,h⟩:=Tj h;exact⟨p,q::e,hp,by rw[h];simp⟩
theorem zuM:∀{f c i x},Ch ag us sd c i→x∈gr ag us sd f c i→∃j,Ch ag us sd x j
  | f+1,c,i,x,hc,h=>by
    simp only[gr,lD]at h;obtain⟨p,hp,h⟩:=h;cases hu:us c p.1 || !ag (c++[p])with
    | true=>rw[hu]at h;cases h
    | false =>
      rw[hu]at h;simp only[qd1,Bool.not_eq_false']at hu;have hn:=Ch.snoc hc hp hu.1 hu.2;rcases kF.1 h with h|h
      exact⟨_,h▸hn⟩;exact zuM hn h
theorem zHy{f:Nat}:∀{c j},Ch ag us sd c j->c.length<=f->(c=[]\/c∈gr ag us sd f [] 0)/\∀x∈gr ag us sd (f-c.length) c j,x∈gr ag us sd f [] 0:=by
 intro c j h
 induction h with
 | nil=>intro _;exact⟨.inl rfl,λx hx=>hx⟩
 | @snoc c i p hc hp hu ha ih =>
  intro hl;rw[N7]at hl ⊢;simp only[EN,Uu]at hl ⊢;obtain⟨_,ih⟩:=ih omY;have e:gr ag us sd (f-c.length) c i=(sd i).flatMap λp=>cond (us c p.1 || !ag (c++[p])) [] ((c++[p])::gr ag us sd (f-(c.length+1)) (c++[p]) (p.1.toNat+1)):=by
   rw[show f-c.length=(f-(c.length+1))+1 by omega,gr]
  have Ym:∀y∈(c++[p])::gr ag us sd (f-(c.length+1)) (c++[p]) (p.1.toNat+1),y∈gr ag us sd (f-c.length) c i:=λy hy=>by
   rw[e,lD];exact⟨p,hp,by rw[hu,ha];exact hy⟩
  exact⟨.inr (ih _ (Ym _ kQ)),λx hx=>ih _ (Ym _ (jS _ hx))⟩
theorem Nq(hs:∀i,(sd i).Nodup):∀f c i,(gr ag us sd f c i).Nodup
  | 0,_,_=>List.Pairwise.nil
  | f+1,c,i=>by
    rw[gr];unfold List.Nodup;rw[List.pairwise_flatMap];have pre:∀p,∀x∈cond (us c p.1 || !ag (c++[p])) [] ((c++[p])::gr ag us sd f (c++[p]) (p.1.toNat+1)),∃e,x=c++p::e:=λp x hx=>by
      cases hu:us c p.1 || !ag (c++[p])with
      | true=>rw[hu]at hx;cases hx
      | false =>
        rw[hu]at hx;rcases kF.1 hx with h|h
        exact⟨[],h⟩;obtain⟨q,e,_,h⟩:=Tj h;exact⟨q::e,by rw[h];simp⟩
    refine⟨λp _=>?_,(hs i).imp_of_mem fun {p q} _ _ hpq x hx y hy e=>?_⟩
    · cases us c p.1 || !ag (c++[p])with
      | true=>exact List.Pairwise.nil
      | false =>
        refine List.Pairwise.cons (λy hy e=>?_) (Nq hs f _ _);obtain⟨q,r,_,h⟩:=Tj hy;rw[<- e]at h;have:=kz List.length h;simp at this
    obtain⟨a,ha⟩:=pre p x hx;obtain⟨b,hb⟩:=pre q y hy;rw[ha,hb]at e;have:=List.append_cancel_left e;rw[Gu]at this;exact hpq this.1
theorem zkt:∀{f out c i},(out.length≤(Ti ag us sd f out c i).length)∧((Ti ag us sd f out c i).length≤2000→Ti ag us sd f out c i=out++gr ag us sd f c i)
  | 0,out,c,i=>⟨kw _,λ_=>by simp[Ti,gr]⟩
  | f+1,out,c,i=>by
    simp only[Ti,gr];generalize sd i=l
    induction l generalizing out with
    | nil=>exact⟨kw _,λ_=>by simp⟩
    | cons p l ih =>
      rw[Yf,oD];cases hu:us c p.1 || !ag (c++[p])with
      | true =>
        have:(us c p.1||(decide (2000<out.length) || !ag (c++[p])))=true:=by
          revert hu;cases us c p.1<;>cases ag (c++[p])<;>simp
        rw[this];exact ih out
      | false =>
        have:(us c p.1||(decide (2000<out.length) || !ag (c++[p])))=decide (2000<out.length):=by
          revert hu;cases us c p.1<;>cases ag (c++[p])<;>simp
        rw[this,dF];by_cases h:2000<out.length;rw [dM h];obtain⟨a,_⟩:=ih out;exact⟨a,λh2=>by have:_<=2000:=h2;rw[dS]at this;omega⟩;rw [dR h,dF];obtain⟨a,b⟩:=zkt (f:=f) (out:=out++[c++[p]]) (c:=c++[p]) (i:=p.1.toNat+1);obtain⟨a2,b2⟩:=ih (Ti ag us sd f (out++[c++[p]]) (c++[p]) (p.1.toNat+1));rw[N7]at a;refine⟨omY,λh2=>?_⟩;rw[b2 h2,b omY];simp
theorem zcx:∀{f out c i x},Ch ag us sd c i→x∈Ti ag us sd f out c i→x∈out∨∃j,Ch ag us sd x j
  | 0,out,c,i,x,_,h=>.inl h
  | f+1,out,c,i,x,hc,h=>by
    simp only[Ti]at h;have key:∀(l:iY)(out:List iY),(∀p∈l,p∈sd i)->x∈l.foldl (λout p=>cond (us c p.1||(decide (2000<out.length) || !ag (c++[p]))) out (Ti ag us sd f (out++[c++[p]]) (c++[p]) (p.1.toNat+1))) out->x∈out\/∃j,Ch ag us sd x j:=by
      intro l
      induction l with
      | nil=>intro out _ h;exact .inl h
      | cons p l ih =>
        intro out hp h;rw[Yf]at h;have ih:=ih _ (λq hq=>hp q (jS _ hq)) h;rcases ih with ih|ih
        · cases hu:us c p.1||(decide (2000<out.length) || !ag (c++[p]))with
          | true=>rw[hu]at ih;exact .inl ih
          | false =>
            rw[hu]at ih;simp only[qd1,Bool.not_eq_false']at hu;have hn:=Ch.snoc hc (hp p kQ) hu.1 hu.2.2;rcases zcx hn ih with h|h
            rcases dW.1 h with h|h
            exact .inl h;rw[kY.1 h];exact .inr ⟨_,hn⟩;exact .inr h
        exact .inr ih
    exact key _ _ (λ_ h=>h) h
end
theorem zzQ{α:Type}{F:List α}(len:α→Nat)(sub:α→α→Prop)(refl:∀a,sub a a)(tr:∀a b c,sub a b→sub b c→sub a c)(B:Nat)(hB:∀a∈F,len a≤B) :
  ∀a∈F,∃m∈F,sub a m/\∀x∈F,¬(len m<len x/\sub m x):=by
 have key:∀d a,a∈F->B-len a<=d->∃m∈F,sub a m/\∀x∈F,¬(len m<len x/\sub m x):=by
  intro d
  induction d with
  | zero =>
   intro a ha hd;exact⟨a,ha,refl a,λx hx h=>by have:=hB x hx;omega⟩
  | succ d ih =>
   intro a ha hd;by_cases h:∃x∈F,len a<len x/\sub a x;obtain⟨x,hx,h1,h2⟩:=h;have:=hB x hx;obtain⟨m,hm,h3,h4⟩:=ih x hx omY;exact⟨m,hm,tr _ _ _ h2 h3,h4⟩;exact⟨a,ha,refl a,λx hx h2=>h ⟨x,hx,h2⟩⟩
 exact λa ha=>key _ a ha (kw _)
def eQ(t:af):iY:=(List.range t.Hits.len).map λi=>(t.Hits.get i,t.aV.get i)
theorem jK(t:af):(eQ t).length=t.Hits.len:=by simp[eQ]
theorem Ji{t:af}{i:Nat}(h:i<t.Hits.len):(eQ t)[i]? = some (t.Hits.get i,t.aV.get i):=by
 simp[eQ,qd8 h]
def Qd(x:Int)(t:af):Prop:=t.View=x/\t.aV.len=t.Hits.len
def AB(l:Sl bi)(c:iY)(i:Int):Bool:=c.any λq=>(l.get q.1.toNat).ak==(l.get i.toNat).ak
def Oy(s:au)(l:Sl bi)(x:Int)(i:Nat):iY:=sdL s l x (l.len-i) i
theorem Em{i:Int}{y:Int×Int}:∀{d k},y∈sdK i d k↔y.1=i∧(k:Int)≤y.2∧y.2<((k+d:Nat):Int)
  | 0,k=>by
    refine⟨λh=>(by cases h),λh=>?_⟩;omega
  | d+1,k=>by
    rw[sdK,kF,Em];constructor;rintro(h|h);rw[h];show i=i/\(k:Int)<=(k:Int)/\(k:Int)<_;omega;omega;intro h;by_cases e:y.2=(k:Int);exact .inl (Prod.ext h.1 e);exact .inr omY
theorem Tm{s:au}{l:Sl bi}{x:Int}{y:Int×Int}:∀{d i},y∈sdL s l x d i↔((i:Int)≤y.1∧y.1<((i+d:Nat):Int))∧P9 s l y.1.toNat=x∧0≤y.2∧y.2<(wK s l y.1.toNat:Int)
  | 0,i=>⟨λh=>(by cases h),λh=>by omega⟩
  | d+1,i=>by
    rw[sdL,dW,Tm];constructor;rintro(h|h)
    · cases hv:P9 s l i==x with
      | false=>rw[hv]at h;cases h
      | true =>
        rw[hv,dS,Em]at h;rw[h.1,gy];exact⟨omY,eq_of_beq hv,omY,omY⟩
    exact⟨omY,h.2⟩;rintro⟨h1,h2,h3,h4⟩;by_cases e:y.1=(i:Int);refine .inl ?_;rw[e,gy]at h2 h4;rw[qjc.2 h2,dS,Em];exact⟨e,omY,omY⟩;exact .inr ⟨omY,h2,h3,h4⟩
theorem Tn{s:au}{l:Sl bi}{x:Int}{y:Int×Int}{i:Nat}(hi:i<=l.len):y∈Oy s l x i↔((i:Int)<=y.1/\y.1<(l.len:Int))/\P9 s l y.1.toNat=x/\0<=y.2/\y.2<(wK s l y.1.toNat:Int):=by
 unfold Oy;rw[Tm,show i+(l.len-i)=l.len by omega]
theorem Xj{s:au}{l:Sl bi}{x:Int}{y:Int×Int}{i:Nat}(h:y∈Oy s l x i):i<l.len/\((i:Int)<=y.1/\y.1<(l.len:Int))/\P9 s l y.1.toNat=x/\0<=y.2/\y.2<(wK s l y.1.toNat:Int):=by
 by_cases hi:i<=l.len;have:=(Tn hi).1 h;exact⟨omY,this⟩;unfold Oy at h;rw[show l.len-i=0 by omega]at h;cases h
theorem Qe(i:Int):∀d k,(sdK i d k).Nodup
  | 0,_=>List.Pairwise.nil
  | d+1,k=>by
    rw[sdK];refine List.Pairwise.cons (λy hy e=>?_) (Qe i d (k+1));have:=Em.1 hy;rw[<- e]at this;have:=this.2.1;simp only at this;omega
theorem Qg(s:au)(l:Sl bi)(x:Int):∀d i,(sdL s l x d i).Nodup
  | 0,_=>List.Pairwise.nil
  | d+1,i=>by
    rw[sdL];unfold List.Nodup;rw[qdG];refine⟨?_,Qg s l x d (i+1),λa ha b hb e=>?_⟩;cases P9 s l i==x;exact List.Pairwise.nil;exact Qe _ _ _;have h1:a.1=(i:Int):=by
      cases hv:P9 s l i==x with|false=>rw[hv]at ha;cases ha|true=>rw[hv,dS]at ha;exact(Em.1 ha).1
    have:=(Tm.1 hb).1;rw[<- e]at this;omega
structure Val (s : au) (l : Sl bi) (x : Int) (c : iY) (j : Nat) : Prop where
  le:c.length<=j/\j<=l.len
  mem:∀p∈c,(0<=p.1/\p.1<(j:Int))/\P9 s l p.1.toNat=x/\0<=p.2/\p.2<(wK s l p.1.toNat:Int)
  pw:c.Pairwise λp q=>p.1<q.1/\(l.get p.1.toNat).ak≠(l.get q.1.toNat).ak
theorem Val.snoc{s:au}{l:Sl bi}{x:Int}{c:iY}{j:Nat}{p:Int×Int}(h:Val s l x c j)(hp:p∈Oy s l x j)(hu:AB l c p.1=false):Val s l x (c++[p]) (p.1.toNat+1):=by
 obtain⟨h1,h2,h3,h4⟩:=Xj hp;have hle:=h.le;refine⟨by rw[N7];simp only[EN,Uu];omega,λq hq=>?_,?_⟩;rcases dW.1 hq with hq|hq
 have:=h.mem q hq;exact⟨omY,this.2⟩;rw[kY.1 hq];exact⟨omY,h3,h4⟩;rw [qdG];refine⟨h.pw,jqt _ _,λa ha b hb=>?_⟩;rw[kY.1 hb];have:=(h.mem a ha).1;refine⟨omY,λe=>?_⟩;unfold AB at hu;rw[qjh]at hu;exact hu a ha (by simpa using e)
theorem zai{ag:iY->Bool}{s:au}{l:Sl bi}{x:Int}{c:iY}{j:Nat}(h:Ch ag (AB l) (Oy s l x) c j):Val s l x c j:=by
 induction h with|nil=>exact⟨⟨kw _,AP _⟩,(λp h=>by cases h),List.Pairwise.nil⟩|snoc _ hp hu _ ih=>exact ih.snoc hp hu
theorem zD{t:af}{c:iY}(hc:eQ t=c){i:Nat}(hi:i<t.Hits.len):c[i]? = some (t.Hits.get i,t.aV.get i):=by rw[<- hc];exact Ji hi
theorem Jj{s:au}{l:Sl bi}{x:Int}{t:af}{c:iY}{j:Nat}(hx:vwB x=true)(ht:Qd x t)(hc:eQ t=c)(h:Val s l x c j)(hn:c≠[]):pq s l t=true:=by
 have hlen:c.length=t.Hits.len:=by rw[<- hc,jK]
 have hle:=h.le;have pw:=qdn.1 h.pw;have ge:∀i (hi:i<t.Hits.len) (kX:i<c.length),c[i]=(t.Hits.get i,t.aV.get i):=λi hi kX=>by
  have:=zD hc hi;rw[Ae kX]at this;exact Yg this
 simp only[pq,gz,oW,dA];refine⟨⟨⟨by rw[ht.1];exact hx,?_⟩,ht.2⟩,λi hi=>?_⟩;rcases qju t.Hits.len with h0|h0
 rw[h0]at hlen;exact absurd (qje.1 hlen) hn;exact h0;have kX:i<c.length:=by omega
 have m:=h.mem c[i] (qde _);rw[ge i hi kX]at m;simp only[Je,gz,qdj,oW,inB,Uj,dA,N8,dqS];refine⟨⟨⟨⟨by simp only at m;omega,?_⟩,by rw[ht.1];exact m.2.1⟩,?_⟩,λk hk=>?_⟩;rcases qju i with h0|h0
 exact .inl h0;refine .inr ?_;have:=(pw (i-1) i omY kX omY).1;rw[ge i hi kX,ge (i-1) omY omY]at this;exact this;have:=m.2.2;show 0<=t.aV.get i/\t.aV.get i<=((wK s l (t.Hits.get i).toNat:Nat):Int)-1;simp only at this;omega;have:=(pw k i omY kX hk).2;rw[ge i hi kX,ge k omY omY]at this;exact this
def zW(s:au)(l:Sl bi)(c:iY):Sl ax:=gw z0 (λi=>(wJ s (l.get ((c[i]?).getD (0,0)).1.toNat)).get ((c[i]?).getD (0,0)).2.toNat) c.length
theorem yU{s:au}{l:Sl bi}{t:af}{c:iY}(hc:eQ t=c):lV s l t=zW s l c:=by
 unfold lV zW;rw[<- hc,jK];exact Md λi hi=>by rw[Ji hi];rfl
theorem BM{s:au}{l:Sl bi}{x:Int}{c:iY}{j:Nat}(he:Evt s l)(hl:l.len<=24)(h:Val s l x c j)(hn:c≠[]):bU (zW s l c):=by
 have e:(zW s l c).len=c.length:=pg _ _ _;have hle:=h.le;refine⟨λi hi=>?_,by
  rw[e];rcases qju c.length with h0|h0
  exact absurd (qje.1 h0) hn;exact h0,omY⟩
 rw[e]at hi;show gJ ((gw z0 _ c.length).get i);rw[BC hi,Ae hi];have m:=h.mem c[i] (qde _);have m2:=m.2.2;show gJ ((wJ s (l.get (c[i]).1.toNat)).get (c[i]).2.toNat);refine zzO he.se (dA.1 he.hi _ omY) ?_;show _<wK s l (c[i]).1.toNat;omega
def zcy(g:Sl ax):Prop:=∀k,k<g.len->(g.get k).Z=(g.get 0).Z
theorem Qh{g:Sl ax}:fV g=true↔zcy g:=by
 unfold fV zcy;rw[dA];exact⟨λh k hk=>eq_of_beq (h k hk),λh k hk=>qjc.2 (h k hk)⟩
theorem Nr{g:Sl ax}{i b:Nat}{x:straight}(hx:x∈BI (g.get i) (g.get b)):∀m k,k≤b→b<k+m→x∈Ei g i m k
  | 0,k,h1,h2=>by omega
  | m+1,k,h1,h2=>by
    show x∈BI (g.get i) (g.get k)++Ei g i m (k+1);by_cases h:k=b;rw[h];exact qdN _ hx;exact qjj _ (Nr hx m (k+1) omY omY)
theorem Ns{g:Sl ax}{a:Nat}{x:straight}(hx:x∈Ei g a (g.len-(a+1)) (a+1)):∀m i,i≤a→a<i+m→x∈Ov g m i
  | 0,i,h1,h2=>by omega
  | m+1,i,h1,h2=>by
    show x∈Ei g i (g.len-(i+1)) (i+1)++Ov g m (i+1);by_cases h:i=a;rw[h];exact qdN _ hx;exact qjj _ (Ns hx m (i+1) omY omY)
theorem zku{z p y q:Int}(h:z≠y):EP z p y q=EP y q z p:=by
 unfold EP;by_cases h1:z>y;rw[eX h1,fF (show ¬y>z by omega)];rw[fF h1,eX (show y>z by omega)]
theorem zHz{g:Sl ax}{a b:Nat}(ha:a<g.len)(hb:b<g.len)(hz:(g.get a).Z≠(g.get b).Z){p q:Int}(hp:p=(g.get a).Low\/p=(g.get a).High)(hq:q=(g.get b).Low\/q=(g.get b).High):EP (g.get a).Z p (g.get b).Z q∈cst g:=by
 have key:∀{a b:Nat}{p q:Int},a<b->b<g.len->(g.get a).Z≠(g.get b).Z->(p=(g.get a).Low\/p=(g.get a).High)->(q=(g.get b).Low\/q=(g.get b).High)->EP (g.get a).Z p (g.get b).Z q∈cst g:=fun {a b p q} h1 h2 hz hp hq=>by
  refine Ns (Nr ?_ _ _ h1 omY) _ 0 (AP _) omY;unfold BI;rw[fF hz];rcases hp with rfl|rfl<;>rcases hq with rfl|rfl<;>simp
 rcases qdX a b with h|h
 exact key h hb hz hp hq;have:a≠b:=fun e=>hz (by rw [e]);rw[zku hz];exact key omY ha (qjE hz) hq hp
theorem En{Q:Nat→Prop}{le:Nat→Nat→Prop}(tot:∀i j,Q i→Q j→le i j∨le j i)(tr:∀i j k,Q i→Q j→Q k→le i j→le j k→le i k):∀n,(∃k,k<n∧Q k)→∃k,k<n∧Q k∧∀j,j<n→Q j→le j k
  | 0,⟨k,h,_⟩=>absurd h (Ut k)
  | n+1,hex=>by
    by_cases h:∃k,k<n/\Q k;obtain⟨k,hk,qk,hm⟩:=En tot tr n h;by_cases qn:Q n;rcases tot n k qn qk with h1|h1
    exact⟨k,omY,qk,λj hj qj=>by
      by_cases e:j=n;rw[e];exact h1;exact hm j omY qj⟩
    exact⟨n,omY,qn,λj hj qj=>by
      by_cases e:j=n;rw[e];rcases tot n n qn qn with h2|h2<;>exact h2
      exact tr j k n qj qk qn (hm j omY qj) h1⟩
    exact⟨k,omY,qk,λj hj qj=>hm j (by
      have:j≠n:=λe=>qn (e▸qj);omega) qj⟩
    obtain⟨k,hk,qk⟩:=hex;have e:k=n:=by
      rcases qdX k n with h1|h1
      exact absurd ⟨k,h1,qk⟩ h;omega
    subst e;exact⟨k,omY,qk,λj hj qj=>by
      by_cases e:j=k;rw[e];rcases tot k k qk qk with h2|h2<;>exact h2
      exact absurd ⟨j,omY,qj⟩ h⟩
def Xk(a b:straight):Prop:=a.bD*b.den<=b.bD*a.den
theorem Tq{a b c:straight}(ha:0<a.den)(hb:0<b.den)(hc:0<c.den)(h1:Xk a b)(h2:Xk b c):Xk a c:=by
 unfold Xk at *;have y1:=Qy h1 (xQ hc);have y2:=Qy h2 (xQ ha);refine qdi (a:=b.den) ?_ hb
 grind
def lcS(g:Sl ax)(i:Nat)(p:Int)(k:Nat):straight:=EP (g.get i).Z p (g.get k).Z (if(g.get k).Z>(g.get i).Z then(g.get k).Low else(g.get k).High)
def ucS(g:Sl ax)(i:Nat)(p:Int)(k:Nat):straight:=EP (g.get i).Z p (g.get k).Z (if(g.get k).Z>(g.get i).Z then(g.get k).High else(g.get k).Low)
theorem Nu{g:Sl ax}{i k:Nat}{p:Int}{c:straight}(he:jJ c (g.get i).Z=p*c.den)(hz:(g.get k).Z≠(g.get i).Z):iK c (g.get k)=true↔Xk (lcS g i p k) c/\Xk c (ucS g i p k):=by
 unfold iK Xk lcS ucS EP;rw[oW];unfold jJ at *;by_cases h:(g.get k).Z>(g.get i).Z;simp only [eX h,fF (show ¬(g.get i).Z>(g.get k).Z by omega)];constructor;intro⟨h1,h2⟩;constructor<;>grind;intro⟨h1,h2⟩;constructor<;>grind;simp only [fF h,eX (show(g.get i).Z>(g.get k).Z by omega)];constructor;intro⟨h1,h2⟩;constructor<;>grind;intro⟨h1,h2⟩;constructor<;>grind
theorem zcz{z p y q:Int}(h:z≠y):0<(EP z p y q).den:=by
 unfold EP;by_cases h1:z>y;rw[eX h1];show 0<z-y;omega;rw[fF h1];show 0<y-z;omega
theorem Qi{g:Sl ax}{i k:Nat}{p:Int}{s c:straight}(ps:0<s.den)(pc:0<c.den)(he:jJ s (g.get i).Z=p*s.den)(hc:jJ c (g.get i).Z=p*c.den)(hz:(g.get k).Z=(g.get i).Z)(h:iK s (g.get k)=true):iK c (g.get k)=true:=by
 unfold iK at *;rw[oW]at *;rw[hz,he]at h;rw[hz,hc];exact⟨Qy (qdi h.1 ps) (xQ pc),Qy (qdi h.2 ps) (xQ pc)⟩
theorem rot{g:Sl ax}{s:straight}(hd:0<s.den)(ha:zV g s){i:Nat}(hi:i<g.len){p:Int}(hp:p=(g.get i).Low∨p=(g.get i).High)(he:jJ s (g.get i).Z=p*s.den)(hn:∃k,k<g.len∧(g.get k).Z≠(g.get i).Z) :
  (∃c,BJ g c/\0<c.den/\jJ c (g.get i).Z=p*c.den/\Xk c s)/\∃c,BJ g c/\0<c.den/\jJ c (g.get i).Z=p*c.den/\Xk s c:=by
 have ld:∀k,(g.get k).Z≠(g.get i).Z->0<(lcS g i p k).den:=λk h=>zcz (qjE h);have ud:∀k,(g.get k).Z≠(g.get i).Z->0<(ucS g i p k).den:=λk h=>zcz (qjE h);have le1:∀k,(g.get k).Z≠(g.get i).Z->jJ (lcS g i p k) (g.get i).Z=p*(lcS g i p k).den:=λk h=>(zad (qjE h)).1;have ue1:∀k,(g.get k).Z≠(g.get i).Z->jJ (ucS g i p k) (g.get i).Z=p*(ucS g i p k).den:=λk h=>(zad (qjE h)).1;have sp:∀k,k<g.len->(g.get k).Z≠(g.get i).Z->Xk (lcS g i p k) s/\Xk s (ucS g i p k):=λk hk hz=>(Nu he hz).1 (ha k hk);constructor;obtain⟨k,hk,qk,hm⟩:=En (Q:=fun k=>(g.get k).Z≠(g.get i).Z) (le:=fun a b=>Xk (lcS g i p a) (lcS g i p b)) (fun a b _ _=>qjv _ _) (fun a b c ha hb hc h1 h2=>Tq (ld a ha) (ld b hb) (ld c hc) h1 h2) g.len hn;refine⟨lcS g i p k,⟨zHz hi hk (qjE qk) hp (by split<;>simp),λj hj=>?_⟩,ld k qk,le1 k qk,(sp k hk qk).1⟩;by_cases hz:(g.get j).Z=(g.get i).Z;exact Qi hd (ld k qk) he (le1 k qk) hz (ha j hj);exact(Nu (le1 k qk) hz).2 ⟨hm j hj hz,Tq (ld k qk) hd (ud j hz) (sp k hk qk).1 (sp j hj hz).2⟩;obtain⟨k,hk,qk,hm⟩:=En (Q:=fun k=>(g.get k).Z≠(g.get i).Z) (le:=fun a b=>Xk (ucS g i p b) (ucS g i p a)) (fun a b _ _=>qjv _ _) (fun a b c ha hb hc h1 h2=>Tq (ud c hc) (ud b hb) (ud a ha) h2 h1) g.len hn;refine⟨ucS g i p k,⟨zHz hi hk (qjE qk) hp (by split<;>simp),λj hj=>?_⟩,ud k qk,ue1 k qk,(sp k hk qk).2⟩;by_cases hz:(g.get j).Z=(g.get i).Z;exact Qi hd (ud k qk) he (ue1 k qk) hz (ha j hj);exact(Nu (ue1 k qk) hz).2 ⟨Tq (ld j hz) hd (ud k qk) (sp j hj hz).1 (sp k hk qk).2,hm j hj hz⟩
theorem zzR{g:Sl ax}(hl:1<=g.len){s:straight}(ha:zV g s):∃d,0<=d/\zV g ⟨s.bD,s.start-d,s.den⟩/\∃i,i<g.len/\jJ ⟨s.bD,s.start-d,s.den⟩ (g.get i).Z=(g.get i).Low*s.den:=by
 obtain⟨k,hk,_,hm⟩:=En (Q:=λ_=>True) (le:=λa b=>jJ s (g.get b).Z-(g.get b).Low*s.den<=jJ s (g.get a).Z-(g.get a).Low*s.den) (λa b _ _=>qjv _ _) (λa b c _ _ _ h1 h2=>qj5 h2 h1) g.len ⟨0,hl,trivial⟩;have hk2:=wZ ha hk;refine⟨jJ s (g.get k).Z-(g.get k).Low*s.den,omY,λj hj=>dM ?_,k,hk,by unfold jJ;simp only;omega⟩;have h1:=hm j hj trivial;have h2:=wZ ha hj;unfold jJ at *;simp only;omega
theorem zzS{g:Sl ax}(hl:1<=g.len){s:straight}(ha:zV g s):∃d,0<=d/\zV g ⟨s.bD,s.start+d,s.den⟩/\∃i,i<g.len/\jJ ⟨s.bD,s.start+d,s.den⟩ (g.get i).Z=(g.get i).High*s.den:=by
 obtain⟨k,hk,_,hm⟩:=En (Q:=λ_=>True) (le:=λa b=>(g.get b).High*s.den-jJ s (g.get b).Z<=(g.get a).High*s.den-jJ s (g.get a).Z) (λa b _ _=>qjv _ _) (λa b c _ _ _ h1 h2=>qj5 h2 h1) g.len ⟨0,hl,trivial⟩;have hk2:=wZ ha hk;refine⟨(g.get k).High*s.den-jJ s (g.get k).Z,omY,λj hj=>dM ?_,k,hk,by unfold jJ;simp only;omega⟩;have h1:=hm j hj trivial;have h2:=wZ ha hj;unfold jJ at *;simp only;omega
theorem Xl{g:Sl ax}(nf:¬zcy g)(i:Nat)(hi:i<g.len):∃k,k<g.len/\(g.get k).Z≠(g.get i).Z:=by
 by_cases h:∃k,k<g.len/\(g.get k).Z≠(g.get i).Z;exact h;have all:∀k,k<g.len→(g.get k).Z=(g.get i).Z:=fun k hk=>qdv fun e=>h ⟨k,hk,e⟩;exact absurd (λk hk=>(all k hk).trans (all 0 omY).symm) nf
theorem zcA{a b:straight}{z p h:Int}(ha:jJ a z=p*a.den)(hb:jJ b z=p*b.den)(hs:Xk a b)(hh:z<=h):jJ a h*b.den<=jJ b h*a.den:=by
 have y:=Qy hs (show 0<=h-z by omega);unfold jJ at *;have e1:a.start=p*a.den-a.bD*z:=by omega
 have e2:b.start=p*b.den-b.bD*z:=by omega
 rw[e1,e2];clear ha hb hs e1 e2
 grind
theorem zcB{a b:straight}{z p h:Int}(ha:jJ a z=p*a.den)(hb:jJ b z=p*b.den)(hs:Xk a b)(hh:h<=z):jJ b h*a.den<=jJ a h*b.den:=by
 have y:=Qy hs (show 0<=z-h by omega);unfold jJ at *;have e1:a.start=p*a.den-a.bD*z:=by omega
 have e2:b.start=p*b.den-b.bD*z:=by omega
 rw[e1,e2];clear ha hb hs e1 e2
 grind
theorem lp{g:Sl ax}(hl:1≤g.len)(nf:¬zcy g){s:straight}(hd:0<s.den)(ha:zV g s) :
  (∀h,(∃c,BJ g c/\jJ c h*s.den<=jJ s h*c.den)/\∃c,BJ g c/\jJ s h*c.den<=jJ c h*s.den)/\(∃c,BJ g c/\Xk c s)/\∃c,BJ g c/\Xk s c:=by
 obtain⟨d,d0,da,i,hi,di⟩:=zzR hl ha;obtain⟨e,e0,ea,j,hj,ej⟩:=zzS hl ha;obtain⟨⟨c1,c1c,c1d,c1p,c1s⟩,⟨c2,c2c,c2d,c2p,c2s⟩⟩:=rot (s:=⟨s.bD,s.start-d,s.den⟩) hd da hi (.inl rfl) di (Xl nf i hi);obtain⟨⟨f1,f1c,f1d,f1p,f1s⟩,⟨f2,f2c,f2d,f2p,f2s⟩⟩:=rot (s:=⟨s.bD,s.start+e,s.den⟩) hd ea hj (.inr rfl) ej (Xl nf j hj);have lo:∀{c:straight}{h:Int},0<c.den->jJ c h*s.den<=jJ ⟨s.bD,s.start-d,s.den⟩ h*c.den->jJ c h*s.den<=jJ s h*c.den:=fun {c h} pc k=>by
  have:=qd3 d0 (xQ pc);unfold jJ at *;simp only at k
  grind
 have kX:∀{c:straight}{h:Int},0<c.den->jJ ⟨s.bD,s.start+e,s.den⟩ h*c.den<=jJ c h*s.den->jJ s h*c.den<=jJ c h*s.den:=fun {c h} pc k=>by
  have:=qd3 e0 (xQ pc);unfold jJ at *;simp only at k
  grind
 refine⟨λh=>⟨?_,?_⟩,⟨c1,c1c,c1s⟩,⟨c2,c2c,c2s⟩⟩;rcases qjv (g.get i).Z h with k|k
 exact⟨c1,c1c,lo c1d (zcA (b:=⟨s.bD,s.start-d,s.den⟩) c1p di c1s k)⟩;exact⟨c2,c2c,lo c2d (zcB (a:=⟨s.bD,s.start-d,s.den⟩) di c2p c2s k)⟩;rcases qjv (g.get j).Z h with k|k
 exact⟨f2,f2c,kX f2d (zcA (a:=⟨s.bD,s.start+e,s.den⟩) ej f2p f2s k)⟩;exact⟨f1,f1c,kX f1d (zcB (b:=⟨s.bD,s.start+e,s.den⟩) f1p ej f1s k)⟩
def rV(lt:aP→aP→Bool)(f:Nat→aP):Nat→aP|0=>f 0|n+1=>cond (lt (f n) (rV lt f n)) (f n) (rV lt f n)
theorem zaj{lt:aP→aP→Bool}{Q:aP→Prop}{f:Nat→aP}(irr:∀a,Q a→lt a a=false)(tr:∀a b c,Q a→Q b→Q c→lt a b=true→lt b c=true→lt a c=true) :
  ∀n,(∀i,i<n+1->Q (f i))->(∃i,i<n+1/\rV lt f (n+1)=f i)/\∀j,j<n+1->lt (f j) (rV lt f (n+1))=false
 | 0,hq=>by
  have e:rV lt f 1=f 0:=by simp only[rV];cases lt (f 0) (f 0)<;>rfl
  rw[e];exact⟨⟨0,omY,rfl⟩,λj hj=>by rw[show j=0 by omega];exact irr _ (hq 0 omY)⟩
 | n+1,hq=>by
  obtain⟨⟨i,hi,e⟩,h⟩:=zaj irr tr n λi hi=>hq i omY;have qe:Q (rV lt f (n+1)):=by rw[e];exact hq i omY
  rw[rV];cases hl:lt (f (n+1)) (rV lt f (n+1))with
  | true =>
   rw[dS];refine⟨⟨n+1,omY,rfl⟩,λj hj=>?_⟩;by_cases ej:j=n+1;rw[ej];exact irr _ (hq _ omY)
   ·cases hx:lt (f j) (f (n+1))with|false=>rfl|true=>rw[<- h j omY,tr _ _ _ (hq j omY) (hq (n+1) omY) qe hx hl]
  | false =>
   rw[dF];refine⟨⟨i,omY,e⟩,λj hj=>?_⟩;by_cases ej:j=n+1;rw[ej];exact hl;exact h j omY
def ltB(a b:aP):Bool:=decide (cmF a b<0)
def gtB(a b:aP):Bool:=decide (cmF a b>0)
theorem Eo{a b:aP}:gtB a b=true↔BK b a:=by
 unfold gtB;rw[oW,<- zkm];omega
theorem Ep{a b:aP}:ltB a b=true↔BK a b:=by
 unfold ltB;rw[oW,zkl]
def plF(z:Int)(s:straight):aP:=⟨jJ s z,s.den⟩
def zHA(s:straight):aP:=⟨s.bD,s.den⟩
def loG(g:Sl ax)(F:straight->aP):aP:=rV ltB (λi=>F ((iU g).cZ.get i)) (jC g).length
def hiG(g:Sl ax)(F:straight->aP):aP:=rV gtB (λi=>F ((iU g).cZ.get i)) (jC g).length
abbrev loF(g:Sl ax)(z:Int):aP:=loG g (plF z)
abbrev hiF(g:Sl ax)(z:Int):aP:=hiG g (plF z)
theorem yV{g:Sl ax}(G:bU g){i:Nat}(h:i<(jC g).length):BJ g ((iU g).cZ.get i):=by
 rw[vF g h];exact zcs G (qde _)
theorem zzT{g:Sl ax}(G:bU g)(F:straight->aP)(hF:∀s,BJ g s->0<(F s).bV)(h:0<(jC g).length):(∃s,BJ g s/\loG g F=F s)/\∀s∈jC g,¬BK (F s) (loG g F):=by
  obtain⟨n,hn⟩:∃n,(jC g).length=n+1:=⟨(jC g).length-1,omY⟩
  have := zaj (lt := ltB) (Q := fun a => 0 < a.bV) (f := fun i => F ((iU g).cZ.get i)) (fun a _ => by cases e : ltB a a with | false => rfl | true => exact absurd (Ep.1 e) SY)
    (λa b c ha hb hc h1 h2=>Ep.2 (zcq ha hb hc (Ep.1 h1) (Ep.1 h2))) n λi hi=>hF _ (yV G (i:=i) omY)
  unfold loG;rw[hn];obtain⟨⟨i,hi,e⟩,h2⟩:=this;refine⟨⟨_,yV G (i:=i) omY,e⟩,λs hs hl=>?_⟩;obtain⟨j,hj,rfl⟩:=qdT hs;have:=h2 j omY;rw[vF g hj]at this;rw[Ep.2 hl]at this;cases this
theorem zzU{g:Sl ax}(G:bU g)(F:straight->aP)(hF:∀s,BJ g s->0<(F s).bV)(h:0<(jC g).length):(∃s,BJ g s/\hiG g F=F s)/\∀s∈jC g,¬BK (hiG g F) (F s):=by
  obtain⟨n,hn⟩:∃n,(jC g).length=n+1:=⟨(jC g).length-1,omY⟩
  have := zaj (lt := gtB) (Q := fun a => 0 < a.bV) (f := fun i => F ((iU g).cZ.get i)) (fun a _ => by cases e : gtB a a with | false => rfl | true => exact absurd (Eo.1 e) SY)
    (λa b c ha hb hc h1 h2=>Eo.2 (zcq hc hb ha (Eo.1 h2) (Eo.1 h1))) n λi hi=>hF _ (yV G (i:=i) omY)
  unfold hiG;rw[hn];obtain⟨⟨i,hi,e⟩,h2⟩:=this;refine⟨⟨_,yV G (i:=i) omY,e⟩,λs hs hl=>?_⟩;obtain⟨j,hj,rfl⟩:=qdT hs;have:=h2 j omY;rw[vF g hj]at this;rw[Eo.2 hl]at this;cases this
theorem zcD{g:Sl ax}(G:bU g)(z:Int)(s:straight)(h:BJ g s):0<(plF z s).bV:=by have:=(yS G h).2.2;show 0<s.den;omega
theorem zzV{g:Sl ax}(G:bU g)(z:Int)(h:0<(jC g).length):(∃s,BJ g s/\loF g z=plF z s)/\∀s∈jC g,¬BK (plF z s) (loF g z):=zzT G _ (zcD G z) h
theorem zzW{g:Sl ax}(G:bU g)(z:Int)(h:0<(jC g).length):(∃s,BJ g s/\hiF g z=plF z s)/\∀s∈jC g,¬BK (hiF g z) (plF z s):=zzU G _ (zcD G z) h
def cmpL:List Int→List Int→Int|[],[]=>0|[],_::_=>-1|_::_,[]=>1|a::x,b::y=>cond (qx a b != 0) (qx a b) (cmpL x y)
theorem BN{a b:Int}:qx a b=0↔a=b:=by
 unfold qx;by_cases h:a<b;rw[dM h];simp;omega;rw [dR h];by_cases k:a>b;rw[dM k];simp;omega;rw[dR k];simp;omega
theorem zcE{a b:Int}:qx a b<0↔a<b:=by
 unfold qx;by_cases h:a<b;rw[dM h];simp[h];rw [dR h];cases decide (a>b)<;>simp[h]
theorem xe:∀{x y:List Int},cmpL x y<0↔(∃b y',x=[]∧y=b::y')∨∃a x' b y',x=a::x'∧y=b::y'∧(a<b∨a=b∧cmpL x' y'<0)
  | [],[]=>by simp[cmpL]
  | [],b::y=>by simp[cmpL]
  | a::x,[]=>by simp[cmpL]
  | a::x,b::y=>by
    simp only[cmpL];have e:((∃b' y',a::x=[]/\b::y=b'::y')\/∃a' x' b' y',a::x=a'::x'/\b::y=b'::y'/\(a'<b'\/a'=b'/\cmpL x' y'<0))↔(a<b\/a=b/\cmpL x y<0):=by
      constructor;rintro(⟨b',y',h,_⟩|⟨a',x',b',y',h1,h2,h⟩);cases h;cases h1;cases h2;exact h;intro h;exact .inr ⟨a,x,b,y,rfl,rfl,h⟩
    rw[e];by_cases h:a=b;subst h;rw[show(qx a a != 0)=false by rw[BN.2 rfl];rfl];simp;rw [show(qx a b != 0)=true by simpa [BN]using h,dS,zcE];simp[h]
theorem yX:∀{x y:List Int},cmpL x y=0↔x=y
  | [],[]=>by simp[cmpL]
  | [],b::y=>by simp[cmpL]
  | a::x,[]=>by simp[cmpL]
  | a::x,b::y=>by
    simp only[cmpL];by_cases h:a=b;subst h;rw[show(qx a a != 0)=false by rw[BN.2 rfl];rfl,dF,yX];simp;rw[show(qx a b != 0)=true by simpa [BN]using h,dS,BN];simp[h]
theorem vG(x:List Int):¬cmpL x x<0:=by rw[yX.2 rfl];omega
theorem Es:∀{x y z:List Int},cmpL x y<0→cmpL y z<0→cmpL x z<0
  | x,y,z,h1,h2=>by
    rw[xe]at h1 h2;rcases h1 with⟨b,y',rfl,rfl⟩|⟨a,x',b,y',rfl,rfl,h1⟩
    rcases h2 with⟨c,z',h,_⟩|⟨b',y'',c,z',h,rfl,h2⟩
    cases h;exact xe.2 (.inl ⟨c,z',rfl,rfl⟩);rcases h2 with⟨c,z',h,_⟩|⟨b',y'',c,z',h,rfl,h2⟩
    cases h;cases h;refine xe.2 (.inr ⟨a,x',c,z',rfl,rfl,?_⟩);rcases h1 with h1|⟨rfl,h1⟩<;>rcases h2 with h2|⟨rfl,h2⟩
    exact .inl omY;exact .inl h1;exact .inl h2;exact .inr ⟨rfl,Es h1 h2⟩
theorem Nv:∀{x y:List Int},x≠y→cmpL x y<0∨cmpL y x<0
  | [],[],h=>absurd rfl h
  | [],b::y,_=>.inl (by simp[cmpL])
  | a::x,[],_=>.inr (by simp[cmpL])
  | a::x,b::y,h=>by
    rcases Int.lt_trichotomy a b with k|k|k
    exact .inl (xe.2 (.inr ⟨a,x,b,y,rfl,rfl,.inl k⟩));subst k;have:x≠y:=λe=>h (by rw[e]);rcases Nv this with k|k
    exact .inl (xe.2 (.inr ⟨a,x,a,y,rfl,rfl,.inr ⟨rfl,k⟩⟩));exact .inr (xe.2 (.inr ⟨a,y,a,x,rfl,rfl,.inr ⟨rfl,k⟩⟩));exact .inr (xe.2 (.inr ⟨b,y,a,x,rfl,rfl,.inl k⟩))
def pI(w:Sl Int):List Int:=(List.range w.len).map w.get
theorem Jk(w:Sl Int):(pI w).length=w.len:=by simp[pI]
def zrM(a b:af):Int:=cond (qx a.View b.View != 0) (qx a.View b.View) (cond (cmpL (pI a.Hits) (pI b.Hits) != 0) (cmpL (pI a.Hits) (pI b.Hits)) (cmpL (pI a.aV) (pI b.aV)))
def ltT(a b:af):Prop:=a.View<b.View\/a.View=b.View/\(cmpL (pI a.Hits) (pI b.Hits)<0\/pI a.Hits=pI b.Hits/\cmpL (pI a.aV) (pI b.aV)<0)
theorem zrN{a b:af}:zrM a b<0↔ltT a b:=by
 unfold zrM ltT;by_cases h:a.View=b.View;rw [show(qx a.View b.View != 0)=false by rw [BN.2 h];rfl,dF];by_cases k:pI a.Hits=pI b.Hits;rw [show(cmpL (pI a.Hits) (pI b.Hits) != 0)=false by rw [yX.2 k];rfl,dF,yX.2 k];simp[h,k];rw [show(cmpL (pI a.Hits) (pI b.Hits) != 0)=true by simpa [yX]using k,dS];simp[h,k];rw [show(qx a.View b.View != 0)=true by simpa [BN]using h,dS,zcE];simp[h]
theorem zcF(a:af):¬ltT a a:=λh=>by
 rcases h with h|⟨_,h|⟨_,h⟩⟩
 omega;exact vG _ h;exact vG _ h
theorem zkx{a b c:af}(h:ltT a b)(k:ltT b c):ltT a c:=by
 rcases h with h|⟨h,h2⟩<;>rcases k with k|⟨k,k2⟩
 exact .inl omY;exact .inl omY;exact .inl omY;refine .inr ⟨omY,?_⟩;rcases h2 with h2|⟨h2,h3⟩<;>rcases k2 with k2|⟨k2,k3⟩
 exact .inl (Es h2 k2);exact .inl (k2▸h2);exact .inl (h2▸k2);exact .inr ⟨h2.trans k2,Es h3 k3⟩
theorem zky{a b:af}(h:ltT a b):¬ltT b a:=λk=>zcF a (zkx h k)
theorem zrO{a b:af}(h:¬(a.View=b.View/\pI a.Hits=pI b.Hits/\pI a.aV=pI b.aV)):ltT a b\/ltT b a:=by
 rcases Int.lt_trichotomy a.View b.View with k|k|k
 exact .inl (.inl k);by_cases h1:pI a.Hits=pI b.Hits;have:pI a.aV≠pI b.aV:=fun e=>h ⟨k,h1,e⟩;rcases Nv this with h2|h2
 exact .inl (.inr ⟨k,.inr ⟨h1,h2⟩⟩);exact .inr (.inr ⟨k.symm,.inr ⟨h1.symm,h2⟩⟩);rcases Nv h1 with h2|h2
 exact .inl (.inr ⟨k,.inl h2⟩);exact .inr (.inr ⟨k.symm,.inl h2⟩);exact .inr (.inl k)
theorem zzX{a b:af}(h1:pI a.Hits=pI b.Hits)(h2:pI a.aV=pI b.aV)(ha:a.aV.len=a.Hits.len)(hb:b.aV.len=b.Hits.len):eQ a=eQ b:=by
 have l1:a.Hits.len=b.Hits.len:=by rw[<- Jk,<- Jk,h1]
 have key:∀t:af,t.aV.len=t.Hits.len->eQ t=(pI t.Hits).zip (pI t.aV):=λt ht=>by
  unfold eQ pI;rw[ht,List.zip_map']
 rw[key a ha,key b hb,h1,h2]
def xO(a b:af):Bool:=(eQ b).all (λp=>(eQ a).contains p)&&(b.View==a.View)
theorem Et{a b:af}:xO a b=true↔(∀p∈eQ b,p∈eQ a)/\b.View=a.View:=by
 unfold xO;simp[Af]
theorem zkz{t u:af}{p:Int×Int}(h1:u.Hits.len=t.Hits.len+1)(h2:∀j,j<t.Hits.len->u.Hits.get j=t.Hits.get j/\u.aV.get j=t.aV.get j)(h3:u.Hits.get t.Hits.len=p.1/\u.aV.get t.Hits.len=p.2):eQ u=eQ t++[p]:=by
 unfold eQ;rw[h1,qjL,Ud];congr 1;exact qdb λi hi=>by
  have:=h2 i (NT.1 hi);rw[this.1,this.2]
 show [(u.Hits.get t.Hits.len,u.aV.get t.Hits.len)]=[p];rw[h3.1,h3.2]
def xg(s:straight)(g:Sl ax):Nat→Sl Int|0=>⟨0,λ_=>0⟩|i+1=>cond (iK s (g.get i)) (rE (xg s g i) (i:Int)) (xg s g i)
theorem Nw(s:straight)(g:Sl ax):∀i,(xg s g i).len≤i∧((xg s g i).len=i↔∀j,j<i→iK s (g.get j)=true)∧(0<(xg s g i).len↔∃j,j<i∧iK s (g.get j)=true)
  | 0=>⟨kw _,⟨λ_ j hj=>absurd hj (Ut j),λ_=>rfl⟩,⟨λh=>absurd h (jqr 0),λ⟨j,hj,_⟩=>absurd hj (Ut j)⟩⟩
  | i+1=>by
    obtain⟨a,b,c⟩:=Nw s g i;simp only[xg];cases h:iK s (g.get i)with
    | true =>
      show(xg s g i).len+1<=i+1/\((xg s g i).len+1=i+1↔_)/\(0<(xg s g i).len+1↔_);refine⟨omY,⟨λe j hj=>?_,λe=>?_⟩,⟨λ_=>⟨i,omY,h⟩,λ_=>by omega⟩⟩;by_cases k:j=i;rw[k];exact h;exact b.1 omY j omY;rw[b.2 λj hj=>e j omY]
    | false =>
      show(xg s g i).len<=i+1/\((xg s g i).len=i+1↔_)/\(0<(xg s g i).len↔_);refine⟨omY,⟨λe=>by omega,λe=>by rw[e i omY]at h;cases h⟩,c.trans ⟨λ⟨j,h1,h2⟩=>⟨j,omY,h2⟩,λ⟨j,h1,h2⟩=>⟨j,?_,h2⟩⟩⟩;have:j≠i:=λe=>by rw[e,h]at h2;cases h2
      omega
abbrev Q57(C:Line×Sl ax->ae (Sl Int)):Prop:=∀s (g:Sl ax),Az s->g.len<=1000->(∀i,i<g.len->gJ (g.get i))->C (gu s,g)=.ok (xg s g g.len)
theorem s57{E:E57}(N:Big E.N)(zCY:zzL E.c116):Q57 (F57 E):=λs g S hl G=>ae.ext λk=>by
 rw[e57,aX];refine jO (X:=λn i=>Wj E n (gu s) g (i:Int) (xg s g i) k) (m:=g.len) (λn i hi=>?_) (λn=>?_) _ (by have:=N;omega);rw [zuz,dM omY,dS,bn omY,gy,zCY s _ S (G i hi),aX,bF omY,jG (by have:=(Nw s g i).1;omega) omY];simp only[xg];cases iK s (g.get i)<;>rfl;rw[zuz,dR omY];rfl
def eL:Sl Line:=⟨0,λ_=>⟨⟨0,0⟩,⟨0,0⟩⟩⟩
def AX(v:Sl Line)(l:List straight):Sl Line:=(l.map gu).foldl rE v
theorem vH(v:Sl Line)(l:List straight):(AX v l).len=v.len+l.length:=by unfold AX;rw[uo,qdO]
theorem yY(v:Sl Line)(a b:List straight):AX v (a++b)=AX (AX v a) b:=by unfold AX;rw[Ud,qj1]
def IB(g:Sl ax):Sl Line:=AX eL (cst g)
theorem zrP(g:Sl ax):(IB g).len=(cst g).length:=by unfold IB;rw[vH];show 0+_=_;omega
theorem Tt(g:Sl ax){i:Nat}(h:i<(cst g).length):(IB g).get i=gu (cst g)[i]:=by
 have:=AA ((cst g).map gu) eL i (gu (cst g)[i]) (by rw[dq4,Ae h];rfl);rw[show(eL:Sl Line).len+i=i by show 0+i=i;omega]at this;exact this
abbrev zzY(C:Sl ax->ae (Sl Line)):Prop:=∀g,bU g->C g=.ok (IB g)
theorem zUv{E:WL}(N:Big E.N)(zq0:zzM E.zlK)(h55:Q55 E.c55):zzY (zqZ E):=λg G=>ae.ext λk=>by
 have hg:=G.2;have hN:=N;have inn:∀n0 n1 (i j:Nat) (w:Sl Line),i<g.len->j<g.len->w.len<=100000->F9 E n0 n1 E.N g (i:Int) (j:Int) 0 w k=F8 E n0 n1 g (i:Int) ((j+1:Nat):Int) (AX w (BI (g.get i) (g.get j))) k:=by
  intro n0 n1 i j w hi hj hw;have gi:=G.1 i hi;have gj:=G.1 j hj;obtain⟨n,hn⟩:∃n,E.N=n+1+1+1+1+1:=⟨E.N-5,omY⟩
  have st:∀n (v:Int) (w:Sl Line) (p q:Int),(0<=v/\v<4)->w.len<=200000->(g.get i).Z≠(g.get j).Z->p=cond (aO (v.tdiv 2)==0) (g.get i).Low (g.get i).High->q=cond (v.tmod 2==0) (g.get j).Low (g.get j).High->(-1000000<=p/\p<=1000000)->(-1000000<=q/\q<=1000000) ->
    F9 E n0 n1 (n+1) g (i:Int) (j:Int) v w k=F9 E n0 n1 n g (i:Int) (j:Int) (v+1) (AX w [EP (g.get i).Z p (g.get j).Z q]) k:=by
   intro n v w p q hv hw hz hp hq hpb hqb;rw[Z8,dM (show v<4 by omega),dS];simp only[bn (show 0<=(i:Int)/\(i:Int)<(g.len:Int)by omega),bn (show 0<=(j:Int)/\(j:Int)<(g.len:Int)by omega)];rw[gy,gy,show((g.get i).Z != (g.get j).Z)=true by simpa using hz,dS,zq0,aX,zq0,aX,<- hp,<- hq,h55 _ _ _ _ gi.1 gj.1 hpb hqb hz,aX,jG omY omY,aZ omY omY];rfl
  unfold BI;rw[hn];by_cases hz:(g.get i).Z=(g.get j).Z;rw [eX hz,Z8,dM omY,dS,bn omY,bn omY,gy,gy,show((g.get i).Z != (g.get j).Z)=false by simpa using hz,dF,bF omY];rfl;rw [fF hz]
  rw[st _ 0 w (g.get i).Low (g.get j).Low omY omY hz rfl rfl (qc gi) (qc gj),
   st _ (0+1) _ (g.get i).Low (g.get j).High omY (by rw[vH];simp only[EN,Uu];omega) hz rfl rfl (qc gi) (rC gj),<- yY,
   st _ (0+1+1) _ (g.get i).High (g.get j).Low omY (by rw[vH];simp only[N7,EN,Uu];omega) hz rfl rfl (rC gi) (qc gj),<- yY,
   st _ (0+1+1+1) _ (g.get i).High (g.get j).High omY (by rw[vH];simp only[N7,EN,Uu];omega) hz rfl rfl (rC gi) (rC gj),<- yY,Z8,dR omY,dF,bF omY]
  rfl
 have mid:∀n0 (i:Nat),i<g.len->∀(m j n1:Nat)(w:Sl Line),j+m=g.len->m<n1->w.len+4*m<=100000->F8 E n0 n1 g (i:Int) (j:Int) w k=MX E n0 g ((i+1:Nat):Int) (AX w (Ei g i m j)) k:=by
  intro n0 i hi m
  induction m with
  | zero =>
   intro j n1 w hj hn hw;obtain⟨n1,rfl⟩:∃n',n1=n'+1:=⟨n1-1,omY⟩;rw[zjP,dR omY,dF,bF omY];rfl
  | succ m ih =>
   intro j n1 w hj hn hw;obtain⟨n1,rfl⟩:∃n',n1=n'+1:=⟨n1-1,omY⟩;have:=W9 (g.get i) (g.get j);rw[zjP,dM omY,dS,inn n0 n1 i j w hi omY omY,ih (j+1) n1 _ omY omY (by rw[vH];omega),<- yY];rfl
 have out:∀(m i n:Nat)(w:Sl Line),i+m=g.len->m<n->w.len+96*m<=10000->MX E n g (i:Int) w k=k (AX w (Ov g m i)):=by
  intro m
  induction m with
  | zero =>
   intro i n w hi hn hw;obtain⟨n,rfl⟩:∃n',n=n'+1:=⟨n-1,omY⟩;rw[zjO,dR omY];rfl
  | succ m ih =>
   intro i n w hi hn hw;obtain⟨n,rfl⟩:∃n',n=n'+1:=⟨n-1,omY⟩;have:=Xa g i (g.len-(i+1)) (i+1);rw[zjO,dM omY,dS,bF omY,mid n i omY (g.len-(i+1)) (i+1) E.N w omY omY omY,ih (i+1) n _ omY omY (by rw[vH];omega),<- yY];rfl
 rw[zTq,aX];exact out g.len 0 E.N eL omY omY (by show 0+_<=_;omega)
abbrev zzZ(C:Line×Sl ax->ae Bool):Prop:=∀s g,Az s->bU g->∃b,C (gu s,g)=.ok b
theorem zUw{E:zeQ}(N:Big E.N)(ZJ:zrI E.TS):zzZ (zrl E):=λs g S G=>by
 have hg:=G.2;exact⟨_,ae.ext λk=>by
  rw[e248,aX];refine(loopA (L:=λn v=>SS E n (gu s) g v k) (p:=λi=>!(plN (gu s) (g.get i).Z==aO ((g.get i).Low*Yk (gu s)))) (m:=g.len) (fin:=k false) (stop:=k true) omY (λn i hi=>?_) (λn=>?_) _ (by have:=N;omega)).trans (kc k _ _ _);have gi:=G.1 i hi;rw[zj0,dM omY,dS,bn omY,gy,ZJ s _ S (by have:=gi.1;omega),aX,bn omY];show cond (plN (gu s) (g.get i).Z==aO ((g.get i).Low*Yk (gu s))) _ _=_;cases plN (gu s) (g.get i).Z==aO ((g.get i).Low*Yk (gu s))<;>rfl;rw[zj0,dR omY];rfl⟩
def leB(a b:aP):Bool:=decide (aO (a.Num*b.bV)<aO (b.Num*a.bV))
abbrev Q56(C:aP×aP->ae Bool):Prop:=∀a b,C (a,b)=.ok (leB a b)
theorem s56{E:E56}:Q56 (F56 E):=λa b=>ae.ext λk=>by rw[e56,aX];rfl
abbrev zz0(C:Line×Line×Sl ax->ae Bool):Prop:=∀s t g,Az s->Az t->bU g->∃b,C (gu s,gu t,g)=.ok b
theorem zUx{E:zq1}(zq3:zzZ E.zaG)(h56:Q56 E.c56):zz0 (zq2 E):=λs t g S T G=>by
 obtain⟨a,ha⟩:=zq3 s g S G;obtain⟨b,hb⟩:=zq3 t g T G;exact⟨cond (a != b) a (cond a (leB (gu s).dX (gu t).dX) (leB (gu t).dX (gu s).dX)),ae.ext λk=>by
  rw[e226,ha,hb,aX,aX,aX,aX,h56,h56,aX,aX,kc k,kc k,aX]⟩
def LnS(g:Sl ax)(v:Sl Line):Prop:=∀i,i<v.len->∃s,s∈cst g/\v.get i=gu s
abbrev zrQ(C:Sl ax->ae (Sl Line)):Prop:=∀g,bU g->∃L:Sl Line,C g=.ok L/\(0<L.len↔∃s∈cst g,zV g s)/\L.len<=2304/\LnS g L
theorem zUy{E:SK}(N:Big E.N)(zy3:zzY E.zsX)(h57:Q57 E.c57)(zy4:zz0 E.c226):zrQ (zqA E):=λg G=>by
 have hg:=G.2;have hN:=N;have hc:=SV G;have hcd:=zrP g;have pos:∀n0 (i:Nat),i<(cst g).length->∀(v:Sl Line),LnS g v->v.len<=2304->∃a,a<=v.len/\∀(A:Type)(k:Sl Line->Option A),yQ E n0 E.N g v (IB g) (i:Int) 0 k=wP E n0 g v (IB g) (i:Int) (a:Int) k:=by
  intro n0 i hi v hv hl;have key:∀(m j n1:Nat),j+m=v.len->m<n1->∃a,a<=v.len/\∀(A:Type)(k:Sl Line->Option A),yQ E n0 n1 g v (IB g) (i:Int) (j:Int) k=wP E n0 g v (IB g) (i:Int) (a:Int) k:=by
   intro m
   induction m with
   | zero =>
    intro j n1 hj hn;obtain⟨n1,rfl⟩:∃n',n1=n'+1:=⟨n1-1,omY⟩;exact⟨j,omY,λA k=>by rw[zjz,dR omY];rfl⟩
   | succ m ih =>
    intro j n1 hj hn;obtain⟨n1,rfl⟩:∃n',n1=n'+1:=⟨n1-1,omY⟩;obtain⟨s,hs,es⟩:=hv j omY;obtain⟨b,hb⟩:=zy4 s (cst g)[i] g (rD G hs) (rD G (qde hi)) G;have st:∀(A:Type)(k:Sl Line->Option A),yQ E n0 (n1+1) g v (IB g) (i:Int) (j:Int) k=cond b (yQ E n0 n1 g v (IB g) (i:Int) ((j+1:Nat):Int) k) (wP E n0 g v (IB g) (i:Int) (j:Int) k):=λA k=>by
     rw[zjz,dM omY,dS,bn omY,bn omY,gy,gy,es,Tt g hi,hb,aX,bF omY]
    cases b with
    | true =>
     obtain⟨a,h1,h2⟩:=ih (j+1) n1 omY omY;exact⟨a,h1,λA k=>by rw[st];exact h2 A k⟩
    | false=>exact⟨j,omY,λA k=>by rw[st];rfl⟩
  exact key v.len 0 E.N omY omY
 have key:∀(m i n:Nat)(v:Sl Line),i+m=(cst g).length->m<n->LnS g v->v.len<=i->∃L:Sl Line,(∀(A:Type)(k:Sl Line->Option A),pG E n g v (IB g) (i:Int) k=k L)/\(0<L.len↔0<v.len\/∃j,∃h:j<(cst g).length,i<=j/\zV g (cst g)[j])/\L.len<=(cst g).length/\LnS g L:=by
  intro m
  induction m with
  | zero =>
   intro i n v hi hn hv hl;obtain⟨n,rfl⟩:∃n',n=n'+1:=⟨n-1,omY⟩;exact⟨v,λA k=>by rw[zjy,dR omY];rfl,⟨.inl,λh=>h.elim id λ⟨j,h1,h2,_⟩=>by omega⟩,omY,hv⟩
  | succ m ih =>
   intro i n v hi hn hv hl;obtain⟨n,rfl⟩:∃n',n=n'+1:=⟨n-1,omY⟩;have kX:i<(cst g).length:=by omega
   have S:=rD G (qde kX);have pl:=Nw (cst g)[i] g g.len;have st:∀(A:Type)(k:Sl Line->Option A),pG E (n+1) g v (IB g) (i:Int) k=cond (decide (((xg (cst g)[i] g g.len).len:Int)<(g.len:Int))) (pG E n g v (IB g) ((i+1:Nat):Int) k) (yQ E n E.N g v (IB g) (i:Int) 0 k):=λA k=>by
    rw[zjy,dM omY,dS,bn omY,gy,Tt g kX,h57 _ g S omY G.1,aX,bF omY]
   by_cases ha:zV g (cst g)[i];have e:(xg (cst g)[i] g g.len).len=g.len:=pl.2.1.2 ha;obtain⟨a,a1,a2⟩:=pos n i kX v hv omY;have st2:∀(A:Type)(k:Sl Line->Option A),pG E (n+1) g v (IB g) (i:Int) k=wP E n g v (IB g) (i:Int) (a:Int) k:=λA k=>by rw[st,dR omY,dF,a2]
   have ins:∃v':Sl Line,(∀(A:Type)(k:Sl Line->Option A),MR E n g v (IB g) (i:Int) (a:Int) k=pG E n g v' (IB g) ((i+1:Nat):Int) k)/\v'.len=v.len+1/\LnS g v':=by
    refine⟨_,λA k=>by
     rw[zy2,bn omY,jG omY omY,bn omY,jG omY omY,bn omY,jG omY omY,bF omY],?_,?_⟩
    show((((a:Int)-0).toNat+1)+((v.len:Int)-(a:Int)).toNat)=_;omega;intro q hq;have hq:q<((((a:Int)-0).toNat+1)+((v.len:Int)-(a:Int)).toNat):=hq;show ∃s,s∈cst g/\jY (((a:Int)-0).toNat+1) (jY ((a:Int)-0).toNat (Ar v.get 0) (λ_=>(IB g).get (i:Int).toNat)) (Ar v.get (a:Int).toNat) q=gu s;rw[jA];split;exact hv (q-(((a:Int)-0).toNat+1)+(a:Int).toNat) omY;rw [jA];split;rw[gy,Tt g kX];exact⟨_,qde kX,rfl⟩;exact hv (q+0) omY
   obtain⟨v',i1,i2,i3⟩:=ins;have fin:∃v'':Sl Line,(∀(A:Type)(k:Sl Line->Option A),wP E n g v (IB g) (i:Int) (a:Int) k=pG E n g v'' (IB g) ((i+1:Nat):Int) k)/\0<v''.len/\v''.len<=i+1/\LnS g v'':=by
    by_cases h1:(a:Int)<(v.len:Int)
    ·have e3:∃B:Bool,∀(A:Type)(k:Sl Line->Option A),wP E n g v (IB g) (i:Int) (a:Int) k=cond B (pG E n g v (IB g) ((i+1:Nat):Int) k) (MR E n g v (IB g) (i:Int) (a:Int) k):=⟨_,λA k=>by
      rw[zjA,dM h1,dS,bn omY,bn omY,bF omY]⟩
     obtain⟨B,e3⟩:=e3;cases B with|true=>exact⟨v,λA k=>by rw[e3];rfl,omY,omY,hv⟩|false=>exact⟨v',λA k=>by rw[e3];exact i1 A k,omY,omY,i3⟩
    exact⟨v',λA k=>by rw[zjA,dR h1];exact i1 A k,omY,omY,i3⟩
   obtain⟨v'',f1,f2,f3,f4⟩:=fin;obtain⟨L,l1,l2,l3,l4⟩:=ih (i+1) n v'' omY omY f4 f3;exact⟨L,λA k=>by rw[st2,f1,l1],l2.trans ⟨λ_=>.inr ⟨i,kX,kw _,ha⟩,λ_=>.inl f2⟩,l3,l4⟩;have e:(xg (cst g)[i] g g.len).len<g.len:=by
    rcases qdX (xg (cst g)[i] g g.len).len g.len with h|h
    exact h;exact absurd (pl.2.1.1 omY) ha
   obtain⟨L,l1,l2,l3,l4⟩:=ih (i+1) n v omY omY hv omY;refine⟨L,λA k=>by rw[st,dM omY,dS,l1],l2.trans ⟨λh=>h.imp id λ⟨j,h1,h2,h3⟩=>⟨j,h1,omY,h3⟩,λh=>h.imp id λ⟨j,h1,h2,h3⟩=>⟨j,h1,?_,h3⟩⟩,l3,l4⟩;have:j≠i:=λe=>ha (by subst e;exact h3);omega
 obtain⟨L,l1,l2,l3,l4⟩:=key (cst g).length 0 E.N eL omY omY (λi hi=>absurd hi (Ut i)) (kw _);refine⟨L,ae.ext λk=>by rw[zS4,zy3 g G,aX,aX];exact l1 _ k,l2.trans ⟨λh=>?_,λ⟨s,hs,ha⟩=>?_⟩,omY,l4⟩;rcases h with h|⟨j,h1,_,h3⟩
 exact absurd h (jqr 0);exact⟨_,qde h1,h3⟩;obtain⟨j,h1,rfl⟩:=qdT hs;exact .inr ⟨j,h1,AP _,ha⟩
theorem zF{g:Sl ax}(G:bU g)(hf:fV g=false):fD g=true↔∃s∈cst g,zV g s:=by
 unfold fD;rw[hf,dF,oW];obtain⟨c1,c2,_⟩:=zac hf;constructor;intro h;obtain⟨a,b⟩:=c1 _ (qde (l:=jC g) (n:=0) omY);exact⟨_,a,(Nk G (rD G a)).1 b⟩;rintro⟨s,hs,ha⟩;obtain⟨x,hx,_⟩:=c2 s hs ((Nk G (rD G hs)).2 ha);have:=jqv hx;omega
abbrev zz1(C:Sl ax->ae Bool):Prop:=∀g,bU g->C g=.ok (fD g)
theorem zUz{E:zpD}(Iy:zkq E.EE)(ZQ:zrH E.c193)(ZR:zrQ E.c194):zz1 (zpE E):=λg G=>ae.ext λk=>by
 have hg:=G.2;rw[zR8,Iy g omY omY,aX,aX];cases hf:fV g with
 | true =>
  rw[dS,ZQ g omY omY,aX];unfold fD;rw[hf];rfl
 | false =>
  obtain⟨L,l1,l2,_⟩:=ZR g G;rw[dF,l1,aX];congr 1;rw[Yh,zF G hf,<- l2,oW];omega
def Oz(z:Int):Prop:=-100000<=z/\z<=200000
abbrev zz2(C:straight×Int->ae aP):Prop:=∀s z,Az s->Oz z->C (s,z)=.ok (plF z s)
theorem zUA{E:zqL}:zz2 (zqM E):=λs z S hz=>ae.ext λk=>by
 rw[e203,aX,(zcm S (z:=z) ⟨by have:=hz.1;omega,hz.2⟩).1];rfl
abbrev zz3(C:straight×Pt Int->ae aP):Prop:=∀s (z:Pt Int),Az s->Oz z.v->C (s,z)=.ok (plF z.v s)
theorem zUB{E:zqJ}(zy9:zz2 E.c203):zz3 (zqK E):=λs z S hz=>ae.ext λk=>by rw[zTf,zy9 _ _ S hz]
theorem zal{s:straight}(S:Az s){z:Int}(hz:Oz z):(-600000000000<=(plF z s).Num/\(plF z s).Num<=600000000000)/\0<(plF z s).bV/\(plF z s).bV<=100000:=by
 have:=(zcm S (z:=z) ⟨by have:=hz.1;omega,hz.2⟩).2;have:=S.2.2;exact⟨‹_›,by show 0<s.den;omega,by show s.den<=_;omega⟩
def Xm(f:aP):Prop:=(-600000000000<=f.Num/\f.Num<=600000000000)/\0<f.bV/\f.bV<=100000
theorem zcG{a b:aP}(h1:Xm a)(h2:Xm b):aO (a.Num*b.bV)=a.Num*b.bV:=by
 have:=qp h1.1.1 h1.1.2 (xQ h2.2.1) h2.2.2;exact aZ omY omY
abbrev zz4(C:aP×aP->ae Bool):Prop:=∀a b,Xm a->Xm b->C (a,b)=.ok (ltB a b)
theorem zUC{E:zp7}(MP:zkk E.EF):zz4 (zp8 E):=λa b h1 h2=>ae.ext λk=>by rw[e169,MP _ _ (zcG h1 h2) (zcG h2 h1),aX,aX];rfl
abbrev zz5(C:aP×aP->ae Bool):Prop:=∀a b,Xm a->Xm b->C (a,b)=.ok (gtB a b)
theorem zUD{E:zqb}(MP:zkk E.EF):zz5 (zqc E):=λa b h1 h2=>ae.ext λk=>by rw[zSE,MP _ _ (zcG h1 h2) (zcG h2 h1),aX,aX];rfl
abbrev zz6:=dY 169 Unit Unit ⊕ dY 171 Unit Unit
def mP:zz6→aP→aP→Bool|.inl _=>ltB|.inr _=>gtB
abbrev QEx{γ:Type}(i:γ->zz6)(C:Sl aP×γ->ae aP):Prop:=∀(l:Sl aP)(c:γ),0<l.len->l.len<=10000->(∀i,i<l.len->Xm (l.get i))->C (l,c)=.ok (rV (mP (i c)) l.get l.len)
abbrev zrR(C:Sl aP×zz6->ae aP):Prop:=QEx id C
theorem Xn{lt:aP->aP->Bool}{f:Nat->aP}:rV lt f 1=f 0:=by simp only[rV];cases lt (f 0) (f 0)<;>rfl
theorem Xo{lt:aP->aP->Bool}{f:Nat->aP}{n:Nat}:rV lt f (n+1)=cond (lt (f n) (rV lt f n)) (f n) (rV lt f n):=rfl
theorem Eu{lt:aP→aP→Bool}{f:Nat→aP}:∀n,∃i,i<n+1∧rV lt f (n+1)=f i
  | 0=>⟨0,omY,Xn⟩
  | n+1=>by
    obtain⟨i,hi,e⟩:=Eu (lt:=lt) (f:=f) n;rw[Xo];cases lt (f (n+1)) (rV lt f (n+1))with|true=>exact⟨n+1,omY,rfl⟩|false=>exact⟨i,omY,e⟩
theorem zkA{E:uY}(N:Big E.N)(zyV:zz4 E.zsJ):QEx .inl (DU E):=λl c h0 hl hp=>ae.ext λk=>by
 rw[zji,aX,bn omY,bn omY,<- Xn (lt:=mP (.inl c)) (f:=l.get)];have hm:(((l.len:Int)-1).toNat:Int)=((l.len-1:Nat):Int):=by omega
 refine(jO (X:=λn i=>nV E n l (i:Int) (rV (mP (.inl c)) l.get (i+1)) k) (m:=l.len-1) (fin:=k (rV (mP (.inl c)) l.get l.len)) (λn i hi=>?_) (λn=>?_) E.N (by have:=N;omega));obtain⟨j,hj,e⟩:=Eu (lt:=mP (.inl c)) (f:=l.get) i;have hq:Xm (rV (mP (.inl c)) l.get (i+1)):=by rw[e];exact hp j omY
 rw[MN,hm,dM omY,dS,bn omY,gy,show Ar l.get 1 i=l.get (i+1)from rfl,zyV _ _ (hp (i+1) omY) hq,aX,bF omY,Xo (n:=i+1)];show cond (ltB (l.get (i+1)) (rV (mP (.inl c)) l.get (i+1))) _ _=nV E n l _ (cond (ltB (l.get (i+1)) (rV (mP (.inl c)) l.get (i+1))) _ _) k;cases ltB (l.get (i+1)) (rV (mP (.inl c)) l.get (i+1))<;>rfl;rw[MN,hm,dR omY,show l.len-1+1=l.len by omega];rfl
theorem zkB{E:uZ}(N:Big E.N)(zyW:zz5 E.c171):QEx .inr (DW E):=λl c h0 hl hp=>ae.ext λk=>by
 rw[zjk,aX,bn omY,bn omY,<- Xn (lt:=mP (.inr c)) (f:=l.get)];have hm:(((l.len:Int)-1).toNat:Int)=((l.len-1:Nat):Int):=by omega
 refine(jO (X:=λn i=>nX E n l (i:Int) (rV (mP (.inr c)) l.get (i+1)) k) (m:=l.len-1) (fin:=k (rV (mP (.inr c)) l.get l.len)) (λn i hi=>?_) (λn=>?_) E.N (by have:=N;omega));obtain⟨j,hj,e⟩:=Eu (lt:=mP (.inr c)) (f:=l.get) i;have hq:Xm (rV (mP (.inr c)) l.get (i+1)):=by rw[e];exact hp j omY
 rw[MO,hm,dM omY,dS,bn omY,gy,show Ar l.get 1 i=l.get (i+1)from rfl,zyW _ _ (hp (i+1) omY) hq,aX,bF omY,Xo (n:=i+1)];show cond (gtB (l.get (i+1)) (rV (mP (.inr c)) l.get (i+1))) _ _=nX E n l _ (cond (gtB (l.get (i+1)) (rV (mP (.inr c)) l.get (i+1))) _ _) k;cases gtB (l.get (i+1)) (rV (mP (.inr c)) l.get (i+1))<;>rfl;rw[MO,hm,dR omY,show l.len-1+1=l.len by omega];rfl
theorem zUE{f:Sl aP×dY 169 Unit Unit->ae aP}{g:Sl aP×dY 171 Unit Unit->ae aP}(a:QEx .inl f)(b:QEx .inr g):zrR (ae.two f g):=λl c h0 hl hp=>by
 rcases c with c|c
 exact a l c h0 hl hp;exact b l c h0 hl hp
abbrev zz8(C:straight->ae aP):Prop:=∀s,C s=.ok (zHA s)
theorem zUF{E:zph}:zz8 (zpi E):=λs=>ae.ext λk=>by rw[e120,aX];rfl
abbrev zeV:=dY 202 Unit (Pt Int) ⊕ dY 120 Unit Unit
def iM:zeV→straight→aP|.inl c=>plF c.v.v|.inr _=>zHA
def okB:zeV→Prop|.inl c=>Oz c.v.v|.inr _=>True
theorem Tu{g:Sl ax}(G:bU g){c:zeV}(hc:okB c){s:straight}(h:BJ g s):Xm (iM c s):=by
 have S:=yS G h;rcases c with c|c
 exact zal S hc;have:=S.1;have:=S.2.2;exact⟨by show -600000000000<=s.bD/\s.bD<=600000000000;omega,by show 0<s.den;omega,by show s.den<=100000;omega⟩
def xU(g:Sl ax)(F:straight→aP):Nat→Sl aP|0=>⟨0,λ_=>⟨0,0⟩⟩|i+1=>rE (xU g F i) (F ((iU g).cZ.get i))
theorem iL(g:Sl ax)(F:straight→aP):∀n,(xU g F n).len=n|0=>rfl|n+1=>by show(xU g F n).len+1=n+1;rw[iL g F n]
theorem xh(g:Sl ax)(F:straight→aP):∀n i,i<n→(xU g F n).get i=F ((iU g).cZ.get i)
  | n+1,i,h=>by
    show jY (xU g F n).len (xU g F n).get (λ_=>F ((iU g).cZ.get n)) i=_;rw[jA,iL];by_cases e:i=n;rw[eX omY,e];rw[fF omY,xh g F n i omY]
theorem vI{lt:aP→aP→Bool}{f g:Nat→aP}:∀n,(∀i,i<n+1→f i=g i)→rV lt f (n+1)=rV lt g (n+1)|0,h=>by rw[Xn,Xn,h 0 omY]|n+1,h=>by rw[Xo,Xo (f:=g) (n:=n+1),vI n λi hi=>h i omY,h (n+1) omY]
theorem zuN{g:Sl ax}(G:bU g){c:zeV}(hc:okB c)(h0:0<(jC g).length):Xm (loG g (iM c))/\Xm (hiG g (iM c)):=by
 obtain⟨n,hn⟩:∃n,(jC g).length=n+1:=⟨(jC g).length-1,omY⟩;have pok:∀i,i<n+1->Xm (iM c ((iU g).cZ.get i)):=λi hi=>Tu G hc (yV G omY);unfold loG hiG;rw[hn];obtain⟨i,i2,i3⟩:=Eu (lt:=ltB) (f:=λi=>iM c ((iU g).cZ.get i)) n;obtain⟨j,j2,j3⟩:=Eu (lt:=gtB) (f:=λi=>iM c ((iU g).cZ.get i)) n;exact⟨by rw[i3];exact pok i i2,by rw[j3];exact pok j j2⟩
abbrev QBd{γ:Type}(i:γ->zeV)(C:set×γ->ae (aP×aP)):Prop:=∀g (c:γ),bU g->okB (i c)->0<(jC g).length->C (iU g,c)=.ok (red (loG g (iM (i c))).Num (loG g (iM (i c))).bV,red (hiG g (iM (i c))).Num (hiG g (iM (i c))).bV)
abbrev zAa(C:set×zeV->ae (aP×aP)):Prop:=QBd id C
theorem zkC{E:uT}(N:Big E.N)(zyD:zz3 E.zsQ)(Sz:zrR E.c168)(qo:IA E.kE):QBd .inl (DL E):=λg c G hz h0=>ae.ext λk=>by
 have hl:=Jh G;have hs:=Ej g;have pok:∀i,i<(jC g).length->Xm (iM (.inl c) ((iU g).cZ.get i)):=λi hi=>Tu G hz (yV G hi);obtain⟨pl,ph⟩:=zuN G hz h0;rw[zi3,aX];refine jO (X:=λn i=>wM E n (iU g) c (i:Int) (xU g (iM (.inl c)) i) k) (m:=(jC g).length) (λn i hi=>?_) (λm=>?_) _ (by have:=N;omega);rw[MH,hs,dM omY,dS,bn omY,gy,zyD _ _ (yS G (yV G hi)) hz,aX,jG (by rw[iL];omega) omY,bF omY];rfl;obtain⟨n,hn⟩:∃n,(jC g).length=n+1:=⟨(jC g).length-1,by omega⟩;have hp:∀i,i<(xU g (iM (.inl c)) (jC g).length).len->Xm ((xU g (iM (.inl c)) (jC g).length).get i):=λi hi=>by
  rw[iL]at hi;rw[xh _ _ _ _ hi];exact pok i hi
 rw[MH,hs,dR omY,dF,Sz _ _ (by rw[iL];omega) (by rw[iL];omega) hp,aX,Sz _ _ (by rw[iL];omega) (by rw[iL];omega) hp,aX];have e1:rV (mP (.inl ⟨(),()⟩)) (xU g (iM (.inl c)) (jC g).length).get (xU g (iM (.inl c)) (jC g).length).len=loG g (iM (.inl c)):=by
  rw[iL];unfold loG;rw[hn];exact vI n λi hi=>xh _ _ _ _ hi
 have e2:rV (mP (.inr ⟨(),()⟩)) (xU g (iM (.inl c)) (jC g).length).get (xU g (iM (.inl c)) (jC g).length).len=hiG g (iM (.inl c)):=by
  rw[iL];unfold hiG;rw[hn];exact vI n λi hi=>xh _ _ _ _ hi
 show(E.kE ((rV (mP (.inl ⟨(),()⟩)) (xU g (iM (.inl c)) (jC g).length).get (xU g (iM (.inl c)) (jC g).length).len).Num,(rV (mP (.inl ⟨(),()⟩)) (xU g (iM (.inl c)) (jC g).length).get (xU g (iM (.inl c)) (jC g).length).len).bV)).T (λr4=>(E.kE ((rV (mP (.inr ⟨(),()⟩)) (xU g (iM (.inl c)) (jC g).length).get (xU g (iM (.inl c)) (jC g).length).len).Num,(rV (mP (.inr ⟨(),()⟩)) (xU g (iM (.inl c)) (jC g).length).get (xU g (iM (.inl c)) (jC g).length).len).bV)).T λr5=>k (r4,r5))=_;rw[e1,e2,qo _ _ (by have:=pl.1;omega) (by have:=pl.1;omega) pl.2.1 (by have:=pl.2.2;omega),aX,qo _ _ (by have:=ph.1;omega) (by have:=ph.1;omega) ph.2.1 (by have:=ph.2.2;omega),aX]
theorem zkD{E:uU}(N:Big E.N)(zyE:zz8 E.zsz)(Sz:zrR E.c168)(qo:IA E.kE):QBd .inr (DN E):=λg c G hz h0=>ae.ext λk=>by
 have hl:=Jh G;have hs:=Ej g;have pok:∀i,i<(jC g).length->Xm (iM (.inr c) ((iU g).cZ.get i)):=λi hi=>Tu G hz (yV G hi);obtain⟨pl,ph⟩:=zuN G hz h0;rw[zi5,aX];refine jO (X:=λn i=>wO E n (iU g) (i:Int) (xU g (iM (.inr c)) i) k) (m:=(jC g).length) (λn i hi=>?_) (λm=>?_) _ (by have:=N;omega);rw[MI,hs,dM omY,dS,bn omY,gy,zyE,aX,jG (by rw[iL];omega) omY,bF omY];rfl;obtain⟨n,hn⟩:∃n,(jC g).length=n+1:=⟨(jC g).length-1,by omega⟩;have hp:∀i,i<(xU g (iM (.inr c)) (jC g).length).len->Xm ((xU g (iM (.inr c)) (jC g).length).get i):=λi hi=>by
  rw[iL]at hi;rw[xh _ _ _ _ hi];exact pok i hi
 rw[MI,hs,dR omY,dF,Sz _ _ (by rw[iL];omega) (by rw[iL];omega) hp,aX,Sz _ _ (by rw[iL];omega) (by rw[iL];omega) hp,aX];have e1:rV (mP (.inl ⟨(),()⟩)) (xU g (iM (.inr c)) (jC g).length).get (xU g (iM (.inr c)) (jC g).length).len=loG g (iM (.inr c)):=by
  rw[iL];unfold loG;rw[hn];exact vI n λi hi=>xh _ _ _ _ hi
 have e2:rV (mP (.inr ⟨(),()⟩)) (xU g (iM (.inr c)) (jC g).length).get (xU g (iM (.inr c)) (jC g).length).len=hiG g (iM (.inr c)):=by
  rw[iL];unfold hiG;rw[hn];exact vI n λi hi=>xh _ _ _ _ hi
 show(E.kE ((rV (mP (.inl ⟨(),()⟩)) (xU g (iM (.inr c)) (jC g).length).get (xU g (iM (.inr c)) (jC g).length).len).Num,(rV (mP (.inl ⟨(),()⟩)) (xU g (iM (.inr c)) (jC g).length).get (xU g (iM (.inr c)) (jC g).length).len).bV)).T (λr4=>(E.kE ((rV (mP (.inr ⟨(),()⟩)) (xU g (iM (.inr c)) (jC g).length).get (xU g (iM (.inr c)) (jC g).length).len).Num,(rV (mP (.inr ⟨(),()⟩)) (xU g (iM (.inr c)) (jC g).length).get (xU g (iM (.inr c)) (jC g).length).len).bV)).T λr5=>k (r4,r5))=_;rw[e1,e2,qo _ _ (by have:=pl.1;omega) (by have:=pl.1;omega) pl.2.1 (by have:=pl.2.2;omega),aX,qo _ _ (by have:=ph.1;omega) (by have:=ph.1;omega) ph.2.1 (by have:=ph.2.2;omega),aX]
theorem zUG{f:set×dY 202 Unit (Pt Int)->ae (aP×aP)}{g:set×dY 120 Unit Unit->ae (aP×aP)}(a:QBd .inl f)(b:QBd .inr g):zAa (ae.two f g):=λw c G hz h0=>by
 rcases c with c|c
 exact a w c G hz h0;exact b w c G hz h0
def nD(g:Sl ax)(z:Int):aP×aP:=cond (fV g) (red (eU g g.len).Low 1,red (eU g g.len).High 1) (red (loF g z).Num (loF g z).bV,red (hiF g z).Num (hiF g z).bV)
theorem Jl{g:Sl ax}(G:∀i,i<g.len→gJ (g.get i))(h0:0<g.len):∀n,n≤g.len→(-1000000≤(eU g n).Low∧(eU g n).Low≤1000000) ∧ -1000000≤(eU g n).High∧(eU g n).High≤1000000
  | 0,_=>⟨qc (G 0 h0),rC (G 0 h0)⟩
  | n+1,h=>by
    obtain⟨a,b⟩:=Jl G h0 n omY;have c:=qc (G n omY);have d:=rC (G n omY);simp only[eU];constructor;split<;>assumption;split<;>assumption
abbrev zAb(C:set×Int->ae (aP×aP)):Prop:=∀g z,bU g->Oz z->(fV g=false->0<(jC g).length)->C (iU g,z)=.ok (nD g z)
theorem zUH{E:zp1}(wL:zab E.c167)(ZX:zry E.TV)(qo:IA E.kE)(zC6:zAa E.c119):zAb (zp2 E):=λg z G hz hc=>ae.ext λk=>by
 have hg:=G.2;rw[zSy,wL (iU g).list (by show 0<g.len;omega) (by show g.len<=1000;omega),aX,aX];show cond (fV g) _ _=_;unfold nD;cases hf:fV g with
 | true =>
  obtain⟨a,b⟩:=Jl G.1 omY g.len (kw _);rw[dS,ZX _ (by show 0<g.len;omega) (by show g.len<=1000;omega),aX];show(E.kE ((eU g g.len).Low,1)).T (λr3=>(E.kE ((eU g g.len).High,1)).T λr4=>k (r3,r4))=_;rw[qo _ _ omY omY omY omY,aX,qo _ _ omY omY omY omY,aX];rfl
 | false=>rw[dF,zC6 g (.inl ⟨(),⟨z⟩⟩) G hz (hc hf),aX];rfl
abbrev zrS(C:Sl ax×Int->ae (aP×aP×Int)):Prop:=∀g z,bU g->Oz z->C (g,z)=.ok (cond ((Hy g ((g.get 0).Z==z)).2 != 0) (⟨0,0⟩,⟨0,0⟩,(Hy g ((g.get 0).Z==z)).2) ((nD g z).1,(nD g z).2,0))
theorem zUI{E:zo9}(BD:BB E.c157)(ZG:zrB E.c117)(zyx:zAb E.zfO):zrS (zpa E):=λg z G hz=>ae.ext λk=>by
 have hg:=G.2;rw[zRH,BD,aX,aX,show inB z (-100000) 200000=true from dM hz,ZG g _ omY,aX];show cond ((Hy g ((g.get 0).Z==z)).2 != 0) (k (⟨0,0⟩,⟨0,0⟩,(Hy g ((g.get 0).Z==z)).2)) ((E.zfO ((Hy g ((g.get 0).Z==z)).1,z)).T λr3=>k (r3.1,r3.2,0))=_;unfold Hy;rw[nY.2 G];cases hs:fD g with
 | false=>rfl
 | true =>
  cases hf:fV g && !((g.get 0).Z==z)with
  | true=>rfl
  | false =>
   show(E.zfO (iU g,z)).T _=_;rw[zyx g z G hz λhf=>by unfold fD at hs;rw[hf,dF,oW]at hs;omega,aX];rfl
def zrT(p:ak)(h:bi):bZ:=cond (p.Kind==3) p.Clock ⟨aO (aO (h.Time-p.Clock.High)-p.dL),aO (aO (h.Time-p.Clock.Low)+p.dL)⟩
def jh(s:au)(h:bi):bZ:=zrT (s.aj.get h.ak.toNat) h
abbrev zAc(C:placed×bi->ae bZ):Prop:=∀q h,C (q,h)=.ok (zrT q.ak h)
theorem zUJ{E:zo7}:zAc (zo8 E):=λq h=>ae.ext λk=>by rw[zRF,aX,kc k];rfl
abbrev Q74(C:au×bi->ae bZ):Prop:=∀s h,kV s h=true->C (s,h)=.ok (jh s h)
theorem s74{E:E74}:Q74 (F74 E):=λs h hh=>ae.ext λk=>by rw[e74,aX,bn (Mc hh),kc k];rfl
def NW(s:au)(l:Sl bi):Sl ax:=⟨l.len,λi=>⟨0,(jh s (l.get i)).Low,(jh s (l.get i)).High⟩⟩
theorem Ny{g h:Sl ax}{m:Nat}(h0:0<m)(e:∀i,i<m→g.get i=h.get i):∀n,n≤m→eU g n=eU h n|0,_=>by simp only[eU,e 0 h0]|n+1,hn=>by simp only[eU,Ny h0 e n omY,e n omY]
abbrev zAd(C:au×Sl bi->ae (bZ×Bool)):Prop:=∀s (l:Sl bi),0<l.len->l.len<=1000->(∀i,i<l.len->kV s (l.get i)=true)->C (s,l)=.ok (eU (NW s l) l.len,decide ((eU (NW s l) l.len).Low<=(eU (NW s l) l.len).High))
theorem zUL{E:zeA}(N:Big E.N)(h74:Q74 E.c74):zAd (zpF E):=λs l h0 h1 hh=>ae.ext λk=>by
 have:=jO (X:=λn i=>SB E n s l ((i+1:Nat):Int) (eU (NW s l) (i+1)) k) (m:=l.len-1) (fin:=k (eU (NW s l) l.len,decide ((eU (NW s l) l.len).Low<=(eU (NW s l) l.len).High))) (λn i hi=>by
  rw[zjd,dM omY,dS,bn omY,gy,h74 _ _ (hh (i+1) omY),aX,bF omY];rfl) (λn=>by
  rw[zjd,show l.len-1+1=l.len by omega,dR omY];rfl) E.N (by have:=N;omega)
 rw[show(0+1:Nat)=1 from rfl,zah]at this;rw[zSa,bn omY,h74 _ _ (hh 0 h0),aX,aX];exact this
abbrev zAe(C:au×Sl bi->ae Int):Prop:=∀s (l:Sl bi),qX s->fE s=true->l.len<=1000->(∀i,i<l.len->kV s (l.get i)=true)->C (s,l)=.ok 0
theorem zUM{E:zex}(N:Big E.N)(Bz:QSe E.c160)(Ac:zet E.ut):zAe (zo6 E):=λs l hs hb hl hh=>ae.ext λk=>by
 rw[zRE,dR omY,dF,Bz s hs,aX,hb,aX];refine jO (X:=λn i=>Su E n s l (i:Int) k) (m:=l.len) (λn i hi=>?_) (λn=>?_) _ (by have:=N;omega);rw [ziY,dM omY,dS,bn omY,gy,Ac _ _ hs hb,aX,bF omY];show cond (!kV s (l.get i)) _ _=_;rw[hh i hi];rfl;rw[ziY,dR omY];rfl
def cmS(x:bZ):bZ×Int:=cond (decide (x.Low>x.High)) (⟨0,0⟩,5) (x,0)
abbrev Q50(C:au×Sl bi->ae (bZ×Int)):Prop:=∀s (l:Sl bi),qX s->fE s=true->0<l.len->l.len<=1000->(∀i,i<l.len->kV s (l.get i)=true)->C (s,l)=.ok (cmS (eU (NW s l) l.len))
theorem s50{E:E50}(N:Big E.N)(zyl:zAe E.zsx)(Ac:zet E.ut)(zo1:zAc E.zaE):Q50 (F50 E):=λs l hs hb h0 hl hh=>ae.ext λk=>by
 have hm:(((l.len:Int)-1).toNat:Int)=((l.len-1:Nat):Int):=by omega
 have tm:∀i,i<l.len->zrT (ofP s (l.get i)).ak (l.get i)=jh s (l.get i):=λi hi=>by rw[ziS (hh i hi)];rfl
 have:=jO (X:=λn i=>zb9 E n s l (i:Int) (eU (NW s l) (i+1)) k) (m:=l.len-1) (fin:=k (cmS (eU (NW s l) l.len))) (λn i hi=>by
  rw[zuu,hm,dM omY,dS,bn omY,gy];show(E.ut (s,l.get (i+1))).T _=_;rw[Ac _ _ hs hb,aX];show(E.zaE (ofP s (l.get (i+1)),l.get (i+1))).T _=_;rw[zo1,aX,tm (i+1) omY,bF omY];rfl) (λn=>by
  rw[zuu,hm,show l.len-1+1=l.len by omega,dR omY,dF,kc k];rfl) E.N (by have:=N;omega)
 rw[show(0+1:Nat)=1 from rfl,zah]at this;rw[e50,zyl s l hs hb hl hh,aX,show((0:Int) != 0)=false from rfl,dF,show((l.len:Int)==0)=false by rw[qdS];omega,dF,bn omY,Ac _ _ hs hb,aX,bn omY];show(E.zaE (ofP s (l.get 0),l.get 0)).T _=_;rw[zo1,aX,bn omY,tm 0 h0,aX];exact this
def Qj(l:Sl bi)(w:Sl Int):Nat→Sl bi|0=>⟨0,λ_=>⟨0,0,0,0,0,0⟩⟩|i+1=>rE (Qj l w i) (l.get (w.get i).toNat)
theorem oC(l:Sl bi)(w:Sl Int):∀n,(Qj l w n).len=n|0=>rfl|n+1=>by show(Qj l w n).len+1=n+1;rw[oC l w n]
theorem Tv(l:Sl bi)(w:Sl Int):∀n i,i<n→(Qj l w n).get i=l.get (w.get i).toNat
  | n+1,i,h=>by
    show jY (Qj l w n).len (Qj l w n).get (λ_=>l.get (w.get n).toNat) i=_;rw[jA,oC];by_cases e:i=n;rw[eX omY,e];rw[fF omY,Tv l w n i omY]
def InH(l:Sl bi)(w:Sl Int):Prop:=∀i,i<w.len->0<=w.get i/\w.get i<(l.len:Int)
theorem zkE{s:au}{l:Sl bi}(he:Evt s l){w:Sl Int}(h:InH l w):∀i,i<(Qj l w w.len).len->kV s ((Qj l w w.len).get i)=true:=λi hi=>by
 rw[oC]at hi;rw[Tv _ _ _ _ hi];have:=h i hi;exact dA.1 he.hi _ omY
def Tz(s:au)(l:Sl bi)(c:iY):bZ:=eU ⟨c.length,λi=>⟨0,(jh s (l.get ((c[i]?).getD (0,0)).1.toNat)).Low,(jh s (l.get ((c[i]?).getD (0,0)).1.toNat)).High⟩⟩ c.length
theorem zcH{s:au}{l:Sl bi}{t:af}{c:iY}(hc:eQ t=c)(h0:0<t.Hits.len):eU (NW s (Qj l t.Hits t.Hits.len)) (Qj l t.Hits t.Hits.len).len=Tz s l c:=by
 unfold Tz;rw[oC,<- hc,jK];refine Ny h0 (λi hi=>?_) _ (kw _);show(⟨0,(jh s ((Qj l t.Hits t.Hits.len).get i)).Low,(jh s ((Qj l t.Hits t.Hits.len).get i)).High⟩:ax)=⟨0,(jh s (l.get (((eQ t)[i]?).getD (0,0)).1.toNat)).Low,(jh s (l.get (((eQ t)[i]?).getD (0,0)).1.toNat)).High⟩;rw[Tv _ _ _ _ hi,Ji hi];rfl
def OA(s:au)(l:Sl bi)(c:iY):Bool:=decide ((Tz s l c).Low<=(Tz s l c).High)
abbrev Q93(C:Pt aS×af->ae (bZ×Bool)):Prop:=∀s l r t c,Evt s l->InH l t.Hits->0<t.Hits.len->t.Hits.len<=100->eQ t=c->C (iE s r l,t)=.ok ((cmS (Tz s l c)).1,OA s l c)
theorem s93{E:E93}(N:Big E.N)(h50:Q50 E.c50):Q93 (F93 E):=λs l r t c he hi h0 h1 hc=>ae.ext λk=>by
 rw[e93,aX];refine jO (X:=λn i=>zcg E n (iE s r l) t (i:Int) (Qj l t.Hits i) k) (m:=t.Hits.len) (λn i kX=>?_) (λn=>?_) _ (by have:=N;omega);have a:=hi i kX;rw[zuG,dM omY,dS,bn omY,gy,bn (show 0<=t.Hits.get i/\t.Hits.get i<((iE s r l).v.hits.len:Int)from a),jG (by rw[oC];omega) omY,bF omY];rfl;rw [zuG,dR omY,dF];show(E.c50 (s,Qj l t.Hits t.Hits.len)).T _=_;rw[h50 _ _ he.sh he.se (by rw[oC];omega) (by rw[oC];omega) (zkE he hi),aX,zcH hc h0];have:((cmS (Tz s l c)).2==0)=OA s l c:=by
  unfold cmS OA;by_cases h:(Tz s l c).Low>(Tz s l c).High;rw[dM h,dR omY];rfl;rw[dR h,dM omY];rfl
 rw[this]
abbrev zAg(C:Sl bi×Sl Int->ae (Sl bi)):Prop:=∀(l:Sl bi)(w:Sl Int),InH l w->w.len<=100->C (l,w)=.ok (Qj l w w.len)
theorem zUO{E:zeB}(N:Big E.N):zAg (zpG E):=λl w hi h1=>ae.ext λk=>by
 rw[zSc,aX];refine jO (X:=λn i=>SC E n l w (i:Int) (Qj l w i) k) (m:=w.len) (λn i kX=>?_) (λn=>?_) _ (by have:=N;omega);have a:=hi i kX;rw[zje,dM omY,dS,bn omY,gy,bn a,jG (by rw[oC];omega) omY,bF omY];rfl;rw[zje,dR omY];rfl
abbrev Q90(C:au×Sl bi×Sl Int->ae Bool):Prop:=∀s l (w:Sl Int),Evt s l->InH l w->0<w.len->w.len<=100->C (s,l,w)=.ok (decide ((eU (NW s (Qj l w w.len)) (Qj l w w.len).len).Low<=(eU (NW s (Qj l w w.len)) (Qj l w w.len).len).High))
theorem s90{E:E90}(zyp:zAg E.c148)(zyq:zAd E.zsG):Q90 (F90 E):=λs l w he hi h0 h1=>ae.ext λk=>by
 rw[e90,zyp _ _ hi h1,aX,zyq _ _ (by rw[oC];omega) (by rw[oC];omega) (zkE he hi),aX,aX]
def zG(s:au)(l:Sl bi)(c:iY):Bool:=OA s l c&&fD (zW s l c)
theorem Gi{s:au}{l:Sl bi}{x:Int}{t:af}{c:iY}{j:Nat}(hc:eQ t=c)(h:Val s l x c j):InH l t.Hits:=λi hi=>by
 have:=zD hc hi;have m:=(h.mem _ (Jr this)).1;have:=h.le;simp only at m;omega
theorem Jm{t:af}{c:iY}(hc:eQ t=c)(hn:c≠[]):0<t.Hits.len:=by
 rw[<- jK,hc];exact List.length_pos_iff.2 hn
theorem mQ{s:au}{l:Sl bi}{x:Int}{t:af}{c:iY}{j:Nat}(hc:eQ t=c)(h:Val s l x c j):t.Hits.len<=l.len:=by
 rw[<- jK,hc];have:=h.le;omega
structure Ev (s : au) (l : Sl bi) (x : Int) : Prop extends Evt s l where
  l24:l.len<=24
  vw:vwB x=true
abbrev zAh(C:Pt aS×af->ae Bool):Prop:=∀s l r x t c j,Ev s l x->Qd x t->eQ t=c->Val s l x c j->c≠[]->C (iE s r l,t)=.ok (zG s l c)
theorem zUQ{E:zql}(h93:Q93 E.c93)(Bv:zeu E.c105)(zy1:zzJ E.zsV):zAh (zqm E):=λs l r x t c j he ht hc hv hn=>ae.ext λk=>by
 have hl:=mQ hc hv;have h24:=he.l24;have G:=BM he.toEvt he.l24 hv hn;obtain⟨y,hy⟩:=zy1 (zW s l c) (by have:=G.2;omega);rw[zSP,h93 s l r t c he.toEvt (Gi hc hv) (Jm hc hn) omY hc,aX,aX];unfold zG;cases OA s l c with
 | false=>rfl
 | true =>
  show(E.c105 (iE s r l,t)).T _=_;rw[Bv s l r t he.toEvt omY (Jj he.vw ht hc hv hn),aX,yU hc,hy,aX,<- zzK G];rfl
abbrev zrV(C:au×Sl bi×af->ae Bool):Prop:=∀s l x t c j,Ev s l x->Qd x t->eQ t=c->Val s l x c j->c≠[]->C (s,l,t)=.ok (zG s l c)
theorem zUR{E:zqC}(h65:Q65 E.c65)(zy8:zz1 E.c145)(h90:Q90 E.c90):zrV (zqD E):=λs l x t c j he ht hc hv hn=>ae.ext λk=>by
 have hl:=mQ hc hv;have h24:=he.l24;have G:=BM he.toEvt he.l24 hv hn;rw[zS7,h65 s l t he.toEvt omY (Jj he.vw ht hc hv hn),aX,yU hc,zy8 _ G,aX,h90 s l _ he.toEvt (Gi hc hv) (Jm hc hn) omY,aX,zcH hc (Jm hc hn),aX];unfold zG;show cond (fD (zW s l c)) (k (OA s l c)) (k false)=_;cases fD (zW s l c)<;>cases OA s l c<;>rfl
abbrev zAi(C:Int×Pt (Pt aS)×Pt Int->ae Bool):Prop:=∀s l r i k,0<=i/\i<(l.len:Int)->0<=k/\k<(l.len:Int)->C (i,⟨iE s r l⟩,⟨k⟩)=.ok ((l.get i.toNat).ak==(l.get k.toNat).ak)
theorem zUS{E:zqj}:zAi (zqk E):=λs l r i k hi hk=>ae.ext λK=>by
 rw[zSN,aX];exact(bn (p:=0<=i/\i<(l.len:Int)) hi).trans (bn (p:=0<=k/\k<(l.len:Int)) hk)
abbrev zAj(C:Int×Pt (Pt aS)×Pt Int->ae Bool):Prop:=∀s l r i p,0<=i/\i<(l.len:Int)->C (i,⟨iE s r l⟩,⟨p⟩)=.ok ((l.get i.toNat).ak==p)
theorem zUT{E:zqs}:zAj (zqu E):=λs l r i p hi=>ae.ext λK=>by
 rw[e190,aX];exact bn (p:=0<=i/\i<(l.len:Int)) hi
abbrev zeW:=dY 180 Unit (Pt (Pt aS)×Pt Int) ⊕ dY 190 Unit (Pt (Pt aS)×Pt Int)
def zrW(l:Sl bi):zeW→Int→Bool|.inl c,h=>(l.get h.toNat).ak==(l.get c.v.2.v.toNat).ak|.inr c,h=>(l.get h.toNat).ak==c.v.2.v
def okU(s:au)(l:Sl bi)(r:bC):zeW→Prop|.inl c=>c.v.1.v=iE s r l/\0<=c.v.2.v/\c.v.2.v<(l.len:Int)|.inr c=>c.v.1.v=iE s r l
abbrev QUx{γ:Type}(i:γ->zeW)(C:Sl Int×γ->ae Int):Prop:=∀s l r (w:Sl Int) (c:γ),InH l w->w.len<=1000->okU s l r (i c)->C (w,c)=.ok (fst (λj=>zrW l (i c) (w.get j)) w.len 0)
abbrev QUa{γ:Type}(i:γ->zeW)(C:Sl Int×γ->ae Bool):Prop:=∀s l r (w:Sl Int) (c:γ),InH l w->w.len<=1000->okU s l r (i c)->C (w,c)=.ok (!eH (λj=>!zrW l (i c) (w.get j)) w.len)
abbrev zrX(C:Sl Int×zeW->ae Int):Prop:=QUx id C
abbrev zrY(C:Sl Int×zeW->ae Bool):Prop:=QUa id C
theorem zkF{E:ve}(N:Big E.N)(zzf:zAi E.zlG):QUx .inl (Ec E):=λs l r w c hi hw ho=>ae.ext λk=>by
 obtain⟨⟨⟩,⟨a⟩,⟨b⟩⟩:=c;obtain⟨rfl,hb⟩:=ho;rw[zjK,aX];refine Ht (L:=λn i=>wR E n w _ i k) (p:=λj=>zrW l (.inl ⟨(),⟨iE s r l⟩,⟨b⟩⟩) (w.get j)) (m:=w.len) (k:=k) omY (λn i kX=>?_) (λn=>?_) _ (by have:=N;omega);rw [MV,dM omY,dS,bn omY,gy];show(E.zlG (w.get i,⟨iE s r l⟩,⟨b⟩)).T _=_;rw[zzf s l r _ _ (hi i kX) hb,aX];rfl;rw[MV,dR omY];rfl
theorem zkG{E:vg}(N:Big E.N)(zzg:zAj E.zlI):QUx .inr (Ed E):=λs l r w c hi hw ho=>ae.ext λk=>by
 obtain⟨⟨⟩,⟨a⟩,⟨b⟩⟩:=c;have ho:a=iE s r l:=ho;subst ho;rw[zjM,aX];refine Ht (L:=λn i=>wS E n w _ i k) (p:=λj=>zrW l (.inr ⟨(),⟨iE s r l⟩,⟨b⟩⟩) (w.get j)) (m:=w.len) (k:=k) omY (λn i kX=>?_) (λn=>?_) _ (by have:=N;omega);rw [MW,dM omY,dS,bn omY,gy];show(E.zlI (w.get i,⟨iE s r l⟩,⟨b⟩)).T _=_;rw[zzg s l r _ _ (hi i kX),aX];rfl;rw[MW,dR omY];rfl
theorem zUU{f:Sl Int×dY 180 Unit (Pt (Pt aS)×Pt Int)->ae Int}{g:Sl Int×dY 190 Unit (Pt (Pt aS)×Pt Int)->ae Int}(a:QUx .inl f)(b:QUx .inr g):zrX (ae.two f g):=λs l r w c hi hw ho=>by
 rcases c with c|c
 exact a s l r w c hi hw ho;exact b s l r w c hi hw ho
theorem zkH{E:DX}(ZZ:zrX E.c210):QUa .inl (DY E):=λs l r w c hi hw ho=>ae.ext λk=>by rw[zjo,ZZ s l r w (.inl c) hi hw ho,aX,aX,wY];rfl
theorem zkI{E:DZ}(ZZ:zrX E.c210):QUa .inr (D5 E):=λs l r w c hi hw ho=>ae.ext λk=>by rw[zjr,ZZ s l r w (.inr c) hi hw ho,aX,aX,wY];rfl
theorem zUV{f:Sl Int×dY 180 Unit (Pt (Pt aS)×Pt Int)->ae Bool}{g:Sl Int×dY 190 Unit (Pt (Pt aS)×Pt Int)->ae Bool}(a:QUa .inl f)(b:QUa .inr g):zrY (ae.two f g):=λs l r w c hi hw ho=>by
 rcases c with c|c
 exact a s l r w c hi hw ho;exact b s l r w c hi hw ho
theorem zkJ{l:Sl bi}{t:af}{c:iY}(hc:eQ t=c)(p:Int->Bool):(!eH (λj=>!p (t.Hits.get j)) t.Hits.len)=c.any λq=>p q.1:=by
 rw[Yh,N8,<- qjo,dA,qjm];constructor
 ·intro h;apply qdv;intro hn;refine h λj hj=>?_;cases e:p (t.Hits.get j)with|false=>rfl|true=>exact(hn ⟨_,Jr (zD hc hj),e⟩).elim
 rintro⟨q,hq,e⟩ h;obtain⟨j,hj,rfl⟩:=qdT hq;have hl:j<t.Hits.len:=by rw[<- jK,hc];exact hj
 have:=zD hc hl;rw[Ae hj]at this;have:=Yg this;have h2:=h j hl;rw[this]at e;rw[e]at h2;cases h2
def Gj(w:Sl af):List iY:=(List.range w.len).map λi=>eQ (w.get i)
theorem lq(w:Sl af):(Gj w).length=w.len:=by simp[Gj]
theorem zrZ{w:Sl af}{i:Nat}(h:i<w.len):(Gj w)[i]? = some (eQ (w.get i)):=by simp[Gj,qd8 h]
def zX(x:Int)(w:Sl af):Prop:=∀i,i<w.len->Qd x (w.get i)
theorem zcI(w:Sl af)(t:af):Gj (rE w t)=Gj w++[eQ t]:=by
 unfold Gj;show(List.range (w.len+1)).map _=_;rw[qjL,Ud];congr 1;exact qdb λi hi=>by
  show eQ (jY w.len w.get (λ_=>t) i)=_;rw[jA,fF (by have:=NT.1 hi;omega)]
 show [eQ (jY w.len w.get (fun _=>t) w.len)]=_;rw[jA,eX (kw _)]
theorem Xp{x:Int}{w:Sl af}{t:af}(h:zX x w)(ht:Qd x t):zX x (rE w t):=λi hi=>by
 show Qd x (jY w.len w.get (λ_=>t) i);rw[jA];by_cases e:w.len<=i;rw[eX e];exact ht;rw[fF e];exact h i omY
def TA(x:Int)(t:af)(p:Int×Int):af:=⟨x,⟨t.Hits.len+1,jY t.Hits.len t.Hits.get λ_=>p.1⟩,⟨t.aV.len+1,jY t.aV.len t.aV.get λ_=>p.2⟩⟩
theorem zcJ{x:Int}{t:af}{p:Int×Int}(h:t.aV.len=t.Hits.len):eQ (TA x t p)=eQ t++[p]:=by
 refine zkz rfl (λj hj=>?_) ?_;show jY t.Hits.len t.Hits.get (fun _=>p.1) j=_∧jY t.aV.len t.aV.get (fun _=>p.2) j=_;rw[jA,jA,fF omY,fF omY];exact⟨rfl,rfl⟩;show jY t.Hits.len t.Hits.get (fun _=>p.1) t.Hits.len=_∧jY t.aV.len t.aV.get (fun _=>p.2) t.Hits.len=_;rw[jA,jA,eX omY,eX omY];exact⟨rfl,rfl⟩
theorem Gl{x:Int}{t:af}{p:Int×Int}(h:t.aV.len=t.Hits.len):Qd x (TA x t p):=⟨rfl,by show t.aV.len+1=t.Hits.len+1;rw[h]⟩
abbrev zHB:=af×Int×Bc 143 (Pt aS)×Bc 38 Int×Bw 30 43 3 56 af×Bs 255 178 2 4×Unit
def kW(s:au)(l:Sl bi)(x:Int):List iY:=gr (zG s l) (AB l) (Oy s l x) 30 [] 0
theorem zcK(s:au)(l:Sl bi)(x:Int):Val s l x [] 0:=⟨⟨kw _,AP _⟩,(λp h=>by cases h),List.Pairwise.nil⟩
abbrev zHC(C:Pt aS×Int->ae (Sl af×Bool)):Prop:=∀s l r x,Ev s l x->(kW s l x).length<=2000->∃w,C (iE s r l,x)=.ok (w,true)/\Gj w=kW s l x/\zX x w
abbrev Xq:=(Bool×Int)×(Unit×Unit×Pt aS×Int×Sl af×Unit×Unit)
def zkK(s:au)(l:Sl bi)(r:bC)(x:Int)(G:List iY)(w:Sl af)(R:Xq):Prop :=
 (w.len+G.length<=2000/\∃w',R=((false,0),(),(),iE s r l,x,w',(),())/\Gj w'=Gj w++G/\zX x w')\/(2000<w.len+G.length/\∃w',R=((true,x),(),(),iE s r l,x,w',(),()))
def QMp(f:Nat)(C:zHB->ae Xq):Prop:=∀s l r x t c (i:Nat) (w:Sl af),Ev s l x->Val s l x c i->eQ t=c->t.aV.len=t.Hits.len->l.len<i+f->zX x w->w.len<=2000 ->
 ∃R,C (t,(i:Int),⟨iE s r l⟩,⟨x⟩,⟨w⟩,{},())=.ok R/\zkK s l r x (gr (zG s l) (AB l) (Oy s l x) f c i) w R
theorem zHD{E:zeH}{f:Nat}(ZM:zrY E.NL)(zyZ:zAh E.c182)(i173:zyk E.i173)(hm:QMp f E.II):QMp (f+1) (zqh E):=λs l r x t c i w he hv hc ht hf hw hn=>by
 have h24:=he.l24;have hle:=hv.le;have hlen:=mQ hc hv
 have key:∀(ys:iY)(w:Sl af),(∀y∈ys,y∈Oy s l x i)->zX x w->w.len<=2000 ->
   ∃R,(∀(A:Type)(k:Xq->Option A)(w0:Sl af),pF E ys t (i:Int) (iE s r l) x w0 (iE s r l) x w k=k R)/\zkK s l r x (ys.flatMap λp=>cond (AB l c p.1 || !zG s l (c++[p])) [] ((c++[p])::gr (zG s l) (AB l) (Oy s l x) f (c++[p]) (p.1.toNat+1))) w R:=by
  intro ys
  induction ys with
  | nil=>intro w _ hw hn;exact⟨_,λA k w0=>zqi ..,.inl ⟨by simpa using hn,w,rfl,by simp,hw⟩⟩
  | cons y ys ih =>
   intro w hy hw hn;rw[oD];have Yd:∀z∈ys,z∈Oy s l x i:=λz hz=>hy z (jS _ hz);obtain⟨_,y1,_,_⟩:=Xj (hy y kQ);have u:(E.NL (t.Hits,.inl ⟨(),⟨iE s r l⟩,⟨y.1⟩⟩))=.ok (AB l c y.1):=by
    rw[ZM s l r t.Hits (.inl ⟨(),⟨iE s r l⟩,⟨y.1⟩⟩) (Gi hc hv) omY ⟨rfl,(by show 0<=y.1;omega),(by show y.1<(l.len:Int);omega)⟩];exact kz ae.ok (zkJ (l:=l) hc λh=>(l.get h.toNat).ak==(l.get y.1.toNat).ak)
   have skip:∀(A:Type)(k:Xq->Option A)(w0:Sl af),AB l c y.1=true->pF E (y::ys) t (i:Int) (iE s r l) x w0 (iE s r l) x w k=pF E ys t (i:Int) (iE s r l) x w0 (iE s r l) x w k:=λA k w0 e=>by
    rw[zjn,u,aX,e];rfl
   cases hu:AB l c y.1 with
   | true =>
    obtain⟨R,a,b⟩:=ih w Yd hw hn;exact⟨R,λA k w0=>by rw[skip A k w0 hu,a],by simpa using b⟩
   | false =>
    have hv2:=hv.snoc (hy y kQ) hu;have hc2:eQ (TA x t y)=c++[y]:=by rw[zcJ ht,hc]
    have ag:=zyZ s l r x (TA x t y) (c++[y]) _ he (Gl ht) hc2 hv2 (by simp);have st:∀(A:Type)(k:Xq->Option A)(w0:Sl af),pF E (y::ys) t (i:Int) (iE s r l) x w0 (iE s r l) x w k=cond (!zG s l (c++[y])) (pF E ys t (i:Int) (iE s r l) x w0 (iE s r l) x w k) (aU (room (w.len+1) 56) (cond (decide ((w.len:Int)+1>2000)) (k ((true,x),(),(),iE s r l,x,rE w (TA x t y),(),())) ((E.II (TA x t y,aO (y.1+1),⟨iE s r l⟩,⟨x⟩,⟨rE w (TA x t y)⟩,{},())).T λr3=>cond r3.1.1 (k ((true,r3.1.2),(),(),r3.2.2.2.1,r3.2.2.2.2.1,r3.2.2.2.2.2.1,(),())) (pF E ys t (i:Int) (iE s r l) x w0 r3.2.2.2.1 r3.2.2.2.2.1 r3.2.2.2.2.2.1 k)))):=λA k w0=>by
     rw[zjn,u,aX,hu,dF,jG omY omY,jG omY omY,jG omY omY,jG omY omY];show(E.c182 (iE s r l,TA x t y)).T _=_;rw[ag,aX];rfl
    cases ha:zG s l (c++[y])with
    | false =>
     obtain⟨R,a,b⟩:=ih w Yd hw hn;exact⟨R,λA k w0=>by rw[st,ha];exact a A k w0,by simpa using b⟩
    | true =>
     simp only[Js,jqC,dF];have e1:aO (y.1+1)=((y.1.toNat+1:Nat):Int):=by rw[aZ omY omY];omega
     by_cases h0:w.len+1<=2000
     case neg =>
      refine⟨((true,x),(),(),iE s r l,x,rE w (TA x t y),(),()),λA k w0=>?_,.inr ⟨by rw[N7,EN];omega,_,rfl⟩⟩;rw[st,ha,Js,dF,jG omY omY,dM omY,dS]
     obtain⟨R1,a1,o1⟩:=hm s l r x (TA x t y) (c++[y]) (y.1.toNat+1) (rE w (TA x t y)) he hv2 hc2 (Gl (x:=x) ht).2 omY (Xp hw (Gl ht)) h0;have lw:(rE w (TA x t y)).len=w.len+1:=rfl;rcases o1 with⟨n1,w1,rfl,b1,d1⟩|⟨n1,w1,rfl⟩
     have l1:w1.len=w.len+1+(gr (zG s l) (AB l) (Oy s l x) f (c++[y]) (y.1.toNat+1)).length:=by
      rw[<- lq,b1,N7,lq];rfl
     obtain⟨R,a,b⟩:=ih w1 Yd d1 omY;refine⟨R,λA k w0=>?_,?_⟩;rw [st,ha,e1,a1,aX,Js,dF,jG omY omY,dR omY,dF];exact a A k w0;rcases b with⟨n2,w',e2,b2,d2⟩|⟨n2,w',e2⟩
     exact .inl ⟨by rw[N7,EN];omega,w',e2,by rw[b2,b1,zcI,hc2];simp,d2⟩;exact .inr ⟨by rw[N7,EN];omega,w',e2⟩;refine⟨_,fun A k w0 => ?_,.inr ⟨by rw [N7,EN];omega,w1,rfl⟩⟩;rw[st,ha,e1,a1,aX,Js,dF,jG omY omY,dR omY,dF];rfl
 obtain⟨R,a,b⟩:=key (Oy s l x i) w (λy hy=>hy) hw hn;refine⟨R,ae.ext λk=>?_,b⟩;rw[zSK,i173 s l r x i he.toEvt hle.2,aX,aX];exact a _ k w
abbrev zkL(C:Pt aS×Int->ae (Sl af×Bool)):Prop:=∀s l r x,Ev s l x->((kW s l x).length<=2000/\∃w,C (iE s r l,x)=.ok (w,true)/\Gj w=kW s l x/\zX x w)\/(2000<(kW s l x).length/\∃w,C (iE s r l,x)=.ok (w,false))
theorem zHE{E:zi7}(hm:QMp 30 E.II):zkL (zpm E):=λs l r x he=>by
 have h24:=he.l24;obtain⟨R,a,b⟩:=hm s l r x ⟨0,⟨0,λ_=>default⟩,⟨0,λ_=>default⟩⟩ [] 0 ⟨0,λ_=>⟨0,⟨0,λ_=>0⟩,⟨0,λ_=>0⟩⟩⟩ he (zcK s l x) rfl rfl omY (λi hi=>absurd hi (Ut i)) (AP _);rcases b with⟨n,w',rfl,b,d⟩|⟨n,w',rfl⟩
 exact .inl ⟨by have h:0+(kW s l x).length<=2000:=n;omega,w',ae.ext λk=>by rw[e127];show(E.II (_,((0:Nat):Int),_)).T _=_;rw[a,aX,aX];rfl,b,d⟩;exact .inr ⟨by have h:2000<0+(kW s l x).length:=n;omega,_,ae.ext λk=>by rw[e127];show(E.II (_,((0:Nat):Int),_)).T _=_;rw[a,aX,aX];rfl⟩
end Go.Proofs
namespace Go.Proofs
open Go Go.Pm
theorem zr0{C:Pt aS×Int->ae (Sl af×Bool)}(h:zkL C):zHC C:=λs l r x he hn=>by
 rcases h s l r x he with⟨_,a⟩|⟨a,_⟩
 exact a;omega
end Go.Proofs
namespace Go.Proofs
open Go Go.Pm
set_option maxRecDepth 100000
abbrev zAm(C:af×Int×Int->ae af):Prop:=∀t i k,t.Hits.len<=1000->t.aV.len<=1000->C (t,i,k)=.ok (TA t.View t (i,k))
theorem zUW{E:zq4}:zAm (zq5 E):=λt i k h1 h2=>ae.ext λK=>by
 rw[e227,aX,jG omY omY,jG omY omY,jG omY omY,jG omY omY];rfl
abbrev stC(s:au)(l:Sl bi)(x:Int)(f:Nat)(c:iY):List iY->Int×Int->List iY:=λout p=>cond (AB l c p.1||(decide (2000<out.length) || !zG s l (c++[p]))) out (Ti (zG s l) (AB l) (Oy s l x) f (out++[c++[p]]) (c++[p]) (p.1.toNat+1))
def QW(f:Nat)(C:(au×Sl bi×af×Int)×Sl af->ae (Sl af)):Prop:=∀s l x t c (i:Nat) (w:Sl af),Ev s l x->Val s l x c i->eQ t=c->Qd x t->l.len<i+f->zX x w->w.len<=2001 ->
 ∃w',C ((s,l,t,(i:Int)),w)=.ok w'/\Gj w'=Ti (zG s l) (AB l) (Oy s l x) f (Gj w) c i/\zX x w'
theorem zkM{s:au}{l:Sl bi}{x:Int}{f:Nat}{c:iY}{i:Int}(h:AB l c i=true):∀(d k:Nat)(out:List iY),(sdK i d k).foldl (stC s l x f c) out=out
  | 0,_,_=>rfl
  | d+1,k,out=>by
    rw[sdK,Yf];show(sdK i d (k+1)).foldl _ (cond (AB l c i||_) out _)=out;rw[h];exact zkM h d (k+1) out
theorem Xr{s:au}{l:Sl bi}{x:Int}{f:Nat}{c:iY}{i:Int}:∀(d k:Nat)(out:List iY),2000<out.length→(sdK i d k).foldl (stC s l x f c) out=out
  | 0,_,_,_=>rfl
  | d+1,k,out,h=>by
    rw[sdK,Yf];have:stC s l x f c out (i,(k:Int))=out:=by
      show cond (AB l c i||(decide (2000<out.length)||_)) out _=out;rw[dM h,jqD,qjK];rfl
    rw[this];exact Xr d (k+1) out h
theorem TC{ag:iY→Bool}{us:iY→Int→Bool}{sd:Nat→iY}:∀{f out c i},out.length≤2001→(Ti ag us sd f out c i).length≤2001
  | 0,out,c,i,h=>h
  | f+1,out,c,i,h=>by
    simp only[Ti];generalize sd i=l
    induction l generalizing out with
    | nil=>exact h
    | cons p l ih =>
      rw[Yf];refine ih _ ?_;cases hc:us c p.1||(decide (2000<out.length) || !ag (c++[p]))with
      | true=>exact h
      | false =>
        simp only[qd1,dqS]at hc;exact TC (by rw[N7];simp only[EN,Uu];omega)
theorem zUX{E:Z4}{f:Nat}(N:Big E.N)(h87:Q87 E.c87)(h75:Q75 E.c75)(zy7:zAm E.c227)(ZV:zrV E.c196)(hm:QW f E.NP):QW (f+1) (zqB E):=λs l x t c i w he hv hc ht hf hw hn=>by
 have h24:=he.l24;have hle:=hv.le;have hlen:=mQ hc hv;have hN:=N
 -- the iR of one hit
 have inn:∀(n0:Nat)(a:Nat),i<=a->a<l.len->P9 s l a=x->AB l c (a:Int)=false->∀(m k n1:Nat)(w:Sl af),k+m=wK s l a->m<n1->zX x w->w.len<=2001 ->
   ∃w',(∀(A:Type)(K:Sl af->Option A),wQ E n0 n1 s l t (a:Int) (wJ s (l.get a)) (k:Int) w K=ry E n0 s l t ((a+1:Nat):Int) w' K)/\Gj w'=(sdK (a:Int) m k).foldl (stC s l x f c) (Gj w)/\zX x w':=by
  intro n0 a ha1 ha2 hva NQ m
  induction m with
  | zero =>
   intro k n1 w hk hn1 hw hwl;obtain⟨n1,rfl⟩:∃n',n1=n'+1:=⟨n1-1,omY⟩;refine⟨w,λA K=>?_,rfl,hw⟩;rw[Z5,dR (by have:(wJ s (l.get a)).len=wK s l a:=rfl;omega),dF,bF omY]
  | succ m ih =>
   intro k n1 w hk hn1 hw hwl;obtain⟨n1,rfl⟩:∃n',n1=n'+1:=⟨n1-1,omY⟩;have hgl:(wJ s (l.get a)).len=wK s l a:=rfl;have hg2:=Jf s l a;by_cases hfull:2000<w.len;refine⟨w,fun A K => ?_,(Xr _ _ _ (by rw [lq];exact hfull)).symm,hw⟩;rw[Z5,dM omY,dS,dR omY,dF,bF omY]
   ·have hp : ((a : Int), (k : Int)) ∈ Oy s l x i := (Tn hle.2).2 ⟨by simp only; omega, by simpa using hva, by simp only; omega, by simp only [gy]; omega⟩;have hv2:=hv.snoc hp NQ;have hc2:eQ (TA x t ((a:Int),(k:Int)))=c ++ [((a:Int),(k:Int))]:=by rw[zcJ ht.2,hc]
    have ag:=ZV s l x (TA x t ((a:Int),(k:Int))) _ _ he (Gl ht.2) hc2 hv2 (by simp);have st:∀(A:Type)(K:Sl af->Option A),wQ E n0 (n1+1) s l t (a:Int) (wJ s (l.get a)) (k:Int) w K=cond (zG s l (c++[((a:Int),(k:Int))])) ((E.NP ((s,l,TA x t ((a:Int),(k:Int)),((a+1:Nat):Int)),rE w (TA x t ((a:Int),(k:Int))))).T λr3=>wQ E n0 n1 s l t (a:Int) (wJ s (l.get a)) ((k+1:Nat):Int) r3 K) (wQ E n0 n1 s l t (a:Int) (wJ s (l.get a)) ((k+1:Nat):Int) w K):=λA K=>by
     rw[Z5,dM omY,dS,dM omY,dS,zy7 _ _ _ omY (by rw[ht.2];omega),aX,ht.1,ag,aX,jG omY omY,bF omY,bF omY];rfl
    rw[sdK,Yf];cases uw:zG s l (c++[((a:Int),(k:Int))])with
    | false =>
     have e:stC s l x f c (Gj w) ((a:Int),(k:Int))=Gj w:=by
      show cond (AB l c (a:Int)||(_ || !zG s l (c++[((a:Int),(k:Int))]))) _ _=_;rw[uw,qdM,qjK,qjK];rfl
     rw[e];obtain⟨w',a1,a2,a3⟩:=ih (k+1) n1 w omY omY hw hwl;exact⟨w',λA K=>by rw[st,uw];exact a1 A K,a2,a3⟩
    | true =>
     have e:stC s l x f c (Gj w) ((a:Int),(k:Int))=Ti (zG s l) (AB l) (Oy s l x) f (Gj w++[c++[((a:Int),(k:Int))]]) (c++[((a:Int),(k:Int))]) (a+1):=by
      show cond (AB l c (a:Int)||(decide (2000<(Gj w).length) || !zG s l (c++[((a:Int),(k:Int))]))) _ _=_;rw[uw,NQ,lq,dR hfull];rfl
     rw[e];obtain⟨w1,b1,b2,b3⟩:=hm s l x (TA x t ((a:Int),(k:Int))) _ (a+1) (rE w (TA x t ((a:Int),(k:Int)))) he hv2 hc2 (Gl ht.2) omY (Xp hw (Gl ht.2)) (by show w.len+1<=_;omega);rw[zcI,hc2]at b2;have l1:w1.len<=2001:=by
      rw[<- lq,b2];exact TC (by rw[N7,lq];simp only[EN,Uu];omega)
     obtain⟨w',a1,a2,a3⟩:=ih (k+1) n1 w1 omY omY b3 l1;rw[b2]at a2;exact⟨w',λA K=>by rw[st,uw,dS,b1,aX];exact a1 A K,a2,a3⟩
 have zr1:∀(ys:iY)(out:List iY),out.length<=2001->(ys.foldl (stC s l x f c) out).length<=2001:=by
  intro ys
  induction ys with
  | nil=>intro out h;exact h
  | cons p ys ih =>
   intro out h;rw[Yf];refine ih _ ?_;show(cond (AB l c p.1||(decide (2000<out.length) || !zG s l (c++[p]))) out _).length<=_;cases hq:AB l c p.1||(decide (2000<out.length) || !zG s l (c++[p]))with
   | true=>exact h
   | false =>
    simp only[qd1,dqS]at hq;exact TC (by rw[N7];simp only[EN,Uu];omega)
 have key:∀(d a n:Nat)(w:Sl af),a+d=l.len->i<=a->d<n->zX x w->w.len<=2001->∃w',(∀(A:Type)(K:Sl af->Option A),ry E n s l t (a:Int) w K=K w')/\Gj w'=(sdL s l x d a).foldl (stC s l x f c) (Gj w)/\zX x w':=by
  intro d
  induction d with
  | zero =>
   intro a n w ha hi hn hw hwl;obtain⟨n,rfl⟩:∃n',n=n'+1:=⟨n-1,omY⟩;exact⟨w,λA K=>by rw[zjB,dR omY];rfl,rfl,hw⟩
  | succ d ih =>
   intro a n w ha hi hn hw hwl;obtain⟨n,rfl⟩:∃n',n=n'+1:=⟨n-1,omY⟩;have Ig:=he.pl (i:=a) omY;rw[sdL,qj1];have us:E.c87 (l,t.Hits,(l.get a).ak)=.ok (AB l c (a:Int)):=by
    rw[h87 l t.Hits _ omY (Gi hc hv)];refine kz ae.ok ?_;have:=zkJ (l:=l) hc λh=>(l.get h.toNat).ak==(l.get a).ak;unfold AB;rw[gy,<- this];rfl
   have st:∀(A:Type)(K:Sl af->Option A),ry E (n+1) s l t (a:Int) w K=cond (P9 s l a != x) (ry E n s l t ((a+1:Nat):Int) w K) (cond (AB l c (a:Int)) (ry E n s l t ((a+1:Nat):Int) w K) (wQ E n E.N s l t (a:Int) (wJ s (l.get a)) ((0:Nat):Int) w K)):=λA K=>by
    rw[zjB,dM omY,dS,bn omY,gy,bn Ig,us,aX,h75 s _ he.sh Ig,aX,bF omY,ht.1];rfl
   cases hv1:P9 s l a==x with
   | false =>
    have e1:(P9 s l a != x)=true:=by rw[bne,hv1];rfl
    rw[e1]at st;obtain⟨w',a1,a2,a3⟩:=ih (a+1) n w omY omY omY hw hwl;exact⟨w',λA K=>by rw[st];exact a1 A K,a2,a3⟩
   | true =>
    have e1:(P9 s l a != x)=false:=by rw[bne,hv1];rfl
    rw[e1]at st;rw[dS];cases hu:AB l c (a:Int)with
    | true =>
     rw[hu]at st;obtain⟨w',a1,a2,a3⟩:=ih (a+1) n w omY omY omY hw hwl;exact⟨w',λA K=>by rw[st];exact a1 A K,by rw[zkM hu];exact a2,a3⟩
    | false =>
     rw[hu]at st;obtain⟨w1,b1,b2,b3⟩:=inn n a hi omY (eq_of_beq hv1) hu (wK s l a) 0 E.N w omY (by have:=Jf s l a;omega) hw hwl;have l1:w1.len<=2001:=by
      rw[<- lq,b2];exact zr1 _ _ (by rw[lq];exact hwl)
     obtain⟨w',a1,a2,a3⟩:=ih (a+1) n w1 omY omY omY b3 l1;rw[b2]at a2;exact⟨w',λA K=>by rw[st];exact(b1 A K).trans (a1 A K),a2,a3⟩
 obtain⟨w',a1,a2,a3⟩:=key (l.len-i) i E.N w omY (kw _) omY hw hn;refine⟨w',ae.ext λK=>by rw[e195,aX];exact a1 _ K,?_,a3⟩;rw[a2,Ti];rfl
def Xt(s:au)(l:Sl bi)(x:Int):List iY:=Ti (zG s l) (AB l) (Oy s l x) 30 [] [] 0
theorem zcL{s:au}{l:Sl bi}{x:Int}(h:(Xt s l x).length<=2000):Xt s l x=kW s l x:=by
 have:=(zkt (f:=30) (out:=[]) (c:=[]) (i:=0)).2 h;rw[OU]at this;exact this
abbrev zAn(C:au×Sl bi×Int->ae (Sl af×Bool)):Prop:=∀s l x,Ev s l x->∃w,C (s,l,x)=.ok (w,decide ((Xt s l x).length<=2000))/\Gj w=Xt s l x/\zX x w/\w.len<=2001
theorem zUY{E:zpN}(hm:QW 30 E.NP):zAn (zpO E):=λs l x he=>by
 have h24:=he.l24;obtain⟨w',a,b,d⟩:=hm s l x ⟨x,⟨0,λ_=>default⟩,⟨0,λ_=>default⟩⟩ [] 0 ⟨0,λ_=>⟨0,⟨0,λ_=>default⟩,⟨0,λ_=>default⟩⟩⟩ he (zcK s l x) rfl ⟨rfl,rfl⟩ omY (λi hi=>absurd hi (Ut i)) (AP _);have hb:Gj w'=Xt s l x:=b;refine⟨w',ae.ext λk=>?_,hb,d,?_⟩;rw [e153];show(E.NP ((_,_,_,((0:Nat):Int)),_)).T _=_;rw[a,aX,aX];have:decide ((w'.len:Int)<=2000)=decide ((Xt s l x).length<=2000):=by rw[<- hb,lq];exact decide_eq_decide.2 omY
 rw[this];rw[<- lq,hb];exact TC (AP _)
abbrev zAo(C:Int->ae Bool):Prop:=∀x,C x=.ok false
theorem zUZ{E:zrf}:zAo (zrg E):=λx=>ae.ext λk=>by rw[e237,aX,show(x != x)=false by simp]
abbrev zAp(C:Int×Int->ae Bool):Prop:=∀a b,C (a,b)=.ok (decide (a<b))
theorem zU0{E:zrd}(WF:zrE E.NM):zAp (zre E):=λa b=>ae.ext λk=>by rw[zTz,WF,aX,aX];rfl
theorem zAq{a:Int}(h:0<=a/\a<=1000000):aO (Io .u64 (IntKind.u64.wrap (aO a)) 1)=a/2:=by
 have e1:aO a=a:=aZ omY omY;have e2:IntKind.u64.wrap a=a:=by
  have hb:IntKind.u64.bits=64:=rfl;have hs:IntKind.u64.signed=false:=rfl;unfold IntKind.wrap;rw[hb,hs];simp only[Yp,qds,qd4];omega
 have e3:Io .u64 a 1=a/2:=by
  show a.fdiv (2^(min (1:Int).toNat 64))=_;rw[Int.fdiv_eq_ediv_of_nonneg _ (by decide)];rfl
 rw[e1,e2,e3,aZ omY omY]
def hasB(w:Sl Int)(x:Int):Bool:=!eH (λj=>!decide (w.get j=x)) w.len
theorem vJ{w:Sl Int}{x:Int}:hasB w x=true↔∃j,j<w.len/\w.get j=x:=by
 unfold hasB;rw[N8,<- qjo,dA];constructor;intro h;apply qdv;intro hc;exact h λi hi=>by simpa using λe=>hc ⟨i,hi,e⟩
 rintro⟨j,hj,e⟩ h;have:=h j hj;simp[e]at this
def zr2(w:Sl Int):Prop:=∀i j,i<j->j<w.len->w.get i<w.get j
abbrev zAr(C:Sl Int×Int->ae (Int×Bool)):Prop:=∀w x,zr2 w->w.len<=1000->∃r,C (w,x)=.ok (r,hasB w x)
theorem zU1{E:zeM}(N:Big E.N)(zzc:zAp E.c236)(zzd:zAo E.zlJ):zAr (zqN E):=λw x hw hl=>by
 have key:∀(d i j n:Nat),i+d=j->j<=w.len->d<n->(∀p,p<i->w.get p<x)->(∀p,j<=p->p<w.len->x<=w.get p)->∃r,∀(A:Type)(k:Int×Bool->Option A),yR E n w x (i:Int) (j:Int) k=k (r,hasB w x):=by
  intro d
  induction d using Nat.strongRecOn with
  | _ d ih =>
   intro i j n hd hj hn h1 h2;obtain⟨n,rfl⟩:∃n',n=n'+1:=⟨n-1,omY⟩;by_cases h0:d=0;have e:i=j:=by omega
   subst e;have no:(i<w.len->w.get i≠x)->hasB w x=false:=λhn=>by
    cases hb:hasB w x with
    | false=>rfl
    | true =>
     obtain⟨p,hp,e⟩:=vJ.1 hb;rcases qdx p i with q|q|q
     have:=h1 p q;omega;subst q;exact absurd e (hn hp);have a:=hw i p q hp;have:=h2 i (kw _) omY;omega
   by_cases hi:i<w.len;by_cases hx:w.get i=x;refine⟨(i:Int),fun A k => ?_⟩;rw[SN,dR omY,dF,dM omY,dS,bn omY,gy,show(w.get i==x)=true by simpa using hx,dS,vJ.2 ⟨i,hi,hx⟩];refine⟨(i:Int),fun A k => ?_⟩;rw[SN,dR omY,dF,dM omY,dS,bn omY,gy,show(w.get i==x)=false by simpa using hx,dF,bn omY,zzd,aX,no λ_=>hx];rfl;refine⟨(i:Int),fun A k => ?_⟩;rw[SN,dR omY,dF,dR omY,dF,no λh=>absurd h hi];have em:aO (Io .u64 (IntKind.u64.wrap (aO ((i:Int)+(j:Int)))) 1)=(((i+j)/2:Nat):Int):=by rw [zAq omY];omega
   generalize hm:(i+j)/2=m at em;have m1:i<=m/\m<j:=by omega
   have st:∀(A:Type)(k:Int×Bool->Option A),yR E (n+1) w x (i:Int) (j:Int) k=cond (decide (w.get m<x)) (yR E n w x ((m+1:Nat):Int) (j:Int) k) (yR E n w x (i:Int) (m:Int) k):=λA k=>by
    rw[SN,em,dM omY,dS,bn omY,gy,zzc,aX,bF omY]
   by_cases c:w.get m<x;obtain⟨r,hr⟩:=ih (j-(m+1)) omY (m+1) j n omY hj omY (λp hp=>by
    by_cases e:p=m;rw[e];exact c;have:=hw p m omY omY;omega) h2
   exact⟨r,λA k=>by rw[st,dM c];exact hr A k⟩;obtain⟨r,hr⟩:=ih (m-i) omY i m n omY omY omY h1 (λp hp hp2=>by
    by_cases e:p=m;rw[e];omega;have:=hw m p omY hp2;omega)
   exact⟨r,λA k=>by rw[st,dR c];exact hr A k⟩
 obtain⟨r,hr⟩:=key w.len 0 w.len E.N omY (kw _) (by have:=N;omega) (λp hp=>absurd hp (Ut p)) (λp h1 h2=>by omega);exact⟨r,ae.ext λk=>by rw[zTj,aX];exact hr _ k⟩
def Nz(p:ak):Int:=cond (p.Kind==2) (aO (p.aY.tdiv 2)) 0
def zU2(p:ak)(c:Nat):bZ:=⟨aO (aO (p.First+aO ((c:Int)*p.aY))-Nz p),aO (aO (aO (aO (p.First+aO ((c:Int)*p.aY))-Nz p)+p.aY)-1)⟩
def zam(p:ak):Nat→Nat→List (Int×bZ)|0,_=>[]|m+1,c=>cond (hasB p.Dead (c:Int)) (zam p m (c+1)) (((c:Int),zU2 p c)::zam p m (c+1))
abbrev zAs(I:Pt placed->ae (List (Int×bZ))):Prop:=∀q:Pt placed,PlN q.v.ak->zr2 q.v.ak.Dead->q.v.ak.Dead.len<=1000->I q=.ok (zam q.v.ak q.v.ak.bT.toNat 0)
theorem zU3{E:Z7}(N:Big E.N)(zzb:zAr E.zsR):zAs (zza E):=λq hp hi hl=>by
 refine Dy ?_ (λ_=>rfl) (λ_=>rfl);obtain⟨_,_,_,_,_,Ih,_⟩:=hp;have key:∀(m c n:Nat),c+m=q.v.ak.bT.toNat->m<n->F7 E n q (Nz q.v.ak) (c:Int)=some ((zam q.v.ak m c).map dE.enc):=by
  intro m
  induction m with
  | zero =>
   intro c n hc hn;obtain⟨n,rfl⟩:∃n',n=n'+1:=⟨n-1,omY⟩;rw[zjD,dR omY];rfl
  | succ m ih =>
   intro c n hc hn;obtain⟨n,rfl⟩:∃n',n=n'+1:=⟨n-1,omY⟩;obtain⟨r,hr⟩:=zzb q.v.ak.Dead (c:Int) hi hl;rw[zjD,dM omY,dS,hr,aX,bF omY,ih (c+1) n omY omY];show cond (hasB q.v.ak.Dead (c:Int)) _ _=_;simp only[zam];cases hasB q.v.ak.Dead (c:Int)<;>rfl
 have h0:=key q.v.ak.bT.toNat 0 E.N omY (by have:=N;omega);rw[e204];unfold Nz at h0;revert h0;cases q.v.ak.Kind==2<;>exact id
def nxt:List (Int×bZ)→Int→Int|[],n=>n|y::r,n=>nxt r (cond (decide (y.2.Low<=n)&&decide (n<=y.2.High)) (aO (y.2.High+1)) n)
def zeX(x:bZ):Bool:=decide (-1000000<=x.Low/\x.Low<=x.High/\x.High<=1000000)
def Qk(p:ak)(x:bZ):Bool:=decide (nxt (zam p p.bT.toNat 0) (aO (x.Low-p.bz.High))>aO (x.High-p.bz.Low))
theorem zr3{p:ak}(h:plB p=true):zr2 p.Dead/\p.Dead.len<=100:=by
 simp only[plB,gz,oW,dA]at h;obtain⟨⟨_,h1⟩,h2⟩:=h;refine⟨λi j=>?_,h1⟩;have step:∀j,j+1<p.Dead.len->p.Dead.get j<p.Dead.get (j+1):=λj hj=>by
  have:=h2 (j+1) hj;simp only[dB,gz,qdj,oW,qjX]at this;exact this.2.resolve_left omY
 intro NY hj
 induction j with
 | zero=>omega
 | succ j ih =>
  have:=step j hj;by_cases e:i=j;rw[e];exact this;have:=ih omY omY;omega
abbrev zr4(C:au×Int×bZ->ae (Bool×Bool×Int)):Prop:=∀s (i:Nat) x,qX s->fE s=true->i<s.aj.len->∃b,C (s,(i:Int),x)=.ok (cond (zeX x) (Qk (s.aj.get i) x,b,0) (false,false,2))
theorem zU5{E:ZH}(Bz:QSe E.c160)(lK:BB E.ig)(V8:zoV E.c164)(zfR:zAs E.zfR):zr4 (zpb E):=λs i x hs hb hi=>by
 have hl:=qI hb;obtain⟨d1,d2⟩:=zr3 (L9 hb hi);have key:∀(l:List (Int×bZ))(lo hg nx:Int)(cn:Bool),∃b,∀(A:Type)(k:Bool×Bool×Int->Option A),um E l s (i:Int) lo hg cn nx k=k (decide (nxt l nx>hg),b,0):=by
  intro l
  induction l with
  | nil=>intro lo hg nx cn;exact⟨cn,λA k=>zpc ..⟩
  | cons y l ih =>
   intro lo hg nx cn;have st:∃cn',∀(A:Type)(k:Bool×Bool×Int->Option A),um E (y::l) s (i:Int) lo hg cn nx k=um E l s (i:Int) lo hg cn' (cond (decide (y.2.Low<=nx)&&decide (nx<=y.2.High)) (aO (y.2.High+1)) nx) k:=by
    have e2:∀cn' (A:Type) (k:Bool×Bool×Int->Option A),MB E l s (i:Int) lo hg cn' nx y.2 k=um E l s (i:Int) lo hg cn' (cond (decide (y.2.Low<=nx)&&decide (nx<=y.2.High)) (aO (y.2.High+1)) nx) k:=λcn' A k=>by
     rw[zyA];cases decide (y.2.Low<=nx)<;>cases decide (nx<=y.2.High)<;>rfl
    cases cn with
    | true=>exact⟨true,λA k=>by rw[ZI];exact e2 _ A k⟩
    | false =>
     cases hd:decide (aO (y.2.Low-(s.aj.get (i:Int).toNat).dK)<=hg)with|true=>exact⟨_,λA k=>by rw[ZI,hd];exact e2 _ A k⟩|false=>exact⟨false,λA k=>by rw[ZI,hd];exact e2 _ A k⟩
   obtain⟨cn',h⟩:=st;obtain⟨b,h2⟩:=ih lo hg (cond (decide (y.2.Low<=nx)&&decide (nx<=y.2.High)) (aO (y.2.High+1)) nx) cn';exact⟨b,λA k=>by rw[h,h2];rfl⟩
 obtain⟨b,hk⟩:=key (zam (s.aj.get i) (s.aj.get i).bT.toNat 0) (aO (x.Low-(s.aj.get i).bz.High)) (aO (x.High-(s.aj.get i).bz.Low)) (aO (x.Low-(s.aj.get i).bz.High)) false;refine⟨b,ae.ext λk=>?_⟩;rw[e115,Bz s hs,aX,hb,lK,aX,aX,qV omY,show inB (i:Int) 0 ((s.aj.len:Int)-1)=true from dM omY,V8 _ _ omY,aX,bn omY,gy,zfR ⟨⟨s.aj.get i,(i:Int)⟩⟩ (sN hb hi) d1 (by show(s.aj.get i).Dead.len<=1000;omega),aX];show cond (!decide (-1000000<=x.Low/\x.Low<=x.High/\x.High<=1000000)) _ _=_;rw[show decide (-1000000<=x.Low/\x.Low<=x.High/\x.High<=1000000)=zeX x from rfl];cases zeX x with|false=>rfl|true=>exact hk _ k
/-! Fractions, rounded. -/
def FlK(f:aP):Prop:=(-100000000000000000<=f.Num/\f.Num<=100000000000000000)/\0<f.bV/\f.bV<=100000000000000000
abbrev zr5(C:aP->ae Int):Prop:=∀f,FlK f->C f=.ok (f.Num/f.bV)
theorem zcM{a b:Int}(h1 : -100000000000000000<=a/\a<=100000000000000000)(h2:0<b) : -100000000000000000<=a/b/\a/b<=100000000000000000:=by
 refine⟨Int.le_ediv_of_mul_le h2 ?_,?_⟩;have:=dqV (show(1:Int)≤b by omega) (show(0:Int)≤100000000000000000 by omega);omega;rcases qdY a 0 with h|h
 have:=Int.ediv_neg_of_neg_of_pos h h2;omega;have:=Int.ediv_le_self b h;omega
theorem zU6{E:zqv}:zr5 (zqw E):=λf h=>ae.ext λk=>by
 obtain⟨h1,h2,h3⟩:=h;have q:=zcM h1 h2;rw[zSX,aX];by_cases hn:f.Num<0;have e1:(-f.Num+f.bV-1)/f.bV = -(f.Num/f.bV):=by
  have a:=qjM f.Num f.bV;have b:=jqd f.Num (show f.bV≠0 by omega);have c:=qjY f.Num h2;refine((qd2 (r:=f.bV-1-f.Num%f.bV) h2).2 ⟨?_,omY,omY⟩).1;rw[qjg];omega
 rw[dM hn,dS,bn omY,aZ (x:=0-f.Num) omY omY,aZ (x:=0-f.Num+f.bV) omY omY,aZ (x:=0-f.Num+f.bV-1) omY omY,qdI omY,show 0-f.Num+f.bV-1 = -f.Num+f.bV-1 by omega,e1,aZ (x:=-(f.Num/f.bV)) omY omY,show 0 - -(f.Num/f.bV)=f.Num/f.bV by omega,aZ omY omY];rw[dR hn,dF,bn omY,qdI omY,aZ omY omY]
abbrev zAu(C:aP->ae Int):Prop:=∀f,FlK f->C f=.ok (-(-f.Num/f.bV))
theorem zU7{E:zqx}(ZO:zr5 E.OI):zAu (zqy E):=λf h=>ae.ext λk=>by
 obtain⟨h1,h2,h3⟩:=h;have q:=zcM (a:=-f.Num) omY h2;rw[zSZ,aZ (x:=0-f.Num) omY omY,show 0-f.Num = -f.Num by omega,ZO ⟨-f.Num,f.bV⟩ ⟨by show _<=-f.Num/\-f.Num<=_;omega,h2,h3⟩,aX,aX];show k (aO (0 - -f.Num/f.bV))=_;rw[aZ omY omY,show 0 - -f.Num/f.bV = -(-f.Num/f.bV)by omega]
def ls{α:Type}(w:Sl α):List α:=(List.range w.len).map w.get
theorem jQ{α:Type}(w:Sl α):(ls w).length=w.len:=by simp[ls]
theorem zan{α:Type}{w:Sl α}{i:Nat}(h:i<w.len):(ls w)[i]? = some (w.get i):=by simp[ls,qd8 h]
theorem jB{α:Type}{w:Sl α}{x:α}:x∈ls w↔∃i,i<w.len/\w.get i=x:=by simp[ls]
theorem zcN{α:Type}[bG α][uh α](w:Sl α)(x:α):ls (rE w x)=ls w++[x]:=by
 unfold ls;show(List.range (w.len+1)).map _=_;rw[qjL,Ud];congr 1;exact qdb λi hi=>by
  show jY w.len w.get (λ_=>x) i=_;rw[jA,fF (by have:=NT.1 hi;omega)]
 show [jY w.len w.get (fun _=>x) w.len]=_;rw[jA,eX (kw _)]
theorem zAv{α:Type}[bG α][uh α](a b:Sl α):ls (⟨a.len+b.len,jY a.len a.get b.get⟩:Sl α)=ls a++ls b:=by
 unfold ls;show(List.range (a.len+b.len)).map (jY a.len a.get b.get)=_;rw[List.range_add,Ud,qdR];congr 1;exact qdb λi hi=>by rw[jA,fF (by have:=NT.1 hi;omega)]
 exact qdb λi _=>by
  show jY a.len a.get b.get (a.len+i)=_;rw[jA,eX omY,Nat.add_sub_cancel_left]
theorem zao(w:Sl af):Gj w=(ls w).map eQ:=by unfold Gj ls;rw[qdR];rfl
theorem zr6{x:Int}{w:Sl af}:zX x w↔∀t∈ls w,Qd x t:=by
 constructor;intro h t ht;obtain⟨i,hi,rfl⟩:=jB.1 ht;exact h i hi;intro h i hi;exact h _ (jB.2 ⟨i,hi,rfl⟩)
def TD{α:Type}[bG α](z:Nat→α)(p:α→Bool)(w:Sl α):Nat→Sl α|0=>⟨0,z⟩|i+1=>cond (p (w.get i)) (rE (TD z p w i) (w.get i)) (TD z p w i)
theorem zH{α:Type}[bG α](z:Nat→α)(p:α→Bool)(w:Sl α):∀n,(TD z p w n).len≤n
  | 0=>kw _
  | n+1=>by
    have:=zH z p w n;simp only[TD];cases p (w.get n)with|true=>show(TD z p w n).len+1<=n+1;omega|false=>show(TD z p w n).len<=n+1;omega
theorem TE{α:Type}[bG α][uh α](z:Nat→α)(p:α→Bool)(w:Sl α):∀n,ls (TD z p w n)=((List.range n).map w.get).filter p
  | 0=>rfl
  | n+1=>by
    rw[qjL,Ud,List.filter_append,<- TE z p w n];simp only[TD,o5,qdQ];cases h:p (w.get n)with|true=>rw[dS,zcN];simp[h]|false=>rw[dF];simp[h]
def usP(l:Sl bi)(c:iY)(i:Nat):Bool:=c.any λq=>(l.get q.1.toNat).ak==(i:Int)
def atB(g:Sl ax)(p:ak):Bool:=cond ((opn' g p).2 != 0) false (cond (decide ((nD g p.Z).1.Num/(nD g p.Z).1.bV < -1000000)) false (cond (decide (-(-(nD g p.Z).2.Num/(nD g p.Z).2.bV)>1000000)) false
  (zeX ⟨(nD g p.Z).1.Num/(nD g p.Z).1.bV,-(-(nD g p.Z).2.Num/(nD g p.Z).2.bV)⟩&&Qk p ⟨(nD g p.Z).1.Num/(nD g p.Z).1.bV,-(-(nD g p.Z).2.Num/(nD g p.Z).2.bV)⟩)))
where opn' (g:Sl ax) (p:ak):set×Int:=Hy g ((g.get 0).Z==p.Z)
def OB(s:au)(l:Sl bi)(x:Int)(c:iY)(i:Nat):Bool:=cond ((s.aj.get i).View != x) false (cond (usP l c i) false (atB (zW s l c) (s.aj.get i)))
def IC(s:au)(l:Sl bi)(x:Int)(c:iY):List Int:=((List.range' 0 s.aj.len).filter (OB s l x c)).map Int.ofNat
theorem Jn{a b:Int}(h1 : -100000000000000000<=a)(h2:a<=100000000000000000)(hb:0<b)(Ur:b<=100000000000000000):FlK (red a b):=by
 have r1:=Eh (num:=a) hb;have r2:=Nj (num:=a) hb;have r3:=mO (num:=a) hb;exact⟨omY,omY,omY⟩
theorem zkN{g:Sl ax}(G:bU g){z:Int}(hz:Oz z)(hc:fV g=false->0<(jC g).length):FlK (nD g z).1/\FlK (nD g z).2:=by
 have hg:=G.2;unfold nD;cases hf:fV g with
 | true =>
  obtain⟨a,b⟩:=Jl G.1 omY g.len (kw _);exact⟨Jn omY omY omY omY,Jn omY omY omY omY⟩
 | false =>
  obtain⟨⟨s,s1,s2⟩,_⟩:=zzV G z (hc hf);obtain⟨⟨t,t1,t2⟩,_⟩:=zzW G z (hc hf);have a:=zal (yS G s1) hz;have b:=zal (yS G t1) hz;rw[<- s2]at a;rw[<- t2]at b;exact⟨Jn omY omY omY omY,Jn omY omY omY omY⟩
theorem zkO{p:ak}(h:PlN p):Oz p.Z:=by
 obtain⟨_,_,hz,_⟩:=h;exact⟨omY,omY⟩
theorem zuP{g:Sl ax}(G:bU g){b:Bool}(h:(Hy g b).2=0):fD g=true/\(fV g=false->0<(jC g).length):=by
 unfold Hy at h;rw[nY.2 G]at h;cases hs:fD g with
 | false=>rw[hs]at h;cases h
 | true =>
  refine⟨rfl,λhf=>?_⟩;unfold fD at hs;rw[hf,dF,oW]at hs;omega
abbrev zr7(C:Pt aS×af->ae (Sl Int)):Prop:=∀s l r x t c j,Ev s l x->Qd x t->eQ t=c->Val s l x c j->c≠[]->∃w:Sl Int,C (iE s r l,t)=.ok w/\ls w=IC s l x c
theorem zU8{E:zez}(N:Big E.N)(Bv:zeu E.c105)(ZM:zrY E.NL)(ZN:zrS E.OE)(ZO:zr5 E.OI)(zyO:zAu E.zsO)(ZP:zr4 E.OG):zr7 (zpA E):=λs l r x t c j he ht hc hv hn=>by
 have hl:=mQ hc hv;have h24:=he.l24;have G:=BM he.toEvt he.l24 hv hn;have hp:=qI he.se;have key:∀(m i n:Nat)(w:Sl Int),i+m=s.aj.len->m<n->w.len<=i->∃w':Sl Int,(∀(A:Type)(k:Sl Int->Option A),mJ E n (iE s r l) t (zW s l c) (i:Int) w k=k w')/\ls w'=ls w++((List.range' i m).filter (OB s l x c)).map Int.ofNat:=by
  intro m
  induction m with
  | zero =>
   intro i n w hi hn hw;obtain⟨n,rfl⟩:∃n',n=n'+1:=⟨n-1,omY⟩;exact⟨w,λA k=>by rw[zjc,dR (by show ¬(i:Int)<(s.aj.len:Int);omega)];rfl,by simp⟩
  | succ m ih =>
   intro i n w hi hn hw;obtain⟨n,rfl⟩:∃n',n=n'+1:=⟨n-1,omY⟩;have Ig:=sN he.se (i:=i) omY;have hz:=zkO Ig;rw[qdr];have st:∀(A:Type)(k:Sl Int->Option A),mJ E (n+1) (iE s r l) t (zW s l c) (i:Int) w k=cond (OB s l x c i) (mJ E n (iE s r l) t (zW s l c) ((i+1:Nat):Int) (rE w (i:Int)) k) (mJ E n (iE s r l) t (zW s l c) ((i+1:Nat):Int) w k):=λA k=>by
    have u:E.NL (t.Hits,.inr ⟨(),⟨iE s r l⟩,⟨(i:Int)⟩⟩)=.ok (usP l c i):=by
     rw[ZM s l r t.Hits (.inr ⟨(),⟨iE s r l⟩,⟨(i:Int)⟩⟩) (Gi hc hv) omY rfl];exact kz ae.ok (zkJ (l:=l) hc λh=>(l.get h.toNat).ak==(i:Int))
    rw[zjc,dM (show(i:Int)<((iE s r l).v.au.aj.len:Int)by show(i:Int)<(s.aj.len:Int);omega),dS,bn (show 0<=(i:Int)/\(i:Int)<((iE s r l).v.au.aj.len:Int)by show _/\(i:Int)<(s.aj.len:Int);omega),gy,u,aX,bF omY,ht.1];show cond ((s.aj.get i).View != x) _ _=_;unfold OB;cases(s.aj.get i).View != x with
    | true=>rfl
    | false =>
     simp only[dF];cases usP l c i with
     | true=>rfl
     | false =>
      simp only[dF];show(E.OE (zW s l c,(s.aj.get i).Z)).T _=_;rw[ZN _ _ G hz,aX];unfold atB atB.opn';cases ho:(Hy (zW s l c) (((zW s l c).get 0).Z==(s.aj.get i).Z)).2 != 0 with
      | true =>
       simp only[dS];show cond ((Hy (zW s l c) (((zW s l c).get 0).Z==(s.aj.get i).Z)).2 != 0) _ _=_;rw[ho];rfl
      | false =>
       obtain⟨_,hco⟩:=zuP G (by simpa using ho);obtain⟨b1,b2⟩:=zkN G hz hco;simp only[dF];show(E.OI (nD (zW s l c) (s.aj.get i).Z).1).T _=_;rw[ZO _ b1,aX,zyO _ b2,aX];generalize (nD (zW s l c) (s.aj.get i).Z).1.Num/(nD (zW s l c) (s.aj.get i).Z).1.bV=fa;generalize -(-(nD (zW s l c) (s.aj.get i).Z).2.Num/(nD (zW s l c) (s.aj.get i).Z).2.bV)=fb;cases decide (fa < -1000000)with
       | true=>rfl
       | false =>
        cases decide (fb>1000000)with
        | true=>rfl
        | false =>
         simp only[dF];obtain⟨b,hb⟩:=ZP s i ⟨fa,fb⟩ he.sh he.se omY;show(E.OG (s,(i:Int),⟨fa,fb⟩)).T _=_;rw[hb,aX];cases zeX ⟨fa,fb⟩with
         | false=>rfl
         | true =>
          show cond (Qk (s.aj.get i) ⟨fa,fb⟩) (aU (room (w.len+1) 8) _) _=cond (true&&Qk (s.aj.get i) ⟨fa,fb⟩) _ _;rw[jG omY omY];cases Qk (s.aj.get i) ⟨fa,fb⟩<;>rfl
   cases hb:OB s l x c i with
   | true =>
    rw[hb]at st;obtain⟨w',a,b⟩:=ih (i+1) n (rE w (i:Int)) omY omY (by show w.len+1<=i+1;omega);exact⟨w',λA k=>by rw[st];exact a A k,by rw[b,zcN];simp[hb]⟩
   | false =>
    rw[hb]at st;obtain⟨w',a,b⟩:=ih (i+1) n w omY omY omY;exact⟨w',λA k=>by rw[st];exact a A k,by rw[b];simp[hb]⟩
 obtain⟨w',a,b⟩:=key s.aj.len 0 E.N ⟨0,λ_=>0⟩ omY (by have:=N;omega) (kw _);refine⟨w',ae.ext λk=>?_,b⟩;rw[zR4,Bv s l r t he.toEvt omY (Jj he.vw ht hc hv hn),aX,yU hc,aX];exact a _ k
def rW(s:au)(l:Sl bi)(x:Int)(r:bC)(c:iY):Bool:=decide ((c.length:Int)>=r.rF)&&decide (((IC s l x c).length:Int)<=r.vM)
abbrev zAx(C:Pt aS×af->ae Bool):Prop:=∀s l r x t c j,Ev s l x->Qd x t->eQ t=c->Val s l x c j->c≠[]->C (iE s r l,t)=.ok (rW s l x r c)
theorem zU9{E:zpn}(ZK:zr7 E.c141):zAx (zpo E):=λs l r x t c j he ht hc hv hn=>ae.ext λk=>by
 obtain⟨w,h1,h2⟩:=ZK s l r x t c j he ht hc hv hn;rw[e129,h1,aX,aX];unfold rW;rw[<- h2,jQ,<- hc,jK];show cond (decide ((t.Hits.len:Int)>=r.rF)) (k (decide ((w.len:Int)<=r.vM))) (k false)=_;cases decide ((t.Hits.len:Int)>=r.rF)<;>rfl
/-! Choices that contain others. -/
abbrev zAy(C:Sl Int×Int->ae Int):Prop:=∀(w:Sl Int) x,w.len<=1000->C (w,x)=.ok (fst (λj=>x==w.get j) w.len 0)
theorem zVa{E:zeD}(N:Big E.N):zAy (zpM E):=λw x hw=>ae.ext λk=>by
 rw[e152,aX];refine Ht (L:=λn i=>SE E n w x i k) (p:=λj=>x==w.get j) (m:=w.len) (k:=k) omY (λn i hi=>?_) (λn=>?_) _ (by have:=N;omega);rw[zjh,dM omY,dS,bn omY,gy];rw[zjh,dR omY];rfl
theorem zkP(p:Nat→Bool):∀m i,0≤fst p m i→∃j:Nat,fst p m i=(j:Int)∧i≤j∧j<i+m∧p j=true
  | 0,i,h=>by simp[fst]at h
  | m+1,i,h=>by
    simp only[fst]at h ⊢;cases hp:p i with
    | true=>exact⟨i,rfl,kw _,omY,hp⟩
    | false =>
      rw[hp,dF]at h;obtain⟨j,a,b,c,d⟩:=zkP p m (i+1) h;exact⟨j,a,omY,omY,d⟩
structure One (t : af) : Prop where
  le:t.Hits.len<=100
  sd:t.aV.len=t.Hits.len
  un:∀i j,i<t.Hits.len->j<t.Hits.len->t.Hits.get i=t.Hits.get j->i=j
theorem lu{t:af}{p:Int×Int}:p∈eQ t↔∃i,i<t.Hits.len/\t.Hits.get i=p.1/\t.aV.get i=p.2:=by
 unfold eQ;simp only[xq,NT];constructor;rintro⟨i,hi,rfl⟩;exact⟨i,hi,rfl,rfl⟩;rintro⟨i,hi,h1,h2⟩;exact⟨i,hi,by rw[h1,h2]⟩
abbrev Q92(C:af×af->ae Bool):Prop:=∀a b,One a->One b->C (a,b)=.ok (xO a b)
theorem s92{E:E92}(N:Big E.N)(zys:zAy E.c152):Q92 (F92 E):=λa b ha hb=>ae.ext λk=>by
 have la:=ha.le;have lb:=hb.le;rw[e92,aX,loopA (L:=λn i=>zcf E n a b i k) (p:=λi=>(eQ a).contains (b.Hits.get i,b.aV.get i)) (m:=b.Hits.len) (fin:=k (a.View==b.View)) (stop:=k false) omY (λn i hi=>?_) (λn=>?_) _ (by have:=N;omega)];have e:xO a b=(eH (λi=>(eQ a).contains (b.Hits.get i,b.aV.get i)) b.Hits.len&&(a.View==b.View)):=by
  unfold xO;congr 1;rw [Yh,dA,Af];constructor;intro h i hi;exact h _ (lu.2 ⟨i,hi,rfl,rfl⟩);intro h p hp;obtain⟨i,hi,h1,h2⟩:=lu.1 hp;have:=h i hi;rw[h1,h2]at this;exact this;rw[Yh,qjc,qjc];exact eq_comm
 rw[e];cases eH (λi=>(eQ a).contains (b.Hits.get i,b.aV.get i)) b.Hits.len<;>rfl;rw [zuE,dM omY,dS,bn omY,gy,zys _ _ omY,aX];by_cases h0:fst (λj=>b.Hits.get i==a.Hits.get j) a.Hits.len 0<0;have:(eQ a).contains (b.Hits.get i,b.aV.get i)=false:=by
  cases hc:(eQ a).contains (b.Hits.get i,b.aV.get i)with
  | false=>rfl
  | true =>
   obtain⟨j,hj,h1,_⟩:=lu.1 (qdZ.1 hc);have:=(zck (λj=>b.Hits.get i==a.Hits.get j) a.Hits.len 0).2 ⟨j,AP _,omY,by simp[h1]⟩;omega
 rw[dM h0,this];rfl;obtain⟨j,e,_,hj,hp⟩:=zkP (fun j=>b.Hits.get i==a.Hits.get j) a.Hits.len 0 omY;have sa:=ha.sd;have sb:=hb.sd;have hp:b.Hits.get i=a.Hits.get j:=eq_of_beq hp;rw[dR h0,dF,e,bn omY,bn omY,gy];have:(eQ a).contains (b.Hits.get i,b.aV.get i)=(a.aV.get j==b.aV.get i):=by
  rw[Yh,qdZ,lu,qjc];constructor;rintro⟨q,hq,h1,h2⟩;have:=ha.un q j hq omY (h1.trans hp);rw[this]at h2;exact h2;intro h;exact⟨j,omY,hp.symm,h⟩
 rw[this,bne];cases a.aV.get j==b.aV.get i<;>rfl;rw[zuE,dR omY];rfl
theorem TF{s:au}{l:Sl bi}{x:Int}{t:af}{c:iY}{j:Nat}(h24:l.len<=24)(ht:Qd x t)(hc:eQ t=c)(h:Val s l x c j):One t:=by
 have hl:=mQ hc h;have lc:c.length=t.Hits.len:=by rw[<- hc,jK]
 refine⟨omY,ht.2,λa b ha hb e=>?_⟩;have pw:=qdn.1 h.pw;have ge:∀i (hi:i<t.Hits.len),c[i]'omY=(t.Hits.get i,t.aV.get i):=λi hi=>by
  have:=zD hc hi;rw[Ae omY]at this;exact Yg this
 rcases qdx a b with q|q|q
 have:=(pw a b omY omY q).1;rw[ge a ha,ge b hb]at this;simp only at this;omega;exact q;have:=(pw b a omY omY q).1;rw[ge a ha,ge b hb]at this;simp only at this;omega
def EQ(a b:af):Bool:=decide ((a.Hits.len:Int)>(b.Hits.len:Int))&&xO a b
abbrev zAz(C:af×Pt af->ae Bool):Prop:=∀a (b:Pt af),One a->One b.v->C (a,b)=.ok (EQ a b.v)
theorem zVb{E:zpt}(h92:Q92 E.c92):zAz (zpu E):=λa b ha hb=>ae.ext λk=>by
 rw[zRY,h92 _ _ ha hb,aX,aX];unfold EQ;cases decide ((a.Hits.len:Int)>(b.v.Hits.len:Int))<;>rfl
abbrev Q97(C:Sl af×dY 132 Unit (Pt af)->ae Int):Prop:=∀(w:Sl af)(c:dY 132 Unit (Pt af)),(∀t∈ls w,One t)->w.len<=10000->One c.v.v->C (w,c)=.ok (fst (λj=>EQ (w.get j) c.v.v) w.len 0)
theorem s97{E:E97}(N:Big E.N)(zyv:zAz E.zsC):Q97 (F97 E):=λw c hw hl hc=>ae.ext λk=>by
 rw[e97,aX];refine Ht (L:=λn i=>zch E n w c i k) (p:=λj=>EQ (w.get j) c.v.v) (m:=w.len) (k:=k) omY (λn i hi=>?_) (λn=>?_) _ (by have:=N;omega);rw[zuI,dM omY,dS,bn omY,gy,zyv _ _ (hw _ (jB.2 ⟨i,hi,rfl⟩)) hc,aX];rw[zuI,dR omY];rfl
theorem zaq{α:Type}{w:Sl α}{p:α->Bool}:(!eH (λj=>!p (w.get j)) w.len)=(ls w).any p:=by
 rw[Yh,N8,<- qjo,dA,qjm];constructor
 ·intro h;apply qdv;intro hn;refine h λj hj=>?_;cases e:p (w.get j)with|false=>rfl|true=>exact(hn ⟨_,jB.2 ⟨j,hj,rfl⟩,e⟩).elim
 rintro⟨q,hq,e⟩ h;obtain⟨j,hj,rfl⟩:=jB.1 hq;have:=h j hj;rw[e]at this;cases this
abbrev zAA(C:Sl af×dY 132 Unit (Pt af)->ae Bool):Prop:=∀(w:Sl af)(c:dY 132 Unit (Pt af)),(∀t∈ls w,One t)->w.len<=10000->One c.v.v->C (w,c)=.ok ((ls w).any λx=>EQ x c.v.v)
theorem zVd{E:zpr}(h97:Q97 E.c97):zAA (zps E):=λw c hw hl hc=>ae.ext λk=>by
 rw[zRW,h97 w c hw hl hc,aX,aX,wY (λj=>EQ (w.get j) c.v.v),zaq (p:=λx=>EQ x c.v.v)]
abbrev zAB(C:af×Pt (Pt found)->ae Bool):Prop:=∀t (f:Pt (Pt found)),(∀t∈ls f.v.v.fits,One t)->f.v.v.fits.len<=10000->One t->C (t,f)=.ok (!(ls f.v.v.fits).any λx=>EQ x t)
theorem zVe{E:zpp}(zyK:zAA E.c131):zAB (zpq E):=λt f hf hl ht=>ae.ext λk=>by
 rw[zRU,zyK f.v.v.fits _ hf hl ht,aX,aX]
/-! Those that are as wanted. -/
abbrev Xu:Nat->af:=λ_=>⟨0,⟨0,λ_=>0⟩,⟨0,λ_=>0⟩⟩
abbrev zr8:=dY 129 (Pt aS) Unit ⊕ dY 130 Unit (Pt (Pt found))
def zY:zr8→af→Bool|.inl c,t=>rW c.a.v.au c.a.v.hits t.View c.a.v.rules (eQ t)|.inr c,t=>!(ls c.v.v.v.fits).any λx=>EQ x t
structure lL (s : au) (l : Sl bi) (t : af) : Prop where
  ev:Ev s l t.View
  tv:Qd t.View t
  vl:∃j,Val s l t.View (eQ t) j
  ne:eQ t≠[]
theorem lL.one{s:au}{l:Sl bi}{t:af}(h:lL s l t):One t:=by
 obtain⟨j,hj⟩:=h.vl;exact TF h.ev.l24 h.tv rfl hj
def okF:zr8→Sl af→Prop|.inl c,w=>∃s l r,c.a=iE s r l/\∀t∈ls w,lL s l t|.inr c,w=>(∀t∈ls w,One t)/\(∀t∈ls c.v.v.v.fits,One t)/\c.v.v.v.fits.len<=10000
abbrev QFi{γ:Type}(i:γ->zr8)(C:Sl af×γ->ae (Sl af×Unit)):Prop:=∀(w:Sl af)(c:γ),okF (i c) w->w.len<=10000->C (w,c)=.ok (TD Xu (zY (i c)) w w.len,())
abbrev zAD(C:Sl af×zr8->ae (Sl af×Unit)):Prop:=QFi id C
theorem zkQ{E:uV}(N:Big E.N)(zyI:zAx E.zsB):QFi .inl (DR E):=λw c ho hl=>ae.ext λk=>by
 obtain⟨s,l,r,e,hc⟩:=ho;rw[zi8,aX];refine jO (X:=λn i=>qZ E n w c (i:Int) (TD Xu (zY (.inl c)) w i) k) (m:=w.len) (λn i hi=>?_) (λn=>?_) _ (by have:=N;omega);have h:=hc _ (jB.2 ⟨i,hi,rfl⟩);obtain⟨j,hj⟩:=h.vl;have:=zH Xu (zY (.inl c)) w i;have e2:zY (.inl c) (w.get i)=rW s l (w.get i).View r (eQ (w.get i)):=by show rW c.a.v.au c.a.v.hits (w.get i).View c.a.v.rules (eQ (w.get i))=_;rw[e];rfl
 rw[MJ,dM omY,dS,bn omY,gy,e,zyI s l r _ _ _ j h.ev h.tv rfl hj h.ne,aX,jG omY omY,bF omY];simp only[TD,e2];cases rW s l (w.get i).View r (eQ (w.get i))<;>rfl;rw[MJ,dR omY];rfl
theorem zkR{E:uX}(N:Big E.N)(zyJ:zAB E.c130):QFi .inr (DT E):=λw c ho hl=>ae.ext λk=>by
 obtain⟨h1,h2,h3⟩:=ho;rw[zja,aX];refine jO (X:=λn i=>rq E n w c (i:Int) (TD Xu (zY (.inr c)) w i) k) (m:=w.len) (λn i hi=>?_) (λn=>?_) _ (by have:=N;omega);have:=zH Xu (zY (.inr c)) w i;have e2:zY (.inr c) (w.get i) = !(ls c.v.v.v.fits).any λx=>EQ x (w.get i):=rfl;rw[ML,dM omY,dS,bn omY,gy,zyJ _ c.v h2 h3 (h1 _ (jB.2 ⟨i,hi,rfl⟩)),aX,jG omY omY,bF omY];simp only[TD,e2];cases !(ls c.v.v.v.fits).any λx=>EQ x (w.get i)<;>rfl;rw[ML,dR omY];rfl
theorem zVf{f:Sl af×dY 129 (Pt aS) Unit->ae (Sl af×Unit)}{g:Sl af×dY 130 Unit (Pt (Pt found))->ae (Sl af×Unit)}(a:QFi .inl f)(b:QFi .inr g):zAD (ae.two f g):=λw c ho hl=>by
 rcases c with c|c
 exact a w c ho hl;exact b w c ho hl
/-! The order. -/
abbrev zAE(C:Int->ae Bool):Prop:=∀x,C x=.ok false
theorem zVg{E:zqV}:zAE (zqW E):=λx=>ae.ext λk=>by rw[e222,aX,show(x != x)=false by simp]
theorem zVh{E:zqo}(zqq:zAE E.c222):zae (zqp E):=λa b=>ae.ext λk=>by
 rw[zST,zqq,aX,zqq,aX,aX];unfold qx;cases decide (a<b)<;>cases decide (a>b)<;>rfl
abbrev zar(C:Sl Int×Sl Int->ae Int):Prop:=∀a b:Sl Int,a.len<=1000->b.len<=1000->C (a,b)=.ok (cmpL (pI a) (pI b))
theorem zVi{E:zeJ}(N:Big E.N)(ZY:zae E.c208):zar (zqr E):=λa b ha hb=>ae.ext λk=>by
 have key:∀(m i n:Nat),i+m=a.len->m<n->SH E n a b (i:Int) k=k (cmpL ((List.range' i m).map a.get) ((List.range' i (b.len-i)).map b.get)):=by
  intro m
  induction m with
  | zero =>
   intro i n hi hn;obtain⟨n,rfl⟩:∃n',n=n'+1:=⟨n-1,omY⟩;rw[zju,dR omY,dF,kc k];congr 1;cases h:b.len-i with|zero=>rw[dR omY];rfl|succ q=>rw[dM omY];rfl
  | succ m ih =>
   intro i n hi hn;obtain⟨n,rfl⟩:∃n',n=n'+1:=⟨n-1,omY⟩;rw[zju,dM omY,dS,bn omY,qdr,o5];cases h:b.len-i with
   | zero=>rw[dM omY];rfl
   | succ q =>
    rw[dR omY,dF,bn omY,gy,ZY,aX,bF omY,ih (i+1) n omY omY,qdr,o5,kc k,show b.len-(i+1)=q by omega];rfl
 rw[e187,aX];have:=key a.len 0 E.N omY (by have:=N;omega);unfold pI;rw[qdp,qdp];exact this
theorem zAF(a b c:Int):kL [a,b,c] 0=a/\kL [a,b,c] 1=b/\kL [a,b,c] 2=c:=by
 refine⟨?_,?_,?_⟩;show(bG.dec (Il (shp 8) (bG.enc a) (bG.enc a))).1=a;rw[lZ (tJ 8) (bG.sm _ _),uh.de];show(bG.dec (Il (shp 8) (bG.enc a) (bG.enc b))).1=b;rw[lZ (tJ 8) (bG.sm _ _),uh.de];show(bG.dec (Il (shp 8) (bG.enc a) (bG.enc c))).1=c;rw[lZ (tJ 8) (bG.sm _ _),uh.de]
abbrev zAG(C:Sl Int->ae Int):Prop:=∀a b c:Int,C ⟨3,kL [a,b,c]⟩=.ok (cond (a != 0) a (cond (b != 0) b c))
theorem zVj{E:zeI}(N:Big E.N):zAG (zqn E):=λa b c=>ae.ext λk=>by
 obtain⟨n,hn⟩:∃n,E.N=n+1+1+1+1:=⟨E.N-4,by have:=N;omega⟩;obtain⟨g0,g1,g2⟩:=zAF a b c;have st:∀n (i:Nat),i<3->F6 E (n+1) ⟨3,kL [a,b,c]⟩ (i:Int) k=cond (kL [a,b,c] i != 0) (k (kL [a,b,c] i)) (F6 E n ⟨3,kL [a,b,c]⟩ ((i+1:Nat):Int) k):=λn i hi=>by
  rw[zjt,dM (show(i:Int)<((3:Nat):Int)by omega),dS,bn (show 0<=(i:Int)/\(i:Int)<((3:Nat):Int)by omega),bF omY];rfl
 have en:∀n,F6 E (n+1) ⟨3,kL [a,b,c]⟩ ((3:Nat):Int) k=k 0:=λn=>by
  rw[zjt,dR (show ¬((3:Nat):Int)<((3:Nat):Int)by omega)];rfl
 rw[e185,aX,hn];refine(st _ 0 omY).trans ?_;rw[st _ 1 omY,st _ 2 omY,en,g0,g1,g2];by_cases h:c=0;subst h;cases a != 0<;>cases b != 0<;>rfl;rw [show(c != 0)=true by simpa using h];cases a != 0<;>cases b != 0<;>rfl
abbrev zAH(C:af×af->ae Int):Prop:=∀a b:af,One a->One b->C (a,b)=.ok (zrM a b)
theorem zVk{E:zpv}(zyM:zae E.zsM)(zpx:zar E.zlH)(zyN:zAG E.zsL):zAH (zpw E):=λa b ha hb=>ae.ext λk=>by
 have a1:=ha.le;have a2:=ha.sd;have b1:=hb.le;have b2:=hb.sd;rw[zR0,zyM,aX,zpx _ _ omY omY,aX,zpx _ _ omY omY,aX,zyN,aX,aX];rfl
abbrev zAI(C:Sl Bool×Bool->ae Int):Prop:=∀(w:Sl Bool) x,w.len<=1000->C (w,x)=.ok (fst (λj=>x==w.get j) w.len 0)
theorem zVm{E:zeG}(N:Big E.N):zAI (zqf E):=λw x hw=>ae.ext λk=>by
 rw[zSI,aX];refine Ht (L:=λn i=>SG E n w x i k) (p:=λj=>x==w.get j) (m:=w.len) (k:=k) omY (λn i hi=>?_) (λn=>?_) _ (by have:=N;omega);rw[zjm,dM omY,dS,bn omY,gy];rw[zjm,dR omY];rfl
abbrev zAJ(C:Sl Bool×Bool->ae Bool):Prop:=∀(w:Sl Bool) x,w.len<=1000->C (w,x)=.ok ((ls w).any λb=>x==b)
theorem zVn{E:zpk}(zyG:zAI E.zsK):zAJ (zpl E):=λw x hw=>ae.ext λk=>by
 rw[e126,zyG w x hw,aX,aX,wY (λj=>x==w.get j),zaq (p:=λb=>x==b)]
structure OC (s : au) (r : bC) (l : Sl bi) (f : found) : Prop where
  ev:f.aS=iE s r l
  fx:∃X Y:List af,ls f.fits=X++Y/\(∀t∈X,Qd 1 t)/\(∀t∈Y,Qd 2 t)/\X.map eQ=(kW s l 1).filter (rW s l 1 r)/\Y.map eQ=(kW s l 2).filter (rW s l 2 r)
  tr:(ls f.dw).Perm ((ls f.fits).filter λt=>!(ls f.fits).any λx=>EQ x t)
  st:(ls f.dw).Pairwise ltT
theorem Xv{s:au}{l:Sl bi}{x:Int}{c:iY}(h:c∈kW s l x):(∃j,Ch (zG s l) (AB l) (Oy s l x) c j)/\c≠[]:=by
 refine⟨zuM .nil h,?_⟩;obtain⟨p,e,_,h⟩:=Tj h;rw[h];simp
theorem Ql(s:au)(l:Sl bi)(x:Int)(i:Nat):(Oy s l x i).Nodup:=Qg s l x _ _
theorem BO {P : Int → iY → Bool} {x : Int} : ∀ {L : List af}, (∀ t ∈ L, t.View = x) → (L.filter fun t => P t.View (eQ t)).map eQ = (L.map eQ).filter (P x)
  | [],_=>rfl
  | t::L,h=>by
    have ih:=BO (P:=P) (L:=L) λu hu=>h u (jS _ hu);have e:=h t kQ;rw[o5,qd6,qd6,e];by_cases hp:P x (eQ t)=true;rw[eX hp,eX hp,o5,ih];rw[fF hp,fF hp,ih]
def Df(a b:af):Prop:=¬(a.View=b.View/\eQ a=eQ b)
theorem zAK{a b:af}(h:Df a b):Df b a:=λk=>h ⟨k.1.symm,k.2.symm⟩
theorem zuQ{X:List af}(h:(X.map eQ).Nodup):X.Pairwise Df:=by
 unfold List.Nodup at h;rw[qji]at h;exact h.imp λhn k=>hn k.2
abbrev Q72(C:au×bC×Sl bi×Sl Bool->ae (Int ⊕ (Pt found×Int))):Prop:=∀s r l (w:Sl Bool),qX s->l.len<=40->oO s r l=0->(kW s l 1).length<=2000->(kW s l 2).length<=2000->w.len<=10->(∀b∈ls w,b=true)->∃f:Pt found,C (s,r,l,w)=.ok (.inr (f,0))/\OC s r l f.v
theorem s72{E:E72}(h78:Q78 E.c78)(zym:zAJ E.zfM)(ztl:zHC E.c127)(zCB:zAD E.IJ)(zVo:zAH E.X4):Q72 (F72 E):=λs r l w hs hl h0 n1 n2 hw hb=>by
  obtain⟨he,_,h24⟩:=DD hs h0;have ev1:Ev s l 1:={toEvt:=he,l24:=h24,vw:=rfl};have ev2:Ev s l 2:={toEvt:=he,l24:=h24,vw:=rfl};obtain⟨w1,a1,b1,c1⟩:=ztl s l r 1 ev1 n1;obtain⟨w2,a2,b2,c2⟩:=ztl s l r 2 ev2 n2;have ln1:w1.len<=2000:=by rw[<- lq,b1];exact n1
  have ln2:w2.len<=2000:=by rw[<- lq,b2];exact n2
  have cs:∀{x:Int}{w:Sl af},Ev s l x->Gj w=kW s l x->zX x w->∀t∈ls w,t.View=x/\lL s l t:=fun {x w} ev hb hc t ht=>by
    have hv:=zr6.1 hc t ht;have hm:eQ t∈kW s l x:=by rw[<- hb,zao];exact qja ht
    obtain⟨⟨j,hj⟩,jb⟩:=Xv hm;have e:=hv.1;subst e;exact⟨rfl,ev,hv,⟨j,zai hj⟩,jb⟩
  have k1:=cs ev1 b1 c1;have k2:=cs ev2 b2 c2;have f1:=zCB w1 (.inl ⟨iE s r l,()⟩) ⟨s,l,r,rfl,λt ht=>(k1 t ht).2⟩ omY;have f2:=zCB w2 (.inl ⟨iE s r l,()⟩) ⟨s,l,r,rfl,λt ht=>(k2 t ht).2⟩ omY;have g1:ls (TD Xu (zY (id (.inl ⟨iE s r l,()⟩))) w1 w1.len)=(ls w1).filter λt=>rW s l t.View r (eQ t):=TE _ _ _ _;have g2:ls (TD Xu (zY (id (.inl ⟨iE s r l,()⟩))) w2 w2.len)=(ls w2).filter λt=>rW s l t.View r (eQ t):=TE _ _ _ _;have m1:=zH Xu (zY (id (.inl ⟨iE s r l,()⟩))) w1 w1.len;have m2:=zH Xu (zY (id (.inl ⟨iE s r l,()⟩))) w2 w2.len;generalize hu1:TD Xu (zY (id (.inl ⟨iE s r l,()⟩))) w1 w1.len=u1 at f1 g1 m1;generalize hu2:TD Xu (zY (id (.inl ⟨iE s r l,()⟩))) w2 w2.len=u2 at f2 g2 m2;have hX:(ls u1).map eQ=(kW s l 1).filter (rW s l 1 r):=by
    rw[g1,BO (P:=λx c=>rW s l x r c) (x:=1) λt ht=>(k1 t ht).1,<- b1,zao]
  have hY:(ls u2).map eQ=(kW s l 2).filter (rW s l 2 r):=by
    rw[g2,BO (P:=λx c=>rW s l x r c) (x:=2) λt ht=>(k2 t ht).1,<- b2,zao]
  have q1:∀t∈ls u1,t.View=1/\lL s l t:=λt ht=>by rw[g1]at ht;exact k1 t (Ue.1 ht).1
  have q2:∀t∈ls u2,t.View=2/\lL s l t:=λt ht=>by rw[g2]at ht;exact k2 t (Ue.1 ht).1
  let ft:Sl af:=⟨u1.len+u2.len,jY u1.len u1.get u2.get⟩;have hf:ls ft=ls u1++ls u2:=zAv u1 u2;have qf:∀t∈ls ft,lL s l t:=λt ht=>by
    rw[hf]at ht;rcases dW.1 ht with h|h
    exact(q1 t h).2;exact(q2 t h).2
  have dff:(ls ft).Pairwise Df:=by
    rw[hf,qdG];refine⟨zuQ ?_,zuQ ?_,λa ha b hb=>λk=>?_⟩;rw[hX];exact(Nq (Ql s l 1) _ _ _).filter _;rw[hY];exact(Nq (Ql s l 2) _ _ _).filter _;have:=(q1 a ha).1;have:=(q2 b hb).1;have:=k.1;omega
  let cl:dY 130 Unit (Pt (Pt found)):=⟨(),⟨⟨⟨iE s r l,ft,⟨0,Xu⟩⟩⟩⟩⟩;have lf:ft.len<=4000:=by show u1.len+u2.len<=4000;omega
  have f3:=zCB ft (.inr cl) ⟨λt ht=>(qf t ht).one,λt ht=>(qf t ht).one,by show ft.len<=10000;omega⟩ omY;have g3:ls (TD Xu (zY (id (.inr cl))) ft ft.len)=(ls ft).filter λt=>!(ls ft).any λx=>EQ x t:=TE _ _ _ _;have m3:=zH Xu (zY (id (.inr cl))) ft ft.len;generalize hu3:TD Xu (zY (id (.inr cl))) ft ft.len=u3 at f3 g3 m3;have q3:∀t∈ls u3,lL s l t:=λt ht=>by rw[g3]at ht;exact qf t (Ue.1 ht).1
  have df3:(ls u3).Pairwise Df:=by rw[g3];exact dff.sublist List.filter_sublist
  have in3:∀i,i<u3.len->lL s l (u3.get i):=λi hi=>q3 _ (jB.2 ⟨i,hi,rfl⟩);have ne3:∀i j,i<u3.len->j<u3.len->i≠j->Df (u3.get i) (u3.get j):=λi j hi hj NY=>by
    have P:=qdn.1 df3;have ge:∀i (hi:i<u3.len),(ls u3)[i]'(by rw[jQ];exact hi)=u3.get i:=λi hi=>by
      have:=zan hi;rw[Ae (by rw[jQ];exact hi)]at this;exact Yg this
    rcases qdX i j with h|h
    have:=P i j (by rw [jQ];exact hi) (by rw [jQ];exact hj) h;rwa[ge i hi,ge j hj]at this;have:=P j i (by rw [jQ];exact hj) (by rw [jQ];exact hi) omY;rw[ge i hi,ge j hj]at this;exact zAK this
  obtain⟨hp,p,p1,p2,p3⟩:=zuL (C:=ae.un E.X4) (caps:=[]) (ag:=true) (w:=u3) (cmp:=zrM) (R:=ltT) omY
    (λi j hi hj=>by
      show(E.X4 (u3.get i,u3.get j)).T _=_;rw[zVo _ _ (in3 i hi).one (in3 j hj).one];rfl)
    (λi j hi hj=>zrN) (λi hi=>zcF _) (λi j hi hj NY=>zrO λh=>ne3 i j hi hj NY ⟨h.1,zzX h.2.1 h.2.2 (in3 i hi).tv.2 (in3 j hj).tv.2⟩) (λi j _ _ h=>zky h)
    (λi j k _ _ _ a b=>zkx a b)
  have pl:p.length=u3.len:=by rw[p1.length_eq,List.length_range]
  let tr:Sl af:=⟨u3.len,soG (ae.un E.X4) [] true u3⟩;have ht:ls tr=p.map u3.get:=by
    refine List.ext_getElem (by rw[jQ,qdO,pl]) λi h1 h2=>?_;have hi:i<u3.len:=by rw[jQ]at h1;exact h1
    have:=zan (w:=tr) (i:=i) hi;rw[Ae h1]at this;rw[Yg this,List.getElem_map];exact p3 i omY
  refine⟨⟨⟨iE s r l,ft,tr⟩⟩,ae.ext λk=>?_,rfl,⟨ls u1,ls u2,hf,λt h=>?_,λt h=>?_,hX,hY⟩,?_,?_⟩;have no:((ls w).any λb=>false==b)=false:=by
    rw[qjh];intro b Ur;rw[hb b Ur];simp
  rw[e72,h78 s r l hs hl,aX];have eo:opn s r l=.inr (iE s r l,0):=by unfold opn;rw[h0];rfl
  rw[eo];show(E.zfM (w,false)).T _=_;rw[zym w false omY,aX,no];show(E.c127 (iE s r l,1)).T _=_;rw[a1,aX];show(E.IJ (w1,.inl ⟨iE s r l,()⟩)).T _=_;rw[f1,aX];show aU (room u1.len 56) ((E.c127 (iE s r l,2)).T _)=_;rw[jG omY omY,a2,aX];show(E.IJ (w2,.inl ⟨iE s r l,()⟩)).T _=_;rw[f2,aX];show aU (room (u1.len+u2.len) 56) ((E.IJ (ft,.inr cl)).T _)=_;rw[jG omY omY,f3,aX];show zcb E (iE s r l) ft u3 k=_;rw[zGI,hp];rfl;have:=q1 t h;exact⟨this.1,this.2.tv.2⟩;have:=q2 t h;exact⟨this.1,this.2.tv.2⟩;show(ls tr).Perm _;rw[ht];show(p.map u3.get).Perm ((ls ft).filter λt=>!(ls ft).any λx=>EQ x t);rw[<- g3];exact p1.map _;show(ls tr).Pairwise ltT;rw[ht,qji];exact p2
abbrev Q20(C:au×bC×Sl bi->ae (Sl af×Int)):Prop:=∀s r l,qX s->l.len<=40->oO s r l=0->(kW s l 1).length<=2000->(kW s l 2).length<=2000->∃f:found,C (s,r,l)=.ok (f.dw,0)/\OC s r l f
theorem s20{E:E20}(h72:Q72 E.c72):Q20 (F20 E):=λs r l hs hl h0 n1 n2=>by
 obtain⟨f,h1,h2⟩:=h72 s r l ⟨0,λ_=>default⟩ hs hl h0 n1 n2 (AP _) (λb hb=>by cases hb);exact⟨f.v,ae.ext λk=>by rw[e20,h1,aX,aX];rfl,h2⟩
theorem zAL{s:straight}(S:Az s):(gu s).Start.Num*s.den=s.start*(gu s).Start.bV/\(gu s).dX.Num*s.den=s.bD*(gu s).dX.bV:=by
 have p:0<s.den:=by have:=S.2.2;omega
 have key:∀a,(red a s.den).Num*s.den=a*(red a s.den).bV:=λa=>by
  have h1:=qw (num:=a) p;have h2:=oz (num:=a) p;generalize (Int.gcd a s.den:Int)=G at h1 h2;generalize (red a s.den).Num=x at *;generalize (red a s.den).bV=y at *;rw[<- h1,<- h2];ac_rfl
 exact⟨key _,key _⟩
abbrev Q76(C:Line×Int->ae aP):Prop:=∀s z,Az s->Oz z->C (gu s,z)=.ok (red (jJ s z) s.den)
theorem s76{E:E76}(ZF:zaa E.TR)(ZE:IA E.Ul):Q76 (F76 E):=λs z S hz=>ae.ext λk=>by
  obtain⟨h1,h2,h3,h4⟩:=zct S;obtain⟨x1,x2⟩:=zAL S;have pd:0<s.den:=by have:=S.2.2;omega
  rw[e76,ZF _ _ omY omY omY,aX,aX];have hr:=lh (num:=(gu s).Start.bV) (den:=(gu s).dX.bV) h3.1;obtain⟨a,ha⟩:=zHs (gu s).Start.bV (gu s).dX.bV;obtain⟨b,hb⟩:=zHt (gu s).Start.bV (gu s).dX.bV;generalize (Int.gcd (gu s).Start.bV (gu s).dX.bV:Int)=r at hr ha hb ⊢;generalize (gu s).Start.bV=A at *;generalize (gu s).dX.bV=B at *;generalize (gu s).Start.Num=u at *;generalize (gu s).dX.Num=v at *;have pa:0<a:=by
    rcases qdY 0 a with h|h
    exact h;have:=dqV h (xQ hr);rw[qj3]at this;omega
  have pb:0<b:=by
    rcases qdY 0 b with h|h
    exact h;have:=dqV h (xQ hr);rw[qj3]at this;omega
  have aA:a<=A:=by
    have:=Qy (show(1:Int)<=r by omega) (xQ pa);omega
  have bB:b<=B:=by
    have:=Qy (show(1:Int)<=r by omega) (xQ pb);omega
  have e1:A.tdiv r=a:=by rw[ha,qdP _ omY]
  have e2:(a*B).tdiv A=b:=by
    have:a*B=A*b:=by rw[ha,hb];ac_rfl
    rw[this,qdP _ omY]
  have e3:(a*B).tdiv B=a:=by rw[jqG,qdP _ omY]
  have m0:=qp (x:=a) (X:=100000) omY omY (xQ h3.1) h3.2;have m1:=qp h2.1 h2.2 (y:=b) (Y:=100000) omY omY;have m2:=qp h1.1 h1.2 (y:=a) (Y:=100000) omY omY;have m3 : -40000000000000000<=v*a*z/\v*a*z<=40000000000000000:=by
    have hz1:=hz.1;have hz2:=hz.2;rcases qdY z 0 with h|h
    have:=qp (y := -z) (Y:=200000) m2.1 m2.2 omY omY;rw[qjg]at this;omega;have:=qp (y:=z) (Y:=200000) m2.1 m2.2 h omY;omega
  have pos:0<a*B:=qjS pa h3.1
  rw[aZ (x:=A.tdiv r) (by rw[e1];omega) (by rw[e1];omega),e1,aZ (x:=a*B) omY omY,aZ (x:=(a*B).tdiv A) (by rw[e2];omega) (by rw[e2];omega),aZ (x:=(a*B).tdiv B) (by rw[e3];omega) (by rw[e3];omega),e2,e3,
    aZ (x:=u*b) omY omY,aZ (x:=v*a) omY omY,aZ (x:=v*a*z) omY omY,aZ (x:=u*b+v*a*z) omY omY,bn omY,bn omY,bn omY,ZE _ _ omY omY pos omY,aX]
  congr 1;refine(Z9 pos pd).2 ?_;unfold jJ;have f1:u*b*s.den=s.start*(a*B):=by
    calc u * b * s.den = u * s.den * b := by ac_rfl
      _=s.start*A*b:=by rw[x1]
      _=s.start*(a*B):=by rw[ha,hb];ac_rfl
  have f2:v*a*z*s.den=s.bD*z*(a*B):=by
    calc v * a * z * s.den = v * s.den * (a * z) := by ac_rfl
      _=s.bD*B*(a*z):=by rw[x2]
      _=s.bD*z*(a*B):=by ac_rfl
  rw[qjs,qjs,f1,f2]
def PlQ(g:Sl ax)(z:Int)(f:aP):Prop:=∃t∈cst g,f=red (jJ t z) t.den
theorem PlQ.pos{g:Sl ax}(G:bU g){z:Int}{f:aP}(h:PlQ g z f):0<f.bV:=by
 obtain⟨t,ht,rfl⟩:=h;exact mO (by have:=(rD G ht).2.2;omega)
abbrev zAN(C:Sl ax×Int->ae (aP×aP)):Prop:=∀g z,bU g->Oz z->fD g=true->∃a b,C (g,z)=.ok (a,b)/\0<a.bV/\0<b.bV
theorem zVr{E:ZT}(N:Big E.N)(Iy:zkq E.EE)(ZQ:zrH E.c193)(ZE:IA E.Ul)(ZR:zrQ E.c194)(h76:Q76 E.c76)(h56:Q56 E.c56):zAN (zpI E):=λg z G hz hs=>by
 have hg:=G.2;cases hf:fV g with
 | true =>
  obtain⟨a,b⟩:=Jl G.1 omY g.len (kw _);refine⟨red (eU g g.len).Low 1,red (eU g g.len).High 1,ae.ext λk=>?_,mO omY,mO omY⟩;rw[zG1,Iy g omY omY,aX,hf,dS,ZQ g omY omY,aX,aX];show(E.Ul ((eU g g.len).Low,1)).T (λr3=>(E.Ul ((eU g g.len).High,1)).T λr4=>k (r3,r4))=_;rw[ZE _ _ omY omY omY omY,aX,ZE _ _ omY omY omY omY,aX]
 | false =>
  obtain⟨L,l1,l2,l3,l4⟩:=ZR g G;have l0:0<L.len:=l2.2 ((zF G hf).1 hs);have pc:∀i,i<L.len->∃f,PlQ g z f/\E.c76 (L.get i,z)=.ok f:=λi hi=>by
   obtain⟨t,ht,e⟩:=l4 i hi;exact⟨_,⟨t,ht,rfl⟩,by rw[e];exact h76 t z (rD G ht) hz⟩
  have key:∀(m i n:Nat)(x y:aP),i+m=L.len->m<n->PlQ g z x->PlQ g z y->∃a b,(∀(A:Type)(k:aP×aP->Option A),BG E n z L (i:Int) x y k=k (a,b))/\PlQ g z a/\PlQ g z b:=by
   intro m
   induction m with
   | zero =>
    intro i n x y hi hn hx hy;obtain⟨n,rfl⟩:∃n',n=n'+1:=⟨n-1,omY⟩;exact⟨x,y,λA k=>by rw[zjg,dR omY];rfl,hx,hy⟩
   | succ m ih =>
    intro i n x y hi hn hx hy;obtain⟨n,rfl⟩:∃n',n=n'+1:=⟨n-1,omY⟩;obtain⟨f,hf,ef⟩:=pc i omY;have st:∀(A:Type)(k:aP×aP->Option A),BG E (n+1) z L (i:Int) x y k=BG E n z L ((i+1:Nat):Int) (cond (leB f x) f x) (cond (leB y f) f y) k:=λA k=>by
     rw[zjg,dM omY,dS,bn omY,gy,ef,aX,h56,aX];cases leB f x<;>simp only[dS,dF]<;>rw[zyR,h56,aX,bF omY]<;>cases leB y f<;>rfl
    obtain⟨a,b,h1,h2,h3⟩:=ih (i+1) n (cond (leB f x) f x) (cond (leB y f) f y) omY omY (by cases leB f x<;>assumption) (by cases leB y f<;>assumption);exact⟨a,b,λA k=>by rw[st];exact h1 A k,h2,h3⟩
  obtain⟨f,hf0,ef⟩:=pc 0 l0;obtain⟨a,b,h1,h2,h3⟩:=key (L.len-1) 1 E.N f f omY (by have:=N;omega) hf0 hf0;refine⟨a,b,ae.ext λk=>?_,h2.pos G,h3.pos G⟩;rw[zG1,Iy g omY omY,aX,hf,dF,l1,aX,bn omY,ef,aX,bn omY,aX,aX];exact h1 _ k
abbrev zAO(C:aP->ae Int):Prop:=∀f:aP,0<f.bV->∃n,C f=.ok n
theorem zVs{E:zpK}:zAO (zpL E):=λf h=>by
 exact⟨_,ae.ext λk=>by rw[zSi,bn omY,kc k,aX]⟩
/-! What a plane sees. -/
def vK(p:ak)(c:Int):bZ:=⟨aO (aO (p.First+aO (c*p.aY))-Nz p),aO (aO (aO (aO (p.First+aO (c*p.aY))-Nz p)+p.aY)-1)⟩
abbrev zAP(C:ak×Int->ae (Int×Int)):Prop:=∀p c,C (p,c)=.ok ((vK p c).Low,(vK p c).High)
theorem zVt{E:zpy}:zAP (zpz E):=λp c=>ae.ext λk=>by
 rw[zR2,aX];unfold vK Nz;cases p.Kind==2<;>rfl
def Qm(p:ak)(lo hi:Int)(c:Nat):Bool:=hasB p.Dead (c:Int)&&(decide ((vK p (c:Int)).Low<=hi)&&decide ((vK p (c:Int)).High>=lo))
def zkS(p:ak)(x:bZ):Bool:=(decide (aO (x.Low-p.bz.High)>=(vK p 0).Low)&&decide (aO (x.High-p.bz.Low)<=(vK p (aO (p.bT-1))).High))&&eH (λc=>!Qm p (aO (x.Low-p.bz.High)) (aO (x.High-p.bz.Low)) c) p.bT.toNat
abbrev Q77(C:ak×bZ->ae (Bool×Bool)):Prop:=∀p x,PlN p->Few p->∃b,C (p,x)=.ok (zkS p x,b)
theorem s77{E:E77}(N:Big E.N)(ziW:zAP E.zfN)(Zw:zoW E.OH):Q77 (F77 E):=λp x hp hf=>by
  obtain⟨_,_,_,_,_,Ih,_⟩:=hp;have key:∀(m c n:Nat)(lo hi:Int)(mu ca:Bool),c+m=p.bT.toNat->m<n->∃b,∀(A:Type)(k:Bool×Bool->Option A),mG E n p lo hi mu ca (c:Int) k=k (mu&&(List.range' c m).all (λc=>!Qm p lo hi c),b):=by
    intro m
    induction m with
    | zero =>
      intro c n lo hi mu ca hc hn;obtain⟨n,rfl⟩:∃n',n=n'+1:=⟨n-1,omY⟩;exact⟨ca,λA k=>by rw[zuA,dR omY];simp⟩
    | succ m ih =>
      intro c n lo hi mu ca hc hn;obtain⟨n,rfl⟩:∃n',n=n'+1:=⟨n-1,omY⟩;rw[qdr];have st:∃ca',∀(A:Type)(k:Bool×Bool->Option A),mG E (n+1) p lo hi mu ca (c:Int) k=mG E n p lo hi (mu && !Qm p lo hi c) ca' ((c+1:Nat):Int) k:=by
        have hd:E.OH (p,(c:Int))=.ok (hasB p.Dead (c:Int)):=Zw p _ hf
        have e0:∀(A:Type)(k:Bool×Bool→Option A),mG E (n+1) p lo hi mu ca (c:Int) k=cond (hasB p.Dead (c:Int)) (cond (decide ((vK p (c:Int)).Low≤hi)) (cond (decide ((vK p (c:Int)).High≥lo)) (mG E n p lo hi false ca ((c+1:Nat):Int) k) (mG E n p lo hi mu ca ((c+1:Nat):Int) k)) (mG E n p lo hi mu ca ((c+1:Nat):Int) k))
            (mG E n p lo hi mu (cond (decide (aO ((vK p (c:Int)).Low-p.dK)<=hi)) (cond (decide (aO ((vK p (c:Int)).High+p.dK)>=lo)) true ca) ca) ((c+1:Nat):Int) k):=λA k=>by
          rw[zuA,dM omY,dS,ziW,aX,hd,aX,bF omY];cases hasB p.Dead (c:Int)with
          | true=>rfl
          | false =>
            simp only[dF];cases decide (aO ((vK p (c:Int)).Low-p.dK)<=hi)with
            | false=>rfl
            | true =>
              simp only[dS];cases decide (aO ((vK p (c:Int)).High+p.dK)>=lo)<;>rfl
        cases h1:hasB p.Dead (c:Int)with
        | false =>
          rw[h1]at e0;exact⟨_,λA k=>by rw[e0];simp only[Qm,h1,Yp,qdM,qjU];rfl⟩
        | true =>
          rw[h1]at e0;refine⟨ca,λA k=>?_⟩;rw[e0];simp only[Qm,h1,N9,dS];cases decide ((vK p (c:Int)).Low<=hi)<;>cases decide ((vK p (c:Int)).High>=lo)<;>simp
      obtain⟨ca',h⟩:=st;obtain⟨b,h2⟩:=ih (c+1) n lo hi (mu && !Qm p lo hi c) ca' omY omY;exact⟨b,λA k=>by rw[h,h2,qd0,Bool.and_assoc]⟩
  have al:∀(q:Nat->Bool) n,(List.range' 0 n).all q=eH q n:=λq n=>by
    rw[Yh,dA,Af];exact⟨λh i hi=>h i (by simp;omega),λh i hi=>h i (by simp at hi;omega)⟩
  obtain⟨b,hb⟩:=key p.bT.toNat 0 E.N (aO (x.Low-p.bz.High)) (aO (x.High-p.bz.Low)) (decide (aO (x.Low-p.bz.High)>=(vK p 0).Low)&&decide (aO (x.High-p.bz.Low)<=(vK p (aO (p.bT-1))).High)) false omY (by have:=N;omega);refine⟨b,ae.ext λk=>?_⟩;rw[e77,ziW,aX,ziW,aX,aX];have hb:=hb _ k;rw[al]at hb;refine Eq.trans ?_ hb;show cond (decide (aO (x.Low-p.bz.High)>=(vK p 0).Low)) (mG E E.N p _ _ (decide (aO (x.High-p.bz.Low)<=(vK p (aO (p.bT-1))).High)) false 0 k) (mG E E.N p _ _ false false 0 k)=_;cases decide (aO (x.Low-p.bz.High)>=(vK p 0).Low)<;>rfl
structure pJ (s : au) (l : Sl bi) (t : af) : Prop extends lL s l t where
  ag:zG s l (eQ t)=true
abbrev Q91(C:au×Sl bi×af->ae (Sl Int)):Prop:=∀s l t,pJ s l t->∃w:Sl Int,C (s,l,t)=.ok w
theorem s91{E:E91}(N:Big E.N)(h65:Q65 E.c65)(h87:Q87 E.c87)(Iy:zkq E.EE)(zyr:zAN E.zsH)(zo3:zAO E.zaF)(h86:BB E.X3)(h77:Q77 E.c77):Q91 (F91 E):=λs l t ha=>by
 obtain⟨j,hv⟩:=ha.vl;have he:=ha.ev;have hl:=mQ rfl hv;have h24:=he.l24;have G:=BM he.toEvt he.l24 hv ha.ne;have hG:=G.2;have hp:=qI he.se;have so:fD (zW s l (eQ t))=true:=by
  have:=ha.ag;unfold zG at this;rw[gz]at this;exact this.2
 have key:∀(m i n:Nat)(w:Sl Int),i+m=s.aj.len->m<n->w.len<=i->∃w':Sl Int,∀(A:Type)(k:Sl Int->Option A),xC E n s l t (zW s l (eQ t)) (i:Int) w k=k w':=by
  intro m
  induction m with
  | zero =>
   intro i n w hi hn hw;obtain⟨n,rfl⟩:∃n',n=n'+1:=⟨n-1,omY⟩;exact⟨w,λA k=>by rw[zuD,dR omY];rfl⟩
  | succ m ih =>
   intro i n w hi hn hw;obtain⟨n,rfl⟩:∃n',n=n'+1:=⟨n-1,omY⟩;have Ig:=sN he.se (i:=i) omY;have hz:=zkO Ig;obtain⟨wa,ya⟩:=ih (i+1) n (rE w (i:Int)) omY omY (by show w.len+1<=i+1;omega);obtain⟨wb,yb⟩:=ih (i+1) n w omY omY omY;obtain⟨a,b,e1,e2,e3⟩:=zyr _ _ G hz so;obtain⟨x,ex⟩:=zo3 a e2;obtain⟨y,ey⟩:=zo3 ⟨aO (0-b.Num),b.bV⟩ e3;obtain⟨c,ec⟩:=h77 (s.aj.get i) ⟨x,aO (0-y)⟩ Ig (he.sh.2 i omY);have st:∀(A:Type)(k:Sl Int->Option A),xC E (n+1) s l t (zW s l (eQ t)) (i:Int) w k=cond ((s.aj.get i).View != t.View) (k wb) (cond (!Uj l t.Hits t.Hits.len (i:Int)) (k wb) (cond (fV (zW s l (eQ t))) (k wb) (cond (!inB x (-1000000) 1000000) (k wb) (cond (!inB (aO (0-y)) (-1000000) 1000000) (k wb) (cond (zkS (s.aj.get i) ⟨x,aO (0-y)⟩) (k wa) (k wb)))))):=λA k=>by
    rw[zuD,dM omY,dS,bn omY,gy,bF omY,yb,h87 l t.Hits _ omY (Gi rfl hv),aX,Iy _ omY omY,aX,bn omY,e1,aX];show cond _ _ (cond _ _ (cond _ _ ((E.zaF a).T λr4=>(E.zaF ⟨aO (0-b.Num),b.bV⟩).T _)))=_;rw[ex,aX,ey,aX,h86,aX,h86,aX,bn omY,ec,aX,jG omY omY];show cond _ _ (cond _ _ (cond _ _ (cond _ _ (cond _ _ (cond (zkS (s.aj.get i) ⟨x,aO (0-y)⟩) (xC E n s l t (zW s l (eQ t)) ((i+1:Nat):Int) (rE w (i:Int)) k) _)))))=_;rw[ya]
   exact⟨_,λA k=>by rw[st,kc k,kc k,kc k,kc k,kc k,kc k]⟩
 obtain⟨w',h⟩:=key s.aj.len 0 E.N ⟨0,λ_=>0⟩ omY (by have:=N;omega) (kw _);refine⟨w',ae.ext λk=>?_⟩;rw[e91,h65 s l t he.toEvt omY (Jj he.vw ha.tv rfl hv ha.ne),aX,yU rfl,aX];exact h _ k
abbrev zAQ(C:au×bC×Sl bi×af->ae Bool):Prop:=∀s r l t,pJ s l t->∃b,C (s,r,l,t)=.ok b
theorem zVw{E:zpP}(ZV:zrV E.c196)(h91:Q91 E.c91):zAQ (zpQ E):=λs r l t ha=>by
 obtain⟨j,hv⟩:=ha.vl;obtain⟨w,hw⟩:=h91 s l t ha;exact⟨_,ae.ext λk=>by rw[e154,ZV s l _ t _ j ha.ev ha.tv rfl hv ha.ne,aX,ha.ag,dS,hw,aX,kc k,aX]⟩
/-! Choices that contain others: hits in their order. -/
structure zkT (t : af) : Prop where
  le:t.Hits.len<=100
  sd:t.aV.len=t.Hits.len
  inc:zr2 t.Hits
theorem zcO{s:au}{l:Sl bi}{x:Int}{t:af}{c:iY}{j:Nat}(h24:l.len<=24)(ht:Qd x t)(hc:eQ t=c)(h:Val s l x c j):zkT t:=by
 have hl:=mQ hc h;have lc:c.length=t.Hits.len:=by rw[<- hc,jK]
 refine⟨omY,ht.2,λa b hab hb=>?_⟩;have pw:=qdn.1 h.pw;have ge:∀i (hi:i<t.Hits.len),c[i]'omY=(t.Hits.get i,t.aV.get i):=λi hi=>by
  have:=zD hc hi;rw[Ae omY]at this;exact Yg this
 have:=(pw a b omY omY hab).1;rw[ge a omY,ge b hb]at this;exact this
theorem lL.inc{s:au}{l:Sl bi}{t:af}(h:lL s l t):zkT t:=by
 obtain⟨j,hj⟩:=h.vl;exact zcO h.ev.l24 h.tv rfl hj
abbrev Q53(C:af×af->ae Bool):Prop:=∀a b,zkT a->zkT b->C (a,b)=.ok (xO a b)
theorem s53{E:E53}(N:Big E.N):Q53 (F53 E):=λa b ha hb=>ae.ext λk=>by
 have la:=ha.le;have lb:=hb.le;have sa:=ha.sd;have sb:=hb.sd;have ia:=ha.inc;have ib:=hb.inc;have hN:=N;have key:∀(m i n q:Nat),i+m=b.Hits.len->m<n->q<=a.Hits.len->(∀p,p<q->i<b.Hits.len->a.Hits.get p<b.Hits.get i)->zca E n a b (q:Int) (i:Int) k=k ((List.range' i m).all (λi=>(eQ a).contains (b.Hits.get i,b.aV.get i))&&(a.View==b.View)):=by
  intro m
  induction m with
  | zero =>
   intro i n q hi hn hq iw;obtain⟨n,rfl⟩:∃n',n=n'+1:=⟨n-1,omY⟩;rw[zuw,dR omY];rfl
  | succ m ih =>
   intro i n q hi hn hq iw;obtain⟨n,rfl⟩:∃n',n=n'+1:=⟨n-1,omY⟩;have hib:i<b.Hits.len:=by omega
   rw[zuw,dM omY,dS,qdr,qd0]
   -- the place where the hit can stand
   have adv:∀(d q n1:Nat),q+d=a.Hits.len->d<n1->(∀p,p<q->a.Hits.get p<b.Hits.get i)->∃q',q'<=a.Hits.len/\(∀p,p<q'->a.Hits.get p<b.Hits.get i)/\(q'<a.Hits.len->b.Hits.get i<=a.Hits.get q')/\Qa E n n1 a b (q:Int) (i:Int) k=Wi E n a b (q':Int) (i:Int) k:=by
    intro d
    induction d with
    | zero =>
     intro q n1 hq hn1 iw;obtain⟨n1,rfl⟩:∃n',n1=n'+1:=⟨n1-1,omY⟩;exact⟨q,omY,iw,λh=>by omega,by rw[zux,dR omY];rfl⟩
    | succ d ih2 =>
     intro q n1 hq hn1 iw;obtain⟨n1,rfl⟩:∃n',n1=n'+1:=⟨n1-1,omY⟩;have st:Qa E n (n1+1) a b (q:Int) (i:Int) k=cond (decide (a.Hits.get q<b.Hits.get i)) (Qa E n n1 a b ((q+1:Nat):Int) (i:Int) k) (Wi E n a b (q:Int) (i:Int) k):=by
      rw[zux,dM omY,dS,bn omY,bn omY,gy,gy,bF omY]
     by_cases h:a.Hits.get q<b.Hits.get i;obtain⟨q',h1,h2,h3,h4⟩:=ih2 (q+1) n1 omY omY (λp hp=>by
      by_cases e:p=q;rw[e];exact h;exact iw p omY)
     exact⟨q',h1,h2,h3,by rw[st,dM h];exact h4⟩;exact⟨q,omY,iw,λ_=>by omega,by rw[st,dR h];rfl⟩
   obtain⟨q',h1,h2,h3,h4⟩:=adv (a.Hits.len-q) q E.N omY omY (λp hp=>iw p hp hib);rw[h4];have only:∀p,p<a.Hits.len->a.Hits.get p=b.Hits.get i->p=q':=λp hp e=>by
    rcases qdx p q' with h|h|h
    have:=h2 p h;omega;exact h;have:=ia q' p h hp;have:=h3 omY;omega
   rw[zGG];by_cases c1:q'=a.Hits.len;have:(eQ a).contains (b.Hits.get i,b.aV.get i)=false:=by
    cases hc:(eQ a).contains (b.Hits.get i,b.aV.get i)with
    | false=>rfl
    | true =>
     obtain⟨p,hp,e,_⟩:=lu.1 (qdZ.1 hc);have:=only p hp e;omega
   rw[show((q':Int)==(a.Hits.len:Int))=true by rw[qjc];omega,this];rfl;rw [show((q':Int)==(a.Hits.len:Int))=false by rw [qdS];omega,dF,bn omY,bn omY,gy,gy];by_cases c2:a.Hits.get q'=b.Hits.get i
   ·have:(eQ a).contains (b.Hits.get i,b.aV.get i)=(a.aV.get q'==b.aV.get i):=by
     rw[Yh,qdZ,lu,qjc];constructor;rintro⟨p,hp,e,e2⟩;rw[only p hp e]at e2;exact e2;intro h;exact⟨q',omY,c2,h⟩
    rw[show(a.Hits.get q' != b.Hits.get i)=false by simp[c2],dF,bn omY,bn omY,this,bF omY,bne];cases a.aV.get q'==b.aV.get i with
    | false=>rfl
    | true =>
     rw[N9];refine ih (i+1) n q' omY omY h1 (λp hp hi2=>?_);have:=h2 p hp;have:=ib i (i+1) omY hi2;omega
   have:(eQ a).contains (b.Hits.get i,b.aV.get i)=false:=by
    cases hc:(eQ a).contains (b.Hits.get i,b.aV.get i)with
    | false=>rfl
    | true =>
     obtain⟨p,hp,e,_⟩:=lu.1 (qdZ.1 hc);rw[only p hp e]at e;exact absurd e c2
   rw[show(a.Hits.get q' != b.Hits.get i)=true by simpa using c2,this];rfl
 rw[e53,aX];refine(key b.Hits.len 0 E.N 0 omY omY (AP _) (λp hp=>absurd hp (Ut p))).trans ?_;congr 1;unfold xO;congr 1;rw [Yh,Af,Af];constructor;intro h p hp;obtain⟨i,hi,e1,e2⟩:=lu.1 hp;have:=h i (by simp;omega);rw[e1,e2]at this;exact this;intro h i hi;exact h _ (lu.2 ⟨i,by simp at hi;omega,rfl,rfl⟩);rw[Yh,qjc,qjc];exact eq_comm
theorem s38{E:E38}(N:Big E.N):zar (F38 E):=λa b ha hb=>ae.ext λk=>by
 have key:∀(m i n:Nat),i+m=a.len->i<=b.len->m<n->zb7 E n a b (i:Int) k=k (cmpL ((List.range' i m).map a.get) ((List.range' i (b.len-i)).map b.get)):=by
  intro m
  induction m with
  | zero =>
   intro i n hi hb hn;obtain⟨n,rfl⟩:∃n',n=n'+1:=⟨n-1,omY⟩;rw[zuq,dR omY,dF,zur,zus,dR (show ¬(a.len:Int)>(b.len:Int)by omega),dF,kc k];congr 1;cases h:b.len-i with|zero=>rw[dR omY];rfl|succ q=>rw[dM omY];rfl
  | succ m ih =>
   intro i n hi hb hn;obtain⟨n,rfl⟩:∃n',n=n'+1:=⟨n-1,omY⟩;rw[zuq,dM omY,dS,qdr,o5];cases h:b.len-i with
   | zero=>rw[dR omY,dF,zur,zus,dR omY,dM (show(a.len:Int)>(b.len:Int)by omega)];rfl
   | succ q =>
    rw[dM omY,dS,bn omY,bn omY,bn omY,bn omY,gy,bF omY,ih (i+1) n omY omY omY,qdr,o5,show b.len-(i+1)=q by omega];show _=k (cond (qx (a.get i) (b.get i) != 0) (qx (a.get i) (b.get i)) _);unfold qx;cases decide (a.get i<b.get i)<;>cases decide (a.get i>b.get i)<;>rfl
 rw[e38,aX];have:=key a.len 0 E.N omY (AP _) (by have:=N;omega);unfold pI;rw[qdp,qdp];exact this
abbrev zAR(C:af×af->ae Bool):Prop:=∀a b,One a->One b->∃r,C (a,b)=.ok r
theorem zVx{E:zpB}(h38:zar E.c38):zAR (zpC E):=λa b ha hb=>by
 have a1:=ha.le;have a2:=ha.sd;have b1:=hb.le;have b2:=hb.sd;exact⟨_,ae.ext λk=>by rw[zR6,h38 _ _ omY omY,aX,h38 _ _ omY omY,aX,kc k,kc k,aX]⟩
structure E17 where
 N:Nat
 c23:au×(Sl bi)×Int->ae Bool
 c26:au×bC×(Sl bi)->ae Int
 c28:au×bC×(Sl bi)->ae ((Sl af)×Bool)
def F17(E:E17):au×bC×(Sl bi)×Int->ae ((Sl af)×Bool):=ik E.N (((Tabs.nil.addF 23 (ae.un E.c23)).addF 26 (ae.un E.c26)).addF 28 (ae.un E.c28)) 17
theorem e17(E:E17){A:Type}(k:((Sl af)×Bool)→Option A)(a0:au)(a1:bC)(a2:Sl bi)(a3:Int):(F17 E (a0,a1,a2,a3)).T k=(E.c23 (a0,a2,a3)).T λr1=>cond (!r1) (k ((⟨0,λ_=>default⟩:(Sl af)),false)) (cond (decide ((a2.len:Int)>a3)) (k ((⟨0,λ_=>default⟩:(Sl af)),false)) ((E.c26 (a0,a1,a2)).T λr2=>cond (r2 != 0) (k ((⟨0,λ_=>default⟩:(Sl af)),false)) ((E.c28 (a0,a1,a2)).T λr3=>k (r3.1,r3.2)))):=dO
theorem o17 [aH](E:E17)(h23:Ok aC 23 (ae.un E.c23))(h26:Ok aC 26 (ae.un E.c26))(h28:Ok aC 28 (ae.un E.c28)):Ok aC 17 (ae.un (F17 E)):=dP (((ay.nil.addF h23).addF h26).addF h28)
theorem zHG{ag:iY->Bool}{us:iY->Int->Bool}{sd:Nat->iY}{c:iY}{j:Nat}(h:Ch ag us sd c j):c=[]\/ag c=true:=by
 cases h with|nil=>exact .inl rfl|snoc _ _ _ h=>exact .inr h
theorem zkU{ag:iY→Bool}{us:iY→Int→Bool}{sd:Nat→iY}:∀{f out c i},(∀x∈out,x≠[])→∀x∈Ti ag us sd f out c i,x≠[]
  | 0,out,c,i,h=>h
  | f+1,out,c,i,h=>by
    simp only[Ti];generalize sd i=l
    induction l generalizing out with
    | nil=>exact h
    | cons p l ih =>
      rw[Yf];refine ih _ ?_;cases us c p.1||(decide (2000<out.length) || !ag (c++[p]))with
      | true=>exact h
      | false =>
        refine zkU λx hx=>?_;rcases dW.1 hx with hx|hx
        exact h x hx;rw[kY.1 hx];simp
theorem Xw{s:au}{l:Sl bi}{x:Int}(he:Ev s l x){t:af}(ht:Qd x t)(hc:eQ t∈Xt s l x):pJ s l t:=by
 have ne:=zkU (f:=30) (out:=[]) (λx h=>by cases h) _ hc;rcases zcx .nil hc with h|⟨j,hj⟩
 cases h;have e:=ht.1;subst e;exact {ev:=he,tv:=ht,vl:=⟨j,zai hj⟩,ne:=ne,ag:=(zHG hj).resolve_left ne}
theorem zAS{P:af->Prop}{w:Sl af}{t:af}(h:∀t∈ls w,P t)(ht:P t):∀u∈ls (rE w t),P u:=λu hu=>by
 rw[zcN]at hu;rcases dW.1 hu with hu|hu
 exact h u hu;rw[kY.1 hu];exact ht
def Ew(s:au)(l:Sl bi)(x:Int):Bool:=decide ((Xt s l x).length<=2000)
abbrev Q94(C:au×bC×Sl bi×Int->ae (Sl af×Bool)):Prop:=∀s r l x,Ev s l x->∃w:Sl af,C (s,r,l,x)=.ok (w,Ew s l x)/\w.len<=2001/\∀t∈ls w,pJ s l t
theorem s94{E:E94}(N:Big E.N)(zyt:zAn E.zsI)(zyu:zAQ E.c154):Q94 (F94 E):=λs r l x he=>by
 obtain⟨v,h1,h2,h3,h4⟩:=zyt s l x he;have ha:∀i,i<v.len->pJ s l (v.get i):=λi hi=>Xw he (h3 i hi) (by rw[<- h2];exact Jr (zrZ hi));cases hb:Ew s l x with
 | false=>exact⟨⟨0,λ_=>default⟩,ae.ext λk=>by rw[e94,h1,aX];show cond (!Ew s l x) _ _=_;rw[hb];rfl,AP _,λt h=>by cases h⟩
 | true =>
  have key:∀(m i n:Nat)(w:Sl af),i+m=v.len->m<n->w.len<=i->(∀t∈ls w,pJ s l t)->∃w':Sl af,(∀(A:Type)(k:Sl af×Bool->Option A),Hq E n s r l v (i:Int) w k=k (w',true))/\w'.len<=v.len/\∀t∈ls w',pJ s l t:=by
   intro m
   induction m with
   | zero =>
    intro i n w hi hn hw hq;obtain⟨n,rfl⟩:∃n',n=n'+1:=⟨n-1,omY⟩;exact⟨w,λA k=>by rw[zuH,dR omY];rfl,omY,hq⟩
   | succ m ih =>
    intro i n w hi hn hw hq;obtain⟨n,rfl⟩:∃n',n=n'+1:=⟨n-1,omY⟩;obtain⟨b,eb⟩:=zyu s r l _ (ha i omY);have st:∀(A:Type)(k:Sl af×Bool->Option A),Hq E (n+1) s r l v (i:Int) w k=cond b (Hq E n s r l v ((i+1:Nat):Int) (rE w (v.get i)) k) (Hq E n s r l v ((i+1:Nat):Int) w k):=λA k=>by
     rw[zuH,dM omY,dS,bn omY,gy,eb,aX,bF omY,bn omY,jG omY omY];rfl
    cases b with
    | true =>
     obtain⟨w',a,c,d⟩:=ih (i+1) n (rE w (v.get i)) omY omY (by show w.len+1<=i+1;omega) (zAS hq (ha i omY));exact⟨w',λA k=>by rw[st];exact a A k,c,d⟩
    | false =>
     obtain⟨w',a,c,d⟩:=ih (i+1) n w omY omY omY hq;exact⟨w',λA k=>by rw[st];exact a A k,c,d⟩
  obtain⟨w',a,c,d⟩:=key v.len 0 E.N ⟨0,Xu⟩ omY (by have:=N;omega) (kw _) (λt h=>by cases h);refine⟨w',ae.ext λk=>?_,omY,d⟩;rw[e94,h1,aX];show cond (!Ew s l x) _ _=_;rw[hb];exact a _ k
abbrev Q88(C:au×bC×Sl bi×Int->ae (Sl af×Bool)):Prop:=∀s r l x,Ev s l x->∃w:Sl af,C (s,r,l,x)=.ok (w,Ew s l x)/\w.len<=2001
theorem s88{E:E88}(N:Big E.N)(h94:Q94 E.c94)(h53:Q53 E.c53)(zyo:zAR E.zsF):Q88 (F88 E):=λs r l x he=>by
 have hN:=N;obtain⟨v,h1,h2,h3⟩:=h94 s r l x he;have ha:∀i,i<v.len->pJ s l (v.get i):=λi hi=>h3 _ (jB.2 ⟨i,hi,rfl⟩);cases hb:Ew s l x with
 | false=>exact⟨_,ae.ext λk=>by rw[e88,h1,aX];show cond (!Ew s l x) _ _=_;rw[hb];rfl,AP _⟩
 | true =>
  have mo:∀n0 (i:Nat),i<v.len->∀(m j n1:Nat)(w:Sl af)(f:Bool),j+m=v.len->m<n1->∃B:Bool,∀(A:Type)(k:Sl af×Bool->Option A),Ho E n0 n1 v (i:Int) f (j:Int) w k=cond B (Aw E n0 v ((i+1:Nat):Int) w k) (Me E n0 E.N v w (i:Int) 0 k):=by
   intro n0 i hi m
   induction m with
   | zero =>
    intro j n1 w f hj hn;obtain⟨n1,rfl⟩:∃n',n1=n'+1:=⟨n1-1,omY⟩;exact⟨!f,λA k=>by rw[zcd,dR omY,dF,bF omY]⟩
   | succ m ih =>
    intro j n1 w f hj hn;obtain⟨n1,rfl⟩:∃n',n1=n'+1:=⟨n1-1,omY⟩;have st:∃f':Bool,∀(A:Type)(k:Sl af×Bool->Option A),Ho E n0 (n1+1) v (i:Int) f (j:Int) w k=Ho E n0 n1 v (i:Int) f' ((j+1:Nat):Int) w k:=by
     cases f with
     | false=>exact⟨false,λA k=>by rw[zcd,dM omY,bF omY];rfl⟩
     | true =>
      by_cases e:i=j;exact⟨true,λA k=>by rw[zcd,dM omY,bF omY,show((i:Int)==(j:Int))=true by rw[qjc];omega];rfl⟩;exact⟨_,λA k=>by
       rw[zcd,dM omY,bF omY,show((i:Int)==(j:Int))=false by rw[qdS];omega,dS,dS,dF,bn omY,bn omY,gy,gy,h53 _ _ (ha j omY).inc (ha i hi).inc,aX]⟩
    obtain⟨f',h⟩:=st;obtain⟨B,h2⟩:=ih (j+1) n1 w f' omY omY;exact⟨B,λA k=>by rw[h,h2]⟩
  have pos:∀n0 (i:Nat),i<v.len->∀(w:Sl af),(∀t∈ls w,pJ s l t)->∀(m j n1:Nat),j+m=w.len->w.len<=2001->m<n1->∃a,a<=w.len/\∀(A:Type)(k:Sl af×Bool->Option A),Me E n0 n1 v w (i:Int) (j:Int) k=Qb E n0 v w (i:Int) (a:Int) k:=by
   intro n0 i hi w hw m
   induction m with
   | zero =>
    intro j n1 hj hl hn;obtain⟨n1,rfl⟩:∃n',n1=n'+1:=⟨n1-1,omY⟩;exact⟨j,omY,λA k=>by rw[zuC,dR omY];rfl⟩
   | succ m ih =>
    intro j n1 hj hl hn;obtain⟨n1,rfl⟩:∃n',n1=n'+1:=⟨n1-1,omY⟩;obtain⟨b,eb⟩:=zyo (w.get j) (v.get i) (hw _ (jB.2 ⟨j,omY,rfl⟩)).one (ha i hi).one;have st:∀(A:Type)(k:Sl af×Bool->Option A),Me E n0 (n1+1) v w (i:Int) (j:Int) k=cond b (Me E n0 n1 v w (i:Int) ((j+1:Nat):Int) k) (Qb E n0 v w (i:Int) (j:Int) k):=λA k=>by
     rw[zuC,dM omY,dS,bn omY,bn omY,gy,gy,eb,aX,bF omY]
    cases b with
    | true =>
     obtain⟨a,a1,a2⟩:=ih (j+1) n1 omY hl omY;exact⟨a,a1,λA k=>by rw[st];exact a2 A k⟩
    | false=>exact⟨j,omY,λA k=>by rw[st];rfl⟩
  have key:∀(m i n:Nat)(w:Sl af),i+m=v.len->m<n->w.len<=i->(∀t∈ls w,pJ s l t)->∃w':Sl af,(∀(A:Type)(k:Sl af×Bool->Option A),Aw E n v (i:Int) w k=k (w',true))/\w'.len<=v.len:=by
   intro m
   induction m with
   | zero =>
    intro i n w hi hn hw hq;obtain⟨n,rfl⟩:∃n',n=n'+1:=⟨n-1,omY⟩;exact⟨w,λA k=>by rw[zuB,dR omY];rfl,omY⟩
   | succ m ih =>
    intro i n w hi hn hw hq;obtain⟨n,rfl⟩:∃n',n=n'+1:=⟨n-1,omY⟩;have kX:i<v.len:=by omega
    obtain⟨B,hB⟩:=mo n i kX v.len 0 E.N w true omY omY;obtain⟨a,a1,a2⟩:=pos n i kX w hq w.len 0 E.N omY omY omY;have ins:∃w':Sl af,(∀(A:Type)(k:Sl af×Bool->Option A),Qb E n v w (i:Int) (a:Int) k=Aw E n v ((i+1:Nat):Int) w' k)/\w'.len=w.len+1/\∀t∈ls w',pJ s l t:=by
     refine⟨_,λA k=>by
      rw[zGL,bn omY,jG omY omY,bn omY,jG omY omY,bn omY,jG omY omY,bF omY],?_,?_⟩
     show((((a:Int)-0).toNat+1)+((w.len:Int)-(a:Int)).toNat)=_;omega;intro t ht;obtain⟨q,hq',rfl⟩:=jB.1 ht;have hq':q<((((a:Int)-0).toNat+1)+((w.len:Int)-(a:Int)).toNat):=hq';show pJ s l (jY (((a:Int)-0).toNat+1) (jY ((a:Int)-0).toNat (Ar w.get 0) (λ_=>v.get (i:Int).toNat)) (Ar w.get (a:Int).toNat) q);rw[jA];split;exact hq _ (jB.2 ⟨q-(((a:Int)-0).toNat+1)+(a:Int).toNat,omY,rfl⟩);rw [jA];split;rw[gy];exact ha i kX;exact hq _ (jB.2 ⟨q+0,omY,rfl⟩)
    obtain⟨w1,i1,i2,i3⟩:=ins;have st:∀(A:Type)(k:Sl af×Bool->Option A),Aw E (n+1) v (i:Int) w k=cond B (Aw E n v ((i+1:Nat):Int) w k) (Aw E n v ((i+1:Nat):Int) w1 k):=λA k=>by
     rw[zuB,dM omY,dS];have h0:=hB A k;have h1:=a2 A k;rw[show((0:Nat):Int)=0 from rfl]at h0 h1;rw[h0,h1,i1]
    cases B with
    | true =>
     obtain⟨w',x1,x2⟩:=ih (i+1) n w omY omY omY hq;exact⟨w',λA k=>by rw[st];exact x1 A k,x2⟩
    | false =>
     obtain⟨w',x1,x2⟩:=ih (i+1) n w1 omY omY omY i3;exact⟨w',λA k=>by rw[st];exact x1 A k,x2⟩
  obtain⟨w',a,c⟩:=key v.len 0 E.N ⟨0,Xu⟩ omY omY (kw _) (λt h=>by cases h);refine⟨w',ae.ext λk=>?_,omY⟩;rw[e88,h1,aX];show cond (!Ew s l x) _ _=_;rw[hb];exact a _ k
abbrev Q28(C:au×bC×Sl bi->ae (Sl af×Bool)):Prop:=∀s r l,Ev s l 1->Ev s l 2->∃w:Sl af,C (s,r,l)=.ok (w,Ew s l 1&&Ew s l 2)
theorem s28{E:E28}(h88:Q88 E.v88):Q28 (F28 E):=λs r l h1 h2=>by
 obtain⟨a,a1,a2⟩:=h88 s r l 1 h1;obtain⟨b,b1,b2⟩:=h88 s r l 2 h2;refine⟨⟨a.len+b.len,jY a.len a.get b.get⟩,ae.ext λk=>?_⟩;rw[e28,a1,aX,b1,aX,jG (show a.len+b.len<=1000000 by omega) omY];show cond (Ew s l 1) _ _=_;cases Ew s l 1<;>rfl
structure Fair (s : au) (r : bC) (l : Sl bi) (m : Int) : Prop where
  sh:qX s
  le:l.len<=40
  lm:(l.len:Int)<=m
  rf:oO s r l=0
  n1:(kW s l 1).length<=2000
  n2:(kW s l 2).length<=2000
abbrev Q17(C:au×bC×Sl bi×Int->ae (Sl af×Bool)):Prop:=∀s r l m,∃w b,C (s,r,l,m)=.ok (w,b)/\(b=true->Fair s r l m)
theorem s17{E:E17}(h23:Q23 E.c23)(h26:Q26 E.c26)(h28:Q28 E.c28):Q17 (F17 E):=λs r l m=>by
 cases hsh:zev s l m with
 | false=>exact⟨⟨0,λ_=>default⟩,false,ae.ext λk=>by rw[e17,h23,aX,hsh];rfl,λh=>by cases h⟩
 | true =>
  obtain⟨hs,hl,_⟩:=zyj hsh;by_cases hm:(l.len:Int)>m;exact⟨⟨0,λ_=>default⟩,false,ae.ext λk=>by rw[e17,h23,aX,hsh,dM hm];rfl,λh=>by cases h⟩;by_cases h0:oO s r l=0;obtain⟨he,_,h24⟩:=DD hs h0;obtain⟨w,hw⟩:=h28 s r l {toEvt:=he,l24:=h24,vw:=rfl} {toEvt:=he,l24:=h24,vw:=rfl};refine⟨w,Ew s l 1&&Ew s l 2,ae.ext λk=>by rw[e17,h23,aX,hsh,dR hm,h26 s r l hs hl,aX,h0];show(E.c28 (s,r,l)).T _=_;rw[hw,aX],λh=>?_⟩;rw[gz]at h;have a:=qdk h.1;have b:=qdk h.2;refine⟨hs,hl,omY,h0,?_,?_⟩;rw[<- zcL a];exact a;rw[<- zcL b];exact b;exact⟨⟨0,λ_=>default⟩,false,ae.ext λk=>by rw[e17,h23,aX,hsh,dR hm,h26 s r l hs hl,aX,show(oO s r l != 0)=true by simpa using h0];rfl,λh=>by cases h⟩
theorem zeY(t:af):xO t t=true:=Et.2 ⟨λ_ h=>h,rfl⟩
theorem zr9{a b c:af}(h1:xO b a=true)(h2:xO c b=true):xO c a=true:=by
 rw[Et]at *;exact⟨λp hp=>h2.1 p (h1.1 p hp),h1.2.trans h2.2⟩
theorem OC.fit{s:au}{r:bC}{l:Sl bi}{f:found}(h:OC s r l f){t:af}(ht:t∈ls f.fits):(t.View=1\/t.View=2)/\Qd t.View t/\eQ t∈(kW s l t.View).filter (rW s l t.View r):=by
 obtain⟨X,Y,e,x1,y1,x2,y2⟩:=h.fx;rw[e]at ht;rcases dW.1 ht with h|h
 have a:=(x1 t h).1;exact⟨.inl a,⟨rfl,(x1 t h).2⟩,by rw[a,<- x2];exact qja h⟩;have a:=(y1 t h).1;exact⟨.inr a,⟨rfl,(y1 t h).2⟩,by rw[a,<- y2];exact qja h⟩
theorem OC.has{s:au}{r:bC}{l:Sl bi}{f:found}(h:OC s r l f){x:Int}(hx:x=1\/x=2){c:iY}(hc:c∈(kW s l x).filter (rW s l x r)):∃t∈ls f.fits,t.View=x/\eQ t=c:=by
 obtain⟨X,Y,e,x1,y1,x2,y2⟩:=h.fx;rcases hx with rfl|rfl
 rw [← x2]at hc;obtain⟨t,ht,he⟩:=xq.1 hc;exact⟨t,by rw[e];exact qdN _ ht,(x1 t ht).1,he⟩;rw [← y2]at hc;obtain⟨t,ht,he⟩:=xq.1 hc;exact⟨t,by rw[e];exact qjj _ ht,(y1 t ht).1,he⟩
theorem OC.chosen{s:au}{r:bC}{l:Sl bi}{f:found}(h:OC s r l f)(he:Evt s l)(h24:l.len<=24){t:af}(ht:t∈ls f.fits):lL s l t:=by
 obtain⟨v,tv,m⟩:=h.fit ht;obtain⟨⟨j,hj⟩,ne⟩:=Xv (Ue.1 m).1;exact {ev:={toEvt:=he,l24:=h24,vw:=dM v},tv:=tv,vl:=⟨j,zai hj⟩,ne:=ne}
theorem OC.sub{s:au}{r:bC}{l:Sl bi}{f:found}(h:OC s r l f){t:af}(ht:t∈ls f.dw):t∈ls f.fits:=(Ue.1 (h.tr.mem_iff.1 ht)).1
theorem OC.max{s:au}{r:bC}{l:Sl bi}{f:found}(h:OC s r l f)(he:Evt s l)(h24:l.len<=24){t:af}(ht:t∈ls f.fits):∃m∈ls f.dw,xO m t=true:=by
 obtain⟨m,hm,h1,h2⟩:=zzQ (F:=ls f.fits) (λt=>t.Hits.len) (λa b=>xO b a=true) zeY (λa b c h1 h2=>zr9 h1 h2) 100 (λa ha=>(h.chosen he h24 ha).one.le) t ht;refine⟨m,h.tr.mem_iff.2 (Ue.2 ⟨hm,?_⟩),h1⟩;rw[N8,qjh];intro x hx hg;unfold EQ at hg;rw[gz,oW]at hg;exact h2 x hx ⟨by have:=hg.1;omega,hg.2⟩
theorem OC.len{s:au}{r:bC}{l:Sl bi}{f:found}(h:OC s r l f)(n1:(kW s l 1).length<=2000)(n2:(kW s l 2).length<=2000):f.dw.len<=4000:=by
 obtain⟨X,Y,e,x1,y1,x2,y2⟩:=h.fx;have a:=h.tr.length_eq;rw[jQ]at a;have b:=qjk (λt=>!(ls f.fits).any λx=>EQ x t) (ls f.fits);rw[e,N7]at b;have c:=kz List.length x2;have d:=kz List.length y2;rw[qdO]at c d;have:=qjk (rW s l 1 r) (kW s l 1);have:=qjk (rW s l 2 r) (kW s l 2);rw[e]at a;omega
theorem Fair.evt{s:au}{r:bC}{l:Sl bi}{m:Int}(h:Fair s r l m):Evt s l/\l.len<=24/\qY r=true:=by
 obtain⟨a,b,c⟩:=DD h.sh h.rf;exact⟨a,c,b⟩
theorem NC{g:Sl ax}{d x:Int}(hd:0≤d)(h0:0<g.len)(h:∀i,i<g.len→(g.get i).Low*d≤x∧x≤(g.get i).High*d):∀n,n≤g.len→(eU g n).Low*d≤x∧x≤(eU g n).High*d
  | 0,_=>h 0 h0
  | n+1,hn=>by
    obtain⟨a,b⟩:=NC hd h0 h n omY;obtain⟨c,e⟩:=h n omY;simp only[eU];constructor;split<;>assumption;split<;>assumption
theorem zeZ{a b x d:Int}(hd:0<d)(h1:a*d<=x)(h2:x<=b*d):a<=b:=qdi (qj5 h1 h2) hd
theorem zkV{g:Sl ax}(hf:fV g=true){s:straight}(ha:zV g s){z:Int}(hz:(g.get 0).Z=z):∀i,i<g.len->(g.get i).Low*s.den<=jJ s z/\jJ s z<=(g.get i).High*s.den:=λi hi=>by
 have:=wZ ha hi;rw[Qh.1 hf i hi,hz]at this;exact this
theorem zsa{g:Sl ax}(G:bU g){s:straight}(hd:0<s.den)(ha:zV g s):fD g=true:=by
 have hg:=G.2;cases hf:fV g with
 | true =>
  obtain⟨a,b⟩:=NC (xQ hd) omY (zkV hf ha rfl) g.len (kw _);unfold fD;rw[hf,dS,oW];exact zeZ hd a b
 | false =>
  obtain⟨_,⟨c,c1,_⟩,_⟩:=lp omY (λh=>by rw[Qh.2 h]at hf;cases hf) hd ha;exact(zF G hf).2 ⟨c,c1.1,c1.2⟩
structure E49 where
 N:Nat
 c109:(Sl ax)->ae Bool
 zlF:(Sl ax)×(Sl Int)->ae Bool
abbrev G49(E:E49):bI:=gq ((Tabs.nil.addF 109 (ae.un E.c109)).addF 110 (ae.un E.zlF)) []
def A49:dG:=bP aC 49 [] {}
def F49(E:E49):(Sl ax)->ae ((Sl Int)×Int):=ae.ty (aF aC E.N (G49 E) A49 49)
section
variable(E:E49){A:Type}(k:((Sl Int)×Int)->Option A)
def Hz(E:E49)(n:Nat)(a0:Sl ax)(uy:Int){A:Type}(k:((Sl Int)×Int)->Option A):Option A:=gX aC (G49 E) E.N A49 49 [1,1,1,0,1,0] [.n n] (gW k) ⟨[(0,eP a0),(4,.int (a0.len:Int)),(15,.int (a0.len:Int)),(16,.int uy)],[],[]⟩
def HY(E:E49)(n0 n:Nat)(a0:Sl ax)(v5 v6 uy:Int){A:Type}(k:((Sl Int)×Int)->Option A):Option A:=gX aC (G49 E) E.N A49 49 [1,1,1,0,1,0,0,1,1,0,0,1,1,0] [.n n0,.n n] (gW k) ⟨[(0,eP a0),(4,.int (a0.len:Int)),(5,.int v5),(6,.int v6),(15,.int (a0.len:Int)),(16,.int uy)],[],[]⟩
def H5(E:E49)(n:Nat)(a0:Sl ax)(v37:Int){A:Type}(k:((Sl Int)×Int)->Option A):Option A:=gX aC (G49 E) E.N A49 49 [1,1,1,1,0,1,0] [.n n] (gW k) ⟨[(0,eP a0),(4,.int (a0.len:Int)),(36,.int (a0.len:Int)),(37,.int v37)],[],[]⟩
def H6(E:E49)(n0 n:Nat)(a0:Sl ax)(v7 v8 v37:Int){A:Type}(k:((Sl Int)×Int)->Option A):Option A:=gX aC (G49 E) E.N A49 49 [1,1,1,1,0,1,0,0,1,1,0,0,1,1,0] [.n n0,.n n] (gW k) ⟨[(0,eP a0),(4,.int (a0.len:Int)),(7,.int v7),(8,.int v8),(36,.int (a0.len:Int)),(37,.int v37)],[],[]⟩
def H7(E:E49)(n0 n1 n:Nat)(a0:Sl ax)(v7 v8 v9 v37:Int){A:Type}(k:((Sl Int)×Int)->Option A):Option A:=gX aC (G49 E) E.N A49 49 [1,1,1,1,0,1,0,0,1,1,0,0,1,1,0,0,1,0,0,1,0] [.n n0,.n n1,.n n] (gW k) ⟨[(0,eP a0),(4,.int (a0.len:Int)),(7,.int v7),(8,.int v8),(9,.int v9),(36,.int (a0.len:Int)),(37,.int v37)],[],[]⟩
theorem e49(a0:Sl ax):(F49 E (a0)).T k=(E.c109 a0).T λr1=>cond (!r1) (k ((⟨0,λ_=>default⟩:(Sl Int)),2)) (Hz E E.N a0 0 k):=dO
theorem zuR(n0:Nat)(a0:Sl ax)(uy:Int):Hz E (n0+1) a0 uy k=cond (decide (uy<(a0.len:Int))) (HY E n0 E.N a0 uy (aO (uy+1)) uy k) (H5 E E.N a0 0 k):=krY
theorem zuS(n0 n1:Nat)(a0:Sl ax)(v5 v6 uy:Int):HY E n0 (n1+1) a0 v5 v6 uy k=cond (decide (v6<(a0.len:Int))) ((E.zlF (a0,(⟨2,(kL [v5,v6])⟩:(Sl Int)))).T λr1=>cond (!r1) (k ((⟨2,(kL [v5,v6])⟩:(Sl Int)),0)) (HY E n0 n1 a0 v5 (aO (v6+1)) uy k)) (Hz E n0 a0 (aO (uy+1)) k):=krY
theorem zuT(n0:Nat)(a0:Sl ax)(v37:Int):H5 E (n0+1) a0 v37 k=cond (decide (v37<(a0.len:Int))) (H6 E n0 E.N a0 v37 (aO (v37+1)) v37 k) (k ((⟨0,λ_=>default⟩:(Sl Int)),7)):=krY
theorem zuU(n0 n1:Nat)(a0:Sl ax)(v7 v8 v37:Int):H6 E n0 (n1+1) a0 v7 v8 v37 k=cond (decide (v8<(a0.len:Int))) (H7 E n0 n1 E.N a0 v7 v8 (aO (v8+1)) v37 k) (H5 E n0 a0 (aO (v37+1)) k):=krY
theorem zuV(n0 n1 n2:Nat)(a0:Sl ax)(v7 v8 v9 v37:Int):H7 E n0 n1 (n2+1) a0 v7 v8 v9 v37 k=cond (decide (v9<(a0.len:Int))) ((E.zlF (a0,(⟨3,(kL [v7,v8,v9])⟩:(Sl Int)))).T λr1=>cond (!r1) (k ((⟨3,(kL [v7,v8,v9])⟩:(Sl Int)),0)) (H7 E n0 n1 n2 a0 v7 v8 (aO (v9+1)) v37 k)) (H6 E n0 n1 a0 v7 (aO (v8+1)) v37 k):=krY
end
theorem o49 [aH](E:E49)(MC:Ok aC 109 (ae.un E.c109))(zsb:Ok aC 110 (ae.un E.zlF)):Ok aC 49 (ae.un (F49 E)):=dP ((ay.nil.addF MC).addF zsb)
structure ze0 where
 N:Nat
 BR:(Sl ax)->ae set
 c159:set->ae Bool
abbrev zHI(E:ze0):bI:=gq ((Tabs.nil.addF 158 (ae.un E.BR)).addF 159 (ae.un E.c159)) []
def zHJ:dG:=bP aC 110 [] {ks:=[(1,3,⟨[],[(5,20,101)],[],[],[],[],[]⟩)]}
def zsc(E:ze0):(Sl ax)×(Sl Int)->ae Bool:=ae.ty (aF aC E.N (zHI E) zHJ 110)
section
variable(E:ze0){A:Type}(k:Bool->Option A)
def TG(E:ze0)(n:Nat)(a0:Sl ax)(a1:Sl Int)(v10:Int)(EO:Sl ax){A:Type}(k:Bool->Option A):Option A:=gX aC (zHI E) E.N zHJ 110 [1,1,0,1,0] [.n n] (gW k) ⟨[(0,eP a0),(5,.cl (.vec 20)),(8,eP a1),(9,.int (a1.len:Int)),(10,.int v10)],[(20,eV 101 3 24 EO)],[]⟩
theorem zVC(a0:Sl ax)(a1:Sl Int):(zsc E (a0,a1)).T k=TG E E.N a0 a1 0 (⟨0,(λ_=>(⟨0,0,0⟩:ax))⟩:(Sl ax)) k:=dO
theorem zkW(n0:Nat)(a0:Sl ax)(a1:Sl Int)(v10:Int)(EO:Sl ax):TG E (n0+1) a0 a1 v10 EO k=cond (decide (v10<(a1.len:Int))) (aU (decide (0<=v10/\v10<(a1.len:Int))) (aU (decide (0<=a1.get v10.toNat/\a1.get v10.toNat<(a0.len:Int))) (aU (room (EO.len+1) 24) (TG E n0 a0 a1 (aO (v10+1)) (⟨(EO.len+1),(jY EO.len EO.get (λ_=>(a0.get (a1.get v10.toNat).toNat)))⟩:(Sl ax)) k)))) ((E.BR EO).T λr1=>(E.c159 r1).T λr2=>k r2):=krY
end
theorem zVD [aH](E:ze0)(MF:Ok aC 158 (ae.un E.BR))(MG:Ok aC 159 (ae.un E.c159)):Ok aC 110 (ae.un (zsc E)):=dP ((ay.nil.addF MF).addF MG)
def adS(a b:straight):straight:=⟨a.bD+b.bD,a.start+b.start,a.den+b.den⟩
def smS(k:Int)(a:straight):straight:=⟨k*a.bD,k*a.start,k*a.den⟩
structure IE (K : straight → Prop) : Prop where
  zero:K ⟨0,0,0⟩
  add:∀{a b},K a->K b->K (adS a b)
  mul:∀{k a},0<=k->K a->K (smS k a)
theorem ze1(g:ax):IE (λs=>iK s g=true):=by
 refine⟨dM (by unfold jJ;simp only;omega),fun {a b} ha hb=>dM ?_,fun {k a} hk ha=>dM ?_⟩;have ha:=qdk ha;have hb:=qdk hb;unfold jJ adS at *;simp only;constructor<;>grind;obtain⟨h1,h2⟩:=qdk ha;have x1:=dqV h1 hk;have x2:=dqV h2 hk;unfold jJ smS at *;simp only;constructor<;>grind
theorem zkX{K L:straight->Prop}(hK:IE K)(hL:IE L):IE (λs=>K s/\L s) :=
 ⟨⟨hK.zero,hL.zero⟩,λa b=>⟨hK.add a.1 b.1,hL.add a.2 b.2⟩,λk a=>⟨hK.mul k a.1,hL.mul k a.2⟩⟩
def pos(x:Int):Int:=if 0<x then x else 0
theorem ND(x:Int):0<=pos x:=by unfold pos;split<;>omega
theorem Ey(x:Int):pos x-pos (-x)=x:=by unfold pos;split<;>split<;>omega
theorem zkY{x:Int}(h:x<=0):pos x=0:=by unfold pos;rw[fF omY]
theorem zVE(x1 y1 x2 y2 x3 y3:Int):∃c1 c2 c3:Int,(c1≠0\/c2≠0\/c3≠0)/\c1*x1+c2*x2+c3*x3=0/\c1*y1+c2*y2+c3*y3=0:=by
 by_cases h:x1*y2-x2*y1=0;by_cases hx:x1=0∧x2=0;by_cases hy:y1=0∧y2=0;exact⟨1,0,0,.inl (by decide),by rw[hx.1];omega,by rw[hy.1];omega⟩;exact⟨y2,-y1,0,omY,by rw[hx.1,hx.2];omega,by grind⟩;exact⟨x2,-x1,0,omY,by grind,by grind⟩;exact⟨x2*y3-x3*y2,x3*y1-x1*y3,x1*y2-x2*y1,.inr (.inr h),by grind,by grind⟩
theorem zVF{a b c d:straight}(hd:0<d.den):∃k1 k2 k3 k4:Int,(k1≠0\/k2≠0\/k3≠0\/k4≠0)/\k1*a.bD+k2*b.bD+k3*c.bD+k4*d.bD=0/\k1*a.start+k2*b.start+k3*c.start+k4*d.start=0/\k1*a.den+k2*b.den+k3*c.den+k4*d.den=0:=by
 obtain⟨c1,c2,c3,hc,e1,e2⟩:=zVE (d.den*a.bD-a.den*d.bD) (d.den*a.start-a.den*d.start) (d.den*b.bD-b.den*d.bD) (d.den*b.start-b.den*d.start) (d.den*c.bD-c.den*d.bD) (d.den*c.start-c.den*d.start);refine⟨c1*d.den,c2*d.den,c3*d.den,-(c1*a.den+c2*b.den+c3*c.den),?_,by grind,by grind,by grind⟩;rcases hc with h|h|h
 exact .inl (jqe h omY);exact .inr (.inl (jqe h omY));exact .inr (.inr (.inl (jqe h omY)))
def ze2(k1 k2 k3 k4:Int)(a b c d:straight):straight:=adS (adS (smS k1 a) (smS k2 b)) (adS (smS k3 c) (smS k4 d))
theorem zsd(a:straight):smS 0 a=⟨0,0,0⟩:=by unfold smS;simp
theorem zHK{A B C D:straight→Prop}(hA:IE A)(hB:IE B)(hC:IE C)(hD:IE D){a b c d:straight}(pa:0<a.den)(pb:0<b.den)(pc:0<c.den)(pd:0<d.den)
    (ha:B a/\C a/\D a) (hb:A b/\C b/\D b) (hc:A c/\B c/\D c) (hd:A d/\B d/\C d):∃w,0<w.den/\A w/\B w/\C w/\D w:=by
  obtain⟨k1,k2,k3,k4,hk,e1,e2,e3⟩:=zVF (a:=a) (b:=b) (c:=c) pd;have same:ze2 (pos k1) (pos k2) (pos k3) (pos k4) a b c d=ze2 (pos (-k1)) (pos (-k2)) (pos (-k3)) (pos (-k4)) a b c d:=by
    have d1:=Ey k1;have d2:=Ey k2;have d3:=Ey k3;have d4:=Ey k4;generalize pos k1=p1 at *;generalize pos k2=p2 at *;generalize pos k3=p3 at *;generalize pos k4=p4 at *;generalize pos (-k1)=q1 at *;generalize pos (-k2)=q2 at *;generalize pos (-k3)=q3 at *;generalize pos (-k4)=q4 at *;subst d1 d2 d3 d4;unfold ze2 adS smS;simp only[straight.mk.injEq];refine⟨?_,?_,?_⟩<;>grind
  have put:∀{K:straight->Prop}(hK:IE K)(x:Int)(v:straight),(0<x->K v)->K (smS (pos x) v):=fun {K} hK x v h=>by
    by_cases hx:0<x;exact hK.mul (ND x) (h hx);rw[zkY omY,zsd];exact hK.zero
  have mem:∀{K:straight->Prop}(hK:IE K),(0<k1->K a)->(0<k2->K b)->(0<k3->K c)->(0<k4->K d)->K (ze2 (pos k1) (pos k2) (pos k3) (pos k4) a b c d):=fun {K} hK h1 h2 h3 h4 =>
    hK.add (hK.add (put hK k1 a h1) (put hK k2 b h2)) (hK.add (put hK k3 c h3) (put hK k4 d h4))
  have ztm:∀{K:straight->Prop}(hK:IE K),(0 < -k1->K a)->(0 < -k2->K b)->(0 < -k3->K c)->(0 < -k4->K d)->K (ze2 (pos k1) (pos k2) (pos k3) (pos k4) a b c d):=fun {K} hK h1 h2 h3 h4=>by
    rw[same];exact hK.add (hK.add (put hK (-k1) a h1) (put hK (-k2) b h2)) (hK.add (put hK (-k3) c h3) (put hK (-k4) d h4))
  refine⟨ze2 (pos k1) (pos k2) (pos k3) (pos k4) a b c d,?_,?_,?_,?_,?_⟩;have n1:=qd3 (ND k1) (xQ pa);have n2:=qd3 (ND k2) (xQ pb);have n3:=qd3 (ND k3) (xQ pc);have n4:=qd3 (ND k4) (xQ pd);have one:∀{x y:Int},0<y->(0<x->0<pos x*y)/\(x<=0->x*y<=0)/\(x<0->x*y<0):=fun {x y} hy=>⟨λh=>by
    have:pos x=x:=by unfold pos;rw[eX h]
    rw[this];exact qjS h hy,λh=>Int.mul_nonpos_of_nonpos_of_nonneg h (xQ hy),λh=>Int.mul_neg_of_neg_of_pos h hy⟩
  show 0<(pos k1*a.den+pos k2*b.den)+(pos k3*c.den+pos k4*d.den);obtain⟨a1,a2,a3⟩:=one (x:=k1) pa;obtain⟨b1,b2,b3⟩:=one (x:=k2) pb;obtain⟨c1,c2,c3⟩:=one (x:=k3) pc;obtain⟨d1,d2,d3⟩:=one (x:=k4) pd;by_cases p1:0<k1;have:=a1 p1;omega;by_cases p2:0<k2;have:=b1 p2;omega;by_cases p3:0<k3;have:=c1 p3;omega;by_cases p4:0<k4;have:=d1 p4;omega;have:=a2 omY;have:=b2 omY;have:=c2 omY;have:=d2 omY;by_cases q1:k1<0;have:=a3 q1;omega;by_cases q2:k2<0;have:=b3 q2;omega;by_cases q3:k3<0;have:=c3 q3;omega;by_cases q4:k4<0;have:=d3 q4;omega;omega;by_cases h:0<k1;exact ztm hA (λk=>absurd k omY) (λ_=>hb.1) (λ_=>hc.1) (λ_=>hd.1);exact mem hA (λk=>absurd k h) (λ_=>hb.1) (λ_=>hc.1) (λ_=>hd.1);by_cases h:0<k2;exact ztm hB (λ_=>ha.1) (λk=>absurd k omY) (λ_=>hc.2.1) (λ_=>hd.2.1);exact mem hB (λ_=>ha.1) (λk=>absurd k h) (λ_=>hc.2.1) (λ_=>hd.2.1);by_cases h:0<k3;exact ztm hC (λ_=>ha.2.1) (λ_=>hb.2.1) (λk=>absurd k omY) (λ_=>hd.2.2);exact mem hC (λ_=>ha.2.1) (λ_=>hb.2.1) (λk=>absurd k h) (λ_=>hd.2.2);by_cases h:0<k4;exact ztm hD (λ_=>ha.2.2) (λ_=>hb.2.2) (λ_=>hc.2.2) (λk=>absurd k omY);exact mem hD (λ_=>ha.2.2) (λ_=>hb.2.2) (λ_=>hc.2.2) (λk=>absurd k h)
theorem zuW:∀(n:Nat)(K:Nat→straight→Prop),(∀i,IE (K i))→(∀i j k,i<n→j<n→k<n→∃s,0<s.den∧K i s∧K j s∧K k s)→∃s,0<s.den∧∀i,i<n→K i s
  | 0,_,_,_=>⟨⟨0,0,1⟩,by show(0:Int)<1;omega,λi hi=>absurd hi (Ut i)⟩
  | n+1,K,hK,h=>by
    obtain⟨s,hd,hs⟩:=zuW n (λi s=>K i s/\K n s) (λi=>zkX (hK i) (hK n)) λi j k hi hj hk=>by
      obtain⟨a,pa,a1,a2,a3⟩:=h j k n omY omY omY;obtain⟨b,pb,b1,b2,b3⟩:=h i k n omY omY omY;obtain⟨c,pc,c1,c2,c3⟩:=h i j n omY omY omY;obtain⟨d,pd,d1,d2,d3⟩:=h i j k omY omY omY;obtain⟨w,pw,w1,w2,w3,w4⟩:=zHK (hK i) (hK j) (hK k) (hK n) pa pb pc pd ⟨a1,a2,a3⟩ ⟨b1,b2,b3⟩ ⟨c1,c2,c3⟩ ⟨d1,d2,d3⟩;exact⟨w,pw,⟨w1,w4⟩,⟨w2,w4⟩,w3,w4⟩
    rcases qju n with e|e
    subst e;obtain⟨t,pt,t1,_⟩:=h 0 0 0 omY omY omY;exact⟨t,pt,λi hi=>by rw[show i=0 by omega];exact t1⟩;exact⟨s,hd,λi hi=>by
      by_cases k:i=n;rw[k];exact(hs 0 e).2;exact(hs i omY).1⟩
theorem Ez{g:Sl ax}:∀n i,i<n→(g.get i).Low≤(eU g n).Low∧(eU g n).High≤(g.get i).High
  | n+1,i,hi=>by
    simp only[eU];by_cases e:i=n;subst e;constructor<;>split<;>omega;have:=Ez (g:=g) n i omY;constructor<;>split<;>omega
def zHL(g:Sl ax):Prop:=∃s:straight,0<s.den/\zV g s
theorem zI{g:Sl ax}(G:bU g):fD g=true↔zHL g:=by
 constructor
 ·intro h;cases hf:fV g with
  | true =>
   unfold fD at h;rw[hf,dS,oW]at h;refine⟨⟨0,(eU g g.len).Low,1⟩,by show(0:Int)<1;omega,λi hi=>dM ?_⟩;have:=Ez (g:=g) g.len i hi;unfold jJ;simp only;omega
  | false =>
   obtain⟨s,h1,h2⟩:=(zF G hf).1 h;exact⟨s,by have:=(rD G h1).2.2;omega,h2⟩
 rintro⟨s,hd,ha⟩;exact zsa G hd ha
def pck(g:Sl ax)(w:Sl Int):Sl ax:=gw z0 (λi=>g.get (w.get i).toNat) w.len
theorem zas{g:Sl ax}(G:bU g){w:Sl Int}(hw:∀a,a<w.len->0<=w.get a/\w.get a<(g.len:Int))(h1:1<=w.len)(h2:w.len<=24):bU (pck g w):=by
 have e:(pck g w).len=w.len:=pg _ _ _;refine⟨λi hi=>?_,omY,omY⟩;rw[e]at hi;show gJ ((gw z0 _ w.len).get i);rw[BC hi];have:=hw i hi;exact G.1 _ omY
abbrev zAT(C:Sl ax×Sl Int->ae Bool):Prop:=∀g w,bU g->(∀a,a<w.len->0<=w.get a/\w.get a<(g.len:Int))->1<=w.len->w.len<=24->C (g,w)=.ok (fD (pck g w))
theorem zVG{E:ze0}(N:Big E.N)(MF:zke E.BR)(MG:zkf E.c159):zAT (zsc E):=λg w G hw h1 h2=>ae.ext λk=>by
 have hg:=G.2;rw[zVC,aX];refine jO (X:=λn i=>TG E n g w (i:Int) (gw z0 (λi=>g.get (w.get i).toNat) i) k) (m:=w.len) (λn i hi=>?_) (λn=>?_) _ (by have:=N;omega);have:=hw i hi;rw[zkW,dM omY,dS,bn omY,gy,bn omY,pg,jG omY omY,bF omY];rfl;rw [zkW,dR omY,dF];show(E.BR (pck g w)).T _=_;rw[MF _ (zas G hw h1 h2),aX];show(E.c159 (iU (pck g w))).T _=_;rw[MG _ (zas G hw h1 h2),aX]
structure Bad (g : Sl ax) (w : Sl Int) : Prop where
  len:2<=w.len/\w.len<=3
  mem:∀a,a<w.len->0<=w.get a/\w.get a<(g.len:Int)
  no:∀s:straight,0<s.den->¬ ∀a,a<w.len->iK s (g.get (w.get a).toNat)=true
theorem zcQ{g:Sl ax}(G:bU g){w:Sl Int}(hw:∀a,a<w.len->0<=w.get a/\w.get a<(g.len:Int))(h1:1<=w.len)(h2:w.len<=24):fD (pck g w)=true↔∃s:straight,0<s.den/\∀a,a<w.len->iK s (g.get (w.get a).toNat)=true:=by
 rw[zI (zas G hw h1 h2)];have e:(pck g w).len=w.len:=pg _ _ _;have q:∀a,a<w.len->(pck g w).get a=g.get (w.get a).toNat:=λa h=>BC h;constructor;rintro⟨s,hd,ha⟩;exact⟨s,hd,λa h=>by rw[<- q a h];exact ha a omY⟩;rintro⟨s,hd,ha⟩;exact⟨s,hd,λa h=>by rw[q a omY];exact ha a omY⟩
theorem zAU(a b:Int):kL [a,b] 0=a/\kL [a,b] 1=b:=⟨zcv a b,zcw a b⟩
theorem in2{n i j:Nat}(hi:i<n)(hj:j<n):∀a,a<2->0<=kL [(i:Int),(j:Int)] a/\kL [(i:Int),(j:Int)] a<(n:Int):=λa ha=>by
 obtain⟨g0,g1⟩:=zAU (i:Int) (j:Int)
 match a,ha with|0,_=>rw[g0];omega|1,_=>rw[g1];omega
theorem in3{n i j c:Nat}(hi:i<n)(hj:j<n)(hc:c<n):∀a,a<3->0<=kL [(i:Int),(j:Int),(c:Int)] a/\kL [(i:Int),(j:Int),(c:Int)] a<(n:Int):=λa ha=>by
 obtain⟨g0,g1,g2⟩:=zAF (i:Int) (j:Int) (c:Int)
 match a,ha with|0,_=>rw[g0];omega|1,_=>rw[g1];omega|2,_=>rw[g2];omega
def Two(g:Sl ax)(i j:Nat):Prop:=∃s:straight,0<s.den/\iK s (g.get i)=true/\iK s (g.get j)=true
def Three(g:Sl ax)(i j c:Nat):Prop:=∃s:straight,0<s.den/\iK s (g.get i)=true/\iK s (g.get j)=true/\iK s (g.get c)=true
abbrev Q49(C:Sl ax->ae (Sl Int×Int)):Prop:=∀g,bU g->(∃w:Sl Int,C g=.ok (w,0)/\Bad g w)\/(C g=.ok (⟨0,λ_=>default⟩,7)/\fD g=true)
theorem s49{E:E49}(N:Big E.N)(MC:zj3 E.c109)(zsb:zAT E.zlF):Q49 (F49 E):=λg G=>by
 have hN:=N;have hg:=G.2
 have k2:∀(n0 i:Nat),i<g.len->∀(m j n1:Nat),j+m=g.len->m<n1 ->
   (∃w:Sl Int,(∀(A:Type)(k:Sl Int×Int->Option A),HY E n0 n1 g (i:Int) (j:Int) (i:Int) k=k (w,0))/\Bad g w) \/
   ((∀(A:Type)(k:Sl Int×Int->Option A),HY E n0 n1 g (i:Int) (j:Int) (i:Int) k=Hz E n0 g ((i+1:Nat):Int) k)/\∀j',j<=j'->j'<g.len->Two g i j'):=by
  intro n0 i hi m
  induction m with
  | zero =>
   intro j n1 hj hn;obtain⟨n1,rfl⟩:∃n',n1=n'+1:=⟨n1-1,omY⟩;exact .inr ⟨λA k=>by rw[zuS,dR omY,dF,bF omY],λj' a b=>by omega⟩
  | succ m ih =>
   intro j n1 hj hn;obtain⟨n1,rfl⟩:∃n',n1=n'+1:=⟨n1-1,omY⟩;have oV:j<g.len:=by omega
   have hw:=in2 hi oV;have st:∀(A:Type)(k:Sl Int×Int->Option A),HY E n0 (n1+1) g (i:Int) (j:Int) (i:Int) k=cond (fD (pck g ⟨2,kL [(i:Int),(j:Int)]⟩)) (HY E n0 n1 g (i:Int) ((j+1:Nat):Int) (i:Int) k) (k (⟨2,kL [(i:Int),(j:Int)]⟩,0)):=λA k=>by
    rw[zuS,dM omY,dS,zsb g ⟨2,kL [(i:Int),(j:Int)]⟩ G hw (by show 1<=2;omega) (by show 2<=24;omega),aX,bF omY];cases fD (pck g ⟨2,kL [(i:Int),(j:Int)]⟩)<;>rfl
   have ai:=zcQ G (w:=⟨2,kL [(i:Int),(j:Int)]⟩) hw (by show 1<=2;omega) (by show 2<=24;omega);cases hb:fD (pck g ⟨2,kL [(i:Int),(j:Int)]⟩)with
   | false =>
    rw[hb]at st ai;exact .inl ⟨_,st,⟨by show 2<=2;omega,by show 2<=3;omega⟩,hw,λs hd ha=>by cases ai.2 ⟨s,hd,ha⟩⟩
   | true =>
    rw[hb]at st ai;rcases ih (j+1) n1 omY omY with⟨w,a,b⟩|⟨a,b⟩
    exact .inl ⟨w,λA k=>(st A k).trans (a A k),b⟩;refine .inr ⟨fun A k=>(st A k).trans (a A k),fun j' h1 h2 => ?_⟩;by_cases e:j'=j;subst e;obtain⟨s,hd,ha⟩:=ai.1 rfl;obtain⟨g0,g1⟩:=zAU (i:Int) (j':Int);have a0:iK s (g.get (kL [(i:Int),(j':Int)] 0).toNat)=true:=ha 0 (by show 0<2;omega);have a1:iK s (g.get (kL [(i:Int),(j':Int)] 1).toNat)=true:=ha 1 (by show 1<2;omega);rw[g0,gy]at a0;rw[g1,gy]at a1;exact⟨s,hd,a0,a1⟩;exact b j' omY h2
 have k1:∀(m i n0:Nat),i+m=g.len->m<n0 ->
   (∃w:Sl Int,(∀(A:Type)(k:Sl Int×Int->Option A),Hz E n0 g (i:Int) k=k (w,0))/\Bad g w) \/
   ((∀(A:Type)(k:Sl Int×Int->Option A),Hz E n0 g (i:Int) k=H5 E E.N g 0 k)/\∀i' j',i<=i'->i'<j'->j'<g.len->Two g i' j'):=by
  intro m
  induction m with
  | zero =>
   intro i n0 hi hn;obtain⟨n0,rfl⟩:∃n',n0=n'+1:=⟨n0-1,omY⟩;exact .inr ⟨λA k=>by rw[zuR,dR omY,dF],λi' j' a b c=>by omega⟩
  | succ m ih =>
   intro i n0 hi hn;obtain⟨n0,rfl⟩:∃n',n0=n'+1:=⟨n0-1,omY⟩;have st:∀(A:Type)(k:Sl Int×Int->Option A),Hz E (n0+1) g (i:Int) k=HY E n0 E.N g (i:Int) ((i+1:Nat):Int) (i:Int) k:=λA k=>by rw[zuR,dM omY,dS,bF omY]
   rcases k2 n0 i omY (g.len-(i+1)) (i+1) E.N omY omY with⟨w,a,b⟩|⟨a,b⟩
   exact .inl ⟨w,λA k=>(st A k).trans (a A k),b⟩;rcases ih (i+1) n0 omY omY with⟨w,c,d⟩|⟨c,d⟩
   exact .inl ⟨w,λA k=>(st A k).trans ((a A k).trans (c A k)),d⟩;refine .inr ⟨fun A k=>(st A k).trans ((a A k).trans (c A k)),fun i' j' h1 h2 h3 => ?_⟩;by_cases e:i'=i;subst e;exact b j' omY h3;exact d i' j' omY h2 h3
 have k5:∀(n0 n1 i j:Nat),i<g.len->j<g.len->∀(m c n2:Nat),c+m=g.len->m<n2 ->
   (∃w:Sl Int,(∀(A:Type)(k:Sl Int×Int->Option A),H7 E n0 n1 n2 g (i:Int) (j:Int) (c:Int) (i:Int) k=k (w,0))/\Bad g w) \/
   ((∀(A:Type)(k:Sl Int×Int->Option A),H7 E n0 n1 n2 g (i:Int) (j:Int) (c:Int) (i:Int) k=H6 E n0 n1 g (i:Int) ((j+1:Nat):Int) (i:Int) k)/\∀c',c<=c'->c'<g.len->Three g i j c'):=by
  intro n0 n1 i j hi hj m
  induction m with
  | zero =>
   intro c n2 hc hn;obtain⟨n2,rfl⟩:∃n',n2=n'+1:=⟨n2-1,omY⟩;exact .inr ⟨λA k=>by rw[zuV,dR omY,dF,bF omY],λc' a b=>by omega⟩
  | succ m ih =>
   intro c n2 hc hn;obtain⟨n2,rfl⟩:∃n',n2=n'+1:=⟨n2-1,omY⟩;have hw:=in3 hi hj (show c<g.len by omega);have st:∀(A:Type)(k:Sl Int×Int->Option A),H7 E n0 n1 (n2+1) g (i:Int) (j:Int) (c:Int) (i:Int) k=cond (fD (pck g ⟨3,kL [(i:Int),(j:Int),(c:Int)]⟩)) (H7 E n0 n1 n2 g (i:Int) (j:Int) ((c+1:Nat):Int) (i:Int) k) (k (⟨3,kL [(i:Int),(j:Int),(c:Int)]⟩,0)):=λA k=>by
    rw[zuV,dM omY,dS,zsb g ⟨3,kL [(i:Int),(j:Int),(c:Int)]⟩ G hw (by show 1<=3;omega) (by show 3<=24;omega),aX,bF omY];cases fD (pck g ⟨3,kL [(i:Int),(j:Int),(c:Int)]⟩)<;>rfl
   have ai:=zcQ G (w:=⟨3,kL [(i:Int),(j:Int),(c:Int)]⟩) hw (by show 1<=3;omega) (by show 3<=24;omega);cases hb:fD (pck g ⟨3,kL [(i:Int),(j:Int),(c:Int)]⟩)with
   | false =>
    rw[hb]at st ai;exact .inl ⟨_,st,⟨by show 2<=3;omega,by show 3<=3;omega⟩,hw,λs hd ha=>by cases ai.2 ⟨s,hd,ha⟩⟩
   | true =>
    rw[hb]at st ai;rcases ih (c+1) n2 omY omY with⟨w,a,b⟩|⟨a,b⟩
    exact .inl ⟨w,λA k=>(st A k).trans (a A k),b⟩;refine .inr ⟨fun A k=>(st A k).trans (a A k),fun c' h1 h2 => ?_⟩;by_cases e:c'=c;subst e;obtain⟨s,hd,ha⟩:=ai.1 rfl;obtain⟨g0,g1,g2⟩:=zAF (i:Int) (j:Int) (c':Int);have a0:iK s (g.get (kL [(i:Int),(j:Int),(c':Int)] 0).toNat)=true:=ha 0 (by show 0<3;omega);have a1:iK s (g.get (kL [(i:Int),(j:Int),(c':Int)] 1).toNat)=true:=ha 1 (by show 1<3;omega);have a2:iK s (g.get (kL [(i:Int),(j:Int),(c':Int)] 2).toNat)=true:=ha 2 (by show 2<3;omega);rw[g0,gy]at a0;rw[g1,gy]at a1;rw[g2,gy]at a2;exact⟨s,hd,a0,a1,a2⟩;exact b c' omY h2
 have k4:∀(n0 i:Nat),i<g.len->∀(m j n1:Nat),j+m=g.len->m<n1 ->
   (∃w:Sl Int,(∀(A:Type)(k:Sl Int×Int->Option A),H6 E n0 n1 g (i:Int) (j:Int) (i:Int) k=k (w,0))/\Bad g w) \/
   ((∀(A:Type)(k:Sl Int×Int->Option A),H6 E n0 n1 g (i:Int) (j:Int) (i:Int) k=H5 E n0 g ((i+1:Nat):Int) k)/\∀j' c',j<=j'->j'<c'->c'<g.len->Three g i j' c'):=by
  intro n0 i hi m
  induction m with
  | zero =>
   intro j n1 hj hn;obtain⟨n1,rfl⟩:∃n',n1=n'+1:=⟨n1-1,omY⟩;exact .inr ⟨λA k=>by rw[zuU,dR omY,dF,bF omY],λj' c' a b c=>by omega⟩
  | succ m ih =>
   intro j n1 hj hn;obtain⟨n1,rfl⟩:∃n',n1=n'+1:=⟨n1-1,omY⟩;have st:∀(A:Type)(k:Sl Int×Int->Option A),H6 E n0 (n1+1) g (i:Int) (j:Int) (i:Int) k=H7 E n0 n1 E.N g (i:Int) (j:Int) ((j+1:Nat):Int) (i:Int) k:=λA k=>by rw[zuU,dM omY,dS,bF omY]
   rcases k5 n0 n1 i j hi omY (g.len-(j+1)) (j+1) E.N omY omY with⟨w,a,b⟩|⟨a,b⟩
   exact .inl ⟨w,λA k=>(st A k).trans (a A k),b⟩;rcases ih (j+1) n1 omY omY with⟨w,c,d⟩|⟨c,d⟩
   exact .inl ⟨w,λA k=>(st A k).trans ((a A k).trans (c A k)),d⟩;refine .inr ⟨fun A k=>(st A k).trans ((a A k).trans (c A k)),fun j' c' h1 h2 h3 => ?_⟩;by_cases e:j'=j;subst e;exact b c' omY h3;exact d j' c' omY h2 h3
 have k3:∀(m i n0:Nat),i+m=g.len->m<n0 ->
   (∃w:Sl Int,(∀(A:Type)(k:Sl Int×Int->Option A),H5 E n0 g (i:Int) k=k (w,0))/\Bad g w) \/
   ((∀(A:Type)(k:Sl Int×Int->Option A),H5 E n0 g (i:Int) k=k (⟨0,λ_=>default⟩,7))/\∀i' j' c',i<=i'->i'<j'->j'<c'->c'<g.len->Three g i' j' c'):=by
  intro m
  induction m with
  | zero =>
   intro i n0 hi hn;obtain⟨n0,rfl⟩:∃n',n0=n'+1:=⟨n0-1,omY⟩;exact .inr ⟨λA k=>by rw[zuT,dR omY,dF],λi' j' c' a b c=>by omega⟩
  | succ m ih =>
   intro i n0 hi hn;obtain⟨n0,rfl⟩:∃n',n0=n'+1:=⟨n0-1,omY⟩;have st:∀(A:Type)(k:Sl Int×Int->Option A),H5 E (n0+1) g (i:Int) k=H6 E n0 E.N g (i:Int) ((i+1:Nat):Int) (i:Int) k:=λA k=>by rw[zuT,dM omY,dS,bF omY]
   rcases k4 n0 i omY (g.len-(i+1)) (i+1) E.N omY omY with⟨w,a,b⟩|⟨a,b⟩
   exact .inl ⟨w,λA k=>(st A k).trans (a A k),b⟩;rcases ih (i+1) n0 omY omY with⟨w,c,d⟩|⟨c,d⟩
   exact .inl ⟨w,λA k=>(st A k).trans ((a A k).trans (c A k)),d⟩;refine .inr ⟨fun A k=>(st A k).trans ((a A k).trans (c A k)),fun i' j' c' h1 h2 h3 h4 => ?_⟩;by_cases e:i'=i;subst e;exact b j' c' omY h3 h4;exact d i' j' c' omY h2 h3 h4
 have e0:∀(A:Type)(k:Sl Int×Int->Option A),(F49 E g).T k=Hz E E.N g 0 k:=λA k=>by rw[e49,MC g omY,aX,nY.2 G];rfl
 rcases k1 g.len 0 E.N omY omY with⟨w,a,b⟩|⟨a,A2⟩
 exact .inl ⟨w,ae.ext λk=>(e0 _ k).trans (a _ k),b⟩;rcases k3 g.len 0 E.N omY omY with⟨w,c,d⟩|⟨c,A3⟩
 exact .inl ⟨w,ae.ext λk=>(e0 _ k).trans ((a _ k).trans (c _ k)),d⟩;refine .inr ⟨ae.ext λk=>(e0 _ k).trans ((a _ k).trans (c _ k)),(zI G).2 ?_⟩;have A2:∀i j,i<j->j<g.len->Two g i j:=λi j h1 h2=>A2 i j (AP _) h1 h2;have A3:∀i j c,i<j->j<c->c<g.len->Three g i j c:=λi j c h1 h2 h3=>A3 i j c (AP _) h1 h2 h3;have A1:∀i,i<g.len->∃s:straight,0<s.den/\iK s (g.get i)=true:=λi hi=>by
  have:=(G.1 i hi).2;refine⟨⟨0,(g.get i).Low,1⟩,by show(0:Int)<1;omega,dM ?_⟩;unfold jJ;simp only;omega
 obtain⟨s,hd,hs⟩:=zuW g.len (λi s=>iK s (g.get i)=true) (λi=>ze1 (g.get i)) λi j k hi hj hk=>by
  rcases qdx i j with a|a|a
  rcases qdx j k with b|b|b
  obtain⟨s,p,q,r,t⟩:=A3 i j k a b hk;exact⟨s,p,q,r,t⟩;obtain⟨s,p,q,r⟩:=A2 i j a hj;exact⟨s,p,q,r,by rw[<- b];exact r⟩;rcases qdx i k with c|c|c
  obtain⟨s,p,q,r,t⟩:=A3 i k j c b hj;exact⟨s,p,q,t,r⟩;obtain⟨s,p,q,r⟩:=A2 i j a hj;exact⟨s,p,q,r,by rw[<- c];exact q⟩;obtain⟨s,p,q,r,t⟩:=A3 k i j c a hj;exact⟨s,p,r,t,q⟩;subst a;rcases qdx i k with c|c|c
  obtain⟨s,p,q,r⟩:=A2 i k c hk;exact⟨s,p,q,q,r⟩;subst c;obtain⟨s,p,q⟩:=A1 i hi;exact⟨s,p,q,q,q⟩;obtain⟨s,p,q,r⟩:=A2 k i c hi;exact⟨s,p,r,r,q⟩;rcases qdx i k with b|b|b
  obtain⟨s,p,q,r,t⟩:=A3 j i k a b hk;exact⟨s,p,r,q,t⟩;obtain⟨s,p,q,r⟩:=A2 j i a hi;exact⟨s,p,r,q,by rw[<- b];exact r⟩;rcases qdx j k with c|c|c
  obtain⟨s,p,q,r,t⟩:=A3 j k i c b hi;exact⟨s,p,t,q,r⟩;obtain⟨s,p,q,r⟩:=A2 j i a hi;exact⟨s,p,r,q,by rw[<- c];exact q⟩;obtain⟨s,p,q,r,t⟩:=A3 k j i c a hi;exact⟨s,p,t,r,q⟩
 exact⟨s,hd,hs⟩
theorem TI : ∀ (c : iY) (a j : Int), a ≤ j → (∀ p ∈ c, a ≤ p.1 ∧ p.1 < j) → c.Pairwise (fun p q => p.1 < q.1) → (c.length : Int) ≤ j - a
  | [],a,j,h,_,_=>by simp;omega
  | p::c,a,j,h,m,pw=>by
    have hp:=m p kQ;have pw:=qdz.1 pw;have:=TI c (p.1+1) j omY (λq hq=>⟨by have:=pw.1 q hq;omega,(m q (jS _ hq)).2⟩) pw.2;rw[EN];omega
theorem zcR : ∀ {c d : iY}, c.Pairwise (fun p q => p.1 < q.1) → d.Pairwise (fun p q => p.1 < q.1) → (∀ p ∈ c, p ∈ d) → c.length ≤ d.length ∧ (c.length = d.length → c = d)
  | [],d,_,_,_=>⟨AP _,λh=>(qje.1 h.symm).symm⟩
  | p::c,[],_,_,m=>by cases m p kQ
  | p::c,q::d,hc,hd,m=>by
    have hc:=qdz.1 hc;have hd:=qdz.1 hd;have hp:=kF.1 (m p kQ);have m':∀r∈c,r∈d:=λr hr=>by
      rcases kF.1 (m r (jS _ hr))with e|h
      have a:=hc.1 r hr;rw[e]at a;rcases hp with e|h
      rw[e]at a;omega;have:=hd.1 p h;omega;exact h
    obtain⟨a,b⟩:=zcR hc.2 hd.2 m';refine⟨by rw[EN,EN];omega,λh=>?_⟩;rw[EN,EN]at h;have e:=b omY;rcases hp with f|h
    rw[e,f];rw[<- e]at h;have:=hc.1 p h;omega
theorem sS{s:au}{l:Sl bi}{t:af}(h:pq s l t=true):Qd t.View t/\vwB t.View=true/\eQ t≠[]/\Val s l t.View (eQ t) l.len:=by
 simp only[pq,gz,oW,dA]at h;obtain⟨⟨⟨h1,h2⟩,h3⟩,h4⟩:=h;have un:∀i,i<t.Hits.len->(0<=t.Hits.get i/\t.Hits.get i<(l.len:Int))/\(i=0\/t.Hits.get (i-1)<t.Hits.get i)/\P9 s l (t.Hits.get i).toNat=t.View/\(0<=t.aV.get i/\t.aV.get i<(wK s l (t.Hits.get i).toNat:Int))/\∀k,k<i->(l.get (t.Hits.get k).toNat).ak≠(l.get (t.Hits.get i).toNat).ak:=λi hi=>by
  have:=h4 i hi;simp only[Je,gz,qdj,oW,inB,Uj,dA,N8,dqS]at this;obtain⟨⟨⟨⟨a,b⟩,c⟩,d⟩,e⟩:=this;have d:0<=t.aV.get i/\t.aV.get i<=((wK s l (t.Hits.get i).toNat:Nat):Int)-1:=d;exact⟨omY,b,c,omY,e⟩
 have inc:∀b a,a<b->b<t.Hits.len->t.Hits.get a<t.Hits.get b:=by
  intro b
  induction b with
  | zero=>intro a h;omega
  | succ b ih =>
   intro a hab hb;have h:=(un (b+1) hb).2.1;rcases h with h|h
   omega;rw [qjX]at h;by_cases e:a=b;rw[e];exact h;have:=ih a omY omY;omega
 have hl:=jK t;have ne:eQ t≠[]:=λe=>by rw[e,Uu]at hl;omega
 have gt:∀i (hi:i<(eQ t).length),(eQ t)[i]=(t.Hits.get i,t.aV.get i):=λi hi=>by
  have:=Ji (t:=t) (i:=i) omY;rw[Ae hi]at this;exact Yg this
 have pw:(eQ t).Pairwise λp q=>p.1<q.1/\(l.get p.1.toNat).ak≠(l.get q.1.toNat).ak:=by
  rw[qdn];intro i j hi hj NY;rw[gt i hi,gt j hj];exact⟨inc j i NY omY,(un j omY).2.2.2.2 i NY⟩
 have mem:∀p∈eQ t,(0<=p.1/\p.1<(l.len:Int))/\P9 s l p.1.toNat=t.View/\0<=p.2/\p.2<(wK s l p.1.toNat:Int):=λp hp=>by
  obtain⟨i,hi,e1,e2⟩:=lu.1 hp;have:=un i hi;rw[<- e1,<- e2];exact⟨this.1,this.2.2.1,this.2.2.2.1⟩
 refine⟨⟨rfl,h3⟩,h1,ne,⟨?_,kw _⟩,mem,pw⟩;have:=TI (eQ t) 0 (l.len:Int) omY (λp hp=>(mem p hp).1) (pw.imp λh=>h.1);omega
theorem Val.pre{s:au}{l:Sl bi}{x:Int}{c:iY}{p:Int×Int}{j:Nat}(h:Val s l x (c++[p]) j):Val s l x c p.1.toNat/\AB l c p.1=false/\(0<=p.1/\p.1<(j:Int))/\P9 s l p.1.toNat=x/\0<=p.2/\p.2<(wK s l p.1.toNat:Int):=by
 have pw:=qdG.1 h.pw;have hp:=h.mem p (qjj _ (kY.2 rfl));have lt:=λq (hq:q∈c)=>pw.2.2 q hq p (kY.2 rfl);have hle:=h.le;have m:∀q∈c,0<=q.1/\q.1<p.1:=λq hq=>⟨(h.mem q (qdN _ hq)).1.1,(lt q hq).1⟩;refine⟨⟨⟨?_,omY⟩,λq hq=>?_,pw.1⟩,?_,hp⟩;have:=TI c 0 p.1 hp.1.1 m (pw.1.imp fun h=>h.1);omega;have a:=h.mem q (qdN _ hq);have b:=m q hq;exact⟨omY,a.2⟩;unfold AB;rw[qjh];intro q hq;have:=(lt q hq).2;simpa using this
def Lin(s:au)(l:Sl bi)(c:iY)(ln:straight):Prop:=∀p∈c,iK ln ((wJ s (l.get p.1.toNat)).get p.2.toNat)=true
theorem zcS{s:au}{l:Sl bi}{c:iY}{i:Nat}(hi:i<c.length):(zW s l c).get i=(wJ s (l.get (c[i]).1.toNat)).get (c[i]).2.toNat:=by
 unfold zW;rw[BC hi,Ae hi];rfl
theorem Xx{s:au}{l:Sl bi}{x:Int}{c:iY}{j:Nat}(he:Evt s l)(h24:l.len<=24)(h:Val s l x c j)(ne:c≠[]):fD (zW s l c)=true↔∃ln:straight,0<ln.den/\Lin s l c ln:=by
 rw[zI (BM he h24 h ne)];have e:(zW s l c).len=c.length:=pg _ _ _;constructor;rintro⟨ln,hd,ha⟩;refine⟨ln,hd,λp hp=>?_⟩;obtain⟨i,hi,rfl⟩:=qdT hp;have:=ha i omY;rwa[zcS hi]at this;rintro⟨ln,hd,ha⟩;refine⟨ln,hd,λi hi=>?_⟩;rw[zcS omY];exact ha _ (qde _)
def tiG(s:au)(l:Sl bi)(c:iY):Sl ax:=⟨c.length,λi=>⟨0,(jh s (l.get ((c[i]?).getD (0,0)).1.toNat)).Low,(jh s (l.get ((c[i]?).getD (0,0)).1.toNat)).High⟩⟩
theorem zcT{s:au}{l:Sl bi}{c:iY}{i:Nat}(hi:i<c.length):(tiG s l c).get i=⟨0,(jh s (l.get (c[i]).1.toNat)).Low,(jh s (l.get (c[i]).1.toNat)).High⟩:=by
 show(⟨0,(jh s (l.get ((c[i]?).getD (0,0)).1.toNat)).Low,(jh s (l.get ((c[i]?).getD (0,0)).1.toNat)).High⟩:ax)=_;rw[Ae hi];rfl
theorem TJ{s:au}{l:Sl bi}{c:iY}(ne:c≠[]):OA s l c=true↔∃x:Int,∀p∈c,(jh s (l.get p.1.toNat)).Low<=x/\x<=(jh s (l.get p.1.toNat)).High:=by
 have hl:=List.length_pos_iff.2 ne;have e:Tz s l c=eU (tiG s l c) c.length:=rfl;unfold OA;rw[oW,e];constructor;intro h;refine⟨(eU (tiG s l c) c.length).Low,λp hp=>?_⟩;obtain⟨i,hi,rfl⟩:=qdT hp;have:=Ez (g:=tiG s l c) c.length i hi;rw[zcT hi]at this;exact⟨this.1,qj5 h this.2⟩;rintro⟨x,hx⟩;obtain⟨a,b⟩:=NC (g:=tiG s l c) (d:=1) (x:=x) omY hl (λi hi=>by
  have hi:i<c.length:=hi;rw[zcT hi,Int.mul_one,Int.mul_one];exact hx _ (qde hi)) c.length (kw _)
 omega
theorem zAV{s:au}{l:Sl bi}{x:Int}{c c':iY}{j j':Nat}(he:Evt s l)(h24:l.len<=24)(h:Val s l x c j)(h':Val s l x c' j')(ne':c'≠[])(sub:∀p∈c',p∈c)(ag:zG s l c=true):zG s l c'=true:=by
 have ne:c≠[]:=λe=>by
  obtain⟨p,hp⟩:=List.exists_mem_of_ne_nil _ ne';have:=sub p hp;rw[e]at this;cases this
 unfold zG at ag ⊢;rw[gz]at ag ⊢;obtain⟨tt,hx⟩:=(TJ ne).1 ag.1;obtain⟨ln,hd,hl⟩:=(Xx he h24 h ne).1 ag.2;exact⟨(TJ ne').2 ⟨tt,λp hp=>hx p (sub p hp)⟩,(Xx he h24 h' ne').2 ⟨ln,hd,λp hp=>hl p (sub p hp)⟩⟩
theorem zkZ{s:au}{l:Sl bi}{x:Int}(he:Evt s l)(h24:l.len≤24):∀(n:Nat)(c:iY)(j:Nat),c.length=n→Val s l x c j→(c=[]∨zG s l c=true)→∃i,Ch (zG s l) (AB l) (Oy s l x) c i∧i≤j
  | 0,c,j,hn,_,_=>by
    rw[qje.1 hn];exact⟨0,.nil,AP _⟩
  | n+1,c,j,hn,hv,ag=>by
    have ne:c≠[]:=λe=>by rw[e]at hn;cases hn
    have ag:=ag.resolve_left ne;have e:=List.dropLast_concat_getLast ne;generalize c.dropLast=c' at e;generalize c.getLast ne=p at e;subst e;obtain⟨v',us,p1,p2,p3⟩:=hv.pre;have hle:=hv.le;have ag':c'=[]\/zG s l c'=true:=by
      by_cases h:c'=[];exact .inl h;exact .inr (zAV he h24 hv v' h (λq hq=>qdN _ hq) ag)
    obtain⟨i,hi,le⟩:=zkZ he h24 n c' _ (by rw[N7]at hn;simpa using hn) v' ag';refine⟨p.1.toNat+1,.snoc hi ((Tn omY).2 ⟨omY,p2,p3⟩) us ag,omY⟩
theorem zse{s:au}{l:Sl bi}{x:Int}{c:iY}{j:Nat}(he:Evt s l)(h24:l.len<=24)(hv:Val s l x c j)(ne:c≠[])(ag:zG s l c=true):c∈kW s l x:=by
 obtain⟨i,hi,_⟩:=zkZ he h24 _ c j rfl hv (.inr ag);have:=hv.le;exact(zHy (f:=30) hi omY).1.resolve_left ne
theorem zsf{s:au}{l:Sl bi}(he:Evt s l){i:Nat}(hi:i<l.len):(jh s (l.get i)).Low<=(jh s (l.get i)).High:=by
 have hp:=he.pl hi;have Ig:=sN he.se (i:=(l.get i).ak.toNat) omY;have hh:kV s (l.get i)=true:=dA.1 he.hi i hi;obtain⟨_,_,_,_,_,_,_,_,hc,hj,_⟩:=Ig;have ht : -1000000000<=(l.get i).Time/\(l.get i).Time<=1000000000:=by
  simp only[kV,hpB,gz,inB,oW]at hh;have:=hh.2.1.1.2;omega
 unfold jh zrT;clear hh;generalize s.aj.get (l.get i).ak.toNat=p at *;cases hk:p.Kind==3 with
 | true=>rw[dS];omega
 | false =>
  rw[dF];show aO (aO ((l.get i).Time-p.Clock.High)-p.dL)<=aO (aO ((l.get i).Time-p.Clock.Low)+p.dL);rw[aZ (x:=(l.get i).Time-p.Clock.High) omY omY,aZ (x:=(l.get i).Time-p.Clock.Low) omY omY,aZ omY omY,aZ omY omY];omega
abbrev jX(t:af):Int×iY:=(t.View,eQ t)
def ltK(a b:Int×iY):Prop:=a.1<b.1\/a.1=b.1/\(cmpL (a.2.map (·.1)) (b.2.map (·.1))<0\/a.2.map (·.1)=b.2.map (·.1)/\cmpL (a.2.map (·.2)) (b.2.map (·.2))<0)
theorem zcU(t:af):(eQ t).map (·.1)=pI t.Hits:=by unfold eQ pI;rw[qdR];rfl
theorem zcV{t:af}(h:t.aV.len=t.Hits.len):(eQ t).map (·.2)=pI t.aV:=by unfold eQ pI;rw[qdR,h];rfl
theorem zHN{a b:af}(ha:a.aV.len=a.Hits.len)(hb:b.aV.len=b.Hits.len):ltK (jX a) (jX b)↔ltT a b:=by
 unfold ltK ltT;show _\/_/\(cmpL ((eQ a).map (·.1)) ((eQ b).map (·.1))<0\/(eQ a).map (·.1)=(eQ b).map (·.1)/\cmpL ((eQ a).map (·.2)) ((eQ b).map (·.2))<0)↔_;rw[zcU,zcU,zcV ha,zcV hb]
theorem zk0{a b:Int×iY}(h:ltK a b)(k:ltK b a):False:=by
 rcases h with h|⟨h,h2⟩<;>rcases k with k|⟨k,k2⟩
 omega;omega;omega;rcases h2 with h2|⟨h2,h3⟩<;>rcases k2 with k2|⟨k2,k3⟩
 exact vG _ (Es h2 k2);rw[k2]at h2;exact vG _ h2;rw[h2]at k2;exact vG _ k2;exact vG _ (Es h3 k3)
def grK(a b:Int×iY):Bool:=decide (a.2.length>b.2.length)&&(b.2.all (λp=>a.2.contains p)&&(b.1==a.1))
theorem zHO(a b:af):EQ a b=grK (jX a) (jX b):=by
 unfold EQ grK xO;show _=(decide ((eQ a).length>(eQ b).length)&&_);rw[jK,jK];congr 1;exact decide_eq_decide.2 omY
theorem yZ{p:Int×iY→Bool}{q:af→Bool}:∀{L:List af},(∀t∈L,q t=p (jX t))→(L.filter q).map jX=(L.map jX).filter p
  | [],_=>rfl
  | t::L,h=>by
    have ih:=yZ (p:=p) (q:=q) (L:=L) λu hu=>h u (jS _ hu);have e:=h t kQ;rw[o5,qd6,qd6,e];by_cases hp:p (jX t)=true;rw[eX hp,eX hp,o5,ih];rw[fF hp,fF hp,ih]
theorem Xy{x:Int}{L:List af}{c:List iY}(h:∀t∈L,Qd x t)(e:L.map eQ=c):L.map jX=c.map λc=>(x,c):=by
 rw[<- e,qdR];exact qdb λt ht=>by show(t.View,eQ t)=(x,eQ t);rw[(h t ht).1]
theorem zat{α:Type}{p q:α->Bool}{a:List α}(h:∀x∈a,p x=q x):a.any p=a.any q:=by
 induction a with|nil=>rfl|cons x a ih=>rw[List.any_cons,List.any_cons,h x kQ,ih λy hy=>h y (jS _ hy)]
def zsg(s:au)(r:bC)(l:Sl bi):List (Int×iY):=((kW s l 1).filter (rW s l 1 r)).map (λc=>(1,c))++((kW s l 2).filter (rW s l 2 r)).map (λc=>(2,c))
theorem OC.keys{s:au}{r:bC}{l:Sl bi}{f:found}(h:OC s r l f):(ls f.fits).map jX=zsg s r l/\((ls f.dw).map jX).Perm ((zsg s r l).filter λk=>!(zsg s r l).any λx=>grK x k):=by
 obtain⟨X,Y,e,x1,y1,x2,y2⟩:=h.fx;have hk:(ls f.fits).map jX=zsg s r l:=by rw[e,Ud,Xy x1 x2,Xy y1 y2];rfl
 refine⟨hk,(h.tr.map jX).trans (List.Perm.of_eq ?_)⟩;rw[<- hk];refine yZ λt _=>?_;rw[List.any_map];congr 1;exact zat λx _=>zHO x t
theorem OC.uniq{s:au}{r:bC}{l:Sl bi}{f g:found}(h:OC s r l f)(k:OC s r l g)(he:Evt s l)(h24:l.len<=24):(ls f.dw).map jX=(ls g.dw).map jX:=by
 have srt:∀{f:found},OC s r l f->((ls f.dw).map jX).Pairwise ltK:=fun {f} h=>by
  rw[qji];refine h.st.imp_of_mem fun {a b} ha hb hab=>?_;exact(zHN (h.chosen he h24 (h.sub ha)).tv.2 (h.chosen he h24 (h.sub hb)).tv.2).2 hab
 exact jqo (le:=ltK) (λa b _ _ h1 h2=>(zk0 h1 h2).elim) (srt h) (srt k) (h.keys.2.trans k.keys.2.symm)
structure E80 where
 N:Nat
 c105:(Pt aS)×af->ae ((Sl ax))
 c49:(Sl ax)->ae ((Sl Int)×Int)
abbrev G80(E:E80):bI:=gq ((Tabs.nil.addF 105 (ae.un E.c105)).addF 49 (ae.un E.c49)) []
def A80:dG:=bP aC 80 [] {ks:=[(1,6,⟨[],[],[(8,1,39,3)],[],[],[],[]⟩)]}
def F80(E:E80):(Pt found)×af->ae (bK×Bool):=ae.ty (aF aC E.N (G80 E) A80 80)
section
variable(E:E80){A:Type}(k:(bK×Bool)->Option A)
def zcW(E:E80)(n:Nat)(a1:af)(v25:Sl Int)(v26 Ik:Int)(w39:Sl Int){A:Type}(k:(bK×Bool)->Option A):Option A:=gX aC (G80 E) E.N A80 80 [1,1,1,1,0,1,0] [.n n] (gW k) ⟨[(3,.cl (.ptr 3 0)),(4,.cl (.ptr 4 0)),(8,.cl (.ptr 8 0)),(25,eP v25),(26,.int v26),(27,.int Ik)],[(3,eB 43 a1),(4,.box 50 [.p (.int .i64 0),.p (.nils),.p (.nils),.p (.int .i64 0),.p (.nils),.p (.nils)]),(8,.box 50 [.p (.int .i64 2),.vec 39,.p (.nils),.p (.int .i64 0),.p (.nils),.p (.nils)]),(39,eV 3 1 8 w39)],[]⟩
theorem e80(a0:Pt found)(a1:af):(F80 E (a0,a1)).T k=(E.c105 (a0.v.aS,a1)).T λr1=>(E.c49 r1).T λr2=>cond (r2.2 != 0) (k ((⟨0,(⟨0,λ_=>default⟩:(Sl Int)),(⟨0,λ_=>default⟩:(Sl Int)),(⟨0,(⟨0,λ_=>default⟩:(Sl Int)),(⟨0,λ_=>default⟩:(Sl Int))⟩:af)⟩:bK),false)) (zcW E E.N a1 r2.1 (r2.1.len:Int) 0 (⟨0,(λ_=>0)⟩:(Sl Int)) k):=dO
theorem zuZ(n0:Nat)(a1:af)(v25:Sl Int)(v26 Ik:Int)(w39:Sl Int):zcW E (n0+1) a1 v25 v26 Ik w39 k=cond (decide (Ik<v26)) (aU (decide (0<=Ik/\Ik<(v25.len:Int))) (aU (decide (0<=v25.get Ik.toNat/\v25.get Ik.toNat<(a1.Hits.len:Int))) (aU (room (w39.len+1) 8) (zcW E n0 a1 v25 v26 (aO (Ik+1)) (⟨(w39.len+1),(jY w39.len w39.get (λ_=>a1.Hits.get (v25.get Ik.toNat).toNat))⟩:(Sl Int)) k)))) (k ((⟨2,w39,(⟨0,λ_=>default⟩:(Sl Int)),(⟨0,(⟨0,λ_=>default⟩:(Sl Int)),(⟨0,λ_=>default⟩:(Sl Int))⟩:af)⟩:bK),true)):=krY
end
theorem o80 [aH](E:E80)(Bv:Ok aC 105 (ae.un E.c105))(h49:Ok aC 49 (ae.un E.c49)):Ok aC 80 (ae.un (F80 E)):=dP ((ay.nil.addF Bv).addF h49)
structure E81 where
 N:Nat
 c50:au×(Sl bi)->ae (bZ×Int)
abbrev G81(E:E81):bI:=gq (Tabs.nil.addF 50 (ae.un E.c50)) []
def A81:dG:=bP aC 81 [] {}
def F81(E:E81):(Pt found)×af->ae (bK×Bool):=ae.ty (aF aC E.N (G81 E) A81 81)
section
variable(E:E81){A:Type}(k:(bK×Bool)->Option A)
def NE(E:E81)(n:Nat)(a0:Pt found)(a1:af)(rJ:Int){A:Type}(k:(bK×Bool)->Option A):Option A:=gX aC (G81 E) E.N A81 81 [1,0,1,0] [.n n] (gW k) ⟨[(0,eP a0),(3,.cl (.ptr 3 0)),(4,.cl (.ptr 4 0)),(13,eP a1.Hits),(14,.int (a1.Hits.len:Int)),(15,.int rJ)],[(3,eB 43 a1),(4,.box 50 [.p (.int .i64 0),.p (.nils),.p (.nils),.p (.int .i64 0),.p (.nils),.p (.nils)])],[]⟩
def H8(E:E81)(n0 n:Nat)(a0:Pt found)(a1:af)(v7 rJ:Int)(v24:Sl Int)(v25 v26:Int){A:Type}(k:(bK×Bool)->Option A):Option A:=gX aC (G81 E) E.N A81 81 [1,0,1,0,0,1,1,0,0,1,1,0] [.n n0,.n n] (gW k) ⟨[(0,eP a0),(3,.cl (.ptr 3 0)),(4,.cl (.ptr 4 0)),(7,.int v7),(13,eP a1.Hits),(14,.int (a1.Hits.len:Int)),(15,.int rJ),(24,eP v24),(25,.int v25),(26,.int v26)],[(3,eB 43 a1),(4,.box 50 [.p (.int .i64 0),.p (.nils),.p (.nils),.p (.int .i64 0),.p (.nils),.p (.nils)])],[]⟩
theorem e81(a0:Pt found)(a1:af):(F81 E (a0,a1)).T k=NE E E.N a0 a1 0 k:=dO
theorem zu0(n0:Nat)(a0:Pt found)(a1:af)(rJ:Int):NE E (n0+1) a0 a1 rJ k=cond (decide (rJ<(a1.Hits.len:Int))) (aU (decide (0<=rJ/\rJ<(a1.Hits.len:Int))) (aU (decide ((0:Int)<=(aO (rJ+1))/\((aO (rJ+1)):Int)<=(a1.Hits.len:Int)/\(a1.Hits.len:Int)<=(a1.Hits.len:Int))) (H8 E n0 E.N a0 a1 (a1.Hits.get rJ.toNat) rJ (⟨(((a1.Hits.len:Int):Int)-(aO (rJ+1))).toNat,(Ar a1.Hits.get (aO (rJ+1)).toNat)⟩:(Sl Int)) ((((a1.Hits.len:Int):Int)-(aO (rJ+1))).toNat:Int) 0 k))) (k ((⟨0,(⟨0,λ_=>default⟩:(Sl Int)),(⟨0,λ_=>default⟩:(Sl Int)),(⟨0,(⟨0,λ_=>default⟩:(Sl Int)),(⟨0,λ_=>default⟩:(Sl Int))⟩:af)⟩:bK),false)):=krY
theorem zu1(n0 n1:Nat)(a0:Pt found)(a1:af)(v7 rJ:Int)(v24:Sl Int)(v25 v26:Int):H8 E n0 (n1+1) a0 a1 v7 rJ v24 v25 v26 k=cond (decide (v26<v25)) (aU (decide (0<=v26/\v26<(v24.len:Int))) (aU (decide (0<=v7/\v7<(a0.v.aS.v.hits.len:Int))) (aU (decide (0<=v24.get v26.toNat/\v24.get v26.toNat<(a0.v.aS.v.hits.len:Int))) ((E.c50 (a0.v.aS.v.au,(⟨2,(kL [(a0.v.aS.v.hits.get v7.toNat),(a0.v.aS.v.hits.get (v24.get v26.toNat).toNat)])⟩:(Sl bi)))).T λr1=>cond (r1.2==5) (k ((⟨3,(⟨2,(kL [v7,v24.get v26.toNat])⟩:(Sl Int)),(⟨0,λ_=>default⟩:(Sl Int)),(⟨0,(⟨0,λ_=>default⟩:(Sl Int)),(⟨0,λ_=>default⟩:(Sl Int))⟩:af)⟩:bK),true)) (H8 E n0 n1 a0 a1 v7 rJ v24 v25 (aO (v26+1)) k))))) (NE E n0 a0 a1 (aO (rJ+1)) k):=krY
end
theorem o81 [aH](E:E81)(h50:Ok aC 50 (ae.un E.c50)):Ok aC 81 (ae.un (F81 E)):=dP (ay.nil.addF h50)
structure E82 where
 N:Nat
def F82(E:E82):(Pt found)×af->ae (bK×Bool):=ik E.N Tabs.nil 82
theorem e82(E:E82){A:Type}(k:(bK×Bool)→Option A)(a0:Pt found)(a1:af):(F82 E (a0,a1)).T k=k ((⟨4,(⟨0,λ_=>default⟩:(Sl Int)),(⟨0,λ_=>default⟩:(Sl Int)),(⟨0,(⟨0,λ_=>default⟩:(Sl Int)),(⟨0,λ_=>default⟩:(Sl Int))⟩:af)⟩:bK),decide ((a1.Hits.len:Int)<a0.v.aS.v.rules.rF)):=dO
theorem o82 [aH](E:E82):Ok aC 82 (ae.un (F82 E)):=dP ay.nil
structure E83 where
 N:Nat
 c141:(Pt aS)×af->ae ((Sl Int))
def F83(E:E83):(Pt found)×af->ae (bK×Bool):=ik E.N (Tabs.nil.addF 141 (ae.un E.c141)) 83
theorem e83(E:E83){A:Type}(k:(bK×Bool)→Option A)(a0:Pt found)(a1:af):(F83 E (a0,a1)).T k=(E.c141 (a0.v.aS,a1)).T λr1=>k ((⟨5,(⟨0,λ_=>default⟩:(Sl Int)),r1,(⟨0,(⟨0,λ_=>default⟩:(Sl Int)),(⟨0,λ_=>default⟩:(Sl Int))⟩:af)⟩:bK),decide ((r1.len:Int)>a0.v.aS.v.rules.vM)):=dO
theorem o83 [aH](E:E83)(ZK:Ok aC 141 (ae.un E.c141)):Ok aC 83 (ae.un (F83 E)):=dP (ay.nil.addF ZK)
structure E84 where
 N:Nat
 c92:af×af->ae Bool
 zsE:af->ae af
abbrev G84(E:E84):bI:=gq ((Tabs.nil.addF 92 (ae.un E.c92)).addF 142 (ae.un E.zsE)) []
def A84:dG:=bP aC 84 [] {}
def F84(E:E84):(Pt found)×af->ae (bK×Bool):=ae.ty (aF aC E.N (G84 E) A84 84)
section
variable(E:E84){A:Type}(k:(bK×Bool)->Option A)
def H9(E:E84)(n:Nat)(a0:Pt found)(a1:af)(iG:Int){A:Type}(k:(bK×Bool)->Option A):Option A:=gX aC (G84 E) E.N A84 84 [1,0,1,0] [.n n] (gW k) ⟨[(3,.cl (.ptr 3 0)),(4,.cl (.ptr 4 0)),(11,eP a0.v.dw),(12,.int (a0.v.dw.len:Int)),(13,.int iG)],[(3,eB 43 a1),(4,.box 50 [.p (.int .i64 0),.p (.nils),.p (.nils),.p (.int .i64 0),.p (.nils),.p (.nils)])],[]⟩
theorem e84(a0:Pt found)(a1:af):(F84 E (a0,a1)).T k=H9 E E.N a0 a1 0 k:=dO
theorem zu3(n0:Nat)(a0:Pt found)(a1:af)(iG:Int):H9 E (n0+1) a0 a1 iG k=cond (decide (iG<(a0.v.dw.len:Int))) (aU (decide (0<=iG/\iG<(a0.v.dw.len:Int))) (cond (decide (((a0.v.dw.get iG.toNat).Hits.len:Int)>(a1.Hits.len:Int))) ((E.c92 ((a0.v.dw.get iG.toNat),a1)).T λr1=>cond r1 ((E.zsE (a0.v.dw.get iG.toNat)).T λr2=>k ((⟨6,(⟨0,λ_=>default⟩:(Sl Int)),(⟨0,λ_=>default⟩:(Sl Int)),r2⟩:bK),true)) (H9 E n0 a0 a1 (aO (iG+1)) k)) (H9 E n0 a0 a1 (aO (iG+1)) k))) (k ((⟨0,(⟨0,λ_=>default⟩:(Sl Int)),(⟨0,λ_=>default⟩:(Sl Int)),(⟨0,(⟨0,λ_=>default⟩:(Sl Int)),(⟨0,λ_=>default⟩:(Sl Int))⟩:af)⟩:bK),false)):=krY
end
theorem o84 [aH](E:E84)(h92:Ok aC 92 (ae.un E.c92))(zAY:Ok aC 142 (ae.un E.zsE)):Ok aC 84 (ae.un (F84 E)):=dP ((ay.nil.addF h92).addF zAY)
structure zsh where
 N:Nat
def zsi(E:zsh):af->ae af:=ik E.N (Tabs.nil.addO 181 (.clone 3 1 8)) 142
theorem zVL(E:zsh){A:Type}(k:af→Option A)(a0:af):(zsi E (a0)).T k=aU (room a0.Hits.len 8) (aU (room a0.aV.len 8) (k a0)):=dO
theorem zVM [aH](E:zsh)(zy0:fU aC 181 (.clone 3 1 8)):Ok aC 142 (ae.un (zsi E)):=dP (ay.nil.addO zy0)
structure E25 where
 N:Nat
 c78:au×bC×(Sl bi)->ae (Int ⊕ ((Pt aS)×Int))
 c79:(Pt aS)×af->ae Bool
 c72:au×bC×(Sl bi)×(Sl Bool)->ae (Int ⊕ ((Pt found)×Int))
 c80:(Pt found)×af->ae (bK×Bool)
 c81:(Pt found)×af->ae (bK×Bool)
 c82:(Pt found)×af->ae (bK×Bool)
 c83:(Pt found)×af->ae (bK×Bool)
 c84:(Pt found)×af->ae (bK×Bool)
abbrev G25(E:E25):bI:=gq ((((((((Tabs.nil.addF 78 (ae.unA E.c78)).addF 79 (ae.un E.c79)).addF 72 (ae.unA E.c72)).addF 80 (ae.un E.c80)).addF 81 (ae.un E.c81)).addF 82 (ae.un E.c82)).addF 83 (ae.un E.c83)).addF 84 (ae.un E.c84)) []
def A25:dG:=bP aC 25 [] {unr:=[(8,6)]}
def F25(E:E25):au×bC×(Sl bi)×af->ae (bK×Int):=ae.ty (aF aC E.N (G25 E) A25 25)
theorem e25(E:E25){A:Type}(k:(bK×Int)→Option A)(a0:au)(a1:bC)(a2:Sl bi)(a3:af):(F25 E (a0,a1,a2,a3)).T k=(E.c78 (a0,a1,a2)).T λr1=>zec r1 (λr1=>cond (r1 != 0) (k ((⟨0,(⟨0,λ_=>default⟩:(Sl Int)),(⟨0,λ_=>default⟩:(Sl Int)),(⟨0,(⟨0,λ_=>default⟩:(Sl Int)),(⟨0,λ_=>default⟩:(Sl Int))⟩:af)⟩:bK),r1)) (none)) (λr1=>cond (r1.2 != 0) (k ((⟨0,(⟨0,λ_=>default⟩:(Sl Int)),(⟨0,λ_=>default⟩:(Sl Int)),(⟨0,(⟨0,λ_=>default⟩:(Sl Int)),(⟨0,λ_=>default⟩:(Sl Int))⟩:af)⟩:bK),r1.2)) ((E.c79 (r1.1,a3)).T λr2=>(E.c72 (a0,a1,a2,(⟨1,(λ_=>r2)⟩:(Sl Bool)))).T λr3=>zec r3 (λr3=>cond (r3 != 0) (k ((⟨0,(⟨0,λ_=>default⟩:(Sl Int)),(⟨0,λ_=>default⟩:(Sl Int)),(⟨0,(⟨0,λ_=>default⟩:(Sl Int)),(⟨0,λ_=>default⟩:(Sl Int))⟩:af)⟩:bK),r3)) (none)) (λr3=>cond (r3.2 != 0) (k ((⟨0,(⟨0,λ_=>default⟩:(Sl Int)),(⟨0,λ_=>default⟩:(Sl Int)),(⟨0,(⟨0,λ_=>default⟩:(Sl Int)),(⟨0,λ_=>default⟩:(Sl Int))⟩:af)⟩:bK),r3.2)) ((E.c80 (r3.1,a3)).T λr4=>cond r4.2 (k (r4.1,0)) ((E.c81 (r3.1,a3)).T λr5=>cond r5.2 (k (r5.1,0)) ((E.c82 (r3.1,a3)).T λr6=>cond r6.2 (k (r6.1,0)) ((E.c83 (r3.1,a3)).T λr7=>cond r7.2 (k (r7.1,0)) ((E.c84 (r3.1,a3)).T λr8=>cond r8.2 (k (r8.1,0)) (k ((⟨1,(⟨0,λ_=>default⟩:(Sl Int)),(⟨0,λ_=>default⟩:(Sl Int)),(⟨0,(⟨0,λ_=>default⟩:(Sl Int)),(⟨0,λ_=>default⟩:(Sl Int))⟩:af)⟩:bK),0)))))))))):=dO
theorem o25 [aH](E:E25)(h78:Ok aC 78 (ae.unA E.c78))(h79:Ok aC 79 (ae.un E.c79))(h72:Ok aC 72 (ae.unA E.c72))(h80:Ok aC 80 (ae.un E.c80))(h81:Ok aC 81 (ae.un E.c81))(h82:Ok aC 82 (ae.un E.c82))(h83:Ok aC 83 (ae.un E.c83))(h84:Ok aC 84 (ae.un E.c84)):Ok aC 25 (ae.un (F25 E)):=dP ((((((((ay.nil.addF h78).addF h79).addF h72).addF h80).addF h81).addF h82).addF h83).addF h84)
structure Giv (s : au) (r : bC) (l : Sl bi) (t : af) (f : found) : Prop where
  ev:f.aS=iE s r l
  he:Evt s l
  h24:l.len<=24
  ch:pq s l t=true
theorem Giv.len{s:au}{r:bC}{l:Sl bi}{t:af}{f:found}(h:Giv s r l t f):t.Hits.len<=24/\0<t.Hits.len:=by
 obtain⟨_,_,ne,v⟩:=sS h.ch;have a:=mQ rfl v;have b:=Jm rfl ne;have:=h.h24;omega
theorem Giv.iR{s:au}{r:bC}{l:Sl bi}{t:af}{f:found}(h:Giv s r l t f):bU (lV s l t):=by
 obtain⟨_,_,ne,v⟩:=sS h.ch;rw[yU rfl];exact BM h.he h.h24 v ne
theorem xk(s:au)(l:Sl bi)(t:af):(lV s l t).len=t.Hits.len:=pg _ _ _
theorem Giv.hit{s:au}{r:bC}{l:Sl bi}{t:af}{f:found}(h:Giv s r l t f){i:Nat}(hi:i<t.Hits.len):0<=t.Hits.get i/\t.Hits.get i<(l.len:Int):=F5 ((Si h.ch).2 i hi)
theorem Giv.inc{s:au}{r:bC}{l:Sl bi}{t:af}{f:found}(h:Giv s r l t f):zkT t:=by
 obtain⟨tv,_,_,v⟩:=sS h.ch;exact zcO h.h24 tv rfl v
abbrev Q80(C:Pt found×af->ae (bK×Bool)):Prop:=∀s r l t (f:Pt found),Giv s r l t f.v ->
 (∃(w:bK)(b:Sl Int),C (f,t)=.ok (w,true)/\Bad (lV s l t) b/\w.vN=2/\w.Hits.len=b.len/\∀a,a<b.len->w.Hits.get a=t.Hits.get (b.get a).toNat)\/(∃w:bK,C (f,t)=.ok (w,false)/\fD (lV s l t)=true)
theorem s80{E:E80}(N:Big E.N)(Bv:zeu E.c105)(h49:Q49 E.c49):Q80 (F80 E):=λs r l t f h=>by
 have hl:=h.len;have e0:∀(A:Type)(k:bK×Bool->Option A),(F80 E (f,t)).T k=(E.c49 (lV s l t)).T _:=λA k=>by
  rw[e80,h.ev,Bv s l r t h.he omY h.ch,aX]
 rcases h49 _ h.iR with⟨b,hb,B⟩|⟨hb,hs⟩
 have hbl:=B.len;refine .inl ⟨⟨2,gw (λ_=>0) (λa=>t.Hits.get (b.get a).toNat) b.len,⟨0,λ_=>default⟩,⟨0,⟨0,λ_=>default⟩,⟨0,λ_=>default⟩⟩⟩,b,ae.ext λk=>?_,B,rfl,pg _ _ _,λa ha=>BC ha⟩;rw[e0,hb,aX,aX];refine jO (X:=λn i=>zcW E n t b (b.len:Int) (i:Int) (gw (λ_=>0) (λa=>t.Hits.get (b.get a).toNat) i) k) (m:=b.len) (λn i hi=>?_) (λn=>?_) _ (by have:=N;omega);have m:=B.mem i hi;rw[xk]at m;rw[zuZ,dM omY,dS,bn omY,gy,bn omY,pg,jG omY omY,bF omY];rfl;rw[zuZ,dR omY];rfl;exact .inr ⟨_,ae.ext λk=>by rw[e0,hb,aX,aX];rfl,hs⟩
def noT(s:au)(l:Sl bi)(a b:Int):Bool:=(cmS (eU (NW s ⟨2,kL [l.get a.toNat,l.get b.toNat]⟩) 2)).2==5
theorem zcX{s:au}{l:Sl bi}{a b:Int}(h:noT s l a b=false):(jh s (l.get a.toNat)).Low<=(jh s (l.get b.toNat)).High/\(jh s (l.get b.toNat)).Low<=(jh s (l.get a.toNat)).High:=by
 unfold noT cmS at h;by_cases c:(eU (NW s ⟨2,kL [l.get a.toNat,l.get b.toNat]⟩) 2).Low>(eU (NW s ⟨2,kL [l.get a.toNat,l.get b.toNat]⟩) 2).High;rw[dM c]at h;cases h;have g0:((NW s ⟨2,kL [l.get a.toNat,l.get b.toNat]⟩).get 0)=⟨0,(jh s (l.get a.toNat)).Low,(jh s (l.get a.toNat)).High⟩:=by
  show(⟨0,(jh s (kL [l.get a.toNat,l.get b.toNat] 0)).Low,(jh s (kL [l.get a.toNat,l.get b.toNat] 0)).High⟩:ax)=_;rw[zcv]
 have g1:((NW s ⟨2,kL [l.get a.toNat,l.get b.toNat]⟩).get 1)=⟨0,(jh s (l.get b.toNat)).Low,(jh s (l.get b.toNat)).High⟩:=by
  show(⟨0,(jh s (kL [l.get a.toNat,l.get b.toNat] 1)).Low,(jh s (kL [l.get a.toNat,l.get b.toNat] 1)).High⟩:ax)=_;rw[zcw]
 have x:=Ez (g:=NW s ⟨2,kL [l.get a.toNat,l.get b.toNat]⟩) 2 0 omY;have y:=Ez (g:=NW s ⟨2,kL [l.get a.toNat,l.get b.toNat]⟩) 2 1 omY;rw[g0]at x;rw[g1]at y;have x:(jh s (l.get a.toNat)).Low<=_/\_<=(jh s (l.get a.toNat)).High:=x;have y:(jh s (l.get b.toNat)).Low<=_/\_<=(jh s (l.get b.toNat)).High:=y;omega
theorem zcY{C:au×Sl bi->ae (bZ×Int)}(h50:Q50 C){s:au}{l:Sl bi}(he:Evt s l){a b:Int}(ha:0<=a/\a<(l.len:Int))(hb:0<=b/\b<(l.len:Int)):C (s,⟨2,kL [l.get a.toNat,l.get b.toNat]⟩)=.ok (cmS (eU (NW s ⟨2,kL [l.get a.toNat,l.get b.toNat]⟩) 2)) :=
 h50 s ⟨2,kL [l.get a.toNat,l.get b.toNat]⟩ he.sh he.se (by show 0<2;omega) (by show 2<=1000;omega) λi hi=>by
  have hi:i<2:=hi;show kV s (kL [l.get a.toNat,l.get b.toNat] i)=true
  match i,hi with|0,_=>rw[zcv];exact dA.1 he.hi _ omY|1,_=>rw[zcw];exact dA.1 he.hi _ omY
abbrev z0R(n:Int):bK:=⟨n,⟨0,λ_=>default⟩,⟨0,λ_=>default⟩,⟨0,⟨0,λ_=>default⟩,⟨0,λ_=>default⟩⟩⟩
abbrev Q81(C:Pt found×af->ae (bK×Bool)):Prop:=∀s r l t (f:Pt found),Giv s r l t f.v ->
 (∃(w:bK)(i j:Nat),C (f,t)=.ok (w,true)/\i<j/\j<t.Hits.len/\w.vN=3/\w.Hits=⟨2,kL [t.Hits.get i,t.Hits.get j]⟩/\noT s l (t.Hits.get i) (t.Hits.get j)=true)\/(∃w:bK,C (f,t)=.ok (w,false)/\∀i j,i<j->j<t.Hits.len->noT s l (t.Hits.get i) (t.Hits.get j)=false)
theorem s81{E:E81}(N:Big E.N)(h50:Q50 E.c50):Q81 (F81 E):=λs r l t f h=>by
 have hN:=N;have hl:=h.len
 have inn:∀(n0 i:Nat),i<t.Hits.len->∀(m j n1:Nat),i+1+j+m=t.Hits.len->m<n1 ->
   (∃(w:bK)(j':Nat),(∀(A:Type)(k:bK×Bool->Option A),H8 E n0 n1 f t (t.Hits.get i) (i:Int) ⟨((t.Hits.len:Int)-((i+1:Nat):Int)).toNat,Ar t.Hits.get (((i+1:Nat):Int)).toNat⟩ ((((t.Hits.len:Int)-((i+1:Nat):Int)).toNat:Nat):Int) (j:Int) k=k (w,true))/\i<j'/\j'<t.Hits.len/\w.vN=3/\w.Hits=⟨2,kL [t.Hits.get i,t.Hits.get j']⟩/\noT s l (t.Hits.get i) (t.Hits.get j')=true) \/
   ((∀(A:Type)(k:bK×Bool->Option A),H8 E n0 n1 f t (t.Hits.get i) (i:Int) ⟨((t.Hits.len:Int)-((i+1:Nat):Int)).toNat,Ar t.Hits.get (((i+1:Nat):Int)).toNat⟩ ((((t.Hits.len:Int)-((i+1:Nat):Int)).toNat:Nat):Int) (j:Int) k=NE E n0 f t ((i+1:Nat):Int) k)/\∀j',i+1+j<=j'->j'<t.Hits.len->noT s l (t.Hits.get i) (t.Hits.get j')=false):=by
  intro n0 i hi m
  induction m with
  | zero =>
   intro j n1 hj hn;obtain⟨n1,rfl⟩:∃n',n1=n'+1:=⟨n1-1,omY⟩;exact .inr ⟨λA k=>by rw[zu1,dR omY,dF,bF omY],λj' a b=>by omega⟩
  | succ m ih =>
   intro j n1 hj hn;obtain⟨n1,rfl⟩:∃n',n1=n'+1:=⟨n1-1,omY⟩;have kX:=h.hit hi;have oV:=h.hit (i:=i+1+j) omY;have sg:(⟨((t.Hits.len:Int)-((i+1:Nat):Int)).toNat,Ar t.Hits.get (((i+1:Nat):Int)).toNat⟩:Sl Int).get ((j:Int)).toNat=t.Hits.get (i+1+j):=by
    show t.Hits.get (((j:Int)).toNat+(((i+1:Nat):Int)).toNat)=_;rw[gy,gy,Nat.add_comm]
   have ev:f.v.aS.v.hits=l/\f.v.aS.v.au=s:=by rw[h.ev];exact⟨rfl,rfl⟩
   have st:∀(A:Type)(k:bK×Bool->Option A),H8 E n0 (n1+1) f t (t.Hits.get i) (i:Int) ⟨((t.Hits.len:Int)-((i+1:Nat):Int)).toNat,Ar t.Hits.get (((i+1:Nat):Int)).toNat⟩ ((((t.Hits.len:Int)-((i+1:Nat):Int)).toNat:Nat):Int) (j:Int) k=cond (noT s l (t.Hits.get i) (t.Hits.get (i+1+j))) (k (⟨3,⟨2,kL [t.Hits.get i,t.Hits.get (i+1+j)]⟩,⟨0,λ_=>default⟩,⟨0,⟨0,λ_=>default⟩,⟨0,λ_=>default⟩⟩⟩,true)) (H8 E n0 n1 f t (t.Hits.get i) (i:Int) ⟨((t.Hits.len:Int)-((i+1:Nat):Int)).toNat,Ar t.Hits.get (((i+1:Nat):Int)).toNat⟩ ((((t.Hits.len:Int)-((i+1:Nat):Int)).toNat:Nat):Int) ((j+1:Nat):Int) k):=λA k=>by
    rw[zu1,dM omY,dS,bn (by show 0<=(j:Int)/\(j:Int)<(((t.Hits.len:Int)-((i+1:Nat):Int)).toNat:Int);omega),sg,ev.1,ev.2,bn omY,bn omY,zcY h50 h.he kX oV,aX,bF omY];rfl
   cases hb:noT s l (t.Hits.get i) (t.Hits.get (i+1+j))with
   | true =>
    rw[hb]at st;exact .inl ⟨_,i+1+j,st,omY,omY,rfl,rfl,hb⟩
   | false =>
    rw[hb]at st;rcases ih (j+1) n1 omY omY with⟨w,j',a,b⟩|⟨a,b⟩
    exact .inl ⟨w,j',λA k=>(st A k).trans (a A k),b⟩;refine .inr ⟨fun A k=>(st A k).trans (a A k),fun j' h1 h2 => ?_⟩;by_cases e:j'=i+1+j;rw[e];exact hb;exact b j' omY h2
 have out:∀(m i n0:Nat),i+m=t.Hits.len->m<n0 ->
   (∃(w:bK)(i' j':Nat),(∀(A:Type)(k:bK×Bool->Option A),NE E n0 f t (i:Int) k=k (w,true))/\i'<j'/\j'<t.Hits.len/\w.vN=3/\w.Hits=⟨2,kL [t.Hits.get i',t.Hits.get j']⟩/\noT s l (t.Hits.get i') (t.Hits.get j')=true) \/
   ((∀(A:Type)(k:bK×Bool->Option A),NE E n0 f t (i:Int) k=k (z0R 0,false))/\∀i' j',i<=i'->i'<j'->j'<t.Hits.len->noT s l (t.Hits.get i') (t.Hits.get j')=false):=by
  intro m
  induction m with
  | zero =>
   intro i n0 hi hn;obtain⟨n0,rfl⟩:∃n',n0=n'+1:=⟨n0-1,omY⟩;exact .inr ⟨λA k=>by rw[zu0,dR omY];rfl,λi' j' a b c=>by omega⟩
  | succ m ih =>
   intro i n0 hi hn;obtain⟨n0,rfl⟩:∃n',n0=n'+1:=⟨n0-1,omY⟩;have st:∀(A:Type)(k:bK×Bool->Option A),NE E (n0+1) f t (i:Int) k=H8 E n0 E.N f t (t.Hits.get i) (i:Int) ⟨((t.Hits.len:Int)-((i+1:Nat):Int)).toNat,Ar t.Hits.get (((i+1:Nat):Int)).toNat⟩ ((((t.Hits.len:Int)-((i+1:Nat):Int)).toNat:Nat):Int) 0 k:=λA k=>by
    rw[zu0,dM omY,dS,bn omY,gy,bF omY,bn omY]
   rcases inn n0 i omY (t.Hits.len-(i+1)) 0 E.N omY omY with⟨w,j',a,b⟩|⟨a,b⟩
   exact .inl ⟨w,i,j',λA k=>(st A k).trans (a A k),b⟩;rcases ih (i+1) n0 omY omY with⟨w,i',j',c,d⟩|⟨c,d⟩
   exact .inl ⟨w,i',j',λA k=>(st A k).trans ((a A k).trans (c A k)),d⟩;refine .inr ⟨fun A k=>(st A k).trans ((a A k).trans (c A k)),fun i' j' h1 h2 h3 => ?_⟩;by_cases e:i'=i;rw[e];exact b j' omY h3;exact d i' j' omY h2 h3
 rcases out t.Hits.len 0 E.N omY omY with⟨w,i,j,a,b⟩|⟨a,b⟩
 exact .inl ⟨w,i,j,ae.ext λk=>by rw[e81];exact a _ k,b⟩;exact .inr ⟨_,ae.ext λk=>by rw[e81];exact a _ k,λi j h1 h2=>b i j (AP _) h1 h2⟩
abbrev Q82(C:Pt found×af->ae (bK×Bool)):Prop:=∀s r l t (f:Pt found),Giv s r l t f.v->C (f,t)=.ok (z0R 4,decide ((t.Hits.len:Int)<r.rF))
theorem s82{E:E82}:Q82 (F82 E):=λs r l t f h=>ae.ext λk=>by rw[e82,h.ev];rfl
abbrev Q83(C:Pt found×af->ae (bK×Bool)):Prop:=∀s r l t (f:Pt found),Giv s r l t f.v->∃w:bK,C (f,t)=.ok (w,decide (((IC s l t.View (eQ t)).length:Int)>r.vM))/\w.vN=5/\w.Hits.len=0/\ls w.aj=IC s l t.View (eQ t)
theorem s83{E:E83}(ZK:zr7 E.c141):Q83 (F83 E):=λs r l t f h=>by
 obtain⟨tv,vw,ne,v⟩:=sS h.ch;obtain⟨w,e,hw⟩:=ZK s l r t.View t (eQ t) l.len {toEvt:=h.he,l24:=h.h24,vw:=vw} tv rfl v ne;refine⟨⟨5,⟨0,λ_=>default⟩,w,⟨0,⟨0,λ_=>default⟩,⟨0,λ_=>default⟩⟩⟩,ae.ext λk=>?_,rfl,rfl,hw⟩;rw[e83,h.ev,e,aX,aX,<- hw,jQ];rfl
abbrev zAZ(C:af->ae af):Prop:=∀t:af,t.Hits.len<=1000->t.aV.len<=1000->C t=.ok t
theorem zVU{E:zsh}:zAZ (zsi E):=λt h1 h2=>ae.ext λk=>by rw[zVL,jG omY omY,jG omY omY,aX]
abbrev Q84(C:Pt found×af->ae (bK×Bool)):Prop:=∀s r l t (f:Pt found),Giv s r l t f.v->(∀x∈ls f.v.dw,One x/\x.aV.len=x.Hits.len)->f.v.dw.len<=10000 ->
 (∃(w:bK),C (f,t)=.ok (w,true)/\w.vN=6/\w.Hits.len=0/\w.lC∈ls f.v.dw/\EQ w.lC t=true)\/(∃w:bK,C (f,t)=.ok (w,false)/\∀x∈ls f.v.dw,EQ x t=false)
theorem s84{E:E84}(N:Big E.N)(h92:Q92 E.c92)(zAY:zAZ E.zsE):Q84 (F84 E):=λs r l t f h hx hf=>by
 have hN:=N;obtain⟨tv,_,ne,v⟩:=sS h.ch;have ot:One t:=TF h.h24 tv rfl v
 have key:∀(m i n:Nat),i+m=f.v.dw.len->m<n ->
   (∃(w:bK),(∀(A:Type)(k:bK×Bool->Option A),H9 E n f t (i:Int) k=k (w,true))/\w.vN=6/\w.Hits.len=0/\w.lC∈ls f.v.dw/\EQ w.lC t=true) \/
   ((∀(A:Type)(k:bK×Bool->Option A),H9 E n f t (i:Int) k=k (z0R 0,false))/\∀i',i<=i'->i'<f.v.dw.len->EQ (f.v.dw.get i') t=false):=by
  intro m
  induction m with
  | zero =>
   intro i n hi hn;obtain⟨n,rfl⟩:∃n',n=n'+1:=⟨n-1,omY⟩;exact .inr ⟨λA k=>by rw[zu3,dR omY];rfl,λi' a b=>by omega⟩
  | succ m ih =>
   intro i n hi hn;obtain⟨n,rfl⟩:∃n',n=n'+1:=⟨n-1,omY⟩;have hm:f.v.dw.get i∈ls f.v.dw:=jB.2 ⟨i,omY,rfl⟩;obtain⟨ox,sx⟩:=hx _ hm;have lx:=ox.le;have st:∀(A:Type)(k:bK×Bool->Option A),H9 E (n+1) f t (i:Int) k=cond (EQ (f.v.dw.get i) t) (k (⟨6,⟨0,λ_=>default⟩,⟨0,λ_=>default⟩,f.v.dw.get i⟩,true)) (H9 E n f t ((i+1:Nat):Int) k):=λA k=>by
    rw[zu3,dM omY,dS,bn omY,gy,bF omY,h92 _ _ ox ot,aX,zAY _ omY omY,aX];unfold EQ;cases decide (((f.v.dw.get i).Hits.len:Int)>(t.Hits.len:Int))<;>cases xO (f.v.dw.get i) t<;>rfl
   cases hb:EQ (f.v.dw.get i) t with
   | true =>
    rw[hb]at st;exact .inl ⟨_,st,rfl,rfl,hm,hb⟩
   | false =>
    rw[hb]at st;rcases ih (i+1) n omY omY with⟨w,a,b⟩|⟨a,b⟩
    exact .inl ⟨w,λA k=>(st A k).trans (a A k),b⟩;refine .inr ⟨fun A k=>(st A k).trans (a A k),fun i' h1 h2 => ?_⟩;by_cases e:i'=i;rw[e];exact hb;exact b i' omY h2
 rcases key f.v.dw.len 0 E.N omY omY with⟨w,a,b⟩|⟨a,b⟩
 exact .inl ⟨w,ae.ext λk=>by rw[e84];exact a _ k,b⟩;refine .inr ⟨_,ae.ext fun k=>by rw [e84];exact a _ k,fun x hx => ?_⟩;obtain⟨i,hi,rfl⟩:=jB.1 hx;exact b i (AP _) hi
def Wh(s:au)(r:bC)(l:Sl bi)(t:af)(f:found)(w:bK):Prop :=
 (w.vN=2/\∃b:Sl Int,Bad (lV s l t) b/\w.Hits.len=b.len/\∀a,a<b.len->w.Hits.get a=t.Hits.get (b.get a).toNat) \/
 (w.vN=3/\∃i j:Nat,i<j/\j<t.Hits.len/\w.Hits=⟨2,kL [t.Hits.get i,t.Hits.get j]⟩/\noT s l (t.Hits.get i) (t.Hits.get j)=true) \/
 (w.vN=4/\w.Hits.len=0/\(t.Hits.len:Int)<r.rF) \/
 (w.vN=5/\w.Hits.len=0/\ls w.aj=IC s l t.View (eQ t)/\((IC s l t.View (eQ t)).length:Int)>r.vM) \/
 (w.vN=6/\w.Hits.len=0/\w.lC∈ls f.dw/\EQ w.lC t=true) \/
 (w.vN=1/\w.Hits.len=0/\∃m∈ls f.dw,jX m=jX t)
abbrev Q25(C:au×bC×Sl bi×af->ae (bK×Int)):Prop:=∀s r l t,qX s->l.len<=40->oO s r l=0->(kW s l 1).length<=2000->(kW s l 2).length<=2000->pq s l t=true->∃(f:found)(w:bK),OC s r l f/\C (s,r,l,t)=.ok (w,0)/\Wh s r l t f w
theorem s25{E:E25}(h78:Q78 E.c78)(h79:Q79 E.c79)(h72:Q72 E.c72)(h80:Q80 E.c80)(h81:Q81 E.c81)(h82:Q82 E.c82)(h83:Q83 E.c83)(h84:Q84 E.c84):Q25 (F25 E):=λs r l t hs hl h0 n1 n2 hc=>by
 obtain⟨he,_,h24⟩:=DD hs h0;obtain⟨tv,vw,ne,v⟩:=sS hc;have tl:=mQ rfl v;obtain⟨f,f1,f2⟩:=h72 s r l ⟨1,λ_=>true⟩ hs hl h0 n1 n2 (by show 1<=10;omega) (λb hb=>by obtain⟨_,_,e⟩:=jB.1 hb;exact e.symm);have G:Giv s r l t f.v:=⟨f2.ev,he,h24,hc⟩;have fl:=f2.len n1 n2;have ct:∀x∈ls f.v.dw,lL s l x:=λx hx=>f2.chosen he h24 (f2.sub hx);have eo:opn s r l=.inr (iE s r l,0):=by unfold opn;rw[h0];rfl
 have e0:∀(A:Type)(k:bK×Int->Option A),(F25 E (s,r,l,t)).T k=(E.c80 (f,t)).T λr4=>cond r4.2 (k (r4.1,0)) ((E.c81 (f,t)).T λr5=>cond r5.2 (k (r5.1,0)) ((E.c82 (f,t)).T λr6=>cond r6.2 (k (r6.1,0)) ((E.c83 (f,t)).T λr7=>cond r7.2 (k (r7.1,0)) ((E.c84 (f,t)).T λr8=>cond r8.2 (k (r8.1,0)) (k (z0R 1,0)))))):=λA k=>by
  rw[e25,h78 s r l hs hl,aX,eo];show(E.c79 (iE s r l,t)).T _=_;rw[h79 s l r t he omY (by rw[tv.2];omega),aX,hc];show(E.c72 (s,r,l,⟨1,λ_=>true⟩)).T _=_;rw[f1,aX];rfl
 rcases h80 s r l t f G with⟨w,b,a1,a2,a3,a4,a5⟩|⟨w,a1,as1⟩
 exact⟨f.v,w,f2,ae.ext λk=>by rw[e0,a1,aX];rfl,.inl ⟨a3,b,a2,a4,a5⟩⟩;rcases h81 s r l t f G with⟨w',i,j,b1,b2,b3,b4,b5,b6⟩|⟨w',b1,bs⟩
 exact⟨f.v,w',f2,ae.ext λk=>by rw[e0,a1,aX,dF,b1,aX];rfl,.inr (.inl ⟨b4,i,j,b2,b3,b5,b6⟩)⟩;have e1:∀(A:Type)(k:bK×Int->Option A),(F25 E (s,r,l,t)).T k=cond (decide ((t.Hits.len:Int)<r.rF)) (k (z0R 4,0)) ((E.c83 (f,t)).T λr7=>cond r7.2 (k (r7.1,0)) ((E.c84 (f,t)).T λr8=>cond r8.2 (k (r8.1,0)) (k (z0R 1,0)))):=λA k=>by
  rw[e0,a1,aX,dF,b1,aX,dF,h82 s r l t f G,aX]
 by_cases c:(t.Hits.len:Int)<r.rF;exact⟨f.v,z0R 4,f2,ae.ext λk=>by rw[e1,dM c];rfl,.inr (.inr (.inl ⟨rfl,rfl,c⟩))⟩;obtain⟨w3,d1,d2,d3,d4⟩:=h83 s r l t f G;by_cases d:((IC s l t.View (eQ t)).length:Int)>r.vM;exact⟨f.v,w3,f2,ae.ext λk=>by rw[e1,dR c,dF,d1,aX,dM d];rfl,.inr (.inr (.inr (.inl ⟨d2,d3,d4,d⟩)))⟩;rcases h84 s r l t f G (λx hx=>⟨(ct x hx).one,(ct x hx).tv.2⟩) omY with⟨w4,g1,g2,g3,g4,g5⟩|⟨w4,g1,gs⟩
 exact⟨f.v,w4,f2,ae.ext λk=>by rw[e1,dR c,dF,d1,aX,dR d,dF,g1,aX];rfl,.inr (.inr (.inr (.inr (.inl ⟨g2,g3,g4,g5⟩))))⟩;refine⟨f.v,z0R 1,f2,ae.ext λk=>by rw[e1,dR c,dF,d1,aX,dR d,dF,g1,aX];rfl,.inr (.inr (.inr (.inr (.inr ⟨rfl,rfl,?_⟩))))⟩
 -- the choice is a track
 have hits:∀p∈eQ t,∃i,i<t.Hits.len/\t.Hits.get i=p.1:=λp hp=>by obtain⟨i,hi,a,_⟩:=lu.1 hp;exact⟨i,hi,a⟩
 have pair:∀p∈eQ t,∀q∈eQ t,(jh s (l.get p.1.toNat)).Low<=(jh s (l.get q.1.toNat)).High:=λp hp q hq=>by
  obtain⟨i,hi,a⟩:=hits p hp;obtain⟨j,hj,b⟩:=hits q hq;rw[<- a,<- b];rcases qdx i j with c|c|c
  exact(zcX (bs i j c hj)).1;subst c;have:=G.hit hi;exact zsf he omY;exact(zcX (bs j i c hi)).2
 have tim:OA s l (eQ t)=true:=by
  rw[TJ ne];have mx:∀c:iY,c≠[]->∃p∈c,∀q∈c,(jh s (l.get q.1.toNat)).Low<=(jh s (l.get p.1.toNat)).Low:=by
   intro c
   induction c with
   | nil=>intro h;exact absurd rfl h
   | cons p c ih =>
    intro _;by_cases e:c=[];subst e;exact⟨p,kQ,λq hq=>by rw[kY.1 hq];omega⟩;obtain⟨u,hu,hm⟩:=ih e;by_cases le:(jh s (l.get u.1.toNat)).Low<=(jh s (l.get p.1.toNat)).Low;refine⟨p,kQ,fun q hq => ?_⟩;rcases kF.1 hq with e|h
    rw[e];omega;have:=hm q h;omega;refine⟨u,jS _ hu,fun q hq => ?_⟩;rcases kF.1 hq with e|h
    rw[e];omega;exact hm q h
  obtain⟨p,hp,hm⟩:=mx _ ne;exact⟨_,λq hq=>⟨hm q hq,pair p hp q hq⟩⟩
 have ag:zG s l (eQ t)=true:=by
  unfold zG;rw[tim,<- yU (t:=t) rfl,as1];rfl
 have vx:t.View=1\/t.View=2:=by
  exact qdk vw
 have fit:rW s l t.View r (eQ t)=true:=by
  unfold rW;rw[jK,gz,oW,oW];exact⟨omY,omY⟩
 obtain⟨u,hu,u1,u2⟩:=f2.has vx (Ue.2 ⟨zse he h24 v ne ag,fit⟩);obtain⟨m,hm,zlV⟩:=f2.max he h24 hu;rw[Et,u1,u2]at zlV;have cm:=ct m hm;obtain⟨jm,vm⟩:=cm.vl;obtain⟨le,eq⟩:=zcR (c:=eQ t) (d:=eQ m) (v.pw.imp λh=>h.1) (vm.pw.imp λh=>h.1) zlV.1;rw[jK,jK]at le eq;have ng:=gs m hm;have nl:¬(m.Hits.len:Int)>(t.Hits.len:Int):=λTY=>by
  unfold EQ at ng;rw[dM TY,N9]at ng;have:xO m t=true:=Et.2 ⟨zlV.1,zlV.2⟩;rw[this]at ng;cases ng
 exact⟨m,hm,Prod.ext zlV.2.symm (eq omY).symm⟩
structure E51 where
 N:Nat
 OE:(Sl ax)×Int->ae (aP×aP×Int)
 OG:au×Int×bZ->ae (Bool×Bool×Int)
abbrev G51(E:E51):bI:=gq ((Tabs.nil.addF 114 (ae.un E.OE)).addF 115 (ae.un E.OG)) []
def A51:dG:=bP aC 51 [] {cut:=[18,20,21]}
def F51(E:E51):au×(Sl bi)×af×(Sl ax)×(Sl Int)->ae Bool:=ae.ty (aF aC E.N (G51 E) A51 51)
section
variable(E:E51){A:Type}(k:Bool->Option A)
def Ia(E:E51)(n:Nat)(a0:au)(a1:Sl bi)(a2:af)(a3:Sl ax)(a4:Sl Int)(v11:Int){A:Type}(k:Bool->Option A):Option A:=gX aC (G51 E) E.N A51 51 [1,0,1,0] [.n n] (gW k) ⟨[(1,eP a1),(3,eP a3),(4,eP a4),(5,.cl (.ptr 5 0)),(7,.cl (.ptr 7 0)),(11,.int v11)],[(5,eB 24 a0),(7,eB 43 a2)],[]⟩
def Qn(E:E51)(n0 n:Nat)(a0:au)(a1:Sl bi)(a2:af)(a3:Sl ax)(a4:Sl Int)(v11 v12 iG:Int){A:Type}(k:Bool->Option A):Option A:=gX aC (G51 E) E.N A51 51 [1,0,1,0,0,1,0,0,1,1,0,1,0] [.n n0,.n n] (gW k) ⟨[(1,eP a1),(3,eP a3),(4,eP a4),(5,.cl (.ptr 5 0)),(7,.cl (.ptr 7 0)),(11,.int v11),(12,.int v12),(13,.int iG)],[(5,eB 24 a0),(7,eB 43 a2)],[]⟩
def Qo(E:E51)(n0:Nat)(a0:au)(a1:Sl bi)(a2:af)(a3:Sl ax)(a4:Sl Int)(v11 v12 v17 Uo:Int)(x15:aP){A:Type}(k:Bool->Option A):Option A:=gX aC (G51 E) E.N A51 51 [1,0,1,0,0,1,0,0,1,1,1,1,1,1,1] [.n n0] (gW k) ⟨[(1,eP a1),(3,eP a3),(4,eP a4),(5,.cl (.ptr 5 0)),(7,.cl (.ptr 7 0)),(11,.int v11),(12,.int v12),(15,.cl (.ptr 15 0)),(17,.int v17),(18,.int Uo)],[(5,eB 24 a0),(7,eB 43 a2),(15,eB 85 x15)],[]⟩
def zcZ(E:E51)(n0:Nat)(a0:au)(a1:Sl bi)(a2:af)(a3:Sl ax)(a4:Sl Int)(v11 v12 v17 Uo:Int){A:Type}(k:Bool->Option A):Option A:=gX aC (G51 E) E.N A51 51 [1,0,1,0,0,1,0,0,1,1,1,1,1,1,1,1] [.n n0] (gW k) ⟨[(1,eP a1),(3,eP a3),(4,eP a4),(5,.cl (.ptr 5 0)),(7,.cl (.ptr 7 0)),(11,.int v11),(12,.int v12),(17,.int v17),(18,.int Uo)],[(5,eB 24 a0),(7,eB 43 a2)],[]⟩
def zk1(E:E51)(n0:Nat)(a0:au)(a1:Sl bi)(a2:af)(a3:Sl ax)(a4:Sl Int)(v11:Int)(zJ:Bool)(v21:Int){A:Type}(k:Bool->Option A):Option A:=gX aC (G51 E) E.N A51 51 [1,0,1,0,0,1,0,0,1,1,1,1,1,1,1,1,1] [.n n0] (gW k) ⟨[(1,eP a1),(3,eP a3),(4,eP a4),(5,.cl (.ptr 5 0)),(7,.cl (.ptr 7 0)),(11,.int v11),(19,.bool zJ),(21,.int v21)],[(5,eB 24 a0),(7,eB 43 a2)],[]⟩
theorem e51(a0:au)(a1:Sl bi)(a2:af)(a3:Sl ax)(a4:Sl Int):(F51 E (a0,a1,a2,a3,a4)).T k=Ia E E.N a0 a1 a2 a3 a4 0 k:=dO
theorem zu5(n0:Nat)(a0:au)(a1:Sl bi)(a2:af)(a3:Sl ax)(a4:Sl Int)(v11:Int):Ia E (n0+1) a0 a1 a2 a3 a4 v11 k=cond (decide (v11<(a4.len:Int))) (aU (decide (0<=v11/\v11<(a4.len:Int))) (cond (decide (a4.get v11.toNat<0)) (k false) (cond (decide (a4.get v11.toNat>=(a0.aj.len:Int))) (k false) (cond (decide (v11>0)) (aU (decide (0<=(aO (v11-1))/\(aO (v11-1))<(a4.len:Int))) (cond (decide (a4.get v11.toNat<=a4.get (aO (v11-1)).toNat)) (k false) (aU (decide (0<=a4.get v11.toNat/\a4.get v11.toNat<(a0.aj.len:Int))) (cond ((a0.aj.get (a4.get v11.toNat).toNat).View != a2.View) (k false) (Qn E n0 E.N a0 a1 a2 a3 a4 v11 (a4.get v11.toNat) 0 k))))) (aU (decide (0<=a4.get v11.toNat/\a4.get v11.toNat<(a0.aj.len:Int))) (cond ((a0.aj.get (a4.get v11.toNat).toNat).View != a2.View) (k false) (Qn E n0 E.N a0 a1 a2 a3 a4 v11 (a4.get v11.toNat) 0 k))))))) (k true):=krY
theorem zu6(n0 n1:Nat)(a0:au)(a1:Sl bi)(a2:af)(a3:Sl ax)(a4:Sl Int)(v11 v12 iG:Int):Qn E n0 (n1+1) a0 a1 a2 a3 a4 v11 v12 iG k=cond (decide (iG<(a2.Hits.len:Int))) (aU (decide (0<=iG/\iG<(a2.Hits.len:Int))) (aU (decide (0<=a2.Hits.get iG.toNat/\a2.Hits.get iG.toNat<(a1.len:Int))) (cond ((a1.get (a2.Hits.get iG.toNat).toNat).ak==v12) (k false) (Qn E n0 n1 a0 a1 a2 a3 a4 v11 v12 (aO (iG+1)) k)))) (aU (decide (0<=v12/\v12<(a0.aj.len:Int))) ((E.OE (a3,(a0.aj.get v12.toNat).Z)).T λr1=>cond (r1.2.2 != 0) (k false) (cond (decide (r1.1.bV<1)) (k false) (cond (decide (r1.2.1.bV<1)) (k false) (aU (decide (r1.1.bV≠0)) (aU (decide (r1.2.1.bV≠0)) (cond (decide ((aO ((aO (r1.1.Num.tdiv r1.1.bV))*r1.1.bV))>r1.1.Num)) (Qo E n0 a0 a1 a2 a3 a4 v11 v12 (aO ((aO (r1.1.Num.tdiv r1.1.bV))-1)) (aO (r1.2.1.Num.tdiv r1.2.1.bV)) r1.2.1 k) (Qo E n0 a0 a1 a2 a3 a4 v11 v12 (aO (r1.1.Num.tdiv r1.1.bV)) (aO (r1.2.1.Num.tdiv r1.2.1.bV)) r1.2.1 k)))))))):=krY
theorem zHR(n0:Nat)(a0:au)(a1:Sl bi)(a2:af)(a3:Sl ax)(a4:Sl Int)(v11 v12 v17 Uo:Int)(x15:aP):Qo E n0 a0 a1 a2 a3 a4 v11 v12 v17 Uo x15 k=cond (decide ((aO (Uo*x15.bV))<x15.Num)) (zcZ E n0 a0 a1 a2 a3 a4 v11 v12 v17 (aO (Uo+1)) k) (zcZ E n0 a0 a1 a2 a3 a4 v11 v12 v17 Uo k):=krY
theorem zHS(n0:Nat)(a0:au)(a1:Sl bi)(a2:af)(a3:Sl ax)(a4:Sl Int)(v11 v12 v17 Uo:Int):zcZ E n0 a0 a1 a2 a3 a4 v11 v12 v17 Uo k=(E.OG (a0,v12,(⟨v17,Uo⟩:bZ))).T λr1=>zk1 E n0 a0 a1 a2 a3 a4 v11 r1.1 r1.2.2 k:=krY
theorem zHT(n0:Nat)(a0:au)(a1:Sl bi)(a2:af)(a3:Sl ax)(a4:Sl Int)(v11:Int)(zJ:Bool)(v21:Int):zk1 E n0 a0 a1 a2 a3 a4 v11 zJ v21 k=cond (v21 != 0) (k false) (cond (!zJ) (k false) (Ia E n0 a0 a1 a2 a3 a4 (aO (v11+1)) k)):=krY
end
theorem o51 [aH](E:E51)(ZN:Ok aC 114 (ae.un E.OE))(ZP:Ok aC 115 (ae.un E.OG)):Ok aC 51 (ae.un (F51 E)):=dP ((ay.nil.addF ZN).addF ZP)
structure E54 where
 N:Nat
 c52:af×af->ae Bool
abbrev G54(E:E54):bI:=gq (Tabs.nil.addF 52 (ae.un E.c52)) []
def A54:dG:=bP aC 54 [] {}
def F54(E:E54):(Sl af)×af->ae Bool:=ae.ty (aF aC E.N (G54 E) A54 54)
section
variable(E:E54){A:Type}(k:Bool->Option A)
def zc0(E:E54)(n:Nat)(a0:Sl af)(a1:af)(v5:Int){A:Type}(k:Bool->Option A):Option A:=gX aC (G54 E) E.N A54 54 [1,0,1,0] [.n n] (gW k) ⟨[(0,eP a0),(3,.cl (.ptr 3 0)),(5,.int v5)],[(3,eB 43 a1)],[]⟩
theorem e54(a0:Sl af)(a1:af):(F54 E (a0,a1)).T k=zc0 E E.N a0 a1 0 k:=dO
theorem zu7(n0:Nat)(a0:Sl af)(a1:af)(v5:Int):zc0 E (n0+1) a0 a1 v5 k=cond (decide (v5<(a0.len:Int))) (aU (decide (0<=v5/\v5<(a0.len:Int))) ((E.c52 ((a0.get v5.toNat),a1)).T λr1=>cond r1 (k true) (zc0 E n0 a0 a1 (aO (v5+1)) k))) (k false):=krY
end
theorem o54 [aH](E:E54)(h52:Ok aC 52 (ae.un E.c52)):Ok aC 54 (ae.un (F54 E)):=dP (ay.nil.addF h52)
end Go.Proofs
