/- Part 5: framework, functions, plain laws. -/
import Derived.Test.YtjkijdhdbhooiaaGreatQ4
set_option linter.all false
noncomputable section
namespace Go.Proofs
open Go Go.Pm
set_option maxRecDepth 100000
def QS(x:straight)(g:au):Bool:=inB (aJ (x.start+aJ (x.bH*g.Z))) (aJ (g.Low*x.den)) (aJ (g.High*x.den))
abbrev zA6(C:straight×au->ae Bool):Prop:=∀x g,C (x,g)=.ok (QS x g)
theorem zV3{E:zsE}(BZ:BV E.c157):zA6 (zsF E):=λx g=>ae.ext λk=>by rw[e231,BZ,aY,aY];rfl
abbrev zA7(C:au×Pt straight->ae Bool):Prop:=∀g (x:Pt straight),C (g,x)=.ok (!QS x.v g)
theorem zV4{E:zsC}(zAX:zA6 E.zuC):zA7 (zsD E):=λg x=>ae.ext λk=>by rw[e230,zAX,aY,aY]
def Yg(x:straight)(g:au):Bool:=aJ (x.start+aJ (x.bH*g.Z))==aJ (g.Low*x.den)
abbrev zA8(C:au×Pt straight->ae Bool):Prop:=∀g (x:Pt straight),C (g,x)=.ok (Yg x.v g)
theorem zV5{E:zsX}:zA8 (zsY E):=λg x=>ae.ext λk=>by rw[e257,aY];rfl
abbrev zA9(C:au×Pt list->ae Bool):Prop:=∀g (x:Pt list),0<x.v.bP.len->C (g,x)=.ok (g.Z != (x.v.bP.get 0).Z)
theorem zV6{E:zsi}:zA9 (zsj E):=λg x h=>ae.ext λk=>by rw[e207,aY,bu omY]
abbrev zfQ:=dZ 207 Unit (Pt list) ⊕ dZ 230 Unit (Pt straight) ⊕ dZ 257 Unit (Pt straight)
def zlc:zfQ→au→Bool|.inl c,g=>g.Z != (c.v.v.bP.get 0).Z|.inr (.inl c),g=>!QS c.v.v g|.inr (.inr c),g=>Yg c.v.v g
def okG:zfQ→Prop|.inl c=>0<c.v.v.bP.len|_=>True
abbrev QIx{γ:Type}(i:γ->zfQ)(C:Sl au×γ->ae Int):Prop:=∀(l:Sl au)(c:γ),l.len<=1000->okG (i c)->C (l,c)=.ok (fst (λj=>zlc (i c) (l.get j)) l.len 0)
abbrev Pz{γ:Type}(i:γ->zfQ)(C:Sl au×γ->ae Bool):Prop:=∀(l:Sl au)(c:γ),l.len<=1000->okG (i c)->C (l,c)=.ok (!fA (λj=>!zlc (i c) (l.get j)) l.len)
abbrev zld(C:Sl au×zfQ->ae Int):Prop:=QIx id C
abbrev Yh(C:Sl au×zfQ->ae Bool):Prop:=Pz id C
theorem zle{E:wz}(N:Big E.N)(zAY:zA9 E.zux):QIx .inl (EJ E):=λl c hl ho=>ae.ext λk=>by
 rw[zk0,aY];refine IP (L:=λn i=>xJ E n l c i k) (p:=λj=>zlc (.inl c) (l.get j)) (m:=l.len) (k:=k) omY (λn i hi=>?_) (λn=>?_) _ (by have:=N;omega);rw[Oa,dC omY,dO,bu omY,zAY _ _ ho,aY,gm];rfl;rw[Oa,dR omY];rfl
theorem zlf{E:wB}(N:Big E.N)(zAZ:zA7 E.zuB):QIx (λc=>.inr (.inl c)) (EL E):=λl c hl ho=>ae.ext λk=>by
 rw[zk2,aY];refine IP (L:=λn i=>xK E n l c i k) (p:=λj=>zlc (.inr (.inl c)) (l.get j)) (m:=l.len) (k:=k) omY (λn i hi=>?_) (λn=>?_) _ (by have:=N;omega);rw[Ob,dC omY,dO,bu omY,zAZ,aY,gm];rfl;rw[Ob,dR omY];rfl
theorem zlg{E:wC}(N:Big E.N)(zA1:zA8 E.zuE):QIx (λc=>.inr (.inr c)) (EM E):=λl c hl ho=>ae.ext λk=>by
 rw[zk4,aY];refine IP (L:=λn i=>xM E n l c i k) (p:=λj=>zlc (.inr (.inr c)) (l.get j)) (m:=l.len) (k:=k) omY (λn i hi=>?_) (λn=>?_) _ (by have:=N;omega);rw[Oc,dC omY,dO,bu omY,zA1,aY,gm];rfl;rw[Oc,dR omY];rfl
theorem zV7{f:Sl au×dZ 207 Unit (Pt list)->ae Int}{g:Sl au×dZ 230 Unit (Pt straight)->ae Int}{h:Sl au×dZ 257 Unit (Pt straight)->ae Int}(a:QIx .inl f)(b:QIx (λc=>.inr (.inl c)) g)(d:QIx (λc=>.inr (.inr c)) h):zld (ae.two f (ae.two g h)):=λl c hl ho=>by
 rcases c with c|c|c
 exact a l c hl ho;exact b l c hl ho;exact d l c hl ho
theorem zlh{E:Ez}(NW:zld E.FB):Pz .inl (EC E):=λl c hl ho=>ae.ext λk=>by rw[zkM,NW l (.inl c) hl ho,aY,aY,xO];rfl
theorem zli{E:ED}(NW:zld E.FB):Pz (λc=>.inr (.inl c)) (EE E):=λl c hl ho=>ae.ext λk=>by rw[zkO,NW l (.inr (.inl c)) hl ho,aY,aY,xO];rfl
theorem zlj{E:EF}(NW:zld E.FB):Pz (λc=>.inr (.inr c)) (EG E):=λl c hl ho=>ae.ext λk=>by rw[zkQ,NW l (.inr (.inr c)) hl ho,aY,aY,xO];rfl
theorem zV8{f:Sl au×dZ 207 Unit (Pt list)->ae Bool}{g:Sl au×dZ 230 Unit (Pt straight)->ae Bool}{h:Sl au×dZ 257 Unit (Pt straight)->ae Bool}(a:Pz .inl f)(b:Pz (λc=>.inr (.inl c)) g)(d:Pz (λc=>.inr (.inr c)) h):Yh (ae.two f (ae.two g h)):=λl c hl ho=>by
 rcases c with c|c|c
 exact a l c hl ho;exact b l c hl ho;exact d l c hl ho
def fP(l:Sl au):Bool:=fA (λj=>(l.get j).Z==(l.get 0).Z) l.len
theorem zsZ{a b:Int}:(!(a != b))=(a==b):=by cases h:a==b<;>simp[bne,h]
abbrev zbp(C:list->ae Bool):Prop:=∀x:list,0<x.bP.len->x.bP.len<=1000->C x=.ok (fP x.bP)
theorem zV9{E:zrB}(NS:Yh E.c206):zbp (zrC E):=λx h0 h1=>ae.ext λk=>by
 rw[e167,NS x.bP (.inl ⟨(),⟨x⟩⟩) h1 h0,aY,aY,jqY];congr 1;exact BU λi _=>zsZ
def allB(l:Sl au)(x:straight):Bool:=fA (λj=>QS x (l.get j)) l.len
abbrev zBa(C:set×straight->ae Bool):Prop:=∀(s:set) x,s.list.bP.len<=1000->C (s,x)=.ok (allB s.list.bP x)
theorem zWa{E:zsa}(NS:Yh E.c206):zBa (zsb E):=λs x h1=>ae.ext λk=>by
 rw[e199,NS s.list.bP (.inr (.inl ⟨(),⟨x⟩⟩)) h1 trivial,aY,aY,jqY];congr 1;exact BU λi _=>jqY _
abbrev zBb(C:set×straight->ae Bool):Prop:=∀(s:set) x,s.list.bP.len<=1000->C (s,x)=.ok (!fA (λj=>!Yg x (s.list.bP.get j)) s.list.bP.len)
theorem zWb{E:zsV}(NS:Yh E.c206):zBb (zsW E):=λs x h1=>ae.ext λk=>by
 rw[zVR,NS s.list.bP (.inr (.inr ⟨(),⟨x⟩⟩)) h1 trivial,aY,aY];rfl
def eG(l:Sl au):Nat→bY
  | 0=>⟨(l.get 0).Low,(l.get 0).High⟩
  | n+1=>⟨if(l.get n).Low>(eG l n).Low then(l.get n).Low else(eG l n).Low,if(l.get n).High<(eG l n).High then(l.get n).High else(eG l n).High⟩
abbrev zs3(C:list->ae bY):Prop:=∀x:list,0<x.bP.len->x.bP.len<=1000->C x=.ok (eG x.bP x.bP.len)
theorem zWc{E:zfK}(N:Big E.N):zs3 (zsc E):=λx h0 h1=>ae.ext λk=>by
 rw[zVh,bu omY,bu omY,aY];refine kP (X:=λn i=>Us E n x (i:Int) (eG x.bP i) k) (m:=x.bP.len) (λn i hi=>?_) (λn=>?_) _ (by have:=N;omega);rw[zkK,dC omY,dO,bu omY,bD omY,gm];rfl;rw[zkK,dR omY];rfl
def yI(s:straight):Prop:=(-2000000<=s.bH/\s.bH<=2000000)/\(-200000000000<=s.start/\s.start<=200000000000)/\1<=s.den/\s.den<=100000
theorem zBc{z p y q:Int}(hz:0<=z/\z<=100000)(hy:0<=y/\y<=100000)(hp : -1000000<=p/\p<=1000000)(hq : -1000000<=q/\q<=1000000)(hn:z≠y):yI (FP z p y q):=by
 have b1:=qX hp.1 hp.2 hy.1 hy.2;have b2:=qX hq.1 hq.2 hz.1 hz.2;unfold FP yI;by_cases h:z>y;rw[eY h];exact⟨⟨by show _<=p-q;omega,by show p-q<=_;omega⟩,⟨by show _<=q*z-p*y;omega,by show q*z-p*y<=_;omega⟩,by show _<=z-y;omega,by show z-y<=_;omega⟩;rw[fH h];exact⟨⟨by show _<=q-p;omega,by show q-p<=_;omega⟩,⟨by show _<=p*y-q*z;omega,by show p*y-q*z<=_;omega⟩,by show _<=y-z;omega,by show y-z<=_;omega⟩
theorem zlk{a b:au}{s:straight}(h:s∈Ci a b):a.Z≠b.Z/\∃p q,(p=a.Low\/p=a.High)/\(q=b.Low\/q=b.High)/\s=FP a.Z p b.Z q:=by
 unfold Ci at h;by_cases hz:a.Z=b.Z;rw[eY hz]at h;cases h;rw [fH hz]at h;refine⟨hz,?_⟩;simp only[kS,qjq,jqG]at h;rcases h with h|h|h|h
 exact⟨_,_,.inl rfl,.inl rfl,h⟩;exact⟨_,_,.inl rfl,.inr rfl,h⟩;exact⟨_,_,.inr rfl,.inl rfl,h⟩;exact⟨_,_,.inr rfl,.inr rfl,h⟩
theorem Yi{g:Sl au}{i:Nat}{s:straight}:∀{m k:Nat},s∈EN g i m k→∃j,k≤j∧j<k+m∧s∈Ci (g.get i) (g.get j)
  | 0,_,h=>by cases h
  | m+1,k,h=>by
    rcases dX.1 h with h|h
    exact⟨k,kD _,omY,h⟩;obtain⟨j,a,b,c⟩:=Yi h;exact⟨j,omY,omY,c⟩
theorem Yj{g:Sl au}{s:straight}:∀{m i:Nat},s∈Py g m i→∃a b,i≤a∧a<i+m∧a<b∧b<g.len∧s∈Ci (g.get a) (g.get b)
  | 0,_,h=>by cases h
  | m+1,i,h=>by
    rcases dX.1 h with h|h
    obtain⟨j,a,b,c⟩:=Yi h;exact⟨i,j,kD _,omY,omY,omY,c⟩;obtain⟨a,b,h1,h2,h3,h4,h5⟩:=Yj h;exact⟨a,b,omY,omY,h3,h4,h5⟩
theorem zdp{g:Sl au}{s:straight}(h:s∈cst g):∃a b,a<b/\b<g.len/\(g.get a).Z≠(g.get b).Z/\∃p q,(p=(g.get a).Low\/p=(g.get a).High)/\(q=(g.get b).Low\/q=(g.get b).High)/\s=FP (g.get a).Z p (g.get b).Z q:=by
 obtain⟨a,b,_,_,h3,h4,h5⟩:=Yj h;obtain⟨hz,r⟩:=zlk h5;exact⟨a,b,h3,h4,hz,r⟩
theorem qA{g:Sl au}(G:bU g){s:straight}(h:s∈cst g):yI s:=by
 obtain⟨a,b,h1,h2,hz,p,q,hp,hq,rfl⟩:=zdp h;have ga:=G.1 a omY;have gb:=G.1 b h2;refine zBc ga.1 gb.1 ?_ ?_ hz;rcases hp with rfl|rfl;exact qN ga;exact sF ga
 rcases hq with rfl|rfl;exact qN gb;exact sF gb
def tZ(l:Line):List Int:=[l.dK.Num,l.dK.bQ,l.Start.Num,l.Start.bQ]
theorem zfR{a b:Line}(h:tZ a=tZ b):a=b:=by
 unfold tZ at h;simp only[FV,jqm]at h;obtain⟨h1,h2,h3,h4⟩:=h;obtain⟨⟨a1,a2⟩,a3,a4⟩:=a;obtain⟨⟨b1,b2⟩,b3,b4⟩:=b;simp only at h1 h2 h3 h4;rw[h1,h2,h3,h4]
theorem Yk(a b:au):(Ci a b).length<=4:=by unfold Ci;split<;>simp
theorem Yl(g:Sl au)(i m k:Nat):(EN g i m k).length<=4*m:=by
 induction m generalizing k with|zero=>exact kD _|succ m ih=>show(Ci _ _++EN g i m (k+1)).length<=_;rw[Jo];have:=ih (k+1);have:=Yk (g.get i) (g.get k);omega
theorem zll(g:Sl au):∀m i,(Py g m i).length<=4*g.len*m:=by
 intro m
 induction m with
 | zero=>intro i;exact kD _
 | succ m ih =>
  intro i;show(EN g i (g.len-(i+1)) (i+1)++Py g m (i+1)).length<=_;rw[Jo,Nat.mul_succ];have:=ih (i+1);have:=Yl g i (g.len-(i+1)) (i+1);omega
theorem JO{g:Sl au}(G:bU g):(cst g).length<=2304:=by
 have h1:=zll g g.len 0;have hl:=G.2.2;have:4*g.len*g.len<=4*24*24:=jqA omY hl;exact FN h1 this
def qB{α:Type}[bI α](v:Sl α)(x:α):Sl α:=⟨v.len+1,jy v.len v.get (λ_=>x)⟩
theorem uN{α:Type}[bI α](l:List α):∀v:Sl α,(l.foldl qB v).len=v.len+l.length:=by
 induction l with|nil=>intro v;rfl|cons x l ih=>intro v;rw[VF,ih];show v.len+1+l.length=v.len+(l.length+1);omega
theorem Ux{α:Type}[bI α][sU α](l:List α):∀(v:Sl α)(i:Nat),i<v.len->(l.foldl qB v).get i=v.get i:=by
 induction l with
 | nil=>intro v i _;rfl
 | cons x l ih =>
  intro v i hi;rw[VF,ih _ _ (show i<v.len+1 by omega)];show jy v.len v.get (λ_=>x) i=_;rw[jQ,fH omY]
theorem Bh{α:Type}[bI α][sU α](l:List α):∀(v:Sl α)(i:Nat)(x:α),l[i]? = some x->(l.foldl qB v).get (v.len+i)=x:=by
 induction l with
 | nil=>intro v i x h;simp at h
 | cons y l ih =>
  intro v i x h;rw[VF];cases i with
  | zero =>
   simp only[qdE,bV]at h;subst h;rw[Ux l _ _ (show v.len+0<v.len+1 by omega)];show jy v.len v.get (λ_=>y) (v.len+0)=_;rw[jQ,eY omY]
  | succ i =>
   have:=ih (qB v y) i x (by simpa using h);rw[<- this];congr 1;show v.len+(i+1)=v.len+1+i;omega
abbrev zs4(C:straight->ae Line):Prop:=∀x,yI x->C x=.ok (fB x)
theorem zWd{E:zr8}(qW:Oe E.kW):zs4 (zr9 E):=λx h=>ae.ext λk=>by
 obtain⟨h1,h2,h3⟩:=h;rw[zVe,qW _ _ omY omY omY omY,qW _ _ omY omY omY omY,aY,aY,aY];rfl
def He(g:Sl au):List straight→List straight→(List Int→Option (List Int))→List straight|[],acc,_=>acc|y::r,acc,F=>cond (!(yL (F (tZ (fB y))) 0 != 0)) (cond (allB g y) (He g r (acc++[y]) (Di (tZ (fB y)) [1] F)) (He g r acc F)) (He g r acc F)
def jI(g:Sl au):List straight:=cond (fP g) [] (He g (cst g) [] λ_=>none)
abbrev IQ{α:Type}[Inhabited α]:Sl α:=⟨0,λ_=>default⟩
abbrev zlm(C:Sl au->ae set):Prop:=∀g,bU g->C g=.ok ⟨⟨g⟩,(jI g).foldl qB IQ⟩
theorem zWe{E:zfD}(xB:zbp E.c167)(i228:zA4 E.i228)(zbf:zs4 E.c198)(zAz:zBa E.zuu):zlm (zrp E):=λg G=>ae.ext λk=>by
 have hl:=G.2;rw[zUz,xB ⟨g⟩ (by show 0<g.len;omega) (by show g.len<=1000;omega),aY,aY];unfold jI;cases fP g with
 | true=>rfl
 | false =>
  rw[dN,dN,i228 ⟨⟨g⟩⟩ G,aY];have key:∀(r acc:List straight)(n:Nat)(F:List Int->Option (List Int)),(∀s∈r,yI s)->acc.length+r.length<=10000->qx E r g (acc.foldl qB IQ) n F k=k ⟨⟨g⟩,(He g r acc F).foldl qB IQ⟩:=by
   intro r
   induction r with
   | nil=>intro acc n F _ _;exact zrq ..
   | cons y r ih =>
    intro acc n F hs hn;have qi:∀s∈r,yI s:=λs h=>hs s (jW _ h);rw[Bo]at hn;rw[zAy,zbf y (hs y kX),aY,zAz ⟨⟨g⟩,_⟩ y (by show g.len<=1000;omega),aY];have e1:∀m F,qx E r g (acc.foldl qB IQ) m F k=_:=λm F=>ih acc m F qi omY;have e2:∀m F,qx E r g ((acc++[y]).foldl qB IQ) m F k=_:=λm F=>ih (acc++[y]) m F qi (by rw[Jo];simp only[Bo,RQ];omega);have hlen:(acc.foldl qB IQ).len=acc.length:=by rw[uN];simp
    have FM:room ((acc.foldl qB IQ).len+1) 24=true:=dC (by rw[hlen];omega);have hf:(⟨(acc.foldl qB IQ).len+1,jy (acc.foldl qB IQ).len (acc.foldl qB IQ).get (λ_=>y)⟩:Sl straight)=(acc++[y]).foldl qB IQ:=by rw[jqd];rfl
    rw[FM,hf];show cond (!(yL (F (tZ (fB y))) 0 != 0)) (cond (allB g y) (qx E r g ((acc++[y]).foldl qB IQ) _ (Di (tZ (fB y)) [1] F) k) (qx E r g (acc.foldl qB IQ) n F k)) (qx E r g (acc.foldl qB IQ) n F k)=_;rw[e1,e2];simp only[He];cases(yL (F (tZ (fB y))) 0 != 0)<;>cases allB g y<;>rfl
  exact key (cst g) [] 0 _ (λs h=>qA G h) (by have:=JO G;simp only[RQ];omega)
theorem zs5(g:Sl au):∀(r acc:List straight)(F:List Int->Option (List Int)),(∀c,(yL (F c) 0 != 0)=true↔∃x∈acc,tZ (fB x)=c)->acc.Pairwise (λx y=>fB x≠fB y) ->
    (∀s∈He g r acc F,s∈acc\/(s∈r/\allB g s=true))/\(∀s∈acc,s∈He g r acc F)/\(∀s∈r,allB g s=true->∃x∈He g r acc F,fB x=fB s)/\(He g r acc F).Pairwise (λx y=>fB x≠fB y):=by
  intro r
  induction r with
  | nil=>intro acc F _ hp;exact⟨λs h=>.inl h,λs h=>h,(λs h=>by cases h),hp⟩
  | cons y r ih =>
    intro acc F hF hp;have skip:=ih acc F hF hp;simp only[He];cases h1:(yL (F (tZ (fB y))) 0 != 0)with
    | true =>
      obtain⟨c3,c4,c5,c6⟩:=skip;simp only[I7,dN];refine⟨λs h=>(c3 s h).imp id λk=>⟨jW _ k.1,k.2⟩,c4,λs h ha=>?_,c6⟩;rcases kS.1 h with rfl|h
      obtain⟨x,hx,hc⟩:=(hF _).1 h1;exact⟨x,c4 x hx,zfR hc⟩;exact c5 s h ha
    | false =>
      cases h2:allB g y with
      | true =>
        simp only[qdQ,dO]
        obtain⟨c3,c4,c5,c6⟩:=ih (acc++[y]) (Di (tZ (fB y)) [1] F)
          (λc=>by
            unfold Di;by_cases hc:c=tZ (fB y);rw [dC hc];exact⟨λ_=>⟨y,by simp,hc.symm⟩,λ_=>rfl⟩;rw [dR hc];refine(hF c).trans ⟨λ⟨x,hx,e⟩=>⟨x,dX.2 (.inl hx),e⟩,λ⟨x,hx,e⟩=>?_⟩;rcases dX.1 hx with hx|hx
            exact⟨x,hx,e⟩;rw[lN.1 hx]at e;exact absurd e.symm hc)
          (by
            rw[qdt];refine⟨hp,jqK _ _,λa ha b hb=>?_⟩;rw[lN.1 hb];exact λe=>by rw[(hF _).2 ⟨a,ha,by rw[e]⟩]at h1;cases h1)
        have hy:=c4 y (by simp);refine⟨λs h=>?_,λs h=>c4 s (dX.2 (.inl h)),λs h ha=>?_,c6⟩;rcases c3 s h with h|h
        rcases dX.1 h with h|h
        exact .inl h;rw[lN.1 h];exact .inr ⟨kX,h2⟩;exact .inr ⟨jW _ h.1,h.2⟩;rcases kS.1 h with rfl|h
        exact⟨s,hy,rfl⟩;exact c5 s h ha
      | false =>
        obtain⟨c3,c4,c5,c6⟩:=skip;simp only[qdQ,dO,dN];refine⟨λs h=>(c3 s h).imp id λk=>⟨jW _ k.1,k.2⟩,c4,λs h ha=>?_,c6⟩;rcases kS.1 h with rfl|h
        rw[h2]at ha;cases ha;exact c5 s h ha
theorem Uy{g:Sl au}(hf:fP g=false):(∀s∈jI g,s∈cst g/\allB g s=true)/\(∀s∈cst g,allB g s=true->∃x∈jI g,fB x=fB s)/\(jI g).Pairwise (λx y=>fB x≠fB y):=by
 unfold jI;rw[hf,dN];obtain⟨c3,_,c5,c6⟩:=zs5 g (cst g) [] (λ_=>none) (λc=>⟨λh=>by simp[yL]at h,λ⟨x,hx,_⟩=>by cases hx⟩) List.Pairwise.nil;refine⟨λs h=>?_,c5,c6⟩;rcases c3 s h with h|h
 cases h;exact h
def eH(g:Sl au):Bool:=cond (fP g) (decide ((eG g g.len).Low<=(eG g g.len).High)) (decide (((jI g).length:Int)>0))
def jh(g:Sl au):set:=⟨⟨g⟩,(jI g).foldl qB IQ⟩
theorem EO(g:Sl au):(jh g).df.len=(jI g).length:=by show((jI g).foldl qB IQ).len=_;rw[uN];simp
abbrev zln(C:set->ae Bool):Prop:=∀g,bU g->C (jh g)=.ok (eH g)
theorem zWf{E:zrr}(zbg:zs3 E.Vj)(xB:zbp E.c167):zln (zrt E):=λg G=>ae.ext λk=>by
 have hl:=G.2;rw[zUC,zbg _ (by show 0<g.len;omega) (by show g.len<=1000;omega),aY,xB _ (by show 0<g.len;omega) (by show g.len<=1000;omega),aY,aY,EO,kc k];rfl
def CW(g:Sl au)(b:Bool):set×Int:=cond (xN g) (cond (eH g) (cond (fP g && !b) (⟨⟨IQ⟩,IQ⟩,6) (jh g,0)) (⟨⟨IQ⟩,IQ⟩,5)) (⟨⟨IQ⟩,IQ⟩,2)
abbrev zBd(C:list->ae Bool):Prop:=∀l,C l=.ok false
theorem zWg{E:zqI}:zBd (zqJ E):=λl=>ae.ext λk=>by rw[e118,aY]
abbrev zBe(C:list×Pt Int->ae Bool):Prop:=∀(l:list)(z:Pt Int),0<l.bP.len->C (l,z)=.ok ((l.bP.get 0).Z==z.v)
theorem zWh{E:zru}:zBe (zrv E):=λl z h=>ae.ext λk=>by rw[e162,aY,bu omY]
abbrev zBf:=dZ 118 Unit Unit ⊕ dZ 162 Unit (Pt Int)
def zWi(g:Sl au):zBf→Bool|.inl _=>false|.inr c=>(g.get 0).Z==c.v.v
abbrev QOp{γ:Type}(i:γ->zBf)(C:Sl au×γ->ae (set×Int)):Prop:=∀(g:Sl au)(c:γ),g.len<=1000->C (g,c)=.ok (CW g (zWi g (i c)))
abbrev zs6(C:Sl au×zBf->ae (set×Int)):Prop:=QOp id C
theorem zlo{E:Ef}(NH:zlb E.c109)(NI:zlm E.CU)(NJ:zln E.c159)(xB:zbp E.c167)(zAd:zBd E.zua):QOp .inl (Eg E):=λg c hl=>ae.ext λk=>by
 rw[zj6,NH g hl,aY,aY];unfold CW;cases hg:xN g with
 | false=>rfl
 | true =>
  have G:=kE.1 hg;have G2:=G.2;rw[NI g G,aY,show(⟨⟨g⟩,(jI g).foldl qB IQ⟩:set)=jh g from rfl,NJ g G,aY,xB _ (by show 0<g.len;omega) (by show g.len<=1000;omega),aY,zAd,aY];show cond (!true) _ (cond (!eH g) _ (cond (fP g) _ _))=_;cases eH g<;>cases fP g<;>rfl
theorem zlp{E:Eh}(NH:zlb E.c109)(NI:zlm E.CU)(NJ:zln E.c159)(xB:zbp E.c167)(zAe:zBe E.c162):QOp .inr (Ei E):=λg c hl=>ae.ext λk=>by
 rw[zj8,NH g hl,aY,aY];unfold CW;cases hg:xN g with
 | false=>rfl
 | true =>
  have G:=kE.1 hg;have G2:=G.2;rw[NI g G,aY,show(⟨⟨g⟩,(jI g).foldl qB IQ⟩:set)=jh g from rfl,NJ g G,aY,xB _ (by show 0<g.len;omega) (by show g.len<=1000;omega),aY,zAe _ _ (by show 0<g.len;omega),aY];show cond (!true) _ (cond (!eH g) _ (cond (fP g) (cond (!((g.get 0).Z==c.v.v)) _ _) _))=k (cond true (cond (eH g) (cond (fP g && !((g.get 0).Z==c.v.v)) _ _) _) _);cases eH g<;>cases fP g<;>cases((g.get 0).Z==c.v.v)<;>rfl
theorem zWj{f:Sl au×dZ 118 Unit Unit->ae (set×Int)}{h:Sl au×dZ 162 Unit (Pt Int)->ae (set×Int)}(a:QOp .inl f)(b:QOp .inr h):zs6 (ae.two f h):=λg c hl=>by
 rcases c with c|c
 exact a g c hl;exact b g c hl
def gX(s:straight)(z:Int):Int:=s.start+s.bH*z
def iQ(s:straight)(g:au):Bool:=decide (g.Low*s.den<=gX s g.Z/\gX s g.Z<=g.High*s.den)
def zBh(s:straight)(g:au):Bool:=decide (gX s g.Z=g.Low*s.den)
theorem zdq{s:straight}(S:yI s){z:Int}(hz : -200000<=z/\z<=200000):aJ (s.start+aJ (s.bH*z))=gX s z/\(-600000000000<=gX s z/\gX s z<=600000000000):=by
 have b : -400000000000<=s.bH*z/\s.bH*z<=400000000000:=by
  rcases qdV z 0 with h|h
  have:=qX (x:=s.bH) (y := -z) (X:=2000000) (Y:=200000) (by have:=S.1;omega) (by have:=S.1;omega) omY omY;rw[qjk]at this;omega;exact qX (X:=2000000) (Y:=200000) (by have:=S.1;omega) (by have:=S.1;omega) h omY
 have:=S.2.1;unfold gX;rw[aW (x:=s.bH*z) omY omY,aW omY omY];omega
theorem zlq{s:straight}(S:yI s){p:Int}(hp : -1000000<=p/\p<=1000000):aJ (p*s.den)=p*s.den:=by
 have:=qX hp.1 hp.2 (show 0<=s.den by have:=S.2.2;omega) S.2.2.2;exact aW omY omY
theorem Ym{s:straight}(S:yI s){g:au}(h:ik g):QS s g=iQ s g:=by
 unfold QS iQ inB;rw[(zdq S (z:=g.Z) (by have:=h.1;omega)).1,zlq S (qN h),zlq S (sF h)]
theorem zdr{s:straight}(S:yI s){g:au}(h:ik g):Yg s g=zBh s g:=by
 unfold Yg zBh;rw[(zdq S (z:=g.Z) (by have:=h.1;omega)).1,zlq S (qN h)];rw[VG];simp
def xP(g:Sl au)(s:straight):Prop:=∀i,i<g.len->iQ s (g.get i)=true
def o5(g:Sl au)(s:straight):Prop:=∃i,i<g.len/\zBh s (g.get i)=true
theorem EP{g:Sl au}(G:bU g){s:straight}(S:yI s):allB g s=true↔xP g s:=by
 unfold allB;rw[dm];exact⟨λh i hi=>by rw[<- Ym S (G.1 i hi)];exact h i hi,λh i hi=>by rw[Ym S (G.1 i hi)];exact h i hi⟩
theorem Yn{g:Sl au}(G:bU g){s:straight}(S:yI s):(!fA (λj=>!Yg s (g.get j)) g.len)=true↔o5 g s:=by
 rw[H6,<- qjr,dm];constructor
 ·intro h;apply qdA;intro hc;refine h λi hi=>?_;cases e:Yg s (g.get i)with|false=>rfl|true=>rw[zdr S (G.1 i hi)]at e;exact(hc ⟨i,hi,e⟩).elim
 rintro⟨i,hi,e⟩ h;have:=h i hi;rw[zdr S (G.1 i hi),e]at this;cases this
def uf(g:Sl au)(s:straight):Prop:=s∈cst g/\xP g s
theorem kV{g:Sl au}(G:bU g){s:straight}(h:uf g s):yI s:=qA G h.1
def Ag(a b:aP):Prop:=a.Num*b.bQ<b.Num*a.bQ
def Og(s:straight):aP:=⟨s.bH,s.den⟩
theorem zbq{z p y q:Int}(h:z≠y):gX (FP z p y q) z=p*(FP z p y q).den/\gX (FP z p y q) y=q*(FP z p y q).den:=by
 unfold FP gX;split;constructor;show q*z-p*y+(p-q)*z=p*(z-y);rw[qj5,qjP];omega;show q*z-p*y+(p-q)*y=q*(z-y);rw[qj5,qjP];omega;constructor;show p*y-q*z+(q-p)*z=p*(y-z);rw[qj5,qjP];omega;show p*y-q*z+(q-p)*y=q*(y-z);rw[qj5,qjP];omega
def zds(g:Sl au)(s:straight):Prop:=∃i,i<g.len/\gX s (g.get i).Z=(g.get i).High*s.den
theorem zfS{g:Sl au}{s:straight}(h:s∈cst g):o5 g s\/zds g s:=by
 obtain⟨a,b,h1,h2,hz,p,q,hp,hq,rfl⟩:=zdp h;have e:=(zbq (p:=p) (q:=q) hz).1;rcases hp with rfl|rfl
 exact .inl ⟨a,omY,dC e⟩;exact .inr ⟨a,omY,e⟩
theorem par{s t:straight}(h:s.bH*t.den=t.bH*s.den)(z:Int):gX s z*t.den-gX t z*s.den=s.start*t.den-t.start*s.den:=by
  unfold gX;rw[qjd,qjd];have e:s.bH*z*t.den=t.bH*z*s.den:=by
    calc s.bH * z * t.den = s.bH * t.den * z := by ac_rfl
      _=t.bH*z*s.den:=by rw[h];ac_rfl
  omega
theorem xQ{g:Sl au}{s:straight}(h:xP g s){i:Nat}(hi:i<g.len):(g.get i).Low*s.den<=gX s (g.get i).Z/\gX s (g.get i).Z<=(g.get i).High*s.den:=qdo (h i hi)
theorem zBi{g:Sl au}(G:bU g){s t:straight}(hs:uf g s)(ht:uf g t)(h:s.bH*t.den=t.bH*s.den)(hl:s.start*t.den<t.start*s.den):¬o5 g t/\¬zds g s:=by
 have ps:0<s.den:=by have:=(kV G hs).2.2;omega
 have pt:0<t.den:=by have:=(kV G ht).2.2;omega
 constructor;intro⟨i,hi,e⟩;have e:gX t (g.get i).Z=(g.get i).Low*t.den:=qdo e;have a:=(xQ hs.2 hi).1;have p:=par h (g.get i).Z;have a2:=J9 a (uX pt);have:(g.get i).Low*s.den*t.den=gX t (g.get i).Z*s.den:=by rw[e];ac_rfl
 omega;intro⟨i,hi,e⟩;have a:=(xQ ht.2 hi).2;have p:=par h (g.get i).Z;have a2:=J9 a (uX ps);have:(g.get i).High*t.den*s.den=gX s (g.get i).Z*t.den:=by rw[e];ac_rfl
 omega
theorem Yo{g:Sl au}(G:bU g){s t:straight}(hs:uf g s)(ht:uf g t)(hf:o5 g s↔o5 g t)(h1:¬Ag (Og s) (Og t))(h2:¬Ag (Og t) (Og s)):fB s=fB t:=by
 have ps:0<s.den:=by have:=(kV G hs).2.2;omega
 have pt:0<t.den:=by have:=(kV G ht).2.2;omega
 have h:s.bH*t.den=t.bH*s.den:=by
  have a:¬s.bH*t.den<t.bH*s.den:=h1;have b:¬t.bH*s.den<s.bH*t.den:=h2;omega
 have key:∀{s t:straight},uf g s->uf g t->(o5 g s↔o5 g t)->s.bH*t.den=t.bH*s.den->¬s.start*t.den<t.start*s.den:=fun {s t} hs ht hf h hl=>by
  obtain⟨a,b⟩:=zBi G hs ht h hl;rcases zfS hs.1 with c|c
  exact a (hf.1 c);exact b c
 have e:s.start*t.den=t.start*s.den:=by
  have a:=key hs ht hf h;have b:=key ht hs hf.symm h.symm;omega
 unfold fB;rw[(zbn ps pt).2 h,(zbn ps pt).2 e]
def Oh(g:Sl au)(s t:straight):Prop:=(o5 g s/\(o5 g t->Ag (Og s) (Og t)))\/(¬o5 g s/\¬o5 g t/\Ag (Og t) (Og s))
theorem Uz{a:aP}:¬Ag a a:=by unfold Ag;omega
theorem zdt{a b:aP}(h:Ag a b):¬Ag b a:=by unfold Ag at *;omega
theorem zdu{a b c:aP}(ha:0<a.bQ)(hb:0<b.bQ)(hc:0<c.bQ)(h1:Ag a b)(h2:Ag b c):Ag a c:=by
 unfold Ag at *;have y1:=qjw h1 hc;have y2:=qjw h2 ha;have z1:b.Num*a.bQ*c.bQ=b.Num*c.bQ*a.bQ:=by ac_rfl
 have z2:c.Num*b.bQ*a.bQ=c.Num*a.bQ*b.bQ:=by ac_rfl
 have z3:a.Num*b.bQ*c.bQ=a.Num*c.bQ*b.bQ:=by ac_rfl
 have:a.Num*c.bQ*b.bQ<c.Num*a.bQ*b.bQ:=by omega
 exact jqw this (uX hb)
theorem zs7{g:Sl au}{s:straight}:¬Oh g s s:=λh=>by
 rcases h with⟨a,b⟩|⟨_,_,c⟩
 exact Uz (b a);exact Uz c
theorem zlr{g:Sl au}{s t:straight}(h:Oh g s t):¬Oh g t s:=λk=>by
 rcases h with⟨a,b⟩|⟨a,b,c⟩<;>rcases k with⟨x,y⟩|⟨x,y,z⟩
 exact zdt (b x) (y a);exact y a;exact b x;exact zdt c z
theorem zfT{g:Sl au}(G:bU g){s t u:straight}(hs:uf g s)(ht:uf g t)(hu:uf g u)(h:Oh g s t)(k:Oh g t u):Oh g s u:=by
 have ps:0<(Og s).bQ:=by have:=(kV G hs).2.2;show 0<s.den;omega
 have pt:0<(Og t).bQ:=by have:=(kV G ht).2.2;show 0<t.den;omega
 have pu:0<(Og u).bQ:=by have:=(kV G hu).2.2;show 0<u.den;omega
 rcases h with⟨a,b⟩|⟨a,b,c⟩<;>rcases k with⟨x,y⟩|⟨x,y,z⟩
 exact .inl ⟨a,λw=>zdu ps pt pu (b x) (y w)⟩;exact .inl ⟨a,λw=>absurd w y⟩;exact absurd x b;exact .inr ⟨a,y,zdu pu pt ps z c⟩
theorem zs8{g:Sl au}(G:bU g){s t:straight}(hs:uf g s)(ht:uf g t)(hn:fB s≠fB t):Oh g s t\/Oh g t s:=by
 by_cases a:o5 g s<;>by_cases b:o5 g t;by_cases c:Ag (Og s) (Og t);exact .inl (.inl ⟨a,λ_=>c⟩);by_cases d:Ag (Og t) (Og s);exact .inr (.inl ⟨b,λ_=>d⟩);exact absurd (Yo G hs ht ⟨λ_=>b,λ_=>a⟩ c d) hn;exact .inl (.inl ⟨a,λw=>absurd w b⟩);exact .inr (.inl ⟨b,λw=>absurd w a⟩);by_cases c:Ag (Og s) (Og t);exact .inr (.inr ⟨b,a,c⟩);by_cases d:Ag (Og t) (Og s);exact .inl (.inr ⟨a,b,d⟩);exact absurd (Yo G hs ht ⟨λw=>absurd w a,λw=>absurd w b⟩ c d) hn
abbrev zs9(C:Int->ae Bool):Prop:=∀x,C x=.ok false
theorem zWk{E:zsK}:zs9 (zsL E):=λx=>ae.ext λk=>by rw[zVH,aY,show(x != x)=false by simp]
def qY(a b:Int):Int:=cond (decide (a<b)) (-1) (cond (decide (a>b)) 1 0)
abbrev zbr(C:Int×Int->ae Int):Prop:=∀a b,C (a,b)=.ok (qY a b)
theorem zWl{E:zsk}(XZ:zs9 E.OO):zbr (zsl E):=λa b=>ae.ext λk=>by
 rw[e208,XZ,aY,XZ,aY,aY];unfold qY;cases decide (a<b)<;>cases decide (a>b)<;>rfl
def FOK(f:aP):Prop:=(-1000000000<=f.Num/\f.Num<=1000000000)/\0<f.bQ/\f.bQ<=1000000000
def cmF(a b:aP):Int:=qY (a.Num*b.bQ) (b.Num*a.bQ)
theorem zJf{a b:aP}(h1:FOK a)(h2:FOK b):aJ (a.Num*b.bQ)=a.Num*b.bQ:=by
 have:=qX h1.1.1 h1.1.2 (uX h2.2.1) h2.2.2;exact aW omY omY
abbrev zls(C:aP×aP->ae Int):Prop:=∀a b:aP,aJ (a.Num*b.bQ)=a.Num*b.bQ->aJ (b.Num*a.bQ)=b.Num*a.bQ->C (a,b)=.ok (cmF a b)
theorem zWn{E:zrF}(zbh:zbr E.c208):zls (zrG E):=λa b h1 h2=>ae.ext λk=>by
 rw[e170,zbh,aY,aY,h1,h2];rfl
theorem zlt{a b:aP}:cmF a b<0↔Ag a b:=by
 unfold cmF qY Ag;by_cases h:a.Num*b.bQ<b.Num*a.bQ;rw[dC h];simp[h];rw [dR h];cases decide (a.Num*b.bQ>b.Num*a.bQ)<;>simp[h]
theorem zlu{a b:aP}:0-cmF a b<0↔Ag b a:=by
 unfold cmF qY Ag;by_cases h:a.Num*b.bQ<b.Num*a.bQ;rw[dC h];simp;omega;rw [dR h];by_cases h2:a.Num*b.bQ>b.Num*a.bQ;rw[dC h2];simp;omega;rw[dR h2];simp;omega
theorem zJg(a b:aP) : -1<=cmF a b/\cmF a b<=1:=by
 unfold cmF qY;cases decide (a.Num*b.bQ<b.Num*a.bQ)<;>cases decide (a.Num*b.bQ>b.Num*a.bQ)<;>simp
theorem zlv{a b c d:Int}(hb:0<b)(hd:0<d):Ag (red a b) (red c d)↔a*d<c*b:=by
 have a1:=pF (num:=a) hb;have a2:=nJ (num:=a) hb;have c1:=pF (num:=c) hd;have c2:=nJ (num:=c) hd;have hG:=lT (num:=a) hb;have hK:=lT (num:=c) hd;unfold Ag;generalize (Int.gcd a b:Int)=G at a1 a2 hG;generalize (Int.gcd c d:Int)=K at c1 c2 hK;generalize (red a b).Num=p at a1 ⊢;generalize (red a b).bQ=q at a2 ⊢;generalize (red c d).Num=u at c1 ⊢;generalize (red c d).bQ=v at c2 ⊢;subst a1 a2 c1 c2;have e1:G*p*(K*v)=p*v*(G*K):=by ac_rfl
 have e2:K*u*(G*q)=u*q*(G*K):=by ac_rfl
 rw[e1,e2];have hp:=qj4 hG hK;exact⟨λh=>qjw h hp,λh=>jqw h (uX hp)⟩
theorem JP{a b:Int}(h1 : -1000000000<=a)(h2:a<=1000000000)(hb:0<b)(VC:b<=1000000000):FOK (red a b):=by
 have r1:=Af (num:=a) hb;have r2:=Ha (num:=a) hb;have r3:=jH (num:=a) hb;exact⟨omY,omY,omY⟩
def yE(g:Sl au)(s:straight):Bool:=!fA (λj=>!Yg s (g.get j)) g.len
def zlw(g:Sl au)(s t:straight):Int:=cond (yE g s) (cond (yE g t) (cmF (red s.bH s.den) (red t.bH t.den)) (-1)) (cond (yE g t) 1 (aJ (0-cmF (red s.bH s.den) (red t.bH t.den))))
abbrev zBj(C:straight×straight×Pt set->ae Int):Prop:=∀s t (P:Pt set),yI s->yI t->P.v.list.bP.len<=1000->C (s,t,P)=.ok (zlw P.v.list.bP s t)
theorem zWo{E:zsR}(zsU:zBb E.zne)(qW:Oe E.kW)(NV:zls E.Fv):zBj (zsS E):=λs t P S T hl=>ae.ext λk=>by
 have s1:=S.1;have s3:=S.2.2;have t1:=T.1;have t3:=T.2.2
 rw[e254,zsU _ _ hl,aY,zsU _ _ hl,aY,qW _ _ omY omY omY omY,aY,qW _ _ omY omY omY omY,aY,
  NV _ _ (zJf (JP omY omY omY omY) (JP omY omY omY omY)) (zJf (JP omY omY omY omY) (JP omY omY omY omY)),aY,aY]
 unfold zlw;show cond (yE P.v.list.bP s) (cond (yE P.v.list.bP t) _ (cond (yE P.v.list.bP s) _ (cond (yE P.v.list.bP t) _ _))) (cond (yE P.v.list.bP s) _ (cond (yE P.v.list.bP t) _ _))=_;cases yE P.v.list.bP s<;>cases yE P.v.list.bP t<;>rfl
theorem zta{g:Sl au}(G:bU g){s t:straight}(hs:uf g s)(ht:uf g t):zlw g s t<0↔Oh g s t:=by
 have S:=kV G hs;have T:=kV G ht;have a:=Yn G S;have b:=Yn G T;have ps:0<s.den:=by have:=S.2.2;omega
 have pt:0<t.den:=by have:=T.2.2;omega
 have e1:=(zlt (a:=red s.bH s.den) (b:=red t.bH t.den)).trans (zlv ps pt);have e2:=(zlu (a:=red s.bH s.den) (b:=red t.bH t.den)).trans (zlv pt ps);have bb:=zJg (red s.bH s.den) (red t.bH t.den);have e3:Ag (Og s) (Og t)↔s.bH*t.den<t.bH*s.den:=VH;have e4:Ag (Og t) (Og s)↔t.bH*s.den<s.bH*t.den:=VH;unfold zlw Oh;rw[<- a,<- b,e3,e4,<- e1,<- e2,aW omY omY];show cond (yE g s) _ _<0↔(yE g s=true/\(yE g t=true->_))\/(¬yE g s=true/\¬yE g t=true/\_);cases yE g s<;>cases yE g t<;>simp
end Go.Proofs
namespace Go.Pm
section perm
variable{c:Nat->Nat->Int}
theorem Ah(x:Nat):∀l:List Nat,(RY c x l).Perm (x::l)
  | []=>.refl _
  | y::r=>by
    unfold RY;split;exact .refl _;exact((Ah x r).cons y).trans (.swap _ _ _)
theorem Cj(n:Nat):(yN n c).Perm (List.range n):=by
 unfold yN;generalize List.range n=l
 induction l with|nil=>exact .refl _|cons x l ih=>exact(Ah x _).trans (ih.cons x)
def leB(c:Nat->Nat->Int)(a b:Nat):Prop:=¬c b a<0
theorem zdv{n:Nat}(H:STO n c){x:Nat}(hx:x<n):∀{l:List Nat},(∀y∈l,y<n)→l.Pairwise (leB c)→(RY c x l).Pairwise (leB c)
  | [],_,_=>by simp[RY]
  | y::r,hl,hp=>by
    have hy:=hl y kX;rw[qdy]at hp;unfold RY;split;rename_i h;have h:=qdo h;rw[qdy];refine⟨λz hz=>?_,qdy.2 hp⟩;have hxy:leB c x y:=λh2=>by
      have:=H.1 x hx;have:=H.2.2 x y x hx hy hx h h2;omega
    rcases kS.1 hz with rfl|hz
    exact hxy;intro h2;exact hp.1 z hz (H.2.2 z x y (hl z (jW _ hz)) hx hy h2 h);rename_i h;have h:=of_decide_eq_false h;rw[qdy];refine⟨λz hz=>?_,zdv H hx (λz hz=>hl z (jW _ hz)) hp.2⟩;rcases kS.1 ((Ah x r).mem_iff.1 hz)with rfl|hz
    exact h;exact hp.1 z hz
theorem Yp{n:Nat}(H:STO n c):(yN n c).Pairwise (leB c):=by
 have key:∀l:List Nat,(∀y∈l,y<n)->(l.foldr (RY c) []).Pairwise (leB c)/\∀y∈l.foldr (RY c) [],y<n:=by
  intro l
  induction l with
  | nil=>intro _;exact⟨List.Pairwise.nil,λy hy=>by simp at hy⟩
  | cons x l ih =>
   intro h;obtain⟨h1,h2⟩:=ih λy hy=>h y (jW _ hy);have hx:=h x kX;refine⟨zdv H hx h2 h1,λy hy=>?_⟩;rcases kS.1 ((Ah x _).mem_iff.1 hy)with rfl|hy
   exact hx;exact h2 y hy
 exact(key _ λy hy=>Jp.1 hy).1
theorem zbs{n:Nat}(H:STO n c){l:List Nat}(hp:l.Perm (List.range n))(hs:l.Pairwise (leB c)):l=yN n c:=by
 refine jqE (le:=leB c) (λa b ha hb h1 h2=>?_) hs (Yp H) (hp.trans (Cj n).symm);have ha:=Jp.1 (hp.mem_iff.1 ha);have hb:=Jp.1 ((Cj n).mem_iff.1 hb);by_cases e:a=b;exact e;rcases H.2.1 a b ha hb e with h|h
 exact absurd h.1 h2;exact absurd h.1 h1
end perm
end Go.Pm
namespace Go.Proofs
open Go Go.Pm
set_option maxRecDepth 100000
theorem zwe{α:Type}[bI α][sU α]{C:List PA→ae (List PA)}{caps:List PV}{ag:Bool}{w:Sl α}{cmp:α→α→Int}{R:α→α→Prop}(hn:w.len≤1000000)
    (hc:∀i j,i<w.len->j<w.len->KA C caps ag (uF w) i j=some (cmp (w.get i) (w.get j))) (hR:∀i j,i<w.len->j<w.len->(cmp (w.get i) (w.get j)<0↔R (w.get i) (w.get j)))
    (irr:∀i,i<w.len->¬R (w.get i) (w.get i)) (tot:∀i j,i<w.len->j<w.len->i≠j->R (w.get i) (w.get j)\/R (w.get j) (w.get i)) (asym:∀i j,i<w.len->j<w.len->R (w.get i) (w.get j)->¬R (w.get j) (w.get i))
    (tr:∀i j k,i<w.len->j<w.len->k<w.len->R (w.get i) (w.get j)->R (w.get j) (w.get k)->R (w.get i) (w.get k)) :
    soP C caps ag w=true/\∃l:List Nat,l.Perm (List.range w.len)/\l.Pairwise (λi j=>R (w.get i) (w.get j))/\∀i (h:i<l.length),soG C caps ag w i=w.get l[i]:=by
  have hv:∀i j,i<w.len->j<w.len->(oG C caps ag (uF w) i j<0↔R (w.get i) (w.get j)):=λi j hi hj=>by
    unfold oG;rw[hc i j hi hj];exact hR i j hi hj
  have S1:zhF w.len (λi j=>(KA C caps ag (uF w) i j).isSome) (oG C caps ag (uF w))=true:=by
    simp only[zhF,zQ,Jp,gq,VE,lQ,H6,jqO,dqQ];intro i hi;refine⟨by have:¬oG C caps ag (uF w) i i<0:=λh=>irr i hi ((hv i i hi hi).1 h);omega,λj hj=>?_⟩;refine⟨⟨by rw[hc i j hi hj];rfl,?_⟩,λk hk=>?_⟩;by_cases Jm:i=j;exact .inl (.inl (by rw[Jm];exact Nat.beq_refl j));rcases tot i j hi hj Jm with h|h
    have:¬oG C caps ag (uF w) j i<0:=fun k=>asym i j hi hj h ((hv j i hj hi).1 k);exact .inl (.inr ⟨(hv i j hi hj).2 h,omY⟩);have:¬oG C caps ag (uF w) i j<0:=fun k=>asym j i hj hi h ((hv i j hi hj).1 k);exact .inr ⟨(hv j i hj hi).2 h,omY⟩;by_cases h1:oG C caps ag (uF w) i j<0;by_cases h2:oG C caps ag (uF w) j k<0;exact .inr ((hv i k hi hk).2 (tr i j k hi hj hk ((hv i j hi hj).1 h1) ((hv j k hj hk).1 h2)));exact .inl (.inr h2);exact .inl (.inl h1)
  have hb:(zx8 w.len (λi j=>(KA C caps ag (uF w) i j).isSome) (oG C caps ag (uF w))).b=true:=by
    show(Nat.ble w.len 4611686018427387&&zhF w.len _ _)=true;rw[S1,qjU omY];rfl
  have T:STO w.len (oG C caps ag (uF w)):=(CP.h _ hb).2.2;have pm:=Cj (c:=oG C caps ag (uF w)) w.len;refine⟨hb,yN w.len (oG C caps ag (uF w)),pm,?_,λi h=>?_⟩;have nd:(yN w.len (oG C caps ag (uF w))).Nodup:=pm.nodup_iff.2 List.nodup_range;refine(List.Pairwise.and (Yp T) nd).imp_of_mem ?_;intro a b ha hb hab;have ha:=Jp.1 (pm.mem_iff.1 ha);have hb:=Jp.1 (pm.mem_iff.1 hb);rcases tot a b ha hb hab.2 with h|h
  exact h;exact absurd ((hv b a hb ha).2 h) hab.1;show(bI.dec (bI.enc (w.get ((yN w.len (oG C caps ag (uF w))).getD i ((yN w.len (oG C caps ag (uF w))).getD 0 0))))).1=_;rw[sU.de,jqx,Au h];rfl
theorem wE(g:Sl au){i:Nat}(h:i<(jI g).length):(jh g).df.get i=(jI g)[i]:=by
 have:=Bh (jI g) IQ i (jI g)[i] (Au h);rw[show(IQ:Sl straight).len+i=i by show 0+i=i;omega]at this;exact this
theorem zlx(g:Sl au):∀(r acc:List straight)(F:List Int->Option (List Int)),(He g r acc F).length<=acc.length+r.length:=by
 intro r
 induction r with
 | nil=>intro acc F;exact kD _
 | cons y r ih =>
  intro acc F;have a:=ih (acc++[y]) (Di (tZ (fB y)) [1] F);have b:=ih acc F;rw[Jo]at a;simp only[Bo,RQ]at a ⊢;simp only[He];cases(yL (F (tZ (fB y))) 0 != 0)<;>cases allB g y<;>simp only[I7,qdQ,dO,dN]<;>omega
theorem JR{g:Sl au}(G:bU g):(jI g).length<=2304:=by
 unfold jI;cases fP g with
 | true=>exact ui _
 | false =>
  have a:=zlx g (cst g) [] λ_=>none;have b:=JO G;rw[dN];simp only[RQ,O3]at a;omega
theorem JS{g:Sl au}(G:bU g){s:straight}(h:s∈jI g):uf g s:=by
 cases hf:fP g with
 | true=>unfold jI at h;rw[hf]at h;cases h
 | false =>
  obtain⟨a,b⟩:=(Uy hf).1 s h;exact⟨a,(EP G (qA G a)).1 b⟩
abbrev zBk(C:set->ae (Sl straight)):Prop:=∀g,bU g->∃D:Sl straight,C (jh g)=.ok D/\D.len=(jI g).length/\∀i,i<D.len->yI (D.get i)
theorem zWp{E:zsP}(zWq:zBj E.Zk):zBk (zsQ E):=λg G=>by
  have hl:=JR G;have hG:=G.2.2;have len:=EO g;have cr:∀i,i<(jh g).df.len->uf g ((jh g).df.get i):=λi hi=>by
    rw[wE g omY];exact JS G (RN _)
  have ne:∀i j,i<(jh g).df.len->j<(jh g).df.len->i≠j->fB ((jh g).df.get i)≠fB ((jh g).df.get j):=λi j hi hj Jm e=>by
    rw[wE g omY,wE g omY]at e;cases hf:fP g with
    | true =>
      have:jI g=[]:=by unfold jI;rw[hf];rfl
      rw[this]at len;simp at len;omega
    | false =>
      have P:=(Uy hf).2.2;rw[qdi]at P;rcases qdP i j with h|h
      exact P i j omY omY h e;exact P j i omY omY omY e.symm
  obtain⟨hp,l,h1,_,h3⟩:=zwe (C:=ae.un E.Zk) (caps:=bI.enc (⟨jh g⟩:Pt set)) (ag:=true) (w:=(jh g).df) (cmp:=zlw g) (R:=Oh g) omY
    (λi j hi hj=>by
      show(E.Zk ((jh g).df.get i,(jh g).df.get j,(⟨jh g⟩:Pt set))).T _=_;rw[zWq _ _ _ (kV G (cr i hi)) (kV G (cr j hj)) (by show g.len<=1000;omega)];rfl)
    (λi j hi hj=>zta G (cr i hi) (cr j hj)) (λi hi=>zs7) (λi j hi hj Jm=>zs8 G (cr i hi) (cr j hj) (ne i j hi hj Jm)) (λi j _ _ h=>zlr h)
    (λi j k hi hj hk a b=>zfT G (cr i hi) (cr j hj) (cr k hk) a b)
  have ll:l.length=(jh g).df.len:=by rw[h1.length_eq,List.length_range]
  refine⟨⟨(jh g).df.len,soG (ae.un E.Zk) (bI.enc (⟨jh g⟩:Pt set)) true (jh g).df⟩,ae.ext λk=>?_,len,λi hi=>?_⟩;rw[e249,hp,aY,show room (jh g).df.len 24=true from dC omY];rfl;have hi:i<(jh g).df.len:=hi;show yI (soG _ _ _ _ i);rw[h3 i omY];exact kV G (cr _ (Jp.1 (h1.mem_iff.1 (RN _))))
def UA(g:Sl au):Int:=(CW g false).2
abbrev zBl(C:Sl au->ae (Sl Line×Int)):Prop:=∀g:Sl au,g.len<=1000->∃L,C g=.ok (L,UA g)/\(UA g=0->0<L.len)
theorem zWr{E:zfO}(N:Big E.N)(za3:zs6 E.c117)(zA2:zBk E.znd)(zbf:zs4 E.c198):zBl (zk6 E):=λg hl=>by
 have e:∀(A:Type)(k:Sl Line×Int->Option A),(zk6 E g).T k=cond ((CW g false).2 != 0) (k (⟨0,λ_=>default⟩,(CW g false).2)) ((E.znd (CW g false).1).T λr2=>G9 E E.N r2 (r2.len:Int) 0 ⟨0,λ_=>⟨⟨0,0⟩,⟨0,0⟩⟩⟩ k):=λA k=>by
  rw[e240,za3 g (.inl ⟨(),()⟩) hl,aY];rfl
 unfold UA;by_cases h0:(CW g false).2=0;have:xN g=true/\eH g=true/\fP g=false:=by
  unfold CW at h0;revert h0;cases xN g<;>cases eH g<;>cases fP g<;>simp
 obtain⟨hg,hs,hf⟩:=this;have G:=kE.1 hg;have e1:(CW g false).1=jh g:=by unfold CW;rw[hg,hs,hf];rfl
 obtain⟨D,d1,d2,d3⟩:=zA2 g G;have dl:D.len<=2304:=by rw[d2];exact JR G
 have key:∃L:Sl Line,L.len=D.len/\∀(A:Type)(k:Sl Line×Int->Option A),G9 E E.N D (D.len:Int) 0 ⟨0,λ_=>⟨⟨0,0⟩,⟨0,0⟩⟩⟩ k=k (L,0):=by
  let acc:Nat->Sl Line:=λn=>Nat.rec ⟨0,λ_=>⟨⟨0,0⟩,⟨0,0⟩⟩⟩ (λi v=>qB v (fB (D.get i))) n;have al:∀n,(acc n).len=n:=λn=>by
   induction n with|zero=>rfl|succ n ih=>show(acc n).len+1=n+1;rw[ih]
  refine⟨acc D.len,al _,λA k=>?_⟩;refine kP (X:=λn i=>G9 E n D (D.len:Int) (i:Int) (acc i) k) (m:=D.len) (λn i hi=>?_) (λn=>?_) _ (by have:=N;omega);rw[zk7,dC omY,dO,bu omY,gm,zbf _ (d3 i hi),aY,bD omY,show room ((acc i).len+1) 32=true from dC (by rw[al];omega)];rfl;rw[zk7,dR omY];rfl
 obtain⟨L,l1,l2⟩:=key;refine⟨L,ae.ext λk=>?_,λ_=>?_⟩;rw[e,h0,e1,d1,aY,l2];rfl;rw [l1,d2];unfold eH at hs;rw[hf,dN,lQ]at hs;omega;exact⟨_,ae.ext λk=>by rw[e,show((CW g false).2 != 0)=true by simpa using h0];rfl,λh=>absurd h h0⟩
abbrev zBm(C:Sl au->ae (Line×Int)):Prop:=∀g:Sl au,g.len<=1000->∃l,C g=.ok (l,UA g)
theorem zWs{E:zsn}(zAT:zBl E.zuD):zBm (zso E):=λg hl=>by
 obtain⟨L,h1,h2⟩:=zAT g hl;by_cases h0:UA g=0;exact⟨_,ae.ext λk=>by rw[e211,h1,aY,h0];show aV (decide ((0:Int)<=0/\0<(L.len:Int))) _=_;rw[bu ⟨qjl 0,by have:=h2 h0;omega⟩];rfl⟩;exact⟨_,ae.ext λk=>by rw[e211,h1,aY];show cond (UA g != 0) _ _=_;rw[show(UA g != 0)=true by simpa using h0];rfl⟩
theorem zBn{g:Sl au}(G:bU g):(UA g != 5)=eH g:=by
 unfold UA CW;rw[kE.2 G];cases eH g<;>cases fP g<;>rfl
theorem ztb{g:Sl au}(h:0<g.len):fP g=fA (λi=>(g.get (i+1)).Z==(g.get 0).Z) (g.len-1):=by
 unfold fP;rw[VG,dm,dm];refine⟨λa i hi=>a (i+1) omY,λa i hi=>?_⟩;cases i with|zero=>simp|succ i=>exact a i omY
abbrev zly(C:Sl au->ae Bool):Prop:=∀g:Sl au,0<g.len->g.len<=1000->C g=.ok (fP g)
theorem zWt{E:zfB}(N:Big E.N):zly (zra E):=λg h0 h1=>ae.ext λk=>by
 rw[zUm,aY,ztb h0];have:=loopA (L:=λn i=>Cb E n g (i+1) k) (p:=λi=>(g.get (i+1)).Z==(g.get 0).Z) (m:=g.len-1) (fin:=k true) (stop:=k false) omY (λn i hi=>by
  show Cb E (n+1) g ((i:Int)+1) k=cond _ (Cb E n g (aJ ((i:Int)+1)+1) k) _
  rw[zkn,dC omY,dO,bu omY,bu omY,show((i:Int)+1).toNat=i+1 by omega,show(i:Int)+1=((i+1:Nat):Int)by omega,bD omY,
   show aJ ((i+1:Nat):Int)=((i+1:Nat):Int)from aW omY omY]
  rw[show((i+1:Nat):Int)+1=((i+1+1:Nat):Int)by omega];cases h:(g.get (i+1)).Z==(g.get 0).Z<;>simp[bne,h]) (λn=>by
  show Cb E (n+1) g (((g.len-1:Nat):Int)+1) k=_;rw[zkn,dR omY];rfl) E.N (by have:=N;omega)
 rw[show(1:Int)=0+1 from rfl];refine this.trans ?_;cases fA (λi=>(g.get (i+1)).Z==(g.get 0).Z) (g.len-1)<;>rfl
theorem zbt(g:Sl au):eG g 1=⟨(g.get 0).Low,(g.get 0).High⟩:=by
 show(⟨_,_⟩:bY)=_;simp only[eG,gt_iff_lt,RX,qd8]
abbrev zBo(C:Sl au->ae (Int×Int×Bool)):Prop:=∀g:Sl au,0<g.len->g.len<=1000->C g=.ok ((eG g g.len).Low,(eG g g.len).High,decide ((eG g g.len).Low<=(eG g g.len).High))
theorem zWu{E:zfJ}(N:Big E.N):zBo (zr4 E):=λg h0 h1=>ae.ext λk=>by
 rw[zU8,bu omY,bu omY,aY];have:=kP (X:=λn i=>Um E n g (eG g (i+1)).Low (eG g (i+1)).High ((i+1:Nat):Int) k) (m:=g.len-1) (fin:=k ((eG g g.len).Low,(eG g g.len).High,decide ((eG g g.len).Low<=(eG g g.len).High))) (λn i hi=>by
  rw[zkC,dC omY,dO,bu omY,bu omY,bD omY,gm];rfl) (λn=>by
  rw[zkC,show g.len-1+1=g.len by omega,dR omY];rfl) E.N (by have:=N;omega)
 rw[show(0+1:Nat)=1 from rfl,zbt]at this;exact this
def plN(l:Line)(z:Int):Int:=l.Start.Num*l.dK.bQ+l.dK.Num*z*l.Start.bQ
def OZ(l:Line):Int:=l.Start.bQ*l.dK.bQ
theorem zdx{s:straight}(S:yI s):(-2000000<=(fB s).dK.Num/\(fB s).dK.Num<=2000000)/\(-200000000000<=(fB s).Start.Num/\(fB s).Start.Num<=200000000000)/\(0<(fB s).dK.bQ/\(fB s).dK.bQ<=100000)/\0<(fB s).Start.bQ/\(fB s).Start.bQ<=100000:=by
 have h1:=S.1;have h2:=S.2.1;have h3:=S.2.2;have p:0<s.den:=by omega
 have a1:=Af (num:=s.bH) p;have a2:=Ha (num:=s.bH) p;have a3:=jH (num:=s.bH) p;have b1:=Af (num:=s.start) p;have b2:=Ha (num:=s.start) p;have b3:=jH (num:=s.start) p;show(_<=(red s.bH s.den).Num/\(red s.bH s.den).Num<=_)/\(_<=(red s.start s.den).Num/\(red s.start s.den).Num<=_)/\(_<(red s.bH s.den).bQ/\(red s.bH s.den).bQ<=_)/\_<(red s.start s.den).bQ/\(red s.start s.den).bQ<=_;omega
theorem Oi{s:straight}(S:yI s)(z:Int):gX s z*OZ (fB s)=plN (fB s) z*s.den:=by
  have p:0<s.den:=by have:=S.2.2;omega
  have a1:=pF (num:=s.bH) p;have a2:=nJ (num:=s.bH) p;have b1:=pF (num:=s.start) p;have b2:=nJ (num:=s.start) p;unfold gX OZ plN;show(s.start+s.bH*z)*((red s.start s.den).bQ*(red s.bH s.den).bQ)=((red s.start s.den).Num*(red s.bH s.den).bQ+(red s.bH s.den).Num*z*(red s.start s.den).bQ)*s.den;generalize (Int.gcd s.bH s.den:Int)=G at a1 a2;generalize (Int.gcd s.start s.den:Int)=K at b1 b2;generalize (red s.bH s.den).Num=x at a1 ⊢;generalize (red s.bH s.den).bQ=q at a2 ⊢;generalize (red s.start s.den).Num=u at b1 ⊢;generalize (red s.start s.den).bQ=v at b2 ⊢;rw[qjd,qjd];have e1:s.start*(v*q)=u*q*s.den:=by
    calc s.start * (v * q) = K * u * (v * q) := by rw [b1]
      _=u*q*(K*v):=by ac_rfl
      _=u*q*s.den:=by rw[b2]
  have e2:s.bH*z*(v*q)=x*z*v*s.den:=by
    calc s.bH * z * (v * q) = G * x * z * (v * q) := by rw [a1]
      _=x*z*v*(G*q):=by ac_rfl
      _=x*z*v*s.den:=by rw[a2]
  rw[e1,e2]
theorem UB{s:straight}(S:yI s):0<OZ (fB s):=by
 have:=zdx S;exact qj4 this.2.2.2.1 this.2.2.1.1
theorem Yq{s:straight}(S:yI s)(z n:Int):(n*OZ (fB s)<=plN (fB s) z↔n*s.den<=gX s z)/\(plN (fB s) z<=n*OZ (fB s)↔gX s z<=n*s.den):=by
 have p:0<s.den:=by have:=S.2.2;omega
 have d:=UB S;have c:=Oi S z;generalize OZ (fB s)=D at c d ⊢;generalize plN (fB s) z=M at c ⊢;generalize gX s z=X at c ⊢;have e:n*D*s.den=n*s.den*D:=by ac_rfl
 constructor;constructor;intro h;have:=J9 h (uX p);refine dqV (?_:n*s.den*D<=X*D) d;omega;intro h;have:=J9 h (uX d);refine dqV (?_:n*D*s.den<=M*s.den) p;omega;constructor;intro h;have:=J9 h (uX p);refine dqV (?_:X*D<=n*s.den*D) d;omega;intro h;have:=J9 h (uX d);refine dqV (?_:M*s.den<=n*D*s.den) p;omega
abbrev ztc(C:Line×Int->ae (Int×Int)):Prop:=∀s z,yI s->-200000<=z/\z<=200000->C (fB s,z)=.ok (plN (fB s) z,OZ (fB s))
theorem zWv{E:zrz}:ztc (zrA E):=λs z S hz=>ae.ext λk=>by
 obtain⟨h1,h2,h3,h4⟩:=zdx S;have m1:=qX h2.1 h2.2 (uX h3.1) h3.2;have m2 : -400000000000<=(fB s).dK.Num*z/\(fB s).dK.Num*z<=400000000000:=by
  rcases qdV z 0 with h|h
  have:=qX (y := -z) (Y:=200000) h1.1 h1.2 omY omY;rw[qjk]at this;omega;have:=qX (y:=z) (Y:=200000) h1.1 h1.2 h omY;omega
 have m3:=qX m2.1 m2.2 (uX h4.1) h4.2;have m4:=qX (x:=(fB s).Start.bQ) (X:=100000) omY h4.2 (uX h3.1) h3.2;rw[e166,aY,aW (x:=(fB s).Start.Num*(fB s).dK.bQ) omY omY,aW (x:=(fB s).dK.Num*z) omY omY,aW (x:=(fB s).dK.Num*z*(fB s).Start.bQ) omY omY,aW omY omY,aW omY omY];rfl
abbrev zBp(C:Line×au->ae Bool):Prop:=∀s g,yI s->ik g->C (fB s,g)=.ok (iQ s g)
theorem zWw{E:zqG}(za6:ztc E.Vf):zBp (zqH E):=λs g S G=>ae.ext λk=>by
 obtain⟨h1,h2,h3,h4⟩:=zdx S;have m4:=qX (x:=(fB s).Start.bQ) (X:=100000) omY h4.2 (uX h3.1) h3.2;have d:=UB S;have m5:OZ (fB s)<=10000000000:=m4.2;have l1:=qX (qN G).1 (qN G).2 (uX d) m5;have l2:=qX (sF G).1 (sF G).2 (uX d) m5;rw[e116,za6 s g.Z S (by have:=G.1;omega),aY,aY];show cond (decide (aJ (g.Low*OZ (fB s))<=plN (fB s) g.Z)) (k (decide (plN (fB s) g.Z<=aJ (g.High*OZ (fB s))))) (k false)=_;rw[aW (x:=g.Low*OZ (fB s)) omY omY,aW (x:=g.High*OZ (fB s)) omY omY,kc k];congr 1;unfold iQ;have a:=(Yq S g.Z g.Low).1;have b:=(Yq S g.Z g.High).2;rw[VG,lQ,<- a,<- b];by_cases h:g.Low*OZ (fB s)<=plN (fB s) g.Z<;>simp[h]
abbrev Q55(C:Int×Int×Int×Int->ae Line):Prop:=∀z p y q,(0<=z/\z<=100000)->(0<=y/\y<=100000)->(-1000000<=p/\p<=1000000)->(-1000000<=q/\q<=1000000)->z≠y->C (z,p,y,q)=.ok (fB (FP z p y q))
theorem s55{E:E55}(h71:Oe E.c71):Q55 (F55 E):=λz p y q hz hy hp hq hn=>ae.ext λk=>by
 have b1:=qX hp.1 hp.2 hy.1 hy.2;have b2:=qX hq.1 hq.2 hz.1 hz.2;rw[e55,aY];unfold FP;by_cases h:z>y
 rw[dC (show y<z from h),dO,eY h,zvZ,aW (x:=q*z) omY omY,aW (x:=p*y) omY omY,aW (x:=p-q) omY omY,aW (x:=z-y) omY omY,aW (x:=q*z-p*y) omY omY,
  h71 _ _ omY omY omY omY,aY,h71 _ _ omY omY omY omY,aY];rfl
 rw[dR (show ¬y<z from h),dN,fH h,zvZ,aW (x:=p*y) omY omY,aW (x:=q*z) omY omY,aW (x:=q-p) omY omY,aW (x:=y-z) omY omY,aW (x:=p*y-q*z) omY omY,
  h71 _ _ omY omY omY omY,aY,h71 _ _ omY omY omY omY,aY];rfl
abbrev zBq(C:au×Int->ae Int):Prop:=∀g e,C (g,e)=.ok (cond (e==0) g.Low g.High)
theorem zWy{E:zsM}:zBq (zsN E):=λg e=>ae.ext λk=>by rw[e247,aY,kc k]
theorem EQ{α:Type}[bI α][sU α](a b:α):gK [a,b] 0=a:=by
 show(bI.dec (I8 (shp 8) (bI.enc a) (bI.enc a))).1=a;rw[mV (uq 8) (bI.sm _ _),sU.de]
theorem ER{α:Type}[bI α][sU α](a b:α):gK [a,b] 1=b:=by
 show(bI.dec (I8 (shp 8) (bI.enc a) (bI.enc b))).1=b;rw[mV (uq 8) (bI.sm _ _),sU.de]
theorem Yr{l:Sl aT}{p:Int}(h:rY l p=true){i:Nat}(hi:i<l.len):(0<=(l.get i).dV.Low/\(l.get i).dV.Low<=(l.get i).dV.High/\(l.get i).dV.High<=aJ (p.tdiv 2)) /\
  (i=0\/((l.get (i-1)).Time<(l.get i).Time/\(l.get (i-1)).dV.Low<=(l.get i).dV.Low)):=by
 simp only[rY,gq,dm]at h;have:=h.1 i hi;simp only[stB,inB,gq,VE,lQ]at this;exact⟨⟨this.1.1.2.1,this.1.1.2.2,this.1.2⟩,this.2.imp id λx=>⟨x.1.1,x.1.2⟩⟩
theorem UC{l:Sl aT}{p:Int}(h:rY l p=true):∀{j:Nat},j<l.len→∀{i:Nat},i<j→(l.get i).Time<(l.get j).Time∧(l.get i).dV.Low≤(l.get j).dV.Low
  | 0,_,_,hi=>absurd hi omY
  | j+1,hj,i,hi=>by
    have:=(Yr h hj).2;rw[qjz]at this;rcases this with h0|⟨a,b⟩
    omega;by_cases e:i=j;rw[e];exact⟨a,b⟩;obtain⟨c,d⟩:=UC h (j:=j) omY (i:=i) omY;omega
theorem Yt(l:Sl aT)(t:Int):∀n,vP l t n=0∨∃i,i<n∧(l.get i).Time≤t∧vP l t n=(l.get i).dV.Low
  | 0=>.inl rfl
  | n+1=>by
    simp only[vP];by_cases h:(l.get n).Time<=t;rw[dC h];exact .inr ⟨n,omY,h,rfl⟩;rw [dR h];rcases Yt l t n with e|⟨i,a,b,c⟩
    exact .inl e;exact .inr ⟨i,omY,b,c⟩
theorem Yu(l:Sl aT)(t z:Int):∀d,d≤l.len→zC l t z d=z∨∃j,j<l.len∧t≤(l.get j).Time∧zC l t z d=(l.get j).dV.High
  | 0,_=>.inl rfl
  | d+1,hd=>by
    simp only[zC];by_cases h:(l.get (l.len-1-d)).Time>=t;rw[dC h];exact .inr ⟨l.len-1-d,omY,h,rfl⟩;rw [dR h];exact Yu l t z d omY
theorem ztd{p:ai}(hp:Vw p)(h:rY p.aT p.aO=true){t:Int}(ht:0<=t/\t<=1000000):0<=(uJ p t).1/\(uJ p t).1<=(uJ p t).2/\(uJ p t).2<=p.aO:=by
 obtain⟨_,_,_,_,hpi,_,_,_,_,hj,_⟩:=hp;have e1:aJ (t-p.dP)=t-p.dP:=aW omY omY;have e2:aJ (t+p.dP)=t+p.dP:=aW omY omY;have e4:0<=p.aO.tdiv 2/\p.aO.tdiv 2<=p.aO:=by
  rw[qdG omY];omega
 have e3:aJ (p.aO.tdiv 2)=p.aO.tdiv 2:=aW omY omY;have a:=Yt p.aT (t-p.dP) p.aT.len;have b:=Yu p.aT (t+p.dP) (p.aO.tdiv 2) p.aT.len (kD _);unfold uJ;rw[e1,e2,e3];show 0<=vP _ _ _/\vP _ _ _<=zC _ _ _ _/\zC _ _ _ _<=_;rcases a with a|⟨i,a1,a2,a3⟩<;>rcases b with b|⟨j,b1,b2,b3⟩
 rw[a,b];omega;rw[a,b3];have:=(Yr h b1).1;rw[e3]at this;omega;rw[a3,b];have:=(Yr h a1).1;rw[e3]at this;omega;rw [a3,b3];have x:=(Yr h a1).1;have y:=(Yr h b1).1;rw[e3]at x y;by_cases e:i=j;subst e;omega;have Jm:i<j:=by
  rcases qdP i j with h1|h1
  exact h1;have:=(UC h a1 (i:=j) omY).1;omega
 have:=(UC h b1 Jm).2;omega
theorem UD{p:ai}(hp:Vw p){a b:Int}(h1:a<=b)(h2:p.First-p.aO-p.dL<=a)(h3:b<=p.First+(p.bG+1)*p.aO+p.dL):ik (gate p a b):=by
 obtain⟨_,_,hz,hf,hpi,FT,hsp,ho,_,_,_,hl,hr⟩:=hp;obtain⟨e1,e2,e3⟩:=zIi hf hpi FT hsp ho;obtain⟨q1,q2⟩:=xy (a:=p.bG+1) (b:=p.aO) omY omY;refine⟨hz,?_⟩;show _<=aJ (a+p.bf.Low)/\aJ (a+p.bf.Low)<=aJ (b+p.bf.High)/\aJ (b+p.bf.High)<=_;rw[aW (x:=a+p.bf.Low) omY omY,aW (x:=b+p.bf.High) omY omY];omega
theorem zlz{p:ai}{a b c d:Int}(h1:ik (gate p a b))(h2:ik (gate p c d))(h:(gate p a b).Low<=(gate p c d).High):ik ⟨p.Z,(gate p a b).Low,(gate p c d).High⟩ :=
 ⟨h1.1,h1.2.1,h,h2.2.2.2⟩
theorem zJi{b:Bool}{x y:Sl au}(h1:∀i,i<x.len->ik (x.get i))(h2:∀i,i<y.len->ik (y.get i)){i:Nat}(hi:i<(cond b x y).len):ik ((cond b x y).get i):=by
 cases b;exact h2 i hi;exact h1 i hi
theorem zBr{p:ai}(hp:Vw p)(hb:plB p=true){h:bg}(hh:hpB p h=true){i:Nat}(hi:i<(gaP p h).len):ik ((gaP p h).get i):=by
 simp only[hpB,inB,gq,lQ]at hh;obtain⟨⟨⟨⟨⟨hc,hm⟩,_⟩,_⟩,_⟩,hk⟩:=hh;obtain⟨hki,_,hz,hf,hpi,FT,hsp,ho,_,hj,_,hl,hr⟩:=hp;have ZE:Vw p:=zIj hb;have q0:=xy (a:=h.Channel) (b:=p.aO) omY omY;have q1:=xy (a:=h.Channel+1) (b:=p.aO) omY omY;have q2:=xy (a:=h.Channel+h.kG-1) (b:=p.aO) omY omY;have q3:=xy (a:=p.bG+1) (b:=p.aO) omY omY;have m0:h.Channel*p.aO+p.aO<=(p.bG+1)*p.aO:=by
  have:=J9 (show h.Channel+1<=p.bG+1 by omega) (show 0<=p.aO by omega);rw[qjd,jqq]at this;omega
 have m1:(h.Channel+1)*p.aO<=(p.bG+1)*p.aO:=J9 omY omY;revert hi;unfold gaP;cases hk2:p.Kind != 2 with
 | true =>
  simp only[dO]
  rw[aW (x:=h.Channel+h.kG) omY omY,aW (x:=h.Channel+h.kG-1) omY omY,aW (x:=(h.Channel+h.kG-1)*p.aO) omY omY,aW (x:=p.First+(h.Channel+h.kG-1)*p.aO) omY omY,aW (x:=p.First+(h.Channel+h.kG-1)*p.aO-p.dL) omY omY,
   aW (x:=h.Channel+1) omY omY,aW (x:=(h.Channel+1)*p.aO) omY omY,aW (x:=p.First+(h.Channel+1)*p.aO) omY omY,aW (x:=p.First+(h.Channel+1)*p.aO+p.dL) omY omY]
  by_cases c:p.First+(h.Channel+h.kG-1)*p.aO-p.dL>p.First+(h.Channel+1)*p.aO+p.dL;rw[dC c];intro hi;exact absurd hi (RP _);rw [dR c];intro hi;exact UD ZE omY omY omY
 | false =>
  have hk3:p.Kind=2:=by simpa using hk2
  have hd:0<=h.aT/\h.aT<=1000000:=by
   simp only[knB,hk3,qjp,dO,inB,gq,lQ]at hk;exact hk.2
  have hs:rY p.aT p.aO=true:=by
   simp only[plB,gq,hk3,qjp,dO]at hb;exact hb.1.1.2
  obtain⟨r1,r2,r3⟩:=ztd ZE hs hd;simp only[dN];generalize uJ p h.aT=R at r1 r2 r3 ⊢;rw[aW (x:=h.Channel*p.aO) omY omY,aW (x:=p.First+h.Channel*p.aO) omY omY,aW (x:=p.First+h.Channel*p.aO-R.2) omY omY,aW (x:=p.First+h.Channel*p.aO-R.1) omY omY,aW (x:=p.First+h.Channel*p.aO+R.1) omY omY,aW (x:=p.First+h.Channel*p.aO+R.2) omY omY];have g1:ik (gate p (p.First+h.Channel*p.aO-R.2) (p.First+h.Channel*p.aO-R.1)):=UD ZE omY omY omY;have g2:ik (gate p (p.First+h.Channel*p.aO+R.1) (p.First+h.Channel*p.aO+R.2)):=UD ZE omY omY omY;have g3:(gate p (p.First+h.Channel*p.aO-R.2) (p.First+h.Channel*p.aO-R.1)).Low<=(gate p (p.First+h.Channel*p.aO+R.1) (p.First+h.Channel*p.aO+R.2)).High:=by
   show aJ _<=aJ _;rw[aW omY omY,aW omY omY];omega
  intro hi;refine zJi (λ_ _=>zlz g1 g2 g3) (λi hi=>?_) hi;have hi:i<2:=hi;rcases(show i=0\/i=1 by omega)with e|e<;>subst e
  show ik (gK _ 0);rw[EQ];exact g1;show ik (gK _ 1);rw[ER];exact g2
theorem zBs{s:ak}(hs:fD s=true){h:bg}(hh:lM s h=true){i:Nat}(hi:i<(vS s h).len):ik ((vS s h).get i):=by
 have hp:=NC hh;have h1:h.ai.toNat<s.aj.len:=by omega
 simp only[lM,gq,lQ]at hh;exact zBr (xA hs h1) (Nz hs h1) hh.2 hi
abbrev iT:=List (Int×Int)
section
variable(ag:iT->Bool)(us:iT->Int->Bool)(sd:Nat->iT)
def gr:Nat→iT→Nat→List iT
  | 0,_,_=>[]
  | f+1,c,i=>(sd i).flatMap λp=>cond (us c p.1 || !ag (c++[p])) [] ((c++[p])::gr f (c++[p]) (p.1.toNat+1))
def O0:Nat→List iT→iT→Nat→List iT
  | 0,out,_,_=>out
  | f+1,out,c,i=>(sd i).foldl (λout p=>cond (us c p.1||(decide (2000<out.length) || !ag (c++[p]))) out (O0 f (out++[c++[p]]) (c++[p]) (p.1.toNat+1))) out
inductive Ch:iT→Nat→Prop
  | nil:Ch [] 0
  | snoc {c:iT} {i:Nat} {p:Int×Int}:Ch c i->p∈sd i->us c p.1=false->ag (c++[p])=true->Ch (c++[p]) (p.1.toNat+1)
end
section
variable{ag:iT->Bool}{us:iT->Int->Bool}{sd:Nat->iT}
theorem UE:∀{f c i x},x∈gr ag us sd f c i→∃p e,p∈sd i∧x=c++p::e
  | f+1,c,i,x,h=>by
    simp only[gr,lU]at h;obtain⟨p,hp,h⟩:=h;cases hc:us c p.1 || !ag (c++[p])with
    | true=>rw[hc]at h;cases h
    | false =>
      rw[hc]at h;rcases kS.1 h with h|h
      exact⟨p,[],hp,h⟩;obtain⟨q,e,_,h⟩:=UE h;exact⟨p,q::e,hp,by rw[h];simp⟩
theorem zwf:∀{f c i x},Ch ag us sd c i→x∈gr ag us sd f c i→∃j,Ch ag us sd x j
  | f+1,c,i,x,hc,h=>by
    simp only[gr,lU]at h;obtain⟨p,hp,h⟩:=h;cases hu:us c p.1 || !ag (c++[p])with
    | true=>rw[hu]at h;cases h
    | false =>
      rw[hu]at h;simp only[qd6,Bool.not_eq_false']at hu;have hn:=Ch.snoc hc hp hu.1 hu.2;rcases kS.1 h with h|h
      exact⟨_,h▸hn⟩;exact zwf hn h
theorem zJj{f:Nat}:∀{c j},Ch ag us sd c j->c.length<=f->(c=[]\/c∈gr ag us sd f [] 0)/\∀x∈gr ag us sd (f-c.length) c j,x∈gr ag us sd f [] 0:=by
 intro c j h
 induction h with
 | nil=>intro _;exact⟨.inl rfl,λx hx=>hx⟩
 | @snoc c i p hc hp hu ha ih =>
  intro hl;rw[Jo]at hl ⊢;simp only[Bo,RQ]at hl ⊢;obtain⟨_,ih⟩:=ih omY;have e:gr ag us sd (f-c.length) c i=(sd i).flatMap λp=>cond (us c p.1 || !ag (c++[p])) [] ((c++[p])::gr ag us sd (f-(c.length+1)) (c++[p]) (p.1.toNat+1)):=by
   rw[show f-c.length=(f-(c.length+1))+1 by omega,gr]
  have ZF:∀y∈(c++[p])::gr ag us sd (f-(c.length+1)) (c++[p]) (p.1.toNat+1),y∈gr ag us sd (f-c.length) c i:=λy hy=>by
   rw[e,lU];exact⟨p,hp,by rw[hu,ha];exact hy⟩
  exact⟨.inr (ih _ (ZF _ kX)),λx hx=>ih _ (ZF _ (jW _ hx))⟩
theorem ES(hs:∀i,(sd i).Nodup):∀f c i,(gr ag us sd f c i).Nodup
  | 0,_,_=>List.Pairwise.nil
  | f+1,c,i=>by
    rw[gr];unfold List.Nodup;rw[List.pairwise_flatMap];have pre:∀p,∀x∈cond (us c p.1 || !ag (c++[p])) [] ((c++[p])::gr ag us sd f (c++[p]) (p.1.toNat+1)),∃e,x=c++p::e:=λp x hx=>by
      cases hu:us c p.1 || !ag (c++[p])with
      | true=>rw[hu]at hx;cases hx
      | false =>
        rw[hu]at hx;rcases kS.1 hx with h|h
        exact⟨[],h⟩;obtain⟨q,e,_,h⟩:=UE h;exact⟨q::e,by rw[h];simp⟩
    refine⟨λp _=>?_,(hs i).imp_of_mem fun {p q} _ _ hpq x hx y hy e=>?_⟩
    · cases us c p.1 || !ag (c++[p])with
      | true=>exact List.Pairwise.nil
      | false =>
        refine List.Pairwise.cons (λy hy e=>?_) (ES hs f _ _);obtain⟨q,r,_,h⟩:=UE hy;rw[<- e]at h;have:=jX List.length h;simp at this
    obtain⟨a,ha⟩:=pre p x hx;obtain⟨b,hb⟩:=pre q y hy;rw[ha,hb]at e;have:=List.append_cancel_left e;rw[FV]at this;exact hpq this.1
theorem zlA:∀{f out c i},(out.length≤(O0 ag us sd f out c i).length)∧((O0 ag us sd f out c i).length≤2000→O0 ag us sd f out c i=out++gr ag us sd f c i)
  | 0,out,c,i=>⟨kD _,λ_=>by simp[O0,gr]⟩
  | f+1,out,c,i=>by
    simp only[O0,gr];generalize sd i=l
    induction l generalizing out with
    | nil=>exact⟨kD _,λ_=>by simp⟩
    | cons p l ih =>
      rw[VF,oC];cases hu:us c p.1 || !ag (c++[p])with
      | true =>
        have:(us c p.1||(decide (2000<out.length) || !ag (c++[p])))=true:=by
          revert hu;cases us c p.1<;>cases ag (c++[p])<;>simp
        rw[this];exact ih out
      | false =>
        have:(us c p.1||(decide (2000<out.length) || !ag (c++[p])))=decide (2000<out.length):=by
          revert hu;cases us c p.1<;>cases ag (c++[p])<;>simp
        rw[this,dN];by_cases h:2000<out.length;rw [dC h];obtain⟨a,_⟩:=ih out;exact⟨a,λh2=>by have:_<=2000:=h2;rw[dO]at this;omega⟩;rw [dR h,dN];obtain⟨a,b⟩:=zlA (f:=f) (out:=out++[c++[p]]) (c:=c++[p]) (i:=p.1.toNat+1);obtain⟨a2,b2⟩:=ih (O0 ag us sd f (out++[c++[p]]) (c++[p]) (p.1.toNat+1));rw[Jo]at a;refine⟨omY,λh2=>?_⟩;rw[b2 h2,b omY];simp
theorem zdy:∀{f out c i x},Ch ag us sd c i→x∈O0 ag us sd f out c i→x∈out∨∃j,Ch ag us sd x j
  | 0,out,c,i,x,_,h=>.inl h
  | f+1,out,c,i,x,hc,h=>by
    simp only[O0]at h;have key:∀(l:iT)(out:List iT),(∀p∈l,p∈sd i)->x∈l.foldl (λout p=>cond (us c p.1||(decide (2000<out.length) || !ag (c++[p]))) out (O0 ag us sd f (out++[c++[p]]) (c++[p]) (p.1.toNat+1))) out->x∈out\/∃j,Ch ag us sd x j:=by
      intro l
      induction l with
      | nil=>intro out _ h;exact .inl h
      | cons p l ih =>
        intro out hp h;rw[VF]at h;have ih:=ih _ (λq hq=>hp q (jW _ hq)) h;rcases ih with ih|ih
        · cases hu:us c p.1||(decide (2000<out.length) || !ag (c++[p]))with
          | true=>rw[hu]at ih;exact .inl ih
          | false =>
            rw[hu]at ih;simp only[qd6,Bool.not_eq_false']at hu;have hn:=Ch.snoc hc (hp p kX) hu.1 hu.2.2;rcases zdy hn ih with h|h
            rcases dX.1 h with h|h
            exact .inl h;rw[lN.1 h];exact .inr ⟨_,hn⟩;exact .inr h
        exact .inr ih
    exact key _ _ (λ_ h=>h) h
end
theorem zBt{α:Type}{F:List α}(len:α→Nat)(sub:α→α→Prop)(refl:∀a,sub a a)(tr:∀a b c,sub a b→sub b c→sub a c)(B:Nat)(hB:∀a∈F,len a≤B) :
  ∀a∈F,∃m∈F,sub a m/\∀x∈F,¬(len m<len x/\sub m x):=by
 have key:∀d a,a∈F->B-len a<=d->∃m∈F,sub a m/\∀x∈F,¬(len m<len x/\sub m x):=by
  intro d
  induction d with
  | zero =>
   intro a ha hd;exact⟨a,ha,refl a,λx hx h=>by have:=hB x hx;omega⟩
  | succ d ih =>
   intro a ha hd;by_cases h:∃x∈F,len a<len x/\sub a x;obtain⟨x,hx,h1,h2⟩:=h;have:=hB x hx;obtain⟨m,hm,h3,h4⟩:=ih x hx omY;exact⟨m,hm,tr _ _ _ h2 h3,h4⟩;exact⟨a,ha,refl a,λx hx h2=>h ⟨x,hx,h2⟩⟩
 exact λa ha=>key _ a ha (kD _)
def dM(t:af):iT:=(List.range t.Hits.len).map λi=>(t.Hits.get i,t.aU.get i)
theorem iE(t:af):(dM t).length=t.Hits.len:=by simp[dM]
theorem JU{t:af}{i:Nat}(h:i<t.Hits.len):(dM t)[i]? = some (t.Hits.get i,t.aU.get i):=by
 simp[dM,qjb h]
def JV(x:Int)(t:af):Prop:=t.View=x/\t.aU.len=t.Hits.len
def Bi(l:Sl bg)(c:iT)(i:Int):Bool:=c.any λq=>(l.get q.1.toNat).ai==(l.get i.toNat).ai
def PD(s:ak)(l:Sl bg)(x:Int)(i:Nat):iT:=sdL s l x (l.len-i) i
theorem ET{i:Int}{y:Int×Int}:∀{d k},y∈sdK i d k↔y.1=i∧(k:Int)≤y.2∧y.2<((k+d:Nat):Int)
  | 0,k=>by
    refine⟨λh=>(by cases h),λh=>?_⟩;omega
  | d+1,k=>by
    rw[sdK,kS,ET];constructor;rintro(h|h);rw[h];show i=i/\(k:Int)<=(k:Int)/\(k:Int)<_;omega;omega;intro h;by_cases e:y.2=(k:Int);exact .inl (jqL h.1 e);exact .inr omY
theorem UF{s:ak}{l:Sl bg}{x:Int}{y:Int×Int}:∀{d i},y∈sdL s l x d i↔((i:Int)≤y.1∧y.1<((i+d:Nat):Int))∧Po s l y.1.toNat=x∧0≤y.2∧y.2<(vT s l y.1.toNat:Int)
  | 0,i=>⟨λh=>(by cases h),λh=>by omega⟩
  | d+1,i=>by
    rw[sdL,dX,UF];constructor;rintro(h|h)
    · cases hv:Po s l i==x with
      | false=>rw[hv]at h;cases h
      | true =>
        rw[hv,dO,ET]at h;rw[h.1,gm];exact⟨omY,eq_of_beq hv,omY,omY⟩
    exact⟨omY,h.2⟩;rintro⟨h1,h2,h3,h4⟩;by_cases e:y.1=(i:Int);refine .inl ?_;rw[e,gm]at h2 h4;rw[Zy.2 h2,dO,ET];exact⟨e,omY,omY⟩;exact .inr ⟨omY,h2,h3,h4⟩
theorem UG{s:ak}{l:Sl bg}{x:Int}{y:Int×Int}{i:Nat}(hi:i<=l.len):y∈PD s l x i↔((i:Int)<=y.1/\y.1<(l.len:Int))/\Po s l y.1.toNat=x/\0<=y.2/\y.2<(vT s l y.1.toNat:Int):=by
 unfold PD;rw[UF,show i+(l.len-i)=l.len by omega]
theorem Yv{s:ak}{l:Sl bg}{x:Int}{y:Int×Int}{i:Nat}(h:y∈PD s l x i):i<l.len/\((i:Int)<=y.1/\y.1<(l.len:Int))/\Po s l y.1.toNat=x/\0<=y.2/\y.2<(vT s l y.1.toNat:Int):=by
 by_cases hi:i<=l.len;have:=(UG hi).1 h;exact⟨omY,this⟩;unfold PD at h;rw[show l.len-i=0 by omega]at h;cases h
theorem QT(i:Int):∀d k,(sdK i d k).Nodup
  | 0,_=>List.Pairwise.nil
  | d+1,k=>by
    rw[sdK];refine List.Pairwise.cons (λy hy e=>?_) (QT i d (k+1));have:=ET.1 hy;rw[<- e]at this;have:=this.2.1;simp only at this;omega
theorem QU(s:ak)(l:Sl bg)(x:Int):∀d i,(sdL s l x d i).Nodup
  | 0,_=>List.Pairwise.nil
  | d+1,i=>by
    rw[sdL];unfold List.Nodup;rw[qdt];refine⟨?_,QU s l x d (i+1),λa ha b hb e=>?_⟩;cases Po s l i==x;exact List.Pairwise.nil;exact QT _ _ _;have h1:a.1=(i:Int):=by
      cases hv:Po s l i==x with|false=>rw[hv]at ha;cases ha|true=>rw[hv,dO]at ha;exact(ET.1 ha).1
    have:=(UF.1 hb).1;rw[<- e]at this;omega
structure Val (s : ak) (l : Sl bg) (x : Int) (c : iT) (j : Nat) : Prop where
  le:c.length<=j/\j<=l.len
  mem:∀p∈c,(0<=p.1/\p.1<(j:Int))/\Po s l p.1.toNat=x/\0<=p.2/\p.2<(vT s l p.1.toNat:Int)
  pw:c.Pairwise λp q=>p.1<q.1/\(l.get p.1.toNat).ai≠(l.get q.1.toNat).ai
theorem Val.snoc{s:ak}{l:Sl bg}{x:Int}{c:iT}{j:Nat}{p:Int×Int}(h:Val s l x c j)(hp:p∈PD s l x j)(hu:Bi l c p.1=false):Val s l x (c++[p]) (p.1.toNat+1):=by
 obtain⟨h1,h2,h3,h4⟩:=Yv hp;have hle:=h.le;refine⟨by rw[Jo];simp only[Bo,RQ];omega,λq hq=>?_,?_⟩;rcases dX.1 hq with hq|hq
 have:=h.mem q hq;exact⟨omY,this.2⟩;rw[lN.1 hq];exact⟨omY,h3,h4⟩;rw [qdt];refine⟨h.pw,jqK _ _,λa ha b hb=>?_⟩;rw[lN.1 hb];have:=(h.mem a ha).1;refine⟨omY,λe=>?_⟩;unfold Bi at hu;rw[qdI]at hu;exact hu a ha (by simpa using e)
theorem UH{ag:iT->Bool}{s:ak}{l:Sl bg}{x:Int}{c:iT}{j:Nat}(h:Ch ag (Bi l) (PD s l x) c j):Val s l x c j:=by
 induction h with|nil=>exact⟨⟨kD _,ui _⟩,(λp h=>by cases h),List.Pairwise.nil⟩|snoc _ hp hu _ ih=>exact ih.snoc hp hu
theorem Ai{t:af}{c:iT}(hc:dM t=c){i:Nat}(hi:i<t.Hits.len):c[i]? = some (t.Hits.get i,t.aU.get i):=by rw[<- hc];exact JU hi
theorem JW{s:ak}{l:Sl bg}{x:Int}{t:af}{c:iT}{j:Nat}(hx:vwB x=true)(ht:JV x t)(hc:dM t=c)(h:Val s l x c j)(hn:c≠[]):kZ s l t=true:=by
 have hlen:c.length=t.Hits.len:=by rw[<- hc,iE]
 have hle:=h.le;have pw:=qdi.1 h.pw;have ge:∀i (hi:i<t.Hits.len) (kH:i<c.length),c[i]=(t.Hits.get i,t.aU.get i):=λi hi kH=>by
  have:=Ai hc hi;rw[Au kH]at this;exact PS this
 simp only[kZ,gq,lQ,dm];refine⟨⟨⟨by rw[ht.1];exact hx,?_⟩,ht.2⟩,λi hi=>?_⟩;rcases qjA t.Hits.len with h0|h0
 rw[h0]at hlen;exact absurd (qji.1 hlen) hn;exact h0;have kH:i<c.length:=by omega
 have m:=h.mem c[i] (RN _);rw[ge i hi kH]at m;simp only[JK,gq,VE,lQ,inB,Ub,dm,H6,dqQ];refine⟨⟨⟨⟨by simp only at m;omega,?_⟩,by rw[ht.1];exact m.2.1⟩,?_⟩,λk hk=>?_⟩;rcases qjA i with h0|h0
 exact .inl h0;refine .inr ?_;have:=(pw (i-1) i omY kH omY).1;rw[ge i hi kH,ge (i-1) omY omY]at this;exact this;have:=m.2.2;show 0<=t.aU.get i/\t.aU.get i<=((vT s l (t.Hits.get i).toNat:Nat):Int)-1;simp only at this;omega;have:=(pw k i omY kH hk).2;rw[ge i hi kH,ge k omY omY]at this;exact this
def nR(s:ak)(l:Sl bg)(c:iT):Sl au:=gw z0 (λi=>(vS s (l.get ((c[i]?).getD (0,0)).1.toNat)).get ((c[i]?).getD (0,0)).2.toNat) c.length
theorem Cm{s:ak}{l:Sl bg}{t:af}{c:iT}(hc:dM t=c):ZB s l t=nR s l c:=by
 unfold ZB nR;rw[<- hc,iE];exact NE λi hi=>by rw[JU hi];rfl
theorem CB{s:ak}{l:Sl bg}{x:Int}{c:iT}{j:Nat}(he:Evt s l)(hl:l.len<=24)(h:Val s l x c j)(hn:c≠[]):bU (nR s l c):=by
 have e:(nR s l c).len=c.length:=lD _ _ _;have hle:=h.le;refine⟨λi hi=>?_,by
  rw[e];rcases qjA c.length with h0|h0
  exact absurd (qji.1 h0) hn;exact h0,omY⟩
 rw[e]at hi;show ik ((gw z0 _ c.length).get i);rw[BX hi,Au hi];have m:=h.mem c[i] (RN _);have m2:=m.2.2;show ik ((vS s (l.get (c[i]).1.toNat)).get (c[i]).2.toNat);refine zBs he.se (dm.1 he.hi _ omY) ?_;show _<vT s l (c[i]).1.toNat;omega
def Yw(g:Sl au):Prop:=∀k,k<g.len->(g.get k).Z=(g.get 0).Z
theorem Hf{g:Sl au}:fP g=true↔Yw g:=by
 unfold fP Yw;rw[dm];exact⟨λh k hk=>eq_of_beq (h k hk),λh k hk=>Zy.2 (h k hk)⟩
theorem Oj{g:Sl au}{i b:Nat}{x:straight}(hx:x∈Ci (g.get i) (g.get b)):∀m k,k≤b→b<k+m→x∈EN g i m k
  | 0,k,h1,h2=>by omega
  | m+1,k,h1,h2=>by
    show x∈Ci (g.get i) (g.get k)++EN g i m (k+1);by_cases h:k=b;rw[h];exact qdW _ hx;exact qjn _ (Oj hx m (k+1) omY omY)
theorem Ol{g:Sl au}{a:Nat}{x:straight}(hx:x∈EN g a (g.len-(a+1)) (a+1)):∀m i,i≤a→a<i+m→x∈Py g m i
  | 0,i,h1,h2=>by omega
  | m+1,i,h1,h2=>by
    show x∈EN g i (g.len-(i+1)) (i+1)++Py g m (i+1);by_cases h:i=a;rw[h];exact qdW _ hx;exact qjn _ (Ol hx m (i+1) omY omY)
theorem zlB{z p y q:Int}(h:z≠y):FP z p y q=FP y q z p:=by
 unfold FP;by_cases h1:z>y;rw[eY h1,fH (show ¬y>z by omega)];rw[fH h1,eY (show y>z by omega)]
theorem zJk{g:Sl au}{a b:Nat}(ha:a<g.len)(hb:b<g.len)(hz:(g.get a).Z≠(g.get b).Z){p q:Int}(hp:p=(g.get a).Low\/p=(g.get a).High)(hq:q=(g.get b).Low\/q=(g.get b).High):FP (g.get a).Z p (g.get b).Z q∈cst g:=by
 have key:∀{a b:Nat}{p q:Int},a<b->b<g.len->(g.get a).Z≠(g.get b).Z->(p=(g.get a).Low\/p=(g.get a).High)->(q=(g.get b).Low\/q=(g.get b).High)->FP (g.get a).Z p (g.get b).Z q∈cst g:=fun {a b p q} h1 h2 hz hp hq=>by
  refine Ol (Oj ?_ _ _ h1 omY) _ 0 (ui _) omY;unfold Ci;rw[fH hz];rcases hp with rfl|rfl<;>rcases hq with rfl|rfl<;>simp
 rcases qdP a b with h|h
 exact key h hb hz hp hq;have:a≠b:=fun e=>hz (by rw [e]);rw[zlB hz];exact key omY ha (qjO hz) hq hp
theorem EU{Q:Nat→Prop}{le:Nat→Nat→Prop}(tot:∀i j,Q i→Q j→le i j∨le j i)(tr:∀i j k,Q i→Q j→Q k→le i j→le j k→le i k):∀n,(∃k,k<n∧Q k)→∃k,k<n∧Q k∧∀j,j<n→Q j→le j k
  | 0,⟨k,h,_⟩=>absurd h (RP k)
  | n+1,hex=>by
    by_cases h:∃k,k<n/\Q k;obtain⟨k,hk,qk,hm⟩:=EU tot tr n h;by_cases qn:Q n;rcases tot n k qn qk with h1|h1
    exact⟨k,omY,qk,λj hj qj=>by
      by_cases e:j=n;rw[e];exact h1;exact hm j omY qj⟩
    exact⟨n,omY,qn,λj hj qj=>by
      by_cases e:j=n;rw[e];rcases tot n n qn qn with h2|h2<;>exact h2
      exact tr j k n qj qk qn (hm j omY qj) h1⟩
    exact⟨k,omY,qk,λj hj qj=>hm j (by
      have:j≠n:=λe=>qn (e▸qj);omega) qj⟩
    obtain⟨k,hk,qk⟩:=hex;have e:k=n:=by
      rcases qdP k n with h1|h1
      exact absurd ⟨k,h1,qk⟩ h;omega
    subst e;exact⟨k,omY,qk,λj hj qj=>by
      by_cases e:j=k;rw[e];rcases tot k k qk qk with h2|h2<;>exact h2
      exact absurd ⟨j,omY,qj⟩ h⟩
def Yx(a b:straight):Prop:=a.bH*b.den<=b.bH*a.den
theorem UI{a b c:straight}(ha:0<a.den)(hb:0<b.den)(hc:0<c.den)(h1:Yx a b)(h2:Yx b c):Yx a c:=by
 unfold Yx at *;have y1:=J9 h1 (uX hc);have y2:=J9 h2 (uX ha);refine dqV (a:=b.den) ?_ hb
 grind
def lcS(g:Sl au)(i:Nat)(p:Int)(k:Nat):straight:=FP (g.get i).Z p (g.get k).Z (if(g.get k).Z>(g.get i).Z then(g.get k).Low else(g.get k).High)
def ucS(g:Sl au)(i:Nat)(p:Int)(k:Nat):straight:=FP (g.get i).Z p (g.get k).Z (if(g.get k).Z>(g.get i).Z then(g.get k).High else(g.get k).Low)
theorem Om{g:Sl au}{i k:Nat}{p:Int}{c:straight}(he:gX c (g.get i).Z=p*c.den)(hz:(g.get k).Z≠(g.get i).Z):iQ c (g.get k)=true↔Yx (lcS g i p k) c/\Yx c (ucS g i p k):=by
 unfold iQ Yx lcS ucS FP;rw[lQ];unfold gX at *;by_cases h:(g.get k).Z>(g.get i).Z;simp only [eY h,fH (show ¬(g.get i).Z>(g.get k).Z by omega)];constructor;intro⟨h1,h2⟩;constructor<;>grind;intro⟨h1,h2⟩;constructor<;>grind;simp only [fH h,eY (show(g.get i).Z>(g.get k).Z by omega)];constructor;intro⟨h1,h2⟩;constructor<;>grind;intro⟨h1,h2⟩;constructor<;>grind
theorem zdz{z p y q:Int}(h:z≠y):0<(FP z p y q).den:=by
 unfold FP;by_cases h1:z>y;rw[eY h1];show 0<z-y;omega;rw[fH h1];show 0<y-z;omega
theorem QV{g:Sl au}{i k:Nat}{p:Int}{s c:straight}(ps:0<s.den)(pc:0<c.den)(he:gX s (g.get i).Z=p*s.den)(hc:gX c (g.get i).Z=p*c.den)(hz:(g.get k).Z=(g.get i).Z)(h:iQ s (g.get k)=true):iQ c (g.get k)=true:=by
 unfold iQ at *;rw[lQ]at *;rw[hz,he]at h;rw[hz,hc];exact⟨J9 (dqV h.1 ps) (uX pc),J9 (dqV h.2 ps) (uX pc)⟩
theorem rot{g:Sl au}{s:straight}(hd:0<s.den)(ha:xP g s){i:Nat}(hi:i<g.len){p:Int}(hp:p=(g.get i).Low∨p=(g.get i).High)(he:gX s (g.get i).Z=p*s.den)(hn:∃k,k<g.len∧(g.get k).Z≠(g.get i).Z) :
  (∃c,uf g c/\0<c.den/\gX c (g.get i).Z=p*c.den/\Yx c s)/\∃c,uf g c/\0<c.den/\gX c (g.get i).Z=p*c.den/\Yx s c:=by
 have ld:∀k,(g.get k).Z≠(g.get i).Z->0<(lcS g i p k).den:=λk h=>zdz (qjO h);have ud:∀k,(g.get k).Z≠(g.get i).Z->0<(ucS g i p k).den:=λk h=>zdz (qjO h);have le1:∀k,(g.get k).Z≠(g.get i).Z->gX (lcS g i p k) (g.get i).Z=p*(lcS g i p k).den:=λk h=>(zbq (qjO h)).1;have ue1:∀k,(g.get k).Z≠(g.get i).Z->gX (ucS g i p k) (g.get i).Z=p*(ucS g i p k).den:=λk h=>(zbq (qjO h)).1;have sp:∀k,k<g.len->(g.get k).Z≠(g.get i).Z->Yx (lcS g i p k) s/\Yx s (ucS g i p k):=λk hk hz=>(Om he hz).1 (ha k hk);constructor;obtain⟨k,hk,qk,hm⟩:=EU (Q:=fun k=>(g.get k).Z≠(g.get i).Z) (le:=fun a b=>Yx (lcS g i p a) (lcS g i p b)) (fun a b _ _=>qjB _ _) (fun a b c ha hb hc h1 h2=>UI (ld a ha) (ld b hb) (ld c hc) h1 h2) g.len hn;refine⟨lcS g i p k,⟨zJk hi hk (qjO qk) hp (by split<;>simp),λj hj=>?_⟩,ld k qk,le1 k qk,(sp k hk qk).1⟩;by_cases hz:(g.get j).Z=(g.get i).Z;exact QV hd (ld k qk) he (le1 k qk) hz (ha j hj);exact(Om (le1 k qk) hz).2 ⟨hm j hj hz,UI (ld k qk) hd (ud j hz) (sp k hk qk).1 (sp j hj hz).2⟩;obtain⟨k,hk,qk,hm⟩:=EU (Q:=fun k=>(g.get k).Z≠(g.get i).Z) (le:=fun a b=>Yx (ucS g i p b) (ucS g i p a)) (fun a b _ _=>qjB _ _) (fun a b c ha hb hc h1 h2=>UI (ud c hc) (ud b hb) (ud a ha) h2 h1) g.len hn;refine⟨ucS g i p k,⟨zJk hi hk (qjO qk) hp (by split<;>simp),λj hj=>?_⟩,ud k qk,ue1 k qk,(sp k hk qk).2⟩;by_cases hz:(g.get j).Z=(g.get i).Z;exact QV hd (ud k qk) he (ue1 k qk) hz (ha j hj);exact(Om (ue1 k qk) hz).2 ⟨UI (ld j hz) hd (ud k qk) (sp j hj hz).1 (sp k hk qk).2,hm j hj hz⟩
theorem zBu{g:Sl au}(hl:1<=g.len){s:straight}(ha:xP g s):∃d,0<=d/\xP g ⟨s.bH,s.start-d,s.den⟩/\∃i,i<g.len/\gX ⟨s.bH,s.start-d,s.den⟩ (g.get i).Z=(g.get i).Low*s.den:=by
 obtain⟨k,hk,_,hm⟩:=EU (Q:=λ_=>True) (le:=λa b=>gX s (g.get b).Z-(g.get b).Low*s.den<=gX s (g.get a).Z-(g.get a).Low*s.den) (λa b _ _=>qjB _ _) (λa b c _ _ _ h1 h2=>qjW h2 h1) g.len ⟨0,hl,trivial⟩;have hk2:=xQ ha hk;refine⟨gX s (g.get k).Z-(g.get k).Low*s.den,omY,λj hj=>dC ?_,k,hk,by unfold gX;simp only;omega⟩;have h1:=hm j hj trivial;have h2:=xQ ha hj;unfold gX at *;simp only;omega
theorem zBv{g:Sl au}(hl:1<=g.len){s:straight}(ha:xP g s):∃d,0<=d/\xP g ⟨s.bH,s.start+d,s.den⟩/\∃i,i<g.len/\gX ⟨s.bH,s.start+d,s.den⟩ (g.get i).Z=(g.get i).High*s.den:=by
 obtain⟨k,hk,_,hm⟩:=EU (Q:=λ_=>True) (le:=λa b=>(g.get b).High*s.den-gX s (g.get b).Z<=(g.get a).High*s.den-gX s (g.get a).Z) (λa b _ _=>qjB _ _) (λa b c _ _ _ h1 h2=>qjW h2 h1) g.len ⟨0,hl,trivial⟩;have hk2:=xQ ha hk;refine⟨(g.get k).High*s.den-gX s (g.get k).Z,omY,λj hj=>dC ?_,k,hk,by unfold gX;simp only;omega⟩;have h1:=hm j hj trivial;have h2:=xQ ha hj;unfold gX at *;simp only;omega
theorem Yy{g:Sl au}(nf:¬Yw g)(i:Nat)(hi:i<g.len):∃k,k<g.len/\(g.get k).Z≠(g.get i).Z:=by
 by_cases h:∃k,k<g.len/\(g.get k).Z≠(g.get i).Z;exact h;have all:∀k,k<g.len→(g.get k).Z=(g.get i).Z:=fun k hk=>qdA fun e=>h ⟨k,hk,e⟩;exact absurd (λk hk=>(all k hk).trans (all 0 omY).symm) nf
theorem zdA{a b:straight}{z p h:Int}(ha:gX a z=p*a.den)(hb:gX b z=p*b.den)(hs:Yx a b)(hh:z<=h):gX a h*b.den<=gX b h*a.den:=by
 have y:=J9 hs (show 0<=h-z by omega);unfold gX at *;have e1:a.start=p*a.den-a.bH*z:=by omega
 have e2:b.start=p*b.den-b.bH*z:=by omega
 rw[e1,e2];clear ha hb hs e1 e2
 grind
theorem zdB{a b:straight}{z p h:Int}(ha:gX a z=p*a.den)(hb:gX b z=p*b.den)(hs:Yx a b)(hh:h<=z):gX b h*a.den<=gX a h*b.den:=by
 have y:=J9 hs (show 0<=z-h by omega);unfold gX at *;have e1:a.start=p*a.den-a.bH*z:=by omega
 have e2:b.start=p*b.den-b.bH*z:=by omega
 rw[e1,e2];clear ha hb hs e1 e2
 grind
theorem lp{g:Sl au}(hl:1≤g.len)(nf:¬Yw g){s:straight}(hd:0<s.den)(ha:xP g s) :
  (∀h,(∃c,uf g c/\gX c h*s.den<=gX s h*c.den)/\∃c,uf g c/\gX s h*c.den<=gX c h*s.den)/\(∃c,uf g c/\Yx c s)/\∃c,uf g c/\Yx s c:=by
 obtain⟨d,d0,da,i,hi,di⟩:=zBu hl ha;obtain⟨e,e0,ea,j,hj,ej⟩:=zBv hl ha;obtain⟨⟨c1,c1c,c1d,c1p,c1s⟩,⟨c2,c2c,c2d,c2p,c2s⟩⟩:=rot (s:=⟨s.bH,s.start-d,s.den⟩) hd da hi (.inl rfl) di (Yy nf i hi);obtain⟨⟨f1,f1c,f1d,f1p,f1s⟩,⟨f2,f2c,f2d,f2p,f2s⟩⟩:=rot (s:=⟨s.bH,s.start+e,s.den⟩) hd ea hj (.inr rfl) ej (Yy nf j hj);have lo:∀{c:straight}{h:Int},0<c.den->gX c h*s.den<=gX ⟨s.bH,s.start-d,s.den⟩ h*c.den->gX c h*s.den<=gX s h*c.den:=fun {c h} pc k=>by
  have:=qd0 d0 (uX pc);unfold gX at *;simp only at k
  grind
 have kH:∀{c:straight}{h:Int},0<c.den->gX ⟨s.bH,s.start+e,s.den⟩ h*c.den<=gX c h*s.den->gX s h*c.den<=gX c h*s.den:=fun {c h} pc k=>by
  have:=qd0 e0 (uX pc);unfold gX at *;simp only at k
  grind
 refine⟨λh=>⟨?_,?_⟩,⟨c1,c1c,c1s⟩,⟨c2,c2c,c2s⟩⟩;rcases qjB (g.get i).Z h with k|k
 exact⟨c1,c1c,lo c1d (zdA (b:=⟨s.bH,s.start-d,s.den⟩) c1p di c1s k)⟩;exact⟨c2,c2c,lo c2d (zdB (a:=⟨s.bH,s.start-d,s.den⟩) di c2p c2s k)⟩;rcases qjB (g.get j).Z h with k|k
 exact⟨f2,f2c,kH f2d (zdA (a:=⟨s.bH,s.start+e,s.den⟩) ej f2p f2s k)⟩;exact⟨f1,f1c,kH f1d (zdB (b:=⟨s.bH,s.start+e,s.den⟩) f1p ej f1s k)⟩
def sW(lt:aP→aP→Bool)(f:Nat→aP):Nat→aP|0=>f 0|n+1=>cond (lt (f n) (sW lt f n)) (f n) (sW lt f n)
theorem zbu{lt:aP→aP→Bool}{Q:aP→Prop}{f:Nat→aP}(irr:∀a,Q a→lt a a=false)(tr:∀a b c,Q a→Q b→Q c→lt a b=true→lt b c=true→lt a c=true) :
  ∀n,(∀i,i<n+1->Q (f i))->(∃i,i<n+1/\sW lt f (n+1)=f i)/\∀j,j<n+1->lt (f j) (sW lt f (n+1))=false
 | 0,hq=>by
  have e:sW lt f 1=f 0:=by simp only[sW];cases lt (f 0) (f 0)<;>rfl
  rw[e];exact⟨⟨0,omY,rfl⟩,λj hj=>by rw[show j=0 by omega];exact irr _ (hq 0 omY)⟩
 | n+1,hq=>by
  obtain⟨⟨i,hi,e⟩,h⟩:=zbu irr tr n λi hi=>hq i omY;have qe:Q (sW lt f (n+1)):=by rw[e];exact hq i omY
  rw[sW];cases hl:lt (f (n+1)) (sW lt f (n+1))with
  | true =>
   rw[dO];refine⟨⟨n+1,omY,rfl⟩,λj hj=>?_⟩;by_cases ej:j=n+1;rw[ej];exact irr _ (hq _ omY)
   ·cases hx:lt (f j) (f (n+1))with|false=>rfl|true=>rw[<- h j omY,tr _ _ _ (hq j omY) (hq (n+1) omY) qe hx hl]
  | false =>
   rw[dN];refine⟨⟨i,omY,e⟩,λj hj=>?_⟩;by_cases ej:j=n+1;rw[ej];exact hl;exact h j omY
def ltB(a b:aP):Bool:=decide (cmF a b<0)
def gtB(a b:aP):Bool:=decide (cmF a b>0)
theorem EW{a b:aP}:gtB a b=true↔Ag b a:=by
 unfold gtB;rw[lQ,<- zlu];omega
theorem EX{a b:aP}:ltB a b=true↔Ag a b:=by
 unfold ltB;rw[lQ,zlt]
def IR(z:Int)(s:straight):aP:=⟨gX s z,s.den⟩
def zJl(s:straight):aP:=⟨s.bH,s.den⟩
def loG(g:Sl au)(F:straight->aP):aP:=sW ltB (λi=>F ((jh g).df.get i)) (jI g).length
def hiG(g:Sl au)(F:straight->aP):aP:=sW gtB (λi=>F ((jh g).df.get i)) (jI g).length
abbrev loF(g:Sl au)(z:Int):aP:=loG g (IR z)
abbrev hiF(g:Sl au)(z:Int):aP:=hiG g (IR z)
theorem zG{g:Sl au}(G:bU g){i:Nat}(h:i<(jI g).length):uf g ((jh g).df.get i):=by
 rw[wE g h];exact JS G (RN _)
theorem zlE{g:Sl au}(G:bU g)(F:straight->aP)(hF:∀s,uf g s->0<(F s).bQ)(h:0<(jI g).length):(∃s,uf g s/\loG g F=F s)/\∀s∈jI g,¬Ag (F s) (loG g F):=by
  obtain⟨n,hn⟩:∃n,(jI g).length=n+1:=⟨(jI g).length-1,omY⟩
  have := zbu (lt := ltB) (Q := fun a => 0 < a.bQ) (f := fun i => F ((jh g).df.get i)) (fun a _ => by cases e : ltB a a with | false => rfl | true => exact absurd (EX.1 e) Uz)
    (λa b c ha hb hc h1 h2=>EX.2 (zdu ha hb hc (EX.1 h1) (EX.1 h2))) n λi hi=>hF _ (zG G (i:=i) omY)
  unfold loG;rw[hn];obtain⟨⟨i,hi,e⟩,h2⟩:=this;refine⟨⟨_,zG G (i:=i) omY,e⟩,λs hs hl=>?_⟩;obtain⟨j,hj,rfl⟩:=qdD hs;have:=h2 j omY;rw[wE g hj]at this;rw[EX.2 hl]at this;cases this
theorem zlF{g:Sl au}(G:bU g)(F:straight->aP)(hF:∀s,uf g s->0<(F s).bQ)(h:0<(jI g).length):(∃s,uf g s/\hiG g F=F s)/\∀s∈jI g,¬Ag (hiG g F) (F s):=by
  obtain⟨n,hn⟩:∃n,(jI g).length=n+1:=⟨(jI g).length-1,omY⟩
  have := zbu (lt := gtB) (Q := fun a => 0 < a.bQ) (f := fun i => F ((jh g).df.get i)) (fun a _ => by cases e : gtB a a with | false => rfl | true => exact absurd (EW.1 e) Uz)
    (λa b c ha hb hc h1 h2=>EW.2 (zdu hc hb ha (EW.1 h2) (EW.1 h1))) n λi hi=>hF _ (zG G (i:=i) omY)
  unfold hiG;rw[hn];obtain⟨⟨i,hi,e⟩,h2⟩:=this;refine⟨⟨_,zG G (i:=i) omY,e⟩,λs hs hl=>?_⟩;obtain⟨j,hj,rfl⟩:=qdD hs;have:=h2 j omY;rw[wE g hj]at this;rw[EW.2 hl]at this;cases this
theorem zdE{g:Sl au}(G:bU g)(z:Int)(s:straight)(h:uf g s):0<(IR z s).bQ:=by have:=(kV G h).2.2;show 0<s.den;omega
theorem zlG{g:Sl au}(G:bU g)(z:Int)(h:0<(jI g).length):(∃s,uf g s/\loF g z=IR z s)/\∀s∈jI g,¬Ag (IR z s) (loF g z):=zlE G _ (zdE G z) h
theorem zlH{g:Sl au}(G:bU g)(z:Int)(h:0<(jI g).length):(∃s,uf g s/\hiF g z=IR z s)/\∀s∈jI g,¬Ag (hiF g z) (IR z s):=zlF G _ (zdE G z) h
def cmpL:List Int→List Int→Int|[],[]=>0|[],_::_=>-1|_::_,[]=>1|a::x,b::y=>cond (qY a b != 0) (qY a b) (cmpL x y)
theorem CE{a b:Int}:qY a b=0↔a=b:=by
 unfold qY;by_cases h:a<b;rw[dC h];simp;omega;rw [dR h];by_cases k:a>b;rw[dC k];simp;omega;rw[dR k];simp;omega
theorem zdF{a b:Int}:qY a b<0↔a<b:=by
 unfold qY;by_cases h:a<b;rw[dC h];simp[h];rw [dR h];cases decide (a>b)<;>simp[h]
theorem xR:∀{x y:List Int},cmpL x y<0↔(∃b y',x=[]∧y=b::y')∨∃a x' b y',x=a::x'∧y=b::y'∧(a<b∨a=b∧cmpL x' y'<0)
  | [],[]=>by simp[cmpL]
  | [],b::y=>by simp[cmpL]
  | a::x,[]=>by simp[cmpL]
  | a::x,b::y=>by
    simp only[cmpL];have e:((∃b' y',a::x=[]/\b::y=b'::y')\/∃a' x' b' y',a::x=a'::x'/\b::y=b'::y'/\(a'<b'\/a'=b'/\cmpL x' y'<0))↔(a<b\/a=b/\cmpL x y<0):=by
      constructor;rintro(⟨b',y',h,_⟩|⟨a',x',b',y',h1,h2,h⟩);cases h;cases h1;cases h2;exact h;intro h;exact .inr ⟨a,x,b,y,rfl,rfl,h⟩
    rw[e];by_cases h:a=b;subst h;rw[show(qY a a != 0)=false by rw[CE.2 rfl];rfl];simp;rw [show(qY a b != 0)=true by simpa [CE]using h,dO,zdF];simp[h]
theorem o6:∀{x y:List Int},cmpL x y=0↔x=y
  | [],[]=>by simp[cmpL]
  | [],b::y=>by simp[cmpL]
  | a::x,[]=>by simp[cmpL]
  | a::x,b::y=>by
    simp only[cmpL];by_cases h:a=b;subst h;rw[show(qY a a != 0)=false by rw[CE.2 rfl];rfl,dN,o6];simp;rw[show(qY a b != 0)=true by simpa [CE]using h,dO,CE];simp[h]
theorem wF(x:List Int):¬cmpL x x<0:=by rw[o6.2 rfl];omega
theorem EY:∀{x y z:List Int},cmpL x y<0→cmpL y z<0→cmpL x z<0
  | x,y,z,h1,h2=>by
    rw[xR]at h1 h2;rcases h1 with⟨b,y',rfl,rfl⟩|⟨a,x',b,y',rfl,rfl,h1⟩
    rcases h2 with⟨c,z',h,_⟩|⟨b',y'',c,z',h,rfl,h2⟩
    cases h;exact xR.2 (.inl ⟨c,z',rfl,rfl⟩);rcases h2 with⟨c,z',h,_⟩|⟨b',y'',c,z',h,rfl,h2⟩
    cases h;cases h;refine xR.2 (.inr ⟨a,x',c,z',rfl,rfl,?_⟩);rcases h1 with h1|⟨rfl,h1⟩<;>rcases h2 with h2|⟨rfl,h2⟩
    exact .inl omY;exact .inl h1;exact .inl h2;exact .inr ⟨rfl,EY h1 h2⟩
theorem Oo:∀{x y:List Int},x≠y→cmpL x y<0∨cmpL y x<0
  | [],[],h=>absurd rfl h
  | [],b::y,_=>.inl (by simp[cmpL])
  | a::x,[],_=>.inr (by simp[cmpL])
  | a::x,b::y,h=>by
    rcases jqe a b with k|k|k
    exact .inl (xR.2 (.inr ⟨a,x,b,y,rfl,rfl,.inl k⟩));subst k;have:x≠y:=λe=>h (by rw[e]);rcases Oo this with k|k
    exact .inl (xR.2 (.inr ⟨a,x,a,y,rfl,rfl,.inr ⟨rfl,k⟩⟩));exact .inr (xR.2 (.inr ⟨a,y,a,x,rfl,rfl,.inr ⟨rfl,k⟩⟩));exact .inr (xR.2 (.inr ⟨b,y,a,x,rfl,rfl,.inl k⟩))
def mM(w:Sl Int):List Int:=(List.range w.len).map w.get
theorem zdG(w:Sl Int):(mM w).length=w.len:=by simp[mM]
def ztg(a b:af):Int:=cond (qY a.View b.View != 0) (qY a.View b.View) (cond (cmpL (mM a.Hits) (mM b.Hits) != 0) (cmpL (mM a.Hits) (mM b.Hits)) (cmpL (mM a.aU) (mM b.aU)))
def Hg(a b:af):Prop:=a.View<b.View\/a.View=b.View/\(cmpL (mM a.Hits) (mM b.Hits)<0\/mM a.Hits=mM b.Hits/\cmpL (mM a.aU) (mM b.aU)<0)
theorem zth{a b:af}:ztg a b<0↔Hg a b:=by
 unfold ztg Hg;by_cases h:a.View=b.View;rw [show(qY a.View b.View != 0)=false by rw [CE.2 h];rfl,dN];by_cases k:mM a.Hits=mM b.Hits;rw [show(cmpL (mM a.Hits) (mM b.Hits) != 0)=false by rw [o6.2 k];rfl,dN,o6.2 k];simp[h,k];rw [show(cmpL (mM a.Hits) (mM b.Hits) != 0)=true by simpa [o6]using k,dO];simp[h,k];rw [show(qY a.View b.View != 0)=true by simpa [CE]using h,dO,zdF];simp[h]
theorem zdH(a:af):¬Hg a a:=λh=>by
 rcases h with h|⟨_,h|⟨_,h⟩⟩
 omega;exact wF _ h;exact wF _ h
theorem zbv{a b c:af}(h:Hg a b)(k:Hg b c):Hg a c:=by
 rcases h with h|⟨h,h2⟩<;>rcases k with k|⟨k,k2⟩
 exact .inl omY;exact .inl omY;exact .inl omY;refine .inr ⟨omY,?_⟩;rcases h2 with h2|⟨h2,h3⟩<;>rcases k2 with k2|⟨k2,k3⟩
 exact .inl (EY h2 k2);exact .inl (k2▸h2);exact .inl (h2▸k2);exact .inr ⟨h2.trans k2,EY h3 k3⟩
theorem zlI{a b:af}(h:Hg a b):¬Hg b a:=λk=>zdH a (zbv h k)
theorem zdI{a b:af}(h:¬(a.View=b.View/\mM a.Hits=mM b.Hits/\mM a.aU=mM b.aU)):Hg a b\/Hg b a:=by
 rcases jqe a.View b.View with k|k|k
 exact .inl (.inl k);by_cases h1:mM a.Hits=mM b.Hits;have:mM a.aU≠mM b.aU:=fun e=>h ⟨k,h1,e⟩;rcases Oo this with h2|h2
 exact .inl (.inr ⟨k,.inr ⟨h1,h2⟩⟩);exact .inr (.inr ⟨k.symm,.inr ⟨h1.symm,h2⟩⟩);rcases Oo h1 with h2|h2
 exact .inl (.inr ⟨k,.inl h2⟩);exact .inr (.inr ⟨k.symm,.inl h2⟩);exact .inr (.inl k)
theorem zlJ{a b:af}(h1:mM a.Hits=mM b.Hits)(h2:mM a.aU=mM b.aU)(ha:a.aU.len=a.Hits.len)(hb:b.aU.len=b.Hits.len):dM a=dM b:=by
 have l1:a.Hits.len=b.Hits.len:=by rw[<- zdG,<- zdG,h1]
 have key:∀t:af,t.aU.len=t.Hits.len->dM t=(mM t.Hits).zip (mM t.aU):=λt ht=>by
  unfold dM mM;rw[ht,List.zip_map']
 rw[key a ha,key b hb,h1,h2]
def nK(a b:af):Bool:=(dM b).all (λp=>(dM a).contains p)&&(b.View==a.View)
theorem wG{a b:af}:nK a b=true↔(∀p∈dM b,p∈dM a)/\b.View=a.View:=by
 unfold nK;simp[zQ]
theorem zlK{t u:af}{p:Int×Int}(h1:u.Hits.len=t.Hits.len+1)(h2:∀j,j<t.Hits.len->u.Hits.get j=t.Hits.get j/\u.aU.get j=t.aU.get j)(h3:u.Hits.get t.Hits.len=p.1/\u.aU.get t.Hits.len=p.2):dM u=dM t++[p]:=by
 unfold dM;rw[h1,qjx,PU];congr 1;exact qda λi hi=>by
  have:=h2 i (Jp.1 hi);rw[this.1,this.2]
 show [(u.Hits.get t.Hits.len,u.aU.get t.Hits.len)]=[p];rw[h3.1,h3.2]
def sG(s:straight)(g:Sl au):Nat→Sl Int|0=>⟨0,λ_=>0⟩|i+1=>cond (iQ s (g.get i)) (qB (sG s g i) (i:Int)) (sG s g i)
theorem EZ(s:straight)(g:Sl au):∀i,(sG s g i).len≤i∧((sG s g i).len=i↔∀j,j<i→iQ s (g.get j)=true)∧(0<(sG s g i).len↔∃j,j<i∧iQ s (g.get j)=true)
  | 0=>⟨kD _,⟨λ_ j hj=>absurd hj (RP j),λ_=>rfl⟩,⟨λh=>absurd h (jqI 0),λ⟨j,hj,_⟩=>absurd hj (RP j)⟩⟩
  | i+1=>by
    obtain⟨a,b,c⟩:=EZ s g i;simp only[sG];cases h:iQ s (g.get i)with
    | true =>
      show(sG s g i).len+1<=i+1/\((sG s g i).len+1=i+1↔_)/\(0<(sG s g i).len+1↔_);refine⟨omY,⟨λe j hj=>?_,λe=>?_⟩,⟨λ_=>⟨i,omY,h⟩,λ_=>by omega⟩⟩;by_cases k:j=i;rw[k];exact h;exact b.1 omY j omY;rw[b.2 λj hj=>e j omY]
    | false =>
      show(sG s g i).len<=i+1/\((sG s g i).len=i+1↔_)/\(0<(sG s g i).len↔_);refine⟨omY,⟨λe=>by omega,λe=>by rw[e i omY]at h;cases h⟩,c.trans ⟨λ⟨j,h1,h2⟩=>⟨j,omY,h2⟩,λ⟨j,h1,h2⟩=>⟨j,?_,h2⟩⟩⟩;have:j≠i:=λe=>by rw[e,h]at h2;cases h2
      omega
abbrev Q57(C:Line×Sl au->ae (Sl Int)):Prop:=∀s (g:Sl au),yI s->g.len<=1000->(∀i,i<g.len->ik (g.get i))->C (fB s,g)=.ok (sG s g g.len)
theorem s57{E:E57}(N:Big E.N)(zEE:zBp E.c116):Q57 (F57 E):=λs g S hl G=>ae.ext λk=>by
 rw[e57,aY];refine kP (X:=λn i=>XI E n (fB s) g (i:Int) (sG s g i) k) (m:=g.len) (λn i hi=>?_) (λn=>?_) _ (by have:=N;omega);rw [zv0,dC omY,dO,bu omY,gm,zEE s _ S (G i hi),aY,bD omY,jg (by have:=(EZ s g i).1;omega) omY];simp only[sG];cases iQ s (g.get i)<;>rfl;rw[zv0,dR omY];rfl
def eL:Sl Line:=⟨0,λ_=>⟨⟨0,0⟩,⟨0,0⟩⟩⟩
def BA(v:Sl Line)(l:List straight):Sl Line:=(l.map fB).foldl qB v
theorem wH(v:Sl Line)(l:List straight):(BA v l).len=v.len+l.length:=by unfold BA;rw[uN,qdn]
theorem zH(v:Sl Line)(a b:List straight):BA v (a++b)=BA (BA v a) b:=by unfold BA;rw[PU,jqd]
def qO(g:Sl au):Sl Line:=BA eL (cst g)
theorem zdJ(g:Sl au):(qO g).len=(cst g).length:=by unfold qO;rw[wH];show 0+_=_;omega
theorem Aj(g:Sl au){i:Nat}(h:i<(cst g).length):(qO g).get i=fB (cst g)[i]:=by
 have:=Bh ((cst g).map fB) eL i (fB (cst g)[i]) (by rw[qdd,Au h];rfl);rw[show(eL:Sl Line).len+i=i by show 0+i=i;omega]at this;exact this
abbrev zti(C:Sl au->ae (Sl Line)):Prop:=∀g,bU g->C g=.ok (qO g)
theorem zWA{E:X6}(N:Big E.N)(zsu:zBq E.znc)(h55:Q55 E.c55):zti (zst E):=λg G=>ae.ext λk=>by
 have hg:=G.2;have hN:=N;have inn:∀n0 n1 (i j:Nat) (w:Sl Line),i<g.len->j<g.len->w.len<=100000->G8 E n0 n1 E.N g (i:Int) (j:Int) 0 w k=G7 E n0 n1 g (i:Int) ((j+1:Nat):Int) (BA w (Ci (g.get i) (g.get j))) k:=by
  intro n0 n1 i j w hi hj hw;have gi:=G.1 i hi;have gj:=G.1 j hj;obtain⟨n,hn⟩:∃n,E.N=n+1+1+1+1+1:=⟨E.N-5,omY⟩
  have st:∀n (v:Int) (w:Sl Line) (p q:Int),(0<=v/\v<4)->w.len<=200000->(g.get i).Z≠(g.get j).Z->p=cond (aJ (v.tdiv 2)==0) (g.get i).Low (g.get i).High->q=cond (v.tmod 2==0) (g.get j).Low (g.get j).High->(-1000000<=p/\p<=1000000)->(-1000000<=q/\q<=1000000) ->
    G8 E n0 n1 (n+1) g (i:Int) (j:Int) v w k=G8 E n0 n1 n g (i:Int) (j:Int) (v+1) (BA w [FP (g.get i).Z p (g.get j).Z q]) k:=by
   intro n v w p q hv hw hz hp hq hpb hqb;rw[zbm,dC (show v<4 by omega),dO];simp only[bu (show 0<=(i:Int)/\(i:Int)<(g.len:Int)by omega),bu (show 0<=(j:Int)/\(j:Int)<(g.len:Int)by omega)];rw[gm,gm,show((g.get i).Z != (g.get j).Z)=true by simpa using hz,dO,zsu,aY,zsu,aY,<- hp,<- hq,h55 _ _ _ _ gi.1 gj.1 hpb hqb hz,aY,jg omY omY,aW omY omY];rfl
  unfold Ci;rw[hn];by_cases hz:(g.get i).Z=(g.get j).Z;rw [eY hz,zbm,dC omY,dO,bu omY,bu omY,gm,gm,show((g.get i).Z != (g.get j).Z)=false by simpa using hz,dN,bD omY];rfl;rw [fH hz]
  rw[st _ 0 w (g.get i).Low (g.get j).Low omY omY hz rfl rfl (qN gi) (qN gj),
   st _ (0+1) _ (g.get i).Low (g.get j).High omY (by rw[wH];simp only[Bo,RQ];omega) hz rfl rfl (qN gi) (sF gj),<- zH,
   st _ (0+1+1) _ (g.get i).High (g.get j).Low omY (by rw[wH];simp only[Jo,Bo,RQ];omega) hz rfl rfl (sF gi) (qN gj),<- zH,
   st _ (0+1+1+1) _ (g.get i).High (g.get j).High omY (by rw[wH];simp only[Jo,Bo,RQ];omega) hz rfl rfl (sF gi) (sF gj),<- zH,zbm,dR omY,dN,bD omY]
  rfl
 have mid:∀n0 (i:Nat),i<g.len->∀(m j n1:Nat)(w:Sl Line),j+m=g.len->m<n1->w.len+4*m<=100000->G7 E n0 n1 g (i:Int) (j:Int) w k=N7 E n0 g ((i+1:Nat):Int) (BA w (EN g i m j)) k:=by
  intro n0 i hi m
  induction m with
  | zero =>
   intro j n1 w hj hn hw;obtain⟨n1,rfl⟩:∃n',n1=n'+1:=⟨n1-1,omY⟩;rw[zkX,dR omY,dN,bD omY];rfl
  | succ m ih =>
   intro j n1 w hj hn hw;obtain⟨n1,rfl⟩:∃n',n1=n'+1:=⟨n1-1,omY⟩;have:=Yk (g.get i) (g.get j);rw[zkX,dC omY,dO,inn n0 n1 i j w hi omY omY,ih (j+1) n1 _ omY omY (by rw[wH];omega),<- zH];rfl
 have out:∀(m i n:Nat)(w:Sl Line),i+m=g.len->m<n->w.len+96*m<=10000->N7 E n g (i:Int) w k=k (BA w (Py g m i)):=by
  intro m
  induction m with
  | zero =>
   intro i n w hi hn hw;obtain⟨n,rfl⟩:∃n',n=n'+1:=⟨n-1,omY⟩;rw[zkW,dR omY];rfl
  | succ m ih =>
   intro i n w hi hn hw;obtain⟨n,rfl⟩:∃n',n=n'+1:=⟨n-1,omY⟩;have:=Yl g i (g.len-(i+1)) (i+1);rw[zkW,dC omY,dO,bD omY,mid n i omY (g.len-(i+1)) (i+1) E.N w omY omY omY,ih (i+1) n _ omY omY (by rw[wH];omega),<- zH];rfl
 rw[zVv,aY];exact out g.len 0 E.N eL omY omY (by show 0+_<=_;omega)
abbrev zBy(C:Line×Sl au->ae Bool):Prop:=∀s g,yI s->bU g->∃b,C (fB s,g)=.ok b
theorem zWB{E:zfP}(N:Big E.N)(za6:ztc E.Vf):zBy (zsO E):=λs g S G=>by
 have hg:=G.2;exact⟨_,ae.ext λk=>by
  rw[e248,aY];refine(loopA (L:=λn v=>Uw E n (fB s) g v k) (p:=λi=>!(plN (fB s) (g.get i).Z==aJ ((g.get i).Low*OZ (fB s)))) (m:=g.len) (fin:=k false) (stop:=k true) omY (λn i hi=>?_) (λn=>?_) _ (by have:=N;omega)).trans (kc k _ _ _);have gi:=G.1 i hi;rw[zk8,dC omY,dO,bu omY,gm,za6 s _ S (by have:=gi.1;omega),aY,bu omY];show cond (plN (fB s) (g.get i).Z==aJ ((g.get i).Low*OZ (fB s))) _ _=_;cases plN (fB s) (g.get i).Z==aJ ((g.get i).Low*OZ (fB s))<;>rfl;rw[zk8,dR omY];rfl⟩
def leB(a b:aP):Bool:=decide (aJ (a.Num*b.bQ)<aJ (b.Num*a.bQ))
abbrev Q56(C:aP×aP->ae Bool):Prop:=∀a b,C (a,b)=.ok (leB a b)
theorem s56{E:E56}:Q56 (F56 E):=λa b=>ae.ext λk=>by rw[e56,aY];rfl
abbrev ztj(C:Line×Line×Sl au->ae Bool):Prop:=∀s t g,yI s->yI t->bU g->∃b,C (fB s,fB t,g)=.ok b
theorem zWC{E:zsv}(zsx:zBy E.zbN)(h56:Q56 E.c56):ztj (zsw E):=λs t g S T G=>by
 obtain⟨a,ha⟩:=zsx s g S G;obtain⟨b,hb⟩:=zsx t g T G;exact⟨cond (a != b) a (cond a (leB (fB s).dK (fB t).dK) (leB (fB t).dK (fB s).dK)),ae.ext λk=>by
  rw[e226,ha,hb,aY,aY,aY,aY,h56,h56,aY,aY,kc k,kc k,aY]⟩
def LnS(g:Sl au)(v:Sl Line):Prop:=∀i,i<v.len->∃s,s∈cst g/\v.get i=fB s
abbrev zBz(C:Sl au->ae (Sl Line)):Prop:=∀g,bU g->∃L:Sl Line,C g=.ok L/\(0<L.len↔∃s∈cst g,xP g s)/\L.len<=2304/\LnS g L
theorem zWD{E:Pv}(N:Big E.N)(zkH:zti E.zna)(h57:Q57 E.c57)(zkI:ztj E.c226):zBz (zkF E):=λg G=>by
 have hg:=G.2;have hN:=N;have hc:=JO G;have hcd:=zdJ g;have pos:∀n0 (i:Nat),i<(cst g).length->∀(v:Sl Line),LnS g v->v.len<=2304->∃a,a<=v.len/\∀(A:Type)(k:Sl Line->Option A),oZ E n0 E.N g v (qO g) (i:Int) 0 k=l9 E n0 g v (qO g) (i:Int) (a:Int) k:=by
  intro n0 i hi v hv hl;have key:∀(m j n1:Nat),j+m=v.len->m<n1->∃a,a<=v.len/\∀(A:Type)(k:Sl Line->Option A),oZ E n0 n1 g v (qO g) (i:Int) (j:Int) k=l9 E n0 g v (qO g) (i:Int) (a:Int) k:=by
   intro m
   induction m with
   | zero =>
    intro j n1 hj hn;obtain⟨n1,rfl⟩:∃n',n1=n'+1:=⟨n1-1,omY⟩;exact⟨j,omY,λA k=>by rw[Uo,dR omY];rfl⟩
   | succ m ih =>
    intro j n1 hj hn;obtain⟨n1,rfl⟩:∃n',n1=n'+1:=⟨n1-1,omY⟩;obtain⟨s,hs,es⟩:=hv j omY;obtain⟨b,hb⟩:=zkI s (cst g)[i] g (qA G hs) (qA G (RN hi)) G;have st:∀(A:Type)(k:Sl Line->Option A),oZ E n0 (n1+1) g v (qO g) (i:Int) (j:Int) k=cond b (oZ E n0 n1 g v (qO g) (i:Int) ((j+1:Nat):Int) k) (l9 E n0 g v (qO g) (i:Int) (j:Int) k):=λA k=>by
     rw[Uo,dC omY,dO,bu omY,bu omY,gm,gm,es,Aj g hi,hb,aY,bD omY]
    cases b with
    | true =>
     obtain⟨a,h1,h2⟩:=ih (j+1) n1 omY omY;exact⟨a,h1,λA k=>by rw[st];exact h2 A k⟩
    | false=>exact⟨j,omY,λA k=>by rw[st];rfl⟩
  exact key v.len 0 E.N omY omY
 have key:∀(m i n:Nat)(v:Sl Line),i+m=(cst g).length->m<n->LnS g v->v.len<=i->∃L:Sl Line,(∀(A:Type)(k:Sl Line->Option A),jZ E n g v (qO g) (i:Int) k=k L)/\(0<L.len↔0<v.len\/∃j,∃h:j<(cst g).length,i<=j/\xP g (cst g)[j])/\L.len<=(cst g).length/\LnS g L:=by
  intro m
  induction m with
  | zero =>
   intro i n v hi hn hv hl;obtain⟨n,rfl⟩:∃n',n=n'+1:=⟨n-1,omY⟩;exact⟨v,λA k=>by rw[Un,dR omY];rfl,⟨.inl,λh=>h.elim id λ⟨j,h1,h2,_⟩=>by omega⟩,omY,hv⟩
  | succ m ih =>
   intro i n v hi hn hv hl;obtain⟨n,rfl⟩:∃n',n=n'+1:=⟨n-1,omY⟩;have kH:i<(cst g).length:=by omega
   have S:=qA G (RN kH);have pl:=EZ (cst g)[i] g g.len;have st:∀(A:Type)(k:Sl Line->Option A),jZ E (n+1) g v (qO g) (i:Int) k=cond (decide (((sG (cst g)[i] g g.len).len:Int)<(g.len:Int))) (jZ E n g v (qO g) ((i+1:Nat):Int) k) (oZ E n E.N g v (qO g) (i:Int) 0 k):=λA k=>by
    rw[Un,dC omY,dO,bu omY,gm,Aj g kH,h57 _ g S omY G.1,aY,bD omY]
   by_cases ha:xP g (cst g)[i];have e:(sG (cst g)[i] g g.len).len=g.len:=pl.2.1.2 ha;obtain⟨a,a1,a2⟩:=pos n i kH v hv omY;have st2:∀(A:Type)(k:Sl Line->Option A),jZ E (n+1) g v (qO g) (i:Int) k=l9 E n g v (qO g) (i:Int) (a:Int) k:=λA k=>by rw[st,dR omY,dN,a2]
   have ins:∃v':Sl Line,(∀(A:Type)(k:Sl Line->Option A),Cf E n g v (qO g) (i:Int) (a:Int) k=jZ E n g v' (qO g) ((i+1:Nat):Int) k)/\v'.len=v.len+1/\LnS g v':=by
    refine⟨_,λA k=>by
     rw[zkG,bu omY,jg omY omY,bu omY,jg omY omY,bu omY,jg omY omY,bD omY],?_,?_⟩
    show((((a:Int)-0).toNat+1)+((v.len:Int)-(a:Int)).toNat)=_;omega;intro q hq;have hq:q<((((a:Int)-0).toNat+1)+((v.len:Int)-(a:Int)).toNat):=hq;show ∃s,s∈cst g/\jy (((a:Int)-0).toNat+1) (jy ((a:Int)-0).toNat (uY v.get 0) (λ_=>(qO g).get (i:Int).toNat)) (uY v.get (a:Int).toNat) q=fB s;rw[jQ];split;exact hv (q-(((a:Int)-0).toNat+1)+(a:Int).toNat) omY;rw [jQ];split;rw[gm,Aj g kH];exact⟨_,RN kH,rfl⟩;exact hv (q+0) omY
   obtain⟨v',i1,i2,i3⟩:=ins;have fin:∃v'':Sl Line,(∀(A:Type)(k:Sl Line->Option A),l9 E n g v (qO g) (i:Int) (a:Int) k=jZ E n g v'' (qO g) ((i+1:Nat):Int) k)/\0<v''.len/\v''.len<=i+1/\LnS g v'':=by
    by_cases h1:(a:Int)<(v.len:Int)
    ·have e3:∃B:Bool,∀(A:Type)(k:Sl Line->Option A),l9 E n g v (qO g) (i:Int) (a:Int) k=cond B (jZ E n g v (qO g) ((i+1:Nat):Int) k) (Cf E n g v (qO g) (i:Int) (a:Int) k):=⟨_,λA k=>by
      rw[Ur,dC h1,dO,bu omY,bu omY,bD omY]⟩
     obtain⟨B,e3⟩:=e3;cases B with|true=>exact⟨v,λA k=>by rw[e3];rfl,omY,omY,hv⟩|false=>exact⟨v',λA k=>by rw[e3];exact i1 A k,omY,omY,i3⟩
    exact⟨v',λA k=>by rw[Ur,dR h1];exact i1 A k,omY,omY,i3⟩
   obtain⟨v'',f1,f2,f3,f4⟩:=fin;obtain⟨L,l1,l2,l3,l4⟩:=ih (i+1) n v'' omY omY f4 f3;exact⟨L,λA k=>by rw[st2,f1,l1],l2.trans ⟨λ_=>.inr ⟨i,kH,kD _,ha⟩,λ_=>.inl f2⟩,l3,l4⟩;have e:(sG (cst g)[i] g g.len).len<g.len:=by
    rcases qdP (sG (cst g)[i] g g.len).len g.len with h|h
    exact h;exact absurd (pl.2.1.1 omY) ha
   obtain⟨L,l1,l2,l3,l4⟩:=ih (i+1) n v omY omY hv omY;refine⟨L,λA k=>by rw[st,dC omY,dO,l1],l2.trans ⟨λh=>h.imp id λ⟨j,h1,h2,h3⟩=>⟨j,h1,omY,h3⟩,λh=>h.imp id λ⟨j,h1,h2,h3⟩=>⟨j,h1,?_,h3⟩⟩,l3,l4⟩;have:j≠i:=λe=>ha (by subst e;exact h3);omega
 obtain⟨L,l1,l2,l3,l4⟩:=key (cst g).length 0 E.N eL omY omY (λi hi=>absurd hi (RP i)) (kD _);refine⟨L,ae.ext λk=>by rw[zIY,zkH g G,aY,aY];exact l1 _ k,l2.trans ⟨λh=>?_,λ⟨s,hs,ha⟩=>?_⟩,omY,l4⟩;rcases h with h|⟨j,h1,_,h3⟩
 exact absurd h (jqI 0);exact⟨_,RN h1,h3⟩;obtain⟨j,h1,rfl⟩:=qdD hs;exact .inr ⟨j,h1,ui _,ha⟩
theorem Ak{g:Sl au}(G:bU g)(hf:fP g=false):eH g=true↔∃s∈cst g,xP g s:=by
 unfold eH;rw[hf,dN,lQ];obtain⟨c1,c2,_⟩:=Uy hf;constructor;intro h;obtain⟨a,b⟩:=c1 _ (RN (l:=jI g) (n:=0) omY);exact⟨_,a,(EP G (qA G a)).1 b⟩;rintro⟨s,hs,ha⟩;obtain⟨x,hx,_⟩:=c2 s hs ((EP G (qA G hs)).2 ha);have:=jqN hx;omega
abbrev ztk(C:Sl au->ae Bool):Prop:=∀g,bU g->C g=.ok (eH g)
theorem zWE{E:zq6}(NF:zly E.Fq)(zkk:zBo E.c193)(zbb:zBz E.c194):ztk (zq7 E):=λg G=>ae.ext λk=>by
 have hg:=G.2;rw[zUg,NF g omY omY,aY,aY];cases hf:fP g with
 | true =>
  rw[dO,zkk g omY omY,aY];unfold eH;rw[hf];rfl
 | false =>
  obtain⟨L,l1,l2,_⟩:=zbb g G;rw[dN,l1,aY];congr 1;rw[VG,Ak G hf,<- l2,lQ];omega
def Oq(z:Int):Prop:=-100000<=z/\z<=200000
abbrev zBA(C:straight×Int->ae aP):Prop:=∀s z,yI s->Oq z->C (s,z)=.ok (IR z s)
theorem zWF{E:zsf}:zBA (zsg E):=λs z S hz=>ae.ext λk=>by
 rw[e203,aY,(zdq S (z:=z) ⟨by have:=hz.1;omega,hz.2⟩).1];rfl
abbrev zBB(C:straight×Pt Int->ae aP):Prop:=∀s (z:Pt Int),yI s->Oq z.v->C (s,z)=.ok (IR z.v s)
theorem zWG{E:zsd}(zAL:zBA E.c203):zBB (zse E):=λs z S hz=>ae.ext λk=>by rw[zVj,zAL _ _ S hz]
theorem UJ{s:straight}(S:yI s){z:Int}(hz:Oq z):(-600000000000<=(IR z s).Num/\(IR z s).Num<=600000000000)/\0<(IR z s).bQ/\(IR z s).bQ<=100000:=by
 have:=(zdq S (z:=z) ⟨by have:=hz.1;omega,hz.2⟩).2;have:=S.2.2;exact⟨‹_›,by show 0<s.den;omega,by show s.den<=_;omega⟩
def Ot(f:aP):Prop:=(-600000000000<=f.Num/\f.Num<=600000000000)/\0<f.bQ/\f.bQ<=100000
theorem QX{a b:aP}(h1:Ot a)(h2:Ot b):aJ (a.Num*b.bQ)=a.Num*b.bQ:=by
 have:=qX h1.1.1 h1.1.2 (uX h2.2.1) h2.2.2;exact aW omY omY
abbrev zBC(C:aP×aP->ae Bool):Prop:=∀a b,Ot a->Ot b->C (a,b)=.ok (ltB a b)
theorem zWH{E:zrD}(NV:zls E.Fv):zBC (zrE E):=λa b h1 h2=>ae.ext λk=>by rw[e169,NV _ _ (QX h1 h2) (QX h2 h1),aY,aY];rfl
abbrev zBD(C:aP×aP->ae Bool):Prop:=∀a b,Ot a->Ot b->C (a,b)=.ok (gtB a b)
theorem zWI{E:zrH}(NV:zls E.Fv):zBD (zrI E):=λa b h1 h2=>ae.ext λk=>by rw[zUL,NV _ _ (QX h1 h2) (QX h2 h1),aY,aY];rfl
abbrev zBE:=dZ 169 Unit Unit ⊕ dZ 171 Unit Unit
def nM:zBE→aP→aP→Bool|.inl _=>ltB|.inr _=>gtB
abbrev QEx{γ:Type}(i:γ->zBE)(C:Sl aP×γ->ae aP):Prop:=∀(l:Sl aP)(c:γ),0<l.len->l.len<=10000->(∀i,i<l.len->Ot (l.get i))->C (l,c)=.ok (sW (nM (i c)) l.get l.len)
abbrev ztl(C:Sl aP×zBE->ae aP):Prop:=QEx id C
theorem Yz{lt:aP->aP->Bool}{f:Nat->aP}:sW lt f 1=f 0:=by simp only[sW];cases lt (f 0) (f 0)<;>rfl
theorem YA{lt:aP->aP->Bool}{f:Nat->aP}{n:Nat}:sW lt f (n+1)=cond (lt (f n) (sW lt f n)) (f n) (sW lt f n):=rfl
theorem E5{lt:aP→aP→Bool}{f:Nat→aP}:∀n,∃i,i<n+1∧sW lt f (n+1)=f i
  | 0=>⟨0,omY,Yz⟩
  | n+1=>by
    obtain⟨i,hi,e⟩:=E5 (lt:=lt) (f:=f) n;rw[YA];cases lt (f (n+1)) (sW lt f (n+1))with|true=>exact⟨n+1,omY,rfl⟩|false=>exact⟨i,omY,e⟩
theorem zlL{E:vY}(N:Big E.N)(zAA:zBC E.zuo):QEx .inl (Ep E):=λl c h0 hl hp=>ae.ext λk=>by
 rw[zkq,aY,bu omY,bu omY,<- Yz (lt:=nM (.inl c)) (f:=l.get)];have hm:(((l.len:Int)-1).toNat:Int)=((l.len-1:Nat):Int):=by omega
 refine(kP (X:=λn i=>oV E n l (i:Int) (sW (nM (.inl c)) l.get (i+1)) k) (m:=l.len-1) (fin:=k (sW (nM (.inl c)) l.get l.len)) (λn i hi=>?_) (λn=>?_) E.N (by have:=N;omega));obtain⟨j,hj,e⟩:=E5 (lt:=nM (.inl c)) (f:=l.get) i;have hq:Ot (sW (nM (.inl c)) l.get (i+1)):=by rw[e];exact hp j omY
 rw[NT,hm,dC omY,dO,bu omY,gm,show uY l.get 1 i=l.get (i+1)from rfl,zAA _ _ (hp (i+1) omY) hq,aY,bD omY,YA (n:=i+1)];show cond (ltB (l.get (i+1)) (sW (nM (.inl c)) l.get (i+1))) _ _=oV E n l _ (cond (ltB (l.get (i+1)) (sW (nM (.inl c)) l.get (i+1))) _ _) k;cases ltB (l.get (i+1)) (sW (nM (.inl c)) l.get (i+1))<;>rfl;rw[NT,hm,dR omY,show l.len-1+1=l.len by omega];rfl
theorem zlM{E:vZ}(N:Big E.N)(zAB:zBD E.c171):QEx .inr (Es E):=λl c h0 hl hp=>ae.ext λk=>by
 rw[zks,aY,bu omY,bu omY,<- Yz (lt:=nM (.inr c)) (f:=l.get)];have hm:(((l.len:Int)-1).toNat:Int)=((l.len-1:Nat):Int):=by omega
 refine(kP (X:=λn i=>oW E n l (i:Int) (sW (nM (.inr c)) l.get (i+1)) k) (m:=l.len-1) (fin:=k (sW (nM (.inr c)) l.get l.len)) (λn i hi=>?_) (λn=>?_) E.N (by have:=N;omega));obtain⟨j,hj,e⟩:=E5 (lt:=nM (.inr c)) (f:=l.get) i;have hq:Ot (sW (nM (.inr c)) l.get (i+1)):=by rw[e];exact hp j omY
 rw[NU,hm,dC omY,dO,bu omY,gm,show uY l.get 1 i=l.get (i+1)from rfl,zAB _ _ (hp (i+1) omY) hq,aY,bD omY,YA (n:=i+1)];show cond (gtB (l.get (i+1)) (sW (nM (.inr c)) l.get (i+1))) _ _=oW E n l _ (cond (gtB (l.get (i+1)) (sW (nM (.inr c)) l.get (i+1))) _ _) k;cases gtB (l.get (i+1)) (sW (nM (.inr c)) l.get (i+1))<;>rfl;rw[NU,hm,dR omY,show l.len-1+1=l.len by omega];rfl
theorem zWJ{f:Sl aP×dZ 169 Unit Unit->ae aP}{g:Sl aP×dZ 171 Unit Unit->ae aP}(a:QEx .inl f)(b:QEx .inr g):ztl (ae.two f g):=λl c h0 hl hp=>by
 rcases c with c|c
 exact a l c h0 hl hp;exact b l c h0 hl hp
abbrev zBG(C:straight->ae aP):Prop:=∀s,C s=.ok (zJl s)
theorem zWK{E:zqK}:zBG (zqL E):=λs=>ae.ext λk=>by rw[e120,aY];rfl
abbrev zfU:=dZ 202 Unit (Pt Int) ⊕ dZ 120 Unit Unit
def jb:zfU→straight→aP|.inl c=>IR c.v.v|.inr _=>zJl
def okB:zfU→Prop|.inl c=>Oq c.v.v|.inr _=>True
theorem UK{g:Sl au}(G:bU g){c:zfU}(hc:okB c){s:straight}(h:uf g s):Ot (jb c s):=by
 have S:=kV G h;rcases c with c|c
 exact UJ S hc;have:=S.1;have:=S.2.2;exact⟨by show -600000000000<=s.bH/\s.bH<=600000000000;omega,by show 0<s.den;omega,by show s.den<=100000;omega⟩
def yJ(g:Sl au)(F:straight→aP):Nat→Sl aP|0=>⟨0,λ_=>⟨0,0⟩⟩|i+1=>qB (yJ g F i) (F ((jh g).df.get i))
theorem iZ(g:Sl au)(F:straight→aP):∀n,(yJ g F n).len=n|0=>rfl|n+1=>by show(yJ g F n).len+1=n+1;rw[iZ g F n]
theorem xU(g:Sl au)(F:straight→aP):∀n i,i<n→(yJ g F n).get i=F ((jh g).df.get i)
  | n+1,i,h=>by
    show jy (yJ g F n).len (yJ g F n).get (λ_=>F ((jh g).df.get n)) i=_;rw[jQ,iZ];by_cases e:i=n;rw[eY omY,e];rw[fH omY,xU g F n i omY]
theorem wI{lt:aP→aP→Bool}{f g:Nat→aP}:∀n,(∀i,i<n+1→f i=g i)→sW lt f (n+1)=sW lt g (n+1)|0,h=>by rw[Yz,Yz,h 0 omY]|n+1,h=>by rw[YA,YA (f:=g) (n:=n+1),wI n λi hi=>h i omY,h (n+1) omY]
theorem zwg{g:Sl au}(G:bU g){c:zfU}(hc:okB c)(h0:0<(jI g).length):Ot (loG g (jb c))/\Ot (hiG g (jb c)):=by
 obtain⟨n,hn⟩:∃n,(jI g).length=n+1:=⟨(jI g).length-1,omY⟩;have pok:∀i,i<n+1->Ot (jb c ((jh g).df.get i)):=λi hi=>UK G hc (zG G omY);unfold loG hiG;rw[hn];obtain⟨i,i2,i3⟩:=E5 (lt:=ltB) (f:=λi=>jb c ((jh g).df.get i)) n;obtain⟨j,j2,j3⟩:=E5 (lt:=gtB) (f:=λi=>jb c ((jh g).df.get i)) n;exact⟨by rw[i3];exact pok i i2,by rw[j3];exact pok j j2⟩
abbrev QBd{γ:Type}(i:γ->zfU)(C:set×γ->ae (aP×aP)):Prop:=∀g (c:γ),bU g->okB (i c)->0<(jI g).length->C (jh g,c)=.ok (red (loG g (jb (i c))).Num (loG g (jb (i c))).bQ,red (hiG g (jb (i c))).Num (hiG g (jb (i c))).bQ)
abbrev zBI(C:set×zfU->ae (aP×aP)):Prop:=QBd id C
theorem zlO{E:vU}(N:Big E.N)(zAf:zBB E.zuv)(Uf:ztl E.c168)(qW:Oe E.kW):QBd .inl (Ej E):=λg c G hz h0=>ae.ext λk=>by
 have hl:=JR G;have hs:=EO g;have pok:∀i,i<(jI g).length->Ot (jb (.inl c) ((jh g).df.get i)):=λi hi=>UK G hz (zG G hi);obtain⟨pl,ph⟩:=zwg G hz h0;rw[zka,aY];refine kP (X:=λn i=>xC E n (jh g) c (i:Int) (yJ g (jb (.inl c)) i) k) (m:=(jI g).length) (λn i hi=>?_) (λm=>?_) _ (by have:=N;omega);rw[NL,hs,dC omY,dO,bu omY,gm,zAf _ _ (kV G (zG G hi)) hz,aY,jg (by rw[iZ];omega) omY,bD omY];rfl;obtain⟨n,hn⟩:∃n,(jI g).length=n+1:=⟨(jI g).length-1,by omega⟩;have hp:∀i,i<(yJ g (jb (.inl c)) (jI g).length).len->Ot ((yJ g (jb (.inl c)) (jI g).length).get i):=λi hi=>by
  rw[iZ]at hi;rw[xU _ _ _ _ hi];exact pok i hi
 rw[NL,hs,dR omY,dN,Uf _ _ (by rw[iZ];omega) (by rw[iZ];omega) hp,aY,Uf _ _ (by rw[iZ];omega) (by rw[iZ];omega) hp,aY];have e1:sW (nM (.inl ⟨(),()⟩)) (yJ g (jb (.inl c)) (jI g).length).get (yJ g (jb (.inl c)) (jI g).length).len=loG g (jb (.inl c)):=by
  rw[iZ];unfold loG;rw[hn];exact wI n λi hi=>xU _ _ _ _ hi
 have e2:sW (nM (.inr ⟨(),()⟩)) (yJ g (jb (.inl c)) (jI g).length).get (yJ g (jb (.inl c)) (jI g).length).len=hiG g (jb (.inl c)):=by
  rw[iZ];unfold hiG;rw[hn];exact wI n λi hi=>xU _ _ _ _ hi
 show(E.kW ((sW (nM (.inl ⟨(),()⟩)) (yJ g (jb (.inl c)) (jI g).length).get (yJ g (jb (.inl c)) (jI g).length).len).Num,(sW (nM (.inl ⟨(),()⟩)) (yJ g (jb (.inl c)) (jI g).length).get (yJ g (jb (.inl c)) (jI g).length).len).bQ)).T (λr4=>(E.kW ((sW (nM (.inr ⟨(),()⟩)) (yJ g (jb (.inl c)) (jI g).length).get (yJ g (jb (.inl c)) (jI g).length).len).Num,(sW (nM (.inr ⟨(),()⟩)) (yJ g (jb (.inl c)) (jI g).length).get (yJ g (jb (.inl c)) (jI g).length).len).bQ)).T λr5=>k (r4,r5))=_;rw[e1,e2,qW _ _ (by have:=pl.1;omega) (by have:=pl.1;omega) pl.2.1 (by have:=pl.2.2;omega),aY,qW _ _ (by have:=ph.1;omega) (by have:=ph.1;omega) ph.2.1 (by have:=ph.2.2;omega),aY]
theorem zlP{E:vV}(N:Big E.N)(zAg:zBG E.zue)(Uf:ztl E.c168)(qW:Oe E.kW):QBd .inr (Em E):=λg c G hz h0=>ae.ext λk=>by
 have hl:=JR G;have hs:=EO g;have pok:∀i,i<(jI g).length->Ot (jb (.inr c) ((jh g).df.get i)):=λi hi=>UK G hz (zG G hi);obtain⟨pl,ph⟩:=zwg G hz h0;rw[zkc,aY];refine kP (X:=λn i=>xE E n (jh g) (i:Int) (yJ g (jb (.inr c)) i) k) (m:=(jI g).length) (λn i hi=>?_) (λm=>?_) _ (by have:=N;omega);rw[NM,hs,dC omY,dO,bu omY,gm,zAg,aY,jg (by rw[iZ];omega) omY,bD omY];rfl;obtain⟨n,hn⟩:∃n,(jI g).length=n+1:=⟨(jI g).length-1,by omega⟩;have hp:∀i,i<(yJ g (jb (.inr c)) (jI g).length).len->Ot ((yJ g (jb (.inr c)) (jI g).length).get i):=λi hi=>by
  rw[iZ]at hi;rw[xU _ _ _ _ hi];exact pok i hi
 rw[NM,hs,dR omY,dN,Uf _ _ (by rw[iZ];omega) (by rw[iZ];omega) hp,aY,Uf _ _ (by rw[iZ];omega) (by rw[iZ];omega) hp,aY];have e1:sW (nM (.inl ⟨(),()⟩)) (yJ g (jb (.inr c)) (jI g).length).get (yJ g (jb (.inr c)) (jI g).length).len=loG g (jb (.inr c)):=by
  rw[iZ];unfold loG;rw[hn];exact wI n λi hi=>xU _ _ _ _ hi
 have e2:sW (nM (.inr ⟨(),()⟩)) (yJ g (jb (.inr c)) (jI g).length).get (yJ g (jb (.inr c)) (jI g).length).len=hiG g (jb (.inr c)):=by
  rw[iZ];unfold hiG;rw[hn];exact wI n λi hi=>xU _ _ _ _ hi
 show(E.kW ((sW (nM (.inl ⟨(),()⟩)) (yJ g (jb (.inr c)) (jI g).length).get (yJ g (jb (.inr c)) (jI g).length).len).Num,(sW (nM (.inl ⟨(),()⟩)) (yJ g (jb (.inr c)) (jI g).length).get (yJ g (jb (.inr c)) (jI g).length).len).bQ)).T (λr4=>(E.kW ((sW (nM (.inr ⟨(),()⟩)) (yJ g (jb (.inr c)) (jI g).length).get (yJ g (jb (.inr c)) (jI g).length).len).Num,(sW (nM (.inr ⟨(),()⟩)) (yJ g (jb (.inr c)) (jI g).length).get (yJ g (jb (.inr c)) (jI g).length).len).bQ)).T λr5=>k (r4,r5))=_;rw[e1,e2,qW _ _ (by have:=pl.1;omega) (by have:=pl.1;omega) pl.2.1 (by have:=pl.2.2;omega),aY,qW _ _ (by have:=ph.1;omega) (by have:=ph.1;omega) ph.2.1 (by have:=ph.2.2;omega),aY]
theorem zWL{f:set×dZ 202 Unit (Pt Int)->ae (aP×aP)}{g:set×dZ 120 Unit Unit->ae (aP×aP)}(a:QBd .inl f)(b:QBd .inr g):zBI (ae.two f g):=λw c G hz h0=>by
 rcases c with c|c
 exact a w c G hz h0;exact b w c G hz h0
def wJ(g:Sl au)(z:Int):aP×aP:=cond (fP g) (red (eG g g.len).Low 1,red (eG g g.len).High 1) (red (loF g z).Num (loF g z).bQ,red (hiF g z).Num (hiF g z).bQ)
theorem UL{g:Sl au}(G:∀i,i<g.len→ik (g.get i))(h0:0<g.len):∀n,n≤g.len→(-1000000≤(eG g n).Low∧(eG g n).Low≤1000000) ∧ -1000000≤(eG g n).High∧(eG g n).High≤1000000
  | 0,_=>⟨qN (G 0 h0),sF (G 0 h0)⟩
  | n+1,h=>by
    obtain⟨a,b⟩:=UL G h0 n omY;have c:=qN (G n omY);have d:=sF (G n omY);simp only[eG];constructor;split<;>assumption;split<;>assumption
abbrev zBJ(C:set×Int->ae (aP×aP)):Prop:=∀g z,bU g->Oq z->(fP g=false->0<(jI g).length)->C (jh g,z)=.ok (wJ g z)
theorem zWM{E:zrx}(xB:zbp E.c167)(zbg:zs3 E.Vj)(qW:Oe E.kW)(zEM:zBI E.c119):zBJ (zry E):=λg z G hz hc=>ae.ext λk=>by
 have hg:=G.2;rw[zUF,xB (jh g).list (by show 0<g.len;omega) (by show g.len<=1000;omega),aY,aY];show cond (fP g) _ _=_;unfold wJ;cases hf:fP g with
 | true =>
  obtain⟨a,b⟩:=UL G.1 omY g.len (kD _);rw[dO,zbg _ (by show 0<g.len;omega) (by show g.len<=1000;omega),aY];show(E.kW ((eG g g.len).Low,1)).T (λr3=>(E.kW ((eG g g.len).High,1)).T λr4=>k (r3,r4))=_;rw[qW _ _ omY omY omY omY,aY,qW _ _ omY omY omY omY,aY];rfl
 | false=>rw[dN,zEM g (.inl ⟨(),⟨z⟩⟩) G hz (hc hf),aY];rfl
abbrev zBK(C:Sl au×Int->ae (aP×aP×Int)):Prop:=∀g z,bU g->Oq z->C (g,z)=.ok (cond ((CW g ((g.get 0).Z==z)).2 != 0) (⟨0,0⟩,⟨0,0⟩,(CW g ((g.get 0).Z==z)).2) ((wJ g z).1,(wJ g z).2,0))
theorem zWN{E:zqC}(BZ:BV E.c157)(za3:zs6 E.c117)(zz9:zBJ E.zgQ):zBK (zqD E):=λg z G hz=>ae.ext λk=>by
 have hg:=G.2;rw[zTP,BZ,aY,aY,show inB z (-100000) 200000=true from dC hz,za3 g _ omY,aY];show cond ((CW g ((g.get 0).Z==z)).2 != 0) (k (⟨0,0⟩,⟨0,0⟩,(CW g ((g.get 0).Z==z)).2)) ((E.zgQ ((CW g ((g.get 0).Z==z)).1,z)).T λr3=>k (r3.1,r3.2,0))=_;unfold CW;rw[kE.2 G];cases hs:eH g with
 | false=>rfl
 | true =>
  cases hf:fP g && !((g.get 0).Z==z)with
  | true=>rfl
  | false =>
   show(E.zgQ (jh g,z)).T _=_;rw[zz9 g z G hz λhf=>by unfold eH at hs;rw[hf,dN,lQ]at hs;omega,aY];rfl
def ztm(p:ai)(h:bg):bY:=cond (p.Kind==3) p.Clock ⟨aJ (aJ (h.Time-p.Clock.High)-p.dP),aJ (aJ (h.Time-p.Clock.Low)+p.dP)⟩
def iL(s:ak)(h:bg):bY:=ztm (s.aj.get h.ai.toNat) h
abbrev zBL(C:placed×bg->ae bY):Prop:=∀q h,C (q,h)=.ok (ztm q.ai h)
theorem zWO{E:zqA}:zBL (zqB E):=λq h=>ae.ext λk=>by rw[zTN,aY,kc k];rfl
abbrev Q74(C:ak×bg->ae bY):Prop:=∀s h,lM s h=true->C (s,h)=.ok (iL s h)
theorem s74{E:E74}:Q74 (F74 E):=λs h hh=>ae.ext λk=>by rw[e74,aY,bu (NC hh),kc k];rfl
def CX(s:ak)(l:Sl bg):Sl au:=⟨l.len,λi=>⟨0,(iL s (l.get i)).Low,(iL s (l.get i)).High⟩⟩
theorem CG{g h:Sl au}{m:Nat}(h0:0<m)(e:∀i,i<m→g.get i=h.get i):∀n,n≤m→eG g n=eG h n|0,_=>by simp only[eG,e 0 h0]|n+1,hn=>by simp only[eG,CG h0 e n omY,e n omY]
abbrev zBM(C:ak×Sl bg->ae (bY×Bool)):Prop:=∀s (l:Sl bg),0<l.len->l.len<=1000->(∀i,i<l.len->lM s (l.get i)=true)->C (s,l)=.ok (eG (CX s l) l.len,decide ((eG (CX s l) l.len).Low<=(eG (CX s l) l.len).High))
theorem zWQ{E:zfz}(N:Big E.N)(h74:Q74 E.c74):zBM (zq8 E):=λs l h0 h1 hh=>ae.ext λk=>by
 have:=kP (X:=λn i=>Uh E n s l ((i+1:Nat):Int) (eG (CX s l) (i+1)) k) (m:=l.len-1) (fin:=k (eG (CX s l) l.len,decide ((eG (CX s l) l.len).Low<=(eG (CX s l) l.len).High))) (λn i hi=>by
  rw[zkl,dC omY,dO,bu omY,gm,h74 _ _ (hh (i+1) omY),aY,bD omY];rfl) (λn=>by
  rw[zkl,show l.len-1+1=l.len by omega,dR omY];rfl) E.N (by have:=N;omega)
 rw[show(0+1:Nat)=1 from rfl,zbt]at this;rw[zUi,bu omY,h74 _ _ (hh 0 h0),aY,aY];exact this
abbrev zBN(C:ak×Sl bg->ae Int):Prop:=∀s (l:Sl bg),sV s->fD s=true->l.len<=1000->(∀i,i<l.len->lM s (l.get i)=true)->C (s,l)=.ok 0
theorem zWR{E:zfw}(N:Big E.N)(BR:QSe E.c160)(AV:zft E.uP):zBN (zqz E):=λs l hs hb hl hh=>ae.ext λk=>by
 rw[zTM,dR omY,dN,BR s hs,aY,hb,aY];refine kP (X:=λn i=>Ud E n s l (i:Int) k) (m:=l.len) (λn i hi=>?_) (λn=>?_) _ (by have:=N;omega);rw [zj5,dC omY,dO,bu omY,gm,AV _ _ hs hb,aY,bD omY];show cond (!lM s (l.get i)) _ _=_;rw[hh i hi];rfl;rw[zj5,dR omY];rfl
def cmS(x:bY):bY×Int:=cond (decide (x.Low>x.High)) (⟨0,0⟩,5) (x,0)
abbrev Q50(C:ak×Sl bg->ae (bY×Int)):Prop:=∀s (l:Sl bg),sV s->fD s=true->0<l.len->l.len<=1000->(∀i,i<l.len->lM s (l.get i)=true)->C (s,l)=.ok (cmS (eG (CX s l) l.len))
theorem s50{E:E50}(N:Big E.N)(zzX:zBN E.zt9)(AV:zft E.uP)(zqu:zBL E.zbM):Q50 (F50 E):=λs l hs hb h0 hl hh=>ae.ext λk=>by
 have hm:(((l.len:Int)-1).toNat:Int)=((l.len-1:Nat):Int):=by omega
 have tm:∀i,i<l.len->ztm (ofP s (l.get i)).ai (l.get i)=iL s (l.get i):=λi hi=>by rw[zjY (hh i hi)];rfl
 have:=kP (X:=λn i=>zdd E n s l (i:Int) (eG (CX s l) (i+1)) k) (m:=l.len-1) (fin:=k (cmS (eG (CX s l) l.len))) (λn i hi=>by
  rw[zvV,hm,dC omY,dO,bu omY,gm];show(E.uP (s,l.get (i+1))).T _=_;rw[AV _ _ hs hb,aY];show(E.zbM (ofP s (l.get (i+1)),l.get (i+1))).T _=_;rw[zqu,aY,tm (i+1) omY,bD omY];rfl) (λn=>by
  rw[zvV,hm,show l.len-1+1=l.len by omega,dR omY,dN,kc k];rfl) E.N (by have:=N;omega)
 rw[show(0+1:Nat)=1 from rfl,zbt]at this;rw[e50,zzX s l hs hb hl hh,aY,show((0:Int) != 0)=false from rfl,dN,show((l.len:Int)==0)=false by rw[qdS];omega,dN,bu omY,AV _ _ hs hb,aY,bu omY];show(E.zbM (ofP s (l.get 0),l.get 0)).T _=_;rw[zqu,aY,bu omY,tm 0 h0,aY];exact this
def E8(l:Sl bg)(w:Sl Int):Nat→Sl bg|0=>⟨0,λ_=>⟨0,0,0,0,0,0⟩⟩|i+1=>qB (E8 l w i) (l.get (w.get i).toNat)
theorem nN(l:Sl bg)(w:Sl Int):∀n,(E8 l w n).len=n|0=>rfl|n+1=>by show(E8 l w n).len+1=n+1;rw[nN l w n]
theorem JX(l:Sl bg)(w:Sl Int):∀n i,i<n→(E8 l w n).get i=l.get (w.get i).toNat
  | n+1,i,h=>by
    show jy (E8 l w n).len (E8 l w n).get (λ_=>l.get (w.get n).toNat) i=_;rw[jQ,nN];by_cases e:i=n;rw[eY omY,e];rw[fH omY,JX l w n i omY]
def InH(l:Sl bg)(w:Sl Int):Prop:=∀i,i<w.len->0<=w.get i/\w.get i<(l.len:Int)
theorem zlQ{s:ak}{l:Sl bg}(he:Evt s l){w:Sl Int}(h:InH l w):∀i,i<(E8 l w w.len).len->lM s ((E8 l w w.len).get i)=true:=λi hi=>by
 rw[nN]at hi;rw[JX _ _ _ _ hi];have:=h i hi;exact dm.1 he.hi _ omY
def UM(s:ak)(l:Sl bg)(c:iT):bY:=eG ⟨c.length,λi=>⟨0,(iL s (l.get ((c[i]?).getD (0,0)).1.toNat)).Low,(iL s (l.get ((c[i]?).getD (0,0)).1.toNat)).High⟩⟩ c.length
theorem zdK{s:ak}{l:Sl bg}{t:af}{c:iT}(hc:dM t=c)(h0:0<t.Hits.len):eG (CX s (E8 l t.Hits t.Hits.len)) (E8 l t.Hits t.Hits.len).len=UM s l c:=by
 unfold UM;rw[nN,<- hc,iE];refine CG h0 (λi hi=>?_) _ (kD _);show(⟨0,(iL s ((E8 l t.Hits t.Hits.len).get i)).Low,(iL s ((E8 l t.Hits t.Hits.len).get i)).High⟩:au)=⟨0,(iL s (l.get (((dM t)[i]?).getD (0,0)).1.toNat)).Low,(iL s (l.get (((dM t)[i]?).getD (0,0)).1.toNat)).High⟩;rw[JX _ _ _ _ hi,JU hi];rfl
def PE(s:ak)(l:Sl bg)(c:iT):Bool:=decide ((UM s l c).Low<=(UM s l c).High)
abbrev Q93(C:Pt aS×af->ae (bY×Bool)):Prop:=∀s l r t c,Evt s l->InH l t.Hits->0<t.Hits.len->t.Hits.len<=100->dM t=c->C (iD s r l,t)=.ok ((cmS (UM s l c)).1,PE s l c)
theorem s93{E:E93}(N:Big E.N)(h50:Q50 E.c50):Q93 (F93 E):=λs l r t c he hi h0 h1 hc=>ae.ext λk=>by
 rw[e93,aY];refine kP (X:=λn i=>zdk E n (iD s r l) t (i:Int) (E8 l t.Hits i) k) (m:=t.Hits.len) (λn i kH=>?_) (λn=>?_) _ (by have:=N;omega);have a:=hi i kH;rw[zv9,dC omY,dO,bu omY,gm,bu (show 0<=t.Hits.get i/\t.Hits.get i<((iD s r l).v.hits.len:Int)from a),jg (by rw[nN];omega) omY,bD omY];rfl;rw [zv9,dR omY,dN];show(E.c50 (s,E8 l t.Hits t.Hits.len)).T _=_;rw[h50 _ _ he.sh he.se (by rw[nN];omega) (by rw[nN];omega) (zlQ he hi),aY,zdK hc h0];have:((cmS (UM s l c)).2==0)=PE s l c:=by
  unfold cmS PE;by_cases h:(UM s l c).Low>(UM s l c).High;rw[dC h,dR omY];rfl;rw[dR h,dC omY];rfl
 rw[this]
abbrev zBO(C:Sl bg×Sl Int->ae (Sl bg)):Prop:=∀(l:Sl bg)(w:Sl Int),InH l w->w.len<=100->C (l,w)=.ok (E8 l w w.len)
theorem zWT{E:zfA}(N:Big E.N):zBO (zq9 E):=λl w hi h1=>ae.ext λk=>by
 rw[zUk,aY];refine kP (X:=λn i=>Ui E n l w (i:Int) (E8 l w i) k) (m:=w.len) (λn i kH=>?_) (λn=>?_) _ (by have:=N;omega);have a:=hi i kH;rw[zkm,dC omY,dO,bu omY,gm,bu a,jg (by rw[nN];omega) omY,bD omY];rfl;rw[zkm,dR omY];rfl
abbrev Q90(C:ak×Sl bg×Sl Int->ae Bool):Prop:=∀s l (w:Sl Int),Evt s l->InH l w->0<w.len->w.len<=100->C (s,l,w)=.ok (decide ((eG (CX s (E8 l w w.len)) (E8 l w w.len).len).Low<=(eG (CX s (E8 l w w.len)) (E8 l w w.len).len).High))
theorem s90{E:E90}(zz1:zBO E.c148)(zz2:zBM E.zul):Q90 (F90 E):=λs l w he hi h0 h1=>ae.ext λk=>by
 rw[e90,zz1 _ _ hi h1,aY,zz2 _ _ (by rw[nN];omega) (by rw[nN];omega) (zlQ he hi),aY,aY]
def zI(s:ak)(l:Sl bg)(c:iT):Bool:=PE s l c&&eH (nR s l c)
theorem Hl{s:ak}{l:Sl bg}{x:Int}{t:af}{c:iT}{j:Nat}(hc:dM t=c)(h:Val s l x c j):InH l t.Hits:=λi hi=>by
 have:=Ai hc hi;have m:=(h.mem _ (Ko this)).1;have:=h.le;simp only at m;omega
theorem JY{t:af}{c:iT}(hc:dM t=c)(hn:c≠[]):0<t.Hits.len:=by
 rw[<- iE,hc];exact qj6.2 hn
theorem pG{s:ak}{l:Sl bg}{x:Int}{t:af}{c:iT}{j:Nat}(hc:dM t=c)(h:Val s l x c j):t.Hits.len<=l.len:=by
 rw[<- iE,hc];have:=h.le;omega
structure Ev (s : ak) (l : Sl bg) (x : Int) : Prop extends Evt s l where
  l24:l.len<=24
  vw:vwB x=true
abbrev zBP(C:Pt aS×af->ae Bool):Prop:=∀s l r x t c j,Ev s l x->JV x t->dM t=c->Val s l x c j->c≠[]->C (iD s r l,t)=.ok (zI s l c)
theorem zWU{E:zrR}(h93:Q93 E.c93)(NR:zj0 E.c105)(zAG:zBm E.zuz):zBP (zrS E):=λs l r x t c j he ht hc hv hn=>ae.ext λk=>by
 have hl:=pG hc hv;have h24:=he.l24;have G:=CB he.toEvt he.l24 hv hn;obtain⟨y,hy⟩:=zAG (nR s l c) (by have:=G.2;omega);rw[zUW,h93 s l r t c he.toEvt (Hl hc hv) (JY hc hn) omY hc,aY,aY];unfold zI;cases PE s l c with
 | false=>rfl
 | true =>
  show(E.c105 (iD s r l,t)).T _=_;rw[NR s l r t he.toEvt omY (JW he.vw ht hc hv hn),aY,Cm hc,hy,aY,<- zBn G];rfl
abbrev ztn(C:ak×Sl bg×af->ae Bool):Prop:=∀s l x t c j,Ev s l x->JV x t->dM t=c->Val s l x c j->c≠[]->C (s,l,t)=.ok (zI s l c)
theorem zWV{E:zr6}(h65:Q65 E.c65)(XY:ztk E.c145)(h90:Q90 E.c90):ztn (zr7 E):=λs l x t c j he ht hc hv hn=>ae.ext λk=>by
 have hl:=pG hc hv;have h24:=he.l24;have G:=CB he.toEvt he.l24 hv hn;rw[zVc,h65 s l t he.toEvt omY (JW he.vw ht hc hv hn),aY,Cm hc,XY _ G,aY,h90 s l _ he.toEvt (Hl hc hv) (JY hc hn) omY,aY,zdK hc (JY hc hn),aY];unfold zI;show cond (eH (nR s l c)) (k (PE s l c)) (k false)=_;cases eH (nR s l c)<;>cases PE s l c<;>rfl
abbrev zBQ(C:Int×Pt (Pt aS)×Pt Int->ae Bool):Prop:=∀s l r i k,0<=i/\i<(l.len:Int)->0<=k/\k<(l.len:Int)->C (i,⟨iD s r l⟩,⟨k⟩)=.ok ((l.get i.toNat).ai==(l.get k.toNat).ai)
theorem zWW{E:zrP}:zBQ (zrQ E):=λs l r i k hi hk=>ae.ext λK=>by
 rw[zUU,aY];exact(bu (p:=0<=i/\i<(l.len:Int)) hi).trans (bu (p:=0<=k/\k<(l.len:Int)) hk)
abbrev zBR(C:Int×Pt (Pt aS)×Pt Int->ae Bool):Prop:=∀s l r i p,0<=i/\i<(l.len:Int)->C (i,⟨iD s r l⟩,⟨p⟩)=.ok ((l.get i.toNat).ai==p)
theorem zWX{E:zrY}:zBR (zrZ E):=λs l r i p hi=>ae.ext λK=>by
 rw[e190,aY];exact bu (p:=0<=i/\i<(l.len:Int)) hi
abbrev zfV:=dZ 180 Unit (Pt (Pt aS)×Pt Int) ⊕ dZ 190 Unit (Pt (Pt aS)×Pt Int)
def zto(l:Sl bg):zfV→Int→Bool|.inl c,h=>(l.get h.toNat).ai==(l.get c.v.2.v.toNat).ai|.inr c,h=>(l.get h.toNat).ai==c.v.2.v
def okU(s:ak)(l:Sl bg)(r:bF):zfV→Prop|.inl c=>c.v.1.v=iD s r l/\0<=c.v.2.v/\c.v.2.v<(l.len:Int)|.inr c=>c.v.1.v=iD s r l
abbrev QUx{γ:Type}(i:γ->zfV)(C:Sl Int×γ->ae Int):Prop:=∀s l r (w:Sl Int) (c:γ),InH l w->w.len<=1000->okU s l r (i c)->C (w,c)=.ok (fst (λj=>zto l (i c) (w.get j)) w.len 0)
abbrev QUa{γ:Type}(i:γ->zfV)(C:Sl Int×γ->ae Bool):Prop:=∀s l r (w:Sl Int) (c:γ),InH l w->w.len<=1000->okU s l r (i c)->C (w,c)=.ok (!fA (λj=>!zto l (i c) (w.get j)) w.len)
abbrev ztp(C:Sl Int×zfV->ae Int):Prop:=QUx id C
abbrev ztq(C:Sl Int×zfV->ae Bool):Prop:=QUa id C
theorem zlR{E:wo}(N:Big E.N)(zAR:zBQ E.zm7):QUx .inl (EH E):=λs l r w c hi hw ho=>ae.ext λk=>by
 obtain⟨⟨⟩,⟨a⟩,⟨b⟩⟩:=c;obtain⟨rfl,hb⟩:=ho;rw[zkS,aY];refine IP (L:=λn i=>xH E n w _ i k) (p:=λj=>zto l (.inl ⟨(),⟨iD s r l⟩,⟨b⟩⟩) (w.get j)) (m:=w.len) (k:=k) omY (λn i kH=>?_) (λn=>?_) _ (by have:=N;omega);rw [NY,dC omY,dO,bu omY,gm];show(E.zm7 (w.get i,⟨iD s r l⟩,⟨b⟩)).T _=_;rw[zAR s l r _ _ (hi i kH) hb,aY];rfl;rw[NY,dR omY];rfl
theorem zlS{E:wu}(N:Big E.N)(zAS:zBR E.zm9):QUx .inr (EI E):=λs l r w c hi hw ho=>ae.ext λk=>by
 obtain⟨⟨⟩,⟨a⟩,⟨b⟩⟩:=c;have ho:a=iD s r l:=ho;subst ho;rw[zkU,aY];refine IP (L:=λn i=>xI E n w _ i k) (p:=λj=>zto l (.inr ⟨(),⟨iD s r l⟩,⟨b⟩⟩) (w.get j)) (m:=w.len) (k:=k) omY (λn i kH=>?_) (λn=>?_) _ (by have:=N;omega);rw [NZ,dC omY,dO,bu omY,gm];show(E.zm9 (w.get i,⟨iD s r l⟩,⟨b⟩)).T _=_;rw[zAS s l r _ _ (hi i kH),aY];rfl;rw[NZ,dR omY];rfl
theorem zWY{f:Sl Int×dZ 180 Unit (Pt (Pt aS)×Pt Int)->ae Int}{g:Sl Int×dZ 190 Unit (Pt (Pt aS)×Pt Int)->ae Int}(a:QUx .inl f)(b:QUx .inr g):ztp (ae.two f g):=λs l r w c hi hw ho=>by
 rcases c with c|c
 exact a s l r w c hi hw ho;exact b s l r w c hi hw ho
theorem zlT{E:Et}(zbi:ztp E.c210):QUa .inl (Eu E):=λs l r w c hi hw ho=>ae.ext λk=>by rw[zkw,zbi s l r w (.inl c) hi hw ho,aY,aY,xO];rfl
theorem zlU{E:Ew}(zbi:ztp E.c210):QUa .inr (Ey E):=λs l r w c hi hw ho=>ae.ext λk=>by rw[zky,zbi s l r w (.inr c) hi hw ho,aY,aY,xO];rfl
theorem zWZ{f:Sl Int×dZ 180 Unit (Pt (Pt aS)×Pt Int)->ae Bool}{g:Sl Int×dZ 190 Unit (Pt (Pt aS)×Pt Int)->ae Bool}(a:QUa .inl f)(b:QUa .inr g):ztq (ae.two f g):=λs l r w c hi hw ho=>by
 rcases c with c|c
 exact a s l r w c hi hw ho;exact b s l r w c hi hw ho
theorem zdL{l:Sl bg}{t:af}{c:iT}(hc:dM t=c)(p:Int->Bool):(!fA (λj=>!p (t.Hits.get j)) t.Hits.len)=c.any λq=>p q.1:=by
 rw[VG,H6,<- qjr,dm,qjQ];constructor
 ·intro h;apply qdA;intro hn;refine h λj hj=>?_;cases e:p (t.Hits.get j)with|false=>rfl|true=>exact(hn ⟨_,Ko (Ai hc hj),e⟩).elim
 rintro⟨q,hq,e⟩ h;obtain⟨j,hj,rfl⟩:=qdD hq;have hl:j<t.Hits.len:=by rw[<- iE,hc];exact hj
 have:=Ai hc hl;rw[Au hj]at this;have:=PS this;have h2:=h j hl;rw[this]at e;rw[e]at h2;cases h2
def FQ(w:Sl af):List iT:=(List.range w.len).map λi=>dM (w.get i)
theorem lm(w:Sl af):(FQ w).length=w.len:=by simp[FQ]
theorem ztr{w:Sl af}{i:Nat}(h:i<w.len):(FQ w)[i]? = some (dM (w.get i)):=by simp[FQ,qjb h]
def zJ(x:Int)(w:Sl af):Prop:=∀i,i<w.len->JV x (w.get i)
theorem zdM(w:Sl af)(t:af):FQ (qB w t)=FQ w++[dM t]:=by
 unfold FQ;show(List.range (w.len+1)).map _=_;rw[qjx,PU];congr 1;exact qda λi hi=>by
  show dM (jy w.len w.get (λ_=>t) i)=_;rw[jQ,fH (by have:=Jp.1 hi;omega)]
 show [dM (jy w.len w.get (fun _=>t) w.len)]=_;rw[jQ,eY (kD _)]
theorem YB{x:Int}{w:Sl af}{t:af}(h:zJ x w)(ht:JV x t):zJ x (qB w t):=λi hi=>by
 show JV x (jy w.len w.get (λ_=>t) i);rw[jQ];by_cases e:w.len<=i;rw[eY e];exact ht;rw[fH e];exact h i omY
def UN(x:Int)(t:af)(p:Int×Int):af:=⟨x,⟨t.Hits.len+1,jy t.Hits.len t.Hits.get λ_=>p.1⟩,⟨t.aU.len+1,jy t.aU.len t.aU.get λ_=>p.2⟩⟩
theorem zdN{x:Int}{t:af}{p:Int×Int}(h:t.aU.len=t.Hits.len):dM (UN x t p)=dM t++[p]:=by
 refine zlK rfl (λj hj=>?_) ?_;show jy t.Hits.len t.Hits.get (fun _=>p.1) j=_∧jy t.aU.len t.aU.get (fun _=>p.2) j=_;rw[jQ,jQ,fH omY,fH omY];exact⟨rfl,rfl⟩;show jy t.Hits.len t.Hits.get (fun _=>p.1) t.Hits.len=_∧jy t.aU.len t.aU.get (fun _=>p.2) t.Hits.len=_;rw[jQ,jQ,eY omY,eY omY];exact⟨rfl,rfl⟩
theorem Hm{x:Int}{t:af}{p:Int×Int}(h:t.aU.len=t.Hits.len):JV x (UN x t p):=⟨rfl,by show t.aU.len+1=t.Hits.len+1;rw[h]⟩
abbrev zJn:=af×Int×Bc 143 (Pt aS)×Bc 38 Int×Bw 30 43 3 56 af×Bs 255 178 2 4×Unit
def kC(s:ak)(l:Sl bg)(x:Int):List iT:=gr (zI s l) (Bi l) (PD s l x) 30 [] 0
theorem zdO(s:ak)(l:Sl bg)(x:Int):Val s l x [] 0:=⟨⟨kD _,ui _⟩,(λp h=>by cases h),List.Pairwise.nil⟩
abbrev zJo(C:Pt aS×Int->ae (Sl af×Bool)):Prop:=∀s l r x,Ev s l x->(kC s l x).length<=2000->∃w,C (iD s r l,x)=.ok (w,true)/\FQ w=kC s l x/\zJ x w
abbrev zBU(C:af×Int×Int->ae af):Prop:=∀t i k,t.Hits.len<=1000->t.aU.len<=1000->C (t,i,k)=.ok (UN t.View t (i,k))
theorem zW0{E:zsy}:zBU (zsz E):=λt i k h1 h2=>ae.ext λK=>by
 rw[e227,aY,jg omY omY,jg omY omY,jg omY omY,jg omY omY];rfl
abbrev stC(s:ak)(l:Sl bg)(x:Int)(f:Nat)(c:iT):List iT->Int×Int->List iT:=λout p=>cond (Bi l c p.1||(decide (2000<out.length) || !zI s l (c++[p]))) out (O0 (zI s l) (Bi l) (PD s l x) f (out++[c++[p]]) (c++[p]) (p.1.toNat+1))
def QW(f:Nat)(C:(ak×Sl bg×af×Int)×Sl af->ae (Sl af)):Prop:=∀s l x t c (i:Nat) (w:Sl af),Ev s l x->Val s l x c i->dM t=c->JV x t->l.len<i+f->zJ x w->w.len<=2001 ->
 ∃w',C ((s,l,t,(i:Int)),w)=.ok w'/\FQ w'=O0 (zI s l) (Bi l) (PD s l x) f (FQ w) c i/\zJ x w'
theorem zlV{s:ak}{l:Sl bg}{x:Int}{f:Nat}{c:iT}{i:Int}(h:Bi l c i=true):∀(d k:Nat)(out:List iT),(sdK i d k).foldl (stC s l x f c) out=out
  | 0,_,_=>rfl
  | d+1,k,out=>by
    rw[sdK,VF];show(sdK i d (k+1)).foldl _ (cond (Bi l c i||_) out _)=out;rw[h];exact zlV h d (k+1) out
theorem YC{s:ak}{l:Sl bg}{x:Int}{f:Nat}{c:iT}{i:Int}:∀(d k:Nat)(out:List iT),2000<out.length→(sdK i d k).foldl (stC s l x f c) out=out
  | 0,_,_,_=>rfl
  | d+1,k,out,h=>by
    rw[sdK,VF];have:stC s l x f c out (i,(k:Int))=out:=by
      show cond (Bi l c i||(decide (2000<out.length)||_)) out _=out;rw[dC h,jqW,qjV];rfl
    rw[this];exact YC d (k+1) out h
theorem UO{ag:iT→Bool}{us:iT→Int→Bool}{sd:Nat→iT}:∀{f out c i},out.length≤2001→(O0 ag us sd f out c i).length≤2001
  | 0,out,c,i,h=>h
  | f+1,out,c,i,h=>by
    simp only[O0];generalize sd i=l
    induction l generalizing out with
    | nil=>exact h
    | cons p l ih =>
      rw[VF];refine ih _ ?_;cases hc:us c p.1||(decide (2000<out.length) || !ag (c++[p]))with
      | true=>exact h
      | false =>
        simp only[qd6,dqQ]at hc;exact UO (by rw[Jo];simp only[Bo,RQ];omega)
theorem zW1{E:zbj}{f:Nat}(N:Big E.N)(h87:Q87 E.c87)(h75:Q75 E.c75)(zAJ:zBU E.c227)(zbe:ztn E.c196)(hm:QW f E.OQ):QW (f+1) (zr5 E):=λs l x t c i w he hv hc ht hf hw hn=>by
 have h24:=he.l24;have hle:=hv.le;have hlen:=pG hc hv;have hN:=N
 -- the jr of one hit
 have inn:∀(n0:Nat)(a:Nat),i<=a->a<l.len->Po s l a=x->Bi l c (a:Int)=false->∀(m k n1:Nat)(w:Sl af),k+m=vT s l a->m<n1->zJ x w->w.len<=2001 ->
   ∃w',(∀(A:Type)(K:Sl af->Option A),xG E n0 n1 s l t (a:Int) (vS s (l.get a)) (k:Int) w K=sD E n0 s l t ((a+1:Nat):Int) w' K)/\FQ w'=(sdK (a:Int) m k).foldl (stC s l x f c) (FQ w)/\zJ x w':=by
  intro n0 a ha1 ha2 hva OT m
  induction m with
  | zero =>
   intro k n1 w hk hn1 hw hwl;obtain⟨n1,rfl⟩:∃n',n1=n'+1:=⟨n1-1,omY⟩;refine⟨w,λA K=>?_,rfl,hw⟩;rw[zbk,dR (by have:(vS s (l.get a)).len=vT s l a:=rfl;omega),dN,bD omY]
  | succ m ih =>
   intro k n1 w hk hn1 hw hwl;obtain⟨n1,rfl⟩:∃n',n1=n'+1:=⟨n1-1,omY⟩;have hgl:(vS s (l.get a)).len=vT s l a:=rfl;have hg2:=JM s l a;by_cases hfull:2000<w.len;refine⟨w,fun A K => ?_,(YC _ _ _ (by rw [lm];exact hfull)).symm,hw⟩;rw[zbk,dC omY,dO,dR omY,dN,bD omY]
   ·have hp : ((a : Int), (k : Int)) ∈ PD s l x i := (UG hle.2).2 ⟨by simp only; omega, by simpa using hva, by simp only; omega, by simp only [gm]; omega⟩;have hv2:=hv.snoc hp OT;have hc2:dM (UN x t ((a:Int),(k:Int)))=c ++ [((a:Int),(k:Int))]:=by rw[zdN ht.2,hc]
    have ag:=zbe s l x (UN x t ((a:Int),(k:Int))) _ _ he (Hm ht.2) hc2 hv2 (by simp);have st:∀(A:Type)(K:Sl af->Option A),xG E n0 (n1+1) s l t (a:Int) (vS s (l.get a)) (k:Int) w K=cond (zI s l (c++[((a:Int),(k:Int))])) ((E.OQ ((s,l,UN x t ((a:Int),(k:Int)),((a+1:Nat):Int)),qB w (UN x t ((a:Int),(k:Int))))).T λr3=>xG E n0 n1 s l t (a:Int) (vS s (l.get a)) ((k+1:Nat):Int) r3 K) (xG E n0 n1 s l t (a:Int) (vS s (l.get a)) ((k+1:Nat):Int) w K):=λA K=>by
     rw[zbk,dC omY,dO,dC omY,dO,zAJ _ _ _ omY (by rw[ht.2];omega),aY,ht.1,ag,aY,jg omY omY,bD omY,bD omY];rfl
    rw[sdK,VF];cases uT:zI s l (c++[((a:Int),(k:Int))])with
    | false =>
     have e:stC s l x f c (FQ w) ((a:Int),(k:Int))=FQ w:=by
      show cond (Bi l c (a:Int)||(_ || !zI s l (c++[((a:Int),(k:Int))]))) _ _=_;rw[uT,qdQ,qjV,qjV];rfl
     rw[e];obtain⟨w',a1,a2,a3⟩:=ih (k+1) n1 w omY omY hw hwl;exact⟨w',λA K=>by rw[st,uT];exact a1 A K,a2,a3⟩
    | true =>
     have e:stC s l x f c (FQ w) ((a:Int),(k:Int))=O0 (zI s l) (Bi l) (PD s l x) f (FQ w++[c++[((a:Int),(k:Int))]]) (c++[((a:Int),(k:Int))]) (a+1):=by
      show cond (Bi l c (a:Int)||(decide (2000<(FQ w).length) || !zI s l (c++[((a:Int),(k:Int))]))) _ _=_;rw[uT,OT,lm,dR hfull];rfl
     rw[e];obtain⟨w1,b1,b2,b3⟩:=hm s l x (UN x t ((a:Int),(k:Int))) _ (a+1) (qB w (UN x t ((a:Int),(k:Int)))) he hv2 hc2 (Hm ht.2) omY (YB hw (Hm ht.2)) (by show w.len+1<=_;omega);rw[zdM,hc2]at b2;have l1:w1.len<=2001:=by
      rw[<- lm,b2];exact UO (by rw[Jo,lm];simp only[Bo,RQ];omega)
     obtain⟨w',a1,a2,a3⟩:=ih (k+1) n1 w1 omY omY b3 l1;rw[b2]at a2;exact⟨w',λA K=>by rw[st,uT,dO,b1,aY];exact a1 A K,a2,a3⟩
 have zts:∀(ys:iT)(out:List iT),out.length<=2001->(ys.foldl (stC s l x f c) out).length<=2001:=by
  intro ys
  induction ys with
  | nil=>intro out h;exact h
  | cons p ys ih =>
   intro out h;rw[VF];refine ih _ ?_;show(cond (Bi l c p.1||(decide (2000<out.length) || !zI s l (c++[p]))) out _).length<=_;cases hq:Bi l c p.1||(decide (2000<out.length) || !zI s l (c++[p]))with
   | true=>exact h
   | false =>
    simp only[qd6,dqQ]at hq;exact UO (by rw[Jo];simp only[Bo,RQ];omega)
 have key:∀(d a n:Nat)(w:Sl af),a+d=l.len->i<=a->d<n->zJ x w->w.len<=2001->∃w',(∀(A:Type)(K:Sl af->Option A),sD E n s l t (a:Int) w K=K w')/\FQ w'=(sdL s l x d a).foldl (stC s l x f c) (FQ w)/\zJ x w':=by
  intro d
  induction d with
  | zero =>
   intro a n w ha hi hn hw hwl;obtain⟨n,rfl⟩:∃n',n=n'+1:=⟨n-1,omY⟩;exact⟨w,λA K=>by rw[zkJ,dR omY];rfl,rfl,hw⟩
  | succ d ih =>
   intro a n w ha hi hn hw hwl;obtain⟨n,rfl⟩:∃n',n=n'+1:=⟨n-1,omY⟩;have Jk:=he.pl (i:=a) omY;rw[sdL,jqd];have us:E.c87 (l,t.Hits,(l.get a).ai)=.ok (Bi l c (a:Int)):=by
    rw[h87 l t.Hits _ omY (Hl hc hv)];refine jX ae.ok ?_;have:=zdL (l:=l) hc λh=>(l.get h.toNat).ai==(l.get a).ai;unfold Bi;rw[gm,<- this];rfl
   have st:∀(A:Type)(K:Sl af->Option A),sD E (n+1) s l t (a:Int) w K=cond (Po s l a != x) (sD E n s l t ((a+1:Nat):Int) w K) (cond (Bi l c (a:Int)) (sD E n s l t ((a+1:Nat):Int) w K) (xG E n E.N s l t (a:Int) (vS s (l.get a)) ((0:Nat):Int) w K)):=λA K=>by
    rw[zkJ,dC omY,dO,bu omY,gm,bu Jk,us,aY,h75 s _ he.sh Jk,aY,bD omY,ht.1];rfl
   cases hv1:Po s l a==x with
   | false =>
    have e1:(Po s l a != x)=true:=by rw[bne,hv1];rfl
    rw[e1]at st;obtain⟨w',a1,a2,a3⟩:=ih (a+1) n w omY omY omY hw hwl;exact⟨w',λA K=>by rw[st];exact a1 A K,a2,a3⟩
   | true =>
    have e1:(Po s l a != x)=false:=by rw[bne,hv1];rfl
    rw[e1]at st;rw[dO];cases hu:Bi l c (a:Int)with
    | true =>
     rw[hu]at st;obtain⟨w',a1,a2,a3⟩:=ih (a+1) n w omY omY omY hw hwl;exact⟨w',λA K=>by rw[st];exact a1 A K,by rw[zlV hu];exact a2,a3⟩
    | false =>
     rw[hu]at st;obtain⟨w1,b1,b2,b3⟩:=inn n a hi omY (eq_of_beq hv1) hu (vT s l a) 0 E.N w omY (by have:=JM s l a;omega) hw hwl;have l1:w1.len<=2001:=by
      rw[<- lm,b2];exact zts _ _ (by rw[lm];exact hwl)
     obtain⟨w',a1,a2,a3⟩:=ih (a+1) n w1 omY omY omY b3 l1;rw[b2]at a2;exact⟨w',λA K=>by rw[st];exact(b1 A K).trans (a1 A K),a2,a3⟩
 obtain⟨w',a1,a2,a3⟩:=key (l.len-i) i E.N w omY (kD _) omY hw hn;refine⟨w',ae.ext λK=>by rw[e195,aY];exact a1 _ K,?_,a3⟩;rw[a2,O0];rfl
def UQ(s:ak)(l:Sl bg)(x:Int):List iT:=O0 (zI s l) (Bi l) (PD s l x) 30 [] [] 0
theorem zdP{s:ak}{l:Sl bg}{x:Int}(h:(UQ s l x).length<=2000):UQ s l x=kC s l x:=by
 have:=(zlA (f:=30) (out:=[]) (c:=[]) (i:=0)).2 h;rw[PT]at this;exact this
abbrev zBV(C:ak×Sl bg×Int->ae (Sl af×Bool)):Prop:=∀s l x,Ev s l x->∃w,C (s,l,x)=.ok (w,decide ((UQ s l x).length<=2000))/\FQ w=UQ s l x/\zJ x w/\w.len<=2001
theorem zW2{E:zrh}(hm:QW 30 E.OQ):zBV (zri E):=λs l x he=>by
 have h24:=he.l24;obtain⟨w',a,b,d⟩:=hm s l x ⟨x,⟨0,λ_=>default⟩,⟨0,λ_=>default⟩⟩ [] 0 ⟨0,λ_=>⟨0,⟨0,λ_=>default⟩,⟨0,λ_=>default⟩⟩⟩ he (zdO s l x) rfl ⟨rfl,rfl⟩ omY (λi hi=>absurd hi (RP i)) (ui _);have hb:FQ w'=UQ s l x:=b;refine⟨w',ae.ext λk=>?_,hb,d,?_⟩;rw [e153];show(E.OQ ((_,_,_,((0:Nat):Int)),_)).T _=_;rw[a,aY,aY];have:decide ((w'.len:Int)<=2000)=decide ((UQ s l x).length<=2000):=by rw[<- hb,lm];exact jqk.2 omY
 rw[this];rw[<- lm,hb];exact UO (ui _)
abbrev zBW(C:Int->ae Bool):Prop:=∀x,C x=.ok false
theorem zW3{E:zsI}:zBW (zsJ E):=λx=>ae.ext λk=>by rw[e237,aY,show(x != x)=false by simp]
abbrev zBX(C:Int×Int->ae Bool):Prop:=∀a b,C (a,b)=.ok (decide (a<b))
theorem zW4{E:zsG}(XZ:zs9 E.OO):zBX (zsH E):=λa b=>ae.ext λk=>by rw[zVE,XZ,aY,aY];rfl
theorem zBY{a:Int}(h:0<=a/\a<=1000000):aJ (I9 .u64 (IntKind.u64.wrap (aJ a)) 1)=a/2:=by
 have e1:aJ a=a:=aW omY omY;have e2:IntKind.u64.wrap a=a:=by
  have hb:IntKind.u64.bits=64:=rfl;have hs:IntKind.u64.signed=false:=rfl;unfold IntKind.wrap;rw[hb,hs];simp only[ZL,qdw,qd8];omega
 have e3:I9 .u64 a 1=a/2:=by
  show a.fdiv (2^(min (1:Int).toNat 64))=_;rw[Int.fdiv_eq_ediv_of_nonneg _ (by decide)];rfl
 rw[e1,e2,e3,aW omY omY]
def hasB(w:Sl Int)(x:Int):Bool:=!fA (λj=>!decide (w.get j=x)) w.len
theorem YD{w:Sl Int}{x:Int}:hasB w x=true↔∃j,j<w.len/\w.get j=x:=by
 unfold hasB;rw[H6,<- qjr,dm];constructor;intro h;apply qdA;intro hc;exact h λi hi=>by simpa using λe=>hc ⟨i,hi,e⟩
 rintro⟨j,hj,e⟩ h;have:=h j hj;simp[e]at this
def ztt(w:Sl Int):Prop:=∀i j,i<j->j<w.len->w.get i<w.get j
abbrev zBZ(C:Sl Int×Int->ae (Int×Bool)):Prop:=∀w x,ztt w->w.len<=1000->∃r,C (w,x)=.ok (r,hasB w x)
theorem zW5{E:zfL}(N:Big E.N)(zAO:zBX E.c236)(zAP:zBW E.znb):zBZ (zsh E):=λw x hw hl=>by
 have key:∀(d i j n:Nat),i+d=j->j<=w.len->d<n->(∀p,p<i->w.get p<x)->(∀p,j<=p->p<w.len->x<=w.get p)->∃r,∀(A:Type)(k:Int×Bool->Option A),zF E n w x (i:Int) (j:Int) k=k (r,hasB w x):=by
  intro d
  induction d using Nat.strongRecOn with
  | _ d ih =>
   intro i j n hd hj hn h1 h2;obtain⟨n,rfl⟩:∃n',n=n'+1:=⟨n-1,omY⟩;by_cases h0:d=0;have e:i=j:=by omega
   subst e;have no:(i<w.len->w.get i≠x)->hasB w x=false:=λhn=>by
    cases hb:hasB w x with
    | false=>rfl
    | true =>
     obtain⟨p,hp,e⟩:=YD.1 hb;rcases qdv p i with q|q|q
     have:=h1 p q;omega;subst q;exact absurd e (hn hp);have a:=hw i p q hp;have:=h2 i (kD _) omY;omega
   by_cases hi:i<w.len;by_cases hx:w.get i=x;refine⟨(i:Int),fun A k => ?_⟩;rw[Ut,dR omY,dN,dC omY,dO,bu omY,gm,show(w.get i==x)=true by simpa using hx,dO,YD.2 ⟨i,hi,hx⟩];refine⟨(i:Int),fun A k => ?_⟩;rw[Ut,dR omY,dN,dC omY,dO,bu omY,gm,show(w.get i==x)=false by simpa using hx,dN,bu omY,zAP,aY,no λ_=>hx];rfl;refine⟨(i:Int),fun A k => ?_⟩;rw[Ut,dR omY,dN,dR omY,dN,no λh=>absurd h hi];have em:aJ (I9 .u64 (IntKind.u64.wrap (aJ ((i:Int)+(j:Int)))) 1)=(((i+j)/2:Nat):Int):=by rw [zBY omY];omega
   generalize hm:(i+j)/2=m at em;have m1:i<=m/\m<j:=by omega
   have st:∀(A:Type)(k:Int×Bool->Option A),zF E (n+1) w x (i:Int) (j:Int) k=cond (decide (w.get m<x)) (zF E n w x ((m+1:Nat):Int) (j:Int) k) (zF E n w x (i:Int) (m:Int) k):=λA k=>by
    rw[Ut,em,dC omY,dO,bu omY,gm,zAO,aY,bD omY]
   by_cases c:w.get m<x;obtain⟨r,hr⟩:=ih (j-(m+1)) omY (m+1) j n omY hj omY (λp hp=>by
    by_cases e:p=m;rw[e];exact c;have:=hw p m omY omY;omega) h2
   exact⟨r,λA k=>by rw[st,dC c];exact hr A k⟩;obtain⟨r,hr⟩:=ih (m-i) omY i m n omY omY omY h1 (λp hp hp2=>by
    by_cases e:p=m;rw[e];omega;have:=hw m p omY hp2;omega)
   exact⟨r,λA k=>by rw[st,dR c];exact hr A k⟩
 obtain⟨r,hr⟩:=key w.len 0 w.len E.N omY (kD _) (by have:=N;omega) (λp hp=>absurd hp (RP p)) (λp h1 h2=>by omega);exact⟨r,ae.ext λk=>by rw[zVo,aY];exact hr _ k⟩
def gG(p:ai):Int:=cond (p.Kind==2) (aJ (p.aO.tdiv 2)) 0
def zJp(p:ai)(c:Nat):bY:=⟨aJ (aJ (p.First+aJ ((c:Int)*p.aO))-gG p),aJ (aJ (aJ (aJ (p.First+aJ ((c:Int)*p.aO))-gG p)+p.aO)-1)⟩
def Ho(p:ai):Nat→Nat→List (Int×bY)|0,_=>[]|m+1,c=>cond (hasB p.Dead (c:Int)) (Ho p m (c+1)) (((c:Int),zJp p c)::Ho p m (c+1))
abbrev zB1(I:Pt placed->ae (List (Int×bY))):Prop:=∀q:Pt placed,Vw q.v.ai->ztt q.v.ai.Dead->q.v.ai.Dead.len<=1000->I q=.ok (Ho q.v.ai q.v.ai.bG.toNat 0)
theorem zW6{E:zbl}(N:Big E.N)(zAN:zBZ E.zuw):zB1 (zAM E):=λq hp hi hl=>by
 refine Ec ?_ (λ_=>rfl) (λ_=>rfl);obtain⟨_,_,_,_,_,FT,_⟩:=hp;have key:∀(m c n:Nat),c+m=q.v.ai.bG.toNat->m<n->G6 E n q (gG q.v.ai) (c:Int)=some ((Ho q.v.ai m c).map dF.enc):=by
  intro m
  induction m with
  | zero =>
   intro c n hc hn;obtain⟨n,rfl⟩:∃n',n=n'+1:=⟨n-1,omY⟩;rw[zkL,dR omY];rfl
  | succ m ih =>
   intro c n hc hn;obtain⟨n,rfl⟩:∃n',n=n'+1:=⟨n-1,omY⟩;obtain⟨r,hr⟩:=zAN q.v.ai.Dead (c:Int) hi hl;rw[zkL,dC omY,dO,hr,aY,bD omY,ih (c+1) n omY omY];show cond (hasB q.v.ai.Dead (c:Int)) _ _=_;simp only[Ho];cases hasB q.v.ai.Dead (c:Int)<;>rfl
 have h0:=key q.v.ai.bG.toNat 0 E.N omY (by have:=N;omega);rw[e204];unfold gG at h0;revert h0;cases q.v.ai.Kind==2<;>exact id
def nxt:List (Int×bY)→Int→Int|[],n=>n|y::r,n=>nxt r (cond (decide (y.2.Low<=n)&&decide (n<=y.2.High)) (aJ (y.2.High+1)) n)
def UR(x:bY):Bool:=decide (-1000000<=x.Low/\x.Low<=x.High/\x.High<=1000000)
def zK(p:ai)(x:bY):Bool:=decide (nxt (Ho p p.bG.toNat 0) (aJ (x.Low-p.bf.High))>aJ (x.High-p.bf.Low))
theorem ztu{p:ai}(h:plB p=true):ztt p.Dead/\p.Dead.len<=100:=by
 simp only[plB,gq,lQ,dm]at h;obtain⟨⟨_,h1⟩,h2⟩:=h;refine⟨λi j=>?_,h1⟩;have step:∀j,j+1<p.Dead.len->p.Dead.get j<p.Dead.get (j+1):=λj hj=>by
  have:=h2 (j+1) hj;simp only[dB,gq,VE,lQ,qjz]at this;exact this.2.resolve_left omY
 intro Jm hj
 induction j with
 | zero=>omega
 | succ j ih =>
  have:=step j hj;by_cases e:i=j;rw[e];exact this;have:=ih omY omY;omega
abbrev zB2(C:ak×Int×bY->ae (Bool×Bool×Int)):Prop:=∀s (i:Nat) x,sV s->fD s=true->i<s.aj.len->∃b,C (s,(i:Int),x)=.ok (cond (UR x) (zK (s.aj.get i) x,b,0) (false,false,2))
theorem zW7{E:za4}(BR:QSe E.c160)(l7:BV E.iJ)(XE:zqn E.c164)(zgT:zB1 E.zgT):zB2 (zqE E):=λs i x hs hb hi=>by
 have hl:=oU hb;obtain⟨d1,d2⟩:=ztu (Nz hb hi);have key:∀(l:List (Int×bY))(lo hg nx:Int)(cn:Bool),∃b,∀(A:Type)(k:Bool×Bool×Int->Option A),uM E l s (i:Int) lo hg cn nx k=k (decide (nxt l nx>hg),b,0):=by
  intro l
  induction l with
  | nil=>intro lo hg nx cn;exact⟨cn,λA k=>zqF ..⟩
  | cons y l ih =>
   intro lo hg nx cn;have st:∃cn',∀(A:Type)(k:Bool×Bool×Int->Option A),uM E (y::l) s (i:Int) lo hg cn nx k=uM E l s (i:Int) lo hg cn' (cond (decide (y.2.Low<=nx)&&decide (nx<=y.2.High)) (aJ (y.2.High+1)) nx) k:=by
    have e2:∀cn' (A:Type) (k:Bool×Bool×Int->Option A),NG E l s (i:Int) lo hg cn' nx y.2 k=uM E l s (i:Int) lo hg cn' (cond (decide (y.2.Low<=nx)&&decide (nx<=y.2.High)) (aJ (y.2.High+1)) nx) k:=λcn' A k=>by
     rw[zAc];cases decide (y.2.Low<=nx)<;>cases decide (nx<=y.2.High)<;>rfl
    cases cn with
    | true=>exact⟨true,λA k=>by rw[za5];exact e2 _ A k⟩
    | false =>
     cases hd:decide (aJ (y.2.Low-(s.aj.get (i:Int).toNat).dL)<=hg)with|true=>exact⟨_,λA k=>by rw[za5,hd];exact e2 _ A k⟩|false=>exact⟨false,λA k=>by rw[za5,hd];exact e2 _ A k⟩
   obtain⟨cn',h⟩:=st;obtain⟨b,h2⟩:=ih lo hg (cond (decide (y.2.Low<=nx)&&decide (nx<=y.2.High)) (aJ (y.2.High+1)) nx) cn';exact⟨b,λA k=>by rw[h,h2];rfl⟩
 obtain⟨b,hk⟩:=key (Ho (s.aj.get i) (s.aj.get i).bG.toNat 0) (aJ (x.Low-(s.aj.get i).bf.High)) (aJ (x.High-(s.aj.get i).bf.Low)) (aJ (x.Low-(s.aj.get i).bf.High)) false;refine⟨b,ae.ext λk=>?_⟩;rw[e115,BR s hs,aY,hb,l7,aY,aY,uI omY,show inB (i:Int) 0 ((s.aj.len:Int)-1)=true from dC omY,XE _ _ omY,aY,bu omY,gm,zgT ⟨⟨s.aj.get i,(i:Int)⟩⟩ (xA hb hi) d1 (by show(s.aj.get i).Dead.len<=1000;omega),aY];show cond (!decide (-1000000<=x.Low/\x.Low<=x.High/\x.High<=1000000)) _ _=_;rw[show decide (-1000000<=x.Low/\x.Low<=x.High/\x.High<=1000000)=UR x from rfl];cases UR x with|false=>rfl|true=>exact hk _ k
/-! Fractions, rounded. -/
def FlK(f:aP):Prop:=(-100000000000000000<=f.Num/\f.Num<=100000000000000000)/\0<f.bQ/\f.bQ<=100000000000000000
abbrev ztv(C:aP->ae Int):Prop:=∀f,FlK f->C f=.ok (f.Num/f.bQ)
theorem YE{a b:Int}(h1 : -100000000000000000<=a/\a<=100000000000000000)(h2:0<b) : -100000000000000000<=a/b/\a/b<=100000000000000000:=by
 refine⟨Int.le_ediv_of_mul_le h2 ?_,?_⟩;have:=dq4 (show(1:Int)≤b by omega) (show(0:Int)≤100000000000000000 by omega);omega;rcases qdV a 0 with h|h
 have:=Int.ediv_neg_of_neg_of_pos h h2;omega;have:=Int.ediv_le_self b h;omega
theorem zW8{E:zr0}:ztv (zr1 E):=λf h=>ae.ext λk=>by
 obtain⟨h1,h2,h3⟩:=h;have q:=YE h1 h2;rw[zU4,aY];by_cases hn:f.Num<0;have e1:(-f.Num+f.bQ-1)/f.bQ = -(f.Num/f.bQ):=by
  have a:=qjX f.Num f.bQ;have b:=jqr f.Num (show f.bQ≠0 by omega);have c:=qj9 f.Num h2;refine((qd7 (r:=f.bQ-1-f.Num%f.bQ) h2).2 ⟨?_,omY,omY⟩).1;rw[qjk];omega
 rw[dC hn,dO,bu omY,aW (x:=0-f.Num) omY omY,aW (x:=0-f.Num+f.bQ) omY omY,aW (x:=0-f.Num+f.bQ-1) omY omY,qdG omY,show 0-f.Num+f.bQ-1 = -f.Num+f.bQ-1 by omega,e1,aW (x:=-(f.Num/f.bQ)) omY omY,show 0 - -(f.Num/f.bQ)=f.Num/f.bQ by omega,aW omY omY];rw[dR hn,dN,bu omY,qdG omY,aW omY omY]
abbrev zB4(C:aP->ae Int):Prop:=∀f,FlK f->C f=.ok (-(-f.Num/f.bQ))
theorem zW9{E:zr2}(zba:ztv E.PK):zB4 (zr3 E):=λf h=>ae.ext λk=>by
 obtain⟨h1,h2,h3⟩:=h;have q:=YE (a:=-f.Num) omY h2;rw[zU6,aW (x:=0-f.Num) omY omY,show 0-f.Num = -f.Num by omega,zba ⟨-f.Num,f.bQ⟩ ⟨by show _<=-f.Num/\-f.Num<=_;omega,h2,h3⟩,aY,aY];show k (aJ (0 - -f.Num/f.bQ))=_;rw[aW omY omY,show 0 - -f.Num/f.bQ = -(-f.Num/f.bQ)by omega]
def ls{α:Type}(w:Sl α):List α:=(List.range w.len).map w.get
theorem fK{α:Type}(w:Sl α):(ls w).length=w.len:=by simp[ls]
theorem UT{α:Type}{w:Sl α}{i:Nat}(h:i<w.len):(ls w)[i]? = some (w.get i):=by simp[ls,qjb h]
theorem ku{α:Type}{w:Sl α}{x:α}:x∈ls w↔∃i,i<w.len/\w.get i=x:=by simp[ls]
theorem QY{α:Type}[bI α][sU α](w:Sl α)(x:α):ls (qB w x)=ls w++[x]:=by
 unfold ls;show(List.range (w.len+1)).map _=_;rw[qjx,PU];congr 1;exact qda λi hi=>by
  show jy w.len w.get (λ_=>x) i=_;rw[jQ,fH (by have:=Jp.1 hi;omega)]
 show [jy w.len w.get (fun _=>x) w.len]=_;rw[jQ,eY (kD _)]
theorem Hq{α:Type}[bI α][sU α](a b:Sl α):ls (⟨a.len+b.len,jy a.len a.get b.get⟩:Sl α)=ls a++ls b:=by
 unfold ls;show(List.range (a.len+b.len)).map (jy a.len a.get b.get)=_;rw[List.range_add,PU,qdO];congr 1;exact qda λi hi=>by rw[jQ,fH (by have:=Jp.1 hi;omega)]
 exact qda λi _=>by
  show jy a.len a.get b.get (a.len+i)=_;rw[jQ,eY omY,Nat.add_sub_cancel_left]
theorem UU(w:Sl af):FQ w=(ls w).map dM:=by unfold FQ ls;rw[qdO];rfl
theorem zdQ{x:Int}{w:Sl af}:zJ x w↔∀t∈ls w,JV x t:=by
 constructor;intro h t ht;obtain⟨i,hi,rfl⟩:=ku.1 ht;exact h i hi;intro h i hi;exact h _ (ku.2 ⟨i,hi,rfl⟩)
def QZ{α:Type}[bI α](z:Nat→α)(p:α→Bool)(w:Sl α):Nat→Sl α|0=>⟨0,z⟩|i+1=>cond (p (w.get i)) (qB (QZ z p w i) (w.get i)) (QZ z p w i)
theorem xW{α:Type}[bI α](z:Nat→α)(p:α→Bool)(w:Sl α):∀n,(QZ z p w n).len≤n
  | 0=>kD _
  | n+1=>by
    have:=xW z p w n;simp only[QZ];cases p (w.get n)with|true=>show(QZ z p w n).len+1<=n+1;omega|false=>show(QZ z p w n).len<=n+1;omega
theorem UV{α:Type}[bI α][sU α](z:Nat→α)(p:α→Bool)(w:Sl α):∀n,ls (QZ z p w n)=((List.range n).map w.get).filter p
  | 0=>rfl
  | n+1=>by
    rw[qjx,PU,qjh,<- UV z p w n];simp only[QZ,nX,qdY];cases h:p (w.get n)with|true=>rw[dO,QY];simp[h]|false=>rw[dN];simp[h]
def usP(l:Sl bg)(c:iT)(i:Nat):Bool:=c.any λq=>(l.get q.1.toNat).ai==(i:Int)
def atB(g:Sl au)(p:ai):Bool:=cond ((opn' g p).2 != 0) false (cond (decide ((wJ g p.Z).1.Num/(wJ g p.Z).1.bQ < -1000000)) false (cond (decide (-(-(wJ g p.Z).2.Num/(wJ g p.Z).2.bQ)>1000000)) false
  (UR ⟨(wJ g p.Z).1.Num/(wJ g p.Z).1.bQ,-(-(wJ g p.Z).2.Num/(wJ g p.Z).2.bQ)⟩&&zK p ⟨(wJ g p.Z).1.Num/(wJ g p.Z).1.bQ,-(-(wJ g p.Z).2.Num/(wJ g p.Z).2.bQ)⟩)))
where opn' (g:Sl au) (p:ai):set×Int:=CW g ((g.get 0).Z==p.Z)
def UW(s:ak)(l:Sl bg)(x:Int)(c:iT)(i:Nat):Bool:=cond ((s.aj.get i).View != x) false (cond (usP l c i) false (atB (nR s l c) (s.aj.get i)))
def uO(s:ak)(l:Sl bg)(x:Int)(c:iT):List Int:=((List.range' 0 s.aj.len).filter (UW s l x c)).map Int.ofNat
theorem JZ{a b:Int}(h1 : -100000000000000000<=a)(h2:a<=100000000000000000)(hb:0<b)(VC:b<=100000000000000000):FlK (red a b):=by
 have r1:=Af (num:=a) hb;have r2:=Ha (num:=a) hb;have r3:=jH (num:=a) hb;exact⟨omY,omY,omY⟩
theorem zB5{g:Sl au}(G:bU g){z:Int}(hz:Oq z)(hc:fP g=false->0<(jI g).length):FlK (wJ g z).1/\FlK (wJ g z).2:=by
 have hg:=G.2;unfold wJ;cases hf:fP g with
 | true =>
  obtain⟨a,b⟩:=UL G.1 omY g.len (kD _);exact⟨JZ omY omY omY omY,JZ omY omY omY omY⟩
 | false =>
  obtain⟨⟨s,s1,s2⟩,_⟩:=zlG G z (hc hf);obtain⟨⟨t,t1,t2⟩,_⟩:=zlH G z (hc hf);have a:=UJ (kV G s1) hz;have b:=UJ (kV G t1) hz;rw[<- s2]at a;rw[<- t2]at b;exact⟨JZ omY omY omY omY,JZ omY omY omY omY⟩
theorem zwm{p:ai}(h:Vw p):Oq p.Z:=by
 obtain⟨_,_,hz,_⟩:=h;exact⟨omY,omY⟩
theorem zwn{g:Sl au}(G:bU g){b:Bool}(h:(CW g b).2=0):eH g=true/\(fP g=false->0<(jI g).length):=by
 unfold CW at h;rw[kE.2 G]at h;cases hs:eH g with
 | false=>rw[hs]at h;cases h
 | true =>
  refine⟨rfl,λhf=>?_⟩;unfold eH at hs;rw[hf,dN,lQ]at hs;omega
abbrev ztw(C:Pt aS×af->ae (Sl Int)):Prop:=∀s l r x t c j,Ev s l x->JV x t->dM t=c->Val s l x c j->c≠[]->∃w:Sl Int,C (iD s r l,t)=.ok w/\ls w=uO s l x c
theorem zXa{E:zfy}(N:Big E.N)(NR:zj0 E.c105)(za9:ztq E.OM)(zAq:zBK E.zm5)(zba:ztv E.PK)(zAr:zB4 E.zut)(zAs:zB2 E.zm6):ztw (zq3 E):=λs l r x t c j he ht hc hv hn=>by
 have hl:=pG hc hv;have h24:=he.l24;have G:=CB he.toEvt he.l24 hv hn;have hp:=oU he.se;have key:∀(m i n:Nat)(w:Sl Int),i+m=s.aj.len->m<n->w.len<=i->∃w':Sl Int,(∀(A:Type)(k:Sl Int->Option A),nH E n (iD s r l) t (nR s l c) (i:Int) w k=k w')/\ls w'=ls w++((List.range' i m).filter (UW s l x c)).map Int.ofNat:=by
  intro m
  induction m with
  | zero =>
   intro i n w hi hn hw;obtain⟨n,rfl⟩:∃n',n=n'+1:=⟨n-1,omY⟩;exact⟨w,λA k=>by rw[zkj,dR (by show ¬(i:Int)<(s.aj.len:Int);omega)];rfl,by simp⟩
  | succ m ih =>
   intro i n w hi hn hw;obtain⟨n,rfl⟩:∃n',n=n'+1:=⟨n-1,omY⟩;have Jk:=xA he.se (i:=i) omY;have hz:=zwm Jk;rw[ZJ];have st:∀(A:Type)(k:Sl Int->Option A),nH E (n+1) (iD s r l) t (nR s l c) (i:Int) w k=cond (UW s l x c i) (nH E n (iD s r l) t (nR s l c) ((i+1:Nat):Int) (qB w (i:Int)) k) (nH E n (iD s r l) t (nR s l c) ((i+1:Nat):Int) w k):=λA k=>by
    have u:E.OM (t.Hits,.inr ⟨(),⟨iD s r l⟩,⟨(i:Int)⟩⟩)=.ok (usP l c i):=by
     rw[za9 s l r t.Hits (.inr ⟨(),⟨iD s r l⟩,⟨(i:Int)⟩⟩) (Hl hc hv) omY rfl];exact jX ae.ok (zdL (l:=l) hc λh=>(l.get h.toNat).ai==(i:Int))
    rw[zkj,dC (show(i:Int)<((iD s r l).v.ak.aj.len:Int)by show(i:Int)<(s.aj.len:Int);omega),dO,bu (show 0<=(i:Int)/\(i:Int)<((iD s r l).v.ak.aj.len:Int)by show _/\(i:Int)<(s.aj.len:Int);omega),gm,u,aY,bD omY,ht.1];show cond ((s.aj.get i).View != x) _ _=_;unfold UW;cases(s.aj.get i).View != x with
    | true=>rfl
    | false =>
     simp only[dN];cases usP l c i with
     | true=>rfl
     | false =>
      simp only[dN];show(E.zm5 (nR s l c,(s.aj.get i).Z)).T _=_;rw[zAq _ _ G hz,aY];unfold atB atB.opn';cases ho:(CW (nR s l c) (((nR s l c).get 0).Z==(s.aj.get i).Z)).2 != 0 with
      | true =>
       simp only[dO];show cond ((CW (nR s l c) (((nR s l c).get 0).Z==(s.aj.get i).Z)).2 != 0) _ _=_;rw[ho];rfl
      | false =>
       obtain⟨_,hco⟩:=zwn G (by simpa using ho);obtain⟨b1,b2⟩:=zB5 G hz hco;simp only[dN];show(E.PK (wJ (nR s l c) (s.aj.get i).Z).1).T _=_;rw[zba _ b1,aY,zAr _ b2,aY];generalize (wJ (nR s l c) (s.aj.get i).Z).1.Num/(wJ (nR s l c) (s.aj.get i).Z).1.bQ=fa;generalize -(-(wJ (nR s l c) (s.aj.get i).Z).2.Num/(wJ (nR s l c) (s.aj.get i).Z).2.bQ)=fb;cases decide (fa < -1000000)with
       | true=>rfl
       | false =>
        cases decide (fb>1000000)with
        | true=>rfl
        | false =>
         simp only[dN];obtain⟨b,hb⟩:=zAs s i ⟨fa,fb⟩ he.sh he.se omY;show(E.zm6 (s,(i:Int),⟨fa,fb⟩)).T _=_;rw[hb,aY];cases UR ⟨fa,fb⟩with
         | false=>rfl
         | true =>
          show cond (zK (s.aj.get i) ⟨fa,fb⟩) (aV (room (w.len+1) 8) _) _=cond (true&&zK (s.aj.get i) ⟨fa,fb⟩) _ _;rw[jg omY omY];cases zK (s.aj.get i) ⟨fa,fb⟩<;>rfl
   cases hb:UW s l x c i with
   | true =>
    rw[hb]at st;obtain⟨w',a,b⟩:=ih (i+1) n (qB w (i:Int)) omY omY (by show w.len+1<=i+1;omega);exact⟨w',λA k=>by rw[st];exact a A k,by rw[b,QY];simp[hb]⟩
   | false =>
    rw[hb]at st;obtain⟨w',a,b⟩:=ih (i+1) n w omY omY omY;exact⟨w',λA k=>by rw[st];exact a A k,by rw[b];simp[hb]⟩
 obtain⟨w',a,b⟩:=key s.aj.len 0 E.N ⟨0,λ_=>0⟩ omY (by have:=N;omega) (kD _);refine⟨w',ae.ext λk=>?_,b⟩;rw[zUc,NR s l r t he.toEvt omY (JW he.vw ht hc hv hn),aY,Cm hc,aY];exact a _ k
def nU(s:ak)(l:Sl bg)(x:Int)(r:bF)(c:iT):Bool:=decide ((c.length:Int)>=r.mO)&&decide (((uO s l x c).length:Int)<=r.o7)
abbrev zB6(C:Pt aS×af->ae Bool):Prop:=∀s l r x t c j,Ev s l x->JV x t->dM t=c->Val s l x c j->c≠[]->C (iD s r l,t)=.ok (nU s l x r c)
theorem zXb{E:zqQ}(za7:ztw E.c141):zB6 (zqR E):=λs l r x t c j he ht hc hv hn=>ae.ext λk=>by
 obtain⟨w,h1,h2⟩:=za7 s l r x t c j he ht hc hv hn;rw[e129,h1,aY,aY];unfold nU;rw[<- h2,fK,<- hc,iE];show cond (decide ((t.Hits.len:Int)>=r.mO)) (k (decide ((w.len:Int)<=r.o7))) (k false)=_;cases decide ((t.Hits.len:Int)>=r.mO)<;>rfl
/-! Choices that contain others. -/
abbrev zB7(C:Sl Int×Int->ae Int):Prop:=∀(w:Sl Int) x,w.len<=1000->C (w,x)=.ok (fst (λj=>x==w.get j) w.len 0)
theorem zXc{E:zfC}(N:Big E.N):zB7 (zrg E):=λw x hw=>ae.ext λk=>by
 rw[e152,aY];refine IP (L:=λn i=>Uj E n w x i k) (p:=λj=>x==w.get j) (m:=w.len) (k:=k) omY (λn i hi=>?_) (λn=>?_) _ (by have:=N;omega);rw[zkp,dC omY,dO,bu omY,gm];rw[zkp,dR omY];rfl
theorem zlW(p:Nat→Bool):∀m i,0≤fst p m i→∃j:Nat,fst p m i=(j:Int)∧i≤j∧j<i+m∧p j=true
  | 0,i,h=>by simp[fst]at h
  | m+1,i,h=>by
    simp only[fst]at h ⊢;cases hp:p i with
    | true=>exact⟨i,rfl,kD _,omY,hp⟩
    | false =>
      rw[hp,dN]at h;obtain⟨j,a,b,c,d⟩:=zlW p m (i+1) h;exact⟨j,a,omY,omY,d⟩
structure One (t : af) : Prop where
  le:t.Hits.len<=100
  sd:t.aU.len=t.Hits.len
  un:∀i j,i<t.Hits.len->j<t.Hits.len->t.Hits.get i=t.Hits.get j->i=j
theorem nO{t:af}{p:Int×Int}:p∈dM t↔∃i,i<t.Hits.len/\t.Hits.get i=p.1/\t.aU.get i=p.2:=by
 unfold dM;simp only[uV,Jp];constructor;rintro⟨i,hi,rfl⟩;exact⟨i,hi,rfl,rfl⟩;rintro⟨i,hi,h1,h2⟩;exact⟨i,hi,by rw[h1,h2]⟩
abbrev Q92(C:af×af->ae Bool):Prop:=∀a b,One a->One b->C (a,b)=.ok (nK a b)
theorem s92{E:E92}(N:Big E.N)(zz4:zB7 E.c152):Q92 (F92 E):=λa b ha hb=>ae.ext λk=>by
 have la:=ha.le;have lb:=hb.le;rw[e92,aY,loopA (L:=λn i=>zdj E n a b i k) (p:=λi=>(dM a).contains (b.Hits.get i,b.aU.get i)) (m:=b.Hits.len) (fin:=k (a.View==b.View)) (stop:=k false) omY (λn i hi=>?_) (λn=>?_) _ (by have:=N;omega)];have e:nK a b=(fA (λi=>(dM a).contains (b.Hits.get i,b.aU.get i)) b.Hits.len&&(a.View==b.View)):=by
  unfold nK;congr 1;rw [VG,dm,zQ];constructor;intro h i hi;exact h _ (nO.2 ⟨i,hi,rfl,rfl⟩);intro h p hp;obtain⟨i,hi,h1,h2⟩:=nO.1 hp;have:=h i hi;rw[h1,h2]at this;exact this;rw[VG,Zy,Zy];exact eq_comm
 rw[e];cases fA (λi=>(dM a).contains (b.Hits.get i,b.aU.get i)) b.Hits.len<;>rfl;rw [zv7,dC omY,dO,bu omY,gm,zz4 _ _ omY,aY];by_cases h0:fst (λj=>b.Hits.get i==a.Hits.get j) a.Hits.len 0<0;have:(dM a).contains (b.Hits.get i,b.aU.get i)=false:=by
  cases hc:(dM a).contains (b.Hits.get i,b.aU.get i)with
  | false=>rfl
  | true =>
   obtain⟨j,hj,h1,_⟩:=nO.1 (qd4.1 hc);have:=(zdo (λj=>b.Hits.get i==a.Hits.get j) a.Hits.len 0).2 ⟨j,ui _,omY,by simp[h1]⟩;omega
 rw[dC h0,this];rfl;obtain⟨j,e,_,hj,hp⟩:=zlW (fun j=>b.Hits.get i==a.Hits.get j) a.Hits.len 0 omY;have sa:=ha.sd;have sb:=hb.sd;have hp:b.Hits.get i=a.Hits.get j:=eq_of_beq hp;rw[dR h0,dN,e,bu omY,bu omY,gm];have:(dM a).contains (b.Hits.get i,b.aU.get i)=(a.aU.get j==b.aU.get i):=by
  rw[VG,qd4,nO,Zy];constructor;rintro⟨q,hq,h1,h2⟩;have:=ha.un q j hq omY (h1.trans hp);rw[this]at h2;exact h2;intro h;exact⟨j,omY,hp.symm,h⟩
 rw[this,bne];cases a.aU.get j==b.aU.get i<;>rfl;rw[zv7,dR omY];rfl
theorem UX{s:ak}{l:Sl bg}{x:Int}{t:af}{c:iT}{j:Nat}(h24:l.len<=24)(ht:JV x t)(hc:dM t=c)(h:Val s l x c j):One t:=by
 have hl:=pG hc h;have lc:c.length=t.Hits.len:=by rw[<- hc,iE]
 refine⟨omY,ht.2,λa b ha hb e=>?_⟩;have pw:=qdi.1 h.pw;have ge:∀i (hi:i<t.Hits.len),c[i]'omY=(t.Hits.get i,t.aU.get i):=λi hi=>by
  have:=Ai hc hi;rw[Au omY]at this;exact PS this
 rcases qdv a b with q|q|q
 have:=(pw a b omY omY q).1;rw[ge a ha,ge b hb]at this;simp only at this;omega;exact q;have:=(pw b a omY omY q).1;rw[ge a ha,ge b hb]at this;simp only at this;omega
def sZ(a b:af):Bool:=decide ((a.Hits.len:Int)>(b.Hits.len:Int))&&nK a b
abbrev zB8(C:af×Pt af->ae Bool):Prop:=∀a (b:Pt af),One a->One b.v->C (a,b)=.ok (sZ a b.v)
theorem zXd{E:zqW}(h92:Q92 E.c92):zB8 (zqX E):=λa b ha hb=>ae.ext λk=>by
 rw[zT6,h92 _ _ ha hb,aY,aY];unfold sZ;cases decide ((a.Hits.len:Int)>(b.v.Hits.len:Int))<;>rfl
abbrev Q97(C:Sl af×dZ 132 Unit (Pt af)->ae Int):Prop:=∀(w:Sl af)(c:dZ 132 Unit (Pt af)),(∀t∈ls w,One t)->w.len<=10000->One c.v.v->C (w,c)=.ok (fst (λj=>sZ (w.get j) c.v.v) w.len 0)
theorem s97{E:E97}(N:Big E.N)(zz7:zB8 E.zuh):Q97 (F97 E):=λw c hw hl hc=>ae.ext λk=>by
 rw[e97,aY];refine IP (L:=λn i=>zdl E n w c i k) (p:=λj=>sZ (w.get j) c.v.v) (m:=w.len) (k:=k) omY (λn i hi=>?_) (λn=>?_) _ (by have:=N;omega);rw[zwb,dC omY,dO,bu omY,gm,zz7 _ _ (hw _ (ku.2 ⟨i,hi,rfl⟩)) hc,aY];rw[zwb,dR omY];rfl
theorem zlX{α:Type}{w:Sl α}{p:α->Bool}:(!fA (λj=>!p (w.get j)) w.len)=(ls w).any p:=by
 rw[VG,H6,<- qjr,dm,qjQ];constructor
 ·intro h;apply qdA;intro hn;refine h λj hj=>?_;cases e:p (w.get j)with|false=>rfl|true=>exact(hn ⟨_,ku.2 ⟨j,hj,rfl⟩,e⟩).elim
 rintro⟨q,hq,e⟩ h;obtain⟨j,hj,rfl⟩:=ku.1 hq;have:=h j hj;rw[e]at this;cases this
abbrev zB9(C:Sl af×dZ 132 Unit (Pt af)->ae Bool):Prop:=∀(w:Sl af)(c:dZ 132 Unit (Pt af)),(∀t∈ls w,One t)->w.len<=10000->One c.v.v->C (w,c)=.ok ((ls w).any λx=>sZ x c.v.v)
theorem zXf{E:zqU}(h97:Q97 E.c97):zB9 (zqV E):=λw c hw hl hc=>ae.ext λk=>by
 rw[zT4,h97 w c hw hl hc,aY,aY,xO (λj=>sZ (w.get j) c.v.v),zlX (p:=λx=>sZ x c.v.v)]
abbrev zCa(C:af×Pt (Pt found)->ae Bool):Prop:=∀t (f:Pt (Pt found)),(∀t∈ls f.v.v.fits,One t)->f.v.v.fits.len<=10000->One t->C (t,f)=.ok (!(ls f.v.v.fits).any λx=>sZ x t)
theorem zXg{E:zqS}(zAm:zB9 E.c131):zCa (zqT E):=λt f hf hl ht=>ae.ext λk=>by
 rw[zT2,zAm f.v.v.fits _ hf hl ht,aY,aY]
/-! Those that are as wanted. -/
abbrev UY:Nat->af:=λ_=>⟨0,⟨0,λ_=>0⟩,⟨0,λ_=>0⟩⟩
abbrev ztx:=dZ 129 (Pt aS) Unit ⊕ dZ 130 Unit (Pt (Pt found))
def yF:ztx→af→Bool|.inl c,t=>nU c.a.v.ak c.a.v.hits t.View c.a.v.rules (dM t)|.inr c,t=>!(ls c.v.v.v.fits).any λx=>sZ x t
structure lF (s : ak) (l : Sl bg) (t : af) : Prop where
  ev:Ev s l t.View
  tv:JV t.View t
  vl:∃j,Val s l t.View (dM t) j
  ne:dM t≠[]
theorem lF.one{s:ak}{l:Sl bg}{t:af}(h:lF s l t):One t:=by
 obtain⟨j,hj⟩:=h.vl;exact UX h.ev.l24 h.tv rfl hj
def okF:ztx→Sl af→Prop|.inl c,w=>∃s l r,c.a=iD s r l/\∀t∈ls w,lF s l t|.inr c,w=>(∀t∈ls w,One t)/\(∀t∈ls c.v.v.v.fits,One t)/\c.v.v.v.fits.len<=10000
abbrev QFi{γ:Type}(i:γ->ztx)(C:Sl af×γ->ae (Sl af×Unit)):Prop:=∀(w:Sl af)(c:γ),okF (i c) w->w.len<=10000->C (w,c)=.ok (QZ UY (yF (i c)) w w.len,())
abbrev zty(C:Sl af×ztx->ae (Sl af×Unit)):Prop:=QFi id C
theorem zlY{E:vW}(N:Big E.N)(zAk:zB6 E.zug):QFi .inl (En E):=λw c ho hl=>ae.ext λk=>by
 obtain⟨s,l,r,e,hc⟩:=ho;rw[zkf,aY];refine kP (X:=λn i=>rZ E n w c (i:Int) (QZ UY (yF (.inl c)) w i) k) (m:=w.len) (λn i hi=>?_) (λn=>?_) _ (by have:=N;omega);have h:=hc _ (ku.2 ⟨i,hi,rfl⟩);obtain⟨j,hj⟩:=h.vl;have:=xW UY (yF (.inl c)) w i;have e2:yF (.inl c) (w.get i)=nU s l (w.get i).View r (dM (w.get i)):=by show nU c.a.v.ak c.a.v.hits (w.get i).View c.a.v.rules (dM (w.get i))=_;rw[e];rfl
 rw[NP,dC omY,dO,bu omY,gm,e,zAk s l r _ _ _ j h.ev h.tv rfl hj h.ne,aY,jg omY omY,bD omY];simp only[QZ,e2];cases nU s l (w.get i).View r (dM (w.get i))<;>rfl;rw[NP,dR omY];rfl
theorem zlZ{E:vX}(N:Big E.N)(zAl:zCa E.c130):QFi .inr (Eo E):=λw c ho hl=>ae.ext λk=>by
 obtain⟨h1,h2,h3⟩:=ho;rw[zkh,aY];refine kP (X:=λn i=>su E n w c (i:Int) (QZ UY (yF (.inr c)) w i) k) (m:=w.len) (λn i hi=>?_) (λn=>?_) _ (by have:=N;omega);have:=xW UY (yF (.inr c)) w i;have e2:yF (.inr c) (w.get i) = !(ls c.v.v.v.fits).any λx=>sZ x (w.get i):=rfl;rw[NQ,dC omY,dO,bu omY,gm,zAl _ c.v h2 h3 (h1 _ (ku.2 ⟨i,hi,rfl⟩)),aY,jg omY omY,bD omY];simp only[QZ,e2];cases !(ls c.v.v.v.fits).any λx=>sZ x (w.get i)<;>rfl;rw[NQ,dR omY];rfl
theorem zXh{f:Sl af×dZ 129 (Pt aS) Unit->ae (Sl af×Unit)}{g:Sl af×dZ 130 Unit (Pt (Pt found))->ae (Sl af×Unit)}(a:QFi .inl f)(b:QFi .inr g):zty (ae.two f g):=λw c ho hl=>by
 rcases c with c|c
 exact a w c ho hl;exact b w c ho hl
/-! The order. -/
abbrev zCc(C:Int->ae Bool):Prop:=∀x,C x=.ok false
theorem zXi{E:zsp}:zCc (zsq E):=λx=>ae.ext λk=>by rw[e222,aY,show(x != x)=false by simp]
theorem zXj{E:zrU}(zrW:zCc E.c222):zbr (zrV E):=λa b=>ae.ext λk=>by
 rw[zU0,zrW,aY,zrW,aY,aY];unfold qY;cases decide (a<b)<;>cases decide (a>b)<;>rfl
abbrev YF(C:Sl Int×Sl Int->ae Int):Prop:=∀a b:Sl Int,a.len<=1000->b.len<=1000->C (a,b)=.ok (cmpL (mM a) (mM b))
theorem zXk{E:zfI}(N:Big E.N)(zbh:zbr E.c208):YF (zrX E):=λa b ha hb=>ae.ext λk=>by
 have key:∀(m i n:Nat),i+m=a.len->m<n->Ul E n a b (i:Int) k=k (cmpL ((List.range' i m).map a.get) ((List.range' i (b.len-i)).map b.get)):=by
  intro m
  induction m with
  | zero =>
   intro i n hi hn;obtain⟨n,rfl⟩:∃n',n=n'+1:=⟨n-1,omY⟩;rw[zkB,dR omY,dN,kc k];congr 1;cases h:b.len-i with|zero=>rw[dR omY];rfl|succ q=>rw[dC omY];rfl
  | succ m ih =>
   intro i n hi hn;obtain⟨n,rfl⟩:∃n',n=n'+1:=⟨n-1,omY⟩;rw[zkB,dC omY,dO,bu omY,ZJ,nX];cases h:b.len-i with
   | zero=>rw[dC omY];rfl
   | succ q =>
    rw[dR omY,dN,bu omY,gm,zbh,aY,bD omY,ih (i+1) n omY omY,ZJ,nX,kc k,show b.len-(i+1)=q by omega];rfl
 rw[e187,aY];have:=key a.len 0 E.N omY (by have:=N;omega);unfold mM;rw[dqZ,dqZ];exact this
theorem zCd(a b c:Int):gK [a,b,c] 0=a/\gK [a,b,c] 1=b/\gK [a,b,c] 2=c:=by
 refine⟨?_,?_,?_⟩;show(bI.dec (I8 (shp 8) (bI.enc a) (bI.enc a))).1=a;rw[mV (uq 8) (bI.sm _ _),sU.de];show(bI.dec (I8 (shp 8) (bI.enc a) (bI.enc b))).1=b;rw[mV (uq 8) (bI.sm _ _),sU.de];show(bI.dec (I8 (shp 8) (bI.enc a) (bI.enc c))).1=c;rw[mV (uq 8) (bI.sm _ _),sU.de]
abbrev zCe(C:Sl Int->ae Int):Prop:=∀a b c:Int,C ⟨3,gK [a,b,c]⟩=.ok (cond (a != 0) a (cond (b != 0) b c))
theorem zXl{E:zfH}(N:Big E.N):zCe (zrT E):=λa b c=>ae.ext λk=>by
 obtain⟨n,hn⟩:∃n,E.N=n+1+1+1+1:=⟨E.N-4,by have:=N;omega⟩;obtain⟨g0,g1,g2⟩:=zCd a b c;have st:∀n (i:Nat),i<3->G5 E (n+1) ⟨3,gK [a,b,c]⟩ (i:Int) k=cond (gK [a,b,c] i != 0) (k (gK [a,b,c] i)) (G5 E n ⟨3,gK [a,b,c]⟩ ((i+1:Nat):Int) k):=λn i hi=>by
  rw[zkA,dC (show(i:Int)<((3:Nat):Int)by omega),dO,bu (show 0<=(i:Int)/\(i:Int)<((3:Nat):Int)by omega),bD omY];rfl
 have en:∀n,G5 E (n+1) ⟨3,gK [a,b,c]⟩ ((3:Nat):Int) k=k 0:=λn=>by
  rw[zkA,dR (show ¬((3:Nat):Int)<((3:Nat):Int)by omega)];rfl
 rw[e185,aY,hn];refine(st _ 0 omY).trans ?_;rw[st _ 1 omY,st _ 2 omY,en,g0,g1,g2];by_cases h:c=0;subst h;cases a != 0<;>cases b != 0<;>rfl;rw [show(c != 0)=true by simpa using h];cases a != 0<;>cases b != 0<;>rfl
abbrev ztz(C:af×af->ae Int):Prop:=∀a b:af,One a->One b->C (a,b)=.ok (ztg a b)
theorem zXm{E:zqY}(zAo:zbr E.zur)(zq0:YF E.zm8)(zAp:zCe E.zuq):ztz (zqZ E):=λa b ha hb=>ae.ext λk=>by
 have a1:=ha.le;have a2:=ha.sd;have b1:=hb.le;have b2:=hb.sd;rw[zT8,zAo,aY,zq0 _ _ omY omY,aY,zq0 _ _ omY omY,aY,zAp,aY,aY];rfl
abbrev zCf(C:Sl Bool×Bool->ae Int):Prop:=∀(w:Sl Bool) x,w.len<=1000->C (w,x)=.ok (fst (λj=>x==w.get j) w.len 0)
theorem zXn{E:zfF}(N:Big E.N):zCf (zrL E):=λw x hw=>ae.ext λk=>by
 rw[zUP,aY];refine IP (L:=λn i=>Uk E n w x i k) (p:=λj=>x==w.get j) (m:=w.len) (k:=k) omY (λn i hi=>?_) (λn=>?_) _ (by have:=N;omega);rw[zku,dC omY,dO,bu omY,gm];rw[zku,dR omY];rfl
abbrev ztA(C:Sl Bool×Bool->ae Bool):Prop:=∀(w:Sl Bool) x,w.len<=1000->C (w,x)=.ok ((ls w).any λb=>x==b)
theorem zXo{E:zqN}(zAi:zCf E.zup):ztA (zqO E):=λw x hw=>ae.ext λk=>by
 rw[e126,zAi w x hw,aY,aY,xO (λj=>x==w.get j),zlX (p:=λb=>x==b)]
structure Jg (s : ak) (r : bF) (l : Sl bg) (f : found) : Prop where
  ev:f.aS=iD s r l
  fx:∃X Y:List af,ls f.fits=X++Y/\(∀t∈X,JV 1 t)/\(∀t∈Y,JV 2 t)/\X.map dM=(kC s l 1).filter (nU s l 1 r)/\Y.map dM=(kC s l 2).filter (nU s l 2 r)
  tr:(ls f.bn).Perm ((ls f.fits).filter λt=>!(ls f.fits).any λx=>sZ x t)
  st:(ls f.bn).Pairwise Hg
theorem Ou{s:ak}{l:Sl bg}{x:Int}{c:iT}(h:c∈kC s l x):(∃j,Ch (zI s l) (Bi l) (PD s l x) c j)/\c≠[]:=by
 refine⟨zwf .nil h,?_⟩;obtain⟨p,e,_,h⟩:=UE h;rw[h];simp
theorem Hr(s:ak)(l:Sl bg)(x:Int)(i:Nat):(PD s l x i).Nodup:=QU s l x _ _
theorem CJ {P : Int → iT → Bool} {x : Int} : ∀ {L : List af}, (∀ t ∈ L, t.View = x) → (L.filter fun t => P t.View (dM t)).map dM = (L.map dM).filter (P x)
  | [],_=>rfl
  | t::L,h=>by
    have ih:=CJ (P:=P) (L:=L) λu hu=>h u (jW _ hu);have e:=h t kX;rw[nX,qdN,qdN,e];by_cases hp:P x (dM t)=true;rw[eY hp,eY hp,nX,ih];rw[fH hp,fH hp,ih]
def Df(a b:af):Prop:=¬(a.View=b.View/\dM a=dM b)
theorem zCg{a b:af}(h:Df a b):Df b a:=λk=>h ⟨k.1.symm,k.2.symm⟩
theorem zwo{X:List af}(h:(X.map dM).Nodup):X.Pairwise Df:=by
 unfold List.Nodup at h;rw[qjM]at h;exact h.imp λhn k=>hn k.2
abbrev Q72(C:ak×bF×Sl bg×Sl Bool->ae (Int ⊕ (Pt found×Int))):Prop:=∀s r l (w:Sl Bool),sV s->l.len<=40->jY s r l=0->(kC s l 1).length<=2000->(kC s l 2).length<=2000->w.len<=10->(∀b∈ls w,b=true)->∃f:Pt found,C (s,r,l,w)=.ok (.inr (f,0))/\Jg s r l f.v
theorem s72{E:E72}(h78:Q78 E.c78)(XJ:ztA E.PH)(Zq:zJo E.c127)(zgV:zty E.FC)(zCh:ztz E.Vk):Q72 (F72 E):=λs r l w hs hl h0 n1 n2 hw hb=>by
  obtain⟨he,_,h24⟩:=JL hs h0;have ev1:Ev s l 1:={toEvt:=he,l24:=h24,vw:=rfl};have ev2:Ev s l 2:={toEvt:=he,l24:=h24,vw:=rfl};obtain⟨w1,a1,b1,c1⟩:=Zq s l r 1 ev1 n1;obtain⟨w2,a2,b2,c2⟩:=Zq s l r 2 ev2 n2;have ln1:w1.len<=2000:=by rw[<- lm,b1];exact n1
  have ln2:w2.len<=2000:=by rw[<- lm,b2];exact n2
  have cs:∀{x:Int}{w:Sl af},Ev s l x->FQ w=kC s l x->zJ x w->∀t∈ls w,t.View=x/\lF s l t:=fun {x w} ev hb hc t ht=>by
    have hv:=zdQ.1 hc t ht;have hm:dM t∈kC s l x:=by rw[<- hb,UU];exact qje ht
    obtain⟨⟨j,hj⟩,jk⟩:=Ou hm;have e:=hv.1;subst e;exact⟨rfl,ev,hv,⟨j,UH hj⟩,jk⟩
  have k1:=cs ev1 b1 c1;have k2:=cs ev2 b2 c2;have f1:=zgV w1 (.inl ⟨iD s r l,()⟩) ⟨s,l,r,rfl,λt ht=>(k1 t ht).2⟩ omY;have f2:=zgV w2 (.inl ⟨iD s r l,()⟩) ⟨s,l,r,rfl,λt ht=>(k2 t ht).2⟩ omY;have g1:ls (QZ UY (yF (id (.inl ⟨iD s r l,()⟩))) w1 w1.len)=(ls w1).filter λt=>nU s l t.View r (dM t):=UV _ _ _ _;have g2:ls (QZ UY (yF (id (.inl ⟨iD s r l,()⟩))) w2 w2.len)=(ls w2).filter λt=>nU s l t.View r (dM t):=UV _ _ _ _;have m1:=xW UY (yF (id (.inl ⟨iD s r l,()⟩))) w1 w1.len;have m2:=xW UY (yF (id (.inl ⟨iD s r l,()⟩))) w2 w2.len;generalize hu1:QZ UY (yF (id (.inl ⟨iD s r l,()⟩))) w1 w1.len=u1 at f1 g1 m1;generalize hu2:QZ UY (yF (id (.inl ⟨iD s r l,()⟩))) w2 w2.len=u2 at f2 g2 m2;have hX:(ls u1).map dM=(kC s l 1).filter (nU s l 1 r):=by
    rw[g1,CJ (P:=λx c=>nU s l x r c) (x:=1) λt ht=>(k1 t ht).1,<- b1,UU]
  have hY:(ls u2).map dM=(kC s l 2).filter (nU s l 2 r):=by
    rw[g2,CJ (P:=λx c=>nU s l x r c) (x:=2) λt ht=>(k2 t ht).1,<- b2,UU]
  have q1:∀t∈ls u1,t.View=1/\lF s l t:=λt ht=>by rw[g1]at ht;exact k1 t (RV.1 ht).1
  have q2:∀t∈ls u2,t.View=2/\lF s l t:=λt ht=>by rw[g2]at ht;exact k2 t (RV.1 ht).1
  let ft:Sl af:=⟨u1.len+u2.len,jy u1.len u1.get u2.get⟩;have hf:ls ft=ls u1++ls u2:=Hq u1 u2;have qf:∀t∈ls ft,lF s l t:=λt ht=>by
    rw[hf]at ht;rcases dX.1 ht with h|h
    exact(q1 t h).2;exact(q2 t h).2
  have dff:(ls ft).Pairwise Df:=by
    rw[hf,qdt];refine⟨zwo ?_,zwo ?_,λa ha b hb=>λk=>?_⟩;rw[hX];exact(ES (Hr s l 1) _ _ _).filter _;rw[hY];exact(ES (Hr s l 2) _ _ _).filter _;have:=(q1 a ha).1;have:=(q2 b hb).1;have:=k.1;omega
  let cl:dZ 130 Unit (Pt (Pt found)):=⟨(),⟨⟨⟨iD s r l,ft,⟨0,UY⟩⟩⟩⟩⟩;have lf:ft.len<=4000:=by show u1.len+u2.len<=4000;omega
  have f3:=zgV ft (.inr cl) ⟨λt ht=>(qf t ht).one,λt ht=>(qf t ht).one,by show ft.len<=10000;omega⟩ omY;have g3:ls (QZ UY (yF (id (.inr cl))) ft ft.len)=(ls ft).filter λt=>!(ls ft).any λx=>sZ x t:=UV _ _ _ _;have m3:=xW UY (yF (id (.inr cl))) ft ft.len;generalize hu3:QZ UY (yF (id (.inr cl))) ft ft.len=u3 at f3 g3 m3;have q3:∀t∈ls u3,lF s l t:=λt ht=>by rw[g3]at ht;exact qf t (RV.1 ht).1
  have df3:(ls u3).Pairwise Df:=by rw[g3];exact dff.sublist List.filter_sublist
  have in3:∀i,i<u3.len->lF s l (u3.get i):=λi hi=>q3 _ (ku.2 ⟨i,hi,rfl⟩);have ne3:∀i j,i<u3.len->j<u3.len->i≠j->Df (u3.get i) (u3.get j):=λi j hi hj Jm=>by
    have P:=qdi.1 df3;have ge:∀i (hi:i<u3.len),(ls u3)[i]'(by rw[fK];exact hi)=u3.get i:=λi hi=>by
      have:=UT hi;rw[Au (by rw[fK];exact hi)]at this;exact PS this
    rcases qdP i j with h|h
    have:=P i j (by rw [fK];exact hi) (by rw [fK];exact hj) h;rwa[ge i hi,ge j hj]at this;have:=P j i (by rw [fK];exact hj) (by rw [fK];exact hi) omY;rw[ge i hi,ge j hj]at this;exact zCg this
  obtain⟨hp,p,p1,p2,p3⟩:=zwe (C:=ae.un E.Vk) (caps:=[]) (ag:=true) (w:=u3) (cmp:=ztg) (R:=Hg) omY
    (λi j hi hj=>by
      show(E.Vk (u3.get i,u3.get j)).T _=_;rw[zCh _ _ (in3 i hi).one (in3 j hj).one];rfl)
    (λi j hi hj=>zth) (λi hi=>zdH _) (λi j hi hj Jm=>zdI λh=>ne3 i j hi hj Jm ⟨h.1,zlJ h.2.1 h.2.2 (in3 i hi).tv.2 (in3 j hj).tv.2⟩) (λi j _ _ h=>zlI h)
    (λi j k _ _ _ a b=>zbv a b)
  have pl:p.length=u3.len:=by rw[p1.length_eq,List.length_range]
  let tr:Sl af:=⟨u3.len,soG (ae.un E.Vk) [] true u3⟩;have ht:ls tr=p.map u3.get:=by
    refine jql (by rw[fK,qdn,pl]) λi h1 h2=>?_;have hi:i<u3.len:=by rw[fK]at h1;exact h1
    have:=UT (w:=tr) (i:=i) hi;rw[Au h1]at this;rw[PS this,List.getElem_map];exact p3 i omY
  refine⟨⟨⟨iD s r l,ft,tr⟩⟩,ae.ext λk=>?_,rfl,⟨ls u1,ls u2,hf,λt h=>?_,λt h=>?_,hX,hY⟩,?_,?_⟩;have no:((ls w).any λb=>false==b)=false:=by
    rw[qdI];intro b VC;rw[hb b VC];simp
  rw[e72,h78 s r l hs hl,aY];have eo:opn s r l=.inr (iD s r l,0):=by unfold opn;rw[h0];rfl
  rw[eo];show(E.PH (w,false)).T _=_;rw[XJ w false omY,aY,no];show(E.c127 (iD s r l,1)).T _=_;rw[a1,aY];show(E.FC (w1,.inl ⟨iD s r l,()⟩)).T _=_;rw[f1,aY];show aV (room u1.len 56) ((E.c127 (iD s r l,2)).T _)=_;rw[jg omY omY,a2,aY];show(E.FC (w2,.inl ⟨iD s r l,()⟩)).T _=_;rw[f2,aY];show aV (room (u1.len+u2.len) 56) ((E.FC (ft,.inr cl)).T _)=_;rw[jg omY omY,f3,aY];show zdf E (iD s r l) ft u3 k=_;rw[zIt,hp];rfl;have:=q1 t h;exact⟨this.1,this.2.tv.2⟩;have:=q2 t h;exact⟨this.1,this.2.tv.2⟩;show(ls tr).Perm _;rw[ht];show(p.map u3.get).Perm ((ls ft).filter λt=>!(ls ft).any λx=>sZ x t);rw[<- g3];exact p1.map _;show(ls tr).Pairwise Hg;rw[ht,qjM];exact p2
theorem zCi{s:straight}(S:yI s):(fB s).Start.Num*s.den=s.start*(fB s).Start.bQ/\(fB s).dK.Num*s.den=s.bH*(fB s).dK.bQ:=by
 have p:0<s.den:=by have:=S.2.2;omega
 have key:∀a,(red a s.den).Num*s.den=a*(red a s.den).bQ:=λa=>by
  have h1:=pF (num:=a) p;have h2:=nJ (num:=a) p;generalize (Int.gcd a s.den:Int)=G at h1 h2;generalize (red a s.den).Num=x at *;generalize (red a s.den).bQ=y at *;rw[<- h1,<- h2];ac_rfl
 exact⟨key _,key _⟩
abbrev Q76(C:Line×Int->ae aP):Prop:=∀s z,yI s->Oq z->C (fB s,z)=.ok (red (gX s z) s.den)
theorem s76{E:E76}(za2:zbo E.Ve)(h71:Oe E.c71):Q76 (F76 E):=λs z S hz=>ae.ext λk=>by
  obtain⟨h1,h2,h3,h4⟩:=zdx S;obtain⟨x1,x2⟩:=zCi S;have pd:0<s.den:=by have:=S.2.2;omega
  rw[e76,za2 _ _ omY omY omY,aY,aY];have hr:=lT (num:=(fB s).Start.bQ) (den:=(fB s).dK.bQ) h3.1;obtain⟨a,ha⟩:=zJd (fB s).Start.bQ (fB s).dK.bQ;obtain⟨b,hb⟩:=zJe (fB s).Start.bQ (fB s).dK.bQ;generalize (Int.gcd (fB s).Start.bQ (fB s).dK.bQ:Int)=r at hr ha hb ⊢;generalize (fB s).Start.bQ=A at *;generalize (fB s).dK.bQ=B at *;generalize (fB s).Start.Num=u at *;generalize (fB s).dK.Num=v at *;have pa:0<a:=by
    rcases qdV 0 a with h|h
    exact h;have:=dq4 h (uX hr);rw[jqg]at this;omega
  have pb:0<b:=by
    rcases qdV 0 b with h|h
    exact h;have:=dq4 h (uX hr);rw[jqg]at this;omega
  have aA:a<=A:=by
    have:=J9 (show(1:Int)<=r by omega) (uX pa);omega
  have bB:b<=B:=by
    have:=J9 (show(1:Int)<=r by omega) (uX pb);omega
  have e1:A.tdiv r=a:=by rw[ha,qdX _ omY]
  have e2:(a*B).tdiv A=b:=by
    have:a*B=A*b:=by rw[ha,hb];ac_rfl
    rw[this,qdX _ omY]
  have e3:(a*B).tdiv B=a:=by rw[jqZ,qdX _ omY]
  have m0:=qX (x:=a) (X:=100000) omY omY (uX h3.1) h3.2;have m1:=qX h2.1 h2.2 (y:=b) (Y:=100000) omY omY;have m2:=qX h1.1 h1.2 (y:=a) (Y:=100000) omY omY;have m3 : -40000000000000000<=v*a*z/\v*a*z<=40000000000000000:=by
    have hz1:=hz.1;have hz2:=hz.2;rcases qdV z 0 with h|h
    have:=qX (y := -z) (Y:=200000) m2.1 m2.2 omY omY;rw[qjk]at this;omega;have:=qX (y:=z) (Y:=200000) m2.1 m2.2 h omY;omega
  have pos:0<a*B:=qj4 pa h3.1
  rw[aW (x:=A.tdiv r) (by rw[e1];omega) (by rw[e1];omega),e1,aW (x:=a*B) omY omY,aW (x:=(a*B).tdiv A) (by rw[e2];omega) (by rw[e2];omega),aW (x:=(a*B).tdiv B) (by rw[e3];omega) (by rw[e3];omega),e2,e3,
    aW (x:=u*b) omY omY,aW (x:=v*a) omY omY,aW (x:=v*a*z) omY omY,aW (x:=u*b+v*a*z) omY omY,bu omY,bu omY,bu omY,h71 _ _ omY omY pos omY,aY]
  congr 1;refine(zbn pos pd).2 ?_;unfold gX;have f1:u*b*s.den=s.start*(a*B):=by
    calc u * b * s.den = u * s.den * b := by ac_rfl
      _=s.start*A*b:=by rw[x1]
      _=s.start*(a*B):=by rw[ha,hb];ac_rfl
  have f2:v*a*z*s.den=s.bH*z*(a*B):=by
    calc v * a * z * s.den = v * s.den * (a * z) := by ac_rfl
      _=s.bH*B*(a*z):=by rw[x2]
      _=s.bH*z*(a*B):=by ac_rfl
  rw[qjd,qjd,f1,f2]
/-! What a plane sees. -/
def nV(p:ai)(c:Int):bY:=⟨aJ (aJ (p.First+aJ (c*p.aO))-gG p),aJ (aJ (aJ (aJ (p.First+aJ (c*p.aO))-gG p)+p.aO)-1)⟩
abbrev zCj(C:ai×Int->ae (Int×Int)):Prop:=∀p c,C (p,c)=.ok ((nV p c).Low,(nV p c).High)
theorem zXq{E:zq1}:zCj (zq2 E):=λp c=>ae.ext λk=>by
 rw[zUa,aY];unfold nV gG;cases p.Kind==2<;>rfl
def Fa(p:ai)(lo hi:Int)(c:Nat):Bool:=hasB p.Dead (c:Int)&&(decide ((nV p (c:Int)).Low<=hi)&&decide ((nV p (c:Int)).High>=lo))
def Q3(p:ai)(x:bY):Bool:=(decide (aJ (x.Low-p.bf.High)>=(nV p 0).Low)&&decide (aJ (x.High-p.bf.Low)<=(nV p (aJ (p.bG-1))).High))&&fA (λc=>!Fa p (aJ (x.Low-p.bf.High)) (aJ (x.High-p.bf.Low)) c) p.bG.toNat
abbrev Q77(C:ai×bY->ae (Bool×Bool)):Prop:=∀p x,Vw p->Few p->∃b,C (p,x)=.ok (Q3 p x,b)
theorem s77{E:E77}(N:Big E.N)(zj3:zCj E.zgP)(zaU:zqo E.PI):Q77 (F77 E):=λp x hp hf=>by
  obtain⟨_,_,_,_,_,FT,_⟩:=hp;have key:∀(m c n:Nat)(lo hi:Int)(mu ca:Bool),c+m=p.bG.toNat->m<n->∃b,∀(A:Type)(k:Bool×Bool->Option A),nG E n p lo hi mu ca (c:Int) k=k (mu&&(List.range' c m).all (λc=>!Fa p lo hi c),b):=by
    intro m
    induction m with
    | zero =>
      intro c n lo hi mu ca hc hn;obtain⟨n,rfl⟩:∃n',n=n'+1:=⟨n-1,omY⟩;exact⟨ca,λA k=>by rw[zv1,dR omY];simp⟩
    | succ m ih =>
      intro c n lo hi mu ca hc hn;obtain⟨n,rfl⟩:∃n',n=n'+1:=⟨n-1,omY⟩;rw[ZJ];have st:∃ca',∀(A:Type)(k:Bool×Bool->Option A),nG E (n+1) p lo hi mu ca (c:Int) k=nG E n p lo hi (mu && !Fa p lo hi c) ca' ((c+1:Nat):Int) k:=by
        have hd:E.PI (p,(c:Int))=.ok (hasB p.Dead (c:Int)):=zaU p _ hf
        have e0:∀(A:Type)(k:Bool×Bool→Option A),nG E (n+1) p lo hi mu ca (c:Int) k=cond (hasB p.Dead (c:Int)) (cond (decide ((nV p (c:Int)).Low≤hi)) (cond (decide ((nV p (c:Int)).High≥lo)) (nG E n p lo hi false ca ((c+1:Nat):Int) k) (nG E n p lo hi mu ca ((c+1:Nat):Int) k)) (nG E n p lo hi mu ca ((c+1:Nat):Int) k))
            (nG E n p lo hi mu (cond (decide (aJ ((nV p (c:Int)).Low-p.dL)<=hi)) (cond (decide (aJ ((nV p (c:Int)).High+p.dL)>=lo)) true ca) ca) ((c+1:Nat):Int) k):=λA k=>by
          rw[zv1,dC omY,dO,zj3,aY,hd,aY,bD omY];cases hasB p.Dead (c:Int)with
          | true=>rfl
          | false =>
            simp only[dN];cases decide (aJ ((nV p (c:Int)).Low-p.dL)<=hi)with
            | false=>rfl
            | true =>
              simp only[dO];cases decide (aJ ((nV p (c:Int)).High+p.dL)>=lo)<;>rfl
        cases h1:hasB p.Dead (c:Int)with
        | false =>
          rw[h1]at e0;exact⟨_,λA k=>by rw[e0];simp only[Fa,h1,ZL,qdQ,qju];rfl⟩
        | true =>
          rw[h1]at e0;refine⟨ca,λA k=>?_⟩;rw[e0];simp only[Fa,h1,I5,dO];cases decide ((nV p (c:Int)).Low<=hi)<;>cases decide ((nV p (c:Int)).High>=lo)<;>simp
      obtain⟨ca',h⟩:=st;obtain⟨b,h2⟩:=ih (c+1) n lo hi (mu && !Fa p lo hi c) ca' omY omY;exact⟨b,λA k=>by rw[h,h2,qdZ,Bool.and_assoc]⟩
  have al:∀(q:Nat->Bool) n,(List.range' 0 n).all q=fA q n:=λq n=>by
    rw[VG,dm,zQ];exact⟨λh i hi=>h i (by simp;omega),λh i hi=>h i (by simp at hi;omega)⟩
  obtain⟨b,hb⟩:=key p.bG.toNat 0 E.N (aJ (x.Low-p.bf.High)) (aJ (x.High-p.bf.Low)) (decide (aJ (x.Low-p.bf.High)>=(nV p 0).Low)&&decide (aJ (x.High-p.bf.Low)<=(nV p (aJ (p.bG-1))).High)) false omY (by have:=N;omega);refine⟨b,ae.ext λk=>?_⟩;rw[e77,zj3,aY,zj3,aY,aY];have hb:=hb _ k;rw[al]at hb;refine Eq.trans ?_ hb;show cond (decide (aJ (x.Low-p.bf.High)>=(nV p 0).Low)) (nG E E.N p _ _ (decide (aJ (x.High-p.bf.Low)<=(nV p (aJ (p.bG-1))).High)) false 0 k) (nG E E.N p _ _ false false 0 k)=_;cases decide (aJ (x.Low-p.bf.High)>=(nV p 0).Low)<;>rfl
structure xX (s : ak) (l : Sl bg) (t : af) : Prop extends lF s l t where
  ag:zI s l (dM t)=true
/-! Choices that contain others: hits in their order. -/
structure zl0 (t : af) : Prop where
  le:t.Hits.len<=100
  sd:t.aU.len=t.Hits.len
  inc:ztt t.Hits
theorem zdR{s:ak}{l:Sl bg}{x:Int}{t:af}{c:iT}{j:Nat}(h24:l.len<=24)(ht:JV x t)(hc:dM t=c)(h:Val s l x c j):zl0 t:=by
 have hl:=pG hc h;have lc:c.length=t.Hits.len:=by rw[<- hc,iE]
 refine⟨omY,ht.2,λa b hab hb=>?_⟩;have pw:=qdi.1 h.pw;have ge:∀i (hi:i<t.Hits.len),c[i]'omY=(t.Hits.get i,t.aU.get i):=λi hi=>by
  have:=Ai hc hi;rw[Au omY]at this;exact PS this
 have:=(pw a b omY omY hab).1;rw[ge a omY,ge b hb]at this;exact this
theorem lF.inc{s:ak}{l:Sl bg}{t:af}(h:lF s l t):zl0 t:=by
 obtain⟨j,hj⟩:=h.vl;exact zdR h.ev.l24 h.tv rfl hj
abbrev Q53(C:af×af->ae Bool):Prop:=∀a b,zl0 a->zl0 b->C (a,b)=.ok (nK a b)
theorem s53{E:E53}(N:Big E.N):Q53 (F53 E):=λa b ha hb=>ae.ext λk=>by
 have la:=ha.le;have lb:=hb.le;have sa:=ha.sd;have sb:=hb.sd;have ia:=ha.inc;have ib:=hb.inc;have hN:=N;have key:∀(m i n q:Nat),i+m=b.Hits.len->m<n->q<=a.Hits.len->(∀p,p<q->i<b.Hits.len->a.Hits.get p<b.Hits.get i)->zde E n a b (q:Int) (i:Int) k=k ((List.range' i m).all (λi=>(dM a).contains (b.Hits.get i,b.aU.get i))&&(a.View==b.View)):=by
  intro m
  induction m with
  | zero =>
   intro i n q hi hn hq iM;obtain⟨n,rfl⟩:∃n',n=n'+1:=⟨n-1,omY⟩;rw[zvX,dR omY];rfl
  | succ m ih =>
   intro i n q hi hn hq iM;obtain⟨n,rfl⟩:∃n',n=n'+1:=⟨n-1,omY⟩;have hib:i<b.Hits.len:=by omega
   rw[zvX,dC omY,dO,ZJ,qdZ]
   -- the place where the hit can stand
   have adv:∀(d q n1:Nat),q+d=a.Hits.len->d<n1->(∀p,p<q->a.Hits.get p<b.Hits.get i)->∃q',q'<=a.Hits.len/\(∀p,p<q'->a.Hits.get p<b.Hits.get i)/\(q'<a.Hits.len->b.Hits.get i<=a.Hits.get q')/\QP E n n1 a b (q:Int) (i:Int) k=XH E n a b (q':Int) (i:Int) k:=by
    intro d
    induction d with
    | zero =>
     intro q n1 hq hn1 iM;obtain⟨n1,rfl⟩:∃n',n1=n'+1:=⟨n1-1,omY⟩;exact⟨q,omY,iM,λh=>by omega,by rw[zvY,dR omY];rfl⟩
    | succ d ih2 =>
     intro q n1 hq hn1 iM;obtain⟨n1,rfl⟩:∃n',n1=n'+1:=⟨n1-1,omY⟩;have st:QP E n (n1+1) a b (q:Int) (i:Int) k=cond (decide (a.Hits.get q<b.Hits.get i)) (QP E n n1 a b ((q+1:Nat):Int) (i:Int) k) (XH E n a b (q:Int) (i:Int) k):=by
      rw[zvY,dC omY,dO,bu omY,bu omY,gm,gm,bD omY]
     by_cases h:a.Hits.get q<b.Hits.get i;obtain⟨q',h1,h2,h3,h4⟩:=ih2 (q+1) n1 omY omY (λp hp=>by
      by_cases e:p=q;rw[e];exact h;exact iM p omY)
     exact⟨q',h1,h2,h3,by rw[st,dC h];exact h4⟩;exact⟨q,omY,iM,λ_=>by omega,by rw[st,dR h];rfl⟩
   obtain⟨q',h1,h2,h3,h4⟩:=adv (a.Hits.len-q) q E.N omY omY (λp hp=>iM p hp hib);rw[h4];have only:∀p,p<a.Hits.len->a.Hits.get p=b.Hits.get i->p=q':=λp hp e=>by
    rcases qdv p q' with h|h|h
    have:=h2 p h;omega;exact h;have:=ia q' p h hp;have:=h3 omY;omega
   rw[zIp];by_cases c1:q'=a.Hits.len;have:(dM a).contains (b.Hits.get i,b.aU.get i)=false:=by
    cases hc:(dM a).contains (b.Hits.get i,b.aU.get i)with
    | false=>rfl
    | true =>
     obtain⟨p,hp,e,_⟩:=nO.1 (qd4.1 hc);have:=only p hp e;omega
   rw[show((q':Int)==(a.Hits.len:Int))=true by rw[Zy];omega,this];rfl;rw [show((q':Int)==(a.Hits.len:Int))=false by rw [qdS];omega,dN,bu omY,bu omY,gm,gm];by_cases c2:a.Hits.get q'=b.Hits.get i
   ·have:(dM a).contains (b.Hits.get i,b.aU.get i)=(a.aU.get q'==b.aU.get i):=by
     rw[VG,qd4,nO,Zy];constructor;rintro⟨p,hp,e,e2⟩;rw[only p hp e]at e2;exact e2;intro h;exact⟨q',omY,c2,h⟩
    rw[show(a.Hits.get q' != b.Hits.get i)=false by simp[c2],dN,bu omY,bu omY,this,bD omY,bne];cases a.aU.get q'==b.aU.get i with
    | false=>rfl
    | true =>
     rw[I5];refine ih (i+1) n q' omY omY h1 (λp hp hi2=>?_);have:=h2 p hp;have:=ib i (i+1) omY hi2;omega
   have:(dM a).contains (b.Hits.get i,b.aU.get i)=false:=by
    cases hc:(dM a).contains (b.Hits.get i,b.aU.get i)with
    | false=>rfl
    | true =>
     obtain⟨p,hp,e,_⟩:=nO.1 (qd4.1 hc);rw[only p hp e]at e;exact absurd e c2
   rw[show(a.Hits.get q' != b.Hits.get i)=true by simpa using c2,this];rfl
 rw[e53,aY];refine(key b.Hits.len 0 E.N 0 omY omY (ui _) (λp hp=>absurd hp (RP p))).trans ?_;congr 1;unfold nK;congr 1;rw [VG,zQ,zQ];constructor;intro h p hp;obtain⟨i,hi,e1,e2⟩:=nO.1 hp;have:=h i (by simp;omega);rw[e1,e2]at this;exact this;intro h i hi;exact h _ (nO.2 ⟨i,by simp at hi;omega,rfl,rfl⟩);rw[VG,Zy,Zy];exact eq_comm
theorem s38{E:E38}(N:Big E.N):YF (F38 E):=λa b ha hb=>ae.ext λk=>by
 have key:∀(m i n:Nat),i+m=a.len->i<=b.len->m<n->zdc E n a b (i:Int) k=k (cmpL ((List.range' i m).map a.get) ((List.range' i (b.len-i)).map b.get)):=by
  intro m
  induction m with
  | zero =>
   intro i n hi hb hn;obtain⟨n,rfl⟩:∃n',n=n'+1:=⟨n-1,omY⟩;rw[zvS,dR omY,dN,zvT,zvU,dR (show ¬(a.len:Int)>(b.len:Int)by omega),dN,kc k];congr 1;cases h:b.len-i with|zero=>rw[dR omY];rfl|succ q=>rw[dC omY];rfl
  | succ m ih =>
   intro i n hi hb hn;obtain⟨n,rfl⟩:∃n',n=n'+1:=⟨n-1,omY⟩;rw[zvS,dC omY,dO,ZJ,nX];cases h:b.len-i with
   | zero=>rw[dR omY,dN,zvT,zvU,dR omY,dC (show(a.len:Int)>(b.len:Int)by omega)];rfl
   | succ q =>
    rw[dC omY,dO,bu omY,bu omY,bu omY,bu omY,gm,bD omY,ih (i+1) n omY omY omY,ZJ,nX,show b.len-(i+1)=q by omega];show _=k (cond (qY (a.get i) (b.get i) != 0) (qY (a.get i) (b.get i)) _);unfold qY;cases decide (a.get i<b.get i)<;>cases decide (a.get i>b.get i)<;>rfl
 rw[e38,aY];have:=key a.len 0 E.N omY (ui _) (by have:=N;omega);unfold mM;rw[dqZ,dqZ];exact this
theorem zJq{ag:iT->Bool}{us:iT->Int->Bool}{sd:Nat->iT}{c:iT}{j:Nat}(h:Ch ag us sd c j):c=[]\/ag c=true:=by
 cases h with|nil=>exact .inl rfl|snoc _ _ _ h=>exact .inr h
theorem zl1{ag:iT→Bool}{us:iT→Int→Bool}{sd:Nat→iT}:∀{f out c i},(∀x∈out,x≠[])→∀x∈O0 ag us sd f out c i,x≠[]
  | 0,out,c,i,h=>h
  | f+1,out,c,i,h=>by
    simp only[O0];generalize sd i=l
    induction l generalizing out with
    | nil=>exact h
    | cons p l ih =>
      rw[VF];refine ih _ ?_;cases us c p.1||(decide (2000<out.length) || !ag (c++[p]))with
      | true=>exact h
      | false =>
        refine zl1 λx hx=>?_;rcases dX.1 hx with hx|hx
        exact h x hx;rw[lN.1 hx];simp
theorem YG{s:ak}{l:Sl bg}{x:Int}(he:Ev s l x){t:af}(ht:JV x t)(hc:dM t∈UQ s l x):xX s l t:=by
 have ne:=zl1 (f:=30) (out:=[]) (λx h=>by cases h) _ hc;rcases zdy .nil hc with h|⟨j,hj⟩
 cases h;have e:=ht.1;subst e;exact {ev:=he,tv:=ht,vl:=⟨j,UH hj⟩,ne:=ne,ag:=(zJq hj).resolve_left ne}
theorem zCk{P:af->Prop}{w:Sl af}{t:af}(h:∀t∈ls w,P t)(ht:P t):∀u∈ls (qB w t),P u:=λu hu=>by
 rw[QY]at hu;rcases dX.1 hu with hu|hu
 exact h u hu;rw[lN.1 hu];exact ht
def qZ(s:ak)(l:Sl bg)(x:Int):Bool:=decide ((UQ s l x).length<=2000)
theorem zfW(t:af):nK t t=true:=wG.2 ⟨λ_ h=>h,rfl⟩
theorem ztB{a b c:af}(h1:nK b a=true)(h2:nK c b=true):nK c a=true:=by
 rw[wG]at *;exact⟨λp hp=>h2.1 p (h1.1 p hp),h1.2.trans h2.2⟩
theorem Jg.fit{s:ak}{r:bF}{l:Sl bg}{f:found}(h:Jg s r l f){t:af}(ht:t∈ls f.fits):(t.View=1\/t.View=2)/\JV t.View t/\dM t∈(kC s l t.View).filter (nU s l t.View r):=by
 obtain⟨X,Y,e,x1,y1,x2,y2⟩:=h.fx;rw[e]at ht;rcases dX.1 ht with h|h
 have a:=(x1 t h).1;exact⟨.inl a,⟨rfl,(x1 t h).2⟩,by rw[a,<- x2];exact qje h⟩;have a:=(y1 t h).1;exact⟨.inr a,⟨rfl,(y1 t h).2⟩,by rw[a,<- y2];exact qje h⟩
theorem Jg.has{s:ak}{r:bF}{l:Sl bg}{f:found}(h:Jg s r l f){x:Int}(hx:x=1\/x=2){c:iT}(hc:c∈(kC s l x).filter (nU s l x r)):∃t∈ls f.fits,t.View=x/\dM t=c:=by
 obtain⟨X,Y,e,x1,y1,x2,y2⟩:=h.fx;rcases hx with rfl|rfl
 rw [← x2]at hc;obtain⟨t,ht,he⟩:=uV.1 hc;exact⟨t,by rw[e];exact qdW _ ht,(x1 t ht).1,he⟩;rw [← y2]at hc;obtain⟨t,ht,he⟩:=uV.1 hc;exact⟨t,by rw[e];exact qjn _ ht,(y1 t ht).1,he⟩
theorem Jg.chosen{s:ak}{r:bF}{l:Sl bg}{f:found}(h:Jg s r l f)(he:Evt s l)(h24:l.len<=24){t:af}(ht:t∈ls f.fits):lF s l t:=by
 obtain⟨v,tv,m⟩:=h.fit ht;obtain⟨⟨j,hj⟩,ne⟩:=Ou (RV.1 m).1;exact {ev:={toEvt:=he,l24:=h24,vw:=dC v},tv:=tv,vl:=⟨j,UH hj⟩,ne:=ne}
theorem Jg.sub{s:ak}{r:bF}{l:Sl bg}{f:found}(h:Jg s r l f){t:af}(ht:t∈ls f.bn):t∈ls f.fits:=(RV.1 (h.tr.mem_iff.1 ht)).1
theorem Jg.max{s:ak}{r:bF}{l:Sl bg}{f:found}(h:Jg s r l f)(he:Evt s l)(h24:l.len<=24){t:af}(ht:t∈ls f.fits):∃m∈ls f.bn,nK m t=true:=by
 obtain⟨m,hm,h1,h2⟩:=zBt (F:=ls f.fits) (λt=>t.Hits.len) (λa b=>nK b a=true) zfW (λa b c h1 h2=>ztB h1 h2) 100 (λa ha=>(h.chosen he h24 ha).one.le) t ht;refine⟨m,h.tr.mem_iff.2 (RV.2 ⟨hm,?_⟩),h1⟩;rw[H6,qdI];intro x hx hg;unfold sZ at hg;rw[gq,lQ]at hg;exact h2 x hx ⟨by have:=hg.1;omega,hg.2⟩
theorem Jg.len{s:ak}{r:bF}{l:Sl bg}{f:found}(h:Jg s r l f)(n1:(kC s l 1).length<=2000)(n2:(kC s l 2).length<=2000):f.bn.len<=4000:=by
 obtain⟨X,Y,e,x1,y1,x2,y2⟩:=h.fx;have a:=h.tr.length_eq;rw[fK]at a;have b:=qd5 (λt=>!(ls f.fits).any λx=>sZ x t) (ls f.fits);rw[e,Jo]at b;have c:=jX List.length x2;have d:=jX List.length y2;rw[qdn]at c d;have:=qd5 (nU s l 1 r) (kC s l 1);have:=qd5 (nU s l 2 r) (kC s l 2);rw[e]at a;omega
theorem Fb{g:Sl au}{d x:Int}(hd:0≤d)(h0:0<g.len)(h:∀i,i<g.len→(g.get i).Low*d≤x∧x≤(g.get i).High*d):∀n,n≤g.len→(eG g n).Low*d≤x∧x≤(eG g n).High*d
  | 0,_=>h 0 h0
  | n+1,hn=>by
    obtain⟨a,b⟩:=Fb hd h0 h n omY;obtain⟨c,e⟩:=h n omY;simp only[eG];constructor;split<;>assumption;split<;>assumption
theorem zfX{a b x d:Int}(hd:0<d)(h1:a*d<=x)(h2:x<=b*d):a<=b:=dqV (qjW h1 h2) hd
theorem YJ{g:Sl au}(hf:fP g=true){s:straight}(ha:xP g s){z:Int}(hz:(g.get 0).Z=z):∀i,i<g.len->(g.get i).Low*s.den<=gX s z/\gX s z<=(g.get i).High*s.den:=λi hi=>by
 have:=xQ ha hi;rw[Hf.1 hf i hi,hz]at this;exact this
theorem ztC{g:Sl au}(G:bU g){s:straight}(hd:0<s.den)(ha:xP g s):eH g=true:=by
 have hg:=G.2;cases hf:fP g with
 | true =>
  obtain⟨a,b⟩:=Fb (uX hd) omY (YJ hf ha rfl) g.len (kD _);unfold eH;rw[hf,dO,lQ];exact zfX hd a b
 | false =>
  obtain⟨_,⟨c,c1,_⟩,_⟩:=lp omY (λh=>by rw[Hf.2 h]at hf;cases hf) hd ha;exact(Ak G hf).2 ⟨c,c1.1,c1.2⟩
def CY(a b:aP):Prop:=a.Num*b.bQ<=b.Num*a.bQ
theorem UZ{a b:aP}(h:¬Ag b a):CY a b:=by unfold Ag at h;unfold CY;omega
theorem qC{a b c:aP}(ha:0<a.bQ)(hb:0<b.bQ)(hc:0<c.bQ)(h1:CY a b)(h2:CY b c):CY a c:=by
 unfold CY at *;have y1:=J9 h1 (uX hc);have y2:=J9 h2 (uX ha);have z1:b.Num*a.bQ*c.bQ=b.Num*c.bQ*a.bQ:=by ac_rfl
 have z2:c.Num*b.bQ*a.bQ=c.Num*a.bQ*b.bQ:=by ac_rfl
 have z3:a.Num*b.bQ*c.bQ=a.Num*c.bQ*b.bQ:=by ac_rfl
 have:a.Num*c.bQ*b.bQ<=c.Num*a.bQ*b.bQ:=by omega
 exact dqV this hb
theorem Fe{a b:aP}(ha:0<a.bQ)(hb:0<b.bQ)(h:CY a b):a.Num/a.bQ<=b.Num/b.bQ:=by
 rw[Int.le_ediv_iff_mul_le hb];have h1:=jqs a.Num (show a.bQ≠0 by omega);unfold CY at h;refine dqV (?_:_*a.bQ<=_*a.bQ) ha;have h2:=J9 h1 (uX hb);have e:a.Num/a.bQ*b.bQ*a.bQ=a.Num/a.bQ*a.bQ*b.bQ:=by ac_rfl
 omega
theorem YL{a b:aP}(ha:0<a.bQ)(hb:0<b.bQ)(h:CY a b) : -(-a.Num/a.bQ)<=-(-b.Num/b.bQ):=by
 have:=Fe (a:=⟨-b.Num,b.bQ⟩) (b:=⟨-a.Num,a.bQ⟩) hb ha (by unfold CY at *;show -b.Num*a.bQ<=-a.Num*b.bQ;rw[qj3,qj3];omega);have : -b.Num/b.bQ<=-a.Num/a.bQ:=this;omega
theorem Am{a b:Int}(hb:0<b):CY (red a b) ⟨a,b⟩/\CY ⟨a,b⟩ (red a b):=by
 have h1:=pF (num:=a) hb;have h2:=nJ (num:=a) hb;unfold CY;generalize (Int.gcd a b:Int)=G at h1 h2;have e:(red a b).Num*b=a*(red a b).bQ:=by
  generalize (red a b).Num=x at *;generalize (red a b).bQ=y at *;rw[<- h1,<- h2];ac_rfl
 show(red a b).Num*b<=a*(red a b).bQ/\a*(red a b).bQ<=(red a b).Num*b;omega
theorem zl2{x y:straight}(X:yI x)(Y:yI y)(h:fB x=fB y)(z:Int):CY (IR z x) (IR z y):=by
  have a:=Oi X z;have b:=Oi Y z;rw[h]at a;have px:=UB Y;unfold CY;show gX x z*y.den<=gX y z*x.den;have e:gX x z*y.den*OZ (fB y)=gX y z*x.den*OZ (fB y):=by
    calc gX x z * y.den * OZ (fB y) = gX x z * OZ (fB y) * y.den := by ac_rfl
      _=plN (fB y) z*x.den*y.den:=by rw[a]
      _=plN (fB y) z*y.den*x.den:=by ac_rfl
      _=gX y z*OZ (fB y)*x.den:=by rw[b]
      _=gX y z*x.den*OZ (fB y):=by ac_rfl
  have:=jqv omY e;omega
theorem zl3{g:Sl au}(G:bU g){s:straight}(S:yI s)(ha:xP g s){z:Int}(ho:(CW g ((g.get 0).Z==z)).2=0):CY (wJ g z).1 (IR z s)/\CY (IR z s) (wJ g z).2/\0<(wJ g z).1.bQ/\0<(wJ g z).2.bQ:=by
 have hg:=G.2;have hd:0<s.den:=by have:=S.2.2;omega
 obtain⟨so,hc⟩:=zwn G ho;unfold wJ;cases hf:fP g with
 | true =>
  have hz:(g.get 0).Z=z:=by
   unfold CW at ho;rw[kE.2 G,so,hf]at ho;cases h:(g.get 0).Z==z with|true=>exact eq_of_beq h|false=>rw[h]at ho;cases ho
  obtain⟨a,b⟩:=Fb (uX hd) omY (YJ hf ha hz) g.len (kD _);rw[dO];have r1:=Am (a:=(eG g g.len).Low) (b:=1) omY;have r2:=Am (a:=(eG g g.len).High) (b:=1) omY;have p1:=jH (num:=(eG g g.len).Low) (den:=1) omY;have p2:=jH (num:=(eG g g.len).High) (den:=1) omY;refine⟨qC p1 (b:=⟨_,1⟩) (show(0:Int)<1 by omega) hd r1.1 ?_,qC hd (b:=⟨_,1⟩) (show(0:Int)<1 by omega) p2 ?_ r2.2,p1,p2⟩;show(eG g g.len).Low*s.den<=gX s z*1;omega;show gX s z*1<=(eG g g.len).High*s.den;omega
 | false =>
  have nf:¬Yw g:=λh=>by rw[Hf.2 h]at hf;cases hf
  obtain⟨hl,_,_⟩:=lp omY nf hd ha;obtain⟨⟨c,c1,c2⟩,e,e1,e2⟩:=hl z;have C:=kV G c1;have D:=kV G e1;have pc:0<c.den:=by have:=C.2.2;omega
  have pe:0<e.den:=by have:=D.2.2;omega
  have inn:∀{c:straight},uf g c->∃x∈jI g,fB x=fB c:=fun {c} hc=>(Uy hf).2.1 c hc.1 ((EP G (qA G hc.1)).2 hc.2);obtain⟨x,x1,x2⟩:=inn c1;obtain⟨y,y1,y2⟩:=inn e1;have X:=kV G (JS G x1);have Y:=kV G (JS G y1);have px:0<x.den:=by have:=X.2.2;omega
  have py:0<y.den:=by have:=Y.2.2;omega
  obtain⟨⟨u,u1,u2⟩,u3⟩:=zlG G z (hc hf);obtain⟨⟨v,v1,v2⟩,v3⟩:=zlH G z (hc hf);have pu:0<(loF g z).bQ:=by rw[u2];have:=(kV G u1).2.2;show 0<u.den;omega
  have pv:0<(hiF g z).bQ:=by rw[v2];have:=(kV G v1).2.2;show 0<v.den;omega
  have r1:=Am (a:=(loF g z).Num) pu;have r2:=Am (a:=(hiF g z).Num) pv;have p1:=jH (num:=(loF g z).Num) pu;have p2:=jH (num:=(hiF g z).Num) pv;rw[dN];refine⟨qC p1 pu hd r1.1 ?_,qC hd pv p2 ?_ r2.2,p1,p2⟩;refine qC pu (b:=IR z x) px hd (UZ (u3 x x1)) (qC (b:=IR z c) px pc hd (zl2 X C x2 z) ?_);exact c2;refine qC hd (b:=IR z y) py pv (qC (b:=IR z e) hd pe py ?_ (zl2 D Y y2.symm z)) (UZ (v3 y y1));exact e2
/-! What a plane must see. -/
theorem U0:∀{l:List (Int×bY)}{n h:Int},(∀t∈l,-1000000000000≤t.2.High∧t.2.High≤1000000000000)→nxt l n>h→∀y,n≤y→y≤h→∃t∈l,t.2.Low≤y∧y≤t.2.High
  | [],n,h,_,hn,y,h1,h2=>by have:n>h:=hn;omega
  | t::l,n,h,hb,hn,y,h1,h2=>by
    have mJ:=λu hu=>hb u (jW _ hu);have ht:=hb t kX;by_cases c:t.2.Low<=n/\n<=t.2.High;have e:nxt (t::l) n=nxt l (t.2.High+1):=by
      show nxt l (cond (decide (t.2.Low<=n)&&decide (n<=t.2.High)) (aJ (t.2.High+1)) n)=_;rw[dC c.1,dC c.2,aW omY omY];rfl
    rw[e]at hn;by_cases hy:y<=t.2.High;exact⟨t,kX,omY,hy⟩;obtain⟨u,a,b⟩:=U0 mJ hn y omY h2;exact⟨u,jW _ a,b⟩;have e:nxt (t::l) n=nxt l n:=by
      show nxt l (cond (decide (t.2.Low<=n)&&decide (n<=t.2.High)) (aJ (t.2.High+1)) n)=_;by_cases h1:t.2.Low<=n;rw[dR (show ¬n<=t.2.High from λh2=>c ⟨h1,h2⟩),ZK];rfl;rw[dR h1];rfl
    rw[e]at hn;obtain⟨u,a,b⟩:=U0 mJ hn y h1 h2;exact⟨u,jW _ a,b⟩
theorem U1{p:ai}(hp:Vw p):0<=gG p/\gG p<=p.aO:=by
 obtain⟨_,_,_,_,hpi,_⟩:=hp;have:0<=p.aO.tdiv 2/\p.aO.tdiv 2<=p.aO:=by rw[qdG omY];omega
 unfold gG;cases p.Kind==2 with|true=>rw[dO,aW omY omY];exact this|false=>rw[dN];omega
theorem xY{p:ai}(hp:Vw p){c:Int}(h1:0<=c)(h2:c<=2000):nV p c=⟨p.First+c*p.aO-gG p,p.First+c*p.aO-gG p+p.aO-1⟩/\0<=c*p.aO/\c*p.aO<=1000000000:=by
 have hh:=U1 hp;obtain⟨_,_,_,hf,hpi,_⟩:=hp;obtain⟨q1,q2⟩:=xy (a:=c) (b:=p.aO) omY omY;refine⟨?_,q1,q2⟩;unfold nV;rw[aW (x:=c*p.aO) omY omY,aW (x:=p.First+c*p.aO) omY omY,aW (x:=p.First+c*p.aO-gG p) omY omY,aW (x:=p.First+c*p.aO-gG p+p.aO) omY omY,aW omY omY]
theorem zL{p:ai}{t:Int×bY}:∀{m c:Nat},t∈Ho p m c→∃q:Nat,c≤q∧q<c+m∧hasB p.Dead (q:Int)=false∧t.2=nV p (q:Int)
  | m+1,c,h=>by
    simp only[Ho]at h;cases hd:hasB p.Dead (c:Int)with
    | true =>
      rw[hd]at h;obtain⟨q,a,b,d⟩:=zL h;exact⟨q,omY,omY,d⟩
    | false =>
      rw[hd]at h;rcases kS.1 h with h|h
      exact⟨c,kD _,omY,hd,by rw[h];rfl⟩;obtain⟨q,a,b,d⟩:=zL h;exact⟨q,omY,omY,d⟩
theorem zl4{p:ai}(hp:Vw p){X x:bY}(h:zK p X=true)(hX : -1000000<=X.Low/\X.High<=1000000)(h1:X.Low<=x.Low)(h2:x.Low<=x.High)(h3:x.High<=X.High):Q3 p x=true:=by
 have hh:=U1 hp;have ZE:=hp;obtain⟨_,_,_,hf,hpi,FT,hsp,ho,_⟩:=hp;unfold zK at h;rw[lQ,aW (x:=X.Low-p.bf.High) omY omY,aW (x:=X.High-p.bf.Low) omY omY]at h;have cov:∀y,X.Low-p.bf.High<=y->y<=X.High-p.bf.Low->∃q:Nat,(q:Int)<p.bG/\hasB p.Dead (q:Int)=false/\(nV p (q:Int)).Low<=y/\y<=(nV p (q:Int)).High:=λy y1 y2=>by
  obtain⟨t,ht,a,b⟩:=U0 (λt ht=>by
   obtain⟨q,_,q2,_,e⟩:=zL ht;obtain⟨e2,e3,e4⟩:=xY ZE (c:=(q:Int)) omY omY;rw[e,e2];show _<=p.First+q*p.aO-gG p+p.aO-1/\p.First+q*p.aO-gG p+p.aO-1<=_;omega) h y y1 y2
  obtain⟨q,_,q2,q3,e⟩:=zL ht;rw[e]at a b;exact⟨q,omY,q3,a,b⟩
 have ge:∀q:Nat,(q:Int)<p.bG->nV p (q:Int)=⟨p.First+q*p.aO-gG p,p.First+q*p.aO-gG p+p.aO-1⟩:=λq hq=>(xY ZE (c:=(q:Int)) omY omY).1;have mono:∀a b:Int,a<b->a*p.aO+p.aO<=b*p.aO:=λa b hab=>by
  have:=J9 (show a+1<=b by omega) (show 0<=p.aO by omega);rw[qjd,jqq]at this;exact this
 have nn:∀q:Nat,0<=(q:Int)*p.aO:=λq=>qd0 omY omY;unfold Q3;rw[aW (x:=x.Low-p.bf.High) omY omY,aW (x:=x.High-p.bf.Low) omY omY,aW (x:=p.bG-1) omY omY];simp only[gq,lQ,dm,H6];refine⟨⟨?_,?_⟩,λc hc=>?_⟩;obtain⟨q,q1,_,q3,_⟩:=cov (x.Low-p.bf.High) omY omY;rw[ge q q1]at q3;rw[(xY ZE (c:=0) omY omY).1];have:=nn q;show p.First+0*p.aO-gG p<=_;simp only at q3;omega;obtain⟨q,q1,_,_,q4⟩:=cov (x.High-p.bf.Low) omY omY;rw[ge q q1]at q4;rw[(xY ZE (c:=p.bG-1) omY omY).1];show _<=p.First+(p.bG-1)*p.aO-gG p+p.aO-1;simp only at q4;by_cases e:(q:Int)=p.bG-1;rw[<- e];exact q4;have:=mono q (p.bG-1) omY;omega
 ·cases hd:Fa p (x.Low-p.bf.High) (x.High-p.bf.Low) c with
  | false=>rfl
  | true =>
   simp only[Fa,gq,lQ]at hd;obtain⟨d1,d2,d3⟩:=hd;have gc:=ge c omY;rw[gc]at d2 d3;simp only at d2 d3;obtain⟨q,q1,q2,q3,q4⟩:=cov (if p.First+c*p.aO-gG p>=x.Low-p.bf.High then p.First+c*p.aO-gG p else x.Low-p.bf.High) (by split<;>omega) (by split<;>omega);rw[ge q q1]at q3 q4;simp only at q3 q4;rcases jqe (q:Int) (c:Int)with e|e|e
   have:=mono q c e;split at q4<;>omega;have:q=c:=by omega
   rw[this,d1]at q2;cases q2;have:=mono c q e;split at q3<;>omega
def zJr(s:ak)(l:Sl bg)(v:Int)(ln:straight)(time:Int)(i:Nat):Prop :=
 Po s l i=v/\((iL s (l.get i)).Low<=time/\time<=(iL s (l.get i)).High)/\∃k,k<vT s l i/\iQ ln ((vS s (l.get i)).get k)=true
structure Own (s : ak) (l : Sl bg) (v : Int) (ln : straight) (time : Int) (w : Sl Int) (i : Nat) : Prop where
  le:w.len<=i/\i<=l.len
  mem:∀j,j<w.len->(0<=w.get j/\w.get j<(i:Int))/\zJr s l v ln time (w.get j).toNat
  pw:∀j k,j<k->k<w.len->w.get j<w.get k/\(l.get (w.get j).toNat).ai≠(l.get (w.get k).toNat).ai
theorem Own.snoc{s:ak}{l:Sl bg}{v:Int}{ln:straight}{time:Int}{w:Sl Int}{i:Nat}(h:Own s l v ln time w i)(hi:i<l.len)(h1:zJr s l v ln time i)(h2:∀j,j<w.len->(l.get (w.get j).toNat).ai≠(l.get i).ai):Own s l v ln time (qB w (i:Int)) (i+1):=by
 have lo:∀j,j<w.len->(qB w (i:Int)).get j=w.get j:=λj hj=>by
  show jy w.len w.get (λ_=>(i:Int)) j=_;rw[jQ,fH omY]
 have kH:(qB w (i:Int)).get w.len=(i:Int):=by
  show jy w.len w.get (λ_=>(i:Int)) w.len=_;rw[jQ,eY (kD _)]
 refine⟨by have:=h.le;show w.len+1<=i+1/\_;omega,λj hj=>?_,λj k hjk hk=>?_⟩;have hj:j<w.len+1:=hj;by_cases e:j=w.len;rw[e,kH,gm];exact⟨omY,h1⟩;rw[lo j omY];have:=h.mem j omY;exact⟨by have:=this.1;omega,this.2⟩;have hk:k<w.len+1:=hk;by_cases e:k=w.len;subst e;rw[kH,lo j omY,gm];exact⟨by have:=(h.mem j omY).1;omega,h2 j omY⟩;rw[lo j omY,lo k omY];exact h.pw j k hjk omY
theorem ztD{n d:Int}(hd:0<d):n/d<=-(-n/d):=by
 have h1:=jqs n (show d≠0 by omega);have h2:=jqs (-n) (show d≠0 by omega);refine dqV (?_:_*d<=_*d) hd;rw[qj3];omega
structure E49 where
 N:Nat
 c109:(Sl au)->ae Bool
 zm4:(Sl au)×(Sl Int)->ae Bool
abbrev G49(E:E49):bK:=gU ((Tabs.nil.addF 109 (ae.un E.c109)).addF 110 (ae.un E.zm4)) []
def A49:dG:=bT aB 49 [] {}
def F49(E:E49):(Sl au)->ae ((Sl Int)×Int):=ae.ty (aF aB E.N (G49 E) A49 49)
section
variable(E:E49){A:Type}(k:((Sl Int)×Int)->Option A)
def Ov(E:E49)(n:Nat)(a0:Sl au)(uU:Int){A:Type}(k:((Sl Int)×Int)->Option A):Option A:=gW aB (G49 E) E.N A49 49 [1,1,1,0,1,0] [.n n] (gV k) ⟨[(0,eP a0),(4,.int (a0.len:Int)),(15,.int (a0.len:Int)),(16,.int uU)],[],[]⟩
def Q5(E:E49)(n0 n:Nat)(a0:Sl au)(v5 v6 uU:Int){A:Type}(k:((Sl Int)×Int)->Option A):Option A:=gW aB (G49 E) E.N A49 49 [1,1,1,0,1,0,0,1,1,0,0,1,1,0] [.n n0,.n n] (gV k) ⟨[(0,eP a0),(4,.int (a0.len:Int)),(5,.int v5),(6,.int v6),(15,.int (a0.len:Int)),(16,.int uU)],[],[]⟩
def Q7(E:E49)(n:Nat)(a0:Sl au)(v37:Int){A:Type}(k:((Sl Int)×Int)->Option A):Option A:=gW aB (G49 E) E.N A49 49 [1,1,1,1,0,1,0] [.n n] (gV k) ⟨[(0,eP a0),(4,.int (a0.len:Int)),(36,.int (a0.len:Int)),(37,.int v37)],[],[]⟩
def Q8(E:E49)(n0 n:Nat)(a0:Sl au)(v7 v8 v37:Int){A:Type}(k:((Sl Int)×Int)->Option A):Option A:=gW aB (G49 E) E.N A49 49 [1,1,1,1,0,1,0,0,1,1,0,0,1,1,0] [.n n0,.n n] (gV k) ⟨[(0,eP a0),(4,.int (a0.len:Int)),(7,.int v7),(8,.int v8),(36,.int (a0.len:Int)),(37,.int v37)],[],[]⟩
def Q9(E:E49)(n0 n1 n:Nat)(a0:Sl au)(v7 v8 v9 v37:Int){A:Type}(k:((Sl Int)×Int)->Option A):Option A:=gW aB (G49 E) E.N A49 49 [1,1,1,1,0,1,0,0,1,1,0,0,1,1,0,0,1,0,0,1,0] [.n n0,.n n1,.n n] (gV k) ⟨[(0,eP a0),(4,.int (a0.len:Int)),(7,.int v7),(8,.int v8),(9,.int v9),(36,.int (a0.len:Int)),(37,.int v37)],[],[]⟩
theorem e49(a0:Sl au):(F49 E (a0)).T k=(E.c109 a0).T λr1=>cond (!r1) (k ((⟨0,λ_=>default⟩:(Sl Int)),2)) (Ov E E.N a0 0 k):=dS
theorem zwp(n0:Nat)(a0:Sl au)(uU:Int):Ov E (n0+1) a0 uU k=cond (decide (uU<(a0.len:Int))) (Q5 E n0 E.N a0 uU (aJ (uU+1)) uU k) (Q7 E E.N a0 0 k):=krY
theorem zwq(n0 n1:Nat)(a0:Sl au)(v5 v6 uU:Int):Q5 E n0 (n1+1) a0 v5 v6 uU k=cond (decide (v6<(a0.len:Int))) ((E.zm4 (a0,(⟨2,(gK [v5,v6])⟩:(Sl Int)))).T λr1=>cond (!r1) (k ((⟨2,(gK [v5,v6])⟩:(Sl Int)),0)) (Q5 E n0 n1 a0 v5 (aJ (v6+1)) uU k)) (Ov E n0 a0 (aJ (uU+1)) k):=krY
theorem zwr(n0:Nat)(a0:Sl au)(v37:Int):Q7 E (n0+1) a0 v37 k=cond (decide (v37<(a0.len:Int))) (Q8 E n0 E.N a0 v37 (aJ (v37+1)) v37 k) (k ((⟨0,λ_=>default⟩:(Sl Int)),7)):=krY
theorem zwt(n0 n1:Nat)(a0:Sl au)(v7 v8 v37:Int):Q8 E n0 (n1+1) a0 v7 v8 v37 k=cond (decide (v8<(a0.len:Int))) (Q9 E n0 n1 E.N a0 v7 v8 (aJ (v8+1)) v37 k) (Q7 E n0 a0 (aJ (v37+1)) k):=krY
theorem zwu(n0 n1 n2:Nat)(a0:Sl au)(v7 v8 v9 v37:Int):Q9 E n0 n1 (n2+1) a0 v7 v8 v9 v37 k=cond (decide (v9<(a0.len:Int))) ((E.zm4 (a0,(⟨3,(gK [v7,v8,v9])⟩:(Sl Int)))).T λr1=>cond (!r1) (k ((⟨3,(gK [v7,v8,v9])⟩:(Sl Int)),0)) (Q9 E n0 n1 n2 a0 v7 v8 (aJ (v9+1)) v37 k)) (Q8 E n0 n1 a0 v7 (aJ (v8+1)) v37 k):=krY
end
theorem o49 [aC](E:E49)(NH:Ok aB 109 (ae.un E.c109))(ztE:Ok aB 110 (ae.un E.zm4)):Ok aB 49 (ae.un (F49 E)):=dU ((ax.nil.addF NH).addF ztE)
structure zfY where
 N:Nat
 CU:(Sl au)->ae set
 c159:set->ae Bool
abbrev zJt(E:zfY):bK:=gU ((Tabs.nil.addF 158 (ae.un E.CU)).addF 159 (ae.un E.c159)) []
def zJu:dG:=bT aB 110 [] {ks:=[(1,3,⟨[],[(5,20,101)],[],[],[],[],[]⟩)]}
def ztF(E:zfY):(Sl au)×(Sl Int)->ae Bool:=ae.ty (aF aB E.N (zJt E) zJu 110)
section
variable(E:zfY){A:Type}(k:Bool->Option A)
def U2(E:zfY)(n:Nat)(a0:Sl au)(a1:Sl Int)(v10:Int)(FO:Sl au){A:Type}(k:Bool->Option A):Option A:=gW aB (zJt E) E.N zJu 110 [1,1,0,1,0] [.n n] (gV k) ⟨[(0,eP a0),(5,.cl (.vec 20)),(8,eP a1),(9,.int (a1.len:Int)),(10,.int v10)],[(20,eV 101 3 24 FO)],[]⟩
theorem zXt(a0:Sl au)(a1:Sl Int):(ztF E (a0,a1)).T k=U2 E E.N a0 a1 0 (⟨0,(λ_=>(⟨0,0,0⟩:au))⟩:(Sl au)) k:=dS
theorem zl5(n0:Nat)(a0:Sl au)(a1:Sl Int)(v10:Int)(FO:Sl au):U2 E (n0+1) a0 a1 v10 FO k=cond (decide (v10<(a1.len:Int))) (aV (decide (0<=v10/\v10<(a1.len:Int))) (aV (decide (0<=a1.get v10.toNat/\a1.get v10.toNat<(a0.len:Int))) (aV (room (FO.len+1) 24) (U2 E n0 a0 a1 (aJ (v10+1)) (⟨(FO.len+1),(jy FO.len FO.get (λ_=>(a0.get (a1.get v10.toNat).toNat)))⟩:(Sl au)) k)))) ((E.CU FO).T λr1=>(E.c159 r1).T λr2=>k r2):=krY
end
theorem zXu [aC](E:zfY)(NI:Ok aB 158 (ae.un E.CU))(NJ:Ok aB 159 (ae.un E.c159)):Ok aB 110 (ae.un (ztF E)):=dU ((ax.nil.addF NI).addF NJ)
def adS(a b:straight):straight:=⟨a.bH+b.bH,a.start+b.start,a.den+b.den⟩
def smS(k:Int)(a:straight):straight:=⟨k*a.bH,k*a.start,k*a.den⟩
structure Jh (K : straight → Prop) : Prop where
  zero:K ⟨0,0,0⟩
  add:∀{a b},K a->K b->K (adS a b)
  mul:∀{k a},0<=k->K a->K (smS k a)
theorem zfZ(g:au):Jh (λs=>iQ s g=true):=by
 refine⟨dC (by unfold gX;simp only;omega),fun {a b} ha hb=>dC ?_,fun {k a} hk ha=>dC ?_⟩;have ha:=qdo ha;have hb:=qdo hb;unfold gX adS at *;simp only;constructor<;>grind;obtain⟨h1,h2⟩:=qdo ha;have x1:=dq4 h1 hk;have x2:=dq4 h2 hk;unfold gX smS at *;simp only;constructor<;>grind
theorem zl6{K L:straight->Prop}(hK:Jh K)(hL:Jh L):Jh (λs=>K s/\L s) :=
 ⟨⟨hK.zero,hL.zero⟩,λa b=>⟨hK.add a.1 b.1,hL.add a.2 b.2⟩,λk a=>⟨hK.mul k a.1,hL.mul k a.2⟩⟩
def pos(x:Int):Int:=if 0<x then x else 0
theorem Ox(x:Int):0<=pos x:=by unfold pos;split<;>omega
theorem Ff(x:Int):pos x-pos (-x)=x:=by unfold pos;split<;>split<;>omega
theorem zl7{x:Int}(h:x<=0):pos x=0:=by unfold pos;rw[fH omY]
theorem zXv(x1 y1 x2 y2 x3 y3:Int):∃c1 c2 c3:Int,(c1≠0\/c2≠0\/c3≠0)/\c1*x1+c2*x2+c3*x3=0/\c1*y1+c2*y2+c3*y3=0:=by
 by_cases h:x1*y2-x2*y1=0;by_cases hx:x1=0∧x2=0;by_cases hy:y1=0∧y2=0;exact⟨1,0,0,.inl (by decide),by rw[hx.1];omega,by rw[hy.1];omega⟩;exact⟨y2,-y1,0,omY,by rw[hx.1,hx.2];omega,by grind⟩;exact⟨x2,-x1,0,omY,by grind,by grind⟩;exact⟨x2*y3-x3*y2,x3*y1-x1*y3,x1*y2-x2*y1,.inr (.inr h),by grind,by grind⟩
theorem zXw{a b c d:straight}(hd:0<d.den):∃k1 k2 k3 k4:Int,(k1≠0\/k2≠0\/k3≠0\/k4≠0)/\k1*a.bH+k2*b.bH+k3*c.bH+k4*d.bH=0/\k1*a.start+k2*b.start+k3*c.start+k4*d.start=0/\k1*a.den+k2*b.den+k3*c.den+k4*d.den=0:=by
 obtain⟨c1,c2,c3,hc,e1,e2⟩:=zXv (d.den*a.bH-a.den*d.bH) (d.den*a.start-a.den*d.start) (d.den*b.bH-b.den*d.bH) (d.den*b.start-b.den*d.start) (d.den*c.bH-c.den*d.bH) (d.den*c.start-c.den*d.start);refine⟨c1*d.den,c2*d.den,c3*d.den,-(c1*a.den+c2*b.den+c3*c.den),?_,by grind,by grind,by grind⟩;rcases hc with h|h|h
 exact .inl (jqt h omY);exact .inr (.inl (jqt h omY));exact .inr (.inr (.inl (jqt h omY)))
def zf0(k1 k2 k3 k4:Int)(a b c d:straight):straight:=adS (adS (smS k1 a) (smS k2 b)) (adS (smS k3 c) (smS k4 d))
theorem ztG(a:straight):smS 0 a=⟨0,0,0⟩:=by unfold smS;simp
theorem zJv{A B C D:straight→Prop}(hA:Jh A)(hB:Jh B)(hC:Jh C)(hD:Jh D){a b c d:straight}(pa:0<a.den)(pb:0<b.den)(pc:0<c.den)(pd:0<d.den)
    (ha:B a/\C a/\D a) (hb:A b/\C b/\D b) (hc:A c/\B c/\D c) (hd:A d/\B d/\C d):∃w,0<w.den/\A w/\B w/\C w/\D w:=by
  obtain⟨k1,k2,k3,k4,hk,e1,e2,e3⟩:=zXw (a:=a) (b:=b) (c:=c) pd;have same:zf0 (pos k1) (pos k2) (pos k3) (pos k4) a b c d=zf0 (pos (-k1)) (pos (-k2)) (pos (-k3)) (pos (-k4)) a b c d:=by
    have d1:=Ff k1;have d2:=Ff k2;have d3:=Ff k3;have d4:=Ff k4;generalize pos k1=p1 at *;generalize pos k2=p2 at *;generalize pos k3=p3 at *;generalize pos k4=p4 at *;generalize pos (-k1)=q1 at *;generalize pos (-k2)=q2 at *;generalize pos (-k3)=q3 at *;generalize pos (-k4)=q4 at *;subst d1 d2 d3 d4;unfold zf0 adS smS;simp only[straight.mk.injEq];refine⟨?_,?_,?_⟩<;>grind
  have put:∀{K:straight->Prop}(hK:Jh K)(x:Int)(v:straight),(0<x->K v)->K (smS (pos x) v):=fun {K} hK x v h=>by
    by_cases hx:0<x;exact hK.mul (Ox x) (h hx);rw[zl7 omY,ztG];exact hK.zero
  have mem:∀{K:straight->Prop}(hK:Jh K),(0<k1->K a)->(0<k2->K b)->(0<k3->K c)->(0<k4->K d)->K (zf0 (pos k1) (pos k2) (pos k3) (pos k4) a b c d):=fun {K} hK h1 h2 h3 h4 =>
    hK.add (hK.add (put hK k1 a h1) (put hK k2 b h2)) (hK.add (put hK k3 c h3) (put hK k4 d h4))
  have zuT:∀{K:straight->Prop}(hK:Jh K),(0 < -k1->K a)->(0 < -k2->K b)->(0 < -k3->K c)->(0 < -k4->K d)->K (zf0 (pos k1) (pos k2) (pos k3) (pos k4) a b c d):=fun {K} hK h1 h2 h3 h4=>by
    rw[same];exact hK.add (hK.add (put hK (-k1) a h1) (put hK (-k2) b h2)) (hK.add (put hK (-k3) c h3) (put hK (-k4) d h4))
  refine⟨zf0 (pos k1) (pos k2) (pos k3) (pos k4) a b c d,?_,?_,?_,?_,?_⟩;have n1:=qd0 (Ox k1) (uX pa);have n2:=qd0 (Ox k2) (uX pb);have n3:=qd0 (Ox k3) (uX pc);have n4:=qd0 (Ox k4) (uX pd);have one:∀{x y:Int},0<y->(0<x->0<pos x*y)/\(x<=0->x*y<=0)/\(x<0->x*y<0):=fun {x y} hy=>⟨λh=>by
    have:pos x=x:=by unfold pos;rw[eY h]
    rw[this];exact qj4 h hy,λh=>Int.mul_nonpos_of_nonpos_of_nonneg h (uX hy),λh=>Int.mul_neg_of_neg_of_pos h hy⟩
  show 0<(pos k1*a.den+pos k2*b.den)+(pos k3*c.den+pos k4*d.den);obtain⟨a1,a2,a3⟩:=one (x:=k1) pa;obtain⟨b1,b2,b3⟩:=one (x:=k2) pb;obtain⟨c1,c2,c3⟩:=one (x:=k3) pc;obtain⟨d1,d2,d3⟩:=one (x:=k4) pd;by_cases p1:0<k1;have:=a1 p1;omega;by_cases p2:0<k2;have:=b1 p2;omega;by_cases p3:0<k3;have:=c1 p3;omega;by_cases p4:0<k4;have:=d1 p4;omega;have:=a2 omY;have:=b2 omY;have:=c2 omY;have:=d2 omY;by_cases q1:k1<0;have:=a3 q1;omega;by_cases q2:k2<0;have:=b3 q2;omega;by_cases q3:k3<0;have:=c3 q3;omega;by_cases q4:k4<0;have:=d3 q4;omega;omega;by_cases h:0<k1;exact zuT hA (λk=>absurd k omY) (λ_=>hb.1) (λ_=>hc.1) (λ_=>hd.1);exact mem hA (λk=>absurd k h) (λ_=>hb.1) (λ_=>hc.1) (λ_=>hd.1);by_cases h:0<k2;exact zuT hB (λ_=>ha.1) (λk=>absurd k omY) (λ_=>hc.2.1) (λ_=>hd.2.1);exact mem hB (λ_=>ha.1) (λk=>absurd k h) (λ_=>hc.2.1) (λ_=>hd.2.1);by_cases h:0<k3;exact zuT hC (λ_=>ha.2.1) (λ_=>hb.2.1) (λk=>absurd k omY) (λ_=>hd.2.2);exact mem hC (λ_=>ha.2.1) (λ_=>hb.2.1) (λk=>absurd k h) (λ_=>hd.2.2);by_cases h:0<k4;exact zuT hD (λ_=>ha.2.2) (λ_=>hb.2.2) (λ_=>hc.2.2) (λk=>absurd k omY);exact mem hD (λ_=>ha.2.2) (λ_=>hb.2.2) (λ_=>hc.2.2) (λk=>absurd k h)
theorem zwv:∀(n:Nat)(K:Nat→straight→Prop),(∀i,Jh (K i))→(∀i j k,i<n→j<n→k<n→∃s,0<s.den∧K i s∧K j s∧K k s)→∃s,0<s.den∧∀i,i<n→K i s
  | 0,_,_,_=>⟨⟨0,0,1⟩,by show(0:Int)<1;omega,λi hi=>absurd hi (RP i)⟩
  | n+1,K,hK,h=>by
    obtain⟨s,hd,hs⟩:=zwv n (λi s=>K i s/\K n s) (λi=>zl6 (hK i) (hK n)) λi j k hi hj hk=>by
      obtain⟨a,pa,a1,a2,a3⟩:=h j k n omY omY omY;obtain⟨b,pb,b1,b2,b3⟩:=h i k n omY omY omY;obtain⟨c,pc,c1,c2,c3⟩:=h i j n omY omY omY;obtain⟨d,pd,d1,d2,d3⟩:=h i j k omY omY omY;obtain⟨w,pw,w1,w2,w3,w4⟩:=zJv (hK i) (hK j) (hK k) (hK n) pa pb pc pd ⟨a1,a2,a3⟩ ⟨b1,b2,b3⟩ ⟨c1,c2,c3⟩ ⟨d1,d2,d3⟩;exact⟨w,pw,⟨w1,w4⟩,⟨w2,w4⟩,w3,w4⟩
    rcases qjA n with e|e
    subst e;obtain⟨t,pt,t1,_⟩:=h 0 0 0 omY omY omY;exact⟨t,pt,λi hi=>by rw[show i=0 by omega];exact t1⟩;exact⟨s,hd,λi hi=>by
      by_cases k:i=n;rw[k];exact(hs 0 e).2;exact(hs i omY).1⟩
theorem Fg{g:Sl au}:∀n i,i<n→(g.get i).Low≤(eG g n).Low∧(eG g n).High≤(g.get i).High
  | n+1,i,hi=>by
    simp only[eG];by_cases e:i=n;subst e;constructor<;>split<;>omega;have:=Fg (g:=g) n i omY;constructor<;>split<;>omega
def zJw(g:Sl au):Prop:=∃s:straight,0<s.den/\xP g s
theorem Ht{g:Sl au}(G:bU g):eH g=true↔zJw g:=by
 constructor
 ·intro h;cases hf:fP g with
  | true =>
   unfold eH at h;rw[hf,dO,lQ]at h;refine⟨⟨0,(eG g g.len).Low,1⟩,by show(0:Int)<1;omega,λi hi=>dC ?_⟩;have:=Fg (g:=g) g.len i hi;unfold gX;simp only;omega
  | false =>
   obtain⟨s,h1,h2⟩:=(Ak G hf).1 h;exact⟨s,by have:=(qA G h1).2.2;omega,h2⟩
 rintro⟨s,hd,ha⟩;exact ztC G hd ha
def Rf(g:Sl au)(w:Sl Int):Sl au:=gw z0 (λi=>g.get (w.get i).toNat) w.len
theorem Oy{g:Sl au}(G:bU g){w:Sl Int}(hw:∀a,a<w.len->0<=w.get a/\w.get a<(g.len:Int))(h1:1<=w.len)(h2:w.len<=24):bU (Rf g w):=by
 have e:(Rf g w).len=w.len:=lD _ _ _;refine⟨λi hi=>?_,omY,omY⟩;rw[e]at hi;show ik ((gw z0 _ w.len).get i);rw[BX hi];have:=hw i hi;exact G.1 _ omY
abbrev zCl(C:Sl au×Sl Int->ae Bool):Prop:=∀g w,bU g->(∀a,a<w.len->0<=w.get a/\w.get a<(g.len:Int))->1<=w.len->w.len<=24->C (g,w)=.ok (eH (Rf g w))
theorem zXx{E:zfY}(N:Big E.N)(NI:zlm E.CU)(NJ:zln E.c159):zCl (ztF E):=λg w G hw h1 h2=>ae.ext λk=>by
 have hg:=G.2;rw[zXt,aY];refine kP (X:=λn i=>U2 E n g w (i:Int) (gw z0 (λi=>g.get (w.get i).toNat) i) k) (m:=w.len) (λn i hi=>?_) (λn=>?_) _ (by have:=N;omega);have:=hw i hi;rw[zl5,dC omY,dO,bu omY,gm,bu omY,lD,jg omY omY,bD omY];rfl;rw [zl5,dR omY,dN];show(E.CU (Rf g w)).T _=_;rw[NI _ (Oy G hw h1 h2),aY];show(E.c159 (jh (Rf g w))).T _=_;rw[NJ _ (Oy G hw h1 h2),aY]
structure Bad (g : Sl au) (w : Sl Int) : Prop where
  len:2<=w.len/\w.len<=3
  mem:∀a,a<w.len->0<=w.get a/\w.get a<(g.len:Int)
  no:∀s:straight,0<s.den->¬ ∀a,a<w.len->iQ s (g.get (w.get a).toNat)=true
theorem U3{g:Sl au}(G:bU g){w:Sl Int}(hw:∀a,a<w.len->0<=w.get a/\w.get a<(g.len:Int))(h1:1<=w.len)(h2:w.len<=24):eH (Rf g w)=true↔∃s:straight,0<s.den/\∀a,a<w.len->iQ s (g.get (w.get a).toNat)=true:=by
 rw[Ht (Oy G hw h1 h2)];have e:(Rf g w).len=w.len:=lD _ _ _;have q:∀a,a<w.len->(Rf g w).get a=g.get (w.get a).toNat:=λa h=>BX h;constructor;rintro⟨s,hd,ha⟩;exact⟨s,hd,λa h=>by rw[<- q a h];exact ha a omY⟩;rintro⟨s,hd,ha⟩;exact⟨s,hd,λa h=>by rw[q a omY];exact ha a omY⟩
theorem zJx(a b:Int):gK [a,b] 0=a/\gK [a,b] 1=b:=⟨EQ a b,ER a b⟩
theorem in2{n i j:Nat}(hi:i<n)(hj:j<n):∀a,a<2->0<=gK [(i:Int),(j:Int)] a/\gK [(i:Int),(j:Int)] a<(n:Int):=λa ha=>by
 obtain⟨g0,g1⟩:=zJx (i:Int) (j:Int)
 match a,ha with|0,_=>rw[g0];omega|1,_=>rw[g1];omega
theorem in3{n i j c:Nat}(hi:i<n)(hj:j<n)(hc:c<n):∀a,a<3->0<=gK [(i:Int),(j:Int),(c:Int)] a/\gK [(i:Int),(j:Int),(c:Int)] a<(n:Int):=λa ha=>by
 obtain⟨g0,g1,g2⟩:=zCd (i:Int) (j:Int) (c:Int)
 match a,ha with|0,_=>rw[g0];omega|1,_=>rw[g1];omega|2,_=>rw[g2];omega
def Two(g:Sl au)(i j:Nat):Prop:=∃s:straight,0<s.den/\iQ s (g.get i)=true/\iQ s (g.get j)=true
def Three(g:Sl au)(i j c:Nat):Prop:=∃s:straight,0<s.den/\iQ s (g.get i)=true/\iQ s (g.get j)=true/\iQ s (g.get c)=true
theorem U4 : ∀ (c : iT) (a j : Int), a ≤ j → (∀ p ∈ c, a ≤ p.1 ∧ p.1 < j) → c.Pairwise (fun p q => p.1 < q.1) → (c.length : Int) ≤ j - a
  | [],a,j,h,_,_=>by simp;omega
  | p::c,a,j,h,m,pw=>by
    have hp:=m p kX;have pw:=qdy.1 pw;have:=U4 c (p.1+1) j omY (λq hq=>⟨by have:=pw.1 q hq;omega,(m q (jW _ hq)).2⟩) pw.2;rw[Bo];omega
theorem J3 : ∀ {c d : iT}, c.Pairwise (fun p q => p.1 < q.1) → d.Pairwise (fun p q => p.1 < q.1) → (∀ p ∈ c, p ∈ d) → c.length ≤ d.length ∧ (c.length = d.length → c = d)
  | [],d,_,_,_=>⟨ui _,λh=>(qji.1 h.symm).symm⟩
  | p::c,[],_,_,m=>by cases m p kX
  | p::c,q::d,hc,hd,m=>by
    have hc:=qdy.1 hc;have hd:=qdy.1 hd;have hp:=kS.1 (m p kX);have m':∀r∈c,r∈d:=λr hr=>by
      rcases kS.1 (m r (jW _ hr))with e|h
      have a:=hc.1 r hr;rw[e]at a;rcases hp with e|h
      rw[e]at a;omega;have:=hd.1 p h;omega;exact h
    obtain⟨a,b⟩:=J3 hc.2 hd.2 m';refine⟨by rw[Bo,Bo];omega,λh=>?_⟩;rw[Bo,Bo]at h;have e:=b omY;rcases hp with f|h
    rw[e,f];rw[<- e]at h;have:=hc.1 p h;omega
theorem pI{s:ak}{l:Sl bg}{t:af}(h:kZ s l t=true):JV t.View t/\vwB t.View=true/\dM t≠[]/\Val s l t.View (dM t) l.len:=by
 simp only[kZ,gq,lQ,dm]at h;obtain⟨⟨⟨h1,h2⟩,h3⟩,h4⟩:=h;have un:∀i,i<t.Hits.len->(0<=t.Hits.get i/\t.Hits.get i<(l.len:Int))/\(i=0\/t.Hits.get (i-1)<t.Hits.get i)/\Po s l (t.Hits.get i).toNat=t.View/\(0<=t.aU.get i/\t.aU.get i<(vT s l (t.Hits.get i).toNat:Int))/\∀k,k<i->(l.get (t.Hits.get k).toNat).ai≠(l.get (t.Hits.get i).toNat).ai:=λi hi=>by
  have:=h4 i hi;simp only[JK,gq,VE,lQ,inB,Ub,dm,H6,dqQ]at this;obtain⟨⟨⟨⟨a,b⟩,c⟩,d⟩,e⟩:=this;have d:0<=t.aU.get i/\t.aU.get i<=((vT s l (t.Hits.get i).toNat:Nat):Int)-1:=d;exact⟨omY,b,c,omY,e⟩
 have inc:∀b a,a<b->b<t.Hits.len->t.Hits.get a<t.Hits.get b:=by
  intro b
  induction b with
  | zero=>intro a h;omega
  | succ b ih =>
   intro a hab hb;have h:=(un (b+1) hb).2.1;rcases h with h|h
   omega;rw [qjz]at h;by_cases e:a=b;rw[e];exact h;have:=ih a omY omY;omega
 have hl:=iE t;have ne:dM t≠[]:=λe=>by rw[e,RQ]at hl;omega
 have gt:∀i (hi:i<(dM t).length),(dM t)[i]=(t.Hits.get i,t.aU.get i):=λi hi=>by
  have:=JU (t:=t) (i:=i) omY;rw[Au hi]at this;exact PS this
 have pw:(dM t).Pairwise λp q=>p.1<q.1/\(l.get p.1.toNat).ai≠(l.get q.1.toNat).ai:=by
  rw[qdi];intro i j hi hj Jm;rw[gt i hi,gt j hj];exact⟨inc j i Jm omY,(un j omY).2.2.2.2 i Jm⟩
 have mem:∀p∈dM t,(0<=p.1/\p.1<(l.len:Int))/\Po s l p.1.toNat=t.View/\0<=p.2/\p.2<(vT s l p.1.toNat:Int):=λp hp=>by
  obtain⟨i,hi,e1,e2⟩:=nO.1 hp;have:=un i hi;rw[<- e1,<- e2];exact⟨this.1,this.2.2.1,this.2.2.2.1⟩
 refine⟨⟨rfl,h3⟩,h1,ne,⟨?_,kD _⟩,mem,pw⟩;have:=U4 (dM t) 0 (l.len:Int) omY (λp hp=>(mem p hp).1) (pw.imp λh=>h.1);omega
theorem Val.pre{s:ak}{l:Sl bg}{x:Int}{c:iT}{p:Int×Int}{j:Nat}(h:Val s l x (c++[p]) j):Val s l x c p.1.toNat/\Bi l c p.1=false/\(0<=p.1/\p.1<(j:Int))/\Po s l p.1.toNat=x/\0<=p.2/\p.2<(vT s l p.1.toNat:Int):=by
 have pw:=qdt.1 h.pw;have hp:=h.mem p (qjn _ (lN.2 rfl));have lt:=λq (hq:q∈c)=>pw.2.2 q hq p (lN.2 rfl);have hle:=h.le;have m:∀q∈c,0<=q.1/\q.1<p.1:=λq hq=>⟨(h.mem q (qdW _ hq)).1.1,(lt q hq).1⟩;refine⟨⟨⟨?_,omY⟩,λq hq=>?_,pw.1⟩,?_,hp⟩;have:=U4 c 0 p.1 hp.1.1 m (pw.1.imp fun h=>h.1);omega;have a:=h.mem q (qdW _ hq);have b:=m q hq;exact⟨omY,a.2⟩;unfold Bi;rw[qdI];intro q hq;have:=(lt q hq).2;simpa using this
def Lin(s:ak)(l:Sl bg)(c:iT)(ln:straight):Prop:=∀p∈c,iQ ln ((vS s (l.get p.1.toNat)).get p.2.toNat)=true
theorem U5{s:ak}{l:Sl bg}{c:iT}{i:Nat}(hi:i<c.length):(nR s l c).get i=(vS s (l.get (c[i]).1.toNat)).get (c[i]).2.toNat:=by
 unfold nR;rw[BX hi,Au hi];rfl
theorem YM{s:ak}{l:Sl bg}{x:Int}{c:iT}{j:Nat}(he:Evt s l)(h24:l.len<=24)(h:Val s l x c j)(ne:c≠[]):eH (nR s l c)=true↔∃ln:straight,0<ln.den/\Lin s l c ln:=by
 rw[Ht (CB he h24 h ne)];have e:(nR s l c).len=c.length:=lD _ _ _;constructor;rintro⟨ln,hd,ha⟩;refine⟨ln,hd,λp hp=>?_⟩;obtain⟨i,hi,rfl⟩:=qdD hp;have:=ha i omY;rwa[U5 hi]at this;rintro⟨ln,hd,ha⟩;refine⟨ln,hd,λi hi=>?_⟩;rw[U5 omY];exact ha _ (RN _)
def tiG(s:ak)(l:Sl bg)(c:iT):Sl au:=⟨c.length,λi=>⟨0,(iL s (l.get ((c[i]?).getD (0,0)).1.toNat)).Low,(iL s (l.get ((c[i]?).getD (0,0)).1.toNat)).High⟩⟩
theorem zdS{s:ak}{l:Sl bg}{c:iT}{i:Nat}(hi:i<c.length):(tiG s l c).get i=⟨0,(iL s (l.get (c[i]).1.toNat)).Low,(iL s (l.get (c[i]).1.toNat)).High⟩:=by
 show(⟨0,(iL s (l.get ((c[i]?).getD (0,0)).1.toNat)).Low,(iL s (l.get ((c[i]?).getD (0,0)).1.toNat)).High⟩:au)=_;rw[Au hi];rfl
theorem U6{s:ak}{l:Sl bg}{c:iT}(ne:c≠[]):PE s l c=true↔∃x:Int,∀p∈c,(iL s (l.get p.1.toNat)).Low<=x/\x<=(iL s (l.get p.1.toNat)).High:=by
 have hl:=qj6.2 ne;have e:UM s l c=eG (tiG s l c) c.length:=rfl;unfold PE;rw[lQ,e];constructor;intro h;refine⟨(eG (tiG s l c) c.length).Low,λp hp=>?_⟩;obtain⟨i,hi,rfl⟩:=qdD hp;have:=Fg (g:=tiG s l c) c.length i hi;rw[zdS hi]at this;exact⟨this.1,qjW h this.2⟩;rintro⟨x,hx⟩;obtain⟨a,b⟩:=Fb (g:=tiG s l c) (d:=1) (x:=x) omY hl (λi hi=>by
  have hi:i<c.length:=hi;rw[zdS hi,Int.mul_one,Int.mul_one];exact hx _ (RN hi)) c.length (kD _)
 omega
theorem zCm{s:ak}{l:Sl bg}{x:Int}{c c':iT}{j j':Nat}(he:Evt s l)(h24:l.len<=24)(h:Val s l x c j)(h':Val s l x c' j')(ne':c'≠[])(sub:∀p∈c',p∈c)(ag:zI s l c=true):zI s l c'=true:=by
 have ne:c≠[]:=λe=>by
  obtain⟨p,hp⟩:=List.exists_mem_of_ne_nil _ ne';have:=sub p hp;rw[e]at this;cases this
 unfold zI at ag ⊢;rw[gq]at ag ⊢;obtain⟨tt,hx⟩:=(U6 ne).1 ag.1;obtain⟨ln,hd,hl⟩:=(YM he h24 h ne).1 ag.2;exact⟨(U6 ne').2 ⟨tt,λp hp=>hx p (sub p hp)⟩,(YM he h24 h' ne').2 ⟨ln,hd,λp hp=>hl p (sub p hp)⟩⟩
theorem zl8{s:ak}{l:Sl bg}{x:Int}(he:Evt s l)(h24:l.len≤24):∀(n:Nat)(c:iT)(j:Nat),c.length=n→Val s l x c j→(c=[]∨zI s l c=true)→∃i,Ch (zI s l) (Bi l) (PD s l x) c i∧i≤j
  | 0,c,j,hn,_,_=>by
    rw[qji.1 hn];exact⟨0,.nil,ui _⟩
  | n+1,c,j,hn,hv,ag=>by
    have ne:c≠[]:=λe=>by rw[e]at hn;cases hn
    have ag:=ag.resolve_left ne;have e:=List.dropLast_concat_getLast ne;generalize c.dropLast=c' at e;generalize c.getLast ne=p at e;subst e;obtain⟨v',us,p1,p2,p3⟩:=hv.pre;have hle:=hv.le;have ag':c'=[]\/zI s l c'=true:=by
      by_cases h:c'=[];exact .inl h;exact .inr (zCm he h24 hv v' h (λq hq=>qdW _ hq) ag)
    obtain⟨i,hi,le⟩:=zl8 he h24 n c' _ (by rw[Jo]at hn;simpa using hn) v' ag';refine⟨p.1.toNat+1,.snoc hi ((UG omY).2 ⟨omY,p2,p3⟩) us ag,omY⟩
theorem ztH{s:ak}{l:Sl bg}{x:Int}{c:iT}{j:Nat}(he:Evt s l)(h24:l.len<=24)(hv:Val s l x c j)(ne:c≠[])(ag:zI s l c=true):c∈kC s l x:=by
 obtain⟨i,hi,_⟩:=zl8 he h24 _ c j rfl hv (.inr ag);have:=hv.le;exact(zJj (f:=30) hi omY).1.resolve_left ne
theorem ztI{s:ak}{l:Sl bg}(he:Evt s l){i:Nat}(hi:i<l.len):(iL s (l.get i)).Low<=(iL s (l.get i)).High:=by
 have hp:=he.pl hi;have Jk:=xA he.se (i:=(l.get i).ai.toNat) omY;have hh:lM s (l.get i)=true:=dm.1 he.hi i hi;obtain⟨_,_,_,_,_,_,_,_,hc,hj,_⟩:=Jk;have ht : -1000000000<=(l.get i).Time/\(l.get i).Time<=1000000000:=by
  simp only[lM,hpB,gq,inB,lQ]at hh;have:=hh.2.1.1.2;omega
 unfold iL ztm;clear hh;generalize s.aj.get (l.get i).ai.toNat=p at *;cases hk:p.Kind==3 with
 | true=>rw[dO];omega
 | false =>
  rw[dN];show aJ (aJ ((l.get i).Time-p.Clock.High)-p.dP)<=aJ (aJ ((l.get i).Time-p.Clock.Low)+p.dP);rw[aW (x:=(l.get i).Time-p.Clock.High) omY omY,aW (x:=(l.get i).Time-p.Clock.Low) omY omY,aW omY omY,aW omY omY];omega
abbrev fC(t:af):Int×iT:=(t.View,dM t)
def ltK(a b:Int×iT):Prop:=a.1<b.1\/a.1=b.1/\(cmpL (a.2.map (·.1)) (b.2.map (·.1))<0\/a.2.map (·.1)=b.2.map (·.1)/\cmpL (a.2.map (·.2)) (b.2.map (·.2))<0)
theorem Rh(t:af):(dM t).map (·.1)=mM t.Hits:=by unfold dM mM;rw[qdO];rfl
theorem Ri{t:af}(h:t.aU.len=t.Hits.len):(dM t).map (·.2)=mM t.aU:=by unfold dM mM;rw[qdO,h];rfl
theorem zJz{a b:af}(ha:a.aU.len=a.Hits.len)(hb:b.aU.len=b.Hits.len):ltK (fC a) (fC b)↔Hg a b:=by
 unfold ltK Hg;show _\/_/\(cmpL ((dM a).map (·.1)) ((dM b).map (·.1))<0\/(dM a).map (·.1)=(dM b).map (·.1)/\cmpL ((dM a).map (·.2)) ((dM b).map (·.2))<0)↔_;rw[Rh,Rh,Ri ha,Ri hb]
theorem zl9{a b:Int×iT}(h:ltK a b)(k:ltK b a):False:=by
 rcases h with h|⟨h,h2⟩<;>rcases k with k|⟨k,k2⟩
 omega;omega;omega;rcases h2 with h2|⟨h2,h3⟩<;>rcases k2 with k2|⟨k2,k3⟩
 exact wF _ (EY h2 k2);rw[k2]at h2;exact wF _ h2;rw[h2]at k2;exact wF _ k2;exact wF _ (EY h3 k3)
def grK(a b:Int×iT):Bool:=decide (a.2.length>b.2.length)&&(b.2.all (λp=>a.2.contains p)&&(b.1==a.1))
theorem zma(a b:af):sZ a b=grK (fC a) (fC b):=by
 unfold sZ grK nK;show _=(decide ((dM a).length>(dM b).length)&&_);rw[iE,iE];congr 1;exact jqk.2 omY
theorem zM{p:Int×iT→Bool}{q:af→Bool}:∀{L:List af},(∀t∈L,q t=p (fC t))→(L.filter q).map fC=(L.map fC).filter p
  | [],_=>rfl
  | t::L,h=>by
    have ih:=zM (p:=p) (q:=q) (L:=L) λu hu=>h u (jW _ hu);have e:=h t kX;rw[nX,qdN,qdN,e];by_cases hp:p (fC t)=true;rw[eY hp,eY hp,nX,ih];rw[fH hp,fH hp,ih]
theorem YN{x:Int}{L:List af}{c:List iT}(h:∀t∈L,JV x t)(e:L.map dM=c):L.map fC=c.map λc=>(x,c):=by
 rw[<- e,qdO];exact qda λt ht=>by show(t.View,dM t)=(x,dM t);rw[(h t ht).1]
theorem zbx{α:Type}{p q:α->Bool}{a:List α}(h:∀x∈a,p x=q x):a.any p=a.any q:=by
 induction a with|nil=>rfl|cons x a ih=>rw[List.any_cons,List.any_cons,h x kX,ih λy hy=>h y (jW _ hy)]
def ztJ(s:ak)(r:bF)(l:Sl bg):List (Int×iT):=((kC s l 1).filter (nU s l 1 r)).map (λc=>(1,c))++((kC s l 2).filter (nU s l 2 r)).map (λc=>(2,c))
theorem Jg.keys{s:ak}{r:bF}{l:Sl bg}{f:found}(h:Jg s r l f):(ls f.fits).map fC=ztJ s r l/\((ls f.bn).map fC).Perm ((ztJ s r l).filter λk=>!(ztJ s r l).any λx=>grK x k):=by
 obtain⟨X,Y,e,x1,y1,x2,y2⟩:=h.fx;have hk:(ls f.fits).map fC=ztJ s r l:=by rw[e,PU,YN x1 x2,YN y1 y2];rfl
 refine⟨hk,(h.tr.map fC).trans (qjY ?_)⟩;rw[<- hk];refine zM λt _=>?_;rw[List.any_map];congr 1;exact zbx λx _=>zma x t
theorem Jg.uniq{s:ak}{r:bF}{l:Sl bg}{f g:found}(h:Jg s r l f)(k:Jg s r l g)(he:Evt s l)(h24:l.len<=24):(ls f.bn).map fC=(ls g.bn).map fC:=by
 have srt:∀{f:found},Jg s r l f->((ls f.bn).map fC).Pairwise ltK:=fun {f} h=>by
  rw[qjM];refine h.st.imp_of_mem fun {a b} ha hb hab=>?_;exact(zJz (h.chosen he h24 (h.sub ha)).tv.2 (h.chosen he h24 (h.sub hb)).tv.2).2 hab
 exact jqE (le:=ltK) (λa b _ _ h1 h2=>(zl9 h1 h2).elim) (srt h) (srt k) (h.keys.2.trans k.keys.2.symm)
structure E80 where
 N:Nat
 c105:(Pt aS)×af->ae ((Sl au))
 c49:(Sl au)->ae ((Sl Int)×Int)
abbrev G80(E:E80):bK:=gU ((Tabs.nil.addF 105 (ae.un E.c105)).addF 49 (ae.un E.c49)) []
def A80:dG:=bT aB 80 [] {ks:=[(1,6,⟨[],[],[(8,1,39,3)],[],[],[],[]⟩)]}
def F80(E:E80):(Pt found)×af->ae (bz×Bool):=ae.ty (aF aB E.N (G80 E) A80 80)
section
variable(E:E80){A:Type}(k:(bz×Bool)->Option A)
def zdT(E:E80)(n:Nat)(a1:af)(v25:Sl Int)(v26 I4:Int)(w39:Sl Int){A:Type}(k:(bz×Bool)->Option A):Option A:=gW aB (G80 E) E.N A80 80 [1,1,1,1,0,1,0] [.n n] (gV k) ⟨[(3,.cl (.ptr 3 0)),(4,.cl (.ptr 4 0)),(8,.cl (.ptr 8 0)),(25,eP v25),(26,.int v26),(27,.int I4)],[(3,eB 43 a1),(4,.box 50 [.p (.int .i64 0),.p (.nils),.p (.nils),.p (.int .i64 0),.p (.nils),.p (.nils)]),(8,.box 50 [.p (.int .i64 2),.vec 39,.p (.nils),.p (.int .i64 0),.p (.nils),.p (.nils)]),(39,eV 3 1 8 w39)],[]⟩
theorem e80(a0:Pt found)(a1:af):(F80 E (a0,a1)).T k=(E.c105 (a0.v.aS,a1)).T λr1=>(E.c49 r1).T λr2=>cond (r2.2 != 0) (k ((⟨0,(⟨0,λ_=>default⟩:(Sl Int)),(⟨0,λ_=>default⟩:(Sl Int)),(⟨0,(⟨0,λ_=>default⟩:(Sl Int)),(⟨0,λ_=>default⟩:(Sl Int))⟩:af)⟩:bz),false)) (zdT E E.N a1 r2.1 (r2.1.len:Int) 0 (⟨0,(λ_=>0)⟩:(Sl Int)) k):=dS
theorem zwx(n0:Nat)(a1:af)(v25:Sl Int)(v26 I4:Int)(w39:Sl Int):zdT E (n0+1) a1 v25 v26 I4 w39 k=cond (decide (I4<v26)) (aV (decide (0<=I4/\I4<(v25.len:Int))) (aV (decide (0<=v25.get I4.toNat/\v25.get I4.toNat<(a1.Hits.len:Int))) (aV (room (w39.len+1) 8) (zdT E n0 a1 v25 v26 (aJ (I4+1)) (⟨(w39.len+1),(jy w39.len w39.get (λ_=>a1.Hits.get (v25.get I4.toNat).toNat))⟩:(Sl Int)) k)))) (k ((⟨2,w39,(⟨0,λ_=>default⟩:(Sl Int)),(⟨0,(⟨0,λ_=>default⟩:(Sl Int)),(⟨0,λ_=>default⟩:(Sl Int))⟩:af)⟩:bz),true)):=krY
end
theorem o80 [aC](E:E80)(NR:Ok aB 105 (ae.un E.c105))(h49:Ok aB 49 (ae.un E.c49)):Ok aB 80 (ae.un (F80 E)):=dU ((ax.nil.addF NR).addF h49)
structure E81 where
 N:Nat
 c50:ak×(Sl bg)->ae (bY×Int)
abbrev G81(E:E81):bK:=gU (Tabs.nil.addF 50 (ae.un E.c50)) []
def A81:dG:=bT aB 81 [] {}
def F81(E:E81):(Pt found)×af->ae (bz×Bool):=ae.ty (aF aB E.N (G81 E) A81 81)
section
variable(E:E81){A:Type}(k:(bz×Bool)->Option A)
def Oz(E:E81)(n:Nat)(a0:Pt found)(a1:af)(uS:Int){A:Type}(k:(bz×Bool)->Option A):Option A:=gW aB (G81 E) E.N A81 81 [1,0,1,0] [.n n] (gV k) ⟨[(0,eP a0),(3,.cl (.ptr 3 0)),(4,.cl (.ptr 4 0)),(13,eP a1.Hits),(14,.int (a1.Hits.len:Int)),(15,.int uS)],[(3,eB 43 a1),(4,.box 50 [.p (.int .i64 0),.p (.nils),.p (.nils),.p (.int .i64 0),.p (.nils),.p (.nils)])],[]⟩
def Rj(E:E81)(n0 n:Nat)(a0:Pt found)(a1:af)(v7 uS:Int)(v24:Sl Int)(v25 v26:Int){A:Type}(k:(bz×Bool)->Option A):Option A:=gW aB (G81 E) E.N A81 81 [1,0,1,0,0,1,1,0,0,1,1,0] [.n n0,.n n] (gV k) ⟨[(0,eP a0),(3,.cl (.ptr 3 0)),(4,.cl (.ptr 4 0)),(7,.int v7),(13,eP a1.Hits),(14,.int (a1.Hits.len:Int)),(15,.int uS),(24,eP v24),(25,.int v25),(26,.int v26)],[(3,eB 43 a1),(4,.box 50 [.p (.int .i64 0),.p (.nils),.p (.nils),.p (.int .i64 0),.p (.nils),.p (.nils)])],[]⟩
theorem e81(a0:Pt found)(a1:af):(F81 E (a0,a1)).T k=Oz E E.N a0 a1 0 k:=dS
theorem zwy(n0:Nat)(a0:Pt found)(a1:af)(uS:Int):Oz E (n0+1) a0 a1 uS k=cond (decide (uS<(a1.Hits.len:Int))) (aV (decide (0<=uS/\uS<(a1.Hits.len:Int))) (aV (decide ((0:Int)<=(aJ (uS+1))/\((aJ (uS+1)):Int)<=(a1.Hits.len:Int)/\(a1.Hits.len:Int)<=(a1.Hits.len:Int))) (Rj E n0 E.N a0 a1 (a1.Hits.get uS.toNat) uS (⟨(((a1.Hits.len:Int):Int)-(aJ (uS+1))).toNat,(uY a1.Hits.get (aJ (uS+1)).toNat)⟩:(Sl Int)) ((((a1.Hits.len:Int):Int)-(aJ (uS+1))).toNat:Int) 0 k))) (k ((⟨0,(⟨0,λ_=>default⟩:(Sl Int)),(⟨0,λ_=>default⟩:(Sl Int)),(⟨0,(⟨0,λ_=>default⟩:(Sl Int)),(⟨0,λ_=>default⟩:(Sl Int))⟩:af)⟩:bz),false)):=krY
theorem zwz(n0 n1:Nat)(a0:Pt found)(a1:af)(v7 uS:Int)(v24:Sl Int)(v25 v26:Int):Rj E n0 (n1+1) a0 a1 v7 uS v24 v25 v26 k=cond (decide (v26<v25)) (aV (decide (0<=v26/\v26<(v24.len:Int))) (aV (decide (0<=v7/\v7<(a0.v.aS.v.hits.len:Int))) (aV (decide (0<=v24.get v26.toNat/\v24.get v26.toNat<(a0.v.aS.v.hits.len:Int))) ((E.c50 (a0.v.aS.v.ak,(⟨2,(gK [(a0.v.aS.v.hits.get v7.toNat),(a0.v.aS.v.hits.get (v24.get v26.toNat).toNat)])⟩:(Sl bg)))).T λr1=>cond (r1.2==5) (k ((⟨3,(⟨2,(gK [v7,v24.get v26.toNat])⟩:(Sl Int)),(⟨0,λ_=>default⟩:(Sl Int)),(⟨0,(⟨0,λ_=>default⟩:(Sl Int)),(⟨0,λ_=>default⟩:(Sl Int))⟩:af)⟩:bz),true)) (Rj E n0 n1 a0 a1 v7 uS v24 v25 (aJ (v26+1)) k))))) (Oz E n0 a0 a1 (aJ (uS+1)) k):=krY
end
theorem o81 [aC](E:E81)(h50:Ok aB 50 (ae.un E.c50)):Ok aB 81 (ae.un (F81 E)):=dU (ax.nil.addF h50)
structure E82 where
 N:Nat
def F82(E:E82):(Pt found)×af->ae (bz×Bool):=iR E.N Tabs.nil 82
theorem e82(E:E82){A:Type}(k:(bz×Bool)→Option A)(a0:Pt found)(a1:af):(F82 E (a0,a1)).T k=k ((⟨4,(⟨0,λ_=>default⟩:(Sl Int)),(⟨0,λ_=>default⟩:(Sl Int)),(⟨0,(⟨0,λ_=>default⟩:(Sl Int)),(⟨0,λ_=>default⟩:(Sl Int))⟩:af)⟩:bz),decide ((a1.Hits.len:Int)<a0.v.aS.v.rules.mO)):=dS
theorem o82 [aC](E:E82):Ok aB 82 (ae.un (F82 E)):=dU ax.nil
structure E83 where
 N:Nat
 c141:(Pt aS)×af->ae ((Sl Int))
def F83(E:E83):(Pt found)×af->ae (bz×Bool):=iR E.N (Tabs.nil.addF 141 (ae.un E.c141)) 83
theorem e83(E:E83){A:Type}(k:(bz×Bool)→Option A)(a0:Pt found)(a1:af):(F83 E (a0,a1)).T k=(E.c141 (a0.v.aS,a1)).T λr1=>k ((⟨5,(⟨0,λ_=>default⟩:(Sl Int)),r1,(⟨0,(⟨0,λ_=>default⟩:(Sl Int)),(⟨0,λ_=>default⟩:(Sl Int))⟩:af)⟩:bz),decide ((r1.len:Int)>a0.v.aS.v.rules.o7)):=dS
theorem o83 [aC](E:E83)(za7:Ok aB 141 (ae.un E.c141)):Ok aB 83 (ae.un (F83 E)):=dU (ax.nil.addF za7)
structure E84 where
 N:Nat
 c92:af×af->ae Bool
 zuj:af->ae af
abbrev G84(E:E84):bK:=gU ((Tabs.nil.addF 92 (ae.un E.c92)).addF 142 (ae.un E.zuj)) []
def A84:dG:=bT aB 84 [] {}
def F84(E:E84):(Pt found)×af->ae (bz×Bool):=ae.ty (aF aB E.N (G84 E) A84 84)
section
variable(E:E84){A:Type}(k:(bz×Bool)->Option A)
def OA(E:E84)(n:Nat)(a0:Pt found)(a1:af)(ja:Int){A:Type}(k:(bz×Bool)->Option A):Option A:=gW aB (G84 E) E.N A84 84 [1,0,1,0] [.n n] (gV k) ⟨[(3,.cl (.ptr 3 0)),(4,.cl (.ptr 4 0)),(11,eP a0.v.bn),(12,.int (a0.v.bn.len:Int)),(13,.int ja)],[(3,eB 43 a1),(4,.box 50 [.p (.int .i64 0),.p (.nils),.p (.nils),.p (.int .i64 0),.p (.nils),.p (.nils)])],[]⟩
theorem e84(a0:Pt found)(a1:af):(F84 E (a0,a1)).T k=OA E E.N a0 a1 0 k:=dS
theorem zwA(n0:Nat)(a0:Pt found)(a1:af)(ja:Int):OA E (n0+1) a0 a1 ja k=cond (decide (ja<(a0.v.bn.len:Int))) (aV (decide (0<=ja/\ja<(a0.v.bn.len:Int))) (cond (decide (((a0.v.bn.get ja.toNat).Hits.len:Int)>(a1.Hits.len:Int))) ((E.c92 ((a0.v.bn.get ja.toNat),a1)).T λr1=>cond r1 ((E.zuj (a0.v.bn.get ja.toNat)).T λr2=>k ((⟨6,(⟨0,λ_=>default⟩:(Sl Int)),(⟨0,λ_=>default⟩:(Sl Int)),r2⟩:bz),true)) (OA E n0 a0 a1 (aJ (ja+1)) k)) (OA E n0 a0 a1 (aJ (ja+1)) k))) (k ((⟨0,(⟨0,λ_=>default⟩:(Sl Int)),(⟨0,λ_=>default⟩:(Sl Int)),(⟨0,(⟨0,λ_=>default⟩:(Sl Int)),(⟨0,λ_=>default⟩:(Sl Int))⟩:af)⟩:bz),false)):=krY
end
theorem o84 [aC](E:E84)(h92:Ok aB 92 (ae.un E.c92))(zCo:Ok aB 142 (ae.un E.zuj)):Ok aB 84 (ae.un (F84 E)):=dU ((ax.nil.addF h92).addF zCo)
structure ztK where
 N:Nat
def ztL(E:ztK):af->ae af:=iR E.N (Tabs.nil.addO 181 (.clone 3 1 8)) 142
theorem zXD(E:ztK){A:Type}(k:af→Option A)(a0:af):(ztL E (a0)).T k=aV (room a0.Hits.len 8) (aV (room a0.aU.len 8) (k a0)):=dS
theorem zXE [aC](E:ztK)(zAF:gB aB 181 (.clone 3 1 8)):Ok aB 142 (ae.un (ztL E)):=dU (ax.nil.addO zAF)
structure E25 where
 N:Nat
 c78:ak×bF×(Sl bg)->ae (Int ⊕ ((Pt aS)×Int))
 c79:(Pt aS)×af->ae Bool
 c72:ak×bF×(Sl bg)×(Sl Bool)->ae (Int ⊕ ((Pt found)×Int))
 c80:(Pt found)×af->ae (bz×Bool)
 c81:(Pt found)×af->ae (bz×Bool)
 c82:(Pt found)×af->ae (bz×Bool)
 c83:(Pt found)×af->ae (bz×Bool)
 c84:(Pt found)×af->ae (bz×Bool)
abbrev G25(E:E25):bK:=gU ((((((((Tabs.nil.addF 78 (ae.unA E.c78)).addF 79 (ae.un E.c79)).addF 72 (ae.unA E.c72)).addF 80 (ae.un E.c80)).addF 81 (ae.un E.c81)).addF 82 (ae.un E.c82)).addF 83 (ae.un E.c83)).addF 84 (ae.un E.c84)) []
def A25:dG:=bT aB 25 [] {unr:=[(8,6)]}
def F25(E:E25):ak×bF×(Sl bg)×af->ae (bz×Int):=ae.ty (aF aB E.N (G25 E) A25 25)
theorem e25(E:E25){A:Type}(k:(bz×Int)→Option A)(a0:ak)(a1:bF)(a2:Sl bg)(a3:af):(F25 E (a0,a1,a2,a3)).T k=(E.c78 (a0,a1,a2)).T λr1=>zpq r1 (λr1=>cond (r1 != 0) (k ((⟨0,(⟨0,λ_=>default⟩:(Sl Int)),(⟨0,λ_=>default⟩:(Sl Int)),(⟨0,(⟨0,λ_=>default⟩:(Sl Int)),(⟨0,λ_=>default⟩:(Sl Int))⟩:af)⟩:bz),r1)) (none)) (λr1=>cond (r1.2 != 0) (k ((⟨0,(⟨0,λ_=>default⟩:(Sl Int)),(⟨0,λ_=>default⟩:(Sl Int)),(⟨0,(⟨0,λ_=>default⟩:(Sl Int)),(⟨0,λ_=>default⟩:(Sl Int))⟩:af)⟩:bz),r1.2)) ((E.c79 (r1.1,a3)).T λr2=>(E.c72 (a0,a1,a2,(⟨1,(λ_=>r2)⟩:(Sl Bool)))).T λr3=>zpq r3 (λr3=>cond (r3 != 0) (k ((⟨0,(⟨0,λ_=>default⟩:(Sl Int)),(⟨0,λ_=>default⟩:(Sl Int)),(⟨0,(⟨0,λ_=>default⟩:(Sl Int)),(⟨0,λ_=>default⟩:(Sl Int))⟩:af)⟩:bz),r3)) (none)) (λr3=>cond (r3.2 != 0) (k ((⟨0,(⟨0,λ_=>default⟩:(Sl Int)),(⟨0,λ_=>default⟩:(Sl Int)),(⟨0,(⟨0,λ_=>default⟩:(Sl Int)),(⟨0,λ_=>default⟩:(Sl Int))⟩:af)⟩:bz),r3.2)) ((E.c80 (r3.1,a3)).T λr4=>cond r4.2 (k (r4.1,0)) ((E.c81 (r3.1,a3)).T λr5=>cond r5.2 (k (r5.1,0)) ((E.c82 (r3.1,a3)).T λr6=>cond r6.2 (k (r6.1,0)) ((E.c83 (r3.1,a3)).T λr7=>cond r7.2 (k (r7.1,0)) ((E.c84 (r3.1,a3)).T λr8=>cond r8.2 (k (r8.1,0)) (k ((⟨1,(⟨0,λ_=>default⟩:(Sl Int)),(⟨0,λ_=>default⟩:(Sl Int)),(⟨0,(⟨0,λ_=>default⟩:(Sl Int)),(⟨0,λ_=>default⟩:(Sl Int))⟩:af)⟩:bz),0)))))))))):=dS
theorem o25 [aC](E:E25)(h78:Ok aB 78 (ae.unA E.c78))(h79:Ok aB 79 (ae.un E.c79))(h72:Ok aB 72 (ae.unA E.c72))(h80:Ok aB 80 (ae.un E.c80))(h81:Ok aB 81 (ae.un E.c81))(h82:Ok aB 82 (ae.un E.c82))(h83:Ok aB 83 (ae.un E.c83))(h84:Ok aB 84 (ae.un E.c84)):Ok aB 25 (ae.un (F25 E)):=dU ((((((((ax.nil.addF h78).addF h79).addF h72).addF h80).addF h81).addF h82).addF h83).addF h84)
structure YP (s : ak) (r : bF) (l : Sl bg) (t : af) (f : found) : Prop where
  ev:f.aS=iD s r l
  he:Evt s l
  h24:l.len<=24
  ch:kZ s l t=true
theorem YP.len{s:ak}{r:bF}{l:Sl bg}{t:af}{f:found}(h:YP s r l t f):t.Hits.len<=24/\0<t.Hits.len:=by
 obtain⟨_,_,ne,v⟩:=pI h.ch;have a:=pG rfl v;have b:=JY rfl ne;have:=h.h24;omega
theorem YP.jr{s:ak}{r:bF}{l:Sl bg}{t:af}{f:found}(h:YP s r l t f):bU (ZB s l t):=by
 obtain⟨_,_,ne,v⟩:=pI h.ch;rw[Cm rfl];exact CB h.he h.h24 v ne
theorem zdU(s:ak)(l:Sl bg)(t:af):(ZB s l t).len=t.Hits.len:=lD _ _ _
theorem YP.hit{s:ak}{r:bF}{l:Sl bg}{t:af}{f:found}(h:YP s r l t f){i:Nat}(hi:i<t.Hits.len):0<=t.Hits.get i/\t.Hits.get i<(l.len:Int):=ND ((za1 h.ch).2 i hi)
theorem YP.inc{s:ak}{r:bF}{l:Sl bg}{t:af}{f:found}(h:YP s r l t f):zl0 t:=by
 obtain⟨tv,_,_,v⟩:=pI h.ch;exact zdR h.h24 tv rfl v
def noT(s:ak)(l:Sl bg)(a b:Int):Bool:=(cmS (eG (CX s ⟨2,gK [l.get a.toNat,l.get b.toNat]⟩) 2)).2==5
theorem zdV{s:ak}{l:Sl bg}{a b:Int}(h:noT s l a b=false):(iL s (l.get a.toNat)).Low<=(iL s (l.get b.toNat)).High/\(iL s (l.get b.toNat)).Low<=(iL s (l.get a.toNat)).High:=by
 unfold noT cmS at h;by_cases c:(eG (CX s ⟨2,gK [l.get a.toNat,l.get b.toNat]⟩) 2).Low>(eG (CX s ⟨2,gK [l.get a.toNat,l.get b.toNat]⟩) 2).High;rw[dC c]at h;cases h;have g0:((CX s ⟨2,gK [l.get a.toNat,l.get b.toNat]⟩).get 0)=⟨0,(iL s (l.get a.toNat)).Low,(iL s (l.get a.toNat)).High⟩:=by
  show(⟨0,(iL s (gK [l.get a.toNat,l.get b.toNat] 0)).Low,(iL s (gK [l.get a.toNat,l.get b.toNat] 0)).High⟩:au)=_;rw[EQ]
 have g1:((CX s ⟨2,gK [l.get a.toNat,l.get b.toNat]⟩).get 1)=⟨0,(iL s (l.get b.toNat)).Low,(iL s (l.get b.toNat)).High⟩:=by
  show(⟨0,(iL s (gK [l.get a.toNat,l.get b.toNat] 1)).Low,(iL s (gK [l.get a.toNat,l.get b.toNat] 1)).High⟩:au)=_;rw[ER]
 have x:=Fg (g:=CX s ⟨2,gK [l.get a.toNat,l.get b.toNat]⟩) 2 0 omY;have y:=Fg (g:=CX s ⟨2,gK [l.get a.toNat,l.get b.toNat]⟩) 2 1 omY;rw[g0]at x;rw[g1]at y;have x:(iL s (l.get a.toNat)).Low<=_/\_<=(iL s (l.get a.toNat)).High:=x;have y:(iL s (l.get b.toNat)).Low<=_/\_<=(iL s (l.get b.toNat)).High:=y;omega
theorem ztM{C:ak×Sl bg->ae (bY×Int)}(h50:Q50 C){s:ak}{l:Sl bg}(he:Evt s l){a b:Int}(ha:0<=a/\a<(l.len:Int))(hb:0<=b/\b<(l.len:Int)):C (s,⟨2,gK [l.get a.toNat,l.get b.toNat]⟩)=.ok (cmS (eG (CX s ⟨2,gK [l.get a.toNat,l.get b.toNat]⟩) 2)) :=
 h50 s ⟨2,gK [l.get a.toNat,l.get b.toNat]⟩ he.sh he.se (by show 0<2;omega) (by show 2<=1000;omega) λi hi=>by
  have hi:i<2:=hi;show lM s (gK [l.get a.toNat,l.get b.toNat] i)=true
  match i,hi with|0,_=>rw[EQ];exact dm.1 he.hi _ omY|1,_=>rw[ER];exact dm.1 he.hi _ omY
abbrev CO(n:Int):bz:=⟨n,⟨0,λ_=>default⟩,⟨0,λ_=>default⟩,⟨0,⟨0,λ_=>default⟩,⟨0,λ_=>default⟩⟩⟩
abbrev Q82(C:Pt found×af->ae (bz×Bool)):Prop:=∀s r l t (f:Pt found),YP s r l t f.v->C (f,t)=.ok (CO 4,decide ((t.Hits.len:Int)<r.mO))
theorem s82{E:E82}:Q82 (F82 E):=λs r l t f h=>ae.ext λk=>by rw[e82,h.ev];rfl
abbrev zCp(C:af->ae af):Prop:=∀t:af,t.Hits.len<=1000->t.aU.len<=1000->C t=.ok t
theorem zXK{E:ztK}:zCp (ztL E):=λt h1 h2=>ae.ext λk=>by rw[zXD,jg omY omY,jg omY omY,aY]
def Fh(a b:af):Bool:=(a.View==b.View)&&((cmpL (mM a.Hits) (mM b.Hits)==0)&&(cmpL (mM a.aU) (mM b.aU)==0))
abbrev Q52(C:af×af->ae Bool):Prop:=∀a b,One a->One b->a.aU.len=a.Hits.len->b.aU.len=b.Hits.len->C (a,b)=.ok (Fh a b)
theorem s52{E:E52}(h38:YF E.Vx):Q52 (F52 E):=λa b ha hb sa sb=>ae.ext λk=>by
 have la:=ha.le;have lb:=hb.le;rw[e52,h38 _ _ omY omY,aY,h38 _ _ omY omY,aY,aY];unfold Fh;cases a.View==b.View<;>cases cmpL (mM a.Hits) (mM b.Hits)==0<;>rfl
theorem zdW{a b:af}(sa:a.aU.len=a.Hits.len)(sb:b.aU.len=b.Hits.len)(h:fC a=fC b):Fh a b=true:=by
 have h1:a.View=b.View:=jX Prod.fst h;have h2:dM a=dM b:=jX Prod.snd h;unfold Fh;rw[<- Rh,<- Rh,<- Ri sa,<- Ri sb,h1,h2,o6.2 rfl,o6.2 rfl];simp
/-! Floors and ceilings. -/
theorem zJC{a b:Int}(h1 : -100000000000000000≤a∧a≤100000000000000000)(h2:0<b)(h3:b≤100000000000000000) :
  aJ (a.tdiv b)=a.tdiv b/\aJ (a.tdiv b*b)=a.tdiv b*b/\(a.tdiv b*b>a->aJ (a.tdiv b-1)=a/b)/\(¬a.tdiv b*b>a->a.tdiv b=a/b)/\(a.tdiv b*b<a->aJ (a.tdiv b+1) = -(-a/b))/\(¬a.tdiv b*b<a->a.tdiv b = -(-a/b)):=by
 have q:=YE h1 h2;have q':=YE (a:=-a) omY h2;rcases qdV a 0 with hn|hn
 have e:a.tdiv b = -(-a/b):=by
  rw[show a = -(-a)by omega,Int.neg_tdiv,qdG omY,Int.neg_neg]
 have m1:=qjX (-a) b;have m2:=jqr (-a) (show b≠0 by omega);have m3:=qj9 (-a) h2;have pr : -(-a/b)*b = -(b*(-a/b)):=by rw[qj3,jqZ]
 rw[e,pr];refine⟨aW omY omY,aW omY omY,λh=>?_,λh=>?_,λh=>by omega,λ_=>rfl⟩;have:a/b = -(-a/b)-1:=by
  refine((qd7 (r:=b - -a%b) h2).2 ⟨?_,omY,omY⟩).1;rw[qjP,qjk];omega
 rw[this,aW omY omY];refine((qd7 (r:=0) h2).2 ⟨?_,by omega,by omega⟩).1.symm;rw[qjk];omega;have e:a.tdiv b=a/b:=qdG hn;have m1:=qjX a b;have m2:=jqr a (show b≠0 by omega);have m3:=qj9 a h2;have pr:a/b*b=b*(a/b):=jqZ _ _;rw[e,pr];refine⟨aW omY omY,aW omY omY,λh=>by omega,λ_=>rfl,λh=>?_,λh=>?_⟩;have : -a/b = -(a/b)-1:=by
  refine((qd7 (r:=b-a%b) h2).2 ⟨?_,omY,omY⟩).1;rw[qjP,qjk];omega
 rw[this,aW omY omY];omega;have : -a/b = -(a/b):=by
  refine((qd7 (r:=0) h2).2 ⟨?_,omY,omY⟩).1;rw[qjk];omega
 rw[this];omega
theorem zmb{α:Type}[bI α][sU α](v:Sl α)(a:Nat)(h:a<=v.len)(x:α):ls (⟨(((a:Int)-0).toNat+1)+((v.len:Int)-(a:Int)).toNat,jy (((a:Int)-0).toNat+1) (jy ((a:Int)-0).toNat (uY v.get 0) (λ_=>x)) (uY v.get (a:Int).toNat)⟩:Sl α)=(ls v).take a++x::(ls v).drop a:=by
 have e1:((a:Int)-0).toNat=a:=by omega
 have e2:((v.len:Int)-(a:Int)).toNat=v.len-a:=by omega
 rw[e1,e2,gm];refine(Hq (⟨a+1,jy a (uY v.get 0) λ_=>x⟩:Sl α) (⟨v.len-a,uY v.get a⟩:Sl α)).trans ?_;rw[show(⟨a+1,jy a (uY v.get 0) λ_=>x⟩:Sl α)=qB ⟨a,uY v.get 0⟩ x from rfl,QY,List.append_assoc];have t:ls (⟨a,uY v.get 0⟩:Sl α)=(ls v).take a:=by
  refine jql (by rw[fK,qdB,fK];show a=_;omega) λi h1 h2=>?_;simp[ls,uY]
 have d:ls (⟨v.len-a,uY v.get a⟩:Sl α)=(ls v).drop a:=by
  refine jql (by rw[fK,Zx,fK]) λi h1 h2=>?_;simp[ls,uY,jqS]
 rw[t,d];rfl
theorem ztN{α:Type}{L:List α}{a:Nat}{x y:α}:y∈L.take a++x::L.drop a↔y=x\/y∈L:=by
 rw[dX,kS];have q:y∈L↔y∈L.take a\/y∈L.drop a:=by rw[<- dX,qjm]
 rw[q];constructor;rintro(h|h|h);exact .inr (.inl h);exact .inl h;exact .inr (.inr h);rintro(h|h|h);exact .inr (.inl h);exact .inl h;exact .inr (.inr h)
def eqL(x y:Line):Bool:=cond (cond (x.dK.Num==y.dK.Num) (cond (x.dK.bQ==y.dK.bQ) true false) false) (cond (cond (x.Start.Num==y.Start.Num) (cond (x.Start.bQ==y.Start.bQ) true false) false) true false) false
theorem zCq{x y:Line}(h:eqL x y=true):x=y:=by
 unfold eqL at h;cases h1:x.dK.Num==y.dK.Num with
 | false=>rw[h1]at h;cases h
 | true =>
 cases h2:x.dK.bQ==y.dK.bQ with
 | false=>rw[h1,h2]at h;cases h
 | true =>
 cases h3:x.Start.Num==y.Start.Num with
 | false=>rw[h1,h2,h3]at h;cases h
 | true =>
 cases h4:x.Start.bQ==y.Start.bQ with
 | false=>rw[h1,h2,h3,h4]at h;cases h
 | true =>
  have a:=eq_of_beq h1;have b:=eq_of_beq h2;have c:=eq_of_beq h3;have d:=eq_of_beq h4;obtain⟨⟨x1,x2⟩,⟨x3,x4⟩⟩:=x;obtain⟨⟨y1,y2⟩,⟨y3,y4⟩⟩:=y;simp only at a b c d;rw[a,b,c,d]
abbrev zmc(C:Sl au->ae (Sl Line)):Prop:=∀g,bU g->∃L:Sl Line,C g=.ok L/\L.len<=2304/\(∀x∈ls L,∃t,uf g t/\x=fB t)/\∀t,uf g t->fB t∈ls L
theorem zJD{E:Pv}(N:Big E.N)(zkH:zti E.zna)(h57:Q57 E.c57)(zkI:ztj E.c226):zmc (zkF E):=λg G=>by
 have hg:=G.2;have hN:=N;have hc:=JO G;have hcd:=zdJ g;have pos:∀n0 (i:Nat),i<(cst g).length->∀(v:Sl Line),(∀x∈ls v,∃t,uf g t/\x=fB t)->v.len<=2304->∃a,a<=v.len/\∀(A:Type)(k:Sl Line->Option A),oZ E n0 E.N g v (qO g) (i:Int) 0 k=l9 E n0 g v (qO g) (i:Int) (a:Int) k:=by
  intro n0 i hi v hv hl;have key:∀(m j n1:Nat),j+m=v.len->m<n1->∃a,a<=v.len/\∀(A:Type)(k:Sl Line->Option A),oZ E n0 n1 g v (qO g) (i:Int) (j:Int) k=l9 E n0 g v (qO g) (i:Int) (a:Int) k:=by
   intro m
   induction m with
   | zero =>
    intro j n1 hj hn;obtain⟨n1,rfl⟩:∃n',n1=n'+1:=⟨n1-1,omY⟩;exact⟨j,omY,λA k=>by rw[Uo,dR omY];rfl⟩
   | succ m ih =>
    intro j n1 hj hn;obtain⟨n1,rfl⟩:∃n',n1=n'+1:=⟨n1-1,omY⟩;obtain⟨s,hs,es⟩:=hv (v.get j) (ku.2 ⟨j,omY,rfl⟩);obtain⟨b,hb⟩:=zkI s (cst g)[i] g (kV G hs) (qA G (RN hi)) G;have st:∀(A:Type)(k:Sl Line->Option A),oZ E n0 (n1+1) g v (qO g) (i:Int) (j:Int) k=cond b (oZ E n0 n1 g v (qO g) (i:Int) ((j+1:Nat):Int) k) (l9 E n0 g v (qO g) (i:Int) (j:Int) k):=λA k=>by
     rw[Uo,dC omY,dO,bu omY,bu omY,gm,gm,es,Aj g hi,hb,aY,bD omY]
    cases b with
    | true =>
     obtain⟨a,h1,h2⟩:=ih (j+1) n1 omY omY;exact⟨a,h1,λA k=>by rw[st];exact h2 A k⟩
    | false=>exact⟨j,omY,λA k=>by rw[st];rfl⟩
  exact key v.len 0 E.N omY omY
 have key:∀(m i n:Nat)(v:Sl Line),i+m=(cst g).length->m<n->(∀x∈ls v,∃t,uf g t/\x=fB t)->v.len<=i->∃L:Sl Line,(∀(A:Type)(k:Sl Line->Option A),jZ E n g v (qO g) (i:Int) k=k L)/\L.len<=(cst g).length/\(∀x∈ls L,∃t,uf g t/\x=fB t)/\(∀x∈ls v,x∈ls L)/\∀j (h:j<(cst g).length),i<=j->xP g (cst g)[j]->fB (cst g)[j]∈ls L:=by
  intro m
  induction m with
  | zero =>
   intro i n v hi hn hv hl;obtain⟨n,rfl⟩:∃n',n=n'+1:=⟨n-1,omY⟩;exact⟨v,λA k=>by rw[Un,dR omY];rfl,omY,hv,λx h=>h,λj h Jm=>by omega⟩
  | succ m ih =>
   intro i n v hi hn hv hl;obtain⟨n,rfl⟩:∃n',n=n'+1:=⟨n-1,omY⟩;have kH:i<(cst g).length:=by omega
   have S:=qA G (RN kH);have pl:=EZ (cst g)[i] g g.len;have st:∀(A:Type)(k:Sl Line->Option A),jZ E (n+1) g v (qO g) (i:Int) k=cond (decide (((sG (cst g)[i] g g.len).len:Int)<(g.len:Int))) (jZ E n g v (qO g) ((i+1:Nat):Int) k) (oZ E n E.N g v (qO g) (i:Int) 0 k):=λA k=>by
    rw[Un,dC omY,dO,bu omY,gm,Aj g kH,h57 _ g S omY G.1,aY,bD omY]
   by_cases ha:xP g (cst g)[i];have e:(sG (cst g)[i] g g.len).len=g.len:=pl.2.1.2 ha;obtain⟨a,a1,a2⟩:=pos n i kH v hv omY;have st2:∀(A:Type)(k:Sl Line->Option A),jZ E (n+1) g v (qO g) (i:Int) k=l9 E n g v (qO g) (i:Int) (a:Int) k:=λA k=>by rw[st,dR omY,dN,a2]
   let v':Sl Line:=⟨(((a:Int)-0).toNat+1)+((v.len:Int)-(a:Int)).toNat,jy (((a:Int)-0).toNat+1) (jy ((a:Int)-0).toNat (uY v.get 0) (λ_=>(qO g).get (i:Int).toNat)) (uY v.get (a:Int).toNat)⟩;have i1:∀(A:Type)(k:Sl Line->Option A),Cf E n g v (qO g) (i:Int) (a:Int) k=jZ E n g v' (qO g) ((i+1:Nat):Int) k:=λA k=>by
    rw[zkG,bu omY,jg omY omY,bu omY,jg omY omY,bu omY,jg omY omY,bD omY]
   have i2:v'.len=v.len+1:=by show((((a:Int)-0).toNat+1)+((v.len:Int)-(a:Int)).toNat)=_;omega
   have lg:(qO g).get (i:Int).toNat=fB (cst g)[i]:=by rw[gm,Aj g kH]
   have i3:∀x,x∈ls v'↔x=fB (cst g)[i]\/x∈ls v:=λx=>by
    rw[show ls v'=(ls v).take a++(qO g).get (i:Int).toNat::(ls v).drop a from zmb v a a1 _,ztN,lg]
   have i4:∀x∈ls v',∃t,uf g t/\x=fB t:=λx hx=>by
    rcases(i3 x).1 hx with h|h
    exact⟨_,⟨RN kH,ha⟩,h⟩;exact hv x h
   have fin:∃v'':Sl Line,(∀(A:Type)(k:Sl Line->Option A),l9 E n g v (qO g) (i:Int) (a:Int) k=jZ E n g v'' (qO g) ((i+1:Nat):Int) k)/\v''.len<=i+1/\(∀x∈ls v'',∃t,uf g t/\x=fB t)/\(∀x∈ls v,x∈ls v'')/\fB (cst g)[i]∈ls v'':=by
    by_cases h1:(a:Int)<(v.len:Int)
    ·have e3:∀(A:Type)(k:Sl Line->Option A),l9 E n g v (qO g) (i:Int) (a:Int) k=cond (eqL (v.get a) ((qO g).get (i:Int).toNat)) (jZ E n g v (qO g) ((i+1:Nat):Int) k) (Cf E n g v (qO g) (i:Int) (a:Int) k):=λA k=>by
      rw[Ur,dC h1,dO,bu omY,bu omY,bD omY,gm,gm];rfl
     cases hB:eqL (v.get a) ((qO g).get (i:Int).toNat)with
     | true =>
      rw[hB]at e3;have:=zCq hB;rw[lg]at this;exact⟨v,λA k=>e3 A k,omY,hv,λx h=>h,by rw[<- this];exact ku.2 ⟨a,omY,rfl⟩⟩
     | false =>
      rw[hB]at e3;exact⟨v',λA k=>(e3 A k).trans (i1 A k),omY,i4,λx h=>(i3 x).2 (.inr h),(i3 _).2 (.inl rfl)⟩
    exact⟨v',λA k=>by rw[Ur,dR h1];exact i1 A k,omY,i4,λx h=>(i3 x).2 (.inr h),(i3 _).2 (.inl rfl)⟩
   obtain⟨v'',f1,f2,f3,f4,f5⟩:=fin;obtain⟨L,l1,l2,l3,l4,l5⟩:=ih (i+1) n v'' omY omY f3 f2;refine⟨L,λA k=>by rw[st2,f1,l1],l2,l3,λx h=>l4 x (f4 x h),λj h Jm hj=>?_⟩;by_cases e:j=i;subst e;exact l4 _ f5;exact l5 j h omY hj;have e:(sG (cst g)[i] g g.len).len<g.len:=by
    rcases qdP (sG (cst g)[i] g g.len).len g.len with h|h
    exact h;exact absurd (pl.2.1.1 omY) ha
   obtain⟨L,l1,l2,l3,l4,l5⟩:=ih (i+1) n v omY omY hv omY;refine⟨L,λA k=>by rw[st,dC omY,dO,l1],l2,l3,l4,λj h Jm hj=>?_⟩;have:j≠i:=λe=>ha (by subst e;exact hj);exact l5 j h omY hj
 obtain⟨L,l1,l2,l3,_,l5⟩:=key (cst g).length 0 E.N eL omY omY (λx hx=>by cases hx) (kD _);refine⟨L,ae.ext λk=>by rw[zIY,zkH g G,aY,aY];exact l1 _ k,omY,l3,λt ht=>?_⟩;obtain⟨j,h1,rfl⟩:=qdD ht.1;exact l5 j h1 (ui _) ht.2
theorem zby{α:Type}{a b:α}(h:(ae.ok a:ae α)=.ok b):a=b:=PS (jX (λc=>ae.o c) h)
theorem J4{a b:aP}(h1:Ot a)(h2:Ot b):leB a b=true↔Ag a b:=by
 unfold leB;rw[QX h1 h2,QX h2 h1,lQ];rfl
def PlC(g:Sl au)(z:Int)(f:aP):Prop:=∃t,uf g t/\f=red (gX t z) t.den
theorem zbz{t:straight}(S:yI t){z:Int}(hz:Oq z):Ot (red (gX t z) t.den):=by
 have h:=UJ S hz;have a : -600000000000<=gX t z/\gX t z<=600000000000:=h.1;have b:0<t.den/\t.den<=100000:=h.2;have r1:=Af (num:=gX t z) b.1;have r2:=Ha (num:=gX t z) b.1;have r3:=jH (num:=gX t z) b.1;exact⟨omY,r3,omY⟩
abbrev zmd(C:Sl au×Int->ae (aP×aP)):Prop:=∀g z,bU g->Oq z->fP g=false->eH g=true->∃a b,C (g,z)=.ok (a,b)/\(PlC g z a/\∀t,uf g t->CY a (red (gX t z) t.den))/\PlC g z b/\∀t,uf g t->CY (red (gX t z) t.den) b
theorem zJE{E:zbc}(N:Big E.N)(NF:zly E.Fq)(zbb:zmc E.c194)(h76:Q76 E.c76)(h56:Q56 E.c56):zmd (zrb E):=λg z G hz hf hs=>by
 have hg:=G.2;have hN:=N;obtain⟨L,l1,l2,l3,l4⟩:=zbb g G;obtain⟨t0,t01,t02⟩:=(Ak G hf).1 hs;have l0:0<L.len:=by
  have:=jqN (l4 t0 ⟨t01,t02⟩);rw[fK]at this;exact this
 have pc:∀i,i<L.len->∃t,uf g t/\L.get i=fB t/\E.c76 (L.get i,z)=.ok (red (gX t z) t.den):=λi hi=>by
  obtain⟨t,ht,e⟩:=l3 _ (ku.2 ⟨i,hi,rfl⟩);exact⟨t,ht,e,by rw[e];exact h76 t z (kV G ht) hz⟩
 have pok:∀f,PlC g z f->Ot f:=λf ⟨t,ht,e⟩=>by rw[e];exact zbz (kV G ht) hz
 have key:∀(m i n:Nat)(x y:aP),i+m=L.len->m<n->PlC g z x->PlC g z y->(∀j,j<i->∀f,E.c76 (L.get j,z)=.ok f->CY x f/\CY f y) ->
   ∃a b,(∀(A:Type)(k:aP×aP->Option A),Cc E n z L (i:Int) x y k=k (a,b))/\PlC g z a/\PlC g z b/\∀j,j<L.len->∀f,E.c76 (L.get j,z)=.ok f->CY a f/\CY f b:=by
  intro m
  induction m with
  | zero =>
   intro i n x y hi hn hx hy hb;obtain⟨n,rfl⟩:∃n',n=n'+1:=⟨n-1,omY⟩;exact⟨x,y,λA k=>by rw[zko,dR omY];rfl,hx,hy,λj hj=>hb j omY⟩
  | succ m ih =>
   intro i n x y hi hn hx hy hb;obtain⟨n,rfl⟩:∃n',n=n'+1:=⟨n-1,omY⟩;obtain⟨t,ht,et,ef⟩:=pc i omY;have hf':PlC g z (red (gX t z) t.den):=⟨t,ht,rfl⟩;generalize red (gX t z) t.den=f at ef hf';have px:=pok x hx;have py:=pok y hy;have pf:=pok f hf';have st:∀(A:Type)(k:aP×aP->Option A),Cc E (n+1) z L (i:Int) x y k=Cc E n z L ((i+1:Nat):Int) (cond (leB f x) f x) (cond (leB y f) f y) k:=λA k=>by
    rw[zko,dC omY,dO,bu omY,gm,ef,aY,h56,aY];cases leB f x<;>simp only[dO,dN]<;>rw[zAv,h56,aY,bD omY]<;>cases leB y f<;>rfl
   have zwC:CY f f:=qjl _;obtain⟨a,b,h1,h2,h3,h4⟩:=ih (i+1) n (cond (leB f x) f x) (cond (leB y f) f y) omY omY (by cases leB f x<;>assumption) (by cases leB y f<;>assumption) (λj hj q hq=>by
    have qf:j=i->q=f:=λe=>by subst e;exact zby (hq.symm.trans ef)
    have qo:PlC g z q:=by
     obtain⟨t',ht',_,e'⟩:=pc j omY;exact⟨t',ht',zby (hq.symm.trans e')⟩
    have pq:=pok q qo;constructor
    ·cases hl:leB f x with
     | true =>
      have lt:=(J4 pf px).1 hl;rw[dO];by_cases e:j=i;rw[qf e];exact zwC;exact qC pf.2.1 px.2.1 pq.2.1 (uX lt) (hb j omY q hq).1
     | false =>
      rw[dN];by_cases e:j=i;rw[qf e];exact UZ λh=>by rw[(J4 pf px).2 h]at hl;cases hl
      exact(hb j omY q hq).1
    ·cases hl:leB y f with
     | true =>
      have lt:=(J4 py pf).1 hl;rw[dO];by_cases e:j=i;rw[qf e];exact zwC;exact qC pq.2.1 py.2.1 pf.2.1 (hb j omY q hq).2 (uX lt)
     | false =>
      rw[dN];by_cases e:j=i;rw[qf e];exact UZ λh=>by rw[(J4 py pf).2 h]at hl;cases hl
      exact(hb j omY q hq).2)
   exact⟨a,b,λA k=>by rw[st];exact h1 A k,h2,h3,h4⟩
 obtain⟨t,ht,et,ef⟩:=pc 0 l0;obtain⟨a,b,h1,h2,h3,h4⟩:=key (L.len-1) 1 E.N (red (gX t z) t.den) (red (gX t z) t.den) omY omY ⟨t,ht,rfl⟩ ⟨t,ht,rfl⟩ (λj hj q hq=>by
  rw[show j=0 by omega]at hq;have:=zby (hq.symm.trans ef);rw[this];exact⟨qjl _,qjl _⟩)
 have al:∀u,uf g u->CY a (red (gX u z) u.den)/\CY (red (gX u z) u.den) b:=λu hu=>by
  obtain⟨j,hj,e⟩:=ku.1 (l4 u hu);exact h4 j hj _ (by rw[e];exact h76 u z (kV G hu) hz)
 refine⟨a,b,ae.ext λk=>?_,⟨h2,λu hu=>(al u hu).1⟩,h3,λu hu=>(al u hu).2⟩;rw[zUo,NF g omY omY,aY,hf,dN,l1,aY,bu omY,ef,aY,bu omY,aY,aY];exact h1 _ k
abbrev zme(C:aP->ae Int):Prop:=∀f:aP,FlK f->C f=.ok (f.Num/f.bQ)
theorem zJF{E:zre}:zme (zrf E):=λf ⟨h1,h2,h3⟩=>ae.ext λk=>by
 obtain⟨x1,x2,x3,x4,_,_⟩:=zJC h1 h2 h3;rw[zUq,bu omY,x1,x2,aY];by_cases c:f.Num.tdiv f.bQ*f.bQ>f.Num;rw[dC c,dO,x3 c];rw[dR c,dN,x4 c]
theorem zbA:∀{r:List (Int×bY)}{n:Int},(∀t∈r,-2000000000≤t.2.High∧t.2.High≤2000000000)→n≤nxt r n
  | [],n,_=>qjl _
  | y::r,n,h=>by
    have hy:=h y kX;have hr:∀t∈r,-2000000000<=t.2.High/\t.2.High<=2000000000:=λt ht=>h t (jW _ ht);rw[nxt];by_cases c:y.2.Low<=n/\n<=y.2.High;rw [dC c.1,dC c.2,qjN,dO,aW omY omY];have:=zbA (n:=y.2.High+1) hr;omega;have e:(decide (y.2.Low<=n)&&decide (n<=y.2.High))=false:=by
      by_cases h1:y.2.Low<=n;rw[dR (show ¬n<=y.2.High from λh2=>c ⟨h1,h2⟩),ZK];rw[dR h1,ZL]
    rw[e,dN];exact zbA hr
theorem ztP{p:ai}(hp:Vw p){x:bY}(hx:UR x=true):zK p x=Q3 p x:=by
 have hx:=qdo hx;cases hm:Q3 p x with
 | false =>
  cases hb:zK p x with
  | false=>rfl
  | true =>
   have:=zl4 hp hb ⟨hx.1,hx.2.2⟩ (qjl _) hx.2.1 (qjl _);rw[this]at hm;cases hm
 | true =>
  have hh:=U1 hp;have ZE:=hp;obtain⟨_,_,_,hf,hpi,FT,hsp,ho,_⟩:=hp;unfold Q3 at hm;rw[aW (x:=x.Low-p.bf.High) omY omY,aW (x:=x.High-p.bf.Low) omY omY,aW (x:=p.bG-1) omY omY]at hm;simp only[gq,lQ,dm,H6]at hm;obtain⟨⟨m1,m2⟩,m3⟩:=hm;rw[(xY ZE (c:=0) omY omY).1]at m1;rw[(xY ZE (c:=p.bG-1) omY omY).1]at m2;have ge:∀q:Nat,(q:Int)<p.bG->nV p (q:Int)=⟨p.First+q*p.aO-gG p,p.First+q*p.aO-gG p+p.aO-1⟩/\0<=(q:Int)*p.aO/\(q:Int)*p.aO<=1000000000:=λq hq=>xY ZE (c:=(q:Int)) omY omY;have hb:∀m c:Nat,c+m=p.bG.toNat->∀t∈Ho p m c,-2000000000<=t.2.High/\t.2.High<=2000000000:=λm c hc t ht=>by
   obtain⟨q,_,q2,_,e⟩:=zL ht;obtain⟨e2,e3,e4⟩:=ge q omY;rw[e,e2];show _<=p.First+q*p.aO-gG p+p.aO-1/\p.First+q*p.aO-gG p+p.aO-1<=_;omega
  generalize hlo:x.Low-p.bf.High=lo at *;generalize hhi:x.High-p.bf.Low=hi at *;have m1:lo>=p.First+0*p.aO-gG p:=m1;have m2:hi<=p.First+(p.bG-1)*p.aO-gG p+p.aO-1:=m2;have key:∀(m c:Nat)(n:Int),c+m=p.bG.toNat->lo<=n->(n<=hi->p.First+c*p.aO-gG p<=n)->hi<nxt (Ho p m c) n:=by
   intro m
   induction m with
   | zero =>
    intro c n hc hn h;show hi<n;rcases qdV hi n with h1|h1
    exact h1;have h2:=h h1;have e:(c:Int)=p.bG:=by omega
    rw[e]at h2;have:(p.bG-1)*p.aO=p.bG*p.aO-p.aO:=by rw[qj5,jqq]
    omega
   | succ m ih =>
    intro c n hc hn h;obtain⟨e2,e3,e4⟩:=ge c omY;have nx:((c+1:Nat):Int)*p.aO=c*p.aO+p.aO:=by rw[show((c+1:Nat):Int)=(c:Int)+1 by omega,qjd,jqq]
    rcases qdV hi n with h1|h1
    exact Int.lt_of_lt_of_le h1 (zbA (hb (m+1) c hc));have h2:=h h1;simp only[Ho];cases hd:hasB p.Dead (c:Int)with
    | true =>
     rw[dO];refine ih (c+1) n omY hn λ_=>?_;have d:=m3 c omY;simp only[Fa,hd,I5]at d;rw[e2]at d;have d:(decide (p.First+c*p.aO-gG p<=hi)&&decide (p.First+c*p.aO-gG p+p.aO-1>=lo))=false:=d;rw[dC (show p.First+c*p.aO-gG p<=hi by omega),I5,dqQ]at d;rw[nx];omega
    | false =>
     rw[dN,nxt];have te:zJp p c=nV p (c:Int):=rfl;rw[te,e2];show hi<nxt (Ho p m (c+1)) (cond (decide (p.First+c*p.aO-gG p<=n)&&decide (n<=p.First+c*p.aO-gG p+p.aO-1)) (aJ (p.First+c*p.aO-gG p+p.aO-1+1)) n);rw[dC h2,I5];by_cases c1:n<=p.First+c*p.aO-gG p+p.aO-1;rw [dC c1,dO,aW omY omY];exact ih (c+1) _ omY omY λ_=>by rw[nx];omega
     rw [dR c1,dN];exact ih (c+1) n omY hn λ_=>by rw[nx];omega
  unfold zK;rw[lQ,aW (x:=x.Low-p.bf.High) omY omY,aW (x:=x.High-p.bf.Low) omY omY,hlo,hhi];exact key p.bG.toNat 0 lo omY (qjl _) λ_=>by show p.First+0*p.aO-gG p<=lo;omega
structure E89 where
 N:Nat
 c146:(Sl au)×(Sl Int)->ae ((Sl au))
 c145:(Sl au)->ae Bool
abbrev G89(E:E89):bK:=gU ((Tabs.nil.addF 146 (ae.un E.c146)).addF 145 (ae.un E.c145)) []
def A89:dG:=bT aB 89 [] {}
def F89(E:E89):(Sl au)->ae ((Sl Int)):=ae.ty (aF aB E.N (G89 E) A89 89)
section
variable(E:E89){A:Type}(k:(Sl Int)->Option A)
def OB(E:E89)(n:Nat)(a0:Sl au)(v4:Int){A:Type}(k:(Sl Int)->Option A):Option A:=gW aB (G89 E) E.N A89 89 [1,1,0,1,0] [.n n] (gV k) ⟨[(0,eP a0),(3,.int (a0.len:Int)),(4,.int v4)],[],[]⟩
def Rk(E:E89)(n0 n:Nat)(a0:Sl au)(v4 v5:Int){A:Type}(k:(Sl Int)->Option A):Option A:=gW aB (G89 E) E.N A89 89 [1,1,0,1,0,0,1,0,0,1,0] [.n n0,.n n] (gV k) ⟨[(0,eP a0),(3,.int (a0.len:Int)),(4,.int v4),(5,.int v5)],[],[]⟩
def Rl(E:E89)(n:Nat)(a0:Sl au)(v6:Int){A:Type}(k:(Sl Int)->Option A):Option A:=gW aB (G89 E) E.N A89 89 [1,1,1,0,1,0] [.n n] (gV k) ⟨[(0,eP a0),(3,.int (a0.len:Int)),(6,.int v6)],[],[]⟩
def Rn(E:E89)(n0 n:Nat)(a0:Sl au)(v6 v7:Int){A:Type}(k:(Sl Int)->Option A):Option A:=gW aB (G89 E) E.N A89 89 [1,1,1,0,1,0,0,1,0,0,1,0] [.n n0,.n n] (gV k) ⟨[(0,eP a0),(3,.int (a0.len:Int)),(6,.int v6),(7,.int v7)],[],[]⟩
def Rq(E:E89)(n0 n1 n:Nat)(a0:Sl au)(v6 v7 v8:Int){A:Type}(k:(Sl Int)->Option A):Option A:=gW aB (G89 E) E.N A89 89 [1,1,1,0,1,0,0,1,0,0,1,0,0,1,0,0,1,0] [.n n0,.n n1,.n n] (gV k) ⟨[(0,eP a0),(3,.int (a0.len:Int)),(6,.int v6),(7,.int v7),(8,.int v8)],[],[]⟩
theorem e89(a0:Sl au):(F89 E (a0)).T k=OB E E.N a0 0 k:=dS
theorem zwD(n0:Nat)(a0:Sl au)(v4:Int):OB E (n0+1) a0 v4 k=cond (decide (v4<(a0.len:Int))) (Rk E n0 E.N a0 v4 (aJ (v4+1)) k) (Rl E E.N a0 0 k):=krY
theorem zwE(n0 n1:Nat)(a0:Sl au)(v4 v5:Int):Rk E n0 (n1+1) a0 v4 v5 k=cond (decide (v5<(a0.len:Int))) ((E.c146 (a0,(⟨2,(gK [v4,v5])⟩:(Sl Int)))).T λr1=>(E.c145 r1).T λr2=>cond (!r2) (k (⟨2,(gK [v4,v5])⟩:(Sl Int))) (Rk E n0 n1 a0 v4 (aJ (v5+1)) k)) (OB E n0 a0 (aJ (v4+1)) k):=krY
theorem zwF(n0:Nat)(a0:Sl au)(v6:Int):Rl E (n0+1) a0 v6 k=cond (decide (v6<(a0.len:Int))) (Rn E n0 E.N a0 v6 (aJ (v6+1)) k) (k (⟨0,λ_=>default⟩:(Sl Int))):=krY
theorem zwG(n0 n1:Nat)(a0:Sl au)(v6 v7:Int):Rn E n0 (n1+1) a0 v6 v7 k=cond (decide (v7<(a0.len:Int))) (Rq E n0 n1 E.N a0 v6 v7 (aJ (v7+1)) k) (Rl E n0 a0 (aJ (v6+1)) k):=krY
theorem zwH(n0 n1 n2:Nat)(a0:Sl au)(v6 v7 v8:Int):Rq E n0 n1 (n2+1) a0 v6 v7 v8 k=cond (decide (v8<(a0.len:Int))) ((E.c146 (a0,(⟨3,(gK [v6,v7,v8])⟩:(Sl Int)))).T λr1=>(E.c145 r1).T λr2=>cond (!r2) (k (⟨3,(gK [v6,v7,v8])⟩:(Sl Int))) (Rq E n0 n1 n2 a0 v6 v7 (aJ (v8+1)) k)) (Rn E n0 n1 a0 v6 (aJ (v7+1)) k):=krY
end
theorem o89 [aC](E:E89)(ztQ:Ok aB 146 (ae.un E.c146))(XY:Ok aB 145 (ae.un E.c145)):Ok aB 89 (ae.un (F89 E)):=dU ((ax.nil.addF ztQ).addF XY)
structure zf1 where
 N:Nat
abbrev zJG(E:zf1):bK:=gU Tabs.nil []
def zJH:dG:=bT aB 146 [] {ks:=[(1,3,⟨[],[(5,22,101)],[],[],[],[],[]⟩)]}
def ztR(E:zf1):(Sl au)×(Sl Int)->ae ((Sl au)):=ae.ty (aF aB E.N (zJG E) zJH 146)
section
variable(E:zf1){A:Type}(k:(Sl au)->Option A)
def U7(E:zf1)(n:Nat)(a0:Sl au)(a1:Sl Int)(v6:Int)(GZ:Sl au){A:Type}(k:(Sl au)->Option A):Option A:=gW aB (zJG E) E.N zJH 146 [1,1,0,1,0] [.n n] (gV k) ⟨[(0,eP a0),(1,eP a1),(5,.cl (.vec 22)),(6,.int v6)],[(22,eV 101 3 24 GZ)],[]⟩
theorem zXL(a0:Sl au)(a1:Sl Int):(ztR E (a0,a1)).T k=U7 E E.N a0 a1 0 (⟨0,(λ_=>(⟨0,0,0⟩:au))⟩:(Sl au)) k:=dS
theorem zmf(n0:Nat)(a0:Sl au)(a1:Sl Int)(v6:Int)(GZ:Sl au):U7 E (n0+1) a0 a1 v6 GZ k=cond (decide (v6<(a1.len:Int))) (aV (decide (0<=v6/\v6<(a1.len:Int))) (aV (decide (0<=a1.get v6.toNat/\a1.get v6.toNat<(a0.len:Int))) (aV (room (GZ.len+1) 24) (U7 E n0 a0 a1 (aJ (v6+1)) (⟨(GZ.len+1),(jy GZ.len GZ.get (λ_=>(a0.get (a1.get v6.toNat).toNat)))⟩:(Sl au)) k)))) (k GZ):=krY
end
theorem zXM [aC](E:zf1):Ok aB 146 (ae.un (ztR E)):=dU ax.nil
def J5{β:Type}(hit:Nat→Option β):Nat→Nat→Option β
  | 0,_=>none
  | m+1,i=>match hit i with|some r=>some r|none=>J5 hit m (i+1)
def iI{A β:Type}(o:Option β)(f:β->A)(d:A):A:=match o with|some r=>f r|none=>d
theorem wK{β:Type}{hit:Nat->Option β}{m i:Nat}:J5 hit (m+1) i=iI (hit i) some (J5 hit m (i+1)):=by
 show(match hit i with|some r=>some r|none=>J5 hit m (i+1))=_;cases hit i<;>rfl
theorem iq{A β:Type}{X:Nat->Nat->A}{hit:Nat->Option β}{f:β->A}{fin:A}{len:Nat}(st:∀n i,i<len->X (n+1) i=iI (hit i) f (X n (i+1)))(en:∀n,X (n+1) len=fin):∀m i n,i+m=len->m<n->X n i=iI (J5 hit m i) f fin:=by
 intro m
 induction m with
 | zero =>
  intro i n hi hn;obtain⟨n,rfl⟩:∃n',n=n'+1:=⟨n-1,omY⟩;rw[show i=len by omega,en];rfl
 | succ m ih =>
  intro i n hi hn;obtain⟨n,rfl⟩:∃n',n=n'+1:=⟨n-1,omY⟩;rw[st n i omY,ih (i+1) n omY omY,wK];cases hit i<;>rfl
theorem Rt {β : Type} {h : Nat → Option β} {a : Nat} : ∀ m b, J5 (fun j => h (a + j)) m b = J5 h m (a + b)
  | 0,_=>rfl
  | m+1,b=>by
    rw[wK,wK,Rt m (b+1)];rfl
theorem Fj {α : Type} {P : α → Bool} {g : Nat → α} : ∀ m i, J5 (fun q => cond (P (g q)) (some (g q)) none) m i = ((List.range' i m).map g).find? P
  | 0,_=>rfl
  | m+1,i=>by
    rw[ZJ,nX,qjy,wK];cases P (g i)with|true=>rfl|false=>exact Fj m (i+1)
def e2G(g:Sl au)(i j:Nat):Option (Sl Int):=cond (eH (Rf g ⟨2,gK [(i:Int),(j:Int)]⟩)) none (some ⟨2,gK [(i:Int),(j:Int)]⟩)
def e1G(g:Sl au)(i:Nat):Option (Sl Int):=J5 (e2G g i) (g.len-(i+1)) (i+1)
def h3G(g:Sl au)(i j c:Nat):Option (Sl Int):=cond (eH (Rf g ⟨3,gK [(i:Int),(j:Int),(c:Int)]⟩)) none (some ⟨3,gK [(i:Int),(j:Int),(c:Int)]⟩)
def h2G(g:Sl au)(i j:Nat):Option (Sl Int):=J5 (h3G g i j) (g.len-(j+1)) (j+1)
def h1G(g:Sl au)(i:Nat):Option (Sl Int):=J5 (h2G g i) (g.len-(i+1)) (i+1)
def brk(g:Sl au):Option (Sl Int):=iI (J5 (e1G g) g.len 0) some (J5 (h1G g) g.len 0)
def Brk(g:Sl au):Prop:=(∃b,brk g=some b/\Bad g b)\/(brk g=none/\eH g=true)
theorem zdX{A:Type}{g:Sl au}{f:Sl Int->A}{d:A}:iI (J5 (e1G g) g.len 0) f (iI (J5 (h1G g) g.len 0) f d)=iI (brk g) f d:=by
 unfold brk;cases J5 (e1G g) g.len 0<;>rfl
theorem wL{β:Type}{hit:Nat→Option β}{r:β}:∀{m i:Nat},J5 hit m i=some r→∃x,i≤x∧x<i+m∧hit x=some r
  | 0,_,h=>by cases h
  | m+1,i,h=>by
    rw[wK]at h;cases e:hit i with
    | some r' =>
      rw[e]at h;exact⟨i,kD _,omY,e.trans h⟩
    | none =>
      rw[e]at h;obtain⟨x,a,b,c⟩:=wL (m:=m) h;exact⟨x,omY,omY,c⟩
theorem qc{β:Type}{hit:Nat→Option β}:∀{m i:Nat},J5 hit m i=none→∀x,i≤x→x<i+m→hit x=none
  | 0,_,_,_,_,_=>by omega
  | m+1,i,h,x,h1,h2=>by
    rw[wK]at h;cases e:hit i with
    | some r=>rw[e]at h;cases h
    | none =>
      rw[e]at h;by_cases c:x=i;rw[c];exact e;exact qc (m:=m) h x omY omY
theorem zmg{g:Sl au}(G:bU g){w:Sl Int}(h:2<=w.len/\w.len<=3)(hw:∀a,a<w.len->0<=w.get a/\w.get a<(g.len:Int))(no:eH (Rf g w)=false):Bad g w :=
 ⟨h,hw,λs hd ha=>by
  have:=(U3 G hw omY omY).2 ⟨s,hd,ha⟩;rw[no]at this;cases this⟩
theorem zCr{g:Sl au}(G:bU g){i j:Nat}(hi:i<g.len)(hj:j<g.len)(h:e2G g i j=none):Two g i j:=by
 unfold e2G at h;cases e:eH (Rf g ⟨2,gK [(i:Int),(j:Int)]⟩)with
 | false=>rw[e]at h;cases h
 | true =>
  obtain⟨s,hd,ha⟩:=(U3 G (w:=⟨2,gK [(i:Int),(j:Int)]⟩) (in2 hi hj) (by show 1<=2;omega) (by show 2<=24;omega)).1 e;obtain⟨g0,g1⟩:=zJx (i:Int) (j:Int);have a0:iQ s (g.get (gK [(i:Int),(j:Int)] 0).toNat)=true:=ha 0 (by show 0<2;omega);have a1:iQ s (g.get (gK [(i:Int),(j:Int)] 1).toNat)=true:=ha 1 (by show 1<2;omega);rw[g0,gm]at a0;rw[g1,gm]at a1;exact⟨s,hd,a0,a1⟩
theorem zmh{g:Sl au}(G:bU g){i j c:Nat}(hi:i<g.len)(hj:j<g.len)(hc:c<g.len)(h:h3G g i j c=none):Three g i j c:=by
 unfold h3G at h;cases e:eH (Rf g ⟨3,gK [(i:Int),(j:Int),(c:Int)]⟩)with
 | false=>rw[e]at h;cases h
 | true =>
  obtain⟨s,hd,ha⟩:=(U3 G (w:=⟨3,gK [(i:Int),(j:Int),(c:Int)]⟩) (in3 hi hj hc) (by show 1<=3;omega) (by show 3<=24;omega)).1 e;obtain⟨g0,g1,g2⟩:=zCd (i:Int) (j:Int) (c:Int);have a0:iQ s (g.get (gK [(i:Int),(j:Int),(c:Int)] 0).toNat)=true:=ha 0 (by show 0<3;omega);have a1:iQ s (g.get (gK [(i:Int),(j:Int),(c:Int)] 1).toNat)=true:=ha 1 (by show 1<3;omega);have a2:iQ s (g.get (gK [(i:Int),(j:Int),(c:Int)] 2).toNat)=true:=ha 2 (by show 2<3;omega);rw[g0,gm]at a0;rw[g1,gm]at a1;rw[g2,gm]at a2;exact⟨s,hd,a0,a1,a2⟩
theorem zCs{g:Sl au}(G:bU g):Brk g:=by
 have hg:=G.2;cases h1:J5 (e1G g) g.len 0 with
 | some b =>
  obtain⟨i,_,hi,e⟩:=wL h1;obtain⟨j,_,hj,e⟩:=wL e;unfold e2G at e;cases no:eH (Rf g ⟨2,gK [(i:Int),(j:Int)]⟩)with
  | true=>rw[no]at e;cases e
  | false =>
   rw[no]at e;refine .inl ⟨b,by unfold brk;rw[h1];rfl,?_⟩;rw[<- PS e];exact zmg G ⟨by show 2<=2;omega,by show 2<=3;omega⟩ (in2 omY omY) no
 | none =>
 have bk:brk g=J5 (h1G g) g.len 0:=by unfold brk;rw[h1];rfl
 cases h2:J5 (h1G g) g.len 0 with
 | some b =>
  obtain⟨i,_,hi,e⟩:=wL h2;obtain⟨j,_,hj,e⟩:=wL e;obtain⟨c,_,hc,e⟩:=wL e;unfold h3G at e;cases no:eH (Rf g ⟨3,gK [(i:Int),(j:Int),(c:Int)]⟩)with
  | true=>rw[no]at e;cases e
  | false =>
   rw[no]at e;refine .inl ⟨b,bk.trans h2,?_⟩;rw[<- PS e];exact zmg G ⟨by show 2<=3;omega,by show 3<=3;omega⟩ (in3 omY omY omY) no
 | none =>
 refine .inr ⟨bk.trans h2,(Ht G).2 ?_⟩;have A2:∀i j,i<j->j<g.len->Two g i j:=λi j h3 h4=>zCr G omY h4 (qc (qc h1 i (ui _) omY) j omY omY);have A3:∀i j c,i<j->j<c->c<g.len->Three g i j c:=λi j c h3 h4 h5=>zmh G omY omY h5 (qc (qc (qc h2 i (ui _) omY) j omY omY) c omY omY);have A1:∀i,i<g.len->∃s:straight,0<s.den/\iQ s (g.get i)=true:=λi hi=>by
  have:=(G.1 i hi).2;refine⟨⟨0,(g.get i).Low,1⟩,by show(0:Int)<1;omega,dC ?_⟩;unfold gX;simp only;omega
 obtain⟨s,hd,hs⟩:=zwv g.len (λi s=>iQ s (g.get i)=true) (λi=>zfZ (g.get i)) λi j k hi hj hk=>by
  rcases qdv i j with a|a|a
  rcases qdv j k with b|b|b
  obtain⟨s,p,q,r,t⟩:=A3 i j k a b hk;exact⟨s,p,q,r,t⟩;obtain⟨s,p,q,r⟩:=A2 i j a hj;exact⟨s,p,q,r,by rw[<- b];exact r⟩;rcases qdv i k with c|c|c
  obtain⟨s,p,q,r,t⟩:=A3 i k j c b hj;exact⟨s,p,q,t,r⟩;obtain⟨s,p,q,r⟩:=A2 i j a hj;exact⟨s,p,q,r,by rw[<- c];exact q⟩;obtain⟨s,p,q,r,t⟩:=A3 k i j c a hj;exact⟨s,p,r,t,q⟩;subst a;rcases qdv i k with c|c|c
  obtain⟨s,p,q,r⟩:=A2 i k c hk;exact⟨s,p,q,q,r⟩;subst c;obtain⟨s,p,q⟩:=A1 i hi;exact⟨s,p,q,q,q⟩;obtain⟨s,p,q,r⟩:=A2 k i c hi;exact⟨s,p,r,r,q⟩;rcases qdv i k with b|b|b
  obtain⟨s,p,q,r,t⟩:=A3 j i k a b hk;exact⟨s,p,r,q,t⟩;obtain⟨s,p,q,r⟩:=A2 j i a hi;exact⟨s,p,r,q,by rw[<- b];exact r⟩;rcases qdv j k with c|c|c
  obtain⟨s,p,q,r,t⟩:=A3 j k i c b hi;exact⟨s,p,t,q,r⟩;obtain⟨s,p,q,r⟩:=A2 j i a hi;exact⟨s,p,r,q,by rw[<- c];exact q⟩;obtain⟨s,p,q,r,t⟩:=A3 k j i c a hi;exact⟨s,p,t,r,q⟩
 exact⟨s,hd,hs⟩
abbrev zCt(C:Sl au->ae (Sl Int×Int)):Prop:=∀g,bU g->C g=.ok (iI (brk g) (λw=>(w,0)) (⟨0,λ_=>default⟩,7))/\Brk g
theorem zXO{E:E49}(N:Big E.N)(NH:zlb E.c109)(ztE:zCl E.zm4):zCt (F49 E):=λg G=>by
 have hN:=N;have hg:=G.2;have st2:∀(A:Type)(k:Sl Int×Int->Option A)(n0 i:Nat),i<g.len->∀n1 j,j<g.len->Q5 E n0 (n1+1) g (i:Int) (j:Int) (i:Int) k=iI (e2G g i j) (λw=>k (w,0)) (Q5 E n0 n1 g (i:Int) ((j+1:Nat):Int) (i:Int) k):=λA k n0 i hi n1 j hj=>by
  rw[zwq,dC omY,dO,ztE g ⟨2,gK [(i:Int),(j:Int)]⟩ G (in2 hi hj) (by show 1<=2;omega) (by show 2<=24;omega),aY,bD omY];unfold e2G;cases eH (Rf g ⟨2,gK [(i:Int),(j:Int)]⟩)<;>rfl
 have st1:∀(A:Type)(k:Sl Int×Int->Option A),∀n0 i,i<g.len->Ov E (n0+1) g (i:Int) k=iI (e1G g i) (λw=>k (w,0)) (Ov E n0 g ((i+1:Nat):Int) k):=λA k n0 i hi=>by
  rw[zwp,dC omY,dO,bD omY];exact iq (X:=λn1 j=>Q5 E n0 n1 g (i:Int) (j:Int) (i:Int) k) (st2 A k n0 i hi) (λn=>by rw[zwq,dR omY,dN,bD omY]) _ _ _ omY omY
 have st5:∀(A:Type)(k:Sl Int×Int->Option A)(n0 n1 i j:Nat),i<g.len->j<g.len->∀n2 c,c<g.len->Q9 E n0 n1 (n2+1) g (i:Int) (j:Int) (c:Int) (i:Int) k=iI (h3G g i j c) (λw=>k (w,0)) (Q9 E n0 n1 n2 g (i:Int) (j:Int) ((c+1:Nat):Int) (i:Int) k):=λA k n0 n1 i j hi hj n2 c hc=>by
  rw[zwu,dC omY,dO,ztE g ⟨3,gK [(i:Int),(j:Int),(c:Int)]⟩ G (in3 hi hj hc) (by show 1<=3;omega) (by show 3<=24;omega),aY,bD omY];unfold h3G;cases eH (Rf g ⟨3,gK [(i:Int),(j:Int),(c:Int)]⟩)<;>rfl
 have st4:∀(A:Type)(k:Sl Int×Int->Option A)(n0 i:Nat),i<g.len->∀n1 j,j<g.len->Q8 E n0 (n1+1) g (i:Int) (j:Int) (i:Int) k=iI (h2G g i j) (λw=>k (w,0)) (Q8 E n0 n1 g (i:Int) ((j+1:Nat):Int) (i:Int) k):=λA k n0 i hi n1 j hj=>by
  rw[zwt,dC omY,dO,bD omY];exact iq (X:=λn2 c=>Q9 E n0 n1 n2 g (i:Int) (j:Int) (c:Int) (i:Int) k) (st5 A k n0 n1 i j hi hj) (λn=>by rw[zwu,dR omY,dN,bD omY]) _ _ _ omY omY
 have st3:∀(A:Type)(k:Sl Int×Int->Option A),∀n0 i,i<g.len->Q7 E (n0+1) g (i:Int) k=iI (h1G g i) (λw=>k (w,0)) (Q7 E n0 g ((i+1:Nat):Int) k):=λA k n0 i hi=>by
  rw[zwr,dC omY,dO,bD omY];exact iq (X:=λn1 j=>Q8 E n0 n1 g (i:Int) (j:Int) (i:Int) k) (st4 A k n0 i hi) (λn=>by rw[zwt,dR omY,dN,bD omY]) _ _ _ omY omY
 have res:F49 E g=.ok (iI (brk g) (λw=>(w,0)) (⟨0,λ_=>default⟩,7)):=ae.ext λk=>by
  have a:=iq (X:=λn i=>Ov E n g (i:Int) k) (st1 _ k) (λn=>by rw[zwp,dR omY,dN]) g.len 0 E.N omY omY;have b:=iq (X:=λn i=>Q7 E n g (i:Int) k) (fin:=k (⟨0,λ_=>default⟩,7)) (st3 _ k) (λn=>by rw[zwr,dR omY,dN]) g.len 0 E.N omY omY;rw[e49,NH g omY,aY,kE.2 G,aY];refine(show _=Ov E E.N g ((0:Nat):Int) k from rfl).trans (a.trans ?_);refine(jX (iI _ _) b).trans (zdX.trans ?_);cases brk g<;>rfl
 exact⟨res,zCs G⟩
abbrev zCu(C:Sl au×Sl Int->ae (Sl au)):Prop:=∀g w,bU g->(∀a,a<w.len->0<=w.get a/\w.get a<(g.len:Int))->w.len<=24->C (g,w)=.ok (Rf g w)
theorem zXR{E:zf1}(N:Big E.N):zCu (ztR E):=λg w G hw h2=>ae.ext λk=>by
 have hg:=G.2;rw[zXL,aY];refine kP (X:=λn i=>U7 E n g w (i:Int) (gw z0 (λi=>g.get (w.get i).toNat) i) k) (m:=w.len) (λn i hi=>?_) (λn=>?_) _ (by have:=N;omega);have:=hw i hi;rw[zmf,dC omY,dO,bu omY,gm,bu omY,lD,jg omY omY,bD omY];rfl;rw[zmf,dR omY,dN];rfl
abbrev Q89(C:Sl au->ae (Sl Int)):Prop:=∀g,bU g->C g=.ok (iI (brk g) id ⟨0,λ_=>default⟩)
theorem s89{E:E89}(N:Big E.N)(ztQ:zCu E.c146)(XY:ztk E.c145):Q89 (F89 E):=λg G=>by
 have hN:=N;have hg:=G.2;have st2:∀(A:Type)(k:Sl Int->Option A)(n0 i:Nat),i<g.len->∀n1 j,j<g.len->Rk E n0 (n1+1) g (i:Int) (j:Int) k=iI (e2G g i j) k (Rk E n0 n1 g (i:Int) ((j+1:Nat):Int) k):=λA k n0 i hi n1 j hj=>by
  rw[zwE,dC omY,dO,ztQ g ⟨2,gK [(i:Int),(j:Int)]⟩ G (in2 hi hj) (by show 2<=24;omega),aY,XY _ (Oy G (in2 hi hj) (by show 1<=2;omega) (by show 2<=24;omega)),aY,bD omY];unfold e2G;cases eH (Rf g ⟨2,gK [(i:Int),(j:Int)]⟩)<;>rfl
 have st1:∀(A:Type)(k:Sl Int->Option A),∀n0 i,i<g.len->OB E (n0+1) g (i:Int) k=iI (e1G g i) k (OB E n0 g ((i+1:Nat):Int) k):=λA k n0 i hi=>by
  rw[zwD,dC omY,dO,bD omY];exact iq (X:=λn1 j=>Rk E n0 n1 g (i:Int) (j:Int) k) (st2 A k n0 i hi) (λn=>by rw[zwE,dR omY,dN,bD omY]) _ _ _ omY omY
 have st5:∀(A:Type)(k:Sl Int->Option A)(n0 n1 i j:Nat),i<g.len->j<g.len->∀n2 c,c<g.len->Rq E n0 n1 (n2+1) g (i:Int) (j:Int) (c:Int) k=iI (h3G g i j c) k (Rq E n0 n1 n2 g (i:Int) (j:Int) ((c+1:Nat):Int) k):=λA k n0 n1 i j hi hj n2 c hc=>by
  rw[zwH,dC omY,dO,ztQ g ⟨3,gK [(i:Int),(j:Int),(c:Int)]⟩ G (in3 hi hj hc) (by show 3<=24;omega),aY,XY _ (Oy G (in3 hi hj hc) (by show 1<=3;omega) (by show 3<=24;omega)),aY,bD omY];unfold h3G;cases eH (Rf g ⟨3,gK [(i:Int),(j:Int),(c:Int)]⟩)<;>rfl
 have st4:∀(A:Type)(k:Sl Int->Option A)(n0 i:Nat),i<g.len->∀n1 j,j<g.len->Rn E n0 (n1+1) g (i:Int) (j:Int) k=iI (h2G g i j) k (Rn E n0 n1 g (i:Int) ((j+1:Nat):Int) k):=λA k n0 i hi n1 j hj=>by
  rw[zwG,dC omY,dO,bD omY];exact iq (X:=λn2 c=>Rq E n0 n1 n2 g (i:Int) (j:Int) (c:Int) k) (st5 A k n0 n1 i j hi hj) (λn=>by rw[zwH,dR omY,dN,bD omY]) _ _ _ omY omY
 have st3:∀(A:Type)(k:Sl Int->Option A),∀n0 i,i<g.len->Rl E (n0+1) g (i:Int) k=iI (h1G g i) k (Rl E n0 g ((i+1:Nat):Int) k):=λA k n0 i hi=>by
  rw[zwF,dC omY,dO,bD omY];exact iq (X:=λn1 j=>Rn E n0 n1 g (i:Int) (j:Int) k) (st4 A k n0 i hi) (λn=>by rw[zwG,dR omY,dN,bD omY]) _ _ _ omY omY
 refine ae.ext λk=>?_;have a:=iq (X:=λn i=>OB E n g (i:Int) k) (st1 _ k) (λn=>by rw[zwD,dR omY,dN]) g.len 0 E.N omY omY;have b:=iq (X:=λn i=>Rl E n g (i:Int) k) (fin:=k ⟨0,λ_=>default⟩) (st3 _ k) (λn=>by rw[zwF,dR omY,dN]) g.len 0 E.N omY omY;rw[e89,aY];refine(show _=OB E E.N g ((0:Nat):Int) k from rfl).trans (a.trans ?_);refine(jX (iI _ _) b).trans (zdX.trans ?_);cases brk g<;>rfl
abbrev zT:af:=⟨0,⟨0,λ_=>default⟩,⟨0,λ_=>default⟩⟩
abbrev zCv(C:Pt found×af->ae (bz×Bool)):Prop:=∀s r l t (f:Pt found),YP s r l t f.v->Brk (ZB s l t) /\
 C (f,t)=.ok (iI (brk (ZB s l t)) (λb=>(⟨2,gw (λ_=>0) (λa=>t.Hits.get (b.get a).toNat) b.len,⟨0,λ_=>default⟩,zT⟩,true)) (CO 0,false))
theorem zXT{E:E80}(N:Big E.N)(NR:zj0 E.c105)(h49:zCt E.c49):zCv (F80 E):=λs r l t f h=>by
 have hl:=h.len;have e0:∀(A:Type)(k:bz×Bool->Option A),(F80 E (f,t)).T k=(E.c49 (ZB s l t)).T _:=λA k=>by
  rw[e80,h.ev,NR s l r t h.he omY h.ch,aY]
 obtain⟨hc,hb⟩:=h49 _ h.jr;refine⟨hb,ae.ext λk=>?_⟩;rw[e0,hc,aY,aY];rcases hb with⟨b,hb,B⟩|⟨hb,_⟩
 have hbl:=B.len;rw[hb];refine kP (X:=λn i=>zdT E n t b (b.len:Int) (i:Int) (gw (λ_=>0) (λa=>t.Hits.get (b.get a).toNat) i) k) (m:=b.len) (λn i hi=>?_) (λn=>?_) _ (by have:=N;omega);have m:=B.mem i hi;rw[zdU]at m;rw[zwx,dC omY,dO,bu omY,gm,bu omY,lD,jg omY omY,bD omY];rfl;rw[zwx,dR omY];rfl;rw[hb];rfl
def zf2(s:ak)(l:Sl bg)(t:af)(i j:Nat):Option (Int×Int):=cond (noT s l (t.Hits.get i) (t.Hits.get j)) (some (t.Hits.get i,t.Hits.get j)) none
def ztS(s:ak)(l:Sl bg)(t:af)(i:Nat):Option (Int×Int):=J5 (zf2 s l t i) (t.Hits.len-(i+1)) (i+1)
def lat(s:ak)(l:Sl bg)(t:af):Option (Int×Int):=J5 (ztS s l t) t.Hits.len 0
abbrev zCw(C:Pt found×af->ae (bz×Bool)):Prop:=∀s r l t (f:Pt found),YP s r l t f.v ->
 C (f,t)=.ok (iI (lat s l t) (λp=>(⟨3,⟨2,gK [p.1,p.2]⟩,⟨0,λ_=>default⟩,zT⟩,true)) (CO 0,false))
theorem zXU{E:E81}(N:Big E.N)(h50:Q50 E.c50):zCw (F81 E):=λs r l t f h=>by
 have hN:=N;have hl:=h.len;have ev:f.v.aS.v.hits=l/\f.v.aS.v.ak=s:=by rw[h.ev];exact⟨rfl,rfl⟩
 have st2:∀(A:Type)(k:bz×Bool->Option A)(n0 i:Nat),i<t.Hits.len->∀n1 j,j<t.Hits.len-(i+1)->Rj E n0 (n1+1) f t (t.Hits.get i) (i:Int) ⟨((t.Hits.len:Int)-((i+1:Nat):Int)).toNat,uY t.Hits.get (((i+1:Nat):Int)).toNat⟩ ((((t.Hits.len:Int)-((i+1:Nat):Int)).toNat:Nat):Int) (j:Int) k=iI (zf2 s l t i (i+1+j)) (λp=>k (⟨3,⟨2,gK [p.1,p.2]⟩,⟨0,λ_=>default⟩,zT⟩,true)) (Rj E n0 n1 f t (t.Hits.get i) (i:Int) ⟨((t.Hits.len:Int)-((i+1:Nat):Int)).toNat,uY t.Hits.get (((i+1:Nat):Int)).toNat⟩ ((((t.Hits.len:Int)-((i+1:Nat):Int)).toNat:Nat):Int) ((j+1:Nat):Int) k):=λA k n0 i hi n1 j hj=>by
  have kH:=h.hit hi;have qH:=h.hit (i:=i+1+j) omY;have sg:(⟨((t.Hits.len:Int)-((i+1:Nat):Int)).toNat,uY t.Hits.get (((i+1:Nat):Int)).toNat⟩:Sl Int).get ((j:Int)).toNat=t.Hits.get (i+1+j):=by
   show t.Hits.get (((j:Int)).toNat+(((i+1:Nat):Int)).toNat)=_;rw[gm,gm,jqS]
  rw[zwz,dC omY,dO,bu (by show 0<=(j:Int)/\(j:Int)<(((t.Hits.len:Int)-((i+1:Nat):Int)).toNat:Int);omega),sg,ev.1,ev.2,bu omY,bu omY,ztM h50 h.he kH qH,aY,bD omY];have e:((cmS (eG (CX s ⟨2,gK [l.get (t.Hits.get i).toNat,l.get (t.Hits.get (i+1+j)).toNat]⟩) 2)).2==5)=noT s l (t.Hits.get i) (t.Hits.get (i+1+j)):=rfl;rw[e];unfold zf2;cases noT s l (t.Hits.get i) (t.Hits.get (i+1+j))<;>rfl
 have st1:∀(A:Type)(k:bz×Bool->Option A),∀n0 i,i<t.Hits.len->Oz E (n0+1) f t (i:Int) k=iI (ztS s l t i) (λp=>k (⟨3,⟨2,gK [p.1,p.2]⟩,⟨0,λ_=>default⟩,zT⟩,true)) (Oz E n0 f t ((i+1:Nat):Int) k):=λA k n0 i hi=>by
  rw[zwy,dC omY,dO,bu omY,gm,bD omY,bu omY];have:=iq (X:=λn1 j=>Rj E n0 n1 f t (t.Hits.get i) (i:Int) ⟨((t.Hits.len:Int)-((i+1:Nat):Int)).toNat,uY t.Hits.get (((i+1:Nat):Int)).toNat⟩ ((((t.Hits.len:Int)-((i+1:Nat):Int)).toNat:Nat):Int) (j:Int) k) (fin:=Oz E n0 f t ((i+1:Nat):Int) k) (st2 A k n0 i hi) (λn=>by rw[zwz,dR omY,dN,bD omY]) (t.Hits.len-(i+1)) 0 E.N omY omY;rw[Rt]at this;exact this
 refine ae.ext λk=>?_;have a:=iq (X:=λn i=>Oz E n f t (i:Int) k) (fin:=k (CO 0,false)) (st1 _ k) (λn=>by rw[zwy,dR omY];rfl) t.Hits.len 0 E.N omY omY;rw[e81,aY];refine a.trans ?_;unfold lat;cases J5 (ztS s l t) t.Hits.len 0<;>rfl
abbrev zCx(C:Pt found×af->ae (bz×Bool)):Prop:=∀s r l t (f:Pt found),YP s r l t f.v->∃W:Sl Int,ls W=uO s l t.View (dM t)/\C (f,t)=.ok (⟨5,⟨0,λ_=>default⟩,W,zT⟩,decide (((uO s l t.View (dM t)).length:Int)>r.o7))
theorem zXV{E:E83}(za7:ztw E.c141):zCx (F83 E):=λs r l t f h=>by
 obtain⟨tv,vw,ne,v⟩:=pI h.ch;obtain⟨w,e,hw⟩:=za7 s l r t.View t (dM t) l.len {toEvt:=h.he,l24:=h.h24,vw:=vw} tv rfl v ne;refine⟨w,hw,ae.ext λk=>?_⟩;rw[e83,h.ev,e,aY,aY,<- hw,fK];rfl
abbrev zCy(C:Pt found×af->ae (bz×Bool)):Prop:=∀s r l t (f:Pt found),YP s r l t f.v->(∀x∈ls f.v.bn,One x/\x.aU.len=x.Hits.len)->f.v.bn.len<=10000 ->
 C (f,t)=.ok (iI ((ls f.v.bn).find? λx=>sZ x t) (λx=>(⟨6,⟨0,λ_=>default⟩,⟨0,λ_=>default⟩,x⟩,true)) (CO 0,false))
theorem zXW{E:E84}(N:Big E.N)(h92:Q92 E.c92)(zCo:zCp E.zuj):zCy (F84 E):=λs r l t f h hx hf=>by
 have hN:=N;obtain⟨tv,_,ne,v⟩:=pI h.ch;have ot:One t:=UX h.h24 tv rfl v;refine ae.ext λk=>?_;have st:∀n i,i<f.v.bn.len->OA E (n+1) f t (i:Int) k=iI (cond (sZ (f.v.bn.get i) t) (some (f.v.bn.get i)) none) (λx=>k (⟨6,⟨0,λ_=>default⟩,⟨0,λ_=>default⟩,x⟩,true)) (OA E n f t ((i+1:Nat):Int) k):=λn i hi=>by
  have hm:f.v.bn.get i∈ls f.v.bn:=ku.2 ⟨i,omY,rfl⟩;obtain⟨ox,sx⟩:=hx _ hm;have lx:=ox.le;rw[zwA,dC omY,dO,bu omY,gm,bD omY,h92 _ _ ox ot,aY,zCo _ omY omY,aY];unfold sZ;cases decide (((f.v.bn.get i).Hits.len:Int)>(t.Hits.len:Int))<;>cases nK (f.v.bn.get i) t<;>rfl
 have a:=iq (X:=λn i=>OA E n f t (i:Int) k) (fin:=k (CO 0,false)) st (λn=>by rw[zwA,dR omY];rfl) f.v.bn.len 0 E.N omY omY;rw[Fj (P:=λx=>sZ x t) (g:=f.v.bn.get),<- dqZ]at a;rw[e84,aY];refine a.trans ?_;show iI ((ls f.v.bn).find? λx=>sZ x t) _ _=_;cases(ls f.v.bn).find? λx=>sZ x t<;>rfl
abbrev YQ:=(Bool×Int)×(Unit×Unit×Pt aS×Int×Sl af×Unit×Unit)
def zmi(s:ak)(l:Sl bg)(r:bF)(x:Int)(G:List iT)(w:Sl af)(R:YQ):Prop :=
 (w.len+G.length<=2000/\∃w',R=((false,0),(),(),iD s r l,x,w',(),())/\FQ w'=FQ w++G/\zJ x w')\/(2000<w.len+G.length/\∃w',R=((true,x),(),(),iD s r l,x,w',(),()))
def QMp(f:Nat)(C:zJn->ae YQ):Prop:=∀s l r x t c (i:Nat) (w:Sl af),Ev s l x->Val s l x c i->dM t=c->t.aU.len=t.Hits.len->l.len<i+f->zJ x w->w.len<=2000 ->
 ∃R,C (t,(i:Int),⟨iD s r l⟩,⟨x⟩,⟨w⟩,{},())=.ok R/\zmi s l r x (gr (zI s l) (Bi l) (PD s l x) f c i) w R
theorem zJK{E:zfG}{f:Nat}(za9:ztq E.OM)(zAE:zBP E.c182)(i173:zzW E.i173)(hm:QMp f E.Jj):QMp (f+1) (zrN E):=λs l r x t c i w he hv hc ht hf hw hn=>by
 have h24:=he.l24;have hle:=hv.le;have hlen:=pG hc hv
 have key:∀(ys:iT)(w:Sl af),(∀y∈ys,y∈PD s l x i)->zJ x w->w.len<=2000 ->
   ∃R,(∀(A:Type)(k:YQ->Option A)(w0:Sl af),qy E ys t (i:Int) (iD s r l) x w0 (iD s r l) x w k=k R)/\zmi s l r x (ys.flatMap λp=>cond (Bi l c p.1 || !zI s l (c++[p])) [] ((c++[p])::gr (zI s l) (Bi l) (PD s l x) f (c++[p]) (p.1.toNat+1))) w R:=by
  intro ys
  induction ys with
  | nil=>intro w _ hw hn;exact⟨_,λA k w0=>zrO ..,.inl ⟨by simpa using hn,w,rfl,by simp,hw⟩⟩
  | cons y ys ih =>
   intro w hy hw hn;rw[oC];have Zv:∀z∈ys,z∈PD s l x i:=λz hz=>hy z (jW _ hz);obtain⟨_,y1,_,_⟩:=Yv (hy y kX);have u:(E.OM (t.Hits,.inl ⟨(),⟨iD s r l⟩,⟨y.1⟩⟩))=.ok (Bi l c y.1):=by
    rw[za9 s l r t.Hits (.inl ⟨(),⟨iD s r l⟩,⟨y.1⟩⟩) (Hl hc hv) omY ⟨rfl,(by show 0<=y.1;omega),(by show y.1<(l.len:Int);omega)⟩];exact jX ae.ok (zdL (l:=l) hc λh=>(l.get h.toNat).ai==(l.get y.1.toNat).ai)
   have skip:∀(A:Type)(k:YQ->Option A)(w0:Sl af),Bi l c y.1=true->qy E (y::ys) t (i:Int) (iD s r l) x w0 (iD s r l) x w k=qy E ys t (i:Int) (iD s r l) x w0 (iD s r l) x w k:=λA k w0 e=>by
    rw[zkv,u,aY,e];rfl
   cases hu:Bi l c y.1 with
   | true =>
    obtain⟨R,a,b⟩:=ih w Zv hw hn;exact⟨R,λA k w0=>by rw[skip A k w0 hu,a],by simpa using b⟩
   | false =>
    have hv2:=hv.snoc (hy y kX) hu;have hc2:dM (UN x t y)=c++[y]:=by rw[zdN ht,hc]
    have ag:=zAE s l r x (UN x t y) (c++[y]) _ he (Hm ht) hc2 hv2 (by simp);have st:∀(A:Type)(k:YQ->Option A)(w0:Sl af),qy E (y::ys) t (i:Int) (iD s r l) x w0 (iD s r l) x w k=cond (!zI s l (c++[y])) (qy E ys t (i:Int) (iD s r l) x w0 (iD s r l) x w k) (aV (room (w.len+1) 56) (cond (decide ((w.len:Int)+1>2000)) (k ((true,x),(),(),iD s r l,x,qB w (UN x t y),(),())) ((E.Jj (UN x t y,aJ (y.1+1),⟨iD s r l⟩,⟨x⟩,⟨qB w (UN x t y)⟩,{},())).T λr3=>cond r3.1.1 (k ((true,r3.1.2),(),(),r3.2.2.2.1,r3.2.2.2.2.1,r3.2.2.2.2.2.1,(),())) (qy E ys t (i:Int) (iD s r l) x w0 r3.2.2.2.1 r3.2.2.2.2.1 r3.2.2.2.2.2.1 k)))):=λA k w0=>by
     rw[zkv,u,aY,hu,dN,jg omY omY,jg omY omY,jg omY omY,jg omY omY];show(E.c182 (iD s r l,UN x t y)).T _=_;rw[ag,aY];rfl
    cases ha:zI s l (c++[y])with
    | false =>
     obtain⟨R,a,b⟩:=ih w Zv hw hn;exact⟨R,λA k w0=>by rw[st,ha];exact a A k w0,by simpa using b⟩
    | true =>
     simp only[I7,jqV,dN];have e1:aJ (y.1+1)=((y.1.toNat+1:Nat):Int):=by rw[aW omY omY];omega
     by_cases h0:w.len+1<=2000
     case neg =>
      refine⟨((true,x),(),(),iD s r l,x,qB w (UN x t y),(),()),λA k w0=>?_,.inr ⟨by rw[Jo,Bo];omega,_,rfl⟩⟩;rw[st,ha,I7,dN,jg omY omY,dC omY,dO]
     obtain⟨R1,a1,o1⟩:=hm s l r x (UN x t y) (c++[y]) (y.1.toNat+1) (qB w (UN x t y)) he hv2 hc2 (Hm (x:=x) ht).2 omY (YB hw (Hm ht)) h0;have lw:(qB w (UN x t y)).len=w.len+1:=rfl;rcases o1 with⟨n1,w1,rfl,b1,d1⟩|⟨n1,w1,rfl⟩
     have l1:w1.len=w.len+1+(gr (zI s l) (Bi l) (PD s l x) f (c++[y]) (y.1.toNat+1)).length:=by
      rw[<- lm,b1,Jo,lm];rfl
     obtain⟨R,a,b⟩:=ih w1 Zv d1 omY;refine⟨R,λA k w0=>?_,?_⟩;rw [st,ha,e1,a1,aY,I7,dN,jg omY omY,dR omY,dN];exact a A k w0;rcases b with⟨n2,w',e2,b2,d2⟩|⟨n2,w',e2⟩
     exact .inl ⟨by rw[Jo,Bo];omega,w',e2,by rw[b2,b1,zdM,hc2];simp,d2⟩;exact .inr ⟨by rw[Jo,Bo];omega,w',e2⟩;refine⟨_,fun A k w0 => ?_,.inr ⟨by rw [Jo,Bo];omega,w1,rfl⟩⟩;rw[st,ha,e1,a1,aY,I7,dN,jg omY omY,dR omY,dN];rfl
 obtain⟨R,a,b⟩:=key (PD s l x i) w (λy hy=>hy) hw hn;refine⟨R,ae.ext λk=>?_,b⟩;rw[zUR,i173 s l r x i he.toEvt hle.2,aY,aY];exact a _ k w
abbrev zmj(C:Pt aS×Int->ae (Sl af×Bool)):Prop:=∀s l r x,Ev s l x->((kC s l x).length<=2000/\∃w,C (iD s r l,x)=.ok (w,true)/\FQ w=kC s l x/\zJ x w)\/(2000<(kC s l x).length/\∃w,C (iD s r l,x)=.ok (w,false))
theorem zJL{E:zke}(hm:QMp 30 E.Jj):zmj (zqP E):=λs l r x he=>by
 have h24:=he.l24;obtain⟨R,a,b⟩:=hm s l r x ⟨0,⟨0,λ_=>default⟩,⟨0,λ_=>default⟩⟩ [] 0 ⟨0,λ_=>⟨0,⟨0,λ_=>0⟩,⟨0,λ_=>0⟩⟩⟩ he (zdO s l x) rfl rfl omY (λi hi=>absurd hi (RP i)) (ui _);rcases b with⟨n,w',rfl,b,d⟩|⟨n,w',rfl⟩
 exact .inl ⟨by have h:0+(kC s l x).length<=2000:=n;omega,w',ae.ext λk=>by rw[e127];show(E.Jj (_,((0:Nat):Int),_)).T _=_;rw[a,aY,aY];rfl,b,d⟩;exact .inr ⟨by have h:2000<0+(kC s l x).length:=n;omega,_,ae.ext λk=>by rw[e127];show(E.Jj (_,((0:Nat):Int),_)).T _=_;rw[a,aY,aY];rfl⟩
theorem zdY{ag:iT→Bool}{us:iT→Int→Bool}{sd:Nat→iT}:∀{f out c i},out.length+(gr ag us sd f c i).length≤2000→O0 ag us sd f out c i=out++gr ag us sd f c i
  | 0,out,c,i,_=>by simp[O0,gr]
  | f+1,out,c,i,h=>by
    simp only[O0,gr]at h ⊢;generalize sd i=l at h ⊢
    induction l generalizing out with
    | nil=>simp
    | cons p l ih =>
      rw[VF,oC];rw[oC,Jo]at h;cases hu:us c p.1 || !ag (c++[p])with
      | true =>
        rw[hu]at h;have e:(us c p.1||(decide (2000<out.length) || !ag (c++[p])))=true:=by
          revert hu;cases us c p.1<;>cases ag (c++[p])<;>simp
        rw[e];exact ih out (by simpa using h)
      | false =>
        rw[hu]at h;simp only[dN,Bo]at h;have e:(us c p.1||(decide (2000<out.length) || !ag (c++[p])))=false:=by
          rw[dR omY];revert hu;cases us c p.1<;>cases ag (c++[p])<;>simp
        rw[e,dN,zdY (by rw[Jo];simp only[Bo,RQ];omega),ih _ (by simp only[Jo,Bo,RQ];omega)];simp
theorem Ap{s:ak}{l:Sl bg}{x:Int}:qZ s l x=decide ((kC s l x).length<=2000):=by
 unfold qZ;refine jqk.2 ⟨λh=>by rw[<- zdP h];exact h,λh=>?_⟩;have:UQ s l x=[]++kC s l x:=zdY (show 0+(kC s l x).length<=2000 by omega);rw[this];exact h
def CZ(s:ak)(r:bF)(l:Sl bg)(b:Bool):Int:=cond (jY s r l != 0) (jY s r l) (cond (!b) 2 (cond (qZ s l 1&&qZ s l 2) 0 8))
theorem zwK{s:ak}{r:bF}{l:Sl bg}{b:Bool}(h:CZ s r l b=0):jY s r l=0/\b=true/\(kC s l 1).length<=2000/\(kC s l 2).length<=2000:=by
 unfold CZ at h;by_cases h0:jY s r l=0
 ·rw [h0]at h;cases b with
  | false=>cases h
  | true =>
   rw[Ap,Ap]at h;by_cases h1:(kC s l 1).length<=2000;by_cases h2:(kC s l 2).length≤2000;exact⟨h0,rfl,h1,h2⟩;rw[dR h2,ZK]at h;cases h;rw[dR h1]at h;cases h
 rw[show(jY s r l != 0)=true by simpa using h0]at h;exact absurd h h0
theorem zCz{s:ak}{l:Sl bg}{x:Int}{w:Sl af}(ev:Ev s l x)(hb:FQ w=kC s l x)(hc:zJ x w):∀t∈ls w,t.View=x/\lF s l t:=λt ht=>by
 have hv:=zdQ.1 hc t ht;have hm:dM t∈kC s l x:=by rw[<- hb,UU];exact qje ht
 obtain⟨⟨j,hj⟩,jk⟩:=Ou hm;have e:=hv.1;subst e;exact⟨rfl,ev,hv,⟨j,UH hj⟩,jk⟩
abbrev zCA(C:ak×bF×Sl bg×Sl Bool->ae (Int ⊕ (Pt found×Int))):Prop:=∀s r l (w:Sl Bool),sV s->l.len<=40->w.len<=10 ->
 (CZ s r l ((ls w).all id)≠0/\C (s,r,l,w)=.ok (.inl (CZ s r l ((ls w).all id))))\/(CZ s r l ((ls w).all id)=0/\∃f:Pt found,C (s,r,l,w)=.ok (.inr (f,0))/\Jg s r l f.v)
theorem zXX{E:E72}(h78:Q78 E.c78)(XJ:ztA E.PH)(Zq:zmj E.c127)(zgV:zty E.FC)(zCh:ztz E.Vk):zCA (F72 E):=λs r l w hs hl hw=>by
 have an:((ls w).any λb=>false==b) = !(ls w).all id:=by
  rw[List.not_all_eq_any_not];congr 1;funext b;cases b<;>rfl
 by_cases h0:jY s r l=0
 case neg =>
  have e:CZ s r l ((ls w).all id)=jY s r l:=by unfold CZ;rw[show(jY s r l != 0)=true by simpa using h0];rfl
  refine .inl ⟨by rw[e];exact h0,?_⟩;have eo:opn s r l=.inl (jY s r l):=by unfold opn;rw[show(jY s r l==0)=false by simpa using h0];rfl
  refine ae.ext λk=>?_;rw[e72,h78 s r l hs hl,aY,eo,aY,e];show cond (jY s r l==0) _ (cond (jY s r l != 0) _ _)=_;rw[show(jY s r l==0)=false by simpa using h0,show(jY s r l != 0)=true by simpa using h0];rfl
 have eo:opn s r l=.inr (iD s r l,0):=by unfold opn;rw[h0];rfl
 obtain⟨he,_,h24⟩:=JL hs h0;have ev1:Ev s l 1:={toEvt:=he,l24:=h24,vw:=rfl};have ev2:Ev s l 2:={toEvt:=he,l24:=h24,vw:=rfl};cases hb:(ls w).all id with
 | false =>
  have e:CZ s r l false=2:=by unfold CZ;rw[h0];rfl
  refine .inl ⟨by rw[e];decide,?_⟩;refine ae.ext λk=>?_;rw[e72,h78 s r l hs hl,aY,eo,aY,e];show(E.PH (w,false)).T _=_;rw[XJ w false omY,aY,an,hb];rfl
 | true =>
 rcases Zq s l r 1 ev1 with⟨n1,w1,a1,b1,c1⟩|⟨n1,w1,a1⟩
 case inr =>
  have e:CZ s r l true=8:=by unfold CZ;rw[h0,Ap,dR (show ¬(kC s l 1).length<=2000 by omega)];rfl
  refine .inl ⟨by rw[e];decide,?_⟩;refine ae.ext λk=>?_;rw[e72,h78 s r l hs hl,aY,eo,aY,e];show(E.PH (w,false)).T _=_;rw[XJ w false omY,aY,an,hb];show(E.c127 (iD s r l,1)).T _=_;rw[a1,aY];rfl
 rcases Zq s l r 2 ev2 with⟨n2,_⟩|⟨n2,w2,a2⟩
 case inr =>
  have e:CZ s r l true=8:=by unfold CZ;rw[h0,Ap (x:=2),dR (show ¬(kC s l 2).length<=2000 by omega),ZK];rfl
  refine .inl ⟨by rw[e];decide,?_⟩;have k1:=zCz ev1 b1 c1;have ln1:w1.len<=2000:=by rw[<- lm,b1];exact n1
  have f1:=zgV w1 (.inl ⟨iD s r l,()⟩) ⟨s,l,r,rfl,λt ht=>(k1 t ht).2⟩ omY;have m1:=xW UY (yF (id (.inl ⟨iD s r l,()⟩))) w1 w1.len;refine ae.ext λk=>?_;rw[e72,h78 s r l hs hl,aY,eo,aY,e];show(E.PH (w,false)).T _=_;rw[XJ w false omY,aY,an,hb];show(E.c127 (iD s r l,1)).T _=_;rw[a1,aY];show(E.FC (w1,.inl ⟨iD s r l,()⟩)).T _=_;rw[f1,aY];show aV (room (QZ UY (yF (id (.inl ⟨iD s r l,()⟩))) w1 w1.len).len 56) ((E.c127 (iD s r l,2)).T _)=_;rw[jg omY omY,a2,aY];rfl
 have e:CZ s r l true=0:=by unfold CZ;rw[h0,Ap,Ap,dC n1,dC n2];rfl
 refine .inr ⟨e,?_⟩;have zJM:zJo E.c127:=λs l r x ev n=>(Zq s l r x ev).elim (λh=>h.2) λh=>absurd h.1 omY;exact s72 h78 XJ zJM zgV zCh s r l w hs hl h0 n1 n2 hw (λb hm=>by simpa using zQ.1 hb b hm)
end Go.Proofs
