/- Part 6: framework, functions, plain laws. -/
import Derived.Test.YtjkijdhdbhooiaaGreatQ5
import Derived.Shelf.SlSortCmp.NoneTotal
import Derived.Shelf.SlicesE.Clone
import Derived.Shelf.SlLaysF0
import Derived.Test.YtjkijdhdbhooiaaGreatProg
import Derived.Shelf.SlLaysE0
import Derived.Test.YtjkijdhdbhooiaaGreatRows
import Derived.WalkKit
import Derived.OpenShut
import Derived.ChangeOld
import Derived.ProofKit
set_option linter.all false
noncomputable section
namespace Go.Proofs
open Go Go.Pm
set_option maxRecDepth 100000
def OD(a b:af):Bool:=(a.View==b.View)&&((cmpL (pI a.Hits) (pI b.Hits)==0)&&(cmpL (pI a.aV) (pI b.aV)==0))
abbrev Q52(C:af×af->ae Bool):Prop:=∀a b,One a->One b->a.aV.len=a.Hits.len->b.aV.len=b.Hits.len->C (a,b)=.ok (OD a b)
theorem s52{E:E52}(h38:zar E.c38):Q52 (F52 E):=λa b ha hb sa sb=>ae.ext λk=>by
 have la:=ha.le;have lb:=hb.le;rw[e52,h38 _ _ omY omY,aX,h38 _ _ omY omY,aX,aX];unfold OD;cases a.View==b.View<;>cases cmpL (pI a.Hits) (pI b.Hits)==0<;>rfl
theorem zsj{a b:af}(sa:a.aV.len=a.Hits.len)(sb:b.aV.len=b.Hits.len)(h:jX a=jX b):OD a b=true:=by
 have h1:a.View=b.View:=kz Prod.fst h;have h2:eQ a=eQ b:=kz Prod.snd h;unfold OD;rw[<- zcU,<- zcU,<- zcV sa,<- zcV sb,h1,h2,yX.2 rfl,yX.2 rfl];simp
theorem zsk{a b:af}(h:b.Hits.len<a.Hits.len):OD a b=false:=by
 unfold OD;have:(cmpL (pI a.Hits) (pI b.Hits)==0)=false:=by
  rw[qdS];intro e;have:=kz List.length (yX.1 e);rw[Jk,Jk]at this;omega
 rw[this,Yp,qdL]
abbrev Q54(C:Sl af×af->ae Bool):Prop:=∀(w:Sl af) t,w.len<=10000->(∀x∈ls w,One x/\x.aV.len=x.Hits.len)->One t->t.aV.len=t.Hits.len->C (w,t)=.ok ((ls w).any λx=>OD x t)
theorem s54{E:E54}(N:Big E.N)(h52:Q52 E.c52):Q54 (F54 E):=λw t hw hx ot st=>ae.ext λk=>by
 rw[e54,aX,loopA (L:=λn i=>zc0 E n w t i k) (p:=λj=>!OD (w.get j) t) (m:=w.len) (fin:=k false) (stop:=k true) omY (λn i hi=>?_) (λn=>?_) _ (by have:=N;omega)];rw [← zaq];cases eH (λj=>!OD (w.get j) t) w.len<;>rfl;obtain⟨ox,sx⟩:=hx (w.get i) (jB.2 ⟨i,hi,rfl⟩);rw[zu7,dM omY,dS,bn omY,gy,h52 _ _ ox ot sx st,aX];cases OD (w.get i) t<;>rfl;rw[zu7,dR omY];rfl
/-! Floors and ceilings. -/
theorem zu8{a b:Int}(h1 : -100000000000000000≤a∧a≤100000000000000000)(h2:0<b)(h3:b≤100000000000000000) :
  aO (a.tdiv b)=a.tdiv b/\aO (a.tdiv b*b)=a.tdiv b*b/\(a.tdiv b*b>a->aO (a.tdiv b-1)=a/b)/\(¬a.tdiv b*b>a->a.tdiv b=a/b)/\(a.tdiv b*b<a->aO (a.tdiv b+1) = -(-a/b))/\(¬a.tdiv b*b<a->a.tdiv b = -(-a/b)):=by
 have q:=zcM h1 h2;have q':=zcM (a:=-a) omY h2;rcases qdY a 0 with hn|hn
 have e:a.tdiv b = -(-a/b):=by
  rw[show a = -(-a)by omega,Int.neg_tdiv,qdI omY,Int.neg_neg]
 have m1:=qjM (-a) b;have m2:=jqd (-a) (show b≠0 by omega);have m3:=qjY (-a) h2;have pr : -(-a/b)*b = -(b*(-a/b)):=by rw[Int.neg_mul,jqG]
 rw[e,pr];refine⟨aZ omY omY,aZ omY omY,λh=>?_,λh=>?_,λh=>by omega,λ_=>rfl⟩;have:a/b = -(-a/b)-1:=by
  refine((qd2 (r:=b - -a%b) h2).2 ⟨?_,omY,omY⟩).1;rw[qjF,qjg];omega
 rw[this,aZ omY omY];refine((qd2 (r:=0) h2).2 ⟨?_,by omega,by omega⟩).1.symm;rw[qjg];omega;have e:a.tdiv b=a/b:=qdI hn;have m1:=qjM a b;have m2:=jqd a (show b≠0 by omega);have m3:=qjY a h2;have pr:a/b*b=b*(a/b):=jqG _ _;rw[e,pr];refine⟨aZ omY omY,aZ omY omY,λh=>by omega,λ_=>rfl,λh=>?_,λh=>?_⟩;have : -a/b = -(a/b)-1:=by
  refine((qd2 (r:=b-a%b) h2).2 ⟨?_,omY,omY⟩).1;rw[qjF,qjg];omega
 rw[this,aZ omY omY];omega;have : -a/b = -(a/b):=by
  refine((qd2 (r:=0) h2).2 ⟨?_,omY,omY⟩).1;rw[qjg];omega
 rw[this];omega
theorem zsl{g:Sl ax}{p:ak}(h:atB g p=true):(Hy g ((g.get 0).Z==p.Z)).2=0/\zeX ⟨(nD g p.Z).1.Num/(nD g p.Z).1.bV,-(-(nD g p.Z).2.Num/(nD g p.Z).2.bV)⟩=true/\Qk p ⟨(nD g p.Z).1.Num/(nD g p.Z).1.bV,-(-(nD g p.Z).2.Num/(nD g p.Z).2.bV)⟩=true:=by
 unfold atB atB.opn' at h;cases ho:(Hy g ((g.get 0).Z==p.Z)).2 != 0 with
 | true=>rw[ho]at h;cases h
 | false =>
  rw[ho,dF]at h;refine⟨by simpa using ho,?_⟩;by_cases c:(nD g p.Z).1.Num/(nD g p.Z).1.bV < -1000000;rw[dM c]at h;cases h;rw [dR c,dF]at h;by_cases d : -(-(nD g p.Z).2.Num/(nD g p.Z).2.bV)>1000000;rw[dM d]at h;cases h;rw [dR d,dF,gz]at h;exact h
theorem zA2{s:au}{l:Sl bi}{x:Int}{c:iY}{i:Nat}(h:OB s l x c i=true):(s.aj.get i).View=x/\usP l c i=false/\atB (zW s l c) (s.aj.get i)=true:=by
 unfold OB at h;cases a:(s.aj.get i).View != x with
 | true=>rw[a]at h;cases h
 | false =>
  rw[a,dF]at h;cases b:usP l c i with
  | true=>rw[b]at h;cases h
  | false =>
   rw[b,dF]at h;exact⟨by simpa using a,rfl,h⟩
abbrev Q51(C:au×Sl bi×af×Sl ax×Sl Int->ae Bool):Prop:=∀s (l:Sl bi) t (w:Sl Int),Evt s l->l.len<=24->pq s l t=true->ls w=IC s l t.View (eQ t)->C (s,l,t,lV s l t,w)=.ok true
theorem s51{E:E51}(N:Big E.N)(ZN:zrS E.OE)(ZP:zr4 E.OG):Q51 (F51 E):=λs l t w he h24 hc hw=>ae.ext λk=>by
  have hN:=N;obtain⟨tv,vw,ne,v⟩:=sS hc;have G:bU (lV s l t):=by rw[yU rfl];exact BM he h24 v ne
  have tl:=mQ rfl v;have hp:=qI he.se;have wl:w.len<=16:=by
    have:=kz List.length hw;unfold IC at this;rw[jQ,qdO]at this;have:=qjk (OB s l t.View (eQ t)) (List.range' 0 s.aj.len);rw[List.length_range']at this;omega
  have at_:∀i,i<w.len->∃p:Nat,w.get i=(p:Int)/\p<s.aj.len/\OB s l t.View (eQ t) p=true:=λi hi=>by
    have m:w.get i∈ls w:=jB.2 ⟨i,hi,rfl⟩;rw[hw]at m;unfold IC at m;obtain⟨p,h1,h2⟩:=xq.1 m;obtain⟨h3,h4⟩:=Ue.1 h1;exact⟨p,h2.symm,by simp at h3;omega,h4⟩
  have inc:∀i,0<i->i<w.len->w.get (i-1)<w.get i:=λi h0 hi=>by
    have pw:(ls w).Pairwise (· < ·):=by
      rw[hw];unfold IC;rw[qji];have pr:((List.range' 0 s.aj.len).filter (OB s l t.View (eQ t))).Pairwise λa b=>a<b:=qjP _ List.pairwise_lt_range';exact pr.imp fun {a b} h=>by show((a:Nat):Int)<((b:Nat):Int);omega
    have g:∀i (hi:i<w.len),(ls w)[i]'(by rw[jQ];exact hi)=w.get i:=λi hi=>by
      have:=zan (w:=w) hi;rw[Ae (by rw[jQ];exact hi)]at this;exact Yg this
    have:=qdn.1 pw (i-1) i (by rw[jQ];omega) (by rw[jQ];exact hi) omY;rwa[g (i-1) omY,g i hi]at this
  rw[e51,aX];refine jO (X:=λn i=>Ia E n s l t (lV s l t) w (i:Int) k) (m:=w.len) (λn i hi=>?_) (λn=>?_) _ omY
  · obtain ⟨p, hp1, hp2, hp3⟩ := at_ i hi;obtain⟨m1,m2,m3⟩:=zA2 hp3;rw[<- yU (t:=t) rfl] at m3;obtain⟨o1,o2,o3⟩:=zsl m3;have Ig:=sN he.se hp2;have hz:=zkO Ig;obtain⟨_,hco⟩:=zuP G o1;obtain⟨b1,b2⟩:=zkN G hz hco
    -- behind the checks
    have two:Qn E n E.N s l t (lV s l t) w (i:Int) (p:Int) 0 k=Ia E n s l t (lV s l t) w ((i+1:Nat):Int) k:=by
      have us:∀j,j<t.Hits.len->((l.get (t.Hits.get j).toNat).ak==(p:Int))=false:=λj hj=>by
        unfold usP at m2;rw[qjh]at m2;have:=m2 (t.Hits.get j,t.aV.get j) (lu.2 ⟨j,hj,rfl,rfl⟩);simpa using this
      have:=jO (X:=λn1 j=>Qn E n n1 s l t (lV s l t) w (i:Int) (p:Int) (j:Int) k) (m:=t.Hits.len) (fin:=Ia E n s l t (lV s l t) w ((i+1:Nat):Int) k) (λn1 j hj=>by
        have hh:=F5 ((Si hc).2 j hj);rw[zu6,dM omY,dS,bn omY,gy,bn omY,us j hj,dF,bF omY]) (λn1=>by
        rw[zu6,dR omY,dF,bn omY,gy,ZN _ _ G hz,aX,o1];obtain⟨c1,c2,c3⟩:=b1;obtain⟨d1,d2,d3⟩:=b2
        show cond (decide ((nD (lV s l t) (s.aj.get p).Z).1.bV<1)) _ (cond (decide ((nD (lV s l t) (s.aj.get p).Z).2.bV<1)) _ (aU (decide ((nD (lV s l t) (s.aj.get p).Z).1.bV≠0)) (aU (decide ((nD (lV s l t) (s.aj.get p).Z).2.bV≠0)) (cond (decide (aO (aO ((nD (lV s l t) (s.aj.get p).Z).1.Num.tdiv (nD (lV s l t) (s.aj.get p).Z).1.bV)*(nD (lV s l t) (s.aj.get p).Z).1.bV)>(nD (lV s l t) (s.aj.get p).Z).1.Num))
          (Qo E n s l t (lV s l t) w (i:Int) (p:Int) (aO (aO ((nD (lV s l t) (s.aj.get p).Z).1.Num.tdiv (nD (lV s l t) (s.aj.get p).Z).1.bV)-1)) (aO ((nD (lV s l t) (s.aj.get p).Z).2.Num.tdiv (nD (lV s l t) (s.aj.get p).Z).2.bV)) (nD (lV s l t) (s.aj.get p).Z).2 k)
          (Qo E n s l t (lV s l t) w (i:Int) (p:Int) (aO ((nD (lV s l t) (s.aj.get p).Z).1.Num.tdiv (nD (lV s l t) (s.aj.get p).Z).1.bV)) (aO ((nD (lV s l t) (s.aj.get p).Z).2.Num.tdiv (nD (lV s l t) (s.aj.get p).Z).2.bV)) (nD (lV s l t) (s.aj.get p).Z).2 k)))))=_
        generalize (nD (lV s l t) (s.aj.get p).Z).1=fa at *;generalize (nD (lV s l t) (s.aj.get p).Z).2=fb at *;obtain⟨x1,x2,x3,x4,_,_⟩:=zu8 c1 c2 c3;obtain⟨y1,y2,_,_,y5,y6⟩:=zu8 d1 d2 d3;rw[dR omY,dF,dR omY,dF,bn omY,bn omY,x1,x2,y1];have four:zcZ E n s l t (lV s l t) w (i:Int) (p:Int) (fa.Num/fa.bV) (-(-fb.Num/fb.bV)) k=Ia E n s l t (lV s l t) w ((i+1:Nat):Int) k:=by
          obtain⟨b,hb⟩:=ZP s p ⟨fa.Num/fa.bV,-(-fb.Num/fb.bV)⟩ he.sh he.se hp2;rw[zHS,hb,aX,o2,o3];show zk1 E n s l t (lV s l t) w (i:Int) true 0 k=_;rw[zHT,bF omY];rfl
        have three:Qo E n s l t (lV s l t) w (i:Int) (p:Int) (fa.Num/fa.bV) (fb.Num.tdiv fb.bV) fb k=Ia E n s l t (lV s l t) w ((i+1:Nat):Int) k:=by
          rw[zHR,y2];by_cases c:fb.Num.tdiv fb.bV*fb.bV<fb.Num;rw[dM c,dS,y5 c];exact four;rw[dR c,dF,y6 c];exact four
        by_cases c:fa.Num.tdiv fa.bV*fa.bV>fa.Num;rw[dM c,dS,x3 c];exact three;rw[dR c,dF,x4 c];exact three) E.N omY
      exact this
    rw[zu5,dM omY,dS,bn omY,gy,hp1,dR omY,dF,dR omY,dF,gy,m1];rw[show(t.View != t.View)=false by simp,dF,two];by_cases h0:0<i;have:=inc i h0 hi;rw[hp1]at this;rw[dM omY,dS,show aO ((i:Int)-1)=((i-1:Nat):Int)by rw[qV omY];omega,bn omY,gy,dR omY,dF,bn omY];rw[dR omY,dF,bn omY]
  rw[zu5,dR omY];rfl
abbrev Q48(C:Sl Int×Int->ae Bool):Prop:=∀(w:Sl Int) x,w.len<=1000->C (w,x)=.ok (hasB w x)
theorem s48{E:E48}(N:Big E.N):Q48 (F48 E):=λw x hw=>ae.ext λk=>by
 rw[e48,aX,loopA (L:=λn i=>zb8 E n w x i k) (p:=λj=>!decide (w.get j=x)) (m:=w.len) (fin:=k false) (stop:=k true) omY (λn i hi=>?_) (λn=>?_) _ (by have:=N;omega)];unfold hasB;cases eH (λj=>!decide (w.get j=x)) w.len<;>rfl;rw [zut,dM omY,dS,bn omY,gy];show cond (w.get i==x) _ _=cond (!(w.get i==x)) _ _;cases w.get i==x<;>rfl;rw[zut,dR omY];rfl
structure E12 where
 N:Nat
 c17:au×bC×(Sl bi)×Int->ae ((Sl af)×Bool)
 c19:Unit->ae Bool
 c24:af->ae Bool
 c27:au×(Sl bi)×af->ae Bool
 c25:au×bC×(Sl bi)×af->ae (bK×Int)
 c20:au×bC×(Sl bi)->ae ((Sl af)×Int)
 c47:au×(Sl bi)×af->ae ((Sl ax)×Int)
 c48:(Sl Int)×Int->ae Bool
 c50:au×(Sl bi)->ae (bZ×Int)
 c51:au×(Sl bi)×af×(Sl ax)×(Sl Int)->ae Bool
 c52:af×af->ae Bool
 c53:af×af->ae Bool
 c54:(Sl af)×af->ae Bool
 c49:(Sl ax)->ae ((Sl Int)×Int)
abbrev G12(E:E12):bI:=gq ((((((((((((((Tabs.nil.addF 17 (ae.un E.c17)).addF 19 (ae.un E.c19)).addF 24 (ae.un E.c24)).addF 27 (ae.un E.c27)).addF 25 (ae.un E.c25)).addF 20 (ae.un E.c20)).addF 47 (ae.un E.c47)).addF 48 (ae.un E.c48)).addF 50 (ae.un E.c50)).addF 51 (ae.un E.c51)).addF 52 (ae.un E.c52)).addF 53 (ae.un E.c53)).addF 54 (ae.un E.c54)).addF 49 (ae.un E.c49)) []
def A12:dG:=bP aC 12 [] {ks:=[(1,18,⟨[],[(18,126,101)],[],[],[],[],[]⟩)]}
def F12(E:E12):au×bC×(Sl bi)×af->ae Bool:=ae.ty (aF aC E.N (G12 E) A12 12)
section
variable(E:E12){A:Type}(k:Bool->Option A)
def NF(E:E12)(n:Nat)(a0:au)(a1:bC)(a2:Sl bi)(a3:af)(iG:Sl af)(rJ:Sl ax)(v17:Int)(pK:bK){A:Type}(k:Bool->Option A):Option A:=gX aC (G12 E) E.N A12 12 [1,1,1,1,1,1,0,1,0] [.n n] (gW k) ⟨[(2,eP a2),(4,.cl (.ptr 4 0)),(5,.cl (.ptr 5 0)),(7,.cl (.ptr 7 0)),(11,.cl (.ptr 11 0)),(13,eP iG),(15,eP rJ),(17,.int v17)],[(4,eB 24 a0),(5,eB 26 a1),(7,eB 43 a3),(11,eB 50 pK)],[]⟩
def EC(E:E12)(n:Nat)(a3:af)(rJ:Sl ax)(zJ:Int)(pK:bK)(TK:Sl ax){A:Type}(k:Bool->Option A):Option A:=gX aC (G12 E) E.N A12 12 [1,1,1,1,1,1,1,0,1,0,1,0,1,0,1,0] [.n n] (gW k) ⟨[(7,.cl (.ptr 7 0)),(11,.cl (.ptr 11 0)),(15,eP rJ),(18,.cl (.vec 126)),(19,.int zJ)],[(7,eB 43 a3),(11,eB 50 pK),(126,eV 101 3 24 TK)],[]⟩
theorem e12(a0:au)(a1:bC)(a2:Sl bi)(a3:af):(F12 E (a0,a1,a2,a3)).T k=(E.c17 (a0,a1,a2,8)).T λr1=>cond (!r1.2) ((E.c19 ()).T λr2=>k r2) ((E.c24 a3).T λr3=>cond (!r3) ((E.c19 ()).T λr4=>k r4) ((E.c27 (a0,a2,a3)).T λr5=>cond (!r5) ((E.c19 ()).T λr6=>k r6) ((E.c25 (a0,a1,a2,a3)).T λr7=>(E.c20 (a0,a1,a2)).T λr8=>(E.c47 (a0,a2,a3)).T λr9=>cond (r7.2 != 0) (k false) (cond (r8.2 != 0) (k false) (cond (r9.2 != 0) (k false) (cond ((r9.1.len:Int) != (a3.Hits.len:Int)) (k false) (NF E E.N a0 a1 a2 a3 r8.1 r9.1 0 r7.1 k))))))):=dO
theorem ED(n0:Nat)(a0:au)(a1:bC)(a2:Sl bi)(a3:af)(iG:Sl af)(rJ:Sl ax)(v17:Int)(pK:bK):NF E (n0+1) a0 a1 a2 a3 iG rJ v17 pK k=cond (decide (v17<(pK.Hits.len:Int))) (aU (decide (0<=v17/\v17<(pK.Hits.len:Int))) ((E.c48 (a3.Hits,pK.Hits.get v17.toNat)).T λr1=>cond (!r1) (k false) (NF E n0 a0 a1 a2 a3 iG rJ (aO (v17+1)) pK k))) (cond (pK.vN==2) (EC E E.N a3 rJ 0 pK (⟨0,(λ_=>(⟨0,0,0⟩:ax))⟩:(Sl ax)) k) (cond (pK.vN==3) (cond ((pK.Hits.len:Int) != 2) (k false) (aU (decide ((0:Int)<=0/\0<(pK.Hits.len:Int))) (aU (decide (0<=pK.Hits.get 0/\pK.Hits.get 0<(a2.len:Int))) (aU (decide ((0:Int)<=1/\1<(pK.Hits.len:Int))) (aU (decide (0<=pK.Hits.get 1/\pK.Hits.get 1<(a2.len:Int))) ((E.c50 (a0,(⟨2,(kL [(a2.get (pK.Hits.get 0).toNat),(a2.get (pK.Hits.get 1).toNat)])⟩:(Sl bi)))).T λr2=>cond (r2.2==5) ((E.c19 ()).T λr3=>k r3) (k false))))))) (cond (pK.vN==4) (cond (decide ((a3.Hits.len:Int)<a1.rF)) ((E.c19 ()).T λr4=>k r4) (k false)) (cond (pK.vN==5) ((E.c51 (a0,a2,a3,rJ,pK.aj)).T λr5=>cond r5 (cond (decide ((pK.aj.len:Int)>a1.vM)) ((E.c19 ()).T λr6=>k r6) (k false)) (k false)) (cond (pK.vN==6) ((E.c52 (pK.lC,a3)).T λr7=>cond (!r7) ((E.c53 (pK.lC,a3)).T λr8=>cond r8 ((E.c54 (iG,pK.lC)).T λr9=>cond r9 ((E.c19 ()).T λUa=>k Ua) (k false)) (k false)) (k false)) (cond (pK.vN==1) ((E.c54 (iG,a3)).T λr11=>cond r11 ((E.c19 ()).T λr12=>k r12) (k false)) (k false))))))):=krY
theorem zc1(n0:Nat)(a3:af)(rJ:Sl ax)(zJ:Int)(pK:bK)(TK:Sl ax):EC E (n0+1) a3 rJ zJ pK TK k=cond (decide (zJ<(rJ.len:Int))) (aU (decide (0<=zJ/\zJ<(a3.Hits.len:Int))) ((E.c48 (pK.Hits,a3.Hits.get zJ.toNat)).T λr1=>cond r1 (aU (decide (0<=zJ/\zJ<(rJ.len:Int))) (aU (room (TK.len+1) 24) (EC E n0 a3 rJ (aO (zJ+1)) pK (⟨(TK.len+1),(jY TK.len TK.get (λ_=>(rJ.get zJ.toNat)))⟩:(Sl ax)) k))) (EC E n0 a3 rJ (aO (zJ+1)) pK TK k))) ((E.c49 TK).T λr2=>cond (decide ((pK.Hits.len:Int)<=3)) (cond (r2.2==0) ((E.c19 ()).T λr3=>k r3) (k false)) (k false)):=krY
end
theorem o12 [aH](E:E12)(h17:Ok aC 17 (ae.un E.c17))(h19:Ok aC 19 (ae.un E.c19))(h24:Ok aC 24 (ae.un E.c24))(h27:Ok aC 27 (ae.un E.c27))(h25:Ok aC 25 (ae.un E.c25))(h20:Ok aC 20 (ae.un E.c20))(h47:Ok aC 47 (ae.un E.c47))(h48:Ok aC 48 (ae.un E.c48))(h50:Ok aC 50 (ae.un E.c50))(h51:Ok aC 51 (ae.un E.c51))(h52:Ok aC 52 (ae.un E.c52))(h53:Ok aC 53 (ae.un E.c53))(h54:Ok aC 54 (ae.un E.c54))(h49:Ok aC 49 (ae.un E.c49)):Ok aC 12 (ae.un (F12 E)):=dP ((((((((((((((ay.nil.addF h17).addF h19).addF h24).addF h27).addF h25).addF h20).addF h47).addF h48).addF h50).addF h51).addF h52).addF h53).addF h54).addF h49)
abbrev Q12(C:au×bC×Sl bi×af->ae Bool):Prop:=∀s r l t,C (s,r,l,t)=.ok true
theorem s12{E:E12}(N:Big E.N)(h17:Q17 E.c17)(h19:Q19 E.c19)(h24:Q24 E.c24)(h27:QCh E.c27)(h25:Q25 E.c25)(h20:Q20 E.c20)(h47:Q47 E.c47)(h48:Q48 E.c48)(h50:Q50 E.c50)(h51:Q51 E.c51)(h52:Q52 E.c52)(h53:Q53 E.c53)(h54:Q54 E.c54)(h49:Q49 E.c49):Q12 (F12 E):=λs r l t=>ae.ext λk=>by
 have hN:=N;obtain⟨w0,is,h1,h2⟩:=h17 s r l 8;rw[e12,h1,aX,aX];cases is with
 | false=>show(E.c19 ()).T _=_;rw[h19,aX]
 | true =>
 have hf:=h2 rfl;obtain⟨he,ze3,hr⟩:=hf.evt;show(E.c24 t).T _=_;rw[h24,aX];by_cases hbr:t.Hits.len<=30/\t.aV.len<=30
 case neg=>rw[dR hbr];show(E.c19 ()).T _=_;rw[h19,aX]
 rw[dM hbr,Js,dF,h27 s l t he hbr.1,aX];cases hc:pq s l t with
 | false=>show(E.c19 ()).T _=_;rw[h19,aX]
 | true =>
 obtain⟨tv,vw,ne,v⟩:=sS hc;obtain⟨f,x,f1,x1,wh⟩:=h25 s r l t hf.sh hf.le hf.rf hf.n1 hf.n2 hc;obtain⟨g,g1,g2⟩:=h20 s r l hf.sh hf.le hf.rf hf.n1 hf.n2;have G:Giv s r l t f:=⟨f1.ev,he,ze3,hc⟩;have GO:=G.iR;have gl:=G.len;have ra:oO s ⟨1,0⟩ l=0:=by unfold oO;rw[dR omY,he.se,he.hi];rfl
 have e47:=h47 s l t hf.sh hf.le hbr.1 hbr.2;rw[ra,hc]at e47;have e47:E.c47 (s,l,t)=.ok (lV s l t,0):=e47;rw[Js,dF,x1,aX,g1,aX,e47,aX];show cond (((lV s l t).len:Int) != (t.Hits.len:Int)) (k false) (NF E E.N s r l t g.dw (lV s l t) 0 x k)=k true;rw[xk,show((t.Hits.len:Int) != (t.Hits.len:Int))=false by simp,dF];have ct:∀y∈ls f.dw,lL s l y:=λy hy=>f1.chosen he ze3 (f1.sub hy);have cg:∀y∈ls g.dw,One y/\y.aV.len=y.Hits.len:=λy hy=>by
  have:=g2.chosen he ze3 (g2.sub hy);exact⟨this.one,this.tv.2⟩
 have uq:=f1.uniq g2 he ze3;have wK:=g2.len hf.n1 hf.n2;have ot:One t:=TF ze3 tv rfl v;have zu9:∀y∈ls f.dw,∃m∈ls g.dw,jX m=jX y:=λy hy=>by
  have:jX y∈(ls f.dw).map jX:=qja hy;rw[uq]at this;obtain⟨m,hm,e⟩:=xq.1 this;exact⟨m,hm,e⟩
 have zv3:∀y,One y->y.aV.len=y.Hits.len->(∃m∈ls g.dw,jX m=jX y)->E.c54 (g.dw,y)=.ok true:=λy oy sy ⟨m,hm,e⟩=>by
  rw[h54 g.dw y omY cg oy sy];congr 1;rw[qjm];exact⟨m,hm,zsj (cg m hm).2 sy e⟩
 -- the hits that are told are some of the choice
 have one:(∀i,i<x.Hits.len->hasB t.Hits (x.Hits.get i)=true)->x.Hits.len<=1000->NF E E.N s r l t g.dw (lV s l t) 0 x k=NF E (0+1) s r l t g.dw (lV s l t) (x.Hits.len:Int) x k:=λha hx =>
  jO (X:=λn i=>NF E n s r l t g.dw (lV s l t) (i:Int) x k) (m:=x.Hits.len) (λn i hi=>by
   rw[ED,dM omY,dS,bn omY,gy,h48 _ _ omY,aX,ha i hi,Js,dF,bF omY]) (λn=>by rw[ED,ED,dR omY];rfl) E.N omY
 rcases wh with⟨ru,b,B,bl,bg⟩|⟨ru,i,j,NY,hj,hh,sW⟩|⟨ru,hz,hn⟩|⟨ru,hz,hp,hm⟩|⟨ru,hz,hg,hgr⟩|⟨ru,hz,m,hm,hk⟩
 ·-- no line passes some iR
  have hbl:=B.len;have bm:=B.mem;rw[xk]at bm;rw[one (λi hi=>by rw[bg i omY];have:=bm i omY;exact vJ.2 ⟨_,omY,rfl⟩) omY,ED,dR omY,dF,ru,show((2:Int)==2)=true from rfl,dS];have key:∀(m i n:Nat)(W:Sl ax),i+m=t.Hits.len->m<n->W.len<=i->∃W':Sl ax,EC E n t (lV s l t) (i:Int) x W k=EC E (0+1) t (lV s l t) (t.Hits.len:Int) x W' k/\W'.len<=t.Hits.len/\ls W'=ls W++((List.range' i m).filter λi=>hasB x.Hits (t.Hits.get i)).map (lV s l t).get:=by
   intro m
   induction m with
   | zero =>
    intro i n W hi hn hW;obtain⟨n,rfl⟩:∃n',n=n'+1:=⟨n-1,omY⟩;refine⟨W,?_,omY,by simp⟩;rw[show i=t.Hits.len by omega,zc1,zc1,xk,dR omY];rfl
   | succ m ih =>
    intro i n W hi hn hW;obtain⟨n,rfl⟩:∃n',n=n'+1:=⟨n-1,omY⟩;have st:EC E (n+1) t (lV s l t) (i:Int) x W k=cond (hasB x.Hits (t.Hits.get i)) (EC E n t (lV s l t) ((i+1:Nat):Int) x (rE W ((lV s l t).get i)) k) (EC E n t (lV s l t) ((i+1:Nat):Int) x W k):=by
     rw[zc1,xk,dM omY,dS,bn omY,gy,h48 _ _ omY,aX,bn omY,jG omY omY,bF omY];rfl
    rw[st,qdr,qd6];cases hb:hasB x.Hits (t.Hits.get i)with
    | true =>
     obtain⟨W',a,c,d⟩:=ih (i+1) n (rE W ((lV s l t).get i)) omY omY (by show W.len+1<=i+1;omega);refine⟨W',a,c,?_⟩;rw[d,zcN,eX rfl,o5];simp
    | false =>
     obtain⟨W',a,c,d⟩:=ih (i+1) n W omY omY omY;exact⟨W',a,c,by rw[d,fF (by simp)]⟩
  obtain⟨W,a,c,d⟩:=key t.Hits.len 0 E.N ⟨0,λ_=>⟨0,0,0⟩⟩ omY omY (kw _);refine Eq.trans a ?_;have d:ls W=((List.range' 0 t.Hits.len).filter λi=>hasB x.Hits (t.Hits.get i)).map (lV s l t).get:=d;have inW:∀a,a<b.len->(lV s l t).get (b.get a).toNat∈ls W:=λa ha=>by
   rw[d];have:=bm a ha;refine qja (Ue.2 ⟨by simp;omega,vJ.2 ⟨a,omY,bg a ha⟩⟩)
  have WO:bU W:=by
   refine⟨λi hi=>?_,?_,omY⟩;have:W.get i∈ls W:=jB.2 ⟨i,hi,rfl⟩;rw[d]at this;obtain⟨i',h1,h2⟩:=xq.1 this;rw[<- h2];exact GO.1 _ (by have:=(Ue.1 h1).1;rw[xk];simp at this;omega);have:=jqv (inW 0 omY);rw[jQ]at this;omega
  rw[zc1,xk,dR omY,dF,dM (show(x.Hits.len:Int)<=3 by omega)];rcases h49 W WO with⟨w',e,_⟩|⟨e,hs⟩
  rw [e,aX,dS];show(E.c19 ()).T _=_;rw[h19,aX];obtain⟨ln,hd,ha⟩:=(zI WO).1 hs;refine absurd (λa ha'=>?_) (B.no ln hd);obtain⟨i,hi,e⟩:=jB.1 (inW a ha');rw[<- e];exact ha i hi
 ·-- two hits without a common time
  obtain⟨g0,g1'⟩:=zAU (t.Hits.get i) (t.Hits.get j);have i1:=G.hit (i:=i) omY;have j1:=G.hit hj;have hlen:x.Hits.len=2:=by rw[hh]
  have q0:x.Hits.get 0=t.Hits.get i:=by rw[hh];exact g0
  have q1:x.Hits.get 1=t.Hits.get j:=by rw[hh];exact g1'
  rw[one (λa ha=>by
   have ha:a<2:=by omega
   match a,ha with|0,_=>rw[q0];exact vJ.2 ⟨i,omY,rfl⟩|1,_=>rw[q1];exact vJ.2 ⟨j,hj,rfl⟩) omY,ED,dR omY,dF,ru,show((3:Int)==2)=false from rfl,dF,show((3:Int)==3)=true from rfl,dS,hlen,show(((2:Nat):Int) != 2)=false from rfl,dF,q0,q1,bn omY,bn omY,bn omY,bn omY,zcY h50 he i1 j1,aX]
  have sW:((cmS (eU (NW s ⟨2,kL [l.get (t.Hits.get i).toNat,l.get (t.Hits.get j).toNat]⟩) 2)).2==5)=true:=sW;rw[sW,dS,h19,aX]
 rw[one (λa ha=>by omega) omY,ED,dR omY,dF,ru,show((4:Int)==2)=false from rfl,dF,show((4:Int)==3)=false from rfl,dF,show((4:Int)==4)=true from rfl,dS,dM hn,dS,h19,aX];have pl:x.aj.len=(IC s l t.View (eQ t)).length:=by rw [← hp,jQ]
 rw[one (λa ha=>by omega) omY,ED,dR omY,dF,ru,show((5:Int)==2)=false from rfl,dF,show((5:Int)==3)=false from rfl,dF,show((5:Int)==4)=false from rfl,dF,show((5:Int)==5)=true from rfl,dS,h51 s l t x.aj he ze3 hc hp,aX,dS,dM omY,dS,h19,aX];have cx:=ct _ hg;have gt:t.Hits.len<x.lC.Hits.len/\xO x.lC t=true:=by
  unfold EQ at hgr;rw[gz,oW]at hgr;exact⟨omY,hgr.2⟩
 rw[one (λa ha=>by omega) omY,ED,dR omY,dF,ru,show((6:Int)==2)=false from rfl,dF,show((6:Int)==3)=false from rfl,dF,show((6:Int)==4)=false from rfl,dF,show((6:Int)==5)=false from rfl,dF,show((6:Int)==6)=true from rfl,dS,h52 _ _ cx.one ot cx.tv.2 tv.2,aX,zsk gt.1,qdM,dS,h53 _ _ cx.inc G.inc,aX,gt.2,dS,zv3 _ cx.one cx.tv.2 (zu9 _ hg),aX,dS,h19,aX];obtain⟨m',Ie,e'⟩:=zu9 m hm;rw[one (λa ha=>by omega) omY,ED,dR omY,dF,ru,show((1:Int)==2)=false from rfl,dF,show((1:Int)==3)=false from rfl,dF,show((1:Int)==4)=false from rfl,dF,show((1:Int)==5)=false from rfl,dF,show((1:Int)==6)=false from rfl,dF,show((1:Int)==1)=true from rfl,dS,zv3 t ot tv.2 ⟨m',Ie,e'.trans hk⟩,aX,dS,h19,aX]
end Go.Proofs
namespace Go.Pm
variable [aH]
open Go.Shelf Go.RowKit Go.Lib Go.Sort Go.Proofs
theorem ze4{w w':World}(h1:w'.heap=w.heap)(h2:w'.tape=w.tape)(h3:w'.drawn=w.drawn)(h4:w'.os=w.os)(h5:w'.output=w.output):w'=w:=by
 cases w;cases w';simp_all
theorem zk2{w w':World}{h:Fz}(b : @xx ⟨1⟩ h w.heap.size w w'):∃q os,w'=grow (w.drewN q) os:=by
 obtain⟨bos,zHU,zV6,z1c,zA4,zA5⟩:=b;refine⟨w'.drawn-w.drawn,w'.heap.extract w.heap.size w'.heap.size,ze4 ?_ zHU ?_ bos zV6⟩;show w'.heap=w.heap++w'.heap.extract w.heap.size w'.heap.size;apply Array.ext_getElem?;intro i;rw[Array.getElem?_append];split;rename_i hl;exact zA5 i hl;rename_i hl;rw[Array.getElem?_extract];by_cases iw:i<w'.heap.size;rw[eX omY];congr 1;omega;rw[fF omY,qjf omY];show w'.drawn=w.drawn+(w'.drawn-w.drawn);have:w.drawn*1<=w'.drawn*1:=zA4;omega
theorem TL{w:World}{g q:Nat}{cur:Array Value}{e:TypeId}{fr:Nat×Nat}{off:Nat}(F:Array Value)(hb:w.heap[g]? = some (.cells cur e fr)) :
  ∃Yc,(putRow id (Sort.ahead w q) g off F).heap[g]? = some (.cells Yc e fr)/\Yc.size=cur.size:=by
 refine⟨putCells id off F cur,?_,by simp[putCells]⟩;simp[putRow,mapBlock,Sort.ahead,qjH,hb,onCells]
theorem Ib{w:World}{g q off:Nat}(F:Array Value){k:Nat}(hk:k≠g):(putRow id (Sort.ahead w q) g off F).heap[k]? = w.heap[k]?:=by
 simp[putRow,mapBlock,Sort.ahead,qjH,qjE hk]
theorem zk3{C:List PA→ae (List PA)}{caps:List PV}{ag:Bool}{get:Nat→List PV}{i j:Nat}(h:(JC C caps ag get i j).isSome=true) :
  ∃rs,(C (elP ag (get i)::elP ag (get j)::caps.map .one)).o=some rs/\rs=[.one (.int .i64 (nJ C caps ag get i j))]:=by
 unfold nJ;cases e:JC C caps ag get i j with
 | none=>rw[e]at h;cases h
 | some c =>
  unfold JC at e;obtain⟨rs,h1,h2⟩:=ae.T_some e;refine⟨rs,h1,?_⟩;split at h2;cases h2;rfl;cases h2
theorem Qp{P:Program}{ρ:Ren}(L:SlLaysF0.n6 P ρ){e s b:Nat}(he:ρ.t 24=e)(uw:jq P e=some true)(jH:pU P e=some s)(hc:dm P (ρ.f 6)):fU P (ρ.f 6) (.sort e s b):=by
 intro w h base v n get gf caps cv ag C hC hcv uu _ iF ⟨xs,iZ,hr⟩ lM hw cO Qw ⟨hn,hS,hO⟩;rw[uw]at uu;simp only[bQ]at uu;subst uu;refine⟨hc,?_⟩;have hdr:∀(w':World)(k:Nat),w.drawn<=w.drawn+k:=λ_ k=>Nat.le_add_right _ _;have none:∀(p:Option Addr)(cap:Nat),n=0->v=.slice p 0 cap->Calls P (ρ.f 6) #[v,.func (.func gf) #[] cv.toArray] w λr w'=>r=.returned (.tuple #[])/\zS h w' base e s v n (JD n (nJ C caps true get) get)/\GrB w w' v.ownBlock:=by
  rintro p cap rfl rfl;refine(AnyF.slices_SortFunc_none L p cap _ w).mono ?_;rintro r w' ⟨rfl,rfl⟩;exact⟨rfl,⟨xs,iZ,λi hi=>absurd hi (Ut i)⟩,⟨rfl,rfl,rfl,kw _,λ_ _ _=>rfl⟩,kw _⟩
 rcases iZ.2 with⟨h1,h2⟩|⟨OQ,cap,cur,rfl,hb,nG,zv5,ku,hcs,htk⟩
 exact none _ _ h2 h1;by_cases hn0:n=0;subst hn0;exact none _ _ rfl rfl;have:Inhabited (Fin n):=⟨⟨0,omY⟩⟩;let enc:Fin n->List Value:=λi=>(xs.drop (i.val*s)).take s;let c:=nJ C caps true get;let cf:Fin n->Fin n->Int:=λx y=>c x.val y.val;let d:Array (Fin n):=Array.ofFn id;have OT:d.size=n:=Array.size_ofFn;have hdi:∀i (hi:i<n),d[i]! = ⟨i,hi⟩:=λi hi=>by
  rw[qjw d i (by rw[OT];exact hi)];simp[d]
 have iw:OQ<w.heap.size:=(Us.1 nG).1;have hbn:h OQ=Option.none:=cO OQ rfl;have hmul:∀i,i<n->i*s+s<=n*s:=λi hi=>by have:=Qz s (qdl hi);rw[Uf]at this;exact this
 have hk:∀x,(enc x).length=s:=λx=>by
  have:=hmul x.val x.isLt;simp only[enc,qdF,qdd,iZ.1];omega
 have zV7:∀j,j<n*s->cur[j]? = xs[j]?:=λj hj=>by
  have:(cur.toList.take (n*s))[j]? = xs[j]?:=by rw[htk]
  rw[IL,eX hj]at this;simpa using this
 have hxl:∀j,j<n*s->∃u,xs[j]? = some u:=λj hj=>⟨xs[j]'(by rw[iZ.1];exact hj),Ae _⟩;have h1:∀x,∀u∈enc x,u.oneCell'=true:=λx u hu=>by
  obtain⟨j,hj⟩:=Yo hu;obtain⟨p,_,hp⟩:=(hr x.val x.isLt).get' j u hj;exact hp.one
 have zHV:∀j (hj:j<n*s),(flatK enc s d)[j]! = xs[j]'(by rw[iZ.1];exact hj):=λj hj=>by
  have hq:j/s<n:=qjO (by rw[qdD];exact hj);rw[get_flatK _ _ _ _ (by rw[OT];exact hj),hdi _ hq];have hm:=Nat.mod_lt j iF;have hdm:=jqa j s;rw[qjw _ _ (by rw[hk];exact hm)];simp only[enc,List.getElem_take,List.getElem_drop];congr 1;rw[qdD];exact hdm
 have hH:HoldsK enc s w OQ 0 d:=λj hj=>by
  have hj:j<n*s:=by rw[size_flatK,OT]at hj;exact hj
  refine⟨?_,frozen_of_row w OQ _ cur e nG⟩;rw[zHV j hj,cell_of nG,Oa,zV7 j hj];exact Ae _
 have eg:∀args w,(callFunc gf args).run P w=.ok (.enter gf args) w:=by
  have hcg:dm P gf:=by
   obtain⟨rs,hwp,_⟩:=zk3 (hS 0 0 omY omY);exact(hC _ _ hwp w h (.agg (enc ⟨0,omY⟩).toArray :: .agg (enc ⟨0,omY⟩).toArray::cv) ⟨⟨_,rfl,hr 0 omY⟩,⟨_,rfl,hr 0 omY⟩,RL.map_left.2 hcv⟩ hw).1
  exact λargs w=>ed hcg
 have zY8:CmpLays P gf cv.toArray enc s cf OQ 0 d.size w:=by
  intro m os dk hdk x y;obtain⟨rs,hwp,hrs⟩:=zk3 (hS x.val y.val x.isLt y.isLt);have hwh:Hw h (sortWorldK enc s w OQ 0 m dk os):=hw.same λk o hk=>by
   have hkb:k≠OQ:=λe=>by rw[e,hbn]at hk;cases hk
   have hkl:=hw.lt hk;show((putRow id (Sort.ahead w m) OQ 0 (flatK enc s dk)).heap++os)[k]? = _;rw[dqW (by simpa [putRow,mapBlock,Sort.ahead]using hkl)];exact Ib _ hkb
  obtain⟨_,df⟩:=hC _ _ hwp (sortWorldK enc s w OQ 0 m dk os) h (.agg (enc x).toArray :: .agg (enc y).toArray::cv) ⟨⟨_,rfl,hr x.val x.isLt⟩,⟨_,rfl,hr y.val y.isLt⟩,RL.map_left.2 hcv⟩ hwh;rw[show(#[Value.agg (enc x).toArray,.agg (enc y).toArray]++cv.toArray)=(Value.agg (enc x).toArray :: .agg (enc y).toArray::cv).toArray by simp];refine df.mono ?_;rintro e' w' ⟨h',v',rfl,og,rG,_,_,_⟩;subst hrs;have AC:v'=.int .i64 (cf x y):=by
   have:Rep h' (.int .i64 (cf x y)) v':=og;cases this;rfl
  subst AC;exact⟨rfl,zk2 rG⟩
 have zV8:SWO (ltOf cf):=by
  refine⟨λx=>?_,λx y z hxy hyz=>?_,λx y z hxy hyz=>?_⟩;have:0≤c x.val x.val:=hO.1 x.val x.isLt;simp only[ltOf,dqS];show ¬c x.val x.val<0;omega;simp only [ltOf,oW]at hxy hyz ⊢;exact hO.2.2 _ _ _ x.isLt y.isLt z.isLt hxy hyz;simp only [ltOf,dqS]at hxy hyz ⊢;intro hxz;have hxy:¬c x.val y.val<0:=hxy;have hyz:¬c y.val z.val<0:=hyz;have hxz:c x.val z.val<0:=hxz;by_cases e1:y.val=z.val;rw[e1]at hxy;exact hxy hxz;by_cases e2:x.val=y.val;rw[e2]at hxz;exact hyz hxz;have a1:c z.val y.val<0:=by rcases hO.2.1 y.val z.val y.isLt z.isLt e1 with h|h;exact absurd h.1 hyz;exact h.1
  exact hxy (hO.2.2 _ _ _ x.isLt z.isLt y.isLt hxz a1)
 have aE:∀w,(isAgg (ρ.t 24)).run P w=.ok true w:=λw=>by rw[he];exact nO uw
 have zE:∀w,(Go.sizeOf (ρ.t 24)).run P w=.ok s w:=λw=>by rw[he];exact run_sizeOf jH
 have df:=AnyQ.slices_SortFunc L s aE zE enc hk h1 cf zV8 gf cv.toArray OQ 0 cap d w eg zY8 hH iw (by rw[OT];omega);rw[OT]at df;refine df.mono ?_;rintro r w' ⟨rfl,d',m,os,zL5,Ic,rfl⟩;obtain⟨hps,_,hpp⟩:=zL5;have zav:d'.size=n:=by rw[hps,OT]
 have Gs:∀(z:Array (Fin n)),z.size=n->z.extract 0 n=z:=λz hz=>Array.ext (by simp[hz]) (λi h1 h2=>by simp);rw[Gs d' zav,Gs d OT]at hpp;have hl:d'.toList.map Fin.val=xZ n c:=by
  refine zaf hO ?_ ?_;refine(hpp.map Fin.val).trans ?_;have:d.toList.map Fin.val=List.range n:=by
   apply qdf;intro i;simp only[d,dq4];by_cases hi:i<n;simp[hi];rw[qdh (by simp;omega),qdh (by simp;omega)];rfl
  rw[this];rw [qji,qdn];intro i j hi hj NY;have kX:i<n:=by simpa [zav]using hi
  have oV:j<n:=by simpa [zav]using hj
  have:=Ic i j (AP _) NY oV;rw[qjw d' j omY,qjw d' i omY]at this;simp only[ltOf,dqS]at this;exact this
 have zaO:∀i (hi:i<n),JD n c get i=get (d'[i]'omY).val:=λi hi=>by
  unfold JD;rw[<- hl];congr 1;rw[jqh,dq4];simp[zav,hi]
 obtain⟨Yc,zCG,zL3⟩:=TL (q:=m) (off:=0) (flatK enc s d') nG;have zde:(sortWorldK enc s w OQ 0 m d' os).heap[OQ]? = some (.cells Yc e (0,0)):=by
  show((putRow id (Sort.ahead w m) OQ 0 (flatK enc s d')).heap++os)[OQ]? = _;rw[dqW (by simpa [putRow,mapBlock,Sort.ahead]using iw)];exact zCG
 have hH':HoldsK enc s (sortWorldK enc s w OQ 0 m d' os) OQ 0 d':=holdsK_sortWorldK_c enc s w OQ 0 d d' m os hH iw (by rw[zav,OT]);have zHW:∀j (hj:j<n*s),Yc[j]? = some ((flatK enc s d')[j]!):=λj hj=>by
  have:=(hH' j (by rw[size_flatK,zav];exact hj)).1;rw[cell_of zde,Oa]at this;exact this
 refine⟨rfl,⟨Yc.toList.take (n*s),⟨by rw[qdF,qd7,zL3,hcs];exact Nat.min_eq_left (Qz s zv5),.inr ⟨OQ,cap,Yc,rfl,hb,zde,zv5,ku,by rw[zL3,hcs],rfl⟩⟩,λi hi=>?_⟩,?_⟩;have e1:((Yc.toList.take (n*s)).drop (i*s)).take s=enc (d'[i]'omY):=by
  apply qdf;intro j;have hm:=hmul i hi;rw[IL];split;rename_i hj;rw[qdg,IL,eX omY,jqB,zHW _ omY];have hdiv:(i*s+j)/s=i:=by rw[qdD,Nat.mul_add_div iF,Nat.div_eq_of_lt hj,qdW]
  have zl2:(i*s+j)%s=j:=by rw[qdD,jqb,qj8 hj]
  rw[get_flatK _ _ _ _ (by rw[zav];omega),hdiv,zl2,qjw d' i omY,qjw _ _ (by rw[hk];exact hj)];exact(Ae _).symm;rename_i hj;rw[qdh (by rw[hk];omega)]
 rw[e1,zaO i hi];exact hr _ (d'[i]'omY).isLt;refine⟨⟨rfl,rfl,rfl,?_,fun k hk jb => ?_⟩,JP (Nat.le_add_right _ _)⟩;show w.heap.size≤((putRow id (Sort.ahead w m) OQ 0 (flatK enc s d')).heap++os).size;simp[putRow,mapBlock,Sort.ahead];show((putRow id (Sort.ahead w m) OQ 0 (flatK enc s d')).heap++os)[k]? = _;rw[dqW (by simpa [putRow,mapBlock,Sort.ahead]using hk)];exact Ib _ λe=>jb (by rw[e];rfl)
end Go.Pm
namespace Go.Pm
open Go.Shelf Go.RowKit Go.Lib Go.Proofs
theorem zaw{P:Program}{ρ:Ren}(L:SlLaysE0.n41 P ρ)(i0:TypeInfo)(z:Value)(size bytes:Nat)(hi:P.info? (ρ.t 23)=some i0)(hz0:i0.zero=some z)(hz1:i0.size=size)(hz2:i0.bytes=bytes)(zZ:z.cells.size=size)(jH:0<size)
    (z23:∀w,(Go.sizeOf (ρ.t 23)).run P w=.ok size w) (a:Addr) (c:Nat) (w:World) :
    Calls P (ρ.f 41) #[.slice (some a) 0 c] w λe w'=>∃v',e=.returned v'/\w'.ownsRow w.heap.size (ρ.t 23) size v' 0 []/\Below w.heap.size w w':=by
  have mixed:=L.mixed;have t4:=L.t4;have a4:=L.a4;have z4:=L.z4;have v4:=L.v4;have t22:=L.t22;have a22:=L.a22;have z22:=L.z22;have v22:=L.v22;have q22:∀(w:World)(a:Option Addr)(n c n' c':Nat),(binOp .eql (ρ.t 22) (.slice a n c) (.slice none n' c')).run P w=.ok (.bool a.isNone) w:=λw a n c n' c'=>Lib.run_eql_slice_nil w _ _ a n c n' c' L.t22;have u22:∀w,Sem.run P (underlying (ρ.t 22)) w=.ok (TypeDesc.slice (ρ.t 23)) w:=λw=>run_underlying t22;obtain⟨_,_,FG⟩:=L.f41
  go_enter FG,SlBodyN.n41_ntmps ρ
  go_wp2_with (at_builtin;refine wpList_append_own _ rfl _ _ (ρ.t 22) rfl w.heap.size (ρ.t 23) i0 z size bytes t22 hi hz0 hz1 hz2 zZ jH _ _ _ rfl (World.ownsRow_made w #[] 0 (kw _) (AP _) (by simp)) a 0 c [] rfl (by simp) (by intro j u hj;simp at hj) (by intro u hu;cases hu) (by unfold maxLen;omega) omY (by simp) ?_)
  intro v' w1 iZ zde zaJ
  go_wp2
  go_ret
  exact⟨v',rfl,by simpa using iZ,((Below.refl _ w).alloc (kw _) _).grown zde (by simp) (by intro k hk;simp[Value.ownBlock]at hk;omega)⟩
theorem Qq{P:Program}{ρ:Ren}(L:SlLaysE0.n41 P ρ){e s b:Nat}{i0:TypeInfo}{z:Value}(he:ρ.t 23=e)(hi:P.info? e=some i0)(hz0:i0.zero=some z)(hz1:i0.size=s)(hz2:i0.bytes=b)(zZ:z.cells.size=s)(jH:pU P e=some s)(hs:0<s)
    (hc:dm P (ρ.f 41)):fU P (ρ.f 41) (.clone e s b):=by
  subst he;intro w h v n get hv hw h1 h2;refine⟨hc,?_⟩;have zE:∀w,(Go.sizeOf (ρ.t 23)).run P w=.ok s w:=λw=>run_sizeOf jH
  have fin:∀(v':Value)(w':World)(news:List Value),w'.ownsRow w.heap.size (ρ.t 23) s v' n news->Below w.heap.size w w'->(∀i,i<n->RL (Rep h) (get i) ((news.drop (i*s)).take s)) ->
      ∃(h':Fz)(u:Value),Ending.returned v'=.returned u/\u.oneCell'=true/\zS h' w' w.heap.size (ρ.t 23) s u n get/\(∀k,u.ownBlock=some k->h' k=none) /\
        xx h w.heap.size w w'/\jP h h'/\Hw h' w'/\∀b o,h' b=some o->h b=some o\/w.heap.size<=b:=by
    intro v' w' news iZ rG hr;have hb:xx h w.heap.size w w':=⟨rG.os,rG.tape,rG.output,rG.size,kw _,λk hk=>rG.block k hk⟩;refine⟨h,v',rfl,?_,⟨news,iZ,hr⟩,λk hk=>?_,hb,λ_ _ h=>h,hw.same λk o hk=>hb.block k (hw.lt hk),λ_ _ h=>.inl h⟩;rcases iZ.2 with⟨rfl,_⟩|⟨g,cap,cur,rfl,_⟩<;>rfl
    rcases iZ.2 with⟨rfl,_⟩|⟨g,cap,cur,rfl,hg,_⟩
    cases hk
    · have : g = k := by simpa [Value.ownBlock] using hk
      subst this;cases e:h g with|none=>rfl|some o=>have:=hw.lt e;omega
  cases hv with
  | sl0 _ _ hu =>
    refine(AnyE.slices_Clone_nil L 0 0 w).mono ?_;rintro r w' ⟨rfl,rfl⟩;exact fin _ _ [] (World.ownsRow_nil _ _ _ _) (Below.refl _ _) λi hi=>absurd hi (Ut i)
  | sle _ _ a cap hu =>
    refine(zaw L i0 z s b hi hz0 hz1 hz2 zZ hs zE a cap w).mono ?_;rintro r w' ⟨v',rfl,iZ,rG⟩;exact fin _ _ [] iZ rG λi hi=>absurd hi (Ut i)
  | sl _ _ _ hu bk off cap C ty fr vs hb ku hlen Ad hr =>
    let news:List Value:=(List.range (n*s)).map λq=>vs (q/s) (q%s);have hl:news.length=n*s:=by simp[news]
    have hq:∀q,q<n*s->q/s<n/\q%s<s:=λq hq=>⟨qjO (by rw[qdD];exact hq),Nat.mod_lt q hs⟩;have hn:∀q,q<n*s->news[q]? = some (vs (q/s) (q%s)):=λq hq=>by simp[news,hq]
    have hx:∀i j,i<n->j<s->∃x,(get i)[j]? = some x:=λi j hi hj=>⟨_,Ae (by rw[hlen i hi];exact hj)⟩;have nG:=hw.fz hb;refine(AnyE.slices_Clone L i0 z s b hi hz0 hz1 hz2 zZ hs zE bk off n cap news w hl h2 h1 (λj u hj=>?_) λu hu=>?_).mono ?_;have hjl:j<n*s:=by have:=(AL.1 hj).1;omega
    obtain⟨a1,a2⟩:=hq j hjl;rw[hn j hjl]at hj;cases hj;obtain⟨x,hx⟩:=hx _ _ a1 a2;have hc:=Ad _ _ x a1 hx;have lM:=(hr _ _ x a1 hx).one;rw[show off+j/s*s+j%s=off+j by rw[qjq,qdD];rw[jqa]]at hc;rw[cell_of nG];exact hc;obtain⟨j,hj⟩:=Yo hu;have hjl:j<n*s:=by have:=(AL.1 hj).1;omega
    obtain⟨a1,a2⟩:=hq j hjl;rw[hn j hjl]at hj;cases hj;obtain⟨x,hx⟩:=hx _ _ a1 a2;exact(hr _ _ x a1 hx).one;rintro r w' ⟨v',rfl,iZ,_,rG⟩;refine fin _ _ news iZ rG λi hi=>RL.of_get ?_ λj x y hx hy=>?_;have hm:i*s+s≤n*s:=by have:=Qz s (qdl hi);rw [Uf]at this;exact this
    rw[hlen i hi,qdF,qdd,hl];omega;have hj:j<s:=by have:=(AL.1 hx).1;rw [hlen i hi]at this;exact this
    have hm:i*s+s<=n*s:=by have:=Qz s (qdl hi);rw[Uf]at this;exact this
    rw[IL,eX hj,qdg,hn _ omY]at hy;rw[show(i*s+j)/s=i by rw[qdD,Nat.mul_add_div hs,Nat.div_eq_of_lt hj,qdW],show(i*s+j)%s=j by rw[qdD,jqb,qj8 hj]]at hy;cases hy;exact hr i j x hi hx
end Go.Pm
namespace Go.Proofs
open Go.Shelf
open Go.Pm (kz)
def Tryz.laysS253_ren:Go.Shelf.Ren:=⟨fun|6=>253|15=>184|14=>256|28=>220|29=>221|20=>258|21=>259|22=>260|23=>261|24=>262|25=>263|26=>264|27=>265|46=>266|47=>242|48=>243|49=>267|50=>268|57=>269|n=>n,fun|22=>195|24=>204|25=>322|3=>3|39=>260|0=>0|53=>292|55=>294|4=>4|46=>286|45=>285|50=>174|5=>5|9=>9|66=>305|70=>309|76=>317|77=>221|n=>n,fun|n=>n⟩
theorem Tryz.laysS253:Go.Proofs.SlLaysF0.n6 Tryz.prog Tryz.laysS253_ren:={
  mixed:=by kernel_rfl
  f6:=⟨Tryz.f253.name,by decide,Tryz.func253.trans (kz some (by kernel_rfl))⟩
  f14:=⟨Tryz.f256.name,by decide,Tryz.func256.trans (kz some (by kernel_rfl))⟩
  f15:=Tryz.func184.trans (kz some (by kernel_rfl))
  f20:=⟨Tryz.f258.name,by decide,Tryz.func258.trans (kz some (by kernel_rfl))⟩
  f21:=⟨Tryz.f259.name,by decide,Tryz.func259.trans (kz some (by kernel_rfl))⟩
  f22:=⟨Tryz.f260.name,by decide,Tryz.func260.trans (kz some (by kernel_rfl))⟩
  f23:=⟨Tryz.f261.name,by decide,Tryz.func261.trans (kz some (by kernel_rfl))⟩
  f24:=⟨Tryz.f262.name,by decide,Tryz.func262.trans (kz some (by kernel_rfl))⟩
  f25:=⟨Tryz.f263.name,by decide,Tryz.func263.trans (kz some (by kernel_rfl))⟩
  f26:=⟨Tryz.f264.name,by decide,Tryz.func264.trans (kz some (by kernel_rfl))⟩
  f27:=⟨Tryz.f265.name,by decide,Tryz.func265.trans (kz some (by kernel_rfl))⟩
  f28:=Tryz.func220.trans (kz some (by kernel_rfl))
  f29:=Tryz.func221.trans (kz some (by kernel_rfl))
  f46:=⟨Tryz.f266.name,by decide,Tryz.func266.trans (kz some (by kernel_rfl))⟩
  f47:=Tryz.func242.trans (kz some (by kernel_rfl))
  f48:=Tryz.func243.trans (kz some (by kernel_rfl))
  f49:=⟨Tryz.f267.name,by decide,Tryz.func267.trans (kz some (by kernel_rfl))⟩
  f50:=⟨Tryz.f268.name,by decide,Tryz.func268.trans (kz some (by kernel_rfl))⟩
  f57:=⟨Tryz.f269.name,by decide,Tryz.func269.trans (kz some (by kernel_rfl))⟩
  t0:=Tryz.underlying0
  a0:=Tryz.isAgg0
  z0:=Tryz.sizeOf0
  v0:=Tryz.zeroValue0
  t3:=Tryz.underlying3
  a3:=Tryz.isAgg3
  z3:=Tryz.sizeOf3
  v3:=Tryz.zeroValue3
  t4:=Tryz.underlying4
  a4:=Tryz.isAgg4
  z4:=Tryz.sizeOf4
  v4:=Tryz.zeroValue4
  t5:=Tryz.underlying5
  a5:=Tryz.isAgg5
  z5:=Tryz.sizeOf5
  v5:=Tryz.zeroValue5
  t9:=Tryz.underlying9
  a9:=Tryz.isAgg9
  z9:=Tryz.sizeOf9
  v9:=Tryz.zeroValue9
  t22:=Tryz.underlying195
  a22:=Tryz.isAgg195
  z22:=Tryz.sizeOf195
  v22:=Tryz.zeroValue195
  t25:=Tryz.underlying322
  a25:=Tryz.isAgg322
  z25:=Tryz.sizeOf322
  v25:=Tryz.zeroValue322
  t39:=Tryz.underlying260
  a39:=Tryz.isAgg260
  z39:=Tryz.sizeOf260
  v39:=Tryz.zeroValue260
  t45:=Tryz.underlying285
  a45:=Tryz.isAgg285
  z45:=Tryz.sizeOf285
  v45:=Tryz.zeroValue285
  t46:=Tryz.underlying286
  a46:=Tryz.isAgg286
  z46:=Tryz.sizeOf286
  v46:=Tryz.zeroValue286
  t50:=Tryz.underlying174
  a50:=Tryz.isAgg174
  z50:=Tryz.sizeOf174
  v50:=Tryz.zeroValue174
  t53:=Tryz.underlying292
  a53:=Tryz.isAgg292
  z53:=Tryz.sizeOf292
  v53:=Tryz.zeroValue292
  t55:=Tryz.underlying294
  a55:=Tryz.isAgg294
  z55:=Tryz.sizeOf294
  v55:=Tryz.zeroValue294
  t66:=Tryz.underlying305
  a66:=Tryz.isAgg305
  z66:=Tryz.sizeOf305
  v66:=Tryz.zeroValue305
  t70:=Tryz.underlying309
  a70:=Tryz.isAgg309
  z70:=Tryz.sizeOf309
  v70:=Tryz.zeroValue309
  t76:=Tryz.underlying317
  a76:=Tryz.isAgg317
  z76:=Tryz.sizeOf317
  v76:=Tryz.zeroValue317
  t77:=Tryz.underlying221
  a77:=Tryz.isAgg221
  z77:=Tryz.sizeOf221
  v77:=Tryz.zeroValue221}
def Tryz.laysS133_ren:Go.Shelf.Ren:=⟨fun|6=>133|15=>184|14=>183|28=>220|29=>221|20=>212|21=>213|22=>214|23=>215|24=>216|25=>217|26=>218|27=>219|46=>241|47=>242|48=>243|49=>244|50=>245|57=>250|n=>n,fun|22=>30|24=>43|25=>220|3=>3|39=>260|0=>0|53=>292|55=>294|4=>4|46=>286|45=>285|50=>174|5=>5|9=>9|66=>305|70=>309|76=>317|77=>221|n=>n,fun|n=>n⟩
theorem Tryz.laysS133:Go.Proofs.SlLaysF0.n6 Tryz.prog Tryz.laysS133_ren:={
  mixed:=by kernel_rfl
  f6:=⟨Tryz.f133.name,by decide,Tryz.func133.trans (kz some (by kernel_rfl))⟩
  f14:=⟨Tryz.f183.name,by decide,Tryz.func183.trans (kz some (by kernel_rfl))⟩
  f15:=Tryz.func184.trans (kz some (by kernel_rfl))
  f20:=⟨Tryz.f212.name,by decide,Tryz.func212.trans (kz some (by kernel_rfl))⟩
  f21:=⟨Tryz.f213.name,by decide,Tryz.func213.trans (kz some (by kernel_rfl))⟩
  f22:=⟨Tryz.f214.name,by decide,Tryz.func214.trans (kz some (by kernel_rfl))⟩
  f23:=⟨Tryz.f215.name,by decide,Tryz.func215.trans (kz some (by kernel_rfl))⟩
  f24:=⟨Tryz.f216.name,by decide,Tryz.func216.trans (kz some (by kernel_rfl))⟩
  f25:=⟨Tryz.f217.name,by decide,Tryz.func217.trans (kz some (by kernel_rfl))⟩
  f26:=⟨Tryz.f218.name,by decide,Tryz.func218.trans (kz some (by kernel_rfl))⟩
  f27:=⟨Tryz.f219.name,by decide,Tryz.func219.trans (kz some (by kernel_rfl))⟩
  f28:=Tryz.func220.trans (kz some (by kernel_rfl))
  f29:=Tryz.func221.trans (kz some (by kernel_rfl))
  f46:=⟨Tryz.f241.name,by decide,Tryz.func241.trans (kz some (by kernel_rfl))⟩
  f47:=Tryz.func242.trans (kz some (by kernel_rfl))
  f48:=Tryz.func243.trans (kz some (by kernel_rfl))
  f49:=⟨Tryz.f244.name,by decide,Tryz.func244.trans (kz some (by kernel_rfl))⟩
  f50:=⟨Tryz.f245.name,by decide,Tryz.func245.trans (kz some (by kernel_rfl))⟩
  f57:=⟨Tryz.f250.name,by decide,Tryz.func250.trans (kz some (by kernel_rfl))⟩
  t0:=Tryz.underlying0
  a0:=Tryz.isAgg0
  z0:=Tryz.sizeOf0
  v0:=Tryz.zeroValue0
  t3:=Tryz.underlying3
  a3:=Tryz.isAgg3
  z3:=Tryz.sizeOf3
  v3:=Tryz.zeroValue3
  t4:=Tryz.underlying4
  a4:=Tryz.isAgg4
  z4:=Tryz.sizeOf4
  v4:=Tryz.zeroValue4
  t5:=Tryz.underlying5
  a5:=Tryz.isAgg5
  z5:=Tryz.sizeOf5
  v5:=Tryz.zeroValue5
  t9:=Tryz.underlying9
  a9:=Tryz.isAgg9
  z9:=Tryz.sizeOf9
  v9:=Tryz.zeroValue9
  t22:=Tryz.underlying30
  a22:=Tryz.isAgg30
  z22:=Tryz.sizeOf30
  v22:=Tryz.zeroValue30
  t25:=Tryz.underlying220
  a25:=Tryz.isAgg220
  z25:=Tryz.sizeOf220
  v25:=Tryz.zeroValue220
  t39:=Tryz.underlying260
  a39:=Tryz.isAgg260
  z39:=Tryz.sizeOf260
  v39:=Tryz.zeroValue260
  t45:=Tryz.underlying285
  a45:=Tryz.isAgg285
  z45:=Tryz.sizeOf285
  v45:=Tryz.zeroValue285
  t46:=Tryz.underlying286
  a46:=Tryz.isAgg286
  z46:=Tryz.sizeOf286
  v46:=Tryz.zeroValue286
  t50:=Tryz.underlying174
  a50:=Tryz.isAgg174
  z50:=Tryz.sizeOf174
  v50:=Tryz.zeroValue174
  t53:=Tryz.underlying292
  a53:=Tryz.isAgg292
  z53:=Tryz.sizeOf292
  v53:=Tryz.zeroValue292
  t55:=Tryz.underlying294
  a55:=Tryz.isAgg294
  z55:=Tryz.sizeOf294
  v55:=Tryz.zeroValue294
  t66:=Tryz.underlying305
  a66:=Tryz.isAgg305
  z66:=Tryz.sizeOf305
  v66:=Tryz.zeroValue305
  t70:=Tryz.underlying309
  a70:=Tryz.isAgg309
  z70:=Tryz.sizeOf309
  v70:=Tryz.zeroValue309
  t76:=Tryz.underlying317
  a76:=Tryz.isAgg317
  z76:=Tryz.sizeOf317
  v76:=Tryz.zeroValue317
  t77:=Tryz.underlying221
  a77:=Tryz.isAgg221
  z77:=Tryz.sizeOf221
  v77:=Tryz.zeroValue221}
end Go.Proofs
namespace Go.Proofs
open Go.Shelf
open Go.Pm (kz)
def Tryz.laysC181_ren:Go.Shelf.Ren:=⟨fun|41=>181|n=>n,fun|22=>39|23=>3|n=>n,fun|n=>n⟩
theorem Tryz.laysC181:Go.Proofs.SlLaysE0.n41 Tryz.prog Tryz.laysC181_ren:={
  mixed:=by kernel_rfl
  f41:=⟨Tryz.f181.name,by decide,Tryz.func181.trans (kz some (by kernel_rfl))⟩
  t4:=Tryz.underlying4
  a4:=Tryz.isAgg4
  z4:=Tryz.sizeOf4
  v4:=Tryz.zeroValue4
  t22:=Tryz.underlying39
  a22:=Tryz.isAgg39
  z22:=Tryz.sizeOf39
  v22:=Tryz.zeroValue39}
def Tryz.laysC252_ren:Go.Shelf.Ren:=⟨fun|41=>252|n=>n,fun|22=>195|23=>204|n=>n,fun|n=>n⟩
theorem Tryz.laysC252:Go.Proofs.SlLaysE0.n41 Tryz.prog Tryz.laysC252_ren:={
  mixed:=by kernel_rfl
  f41:=⟨Tryz.f252.name,by decide,Tryz.func252.trans (kz some (by kernel_rfl))⟩
  t4:=Tryz.underlying4
  a4:=Tryz.isAgg4
  z4:=Tryz.sizeOf4
  v4:=Tryz.zeroValue4
  t22:=Tryz.underlying195
  a22:=Tryz.isAgg195
  z22:=Tryz.sizeOf195
  v22:=Tryz.zeroValue195}
end Go.Proofs
namespace Go.Proofs
open Go Go.Pm
set_option maxRecDepth 100000
abbrev NK:Nat:=1000
def qJ:au:=⟨.of [⟨1,1,0,0,10,10,0,⟨0,0⟩,⟨0,0⟩,2,0,.of [],.of []⟩,⟨1,2,50,0,10,10,0,⟨0,0⟩,⟨0,0⟩,2,0,.of [],.of []⟩,⟨1,1,100,0,10,10,0,⟨0,0⟩,⟨0,0⟩,2,0,.of [],.of []⟩,⟨1,2,150,0,10,10,0,⟨0,0⟩,⟨0,0⟩,2,0,.of [],.of []⟩,⟨1,1,200,0,10,10,0,⟨0,0⟩,⟨0,0⟩,2,0,.of [],.of []⟩]⟩
def zA0:Sl bi:=.of [⟨0,2,1,0,0,0⟩,⟨2,3,1,0,0,1⟩,⟨4,4,1,0,0,2⟩,⟨4,8,1,0,0,0⟩,⟨1,5,1,0,0,1⟩,⟨3,5,1,0,0,1⟩]
def zB0:Sl (Sl ax):=.of [.of [⟨0,20,30⟩],.of [⟨100,30,40⟩],.of [⟨200,40,50⟩],.of [⟨200,80,90⟩],.of [⟨50,50,60⟩],.of [⟨150,50,60⟩]]
def Jo:Pt aS:=⟨⟨qJ,zA0,zB0,⟨2,0⟩⟩⟩
abbrev TB:={T:Tabs // ay aC T}
def TB.m{δ ρ:Type}[dE δ][dE ρ](T:TB)(f:FuncId)(y:δ×ρ)(h:znS ((gq T.1 []).fn f) y=true):TB:=⟨T.1.memo f y,ay.memo T.2 h⟩
theorem zk4:fU aC 253 (.sort 204 3 24):=Qp Tryz.laysS253 rfl rfl rfl (dJ krY)
theorem zk5:fU aC 133 (.sort 43 3 56):=Qp Tryz.laysS133 rfl rfl rfl (dJ krY)
theorem zax:fU aC 181 (.clone 3 1 8):=Qq Tryz.laysC181 rfl rfl rfl rfl rfl rfl rfl (by decide) (dJ krY)
theorem zk6:fU aC 252 (.clone 204 3 24):=Qq Tryz.laysC252 rfl rfl rfl rfl rfl rfl rfl (by decide) (dJ krY)
def K1:TB:=⟨nT aC NK Tabs.nil
 [.f 161 {},
 .f 232 {},
 .f 233 {},
 .f 234 {},
 .f 164 {},
 .f 235 {},
 .f 201 {},
 .f 160 {}],eG ay.nil krY⟩
def K2:TB:=K1.m 160 (((qJ),true):(au)×(Bool)) krY
def K3:TB:=⟨nT aC NK K2.1
 [.f 122 {},
 .f 123 {},
 .f 60 {},
 .f 112 {},
 .f 188 {},
 .f 138 {},
 .f 223 {},
 .i 251 {yl:=[3]},
 .f 246 {},
 .f 224 {},
 .f 189 {},
 .f 139 {}],eG K2.2 krY⟩
def K4:TB:=K3.m 139 (((qJ,⟨0,2,1,0,0,0⟩),((.of [⟨0,20,30⟩]),0)):(au×bi)×(Sl ax×Int)) krY
def K5:TB:=K4.m 139 (((qJ,⟨2,3,1,0,0,1⟩),((.of [⟨100,30,40⟩]),0)):(au×bi)×(Sl ax×Int)) krY
def K6:TB:=K5.m 139 (((qJ,⟨4,4,1,0,0,2⟩),((.of [⟨200,40,50⟩]),0)):(au×bi)×(Sl ax×Int)) krY
def K7:TB:=K6.m 139 (((qJ,⟨4,8,1,0,0,0⟩),((.of [⟨200,80,90⟩]),0)):(au×bi)×(Sl ax×Int)) krY
def K8:TB:=K7.m 139 (((qJ,⟨1,5,1,0,0,1⟩),((.of [⟨50,50,60⟩]),0)):(au×bi)×(Sl ax×Int)) krY
def K9:TB:=K8.m 139 (((qJ,⟨3,5,1,0,0,1⟩),((.of [⟨150,50,60⟩]),0)):(au×bi)×(Sl ax×Int)) krY
def K10:TB:=⟨nT aC NK K9.1
 [.f 78 {}],eG K9.2 krY⟩
def K11:TB:=K10.m 78 (((qJ,⟨2,0⟩,zA0),(Jo,0)):(au×bC×Sl bi)×(Pt aS×Int)) krY
def K12:TB:=⟨nT aC NK K11.1
 [.f 176 {},
 .f 126 {},
 .f 140 {},
 .i 173 {yl:=[7]},
 .f 121 {},
 .f 180 {},
 .f 190 {},
 .f 210 {},
 .f 179 {}],eG K11.2 krY⟩
def K13:TB:=⟨K12.1.addO 181 (.clone 3 1 8),ay.addO K12.2 zax⟩
def K14:TB:=⟨nT aC NK K13.1
 [.f 111 {}],eG K13.2 krY⟩
def K15:TB:=K14.m 111 (((qJ,(.of [⟨0,2,1,0,0,0⟩])),0):(au×Sl bi)×(Int)) krY
def K16:TB:=K15.m 111 (((qJ,(.of [⟨0,2,1,0,0,0⟩,⟨2,3,1,0,0,1⟩])),0):(au×Sl bi)×(Int)) krY
def K17:TB:=K16.m 111 (((qJ,(.of [⟨0,2,1,0,0,0⟩,⟨2,3,1,0,0,1⟩,⟨4,4,1,0,0,2⟩])),0):(au×Sl bi)×(Int)) krY
def K18:TB:=K17.m 111 (((qJ,(.of [⟨0,2,1,0,0,0⟩,⟨2,3,1,0,0,1⟩,⟨4,8,1,0,0,0⟩])),0):(au×Sl bi)×(Int)) krY
def K19:TB:=K18.m 111 (((qJ,(.of [⟨0,2,1,0,0,0⟩,⟨4,4,1,0,0,2⟩])),0):(au×Sl bi)×(Int)) krY
def K20:TB:=K19.m 111 (((qJ,(.of [⟨0,2,1,0,0,0⟩,⟨4,8,1,0,0,0⟩])),0):(au×Sl bi)×(Int)) krY
def K21:TB:=K20.m 111 (((qJ,(.of [⟨2,3,1,0,0,1⟩])),0):(au×Sl bi)×(Int)) krY
def K22:TB:=K21.m 111 (((qJ,(.of [⟨2,3,1,0,0,1⟩,⟨4,4,1,0,0,2⟩])),0):(au×Sl bi)×(Int)) krY
def K23:TB:=K22.m 111 (((qJ,(.of [⟨2,3,1,0,0,1⟩,⟨4,8,1,0,0,0⟩])),0):(au×Sl bi)×(Int)) krY
def K24:TB:=K23.m 111 (((qJ,(.of [⟨4,4,1,0,0,2⟩])),0):(au×Sl bi)×(Int)) krY
def K25:TB:=K24.m 111 (((qJ,(.of [⟨4,8,1,0,0,0⟩])),0):(au×Sl bi)×(Int)) krY
def K26:TB:=K25.m 111 (((qJ,(.of [⟨1,5,1,0,0,1⟩])),0):(au×Sl bi)×(Int)) krY
def K27:TB:=K26.m 111 (((qJ,(.of [⟨1,5,1,0,0,1⟩,⟨3,5,1,0,0,1⟩])),0):(au×Sl bi)×(Int)) krY
def K28:TB:=K27.m 111 (((qJ,(.of [⟨3,5,1,0,0,1⟩])),0):(au×Sl bi)×(Int)) krY
def K29:TB:=⟨nT aC NK K28.1
 [.f 113 {},
 .f 50 {}],eG K28.2 krY⟩
def K30:TB:=K29.m 50 (((qJ,(.of [⟨0,2,1,0,0,0⟩])),(⟨(-2),2⟩,0)):(au×Sl bi)×(bZ×Int)) krY
def K31:TB:=K30.m 50 (((qJ,(.of [⟨0,2,1,0,0,0⟩,⟨2,3,1,0,0,1⟩])),(⟨(-1),2⟩,0)):(au×Sl bi)×(bZ×Int)) krY
def K32:TB:=K31.m 50 (((qJ,(.of [⟨0,2,1,0,0,0⟩,⟨2,3,1,0,0,1⟩,⟨4,4,1,0,0,2⟩])),(⟨0,2⟩,0)):(au×Sl bi)×(bZ×Int)) krY
def K33:TB:=K32.m 50 (((qJ,(.of [⟨0,2,1,0,0,0⟩,⟨2,3,1,0,0,1⟩,⟨4,8,1,0,0,0⟩])),(⟨(-1),2⟩,0)):(au×Sl bi)×(bZ×Int)) krY
def K34:TB:=K33.m 50 (((qJ,(.of [⟨0,2,1,0,0,0⟩,⟨4,4,1,0,0,2⟩])),(⟨0,2⟩,0)):(au×Sl bi)×(bZ×Int)) krY
def K35:TB:=K34.m 50 (((qJ,(.of [⟨0,2,1,0,0,0⟩,⟨4,8,1,0,0,0⟩])),(⟨(-2),2⟩,0)):(au×Sl bi)×(bZ×Int)) krY
def K36:TB:=K35.m 50 (((qJ,(.of [⟨2,3,1,0,0,1⟩])),(⟨(-1),3⟩,0)):(au×Sl bi)×(bZ×Int)) krY
def K37:TB:=K36.m 50 (((qJ,(.of [⟨2,3,1,0,0,1⟩,⟨4,4,1,0,0,2⟩])),(⟨0,3⟩,0)):(au×Sl bi)×(bZ×Int)) krY
def K38:TB:=K37.m 50 (((qJ,(.of [⟨2,3,1,0,0,1⟩,⟨4,8,1,0,0,0⟩])),(⟨(-1),2⟩,0)):(au×Sl bi)×(bZ×Int)) krY
def K39:TB:=K38.m 50 (((qJ,(.of [⟨4,4,1,0,0,2⟩])),(⟨0,4⟩,0)):(au×Sl bi)×(bZ×Int)) krY
def K40:TB:=K39.m 50 (((qJ,(.of [⟨4,8,1,0,0,0⟩])),(⟨(-2),2⟩,0)):(au×Sl bi)×(bZ×Int)) krY
def K41:TB:=K40.m 50 (((qJ,(.of [⟨1,5,1,0,0,1⟩])),(⟨(-1),3⟩,0)):(au×Sl bi)×(bZ×Int)) krY
def K42:TB:=K41.m 50 (((qJ,(.of [⟨1,5,1,0,0,1⟩,⟨3,5,1,0,0,1⟩])),(⟨(-1),3⟩,0)):(au×Sl bi)×(bZ×Int)) krY
def K43:TB:=K42.m 50 (((qJ,(.of [⟨3,5,1,0,0,1⟩])),(⟨(-1),3⟩,0)):(au×Sl bi)×(bZ×Int)) krY
def K44:TB:=⟨nT aC NK K43.1
 [.f 93 {},
 .f 105 {},
 .f 118 {},
 .f 162 {},
 .f 157 {},
 .f 156 {},
 .f 109 {},
 .f 207 {},
 .f 231 {},
 .f 230 {},
 .f 257 {},
 .f 238 {},
 .f 206 {},
 .f 167 {},
 .f 229 {},
 .i 228 {yl:=[13]},
 .f 197 {},
 .f 209 {},
 .f 172 {}],eG K43.2 krY⟩
def K45:TB:=K44.m 172 (((10,100),(⟨1,10⟩)):(Int×Int)×(aP)) krY
def K46:TB:=K45.m 172 (((2000,100),(⟨20,1⟩)):(Int×Int)×(aP)) krY
def K47:TB:=K46.m 172 (((20,100),(⟨1,5⟩)):(Int×Int)×(aP)) krY
def K48:TB:=K47.m 172 (((0,100),(⟨0,1⟩)):(Int×Int)×(aP)) krY
def K49:TB:=K48.m 172 (((3000,100),(⟨30,1⟩)):(Int×Int)×(aP)) krY
def K50:TB:=K49.m 172 (((20,200),(⟨1,10⟩)):(Int×Int)×(aP)) krY
def K51:TB:=K50.m 172 (((4000,200),(⟨20,1⟩)):(Int×Int)×(aP)) krY
def K52:TB:=K51.m 172 (((30,200),(⟨3,20⟩)):(Int×Int)×(aP)) krY
def K53:TB:=K52.m 172 (((10,200),(⟨1,20⟩)):(Int×Int)×(aP)) krY
def K54:TB:=K53.m 172 (((6000,200),(⟨30,1⟩)):(Int×Int)×(aP)) krY
def K55:TB:=K54.m 172 (((1000,100),(⟨10,1⟩)):(Int×Int)×(aP)) krY
def K56:TB:=K55.m 172 (((4000,100),(⟨40,1⟩)):(Int×Int)×(aP)) krY
def K57:TB:=K56.m 172 (((60,200),(⟨3,10⟩)):(Int×Int)×(aP)) krY
def K58:TB:=K57.m 172 (((70,200),(⟨7,20⟩)):(Int×Int)×(aP)) krY
def K59:TB:=K58.m 172 (((50,200),(⟨1,4⟩)):(Int×Int)×(aP)) krY
def K60:TB:=K59.m 172 (((50,100),(⟨1,2⟩)):(Int×Int)×(aP)) krY
def K61:TB:=K60.m 172 ((((-2000),100),(⟨(-20),1⟩)):(Int×Int)×(aP)) krY
def K62:TB:=K61.m 172 (((60,100),(⟨3,5⟩)):(Int×Int)×(aP)) krY
def K63:TB:=K62.m 172 ((((-3000),100),(⟨(-30),1⟩)):(Int×Int)×(aP)) krY
def K64:TB:=K63.m 172 (((40,100),(⟨2,5⟩)):(Int×Int)×(aP)) krY
def K65:TB:=K64.m 172 ((((-1000),100),(⟨(-10),1⟩)):(Int×Int)×(aP)) krY
def K66:TB:=K65.m 172 (((6000,100),(⟨60,1⟩)):(Int×Int)×(aP)) krY
def K67:TB:=K66.m 172 (((8000,200),(⟨40,1⟩)):(Int×Int)×(aP)) krY
def K68:TB:=K67.m 172 (((10000,200),(⟨50,1⟩)):(Int×Int)×(aP)) krY
def K69:TB:=K68.m 172 (((12000,200),(⟨60,1⟩)):(Int×Int)×(aP)) krY
def K70:TB:=K69.m 172 (((5000,100),(⟨50,1⟩)):(Int×Int)×(aP)) krY
def K71:TB:=K70.m 172 (((4500,100),(⟨45,1⟩)):(Int×Int)×(aP)) krY
def K72:TB:=K71.m 172 ((((-10),100),(⟨(-1),10⟩)):(Int×Int)×(aP)) krY
def K73:TB:=K72.m 172 (((6500,100),(⟨65,1⟩)):(Int×Int)×(aP)) krY
def K74:TB:=⟨nT aC NK K73.1
 [.f 198 {}],eG K73.2 krY⟩
def K75:TB:=K74.m 198 (((⟨10,2000,100⟩),(⟨⟨1,10⟩,⟨20,1⟩⟩)):(straight)×(Line)) krY
def K76:TB:=K75.m 198 (((⟨20,2000,100⟩),(⟨⟨1,5⟩,⟨20,1⟩⟩)):(straight)×(Line)) krY
def K77:TB:=K76.m 198 (((⟨0,3000,100⟩),(⟨⟨0,1⟩,⟨30,1⟩⟩)):(straight)×(Line)) krY
def K78:TB:=K77.m 198 (((⟨10,3000,100⟩),(⟨⟨1,10⟩,⟨30,1⟩⟩)):(straight)×(Line)) krY
def K79:TB:=K78.m 198 (((⟨20,4000,200⟩),(⟨⟨1,10⟩,⟨20,1⟩⟩)):(straight)×(Line)) krY
def K80:TB:=K79.m 198 (((⟨30,4000,200⟩),(⟨⟨3,20⟩,⟨20,1⟩⟩)):(straight)×(Line)) krY
def K81:TB:=K80.m 198 (((⟨10,6000,200⟩),(⟨⟨1,20⟩,⟨30,1⟩⟩)):(straight)×(Line)) krY
def K82:TB:=K81.m 198 (((⟨20,6000,200⟩),(⟨⟨1,10⟩,⟨30,1⟩⟩)):(straight)×(Line)) krY
def K83:TB:=K82.m 198 (((⟨20,1000,100⟩),(⟨⟨1,5⟩,⟨10,1⟩⟩)):(straight)×(Line)) krY
def K84:TB:=K83.m 198 (((⟨0,4000,100⟩),(⟨⟨0,1⟩,⟨40,1⟩⟩)):(straight)×(Line)) krY
def K85:TB:=K84.m 198 (((⟨60,4000,200⟩),(⟨⟨3,10⟩,⟨20,1⟩⟩)):(straight)×(Line)) krY
def K86:TB:=K85.m 198 (((⟨70,4000,200⟩),(⟨⟨7,20⟩,⟨20,1⟩⟩)):(straight)×(Line)) krY
def K87:TB:=K86.m 198 (((⟨50,6000,200⟩),(⟨⟨1,4⟩,⟨30,1⟩⟩)):(straight)×(Line)) krY
def K88:TB:=K87.m 198 (((⟨60,6000,200⟩),(⟨⟨3,10⟩,⟨30,1⟩⟩)):(straight)×(Line)) krY
def K89:TB:=K88.m 198 (((⟨50,(-2000),100⟩),(⟨⟨1,2⟩,⟨(-20),1⟩⟩)):(straight)×(Line)) krY
def K90:TB:=K89.m 198 (((⟨60,(-3000),100⟩),(⟨⟨3,5⟩,⟨(-30),1⟩⟩)):(straight)×(Line)) krY
def K91:TB:=K90.m 198 (((⟨40,0,100⟩),(⟨⟨2,5⟩,⟨0,1⟩⟩)):(straight)×(Line)) krY
def K92:TB:=K91.m 198 (((⟨50,(-1000),100⟩),(⟨⟨1,2⟩,⟨(-10),1⟩⟩)):(straight)×(Line)) krY
def K93:TB:=K92.m 198 (((⟨0,5000,100⟩),(⟨⟨0,1⟩,⟨50,1⟩⟩)):(straight)×(Line)) krY
def K94:TB:=K93.m 198 (((⟨10,4500,100⟩),(⟨⟨1,10⟩,⟨45,1⟩⟩)):(straight)×(Line)) krY
def K95:TB:=K94.m 198 (((⟨(-10),6500,100⟩),(⟨⟨(-1),10⟩,⟨65,1⟩⟩)):(straight)×(Line)) krY
def K96:TB:=K95.m 198 (((⟨0,6000,100⟩),(⟨⟨0,1⟩,⟨60,1⟩⟩)):(straight)×(Line)) krY
def K97:TB:=⟨nT aC NK K96.1
 [.f 199 {},
 .f 158 {vv:=[14]}],eG K96.2 krY⟩
def K98:TB:=K97.m 158 ((((.of [⟨0,20,30⟩])),(⟨⟨.of [⟨0,20,30⟩]⟩,.of []⟩)):(Sl ax)×(set)) krY
def K99:TB:=K98.m 158 ((((.of [⟨0,20,30⟩,⟨100,30,40⟩])),(⟨⟨.of [⟨0,20,30⟩,⟨100,30,40⟩]⟩,.of [⟨10,2000,100⟩,⟨20,2000,100⟩,⟨0,3000,100⟩,⟨10,3000,100⟩]⟩)):(Sl ax)×(set)) krY
def zV9:TB:=K99.m 158 ((((.of [⟨0,20,30⟩,⟨100,30,40⟩,⟨200,40,50⟩])),(⟨⟨.of [⟨0,20,30⟩,⟨100,30,40⟩,⟨200,40,50⟩]⟩,.of [⟨10,2000,100⟩,⟨10,3000,100⟩,⟨30,4000,200⟩,⟨10,6000,200⟩]⟩)):(Sl ax)×(set)) krY
def zWa:TB:=zV9.m 158 ((((.of [⟨0,20,30⟩,⟨100,30,40⟩,⟨200,80,90⟩])),(⟨⟨.of [⟨0,20,30⟩,⟨100,30,40⟩,⟨200,80,90⟩]⟩,.of []⟩)):(Sl ax)×(set)) krY
def zWb:TB:=zWa.m 158 ((((.of [⟨0,20,30⟩,⟨200,40,50⟩])),(⟨⟨.of [⟨0,20,30⟩,⟨200,40,50⟩]⟩,.of [⟨20,4000,200⟩,⟨30,4000,200⟩,⟨10,6000,200⟩,⟨20,6000,200⟩]⟩)):(Sl ax)×(set)) krY
def zWc:TB:=zWb.m 158 ((((.of [⟨0,20,30⟩,⟨200,80,90⟩])),(⟨⟨.of [⟨0,20,30⟩,⟨200,80,90⟩]⟩,.of [⟨60,4000,200⟩,⟨70,4000,200⟩,⟨50,6000,200⟩,⟨60,6000,200⟩]⟩)):(Sl ax)×(set)) krY
def zWd:TB:=zWc.m 158 ((((.of [⟨100,30,40⟩])),(⟨⟨.of [⟨100,30,40⟩]⟩,.of []⟩)):(Sl ax)×(set)) krY
def zWe:TB:=zWd.m 158 ((((.of [⟨100,30,40⟩,⟨200,40,50⟩])),(⟨⟨.of [⟨100,30,40⟩,⟨200,40,50⟩]⟩,.of [⟨10,2000,100⟩,⟨20,1000,100⟩,⟨0,4000,100⟩,⟨10,3000,100⟩]⟩)):(Sl ax)×(set)) krY
def zWf:TB:=zWe.m 158 ((((.of [⟨100,30,40⟩,⟨200,80,90⟩])),(⟨⟨.of [⟨100,30,40⟩,⟨200,80,90⟩]⟩,.of [⟨50,(-2000),100⟩,⟨60,(-3000),100⟩,⟨40,0,100⟩,⟨50,(-1000),100⟩]⟩)):(Sl ax)×(set)) krY
def zWg:TB:=zWf.m 158 ((((.of [⟨200,40,50⟩])),(⟨⟨.of [⟨200,40,50⟩]⟩,.of []⟩)):(Sl ax)×(set)) krY
def zWh:TB:=zWg.m 158 ((((.of [⟨200,80,90⟩])),(⟨⟨.of [⟨200,80,90⟩]⟩,.of []⟩)):(Sl ax)×(set)) krY
def zWi:TB:=zWh.m 158 ((((.of [⟨50,50,60⟩])),(⟨⟨.of [⟨50,50,60⟩]⟩,.of []⟩)):(Sl ax)×(set)) krY
def zWj:TB:=zWi.m 158 ((((.of [⟨50,50,60⟩,⟨150,50,60⟩])),(⟨⟨.of [⟨50,50,60⟩,⟨150,50,60⟩]⟩,.of [⟨0,5000,100⟩,⟨10,4500,100⟩,⟨(-10),6500,100⟩,⟨0,6000,100⟩]⟩)):(Sl ax)×(set)) krY
def zHX:TB:=zWj.m 158 ((((.of [⟨150,50,60⟩])),(⟨⟨.of [⟨150,50,60⟩]⟩,.of []⟩)):(Sl ax)×(set)) krY
def zHY:TB:=⟨nT aC NK zHX.1
 [.f 200 {},
 .f 159 {},
 .f 117 {}],eG zHX.2 krY⟩
def zHZ:TB:=⟨zHY.1.addO 252 (.clone 204 3 24),ay.addO zHY.2 zk6⟩
def zH0:TB:=⟨zHZ.1.addO 253 (.sort 204 3 24),ay.addO zHZ.2 zk4⟩
def zH1:TB:=⟨nT aC NK zH0.1
 [.f 239 {},
 .f 208 {},
 .f 170 {},
 .f 255 {},
 .f 254 {}],eG zH0.2 krY⟩
def zWk:Tabs:=nT aC NK Tabs.nil [.f 239 {},.f 208 {},.f 170 {},.f 209 {},.f 172 {},.f 118 {},.f 162 {},.f 207 {},.f 157 {},.f 231 {},.f 230 {},.f 257 {},.f 238 {},.f 206 {},.f 255 {}]
def zH2:TB:=⟨zH1.1.addC 254 (aF aC NK (gq zWk []) (bP aC 254 [] {}) 254),ay.addC zH1.2 (zh4 (@eG ⟨1⟩ _ _ _ _ (@ay.nil ⟨1⟩ _) krY) (dJ krY))⟩
def zWl:TB:=⟨nT aC NK zH2.1
 [.f 249 {},
 .f 240 {},
 .f 211 {}],eG zH2.2 krY⟩
def zWm:TB:=zWl.m 211 ((((.of [⟨0,20,30⟩])),(⟨⟨0,0⟩,⟨0,0⟩⟩,6)):(Sl ax)×(Line×Int)) krY
def zWn:TB:=zWm.m 211 ((((.of [⟨0,20,30⟩,⟨100,30,40⟩])),(⟨⟨0,1⟩,⟨30,1⟩⟩,0)):(Sl ax)×(Line×Int)) krY
def zWo:TB:=zWn.m 211 ((((.of [⟨0,20,30⟩,⟨100,30,40⟩,⟨200,40,50⟩])),(⟨⟨1,20⟩,⟨30,1⟩⟩,0)):(Sl ax)×(Line×Int)) krY
def zWp:TB:=zWo.m 211 ((((.of [⟨0,20,30⟩,⟨100,30,40⟩,⟨200,80,90⟩])),(⟨⟨0,0⟩,⟨0,0⟩⟩,5)):(Sl ax)×(Line×Int)) krY
def zWq:TB:=zWp.m 211 ((((.of [⟨0,20,30⟩,⟨200,40,50⟩])),(⟨⟨1,20⟩,⟨30,1⟩⟩,0)):(Sl ax)×(Line×Int)) krY
def zWr:TB:=zWq.m 211 ((((.of [⟨0,20,30⟩,⟨200,80,90⟩])),(⟨⟨1,4⟩,⟨30,1⟩⟩,0)):(Sl ax)×(Line×Int)) krY
def zWs:TB:=zWr.m 211 ((((.of [⟨100,30,40⟩])),(⟨⟨0,0⟩,⟨0,0⟩⟩,6)):(Sl ax)×(Line×Int)) krY
def zWt:TB:=zWs.m 211 ((((.of [⟨100,30,40⟩,⟨200,40,50⟩])),(⟨⟨0,1⟩,⟨40,1⟩⟩,0)):(Sl ax)×(Line×Int)) krY
def zWu:TB:=zWt.m 211 ((((.of [⟨100,30,40⟩,⟨200,80,90⟩])),(⟨⟨2,5⟩,⟨0,1⟩⟩,0)):(Sl ax)×(Line×Int)) krY
def zWv:TB:=zWu.m 211 ((((.of [⟨200,40,50⟩])),(⟨⟨0,0⟩,⟨0,0⟩⟩,6)):(Sl ax)×(Line×Int)) krY
def zWw:TB:=zWv.m 211 ((((.of [⟨200,80,90⟩])),(⟨⟨0,0⟩,⟨0,0⟩⟩,6)):(Sl ax)×(Line×Int)) krY
def zWx:TB:=zWw.m 211 ((((.of [⟨50,50,60⟩])),(⟨⟨0,0⟩,⟨0,0⟩⟩,6)):(Sl ax)×(Line×Int)) krY
def zWy:TB:=zWx.m 211 ((((.of [⟨50,50,60⟩,⟨150,50,60⟩])),(⟨⟨(-1),10⟩,⟨65,1⟩⟩,0)):(Sl ax)×(Line×Int)) krY
def zH3:TB:=zWy.m 211 ((((.of [⟨150,50,60⟩])),(⟨⟨0,0⟩,⟨0,0⟩⟩,6)):(Sl ax)×(Line×Int)) krY
def zWz:TB:=⟨nT aC NK zH3.1
 [.f 182 {}],eG zH3.2 krY⟩
def zWA:TB:=zWz.m 182 (((Jo,⟨1,.of [0],.of [0]⟩),true):(Pt aS×af)×(Bool)) krY
def zWB:TB:=zWA.m 182 (((Jo,⟨1,.of [0,1],.of [0,0]⟩),true):(Pt aS×af)×(Bool)) krY
def zWC:TB:=zWB.m 182 (((Jo,⟨1,.of [0,1,2],.of [0,0,0]⟩),true):(Pt aS×af)×(Bool)) krY
def zWD:TB:=zWC.m 182 (((Jo,⟨1,.of [0,1,3],.of [0,0,0]⟩),false):(Pt aS×af)×(Bool)) krY
def zWE:TB:=zWD.m 182 (((Jo,⟨1,.of [0,2],.of [0,0]⟩),true):(Pt aS×af)×(Bool)) krY
def zWF:TB:=zWE.m 182 (((Jo,⟨1,.of [0,3],.of [0,0]⟩),true):(Pt aS×af)×(Bool)) krY
def zWG:TB:=zWF.m 182 (((Jo,⟨1,.of [1],.of [0]⟩),true):(Pt aS×af)×(Bool)) krY
def zWH:TB:=zWG.m 182 (((Jo,⟨1,.of [1,2],.of [0,0]⟩),true):(Pt aS×af)×(Bool)) krY
def zWI:TB:=zWH.m 182 (((Jo,⟨1,.of [1,3],.of [0,0]⟩),true):(Pt aS×af)×(Bool)) krY
def zWJ:TB:=zWI.m 182 (((Jo,⟨1,.of [2],.of [0]⟩),true):(Pt aS×af)×(Bool)) krY
def zWK:TB:=zWJ.m 182 (((Jo,⟨1,.of [3],.of [0]⟩),true):(Pt aS×af)×(Bool)) krY
def zWL:TB:=zWK.m 182 (((Jo,⟨2,.of [4],.of [0]⟩),true):(Pt aS×af)×(Bool)) krY
def zWM:TB:=zWL.m 182 (((Jo,⟨2,.of [4,5],.of [0,0]⟩),true):(Pt aS×af)×(Bool)) krY
def zH4:TB:=zWM.m 182 (((Jo,⟨2,.of [5],.of [0]⟩),true):(Pt aS×af)×(Bool)) krY
def zsm:TB:=⟨nT aC NK zH4.1
 [.r 178 64 {clo:=[180]}],eG zH4.2 krY⟩
def zH5:TB:=⟨zsm.1.addF 127 (aD aC (gq zsm.1 []) NK zbY 177 (bP aC 127 [] {ks:=[(0,3,⟨[],[],[(4,0,5000,43)],[],[],[],[]⟩)]}) 127),ay.addF zsm.2 (zik zsm.2 (dJ krY) zio)⟩
def zWN:TB:=⟨nT aC NK zH5.1
 [.f 120 {},
 .f 203 {},
 .f 202 {},
 .f 169 {},
 .f 171 {},
 .f 168 {},
 .f 119 {},
 .f 163 {},
 .f 114 {},
 .f 236 {},
 .f 237 {},
 .f 205 {},
 .i 204 {yl:=[9]},
 .f 165 {},
 .f 115 {}],eG zH5.2 krY⟩
def zWO:TB:=zWN.m 115 (((qJ,4,⟨30,60⟩),(true,true,0)):(au×Int×bZ)×(Bool×Bool×Int)) krY
def zWP:TB:=zWO.m 115 (((qJ,2,⟨30,40⟩),(true,true,0)):(au×Int×bZ)×(Bool×Bool×Int)) krY
def zWQ:TB:=zWP.m 115 (((qJ,2,⟨50,60⟩),(true,true,0)):(au×Int×bZ)×(Bool×Bool×Int)) krY
def zWR:TB:=zWQ.m 115 (((qJ,0,⟨10,40⟩),(true,true,0)):(au×Int×bZ)×(Bool×Bool×Int)) krY
def zH6:TB:=zWR.m 115 (((qJ,0,⟨(-30),0⟩),(false,true,0)):(au×Int×bZ)×(Bool×Bool×Int)) krY
def zWS:TB:=⟨nT aC NK zH6.1
 [.f 191 {},
 .f 192 {},
 .f 141 {clo:=[190]}],eG zH6.2 krY⟩
def zWT:TB:=zWS.m 141 (((Jo,⟨1,.of [0,1],.of [0,0]⟩),(.of [4])):(Pt aS×af)×(Sl Int)) krY
def zWU:TB:=zWT.m 141 (((Jo,⟨1,.of [0,1,2],.of [0,0,0]⟩),(.of [])):(Pt aS×af)×(Sl Int)) krY
def zWV:TB:=zWU.m 141 (((Jo,⟨1,.of [0,2],.of [0,0]⟩),(.of [2])):(Pt aS×af)×(Sl Int)) krY
def zWW:TB:=zWV.m 141 (((Jo,⟨1,.of [0,3],.of [0,0]⟩),(.of [2])):(Pt aS×af)×(Sl Int)) krY
def zWX:TB:=zWW.m 141 (((Jo,⟨1,.of [1,2],.of [0,0]⟩),(.of [0])):(Pt aS×af)×(Sl Int)) krY
def zWY:TB:=zWX.m 141 (((Jo,⟨1,.of [1,3],.of [0,0]⟩),(.of [])):(Pt aS×af)×(Sl Int)) krY
def zH7:TB:=zWY.m 141 (((Jo,⟨2,.of [4,5],.of [0,0]⟩),(.of [])):(Pt aS×af)×(Sl Int)) krY
def zH8:TB:=⟨nT aC NK zH7.1
 [.f 129 {},
 .f 98 {},
 .f 152 {},
 .f 92 {},
 .f 132 {},
 .f 97 {},
 .f 131 {},
 .f 130 {},
 .k 128 43 3 56 {}],eG zH7.2 krY⟩
def zH9:TB:=⟨zH8.1.addO 133 (.sort 43 3 56),ay.addO zH8.2 zk5⟩
def zIa:TB:=⟨nT aC NK zH9.1
 [.f 185 {},
 .f 222 {},
 .f 186 {},
 .f 187 {},
 .f 134 {}],eG zH9.2 krY⟩
def zWZ:Tabs:=nT aC NK Tabs.nil [.f 185 {},.f 222 {},.f 186 {},.f 239 {},.f 208 {},.f 187 {}]
def zIb:TB:=⟨zIa.1.addC 134 (aF aC NK (gq zWZ []) (bP aC 134 [] {}) 134),ay.addC zIa.2 (zh4 (@eG ⟨1⟩ _ _ _ _ (@ay.nil ⟨1⟩ _) krY) (dJ krY))⟩
def zW0:TB:=⟨nT aC NK zIb.1
 [.f 72 {clo:=[130],cut:=[15],ks:=[(0,6,⟨[],[],[(35,2,5001,43)],[],[],[],[]⟩),(2,15,⟨[],[],[],[],[57,5001],[],[]⟩)]}],eG zIb.2 krY⟩
def zW1:TB:=zW0.m 72 (((qJ,⟨2,0⟩,zA0,(.of [])),(⟨⟨Jo,.of [⟨1,.of [0,1,2],.of [0,0,0]⟩,⟨1,.of [1,3],.of [0,0]⟩,⟨2,.of [4,5],.of [0,0]⟩],.of [⟨1,.of [0,1,2],.of [0,0,0]⟩,⟨1,.of [1,3],.of [0,0]⟩,⟨2,.of [4,5],.of [0,0]⟩]⟩⟩,0)):(au×bC×Sl bi×Sl Bool)×(Pt found×Int)) krY
def zIc:TB:=zW1.m 72 (((qJ,⟨2,0⟩,zA0,(.of [true])),(⟨⟨Jo,.of [⟨1,.of [0,1,2],.of [0,0,0]⟩,⟨1,.of [1,3],.of [0,0]⟩,⟨2,.of [4,5],.of [0,0]⟩],.of [⟨1,.of [0,1,2],.of [0,0,0]⟩,⟨1,.of [1,3],.of [0,0]⟩,⟨2,.of [4,5],.of [0,0]⟩]⟩⟩,0)):(au×bC×Sl bi×Sl Bool)×(Pt found×Int)) krY
def zW2:TB:=⟨nT aC NK zIc.1
 [.f 20 {},
 .f 96 {},
 .f 79 {vv:=[8]},
 .f 110 {},
 .f 49 {},
 .f 80 {},
 .f 81 {},
 .f 82 {},
 .f 83 {},
 .f 142 {},
 .f 84 {},
 .f 25 {}],eG zIc.2 krY⟩
def zId:TB:=zW2.m 25 (((qJ,⟨2,0⟩,zA0,⟨1,.of [0,1],.of [0,0]⟩),(⟨5,.of [],.of [4],⟨0,.of [],.of []⟩⟩,0)):(au×bC×Sl bi×af)×(bK×Int)) krY
def zW3:TB:=⟨nT aC NK zId.1
 [.f 38 {},
 .f 52 {},
 .f 29 {},
 .f 31 {ks:=[(0,16,⟨[],[],[],[],[],[10],[]⟩)],vv:=[41]}],eG zId.2 krY⟩
def zIe:TB:=zW3.m 31 (((qJ,⟨2,0⟩,zA0),((.of [⟨0,2⟩,⟨1,2⟩]),0)):(au×bC×Sl bi)×(Sl zn9×Int)) krY
def zW4:TB:=⟨nT aC NK zIe.1
 [.f 32 {},
 .f 99 {},
 .r 100 64 {},
 .r 101 64 {},
 .f 36 {ks:=[(0,16,⟨[],[],[],[],[1000896],[],[]⟩)],vv:=[73,75]}],eG zIe.2 krY⟩
def zIf:TB:=zW4.m 36 (((qJ,⟨2,0⟩,zA0,1),((.of [0,1]),(.of [0]),0)):(au×bC×Sl bi×Int)×(Sl Int×Sl Int×Int)) krY
def zW5:TB:=⟨nT aC NK zIf.1
 [.f 58 {},
 .f 103 {},
 .f 104 {},
 .f 42 {}],eG zIf.2 krY⟩
def zIg:TB:=zW5.m 42 (((qJ,⟨2,0⟩,zA0,(.of [⟨1,⟨0,1⟩,⟨1,5⟩⟩,⟨1,⟨1,10⟩,⟨1,2⟩⟩])),((.of [⟨1,1⟩,⟨0,2⟩]),0)):(au×bC×Sl bi×Sl Bin)×(Sl Tally×Int)) krY
def zA6:TB:=⟨nT aC NK zIg.1
 [.f 44 {},
 .f 67 {},
 .f 69 {},
 .f 70 {},
 .f 125 {},
 .f 71 {},
 .f 19 {}],eG zIg.2 krY⟩
theorem k19:((gq zA6.1 []).fn 19 []).o=some [.one (.bool true)]:=krY
theorem zW6:ay aC zA6.1:=zA6.2
def N0:Nat:=1000000000
theorem bJ:20000000<N0:=by decide
def D23:=F23 ⟨N0⟩
def zW8:=o23 ⟨N0⟩
def D73:=F73 ⟨N0⟩
def zk8:=o73 ⟨N0⟩
def zA7:=zoh ⟨N0,D73⟩
def zIh:=zQi ⟨N0,D73⟩ zk8
def zA8:=zoi ⟨N0,D73⟩
def zIi:=zQk ⟨N0,D73⟩ zk8
def zA9:=zoc ⟨N0,D73,zA7,zA8⟩
def zIj:=zQc ⟨N0,D73,zA7,zA8⟩ zk8 zIh zIi
def D61:=F61 ⟨N0,D73,zA9⟩
def zXa:=o61 ⟨N0,D73,zA9⟩ zk8 zIj
def D86:=F86 ⟨N0⟩
def zBa:=o86 ⟨N0⟩
def D62:=F62 ⟨N0,D86⟩
def zXc:=o62 ⟨N0,D86⟩ zBa
def zk9:=zoe ⟨N0⟩
def zvc:=zQf ⟨N0⟩
def zBb:=zof ⟨N0,D73,zk9⟩
def zIk:=zQg ⟨N0,D73,zk9⟩ zk8 zvc
def D85:=F85 ⟨N0,zBb⟩
def zXe:=o85 ⟨N0,zBb⟩ zIk
def D26:=F26 ⟨N0,D61,D62,D85⟩
def zXg:=o26 ⟨N0,D61,D62,D85⟩ zXa zXc zXe
def D87:=F87 ⟨N0⟩
def zBd:=o87 ⟨N0⟩
def zBe:=zod ⟨N0⟩
def zIl:=zQe ⟨N0⟩
def D75:=F75 ⟨N0,zBe⟩
def zBf:=o75 ⟨N0,zBe⟩ zIl
def zsn:=zq5 ⟨N0⟩
def zIm:=zTu ⟨N0⟩
def D65:=F65 ⟨N0,D75⟩
def zIn:=o65 ⟨N0,D75⟩ zBf
def ze5:=zpH ⟨N0⟩
def zla:=zSf ⟨N0⟩
def zlb:=zqz ⟨N0⟩
def zve:=zS3 ⟨N0⟩
def zBg:=zrk ⟨N0⟩
def zIo:=zTF ⟨N0⟩
def zlc:=zpj ⟨N0⟩
def zvf:=zRO ⟨N0⟩
def D71:=F71 ⟨N0,zlc⟩
def zBi:=o71 ⟨N0,zlc⟩ zvf
def D55:=F55 ⟨N0,D71⟩
def zXi:=o55 ⟨N0,D71⟩ zBi
def zBj:=zqZ ⟨N0,zBg,D55⟩
def zIp:=zTr ⟨N0,zBg,D55⟩ zIo zXi
def zld:=zp4 ⟨N0⟩
def zvg:=zSA ⟨N0⟩
def zBk:=zpe ⟨N0,zld⟩
def zIq:=zRL ⟨N0,zld⟩ zvg
def D57:=F57 ⟨N0,zBk⟩
def zXk:=o57 ⟨N0,zBk⟩ zIq
def zBl:=zrl ⟨N0,zld⟩
def zIr:=zTG ⟨N0,zld⟩ zvg
def D56:=F56 ⟨N0⟩
def zIt:=o56 ⟨N0⟩
def zBm:=zq2 ⟨N0,zBl,D56⟩
def zIu:=zTt ⟨N0,zBl,D56⟩ zIr zIt
def zle:=zqA ⟨N0,zBj,D57,zBm⟩
def zvh:=zS5 ⟨N0,zBj,D57,zBm⟩ zIp zXk zIu
def zBn:=zpE ⟨N0,ze5,zlb,zle⟩
def zIv:=zR9 ⟨N0,ze5,zlb,zle⟩ zla zve zvh
def zBo:=zpG ⟨N0⟩
def zIw:=zSd ⟨N0⟩
def D74:=F74 ⟨N0⟩
def zXm:=o74 ⟨N0⟩
def zBp:=zpF ⟨N0,D74⟩
def zIx:=zSb ⟨N0,D74⟩ zXm
def D90:=F90 ⟨N0,zBo,zBp⟩
def zXo:=o90 ⟨N0,zBo,zBp⟩ zIw zIx
def ze6:=zqD ⟨N0,D65,zBn,D90⟩
def zvi:=zS8 ⟨N0,D65,zBn,D90⟩ zIn zIv zXo
def zay:Nat→(au×(Sl bi)×af×Int)×Sl af→ae (Sl af)
 | 0=>λ_=>.no
 | n+1=>zqB ⟨N0,D87,D75,zsn,ze6,(zay n)⟩
theorem zvj:∀n,fU aC 195 (.grow 43 3 56 (ae.unW (zay n)))
  | 0=>λw h base az vs v n get m lG hh=>by
    obtain⟨_,h2⟩:=ae.chk_o hh;cases h2
  | n+1=>zS6 ⟨N0,D87,D75,zsn,ze6,(zay n)⟩ zBd zBf zIm zvi (zvj n)
def zBq:=zpO ⟨N0,(zay 30)⟩
def zIy:=zSl ⟨N0,(zay 30)⟩ (zvj 30)
def D76:=F76 ⟨N0,zlc,D71⟩
def zXq:=o76 ⟨N0,zlc,D71⟩ zvf zBi
def zIz:=zpI ⟨N0,ze5,zlb,D71,zle,D76,D56⟩
def zIA:=zSg ⟨N0,ze5,zlb,D71,zle,D76,D56⟩ zla zve zBi zvh zXq zIt
def zIB:=zpL ⟨N0⟩
def zIC:=zSj ⟨N0⟩
def zBr:=zpz ⟨N0⟩
def zID:=zR3 ⟨N0⟩
def D77:=F77 ⟨N0,zBr,zk9⟩
def zXr:=o77 ⟨N0,zBr,zk9⟩ zID zvc
def D91:=F91 ⟨N0,D65,D87,ze5,zIz,zIB,D86,D77⟩
theorem zXs:Ok aC 91 (ae.un D91):=o91 _ zIn zBd zla zIA zIC zBa zXr
def zBs:=zpQ ⟨N0,ze6,D91⟩
def zIE:=zSm ⟨N0,ze6,D91⟩ zvi zXs
def D94:=F94 ⟨N0,zBq,zBs⟩
def zXu:=o94 ⟨N0,zBq,zBs⟩ zIy zIE
def D53:=F53 ⟨N0⟩
def zIF:=o53 ⟨N0⟩
def D38:=F38 ⟨N0⟩
def zIH:=o38 ⟨N0⟩
def zBt:=zpC ⟨N0,D38⟩
def zII:=zR7 ⟨N0,D38⟩ zIH
def D88:=F88 ⟨N0,D94,D53,zBt⟩
def zXw:=o88 ⟨N0,D94,D53,zBt⟩ zXu zIF zII
def D28:=F28 ⟨N0,D88⟩
def zXy:=o28 ⟨N0,D88⟩ zXw
def D17:=F17 ⟨N0,D23,D26,D28⟩
def zXz:=o17 ⟨N0,D23,D26,D28⟩ zW8 zXg zXy
def D19:Unit->ae Bool:=λ_=>.ok true
theorem zXB:Q19 D19:=rfl
theorem zXC:Ok aC 19 (ae.un D19):=λargs rs hr w h0 vs jE hw=>by
 obtain⟨h1,h2⟩:=ae.chk_o hr;cases args with
 | nil =>
  cases ae.ok_o h2;exact(zW6.all []).fn 19 [] _ k19 w h0 vs jE hw
 | cons=>cases h1
def D24:=F24 ⟨N0⟩
def zXD:=o24 ⟨N0⟩
def D34:=F34 ⟨N0⟩
def zXF:=o34 ⟨N0⟩
def D27:=F27 ⟨N0,D34,D86,D75,D87⟩
def zXG:=o27 ⟨N0,D34,D86,D75,D87⟩ zXF zBa zBf zBd
def BP:=zow ⟨N0⟩
def NG:=zQF ⟨N0⟩
def zlf:=zoz ⟨N0,BP⟩
def zvk:=zQI ⟨N0,BP⟩ NG
def zBu:=zoL ⟨N0,BP,zlf⟩
def zIJ:=zQP ⟨N0,BP,zlf⟩ NG zvk
def zBv:=zoG ⟨N0⟩
def zIK:=zQL ⟨N0⟩
def zBw:=zoH ⟨N0,BP⟩
def zIL:=zQM ⟨N0,BP⟩ NG
def zBx:=zoJ ⟨N0⟩
def zIM:=zQN ⟨N0⟩
def zBy:=zoA ⟨N0,BP,zBu,zBv,zBw,zBx⟩
def zIN:=zQK ⟨N0,BP,zBu,zBv,zBw,zBx⟩ NG zIJ zIK zIL zIM
def TM:=zox ⟨N0,zBy,BP⟩
def zc2:=zQG ⟨N0,zBy,BP⟩ zIN NG
def zBz:=zon ⟨N0,TM⟩
def zIO:=zQx ⟨N0,TM⟩ zc2
def zlg:=zop ⟨N0⟩
def zvl:=zQz ⟨N0⟩
def D60:=F60 ⟨N0,zBz,zlg⟩
def zXI:=o60 ⟨N0,zBz,zlg⟩ zIO zvl
def TN:=zou ⟨N0,BP⟩
def zc3:=zQE ⟨N0,BP⟩ NG
def zlh:=zoN ⟨N0,TM,TN⟩
def zvm:=zQR ⟨N0,TM,TN⟩ zc2 zc3
def zBA:=zor ⟨N0,zlh⟩
def zIP:=zQA ⟨N0,zlh⟩ zvm
def zBB:=zoR ⟨N0⟩
def zIQ:=zQT ⟨N0⟩
def zBC:=zx2 ⟨N0⟩
def zIR:=zQW ⟨N0⟩
def zBD:=zoS ⟨N0,zBC⟩
def zIS:=zQU ⟨N0,zBC⟩ zIR
def zBE:=zoP ⟨N0,zBB,zBD⟩
def zIT:=zQS ⟨N0,zBB,zBD⟩ zIQ zIS
def zBF:=zot ⟨N0,zlh,TN,zBE⟩
def zIU:=zQC ⟨N0,zlh,TN,zBE⟩ zvm zc3 zIT
def D78:=F78 ⟨N0,D60,zBA,zBF⟩
def zBG:=o78 ⟨N0,D60,zBA,zBF⟩ zXI zIP zIU
def zli:=zol ⟨N0⟩
def zvn:=zQv ⟨N0⟩
def D96:=F96 ⟨N0⟩
def zXK:=o96 ⟨N0⟩
def D79:=F79 ⟨N0,zlg,zli,D96⟩
def zIV:=o79 ⟨N0,zlg,zli,D96⟩ zvl zvn zXK
def zBH:=zqf ⟨N0⟩
def zIW:=zSJ ⟨N0⟩
def zBI:=zpl ⟨N0,zBH⟩
def zIX:=zRP ⟨N0,zBH⟩ zIW
def zBJ:=zqk ⟨N0⟩
def zIY:=zSO ⟨N0⟩
def zBK:=zqu ⟨N0⟩
def zIZ:=zSW ⟨N0⟩
def Xz:=Ec ⟨N0,zBJ⟩
def ze7:=zjL ⟨N0,zBJ⟩ zIY
def XB:=Ed ⟨N0,zBK⟩
def ze8:=zjN ⟨N0,zBK⟩ zIZ
def ze9:=ae.two Xz XB
theorem zvo:Ok aC 210 (ae.un ze9):=wG ze7 ze8
def XD:=DY ⟨N0,ze9⟩
def zfa:=zjq ⟨N0,ze9⟩ zvo
def XE:=D5 ⟨N0,ze9⟩
def zfb:=zjs ⟨N0,ze9⟩ zvo
def zfc:=ae.two XD XE
theorem zvp:Ok aC 179 (ae.un zfc):=wG zfa zfb
def zBL:=zo6 ⟨N0,TM,TN⟩
def zI0:=o111 ⟨N0,TM,TN⟩ zc2 zc3
def zBM:=zo8 ⟨N0⟩
def zI1:=zRG ⟨N0⟩
def D50:=F50 ⟨N0,zBL,TN,zBM⟩
def zBN:=o50 ⟨N0,zBL,TN,zBM⟩ zI0 zc3 zI1
def D93:=F93 ⟨N0,D50⟩
def zXM:=o93 ⟨N0,D50⟩ zBN
def XF:=zoj ⟨N0⟩
def zc4:=zQr ⟨N0⟩
def TP:=zpU ⟨N0⟩
def zc5 [aH]:=zSr ⟨N0⟩
def zBO:=zpS ⟨N0,TP⟩
def zI2:=zSp ⟨N0,TP⟩ zc5
def zaz:=zo5 ⟨N0,zBO,TP⟩
def zlj:=zRD ⟨N0,zBO,TP⟩ zI2 zc5
def zBP:=zqP ⟨N0⟩
def zI3 [aH]:=zTl ⟨N0⟩
def zBQ:=zrb ⟨N0,TP⟩
def zI4 [aH]:=zTy ⟨N0,TP⟩ zc5
def zBR:=zq9 ⟨N0,zBQ⟩
def zI5 [aH]:=zTx ⟨N0,zBQ⟩ zI4
def zBS:=zrv ⟨N0⟩
def zI6 [aH]:=zTO ⟨N0⟩
def XG:=Ee ⟨N0,zBP⟩
def zfd [aH]:=zjT ⟨N0,zBP⟩ zI3
def XH:=Ef ⟨N0,zBR⟩
def zfe [aH]:=zjV ⟨N0,zBR⟩ zI5
def XI:=Eg ⟨N0,zBS⟩
def zff [aH]:=zjX ⟨N0,zBS⟩ zI6
def XJ:=ae.two XG (ae.two XH XI)
theorem zlk [aH]:Ok aC 238 (ae.un XJ):=wG zfd (wG zfe zff)
def XK:=D7 ⟨N0,XJ⟩
def zfg [aH]:=zjF ⟨N0,XJ⟩ zlk
def XL:=D9 ⟨N0,XJ⟩
def zfh [aH]:=zjH ⟨N0,XJ⟩ zlk
def XM:=Eb ⟨N0,XJ⟩
def zfi [aH]:=zjJ ⟨N0,XJ⟩ zlk
def XN:=ae.two XK (ae.two XL XM)
theorem zll [aH]:Ok aC 206 (ae.un XN):=wG zfg (wG zfh zfi)
def NH:=zp6 ⟨N0,XN⟩
def XO:=zSB ⟨N0,XN⟩ zll
def zBT:=zqS ⟨N0⟩
def zI7 [aH]:=zTn ⟨N0⟩
def NI:=zqe ⟨N0,zBT⟩
def XP [aH]:=zSH ⟨N0,zBT⟩ zI7
def zlm:=zqF ⟨N0,NI⟩
def zvq:=zTb ⟨N0,NI⟩ XP
def zBU:=zqH ⟨N0,XN⟩
def zI8:=zTc ⟨N0,XN⟩ zll
def zBV:=zq7 ⟨N0⟩
def zI9:=zTw ⟨N0⟩
def zBW:=zzk ⟨N0,zBV⟩
def zJa:=zTv ⟨N0,zBV⟩ zI9
def zaA:=zpV ⟨N0,NH,zlm,zBU,zBW⟩
def zln:=zSt ⟨N0,NH,zlm,zBU,zBW⟩ XO zvq zI8 zJa
def zlo:=zqI ⟨N0⟩
def zvr:=zTe ⟨N0⟩
def zaB:=zpY ⟨N0,zlo,NH⟩
def zlp:=zSw ⟨N0,zlo,NH⟩ zvr XO
def zBX:=zpg ⟨N0⟩
def zJb:=zRM ⟨N0⟩
def zBY:=zp0 ⟨N0⟩
def zJc:=zSx ⟨N0⟩
def XQ:=DI ⟨N0,zaz,zaA,zaB,NH,zBX⟩
def zfj:=zi0 ⟨N0,zaz,zaA,zaB,NH,zBX⟩ zlj zln zlp XO zJb
def XR:=DK ⟨N0,zaz,zaA,zaB,NH,zBY⟩
def zfk:=zi2 ⟨N0,zaz,zaA,zaB,NH,zBY⟩ zlj zln zlp XO zJc
def zfl:=ae.two XQ XR
theorem zvs:Ok aC 117 (ae.un zfl):=wG zfj zfk
def zBZ:=zrt ⟨N0,XN⟩
def zJd [aH]:=zTN ⟨N0,XN⟩ zll
def zlq:=zri ⟨N0⟩
def zvt [aH]:=zTD ⟨N0⟩
def zlr:=zqR ⟨N0,zlq⟩
def zvu [aH]:=zTm ⟨N0,zlq⟩ zvt
def zaC:=zqa ⟨N0,zlr⟩
def zls [aH]:=zSD ⟨N0,zlr⟩ zvu
def zB1:=zrp ⟨N0,zBZ,NI,zaC⟩
def zJe [aH]:=zTL ⟨N0,zBZ,NI,zaC⟩ zJd XP zls
def zB2:=zrn ⟨N0,zB1⟩
def zJf:=zTH ⟨N0,zB1⟩ zk6 zk4 (@zJe ⟨1⟩)
def zB3:=zjY ⟨N0,zfl,zB2,zlm⟩
def zJg:=zTE ⟨N0,zfl,zB2,zlm⟩ zvs zJf zvq
def zB4:=zqU ⟨N0,zB3⟩
def zJh:=zTo ⟨N0,zB3⟩ zJg
def zso:=zqm ⟨N0,D93,XF,zB4⟩
def zJi:=zSQ ⟨N0,D93,XF,zB4⟩ zXM zc4 zJh
def zsp:=zxP ⟨N0,zli⟩
def zJj:=zQt ⟨N0,zli⟩ zvn
def zaD:Nat→af×Int×Bc 143 (Pt aS)×Bc 38 Int×Bw 30 43 3 56 af×Bs 255 178 2 4×Unit→ae ((Bool×Int)×(Unit×Unit×(Pt aS)×Int×Sl af×Unit×Unit))
 | 0=>λ_=>.no
 | n+1=>zqh ⟨N0,zfc,zso,zsp,(zaD n)⟩
theorem zvv:∀n,qN aC 178 (ae.unP 254 (zaD n))
  | 0=>λxs ys rs h=>by
    obtain⟨_,h2⟩:=ae.chk_o h;cases h2
  | n+1=>zSL ⟨N0,zfc,zso,zsp,(zaD n)⟩ zvp zJi zJj zax (zvv n)
def zB5:=zpm ⟨N0,(zaD 30)⟩
def zJk:=zRS ⟨N0,(zaD 30)⟩ (zvv 30)
def zB6:=zqM ⟨N0⟩
def zJl:=zTh ⟨N0⟩
def zB7:=zqK ⟨N0,zB6⟩
def zJm:=zTg ⟨N0,zB6⟩ zJl
def zB8:=zp8 ⟨N0,zaC⟩
def zJn:=zSC ⟨N0,zaC⟩ zls
def zB9:=zqc ⟨N0,zaC⟩
def zJo:=zSF ⟨N0,zaC⟩ zls
def XT:=DU ⟨N0,zB8⟩
def zfm:=zjj ⟨N0,zB8⟩ zJn
def XU:=DW ⟨N0,zB9⟩
def zfn:=zjl ⟨N0,zB9⟩ zJo
def zfo:=ae.two XT XU
theorem zvw:Ok aC 168 (ae.un zfo):=wG zfm zfn
def zCa:=zpi ⟨N0⟩
def zJp:=zRN ⟨N0⟩
def XV:=DL ⟨N0,zB7,zfo,NI⟩
def zfp:=zi4 ⟨N0,zB7,zfo,NI⟩ zJm zvw XP
def XW:=DN ⟨N0,zCa,zfo,NI⟩
def zfq:=zi6 ⟨N0,zCa,zfo,NI⟩ zJp zvw XP
def zsq:=ae.two XV XW
theorem zJq:Ok aC 119 (ae.un zsq):=wG zfp zfq
def zCb:=zp2 ⟨N0,NH,zlo,NI,zsq⟩
def zJr:=zSz ⟨N0,NH,zlo,NI,zsq⟩ XO zvr XP zJq
def zsr:=zpa ⟨N0,TP,zfl,zCb⟩
def zvx:=zRI ⟨N0,TP,zfl,zCb⟩ zc5 zvs zJr
def zss:=zqw ⟨N0⟩
def zvy:=zSY ⟨N0⟩
def zJs:=zqy ⟨N0,zss⟩
def zJt:=zS1 ⟨N0,zss⟩ zvy
def zCc:=zre ⟨N0,zlq⟩
def zJu:=zTA ⟨N0,zlq⟩ zvt
def zCd:=zrg ⟨N0⟩
def zJv:=zTB ⟨N0⟩
def zCe:=zqN ⟨N0,zCc,zCd⟩
def zJw:=zTk ⟨N0,zCc,zCd⟩ zJu zJv
def zCf:=zza ⟨N0,zCe⟩
def zJx:=zTi ⟨N0,zCe⟩ zJw
def zst:=zpb ⟨N0,TM,BP,zlf,zCf⟩
def zvz:=zRJ ⟨N0,TM,BP,zlf,zCf⟩ zc2 NG zvk zJx
def zfr:=zpA ⟨N0,XF,zfc,zsr,zss,zJs,zst⟩
theorem zvA:Ok aC 141 (ae.un zfr):=zR5 _ zc4 zvp zvx zvy zJt zvz
def zCg:=zpo ⟨N0,zfr⟩
def zJy:=zRT ⟨N0,zfr⟩ zvA
def zCh:=zpM ⟨N0⟩
def zJz:=zSk ⟨N0⟩
def D92:=F92 ⟨N0,zCh⟩
def zJB:=o92 ⟨N0,zCh⟩ zJz
def zCi:=zpu ⟨N0,D92⟩
def zJC:=zRZ ⟨N0,D92⟩ zJB
def D97:=F97 ⟨N0,zCi⟩
def zXO:=o97 ⟨N0,zCi⟩ zJC
def zCj:=zps ⟨N0,D97⟩
def zJD:=zRX ⟨N0,D97⟩ zXO
def zCk:=zpq ⟨N0,zCj⟩
def zJE:=zRV ⟨N0,zCj⟩ zJD
def XX:=DR ⟨N0,zCg⟩
def zfs:=zi9 ⟨N0,zCg⟩ zJy
def XY:=DT ⟨N0,zCk⟩
def zft:=zjb ⟨N0,zCk⟩ zJE
def zsu:=ae.two XX XY
theorem zJF:fU aC 128 (.mkv 43 3 56 (ae.unV zsu)):=zn3 zfs zft
def zCl:=zqW ⟨N0⟩
def zJG [aH]:=zTp ⟨N0⟩
def zCm:=zqp ⟨N0,zCl⟩
def zJH [aH]:=zSU ⟨N0,zCl⟩ zJG
def zCn:=zqr ⟨N0,zlr⟩
def zJI [aH]:=zSV ⟨N0,zlr⟩ zvu
def zCo:=zqn ⟨N0⟩
def zJJ [aH]:=zSS ⟨N0⟩
def zCp:=zpw ⟨N0,zCm,zCn,zCo⟩
def zJK [aH]:=zR1 ⟨N0,zCm,zCn,zCo⟩ zJH zJI zJJ
def D72:=F72 ⟨N0,D78,zBI,zB5,zsu,zCp⟩
def zJL:=o72 ⟨N0,D78,zBI,zB5,zsu,zCp⟩ zBG zIX zJk zJF zk5 (@zJK ⟨1⟩)
def zCq:=zsc ⟨N0,zaA,zaB⟩
def zJM:=zVD ⟨N0,zaA,zaB⟩ zln zlp
def D49:=F49 ⟨N0,zaz,zCq⟩
def zJN:=o49 ⟨N0,zaz,zCq⟩ zlj zJM
def D80:=F80 ⟨N0,XF,D49⟩
def zXP:=o80 ⟨N0,XF,D49⟩ zc4 zJN
def D81:=F81 ⟨N0,D50⟩
def zXQ:=o81 ⟨N0,D50⟩ zBN
def D82:=F82 ⟨N0⟩
def zXR:=o82 ⟨N0⟩
def D83:=F83 ⟨N0,zfr⟩
def zXS:=o83 ⟨N0,zfr⟩ zvA
def zCr:=zsi ⟨N0⟩
def zJO:=zVM ⟨N0⟩ zax
def D84:=F84 ⟨N0,D92,zCr⟩
def zXT:=o84 ⟨N0,D92,zCr⟩ zJB zJO
def D25:=F25 ⟨N0,D78,D79,D72,D80,D81,D82,D83,D84⟩
theorem zXV:Ok aC 25 (ae.un D25):=o25 _ zBG zIV zJL zXP zXQ zXR zXS zXT
def D20:=F20 ⟨N0,D72⟩
def zXW:=o20 ⟨N0,D72⟩ zJL
def zCs:=zob ⟨N0⟩
def zJP:=zQa ⟨N0⟩
def D47:=F47 ⟨N0,zCs,D78,D79,XF⟩
def zXX:=o47 ⟨N0,zCs,D78,D79,XF⟩ zJP zBG zIV zc4
def D48:=F48 ⟨N0⟩
def zXY:=o48 ⟨N0⟩
def D51:=F51 ⟨N0,zsr,zst⟩
def zXZ:=o51 ⟨N0,zsr,zst⟩ zvx zvz
def D52:=F52 ⟨N0,D38⟩
def zJQ:=o52 ⟨N0,D38⟩ zIH
def D54:=F54 ⟨N0,D52⟩
def zX0:=o54 ⟨N0,D52⟩ zJQ
def D12:=F12 ⟨N0,D17,D19,D24,D27,D25,D20,D47,D48,D50,D51,D52,D53,D54,D49⟩
theorem zX1:Ok aC 12 (ae.un D12):=o12 _ zXz zXC zXD zXG zXV zXW zXX zXY zBN zXZ zJQ zIF zX0 zJN
theorem zX2:Q23 D23:=s23 bJ
theorem zlt:BB D73:=s73
theorem zJR:zx3 zA7:=zQZ zlt
theorem zJS:zx4 zA8:=zQ0 bJ zlt
theorem zJT:zx5 zA9:=zQ1 bJ zlt zJR zJS
theorem zX3:QSe D61:=s61 bJ zlt zJT
theorem zCt:BB D86:=s86
theorem zX4:Q62 D62:=s62 zCt
theorem zvB:zoW zk9:=zRa bJ
theorem zJU:zya zBb:=zRb bJ zlt zvB
theorem zX5:Q85 D85:=s85 bJ zJU
theorem zX6:Q26 D26:=s26 zX3 zX4 zX5
theorem zCu:Q87 D87:=s87 bJ
theorem zJV:zyc zBe:=zRf bJ
theorem zCv:Q75 D75:=s75 zJV
theorem zJW:zAm zsn:=zUW
theorem zJX:Q65 D65:=s65 bJ zCv
theorem zlu:zkq ze5:=zUn bJ
theorem zvC:zrH zlb:=zUo bJ
theorem zJY:zzM zBg:=zUs
theorem zvD:zaa zlc:=zTQ bJ
theorem zCw:IA D71:=s71 zvD
theorem zX7:Q55 D55:=s55 zCw
theorem zJZ:zzY zBj:=zUv bJ zJY zX7
theorem zvE:zrI zld:=zUp
theorem zJ0:zzL zBk:=zUq zvE
theorem zX8:Q57 D57:=s57 bJ zJ0
theorem zJ1:zzZ zBl:=zUw bJ zvE
theorem zJ2:Q56 D56:=s56
theorem zJ3:zz0 zBm:=zUx zJ1 zJ2
theorem zvF:zrQ zle:=zUy bJ zJZ zX8 zJ3
theorem zJ4:zz1 zBn:=zUz zlu zvC zvF
theorem zJ5:zAg zBo:=zUO bJ
theorem zX9:Q74 D74:=s74
theorem zJ6:zAd zBp:=zUL bJ zX9
theorem zYa:Q90 D90:=s90 zJ5 zJ6
theorem zvG:zrV ze6:=zUR zJX zJ4 zYa
theorem zvH:∀n,QW n (zay n)
  | 0=>λs l x t c i w he hv hc ht hf=>absurd hf (by have:=hv.le;omega)
  | n+1=>zUX (E:=⟨N0,D87,D75,zsn,ze6,(zay n)⟩) bJ zCu zCv zJW zvG (zvH n)
theorem zJ7:zAn zBq:=zUY (zvH 30)
theorem zYb:Q76 D76:=s76 zvD zCw
theorem zJ8:zAN zIz:=zVr bJ zlu zvC zCw zvF zYb zJ2
theorem zJ9:zAO zIB:=zVs
theorem zKa:zAP zBr:=zVt
theorem zYc:Q77 D77:=s77 bJ zKa zvB
theorem zYd:Q91 D91:=s91 bJ zJX zCu zlu zJ8 zJ9 zCt zYc
theorem zKb:zAQ zBs:=zVw zvG zYd
theorem zYe:Q94 D94:=s94 bJ zJ7 zKb
theorem zKc:Q53 D53:=s53 bJ
theorem zKd:zar D38:=s38 bJ
theorem zKe:zAR zBt:=zVx zKd
theorem zYf:Q88 D88:=s88 bJ zYe zKc zKe
theorem zYg:Q28 D28:=s28 zYf
theorem zYh:Q17 D17:=s17 zX2 zX6 zYg
theorem zYi:Q24 D24:=s24
theorem zYj:QVw D34:=s34
theorem zYk:QCh D27:=s27 bJ zYj zCt zCv zCu
theorem NJ:BB BP:=zQY
theorem zvI:zoV zlf:=zQ2 NJ
theorem zKf:zx6 zBu:=zQ3 NJ zvI
theorem zKg:zes zBv:=zQ4
theorem zKh:zx7 zBw:=zQ6 bJ NJ
theorem zKi:zes zBx:=zQ5
theorem zKj:zx8 zBy:=zQ7 bJ NJ zKf zKg zKh zKi
theorem zc6:QSe TM:=zQ8 bJ zKj NJ
theorem zKk:zx9 zBz:=zQ9 zc6
theorem zvJ:BB zlg:=zQX
theorem zYl:Q60 D60:=s60 zKk zvJ
theorem zc7:zet TN:=zRc bJ NJ
theorem zvK:zoX zlh:=zRd zc6 zc7
theorem zKl:zyb zBA:=zRe zvK
theorem zKm:zyf zBB:=zRj
theorem zKn:zyd zBC:=zRg bJ
theorem zKo:zye zBD:=zRh bJ zKn
theorem zKp:zyg zBE:=zRk zKm zKo
theorem zKq:zyh zBF:=zRl zvK zc7 zKp
theorem zCx:Q78 D78:=s78 bJ zYl zKl zKq
theorem zvL:zo0 zli:=zRq
theorem zYm:QVw D96:=s96
theorem zKr:Q79 D79:=s79 bJ zvJ zvL zYm
theorem zKs:zAI zBH:=zVm bJ
theorem zKt:zAJ zBI:=zVn zKs
theorem zKu:zAi zBJ:=zUS
theorem zfu:QUx .inl Xz:=zkF bJ zKu
theorem zKv:zAj zBK:=zUT
theorem zfv:QUx .inr XB:=zkG bJ zKv
theorem zvM:zrX ze9:=zUU zfu zfv
theorem zfw:QUa .inl XD:=zkH zvM
theorem zfx:QUa .inr XE:=zkI zvM
theorem zvN:zrY zfc:=zUV zfw zfx
theorem zKw:zAe zBL:=zUM bJ zc6 zc7
theorem zKx:zAc zBM:=zUJ
theorem zCy:Q50 D50:=s50 bJ zKw zc7 zKx
theorem zYn:Q93 D93:=s93 bJ zCy
theorem zc8:zeu XF:=zRr bJ
theorem zc9:BB TP:=zTS
theorem zKz:zzs zBO:=zTV zc9
theorem zlv:zj3 zaz:=zTW bJ zKz zc9
theorem zKA:zzw zBP:=zT0
theorem zfy:QIx .inl XG:=zj6 bJ zKA
theorem zKB:zzt zBQ:=zTX zc9
theorem zKC:zzu zBR:=zTY zKB
theorem zfz:QIx (λc=>.inr (.inl c)) XH:=zj7 bJ zKC
theorem zKD:zzv zBS:=zTZ
theorem zfA:QIx (λc=>.inr (.inr c)) XI:=zj8 bJ zKD
theorem zlw:zj5 XJ:=zT1 zfy zfz zfA
theorem zfB:Ox .inl XK:=zj9 zlw
theorem zfC:Ox (λc=>.inr (.inl c)) XL:=zka zlw
theorem zfD:Ox (λc=>.inr (.inr c)) XM:=zkb zlw
theorem zlx:WX XN:=zT2 zfB zfC zfD
theorem XZ:zab NH:=zT3 zlx
theorem zKE:zzq zBV:=zTT
theorem zKF:zzr zBW:=zTU bJ zKE
theorem zKG:zaa zBT:=zTP bJ
theorem X0:IA NI:=zTR zKG
theorem zvO:zrz zlm:=zT7 X0
theorem zKH:zzx zBU:=zT4 zlx
theorem zly:zke zaA:=zT8 XZ zKF zvO zKH
theorem zvP:zry zlo:=zT6 bJ
theorem zlz:zkf zaB:=zT9 zvP XZ
theorem zKI:zzA zBX:=zUa
theorem zfE:QOp .inl XQ:=zkg zlv zly zlz XZ zKI
theorem zKJ:zzB zBY:=zUb
theorem zfF:QOp .inr XR:=zkh zlv zly zlz XZ zKJ
theorem zvQ:zrB zfl:=zUd zfE zfF
theorem zKK:zzy zBZ:=zT5 zlx
theorem zvR:zrE zlq:=zUe
theorem zvS:zae zlr:=zUf zvR
theorem zlA:zkk zaC:=zUh zvS
theorem zKL:zzG zB1:=zUi zKK X0 zlA
theorem zKM:zzH zB2:=zUj zKL
theorem zKN:zzI zB3:=zUl bJ zvQ zKM zvO
theorem zKO:zzJ zB4:=zUm zKN
theorem zKP:zAh zso:=zUQ zYn zc8 zKO
theorem zKQ:zyk zsp:=zRx bJ zvL
theorem zlB:∀n,QMp n (zaD n)
  | 0=>λs l r x t c i w he hv hc ht hf=>absurd hf (by have:=hv.le;omega)
  | n+1=>zHD (E:=⟨N0,zfc,zso,zsp,(zaD n)⟩) zvN zKP zKQ (zlB n)
theorem zCz:zkL zB5:=zHE (zlB 30)
theorem zKR:zz2 zB6:=zUA
theorem zKS:zz3 zB7:=zUB zKR
theorem zKT:zz4 zB8:=zUC zlA
theorem zfG:QEx .inl XT:=zkA bJ zKT
theorem zKU:zz5 zB9:=zUD zlA
theorem zfH:QEx .inr XU:=zkB bJ zKU
theorem zvT:zrR zfo:=zUE zfG zfH
theorem zfI:QBd .inl XV:=zkC bJ zKS zvT X0
theorem zKV:zz8 zCa:=zUF
theorem zfJ:QBd .inr XW:=zkD bJ zKV zvT X0
theorem zKW:zAa zsq:=zUG zfI zfJ
theorem zKX:zAb zCb:=zUH XZ zvP X0 zKW
theorem zvU:zrS zsr:=zUI zc9 zvQ zKX
theorem zvV:zr5 zss:=zU6
theorem zKY:zAu zJs:=zU7 zvV
theorem zKZ:zAp zCc:=zU0 zvR
theorem zK1:zAo zCd:=zUZ
theorem zK2:zAr zCe:=zU1 bJ zKZ zK1
theorem zK3:zAs zCf:=zU3 bJ zK2
theorem zvW:zr4 zst:=zU5 zc6 NJ zvI zK3
theorem zvX:zr7 zfr:=zU8 bJ zc8 zvN zvU zvV zKY zvW
theorem zK4:zAx zCg:=zU9 zvX
theorem zfK:QFi .inl XX:=zkQ bJ zK4
theorem zK5:zAy zCh:=zVa bJ
theorem zK6:Q92 D92:=s92 bJ zK5
theorem zK7:zAz zCi:=zVb zK6
theorem zYo:Q97 D97:=s97 bJ zK7
theorem zK8:zAA zCj:=zVd zYo
theorem zK9:zAB zCk:=zVe zK8
theorem zfL:QFi .inr XY:=zkR bJ zK9
theorem zLa:zAD zsu:=zVf zfK zfL
theorem zLb:zAE zCl:=zVg
theorem zLc:zae zCm:=zVh zLb
theorem zLd:zar zCn:=zVi bJ zvS
theorem zLe:zAG zCo:=zVj bJ
theorem zLf:zAH zCp:=zVk zLc zLd zLe
theorem zLg:Q72 D72:=s72 zCx zKt (zr0 zCz) zLa zLf
theorem zLh:zAT zCq:=zVG bJ zly zlz
theorem zLi:Q49 D49:=s49 bJ zlv zLh
theorem zYp:Q80 D80:=s80 bJ zc8 zLi
theorem zYq:Q81 D81:=s81 bJ zCy
theorem zYr:Q82 D82:=s82
theorem zYs:Q83 D83:=s83 zvX
theorem zLj:zAZ zCr:=zVU
theorem zYt:Q84 D84:=s84 bJ zK6 zLj
theorem zYu:Q25 D25:=s25 zCx zKr zLg zYp zYq zYr zYs zYt
theorem zYv:Q20 D20:=s20 zLg
theorem zLk:zyi zCs:=zRs
theorem zYw:Q47 D47:=s47 zLk zCx zKr zc8
theorem zYx:Q48 D48:=s48 bJ
theorem zYy:Q51 D51:=s51 bJ zvU zvW
theorem zLl:Q52 D52:=s52 zKd
theorem zYz:Q54 D54:=s54 bJ zLl
theorem zYA:Q12 D12:=s12 bJ zYh zXB zYi zYk zYu zYv zYw zYx zCy zYy zLl zKc zYz zLi
theorem zYB{δ ρ:Type}[dE δ][dE ρ]{F:δ->ae ρ}{a:δ}{r:ρ}(hc:dE.ck (α:=δ) (dE.enc a)=true)(hd:dE.dec (dE.enc a)=a)(h:F a=.ok r):(ae.un F (dE.enc a)).o=some (dE.enc r):=by
 unfold ae.un;rw[hc,hd,h];rfl
end Go.Proofs
namespace Go.Proofs.YtjkijdhdbhooiaaGreat
open Go.Pm (kz)
set_option maxRecDepth 100000
def dc:Nat→Nat→List Char|0,_=>[]|k+1,n=>Char.ofNat (n%128)::dc k (n/128)
def ioR:List (List Char):=[dc 2 14945,dc 35 45019731839301669745199096094014757347713743838262223150477152386253683567,dc 34 420377978748125055740877229337914779690535202023532228586777341826005871,dc 36 6550971710285934913754052784167232504664614938228495552548125985273808517999,dc 37 729461727561750118551056160028214191605660185564422184735309847620634057210735,dc 37 830772752598413053766828580736873493486916948856955428203985110704856283839343,dc 37 846039670449084468774387244088358248202427724899131661281249209823569867537263,dc 35 51179294023049743501667742572912222775214732381401055866039370168307121007,dc 35 45009296865569399087797946188323693179256993798839364341239407728733551471,dc 37 830780268438003779521215029671213750534782202343527674838098051362097095867247,dc 38 107331119686939743456630664922862568562027744964707129139922504835010957783169903,dc 36 6550077393460720109370983476171913501904522994409179701070095258754267839343,dc 35 48939868791262458989610581110577656928740303271215203627173391395041409903,dc 37 838349406564167396116242431067385471964016398604997842927764345145510690650991,dc 37 838349393033854787123352198492273111221406595137993776056015629414144918780783]
def ioN:List Char:=dc 599 149771092015852491278000662115128137748269599194581860494294778261301651447965370062645304741743729477171988600934799727326517975522812478602000462062741437383719700469441320225746001460657778919864702789185877727655633384756976915120483667267389003774318074344898749855352565971438052119468579606834274369754786466833197740569138863177439610707078849369185453345527529660045569842755503891534211525146045868530953689090964949867816695296345068916719713389224171554417522039179151544735265211004436216097918169509036553218766076260083794299680425243321104884652801756935939016856612808890681403713245564864003766772582403997404693715256366145143767382394449050497631406600169134111017758420705379181155399036702826495772349138224361597591141153214596847427732622443000331392581117708063194127217598752738628016573330186096707239904130243791293223266344009164320459711360917953739697093488615153066332379337541176729581439867139231308816545570621442575900426155419574959597509166851618974720944858788987333755451277637880095378589630688375170213056367090535571658338605777263539845461211124236505614769845380929544309814139208243656161387198222242061066521483984326294839656717673867435632142724742576645662295495695963786797012817486377421718128934313825440411880
theorem ioS:Tryz.prog.initOrder=String.ofList ioN:=by kernel_rfl
theorem ioL:Tryz.prog.initOrder.toList=ioN:=(kz String.toList ioS).trans String.toList_ofList
theorem ioW:wordsSigns Tryz.prog.initOrder.toList=(dc 7 509754063237352)::(dc 64 572163061260696105970074307196347989822506933787247010369012457204266251338368704666046318255463753418979972205211827874765770452792118)::(dc 3 1915619)::ioR:=(kz wordsSigns ioL).trans (by kernel_rfl)
theorem ioB:behindMainWord (wordsSigns Tryz.prog.initOrder.toList)=(dc 3 1915619)::ioR:=(kz behindMainWord ioW).trans (by kernel_rfl)
theorem TQ {P : Program} {l : List (List Char)} (h : behindMainWord (wordsSigns P.initOrder.toList) = l) : P.headLifts = (if (stripLifts liftWords l).2.head? == some "cut".toList then (stripLifts liftWords l).1 else []) := by subst h; rfl
theorem zsv{P:Program}{rest:List (List Char)}(h:behindMainWord (wordsSigns P.initOrder.toList)=(dc 3 1915619)::rest):P.make=some .cut:=by unfold Program.make;rw[h];rfl
theorem zlC{P:Program}{rest:List (List Char)}(h:behindMainWord (wordsSigns P.initOrder.toList)=(dc 3 1915619)::rest)(hl:P.headLifts=[]):P.liftsFinal=false:=by unfold Program.liftsFinal;rw[h,hl];rfl
theorem zlD {P : Program} {c : List Char} {rest : List (List Char)} (h : behindMainWord (wordsSigns P.initOrder.toList) = c :: rest) (Ih : (stripLifts liftWords (c :: rest)).2.head? = some "cut".toList)
    (hs1:(stripLifts liftWords (c::rest)).1=[]) (zYC:P.laysLater=false) (hb:P.bearsReflect=false) (hd:P.doorFits []=true):P.mayEnter=true:=by
  unfold Program.mayEnter;rw[h];simp[Ih,hs1,zYC,hb,hd]
theorem ioH:Tryz.prog.headLifts=[]:=(TQ ioB).trans (by kernel_rfl)
theorem ioK:Tryz.prog.make=some .cut:=zsv ioB
theorem ioF:Tryz.prog.liftsFinal=false:=zlC ioB ioH
theorem ioE:Tryz.prog.mayEnter=true:=zlD ioB (by kernel_rfl) (by kernel_rfl) (by kernel_rfl) (by kernel_rfl) (by kernel_rfl)
end Go.Proofs.YtjkijdhdbhooiaaGreat
