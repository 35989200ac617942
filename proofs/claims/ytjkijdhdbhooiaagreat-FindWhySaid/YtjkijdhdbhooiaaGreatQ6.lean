/- Part 6: framework, functions, plain laws. -/
import Derived.Test.YtjkijdhdbhooiaaGreatQ5
import Derived.Shelf.SlSortCmp.NoneTotal
import Derived.Shelf.SlicesE.Clone
import Derived.Shelf.SlLaysF0
import Derived.Test.YtjkijdhdbhooiaaGreatProg
import Derived.Shelf.SlLaysE0
import Derived.Test.YtjkijdhdbhooiaaGreatRows
import Derived.WalkKit
import Derived.OpenShut
import Derived.ChangeOld
import Derived.ProofKit
set_option linter.all false
noncomputable section
namespace Go.Proofs
open Go Go.Pm
set_option maxRecDepth 100000
theorem zJN{p:ai}{h:bg}:∀i,i<(gaP p h).len->((gaP p h).get i).Z=p.Z:=by
 have key:∀(a b c:Bool)(x y z w:Sl au),(∀i,i<x.len->(x.get i).Z=p.Z)->(∀i,i<y.len->(y.get i).Z=p.Z)->(∀i,i<z.len->(z.get i).Z=p.Z)->(∀i,i<w.len->(w.get i).Z=p.Z) ->
   ∀i,i<(cond a (cond b x y) (cond c z w)).len->((cond a (cond b x y) (cond c z w)).get i).Z=p.Z:=by
  intro a b c x y z w h1 h2 h3 h4;cases a<;>cases b<;>cases c<;>assumption
 unfold gaP;exact key _ _ _ _ _ _ _ (λi hi=>absurd hi (RP i)) (λ_ _=>rfl) (λ_ _=>rfl) (λi hi=>by
  match i,hi with|0,_=>exact(rfl:(gate p _ _).Z=p.Z)|1,_=>exact(rfl:(gate p _ _).Z=p.Z))
theorem zJO{s:ak}(h:fD s=true):∀j,j<s.aj.len->∀i,i<j->(s.aj.get i).Z<(s.aj.get j).Z:=by
 simp only[fD,gq,dm]at h;have step:∀j,j+1<s.aj.len->(s.aj.get j).Z<(s.aj.get (j+1)).Z:=λj hj=>by
  have:=h.2 (j+1) hj;simp only[seB,gq,VE,lQ,qjz]at this;exact this.2.resolve_left omY
 intro j
 induction j with
 | zero=>intro _ i hi;omega
 | succ j ih =>
  intro hj i hi;have:=step j hj;by_cases e:i=j;rw[e];exact this;have:=ih omY i omY;omega
theorem ztU{s:ak}{l:Sl bg}{x:Int}{c:iT}{j i:Nat}(he:Evt s l)(h24:l.len<=24)(hv:Val s l x c j)(ne:c≠[])(so:eH (nR s l c)=true)(hf:fP (nR s l c)=true)(hi:i<s.aj.len)(hu:usP l c i=false):atB (nR s l c) (s.aj.get i)=false:=by
 have G:=CB he h24 hv ne;have hl:=qj6.2 ne;have m:=hv.mem c[0] (RN hl);have hle:=hv.le;have pl:=he.pl (i:=(c[0]).1.toNat) omY;have z0':((nR s l c).get 0).Z=(s.aj.get (l.get (c[0]).1.toNat).ai.toNat).Z:=by
  rw[U5 hl];exact zJN _ (by have:=m.2.2;unfold vT at this;show _<(vS s (l.get (c[0]).1.toNat)).len;omega)
 have nz:((nR s l c).get 0).Z≠(s.aj.get i).Z:=λe=>by
  rw[z0']at e;unfold usP at hu;rw[qdI]at hu;have ne:=hu c[0] (RN hl);have ne:(l.get (c[0]).1.toNat).ai≠(i:Int):=by simpa using ne
  rcases qdv (l.get (c[0]).1.toNat).ai.toNat i with h|h|h
  have:=zJO he.se i hi _ h;omega;omega;have:=zJO he.se _ omY i h;omega
 have o:(CW (nR s l c) (((nR s l c).get 0).Z==(s.aj.get i).Z)).2=6:=by
  unfold CW;rw[kE.2 G,so,hf,show(((nR s l c).get 0).Z==(s.aj.get i).Z)=false by simpa using nz];rfl
 unfold atB atB.opn';rw[o];rfl
abbrev ztV(C:ak×Sl bg×af->ae (Sl Int)):Prop:=∀s l t,xX s l t->∃w:Sl Int,C (s,l,t)=.ok w/\ls w=uO s l t.View (dM t)
theorem zXY{E:E91}(N:Big E.N)(h65:Q65 E.c65)(h87:Q87 E.c87)(NF:zly E.Fq)(zz3:zmd E.zum)(zqw:zme E.Zi)(h86:BV E.Zj)(h77:Q77 E.c77):ztV (F91 E):=λs l t ha=>by
 obtain⟨j,hv⟩:=ha.vl;have he:=ha.ev;have hl:=pG rfl hv;have h24:=he.l24;have G:=CB he.toEvt he.l24 hv ha.ne;have hG:=G.2;have hp:=oU he.se;have so:eH (nR s l (dM t))=true:=by
  have:=ha.ag;unfold zI at this;rw[gq]at this;exact this.2
 have key:∀(m i n:Nat)(w:Sl Int),i+m=s.aj.len->m<n->w.len<=i->∃w':Sl Int,(∀(A:Type)(k:Sl Int->Option A),pW E n s l t (nR s l (dM t)) (i:Int) w k=k w')/\ls w'=ls w++((List.range' i m).filter (UW s l t.View (dM t))).map Int.ofNat:=by
  intro m
  induction m with
  | zero =>
   intro i n w hi hn hw;obtain⟨n,rfl⟩:∃n',n=n'+1:=⟨n-1,omY⟩;exact⟨w,λA k=>by rw[zv6,dR omY];rfl,by simp⟩
  | succ m ih =>
   intro i n w hi hn hw;obtain⟨n,rfl⟩:∃n',n=n'+1:=⟨n-1,omY⟩;have Jk:=xA he.se (i:=i) omY;have hz:=zwm Jk;rw[ZJ];have us:(!Ub l t.Hits t.Hits.len (i:Int))=usP l (dM t) i:=by
    have:=zdL (l:=l) (t:=t) (c:=dM t) rfl λh=>(l.get h.toNat).ai==(i:Int);unfold usP;rw[<- this];unfold Ub;congr 1
   have st:∀(A:Type)(k:Sl Int->Option A),pW E (n+1) s l t (nR s l (dM t)) (i:Int) w k=cond (UW s l t.View (dM t) i) (pW E n s l t (nR s l (dM t)) ((i+1:Nat):Int) (qB w (i:Int)) k) (pW E n s l t (nR s l (dM t)) ((i+1:Nat):Int) w k):=λA k=>by
    rw[zv6,dC omY,dO,bu omY,gm,bD omY];unfold UW;cases(s.aj.get i).View != t.View with
    | true=>rfl
    | false =>
     simp only[dN];rw[h87 l t.Hits _ omY (Hl rfl hv),aY,us];cases hu:usP l (dM t) i with
     | true=>rfl
     | false =>
      simp only[dN];rw[NF _ omY omY,aY];cases hf:fP (nR s l (dM t))with
      | true=>rw[ztU he.toEvt he.l24 hv ha.ne so hf omY hu];rfl
      | false =>
       simp only[dN];have hco:0<(jI (nR s l (dM t))).length:=by
        have:=so;unfold eH at this;rw[hf,dN,lQ]at this;omega
       have ho:(CW (nR s l (dM t)) (((nR s l (dM t)).get 0).Z==(s.aj.get i).Z)).2=0:=by
        unfold CW;rw[kE.2 G,so,hf];rfl
       obtain⟨a,b,e1,⟨⟨ta,ca,ea⟩,ma⟩,⟨tb,cb,eb⟩,mb⟩:=zz3 _ _ G hz hf so;have pa:Ot a:=by rw[ea];exact zbz (kV G ca) hz
       have pb:Ot b:=by rw[eb];exact zbz (kV G cb) hz
       obtain⟨⟨u,cu,eu⟩,_⟩:=zlE G (IR (s.aj.get i).Z) (λs hs=>by have:=(kV G hs).2.2;show 0<s.den;omega) hco;obtain⟨⟨v,cv,ev⟩,_⟩:=zlF G (IR (s.aj.get i).Z) (λs hs=>by have:=(kV G hs).2.2;show 0<s.den;omega) hco;have bl:(wJ (nR s l (dM t)) (s.aj.get i).Z).1=red (gX u (s.aj.get i).Z) u.den:=by
        unfold wJ;rw[hf,dN];show red (loG _ _).Num (loG _ _).bQ=_;rw[eu];rfl
       have bh:(wJ (nR s l (dM t)) (s.aj.get i).Z).2=red (gX v (s.aj.get i).Z) v.den:=by
        unfold wJ;rw[hf,dN];show red (hiG _ _).Num (hiG _ _).bQ=_;rw[ev];rfl
       obtain⟨x1,_,x3,x4⟩:=zl3 G (kV G ca) ca.2 ho;obtain⟨_,y2,_,_⟩:=zl3 G (kV G cb) cb.2 ho;have da:0<ta.den:=by have:=(kV G ca).2.2;omega
       have db:0<tb.den:=by have:=(kV G cb).2.2;omega
       have l1:CY (wJ (nR s l (dM t)) (s.aj.get i).Z).1 a:=by
        rw[ea];exact qC x3 (b:=IR (s.aj.get i).Z ta) da (jH da) x1 (Am da).2
       have l2:CY a (wJ (nR s l (dM t)) (s.aj.get i).Z).1:=by rw[bl];exact ma u cu
       have l3:CY b (wJ (nR s l (dM t)) (s.aj.get i).Z).2:=by
        rw[eb];exact qC (jH db) (b:=IR (s.aj.get i).Z tb) db x4 (Am db).1 y2
       have l4:CY (wJ (nR s l (dM t)) (s.aj.get i).Z).2 b:=by rw[bh];exact mb v cv
       have fl:a.Num/a.bQ=(wJ (nR s l (dM t)) (s.aj.get i).Z).1.Num/(wJ (nR s l (dM t)) (s.aj.get i).Z).1.bQ:=jqp (Fe pa.2.1 x3 l2) (Fe x3 pa.2.1 l1);have ce : -(-b.Num/b.bQ) = -(-(wJ (nR s l (dM t)) (s.aj.get i).Z).2.Num/(wJ (nR s l (dM t)) (s.aj.get i).Z).2.bQ):=jqp (YL pb.2.1 x4 l3) (YL x4 pb.2.1 l4);have lh:a.Num/a.bQ<=-(-b.Num/b.bQ):=by
        refine qjW (Fe pa.2.1 (b:=red (gX tb (s.aj.get i).Z) tb.den) (jH db) (ma tb cb)) ?_;rw[<- eb];exact ztD pb.2.1
       have nb:aJ (0-b.Num) = -b.Num:=by have:=pb.1;rw[aW omY omY];omega
       have qb:=YE (a:=-b.Num) (b:=b.bQ) (by have:=pb.1;omega) pb.2.1;have wb:aJ (0 - -b.Num/b.bQ) = -(-b.Num/b.bQ):=by rw[aW omY omY];omega
       have fka:FlK a:=⟨by have:=pa.1;omega,pa.2.1,by have:=pa.2.2;omega⟩;have fkb:FlK ⟨-b.Num,b.bQ⟩:=⟨by have:=pb.1;show _<=-b.Num/\-b.Num<=_;omega,pb.2.1,by have:=pb.2.2;show b.bQ<=_;omega⟩;have zCB:=zqw ⟨-b.Num,b.bQ⟩ fkb;have zCB:E.Zi ⟨-b.Num,b.bQ⟩=.ok (-b.Num/b.bQ):=zCB;rw[bu omY,e1,aY];show(E.Zi a).T (λr4=>(E.Zi ⟨aJ (0-b.Num),b.bQ⟩).T _)=_;rw[zqw a fka,aY,nb,zCB,aY];unfold atB atB.opn';rw[ho,<- fl,<- ce,h86,aY,wb,h86,aY,bu omY];generalize a.Num/a.bQ=lo at lh ⊢;generalize -(-b.Num/b.bQ)=hi at lh ⊢;obtain⟨q,hq⟩:=h77 (s.aj.get i) ⟨lo,hi⟩ Jk (he.sh.2 i omY)
       show cond (!inB lo (-1000000) 1000000) _ (cond (!inB hi (-1000000) 1000000) _ ((E.c77 (s.aj.get i, ⟨lo, hi⟩)).T fun r8 => cond r8.1 (aV (room (w.len + 1) 8) (pW E n s l t (nR s l (dM t)) ((i + 1 : Nat) : Int) (qB w (i : Int)) k)) (pW E n s l t (nR s l (dM t)) ((i + 1 : Nat) : Int) w k))) =
        cond (cond (decide (lo < -1000000)) false (cond (decide (hi>1000000)) false (UR ⟨lo,hi⟩&&zK (s.aj.get i) ⟨lo,hi⟩))) (pW E n s l t (nR s l (dM t)) ((i+1:Nat):Int) (qB w (i:Int)) k) (pW E n s l t (nR s l (dM t)) ((i+1:Nat):Int) w k)
       rw[hq,aY,jg omY omY];by_cases c1:lo < -1000000;have:inB lo (-1000000) 1000000=false:=by unfold inB;exact dR omY
       rw[this,dC c1];rfl;rw [dR c1,dN];by_cases c2:hi>1000000;have a1:inB hi (-1000000) 1000000=false:=by unfold inB;exact dR omY
       rw[a1,dC c2];cases inB lo (-1000000) 1000000<;>rfl;have a1:inB lo (-1000000) 1000000=true:=by unfold inB;exact dC omY
       have a2:inB hi (-1000000) 1000000=true:=by unfold inB;exact dC omY
       have sp:UR ⟨lo,hi⟩=true:=by unfold UR;exact dC (by show -1000000<=lo/\lo<=hi/\hi<=1000000;omega)
       rw[a1,a2,dR c2,sp,ztP Jk sp];rfl
   rw[qdN];cases hm:UW s l t.View (dM t) i with
   | true =>
    rw[hm]at st;obtain⟨w',a,b⟩:=ih (i+1) n (qB w (i:Int)) omY omY (by show w.len+1<=i+1;omega);refine⟨w',λA k=>(st A k).trans (a A k),?_⟩;rw[b,QY,eY rfl,nX];simp
   | false =>
    rw[hm]at st;obtain⟨w',a,b⟩:=ih (i+1) n w omY omY omY;exact⟨w',λA k=>(st A k).trans (a A k),by rw[b,fH (by simp)]⟩
 obtain⟨w',h,e⟩:=key s.aj.len 0 E.N ⟨0,λ_=>0⟩ omY (by have:=N;omega) (kD _);refine⟨w',ae.ext λk=>?_,e⟩;rw[e91,h65 s l t he.toEvt omY (JW he.vw ha.tv rfl hv ha.ne),aY,Cm rfl];exact h _ k
abbrev zmk(C:ak×bF×Sl bg×af->ae Bool):Prop:=∀s r l t,xX s l t->C (s,r,l,t)=.ok (nU s l t.View r (dM t))
theorem zJP{E:zrj}(zbe:ztn E.c196)(h91:ztV E.c91):zmk (zrk E):=λs r l t ha=>ae.ext λk=>by
 obtain⟨j,hv⟩:=ha.vl;obtain⟨w,hw,e⟩:=h91 s l t ha;rw[e154,zbe s l _ t _ j ha.ev ha.tv rfl hv ha.ne,aY,ha.ag,dO,hw,aY,aY];unfold nU;rw[<- e,fK,iE];cases decide ((t.Hits.len:Int)>=r.mO)<;>rfl
structure zJQ (s : ak) (r : bF) (l : Sl bg) (x : Int) (w : Sl af) : Prop where
  le:w.len<=2001
  tv:∀t∈ls w,JV x t/\xX s l t
  ch:(ls w).map dM=(kC s l x).filter (nU s l x r)
abbrev zCC(C:ak×bF×Sl bg×Int->ae (Sl af×Bool)):Prop:=∀s r l x,Ev s l x->∃w:Sl af,C (s,r,l,x)=.ok (w,qZ s l x)/\(qZ s l x=true->zJQ s r l x w)
theorem zXZ{E:E94}(N:Big E.N)(zz5:zBV E.zun)(zz6:zmk E.c154):zCC (F94 E):=λs r l x he=>by
 obtain⟨v,h1,h2,h3,h4⟩:=zz5 s l x he;have ha:∀i,i<v.len->xX s l (v.get i):=λi hi=>YG he (h3 i hi) (by rw[<- h2];exact Ko (ztr hi));cases hb:qZ s l x with
 | false=>exact⟨⟨0,λ_=>default⟩,ae.ext λk=>by rw[e94,h1,aY];show cond (!qZ s l x) _ _=_;rw[hb];rfl,λh=>by cases h⟩
 | true =>
  have key:∀(m i n:Nat)(w:Sl af),i+m=v.len->m<n->w.len<=i->(∀t∈ls w,JV x t/\xX s l t)->∃w':Sl af,(∀(A:Type)(k:Sl af×Bool->Option A),IL E n s r l v (i:Int) w k=k (w',true))/\w'.len<=v.len/\(∀t∈ls w',JV x t/\xX s l t)/\(ls w').map dM=(ls w).map dM++((List.range' i m).map λj=>dM (v.get j)).filter (nU s l x r):=by
   intro m
   induction m with
   | zero =>
    intro i n w hi hn hw hq;obtain⟨n,rfl⟩:∃n',n=n'+1:=⟨n-1,omY⟩;exact⟨w,λA k=>by rw[zwa,dR omY];rfl,omY,hq,by simp⟩
   | succ m ih =>
    intro i n w hi hn hw hq;obtain⟨n,rfl⟩:∃n',n=n'+1:=⟨n-1,omY⟩;have tv:=h3 i omY;have st:∀(A:Type)(k:Sl af×Bool->Option A),IL E (n+1) s r l v (i:Int) w k=cond (nU s l x r (dM (v.get i))) (IL E n s r l v ((i+1:Nat):Int) (qB w (v.get i)) k) (IL E n s r l v ((i+1:Nat):Int) w k):=λA k=>by
     rw[zwa,dC omY,dO,bu omY,gm,zz6 s r l _ (ha i omY),aY,bD omY,bu omY,jg omY omY,tv.1];rfl
    rw[ZJ,nX,qdN];cases hf:nU s l x r (dM (v.get i))with
    | true =>
     rw[hf]at st;obtain⟨w',a,c,d,e⟩:=ih (i+1) n (qB w (v.get i)) omY omY (by show w.len+1<=i+1;omega) (zCk hq ⟨tv,ha i omY⟩);refine⟨w',λA k=>(st A k).trans (a A k),c,d,?_⟩;rw[e,QY,PU,eY rfl];simp
    | false =>
     rw[hf]at st;obtain⟨w',a,c,d,e⟩:=ih (i+1) n w omY omY omY hq;exact⟨w',λA k=>(st A k).trans (a A k),c,d,by rw[e,fH (by simp)]⟩
  obtain⟨w',a,c,d,e⟩:=key v.len 0 E.N ⟨0,UY⟩ omY (by have:=N;omega) (kD _) (λt h=>by cases h);have few:=qdo hb;refine⟨w',ae.ext λk=>?_,λ_=>⟨omY,d,?_⟩⟩;rw [e94,h1,aY];show cond (!qZ s l x) _ _=_;rw[hb];exact a _ k;rw[e,<- zdP few,<- h2,<- dqZ];rfl
abbrev zml(C:af×af->ae Bool):Prop:=∀a b,One a->One b->∃r,C (a,b)=.ok r/\(r=true↔Hg a b)
theorem zJR{E:zq4}(h38:YF E.Vx):zml (zq5 E):=λa b ha hb=>by
 have a1:=ha.le;have a2:=ha.sd;have b1:=hb.le;have b2:=hb.sd;refine⟨_,ae.ext λk=>by rw[zUe,h38 _ _ omY omY,aY,h38 _ _ omY omY,aY,kc k,kc k,aY],?_⟩;unfold Hg;by_cases v:a.View=b.View;rw [show(a.View != b.View)=false by simpa using v,dN];by_cases h:cmpL (mM a.Hits) (mM b.Hits)=0;rw [h,show((0:Int) != 0)=false from rfl,dN,lQ];have e:=o6.1 h;constructor;intro q;exact .inr ⟨v,.inr ⟨e,q⟩⟩;rintro(q|⟨_,q|⟨_,q⟩⟩);omega;omega;exact q;rw [show(cmpL (mM a.Hits) (mM b.Hits) != 0)=true by simpa using h,dO,lQ];constructor;intro q;exact .inr ⟨v,.inl q⟩;rintro(q|⟨_,q|⟨q,_⟩⟩);omega;exact q;exact absurd (o6.2 q) h;rw [show(a.View != b.View)=true by simpa using v,dO,lQ];constructor;intro q;exact .inl q;rintro(q|⟨q,_⟩);exact q;exact absurd q v
structure zJS (s : ak) (r : bF) (l : Sl bg) (x : Int) (v w : Sl af) : Prop where
  fit:zJQ s r l x v
  le:w.len<=2001
  pm:(ls w).Perm ((ls v).filter λt=>!(ls v).any λx=>sZ x t)
  st:(ls w).Pairwise Hg
abbrev zCD(C:ak×bF×Sl bg×Int->ae (Sl af×Bool)):Prop:=∀s r l x,Ev s l x->∃v w:Sl af,C (s,r,l,x)=.ok (w,qZ s l x)/\w.len<=2001/\(qZ s l x=true->zJS s r l x v w)
theorem zX0{E:E88}(N:Big E.N)(h94:zCC E.c94)(h53:Q53 E.c53)(zz0:zml E.zuk):zCD (F88 E):=λs r l x he=>by
 have hN:=N;obtain⟨v,h1,h2⟩:=h94 s r l x he;cases hb:qZ s l x with
 | false=>exact⟨v,_,ae.ext λk=>by rw[e88,h1,aY];show cond (!qZ s l x) _ _=_;rw[hb];rfl,ui _,λh=>by cases h⟩
 | true =>
  have F:=h2 hb;have vl:=F.le;have ha:∀i,i<v.len->xX s l (v.get i):=λi hi=>(F.tv _ (ku.2 ⟨i,hi,rfl⟩)).2;have hx:∀i,i<v.len->JV x (v.get i):=λi hi=>(F.tv _ (ku.2 ⟨i,hi,rfl⟩)).1;have dif:∀i j,i<v.len->j<v.len->i≠j->dM (v.get i)≠dM (v.get j):=by
   have nd:((ls v).map dM).Nodup:=by rw[F.ch];exact(ES (Hr s l x) _ _ _).filter _
   have P:=qdi.1 nd;have ge:∀i (hi:i<v.len),((ls v).map dM)[i]'(by rw[qdn,fK];exact hi)=dM (v.get i):=λi hi=>by
    rw[List.getElem_map];have:=UT (w:=v) hi;rw[Au (by rw[fK];exact hi)]at this;rw[PS this]
   intro i j hi hj Jm;rcases qdP i j with h|h
   have:=P i j (by rw [qdn,fK];exact hi) (by rw [qdn,fK];exact hj) h;rwa[ge i hi,ge j hj]at this;have:=P j i (by rw [qdn,fK];exact hj) (by rw [qdn,fK];exact hi) omY;rw[ge i hi,ge j hj]at this;exact λe=>this e.symm
  let P:Nat->Bool:=λi=>(List.range' 0 v.len).all λq=>(i==q) || !nK (v.get q) (v.get i)
  have mo:∀n0 (i:Nat),i<v.len->∀(m j n1:Nat)(w:Sl af)(f:Bool),j+m=v.len->m<n1->∀(A:Type)(k:Sl af×Bool->Option A),QQ E n0 n1 v (i:Int) f (j:Int) w k=cond (f&&(List.range' j m).all λq=>(i==q) || !nK (v.get q) (v.get i)) (IK E n0 E.N v w (i:Int) 0 k) (Ee E n0 v ((i+1:Nat):Int) w k):=by
   intro n0 i hi m
   induction m with
   | zero =>
    intro j n1 w f hj hn A k;obtain⟨n1,rfl⟩:∃n',n1=n'+1:=⟨n1-1,omY⟩;rw[zv4,dR omY,dN,bD omY];cases f<;>rfl
   | succ m ih =>
    intro j n1 w f hj hn A k;obtain⟨n1,rfl⟩:∃n',n1=n'+1:=⟨n1-1,omY⟩;rw[zv4,dC omY,dO,bD omY,ZJ,qdZ];cases f with
    | false=>rw[dN,ih (j+1) n1 w false omY omY];rfl
    | true =>
     rw[dO];by_cases e:i=j;rw[show((i:Int)==(j:Int))=true by rw[Zy];omega,dO,ih (j+1) n1 w true omY omY,show(i==j)=true by rw[Zy];exact e];rfl;rw[show((i:Int)==(j:Int))=false by rw[qdS];omega,dN,bu omY,bu omY,gm,gm,h53 _ _ (ha j omY).inc (ha i hi).inc,aY,ih (j+1) n1 w _ omY omY,show(i==j)=false by rw[qdS];exact e,jqF,I5]
  have pos:∀n0 (i:Nat),i<v.len->∀(w:Sl af),(∀t∈ls w,One t)->∀(m j n1:Nat),j+m=w.len->w.len<=2001->m<n1->∃a,a<=w.len/\(∀q,j<=q->q<a->Hg (w.get q) (v.get i))/\(a<w.len->¬Hg (w.get a) (v.get i))/\∀(A:Type)(k:Sl af×Bool->Option A),IK E n0 n1 v w (i:Int) (j:Int) k=QR E n0 v w (i:Int) (a:Int) k:=by
   intro n0 i hi w hw m
   induction m with
   | zero =>
    intro j n1 hj hl hn;obtain⟨n1,rfl⟩:∃n',n1=n'+1:=⟨n1-1,omY⟩;exact⟨j,omY,λq a b=>by omega,λa=>by omega,λA k=>by rw[zv5,dR omY];rfl⟩
   | succ m ih =>
    intro j n1 hj hl hn;obtain⟨n1,rfl⟩:∃n',n1=n'+1:=⟨n1-1,omY⟩;obtain⟨b,eb,bi⟩:=zz0 (w.get j) (v.get i) (hw _ (ku.2 ⟨j,omY,rfl⟩)) (ha i hi).one;have st:∀(A:Type)(k:Sl af×Bool->Option A),IK E n0 (n1+1) v w (i:Int) (j:Int) k=cond b (IK E n0 n1 v w (i:Int) ((j+1:Nat):Int) k) (QR E n0 v w (i:Int) (j:Int) k):=λA k=>by
     rw[zv5,dC omY,dO,bu omY,bu omY,gm,gm,eb,aY,bD omY]
    cases b with
    | true =>
     obtain⟨a,a1,a2,a3,a4⟩:=ih (j+1) n1 omY hl omY;refine⟨a,a1,λq h1 h2=>?_,a3,λA k=>(st A k).trans (a4 A k)⟩;by_cases e:q=j;rw[e];exact bi.1 rfl;exact a2 q omY h2
    | false=>exact⟨j,omY,λq a b=>by omega,λ_ h=>(by cases bi.2 h),λA k=>st A k⟩
  have key:∀(m i n:Nat)(w:Sl af),i+m=v.len->m<n->w.len<=i->(ls w).Pairwise Hg->(ls w).Perm (((List.range i).filter P).map v.get)->∃w':Sl af,(∀(A:Type)(k:Sl af×Bool->Option A),Ee E n v (i:Int) w k=k (w',true))/\w'.len<=v.len/\(ls w').Pairwise Hg/\(ls w').Perm (((List.range v.len).filter P).map v.get):=by
   intro m
   induction m with
   | zero =>
    intro i n w hi hn hw hs hp;obtain⟨n,rfl⟩:∃n',n=n'+1:=⟨n-1,omY⟩;rw[show i=v.len by omega]at hp;exact⟨w,λA k=>by rw[zv3,dR omY];rfl,omY,hs,hp⟩
   | succ m ih =>
    intro i n w hi hn hw hs hp;obtain⟨n,rfl⟩:∃n',n=n'+1:=⟨n-1,omY⟩;have kH:i<v.len:=by omega
    have inw:∀t∈ls w,∃j,j<i/\t=v.get j:=λt ht=>by
     obtain⟨j,hj,e⟩:=uV.1 (hp.mem_iff.1 ht);exact⟨j,by have:=(RV.1 hj).1;simpa using this,e.symm⟩
    have one:∀t∈ls w,One t:=λt ht=>by
     obtain⟨j,hj,e⟩:=inw t ht;rw[e];exact(ha j omY).one
    have sp:List.range (i+1)=List.range i++[i]:=qjx;have st:∀(A:Type)(k:Sl af×Bool->Option A),Ee E (n+1) v (i:Int) w k=cond (P i) (IK E n E.N v w (i:Int) 0 k) (Ee E n v ((i+1:Nat):Int) w k):=λA k=>by
     rw[zv3,dC omY,dO];exact mo n i kH v.len 0 E.N w true omY omY A k
    cases hP:P i with
    | false =>
     rw[hP]at st;obtain⟨w',a,b,c,d⟩:=ih (i+1) n w omY omY omY hs (by rw[sp,qjh,qdN,fH (by rw[hP];simp)];simpa using hp);exact⟨w',λA k=>(st A k).trans (a A k),b,c,d⟩
    | true =>
     rw[hP]at st;obtain⟨a,a1,a2,a3,a4⟩:=pos n i kH w one w.len 0 E.N omY omY omY;let w1:Sl af:=⟨(((a:Int)-0).toNat+1)+((w.len:Int)-(a:Int)).toNat,jy (((a:Int)-0).toNat+1) (jy ((a:Int)-0).toNat (uY w.get 0) (λ_=>v.get (i:Int).toNat)) (uY w.get (a:Int).toNat)⟩;have i1:∀(A:Type)(k:Sl af×Bool->Option A),QR E n v w (i:Int) (a:Int) k=Ee E n v ((i+1:Nat):Int) w1 k:=λA k=>by
      rw[zIw,bu omY,jg omY omY,bu omY,jg omY omY,bu omY,jg omY omY,bD omY]
     have i2:w1.len=w.len+1:=by show((((a:Int)-0).toNat+1)+((w.len:Int)-(a:Int)).toNat)=_;omega
     have i3:ls w1=(ls w).take a++v.get i::(ls w).drop a:=by
      have:=zmb w a a1 (v.get (i:Int).toNat);rw[show v.get (i:Int).toNat=v.get i by rw[gm]]at this;exact this
     have gw':∀q (hq:q<(ls w).length),(ls w)[q]=w.get q:=λq hq=>by
      have:=UT (w:=w) (i:=q) (by rw[fK]at hq;exact hq);rw[Au hq]at this;exact PS this
     have tk:∀y∈(ls w).take a,Hg y (v.get i):=λy hy=>by
      obtain⟨q,hq,e⟩:=qdD hy;rw[List.getElem_take,gw']at e;rw[qdB,fK]at hq;rw[<- e];exact a2 q (ui _) omY
     have dr:∀y∈(ls w).drop a,Hg (v.get i) y:=λy hy=>by
      obtain⟨q,hq,e⟩:=qdD hy;rw[List.getElem_drop,gw']at e;rw[Zx,fK]at hq;have first:Hg (v.get i) (w.get a):=by
       have na:=a3 omY;obtain⟨j,hj,ej⟩:=inw (w.get a) (ku.2 ⟨a,omY,rfl⟩);have nd:¬((v.get i).View=(w.get a).View/\mM (v.get i).Hits=mM (w.get a).Hits/\mM (v.get i).aU=mM (w.get a).aU):=λh=>by
        rw[ej]at h;exact dif i j kH omY omY (zlJ h.2.1 h.2.2 (hx i kH).2 (hx j omY).2)
       exact(zdI nd).resolve_right na
      rw[<- e];by_cases e0:q=0;subst e0;exact first
      have:=qdi.1 hs a (a+q) (by rw [fK];omega) (by rw [fK];omega) omY;rw[gw',gw']at this;exact zbv first this
     have s1:(ls w1).Pairwise Hg:=by
      rw[i3,qdt,qdy];have qi:=hs;rw[<- qjm a (ls w),qdt]at qi;refine⟨qi.1,⟨dr,qi.2.1⟩,λy hy z hz=>?_⟩;rcases kS.1 hz with e|h
      rw[e];exact tk y hy;exact qi.2.2 y hy z h
     have p1:(ls w1).Perm (((List.range (i+1)).filter P).map v.get):=by
      rw[i3,sp,qjh,qdN,eY hP,PU];refine List.perm_middle.trans ?_;rw[qjm];exact(List.Perm.cons _ hp).trans (List.perm_append_comm (l₁:=[v.get i]))
     obtain⟨w',b1,b2,b3,b4⟩:=ih (i+1) n w1 omY omY omY s1 p1;exact⟨w',λA k=>(st A k).trans ((a4 A k).trans ((i1 A k).trans (b1 A k))),b2,b3,b4⟩
  obtain⟨w',a,b,c,d⟩:=key v.len 0 E.N ⟨0,UY⟩ omY omY (kD _) List.Pairwise.nil (List.Perm.refl _);refine⟨v,w',ae.ext λk=>?_,omY,λ_=>⟨F,omY,?_,c⟩⟩;rw [e88,h1,aY];show cond (!qZ s l x) _ _=_;rw[hb];exact a _ k;refine d.trans (qjY ?_);unfold ls;rw[List.filter_map];congr 1;refine qjL λi hi=>?_;have hi:i<v.len:=by simpa using hi
  show P i = !((List.range v.len).map v.get).any λx=>sZ x (v.get i);rw[VG,zQ,H6,qdI];constructor;intro h y hy hg;obtain⟨q,hq,rfl⟩:=uV.1 hy;have hq:q<v.len:=by simpa using hq
  have:=h q (by simp;omega);unfold sZ at hg;rw[gq,lQ]at hg;rw[VE,Zy,hg.2]at this;rcases this with e|e
  rw[e]at hg;omega;cases e;intro h q hq;have hq:q<v.len:=by simp at hq;omega
  rw[VE,Zy];by_cases e:i=q;exact .inl e
  ·refine .inr ?_;rw[H6];cases hc:nK (v.get q) (v.get i)with
   | false=>rfl
   | true =>
    have hc':=wG.1 hc;obtain⟨jq,vq⟩:=(ha q hq).vl;obtain⟨ji,vi⟩:=(ha i hi).vl;obtain⟨le,eq⟩:=J3 (vi.pw.imp λh=>h.1) (vq.pw.imp λh=>h.1) hc'.1;rw[iE,iE]at le eq;have ng:=h (v.get q) (qje (Jp.2 hq));have lt:(v.get q).Hits.len>(v.get i).Hits.len:=by
     rcases qdP (v.get i).Hits.len (v.get q).Hits.len with h|h
     exact h;exact absurd (eq omY) (dif i q hi hq e)
    exact absurd (show sZ (v.get q) (v.get i)=true by unfold sZ;rw[hc,dC omY];rfl) ng
abbrev ztW(C:ak×bF×Sl bg->ae (Sl af×Bool)):Prop:=∀s r l,Ev s l 1->Ev s l 2->∃w:Sl af,C (s,r,l)=.ok (w,qZ s l 1&&qZ s l 2)/\((qZ s l 1&&qZ s l 2)=true->∃f:found,Jg s r l f/\f.bn=w)
theorem zX1{E:E28}(h88:zCD E.v88):ztW (F28 E):=λs r l h1 h2=>by
 obtain⟨x,a,a1,a2,a3⟩:=h88 s r l 1 h1;obtain⟨y,b,b1,b2,b3⟩:=h88 s r l 2 h2;refine⟨⟨a.len+b.len,jy a.len a.get b.get⟩,ae.ext λk=>?_,λh=>?_⟩;rw [e28,a1,aY,b1,aY,jg (show a.len+b.len≤1000000 by omega) omY];show cond (qZ s l 1) _ _=_;cases qZ s l 1<;>rfl;rw[gq]at h;have K1:=a3 h.1;have K2:=b3 h.2;have v1:∀t∈ls x,t.View=1:=λt ht=>(K1.fit.tv t ht).1.1;have v2:∀t∈ls y,t.View=2:=λt ht=>(K2.fit.tv t ht).1.1;have w1:∀t∈ls a,t.View=1:=λt ht=>v1 t (RV.1 (K1.pm.mem_iff.1 ht)).1;have w2:∀t∈ls b,t.View=2:=λt ht=>v2 t (RV.1 (K2.pm.mem_iff.1 ht)).1;have nv:∀p q:af,p.View≠q.View->sZ p q=false:=λp q hpq=>by
  unfold sZ nK;rw[show(q.View==p.View)=false by rw[qdS];exact λe=>hpq e.symm,ZK,ZK]
 refine⟨⟨iD s r l,⟨x.len+y.len,jy x.len x.get y.get⟩,⟨a.len+b.len,jy a.len a.get b.get⟩⟩,⟨rfl,⟨ls x,ls y,Hq x y,λt ht=>(K1.fit.tv t ht).1,λt ht=>(K2.fit.tv t ht).1,K1.fit.ch,K2.fit.ch⟩,?_,?_⟩,rfl⟩;show(ls (⟨a.len+b.len,jy a.len a.get b.get⟩:Sl af)).Perm ((ls (⟨x.len+y.len,jy x.len x.get y.get⟩:Sl af)).filter fun t => !(ls (⟨x.len+y.len,jy x.len x.get y.get⟩:Sl af)).any fun x=>sZ x t);rw[Hq,Hq,qjh];refine List.Perm.append (K1.pm.trans (qjY ?_)) (K2.pm.trans (qjY ?_));refine qjL fun t ht => ?_;rw[List.any_append];have:(ls y).any (λx=>sZ x t)=false:=by
  rw[qdI];intro q hq;rw[nv q t (by rw[v2 q hq,v1 t ht];omega)];simp
 rw[this,Bool.or_false];refine qjL fun t ht => ?_;rw[List.any_append];have:(ls x).any (λx=>sZ x t)=false:=by
  rw[qdI];intro q hq;rw[nv q t (by rw[v1 q hq,v2 t ht];omega)];simp
 rw[this,jqF];show(ls (⟨a.len+b.len,jy a.len a.get b.get⟩:Sl af)).Pairwise Hg;rw[Hq,qdt];refine⟨K1.st,K2.st,λp hp q hq=>.inl ?_⟩;rw[w1 p hp,w2 q hq];omega
structure E29 where
 N:Nat
 Vx:(Sl Int)×(Sl Int)->ae Int
 c52:af×af->ae Bool
def F29(E:E29):bz×bz->ae Bool:=iR E.N ((Tabs.nil.addF 38 (ae.un E.Vx)).addF 52 (ae.un E.c52)) 29
theorem e29(E:E29){A:Type}(k:Bool→Option A)(a0 a1:bz):(F29 E (a0,a1)).T k=cond (a0.zgO==a1.zgO) ((E.Vx (a0.Hits,a1.Hits)).T λr1=>cond (r1==0) ((E.Vx (a0.aj,a1.aj)).T λr2=>cond (r2==0) ((E.c52 (a0.rf,a1.rf)).T λr3=>k r3) (k false)) (k false)) (k false):=dS
theorem o29 [aC](E:E29)(h38:Ok aB 38 (ae.un E.Vx))(h52:Ok aB 52 (ae.un E.c52)):Ok aB 29 (ae.un (F29 E)):=dU ((ax.nil.addF h38).addF h52)
abbrev zf3:=Int×List Int×List Int×(Int×iT)
def ztX(w:bz):zf3:=(w.zgO,ls w.Hits,ls w.aj,fC w.rf)
structure RB (w : bz) : Prop where
  h:w.Hits.len<=1000
  p:w.aj.len<=1000
  g:One w.rf
theorem OC:One zT:=⟨ui _,rfl,λi j hi=>absurd hi (RP i)⟩
theorem zbB(n:Int):RB (CO n):=⟨ui _,ui _,OC⟩
abbrev Q29(C:bz×bz->ae Bool):Prop:=∀a b,RB a->RB b->ztX a=ztX b->C (a,b)=.ok true
theorem s29{E:E29}(h38:YF E.Vx)(h52:Q52 E.c52):Q29 (F29 E):=λa b ha hb h=>ae.ext λk=>by
 have e1:a.zgO=b.zgO:=jX Prod.fst h;have e2:mM a.Hits=mM b.Hits:=jX (λx:zf3=>x.2.1) h;have e3:mM a.aj=mM b.aj:=jX (λx:zf3=>x.2.2.1) h;have e4:fC a.rf=fC b.rf:=jX (λx:zf3=>x.2.2.2) h;rw[e29,e1,qjp,dO,h38 _ _ ha.h hb.h,aY,e2,o6.2 rfl];show(E.Vx (a.aj,b.aj)).T _=_;rw[h38 _ _ ha.p hb.p,aY,e3,o6.2 rfl];show(E.c52 (a.rf,b.rf)).T _=_;rw[h52 _ _ ha.g hb.g ha.g.sd hb.g.sd,aY,zdW ha.g.sd hb.g.sd e4,aY]
def zbC(a b:Int×iT):Bool:=b.2.all (λp=>a.2.contains p)&&(b.1==a.1)
open Classical in
def gre(ks:List (Int×iT))(k:Int×iT):zf3:=if k∈ks then(1,[],[],(0,[]))else iI (ks.find? λx=>zbC x k) (λx=>(6,[],[],x)) (0,[],[],(0,[]))
def PG(s:ak)(r:bF)(l:Sl bg)(t:af)(ks:List (Int×iT)):zf3 :=
  iI (brk (ZB s l t)) (fun b => (2, (ls b).map fun a => t.Hits.get a.toNat, [], (0, []))) (iI (lat s l t) (fun p => (3, [p.1, p.2], [], (0, [])))
    (cond (decide ((t.Hits.len:Int)<r.mO)) (4,[],[],(0,[])) (cond (decide (((uO s l t.View (dM t)).length:Int)>r.o7)) (5,[],uO s l t.View (dM t),(0,[])) (gre ks (fC t)))))
theorem find_congr{α:Type}{p q:α→Bool}:∀{L:List α},(∀x∈L,p x=q x)→L.find? p=L.find? q
  | [],_=>rfl
  | a::L,h=>by
    rw[qjy,qjy,h a kX,find_congr λx hx=>h x (jW _ hx)]
theorem OD {α β : Type} {p : β → Bool} {g : α → β} : ∀ {L : List α}, (L.map g).find? p = iI (L.find? fun x => p (g x)) (fun x => some (g x)) none
  | []=>rfl
  | a::L=>by
    rw[nX,qjy,qjy];cases p (g a)with|true=>rfl|false=>exact OD
theorem zwL{α:Type}[bI α][sU α]{z f:Nat->α}{n:Nat}:ls (gw z f n)=(List.range n).map f:=by
 unfold ls;rw[lD];exact qda λi hi=>BX (Jp.1 hi)
theorem YR{s:ak}{l:Sl bg}{t:af}(h:lat s l t=none){i j:Nat}(h1:i<j)(h2:j<t.Hits.len):noT s l (t.Hits.get i) (t.Hits.get j)=false:=by
 have a:=qc h i (ui _) omY;have b:=qc a j omY omY;unfold zf2 at b;cases e:noT s l (t.Hits.get i) (t.Hits.get j)with|false=>rfl|true=>rw[e]at b;cases b
theorem zdZ{s:ak}{r:bF}{l:Sl bg}{t:af}{f:found}(G:YP s r l t f)(h:lat s l t=none):PE s l (dM t)=true:=by
 obtain⟨tv,vw,ne,v⟩:=pI G.ch;have hits:∀p∈dM t,∃i,i<t.Hits.len/\t.Hits.get i=p.1:=λp hp=>by obtain⟨i,hi,a,_⟩:=nO.1 hp;exact⟨i,hi,a⟩
 have pair:∀p∈dM t,∀q∈dM t,(iL s (l.get p.1.toNat)).Low<=(iL s (l.get q.1.toNat)).High:=λp hp q hq=>by
  obtain⟨i,hi,a⟩:=hits p hp;obtain⟨j,hj,b⟩:=hits q hq;rw[<- a,<- b];rcases qdv i j with c|c|c
  exact(zdV (YR h c hj)).1;subst c;have:=G.hit hi;exact ztI G.he omY;exact(zdV (YR h c hi)).2
 rw[U6 ne];have mx:∀c:iT,c≠[]->∃p∈c,∀q∈c,(iL s (l.get q.1.toNat)).Low<=(iL s (l.get p.1.toNat)).Low:=by
  intro c
  induction c with
  | nil=>intro h;exact absurd rfl h
  | cons p c ih =>
   intro _;by_cases e:c=[];subst e;exact⟨p,kX,λq hq=>by rw[lN.1 hq];omega⟩;obtain⟨u,hu,hm⟩:=ih e;by_cases le:(iL s (l.get u.1.toNat)).Low<=(iL s (l.get p.1.toNat)).Low;refine⟨p,kX,fun q hq => ?_⟩;rcases kS.1 hq with e|h
   rw[e];omega;have:=hm q h;omega;refine⟨u,jW _ hu,fun q hq => ?_⟩;rcases kS.1 hq with e|h
   rw[e];omega;exact hm q h
 obtain⟨p,hp,hm⟩:=mx _ ne;exact⟨_,λq hq=>⟨hm q hq,pair p hp q hq⟩⟩
theorem zmm{s:ak}{r:bF}{l:Sl bg}{t:af}{f:found}(F:Jg s r l f)(G:YP s r l t f)(VB:eH (ZB s l t)=true)(hla:lat s l t=none)(d1:¬(t.Hits.len:Int)<r.mO)(d2:¬((uO s l t.View (dM t)).length:Int)>r.o7)(gs:∀x∈ls f.bn,sZ x t=false):∃m∈ls f.bn,fC m=fC t:=by
 obtain⟨tv,vw,ne,v⟩:=pI G.ch;have he:=G.he;have h24:=G.h24;have ag:zI s l (dM t)=true:=by
  unfold zI;rw[zdZ G hla,<- Cm (t:=t) rfl,VB];rfl
 have vx:t.View=1\/t.View=2:=qdo vw;have fit:nU s l t.View r (dM t)=true:=by
  unfold nU;rw[iE,gq,lQ,lQ];exact⟨omY,omY⟩
 obtain⟨u,hu,u1,u2⟩:=F.has vx (RV.2 ⟨ztH he h24 v ne ag,fit⟩);obtain⟨m,hm,OU⟩:=F.max he h24 hu;rw[wG,u1,u2]at OU;have cm:=F.chosen he h24 (F.sub hm);obtain⟨jm,vm⟩:=cm.vl;obtain⟨le,eq⟩:=J3 (c:=dM t) (d:=dM m) (v.pw.imp λh=>h.1) (vm.pw.imp λh=>h.1) OU.1;rw[iE,iE]at le eq;have ng:=gs m hm;have nl:¬(m.Hits.len:Int)>(t.Hits.len:Int):=λVm=>by
  unfold sZ at ng;rw[dC Vm,I5]at ng;have:nK m t=true:=wG.2 ⟨OU.1,OU.2⟩;rw[this]at ng;cases ng
 exact⟨m,hm,jqL OU.2.symm (eq omY).symm⟩
theorem zmn{s:ak}{r:bF}{l:Sl bg}{t:af}{f:found}(F:Jg s r l f)(he:Evt s l)(h24:l.len≤24)(hc:kZ s l t=true)(hR:(∀x∈ls f.bn,sZ x t=false)→∃m∈ls f.bn,fC m=fC t) :
  iI ((ls f.bn).find? λx=>sZ x t) (λx=>(6,[],[],fC x)) (1,[],[],(0,[]))=gre ((ls f.bn).map fC) (fC t):=by
 obtain⟨tv,vw,ne,v⟩:=pI hc;unfold gre;by_cases hk:fC t∈(ls f.bn).map fC;rw [eY hk];obtain⟨m,hm,e⟩:=uV.1 hk;have no:∀x∈ls f.bn,sZ x t=false:=λx hx=>by
  have a:=(RV.1 (F.tr.mem_iff.1 hm)).2;rw[H6,qdI]at a;have:=a x (F.sub hx);rw[zma,e]at this;rw[zma];simpa using this
 rw[jqa.2 λx hx=>by rw[no x hx];decide];rfl
 ·rw [fH hk,OD];have cg:(ls f.bn).find? (λx=>sZ x t)=(ls f.bn).find? (λx=>zbC (fC x) (fC t)):=find_congr λx hx=>by
   have e:sZ x t=(decide ((x.Hits.len:Int)>(t.Hits.len:Int))&&zbC (fC x) (fC t)):=rfl;rw[e];cases OU:zbC (fC x) (fC t)with
   | false=>rw[ZK]
   | true =>
    rw[qju,lQ];refine Decidable.byContradiction λnl=>hk (uV.2 ⟨x,hx,?_⟩);have cm:=F.chosen he h24 (F.sub hx);obtain⟨jm,vm⟩:=cm.vl;have OU:nK x t=true:=OU;rw[wG]at OU;obtain⟨le,eq⟩:=J3 (c:=dM t) (d:=dM x) (v.pw.imp λh=>h.1) (vm.pw.imp λh=>h.1) OU.1;rw[iE,iE]at le eq;exact jqL OU.2.symm (eq omY).symm
  rw[cg];cases hf:(ls f.bn).find? (λx=>zbC (fC x) (fC t))with
  | some x=>rfl
  | none =>
   exfalso;rw[hf]at cg;obtain⟨m,hm,e⟩:=hR λx hx=>by
    have:=jqa.1 cg x hx;simpa using this
   exact hk (uV.2 ⟨m,hm,e⟩)
abbrev ztY(C:ak×bF×Sl bg×af->ae (bz×Int)):Prop:=∀s r l t,sV s->l.len<=40->t.Hits.len<=30->t.aU.len<=30 ->
 (CZ s r l (kZ s l t)≠0/\C (s,r,l,t)=.ok (CO 0,CZ s r l (kZ s l t))) \/
 (CZ s r l (kZ s l t)=0/\Brk (ZB s l t)/\∃f,Jg s r l f/\∃w,C (s,r,l,t)=.ok (w,0)/\ztX w=PG s r l t ((ls f.bn).map fC)/\RB w)
theorem zX2{E:E25}(h78:Q78 E.c78)(h79:Q79 E.c79)(h72:zCA E.c72)(h80:zCv E.c80)(h81:zCw E.c81)(h82:Q82 E.c82)(h83:zCx E.c83)(h84:zCy E.c84):ztY (F25 E):=λs r l t hs hl h1 h2=>by
 by_cases r0:jY s r l=0
 case neg =>
  have e:CZ s r l (kZ s l t)=jY s r l:=by unfold CZ;rw[show(jY s r l != 0)=true by simpa using r0];rfl
  have eo:opn s r l=.inl (jY s r l):=by unfold opn;rw[show(jY s r l==0)=false by simpa using r0];rfl
  refine .inl ⟨by rw[e];exact r0,ae.ext λk=>?_⟩;rw[e25,h78 s r l hs hl,aY,eo,aY,e];show cond (jY s r l != 0) _ _=_;rw[show(jY s r l != 0)=true by simpa using r0];rfl
 obtain⟨he,_,h24⟩:=JL hs r0;have eo:opn s r l=.inr (iD s r l,0):=by unfold opn;rw[r0];rfl
 have al:(ls (⟨1,λ_=>kZ s l t⟩:Sl Bool)).all id=kZ s l t:=qju _;have e00:∀(A:Type)(k:bz×Int->Option A),(F25 E (s,r,l,t)).T k=(E.c72 (s,r,l,⟨1,λ_=>kZ s l t⟩)).T _:=λA k=>by
  rw[e25,h78 s r l hs hl,aY,eo];show(E.c79 (iD s r l,t)).T _=_;rw[h79 s l r t he h1 h2,aY]
 have c72:=h72 s r l ⟨1,λ_=>kZ s l t⟩ hs hl (by show 1<=10;omega);rw[al]at c72;rcases c72 with⟨h0,c72⟩|⟨h0,f,c72,F⟩
 refine .inl ⟨h0,ae.ext fun k => ?_⟩;rw[e00,c72,aY,aY];show cond (CZ s r l (kZ s l t) != 0) _ _=_;rw[show(CZ s r l (kZ s l t) != 0)=true by simpa using h0];rfl;obtain⟨_,hc,n1,n2⟩:=zwK h0;obtain⟨tv,vw,ne,v⟩:=pI hc;have tl:=pG rfl v;have G:YP s r l t f.v:=⟨F.ev,he,h24,hc⟩;have gl:=G.len;have fl:=F.len n1 n2;have ct:∀x∈ls f.v.bn,lF s l x:=λx hx=>F.chosen he h24 (F.sub hx);have e0:∀(A:Type)(k:bz×Int->Option A),(F25 E (s,r,l,t)).T k=(E.c80 (f,t)).T λr4=>cond r4.2 (k (r4.1,0)) ((E.c81 (f,t)).T λr5=>cond r5.2 (k (r5.1,0)) ((E.c82 (f,t)).T λr6=>cond r6.2 (k (r6.1,0)) ((E.c83 (f,t)).T λr7=>cond r7.2 (k (r7.1,0)) ((E.c84 (f,t)).T λr8=>cond r8.2 (k (r8.1,0)) (k (CO 1,0)))))):=λA k=>by
  rw[e00,c72,aY];rfl
 obtain⟨hb,c80⟩:=h80 s r l t f G;refine .inr ⟨h0,hb,f.v,F,?_⟩;have c81:=h81 s r l t f G;have c82:=h82 s r l t f G;obtain⟨W,hW,c83⟩:=h83 s r l t f G;have c84:=h84 s r l t f G (λx hx=>⟨(ct x hx).one,(ct x hx).tv.2⟩) omY;have wl:W.len<=1000:=by
  have a:=jX List.length hW;have b:(uO s l t.View (dM t)).length<=s.aj.len:=by
   unfold uO;rw[qdn];exact FN (qd5 ..) (by simp)
  have:=oU he.se;rw[fK]at a;omega
 rcases hb with⟨b,hb,B⟩|⟨hb,VB⟩
 rw [hb]at c80;have bl:=B.len;refine⟨⟨2,gw (λ_=>0) (λa=>t.Hits.get (b.get a).toNat) b.len,⟨0,λ_=>default⟩,zT⟩,ae.ext λk=>by rw[e0,c80,aY];rfl,?_,⟨by show(gw _ _ _).len<=1000;rw[lD];omega,ui _,OC⟩⟩;unfold PG;rw[hb];show(2,ls (gw _ _ _),[],(0,[]))=(2,(ls b).map _,[],(0,[]));rw[zwL];unfold ls;rw[qdO];rfl;rw[hb]at c80;cases hla:lat s l t with
 | some p =>
  rw[hla]at c81;refine⟨_,ae.ext λk=>by rw[e0,c80,aY];show(E.c81 (f,t)).T _=_;rw[c81,aY];rfl,?_,⟨by show 2<=1000;omega,ui _,OC⟩⟩;unfold PG;rw[hb,hla];show(3,[gK [p.1,p.2] 0,gK [p.1,p.2] 1],[],(0,[]))=(3,[p.1,p.2],[],(0,[]));rw[EQ,ER]
 | none =>
 rw[hla]at c81;have e1:∀(A:Type)(k:bz×Int->Option A),(F25 E (s,r,l,t)).T k=cond (decide ((t.Hits.len:Int)<r.mO)) (k (CO 4,0)) (cond (decide (((uO s l t.View (dM t)).length:Int)>r.o7)) (k (⟨5,⟨0,λ_=>default⟩,W,zT⟩,0)) (iI ((ls f.v.bn).find? λx=>sZ x t) (λx=>k (⟨6,⟨0,λ_=>default⟩,⟨0,λ_=>default⟩,x⟩,0)) (k (CO 1,0)))):=λA k=>by
  rw[e0,c80,aY];show(E.c81 (f,t)).T _=_;rw[c81,aY];show(E.c82 (f,t)).T _=_;rw[c82,aY,c83,aY,c84,aY];cases(ls f.v.bn).find? (λx=>sZ x t)<;>rfl
 have ww:PG s r l t ((ls f.v.bn).map fC)=cond (decide ((t.Hits.len:Int)<r.mO)) (4,[],[],(0,[])) (cond (decide (((uO s l t.View (dM t)).length:Int)>r.o7)) (5,[],uO s l t.View (dM t),(0,[])) (gre ((ls f.v.bn).map fC) (fC t))):=by
  unfold PG;rw[hb,hla];rfl
 rw[ww];by_cases d1:(t.Hits.len:Int)<r.mO;rw [dC d1];exact⟨CO 4,ae.ext λk=>by rw[e1,dC d1,aY];rfl,rfl,zbB 4⟩;rw[dR d1,dN];by_cases d2:((uO s l t.View (dM t)).length:Int)>r.o7;rw [dC d2,dO];exact⟨⟨5,⟨0,λ_=>default⟩,W,zT⟩,ae.ext λk=>by rw[e1,dR d1,dC d2,aY];rfl,by rw[<- hW];rfl,ui _,wl,OC⟩;rw[dR d2,dN];have e2:∀(A:Type)(k:bz×Int->Option A),(F25 E (s,r,l,t)).T k=iI ((ls f.v.bn).find? λx=>sZ x t) (λx=>k (⟨6,⟨0,λ_=>default⟩,⟨0,λ_=>default⟩,x⟩,0)) (k (CO 1,0)):=λA k=>by
  rw[e1,dR d1,dR d2];rfl
 have gp:=zmn F he h24 hc λno=>zmm F G VB hla d1 d2 no;rw[<- gp];cases hfi:(ls f.v.bn).find? λx=>sZ x t with|none=>exact⟨CO 1,ae.ext λk=>by rw[e2,hfi,aY];rfl,rfl,zbB 1⟩|some x=>exact⟨⟨6,⟨0,λ_=>default⟩,⟨0,λ_=>default⟩,x⟩,ae.ext λk=>by rw[e2,hfi,aY];rfl,rfl,ui _,ui _,(ct x (qjH hfi)).one⟩
structure E30 where
 N:Nat
 c65:ak×(Sl bg)×af->ae ((Sl au))
 c89:(Sl au)->ae ((Sl Int))
 c91:ak×(Sl bg)×af->ae ((Sl Int))
 c90:ak×(Sl bg)×(Sl Int)->ae Bool
 c52:af×af->ae Bool
 c53:af×af->ae Bool
abbrev G30(E:E30):bK:=gU ((((((Tabs.nil.addF 65 (ae.un E.c65)).addF 89 (ae.un E.c89)).addF 91 (ae.un E.c91)).addF 90 (ae.un E.c90)).addF 52 (ae.un E.c52)).addF 53 (ae.un E.c53)) []
def A30:dG:=bT aB 30 [] {ks:=[(1,5,⟨[],[],[(12,1,45,3)],[],[],[],[]⟩)]}
def F30(E:E30):ak×bF×(Sl bg)×af×(Sl af)->ae bz:=ae.ty (aF aB E.N (G30 E) A30 30)
section
variable(E:E30){A:Type}(k:bz->Option A)
def Ru(E:E30)(n:Nat)(a3:af)(v11:Sl Int)(ja:Int)(w45:Sl Int){A:Type}(k:bz->Option A):Option A:=gW aB (G30 E) E.N A30 30 [1,0,1,1,0,1,0,1,0] [.n n] (gV k) ⟨[(8,.cl (.ptr 8 0)),(10,.cl (.ptr 10 0)),(11,eP v11),(12,.cl (.ptr 12 0)),(13,.int ja)],[(8,eB 43 a3),(10,.box 50 [.p (.int .i64 0),.p (.nils),.p (.nils),.p (.int .i64 0),.p (.nils),.p (.nils)]),(12,.box 50 [.p (.int .i64 2),.vec 45,.p (.nils),.p (.int .i64 0),.p (.nils),.p (.nils)]),(45,eV 3 1 8 w45)],[]⟩
def OE(E:E30)(n:Nat)(a0:ak)(a1:bF)(a2:Sl bg)(a3:af)(a4:Sl af)(fU:Int){A:Type}(k:bz->Option A):Option A:=gW aB (G30 E) E.N A30 30 [1,1,0,1,0] [.n n] (gV k) ⟨[(2,eP a2),(4,eP a4),(5,.cl (.ptr 5 0)),(6,.cl (.ptr 6 0)),(8,.cl (.ptr 8 0)),(10,.cl (.ptr 10 0)),(14,.int fU)],[(5,eB 24 a0),(6,eB 26 a1),(8,eB 43 a3),(10,.box 50 [.p (.int .i64 0),.p (.nils),.p (.nils),.p (.int .i64 0),.p (.nils),.p (.nils)])],[]⟩
def Rw(E:E30)(n0 n:Nat)(a0:ak)(a1:bF)(a2:Sl bg)(a3:af)(a4:Sl af)(fU uS:Int){A:Type}(k:bz->Option A):Option A:=gW aB (G30 E) E.N A30 30 [1,1,0,1,0,0,1,0,0,1,0] [.n n0,.n n] (gV k) ⟨[(2,eP a2),(4,eP a4),(5,.cl (.ptr 5 0)),(6,.cl (.ptr 6 0)),(8,.cl (.ptr 8 0)),(10,.cl (.ptr 10 0)),(14,.int fU),(15,.int uS)],[(5,eB 24 a0),(6,eB 26 a1),(8,eB 43 a3),(10,.box 50 [.p (.int .i64 0),.p (.nils),.p (.nils),.p (.int .i64 0),.p (.nils),.p (.nils)])],[]⟩
def IU(E:E30)(n:Nat)(a3:af)(a4:Sl af)(v17:Int){A:Type}(k:bz->Option A):Option A:=gW aB (G30 E) E.N A30 30 [1,1,1,1,1,0,1,0] [.n n] (gV k) ⟨[(4,eP a4),(8,.cl (.ptr 8 0)),(10,.cl (.ptr 10 0)),(17,.int v17)],[(8,eB 43 a3),(10,.box 50 [.p (.int .i64 0),.p (.nils),.p (.nils),.p (.int .i64 0),.p (.nils),.p (.nils)])],[]⟩
def OG(E:E30)(n:Nat)(a3:af)(a4:Sl af)(VA:Int){A:Type}(k:bz->Option A):Option A:=gW aB (G30 E) E.N A30 30 [1,1,1,1,1,1,0,1,0] [.n n] (gV k) ⟨[(4,eP a4),(8,.cl (.ptr 8 0)),(10,.cl (.ptr 10 0)),(18,.int VA)],[(8,eB 43 a3),(10,.box 50 [.p (.int .i64 0),.p (.nils),.p (.nils),.p (.int .i64 0),.p (.nils),.p (.nils)])],[]⟩
theorem e30(a0:ak)(a1:bF)(a2:Sl bg)(a3:af)(a4:Sl af):(F30 E (a0,a1,a2,a3,a4)).T k=(E.c65 (a0,a2,a3)).T λr1=>(E.c89 r1).T λr2=>cond (decide ((r2.len:Int)>0)) (Ru E E.N a3 r2 0 (⟨0,(λ_=>0)⟩:(Sl Int)) k) (OE E E.N a0 a1 a2 a3 a4 0 k):=dS
theorem zwO(n0:Nat)(a3:af)(v11:Sl Int)(ja:Int)(w45:Sl Int):Ru E (n0+1) a3 v11 ja w45 k=cond (decide (ja<(v11.len:Int))) (aV (decide (0<=ja/\ja<(v11.len:Int))) (aV (decide (0<=v11.get ja.toNat/\v11.get ja.toNat<(a3.Hits.len:Int))) (aV (room (w45.len+1) 8) (Ru E n0 a3 v11 (aJ (ja+1)) (⟨(w45.len+1),(jy w45.len w45.get (λ_=>a3.Hits.get (v11.get ja.toNat).toNat))⟩:(Sl Int)) k)))) (k (⟨2,w45,(⟨0,λ_=>default⟩:(Sl Int)),(⟨0,(⟨0,λ_=>default⟩:(Sl Int)),(⟨0,λ_=>default⟩:(Sl Int))⟩:af)⟩:bz)):=krY
theorem zwP(n0:Nat)(a0:ak)(a1:bF)(a2:Sl bg)(a3:af)(a4:Sl af)(fU:Int):OE E (n0+1) a0 a1 a2 a3 a4 fU k=cond (decide (fU<(a3.Hits.len:Int))) (Rw E n0 E.N a0 a1 a2 a3 a4 fU (aJ (fU+1)) k) (cond (decide ((a3.Hits.len:Int)<a1.mO)) (k (⟨4,(⟨0,λ_=>default⟩:(Sl Int)),(⟨0,λ_=>default⟩:(Sl Int)),(⟨0,(⟨0,λ_=>default⟩:(Sl Int)),(⟨0,λ_=>default⟩:(Sl Int))⟩:af)⟩:bz)) ((E.c91 (a0,a2,a3)).T λr1=>cond (decide ((r1.len:Int)>a1.o7)) (k (⟨5,(⟨0,λ_=>default⟩:(Sl Int)),r1,(⟨0,(⟨0,λ_=>default⟩:(Sl Int)),(⟨0,λ_=>default⟩:(Sl Int))⟩:af)⟩:bz)) (IU E E.N a3 a4 0 k))):=krY
theorem zwQ(n0 n1:Nat)(a0:ak)(a1:bF)(a2:Sl bg)(a3:af)(a4:Sl af)(fU uS:Int):Rw E n0 (n1+1) a0 a1 a2 a3 a4 fU uS k=cond (decide (uS<(a3.Hits.len:Int))) (aV (decide (0<=fU/\fU<(a3.Hits.len:Int))) (aV (decide (0<=uS/\uS<(a3.Hits.len:Int))) ((E.c90 (a0,a2,(⟨2,(gK [a3.Hits.get fU.toNat,a3.Hits.get uS.toNat])⟩:(Sl Int)))).T λr1=>cond (!r1) (aV (decide (0<=fU/\fU<(a3.Hits.len:Int))) (aV (decide (0<=uS/\uS<(a3.Hits.len:Int))) (k (⟨3,(⟨2,(gK [a3.Hits.get fU.toNat,a3.Hits.get uS.toNat])⟩:(Sl Int)),(⟨0,λ_=>default⟩:(Sl Int)),(⟨0,(⟨0,λ_=>default⟩:(Sl Int)),(⟨0,λ_=>default⟩:(Sl Int))⟩:af)⟩:bz)))) (Rw E n0 n1 a0 a1 a2 a3 a4 fU (aJ (uS+1)) k)))) (OE E n0 a0 a1 a2 a3 a4 (aJ (fU+1)) k):=krY
theorem zwR(n0:Nat)(a3:af)(a4:Sl af)(v17:Int):IU E (n0+1) a3 a4 v17 k=cond (decide (v17<(a4.len:Int))) (aV (decide (0<=v17/\v17<(a4.len:Int))) ((E.c52 ((a4.get v17.toNat),a3)).T λr1=>cond r1 (k (⟨1,(⟨0,λ_=>default⟩:(Sl Int)),(⟨0,λ_=>default⟩:(Sl Int)),(⟨0,(⟨0,λ_=>default⟩:(Sl Int)),(⟨0,λ_=>default⟩:(Sl Int))⟩:af)⟩:bz)) (IU E n0 a3 a4 (aJ (v17+1)) k))) (OG E E.N a3 a4 0 k):=krY
theorem zwS(n0:Nat)(a3:af)(a4:Sl af)(VA:Int):OG E (n0+1) a3 a4 VA k=cond (decide (VA<(a4.len:Int))) (aV (decide (0<=VA/\VA<(a4.len:Int))) ((E.c53 ((a4.get VA.toNat),a3)).T λr1=>cond r1 (aV (decide (0<=VA/\VA<(a4.len:Int))) (k (⟨6,(⟨0,λ_=>default⟩:(Sl Int)),(⟨0,λ_=>default⟩:(Sl Int)),(a4.get VA.toNat)⟩:bz))) (OG E n0 a3 a4 (aJ (VA+1)) k))) (k (⟨0,(⟨0,λ_=>default⟩:(Sl Int)),(⟨0,λ_=>default⟩:(Sl Int)),(⟨0,(⟨0,λ_=>default⟩:(Sl Int)),(⟨0,λ_=>default⟩:(Sl Int))⟩:af)⟩:bz)):=krY
end
theorem o30 [aC](E:E30)(h65:Ok aB 65 (ae.un E.c65))(h89:Ok aB 89 (ae.un E.c89))(h91:Ok aB 91 (ae.un E.c91))(h90:Ok aB 90 (ae.un E.c90))(h52:Ok aB 52 (ae.un E.c52))(h53:Ok aB 53 (ae.un E.c53)):Ok aB 30 (ae.un (F30 E)):=dU ((((((ax.nil.addF h65).addF h89).addF h91).addF h90).addF h52).addF h53)
theorem zmo{s:ak}{l:Sl bg}{a b:Int}:decide ((eG (CX s (E8 l ⟨2,gK [a,b]⟩ (⟨2,gK [a,b]⟩:Sl Int).len)) (E8 l ⟨2,gK [a,b]⟩ (⟨2,gK [a,b]⟩:Sl Int).len).len).Low<=(eG (CX s (E8 l ⟨2,gK [a,b]⟩ (⟨2,gK [a,b]⟩:Sl Int).len)) (E8 l ⟨2,gK [a,b]⟩ (⟨2,gK [a,b]⟩:Sl Int).len).len).High) = !noT s l a b:=by
 rw[nN];have e:=CG (g:=CX s (E8 l ⟨2,gK [a,b]⟩ 2)) (h:=CX s ⟨2,gK [l.get a.toNat,l.get b.toNat]⟩) (m:=2) omY (λi hi=>by
  show(⟨0,(iL s ((E8 l ⟨2,gK [a,b]⟩ 2).get i)).Low,(iL s ((E8 l ⟨2,gK [a,b]⟩ 2).get i)).High⟩:au)=⟨0,(iL s (gK [l.get a.toNat,l.get b.toNat] i)).Low,(iL s (gK [l.get a.toNat,l.get b.toNat] i)).High⟩;rw[JX _ _ _ _ hi]
  match i,hi with|0,_=>rw[show(⟨2,gK [a,b]⟩:Sl Int).get 0=gK [a,b] 0 from rfl,EQ,EQ]|1,_=>rw[show(⟨2,gK [a,b]⟩:Sl Int).get 1=gK [a,b] 1 from rfl,ER,ER]) 2 (kD _)
 show decide ((eG (CX s (E8 l ⟨2,gK [a,b]⟩ 2)) 2).Low<=(eG (CX s (E8 l ⟨2,gK [a,b]⟩ 2)) 2).High)=_;rw[e];unfold noT cmS;by_cases c:(eG (CX s ⟨2,gK [l.get a.toNat,l.get b.toNat]⟩) 2).Low>(eG (CX s ⟨2,gK [l.get a.toNat,l.get b.toNat]⟩) 2).High;rw[dC c,dR omY];rfl;rw[dR c,dC omY];rfl
theorem YS : ∀ {L M : List (Int × Int)}, L.map (·.1) = M.map (·.1) → L.map (·.2) = M.map (·.2) → L = M
  | [],[],_,_=>rfl
  | a::L,b::M,h1,h2=>by
    rw[nX,nX,FV]at h1 h2;rw[YS h1.2 h2.2,jqL h1.1 h2.1]
  | [],b::M,h1,_=>by cases h1
  | a::L,[],h1,_=>by cases h1
theorem ztZ{a b:af}(sa:a.aU.len=a.Hits.len)(sb:b.aU.len=b.Hits.len):Fh a b=true↔fC a=fC b:=by
 refine⟨λh=>?_,zdW sa sb⟩;unfold Fh at h;rw[gq,gq,Zy,Zy,Zy]at h;obtain⟨h1,h2,h3⟩:=h;have h2:=o6.1 h2;have h3:=o6.1 h3;rw[<- Rh,<- Rh]at h2;rw[<- Ri sa,<- Ri sb]at h3;exact jqL h1 (YS h2 h3)
abbrev zt0(C:ak×bF×Sl bg×af×Sl af->ae bz):Prop:=∀s r l t f,YP s r l t f->Brk (ZB s l t)->Jg s r l f->f.bn.len<=4000->∃w,C (s,r,l,t,f.bn)=.ok w/\ztX w=PG s r l t ((ls f.bn).map fC)/\RB w
theorem zX4{E:E30}(N:Big E.N)(h65:Q65 E.c65)(h89:Q89 E.c89)(h90:Q90 E.c90)(h91:ztV E.c91)(h52:Q52 E.c52)(h53:Q53 E.c53):zt0 (F30 E):=λs r l t f G hb F fl=>by
 have hN:=N;have gl:=G.len;obtain⟨tv,vw,ne,v⟩:=pI G.ch;have it:=G.inc;have ot:One t:=UX G.h24 tv rfl v;have e0:∀(A:Type)(k:bz->Option A),(F30 E (s,r,l,t,f.bn)).T k=cond (decide (((iI (brk (ZB s l t)) id ⟨0,λ_=>default⟩).len:Int)>0)) (Ru E E.N t (iI (brk (ZB s l t)) id ⟨0,λ_=>default⟩) 0 ⟨0,λ_=>0⟩ k) (OE E E.N s r l t f.bn 0 k):=λA k=>by
  rw[e30,h65 s l t G.he omY G.ch,aY,h89 _ G.jr,aY]
 rcases hb with⟨b,hb,B⟩|⟨hb,VB⟩
 have bl:=B.len;refine⟨⟨2,gw (λ_=>0) (λa=>t.Hits.get (b.get a).toNat) b.len,⟨0,λ_=>default⟩,zT⟩,ae.ext λk=>?_,?_,⟨by show(gw _ _ _).len<=1000;rw[lD];omega,ui _,OC⟩⟩;rw [e0,hb,aY];show cond (decide ((b.len:Int)>0)) (Ru E E.N t b 0 ⟨0,λ_=>0⟩ k) _=_;rw[dC omY,dO];refine kP (X:=λn i=>Ru E n t b (i:Int) (gw (λ_=>0) (λa=>t.Hits.get (b.get a).toNat) i) k) (m:=b.len) (λn i hi=>?_) (λn=>?_) _ omY;have m:=B.mem i hi;rw[zdU]at m;rw[zwO,dC omY,dO,bu omY,gm,bu omY,lD,jg omY omY,bD omY];rfl;rw[zwO,dR omY];rfl;unfold PG;rw[hb];show(2,ls (gw _ _ _),[],(0,[]))=(2,(ls b).map _,[],(0,[]));rw[zwL];unfold ls;rw[qdO];rfl;have st3:∀(A:Type)(k:bz->Option A)(n0 i:Nat),i<t.Hits.len->∀n1 j,j<t.Hits.len->Rw E n0 (n1+1) s r l t f.bn (i:Int) (j:Int) k=iI (zf2 s l t i j) (λp=>k ⟨3,⟨2,gK [p.1,p.2]⟩,⟨0,λ_=>default⟩,zT⟩) (Rw E n0 n1 s r l t f.bn (i:Int) ((j+1:Nat):Int) k):=λA k n0 i hi n1 j hj=>by
  have a:=G.hit hi;have b:=G.hit hj;have inh:InH l ⟨2,gK [t.Hits.get i,t.Hits.get j]⟩:=λq hq=>by
   have hq:q<2:=hq;show 0<=gK [t.Hits.get i,t.Hits.get j] q/\gK [t.Hits.get i,t.Hits.get j] q<(l.len:Int)
   match q,hq with|0,_=>rw[EQ];exact a|1,_=>rw[ER];exact b
  rw[zwQ,dC omY,dO,bu omY,bu omY,gm,gm,h90 s l ⟨2,gK [t.Hits.get i,t.Hits.get j]⟩ G.he inh (by show 0<2;omega) (by show 2<=100;omega),aY,zmo,bD omY,bu omY,bu omY];unfold zf2;cases noT s l (t.Hits.get i) (t.Hits.get j)<;>rfl
 have st2:∀(A:Type)(k:bz->Option A),∀n0 i,i<t.Hits.len->OE E (n0+1) s r l t f.bn (i:Int) k=iI (ztS s l t i) (λp=>k ⟨3,⟨2,gK [p.1,p.2]⟩,⟨0,λ_=>default⟩,zT⟩) (OE E n0 s r l t f.bn ((i+1:Nat):Int) k):=λA k n0 i hi=>by
  rw[zwP,dC omY,dO,bD omY];exact iq (X:=λn1 j=>Rw E n0 n1 s r l t f.bn (i:Int) (j:Int) k) (st3 A k n0 i hi) (λn=>by rw[zwQ,dR omY,dN,bD omY]) _ _ _ omY omY
 have e1:∀(A:Type)(k:bz->Option A),(F30 E (s,r,l,t,f.bn)).T k=iI (lat s l t) (λp=>k ⟨3,⟨2,gK [p.1,p.2]⟩,⟨0,λ_=>default⟩,zT⟩) (cond (decide ((t.Hits.len:Int)<r.mO)) (k (CO 4)) ((E.c91 (s,l,t)).T λr1=>cond (decide ((r1.len:Int)>r.o7)) (k ⟨5,⟨0,λ_=>default⟩,r1,zT⟩) (IU E E.N t f.bn 0 k))):=λA k=>by
  have a:=iq (X:=λn i=>OE E n s r l t f.bn (i:Int) k) (st2 A k) (λn=>by rw[zwP,dR omY,dN]) t.Hits.len 0 E.N omY omY;rw[e0,hb];exact a
 cases hla:lat s l t with
 | some p =>
  refine⟨⟨3,⟨2,gK [p.1,p.2]⟩,⟨0,λ_=>default⟩,zT⟩,ae.ext λk=>by rw[e1,hla,aY];rfl,?_,⟨by show 2<=1000;omega,ui _,OC⟩⟩;unfold PG;rw[hb,hla];show(3,[gK [p.1,p.2] 0,gK [p.1,p.2] 1],[],(0,[]))=(3,[p.1,p.2],[],(0,[]));rw[EQ,ER]
 | none =>
 have ag:xX s l t:={ev:={toEvt:=G.he,l24:=G.h24,vw:=vw},tv:=tv,vl:=⟨_,v⟩,ne:=ne,ag:=by unfold zI;rw[zdZ G hla,<- Cm (t:=t) rfl,VB];rfl};obtain⟨W,c91,hW⟩:=h91 s l t ag;have wl:W.len=(uO s l t.View (dM t)).length:=by rw[<- hW,fK]
 have wl2:W.len<=1000:=by
  have b:(uO s l t.View (dM t)).length<=s.aj.len:=by
   unfold uO;rw[qdn];exact FN (qd5 ..) (by simp)
  have:=oU G.he.se;omega
 have ct:∀x∈ls f.bn,lF s l x:=λx hx=>F.chosen G.he G.h24 (F.sub hx);have e4:∀(A:Type)(k:bz->Option A),IU E E.N t f.bn 0 k=iI ((ls f.bn).find? λx=>Fh x t) (λ_=>k (CO 1)) (iI ((ls f.bn).find? λx=>nK x t) (λx=>k ⟨6,⟨0,λ_=>default⟩,⟨0,λ_=>default⟩,x⟩) (k (CO 0))):=λA k=>by
  have s4:∀n i,i<f.bn.len->IU E (n+1) t f.bn (i:Int) k=iI (cond (Fh (f.bn.get i) t) (some (f.bn.get i)) none) (λ_=>k (CO 1)) (IU E n t f.bn ((i+1:Nat):Int) k):=λn i hi=>by
   have c:=ct _ (ku.2 ⟨i,hi,rfl⟩);rw[zwR,dC omY,dO,bu omY,gm,h52 _ _ c.one ot c.tv.2 tv.2,aY,bD omY];cases Fh (f.bn.get i) t<;>rfl
  have s5:∀n i,i<f.bn.len->OG E (n+1) t f.bn (i:Int) k=iI (cond (nK (f.bn.get i) t) (some (f.bn.get i)) none) (λx=>k ⟨6,⟨0,λ_=>default⟩,⟨0,λ_=>default⟩,x⟩) (OG E n t f.bn ((i+1:Nat):Int) k):=λn i hi=>by
   have c:=ct _ (ku.2 ⟨i,hi,rfl⟩);rw[zwS,dC omY,dO,bu omY,gm,h53 _ _ c.inc it,aY,bD omY,bu omY];cases nK (f.bn.get i) t<;>rfl
  have a:=iq (X:=λn i=>IU E n t f.bn (i:Int) k) (fin:=OG E E.N t f.bn 0 k) s4 (λn=>by rw[zwR,dR omY];rfl) f.bn.len 0 E.N omY omY;have b:=iq (X:=λn i=>OG E n t f.bn (i:Int) k) (fin:=k (CO 0)) s5 (λn=>by rw[zwS,dR omY];rfl) f.bn.len 0 E.N omY omY;rw[Fj (P:=λx=>Fh x t) (g:=f.bn.get),<- dqZ]at a;rw[Fj (P:=λx=>nK x t) (g:=f.bn.get),<- dqZ]at b;exact a.trans (jX (iI _ _) b)
 have e2:∀(A:Type)(k:bz->Option A),(F30 E (s,r,l,t,f.bn)).T k=cond (decide ((t.Hits.len:Int)<r.mO)) (k (CO 4)) (cond (decide (((uO s l t.View (dM t)).length:Int)>r.o7)) (k ⟨5,⟨0,λ_=>default⟩,W,zT⟩) (iI ((ls f.bn).find? λx=>Fh x t) (λ_=>k (CO 1)) (iI ((ls f.bn).find? λx=>nK x t) (λx=>k ⟨6,⟨0,λ_=>default⟩,⟨0,λ_=>default⟩,x⟩) (k (CO 0))))):=λA k=>by
  rw[e1,hla,c91,aY,wl,e4];rfl
 have ww:PG s r l t ((ls f.bn).map fC)=cond (decide ((t.Hits.len:Int)<r.mO)) (4,[],[],(0,[])) (cond (decide (((uO s l t.View (dM t)).length:Int)>r.o7)) (5,[],uO s l t.View (dM t),(0,[])) (gre ((ls f.bn).map fC) (fC t))):=by
  unfold PG;rw[hb,hla];rfl
 rw[ww];by_cases d1:(t.Hits.len:Int)<r.mO;rw [dC d1];exact⟨CO 4,ae.ext λk=>by rw[e2,dC d1,aY];rfl,rfl,zbB 4⟩;rw[dR d1,dN];by_cases d2:((uO s l t.View (dM t)).length:Int)>r.o7;rw [dC d2,dO];exact⟨⟨5,⟨0,λ_=>default⟩,W,zT⟩,ae.ext λk=>by rw[e2,dR d1,dC d2,aY];rfl,by rw[<- hW];rfl,ui _,wl2,OC⟩;rw[dR d2,dN];have e3:∀(A:Type)(k:bz->Option A),(F30 E (s,r,l,t,f.bn)).T k=iI ((ls f.bn).find? λx=>Fh x t) (λ_=>k (CO 1)) (iI ((ls f.bn).find? λx=>nK x t) (λx=>k ⟨6,⟨0,λ_=>default⟩,⟨0,λ_=>default⟩,x⟩) (k (CO 0))):=λA k=>by
  rw[e2,dR d1,dR d2];rfl
 have sk:∀x∈ls f.bn,Fh x t=true↔fC x=fC t:=λx hx=>ztZ (ct x hx).tv.2 tv.2;unfold gre;cases hf:(ls f.bn).find? λx=>Fh x t with
 | some x =>
  have hx:=qjH hf;rw[eY (uV.2 ⟨x,hx,(sk x hx).1 (by have:=List.find?_some hf;exact this)⟩)];exact⟨CO 1,ae.ext λk=>by rw[e3,hf,aY];rfl,rfl,zbB 1⟩
 | none =>
  have no:=jqa.1 hf;rw[fH λh=>by
   obtain⟨m,hm,e⟩:=uV.1 h;exact no m hm ((sk m hm).2 e),OD]
  cases hg:(ls f.bn).find? λx=>nK x t with
  | none =>
   have hg':(ls f.bn).find? (λx=>zbC (fC x) (fC t))=none:=hg;rw[hg'];exact⟨CO 0,ae.ext λk=>by rw[e3,hf,hg,aY];rfl,rfl,zbB 0⟩
  | some x =>
   have hg':(ls f.bn).find? (λx=>zbC (fC x) (fC t))=some x:=hg;rw[hg'];exact⟨⟨6,⟨0,λ_=>default⟩,⟨0,λ_=>default⟩,x⟩,ae.ext λk=>by rw[e3,hf,hg,aY];rfl,rfl,ui _,ui _,(ct x (qjH hg)).one⟩
structure E4 where
 N:Nat
 c23:ak×(Sl bg)×Int->ae Bool
 c19:Unit->ae Bool
 c24:af->ae Bool
 c25:ak×bF×(Sl bg)×af->ae (bz×Int)
 c26:ak×bF×(Sl bg)->ae Int
 c27:ak×(Sl bg)×af->ae Bool
 c28:ak×bF×(Sl bg)->ae ((Sl af)×Bool)
 c29:bz×bz->ae Bool
 c30:ak×bF×(Sl bg)×af×(Sl af)->ae bz
abbrev G4(E:E4):bK:=gU (((((((((Tabs.nil.addF 23 (ae.un E.c23)).addF 19 (ae.un E.c19)).addF 24 (ae.un E.c24)).addF 25 (ae.un E.c25)).addF 26 (ae.un E.c26)).addF 27 (ae.un E.c27)).addF 28 (ae.un E.c28)).addF 29 (ae.un E.c29)).addF 30 (ae.un E.c30)) []
def A4:dG:=bT aB 4 [] {ks:=[(2,13,⟨[],[],[],[],[],[],[(0,12,0,43)]⟩),(2,15,⟨[],[],[],[],[],[],[(0,12,0,43)]⟩)],cut:=[8,10,11,13,15]}
def F4(E:E4):ak×bF×(Sl bg)×af->ae Bool:=ae.ty (aF aB E.N (G4 E) A4 4)
section
variable(E:E4){A:Type}(k:Bool->Option A)
def Fp(E:E4)(a0:ak)(a1:bF)(a2:Sl bg)(a3:af)(v10 v11:Int)(x9:bz){A:Type}(k:Bool->Option A):Option A:=gW aB (G4 E) E.N A4 4 [1,1,1,1,1,1] [] (gV k) ⟨[(2,eP a2),(4,.cl (.ptr 4 0)),(5,.cl (.ptr 5 0)),(7,.cl (.ptr 7 0)),(9,.cl (.ptr 9 0)),(10,.int v10),(11,.int v11),(12,.cl (.p (.nils)))],[(4,eB 24 a0),(5,eB 26 a1),(7,eB 43 a3),(9,eB 50 x9)],[]⟩
def zJT(E:E4)(a0:ak)(a1:bF)(a2:Sl bg)(a3:af)(v10 v11:Int)(x9:bz){A:Type}(k:Bool->Option A):Option A:=gW aB (G4 E) E.N A4 4 [1,1,1,1,1,1,0,1,0,1] [] (gV k) ⟨[(2,eP a2),(4,.cl (.ptr 4 0)),(5,.cl (.ptr 5 0)),(7,.cl (.ptr 7 0)),(9,.cl (.ptr 9 0)),(10,.int v10),(11,.int v11)],[(4,eB 24 a0),(5,eB 26 a1),(7,eB 43 a3),(9,eB 50 x9)],[]⟩
def YT(E:E4)(a0:ak)(a1:bF)(a2:Sl bg)(a3:af)(v10 v11:Int)(v12:Sl af)(x9:bz){A:Type}(k:Bool->Option A):Option A:=gW aB (G4 E) E.N A4 4 [1,1,1,1,1,1,1] [] (gV k) ⟨[(2,eP a2),(4,.cl (.ptr 4 0)),(5,.cl (.ptr 5 0)),(7,.cl (.ptr 7 0)),(9,.cl (.ptr 9 0)),(10,.int v10),(11,.int v11),(12,eP v12)],[(4,eB 24 a0),(5,eB 26 a1),(7,eB 43 a3),(9,eB 50 x9)],[]⟩
def zJU(E:E4)(a0:ak)(a1:bF)(a2:Sl bg)(a3:af)(v10 v11:Int)(v12:Sl af)(ja:Bool)(x9:bz){A:Type}(k:Bool->Option A):Option A:=gW aB (G4 E) E.N A4 4 [1,1,1,1,1,1,0,1,0,1,1] [] (gV k) ⟨[(2,eP a2),(4,.cl (.ptr 4 0)),(5,.cl (.ptr 5 0)),(7,.cl (.ptr 7 0)),(9,.cl (.ptr 9 0)),(10,.int v10),(11,.int v11),(12,eP v12),(13,.bool ja)],[(4,eB 24 a0),(5,eB 26 a1),(7,eB 43 a3),(9,eB 50 x9)],[]⟩
def zJV(E:E4)(a0:ak)(a1:bF)(a2:Sl bg)(a3:af)(v10:Int)(v12:Sl af)(x9:bz){A:Type}(k:Bool->Option A):Option A:=gW aB (G4 E) E.N A4 4 [1,1,1,1,1,1,1,1] [] (gV k) ⟨[(2,eP a2),(4,.cl (.ptr 4 0)),(5,.cl (.ptr 5 0)),(7,.cl (.ptr 7 0)),(9,.cl (.ptr 9 0)),(10,.int v10),(12,eP v12)],[(4,eB 24 a0),(5,eB 26 a1),(7,eB 43 a3),(9,eB 50 x9)],[]⟩
theorem e4(a0:ak)(a1:bF)(a2:Sl bg)(a3:af):(F4 E (a0,a1,a2,a3)).T k=(E.c23 (a0,a2,8)).T λr1=>cond (!r1) ((E.c19 ()).T λr2=>k r2) ((E.c24 a3).T λr3=>cond (!r3) ((E.c19 ()).T λr4=>k r4) ((E.c25 (a0,a1,a2,a3)).T λr5=>(E.c26 (a0,a1,a2)).T λr6=>cond (r6==0) ((E.c27 (a0,a2,a3)).T λr7=>cond (!r7) (Fp E a0 a1 a2 a3 r5.2 2 r5.1 k) (Fp E a0 a1 a2 a3 r5.2 r6 r5.1 k)) (Fp E a0 a1 a2 a3 r5.2 r6 r5.1 k))):=dS
theorem zJW(a0:ak)(a1:bF)(a2:Sl bg)(a3:af)(v10 v11:Int)(x9:bz):Fp E a0 a1 a2 a3 v10 v11 x9 k=cond (v11==0) (zJT E a0 a1 a2 a3 v10 v11 x9 k) (YT E a0 a1 a2 a3 v10 v11 (⟨0,(λ_=>(⟨0,(⟨0,(λ_=>0)⟩:(Sl Int)),(⟨0,(λ_=>0)⟩:(Sl Int))⟩:af))⟩:(Sl af)) x9 k):=krY
theorem zX5(a0:ak)(a1:bF)(a2:Sl bg)(a3:af)(v10 v11:Int)(x9:bz):zJT E a0 a1 a2 a3 v10 v11 x9 k=(E.c28 (a0,a1,a2)).T λr1=>zJU E a0 a1 a2 a3 v10 v11 r1.1 r1.2 x9 k:=krY
theorem zJX(a0:ak)(a1:bF)(a2:Sl bg)(a3:af)(v10 v11:Int)(v12:Sl af)(x9:bz):YT E a0 a1 a2 a3 v10 v11 v12 x9 k=cond (v11 != 0) (cond (v10==v11) ((E.c29 (x9,(⟨0,(⟨0,λ_=>default⟩:(Sl Int)),(⟨0,λ_=>default⟩:(Sl Int)),(⟨0,(⟨0,λ_=>default⟩:(Sl Int)),(⟨0,λ_=>default⟩:(Sl Int))⟩:af)⟩:bz))).T λr1=>cond r1 ((E.c19 ()).T λr2=>k r2) (k false)) (k false)) (zJV E a0 a1 a2 a3 v10 v12 x9 k):=krY
theorem zX6(a0:ak)(a1:bF)(a2:Sl bg)(a3:af)(v10 v11:Int)(v12:Sl af)(ja:Bool)(x9:bz):zJU E a0 a1 a2 a3 v10 v11 v12 ja x9 k=cond (!ja) (YT E a0 a1 a2 a3 v10 8 v12 x9 k) (YT E a0 a1 a2 a3 v10 v11 v12 x9 k):=krY
theorem zX7(a0:ak)(a1:bF)(a2:Sl bg)(a3:af)(v10:Int)(v12:Sl af)(x9:bz):zJV E a0 a1 a2 a3 v10 v12 x9 k=cond (v10==0) ((E.c30 (a0,a1,a2,a3,v12)).T λr1=>(E.c29 (x9,r1)).T λr2=>cond r2 ((E.c19 ()).T λr3=>k r3) (k false)) (k false):=krY
end
theorem o4 [aC](E:E4)(h23:Ok aB 23 (ae.un E.c23))(h19:Ok aB 19 (ae.un E.c19))(h24:Ok aB 24 (ae.un E.c24))(h25:Ok aB 25 (ae.un E.c25))(h26:Ok aB 26 (ae.un E.c26))(h27:Ok aB 27 (ae.un E.c27))(h28:Ok aB 28 (ae.un E.c28))(h29:Ok aB 29 (ae.un E.c29))(h30:Ok aB 30 (ae.un E.c30)):Ok aB 4 (ae.un (F4 E)):=dU (((((((((ax.nil.addF h23).addF h19).addF h24).addF h25).addF h26).addF h27).addF h28).addF h29).addF h30)
abbrev Q4(C:ak×bF×Sl bg×af->ae Bool):Prop:=∀s r l t,C (s,r,l,t)=.ok true
theorem s4b{E:E4}(h19:Q19 E.c19)(h25:ztY E.c25)(h26:Q26 E.c26)(h27:QCh E.c27)(h28:ztW E.c28)(h29:Q29 E.c29)(h30:zt0 E.c30){s:ak}{r:bF}{l:Sl bg}{t:af}{A:Type}{k:Bool→Option A}(hs:sV s)(hl:l.len≤40)(h1:t.Hits.len≤30)(h2:t.aU.len≤30) :
  ((E.c25 (s,r,l,t)).T λr5 =>
   (E.c26 (s,r,l)).T λr6 =>
   cond (r6==0)
   ((E.c27 (s,l,t)).T λr7 =>
    cond (!r7)
    (Fp E s r l t r5.2 2 r5.1 k)
    (Fp E s r l t r5.2 r6 r5.1 k))
   (Fp E s r l t r5.2 r6 r5.1 k))=k true:=by
 have kn:(E.c19 ()).T (λr=>k r)=k true:=by rw[h19,aY]
 have err:∀e:Int,e≠0->∀W:Sl af,YT E s r l t e e W (CO 0) k=k true:=λe he W=>by
  rw[zJX,show(e != 0)=true by simpa using he,dO,qjp,dO];show(E.c29 (CO 0,CO 0)).T _=_;rw[h29 _ _ (zbB 0) (zbB 0) rfl,aY,dO];exact kn
 have er1:∀e:Int,e≠0->Fp E s r l t e e (CO 0) k=k true:=λe he=>by
  rw[zJW,show(e==0)=false by simpa using he,dN];exact err e he _
 by_cases h0:jY s r l=0
 case neg =>
  have e:CZ s r l (kZ s l t)=jY s r l:=by unfold CZ;rw[show(jY s r l != 0)=true by simpa using h0];rfl
  rcases h25 s r l t hs hl h1 h2 with⟨_,a⟩|⟨a,_⟩
  case inr=>rw[e]at a;exact absurd a h0
  rw[e]at a;rw[a,aY,h26 s r l hs hl,aY,show(jY s r l==0)=false by simpa using h0,dN];exact er1 _ h0
 obtain⟨he,_,h24⟩:=JL hs h0;have ev1:Ev s l 1:={toEvt:=he,l24:=h24,vw:=rfl};have ev2:Ev s l 2:={toEvt:=he,l24:=h24,vw:=rfl};have c25:=h25 s r l t hs hl h1 h2;have hd:∀(w:bz)(v:Int),((E.c26 (s,r,l)).T λr6=>cond (r6==0) ((E.c27 (s,l,t)).T λr7=>cond (!r7) (Fp E s r l t v 2 w k) (Fp E s r l t v r6 w k)) (Fp E s r l t v r6 w k))=cond (!kZ s l t) (Fp E s r l t v 2 w k) (Fp E s r l t v 0 w k):=λw v=>by
  rw[h26 s r l hs hl,aY,h0,show((0:Int)==0)=true from rfl,dO,h27 s l t he h1,aY]
 cases hc:kZ s l t with
 | false =>
  have e:CZ s r l false=2:=by unfold CZ;rw[h0];rfl
  rw[hc,e]at c25;rcases c25 with⟨_,a⟩|⟨a,_⟩
  case inr=>cases a
  rw[a,aY,hd,hc,qdQ,dO];exact er1 2 (by decide)
 | true =>
 rw[hc]at c25 hd;obtain⟨w,hw,hf⟩:=h28 s r l ev1 ev2;have hd2:∀(x:bz)(v:Int),Fp E s r l t v 0 x k=cond (!(qZ s l 1&&qZ s l 2)) (YT E s r l t v 8 w x k) (YT E s r l t v 0 w x k):=λx v=>by
  rw[zJW,show((0:Int)==0)=true from rfl,dO,zX5,hw,aY,zX6]
 cases hfew:qZ s l 1&&qZ s l 2 with
 | false =>
  have e:CZ s r l true=8:=by unfold CZ;rw[h0,hfew];rfl
  rw[e]at c25;rcases c25 with⟨_,a⟩|⟨a,_⟩
  case inr=>cases a
  rw[a,aY,hd,I7,dN,hd2,hfew,qdQ,dO];exact err 8 (by decide) w
 | true =>
 have e:CZ s r l true=0:=by unfold CZ;rw[h0,hfew];rfl
 rw[e]at c25;rcases c25 with⟨a,_⟩|⟨_,hb,f,F,x,a,a2,a3⟩
 exact absurd rfl a;obtain⟨f',F',IX⟩:=hf hfew;subst IX;obtain⟨_,_,n1,n2⟩:=zwK e;obtain⟨y,b,b2,b3⟩:=h30 s r l t f' ⟨F'.ev,he,h24,hc⟩ hb F' (F'.len n1 n2);rw[a,aY,hd,I7,dN,hd2,hfew,I7,dN];show YT E s r l t 0 0 f'.bn x k=_;rw[zJX,show((0:Int) != 0)=false from rfl,dN,zX7,show((0:Int)==0)=true from rfl,dO,b,aY,h29 x y a3 b3 (by rw[a2,b2,F.uniq F' he h24]),aY,dO];exact kn
theorem s4{E:E4}(h23:Q23 E.c23)(h19:Q19 E.c19)(h24:Q24 E.c24)(h25:ztY E.c25)(h26:Q26 E.c26)(h27:QCh E.c27)(h28:ztW E.c28)(h29:Q29 E.c29)(h30:zt0 E.c30):Q4 (F4 E):=λs r l t=>ae.ext λk=>by
 refine Eq.trans ?_ aY.symm;have kn:(E.c19 ()).T (λr=>k r)=k true:=by rw[h19,aY]
 rw[e4,h23,aY];cases hsh:zfu s l 8 with
 | false=>exact kn
 | true =>
 obtain⟨hs,hl,_⟩:=zzV hsh;rw[I7,dN,h24,aY];by_cases ht:t.Hits.len<=30/\t.aU.len<=30;rw [dC ht,I7,dN];exact s4b h19 h25 h26 h27 h28 h29 h30 hs hl ht.1 ht.2;rw [dR ht];exact kn
end Go.Proofs
namespace Go.Pm
variable [aC]
open Go.Shelf Go.RowKit Go.Lib Go.Sort Go.Proofs
theorem zf4{w w':World}(h1:w'.heap=w.heap)(h2:w'.tape=w.tape)(h3:w'.drawn=w.drawn)(h4:w'.os=w.os)(h5:w'.output=w.output):w'=w:=by
 cases w;cases w';simp_all
theorem zmp{w w':World}{h:Fz}(b : @yh ⟨1⟩ h w.heap.size w w'):∃q os,w'=grow (w.drewN q) os:=by
 obtain⟨bos,zJY,zX8,z2U,zCF,zCG⟩:=b;refine⟨w'.drawn-w.drawn,w'.heap.extract w.heap.size w'.heap.size,zf4 ?_ zJY ?_ bos zX8⟩;show w'.heap=w.heap++w'.heap.extract w.heap.size w'.heap.size;apply Array.ext_getElem?;intro i;rw[Array.getElem?_append];split;rename_i hl;exact zCG i hl;rename_i hl;rw[Array.getElem?_extract];by_cases iM:i<w'.heap.size;rw[eY omY];congr 1;omega;rw[fH omY,qjj omY];show w'.drawn=w.drawn+(w'.drawn-w.drawn);have:w.drawn*1<=w'.drawn*1:=zCF;omega
theorem U8{w:World}{g q:Nat}{cur:Array Value}{e:TypeId}{fr:Nat×Nat}{off:Nat}(F:Array Value)(hb:w.heap[g]? = some (.cells cur e fr)) :
  ∃Zu,(putRow id (Sort.ahead w q) g off F).heap[g]? = some (.cells Zu e fr)/\Zu.size=cur.size:=by
 refine⟨putCells id off F cur,?_,by simp[putCells]⟩;simp[putRow,mapBlock,Sort.ahead,qjS,hb,onCells]
theorem IV{w:World}{g q off:Nat}(F:Array Value){k:Nat}(hk:k≠g):(putRow id (Sort.ahead w q) g off F).heap[k]? = w.heap[k]?:=by
 simp[putRow,mapBlock,Sort.ahead,qjS,qjO hk]
theorem zmq{C:List PA→ae (List PA)}{caps:List PV}{ag:Bool}{get:Nat→List PV}{i j:Nat}(h:(KA C caps ag get i j).isSome=true) :
  ∃rs,(C (elP ag (get i)::elP ag (get j)::caps.map .one)).o=some rs/\rs=[.one (.int .i64 (oG C caps ag get i j))]:=by
 unfold oG;cases e:KA C caps ag get i j with
 | none=>rw[e]at h;cases h
 | some c =>
  unfold KA at e;obtain⟨rs,h1,h2⟩:=ae.T_some e;refine⟨rs,h1,?_⟩;split at h2;cases h2;rfl;cases h2
theorem Rx{P:Program}{ρ:Ren}(L:SlLaysF0.n6 P ρ){e s b:Nat}(he:ρ.t 24=e)(uT:jK P e=some true)(jU:qI P e=some s)(hc:dA P (ρ.f 6)):gB P (ρ.f 6) (.sort e s b):=by
 intro w h base v n get gf caps cv ag C hC hcv uQ _ iU ⟨xs,jv,hr⟩ mf hw cZ RH ⟨hn,hS,hO⟩;rw[uT]at uQ;simp only[bV]at uQ;subst uQ;refine⟨hc,?_⟩;have hdr:∀(w':World)(k:Nat),w.drawn<=w.drawn+k:=λ_ k=>Nat.le_add_right _ _;have none:∀(p:Option Addr)(cap:Nat),n=0->v=.slice p 0 cap->Calls P (ρ.f 6) #[v,.func (.func gf) #[] cv.toArray] w λr w'=>r=.returned (.tuple #[])/\AC h w' base e s v n (KC n (oG C caps true get) get)/\GrB w w' v.ownBlock:=by
  rintro p cap rfl rfl;refine(AnyF.slices_SortFunc_none L p cap _ w).mono ?_;rintro r w' ⟨rfl,rfl⟩;exact⟨rfl,⟨xs,jv,λi hi=>absurd hi (RP i)⟩,⟨rfl,rfl,rfl,kD _,λ_ _ _=>rfl⟩,kD _⟩
 rcases jv.2 with⟨h1,h2⟩|⟨PQ,cap,cur,rfl,hb,ou,zxM,kR,hcs,htk⟩
 exact none _ _ h2 h1;by_cases hn0:n=0;subst hn0;exact none _ _ rfl rfl;have:Inhabited (Fin n):=⟨⟨0,omY⟩⟩;let enc:Fin n->List Value:=λi=>(xs.drop (i.val*s)).take s;let c:=oG C caps true get;let cf:Fin n->Fin n->Int:=λx y=>c x.val y.val;let d:Array (Fin n):=Array.ofFn id;have PR:d.size=n:=Array.size_ofFn;have hdi:∀i (hi:i<n),d[i]! = ⟨i,hi⟩:=λi hi=>by
  rw[qjC d i (by rw[PR];exact hi)];simp[d]
 have iM:PQ<w.heap.size:=(VD.1 ou).1;have hbn:h PQ=Option.none:=cZ PQ rfl;have hmul:∀i,i<n->i*s+s<=n*s:=λi hi=>by have:=RJ s (qdp hi);rw[Vr]at this;exact this
 have hk:∀x,(enc x).length=s:=λx=>by
  have:=hmul x.val x.isLt;simp only[enc,qdB,Zx,jv.1];omega
 have zX9:∀j,j<n*s->cur[j]? = xs[j]?:=λj hj=>by
  have:(cur.toList.take (n*s))[j]? = xs[j]?:=by rw[htk]
  rw[Jn,eY hj]at this;simpa using this
 have hxl:∀j,j<n*s->∃u,xs[j]? = some u:=λj hj=>⟨xs[j]'(by rw[jv.1];exact hj),Au _⟩;have h1:∀x,∀u∈enc x,u.oneCell'=true:=λx u hu=>by
  obtain⟨j,hj⟩:=ZI hu;obtain⟨p,_,hp⟩:=(hr x.val x.isLt).get' j u hj;exact hp.one
 have zJZ:∀j (hj:j<n*s),(flatK enc s d)[j]! = xs[j]'(by rw[jv.1];exact hj):=λj hj=>by
  have hq:j/s<n:=qj0 (by rw[qdK];exact hj);rw[get_flatK _ _ _ _ (by rw[PR];exact hj),hdi _ hq];have hm:=Nat.mod_lt j iU;have hdm:=jqn j s;rw[qjC _ _ (by rw[hk];exact hm)];simp only[enc,List.getElem_take,List.getElem_drop];congr 1;rw[qdK];exact hdm
 have hH:HoldsK enc s w PQ 0 d:=λj hj=>by
  have hj:j<n*s:=by rw[size_flatK,PR]at hj;exact hj
  refine⟨?_,frozen_of_row w PQ _ cur e ou⟩;rw[zJZ j hj,cell_of ou,O3,zX9 j hj];exact Au _
 have eg:∀args w,(callFunc gf args).run P w=.ok (.enter gf args) w:=by
  have hcg:dA P gf:=by
   obtain⟨rs,hwp,_⟩:=zmq (hS 0 0 omY omY);exact(hC _ _ hwp w h (.agg (enc ⟨0,omY⟩).toArray :: .agg (enc ⟨0,omY⟩).toArray::cv) ⟨⟨_,rfl,hr 0 omY⟩,⟨_,rfl,hr 0 omY⟩,RL.map_left.2 hcv⟩ hw).1
  exact λargs w=>eF hcg
 have z0P:CmpLays P gf cv.toArray enc s cf PQ 0 d.size w:=by
  intro m os dk hdk x y;obtain⟨rs,hwp,hrs⟩:=zmq (hS x.val y.val x.isLt y.isLt);have hwh:Hw h (sortWorldK enc s w PQ 0 m dk os):=hw.same λk o hk=>by
   have hkb:k≠PQ:=λe=>by rw[e,hbn]at hk;cases hk
   have hkl:=hw.lt hk;show((putRow id (Sort.ahead w m) PQ 0 (flatK enc s dk)).heap++os)[k]? = _;rw[dq5 (by simpa [putRow,mapBlock,Sort.ahead]using hkl)];exact IV _ hkb
  obtain⟨_,dh⟩:=hC _ _ hwp (sortWorldK enc s w PQ 0 m dk os) h (.agg (enc x).toArray :: .agg (enc y).toArray::cv) ⟨⟨_,rfl,hr x.val x.isLt⟩,⟨_,rfl,hr y.val y.isLt⟩,RL.map_left.2 hcv⟩ hwh;rw[show(#[Value.agg (enc x).toArray,.agg (enc y).toArray]++cv.toArray)=(Value.agg (enc x).toArray :: .agg (enc y).toArray::cv).toArray by simp];refine dh.mono ?_;rintro e' w' ⟨h',v',rfl,o8,sH,_,_,_⟩;subst hrs;have Bj:v'=.int .i64 (cf x y):=by
   have:Rep h' (.int .i64 (cf x y)) v':=o8;cases this;rfl
  subst Bj;exact⟨rfl,zmp sH⟩
 have zYa:SWO (ltOf cf):=by
  refine⟨λx=>?_,λx y z hxy hyz=>?_,λx y z hxy hyz=>?_⟩;have:0≤c x.val x.val:=hO.1 x.val x.isLt;simp only[ltOf,dqQ];show ¬c x.val x.val<0;omega;simp only [ltOf,lQ]at hxy hyz ⊢;exact hO.2.2 _ _ _ x.isLt y.isLt z.isLt hxy hyz;simp only [ltOf,dqQ]at hxy hyz ⊢;intro hxz;have hxy:¬c x.val y.val<0:=hxy;have hyz:¬c y.val z.val<0:=hyz;have hxz:c x.val z.val<0:=hxz;by_cases e1:y.val=z.val;rw[e1]at hxy;exact hxy hxz;by_cases e2:x.val=y.val;rw[e2]at hxz;exact hyz hxz;have a1:c z.val y.val<0:=by rcases hO.2.1 y.val z.val y.isLt z.isLt e1 with h|h;exact absurd h.1 hyz;exact h.1
  exact hxy (hO.2.2 _ _ _ x.isLt z.isLt y.isLt hxz a1)
 have aE:∀w,(isAgg (ρ.t 24)).run P w=.ok true w:=λw=>by rw[he];exact oK uT
 have zE:∀w,(Go.sizeOf (ρ.t 24)).run P w=.ok s w:=λw=>by rw[he];exact run_sizeOf jU
 have dh:=AnyQ.slices_SortFunc L s aE zE enc hk h1 cf zYa gf cv.toArray PQ 0 cap d w eg z0P hH iM (by rw[PR];omega);rw[PR]at dh;refine dh.mono ?_;rintro r w' ⟨rfl,d',m,os,zOq,IW,rfl⟩;obtain⟨hps,_,hpp⟩:=zOq;have zbD:d'.size=n:=by rw[hps,PR]
 have HY:∀(z:Array (Fin n)),z.size=n->z.extract 0 n=z:=λz hz=>Array.ext (by simp[hz]) (λi h1 h2=>by simp);rw[HY d' zbD,HY d PR]at hpp;have hl:d'.toList.map Fin.val=yN n c:=by
  refine zbs hO ?_ ?_;refine(hpp.map Fin.val).trans ?_;have:d.toList.map Fin.val=List.range n:=by
   apply qdk;intro i;simp only[d,qdd];by_cases hi:i<n;simp[hi];rw[qdm (by simp;omega),qdm (by simp;omega)];rfl
  rw[this];rw [qjM,qdi];intro i j hi hj Jm;have kH:i<n:=by simpa [zbD]using hi
  have qH:j<n:=by simpa [zbD]using hj
  have:=IW i j (ui _) Jm qH;rw[qjC d' j omY,qjC d' i omY]at this;simp only[ltOf,dqQ]at this;exact this
 have zbV:∀i (hi:i<n),KC n c get i=get (d'[i]'omY).val:=λi hi=>by
  unfold KC;rw[<- hl];congr 1;rw[jqx,qdd];simp[zbD,hi]
 obtain⟨Zu,zEm,zOo⟩:=U8 (q:=m) (off:=0) (flatK enc s d') ou;have zec:(sortWorldK enc s w PQ 0 m d' os).heap[PQ]? = some (.cells Zu e (0,0)):=by
  show((putRow id (Sort.ahead w m) PQ 0 (flatK enc s d')).heap++os)[PQ]? = _;rw[dq5 (by simpa [putRow,mapBlock,Sort.ahead]using iM)];exact zEm
 have hH':HoldsK enc s (sortWorldK enc s w PQ 0 m d' os) PQ 0 d':=holdsK_sortWorldK_c enc s w PQ 0 d d' m os hH iM (by rw[zbD,PR]);have zJ0:∀j (hj:j<n*s),Zu[j]? = some ((flatK enc s d')[j]!):=λj hj=>by
  have:=(hH' j (by rw[size_flatK,zbD];exact hj)).1;rw[cell_of zec,O3]at this;exact this
 refine⟨rfl,⟨Zu.toList.take (n*s),⟨by rw[qdB,qja,zOo,hcs];exact Nat.min_eq_left (RJ s zxM),.inr ⟨PQ,cap,Zu,rfl,hb,zec,zxM,kR,by rw[zOo,hcs],rfl⟩⟩,λi hi=>?_⟩,?_⟩;have e1:((Zu.toList.take (n*s)).drop (i*s)).take s=enc (d'[i]'omY):=by
  apply qdk;intro j;have hm:=hmul i hi;rw[Jn];split;rename_i hj;rw[qdl,Jn,eY omY,jqU,zJ0 _ omY];have hdiv:(i*s+j)/s=i:=by rw[qdK,Nat.mul_add_div iU,Nat.div_eq_of_lt hj,qd3]
  have znr:(i*s+j)%s=j:=by rw[qdK,jqo,jqj hj]
  rw[get_flatK _ _ _ _ (by rw[zbD];omega),hdiv,znr,qjC d' i omY,qjC _ _ (by rw[hk];exact hj)];exact(Au _).symm;rename_i hj;rw[qdm (by rw[hk];omega)]
 rw[e1,zbV i hi];exact hr _ (d'[i]'omY).isLt;refine⟨⟨rfl,rfl,rfl,?_,fun k hk jk => ?_⟩,KQ (Nat.le_add_right _ _)⟩;show w.heap.size≤((putRow id (Sort.ahead w m) PQ 0 (flatK enc s d')).heap++os).size;simp[putRow,mapBlock,Sort.ahead];show((putRow id (Sort.ahead w m) PQ 0 (flatK enc s d')).heap++os)[k]? = _;rw[dq5 (by simpa [putRow,mapBlock,Sort.ahead]using hk)];exact IV _ λe=>jk (by rw[e];rfl)
end Go.Pm
namespace Go.Pm
open Go.Shelf Go.RowKit Go.Lib Go.Proofs
theorem zbE{P:Program}{ρ:Ren}(L:SlLaysE0.n41 P ρ)(i0:TypeInfo)(z:Value)(size bytes:Nat)(hi:P.info? (ρ.t 23)=some i0)(hz0:i0.zero=some z)(hz1:i0.size=size)(hz2:i0.bytes=bytes)(AQ:z.cells.size=size)(jU:0<size)
    (z23:∀w,(Go.sizeOf (ρ.t 23)).run P w=.ok size w) (a:Addr) (c:Nat) (w:World) :
    Calls P (ρ.f 41) #[.slice (some a) 0 c] w λe w'=>∃v',e=.returned v'/\w'.ownsRow w.heap.size (ρ.t 23) size v' 0 []/\Below w.heap.size w w':=by
  have mixed:=L.mixed;have t4:=L.t4;have a4:=L.a4;have z4:=L.z4;have v4:=L.v4;have t22:=L.t22;have a22:=L.a22;have z22:=L.z22;have v22:=L.v22;have q22:∀(w:World)(a:Option Addr)(n c n' c':Nat),(binOp .eql (ρ.t 22) (.slice a n c) (.slice none n' c')).run P w=.ok (.bool a.isNone) w:=λw a n c n' c'=>Lib.run_eql_slice_nil w _ _ a n c n' c' L.t22;have u22:∀w,Sem.run P (underlying (ρ.t 22)) w=.ok (TypeDesc.slice (ρ.t 23)) w:=λw=>run_underlying t22;obtain⟨_,_,FG⟩:=L.f41
  go_enter FG,SlBodyN.n41_ntmps ρ
  go_wp2_with (at_builtin;refine wpList_append_own _ rfl _ _ (ρ.t 22) rfl w.heap.size (ρ.t 23) i0 z size bytes t22 hi hz0 hz1 hz2 AQ jU _ _ _ rfl (World.ownsRow_made w #[] 0 (kD _) (ui _) (by simp)) a 0 c [] rfl (by simp) (by intro j u hj;simp at hj) (by intro u hu;cases hu) (by unfold maxLen;omega) omY (by simp) ?_)
  intro v' w1 jv zec zbQ
  go_wp2
  go_ret
  exact⟨v',rfl,by simpa using jv,((Below.refl _ w).alloc (kD _) _).grown zec (by simp) (by intro k hk;simp[Value.ownBlock]at hk;omega)⟩
theorem Ry{P:Program}{ρ:Ren}(L:SlLaysE0.n41 P ρ){e s b:Nat}{i0:TypeInfo}{z:Value}(he:ρ.t 23=e)(hi:P.info? e=some i0)(hz0:i0.zero=some z)(hz1:i0.size=s)(hz2:i0.bytes=b)(AQ:z.cells.size=s)(jU:qI P e=some s)(hs:0<s)
    (hc:dA P (ρ.f 41)):gB P (ρ.f 41) (.clone e s b):=by
  subst he;intro w h v n get hv hw h1 h2;refine⟨hc,?_⟩;have zE:∀w,(Go.sizeOf (ρ.t 23)).run P w=.ok s w:=λw=>run_sizeOf jU
  have fin:∀(v':Value)(w':World)(news:List Value),w'.ownsRow w.heap.size (ρ.t 23) s v' n news->Below w.heap.size w w'->(∀i,i<n->RL (Rep h) (get i) ((news.drop (i*s)).take s)) ->
      ∃(h':Fz)(u:Value),Ending.returned v'=.returned u/\u.oneCell'=true/\AC h' w' w.heap.size (ρ.t 23) s u n get/\(∀k,u.ownBlock=some k->h' k=none) /\
        yh h w.heap.size w w'/\kF h h'/\Hw h' w'/\∀b o,h' b=some o->h b=some o\/w.heap.size<=b:=by
    intro v' w' news jv sH hr;have hb:yh h w.heap.size w w':=⟨sH.os,sH.tape,sH.output,sH.size,kD _,λk hk=>sH.block k hk⟩;refine⟨h,v',rfl,?_,⟨news,jv,hr⟩,λk hk=>?_,hb,λ_ _ h=>h,hw.same λk o hk=>hb.block k (hw.lt hk),λ_ _ h=>.inl h⟩;rcases jv.2 with⟨rfl,_⟩|⟨g,cap,cur,rfl,_⟩<;>rfl
    rcases jv.2 with⟨rfl,_⟩|⟨g,cap,cur,rfl,hg,_⟩
    cases hk
    · have : g = k := by simpa [Value.ownBlock] using hk
      subst this;cases e:h g with|none=>rfl|some o=>have:=hw.lt e;omega
  cases hv with
  | sl0 _ _ hu =>
    refine(AnyE.slices_Clone_nil L 0 0 w).mono ?_;rintro r w' ⟨rfl,rfl⟩;exact fin _ _ [] (World.ownsRow_nil _ _ _ _) (Below.refl _ _) λi hi=>absurd hi (RP i)
  | sle _ _ a cap hu =>
    refine(zbE L i0 z s b hi hz0 hz1 hz2 AQ hs zE a cap w).mono ?_;rintro r w' ⟨v',rfl,jv,sH⟩;exact fin _ _ [] jv sH λi hi=>absurd hi (RP i)
  | sl _ _ _ hu bk off cap C ty fr vs hb kR hlen AX hr =>
    let news:List Value:=(List.range (n*s)).map λq=>vs (q/s) (q%s);have hl:news.length=n*s:=by simp[news]
    have hq:∀q,q<n*s->q/s<n/\q%s<s:=λq hq=>⟨qj0 (by rw[qdK];exact hq),Nat.mod_lt q hs⟩;have hn:∀q,q<n*s->news[q]? = some (vs (q/s) (q%s)):=λq hq=>by simp[news,hq]
    have hx:∀i j,i<n->j<s->∃x,(get i)[j]? = some x:=λi j hi hj=>⟨_,Au (by rw[hlen i hi];exact hj)⟩;have ou:=hw.fz hb;refine(AnyE.slices_Clone L i0 z s b hi hz0 hz1 hz2 AQ hs zE bk off n cap news w hl h2 h1 (λj u hj=>?_) λu hu=>?_).mono ?_;have hjl:j<n*s:=by have:=(Bl.1 hj).1;omega
    obtain⟨a1,a2⟩:=hq j hjl;rw[hn j hjl]at hj;cases hj;obtain⟨x,hx⟩:=hx _ _ a1 a2;have hc:=AX _ _ x a1 hx;have mf:=(hr _ _ x a1 hx).one;rw[show off+j/s*s+j%s=off+j by rw[qjt,qdK];rw[jqn]]at hc;rw[cell_of ou];exact hc;obtain⟨j,hj⟩:=ZI hu;have hjl:j<n*s:=by have:=(Bl.1 hj).1;omega
    obtain⟨a1,a2⟩:=hq j hjl;rw[hn j hjl]at hj;cases hj;obtain⟨x,hx⟩:=hx _ _ a1 a2;exact(hr _ _ x a1 hx).one;rintro r w' ⟨v',rfl,jv,_,sH⟩;refine fin _ _ news jv sH λi hi=>RL.of_get ?_ λj x y hx hy=>?_;have hm:i*s+s≤n*s:=by have:=RJ s (qdp hi);rw [Vr]at this;exact this
    rw[hlen i hi,qdB,Zx,hl];omega;have hj:j<s:=by have:=(Bl.1 hx).1;rw [hlen i hi]at this;exact this
    have hm:i*s+s<=n*s:=by have:=RJ s (qdp hi);rw[Vr]at this;exact this
    rw[Jn,eY hj,qdl,hn _ omY]at hy;rw[show(i*s+j)/s=i by rw[qdK,Nat.mul_add_div hs,Nat.div_eq_of_lt hj,qd3],show(i*s+j)%s=j by rw[qdK,jqo,jqj hj]]at hy;cases hy;exact hr i j x hi hx
end Go.Pm
namespace Go.Proofs
open Go.Shelf
open Go.Pm (jX)
def Tryz.laysS253_ren:Go.Shelf.Ren:=⟨fun|6=>253|15=>184|14=>256|28=>220|29=>221|20=>258|21=>259|22=>260|23=>261|24=>262|25=>263|26=>264|27=>265|46=>266|47=>242|48=>243|49=>267|50=>268|57=>269|n=>n,fun|22=>195|24=>204|25=>322|3=>3|39=>260|0=>0|53=>292|55=>294|4=>4|46=>286|45=>285|50=>174|5=>5|9=>9|66=>305|70=>309|76=>317|77=>221|n=>n,fun|n=>n⟩
theorem Tryz.laysS253:Go.Proofs.SlLaysF0.n6 Tryz.prog Tryz.laysS253_ren:={
  mixed:=by kernel_rfl
  f6:=⟨Tryz.f253.name,by decide,Tryz.func253.trans (jX some (by kernel_rfl))⟩
  f14:=⟨Tryz.f256.name,by decide,Tryz.func256.trans (jX some (by kernel_rfl))⟩
  f15:=Tryz.func184.trans (jX some (by kernel_rfl))
  f20:=⟨Tryz.f258.name,by decide,Tryz.func258.trans (jX some (by kernel_rfl))⟩
  f21:=⟨Tryz.f259.name,by decide,Tryz.func259.trans (jX some (by kernel_rfl))⟩
  f22:=⟨Tryz.f260.name,by decide,Tryz.func260.trans (jX some (by kernel_rfl))⟩
  f23:=⟨Tryz.f261.name,by decide,Tryz.func261.trans (jX some (by kernel_rfl))⟩
  f24:=⟨Tryz.f262.name,by decide,Tryz.func262.trans (jX some (by kernel_rfl))⟩
  f25:=⟨Tryz.f263.name,by decide,Tryz.func263.trans (jX some (by kernel_rfl))⟩
  f26:=⟨Tryz.f264.name,by decide,Tryz.func264.trans (jX some (by kernel_rfl))⟩
  f27:=⟨Tryz.f265.name,by decide,Tryz.func265.trans (jX some (by kernel_rfl))⟩
  f28:=Tryz.func220.trans (jX some (by kernel_rfl))
  f29:=Tryz.func221.trans (jX some (by kernel_rfl))
  f46:=⟨Tryz.f266.name,by decide,Tryz.func266.trans (jX some (by kernel_rfl))⟩
  f47:=Tryz.func242.trans (jX some (by kernel_rfl))
  f48:=Tryz.func243.trans (jX some (by kernel_rfl))
  f49:=⟨Tryz.f267.name,by decide,Tryz.func267.trans (jX some (by kernel_rfl))⟩
  f50:=⟨Tryz.f268.name,by decide,Tryz.func268.trans (jX some (by kernel_rfl))⟩
  f57:=⟨Tryz.f269.name,by decide,Tryz.func269.trans (jX some (by kernel_rfl))⟩
  t0:=Tryz.underlying0
  a0:=Tryz.isAgg0
  z0:=Tryz.sizeOf0
  v0:=Tryz.zeroValue0
  t3:=Tryz.underlying3
  a3:=Tryz.isAgg3
  z3:=Tryz.sizeOf3
  v3:=Tryz.zeroValue3
  t4:=Tryz.underlying4
  a4:=Tryz.isAgg4
  z4:=Tryz.sizeOf4
  v4:=Tryz.zeroValue4
  t5:=Tryz.underlying5
  a5:=Tryz.isAgg5
  z5:=Tryz.sizeOf5
  v5:=Tryz.zeroValue5
  t9:=Tryz.underlying9
  a9:=Tryz.isAgg9
  z9:=Tryz.sizeOf9
  v9:=Tryz.zeroValue9
  t22:=Tryz.underlying195
  a22:=Tryz.isAgg195
  z22:=Tryz.sizeOf195
  v22:=Tryz.zeroValue195
  t25:=Tryz.underlying322
  a25:=Tryz.isAgg322
  z25:=Tryz.sizeOf322
  v25:=Tryz.zeroValue322
  t39:=Tryz.underlying260
  a39:=Tryz.isAgg260
  z39:=Tryz.sizeOf260
  v39:=Tryz.zeroValue260
  t45:=Tryz.underlying285
  a45:=Tryz.isAgg285
  z45:=Tryz.sizeOf285
  v45:=Tryz.zeroValue285
  t46:=Tryz.underlying286
  a46:=Tryz.isAgg286
  z46:=Tryz.sizeOf286
  v46:=Tryz.zeroValue286
  t50:=Tryz.underlying174
  a50:=Tryz.isAgg174
  z50:=Tryz.sizeOf174
  v50:=Tryz.zeroValue174
  t53:=Tryz.underlying292
  a53:=Tryz.isAgg292
  z53:=Tryz.sizeOf292
  v53:=Tryz.zeroValue292
  t55:=Tryz.underlying294
  a55:=Tryz.isAgg294
  z55:=Tryz.sizeOf294
  v55:=Tryz.zeroValue294
  t66:=Tryz.underlying305
  a66:=Tryz.isAgg305
  z66:=Tryz.sizeOf305
  v66:=Tryz.zeroValue305
  t70:=Tryz.underlying309
  a70:=Tryz.isAgg309
  z70:=Tryz.sizeOf309
  v70:=Tryz.zeroValue309
  t76:=Tryz.underlying317
  a76:=Tryz.isAgg317
  z76:=Tryz.sizeOf317
  v76:=Tryz.zeroValue317
  t77:=Tryz.underlying221
  a77:=Tryz.isAgg221
  z77:=Tryz.sizeOf221
  v77:=Tryz.zeroValue221}
def Tryz.laysS133_ren:Go.Shelf.Ren:=⟨fun|6=>133|15=>184|14=>183|28=>220|29=>221|20=>212|21=>213|22=>214|23=>215|24=>216|25=>217|26=>218|27=>219|46=>241|47=>242|48=>243|49=>244|50=>245|57=>250|n=>n,fun|22=>30|24=>43|25=>220|3=>3|39=>260|0=>0|53=>292|55=>294|4=>4|46=>286|45=>285|50=>174|5=>5|9=>9|66=>305|70=>309|76=>317|77=>221|n=>n,fun|n=>n⟩
theorem Tryz.laysS133:Go.Proofs.SlLaysF0.n6 Tryz.prog Tryz.laysS133_ren:={
  mixed:=by kernel_rfl
  f6:=⟨Tryz.f133.name,by decide,Tryz.func133.trans (jX some (by kernel_rfl))⟩
  f14:=⟨Tryz.f183.name,by decide,Tryz.func183.trans (jX some (by kernel_rfl))⟩
  f15:=Tryz.func184.trans (jX some (by kernel_rfl))
  f20:=⟨Tryz.f212.name,by decide,Tryz.func212.trans (jX some (by kernel_rfl))⟩
  f21:=⟨Tryz.f213.name,by decide,Tryz.func213.trans (jX some (by kernel_rfl))⟩
  f22:=⟨Tryz.f214.name,by decide,Tryz.func214.trans (jX some (by kernel_rfl))⟩
  f23:=⟨Tryz.f215.name,by decide,Tryz.func215.trans (jX some (by kernel_rfl))⟩
  f24:=⟨Tryz.f216.name,by decide,Tryz.func216.trans (jX some (by kernel_rfl))⟩
  f25:=⟨Tryz.f217.name,by decide,Tryz.func217.trans (jX some (by kernel_rfl))⟩
  f26:=⟨Tryz.f218.name,by decide,Tryz.func218.trans (jX some (by kernel_rfl))⟩
  f27:=⟨Tryz.f219.name,by decide,Tryz.func219.trans (jX some (by kernel_rfl))⟩
  f28:=Tryz.func220.trans (jX some (by kernel_rfl))
  f29:=Tryz.func221.trans (jX some (by kernel_rfl))
  f46:=⟨Tryz.f241.name,by decide,Tryz.func241.trans (jX some (by kernel_rfl))⟩
  f47:=Tryz.func242.trans (jX some (by kernel_rfl))
  f48:=Tryz.func243.trans (jX some (by kernel_rfl))
  f49:=⟨Tryz.f244.name,by decide,Tryz.func244.trans (jX some (by kernel_rfl))⟩
  f50:=⟨Tryz.f245.name,by decide,Tryz.func245.trans (jX some (by kernel_rfl))⟩
  f57:=⟨Tryz.f250.name,by decide,Tryz.func250.trans (jX some (by kernel_rfl))⟩
  t0:=Tryz.underlying0
  a0:=Tryz.isAgg0
  z0:=Tryz.sizeOf0
  v0:=Tryz.zeroValue0
  t3:=Tryz.underlying3
  a3:=Tryz.isAgg3
  z3:=Tryz.sizeOf3
  v3:=Tryz.zeroValue3
  t4:=Tryz.underlying4
  a4:=Tryz.isAgg4
  z4:=Tryz.sizeOf4
  v4:=Tryz.zeroValue4
  t5:=Tryz.underlying5
  a5:=Tryz.isAgg5
  z5:=Tryz.sizeOf5
  v5:=Tryz.zeroValue5
  t9:=Tryz.underlying9
  a9:=Tryz.isAgg9
  z9:=Tryz.sizeOf9
  v9:=Tryz.zeroValue9
  t22:=Tryz.underlying30
  a22:=Tryz.isAgg30
  z22:=Tryz.sizeOf30
  v22:=Tryz.zeroValue30
  t25:=Tryz.underlying220
  a25:=Tryz.isAgg220
  z25:=Tryz.sizeOf220
  v25:=Tryz.zeroValue220
  t39:=Tryz.underlying260
  a39:=Tryz.isAgg260
  z39:=Tryz.sizeOf260
  v39:=Tryz.zeroValue260
  t45:=Tryz.underlying285
  a45:=Tryz.isAgg285
  z45:=Tryz.sizeOf285
  v45:=Tryz.zeroValue285
  t46:=Tryz.underlying286
  a46:=Tryz.isAgg286
  z46:=Tryz.sizeOf286
  v46:=Tryz.zeroValue286
  t50:=Tryz.underlying174
  a50:=Tryz.isAgg174
  z50:=Tryz.sizeOf174
  v50:=Tryz.zeroValue174
  t53:=Tryz.underlying292
  a53:=Tryz.isAgg292
  z53:=Tryz.sizeOf292
  v53:=Tryz.zeroValue292
  t55:=Tryz.underlying294
  a55:=Tryz.isAgg294
  z55:=Tryz.sizeOf294
  v55:=Tryz.zeroValue294
  t66:=Tryz.underlying305
  a66:=Tryz.isAgg305
  z66:=Tryz.sizeOf305
  v66:=Tryz.zeroValue305
  t70:=Tryz.underlying309
  a70:=Tryz.isAgg309
  z70:=Tryz.sizeOf309
  v70:=Tryz.zeroValue309
  t76:=Tryz.underlying317
  a76:=Tryz.isAgg317
  z76:=Tryz.sizeOf317
  v76:=Tryz.zeroValue317
  t77:=Tryz.underlying221
  a77:=Tryz.isAgg221
  z77:=Tryz.sizeOf221
  v77:=Tryz.zeroValue221}
end Go.Proofs
namespace Go.Proofs
open Go.Shelf
open Go.Pm (jX)
def Tryz.laysC181_ren:Go.Shelf.Ren:=⟨fun|41=>181|n=>n,fun|22=>39|23=>3|n=>n,fun|n=>n⟩
theorem Tryz.laysC181:Go.Proofs.SlLaysE0.n41 Tryz.prog Tryz.laysC181_ren:={
  mixed:=by kernel_rfl
  f41:=⟨Tryz.f181.name,by decide,Tryz.func181.trans (jX some (by kernel_rfl))⟩
  t4:=Tryz.underlying4
  a4:=Tryz.isAgg4
  z4:=Tryz.sizeOf4
  v4:=Tryz.zeroValue4
  t22:=Tryz.underlying39
  a22:=Tryz.isAgg39
  z22:=Tryz.sizeOf39
  v22:=Tryz.zeroValue39}
def Tryz.laysC252_ren:Go.Shelf.Ren:=⟨fun|41=>252|n=>n,fun|22=>195|23=>204|n=>n,fun|n=>n⟩
theorem Tryz.laysC252:Go.Proofs.SlLaysE0.n41 Tryz.prog Tryz.laysC252_ren:={
  mixed:=by kernel_rfl
  f41:=⟨Tryz.f252.name,by decide,Tryz.func252.trans (jX some (by kernel_rfl))⟩
  t4:=Tryz.underlying4
  a4:=Tryz.isAgg4
  z4:=Tryz.sizeOf4
  v4:=Tryz.zeroValue4
  t22:=Tryz.underlying195
  a22:=Tryz.isAgg195
  z22:=Tryz.sizeOf195
  v22:=Tryz.zeroValue195}
end Go.Proofs
namespace Go.Proofs
open Go Go.Pm
set_option maxRecDepth 100000
abbrev NK:Nat:=1000
def rH:ak:=⟨.of [⟨1,1,0,0,10,10,0,⟨0,0⟩,⟨0,0⟩,2,0,.of [],.of []⟩,⟨1,2,50,0,10,10,0,⟨0,0⟩,⟨0,0⟩,2,0,.of [],.of []⟩,⟨1,1,100,0,10,10,0,⟨0,0⟩,⟨0,0⟩,2,0,.of [],.of []⟩,⟨1,2,150,0,10,10,0,⟨0,0⟩,⟨0,0⟩,2,0,.of [],.of []⟩,⟨1,1,200,0,10,10,0,⟨0,0⟩,⟨0,0⟩,2,0,.of [],.of []⟩]⟩
def zA0:Sl bg:=.of [⟨0,2,1,0,0,0⟩,⟨2,3,1,0,0,1⟩,⟨4,4,1,0,0,2⟩,⟨4,8,1,0,0,0⟩,⟨1,5,1,0,0,1⟩,⟨3,5,1,0,0,1⟩]
def zB0:Sl (Sl au):=.of [.of [⟨0,20,30⟩],.of [⟨100,30,40⟩],.of [⟨200,40,50⟩],.of [⟨200,80,90⟩],.of [⟨50,50,60⟩],.of [⟨150,50,60⟩]]
def J6:Pt aS:=⟨⟨rH,zA0,zB0,⟨2,0⟩⟩⟩
abbrev TB:={T:Tabs // ax aB T}
def TB.m{δ ρ:Type}[dF δ][dF ρ](T:TB)(f:FuncId)(y:δ×ρ)(h:zpl ((gU T.1 []).fn f) y=true):TB:=⟨T.1.memo f y,ax.memo T.2 h⟩
theorem zmr:gB aB 253 (.sort 204 3 24):=Rx Tryz.laysS253 rfl rfl rfl (dJ krY)
theorem zms:gB aB 133 (.sort 43 3 56):=Rx Tryz.laysS133 rfl rfl rfl (dJ krY)
theorem zbF:gB aB 181 (.clone 3 1 8):=Ry Tryz.laysC181 rfl rfl rfl rfl rfl rfl rfl (by decide) (dJ krY)
theorem zmt:gB aB 252 (.clone 204 3 24):=Ry Tryz.laysC252 rfl rfl rfl rfl rfl rfl rfl (by decide) (dJ krY)
def K1:TB:=⟨oP aB NK Tabs.nil
 [.f 161 {},
 .f 232 {},
 .f 233 {},
 .f 234 {},
 .f 164 {},
 .f 235 {},
 .f 201 {},
 .f 160 {}],eX ax.nil krY⟩
def K2:TB:=K1.m 160 (((rH),true):(ak)×(Bool)) krY
def K3:TB:=⟨oP aB NK K2.1
 [.f 122 {},
 .f 123 {},
 .f 60 {},
 .f 112 {},
 .f 188 {},
 .f 138 {},
 .f 223 {},
 .i 251 {yl:=[3]},
 .f 246 {},
 .f 224 {},
 .f 189 {},
 .f 139 {}],eX K2.2 krY⟩
def K4:TB:=K3.m 139 (((rH,⟨0,2,1,0,0,0⟩),((.of [⟨0,20,30⟩]),0)):(ak×bg)×(Sl au×Int)) krY
def K5:TB:=K4.m 139 (((rH,⟨2,3,1,0,0,1⟩),((.of [⟨100,30,40⟩]),0)):(ak×bg)×(Sl au×Int)) krY
def K6:TB:=K5.m 139 (((rH,⟨4,4,1,0,0,2⟩),((.of [⟨200,40,50⟩]),0)):(ak×bg)×(Sl au×Int)) krY
def K7:TB:=K6.m 139 (((rH,⟨4,8,1,0,0,0⟩),((.of [⟨200,80,90⟩]),0)):(ak×bg)×(Sl au×Int)) krY
def K8:TB:=K7.m 139 (((rH,⟨1,5,1,0,0,1⟩),((.of [⟨50,50,60⟩]),0)):(ak×bg)×(Sl au×Int)) krY
def K9:TB:=K8.m 139 (((rH,⟨3,5,1,0,0,1⟩),((.of [⟨150,50,60⟩]),0)):(ak×bg)×(Sl au×Int)) krY
def K10:TB:=⟨oP aB NK K9.1
 [.f 78 {}],eX K9.2 krY⟩
def K11:TB:=K10.m 78 (((rH,⟨2,0⟩,zA0),(J6,0)):(ak×bF×Sl bg)×(Pt aS×Int)) krY
def K12:TB:=⟨oP aB NK K11.1
 [.f 176 {},
 .f 126 {},
 .f 140 {},
 .i 173 {yl:=[7]},
 .f 121 {},
 .f 180 {},
 .f 190 {},
 .f 210 {},
 .f 179 {}],eX K11.2 krY⟩
def K13:TB:=⟨K12.1.addO 181 (.clone 3 1 8),ax.addO K12.2 zbF⟩
def K14:TB:=⟨oP aB NK K13.1
 [.f 111 {}],eX K13.2 krY⟩
def K15:TB:=K14.m 111 (((rH,(.of [⟨0,2,1,0,0,0⟩])),0):(ak×Sl bg)×(Int)) krY
def K16:TB:=K15.m 111 (((rH,(.of [⟨0,2,1,0,0,0⟩,⟨2,3,1,0,0,1⟩])),0):(ak×Sl bg)×(Int)) krY
def K17:TB:=K16.m 111 (((rH,(.of [⟨0,2,1,0,0,0⟩,⟨2,3,1,0,0,1⟩,⟨4,4,1,0,0,2⟩])),0):(ak×Sl bg)×(Int)) krY
def K18:TB:=K17.m 111 (((rH,(.of [⟨0,2,1,0,0,0⟩,⟨2,3,1,0,0,1⟩,⟨4,8,1,0,0,0⟩])),0):(ak×Sl bg)×(Int)) krY
def K19:TB:=K18.m 111 (((rH,(.of [⟨0,2,1,0,0,0⟩,⟨4,4,1,0,0,2⟩])),0):(ak×Sl bg)×(Int)) krY
def K20:TB:=K19.m 111 (((rH,(.of [⟨0,2,1,0,0,0⟩,⟨4,8,1,0,0,0⟩])),0):(ak×Sl bg)×(Int)) krY
def K21:TB:=K20.m 111 (((rH,(.of [⟨2,3,1,0,0,1⟩])),0):(ak×Sl bg)×(Int)) krY
def K22:TB:=K21.m 111 (((rH,(.of [⟨2,3,1,0,0,1⟩,⟨4,4,1,0,0,2⟩])),0):(ak×Sl bg)×(Int)) krY
def K23:TB:=K22.m 111 (((rH,(.of [⟨2,3,1,0,0,1⟩,⟨4,8,1,0,0,0⟩])),0):(ak×Sl bg)×(Int)) krY
def K24:TB:=K23.m 111 (((rH,(.of [⟨4,4,1,0,0,2⟩])),0):(ak×Sl bg)×(Int)) krY
def K25:TB:=K24.m 111 (((rH,(.of [⟨4,8,1,0,0,0⟩])),0):(ak×Sl bg)×(Int)) krY
def K26:TB:=K25.m 111 (((rH,(.of [⟨1,5,1,0,0,1⟩])),0):(ak×Sl bg)×(Int)) krY
def K27:TB:=K26.m 111 (((rH,(.of [⟨1,5,1,0,0,1⟩,⟨3,5,1,0,0,1⟩])),0):(ak×Sl bg)×(Int)) krY
def K28:TB:=K27.m 111 (((rH,(.of [⟨3,5,1,0,0,1⟩])),0):(ak×Sl bg)×(Int)) krY
def K29:TB:=⟨oP aB NK K28.1
 [.f 113 {},
 .f 50 {}],eX K28.2 krY⟩
def K30:TB:=K29.m 50 (((rH,(.of [⟨0,2,1,0,0,0⟩])),(⟨(-2),2⟩,0)):(ak×Sl bg)×(bY×Int)) krY
def K31:TB:=K30.m 50 (((rH,(.of [⟨0,2,1,0,0,0⟩,⟨2,3,1,0,0,1⟩])),(⟨(-1),2⟩,0)):(ak×Sl bg)×(bY×Int)) krY
def K32:TB:=K31.m 50 (((rH,(.of [⟨0,2,1,0,0,0⟩,⟨2,3,1,0,0,1⟩,⟨4,4,1,0,0,2⟩])),(⟨0,2⟩,0)):(ak×Sl bg)×(bY×Int)) krY
def K33:TB:=K32.m 50 (((rH,(.of [⟨0,2,1,0,0,0⟩,⟨2,3,1,0,0,1⟩,⟨4,8,1,0,0,0⟩])),(⟨(-1),2⟩,0)):(ak×Sl bg)×(bY×Int)) krY
def K34:TB:=K33.m 50 (((rH,(.of [⟨0,2,1,0,0,0⟩,⟨4,4,1,0,0,2⟩])),(⟨0,2⟩,0)):(ak×Sl bg)×(bY×Int)) krY
def K35:TB:=K34.m 50 (((rH,(.of [⟨0,2,1,0,0,0⟩,⟨4,8,1,0,0,0⟩])),(⟨(-2),2⟩,0)):(ak×Sl bg)×(bY×Int)) krY
def K36:TB:=K35.m 50 (((rH,(.of [⟨2,3,1,0,0,1⟩])),(⟨(-1),3⟩,0)):(ak×Sl bg)×(bY×Int)) krY
def K37:TB:=K36.m 50 (((rH,(.of [⟨2,3,1,0,0,1⟩,⟨4,4,1,0,0,2⟩])),(⟨0,3⟩,0)):(ak×Sl bg)×(bY×Int)) krY
def K38:TB:=K37.m 50 (((rH,(.of [⟨2,3,1,0,0,1⟩,⟨4,8,1,0,0,0⟩])),(⟨(-1),2⟩,0)):(ak×Sl bg)×(bY×Int)) krY
def K39:TB:=K38.m 50 (((rH,(.of [⟨4,4,1,0,0,2⟩])),(⟨0,4⟩,0)):(ak×Sl bg)×(bY×Int)) krY
def K40:TB:=K39.m 50 (((rH,(.of [⟨4,8,1,0,0,0⟩])),(⟨(-2),2⟩,0)):(ak×Sl bg)×(bY×Int)) krY
def K41:TB:=K40.m 50 (((rH,(.of [⟨1,5,1,0,0,1⟩])),(⟨(-1),3⟩,0)):(ak×Sl bg)×(bY×Int)) krY
def K42:TB:=K41.m 50 (((rH,(.of [⟨1,5,1,0,0,1⟩,⟨3,5,1,0,0,1⟩])),(⟨(-1),3⟩,0)):(ak×Sl bg)×(bY×Int)) krY
def K43:TB:=K42.m 50 (((rH,(.of [⟨3,5,1,0,0,1⟩])),(⟨(-1),3⟩,0)):(ak×Sl bg)×(bY×Int)) krY
def K44:TB:=⟨oP aB NK K43.1
 [.f 93 {},
 .f 105 {},
 .f 118 {},
 .f 162 {},
 .f 157 {},
 .f 156 {},
 .f 109 {},
 .f 207 {},
 .f 231 {},
 .f 230 {},
 .f 257 {},
 .f 238 {},
 .f 206 {},
 .f 167 {},
 .f 229 {},
 .i 228 {yl:=[13]},
 .f 197 {},
 .f 209 {},
 .f 172 {}],eX K43.2 krY⟩
def K45:TB:=K44.m 172 (((10,100),(⟨1,10⟩)):(Int×Int)×(aP)) krY
def K46:TB:=K45.m 172 (((2000,100),(⟨20,1⟩)):(Int×Int)×(aP)) krY
def K47:TB:=K46.m 172 (((20,100),(⟨1,5⟩)):(Int×Int)×(aP)) krY
def K48:TB:=K47.m 172 (((0,100),(⟨0,1⟩)):(Int×Int)×(aP)) krY
def K49:TB:=K48.m 172 (((3000,100),(⟨30,1⟩)):(Int×Int)×(aP)) krY
def K50:TB:=K49.m 172 (((20,200),(⟨1,10⟩)):(Int×Int)×(aP)) krY
def K51:TB:=K50.m 172 (((4000,200),(⟨20,1⟩)):(Int×Int)×(aP)) krY
def K52:TB:=K51.m 172 (((30,200),(⟨3,20⟩)):(Int×Int)×(aP)) krY
def K53:TB:=K52.m 172 (((10,200),(⟨1,20⟩)):(Int×Int)×(aP)) krY
def K54:TB:=K53.m 172 (((6000,200),(⟨30,1⟩)):(Int×Int)×(aP)) krY
def K55:TB:=K54.m 172 (((1000,100),(⟨10,1⟩)):(Int×Int)×(aP)) krY
def K56:TB:=K55.m 172 (((4000,100),(⟨40,1⟩)):(Int×Int)×(aP)) krY
def K57:TB:=K56.m 172 (((60,200),(⟨3,10⟩)):(Int×Int)×(aP)) krY
def K58:TB:=K57.m 172 (((70,200),(⟨7,20⟩)):(Int×Int)×(aP)) krY
def K59:TB:=K58.m 172 (((50,200),(⟨1,4⟩)):(Int×Int)×(aP)) krY
def K60:TB:=K59.m 172 (((50,100),(⟨1,2⟩)):(Int×Int)×(aP)) krY
def K61:TB:=K60.m 172 ((((-2000),100),(⟨(-20),1⟩)):(Int×Int)×(aP)) krY
def K62:TB:=K61.m 172 (((60,100),(⟨3,5⟩)):(Int×Int)×(aP)) krY
def K63:TB:=K62.m 172 ((((-3000),100),(⟨(-30),1⟩)):(Int×Int)×(aP)) krY
def K64:TB:=K63.m 172 (((40,100),(⟨2,5⟩)):(Int×Int)×(aP)) krY
def K65:TB:=K64.m 172 ((((-1000),100),(⟨(-10),1⟩)):(Int×Int)×(aP)) krY
def K66:TB:=K65.m 172 (((6000,100),(⟨60,1⟩)):(Int×Int)×(aP)) krY
def K67:TB:=K66.m 172 (((8000,200),(⟨40,1⟩)):(Int×Int)×(aP)) krY
def K68:TB:=K67.m 172 (((10000,200),(⟨50,1⟩)):(Int×Int)×(aP)) krY
def K69:TB:=K68.m 172 (((12000,200),(⟨60,1⟩)):(Int×Int)×(aP)) krY
def K70:TB:=K69.m 172 (((5000,100),(⟨50,1⟩)):(Int×Int)×(aP)) krY
def K71:TB:=K70.m 172 (((4500,100),(⟨45,1⟩)):(Int×Int)×(aP)) krY
def K72:TB:=K71.m 172 ((((-10),100),(⟨(-1),10⟩)):(Int×Int)×(aP)) krY
def K73:TB:=K72.m 172 (((6500,100),(⟨65,1⟩)):(Int×Int)×(aP)) krY
def K74:TB:=⟨oP aB NK K73.1
 [.f 198 {}],eX K73.2 krY⟩
def K75:TB:=K74.m 198 (((⟨10,2000,100⟩),(⟨⟨1,10⟩,⟨20,1⟩⟩)):(straight)×(Line)) krY
def K76:TB:=K75.m 198 (((⟨20,2000,100⟩),(⟨⟨1,5⟩,⟨20,1⟩⟩)):(straight)×(Line)) krY
def K77:TB:=K76.m 198 (((⟨0,3000,100⟩),(⟨⟨0,1⟩,⟨30,1⟩⟩)):(straight)×(Line)) krY
def K78:TB:=K77.m 198 (((⟨10,3000,100⟩),(⟨⟨1,10⟩,⟨30,1⟩⟩)):(straight)×(Line)) krY
def K79:TB:=K78.m 198 (((⟨20,4000,200⟩),(⟨⟨1,10⟩,⟨20,1⟩⟩)):(straight)×(Line)) krY
def K80:TB:=K79.m 198 (((⟨30,4000,200⟩),(⟨⟨3,20⟩,⟨20,1⟩⟩)):(straight)×(Line)) krY
def K81:TB:=K80.m 198 (((⟨10,6000,200⟩),(⟨⟨1,20⟩,⟨30,1⟩⟩)):(straight)×(Line)) krY
def K82:TB:=K81.m 198 (((⟨20,6000,200⟩),(⟨⟨1,10⟩,⟨30,1⟩⟩)):(straight)×(Line)) krY
def K83:TB:=K82.m 198 (((⟨20,1000,100⟩),(⟨⟨1,5⟩,⟨10,1⟩⟩)):(straight)×(Line)) krY
def K84:TB:=K83.m 198 (((⟨0,4000,100⟩),(⟨⟨0,1⟩,⟨40,1⟩⟩)):(straight)×(Line)) krY
def K85:TB:=K84.m 198 (((⟨60,4000,200⟩),(⟨⟨3,10⟩,⟨20,1⟩⟩)):(straight)×(Line)) krY
def K86:TB:=K85.m 198 (((⟨70,4000,200⟩),(⟨⟨7,20⟩,⟨20,1⟩⟩)):(straight)×(Line)) krY
def K87:TB:=K86.m 198 (((⟨50,6000,200⟩),(⟨⟨1,4⟩,⟨30,1⟩⟩)):(straight)×(Line)) krY
def K88:TB:=K87.m 198 (((⟨60,6000,200⟩),(⟨⟨3,10⟩,⟨30,1⟩⟩)):(straight)×(Line)) krY
def K89:TB:=K88.m 198 (((⟨50,(-2000),100⟩),(⟨⟨1,2⟩,⟨(-20),1⟩⟩)):(straight)×(Line)) krY
def K90:TB:=K89.m 198 (((⟨60,(-3000),100⟩),(⟨⟨3,5⟩,⟨(-30),1⟩⟩)):(straight)×(Line)) krY
def K91:TB:=K90.m 198 (((⟨40,0,100⟩),(⟨⟨2,5⟩,⟨0,1⟩⟩)):(straight)×(Line)) krY
def K92:TB:=K91.m 198 (((⟨50,(-1000),100⟩),(⟨⟨1,2⟩,⟨(-10),1⟩⟩)):(straight)×(Line)) krY
def K93:TB:=K92.m 198 (((⟨0,5000,100⟩),(⟨⟨0,1⟩,⟨50,1⟩⟩)):(straight)×(Line)) krY
def K94:TB:=K93.m 198 (((⟨10,4500,100⟩),(⟨⟨1,10⟩,⟨45,1⟩⟩)):(straight)×(Line)) krY
def K95:TB:=K94.m 198 (((⟨(-10),6500,100⟩),(⟨⟨(-1),10⟩,⟨65,1⟩⟩)):(straight)×(Line)) krY
def K96:TB:=K95.m 198 (((⟨0,6000,100⟩),(⟨⟨0,1⟩,⟨60,1⟩⟩)):(straight)×(Line)) krY
def K97:TB:=⟨oP aB NK K96.1
 [.f 199 {},
 .f 158 {vv:=[14]}],eX K96.2 krY⟩
def K98:TB:=K97.m 158 ((((.of [⟨0,20,30⟩])),(⟨⟨.of [⟨0,20,30⟩]⟩,.of []⟩)):(Sl au)×(set)) krY
def K99:TB:=K98.m 158 ((((.of [⟨0,20,30⟩,⟨100,30,40⟩])),(⟨⟨.of [⟨0,20,30⟩,⟨100,30,40⟩]⟩,.of [⟨10,2000,100⟩,⟨20,2000,100⟩,⟨0,3000,100⟩,⟨10,3000,100⟩]⟩)):(Sl au)×(set)) krY
def zYb:TB:=K99.m 158 ((((.of [⟨0,20,30⟩,⟨100,30,40⟩,⟨200,40,50⟩])),(⟨⟨.of [⟨0,20,30⟩,⟨100,30,40⟩,⟨200,40,50⟩]⟩,.of [⟨10,2000,100⟩,⟨10,3000,100⟩,⟨30,4000,200⟩,⟨10,6000,200⟩]⟩)):(Sl au)×(set)) krY
def zYc:TB:=zYb.m 158 ((((.of [⟨0,20,30⟩,⟨100,30,40⟩,⟨200,80,90⟩])),(⟨⟨.of [⟨0,20,30⟩,⟨100,30,40⟩,⟨200,80,90⟩]⟩,.of []⟩)):(Sl au)×(set)) krY
def zYd:TB:=zYc.m 158 ((((.of [⟨0,20,30⟩,⟨200,40,50⟩])),(⟨⟨.of [⟨0,20,30⟩,⟨200,40,50⟩]⟩,.of [⟨20,4000,200⟩,⟨30,4000,200⟩,⟨10,6000,200⟩,⟨20,6000,200⟩]⟩)):(Sl au)×(set)) krY
def zYe:TB:=zYd.m 158 ((((.of [⟨0,20,30⟩,⟨200,80,90⟩])),(⟨⟨.of [⟨0,20,30⟩,⟨200,80,90⟩]⟩,.of [⟨60,4000,200⟩,⟨70,4000,200⟩,⟨50,6000,200⟩,⟨60,6000,200⟩]⟩)):(Sl au)×(set)) krY
def zYf:TB:=zYe.m 158 ((((.of [⟨100,30,40⟩])),(⟨⟨.of [⟨100,30,40⟩]⟩,.of []⟩)):(Sl au)×(set)) krY
def zYg:TB:=zYf.m 158 ((((.of [⟨100,30,40⟩,⟨200,40,50⟩])),(⟨⟨.of [⟨100,30,40⟩,⟨200,40,50⟩]⟩,.of [⟨10,2000,100⟩,⟨20,1000,100⟩,⟨0,4000,100⟩,⟨10,3000,100⟩]⟩)):(Sl au)×(set)) krY
def zYh:TB:=zYg.m 158 ((((.of [⟨100,30,40⟩,⟨200,80,90⟩])),(⟨⟨.of [⟨100,30,40⟩,⟨200,80,90⟩]⟩,.of [⟨50,(-2000),100⟩,⟨60,(-3000),100⟩,⟨40,0,100⟩,⟨50,(-1000),100⟩]⟩)):(Sl au)×(set)) krY
def zYi:TB:=zYh.m 158 ((((.of [⟨200,40,50⟩])),(⟨⟨.of [⟨200,40,50⟩]⟩,.of []⟩)):(Sl au)×(set)) krY
def zYj:TB:=zYi.m 158 ((((.of [⟨200,80,90⟩])),(⟨⟨.of [⟨200,80,90⟩]⟩,.of []⟩)):(Sl au)×(set)) krY
def zYk:TB:=zYj.m 158 ((((.of [⟨50,50,60⟩])),(⟨⟨.of [⟨50,50,60⟩]⟩,.of []⟩)):(Sl au)×(set)) krY
def zYl:TB:=zYk.m 158 ((((.of [⟨50,50,60⟩,⟨150,50,60⟩])),(⟨⟨.of [⟨50,50,60⟩,⟨150,50,60⟩]⟩,.of [⟨0,5000,100⟩,⟨10,4500,100⟩,⟨(-10),6500,100⟩,⟨0,6000,100⟩]⟩)):(Sl au)×(set)) krY
def zJ1:TB:=zYl.m 158 ((((.of [⟨150,50,60⟩])),(⟨⟨.of [⟨150,50,60⟩]⟩,.of []⟩)):(Sl au)×(set)) krY
def zJ2:TB:=⟨oP aB NK zJ1.1
 [.f 200 {},
 .f 159 {},
 .f 117 {}],eX zJ1.2 krY⟩
def zJ3:TB:=⟨zJ2.1.addO 252 (.clone 204 3 24),ax.addO zJ2.2 zmt⟩
def zJ4:TB:=⟨zJ3.1.addO 253 (.sort 204 3 24),ax.addO zJ3.2 zmr⟩
def zJ5:TB:=⟨oP aB NK zJ4.1
 [.f 239 {},
 .f 208 {},
 .f 170 {},
 .f 255 {},
 .f 254 {}],eX zJ4.2 krY⟩
def zYm:Tabs:=oP aB NK Tabs.nil [.f 239 {},.f 208 {},.f 170 {},.f 209 {},.f 172 {},.f 118 {},.f 162 {},.f 207 {},.f 157 {},.f 231 {},.f 230 {},.f 257 {},.f 238 {},.f 206 {},.f 255 {}]
def zJ6:TB:=⟨zJ5.1.addC 254 (aF aB NK (gU zYm []) (bT aB 254 [] {}) 254),ax.addC zJ5.2 (zja (@eX ⟨1⟩ _ _ _ _ (@ax.nil ⟨1⟩ _) krY) (dJ krY))⟩
def zYn:TB:=⟨oP aB NK zJ6.1
 [.f 249 {},
 .f 240 {},
 .f 211 {}],eX zJ6.2 krY⟩
def zYo:TB:=zYn.m 211 ((((.of [⟨0,20,30⟩])),(⟨⟨0,0⟩,⟨0,0⟩⟩,6)):(Sl au)×(Line×Int)) krY
def zYp:TB:=zYo.m 211 ((((.of [⟨0,20,30⟩,⟨100,30,40⟩])),(⟨⟨0,1⟩,⟨30,1⟩⟩,0)):(Sl au)×(Line×Int)) krY
def zYq:TB:=zYp.m 211 ((((.of [⟨0,20,30⟩,⟨100,30,40⟩,⟨200,40,50⟩])),(⟨⟨1,20⟩,⟨30,1⟩⟩,0)):(Sl au)×(Line×Int)) krY
def zYr:TB:=zYq.m 211 ((((.of [⟨0,20,30⟩,⟨100,30,40⟩,⟨200,80,90⟩])),(⟨⟨0,0⟩,⟨0,0⟩⟩,5)):(Sl au)×(Line×Int)) krY
def zYs:TB:=zYr.m 211 ((((.of [⟨0,20,30⟩,⟨200,40,50⟩])),(⟨⟨1,20⟩,⟨30,1⟩⟩,0)):(Sl au)×(Line×Int)) krY
def zYt:TB:=zYs.m 211 ((((.of [⟨0,20,30⟩,⟨200,80,90⟩])),(⟨⟨1,4⟩,⟨30,1⟩⟩,0)):(Sl au)×(Line×Int)) krY
def zYu:TB:=zYt.m 211 ((((.of [⟨100,30,40⟩])),(⟨⟨0,0⟩,⟨0,0⟩⟩,6)):(Sl au)×(Line×Int)) krY
def zYv:TB:=zYu.m 211 ((((.of [⟨100,30,40⟩,⟨200,40,50⟩])),(⟨⟨0,1⟩,⟨40,1⟩⟩,0)):(Sl au)×(Line×Int)) krY
def zYw:TB:=zYv.m 211 ((((.of [⟨100,30,40⟩,⟨200,80,90⟩])),(⟨⟨2,5⟩,⟨0,1⟩⟩,0)):(Sl au)×(Line×Int)) krY
def zYx:TB:=zYw.m 211 ((((.of [⟨200,40,50⟩])),(⟨⟨0,0⟩,⟨0,0⟩⟩,6)):(Sl au)×(Line×Int)) krY
def zYy:TB:=zYx.m 211 ((((.of [⟨200,80,90⟩])),(⟨⟨0,0⟩,⟨0,0⟩⟩,6)):(Sl au)×(Line×Int)) krY
def zYz:TB:=zYy.m 211 ((((.of [⟨50,50,60⟩])),(⟨⟨0,0⟩,⟨0,0⟩⟩,6)):(Sl au)×(Line×Int)) krY
def zYA:TB:=zYz.m 211 ((((.of [⟨50,50,60⟩,⟨150,50,60⟩])),(⟨⟨(-1),10⟩,⟨65,1⟩⟩,0)):(Sl au)×(Line×Int)) krY
def zJ7:TB:=zYA.m 211 ((((.of [⟨150,50,60⟩])),(⟨⟨0,0⟩,⟨0,0⟩⟩,6)):(Sl au)×(Line×Int)) krY
def zYB:TB:=⟨oP aB NK zJ7.1
 [.f 182 {}],eX zJ7.2 krY⟩
def zYC:TB:=zYB.m 182 (((J6,⟨1,.of [0],.of [0]⟩),true):(Pt aS×af)×(Bool)) krY
def zYD:TB:=zYC.m 182 (((J6,⟨1,.of [0,1],.of [0,0]⟩),true):(Pt aS×af)×(Bool)) krY
def zYE:TB:=zYD.m 182 (((J6,⟨1,.of [0,1,2],.of [0,0,0]⟩),true):(Pt aS×af)×(Bool)) krY
def zYF:TB:=zYE.m 182 (((J6,⟨1,.of [0,1,3],.of [0,0,0]⟩),false):(Pt aS×af)×(Bool)) krY
def zYG:TB:=zYF.m 182 (((J6,⟨1,.of [0,2],.of [0,0]⟩),true):(Pt aS×af)×(Bool)) krY
def zYH:TB:=zYG.m 182 (((J6,⟨1,.of [0,3],.of [0,0]⟩),true):(Pt aS×af)×(Bool)) krY
def zYI:TB:=zYH.m 182 (((J6,⟨1,.of [1],.of [0]⟩),true):(Pt aS×af)×(Bool)) krY
def zYJ:TB:=zYI.m 182 (((J6,⟨1,.of [1,2],.of [0,0]⟩),true):(Pt aS×af)×(Bool)) krY
def zYK:TB:=zYJ.m 182 (((J6,⟨1,.of [1,3],.of [0,0]⟩),true):(Pt aS×af)×(Bool)) krY
def zYL:TB:=zYK.m 182 (((J6,⟨1,.of [2],.of [0]⟩),true):(Pt aS×af)×(Bool)) krY
def zYM:TB:=zYL.m 182 (((J6,⟨1,.of [3],.of [0]⟩),true):(Pt aS×af)×(Bool)) krY
def zYN:TB:=zYM.m 182 (((J6,⟨2,.of [4],.of [0]⟩),true):(Pt aS×af)×(Bool)) krY
def zYO:TB:=zYN.m 182 (((J6,⟨2,.of [4,5],.of [0,0]⟩),true):(Pt aS×af)×(Bool)) krY
def zJ8:TB:=zYO.m 182 (((J6,⟨2,.of [5],.of [0]⟩),true):(Pt aS×af)×(Bool)) krY
def zt1:TB:=⟨oP aB NK zJ8.1
 [.r 178 64 {clo:=[180]}],eX zJ8.2 krY⟩
def zJ9:TB:=⟨zt1.1.addF 127 (aD aB (gU zt1.1 []) NK zc4 177 (bT aB 127 [] {ks:=[(0,3,⟨[],[],[(4,0,5000,43)],[],[],[],[]⟩)]}) 127),ax.addF zt1.2 (zjq zt1.2 (dJ krY) zju)⟩
def zYP:TB:=⟨oP aB NK zJ9.1
 [.f 120 {},
 .f 203 {},
 .f 202 {},
 .f 169 {},
 .f 171 {},
 .f 168 {},
 .f 119 {},
 .f 163 {},
 .f 114 {},
 .f 236 {},
 .f 237 {},
 .f 205 {},
 .i 204 {yl:=[9]},
 .f 165 {},
 .f 115 {}],eX zJ9.2 krY⟩
def zYQ:TB:=zYP.m 115 (((rH,4,⟨30,60⟩),(true,true,0)):(ak×Int×bY)×(Bool×Bool×Int)) krY
def zYR:TB:=zYQ.m 115 (((rH,2,⟨30,40⟩),(true,true,0)):(ak×Int×bY)×(Bool×Bool×Int)) krY
def zYS:TB:=zYR.m 115 (((rH,2,⟨50,60⟩),(true,true,0)):(ak×Int×bY)×(Bool×Bool×Int)) krY
def zYT:TB:=zYS.m 115 (((rH,0,⟨10,40⟩),(true,true,0)):(ak×Int×bY)×(Bool×Bool×Int)) krY
def zKa:TB:=zYT.m 115 (((rH,0,⟨(-30),0⟩),(false,true,0)):(ak×Int×bY)×(Bool×Bool×Int)) krY
def zYU:TB:=⟨oP aB NK zKa.1
 [.f 191 {},
 .f 192 {},
 .f 141 {clo:=[190]}],eX zKa.2 krY⟩
def zYV:TB:=zYU.m 141 (((J6,⟨1,.of [0,1],.of [0,0]⟩),(.of [4])):(Pt aS×af)×(Sl Int)) krY
def zYW:TB:=zYV.m 141 (((J6,⟨1,.of [0,1,2],.of [0,0,0]⟩),(.of [])):(Pt aS×af)×(Sl Int)) krY
def zYX:TB:=zYW.m 141 (((J6,⟨1,.of [0,2],.of [0,0]⟩),(.of [2])):(Pt aS×af)×(Sl Int)) krY
def zYY:TB:=zYX.m 141 (((J6,⟨1,.of [0,3],.of [0,0]⟩),(.of [2])):(Pt aS×af)×(Sl Int)) krY
def zYZ:TB:=zYY.m 141 (((J6,⟨1,.of [1,2],.of [0,0]⟩),(.of [0])):(Pt aS×af)×(Sl Int)) krY
def zY0:TB:=zYZ.m 141 (((J6,⟨1,.of [1,3],.of [0,0]⟩),(.of [])):(Pt aS×af)×(Sl Int)) krY
def zKb:TB:=zY0.m 141 (((J6,⟨2,.of [4,5],.of [0,0]⟩),(.of [])):(Pt aS×af)×(Sl Int)) krY
def zKc:TB:=⟨oP aB NK zKb.1
 [.f 129 {},
 .f 98 {},
 .f 152 {},
 .f 92 {},
 .f 132 {},
 .f 97 {},
 .f 131 {},
 .f 130 {},
 .k 128 43 3 56 {}],eX zKb.2 krY⟩
def zKd:TB:=⟨zKc.1.addO 133 (.sort 43 3 56),ax.addO zKc.2 zms⟩
def zKe:TB:=⟨oP aB NK zKd.1
 [.f 185 {},
 .f 222 {},
 .f 186 {},
 .f 187 {},
 .f 134 {}],eX zKd.2 krY⟩
def zY1:Tabs:=oP aB NK Tabs.nil [.f 185 {},.f 222 {},.f 186 {},.f 239 {},.f 208 {},.f 187 {}]
def zKf:TB:=⟨zKe.1.addC 134 (aF aB NK (gU zY1 []) (bT aB 134 [] {}) 134),ax.addC zKe.2 (zja (@eX ⟨1⟩ _ _ _ _ (@ax.nil ⟨1⟩ _) krY) (dJ krY))⟩
def zY2:TB:=⟨oP aB NK zKf.1
 [.f 72 {clo:=[130],cut:=[15],ks:=[(0,6,⟨[],[],[(35,2,5001,43)],[],[],[],[]⟩),(2,15,⟨[],[],[],[],[57,5001],[],[]⟩)]}],eX zKf.2 krY⟩
def zY3:TB:=zY2.m 72 (((rH,⟨2,0⟩,zA0,(.of [])),(⟨⟨J6,.of [⟨1,.of [0,1,2],.of [0,0,0]⟩,⟨1,.of [1,3],.of [0,0]⟩,⟨2,.of [4,5],.of [0,0]⟩],.of [⟨1,.of [0,1,2],.of [0,0,0]⟩,⟨1,.of [1,3],.of [0,0]⟩,⟨2,.of [4,5],.of [0,0]⟩]⟩⟩,0)):(ak×bF×Sl bg×Sl Bool)×(Pt found×Int)) krY
def zKg:TB:=zY3.m 72 (((rH,⟨2,0⟩,zA0,(.of [true])),(⟨⟨J6,.of [⟨1,.of [0,1,2],.of [0,0,0]⟩,⟨1,.of [1,3],.of [0,0]⟩,⟨2,.of [4,5],.of [0,0]⟩],.of [⟨1,.of [0,1,2],.of [0,0,0]⟩,⟨1,.of [1,3],.of [0,0]⟩,⟨2,.of [4,5],.of [0,0]⟩]⟩⟩,0)):(ak×bF×Sl bg×Sl Bool)×(Pt found×Int)) krY
def zY4:TB:=⟨oP aB NK zKg.1
 [.f 20 {},
 .f 96 {},
 .f 79 {vv:=[8]},
 .f 110 {},
 .f 49 {},
 .f 80 {},
 .f 81 {},
 .f 82 {},
 .f 83 {},
 .f 142 {},
 .f 84 {},
 .f 25 {}],eX zKg.2 krY⟩
def zKh:TB:=zY4.m 25 (((rH,⟨2,0⟩,zA0,⟨1,.of [0,1],.of [0,0]⟩),(⟨5,.of [],.of [4],⟨0,.of [],.of []⟩⟩,0)):(ak×bF×Sl bg×af)×(bz×Int)) krY
def zY5:TB:=⟨oP aB NK zKh.1
 [.f 38 {},
 .f 52 {},
 .f 29 {},
 .f 31 {ks:=[(0,16,⟨[],[],[],[],[],[10],[]⟩)],vv:=[41]}],eX zKh.2 krY⟩
def zKi:TB:=zY5.m 31 (((rH,⟨2,0⟩,zA0),((.of [⟨0,2⟩,⟨1,2⟩]),0)):(ak×bF×Sl bg)×(Sl zpD×Int)) krY
def zY6:TB:=⟨oP aB NK zKi.1
 [.f 32 {},
 .f 99 {},
 .r 100 64 {},
 .r 101 64 {},
 .f 36 {ks:=[(0,16,⟨[],[],[],[],[1000896],[],[]⟩)],vv:=[73,75]}],eX zKi.2 krY⟩
def zKj:TB:=zY6.m 36 (((rH,⟨2,0⟩,zA0,1),((.of [0,1]),(.of [0]),0)):(ak×bF×Sl bg×Int)×(Sl Int×Sl Int×Int)) krY
def zY7:TB:=⟨oP aB NK zKj.1
 [.f 58 {},
 .f 103 {},
 .f 104 {},
 .f 42 {}],eX zKj.2 krY⟩
def zKk:TB:=zY7.m 42 (((rH,⟨2,0⟩,zA0,(.of [⟨1,⟨0,1⟩,⟨1,5⟩⟩,⟨1,⟨1,10⟩,⟨1,2⟩⟩])),((.of [⟨1,1⟩,⟨0,2⟩]),0)):(ak×bF×Sl bg×Sl Bin)×(Sl Tally×Int)) krY
def zCH:TB:=⟨oP aB NK zKk.1
 [.f 44 {},
 .f 67 {},
 .f 69 {},
 .f 70 {},
 .f 125 {},
 .f 71 {},
 .f 19 {}],eX zKk.2 krY⟩
theorem k19:((gU zCH.1 []).fn 19 []).o=some [.one (.bool true)]:=krY
theorem zY8:ax aB zCH.1:=zCH.2
def N0:Nat:=1000000000
theorem bM:20000000<N0:=by decide
def D23:=F23 ⟨N0⟩
def zY9:=o23 ⟨N0⟩
def D19:Unit->ae Bool:=λ_=>.ok true
theorem zZb:Q19 D19:=rfl
theorem zZc:Ok aB 19 (ae.un D19):=λargs rs hr w h0 vs jS hw=>by
 obtain⟨h1,h2⟩:=ae.chk_o hr;cases args with
 | nil =>
  cases ae.ok_o h2;exact(zY8.all []).fn 19 [] _ k19 w h0 vs jS hw
 | cons=>cases h1
def D24:=F24 ⟨N0⟩
def zZd:=o24 ⟨N0⟩
def CQ:=zpY ⟨N0⟩
def OH:=zSO ⟨N0⟩
def zmu:=zp1 ⟨N0,CQ⟩
def zwV:=zSR ⟨N0,CQ⟩ OH
def zCI:=zqd ⟨N0,CQ,zmu⟩
def zKl:=zSY ⟨N0,CQ,zmu⟩ OH zwV
def zCJ:=zp8 ⟨N0⟩
def zKm:=zSU ⟨N0⟩
def zCK:=zp9 ⟨N0,CQ⟩
def zKn:=zSV ⟨N0,CQ⟩ OH
def zCL:=zqb ⟨N0⟩
def zKo:=zSW ⟨N0⟩
def zCM:=zp2 ⟨N0,CQ,zCI,zCJ,zCK,zCL⟩
def zKp:=zST ⟨N0,CQ,zCI,zCJ,zCK,zCL⟩ OH zKl zKm zKn zKo
def U9:=zpZ ⟨N0,zCM,CQ⟩
def zd0:=zSP ⟨N0,zCM,CQ⟩ zKp OH
def zCN:=zpP ⟨N0,U9⟩
def zKq:=zSG ⟨N0,U9⟩ zd0
def zmv:=zpR ⟨N0⟩
def zwW:=zSI ⟨N0⟩
def D60:=F60 ⟨N0,zCN,zmv⟩
def zZf:=o60 ⟨N0,zCN,zmv⟩ zKq zwW
def Va:=zpW ⟨N0,CQ⟩
def zd1:=zSN ⟨N0,CQ⟩ OH
def zmw:=zqf ⟨N0,U9,Va⟩
def zwX:=zS1 ⟨N0,U9,Va⟩ zd0 zd1
def zCO:=zpT ⟨N0,zmw⟩
def zKr:=zSJ ⟨N0,zmw⟩ zwX
def zCP:=zqj ⟨N0⟩
def zKs:=zS3 ⟨N0⟩
def zCQ:=zzE ⟨N0⟩
def zKt:=zS6 ⟨N0⟩
def zCR:=zqk ⟨N0,zCQ⟩
def zKu:=zS4 ⟨N0,zCQ⟩ zKt
def zCS:=zqh ⟨N0,zCP,zCR⟩
def zKv:=zS2 ⟨N0,zCP,zCR⟩ zKs zKu
def zCT:=zpV ⟨N0,zmw,Va,zCS⟩
def zKw:=zSL ⟨N0,zmw,Va,zCS⟩ zwX zd1 zKv
def D78:=F78 ⟨N0,D60,zCO,zCT⟩
def zKx:=o78 ⟨N0,D60,zCO,zCT⟩ zZf zKr zKw
def zmx:=zpN ⟨N0⟩
def zwY:=zSE ⟨N0⟩
def D96:=F96 ⟨N0⟩
def zZh:=o96 ⟨N0⟩
def D79:=F79 ⟨N0,zmv,zmx,D96⟩
def zZi:=o79 ⟨N0,zmv,zmx,D96⟩ zwW zwY zZh
def zCU:=zrL ⟨N0⟩
def zKz:=zUQ ⟨N0⟩
def zCV:=zqO ⟨N0,zCU⟩
def zKA:=zTX ⟨N0,zCU⟩ zKz
def zCW:=zrQ ⟨N0⟩
def zKB:=zUV ⟨N0⟩
def zCX:=zrZ ⟨N0⟩
def zKC:=zU3 ⟨N0⟩
def YU:=EH ⟨N0,zCW⟩
def zf5:=zkT ⟨N0,zCW⟩ zKB
def YV:=EI ⟨N0,zCX⟩
def zf6:=zkV ⟨N0,zCX⟩ zKC
def zf7:=ae.two YU YV
theorem zwZ:Ok aB 210 (ae.un zf7):=xu zf5 zf6
def YW:=Eu ⟨N0,zf7⟩
def zf8:=zkx ⟨N0,zf7⟩ zwZ
def YX:=Ey ⟨N0,zf7⟩
def zf9:=zkz ⟨N0,zf7⟩ zwZ
def zga:=ae.two YW YX
theorem zw0:Ok aB 179 (ae.un zga):=xu zf8 zf9
def zCY:=zqz ⟨N0,U9,Va⟩
def zKD:=o111 ⟨N0,U9,Va⟩ zd0 zd1
def zCZ:=zqB ⟨N0⟩
def zKE:=zTO ⟨N0⟩
def D50:=F50 ⟨N0,zCY,Va,zCZ⟩
def zKG:=o50 ⟨N0,zCY,Va,zCZ⟩ zKD zd1 zKE
def D93:=F93 ⟨N0,D50⟩
def zZk:=o93 ⟨N0,D50⟩ zKG
def zgb:=zpL ⟨N0⟩
def zmy:=zSA ⟨N0⟩
def Vb:=zro ⟨N0⟩
def zd2 [aC]:=zUy ⟨N0⟩
def zC0:=zrm ⟨N0,Vb⟩
def zKH:=zUw ⟨N0,Vb⟩ zd2
def zbG:=zqy ⟨N0,zC0,Vb⟩
def zmz:=zTL ⟨N0,zC0,Vb⟩ zKH zd2
def zC1:=zsj ⟨N0⟩
def zKI [aC]:=zVq ⟨N0⟩
def zC2:=zsF ⟨N0,Vb⟩
def zKJ [aC]:=zVD ⟨N0,Vb⟩ zd2
def zC3:=zsD ⟨N0,zC2⟩
def zKK [aC]:=zVC ⟨N0,zC2⟩ zKJ
def zC4:=zsY ⟨N0⟩
def zKL [aC]:=zVT ⟨N0⟩
def YY:=EJ ⟨N0,zC1⟩
def zgc [aC]:=zk1 ⟨N0,zC1⟩ zKI
def YZ:=EL ⟨N0,zC3⟩
def zgd [aC]:=zk3 ⟨N0,zC3⟩ zKK
def Y0:=EM ⟨N0,zC4⟩
def zge [aC]:=zk5 ⟨N0,zC4⟩ zKL
def Y1:=ae.two YY (ae.two YZ Y0)
theorem zmA [aC]:Ok aB 238 (ae.un Y1):=xu zgc (xu zgd zge)
def Y2:=EC ⟨N0,Y1⟩
def zgf [aC]:=zkN ⟨N0,Y1⟩ zmA
def Y3:=EE ⟨N0,Y1⟩
def zgg [aC]:=zkP ⟨N0,Y1⟩ zmA
def Y4:=EG ⟨N0,Y1⟩
def zgh [aC]:=zkR ⟨N0,Y1⟩ zmA
def Y5:=ae.two Y2 (ae.two Y3 Y4)
theorem zmB [aC]:Ok aB 206 (ae.un Y5):=xu zgf (xu zgg zgh)
def OI:=zrC ⟨N0,Y5⟩
def Y6:=zUI ⟨N0,Y5⟩ zmB
def zC5:=zsm ⟨N0⟩
def zKM [aC]:=zVs ⟨N0⟩
def OJ:=zrK ⟨N0,zC5⟩
def Y7 [aC]:=zUO ⟨N0,zC5⟩ zKM
def zmC:=zr9 ⟨N0,OJ⟩
def zw1:=zVf ⟨N0,OJ⟩ Y7
def zC6:=zsb ⟨N0,Y5⟩
def zKN:=zVg ⟨N0,Y5⟩ zmB
def zC7:=zsB ⟨N0⟩
def zKO:=zVB ⟨N0⟩
def zC8:=zAW ⟨N0,zC7⟩
def zKP:=zVA ⟨N0,zC7⟩ zKO
def zbH:=zrp ⟨N0,OI,zmC,zC6,zC8⟩
def zmD:=zUA ⟨N0,OI,zmC,zC6,zC8⟩ Y6 zw1 zKN zKP
def zmE:=zsc ⟨N0⟩
def zw2:=zVi ⟨N0⟩
def zbI:=zrt ⟨N0,zmE,OI⟩
def zmF:=zUD ⟨N0,zmE,OI⟩ zw2 Y6
def zC9:=zqJ ⟨N0⟩
def zKQ:=zTU ⟨N0⟩
def zDa:=zrv ⟨N0⟩
def zKR:=zUE ⟨N0⟩
def Y8:=Eg ⟨N0,zbG,zbH,zbI,OI,zC9⟩
def zgi:=zj7 ⟨N0,zbG,zbH,zbI,OI,zC9⟩ zmz zmD zmF Y6 zKQ
def Y9:=Ei ⟨N0,zbG,zbH,zbI,OI,zDa⟩
def zgj:=zj9 ⟨N0,zbG,zbH,zbI,OI,zDa⟩ zmz zmD zmF Y6 zKR
def zgk:=ae.two Y8 Y9
theorem zw3:Ok aB 117 (ae.un zgk):=xu zgi zgj
def zDb:=zsW ⟨N0,Y5⟩
def zKS [aC]:=zVS ⟨N0,Y5⟩ zmB
def zmG:=zsL ⟨N0⟩
def zw4 [aC]:=zVI ⟨N0⟩
def zmH:=zsl ⟨N0,zmG⟩
def zw5 [aC]:=zVr ⟨N0,zmG⟩ zw4
def zbJ:=zrG ⟨N0,zmH⟩
def zmI [aC]:=zUK ⟨N0,zmH⟩ zw5
def zDc:=zsS ⟨N0,zDb,OJ,zbJ⟩
def zKT [aC]:=zVQ ⟨N0,zDb,OJ,zbJ⟩ zKS Y7 zmI
def zDd:=zsQ ⟨N0,zDc⟩
def zKU:=zVM ⟨N0,zDc⟩ zmt zmr (@zKT ⟨1⟩)
def zDe:=zk6 ⟨N0,zgk,zDd,zmC⟩
def zKV:=zVJ ⟨N0,zgk,zDd,zmC⟩ zw3 zKU zw1
def zDf:=zso ⟨N0,zDe⟩
def zKW:=zVt ⟨N0,zDe⟩ zKV
def zt2:=zrS ⟨N0,D93,zgb,zDf⟩
def zKX:=zUX ⟨N0,D93,zgb,zDf⟩ zZk zmy zKW
def zt3:=zzr ⟨N0,zmx⟩
def zKY:=zSC ⟨N0,zmx⟩ zwY
def zbK:Nat→af×Int×Bc 143 (Pt aS)×Bc 38 Int×Bw 30 43 3 56 af×Bs 255 178 2 4×Unit→ae ((Bool×Int)×(Unit×Unit×(Pt aS)×Int×Sl af×Unit×Unit))
 | 0=>λ_=>.no
 | n+1=>zrN ⟨N0,zga,zt2,zt3,(zbK n)⟩
theorem zw6:∀n,rP aB 178 (ae.unP 254 (zbK n))
  | 0=>λxs ys rs h=>by
    obtain⟨_,h2⟩:=ae.chk_o h;cases h2
  | n+1=>zUS ⟨N0,zga,zt2,zt3,(zbK n)⟩ zw0 zKX zKY zbF (zw6 n)
def zDg:=zqP ⟨N0,(zbK 30)⟩
def zKZ:=zT0 ⟨N0,(zbK 30)⟩ (zw6 30)
def zDh:=zsg ⟨N0⟩
def zK1:=zVm ⟨N0⟩
def zDi:=zse ⟨N0,zDh⟩
def zK2:=zVk ⟨N0,zDh⟩ zK1
def zDj:=zrE ⟨N0,zbJ⟩
def zK3:=zUJ ⟨N0,zbJ⟩ zmI
def zDk:=zrI ⟨N0,zbJ⟩
def zK4:=zUM ⟨N0,zbJ⟩ zmI
def Za:=Ep ⟨N0,zDj⟩
def zgl:=zkr ⟨N0,zDj⟩ zK3
def Zb:=Es ⟨N0,zDk⟩
def zgm:=zkt ⟨N0,zDk⟩ zK4
def zgn:=ae.two Za Zb
theorem zw7:Ok aB 168 (ae.un zgn):=xu zgl zgm
def zDl:=zqL ⟨N0⟩
def zK5:=zTV ⟨N0⟩
def Zc:=Ej ⟨N0,zDi,zgn,OJ⟩
def zgo:=zkb ⟨N0,zDi,zgn,OJ⟩ zK2 zw7 Y7
def Zd:=Em ⟨N0,zDl,zgn,OJ⟩
def zgp:=zkd ⟨N0,zDl,zgn,OJ⟩ zK5 zw7 Y7
def zt4:=ae.two Zc Zd
theorem zK6:Ok aB 119 (ae.un zt4):=xu zgo zgp
def zDm:=zry ⟨N0,OI,zmE,OJ,zt4⟩
def zK7:=zUG ⟨N0,OI,zmE,OJ,zt4⟩ Y6 zw2 Y7 zK6
def zK8:=zqD ⟨N0,Vb,zgk,zDm⟩
def zK9:=zTQ ⟨N0,Vb,zgk,zDm⟩ zd2 zw3 zK7
def zt5:=zr1 ⟨N0⟩
def zw8:=zU5 ⟨N0⟩
def zLa:=zr3 ⟨N0,zt5⟩
def zLb:=zU7 ⟨N0,zt5⟩ zw8
def zDn:=zsH ⟨N0,zmG⟩
def zLc:=zVF ⟨N0,zmG⟩ zw4
def zDo:=zsJ ⟨N0⟩
def zLd:=zVG ⟨N0⟩
def zDp:=zsh ⟨N0,zDn,zDo⟩
def zLe:=zVp ⟨N0,zDn,zDo⟩ zLc zLd
def zDq:=zAM ⟨N0,zDp⟩
def zLf:=zVn ⟨N0,zDp⟩ zLe
def zLg:=zqE ⟨N0,U9,CQ,zmu,zDq⟩
def zLh:=zTR ⟨N0,U9,CQ,zmu,zDq⟩ zd0 OH zwV zLf
def zgq:=zq3 ⟨N0,zgb,zga,zK8,zt5,zLa,zLg⟩
theorem zw9:Ok aB 141 (ae.un zgq):=zUd _ zmy zw0 zK9 zw8 zLb zLh
def zDr:=zqR ⟨N0,zgq⟩
def zLi:=zT1 ⟨N0,zgq⟩ zw9
def zDs:=zrg ⟨N0⟩
def zLj:=zUs ⟨N0⟩
def D92:=F92 ⟨N0,zDs⟩
def zLl:=o92 ⟨N0,zDs⟩ zLj
def zDt:=zqX ⟨N0,D92⟩
def zLm:=zT7 ⟨N0,D92⟩ zLl
def D97:=F97 ⟨N0,zDt⟩
def zZm:=o97 ⟨N0,zDt⟩ zLm
def zDu:=zqV ⟨N0,D97⟩
def zLn:=zT5 ⟨N0,D97⟩ zZm
def zDv:=zqT ⟨N0,zDu⟩
def zLo:=zT3 ⟨N0,zDu⟩ zLn
def Ze:=En ⟨N0,zDr⟩
def zgr:=zkg ⟨N0,zDr⟩ zLi
def Zf:=Eo ⟨N0,zDv⟩
def zgs:=zki ⟨N0,zDv⟩ zLo
def zt6:=ae.two Ze Zf
theorem zLp:gB aB 128 (.mkv 43 3 56 (ae.unV zt6)):=zpx zgr zgs
def zDw:=zsq ⟨N0⟩
def zLq [aC]:=zVu ⟨N0⟩
def zDx:=zrV ⟨N0,zDw⟩
def zLr [aC]:=zU1 ⟨N0,zDw⟩ zLq
def zDy:=zrX ⟨N0,zmH⟩
def zLs [aC]:=zU2 ⟨N0,zmH⟩ zw5
def zDz:=zrT ⟨N0⟩
def zLt [aC]:=zUZ ⟨N0⟩
def zDA:=zqZ ⟨N0,zDx,zDy,zDz⟩
def zLu [aC]:=zT9 ⟨N0,zDx,zDy,zDz⟩ zLr zLs zLt
def D72:=F72 ⟨N0,D78,zCV,zDg,zt6,zDA⟩
def zZn:=o72 ⟨N0,D78,zCV,zDg,zt6,zDA⟩ zKx zKA zKZ zLp zms (@zLu ⟨1⟩)
def zDB:=ztF ⟨N0,zbH,zbI⟩
def zLv:=zXu ⟨N0,zbH,zbI⟩ zmD zmF
def D49:=F49 ⟨N0,zbG,zDB⟩
def zZp:=o49 ⟨N0,zbG,zDB⟩ zmz zLv
def D80:=F80 ⟨N0,zgb,D49⟩
def zZq:=o80 ⟨N0,zgb,D49⟩ zmy zZp
def D81:=F81 ⟨N0,D50⟩
def zZr:=o81 ⟨N0,D50⟩ zKG
def D82:=F82 ⟨N0⟩
def zZs:=o82 ⟨N0⟩
def D83:=F83 ⟨N0,zgq⟩
def zZt:=o83 ⟨N0,zgq⟩ zw9
def zDC:=ztL ⟨N0⟩
def zLw:=zXE ⟨N0⟩ zbF
def D84:=F84 ⟨N0,D92,zDC⟩
def zZu:=o84 ⟨N0,D92,zDC⟩ zLl zLw
def D25:=F25 ⟨N0,D78,D79,D72,D80,D81,D82,D83,D84⟩
theorem zZw:Ok aB 25 (ae.un D25):=o25 _ zKx zZi zZn zZq zZr zZs zZt zZu
def D73:=F73 ⟨N0⟩
def zmK:=o73 ⟨N0⟩
def zDD:=zpJ ⟨N0,D73⟩
def zLx:=zSr ⟨N0,D73⟩ zmK
def zDE:=zpK ⟨N0,D73⟩
def zLy:=zSt ⟨N0,D73⟩ zmK
def zDF:=zpE ⟨N0,D73,zDD,zDE⟩
def zLz:=zSl ⟨N0,D73,zDD,zDE⟩ zmK zLx zLy
def D61:=F61 ⟨N0,D73,zDF⟩
def zZy:=o61 ⟨N0,D73,zDF⟩ zmK zLz
def D86:=F86 ⟨N0⟩
def zDG:=o86 ⟨N0⟩
def D62:=F62 ⟨N0,D86⟩
def zZA:=o62 ⟨N0,D86⟩ zDG
def zmL:=zpG ⟨N0⟩
def zxa:=zSo ⟨N0⟩
def zDH:=zpH ⟨N0,D73,zmL⟩
def zLA:=zSp ⟨N0,D73,zmL⟩ zmK zxa
def D85:=F85 ⟨N0,zDH⟩
def zZC:=o85 ⟨N0,zDH⟩ zLA
def D26:=F26 ⟨N0,D61,D62,D85⟩
def zZD:=o26 ⟨N0,D61,D62,D85⟩ zZy zZA zZC
def D34:=F34 ⟨N0⟩
def zZF:=o34 ⟨N0⟩
def zDI:=zpF ⟨N0⟩
def zLB:=zSn ⟨N0⟩
def D75:=F75 ⟨N0,zDI⟩
def zDJ:=o75 ⟨N0,zDI⟩ zLB
def D87:=F87 ⟨N0⟩
def zDL:=o87 ⟨N0⟩
def D27:=F27 ⟨N0,D34,D86,D75,D87⟩
def zZG:=o27 ⟨N0,D34,D86,D75,D87⟩ zZF zDG zDJ zDL
def zt7:=zsz ⟨N0⟩
def zLC:=zVz ⟨N0⟩
def D65:=F65 ⟨N0,D75⟩
def zDM:=o65 ⟨N0,D75⟩ zDJ
def zgt:=zra ⟨N0⟩
def zmM:=zUn ⟨N0⟩
def zmN:=zr4 ⟨N0⟩
def zxc:=zU9 ⟨N0⟩
def zDN:=zsN ⟨N0⟩
def zLD:=zVK ⟨N0⟩
def zmO:=zqM ⟨N0⟩
def zxd:=zTW ⟨N0⟩
def D71:=F71 ⟨N0,zmO⟩
def zDP:=o71 ⟨N0,zmO⟩ zxd
def D55:=F55 ⟨N0,D71⟩
def zZI:=o55 ⟨N0,D71⟩ zDP
def zDQ:=zst ⟨N0,zDN,D55⟩
def zLE:=zVw ⟨N0,zDN,D55⟩ zLD zZI
def zmP:=zrA ⟨N0⟩
def zxe:=zUH ⟨N0⟩
def zDR:=zqH ⟨N0,zmP⟩
def zLF:=zTT ⟨N0,zmP⟩ zxe
def D57:=F57 ⟨N0,zDR⟩
def zZK:=o57 ⟨N0,zDR⟩ zLF
def zDS:=zsO ⟨N0,zmP⟩
def zLG:=zVL ⟨N0,zmP⟩ zxe
def D56:=F56 ⟨N0⟩
def zLI:=o56 ⟨N0⟩
def zDT:=zsw ⟨N0,zDS,D56⟩
def zLJ:=zVy ⟨N0,zDS,D56⟩ zLG zLI
def zgu:=zkF ⟨N0,zDQ,D57,zDT⟩
def zxf:=zVa ⟨N0,zDQ,D57,zDT⟩ zLE zZK zLJ
def zmQ:=zq7 ⟨N0,zgt,zmN,zgu⟩
def zxg:=zUh ⟨N0,zgt,zmN,zgu⟩ zmM zxc zxf
def zDU:=zq9 ⟨N0⟩
def zLK:=zUl ⟨N0⟩
def D74:=F74 ⟨N0⟩
def zZM:=o74 ⟨N0⟩
def zDV:=zq8 ⟨N0,D74⟩
def zLL:=zUj ⟨N0,D74⟩ zZM
def D90:=F90 ⟨N0,zDU,zDV⟩
def zLN:=o90 ⟨N0,zDU,zDV⟩ zLK zLL
def zgv:=zr7 ⟨N0,D65,zmQ,D90⟩
def zxh:=zVd ⟨N0,D65,zmQ,D90⟩ zDM zxg zLN
def zbL:Nat→(ak×(Sl bg)×af×Int)×Sl af→ae (Sl af)
 | 0=>λ_=>.no
 | n+1=>zr5 ⟨N0,D87,D75,zt7,zgv,(zbL n)⟩
theorem zxi:∀n,gB aB 195 (.grow 43 3 56 (ae.unW (zbL n)))
  | 0=>λw h base az vs v n get m lW hh=>by
    obtain⟨_,h2⟩:=ae.chk_o hh;cases h2
  | n+1=>zVb ⟨N0,D87,D75,zt7,zgv,(zbL n)⟩ zDL zDJ zLC zxh (zxi n)
def zDW:=zri ⟨N0,(zbL 30)⟩
def zLO:=zUt ⟨N0,(zbL 30)⟩ (zxi 30)
def D76:=F76 ⟨N0,zmO,D71⟩
def zZO:=o76 ⟨N0,zmO,D71⟩ zxd zDP
def zLP:=zrb ⟨N0,zgt,zmN,D71,zgu,D76,D56⟩
def zLQ:=zUp ⟨N0,zgt,zmN,D71,zgu,D76,D56⟩ zmM zxc zDP zxf zZO zLI
def zLR:=zrf ⟨N0⟩
def zLS:=zUr ⟨N0⟩
def zDX:=zq2 ⟨N0⟩
def zLT:=zUb ⟨N0⟩
def D77:=F77 ⟨N0,zDX,zmL⟩
def zZP:=o77 ⟨N0,zDX,zmL⟩ zLT zxa
def D91:=F91 ⟨N0,D65,D87,zgt,zLP,zLR,D86,D77⟩
theorem zLU:Ok aB 91 (ae.un D91):=o91 _ zDM zDL zmM zLQ zLS zDG zZP
def zDY:=zrk ⟨N0,zgv,D91⟩
def zLV:=zUu ⟨N0,zgv,D91⟩ zxh zLU
def D94:=F94 ⟨N0,zDW,zDY⟩
def zZR:=o94 ⟨N0,zDW,zDY⟩ zLO zLV
def D53:=F53 ⟨N0⟩
def zLX:=o53 ⟨N0⟩
def D38:=F38 ⟨N0⟩
def zD0:=o38 ⟨N0⟩
def zD1:=zq5 ⟨N0,D38⟩
def zLY:=zUf ⟨N0,D38⟩ zD0
def D88:=F88 ⟨N0,D94,D53,zD1⟩
def zZT:=o88 ⟨N0,D94,D53,zD1⟩ zZR zLX zLY
def D28:=F28 ⟨N0,D88⟩
def zZU:=o28 ⟨N0,D88⟩ zZT
def D52:=F52 ⟨N0,D38⟩
def zL0:=o52 ⟨N0,D38⟩ zD0
def D29:=F29 ⟨N0,D38,D52⟩
def zZV:=o29 ⟨N0,D38,D52⟩ zD0 zL0
def zD2:=ztR ⟨N0⟩
def zL1:=zXM ⟨N0⟩
def D89:=F89 ⟨N0,zD2,zmQ⟩
def zZX:=o89 ⟨N0,zD2,zmQ⟩ zL1 zxg
def D30:=F30 ⟨N0,D65,D89,D91,D90,D52,D53⟩
def zZY:=o30 ⟨N0,D65,D89,D91,D90,D52,D53⟩ zDM zZX zLU zLN zL0 zLX
def D4:=F4 ⟨N0,D23,D19,D24,D25,D26,D27,D28,D29,D30⟩
theorem oD4:Ok aB 4 (ae.un D4):=o4 _ zY9 zZc zZd zZw zZD zZG zZU zZV zZY
theorem zZZ:Q23 D23:=s23 bM
theorem zZ0:Q24 D24:=s24
theorem OL:BV CQ:=zS8
theorem zxj:zqn zmu:=zTc OL
theorem zL2:zzI zCI:=zTd OL zxj
theorem zL3:zfs zCJ:=zTe
theorem zL4:zzJ zCK:=zTg bM OL
theorem zL5:zfs zCL:=zTf
theorem zL6:zzK zCM:=zTh bM OL zL2 zL3 zL4 zL5
theorem zd3:QSe U9:=zTi bM zL6 OL
theorem zL7:zzL zCN:=zTj zd3
theorem zxk:BV zmv:=zS7
theorem zZ1:Q60 D60:=s60 zL7 zxk
theorem zd4:zft Va:=zTm bM OL
theorem zxl:zqp zmw:=zTn zd3 zd4
theorem zL8:zzN zCO:=zTo zxl
theorem zL9:zzS zCP:=zTt
theorem zMa:zzQ zCQ:=zTq bM
theorem zMb:zzR zCR:=zTr bM zMa
theorem zMc:zzT zCS:=zTu zL9 zMb
theorem zMd:zzU zCT:=zTv zxl zd4 zMc
theorem zMe:Q78 D78:=s78 bM zZ1 zL8 zMd
theorem zxm:zqs zmx:=zTz
theorem zZ2:QVw D96:=s96
theorem zZ3:Q79 D79:=s79 bM zxk zxm zZ2
theorem zMf:zCf zCU:=zXn bM
theorem zMg:ztA zCV:=zXo zMf
theorem zMh:zBQ zCW:=zWW
theorem zgw:QUx .inl YU:=zlR bM zMh
theorem zMi:zBR zCX:=zWX
theorem zgx:QUx .inr YV:=zlS bM zMi
theorem zxn:ztp zf7:=zWY zgw zgx
theorem zgy:QUa .inl YW:=zlT zxn
theorem zgz:QUa .inr YX:=zlU zxn
theorem zxo:ztq zga:=zWZ zgy zgz
theorem zMj:zBN zCY:=zWR bM zd3 zd4
theorem zMk:zBL zCZ:=zWO
theorem zMl:Q50 D50:=s50 bM zMj zd4 zMk
theorem zZ4:Q93 D93:=s93 bM zMl
theorem zmR:zj0 zgb:=zTB bM
theorem zd5:BV Vb:=zVX
theorem zMm:zA5 zC0:=zV1 zd5
theorem zmS:zlb zbG:=zV2 bM zMm zd5
theorem zMn:zA9 zC1:=zV6
theorem zgA:QIx .inl YY:=zle bM zMn
theorem zMo:zA6 zC2:=zV3 zd5
theorem zMp:zA7 zC3:=zV4 zMo
theorem zgB:QIx (λc=>.inr (.inl c)) YZ:=zlf bM zMp
theorem zMq:zA8 zC4:=zV5
theorem zgC:QIx (λc=>.inr (.inr c)) Y0:=zlg bM zMq
theorem zmT:zld Y1:=zV7 zgA zgB zgC
theorem zgD:Pz .inl Y2:=zlh zmT
theorem zgE:Pz (λc=>.inr (.inl c)) Y3:=zli zmT
theorem zgF:Pz (λc=>.inr (.inr c)) Y4:=zlj zmT
theorem zmU:Yh Y5:=zV8 zgD zgE zgF
theorem Zg:zbp OI:=zV9 zmU
theorem zMr:zA3 zC7:=zVY
theorem zMs:zA4 zC8:=zVZ bM zMr
theorem zMt:zbo zC5:=zVU bM
theorem Zh:Oe OJ:=zVW zMt
theorem zxp:zs4 zmC:=zWd Zh
theorem zMu:zBa zC6:=zWa zmU
theorem zmV:zlm zbH:=zWe Zg zMs zxp zMu
theorem zxq:zs3 zmE:=zWc bM
theorem zmW:zln zbI:=zWf zxq Zg
theorem zMv:zBd zC9:=zWg
theorem zgG:QOp .inl Y8:=zlo zmS zmV zmW Zg zMv
theorem zMw:zBe zDa:=zWh
theorem zgH:QOp .inr Y9:=zlp zmS zmV zmW Zg zMw
theorem zxr:zs6 zgk:=zWj zgG zgH
theorem zMx:zBb zDb:=zWb zmU
theorem zxs:zs9 zmG:=zWk
theorem zxt:zbr zmH:=zWl zxs
theorem zmX:zls zbJ:=zWn zxt
theorem zMy:zBj zDc:=zWo zMx Zh zmX
theorem zMz:zBk zDd:=zWp zMy
theorem zMA:zBl zDe:=zWr bM zxr zMz zxp
theorem zMB:zBm zDf:=zWs zMA
theorem zMC:zBP zt2:=zWU zZ4 zmR zMB
theorem zMD:zzW zt3:=zTE bM zxm
theorem zmY:∀n,QMp n (zbK n)
  | 0=>λs l r x t c i w he hv hc ht hf=>absurd hf (by have:=hv.le;omega)
  | n+1=>zJK (E:=⟨N0,zga,zt2,zt3,(zbK n)⟩) zxo zMC zMD (zmY n)
theorem zD3:zmj zDg:=zJL (zmY 30)
theorem zME:zBA zDh:=zWF
theorem zMF:zBB zDi:=zWG zME
theorem zMG:zBC zDj:=zWH zmX
theorem zgI:QEx .inl Za:=zlL bM zMG
theorem zMH:zBD zDk:=zWI zmX
theorem zgJ:QEx .inr Zb:=zlM bM zMH
theorem zxu:ztl zgn:=zWJ zgI zgJ
theorem zgK:QBd .inl Zc:=zlO bM zMF zxu Zh
theorem zMI:zBG zDl:=zWK
theorem zgL:QBd .inr Zd:=zlP bM zMI zxu Zh
theorem zMJ:zBI zt4:=zWL zgK zgL
theorem zMK:zBJ zDm:=zWM Zg zxq Zh zMJ
theorem zML:zBK zK8:=zWN zd5 zxr zMK
theorem zxv:ztv zt5:=zW8
theorem zMM:zB4 zLa:=zW9 zxv
theorem zMN:zBX zDn:=zW4 zxs
theorem zMO:zBW zDo:=zW3
theorem zMP:zBZ zDp:=zW5 bM zMN zMO
theorem zMQ:zB1 zDq:=zW6 bM zMP
theorem zMR:zB2 zLg:=zW7 zd3 OL zxj zMQ
theorem zxw:ztw zgq:=zXa bM zmR zxo zML zxv zMM zMR
theorem zMS:zB6 zDr:=zXb zxw
theorem zgM:QFi .inl Ze:=zlY bM zMS
theorem zMT:zB7 zDs:=zXc bM
theorem zMU:Q92 D92:=s92 bM zMT
theorem zMV:zB8 zDt:=zXd zMU
theorem zZ5:Q97 D97:=s97 bM zMV
theorem zMW:zB9 zDu:=zXf zZ5
theorem zMX:zCa zDv:=zXg zMW
theorem zgN:QFi .inr Zf:=zlZ bM zMX
theorem zMY:zty zt6:=zXh zgM zgN
theorem zMZ:zCc zDw:=zXi
theorem zM0:zbr zDx:=zXj zMZ
theorem zM1:YF zDy:=zXk bM zxt
theorem zM2:zCe zDz:=zXl bM
theorem zM3:ztz zDA:=zXm zM0 zM1 zM2
theorem zM4:zCA D72:=zXX zMe zMg zD3 zMY zM3
theorem zM5:zCl zDB:=zXx bM zmV zmW
theorem zM6:zCt D49:=zXO bM zmS zM5
theorem zM7:zCv D80:=zXT bM zmR zM6
theorem zM8:zCw D81:=zXU bM zMl
theorem zZ6:Q82 D82:=s82
theorem zM9:zCx D83:=zXV zxw
theorem zNa:zCp zDC:=zXK
theorem zNb:zCy D84:=zXW bM zMU zNa
theorem zNc:ztY D25:=zX2 zMe zZ3 zM4 zM7 zM8 zZ6 zM9 zNb
theorem zmZ:BV D73:=s73
theorem zNd:zzF zDD:=zS9 zmZ
theorem zNe:zzG zDE:=zTa bM zmZ
theorem zNf:zzH zDF:=zTb bM zmZ zNd zNe
theorem zZ7:QSe D61:=s61 bM zmZ zNf
theorem zD4:BV D86:=s86
theorem zZ8:Q62 D62:=s62 zD4
theorem zxx:zqo zmL:=zTk bM
theorem zNg:zzM zDH:=zTl bM zmZ zxx
theorem zZ9:Q85 D85:=s85 bM zNg
theorem z0a:Q26 D26:=s26 zZ7 zZ8 zZ9
theorem z0b:QVw D34:=s34
theorem zNh:zzO zDI:=zTp bM
theorem zD5:Q75 D75:=s75 zNh
theorem zD6:Q87 D87:=s87 bM
theorem z0c:QCh D27:=s27 bM z0b zD4 zD5 zD6
theorem zNi:zBU zt7:=zW0
theorem zD7:Q65 D65:=s65 bM zD5
theorem zm0:zly zgt:=zWt bM
theorem zNj:zBo zmN:=zWu bM
theorem zNk:zBq zDN:=zWy
theorem zxy:zbo zmO:=zVV bM
theorem zNl:Oe D71:=s71 zxy
theorem z0d:Q55 D55:=s55 zNl
theorem zxz:zti zDQ:=zWA bM zNk z0d
theorem zxA:ztc zmP:=zWv
theorem zNm:zBp zDR:=zWw zxA
theorem zNn:Q57 D57:=s57 bM zNm
theorem zNo:zBy zDS:=zWB bM zxA
theorem zNp:Q56 D56:=s56
theorem zxB:ztj zDT:=zWC zNo zNp
theorem zNq:zBz zgu:=zWD bM zxz zNn zxB
theorem zxC:ztk zmQ:=zWE zm0 zNj zNq
theorem zNr:zBO zDU:=zWT bM
theorem z0e:Q74 D74:=s74
theorem zNs:zBM zDV:=zWQ bM z0e
theorem zNt:Q90 D90:=s90 zNr zNs
theorem zxD:ztn zgv:=zWV zD7 zxC zNt
theorem zxE:∀n,QW n (zbL n)
  | 0=>λs l x t c i w he hv hc ht hf=>absurd hf (by have:=hv.le;omega)
  | n+1=>zW1 (E:=⟨N0,D87,D75,zt7,zgv,(zbL n)⟩) bM zD6 zD5 zNi zxD (zxE n)
theorem zNu:zBV zDW:=zW2 (zxE 30)
theorem zD8:zmc zgu:=zJD bM zxz zNn zxB
theorem z0f:Q76 D76:=s76 zxy zNl
theorem zD9:zmd zLP:=zJE bM zm0 zD8 z0f zNp
theorem zEa:zme zLR:=zJF
theorem zNv:zCj zDX:=zXq
theorem z0g:Q77 D77:=s77 bM zNv zxx
theorem zxF:ztV D91:=zXY bM zD7 zD6 zm0 zD9 zEa zD4 z0g
theorem zEb:zmk zDY:=zJP zxD zxF
theorem zNw:zCC D94:=zXZ bM zNu zEb
theorem zNx:Q53 D53:=s53 bM
theorem zEc:YF D38:=s38 bM
theorem zEd:zml zD1:=zJR zEc
theorem zNy:zCD D88:=zX0 bM zNw zNx zEd
theorem zNz:ztW D28:=zX1 zNy
theorem zNA:Q52 D52:=s52 zEc
theorem z0h:Q29 D29:=s29 zEc zNA
theorem zNB:zCu zD2:=zXR bM
theorem z0i:Q89 D89:=s89 bM zNB zxC
theorem zNC:zt0 D30:=zX4 bM zD7 z0i zNt zxF zNA zNx
theorem qD4:Q4 D4:=s4 zZZ zZb zZ0 zNc z0a z0c zNz z0h zNC
theorem z0j{δ ρ:Type}[dF δ][dF ρ]{F:δ->ae ρ}{a:δ}{r:ρ}(hc:dF.ck (α:=δ) (dF.enc a)=true)(hd:dF.dec (dF.enc a)=a)(h:F a=.ok r):(ae.un F (dF.enc a)).o=some (dF.enc r):=by
 unfold ae.un;rw[hc,hd,h];rfl
end Go.Proofs
namespace Go.Proofs.YtjkijdhdbhooiaaGreat
open Go.Pm (jX)
set_option maxRecDepth 100000
def dc:Nat→Nat→List Char|0,_=>[]|k+1,n=>Char.ofNat (n%128)::dc k (n/128)
def ioR:List (List Char):=[dc 2 14945,dc 35 45019731839301669745199096094014757347713743838262223150477152386253683567,dc 34 420377978748125055740877229337914779690535202023532228586777341826005871,dc 36 6550971710285934913754052784167232504664614938228495552548125985273808517999,dc 37 729461727561750118551056160028214191605660185564422184735309847620634057210735,dc 37 830772752598413053766828580736873493486916948856955428203985110704856283839343,dc 37 846039670449084468774387244088358248202427724899131661281249209823569867537263,dc 35 51179294023049743501667742572912222775214732381401055866039370168307121007,dc 35 45009296865569399087797946188323693179256993798839364341239407728733551471,dc 37 830780268438003779521215029671213750534782202343527674838098051362097095867247,dc 38 107331119686939743456630664922862568562027744964707129139922504835010957783169903,dc 36 6550077393460720109370983476171913501904522994409179701070095258754267839343,dc 35 48939868791262458989610581110577656928740303271215203627173391395041409903,dc 37 838349406564167396116242431067385471964016398604997842927764345145510690650991,dc 37 838349393033854787123352198492273111221406595137993776056015629414144918780783]
def ioN:List Char:=dc 599 149771092015852491278000662115128137748269599194581860494294778261301651447965370062645304741743729477171988600934799727326517975522812478602000462062741437383719700469441320225746001460657778919864702789185877727655633384756976915120483667267389003774318074344898749855352565971438052119468579606834274369754786466833197740569138863177439610707078849369185453345527529660045569842755503891534211525146045868530953689090964949867816695296345068916719713389224171554417522039179151544735265211004436216097918169509036553218766076260083794299680425243321104884652801756935939016856612808890681403713245564864003766772582403997404693715256366145143767382394449050497631406600169134111017758420705379181155399036702826495772349138224361597591141153214596847427732622443000331392581117708063194127217598752738628016573330186096707239904130243791293223266344009164320459711360917953739697093488615153066332379337541176729581439867139231308816545570621442575900426155419574959597509166851618974720944858788987333755451277637880095378589630688375170213056367090535571658338605777263539845461211124236505614769845380929544309814139208243656161387198222242061066521483984326294839656717673867435632142724742576645662295495695963786797012817486377421718128934313825440411880
theorem ioS:Tryz.prog.initOrder=String.ofList ioN:=by kernel_rfl
theorem ioL:Tryz.prog.initOrder.toList=ioN:=(jX String.toList ioS).trans String.toList_ofList
theorem ioW:wordsSigns Tryz.prog.initOrder.toList=(dc 7 509754063237352)::(dc 64 572163061260696105970074307196347989822506933787247010369012457204266251338368704666046318255463753418979972205211827874765770452792118)::(dc 3 1915619)::ioR:=(jX wordsSigns ioL).trans (by kernel_rfl)
theorem ioB:behindMainWord (wordsSigns Tryz.prog.initOrder.toList)=(dc 3 1915619)::ioR:=(jX behindMainWord ioW).trans (by kernel_rfl)
theorem Vd {P : Program} {l : List (List Char)} (h : behindMainWord (wordsSigns P.initOrder.toList) = l) : P.headLifts = (if (stripLifts liftWords l).2.head? == some "cut".toList then (stripLifts liftWords l).1 else []) := by subst h; rfl
theorem zt8{P:Program}{rest:List (List Char)}(h:behindMainWord (wordsSigns P.initOrder.toList)=(dc 3 1915619)::rest):P.make=some .cut:=by unfold Program.make;rw[h];rfl
theorem zm1{P:Program}{rest:List (List Char)}(h:behindMainWord (wordsSigns P.initOrder.toList)=(dc 3 1915619)::rest)(hl:P.headLifts=[]):P.liftsFinal=false:=by unfold Program.liftsFinal;rw[h,hl];rfl
theorem zm2 {P : Program} {c : List Char} {rest : List (List Char)} (h : behindMainWord (wordsSigns P.initOrder.toList) = c :: rest) (FT : (stripLifts liftWords (c :: rest)).2.head? = some "cut".toList)
    (hs1:(stripLifts liftWords (c::rest)).1=[]) (z0k:P.laysLater=false) (hb:P.bearsReflect=false) (hd:P.doorFits []=true):P.mayEnter=true:=by
  unfold Program.mayEnter;rw[h];simp[FT,hs1,z0k,hb,hd]
theorem ioH:Tryz.prog.headLifts=[]:=(Vd ioB).trans (by kernel_rfl)
theorem ioK:Tryz.prog.make=some .cut:=zt8 ioB
theorem ioF:Tryz.prog.liftsFinal=false:=zm1 ioB ioH
theorem ioE:Tryz.prog.mayEnter=true:=zm2 ioB (by kernel_rfl) (by kernel_rfl) (by kernel_rfl) (by kernel_rfl) (by kernel_rfl)
end Go.Proofs.YtjkijdhdbhooiaaGreat
