/- Part 6: framework, functions, plain laws. -/
import Derived.Test.YtjkijdhdbhooiaaGreatQ5
set_option linter.all false
noncomputable section
namespace Go.Proofs
open Go Go.Pm
set_option maxRecDepth 100000
abbrev zx7(C:Int×Pt (Pt aH)×Pt Int->ae Bool):Prop:=∀s l r i k,0<=i/\i<(l.len:Int)->0<=k/\k<(l.len:Int)->C (i,⟨fM s r l⟩,⟨k⟩)=.ok ((l.get i.toNat).aj==(l.get k.toNat).aj)
theorem zPV{E:zpk}:zx7 (zpl E):=λs l r i k hi hk=>ae.ext λK=>by
 rw[zOo,bf];exact(bF (p:=0<=i/\i<(l.len:Int)) hi).trans (bF (p:=0<=k/\k<(l.len:Int)) hk)
abbrev zx8(C:Int×Pt (Pt aH)×Pt Int->ae Bool):Prop:=∀s l r i p,0<=i/\i<(l.len:Int)->C (i,⟨fM s r l⟩,⟨p⟩)=.ok ((l.get i.toNat).aj==p)
theorem zPW{E:zpu}:zx8 (zpv E):=λs l r i p hi=>ae.ext λK=>by
 rw[e190,bf];exact bF (p:=0<=i/\i<(l.len:Int)) hi
abbrev zej:=dF 180 Unit (Pt (Pt aH)×Pt Int) ⊕ dF 190 Unit (Pt (Pt aH)×Pt Int)
def zqz(l:Sl bu):zej→Int→Bool|.inl c,h=>(l.get h.toNat).aj==(l.get c.v.2.v.toNat).aj|.inr c,h=>(l.get h.toNat).aj==c.v.2.v
def okU(s:au)(l:Sl bu)(r:bI):zej→Prop|.inl c=>c.v.1.v=fM s r l/\0<=c.v.2.v/\c.v.2.v<(l.len:Int)|.inr c=>c.v.1.v=fM s r l
abbrev QUx{γ:Type}(i:γ->zej)(C:Sl Int×γ->ae Int):Prop:=∀s l r (w:Sl Int) (c:γ),InH l w->w.len<=1000->okU s l r (i c)->C (w,c)=.ok (fst (λj=>zqz l (i c) (w.get j)) w.len 0)
abbrev QUa{γ:Type}(i:γ->zej)(C:Sl Int×γ->ae Bool):Prop:=∀s l r (w:Sl Int) (c:γ),InH l w->w.len<=1000->okU s l r (i c)->C (w,c)=.ok (!iL (λj=>!zqz l (i c) (w.get j)) w.len)
abbrev zqA(C:Sl Int×zej->ae Int):Prop:=QUx id C
abbrev zqB(C:Sl Int×zej->ae Bool):Prop:=QUa id C
theorem zjY{E:uM}(N:Big E.N)(zw9:zx7 E.zk8):QUx .inl (DZ E):=λs l r w c hi hw ho=>ae.ext λk=>by
 obtain⟨⟨⟩,⟨a⟩,⟨b⟩⟩:=c;obtain⟨rfl,hb⟩:=ho;rw[zi1,bf];refine Eb (L:=λn i=>ww E n w _ i k) (p:=λj=>zqz l (.inl ⟨(),⟨fM s r l⟩,⟨b⟩⟩) (w.get j)) (m:=w.len) (k:=k) omY (λn i mV=>?_) (λn=>?_) _ (by have:=N;omega);rw [MP,dK omY,dU,bF omY,fQ];show(E.zk8 (w.get i,⟨fM s r l⟩,⟨b⟩)).T _=_;rw[zw9 s l r _ _ (hi i mV) hb,bf];rfl;rw[MP,dV omY];rfl
theorem zjZ{E:uN}(N:Big E.N)(zxa:zx8 E.zla):QUx .inr (D5 E):=λs l r w c hi hw ho=>ae.ext λk=>by
 obtain⟨⟨⟩,⟨a⟩,⟨b⟩⟩:=c;have ho:a=fM s r l:=ho;subst ho;rw[zi3,bf];refine Eb (L:=λn i=>wz E n w _ i k) (p:=λj=>zqz l (.inr ⟨(),⟨fM s r l⟩,⟨b⟩⟩) (w.get j)) (m:=w.len) (k:=k) omY (λn i mV=>?_) (λn=>?_) _ (by have:=N;omega);rw [MR,dK omY,dU,bF omY,fQ];show(E.zla (w.get i,⟨fM s r l⟩,⟨b⟩)).T _=_;rw[zxa s l r _ _ (hi i mV),bf];rfl;rw[MR,dV omY];rfl
theorem zPX{f:Sl Int×dF 180 Unit (Pt (Pt aH)×Pt Int)->ae Int}{g:Sl Int×dF 190 Unit (Pt (Pt aH)×Pt Int)->ae Int}(a:QUx .inl f)(b:QUx .inr g):zqA (ae.two f g):=λs l r w c hi hw ho=>by
 rcases c with c|c
 exact a s l r w c hi hw ho;exact b s l r w c hi hw ho
theorem zj0{E:DJ}(ZE:zqA E.c210):QUa .inl (DK E):=λs l r w c hi hw ho=>ae.ext λk=>by rw[ziN,ZE s l r w (.inl c) hi hw ho,bf,bf,wG];rfl
theorem zj1{E:DL}(ZE:zqA E.c210):QUa .inr (DN E):=λs l r w c hi hw ho=>ae.ext λk=>by rw[ziP,ZE s l r w (.inr c) hi hw ho,bf,bf,wG];rfl
theorem zPY{f:Sl Int×dF 180 Unit (Pt (Pt aH)×Pt Int)->ae Bool}{g:Sl Int×dF 190 Unit (Pt (Pt aH)×Pt Int)->ae Bool}(a:QUa .inl f)(b:QUa .inr g):zqB (ae.two f g):=λs l r w c hi hw ho=>by
 rcases c with c|c
 exact a s l r w c hi hw ho;exact b s l r w c hi hw ho
theorem ztf{l:Sl bu}{t:af}{c:iJ}(hc:eu t=c)(p:Int->Bool):(!iL (λj=>!p (t.Hits.get j)) t.Hits.len)=c.any λq=>p q.1:=by
 rw[qdA,NQ,<- qjl,dD,qjj];constructor
 ·intro h;apply qdx;intro hn;refine h λj hj=>?_;cases e:p (t.Hits.get j)with|false=>rfl|true=>exact(hn ⟨_,Jy (Ef hc hj),e⟩).elim
 rintro⟨q,hq,e⟩ h;obtain⟨j,hj,rfl⟩:=qd5 hq;have hl:j<t.Hits.len:=by rw[<- iw,hc];exact hj
 have:=Ef hc hl;rw[Ai hj]at this;have:=dq9 this;have h2:=h j hl;rw[this]at e;rw[e]at h2;cases h2
def chs(w:Sl af):List iJ:=(List.range w.len).map λi=>eu (w.get i)
theorem Eo(w:Sl af):(chs w).length=w.len:=by simp[chs]
def Ot(x:Int)(w:Sl af):Prop:=∀i,i<w.len->WO x (w.get i)
theorem zqC(w:Sl af)(t:af):chs (mX w t)=chs w++[eu t]:=by
 unfold chs;show(List.range (w.len+1)).map _=_;rw[qjw,TR];congr 1;exact dqU λi hi=>by
  show eu (lm w.len w.get (λ_=>t) i)=_;rw[jD,dM (by have:=Ak.1 hi;omega)]
 show [eu (lm w.len w.get (fun _=>t) w.len)]=_;rw[jD,dH (jy _)]
theorem zj2{x:Int}{w:Sl af}{t:af}(h:Ot x w)(ht:WO x t):Ot x (mX w t):=λi hi=>by
 show WO x (lm w.len w.get (λ_=>t) i);rw[jD];by_cases e:w.len<=i;rw[dH e];exact ht;rw[dM e];exact h i omY
def wiT(x:Int)(t:af)(p:Int×Int):af:=⟨x,⟨t.Hits.len+1,lm t.Hits.len t.Hits.get λ_=>p.1⟩,⟨t.aX.len+1,lm t.aX.len t.aX.get λ_=>p.2⟩⟩
theorem zqD{x:Int}{t:af}{p:Int×Int}(h:t.aX.len=t.Hits.len):eu (wiT x t p)=eu t++[p]:=by
 refine zjS rfl (λj hj=>?_) ?_;show lm t.Hits.len t.Hits.get (fun _=>p.1) j=_∧lm t.aX.len t.aX.get (fun _=>p.2) j=_;rw[jD,jD,dM omY,dM omY];exact⟨rfl,rfl⟩;show lm t.Hits.len t.Hits.get (fun _=>p.1) t.Hits.len=_∧lm t.aX.len t.aX.get (fun _=>p.2) t.Hits.len=_;rw[jD,jD,dH omY,dH omY];exact⟨rfl,rfl⟩
theorem ZN{x:Int}{t:af}{p:Int×Int}(h:t.aX.len=t.Hits.len):WO x (wiT x t p):=⟨rfl,by show t.aX.len+1=t.Hits.len+1;rw[h]⟩
abbrev zEJ:=af×Int×Bc 143 (Pt aH)×Bc 38 Int×Bw 30 43 3 56 af×Bs 255 178 2 4×Unit
def iE(s:au)(l:Sl bu)(x:Int):List iJ:=gr (Bj s l) (Gl l) (Nj s l x) 30 [] 0
theorem zqE(s:au)(l:Sl bu)(x:Int):Val s l x [] 0:=⟨⟨jy _,xn _⟩,(λp h=>by cases h),List.Pairwise.nil⟩
abbrev zEK(C:Pt aH×Int->ae (Sl af×Bool)):Prop:=∀s l r x,Ev s l x->(iE s l x).length<=2000->∃w,C (fM s r l,x)=.ok (w,true)/\chs w=iE s l x/\Ot x w
abbrev WX:=(Bool×Int)×(Unit×Unit×Pt aH×Int×Sl af×Unit×Unit)
def zj3(s:au)(l:Sl bu)(r:bI)(x:Int)(G:List iJ)(w:Sl af)(R:WX):Prop :=
 (w.len+G.length<=2000/\∃w',R=((false,0),(),(),fM s r l,x,w',(),())/\chs w'=chs w++G/\Ot x w')\/(2000<w.len+G.length/\∃w',R=((true,x),(),(),fM s r l,x,w',(),()))
def QMp(f:Nat)(C:zEJ->ae WX):Prop:=∀s l r x t c (i:Nat) (w:Sl af),Ev s l x->Val s l x c i->eu t=c->t.aX.len=t.Hits.len->l.len<i+f->Ot x w->w.len<=2000 ->
 ∃R,C (t,(i:Int),⟨fM s r l⟩,⟨x⟩,⟨w⟩,{},())=.ok R/\zj3 s l r x (gr (Bj s l) (Gl l) (Nj s l x) f c i) w R
theorem zEL{E:zd6}{f:Nat}(Zy:zqB E.NI)(zw0:zx6 E.c182)(i173:zoo E.i173)(hm:QMp f E.IM):QMp (f+1) (zpi E):=λs l r x t c i w he hv hc ht hf hw hn=>by
 have h24:=he.l24;have hle:=hv.le;have hlen:=rU hc hv
 have key:∀(ys:iJ)(w:Sl af),(∀y∈ys,y∈Nj s l x i)->Ot x w->w.len<=2000 ->
   ∃R,(∀(A:Type)(k:WX->Option A)(w0:Sl af),o8 E ys t (i:Int) (fM s r l) x w0 (fM s r l) x w k=k R)/\zj3 s l r x (ys.flatMap λp=>cond (Gl l c p.1 || !Bj s l (c++[p])) [] ((c++[p])::gr (Bj s l) (Gl l) (Nj s l x) f (c++[p]) (p.1.toNat+1))) w R:=by
  intro ys
  induction ys with
  | nil=>intro w _ hw hn;exact⟨_,λA k w0=>zpj ..,.inl ⟨by simpa using hn,w,rfl,by simp,hw⟩⟩
  | cons y ys ih =>
   intro w hy hw hn;rw[lX];have hys:∀z∈ys,z∈Nj s l x i:=λz hz=>hy z (jB _ hz);obtain⟨_,y1,_,_⟩:=WP (hy y jM);have u:(E.NI (t.Hits,.inl ⟨(),⟨fM s r l⟩,⟨y.1⟩⟩))=.ok (Gl l c y.1):=by
    rw[Zy s l r t.Hits (.inl ⟨(),⟨fM s r l⟩,⟨y.1⟩⟩) (Td hc hv) omY ⟨rfl,(by show 0<=y.1;omega),(by show y.1<(l.len:Int);omega)⟩];exact jF ae.ok (ztf (l:=l) hc λh=>(l.get h.toNat).aj==(l.get y.1.toNat).aj)
   have skip:∀(A:Type)(k:WX->Option A)(w0:Sl af),Gl l c y.1=true->o8 E (y::ys) t (i:Int) (fM s r l) x w0 (fM s r l) x w k=o8 E ys t (i:Int) (fM s r l) x w0 (fM s r l) x w k:=λA k w0 e=>by
    rw[ziM,u,bf,e];rfl
   cases hu:Gl l c y.1 with
   | true =>
    obtain⟨R,a,b⟩:=ih w hys hw hn;exact⟨R,λA k w0=>by rw[skip A k w0 hu,a],by simpa using b⟩
   | false =>
    have hv2:=hv.snoc (hy y jM) hu;have hc2:eu (wiT x t y)=c++[y]:=by rw[zqD ht,hc]
    have ag:=zw0 s l r x (wiT x t y) (c++[y]) _ he (ZN ht) hc2 hv2 (by simp);have st:∀(A:Type)(k:WX->Option A)(w0:Sl af),o8 E (y::ys) t (i:Int) (fM s r l) x w0 (fM s r l) x w k=cond (!Bj s l (c++[y])) (o8 E ys t (i:Int) (fM s r l) x w0 (fM s r l) x w k) (aV (room (w.len+1) 56) (cond (decide ((w.len:Int)+1>2000)) (k ((true,x),(),(),fM s r l,x,mX w (wiT x t y),(),())) ((E.IM (wiT x t y,aQ (y.1+1),⟨fM s r l⟩,⟨x⟩,⟨mX w (wiT x t y)⟩,{},())).T λr3=>cond r3.1.1 (k ((true,r3.1.2),(),(),r3.2.2.2.1,r3.2.2.2.2.1,r3.2.2.2.2.2.1,(),())) (o8 E ys t (i:Int) (fM s r l) x w0 r3.2.2.2.1 r3.2.2.2.2.1 r3.2.2.2.2.2.1 k)))):=λA k w0=>by
     rw[ziM,u,bf,hu,dQ,lV omY omY,lV omY omY,lV omY omY,lV omY omY];show(E.c182 (fM s r l,wiT x t y)).T _=_;rw[ag,bf];rfl
    cases ha:Bj s l (c++[y])with
    | false =>
     obtain⟨R,a,b⟩:=ih w hys hw hn;exact⟨R,λA k w0=>by rw[st,ha];exact a A k w0,by simpa using b⟩
    | true =>
     simp only[qds,Bool.or_self,dQ];have e1:aQ (y.1+1)=((y.1.toNat+1:Nat):Int):=by rw[aZ omY omY];omega
     by_cases h0:w.len+1<=2000
     case neg =>
      refine⟨((true,x),(),(),fM s r l,x,mX w (wiT x t y),(),()),λA k w0=>?_,.inr ⟨by rw[BG,xm];omega,_,rfl⟩⟩;rw[st,ha,qds,dQ,lV omY omY,dK omY,dU]
     obtain⟨R1,a1,o1⟩:=hm s l r x (wiT x t y) (c++[y]) (y.1.toNat+1) (mX w (wiT x t y)) he hv2 hc2 (ZN (x:=x) ht).2 omY (zj2 hw (ZN ht)) h0;have lw:(mX w (wiT x t y)).len=w.len+1:=rfl;rcases o1 with⟨n1,w1,rfl,b1,d1⟩|⟨n1,w1,rfl⟩
     have l1:w1.len=w.len+1+(gr (Bj s l) (Gl l) (Nj s l x) f (c++[y]) (y.1.toNat+1)).length:=by
      rw[<- Eo,b1,BG,Eo];rfl
     obtain⟨R,a,b⟩:=ih w1 hys d1 omY;refine⟨R,λA k w0=>?_,?_⟩;rw [st,ha,e1,a1,bf,qds,dQ,lV omY omY,dV omY,dQ];exact a A k w0;rcases b with⟨n2,w',e2,b2,d2⟩|⟨n2,w',e2⟩
     exact .inl ⟨by rw[BG,xm];omega,w',e2,by rw[b2,b1,zqC,hc2];simp,d2⟩;exact .inr ⟨by rw[BG,xm];omega,w',e2⟩;refine⟨_,fun A k w0 => ?_,.inr ⟨by rw [BG,xm];omega,w1,rfl⟩⟩;rw[st,ha,e1,a1,bf,qds,dQ,lV omY omY,dV omY,dQ];rfl
 obtain⟨R,a,b⟩:=key (Nj s l x i) w (λy hy=>hy) hw hn;refine⟨R,ae.ext λk=>?_,b⟩;rw[zOm,i173 s l r x i he.toEvt hle.2,bf,bf];exact a _ k w
abbrev zj4(C:Pt aH×Int->ae (Sl af×Bool)):Prop:=∀s l r x,Ev s l x->((iE s l x).length<=2000/\∃w,C (fM s r l,x)=.ok (w,true)/\chs w=iE s l x/\Ot x w)\/(2000<(iE s l x).length/\∃w,C (fM s r l,x)=.ok (w,false))
theorem zEM{E:ziA}(hm:QMp 30 E.IM):zj4 (zoG E):=λs l r x he=>by
 have h24:=he.l24;obtain⟨R,a,b⟩:=hm s l r x ⟨0,⟨0,λ_=>default⟩,⟨0,λ_=>default⟩⟩ [] 0 ⟨0,λ_=>⟨0,⟨0,λ_=>0⟩,⟨0,λ_=>0⟩⟩⟩ he (zqE s l x) rfl rfl omY (λi hi=>absurd hi (dq8 i)) (xn _);rcases b with⟨n,w',rfl,b,d⟩|⟨n,w',rfl⟩
 exact .inl ⟨by have h:0+(iE s l x).length<=2000:=n;omega,w',ae.ext λk=>by rw[e127];show(E.IM (_,((0:Nat):Int),_)).T _=_;rw[a,bf,bf];rfl,b,d⟩;exact .inr ⟨by have h:2000<0+(iE s l x).length:=n;omega,_,ae.ext λk=>by rw[e127];show(E.IM (_,((0:Nat):Int),_)).T _=_;rw[a,bf,bf];rfl⟩
structure E98 where
 N:Nat
def F98(E:E98):af×(Pt Int)->ae Bool:=jS E.N Tabs.nil 98
theorem e98(E:E98){A:Type}(k:Bool→Option A)(a0:af)(a1:Pt Int):(F98 E (a0,a1)).T k=k (a0.View==a1.v):=eX
theorem o98 [aG](E:E98):Ok aJ 98 (ae.un (F98 E)):=eY aB.nil
def zqF(s:au)(l:Sl bu)(x:Int):List iJ:=grC (Bj s l) (Gl l) (Nj s l x) 30 [] [] 0
theorem zqG{s:au}{l:Sl bu}{x:Int}(h:(zqF s l x).length<=2000):zqF s l x=iE s l x:=by
 have:=(zjK (f:=30) (out:=[]) (c:=[]) (i:=0)).2 h;rw[NW]at this;exact this
abbrev zyb(C:Int->ae Bool):Prop:=∀x,C x=.ok false
theorem zPZ{E:zp1}:zyb (zp2 E):=λx=>ae.ext λk=>by rw[e237,bf,show(x != x)=false by simp]
abbrev zyc(C:Int×Int->ae Bool):Prop:=∀a b,C (a,b)=.ok (decide (a<b))
theorem zP0{E:zpZ}(We:zqm E.NJ):zyc (zp0 E):=λa b=>ae.ext λk=>by rw[zOV,We,bf,bf];rfl
theorem zyd{a:Int}(h:0<=a/\a<=1000000):aQ (Ip .u64 (IntKind.u64.wrap (aQ a)) 1)=a/2:=by
 have e1:aQ a=a:=aZ omY omY;have e2:IntKind.u64.wrap a=a:=by
  have hb:IntKind.u64.bits=64:=rfl;have hs:IntKind.u64.signed=false:=rfl;unfold IntKind.wrap;rw[hb,hs];simp only[qd1,qdm,qd2];omega
 have e3:Ip .u64 a 1=a/2:=by
  show a.fdiv (2^(min (1:Int).toNat 64))=_;rw[Int.fdiv_eq_ediv_of_nonneg _ (by decide)];rfl
 rw[e1,e2,e3,aZ omY omY]
def hasB(w:Sl Int)(x:Int):Bool:=!iL (λj=>!decide (w.get j=x)) w.len
theorem WY{w:Sl Int}{x:Int}:hasB w x=true↔∃j,j<w.len/\w.get j=x:=by
 unfold hasB;rw[NQ,<- qjl,dD];constructor;intro h;apply qdx;intro hc;exact h λi hi=>by simpa using λe=>hc ⟨i,hi,e⟩
 rintro⟨j,hj,e⟩ h;have:=h j hj;simp[e]at this
def zye(w:Sl Int):Prop:=∀i j,i<j->j<w.len->w.get i<w.get j
abbrev zyf(C:Sl Int×Int->ae (Int×Bool)):Prop:=∀w x,zye w->w.len<=1000->∃r,C (w,x)=.ok (r,hasB w x)
theorem zP1{E:zea}(N:Big E.N)(zw6:zyc E.c236)(zw7:zyb E.zlb):zyf (zpJ E):=λw x hw hl=>by
 have key:∀(d i j n:Nat),i+d=j->j<=w.len->d<n->(∀p,p<i->w.get p<x)->(∀p,j<=p->p<w.len->x<=w.get p)->∃r,∀(A:Type)(k:Int×Bool->Option A),yE E n w x (i:Int) (j:Int) k=k (r,hasB w x):=by
  intro d
  induction d using Nat.strongRecOn with
  | _ d ih =>
   intro i j n hd hj hn h1 h2;obtain⟨n,rfl⟩:∃n',n=n'+1:=⟨n-1,omY⟩;by_cases h0:d=0;have e:i=j:=by omega
   subst e;have no:(i<w.len->w.get i≠x)->hasB w x=false:=λhn=>by
    cases hb:hasB w x with
    | false=>rfl
    | true =>
     obtain⟨p,hp,e⟩:=WY.1 hb;rcases qdw p i with q|q|q
     have:=h1 p q;omega;subst q;exact absurd e (hn hp);have a:=hw i p q hp;have:=h2 i (jy _) omY;omega
   by_cases hi:i<w.len;by_cases hx:w.get i=x;refine⟨(i:Int),fun A k => ?_⟩;rw[Sv,dV omY,dQ,dK omY,dU,bF omY,fQ,show(w.get i==x)=true by simpa using hx,dU,WY.2 ⟨i,hi,hx⟩];refine⟨(i:Int),fun A k => ?_⟩;rw[Sv,dV omY,dQ,dK omY,dU,bF omY,fQ,show(w.get i==x)=false by simpa using hx,dQ,bF omY,zw7,bf,no λ_=>hx];rfl;refine⟨(i:Int),fun A k => ?_⟩;rw[Sv,dV omY,dQ,dV omY,dQ,no λh=>absurd h hi];have em:aQ (Ip .u64 (IntKind.u64.wrap (aQ ((i:Int)+(j:Int)))) 1)=(((i+j)/2:Nat):Int):=by rw [zyd omY];omega
   generalize hm:(i+j)/2=m at em;have m1:i<=m/\m<j:=by omega
   have st:∀(A:Type)(k:Int×Bool->Option A),yE E (n+1) w x (i:Int) (j:Int) k=cond (decide (w.get m<x)) (yE E n w x ((m+1:Nat):Int) (j:Int) k) (yE E n w x (i:Int) (m:Int) k):=λA k=>by
    rw[Sv,em,dK omY,dU,bF omY,fQ,zw6,bf,bJ omY]
   by_cases c:w.get m<x;obtain⟨r,hr⟩:=ih (j-(m+1)) omY (m+1) j n omY hj omY (λp hp=>by
    by_cases e:p=m;rw[e];exact c;have:=hw p m omY omY;omega) h2
   exact⟨r,λA k=>by rw[st,dK c];exact hr A k⟩;obtain⟨r,hr⟩:=ih (m-i) omY i m n omY omY omY h1 (λp hp hp2=>by
    by_cases e:p=m;rw[e];omega;have:=hw m p omY hp2;omega)
   exact⟨r,λA k=>by rw[st,dV c];exact hr A k⟩
 obtain⟨r,hr⟩:=key w.len 0 w.len E.N omY (jy _) (by have:=N;omega) (λp hp=>absurd hp (dq8 p)) (λp h1 h2=>by omega);exact⟨r,ae.ext λk=>by rw[zOK,bf];exact hr _ k⟩
def kX(p:aj):Int:=cond (p.Kind==2) (aQ (p.aT.tdiv 2)) 0
def zP2(p:aj)(c:Nat):bC:=⟨aQ (aQ (p.First+aQ ((c:Int)*p.aT))-kX p),aQ (aQ (aQ (aQ (p.First+aQ ((c:Int)*p.aT))-kX p)+p.aT)-1)⟩
def Ti(p:aj):Nat→Nat→List (Int×bC)|0,_=>[]|m+1,c=>cond (hasB p.Dead (c:Int)) (Ti p m (c+1)) (((c:Int),zP2 p c)::Ti p m (c+1))
abbrev zyg(I:Pt placed->ae (List (Int×bC))):Prop:=∀q:Pt placed,VQ q.v.aj->zye q.v.aj.Dead->q.v.aj.Dead.len<=1000->I q=.ok (Ti q.v.aj q.v.aj.bW.toNat 0)
theorem zP3{E:ZF}(N:Big E.N)(zw5:zyf E.zrD):zyg (zw4 E):=λq hp hi hl=>by
 refine Dp ?_ (λ_=>rfl) (λ_=>rfl);obtain⟨_,_,_,_,_,IQ,_⟩:=hp;have key:∀(m c n:Nat),c+m=q.v.aj.bW.toNat->m<n->F8 E n q (kX q.v.aj) (c:Int)=some ((Ti q.v.aj m c).map dm.enc):=by
  intro m
  induction m with
  | zero =>
   intro c n hc hn;obtain⟨n,rfl⟩:∃n',n=n'+1:=⟨n-1,omY⟩;rw[ziU,dV omY];rfl
  | succ m ih =>
   intro c n hc hn;obtain⟨n,rfl⟩:∃n',n=n'+1:=⟨n-1,omY⟩;obtain⟨r,hr⟩:=zw5 q.v.aj.Dead (c:Int) hi hl;rw[ziU,dK omY,dU,hr,bf,bJ omY,ih (c+1) n omY omY];show cond (hasB q.v.aj.Dead (c:Int)) _ _=_;simp only[Ti];cases hasB q.v.aj.Dead (c:Int)<;>rfl
 have h0:=key q.v.aj.bW.toNat 0 E.N omY (by have:=N;omega);rw[e204];unfold kX at h0;revert h0;cases q.v.aj.Kind==2<;>exact id
def nxt:List (Int×bC)→Int→Int|[],n=>n|y::r,n=>nxt r (cond (decide (y.2.Low<=n)&&decide (n<=y.2.High)) (aQ (y.2.High+1)) n)
def zj5(x:bC):Bool:=decide (-1000000<=x.Low/\x.Low<=x.High/\x.High<=1000000)
def Nv(p:aj)(x:bC):Bool:=decide (nxt (Ti p p.bW.toNat 0) (aQ (x.Low-p.bH.High))>aQ (x.High-p.bH.Low))
theorem zqH{p:aj}(h:plB p=true):zye p.Dead/\p.Dead.len<=100:=by
 simp only[plB,fH,oO,dD]at h;obtain⟨⟨_,h1⟩,h2⟩:=h;refine⟨λi j=>?_,h1⟩;have step:∀j,j+1<p.Dead.len->p.Dead.get j<p.Dead.get (j+1):=λj hj=>by
  have:=h2 (j+1) hj;simp only[dB,fH,qdj,oO,qja]at this;exact this.2.resolve_left omY
 intro IR hj
 induction j with
 | zero=>omega
 | succ j ih =>
  have:=step j hj;by_cases e:i=j;rw[e];exact this;have:=ih omY omY;omega
abbrev zyh(C:au×Int×bC->ae (Bool×Bool×Int)):Prop:=∀s (i:Nat) x,qO s->fF s=true->i<s.ak.len->∃b,C (s,(i:Int),x)=.ok (cond (zj5 x) (Nv (s.ak.get i) x,b,0) (false,false,2))
theorem zP4{E:Zu}(AZ:QSe E.c160)(lG:RI E.gJ)(VP:zoh E.c164)(zff:zyg E.zff):zyh (zoy E):=λs i x hs hb hi=>by
 have hl:=zf hb;obtain⟨d1,d2⟩:=zqH (L6 hb hi);have key:∀(l:List (Int×bC))(lo hg nx:Int)(cn:Bool),∃b,∀(A:Type)(k:Bool×Bool×Int->Option A),tq E l s (i:Int) lo hg cn nx k=k (decide (nxt l nx>hg),b,0):=by
  intro l
  induction l with
  | nil=>intro lo hg nx cn;exact⟨cn,λA k=>zoz ..⟩
  | cons y l ih =>
   intro lo hg nx cn;have st:∃cn',∀(A:Type)(k:Bool×Bool×Int->Option A),tq E (y::l) s (i:Int) lo hg cn nx k=tq E l s (i:Int) lo hg cn' (cond (decide (y.2.Low<=nx)&&decide (nx<=y.2.High)) (aQ (y.2.High+1)) nx) k:=by
    have e2:∀cn' (A:Type) (k:Bool×Bool×Int->Option A),L9 E l s (i:Int) lo hg cn' nx y.2 k=tq E l s (i:Int) lo hg cn' (cond (decide (y.2.Low<=nx)&&decide (nx<=y.2.High)) (aQ (y.2.High+1)) nx) k:=λcn' A k=>by
     rw[zwF];cases decide (y.2.Low<=nx)<;>cases decide (nx<=y.2.High)<;>rfl
    cases cn with
    | true=>exact⟨true,λA k=>by rw[Zv];exact e2 _ A k⟩
    | false =>
     cases hd:decide (aQ (y.2.Low-(s.ak.get (i:Int).toNat).dZ)<=hg)with|true=>exact⟨_,λA k=>by rw[Zv,hd];exact e2 _ A k⟩|false=>exact⟨false,λA k=>by rw[Zv,hd];exact e2 _ A k⟩
   obtain⟨cn',h⟩:=st;obtain⟨b,h2⟩:=ih lo hg (cond (decide (y.2.Low<=nx)&&decide (nx<=y.2.High)) (aQ (y.2.High+1)) nx) cn';exact⟨b,λA k=>by rw[h,h2];rfl⟩
 obtain⟨b,hk⟩:=key (Ti (s.ak.get i) (s.ak.get i).bW.toNat 0) (aQ (x.Low-(s.ak.get i).bH.High)) (aQ (x.High-(s.ak.get i).bH.Low)) (aQ (x.Low-(s.ak.get i).bH.High)) false;refine⟨b,ae.ext λk=>?_⟩;rw[e115,AZ s hs,bf,hb,lG,bf,bf,A7 omY,show inB (i:Int) 0 ((s.ak.len:Int)-1)=true from dK omY,VP _ _ omY,bf,bF omY,fQ,zff ⟨⟨s.ak.get i,(i:Int)⟩⟩ (zg hb hi) d1 (by show(s.ak.get i).Dead.len<=1000;omega),bf];show cond (!decide (-1000000<=x.Low/\x.Low<=x.High/\x.High<=1000000)) _ _=_;rw[show decide (-1000000<=x.Low/\x.Low<=x.High/\x.High<=1000000)=zj5 x from rfl];cases zj5 x with|false=>rfl|true=>exact hk _ k
/-! Fractions, rounded. -/
def FlK(f:aP):Prop:=(-100000000000000000<=f.Num/\f.Num<=100000000000000000)/\0<f.bV/\f.bV<=100000000000000000
abbrev zqI(C:aP->ae Int):Prop:=∀f,FlK f->C f=.ok (f.Num/f.bV)
theorem ztg{a b:Int}(h1 : -100000000000000000<=a/\a<=100000000000000000)(h2:0<b) : -100000000000000000<=a/b/\a/b<=100000000000000000:=by
 refine⟨Int.le_ediv_of_mul_le h2 ?_,?_⟩;have:=qdd (show(1:Int)≤b by omega) (show(0:Int)≤100000000000000000 by omega);omega;rcases qj9 a 0 with h|h
 have:=Int.ediv_neg_of_neg_of_pos h h2;omega;have:=Int.ediv_le_self b h;omega
theorem zP5{E:zpw}:zqI (zpx E):=λf h=>ae.ext λk=>by
 obtain⟨h1,h2,h3⟩:=h;have q:=ztg h1 h2;rw[zOx,bf];by_cases hn:f.Num<0;have e1:(-f.Num+f.bV-1)/f.bV = -(f.Num/f.bV):=by
  have a:=Int.emod_add_mul_ediv f.Num f.bV;have b:=Int.emod_nonneg f.Num (show f.bV≠0 by omega);have c:=Int.emod_lt_of_pos f.Num h2;refine((Int.ediv_emod_unique (r:=f.bV-1-f.Num%f.bV) h2).2 ⟨?_,omY,omY⟩).1;rw[Int.mul_neg];omega
 rw[dK hn,dU,bF omY,aZ (x:=0-f.Num) omY omY,aZ (x:=0-f.Num+f.bV) omY omY,aZ (x:=0-f.Num+f.bV-1) omY omY,qd0 omY,show 0-f.Num+f.bV-1 = -f.Num+f.bV-1 by omega,e1,aZ (x:=-(f.Num/f.bV)) omY omY,show 0 - -(f.Num/f.bV)=f.Num/f.bV by omega,aZ omY omY];rw[dV hn,dQ,bF omY,qd0 omY,aZ omY omY]
abbrev zyj(C:aP->ae Int):Prop:=∀f,FlK f->C f=.ok (-(-f.Num/f.bV))
theorem zP6{E:zpy}(Zz:zqI E.Oy):zyj (zpz E):=λf h=>ae.ext λk=>by
 obtain⟨h1,h2,h3⟩:=h;have q:=ztg (a:=-f.Num) omY h2;rw[zOz,aZ (x:=0-f.Num) omY omY,show 0-f.Num = -f.Num by omega,Zz ⟨-f.Num,f.bV⟩ ⟨by show _<=-f.Num/\-f.Num<=_;omega,h2,h3⟩,bf,bf];show k (aQ (0 - -f.Num/f.bV))=_;rw[aZ omY omY,show 0 - -f.Num/f.bV = -(-f.Num/f.bV)by omega]
def ls{α:Type}(w:Sl α):List α:=(List.range w.len).map w.get
theorem jL{α:Type}(w:Sl α):(ls w).length=w.len:=by simp[ls]
theorem Nw{α:Type}{w:Sl α}{i:Nat}(h:i<w.len):(ls w)[i]? = some (w.get i):=by simp[ls,qjr h]
theorem gz{α:Type}{w:Sl α}{x:α}:x∈ls w↔∃i,i<w.len/\w.get i=x:=by simp[ls]
theorem Qe{α:Type}[bn α][rq α](w:Sl α)(x:α):ls (mX w x)=ls w++[x]:=by
 unfold ls;show(List.range (w.len+1)).map _=_;rw[qjw,TR];congr 1;exact dqU λi hi=>by
  show lm w.len w.get (λ_=>x) i=_;rw[jD,dM (by have:=Ak.1 hi;omega)]
 show [lm w.len w.get (fun _=>x) w.len]=_;rw[jD,dH (jy _)]
theorem zyk{α:Type}[bn α][rq α](a b:Sl α):ls (⟨a.len+b.len,lm a.len a.get b.get⟩:Sl α)=ls a++ls b:=by
 unfold ls;show(List.range (a.len+b.len)).map (lm a.len a.get b.get)=_;rw[List.range_add,TR,qdS];congr 1;exact dqU λi hi=>by rw[jD,dM (by have:=Ak.1 hi;omega)]
 exact dqU λi _=>by
  show lm a.len a.get b.get (a.len+i)=_;rw[jD,dH omY,Nat.add_sub_cancel_left]
theorem Tj(w:Sl af):chs w=(ls w).map eu:=by unfold chs ls;rw[qdS];rfl
theorem zb8{x:Int}{w:Sl af}:Ot x w↔∀t∈ls w,WO x t:=by
 constructor;intro h t ht;obtain⟨i,hi,rfl⟩:=gz.1 ht;exact h i hi;intro h i hi;exact h _ (gz.2 ⟨i,hi,rfl⟩)
def Qg{α:Type}[bn α](z:Nat→α)(p:α→Bool)(w:Sl α):Nat→Sl α|0=>⟨0,z⟩|i+1=>cond (p (w.get i)) (mX (Qg z p w i) (w.get i)) (Qg z p w i)
theorem wM{α:Type}[bn α](z:Nat→α)(p:α→Bool)(w:Sl α):∀n,(Qg z p w n).len≤n
  | 0=>jy _
  | n+1=>by
    have:=wM z p w n;simp only[Qg];cases p (w.get n)with|true=>show(Qg z p w n).len+1<=n+1;omega|false=>show(Qg z p w n).len<=n+1;omega
theorem Tm{α:Type}[bn α][rq α](z:Nat→α)(p:α→Bool)(w:Sl α):∀n,ls (Qg z p w n)=((List.range n).map w.get).filter p
  | 0=>rfl
  | n+1=>by
    rw[qjw,TR,List.filter_append,<- Tm z p w n];simp only[Qg,nU,qdR];cases h:p (w.get n)with|true=>rw[dU,Qe];simp[h]|false=>rw[dQ];simp[h]
def usP(l:Sl bu)(c:iJ)(i:Nat):Bool:=c.any λq=>(l.get q.1.toNat).aj==(i:Int)
def atB(g:Sl aC)(p:aj):Bool:=cond ((opn' g p).2 != 0) false (cond (decide ((BF g p.Z).1.Num/(BF g p.Z).1.bV < -1000000)) false (cond (decide (-(-(BF g p.Z).2.Num/(BF g p.Z).2.bV)>1000000)) false
  (zj5 ⟨(BF g p.Z).1.Num/(BF g p.Z).1.bV,-(-(BF g p.Z).2.Num/(BF g p.Z).2.bV)⟩&&Nv p ⟨(BF g p.Z).1.Num/(BF g p.Z).1.bV,-(-(BF g p.Z).2.Num/(BF g p.Z).2.bV)⟩)))
where opn' (g:Sl aC) (p:aj):set×Int:=Gj g ((g.get 0).Z==p.Z)
def WZ(s:au)(l:Sl bu)(x:Int)(c:iJ)(i:Nat):Bool:=cond ((s.ak.get i).View != x) false (cond (usP l c i) false (atB (BD s l c) (s.ak.get i)))
def W9(s:au)(l:Sl bu)(x:Int)(c:iJ):List Int:=((List.range' 0 s.ak.len).filter (WZ s l x c)).map Int.ofNat
theorem Jr{a b:Int}(h1 : -100000000000000000<=a)(h2:a<=100000000000000000)(hb:0<b)(Ub:b<=100000000000000000):FlK (red a b):=by
 have r1:=D9 (num:=a) hb;have r2:=Na (num:=a) hb;have r3:=kF (num:=a) hb;exact⟨omY,omY,omY⟩
theorem zyl{g:Sl aC}(G:bY g){z:Int}(hz:WT z)(hc:gW g=false->0<(jq g).length):FlK (BF g z).1/\FlK (BF g z).2:=by
 have hg:=G.2;unfold BF;cases hf:gW g with
 | true =>
  obtain⟨a,b⟩:=SY G.1 omY g.len (jy _);exact⟨Jr omY omY omY omY,Jr omY omY omY omY⟩
 | false =>
  obtain⟨⟨s,s1,s2⟩,_⟩:=zjO G z (hc hf);obtain⟨⟨t,t1,t2⟩,_⟩:=zjP G z (hc hf);have a:=ZM (qR G s1) hz;have b:=ZM (qR G t1) hz;rw[<- s2]at a;rw[<- t2]at b;exact⟨Jr omY omY omY omY,Jr omY omY omY omY⟩
theorem zEQ{p:aj}(h:VQ p):WT p.Z:=by
 obtain⟨_,_,hz,_⟩:=h;exact⟨omY,omY⟩
theorem zth{g:Sl aC}(G:bY g){b:Bool}(h:(Gj g b).2=0):gp g=true/\(gW g=false->0<(jq g).length):=by
 unfold Gj at h;rw[lN.2 G]at h;cases hs:gp g with
 | false=>rw[hs]at h;cases h
 | true =>
  refine⟨rfl,λhf=>?_⟩;unfold gp at hs;rw[hf,dQ,oO]at hs;omega
abbrev zqJ(C:Pt aH×af->ae (Sl Int)):Prop:=∀s l r x t c j,Ev s l x->WO x t->eu t=c->Val s l x c j->c≠[]->∃w:Sl Int,C (fM s r l,t)=.ok w/\ls w=W9 s l x c
theorem zP7{E:zd1}(N:Big E.N)(MI:zil E.c105)(Zy:zqB E.NI)(zwR:zx2 E.zk6)(Zz:zqI E.Oy)(zwS:zyj E.zrA)(zwT:zyh E.zk7):zqJ (zoS E):=λs l r x t c j he ht hc hv hn=>by
 have hl:=rU hc hv;have h24:=he.l24;have G:=Gn he.toEvt he.l24 hv hn;have hp:=zf he.se;have key:∀(m i n:Nat)(w:Sl Int),i+m=s.ak.len->m<n->w.len<=i->∃w':Sl Int,(∀(A:Type)(k:Sl Int->Option A),mO E n (fM s r l) t (BD s l c) (i:Int) w k=k w')/\ls w'=ls w++((List.range' i m).filter (WZ s l x c)).map Int.ofNat:=by
  intro m
  induction m with
  | zero =>
   intro i n w hi hn hw;obtain⟨n,rfl⟩:∃n',n=n'+1:=⟨n-1,omY⟩;exact⟨w,λA k=>by rw[ziF,dV (by show ¬(i:Int)<(s.ak.len:Int);omega)];rfl,by simp⟩
  | succ m ih =>
   intro i n w hi hn hw;obtain⟨n,rfl⟩:∃n',n=n'+1:=⟨n-1,omY⟩;have TY:=zg he.se (i:=i) omY;have hz:=zEQ TY;rw[Yj];have st:∀(A:Type)(k:Sl Int->Option A),mO E (n+1) (fM s r l) t (BD s l c) (i:Int) w k=cond (WZ s l x c i) (mO E n (fM s r l) t (BD s l c) ((i+1:Nat):Int) (mX w (i:Int)) k) (mO E n (fM s r l) t (BD s l c) ((i+1:Nat):Int) w k):=λA k=>by
    have u:E.NI (t.Hits,.inr ⟨(),⟨fM s r l⟩,⟨(i:Int)⟩⟩)=.ok (usP l c i):=by
     rw[Zy s l r t.Hits (.inr ⟨(),⟨fM s r l⟩,⟨(i:Int)⟩⟩) (Td hc hv) omY rfl];exact jF ae.ok (ztf (l:=l) hc λh=>(l.get h.toNat).aj==(i:Int))
    rw[ziF,dK (show(i:Int)<((fM s r l).v.au.ak.len:Int)by show(i:Int)<(s.ak.len:Int);omega),dU,bF (show 0<=(i:Int)/\(i:Int)<((fM s r l).v.au.ak.len:Int)by show _/\(i:Int)<(s.ak.len:Int);omega),fQ,u,bf,bJ omY,ht.1];show cond ((s.ak.get i).View != x) _ _=_;unfold WZ;cases(s.ak.get i).View != x with
    | true=>rfl
    | false =>
     simp only[dQ];cases usP l c i with
     | true=>rfl
     | false =>
      simp only[dQ];show(E.zk6 (BD s l c,(s.ak.get i).Z)).T _=_;rw[zwR _ _ G hz,bf];unfold atB atB.opn';cases ho:(Gj (BD s l c) (((BD s l c).get 0).Z==(s.ak.get i).Z)).2 != 0 with
      | true =>
       simp only[dU];show cond ((Gj (BD s l c) (((BD s l c).get 0).Z==(s.ak.get i).Z)).2 != 0) _ _=_;rw[ho];rfl
      | false =>
       obtain⟨_,hco⟩:=zth G (by simpa using ho);obtain⟨b1,b2⟩:=zyl G hz hco;simp only[dQ];show(E.Oy (BF (BD s l c) (s.ak.get i).Z).1).T _=_;rw[Zz _ b1,bf,zwS _ b2,bf];generalize (BF (BD s l c) (s.ak.get i).Z).1.Num/(BF (BD s l c) (s.ak.get i).Z).1.bV=fa;generalize -(-(BF (BD s l c) (s.ak.get i).Z).2.Num/(BF (BD s l c) (s.ak.get i).Z).2.bV)=fb;cases decide (fa < -1000000)with
       | true=>rfl
       | false =>
        cases decide (fb>1000000)with
        | true=>rfl
        | false =>
         simp only[dQ];obtain⟨b,hb⟩:=zwT s i ⟨fa,fb⟩ he.sh he.se omY;show(E.zk7 (s,(i:Int),⟨fa,fb⟩)).T _=_;rw[hb,bf];cases zj5 ⟨fa,fb⟩with
         | false=>rfl
         | true =>
          show cond (Nv (s.ak.get i) ⟨fa,fb⟩) (aV (room (w.len+1) 8) _) _=cond (true&&Nv (s.ak.get i) ⟨fa,fb⟩) _ _;rw[lV omY omY];cases Nv (s.ak.get i) ⟨fa,fb⟩<;>rfl
   cases hb:WZ s l x c i with
   | true =>
    rw[hb]at st;obtain⟨w',a,b⟩:=ih (i+1) n (mX w (i:Int)) omY omY (by show w.len+1<=i+1;omega);exact⟨w',λA k=>by rw[st];exact a A k,by rw[b,Qe];simp[hb]⟩
   | false =>
    rw[hb]at st;obtain⟨w',a,b⟩:=ih (i+1) n w omY omY omY;exact⟨w',λA k=>by rw[st];exact a A k,by rw[b];simp[hb]⟩
 obtain⟨w',a,b⟩:=key s.ak.len 0 E.N ⟨0,λ_=>0⟩ omY (by have:=N;omega) (jy _);refine⟨w',ae.ext λk=>?_,b⟩;rw[zNY,MI s l r t he.toEvt omY (SQ he.vw ht hc hv hn),bf,SS hc,bf];exact a _ k
def oJ(s:au)(l:Sl bu)(x:Int)(r:bI)(c:iJ):Bool:=decide ((c.length:Int)>=r.ve)&&decide (((W9 s l x c).length:Int)<=r.xA)
abbrev zym(C:Pt aH×af->ae Bool):Prop:=∀s l r x t c j,Ev s l x->WO x t->eu t=c->Val s l x c j->c≠[]->C (fM s r l,t)=.ok (oJ s l x r c)
theorem zP8{E:zoH}(Zw:zqJ E.c141):zym (zoI E):=λs l r x t c j he ht hc hv hn=>ae.ext λk=>by
 obtain⟨w,h1,h2⟩:=Zw s l r x t c j he ht hc hv hn;rw[e129,h1,bf,bf];unfold oJ;rw[<- h2,jL,<- hc,iw];show cond (decide ((t.Hits.len:Int)>=r.ve)) (k (decide ((w.len:Int)<=r.xA))) (k false)=_;cases decide ((t.Hits.len:Int)>=r.ve)<;>rfl
/-! Choices that contain others. -/
abbrev zyn(C:Sl Int×Int->ae Int):Prop:=∀(w:Sl Int) x,w.len<=1000->C (w,x)=.ok (fst (λj=>x==w.get j) w.len 0)
theorem zP9{E:zd2}(N:Big E.N):zyn (zoT E):=λw x hw=>ae.ext λk=>by
 rw[e152,bf];refine Eb (L:=λn i=>RZ E n w x i k) (p:=λj=>x==w.get j) (m:=w.len) (k:=k) omY (λn i hi=>?_) (λn=>?_) _ (by have:=N;omega);rw[ziG,dK omY,dU,bF omY,fQ];rw[ziG,dV omY];rfl
theorem zj6(p:Nat→Bool):∀m i,0≤fst p m i→∃j:Nat,fst p m i=(j:Int)∧i≤j∧j<i+m∧p j=true
  | 0,i,h=>by simp[fst]at h
  | m+1,i,h=>by
    simp only[fst]at h ⊢;cases hp:p i with
    | true=>exact⟨i,rfl,jy _,omY,hp⟩
    | false =>
      rw[hp,dQ]at h;obtain⟨j,a,b,c,d⟩:=zj6 p m (i+1) h;exact⟨j,a,omY,omY,d⟩
structure One (t : af) : Prop where
  le:t.Hits.len<=100
  sd:t.aX.len=t.Hits.len
  un:∀i j,i<t.Hits.len->j<t.Hits.len->t.Hits.get i=t.Hits.get j->i=j
theorem ql{t:af}{p:Int×Int}:p∈eu t↔∃i,i<t.Hits.len/\t.Hits.get i=p.1/\t.aX.get i=p.2:=by
 unfold eu;simp only[rY,Ak];constructor;rintro⟨i,hi,rfl⟩;exact⟨i,hi,rfl,rfl⟩;rintro⟨i,hi,h1,h2⟩;exact⟨i,hi,by rw[h1,h2]⟩
abbrev Q92(C:af×af->ae Bool):Prop:=∀a b,One a->One b->C (a,b)=.ok (wJ a b)
theorem s92{E:E92}(N:Big E.N)(zwx:zyn E.c152):Q92 (F92 E):=λa b ha hb=>ae.ext λk=>by
 have la:=ha.le;have lb:=hb.le;rw[e92,bf,loopA (L:=λn i=>zbK E n a b i k) (p:=λi=>(eu a).contains (b.Hits.get i,b.aX.get i)) (m:=b.Hits.len) (fin:=k (a.View==b.View)) (stop:=k false) omY (λn i hi=>?_) (λn=>?_) _ (by have:=N;omega)];have e:wJ a b=(iL (λi=>(eu a).contains (b.Hits.get i,b.aX.get i)) b.Hits.len&&(a.View==b.View)):=by
  unfold wJ;congr 1;rw [qdA,dD,Aj];constructor;intro h i hi;exact h _ (ql.2 ⟨i,hi,rfl,rfl⟩);intro h p hp;obtain⟨i,hi,h1,h2⟩:=ql.1 hp;have:=h i hi;rw[h1,h2]at this;exact this;rw[qdA,qd8,qd8];exact eq_comm
 rw[e];cases iL (λi=>(eu a).contains (b.Hits.get i,b.aX.get i)) b.Hits.len<;>rfl;rw [zs6,dK omY,dU,bF omY,fQ,zwx _ _ omY,bf];by_cases h0:fst (λj=>b.Hits.get i==a.Hits.get j) a.Hits.len 0<0;have:(eu a).contains (b.Hits.get i,b.aX.get i)=false:=by
  cases hc:(eu a).contains (b.Hits.get i,b.aX.get i)with
  | false=>rfl
  | true =>
   obtain⟨j,hj,h1,_⟩:=ql.1 (jqS.1 hc);have:=(zbQ (λj=>b.Hits.get i==a.Hits.get j) a.Hits.len 0).2 ⟨j,xn _,omY,by simp[h1]⟩;omega
 rw[dK h0,this];rfl;obtain⟨j,e,_,hj,hp⟩:=zj6 (fun j=>b.Hits.get i==a.Hits.get j) a.Hits.len 0 omY;have sa:=ha.sd;have sb:=hb.sd;have hp:b.Hits.get i=a.Hits.get j:=eq_of_beq hp;rw[dV h0,dQ,e,bF omY,bF omY,fQ];have:(eu a).contains (b.Hits.get i,b.aX.get i)=(a.aX.get j==b.aX.get i):=by
  rw[qdA,jqS,ql,qd8];constructor;rintro⟨q,hq,h1,h2⟩;have:=ha.un q j hq omY (h1.trans hp);rw[this]at h2;exact h2;intro h;exact⟨j,omY,hp.symm,h⟩
 rw[this,bne];cases a.aX.get j==b.aX.get i<;>rfl;rw[zs6,dV omY];rfl
theorem zb9{s:au}{l:Sl bu}{x:Int}{t:af}{c:iJ}{j:Nat}(h24:l.len<=24)(ht:WO x t)(hc:eu t=c)(h:Val s l x c j):One t:=by
 have hl:=rU hc h;have lc:c.length=t.Hits.len:=by rw[<- hc,iw]
 refine⟨omY,ht.2,λa b ha hb e=>?_⟩;have pw:=qdg.1 h.pw;have ge:∀i (hi:i<t.Hits.len),c[i]'omY=(t.Hits.get i,t.aX.get i):=λi hi=>by
  have:=Ef hc hi;rw[Ai omY]at this;exact dq9 this
 rcases qdw a b with q|q|q
 have:=(pw a b omY omY q).1;rw[ge a ha,ge b hb]at this;simp only at this;omega;exact q;have:=(pw b a omY omY q).1;rw[ge a ha,ge b hb]at this;simp only at this;omega
def EO(a b:af):Bool:=decide ((a.Hits.len:Int)>(b.Hits.len:Int))&&wJ a b
abbrev zyo(C:af×Pt af->ae Bool):Prop:=∀a (b:Pt af),One a->One b.v->C (a,b)=.ok (EO a b.v)
theorem zQa{E:zoN}(h92:Q92 E.c92):zyo (zoO E):=λa b ha hb=>ae.ext λk=>by
 rw[zNU,h92 _ _ ha hb,bf,bf];unfold EO;cases decide ((a.Hits.len:Int)>(b.v.Hits.len:Int))<;>rfl
abbrev zqK(C:Sl af×dF 132 Unit (Pt af)->ae Int):Prop:=∀(w:Sl af)(c:dF 132 Unit (Pt af)),(∀t∈ls w,One t)->w.len<=10000->One c.v.v->C (w,c)=.ok (fst (λj=>EO (w.get j) c.v.v) w.len 0)
theorem zqL{E:zh}(N:Big E.N)(zwy:zyo E.zrr):zqK (Jl E):=λw c hw hl hc=>ae.ext λk=>by
 rw[zoq,bf];refine Eb (L:=λn i=>zi E n w c i k) (p:=λj=>EO (w.get j) c.v.v) (m:=w.len) (k:=k) omY (λn i hi=>?_) (λn=>?_) _ (by have:=N;omega);rw[P8,dK omY,dU,bF omY,fQ,zwy _ _ (hw _ (gz.2 ⟨i,hi,rfl⟩)) hc,bf];rw[P8,dV omY];rfl
abbrev Q98(C:af×Pt Int->ae Bool):Prop:=∀t p,C (t,p)=.ok (t.View==p.v)
theorem s98{E:E98}:Q98 (F98 E):=λt p=>ae.ext λk=>by rw[e98,bf]
abbrev zqM(C:Sl af×dF 98 Unit (Pt Int)->ae Int):Prop:=∀(w:Sl af)(c:dF 98 Unit (Pt Int)),w.len<=10000->C (w,c)=.ok (fst (λj=>(w.get j).View==c.v.v) w.len 0)
theorem zyp{E:F6}(N:Big E.N)(h98:Q98 E.c98):zqM (RQ E):=λw c hl=>ae.ext λk=>by
 rw[zwz,bf];refine Eb (L:=λn i=>Dq E n w c i k) (p:=λj=>(w.get j).View==c.v.v) (m:=w.len) (k:=k) omY (λn i hi=>?_) (λn=>?_) _ (by have:=N;omega);rw[VT,dK omY,dU,bF omY,fQ,h98,bf];rw[VT,dV omY];rfl
abbrev Q97(C:Sl af×(dF 132 Unit (Pt af) ⊕ dF 98 Unit (Pt Int))->ae Int):Prop:=zqK (λx=>C (x.1,.inl x.2))/\zqM (λx=>C (x.1,.inr x.2))
theorem s97{f:Sl af×dF 132 Unit (Pt af)->ae Int}{g:Sl af×dF 98 Unit (Pt Int)->ae Int}(a:zqK f)(b:zqM g):Q97 (ae.two f g):=⟨a,b⟩
theorem zj7{α:Type}{w:Sl α}{p:α->Bool}:(!iL (λj=>!p (w.get j)) w.len)=(ls w).any p:=by
 rw[qdA,NQ,<- qjl,dD,qjj];constructor
 ·intro h;apply qdx;intro hn;refine h λj hj=>?_;cases e:p (w.get j)with|false=>rfl|true=>exact(hn ⟨_,gz.2 ⟨j,hj,rfl⟩,e⟩).elim
 rintro⟨q,hq,e⟩ h;obtain⟨j,hj,rfl⟩:=gz.1 hq;have:=h j hj;rw[e]at this;cases this
abbrev zyq(C:Sl af×dF 132 Unit (Pt af)->ae Bool):Prop:=∀(w:Sl af)(c:dF 132 Unit (Pt af)),(∀t∈ls w,One t)->w.len<=10000->One c.v.v->C (w,c)=.ok ((ls w).any λx=>EO x c.v.v)
theorem zQc{E:zoL}(h97:Q97 E.c97):zyq (zoM E):=λw c hw hl hc=>ae.ext λk=>by
 rw[zNS];show(E.c97 (w,.inl c)).T _=_;rw[show E.c97 (w,.inl c)=_ from h97.1 w c hw hl hc,bf,bf,wG (λj=>EO (w.get j) c.v.v),zj7 (p:=λx=>EO x c.v.v)]
abbrev zyr(C:af×Pt (Pt found)->ae Bool):Prop:=∀t (f:Pt (Pt found)),(∀t∈ls f.v.v.fits,One t)->f.v.v.fits.len<=10000->One t->C (t,f)=.ok (!(ls f.v.v.fits).any λx=>EO x t)
theorem zQd{E:zoJ}(zwO:zyq E.c131):zyr (zoK E):=λt f hf hl ht=>ae.ext λk=>by
 rw[zNQ,zwO f.v.v.fits _ hf hl ht,bf,bf]
/-! Those that are as wanted. -/
abbrev Xa:Nat->af:=λ_=>⟨0,⟨0,λ_=>0⟩,⟨0,λ_=>0⟩⟩
abbrev zqN:=dF 129 (Pt aH) Unit ⊕ dF 130 Unit (Pt (Pt found))
def xy:zqN→af→Bool|.inl c,t=>oJ c.a.v.au c.a.v.hits t.View c.a.v.rules (eu t)|.inr c,t=>!(ls c.v.v.v.fits).any λx=>EO x t
structure jE (s : au) (l : Sl bu) (t : af) : Prop where
  ev:Ev s l t.View
  tv:WO t.View t
  vl:∃j,Val s l t.View (eu t) j
  ne:eu t≠[]
theorem jE.one{s:au}{l:Sl bu}{t:af}(h:jE s l t):One t:=by
 obtain⟨j,hj⟩:=h.vl;exact zb9 h.ev.l24 h.tv rfl hj
def okF:zqN→Sl af→Prop|.inl c,w=>∃s l r,c.a=fM s r l/\∀t∈ls w,jE s l t|.inr c,w=>(∀t∈ls w,One t)/\(∀t∈ls c.v.v.v.fits,One t)/\c.v.v.v.fits.len<=10000
abbrev QFi{γ:Type}(i:γ->zqN)(C:Sl af×γ->ae (Sl af×Unit)):Prop:=∀(w:Sl af)(c:γ),okF (i c) w->w.len<=10000->C (w,c)=.ok (Qg Xa (xy (i c)) w w.len,())
abbrev zqO(C:Sl af×zqN->ae (Sl af×Unit)):Prop:=QFi id C
theorem zj8{E:uH}(N:Big E.N)(zwM:zym E.zrq):QFi .inl (Dz E):=λw c ho hl=>ae.ext λk=>by
 obtain⟨s,l,r,e,hc⟩:=ho;rw[ziB,bf];refine pK (X:=λn i=>qP E n w c (i:Int) (Qg Xa (xy (.inl c)) w i) k) (m:=w.len) (λn i hi=>?_) (λn=>?_) _ (by have:=N;omega);have h:=hc _ (gz.2 ⟨i,hi,rfl⟩);obtain⟨j,hj⟩:=h.vl;have:=wM Xa (xy (.inl c)) w i;have e2:xy (.inl c) (w.get i)=oJ s l (w.get i).View r (eu (w.get i)):=by show oJ c.a.v.au c.a.v.hits (w.get i).View c.a.v.rules (eu (w.get i))=_;rw[e];rfl
 rw[MG,dK omY,dU,bF omY,fQ,e,zwM s l r _ _ _ j h.ev h.tv rfl hj h.ne,bf,lV omY omY,bJ omY];simp only[Qg,e2];cases oJ s l (w.get i).View r (eu (w.get i))<;>rfl;rw[MG,dV omY];rfl
theorem zj9{E:uI}(N:Big E.N)(zwN:zyr E.c130):QFi .inr (DD E):=λw c ho hl=>ae.ext λk=>by
 obtain⟨h1,h2,h3⟩:=ho;rw[ziD,bf];refine pK (X:=λn i=>qQ E n w c (i:Int) (Qg Xa (xy (.inr c)) w i) k) (m:=w.len) (λn i hi=>?_) (λn=>?_) _ (by have:=N;omega);have:=wM Xa (xy (.inr c)) w i;have e2:xy (.inr c) (w.get i) = !(ls c.v.v.v.fits).any λx=>EO x (w.get i):=rfl;rw[MH,dK omY,dU,bF omY,fQ,zwN _ c.v h2 h3 (h1 _ (gz.2 ⟨i,hi,rfl⟩)),bf,lV omY omY,bJ omY];simp only[Qg,e2];cases !(ls c.v.v.v.fits).any λx=>EO x (w.get i)<;>rfl;rw[MH,dV omY];rfl
theorem zQe{f:Sl af×dF 129 (Pt aH) Unit->ae (Sl af×Unit)}{g:Sl af×dF 130 Unit (Pt (Pt found))->ae (Sl af×Unit)}(a:QFi .inl f)(b:QFi .inr g):zqO (ae.two f g):=λw c ho hl=>by
 rcases c with c|c
 exact a w c ho hl;exact b w c ho hl
/-! The order. -/
abbrev zyt(C:Int->ae Bool):Prop:=∀x,C x=.ok false
theorem zQf{E:zpR}:zyt (zpS E):=λx=>ae.ext λk=>by rw[e222,bf,show(x != x)=false by simp]
theorem zQg{E:zpq}(zps:zyt E.c222):ZJ (zpr E):=λa b=>ae.ext λk=>by
 rw[zOt,zps,bf,zps,bf,bf];unfold qi;cases decide (a<b)<;>cases decide (a>b)<;>rfl
abbrev zek(C:Sl Int×Sl Int->ae Int):Prop:=∀a b:Sl Int,a.len<=1000->b.len<=1000->C (a,b)=.ok (cmpL (kG a) (kG b))
theorem zQh{E:zd8}(N:Big E.N)(ZC:ZJ E.c208):zek (zpt E):=λa b ha hb=>ae.ext λk=>by
 have key:∀(m i n:Nat),i+m=a.len->m<n->Sj E n a b (i:Int) k=k (cmpL ((List.range' i m).map a.get) ((List.range' i (b.len-i)).map b.get)):=by
  intro m
  induction m with
  | zero =>
   intro i n hi hn;obtain⟨n,rfl⟩:∃n',n=n'+1:=⟨n-1,omY⟩;rw[ziS,dV omY,dQ,kc k];congr 1;cases h:b.len-i with|zero=>rw[dV omY];rfl|succ q=>rw[dK omY];rfl
  | succ m ih =>
   intro i n hi hn;obtain⟨n,rfl⟩:∃n',n=n'+1:=⟨n-1,omY⟩;rw[ziS,dK omY,dU,bF omY,Yj,nU];cases h:b.len-i with
   | zero=>rw[dK omY];rfl
   | succ q =>
    rw[dV omY,dQ,bF omY,fQ,ZC,bf,bJ omY,ih (i+1) n omY omY,Yj,nU,kc k,show b.len-(i+1)=q by omega];rfl
 rw[e187,bf];have:=key a.len 0 E.N omY (by have:=N;omega);unfold kG;rw[dqV,dqV];exact this
theorem zyu(a b c:Int):kW [a,b,c] 0=a/\kW [a,b,c] 1=b/\kW [a,b,c] 2=c:=by
 refine⟨?_,?_,?_⟩;show(bn.dec (Io (shp 8) (bn.enc a) (bn.enc a))).1=a;rw[kD (oU 8) (bn.sm _ _),rq.de];show(bn.dec (Io (shp 8) (bn.enc a) (bn.enc b))).1=b;rw[kD (oU 8) (bn.sm _ _),rq.de];show(bn.dec (Io (shp 8) (bn.enc a) (bn.enc c))).1=c;rw[kD (oU 8) (bn.sm _ _),rq.de]
abbrev zyv(C:Sl Int->ae Int):Prop:=∀a b c:Int,C ⟨3,kW [a,b,c]⟩=.ok (cond (a != 0) a (cond (b != 0) b c))
theorem zQi{E:zd7}(N:Big E.N):zyv (zpp E):=λa b c=>ae.ext λk=>by
 obtain⟨n,hn⟩:∃n,E.N=n+1+1+1+1:=⟨E.N-4,by have:=N;omega⟩;obtain⟨g0,g1,g2⟩:=zyu a b c;have st:∀n (i:Nat),i<3->F7 E (n+1) ⟨3,kW [a,b,c]⟩ (i:Int) k=cond (kW [a,b,c] i != 0) (k (kW [a,b,c] i)) (F7 E n ⟨3,kW [a,b,c]⟩ ((i+1:Nat):Int) k):=λn i hi=>by
  rw[ziR,dK (show(i:Int)<((3:Nat):Int)by omega),dU,bF (show 0<=(i:Int)/\(i:Int)<((3:Nat):Int)by omega),bJ omY];rfl
 have en:∀n,F7 E (n+1) ⟨3,kW [a,b,c]⟩ ((3:Nat):Int) k=k 0:=λn=>by
  rw[ziR,dV (show ¬((3:Nat):Int)<((3:Nat):Int)by omega)];rfl
 rw[e185,bf,hn];refine(st _ 0 omY).trans ?_;rw[st _ 1 omY,st _ 2 omY,en,g0,g1,g2];by_cases h:c=0;subst h;cases a != 0<;>cases b != 0<;>rfl;rw [show(c != 0)=true by simpa using h];cases a != 0<;>cases b != 0<;>rfl
abbrev zqP(C:af×af->ae Int):Prop:=∀a b:af,One a->One b->C (a,b)=.ok (zqu a b)
theorem zQj{E:zoP}(zwP:ZJ E.zry)(zoR:zek E.zk9)(zwQ:zyv E.zrx):zqP (zoQ E):=λa b ha hb=>ae.ext λk=>by
 have a1:=ha.le;have a2:=ha.sd;have b1:=hb.le;have b2:=hb.sd;rw[zNW,zwP,bf,zoR _ _ omY omY,bf,zoR _ _ omY omY,bf,zwQ,bf,bf];rfl
abbrev zyw(C:Sl Bool×Bool->ae Int):Prop:=∀(w:Sl Bool) x,w.len<=1000->C (w,x)=.ok (fst (λj=>x==w.get j) w.len 0)
theorem zQk{E:zd5}(N:Big E.N):zyw (zpg E):=λw x hw=>ae.ext λk=>by
 rw[zOk,bf];refine Eb (L:=λn i=>Si E n w x i k) (p:=λj=>x==w.get j) (m:=w.len) (k:=k) omY (λn i hi=>?_) (λn=>?_) _ (by have:=N;omega);rw[ziL,dK omY,dU,bF omY,fQ];rw[ziL,dV omY];rfl
abbrev zqQ(C:Sl Bool×Bool->ae Bool):Prop:=∀(w:Sl Bool) x,w.len<=1000->C (w,x)=.ok ((ls w).any λb=>x==b)
theorem zQl{E:zoE}(zwK:zyw E.zrv):zqQ (zoF E):=λw x hw=>ae.ext λk=>by
 rw[e126,zwK w x hw,bf,bf,wG (λj=>x==w.get j),zj7 (p:=λb=>x==b)]
structure H5 (s : au) (r : bI) (l : Sl bu) (f : found) : Prop where
  ev:f.aH=fM s r l
  fx:∃X Y:List af,ls f.fits=X++Y/\(∀t∈X,WO 1 t)/\(∀t∈Y,WO 2 t)/\X.map eu=(iE s l 1).filter (oJ s l 1 r)/\Y.map eu=(iE s l 2).filter (oJ s l 2 r)
  tr:(ls f.ax).Perm ((ls f.fits).filter λt=>!(ls f.fits).any λx=>EO x t)
  st:(ls f.ax).Pairwise ZL
theorem Ep{s:au}{l:Sl bu}{x:Int}{c:iJ}(h:c∈iE s l x):(∃j,Ch (Bj s l) (Gl l) (Nj s l x) c j)/\c≠[]:=by
 refine⟨ztc .nil h,?_⟩;obtain⟨p,e,_,h⟩:=SL h;rw[h];simp
theorem Qh(s:au)(l:Sl bu)(x:Int)(i:Nat):(Nj s l x i).Nodup:=Qb s l x _ _
theorem Bl {P : Int → iJ → Bool} {x : Int} : ∀ {L : List af}, (∀ t ∈ L, t.View = x) → (L.filter fun t => P t.View (eu t)).map eu = (L.map eu).filter (P x)
  | [],_=>rfl
  | t::L,h=>by
    have ih:=Bl (P:=P) (L:=L) λu hu=>h u (jB _ hu);have e:=h t jM;rw[nU,qdo,qdo,e];by_cases hp:P x (eu t)=true;rw[dH hp,dH hp,nU,ih];rw[dM hp,dM hp,ih]
def Df(a b:af):Prop:=¬(a.View=b.View/\eu a=eu b)
theorem zyx{a b:af}(h:Df a b):Df b a:=λk=>h ⟨k.1.symm,k.2.symm⟩
theorem zti{X:List af}(h:(X.map eu).Nodup):X.Pairwise Df:=by
 unfold List.Nodup at h;rw[qjf]at h;exact h.imp λhn k=>hn k.2
abbrev Q72(C:au×bI×Sl bu×Sl Bool->ae (Int ⊕ (Pt found×Int))):Prop:=∀s r l (w:Sl Bool),qO s->l.len<=40->jT s r l=0->(iE s l 1).length<=2000->(iE s l 2).length<=2000->w.len<=10->(∀b∈ls w,b=true)->∃f:Pt found,C (s,r,l,w)=.ok (.inr (f,0))/\H5 s r l f.v
theorem s72{E:E72}(P6:Q78 E.Yb)(VS:zqQ E.Ox)(XY:zEK E.c127)(zfh:zqO E.EG)(zyy:zqP E.TK):Q72 (F72 E):=λs r l w hs hl h0 n1 n2 hw hb=>by
  obtain⟨he,_,h24⟩:=rO hs h0;have ev1:Ev s l 1:={toEvt:=he,l24:=h24,vw:=rfl};have ev2:Ev s l 2:={toEvt:=he,l24:=h24,vw:=rfl};obtain⟨w1,a1,b1,c1⟩:=XY s l r 1 ev1 n1;obtain⟨w2,a2,b2,c2⟩:=XY s l r 2 ev2 n2;have ln1:w1.len<=2000:=by rw[<- Eo,b1];exact n1
  have ln2:w2.len<=2000:=by rw[<- Eo,b2];exact n2
  have cs:∀{x:Int}{w:Sl af},Ev s l x->chs w=iE s l x->Ot x w->∀t∈ls w,t.View=x/\jE s l t:=fun {x w} ev hb hc t ht=>by
    have hv:=zb8.1 hc t ht;have hm:eu t∈iE s l x:=by rw[<- hb,Tj];exact qjx ht
    obtain⟨⟨j,hj⟩,iK⟩:=Ep hm;have e:=hv.1;subst e;exact⟨rfl,ev,hv,⟨j,Nk hj⟩,iK⟩
  have k1:=cs ev1 b1 c1;have k2:=cs ev2 b2 c2;have f1:=zfh w1 (.inl ⟨fM s r l,()⟩) ⟨s,l,r,rfl,λt ht=>(k1 t ht).2⟩ omY;have f2:=zfh w2 (.inl ⟨fM s r l,()⟩) ⟨s,l,r,rfl,λt ht=>(k2 t ht).2⟩ omY;have g1:ls (Qg Xa (xy (id (.inl ⟨fM s r l,()⟩))) w1 w1.len)=(ls w1).filter λt=>oJ s l t.View r (eu t):=Tm _ _ _ _;have g2:ls (Qg Xa (xy (id (.inl ⟨fM s r l,()⟩))) w2 w2.len)=(ls w2).filter λt=>oJ s l t.View r (eu t):=Tm _ _ _ _;have m1:=wM Xa (xy (id (.inl ⟨fM s r l,()⟩))) w1 w1.len;have m2:=wM Xa (xy (id (.inl ⟨fM s r l,()⟩))) w2 w2.len;generalize hu1:Qg Xa (xy (id (.inl ⟨fM s r l,()⟩))) w1 w1.len=u1 at f1 g1 m1;generalize hu2:Qg Xa (xy (id (.inl ⟨fM s r l,()⟩))) w2 w2.len=u2 at f2 g2 m2;have hX:(ls u1).map eu=(iE s l 1).filter (oJ s l 1 r):=by
    rw[g1,Bl (P:=λx c=>oJ s l x r c) (x:=1) λt ht=>(k1 t ht).1,<- b1,Tj]
  have hY:(ls u2).map eu=(iE s l 2).filter (oJ s l 2 r):=by
    rw[g2,Bl (P:=λx c=>oJ s l x r c) (x:=2) λt ht=>(k2 t ht).1,<- b2,Tj]
  have q1:∀t∈ls u1,t.View=1/\jE s l t:=λt ht=>by rw[g1]at ht;exact k1 t (Qu.1 ht).1
  have q2:∀t∈ls u2,t.View=2/\jE s l t:=λt ht=>by rw[g2]at ht;exact k2 t (Qu.1 ht).1
  let ft:Sl af:=⟨u1.len+u2.len,lm u1.len u1.get u2.get⟩;have hf:ls ft=ls u1++ls u2:=zyk u1 u2;have qf:∀t∈ls ft,jE s l t:=λt ht=>by
    rw[hf]at ht;rcases dG.1 ht with h|h
    exact(q1 t h).2;exact(q2 t h).2
  have dff:(ls ft).Pairwise Df:=by
    rw[hf,qdE];refine⟨zti ?_,zti ?_,λa ha b hb=>λk=>?_⟩;rw[hX];exact(Nh (Qh s l 1) _ _ _).filter _;rw[hY];exact(Nh (Qh s l 2) _ _ _).filter _;have:=(q1 a ha).1;have:=(q2 b hb).1;have:=k.1;omega
  let cl:dF 130 Unit (Pt (Pt found)):=⟨(),⟨⟨⟨fM s r l,ft,⟨0,Xa⟩⟩⟩⟩⟩;have lf:ft.len<=4000:=by show u1.len+u2.len<=4000;omega
  have f3:=zfh ft (.inr cl) ⟨λt ht=>(qf t ht).one,λt ht=>(qf t ht).one,by show ft.len<=10000;omega⟩ omY;have g3:ls (Qg Xa (xy (id (.inr cl))) ft ft.len)=(ls ft).filter λt=>!(ls ft).any λx=>EO x t:=Tm _ _ _ _;have m3:=wM Xa (xy (id (.inr cl))) ft ft.len;generalize hu3:Qg Xa (xy (id (.inr cl))) ft ft.len=u3 at f3 g3 m3;have q3:∀t∈ls u3,jE s l t:=λt ht=>by rw[g3]at ht;exact qf t (Qu.1 ht).1
  have df3:(ls u3).Pairwise Df:=by rw[g3];exact dff.sublist List.filter_sublist
  have in3:∀i,i<u3.len->jE s l (u3.get i):=λi hi=>q3 _ (gz.2 ⟨i,hi,rfl⟩);have ne3:∀i j,i<u3.len->j<u3.len->i≠j->Df (u3.get i) (u3.get j):=λi j hi hj IR=>by
    have P:=qdg.1 df3;have ge:∀i (hi:i<u3.len),(ls u3)[i]'(by rw[jL];exact hi)=u3.get i:=λi hi=>by
      have:=Nw hi;rw[Ai (by rw[jL];exact hi)]at this;exact dq9 this
    rcases qd7 i j with h|h
    have:=P i j (by rw [jL];exact hi) (by rw [jL];exact hj) h;rwa[ge i hi,ge j hj]at this;have:=P j i (by rw [jL];exact hj) (by rw [jL];exact hi) omY;rw[ge i hi,ge j hj]at this;exact zyx this
  obtain⟨hp,p,p1,p2,p3⟩:=ztb (C:=ae.un E.TK) (caps:=[]) (ag:=true) (w:=u3) (cmp:=zqu) (R:=ZL) omY
    (λi j hi hj=>by
      show(E.TK (u3.get i,u3.get j)).T _=_;rw[zyy _ _ (in3 i hi).one (in3 j hj).one];rfl)
    (λi j hi hj=>zqv) (λi hi=>zb5 _) (λi j hi hj IR=>zqw λh=>ne3 i j hi hj IR ⟨h.1,zxR h.2.1 h.2.2 (in3 i hi).tv.2 (in3 j hj).tv.2⟩) (λi j _ _ h=>zjR h)
    (λi j k _ _ _ a b=>zjQ a b)
  have pl:p.length=u3.len:=by rw[p1.length_eq,qje]
  let tr:Sl af:=⟨u3.len,soG (ae.un E.TK) [] true u3⟩;have ht:ls tr=p.map u3.get:=by
    refine List.ext_getElem (by rw[jL,qda,pl]) λi h1 h2=>?_;have hi:i<u3.len:=by rw[jL]at h1;exact h1
    have:=Nw (w:=tr) (i:=i) hi;rw[Ai h1]at this;rw[dq9 this,List.getElem_map];exact p3 i omY
  refine⟨⟨⟨fM s r l,ft,tr⟩⟩,ae.ext λk=>?_,rfl,⟨ls u1,ls u2,hf,λt h=>?_,λt h=>?_,hX,hY⟩,?_,?_⟩;have no:((ls w).any λb=>false==b)=false:=by
    rw[qdP];intro b Ub;rw[hb b Ub];simp
  rw[e72,P6 s r l hs hl,bf];have eo:opn s r l=.inr (fM s r l,0):=by unfold opn;rw[h0];rfl
  rw[eo];show(E.Ox (w,false)).T _=_;rw[VS w false omY,bf,no];show(E.c127 (fM s r l,1)).T _=_;rw[a1,bf];show(E.EG (w1,.inl ⟨fM s r l,()⟩)).T _=_;rw[f1,bf];show aV (room u1.len 56) ((E.c127 (fM s r l,2)).T _)=_;rw[lV omY omY,a2,bf];show(E.EG (w2,.inl ⟨fM s r l,()⟩)).T _=_;rw[f2,bf];show aV (room (u1.len+u2.len) 56) ((E.EG (ft,.inr cl)).T _)=_;rw[lV omY omY,f3,bf];show zbJ E (fM s r l) ft u3 k=_;rw[zD5,hp];rfl;have:=q1 t h;exact⟨this.1,this.2.tv.2⟩;have:=q2 t h;exact⟨this.1,this.2.tv.2⟩;show(ls tr).Perm _;rw[ht];show(p.map u3.get).Perm ((ls ft).filter λt=>!(ls ft).any λx=>EO x t);rw[<- g3];exact p1.map _;show(ls tr).Pairwise ZL;rw[ht,qjf];exact p2
/-! What a plane sees. -/
def Ou(p:aj)(c:Int):bC:=⟨aQ (aQ (p.First+aQ (c*p.aT))-kX p),aQ (aQ (aQ (aQ (p.First+aQ (c*p.aT))-kX p)+p.aT)-1)⟩
def zka(p:aj)(lo hi:Int)(c:Nat):Bool:=hasB p.Dead (c:Int)&&(decide ((Ou p (c:Int)).Low<=hi)&&decide ((Ou p (c:Int)).High>=lo))
def zkb(p:aj)(x:bC):Bool:=(decide (aQ (x.Low-p.bH.High)>=(Ou p 0).Low)&&decide (aQ (x.High-p.bH.Low)<=(Ou p (aQ (p.bW-1))).High))&&iL (λc=>!zka p (aQ (x.Low-p.bH.High)) (aQ (x.High-p.bH.Low)) c) p.bW.toNat
theorem s38{E:E38}(N:Big E.N):zek (F38 E):=λa b ha hb=>ae.ext λk=>by
 have key:∀(m i n:Nat),i+m=a.len->i<=b.len->m<n->zbH E n a b (i:Int) k=k (cmpL ((List.range' i m).map a.get) ((List.range' i (b.len-i)).map b.get)):=by
  intro m
  induction m with
  | zero =>
   intro i n hi hb hn;obtain⟨n,rfl⟩:∃n',n=n'+1:=⟨n-1,omY⟩;rw[zsZ,dV omY,dQ,zs3,zs4,dV (show ¬(a.len:Int)>(b.len:Int)by omega),dQ,kc k];congr 1;cases h:b.len-i with|zero=>rw[dV omY];rfl|succ q=>rw[dK omY];rfl
  | succ m ih =>
   intro i n hi hb hn;obtain⟨n,rfl⟩:∃n',n=n'+1:=⟨n-1,omY⟩;rw[zsZ,dK omY,dU,Yj,nU];cases h:b.len-i with
   | zero=>rw[dV omY,dQ,zs3,zs4,dV omY,dK (show(a.len:Int)>(b.len:Int)by omega)];rfl
   | succ q =>
    rw[dK omY,dU,bF omY,bF omY,bF omY,bF omY,fQ,bJ omY,ih (i+1) n omY omY omY,Yj,nU,show b.len-(i+1)=q by omega];show _=k (cond (qi (a.get i) (b.get i) != 0) (qi (a.get i) (b.get i)) _);unfold qi;cases decide (a.get i<b.get i)<;>cases decide (a.get i>b.get i)<;>rfl
 rw[e38,bf];have:=key a.len 0 E.N omY (xn _) (by have:=N;omega);unfold kG;rw[dqV,dqV];exact this
theorem zER{ag:iJ->Bool}{us:iJ->Int->Bool}{sd:Nat->iJ}{c:iJ}{j:Nat}(h:Ch ag us sd c j):c=[]\/ag c=true:=by
 cases h with|nil=>exact .inl rfl|snoc _ _ _ h=>exact .inr h
def zel(s:au)(l:Sl bu)(x:Int):Bool:=decide ((zqF s l x).length<=2000)
theorem zca{ag:iJ→Bool}{us:iJ→Int→Bool}{sd:Nat→iJ}:∀{f out c i},out.length+(gr ag us sd f c i).length≤2000→grC ag us sd f out c i=out++gr ag us sd f c i
  | 0,out,c,i,_=>by simp[grC,gr]
  | f+1,out,c,i,h=>by
    simp only[grC,gr]at h ⊢;generalize sd i=l at h ⊢
    induction l generalizing out with
    | nil=>simp
    | cons p l ih =>
      rw[qdy,lX];rw[lX,BG]at h;cases hu:us c p.1 || !ag (c++[p])with
      | true =>
        rw[hu]at h;have e:(us c p.1||(decide (2000<out.length) || !ag (c++[p])))=true:=by
          revert hu;cases us c p.1<;>cases ag (c++[p])<;>simp
        rw[e];exact ih out (by simpa using h)
      | false =>
        rw[hu]at h;simp only[dQ,xm]at h;have e:(us c p.1||(decide (2000<out.length) || !ag (c++[p])))=false:=by
          rw[dV omY];revert hu;cases us c p.1<;>cases ag (c++[p])<;>simp
        rw[e,dQ,zca (by rw[BG];simp only[xm,X6];omega),ih _ (by simp only[BG,xm,X6];omega)];simp
theorem og{s:au}{l:Sl bu}{x:Int}:zel s l x=decide ((iE s l x).length<=2000):=by
 unfold zel;refine decide_eq_decide.2 ⟨λh=>by rw[<- zqG h];exact h,λh=>?_⟩;have:zqF s l x=[]++iE s l x:=zca (show 0+(iE s l x).length<=2000 by omega);rw[this];exact h
def rV(s:au)(r:bI)(l:Sl bu)(b:Bool):Int:=cond (jT s r l != 0) (jT s r l) (cond (!b) 2 (cond (zel s l 1&&zel s l 2) 0 8))
theorem zkc{s:au}{r:bI}{l:Sl bu}{b:Bool}(h:rV s r l b=0):jT s r l=0/\b=true/\(iE s l 1).length<=2000/\(iE s l 2).length<=2000:=by
 unfold rV at h;by_cases h0:jT s r l=0
 ·rw [h0]at h;cases b with
  | false=>cases h
  | true =>
   rw[og,og]at h;by_cases h1:(iE s l 1).length<=2000;by_cases h2:(iE s l 2).length≤2000;exact⟨h0,rfl,h1,h2⟩;rw[dV h2,qdW]at h;cases h;rw[dV h1]at h;cases h
 rw[show(jT s r l != 0)=true by simpa using h0]at h;exact absurd h h0
theorem zyz{s:au}{l:Sl bu}{x:Int}{w:Sl af}(ev:Ev s l x)(hb:chs w=iE s l x)(hc:Ot x w):∀t∈ls w,t.View=x/\jE s l t:=λt ht=>by
 have hv:=zb8.1 hc t ht;have hm:eu t∈iE s l x:=by rw[<- hb,Tj];exact qjx ht
 obtain⟨⟨j,hj⟩,iK⟩:=Ep hm;have e:=hv.1;subst e;exact⟨rfl,ev,hv,⟨j,Nk hj⟩,iK⟩
abbrev ZO(C:au×bI×Sl bu×Sl Bool->ae (Int ⊕ (Pt found×Int))):Prop:=∀s r l (w:Sl Bool),qO s->l.len<=40->w.len<=10 ->
 (rV s r l ((ls w).all id)≠0/\C (s,r,l,w)=.ok (.inl (rV s r l ((ls w).all id))))\/(rV s r l ((ls w).all id)=0/\∃f:Pt found,C (s,r,l,w)=.ok (.inr (f,0))/\H5 s r l f.v)
theorem zQm{E:E72}(P6:Q78 E.Yb)(VS:zqQ E.Ox)(XY:zj4 E.c127)(zfh:zqO E.EG)(zyy:zqP E.TK):ZO (F72 E):=λs r l w hs hl hw=>by
 have an:((ls w).any λb=>false==b) = !(ls w).all id:=by
  rw[List.not_all_eq_any_not];congr 1;funext b;cases b<;>rfl
 by_cases h0:jT s r l=0
 case neg =>
  have e:rV s r l ((ls w).all id)=jT s r l:=by unfold rV;rw[show(jT s r l != 0)=true by simpa using h0];rfl
  refine .inl ⟨by rw[e];exact h0,?_⟩;have eo:opn s r l=.inl (jT s r l):=by unfold opn;rw[show(jT s r l==0)=false by simpa using h0];rfl
  refine ae.ext λk=>?_;rw[e72,P6 s r l hs hl,bf,eo,bf,e];show cond (jT s r l==0) _ (cond (jT s r l != 0) _ _)=_;rw[show(jT s r l==0)=false by simpa using h0,show(jT s r l != 0)=true by simpa using h0];rfl
 have eo:opn s r l=.inr (fM s r l,0):=by unfold opn;rw[h0];rfl
 obtain⟨he,_,h24⟩:=rO hs h0;have ev1:Ev s l 1:={toEvt:=he,l24:=h24,vw:=rfl};have ev2:Ev s l 2:={toEvt:=he,l24:=h24,vw:=rfl};cases hb:(ls w).all id with
 | false =>
  have e:rV s r l false=2:=by unfold rV;rw[h0];rfl
  refine .inl ⟨by rw[e];decide,?_⟩;refine ae.ext λk=>?_;rw[e72,P6 s r l hs hl,bf,eo,bf,e];show(E.Ox (w,false)).T _=_;rw[VS w false omY,bf,an,hb];rfl
 | true =>
 rcases XY s l r 1 ev1 with⟨n1,w1,a1,b1,c1⟩|⟨n1,w1,a1⟩
 case inr =>
  have e:rV s r l true=8:=by unfold rV;rw[h0,og,dV (show ¬(iE s l 1).length<=2000 by omega)];rfl
  refine .inl ⟨by rw[e];decide,?_⟩;refine ae.ext λk=>?_;rw[e72,P6 s r l hs hl,bf,eo,bf,e];show(E.Ox (w,false)).T _=_;rw[VS w false omY,bf,an,hb];show(E.c127 (fM s r l,1)).T _=_;rw[a1,bf];rfl
 rcases XY s l r 2 ev2 with⟨n2,_⟩|⟨n2,w2,a2⟩
 case inr =>
  have e:rV s r l true=8:=by unfold rV;rw[h0,og (x:=2),dV (show ¬(iE s l 2).length<=2000 by omega),qdW];rfl
  refine .inl ⟨by rw[e];decide,?_⟩;have k1:=zyz ev1 b1 c1;have ln1:w1.len<=2000:=by rw[<- Eo,b1];exact n1
  have f1:=zfh w1 (.inl ⟨fM s r l,()⟩) ⟨s,l,r,rfl,λt ht=>(k1 t ht).2⟩ omY;have m1:=wM Xa (xy (id (.inl ⟨fM s r l,()⟩))) w1 w1.len;refine ae.ext λk=>?_;rw[e72,P6 s r l hs hl,bf,eo,bf,e];show(E.Ox (w,false)).T _=_;rw[VS w false omY,bf,an,hb];show(E.c127 (fM s r l,1)).T _=_;rw[a1,bf];show(E.EG (w1,.inl ⟨fM s r l,()⟩)).T _=_;rw[f1,bf];show aV (room (Qg Xa (xy (id (.inl ⟨fM s r l,()⟩))) w1 w1.len).len 56) ((E.c127 (fM s r l,2)).T _)=_;rw[lV omY omY,a2,bf];rfl
 have e:rV s r l true=0:=by unfold rV;rw[h0,og,og,dK n1,dK n2];rfl
 refine .inr ⟨e,?_⟩;have zES:zEK E.c127:=λs l r x ev n=>(XY s l r x ev).elim (λh=>h.2) λh=>absurd h.1 omY;exact s72 P6 VS zES zfh zyy s r l w hs hl h0 n1 n2 hw (λb hm=>by simpa using Aj.1 hb b hm)
abbrev zyA(C:au×bI×Sl bu->ae (Sl af×Int)):Prop:=∀s r l,qO s->l.len<=40->(rV s r l true≠0/\C (s,r,l)=.ok (⟨0,λ_=>default⟩,rV s r l true))\/(rV s r l true=0/\∃f:found,C (s,r,l)=.ok (f.ax,0)/\H5 s r l f)
theorem zQn{E:E20}(OE:ZO E.c72):zyA (F20 E):=λs r l hs hl=>by
 rcases OE s r l ⟨0,λ_=>default⟩ hs hl (xn _)with⟨h0,h1⟩|⟨h0,f,h1,h2⟩
 have h0:rV s r l true≠0:=h0;have h1:E.c72 (s,r,l,⟨0,λ_=>default⟩)=.ok (.inl (rV s r l true)):=h1;refine .inl ⟨h0,ae.ext λk=>?_⟩;rw[e20,h1,bf,bf];show cond (rV s r l true != 0) _ _=_;rw[show(rV s r l true != 0)=true by simpa using h0];rfl;exact .inr ⟨h0,f.v,ae.ext λk=>by rw[e20,h1,bf,bf];rfl,h2⟩
theorem zem(t:af):wJ t t=true:=uU.2 ⟨λ_ h=>h,rfl⟩
theorem zqR{a b c:af}(h1:wJ b a=true)(h2:wJ c b=true):wJ c a=true:=by
 rw[uU]at *;exact⟨λp hp=>h2.1 p (h1.1 p hp),h1.2.trans h2.2⟩
theorem H5.fit{s:au}{r:bI}{l:Sl bu}{f:found}(h:H5 s r l f){t:af}(ht:t∈ls f.fits):(t.View=1\/t.View=2)/\WO t.View t/\eu t∈(iE s l t.View).filter (oJ s l t.View r):=by
 obtain⟨X,Y,e,x1,y1,x2,y2⟩:=h.fx;rw[e]at ht;rcases dG.1 ht with h|h
 have a:=(x1 t h).1;exact⟨.inl a,⟨rfl,(x1 t h).2⟩,by rw[a,<- x2];exact qjx h⟩;have a:=(y1 t h).1;exact⟨.inr a,⟨rfl,(y1 t h).2⟩,by rw[a,<- y2];exact qjx h⟩
theorem H5.has{s:au}{r:bI}{l:Sl bu}{f:found}(h:H5 s r l f){x:Int}(hx:x=1\/x=2){c:iJ}(hc:c∈(iE s l x).filter (oJ s l x r)):∃t∈ls f.fits,t.View=x/\eu t=c:=by
 obtain⟨X,Y,e,x1,y1,x2,y2⟩:=h.fx;rcases hx with rfl|rfl
 rw [← x2]at hc;obtain⟨t,ht,he⟩:=rY.1 hc;exact⟨t,by rw[e];exact qdN _ ht,(x1 t ht).1,he⟩;rw [← y2]at hc;obtain⟨t,ht,he⟩:=rY.1 hc;exact⟨t,by rw[e];exact qjg _ ht,(y1 t ht).1,he⟩
theorem H5.chosen{s:au}{r:bI}{l:Sl bu}{f:found}(h:H5 s r l f)(he:Evt s l)(h24:l.len<=24){t:af}(ht:t∈ls f.fits):jE s l t:=by
 obtain⟨v,tv,m⟩:=h.fit ht;obtain⟨⟨j,hj⟩,ne⟩:=Ep (Qu.1 m).1;exact {ev:={toEvt:=he,l24:=h24,vw:=dK v},tv:=tv,vl:=⟨j,Nk hj⟩,ne:=ne}
theorem H5.sub{s:au}{r:bI}{l:Sl bu}{f:found}(h:H5 s r l f){t:af}(ht:t∈ls f.ax):t∈ls f.fits:=(Qu.1 (h.tr.mem_iff.1 ht)).1
theorem H5.max{s:au}{r:bI}{l:Sl bu}{f:found}(h:H5 s r l f)(he:Evt s l)(h24:l.len<=24){t:af}(ht:t∈ls f.fits):∃m∈ls f.ax,wJ m t=true:=by
 obtain⟨m,hm,h1,h2⟩:=zxK (F:=ls f.fits) (λt=>t.Hits.len) (λa b=>wJ b a=true) zem (λa b c h1 h2=>zqR h1 h2) 100 (λa ha=>(h.chosen he h24 ha).one.le) t ht;refine⟨m,h.tr.mem_iff.2 (Qu.2 ⟨hm,?_⟩),h1⟩;rw[NQ,qdP];intro x hx hg;unfold EO at hg;rw[fH,oO]at hg;exact h2 x hx ⟨by have:=hg.1;omega,hg.2⟩
theorem H5.len{s:au}{r:bI}{l:Sl bu}{f:found}(h:H5 s r l f)(n1:(iE s l 1).length<=2000)(n2:(iE s l 2).length<=2000):f.ax.len<=4000:=by
 obtain⟨X,Y,e,x1,y1,x2,y2⟩:=h.fx;have a:=h.tr.length_eq;rw[jL]at a;have b:=qdL (λt=>!(ls f.fits).any λx=>EO x t) (ls f.fits);rw[e,BG]at b;have c:=jF List.length x2;have d:=jF List.length y2;rw[qda]at c d;have:=qdL (oJ s l 1 r) (iE s l 1);have:=qdL (oJ s l 2 r) (iE s l 2);rw[e]at a;omega
theorem yG{g:Sl aC}{d x:Int}(hd:0≤d)(h0:0<g.len)(h:∀i,i<g.len→(g.get i).Low*d≤x∧x≤(g.get i).High*d):∀n,n≤g.len→(ik g n).Low*d≤x∧x≤(ik g n).High*d
  | 0,_=>h 0 h0
  | n+1,hn=>by
    obtain⟨a,b⟩:=yG hd h0 h n omY;obtain⟨c,e⟩:=h n omY;simp only[ik];constructor;split<;>assumption;split<;>assumption
theorem zen{a b x d:Int}(hd:0<d)(h1:a*d<=x)(h2:x<=b*d):a<=b:=qdl (jqb h1 h2) hd
theorem Xb{g:Sl aC}(hf:gW g=true){s:straight}(ha:Bg g s){z:Int}(hz:(g.get 0).Z=z):∀i,i<g.len->(g.get i).Low*s.den<=iG s z/\iG s z<=(g.get i).High*s.den:=λi hi=>by
 have:=wH ha hi;rw[Gp.1 hf i hi,hz]at this;exact this
theorem zcb{g:Sl aC}(G:bY g){s:straight}(hd:0<s.den)(ha:Bg g s):gp g=true:=by
 have hg:=G.2;cases hf:gW g with
 | true =>
  obtain⟨a,b⟩:=yG (Il hd) omY (Xb hf ha rfl) g.len (jy _);unfold gp;rw[hf,dU,oO];exact zen hd a b
 | false =>
  obtain⟨_,⟨c,c1,_⟩,_⟩:=lp omY (λh=>by rw[Gp.2 h]at hf;cases hf) hd ha;exact(Qd G hf).2 ⟨c,c1.1,c1.2⟩
def Xc(a b:aP):Prop:=a.Num*b.bV<=b.Num*a.bV
theorem zkd{a b:aP}(h:¬zF b a):Xc a b:=by unfold zF at h;unfold Xc;omega
theorem tu{a b c:aP}(ha:0<a.bV)(hb:0<b.bV)(hc:0<c.bV)(h1:Xc a b)(h2:Xc b c):Xc a c:=by
 unfold Xc at *;have y1:=Uc h1 (Il hc);have y2:=Uc h2 (Il ha);have z1:b.Num*a.bV*c.bV=b.Num*c.bV*a.bV:=by ac_rfl
 have z2:c.Num*b.bV*a.bV=c.Num*a.bV*b.bV:=by ac_rfl
 have z3:a.Num*b.bV*c.bV=a.Num*c.bV*b.bV:=by ac_rfl
 have:a.Num*c.bV*b.bV<=c.Num*a.bV*b.bV:=by omega
 exact qdl this hb
theorem Xd{a b:aP}(ha:0<a.bV)(hb:0<b.bV)(h:Xc a b):a.Num/a.bV<=b.Num/b.bV:=by
 rw[Int.le_ediv_iff_mul_le hb];have h1:=jql a.Num (show a.bV≠0 by omega);unfold Xc at h;refine qdl (?_:_*a.bV<=_*a.bV) ha;have h2:=Uc h1 (Il hb);have e:a.Num/a.bV*b.bV*a.bV=a.Num/a.bV*a.bV*b.bV:=by ac_rfl
 omega
theorem zke{a b:aP}(ha:0<a.bV)(hb:0<b.bV)(h:Xc a b) : -(-a.Num/a.bV)<=-(-b.Num/b.bV):=by
 have:=Xd (a:=⟨-b.Num,b.bV⟩) (b:=⟨-a.Num,a.bV⟩) hb ha (by unfold Xc at *;show -b.Num*a.bV<=-a.Num*b.bV;rw[jqh,jqh];omega);have : -b.Num/b.bV<=-a.Num/a.bV:=this;omega
theorem Es{a b:Int}(hb:0<b):Xc (red a b) ⟨a,b⟩/\Xc ⟨a,b⟩ (red a b):=by
 have h1:=qh (num:=a) hb;have h2:=nY (num:=a) hb;unfold Xc;generalize (Int.gcd a b:Int)=G at h1 h2;have e:(red a b).Num*b=a*(red a b).bV:=by
  generalize (red a b).Num=x at *;generalize (red a b).bV=y at *;rw[<- h1,<- h2];ac_rfl
 show(red a b).Num*b<=a*(red a b).bV/\a*(red a b).bV<=(red a b).Num*b;omega
theorem zkf{x y:straight}(X:Ae x)(Y:Ae y)(h:nZ x=nZ y)(z:Int):Xc (Jq z x) (Jq z y):=by
  have a:=WJ X z;have b:=WJ Y z;rw[h]at a;have px:=zqp Y;unfold Xc;show iG x z*y.den<=iG y z*x.den;have e:iG x z*y.den*plD (nZ y)=iG y z*x.den*plD (nZ y):=by
    calc iG x z * y.den * plD (nZ y) = iG x z * plD (nZ y) * y.den := by ac_rfl
      _=plN (nZ y) z*x.den*y.den:=by rw[a]
      _=plN (nZ y) z*y.den*x.den:=by ac_rfl
      _=iG y z*plD (nZ y)*x.den:=by rw[b]
      _=iG y z*x.den*plD (nZ y):=by ac_rfl
  have:=jqo omY e;omega
theorem zyB{g:Sl aC}(G:bY g){s:straight}(S:Ae s)(ha:Bg g s){z:Int}(ho:(Gj g ((g.get 0).Z==z)).2=0):Xc (BF g z).1 (Jq z s)/\Xc (Jq z s) (BF g z).2/\0<(BF g z).1.bV/\0<(BF g z).2.bV:=by
 have hg:=G.2;have hd:0<s.den:=by have:=S.2.2;omega
 obtain⟨so,hc⟩:=zth G ho;unfold BF;cases hf:gW g with
 | true =>
  have hz:(g.get 0).Z=z:=by
   unfold Gj at ho;rw[lN.2 G,so,hf]at ho;cases h:(g.get 0).Z==z with|true=>exact eq_of_beq h|false=>rw[h]at ho;cases ho
  obtain⟨a,b⟩:=yG (Il hd) omY (Xb hf ha hz) g.len (jy _);rw[dU];have r1:=Es (a:=(ik g g.len).Low) (b:=1) omY;have r2:=Es (a:=(ik g g.len).High) (b:=1) omY;have p1:=kF (num:=(ik g g.len).Low) (den:=1) omY;have p2:=kF (num:=(ik g g.len).High) (den:=1) omY;refine⟨tu p1 (b:=⟨_,1⟩) (show(0:Int)<1 by omega) hd r1.1 ?_,tu hd (b:=⟨_,1⟩) (show(0:Int)<1 by omega) p2 ?_ r2.2,p1,p2⟩;show(ik g g.len).Low*s.den<=iG s z*1;omega;show iG s z*1<=(ik g g.len).High*s.den;omega
 | false =>
  have nf:¬WQ g:=λh=>by rw[Gp.2 h]at hf;cases hf
  obtain⟨hl,_,_⟩:=lp omY nf hd ha;obtain⟨⟨c,c1,c2⟩,e,e1,e2⟩:=hl z;have C:=qR G c1;have D:=qR G e1;have pc:0<c.den:=by have:=C.2.2;omega
  have pe:0<e.den:=by have:=D.2.2;omega
  have inn:∀{c:straight},Ag g c->∃x∈jq g,nZ x=nZ c:=fun {c} hc=>(SE hf).2.1 c hc.1 ((Ed G (Bf G hc.1)).2 hc.2);obtain⟨x,x1,x2⟩:=inn c1;obtain⟨y,y1,y2⟩:=inn e1;have X:=qR G (Jo G x1);have Y:=qR G (Jo G y1);have px:0<x.den:=by have:=X.2.2;omega
  have py:0<y.den:=by have:=Y.2.2;omega
  obtain⟨⟨u,u1,u2⟩,u3⟩:=zjO G z (hc hf);obtain⟨⟨v,v1,v2⟩,v3⟩:=zjP G z (hc hf);have pu:0<(loF g z).bV:=by rw[u2];have:=(qR G u1).2.2;show 0<u.den;omega
  have pv:0<(hiF g z).bV:=by rw[v2];have:=(qR G v1).2.2;show 0<v.den;omega
  have r1:=Es (a:=(loF g z).Num) pu;have r2:=Es (a:=(hiF g z).Num) pv;have p1:=kF (num:=(loF g z).Num) pu;have p2:=kF (num:=(hiF g z).Num) pv;rw[dQ];refine⟨tu p1 pu hd r1.1 ?_,tu hd pv p2 ?_ r2.2,p1,p2⟩;refine tu pu (b:=Jq z x) px hd (zkd (u3 x x1)) (tu (b:=Jq z c) px pc hd (zkf X C x2 z) ?_);exact c2;refine tu hd (b:=Jq z y) py pv (tu (b:=Jq z e) hd pe py ?_ (zkf D Y y2.symm z)) (zkd (v3 y y1));exact e2
/-! What a plane must see. -/
theorem Tn:∀{l:List (Int×bC)}{n h:Int},(∀t∈l,-1000000000000≤t.2.High∧t.2.High≤1000000000000)→nxt l n>h→∀y,n≤y→y≤h→∃t∈l,t.2.Low≤y∧y≤t.2.High
  | [],n,h,_,hn,y,h1,h2=>by have:n>h:=hn;omega
  | t::l,n,h,hb,hn,y,h1,h2=>by
    have lS:=λu hu=>hb u (jB _ hu);have ht:=hb t jM;by_cases c:t.2.Low<=n/\n<=t.2.High;have e:nxt (t::l) n=nxt l (t.2.High+1):=by
      show nxt l (cond (decide (t.2.Low<=n)&&decide (n<=t.2.High)) (aQ (t.2.High+1)) n)=_;rw[dK c.1,dK c.2,aZ omY omY];rfl
    rw[e]at hn;by_cases hy:y<=t.2.High;exact⟨t,jM,omY,hy⟩;obtain⟨u,a,b⟩:=Tn lS hn y omY h2;exact⟨u,jB _ a,b⟩;have e:nxt (t::l) n=nxt l n:=by
      show nxt l (cond (decide (t.2.Low<=n)&&decide (n<=t.2.High)) (aQ (t.2.High+1)) n)=_;by_cases h1:t.2.Low<=n;rw[dV (show ¬n<=t.2.High from λh2=>c ⟨h1,h2⟩),qdW];rfl;rw[dV h1];rfl
    rw[e]at hn;obtain⟨u,a,b⟩:=Tn lS hn y h1 h2;exact⟨u,jB _ a,b⟩
theorem zcc{p:aj}(hp:VQ p):0<=kX p/\kX p<=p.aT:=by
 obtain⟨_,_,_,_,hpi,_⟩:=hp;have:0<=p.aT.tdiv 2/\p.aT.tdiv 2<=p.aT:=by rw[qd0 omY];omega
 unfold kX;cases p.Kind==2 with|true=>rw[dU,aZ omY omY];exact this|false=>rw[dQ];omega
theorem Js{p:aj}(hp:VQ p){c:Int}(h1:0<=c)(h2:c<=2000):Ou p c=⟨p.First+c*p.aT-kX p,p.First+c*p.aT-kX p+p.aT-1⟩/\0<=c*p.aT/\c*p.aT<=1000000000:=by
 have hh:=zcc hp;obtain⟨_,_,_,hf,hpi,_⟩:=hp;obtain⟨q1,q2⟩:=vX (a:=c) (b:=p.aT) omY omY;refine⟨?_,q1,q2⟩;unfold Ou;rw[aZ (x:=c*p.aT) omY omY,aZ (x:=p.First+c*p.aT) omY omY,aZ (x:=p.First+c*p.aT-kX p) omY omY,aZ (x:=p.First+c*p.aT-kX p+p.aT) omY omY,aZ omY omY]
theorem Et{p:aj}{t:Int×bC}:∀{m c:Nat},t∈Ti p m c→∃q:Nat,c≤q∧q<c+m∧hasB p.Dead (q:Int)=false∧t.2=Ou p (q:Int)
  | m+1,c,h=>by
    simp only[Ti]at h;cases hd:hasB p.Dead (c:Int)with
    | true =>
      rw[hd]at h;obtain⟨q,a,b,d⟩:=Et h;exact⟨q,omY,omY,d⟩
    | false =>
      rw[hd]at h;rcases jW.1 h with h|h
      exact⟨c,jy _,omY,hd,by rw[h];rfl⟩;obtain⟨q,a,b,d⟩:=Et h;exact⟨q,omY,omY,d⟩
theorem zkg{p:aj}(hp:VQ p){X x:bC}(h:Nv p X=true)(hX : -1000000<=X.Low/\X.High<=1000000)(h1:X.Low<=x.Low)(h2:x.Low<=x.High)(h3:x.High<=X.High):zkb p x=true:=by
 have hh:=zcc hp;have OC:=hp;obtain⟨_,_,_,hf,hpi,IQ,hsp,ho,_⟩:=hp;unfold Nv at h;rw[oO,aZ (x:=X.Low-p.bH.High) omY omY,aZ (x:=X.High-p.bH.Low) omY omY]at h;have cov:∀y,X.Low-p.bH.High<=y->y<=X.High-p.bH.Low->∃q:Nat,(q:Int)<p.bW/\hasB p.Dead (q:Int)=false/\(Ou p (q:Int)).Low<=y/\y<=(Ou p (q:Int)).High:=λy y1 y2=>by
  obtain⟨t,ht,a,b⟩:=Tn (λt ht=>by
   obtain⟨q,_,q2,_,e⟩:=Et ht;obtain⟨e2,e3,e4⟩:=Js OC (c:=(q:Int)) omY omY;rw[e,e2];show _<=p.First+q*p.aT-kX p+p.aT-1/\p.First+q*p.aT-kX p+p.aT-1<=_;omega) h y y1 y2
  obtain⟨q,_,q2,q3,e⟩:=Et ht;rw[e]at a b;exact⟨q,omY,q3,a,b⟩
 have ge:∀q:Nat,(q:Int)<p.bW->Ou p (q:Int)=⟨p.First+q*p.aT-kX p,p.First+q*p.aT-kX p+p.aT-1⟩:=λq hq=>(Js OC (c:=(q:Int)) omY omY).1;have mono:∀a b:Int,a<b->a*p.aT+p.aT<=b*p.aT:=λa b hab=>by
  have:=Uc (show a+1<=b by omega) (show 0<=p.aT by omega);rw[qjN,Int.one_mul]at this;exact this
 have nn:∀q:Nat,0<=(q:Int)*p.aT:=λq=>qdX omY omY;unfold zkb;rw[aZ (x:=x.Low-p.bH.High) omY omY,aZ (x:=x.High-p.bH.Low) omY omY,aZ (x:=p.bW-1) omY omY];simp only[fH,oO,dD,NQ];refine⟨⟨?_,?_⟩,λc hc=>?_⟩;obtain⟨q,q1,_,q3,_⟩:=cov (x.Low-p.bH.High) omY omY;rw[ge q q1]at q3;rw[(Js OC (c:=0) omY omY).1];have:=nn q;show p.First+0*p.aT-kX p<=_;simp only at q3;omega;obtain⟨q,q1,_,_,q4⟩:=cov (x.High-p.bH.Low) omY omY;rw[ge q q1]at q4;rw[(Js OC (c:=p.bW-1) omY omY).1];show _<=p.First+(p.bW-1)*p.aT-kX p+p.aT-1;simp only at q4;by_cases e:(q:Int)=p.bW-1;rw[<- e];exact q4;have:=mono q (p.bW-1) omY;omega
 ·cases hd:zka p (x.Low-p.bH.High) (x.High-p.bH.Low) c with
  | false=>rfl
  | true =>
   simp only[zka,fH,oO]at hd;obtain⟨d1,d2,d3⟩:=hd;have gc:=ge c omY;rw[gc]at d2 d3;simp only at d2 d3;obtain⟨q,q1,q2,q3,q4⟩:=cov (if p.First+c*p.aT-kX p>=x.Low-p.bH.High then p.First+c*p.aT-kX p else x.Low-p.bH.High) (by split<;>omega) (by split<;>omega);rw[ge q q1]at q3 q4;simp only at q3 q4;rcases qj7 (q:Int) (c:Int)with e|e|e
   have:=mono q c e;split at q4<;>omega;have:q=c:=by omega
   rw[this,d1]at q2;cases q2;have:=mono c q e;split at q3<;>omega
def zyC(s:au)(l:Sl bu)(v:Int)(ln:straight)(time:Int)(i:Nat):Prop :=
 EM s l i=v/\((gq s (l.get i)).Low<=time/\time<=(gq s (l.get i)).High)/\∃k,k<qc s l i/\iq ln ((Ac s (l.get i)).get k)=true
structure Own (s : au) (l : Sl bu) (v : Int) (ln : straight) (time : Int) (w : Sl Int) (i : Nat) : Prop where
  le:w.len<=i/\i<=l.len
  mem:∀j,j<w.len->(0<=w.get j/\w.get j<(i:Int))/\zyC s l v ln time (w.get j).toNat
  pw:∀j k,j<k->k<w.len->w.get j<w.get k/\(l.get (w.get j).toNat).aj≠(l.get (w.get k).toNat).aj
theorem Own.snoc{s:au}{l:Sl bu}{v:Int}{ln:straight}{time:Int}{w:Sl Int}{i:Nat}(h:Own s l v ln time w i)(hi:i<l.len)(h1:zyC s l v ln time i)(h2:∀j,j<w.len->(l.get (w.get j).toNat).aj≠(l.get i).aj):Own s l v ln time (mX w (i:Int)) (i+1):=by
 have lo:∀j,j<w.len->(mX w (i:Int)).get j=w.get j:=λj hj=>by
  show lm w.len w.get (λ_=>(i:Int)) j=_;rw[jD,dM omY]
 have mV:(mX w (i:Int)).get w.len=(i:Int):=by
  show lm w.len w.get (λ_=>(i:Int)) w.len=_;rw[jD,dH (jy _)]
 refine⟨by have:=h.le;show w.len+1<=i+1/\_;omega,λj hj=>?_,λj k hjk hk=>?_⟩;have hj:j<w.len+1:=hj;by_cases e:j=w.len;rw[e,mV,fQ];exact⟨omY,h1⟩;rw[lo j omY];have:=h.mem j omY;exact⟨by have:=this.1;omega,this.2⟩;have hk:k<w.len+1:=hk;by_cases e:k=w.len;subst e;rw[mV,lo j omY,fQ];exact⟨by have:=(h.mem j omY).1;omega,h2 j omY⟩;rw[lo j omY,lo k omY];exact h.pw j k hjk omY
def Tru(s:au)(l:Sl bu)(ln:straight)(time:Int)(c:iJ):Prop:=∀p∈c,iq ln ((Ac s (l.get p.1.toNat)).get p.2.toNat)=true/\(gq s (l.get p.1.toNat)).Low<=time/\time<=(gq s (l.get p.1.toNat)).High
theorem zcd{s:au}{l:Sl bu}{ln:straight}{time:Int}{c:iJ}(h:Tru s l ln time c):Bg (BD s l c) ln:=λi hi=>by
 have hi:i<c.length:=by rw[show(BD s l c).len=c.length from o6 _ _ _]at hi;exact hi
 show iq ln ((gw z0 _ c.length).get i)=true;rw[yC hi,Ai hi];exact(h _ (qdb hi)).1
theorem zkh{s:au}{l:Sl bu}{x:Int}{ln:straight}{time:Int}{c:iJ}{j:Nat}(he:Evt s l)(h24:l.len<=24)(hv:Val s l x c j)(hn:c≠[])(S:Ae ln)(h:Tru s l ln time c):Bj s l c=true:=by
 have G:=Gn he h24 hv hn;have hl:0<c.length:=qjY.2 hn;unfold Bj;rw[zcb G (by have:=S.2.2;omega) (zcd h),qjp];unfold Nu zG;rw[oO];obtain⟨a,b⟩:=yG (g:=⟨c.length,λi=>⟨0,(gq s (l.get ((c[i]?).getD (0,0)).1.toNat)).Low,(gq s (l.get ((c[i]?).getD (0,0)).1.toNat)).High⟩⟩) (d:=1) (x:=time) omY hl (λi hi=>by
  have hi:i<c.length:=hi;show(gq s (l.get ((c[i]?).getD (0,0)).1.toNat)).Low*1<=time/\time<=(gq s (l.get ((c[i]?).getD (0,0)).1.toNat)).High*1;rw[Ai hi,qjM,qjM];exact(h _ (qdb hi)).2) c.length (jy _)
 rw[qjM]at a b;omega
theorem zqS{s:au}{l:Sl bu}{v:Int}{ln:straight}{time:Int}{w:Sl Int}(he:Evt s l)(h24:l.len<=24)(S:Ae ln)(h:Own s l v ln time w l.len):∃sd:Nat->Int,∀n,n<=w.len->∃j,Ch (Bj s l) (Gl l) (Nj s l v) ((List.range n).map λi=>(w.get i,sd i)) j/\(n<w.len->(j:Int)<=w.get n)/\Tru s l ln time ((List.range n).map λi=>(w.get i,sd i)):=by
 have ex:∀i,∃k:Nat,i<w.len->k<qc s l (w.get i).toNat/\iq ln ((Ac s (l.get (w.get i).toNat)).get k)=true:=λi=>by
  by_cases hi:i<w.len;obtain⟨k,h1,h2⟩:=(h.mem i hi).2.2.2;exact⟨k,λ_=>⟨h1,h2⟩⟩;exact⟨0,λh=>absurd h hi⟩
 refine⟨λi=>((ex i).choose:Int),λn=>?_⟩
 induction n with
 | zero=>intro _;exact⟨0,.nil,λh0=>by have:=(h.mem 0 h0).1;omega,λp hp=>by cases hp⟩
 | succ n ih =>
  intro hn;obtain⟨j,h1,h2,h3⟩:=ih omY;have m:=h.mem n omY;have sp:=(ex n).choose_spec omY;rw[qjw,TR];show ∃j,Ch _ _ _ ((List.range n).map _++[(w.get n,((ex n).choose:Int))]) j/\_/\Tru s l ln time ((List.range n).map _++[(w.get n,((ex n).choose:Int))]);have hv:=Nk h1;have hj:=hv.le;have hp:(w.get n,((ex n).choose:Int))∈Nj s l v j:=(Jp hj.2).2 ⟨⟨h2 omY,m.1.2⟩,m.2.1,by show 0<=((ex n).choose:Int);omega,by show((ex n).choose:Int)<_;have:=sp.1;show((ex n).choose:Int)<(qc s l (w.get n).toNat:Int);omega⟩;have hu:Gl l ((List.range n).map λi=>(w.get i,((ex i).choose:Int))) (w.get n)=false:=by
   unfold Gl;rw[qdP];intro q hq;obtain⟨i,hi,rfl⟩:=rY.1 hq;have:=(h.pw i n (Ak.1 hi) omY).2;simpa using this
  have tr:Tru s l ln time ((List.range n).map (λi=>(w.get i,((ex i).choose:Int)))++[(w.get n,((ex n).choose:Int))]):=λp hp=>by
   rcases dG.1 hp with hp|hp
   exact h3 p hp;rw [kK.1 hp];exact⟨by show iq ln ((Ac s (l.get (w.get n).toNat)).get (((ex n).choose:Int)).toNat)=true;rw[fQ];exact sp.2,m.2.2.1⟩
  have ag:=zkh he h24 (hv.snoc hp hu) (by simp) S tr;exact⟨_,.snoc h1 hp hu ag,λhn2=>by have:=(h.pw n (n+1) omY hn2).1;show(((w.get n).toNat+1:Nat):Int)<=_;omega,tr⟩
def plX(ln:straight)(z:Int):bC:=⟨(red (iG ln z) ln.den).Num/(red (iG ln z) ln.den).bV,-(-(red (iG ln z) ln.den).Num/(red (iG ln z) ln.den).bV)⟩
def owP(l:Sl bu)(w:Sl Int)(k:Nat):Bool:=(ls w).any λh=>(l.get h.toNat).aj==(k:Int)
def msR(s:au)(l:Sl bu)(v:Int)(ln:straight)(w:Sl Int)(k:Nat):Bool :=
 cond ((s.ak.get k).View != v||owP l w k) false (cond (decide ((plX ln (s.ak.get k).Z).Low < -1000000)) false (cond (decide ((plX ln (s.ak.get k).Z).High>1000000)) false (zkb (s.ak.get k) (plX ln (s.ak.get k).Z))))
theorem Qi{α:Type}{p q:α→Bool}:∀{l:List α},(∀x∈l,p x=true→q x=true)→(l.filter p).length≤(l.filter q).length
  | [],_=>jy _
  | x::l,h=>by
    have ih:=Qi (p:=p) (q:=q) (l:=l) λy hy=>h y (jB _ hy);rw[qdo,qdo];by_cases hp:p x=true;rw[dH hp,dH (h x jM hp),xm,xm];omega;rw [dM hp];by_cases hq:q x=true;rw[dH hq,xm];omega;rw[dM hq];exact ih
theorem zqT{n d:Int}(hd:0<d):n/d<=-(-n/d):=by
 have h1:=jql n (show d≠0 by omega);have h2:=jql (-n) (show d≠0 by omega);refine qdl (?_:_*d<=_*d) hd;rw[jqh];omega
theorem zqU {s : au} {l : Sl bu} {v : Int} {ln : straight} {time : Int} {w : Sl Int} {sd : Nat → Int} {j : Nat} (he : Evt s l) (h24 : l.len ≤ 24) (S : Ae ln) (h0 : 0 < w.len) (hv : Val s l v ((List.range w.len).map fun i => (w.get i, sd i)) j) (ht : Tru s l ln time ((List.range w.len).map fun i => (w.get i, sd i))) {k : Nat} (hk : k < s.ak.len)
    (h:WZ s l v ((List.range w.len).map λi=>(w.get i,sd i)) k=true):msR s l v ln w k=true:=by
  have hn:((List.range w.len).map λi=>(w.get i,sd i))≠[]:=λe=>by have:=jF List.length e;simp at this;omega
  have G:=Gn he h24 hv hn;have al:=zcd ht;have TY:=zg he.se hk;unfold WZ at h;cases hvw:(s.ak.get k).View != v with
  | true=>rw[hvw]at h;cases h
  | false =>
    rw[hvw,dQ]at h;cases hu:usP l ((List.range w.len).map λi=>(w.get i,sd i)) k with
    | true=>rw[hu]at h;cases h
    | false =>
      rw[hu,dQ]at h;have ow:owP l w k=false:=by
        unfold usP at hu;unfold owP ls;rw[List.any_map]at hu ⊢;exact hu
      unfold atB atB.opn' at h;cases ho:(Gj (BD s l ((List.range w.len).map λi=>(w.get i,sd i))) (((BD s l ((List.range w.len).map λi=>(w.get i,sd i))).get 0).Z==(s.ak.get k).Z)).2 != 0 with
      | true=>rw[ho]at h;cases h
      | false =>
        rw[ho,dQ]at h;obtain⟨b1,b2,b3,b4⟩:=zyB G S al (z:=(s.ak.get k).Z) (by simpa using ho);generalize BF (BD s l ((List.range w.len).map λi=>(w.get i,sd i))) (s.ak.get k).Z=B at h b1 b2 b3 b4;by_cases c1:B.1.Num/B.1.bV < -1000000;rw[dK c1]at h;cases h;by_cases c2 : -(-B.2.Num/B.2.bV)>1000000;rw[dV c1,dK c2]at h;cases h;rw[dV c1,dV c2,dQ,dQ,fH]at h;have pd:0<ln.den:=by have:=S.2.2;omega
        have pr:=kF (num:=iG ln (s.ak.get k).Z) pd;have rl:=Es (a:=iG ln (s.ak.get k).Z) pd;have d1:B.1.Num/B.1.bV<=(plX ln (s.ak.get k).Z).Low:=Xd b3 pr (tu b3 (b:=Jq (s.ak.get k).Z ln) pd pr b1 rl.2);have d2:(plX ln (s.ak.get k).Z).High<=-(-B.2.Num/B.2.bV):=zke pr b4 (tu pr (b:=Jq (s.ak.get k).Z ln) pd b4 rl.1 b2);have d3:(plX ln (s.ak.get k).Z).Low<=(plX ln (s.ak.get k).Z).High:=zqT pr;unfold msR;rw[hvw,ow,dV omY,dV omY];exact zkg TY h.2 ⟨by show -1000000<=B.1.Num/B.1.bV;omega,by show -(-B.2.Num/B.2.bV)<=1000000;omega⟩ d1 d3 d2
def msN(s:au)(l:Sl bu)(v:Int)(ln:straight)(w:Sl Int):Nat:=((List.range' 0 s.ak.len).filter (msR s l v ln w)).length
theorem zeo{s:au}{r:bI}{l:Sl bu}{v:Int}{ln:straight}{time:Int}{w:Sl Int}{f:found}(hf:H5 s r l f)(he:Evt s l)(h24:l.len≤24)(hr:vY r=true)(hv:v=1∨v=2)(S:Ae ln)(h:Own s l v ln time w l.len)(h1:r.ve≤(w.len:Int))(h2:(msN s l v ln w:Int)≤r.xA) :
  ∃m∈ls f.ax,m.View=v/\∀i,i<w.len->∃j,j<m.Hits.len/\m.Hits.get j=w.get i:=by
 simp only[vY,inB,fH,oO]at hr;obtain⟨sd,hc⟩:=zqS he h24 S h;obtain⟨j,c1,_,c3⟩:=hc w.len (jy _);have zlg:=Nk c1;have hn:((List.range w.len).map λi=>(w.get i,sd i))≠[]:=λe=>by have:=jF List.length e;simp at this;omega
 have hle:=zlg.le;have cin:((List.range w.len).map λi=>(w.get i,sd i))∈iE s l v:=(ztd (f:=30) c1 omY).1.resolve_left hn;have fit:oJ s l v r ((List.range w.len).map λi=>(w.get i,sd i))=true:=by
  simp only[oJ,fH,oO,qda,qje,W9];refine⟨omY,?_⟩;have:=Qi (p:=WZ s l v ((List.range w.len).map λi=>(w.get i,sd i))) (q:=msR s l v ln w) (l:=List.range' 0 s.ak.len) λk hk hm=>zqU he h24 S omY zlg c3 (by simp at hk;omega) hm;unfold msN at h2;omega
 obtain⟨t,ht,t1,t2⟩:=hf.has hv (Qu.2 ⟨cin,fit⟩);obtain⟨m,hm,TM⟩:=hf.max he h24 ht;rw[uU,t2]at TM;refine⟨m,hm,TM.2.symm.trans t1,λi hi=>?_⟩;obtain⟨j,hj,e,_⟩:=ql.1 (TM.1 (w.get i,sd i) (rY.2 ⟨i,Ak.2 hi,rfl⟩));exact⟨j,hj,e⟩
structure E49 where
 N:Nat
 c109:(Sl aC)->ae Bool
 zk5:(Sl aC)×(Sl Int)->ae Bool
abbrev G49(E:E49):bM:=jc ((Tabs.nil.addF 109 (ae.un E.c109)).addF 110 (ae.un E.zk5)) []
def A49:dI:=bZ aJ 49 [] {}
def F49(E:E49):(Sl aC)->ae ((Sl Int)×Int):=ae.ty (aF aJ E.N (G49 E) A49 49)
section
variable(E:E49){A:Type}(k:((Sl Int)×Int)->Option A)
def H6(E:E49)(n:Nat)(a0:Sl aC)(OH:Int){A:Type}(k:((Sl Int)×Int)->Option A):Option A:=kC aJ (G49 E) E.N A49 49 [1,1,1,0,1,0] [.n n] (kz k) ⟨[(0,eP a0),(4,.int (a0.len:Int)),(15,.int (a0.len:Int)),(16,.int OH)],[],[]⟩
def H7(E:E49)(n0 n:Nat)(a0:Sl aC)(v5 v6 OH:Int){A:Type}(k:((Sl Int)×Int)->Option A):Option A:=kC aJ (G49 E) E.N A49 49 [1,1,1,0,1,0,0,1,1,0,0,1,1,0] [.n n0,.n n] (kz k) ⟨[(0,eP a0),(4,.int (a0.len:Int)),(5,.int v5),(6,.int v6),(15,.int (a0.len:Int)),(16,.int OH)],[],[]⟩
def H8(E:E49)(n:Nat)(a0:Sl aC)(v37:Int){A:Type}(k:((Sl Int)×Int)->Option A):Option A:=kC aJ (G49 E) E.N A49 49 [1,1,1,1,0,1,0] [.n n] (kz k) ⟨[(0,eP a0),(4,.int (a0.len:Int)),(36,.int (a0.len:Int)),(37,.int v37)],[],[]⟩
def H9(E:E49)(n0 n:Nat)(a0:Sl aC)(v7 v8 v37:Int){A:Type}(k:((Sl Int)×Int)->Option A):Option A:=kC aJ (G49 E) E.N A49 49 [1,1,1,1,0,1,0,0,1,1,0,0,1,1,0] [.n n0,.n n] (kz k) ⟨[(0,eP a0),(4,.int (a0.len:Int)),(7,.int v7),(8,.int v8),(36,.int (a0.len:Int)),(37,.int v37)],[],[]⟩
def Ia(E:E49)(n0 n1 n:Nat)(a0:Sl aC)(v7 v8 v9 v37:Int){A:Type}(k:((Sl Int)×Int)->Option A):Option A:=kC aJ (G49 E) E.N A49 49 [1,1,1,1,0,1,0,0,1,1,0,0,1,1,0,0,1,0,0,1,0] [.n n0,.n n1,.n n] (kz k) ⟨[(0,eP a0),(4,.int (a0.len:Int)),(7,.int v7),(8,.int v8),(9,.int v9),(36,.int (a0.len:Int)),(37,.int v37)],[],[]⟩
theorem e49(a0:Sl aC):(F49 E (a0)).T k=(E.c109 a0).T λr1=>cond (!r1) (k ((⟨0,λ_=>default⟩:(Sl Int)),2)) (H6 E E.N a0 0 k):=eX
theorem ztk(n0:Nat)(a0:Sl aC)(OH:Int):H6 E (n0+1) a0 OH k=cond (decide (OH<(a0.len:Int))) (H7 E n0 E.N a0 OH (aQ (OH+1)) OH k) (H8 E E.N a0 0 k):=krY
theorem ztl(n0 n1:Nat)(a0:Sl aC)(v5 v6 OH:Int):H7 E n0 (n1+1) a0 v5 v6 OH k=cond (decide (v6<(a0.len:Int))) ((E.zk5 (a0,(⟨2,(kW [v5,v6])⟩:(Sl Int)))).T λr1=>cond (!r1) (k ((⟨2,(kW [v5,v6])⟩:(Sl Int)),0)) (H7 E n0 n1 a0 v5 (aQ (v6+1)) OH k)) (H6 E n0 a0 (aQ (OH+1)) k):=krY
theorem ztm(n0:Nat)(a0:Sl aC)(v37:Int):H8 E (n0+1) a0 v37 k=cond (decide (v37<(a0.len:Int))) (H9 E n0 E.N a0 v37 (aQ (v37+1)) v37 k) (k ((⟨0,λ_=>default⟩:(Sl Int)),7)):=krY
theorem ztn(n0 n1:Nat)(a0:Sl aC)(v7 v8 v37:Int):H9 E n0 (n1+1) a0 v7 v8 v37 k=cond (decide (v8<(a0.len:Int))) (Ia E n0 n1 E.N a0 v7 v8 (aQ (v8+1)) v37 k) (H8 E n0 a0 (aQ (v37+1)) k):=krY
theorem zto(n0 n1 n2:Nat)(a0:Sl aC)(v7 v8 v9 v37:Int):Ia E n0 n1 (n2+1) a0 v7 v8 v9 v37 k=cond (decide (v9<(a0.len:Int))) ((E.zk5 (a0,(⟨3,(kW [v7,v8,v9])⟩:(Sl Int)))).T λr1=>cond (!r1) (k ((⟨3,(kW [v7,v8,v9])⟩:(Sl Int)),0)) (Ia E n0 n1 n2 a0 v7 v8 (aQ (v9+1)) v37 k)) (H9 E n0 n1 a0 v7 (aQ (v8+1)) v37 k):=krY
end
theorem o49 [aG](E:E49)(Mc:Ok aJ 109 (ae.un E.c109))(zqV:Ok aJ 110 (ae.un E.zk5)):Ok aJ 49 (ae.un (F49 E)):=eY ((aB.nil.addF Mc).addF zqV)
structure zep where
 N:Nat
 Bz:(Sl aC)->ae set
 c159:set->ae Bool
abbrev zEW(E:zep):bM:=jc ((Tabs.nil.addF 158 (ae.un E.Bz)).addF 159 (ae.un E.c159)) []
def zEX:dI:=bZ aJ 110 [] {ks:=[(1,3,⟨[],[(5,20,101)],[],[],[],[],[]⟩)]}
def zqW(E:zep):(Sl aC)×(Sl Int)->ae Bool:=ae.ty (aF aJ E.N (zEW E) zEX 110)
section
variable(E:zep){A:Type}(k:Bool->Option A)
def Tq(E:zep)(n:Nat)(a0:Sl aC)(a1:Sl Int)(v10:Int)(EN:Sl aC){A:Type}(k:Bool->Option A):Option A:=kC aJ (zEW E) E.N zEX 110 [1,1,0,1,0] [.n n] (kz k) ⟨[(0,eP a0),(5,.cl (.vec 20)),(8,eP a1),(9,.int (a1.len:Int)),(10,.int v10)],[(20,eV 101 3 24 EN)],[]⟩
theorem zQp(a0:Sl aC)(a1:Sl Int):(zqW E (a0,a1)).T k=Tq E E.N a0 a1 0 (⟨0,(λ_=>(⟨0,0,0⟩:aC))⟩:(Sl aC)) k:=eX
theorem zki(n0:Nat)(a0:Sl aC)(a1:Sl Int)(v10:Int)(EN:Sl aC):Tq E (n0+1) a0 a1 v10 EN k=cond (decide (v10<(a1.len:Int))) (aV (decide (0<=v10/\v10<(a1.len:Int))) (aV (decide (0<=a1.get v10.toNat/\a1.get v10.toNat<(a0.len:Int))) (aV (room (EN.len+1) 24) (Tq E n0 a0 a1 (aQ (v10+1)) (⟨(EN.len+1),(lm EN.len EN.get (λ_=>(a0.get (a1.get v10.toNat).toNat)))⟩:(Sl aC)) k)))) ((E.Bz EN).T λr1=>(E.c159 r1).T λr2=>k r2):=krY
end
theorem zQq [aG](E:zep)(Md:Ok aJ 158 (ae.un E.Bz))(Me:Ok aJ 159 (ae.un E.c159)):Ok aJ 110 (ae.un (zqW E)):=eY ((aB.nil.addF Md).addF Me)
def adS(a b:straight):straight:=⟨a.bg+b.bg,a.start+b.start,a.den+b.den⟩
def smS(k:Int)(a:straight):straight:=⟨k*a.bg,k*a.start,k*a.den⟩
structure IE (K : straight → Prop) : Prop where
  zero:K ⟨0,0,0⟩
  add:∀{a b},K a->K b->K (adS a b)
  mul:∀{k a},0<=k->K a->K (smS k a)
theorem zeq(g:aC):IE (λs=>iq s g=true):=by
 refine⟨dK (by unfold iG;simp only;omega),fun {a b} ha hb=>dK ?_,fun {k a} hk ha=>dK ?_⟩;have ha:=qde ha;have hb:=qde hb;unfold iG adS at *;simp only;constructor<;>grind;obtain⟨h1,h2⟩:=qde ha;have x1:=qdd h1 hk;have x2:=qdd h2 hk;unfold iG smS at *;simp only;constructor<;>grind
theorem zkj{K L:straight->Prop}(hK:IE K)(hL:IE L):IE (λs=>K s/\L s) :=
 ⟨⟨hK.zero,hL.zero⟩,λa b=>⟨hK.add a.1 b.1,hL.add a.2 b.2⟩,λk a=>⟨hK.mul k a.1,hL.mul k a.2⟩⟩
def pos(x:Int):Int:=if 0<x then x else 0
theorem Ny(x:Int):0<=pos x:=by unfold pos;split<;>omega
theorem Eu(x:Int):pos x-pos (-x)=x:=by unfold pos;split<;>split<;>omega
theorem zkk{x:Int}(h:x<=0):pos x=0:=by unfold pos;rw[dM omY]
theorem zQr(x1 y1 x2 y2 x3 y3:Int):∃c1 c2 c3:Int,(c1≠0\/c2≠0\/c3≠0)/\c1*x1+c2*x2+c3*x3=0/\c1*y1+c2*y2+c3*y3=0:=by
 by_cases h:x1*y2-x2*y1=0;by_cases hx:x1=0∧x2=0;by_cases hy:y1=0∧y2=0;exact⟨1,0,0,.inl (by decide),by rw[hx.1];omega,by rw[hy.1];omega⟩;exact⟨y2,-y1,0,omY,by rw[hx.1,hx.2];omega,by grind⟩;exact⟨x2,-x1,0,omY,by grind,by grind⟩;exact⟨x2*y3-x3*y2,x3*y1-x1*y3,x1*y2-x2*y1,.inr (.inr h),by grind,by grind⟩
theorem zQs{a b c d:straight}(hd:0<d.den):∃k1 k2 k3 k4:Int,(k1≠0\/k2≠0\/k3≠0\/k4≠0)/\k1*a.bg+k2*b.bg+k3*c.bg+k4*d.bg=0/\k1*a.start+k2*b.start+k3*c.start+k4*d.start=0/\k1*a.den+k2*b.den+k3*c.den+k4*d.den=0:=by
 obtain⟨c1,c2,c3,hc,e1,e2⟩:=zQr (d.den*a.bg-a.den*d.bg) (d.den*a.start-a.den*d.start) (d.den*b.bg-b.den*d.bg) (d.den*b.start-b.den*d.start) (d.den*c.bg-c.den*d.bg) (d.den*c.start-c.den*d.start);refine⟨c1*d.den,c2*d.den,c3*d.den,-(c1*a.den+c2*b.den+c3*c.den),?_,by grind,by grind,by grind⟩;rcases hc with h|h|h
 exact .inl (jqm h omY);exact .inr (.inl (jqm h omY));exact .inr (.inr (.inl (jqm h omY)))
def zer(k1 k2 k3 k4:Int)(a b c d:straight):straight:=adS (adS (smS k1 a) (smS k2 b)) (adS (smS k3 c) (smS k4 d))
theorem zqX(a:straight):smS 0 a=⟨0,0,0⟩:=by unfold smS;simp
theorem zEY{A B C D:straight→Prop}(hA:IE A)(hB:IE B)(hC:IE C)(hD:IE D){a b c d:straight}(pa:0<a.den)(pb:0<b.den)(pc:0<c.den)(pd:0<d.den)
    (ha:B a/\C a/\D a) (hb:A b/\C b/\D b) (hc:A c/\B c/\D c) (hd:A d/\B d/\C d):∃w,0<w.den/\A w/\B w/\C w/\D w:=by
  obtain⟨k1,k2,k3,k4,hk,e1,e2,e3⟩:=zQs (a:=a) (b:=b) (c:=c) pd;have same:zer (pos k1) (pos k2) (pos k3) (pos k4) a b c d=zer (pos (-k1)) (pos (-k2)) (pos (-k3)) (pos (-k4)) a b c d:=by
    have d1:=Eu k1;have d2:=Eu k2;have d3:=Eu k3;have d4:=Eu k4;generalize pos k1=p1 at *;generalize pos k2=p2 at *;generalize pos k3=p3 at *;generalize pos k4=p4 at *;generalize pos (-k1)=q1 at *;generalize pos (-k2)=q2 at *;generalize pos (-k3)=q3 at *;generalize pos (-k4)=q4 at *;subst d1 d2 d3 d4;unfold zer adS smS;simp only[straight.mk.injEq];refine⟨?_,?_,?_⟩<;>grind
  have put:∀{K:straight->Prop}(hK:IE K)(x:Int)(v:straight),(0<x->K v)->K (smS (pos x) v):=fun {K} hK x v h=>by
    by_cases hx:0<x;exact hK.mul (Ny x) (h hx);rw[zkk omY,zqX];exact hK.zero
  have mem:∀{K:straight->Prop}(hK:IE K),(0<k1->K a)->(0<k2->K b)->(0<k3->K c)->(0<k4->K d)->K (zer (pos k1) (pos k2) (pos k3) (pos k4) a b c d):=fun {K} hK h1 h2 h3 h4 =>
    hK.add (hK.add (put hK k1 a h1) (put hK k2 b h2)) (hK.add (put hK k3 c h3) (put hK k4 d h4))
  have zrY:∀{K:straight->Prop}(hK:IE K),(0 < -k1->K a)->(0 < -k2->K b)->(0 < -k3->K c)->(0 < -k4->K d)->K (zer (pos k1) (pos k2) (pos k3) (pos k4) a b c d):=fun {K} hK h1 h2 h3 h4=>by
    rw[same];exact hK.add (hK.add (put hK (-k1) a h1) (put hK (-k2) b h2)) (hK.add (put hK (-k3) c h3) (put hK (-k4) d h4))
  refine⟨zer (pos k1) (pos k2) (pos k3) (pos k4) a b c d,?_,?_,?_,?_,?_⟩;have n1:=qdX (Ny k1) (Il pa);have n2:=qdX (Ny k2) (Il pb);have n3:=qdX (Ny k3) (Il pc);have n4:=qdX (Ny k4) (Il pd);have one:∀{x y:Int},0<y->(0<x->0<pos x*y)/\(x<=0->x*y<=0)/\(x<0->x*y<0):=fun {x y} hy=>⟨λh=>by
    have:pos x=x:=by unfold pos;rw[dH h]
    rw[this];exact jqi h hy,λh=>Int.mul_nonpos_of_nonpos_of_nonneg h (Il hy),λh=>Int.mul_neg_of_neg_of_pos h hy⟩
  show 0<(pos k1*a.den+pos k2*b.den)+(pos k3*c.den+pos k4*d.den);obtain⟨a1,a2,a3⟩:=one (x:=k1) pa;obtain⟨b1,b2,b3⟩:=one (x:=k2) pb;obtain⟨c1,c2,c3⟩:=one (x:=k3) pc;obtain⟨d1,d2,d3⟩:=one (x:=k4) pd;by_cases p1:0<k1;have:=a1 p1;omega;by_cases p2:0<k2;have:=b1 p2;omega;by_cases p3:0<k3;have:=c1 p3;omega;by_cases p4:0<k4;have:=d1 p4;omega;have:=a2 omY;have:=b2 omY;have:=c2 omY;have:=d2 omY;by_cases q1:k1<0;have:=a3 q1;omega;by_cases q2:k2<0;have:=b3 q2;omega;by_cases q3:k3<0;have:=c3 q3;omega;by_cases q4:k4<0;have:=d3 q4;omega;omega;by_cases h:0<k1;exact zrY hA (λk=>absurd k omY) (λ_=>hb.1) (λ_=>hc.1) (λ_=>hd.1);exact mem hA (λk=>absurd k h) (λ_=>hb.1) (λ_=>hc.1) (λ_=>hd.1);by_cases h:0<k2;exact zrY hB (λ_=>ha.1) (λk=>absurd k omY) (λ_=>hc.2.1) (λ_=>hd.2.1);exact mem hB (λ_=>ha.1) (λk=>absurd k h) (λ_=>hc.2.1) (λ_=>hd.2.1);by_cases h:0<k3;exact zrY hC (λ_=>ha.2.1) (λ_=>hb.2.1) (λk=>absurd k omY) (λ_=>hd.2.2);exact mem hC (λ_=>ha.2.1) (λ_=>hb.2.1) (λk=>absurd k h) (λ_=>hd.2.2);by_cases h:0<k4;exact zrY hD (λ_=>ha.2.2) (λ_=>hb.2.2) (λ_=>hc.2.2) (λk=>absurd k omY);exact mem hD (λ_=>ha.2.2) (λ_=>hb.2.2) (λ_=>hc.2.2) (λk=>absurd k h)
theorem ztp:∀(n:Nat)(K:Nat→straight→Prop),(∀i,IE (K i))→(∀i j k,i<n→j<n→k<n→∃s,0<s.den∧K i s∧K j s∧K k s)→∃s,0<s.den∧∀i,i<n→K i s
  | 0,_,_,_=>⟨⟨0,0,1⟩,by show(0:Int)<1;omega,λi hi=>absurd hi (dq8 i)⟩
  | n+1,K,hK,h=>by
    obtain⟨s,hd,hs⟩:=ztp n (λi s=>K i s/\K n s) (λi=>zkj (hK i) (hK n)) λi j k hi hj hk=>by
      obtain⟨a,pa,a1,a2,a3⟩:=h j k n omY omY omY;obtain⟨b,pb,b1,b2,b3⟩:=h i k n omY omY omY;obtain⟨c,pc,c1,c2,c3⟩:=h i j n omY omY omY;obtain⟨d,pd,d1,d2,d3⟩:=h i j k omY omY omY;obtain⟨w,pw,w1,w2,w3,w4⟩:=zEY (hK i) (hK j) (hK k) (hK n) pa pb pc pd ⟨a1,a2,a3⟩ ⟨b1,b2,b3⟩ ⟨c1,c2,c3⟩ ⟨d1,d2,d3⟩;exact⟨w,pw,⟨w1,w4⟩,⟨w2,w4⟩,w3,w4⟩
    rcases qjy n with e|e
    subst e;obtain⟨t,pt,t1,_⟩:=h 0 0 0 omY omY omY;exact⟨t,pt,λi hi=>by rw[show i=0 by omega];exact t1⟩;exact⟨s,hd,λi hi=>by
      by_cases k:i=n;rw[k];exact(hs 0 e).2;exact(hs i omY).1⟩
theorem Ew{g:Sl aC}:∀n i,i<n→(g.get i).Low≤(ik g n).Low∧(ik g n).High≤(g.get i).High
  | n+1,i,hi=>by
    simp only[ik];by_cases e:i=n;subst e;constructor<;>split<;>omega;have:=Ew (g:=g) n i omY;constructor<;>split<;>omega
def zEZ(g:Sl aC):Prop:=∃s:straight,0<s.den/\Bg g s
theorem Gq{g:Sl aC}(G:bY g):gp g=true↔zEZ g:=by
 constructor
 ·intro h;cases hf:gW g with
  | true =>
   unfold gp at h;rw[hf,dU,oO]at h;refine⟨⟨0,(ik g g.len).Low,1⟩,by show(0:Int)<1;omega,λi hi=>dK ?_⟩;have:=Ew (g:=g) g.len i hi;unfold iG;simp only;omega
  | false =>
   obtain⟨s,h1,h2⟩:=(Qd G hf).1 h;exact⟨s,by have:=(Bf G h1).2.2;omega,h2⟩
 rintro⟨s,hd,ha⟩;exact zcb G hd ha
def pck(g:Sl aC)(w:Sl Int):Sl aC:=gw z0 (λi=>g.get (w.get i).toNat) w.len
theorem ZP{g:Sl aC}(G:bY g){w:Sl Int}(hw:∀a,a<w.len->0<=w.get a/\w.get a<(g.len:Int))(h1:1<=w.len)(h2:w.len<=24):bY (pck g w):=by
 have e:(pck g w).len=w.len:=o6 _ _ _;refine⟨λi hi=>?_,omY,omY⟩;rw[e]at hi;show gK ((gw z0 _ w.len).get i);rw[yC hi];have:=hw i hi;exact G.1 _ omY
abbrev zyF(C:Sl aC×Sl Int->ae Bool):Prop:=∀g w,bY g->(∀a,a<w.len->0<=w.get a/\w.get a<(g.len:Int))->1<=w.len->w.len<=24->C (g,w)=.ok (gp (pck g w))
theorem zQt{E:zep}(N:Big E.N)(Md:zjw E.Bz)(Me:zjx E.c159):zyF (zqW E):=λg w G hw h1 h2=>ae.ext λk=>by
 have hg:=G.2;rw[zQp,bf];refine pK (X:=λn i=>Tq E n g w (i:Int) (gw z0 (λi=>g.get (w.get i).toNat) i) k) (m:=w.len) (λn i hi=>?_) (λn=>?_) _ (by have:=N;omega);have:=hw i hi;rw[zki,dK omY,dU,bF omY,fQ,bF omY,o6,lV omY omY,bJ omY];rfl;rw [zki,dV omY,dQ];show(E.Bz (pck g w)).T _=_;rw[Md _ (ZP G hw h1 h2),bf];show(E.c159 (iI (pck g w))).T _=_;rw[Me _ (ZP G hw h1 h2),bf]
structure Bad (g : Sl aC) (w : Sl Int) : Prop where
  len:2<=w.len/\w.len<=3
  mem:∀a,a<w.len->0<=w.get a/\w.get a<(g.len:Int)
  no:∀s:straight,0<s.den->¬ ∀a,a<w.len->iq s (g.get (w.get a).toNat)=true
theorem zcf{g:Sl aC}(G:bY g){w:Sl Int}(hw:∀a,a<w.len->0<=w.get a/\w.get a<(g.len:Int))(h1:1<=w.len)(h2:w.len<=24):gp (pck g w)=true↔∃s:straight,0<s.den/\∀a,a<w.len->iq s (g.get (w.get a).toNat)=true:=by
 rw[Gq (ZP G hw h1 h2)];have e:(pck g w).len=w.len:=o6 _ _ _;have q:∀a,a<w.len->(pck g w).get a=g.get (w.get a).toNat:=λa h=>yC h;constructor;rintro⟨s,hd,ha⟩;exact⟨s,hd,λa h=>by rw[<- q a h];exact ha a omY⟩;rintro⟨s,hd,ha⟩;exact⟨s,hd,λa h=>by rw[q a omY];exact ha a omY⟩
theorem zE1(a b:Int):kW [a,b] 0=a/\kW [a,b] 1=b:=⟨zbY a b,zbZ a b⟩
theorem in2{n i j:Nat}(hi:i<n)(hj:j<n):∀a,a<2->0<=kW [(i:Int),(j:Int)] a/\kW [(i:Int),(j:Int)] a<(n:Int):=λa ha=>by
 obtain⟨g0,g1⟩:=zE1 (i:Int) (j:Int)
 match a,ha with|0,_=>rw[g0];omega|1,_=>rw[g1];omega
theorem in3{n i j c:Nat}(hi:i<n)(hj:j<n)(hc:c<n):∀a,a<3->0<=kW [(i:Int),(j:Int),(c:Int)] a/\kW [(i:Int),(j:Int),(c:Int)] a<(n:Int):=λa ha=>by
 obtain⟨g0,g1,g2⟩:=zyu (i:Int) (j:Int) (c:Int)
 match a,ha with|0,_=>rw[g0];omega|1,_=>rw[g1];omega|2,_=>rw[g2];omega
def Two(g:Sl aC)(i j:Nat):Prop:=∃s:straight,0<s.den/\iq s (g.get i)=true/\iq s (g.get j)=true
def Three(g:Sl aC)(i j c:Nat):Prop:=∃s:straight,0<s.den/\iq s (g.get i)=true/\iq s (g.get j)=true/\iq s (g.get c)=true
abbrev Q49(C:Sl aC->ae (Sl Int×Int)):Prop:=∀g,bY g->(∃w:Sl Int,C g=.ok (w,0)/\Bad g w)\/(C g=.ok (⟨0,λ_=>default⟩,7)/\gp g=true)
theorem s49{E:E49}(N:Big E.N)(Mc:zji E.c109)(zqV:zyF E.zk5):Q49 (F49 E):=λg G=>by
 have hN:=N;have hg:=G.2
 have k2:∀(n0 i:Nat),i<g.len->∀(m j n1:Nat),j+m=g.len->m<n1 ->
   (∃w:Sl Int,(∀(A:Type)(k:Sl Int×Int->Option A),H7 E n0 n1 g (i:Int) (j:Int) (i:Int) k=k (w,0))/\Bad g w) \/
   ((∀(A:Type)(k:Sl Int×Int->Option A),H7 E n0 n1 g (i:Int) (j:Int) (i:Int) k=H6 E n0 g ((i+1:Nat):Int) k)/\∀j',j<=j'->j'<g.len->Two g i j'):=by
  intro n0 i hi m
  induction m with
  | zero =>
   intro j n1 hj hn;obtain⟨n1,rfl⟩:∃n',n1=n'+1:=⟨n1-1,omY⟩;exact .inr ⟨λA k=>by rw[ztl,dV omY,dQ,bJ omY],λj' a b=>by omega⟩
  | succ m ih =>
   intro j n1 hj hn;obtain⟨n1,rfl⟩:∃n',n1=n'+1:=⟨n1-1,omY⟩;have oM:j<g.len:=by omega
   have hw:=in2 hi oM;have st:∀(A:Type)(k:Sl Int×Int->Option A),H7 E n0 (n1+1) g (i:Int) (j:Int) (i:Int) k=cond (gp (pck g ⟨2,kW [(i:Int),(j:Int)]⟩)) (H7 E n0 n1 g (i:Int) ((j+1:Nat):Int) (i:Int) k) (k (⟨2,kW [(i:Int),(j:Int)]⟩,0)):=λA k=>by
    rw[ztl,dK omY,dU,zqV g ⟨2,kW [(i:Int),(j:Int)]⟩ G hw (by show 1<=2;omega) (by show 2<=24;omega),bf,bJ omY];cases gp (pck g ⟨2,kW [(i:Int),(j:Int)]⟩)<;>rfl
   have ai:=zcf G (w:=⟨2,kW [(i:Int),(j:Int)]⟩) hw (by show 1<=2;omega) (by show 2<=24;omega);cases hb:gp (pck g ⟨2,kW [(i:Int),(j:Int)]⟩)with
   | false =>
    rw[hb]at st ai;exact .inl ⟨_,st,⟨by show 2<=2;omega,by show 2<=3;omega⟩,hw,λs hd ha=>by cases ai.2 ⟨s,hd,ha⟩⟩
   | true =>
    rw[hb]at st ai;rcases ih (j+1) n1 omY omY with⟨w,a,b⟩|⟨a,b⟩
    exact .inl ⟨w,λA k=>(st A k).trans (a A k),b⟩;refine .inr ⟨fun A k=>(st A k).trans (a A k),fun j' h1 h2 => ?_⟩;by_cases e:j'=j;subst e;obtain⟨s,hd,ha⟩:=ai.1 rfl;obtain⟨g0,g1⟩:=zE1 (i:Int) (j':Int);have a0:iq s (g.get (kW [(i:Int),(j':Int)] 0).toNat)=true:=ha 0 (by show 0<2;omega);have a1:iq s (g.get (kW [(i:Int),(j':Int)] 1).toNat)=true:=ha 1 (by show 1<2;omega);rw[g0,fQ]at a0;rw[g1,fQ]at a1;exact⟨s,hd,a0,a1⟩;exact b j' omY h2
 have k1:∀(m i n0:Nat),i+m=g.len->m<n0 ->
   (∃w:Sl Int,(∀(A:Type)(k:Sl Int×Int->Option A),H6 E n0 g (i:Int) k=k (w,0))/\Bad g w) \/
   ((∀(A:Type)(k:Sl Int×Int->Option A),H6 E n0 g (i:Int) k=H8 E E.N g 0 k)/\∀i' j',i<=i'->i'<j'->j'<g.len->Two g i' j'):=by
  intro m
  induction m with
  | zero =>
   intro i n0 hi hn;obtain⟨n0,rfl⟩:∃n',n0=n'+1:=⟨n0-1,omY⟩;exact .inr ⟨λA k=>by rw[ztk,dV omY,dQ],λi' j' a b c=>by omega⟩
  | succ m ih =>
   intro i n0 hi hn;obtain⟨n0,rfl⟩:∃n',n0=n'+1:=⟨n0-1,omY⟩;have st:∀(A:Type)(k:Sl Int×Int->Option A),H6 E (n0+1) g (i:Int) k=H7 E n0 E.N g (i:Int) ((i+1:Nat):Int) (i:Int) k:=λA k=>by rw[ztk,dK omY,dU,bJ omY]
   rcases k2 n0 i omY (g.len-(i+1)) (i+1) E.N omY omY with⟨w,a,b⟩|⟨a,b⟩
   exact .inl ⟨w,λA k=>(st A k).trans (a A k),b⟩;rcases ih (i+1) n0 omY omY with⟨w,c,d⟩|⟨c,d⟩
   exact .inl ⟨w,λA k=>(st A k).trans ((a A k).trans (c A k)),d⟩;refine .inr ⟨fun A k=>(st A k).trans ((a A k).trans (c A k)),fun i' j' h1 h2 h3 => ?_⟩;by_cases e:i'=i;subst e;exact b j' omY h3;exact d i' j' omY h2 h3
 have k5:∀(n0 n1 i j:Nat),i<g.len->j<g.len->∀(m c n2:Nat),c+m=g.len->m<n2 ->
   (∃w:Sl Int,(∀(A:Type)(k:Sl Int×Int->Option A),Ia E n0 n1 n2 g (i:Int) (j:Int) (c:Int) (i:Int) k=k (w,0))/\Bad g w) \/
   ((∀(A:Type)(k:Sl Int×Int->Option A),Ia E n0 n1 n2 g (i:Int) (j:Int) (c:Int) (i:Int) k=H9 E n0 n1 g (i:Int) ((j+1:Nat):Int) (i:Int) k)/\∀c',c<=c'->c'<g.len->Three g i j c'):=by
  intro n0 n1 i j hi hj m
  induction m with
  | zero =>
   intro c n2 hc hn;obtain⟨n2,rfl⟩:∃n',n2=n'+1:=⟨n2-1,omY⟩;exact .inr ⟨λA k=>by rw[zto,dV omY,dQ,bJ omY],λc' a b=>by omega⟩
  | succ m ih =>
   intro c n2 hc hn;obtain⟨n2,rfl⟩:∃n',n2=n'+1:=⟨n2-1,omY⟩;have hw:=in3 hi hj (show c<g.len by omega);have st:∀(A:Type)(k:Sl Int×Int->Option A),Ia E n0 n1 (n2+1) g (i:Int) (j:Int) (c:Int) (i:Int) k=cond (gp (pck g ⟨3,kW [(i:Int),(j:Int),(c:Int)]⟩)) (Ia E n0 n1 n2 g (i:Int) (j:Int) ((c+1:Nat):Int) (i:Int) k) (k (⟨3,kW [(i:Int),(j:Int),(c:Int)]⟩,0)):=λA k=>by
    rw[zto,dK omY,dU,zqV g ⟨3,kW [(i:Int),(j:Int),(c:Int)]⟩ G hw (by show 1<=3;omega) (by show 3<=24;omega),bf,bJ omY];cases gp (pck g ⟨3,kW [(i:Int),(j:Int),(c:Int)]⟩)<;>rfl
   have ai:=zcf G (w:=⟨3,kW [(i:Int),(j:Int),(c:Int)]⟩) hw (by show 1<=3;omega) (by show 3<=24;omega);cases hb:gp (pck g ⟨3,kW [(i:Int),(j:Int),(c:Int)]⟩)with
   | false =>
    rw[hb]at st ai;exact .inl ⟨_,st,⟨by show 2<=3;omega,by show 3<=3;omega⟩,hw,λs hd ha=>by cases ai.2 ⟨s,hd,ha⟩⟩
   | true =>
    rw[hb]at st ai;rcases ih (c+1) n2 omY omY with⟨w,a,b⟩|⟨a,b⟩
    exact .inl ⟨w,λA k=>(st A k).trans (a A k),b⟩;refine .inr ⟨fun A k=>(st A k).trans (a A k),fun c' h1 h2 => ?_⟩;by_cases e:c'=c;subst e;obtain⟨s,hd,ha⟩:=ai.1 rfl;obtain⟨g0,g1,g2⟩:=zyu (i:Int) (j:Int) (c':Int);have a0:iq s (g.get (kW [(i:Int),(j:Int),(c':Int)] 0).toNat)=true:=ha 0 (by show 0<3;omega);have a1:iq s (g.get (kW [(i:Int),(j:Int),(c':Int)] 1).toNat)=true:=ha 1 (by show 1<3;omega);have a2:iq s (g.get (kW [(i:Int),(j:Int),(c':Int)] 2).toNat)=true:=ha 2 (by show 2<3;omega);rw[g0,fQ]at a0;rw[g1,fQ]at a1;rw[g2,fQ]at a2;exact⟨s,hd,a0,a1,a2⟩;exact b c' omY h2
 have k4:∀(n0 i:Nat),i<g.len->∀(m j n1:Nat),j+m=g.len->m<n1 ->
   (∃w:Sl Int,(∀(A:Type)(k:Sl Int×Int->Option A),H9 E n0 n1 g (i:Int) (j:Int) (i:Int) k=k (w,0))/\Bad g w) \/
   ((∀(A:Type)(k:Sl Int×Int->Option A),H9 E n0 n1 g (i:Int) (j:Int) (i:Int) k=H8 E n0 g ((i+1:Nat):Int) k)/\∀j' c',j<=j'->j'<c'->c'<g.len->Three g i j' c'):=by
  intro n0 i hi m
  induction m with
  | zero =>
   intro j n1 hj hn;obtain⟨n1,rfl⟩:∃n',n1=n'+1:=⟨n1-1,omY⟩;exact .inr ⟨λA k=>by rw[ztn,dV omY,dQ,bJ omY],λj' c' a b c=>by omega⟩
  | succ m ih =>
   intro j n1 hj hn;obtain⟨n1,rfl⟩:∃n',n1=n'+1:=⟨n1-1,omY⟩;have st:∀(A:Type)(k:Sl Int×Int->Option A),H9 E n0 (n1+1) g (i:Int) (j:Int) (i:Int) k=Ia E n0 n1 E.N g (i:Int) (j:Int) ((j+1:Nat):Int) (i:Int) k:=λA k=>by rw[ztn,dK omY,dU,bJ omY]
   rcases k5 n0 n1 i j hi omY (g.len-(j+1)) (j+1) E.N omY omY with⟨w,a,b⟩|⟨a,b⟩
   exact .inl ⟨w,λA k=>(st A k).trans (a A k),b⟩;rcases ih (j+1) n1 omY omY with⟨w,c,d⟩|⟨c,d⟩
   exact .inl ⟨w,λA k=>(st A k).trans ((a A k).trans (c A k)),d⟩;refine .inr ⟨fun A k=>(st A k).trans ((a A k).trans (c A k)),fun j' c' h1 h2 h3 => ?_⟩;by_cases e:j'=j;subst e;exact b c' omY h3;exact d j' c' omY h2 h3
 have k3:∀(m i n0:Nat),i+m=g.len->m<n0 ->
   (∃w:Sl Int,(∀(A:Type)(k:Sl Int×Int->Option A),H8 E n0 g (i:Int) k=k (w,0))/\Bad g w) \/
   ((∀(A:Type)(k:Sl Int×Int->Option A),H8 E n0 g (i:Int) k=k (⟨0,λ_=>default⟩,7))/\∀i' j' c',i<=i'->i'<j'->j'<c'->c'<g.len->Three g i' j' c'):=by
  intro m
  induction m with
  | zero =>
   intro i n0 hi hn;obtain⟨n0,rfl⟩:∃n',n0=n'+1:=⟨n0-1,omY⟩;exact .inr ⟨λA k=>by rw[ztm,dV omY,dQ],λi' j' c' a b c=>by omega⟩
  | succ m ih =>
   intro i n0 hi hn;obtain⟨n0,rfl⟩:∃n',n0=n'+1:=⟨n0-1,omY⟩;have st:∀(A:Type)(k:Sl Int×Int->Option A),H8 E (n0+1) g (i:Int) k=H9 E n0 E.N g (i:Int) ((i+1:Nat):Int) (i:Int) k:=λA k=>by rw[ztm,dK omY,dU,bJ omY]
   rcases k4 n0 i omY (g.len-(i+1)) (i+1) E.N omY omY with⟨w,a,b⟩|⟨a,b⟩
   exact .inl ⟨w,λA k=>(st A k).trans (a A k),b⟩;rcases ih (i+1) n0 omY omY with⟨w,c,d⟩|⟨c,d⟩
   exact .inl ⟨w,λA k=>(st A k).trans ((a A k).trans (c A k)),d⟩;refine .inr ⟨fun A k=>(st A k).trans ((a A k).trans (c A k)),fun i' j' c' h1 h2 h3 h4 => ?_⟩;by_cases e:i'=i;subst e;exact b j' c' omY h3 h4;exact d i' j' c' omY h2 h3 h4
 have e0:∀(A:Type)(k:Sl Int×Int->Option A),(F49 E g).T k=H6 E E.N g 0 k:=λA k=>by rw[e49,Mc g omY,bf,lN.2 G];rfl
 rcases k1 g.len 0 E.N omY omY with⟨w,a,b⟩|⟨a,A2⟩
 exact .inl ⟨w,ae.ext λk=>(e0 _ k).trans (a _ k),b⟩;rcases k3 g.len 0 E.N omY omY with⟨w,c,d⟩|⟨c,A3⟩
 exact .inl ⟨w,ae.ext λk=>(e0 _ k).trans ((a _ k).trans (c _ k)),d⟩;refine .inr ⟨ae.ext λk=>(e0 _ k).trans ((a _ k).trans (c _ k)),(Gq G).2 ?_⟩;have A2:∀i j,i<j->j<g.len->Two g i j:=λi j h1 h2=>A2 i j (xn _) h1 h2;have A3:∀i j c,i<j->j<c->c<g.len->Three g i j c:=λi j c h1 h2 h3=>A3 i j c (xn _) h1 h2 h3;have A1:∀i,i<g.len->∃s:straight,0<s.den/\iq s (g.get i)=true:=λi hi=>by
  have:=(G.1 i hi).2;refine⟨⟨0,(g.get i).Low,1⟩,by show(0:Int)<1;omega,dK ?_⟩;unfold iG;simp only;omega
 obtain⟨s,hd,hs⟩:=ztp g.len (λi s=>iq s (g.get i)=true) (λi=>zeq (g.get i)) λi j k hi hj hk=>by
  rcases qdw i j with a|a|a
  rcases qdw j k with b|b|b
  obtain⟨s,p,q,r,t⟩:=A3 i j k a b hk;exact⟨s,p,q,r,t⟩;obtain⟨s,p,q,r⟩:=A2 i j a hj;exact⟨s,p,q,r,by rw[<- b];exact r⟩;rcases qdw i k with c|c|c
  obtain⟨s,p,q,r,t⟩:=A3 i k j c b hj;exact⟨s,p,q,t,r⟩;obtain⟨s,p,q,r⟩:=A2 i j a hj;exact⟨s,p,q,r,by rw[<- c];exact q⟩;obtain⟨s,p,q,r,t⟩:=A3 k i j c a hj;exact⟨s,p,r,t,q⟩;subst a;rcases qdw i k with c|c|c
  obtain⟨s,p,q,r⟩:=A2 i k c hk;exact⟨s,p,q,q,r⟩;subst c;obtain⟨s,p,q⟩:=A1 i hi;exact⟨s,p,q,q,q⟩;obtain⟨s,p,q,r⟩:=A2 k i c hi;exact⟨s,p,r,r,q⟩;rcases qdw i k with b|b|b
  obtain⟨s,p,q,r,t⟩:=A3 j i k a b hk;exact⟨s,p,r,q,t⟩;obtain⟨s,p,q,r⟩:=A2 j i a hi;exact⟨s,p,r,q,by rw[<- b];exact r⟩;rcases qdw j k with c|c|c
  obtain⟨s,p,q,r,t⟩:=A3 j k i c b hi;exact⟨s,p,t,q,r⟩;obtain⟨s,p,q,r⟩:=A2 j i a hi;exact⟨s,p,r,q,by rw[<- c];exact q⟩;obtain⟨s,p,q,r,t⟩:=A3 k j i c a hi;exact⟨s,p,t,r,q⟩
 exact⟨s,hd,hs⟩
theorem Tt : ∀ (c : iJ) (a j : Int), a ≤ j → (∀ p ∈ c, a ≤ p.1 ∧ p.1 < j) → c.Pairwise (fun p q => p.1 < q.1) → (c.length : Int) ≤ j - a
  | [],a,j,h,_,_=>by simp;omega
  | p::c,a,j,h,m,pw=>by
    have hp:=m p jM;have pw:=qdr.1 pw;have:=Tt c (p.1+1) j omY (λq hq=>⟨by have:=pw.1 q hq;omega,(m q (jB _ hq)).2⟩) pw.2;rw[xm];omega
theorem zcg : ∀ {c d : iJ}, c.Pairwise (fun p q => p.1 < q.1) → d.Pairwise (fun p q => p.1 < q.1) → (∀ p ∈ c, p ∈ d) → c.length ≤ d.length ∧ (c.length = d.length → c = d)
  | [],d,_,_,_=>⟨xn _,λh=>(qdF.1 h.symm).symm⟩
  | p::c,[],_,_,m=>by cases m p jM
  | p::c,q::d,hc,hd,m=>by
    have hc:=qdr.1 hc;have hd:=qdr.1 hd;have hp:=jW.1 (m p jM);have m':∀r∈c,r∈d:=λr hr=>by
      rcases jW.1 (m r (jB _ hr))with e|h
      have a:=hc.1 r hr;rw[e]at a;rcases hp with e|h
      rw[e]at a;omega;have:=hd.1 p h;omega;exact h
    obtain⟨a,b⟩:=zcg hc.2 hd.2 m';refine⟨by rw[xm,xm];omega,λh=>?_⟩;rw[xm,xm]at h;have e:=b omY;rcases hp with f|h
    rw[e,f];rw[<- e]at h;have:=hc.1 p h;omega
theorem zl{s:au}{l:Sl bu}{t:af}(h:F5 s l t=true):WO t.View t/\RN t.View=true/\eu t≠[]/\Val s l t.View (eu t) l.len:=by
 simp only[F5,fH,oO,dD]at h;obtain⟨⟨⟨h1,h2⟩,h3⟩,h4⟩:=h;have un:∀i,i<t.Hits.len->(0<=t.Hits.get i/\t.Hits.get i<(l.len:Int))/\(i=0\/t.Hits.get (i-1)<t.Hits.get i)/\EM s l (t.Hits.get i).toNat=t.View/\(0<=t.aX.get i/\t.aX.get i<(qc s l (t.Hits.get i).toNat:Int))/\∀k,k<i->(l.get (t.Hits.get k).toNat).aj≠(l.get (t.Hits.get i).toNat).aj:=λi hi=>by
  have:=h4 i hi;simp only[Ya,fH,qdj,oO,inB,usB,dD,NQ,qdk]at this;obtain⟨⟨⟨⟨a,b⟩,c⟩,d⟩,e⟩:=this;have d:0<=t.aX.get i/\t.aX.get i<=((qc s l (t.Hits.get i).toNat:Nat):Int)-1:=d;exact⟨omY,b,c,omY,e⟩
 have inc:∀b a,a<b->b<t.Hits.len->t.Hits.get a<t.Hits.get b:=by
  intro b
  induction b with
  | zero=>intro a h;omega
  | succ b ih =>
   intro a hab hb;have h:=(un (b+1) hb).2.1;rcases h with h|h
   omega;rw [qja]at h;by_cases e:a=b;rw[e];exact h;have:=ih a omY omY;omega
 have hl:=iw t;have ne:eu t≠[]:=λe=>by rw[e,X6]at hl;omega
 have gt:∀i (hi:i<(eu t).length),(eu t)[i]=(t.Hits.get i,t.aX.get i):=λi hi=>by
  have:=zk (t:=t) (i:=i) omY;rw[Ai hi]at this;exact dq9 this
 have pw:(eu t).Pairwise λp q=>p.1<q.1/\(l.get p.1.toNat).aj≠(l.get q.1.toNat).aj:=by
  rw[qdg];intro i j hi hj IR;rw[gt i hi,gt j hj];exact⟨inc j i IR omY,(un j omY).2.2.2.2 i IR⟩
 have mem:∀p∈eu t,(0<=p.1/\p.1<(l.len:Int))/\EM s l p.1.toNat=t.View/\0<=p.2/\p.2<(qc s l p.1.toNat:Int):=λp hp=>by
  obtain⟨i,hi,e1,e2⟩:=ql.1 hp;have:=un i hi;rw[<- e1,<- e2];exact⟨this.1,this.2.2.1,this.2.2.2.1⟩
 refine⟨⟨rfl,h3⟩,h1,ne,⟨?_,jy _⟩,mem,pw⟩;have:=Tt (eu t) 0 (l.len:Int) omY (λp hp=>(mem p hp).1) (pw.imp λh=>h.1);omega
theorem Val.pre{s:au}{l:Sl bu}{x:Int}{c:iJ}{p:Int×Int}{j:Nat}(h:Val s l x (c++[p]) j):Val s l x c p.1.toNat/\Gl l c p.1=false/\(0<=p.1/\p.1<(j:Int))/\EM s l p.1.toNat=x/\0<=p.2/\p.2<(qc s l p.1.toNat:Int):=by
 have pw:=qdE.1 h.pw;have hp:=h.mem p (qjg _ (kK.2 rfl));have lt:=λq (hq:q∈c)=>pw.2.2 q hq p (kK.2 rfl);have hle:=h.le;have m:∀q∈c,0<=q.1/\q.1<p.1:=λq hq=>⟨(h.mem q (qdN _ hq)).1.1,(lt q hq).1⟩;refine⟨⟨⟨?_,omY⟩,λq hq=>?_,pw.1⟩,?_,hp⟩;have:=Tt c 0 p.1 hp.1.1 m (pw.1.imp fun h=>h.1);omega;have a:=h.mem q (qdN _ hq);have b:=m q hq;exact⟨omY,a.2⟩;unfold Gl;rw[qdP];intro q hq;have:=(lt q hq).2;simpa using this
def Lin(s:au)(l:Sl bu)(c:iJ)(ln:straight):Prop:=∀p∈c,iq ln ((Ac s (l.get p.1.toNat)).get p.2.toNat)=true
theorem zch{s:au}{l:Sl bu}{c:iJ}{i:Nat}(hi:i<c.length):(BD s l c).get i=(Ac s (l.get (c[i]).1.toNat)).get (c[i]).2.toNat:=by
 unfold BD;rw[yC hi,Ai hi];rfl
theorem Xe{s:au}{l:Sl bu}{x:Int}{c:iJ}{j:Nat}(he:Evt s l)(h24:l.len<=24)(h:Val s l x c j)(ne:c≠[]):gp (BD s l c)=true↔∃ln:straight,0<ln.den/\Lin s l c ln:=by
 rw[Gq (Gn he h24 h ne)];have e:(BD s l c).len=c.length:=o6 _ _ _;constructor;rintro⟨ln,hd,ha⟩;refine⟨ln,hd,λp hp=>?_⟩;obtain⟨i,hi,rfl⟩:=qd5 hp;have:=ha i omY;rwa[zch hi]at this;rintro⟨ln,hd,ha⟩;refine⟨ln,hd,λi hi=>?_⟩;rw[zch omY];exact ha _ (qdb _)
def tiG(s:au)(l:Sl bu)(c:iJ):Sl aC:=⟨c.length,λi=>⟨0,(gq s (l.get ((c[i]?).getD (0,0)).1.toNat)).Low,(gq s (l.get ((c[i]?).getD (0,0)).1.toNat)).High⟩⟩
theorem zci{s:au}{l:Sl bu}{c:iJ}{i:Nat}(hi:i<c.length):(tiG s l c).get i=⟨0,(gq s (l.get (c[i]).1.toNat)).Low,(gq s (l.get (c[i]).1.toNat)).High⟩:=by
 show(⟨0,(gq s (l.get ((c[i]?).getD (0,0)).1.toNat)).Low,(gq s (l.get ((c[i]?).getD (0,0)).1.toNat)).High⟩:aC)=_;rw[Ai hi];rfl
theorem Tu{s:au}{l:Sl bu}{c:iJ}(ne:c≠[]):Nu s l c=true↔∃x:Int,∀p∈c,(gq s (l.get p.1.toNat)).Low<=x/\x<=(gq s (l.get p.1.toNat)).High:=by
 have hl:=qjY.2 ne;have e:zG s l c=ik (tiG s l c) c.length:=rfl;unfold Nu;rw[oO,e];constructor;intro h;refine⟨(ik (tiG s l c) c.length).Low,λp hp=>?_⟩;obtain⟨i,hi,rfl⟩:=qd5 hp;have:=Ew (g:=tiG s l c) c.length i hi;rw[zci hi]at this;exact⟨this.1,jqb h this.2⟩;rintro⟨x,hx⟩;obtain⟨a,b⟩:=yG (g:=tiG s l c) (d:=1) (x:=x) omY hl (λi hi=>by
  have hi:i<c.length:=hi;rw[zci hi,qjM,qjM];exact hx _ (qdb hi)) c.length (jy _)
 omega
theorem zyG{s:au}{l:Sl bu}{x:Int}{c c':iJ}{j j':Nat}(he:Evt s l)(h24:l.len<=24)(h:Val s l x c j)(h':Val s l x c' j')(ne':c'≠[])(sub:∀p∈c',p∈c)(ag:Bj s l c=true):Bj s l c'=true:=by
 have ne:c≠[]:=λe=>by
  obtain⟨p,hp⟩:=List.exists_mem_of_ne_nil _ ne';have:=sub p hp;rw[e]at this;cases this
 unfold Bj at ag ⊢;rw[fH]at ag ⊢;obtain⟨tt,hx⟩:=(Tu ne).1 ag.1;obtain⟨ln,hd,hl⟩:=(Xe he h24 h ne).1 ag.2;exact⟨(Tu ne').2 ⟨tt,λp hp=>hx p (sub p hp)⟩,(Xe he h24 h' ne').2 ⟨ln,hd,λp hp=>hl p (sub p hp)⟩⟩
theorem zkl{s:au}{l:Sl bu}{x:Int}(he:Evt s l)(h24:l.len≤24):∀(n:Nat)(c:iJ)(j:Nat),c.length=n→Val s l x c j→(c=[]∨Bj s l c=true)→∃i,Ch (Bj s l) (Gl l) (Nj s l x) c i∧i≤j
  | 0,c,j,hn,_,_=>by
    rw[qdF.1 hn];exact⟨0,.nil,xn _⟩
  | n+1,c,j,hn,hv,ag=>by
    have ne:c≠[]:=λe=>by rw[e]at hn;cases hn
    have ag:=ag.resolve_left ne;have e:=List.dropLast_concat_getLast ne;generalize c.dropLast=c' at e;generalize c.getLast ne=p at e;subst e;obtain⟨v',us,p1,p2,p3⟩:=hv.pre;have hle:=hv.le;have ag':c'=[]\/Bj s l c'=true:=by
      by_cases h:c'=[];exact .inl h;exact .inr (zyG he h24 hv v' h (λq hq=>qdN _ hq) ag)
    obtain⟨i,hi,le⟩:=zkl he h24 n c' _ (by rw[BG]at hn;simpa using hn) v' ag';refine⟨p.1.toNat+1,.snoc hi ((Jp omY).2 ⟨omY,p2,p3⟩) us ag,omY⟩
theorem zqY{s:au}{l:Sl bu}{x:Int}{c:iJ}{j:Nat}(he:Evt s l)(h24:l.len<=24)(hv:Val s l x c j)(ne:c≠[])(ag:Bj s l c=true):c∈iE s l x:=by
 obtain⟨i,hi,_⟩:=zkl he h24 _ c j rfl hv (.inr ag);have:=hv.le;exact(ztd (f:=30) hi omY).1.resolve_left ne
theorem zqZ{s:au}{l:Sl bu}(he:Evt s l){i:Nat}(hi:i<l.len):(gq s (l.get i)).Low<=(gq s (l.get i)).High:=by
 have hp:=he.pl hi;have TY:=zg he.se (i:=(l.get i).aj.toNat) omY;have hh:o5 s (l.get i)=true:=dD.1 he.hi i hi;obtain⟨_,_,_,_,_,_,_,_,hc,hj,_⟩:=TY;have ht : -1000000000<=(l.get i).Time/\(l.get i).Time<=1000000000:=by
  simp only[o5,hpB,fH,inB,oO]at hh;have:=hh.2.1.1.2;omega
 unfold gq zjX;clear hh;generalize s.ak.get (l.get i).aj.toNat=p at *;cases hk:p.Kind==3 with
 | true=>rw[dU];omega
 | false =>
  rw[dQ];show aQ (aQ ((l.get i).Time-p.Clock.High)-p.dX)<=aQ (aQ ((l.get i).Time-p.Clock.Low)+p.dX);rw[aZ (x:=(l.get i).Time-p.Clock.High) omY omY,aZ (x:=(l.get i).Time-p.Clock.Low) omY omY,aZ omY omY,aZ omY omY];omega
abbrev lZ(t:af):Int×iJ:=(t.View,eu t)
def ltK(a b:Int×iJ):Prop:=a.1<b.1\/a.1=b.1/\(cmpL (a.2.map (·.1)) (b.2.map (·.1))<0\/a.2.map (·.1)=b.2.map (·.1)/\cmpL (a.2.map (·.2)) (b.2.map (·.2))<0)
theorem zcj(t:af):(eu t).map (·.1)=kG t.Hits:=by unfold eu kG;rw[qdS];rfl
theorem zck{t:af}(h:t.aX.len=t.Hits.len):(eu t).map (·.2)=kG t.aX:=by unfold eu kG;rw[qdS,h];rfl
theorem zE3{a b:af}(ha:a.aX.len=a.Hits.len)(hb:b.aX.len=b.Hits.len):ltK (lZ a) (lZ b)↔ZL a b:=by
 unfold ltK ZL;show _\/_/\(cmpL ((eu a).map (·.1)) ((eu b).map (·.1))<0\/(eu a).map (·.1)=(eu b).map (·.1)/\cmpL ((eu a).map (·.2)) ((eu b).map (·.2))<0)↔_;rw[zcj,zcj,zck ha,zck hb]
theorem zkm{a b:Int×iJ}(h:ltK a b)(k:ltK b a):False:=by
 rcases h with h|⟨h,h2⟩<;>rcases k with k|⟨k,k2⟩
 omega;omega;omega;rcases h2 with h2|⟨h2,h3⟩<;>rcases k2 with k2|⟨k2,k3⟩
 exact uT _ (Ej h2 k2);rw[k2]at h2;exact uT _ h2;rw[h2]at k2;exact uT _ k2;exact uT _ (Ej h3 k3)
def grK(a b:Int×iJ):Bool:=decide (a.2.length>b.2.length)&&(b.2.all (λp=>a.2.contains p)&&(b.1==a.1))
theorem zE4(a b:af):EO a b=grK (lZ a) (lZ b):=by
 unfold EO grK wJ;show _=(decide ((eu a).length>(eu b).length)&&_);rw[iw,iw];congr 1;exact decide_eq_decide.2 omY
theorem yH{p:Int×iJ→Bool}{q:af→Bool}:∀{L:List af},(∀t∈L,q t=p (lZ t))→(L.filter q).map lZ=(L.map lZ).filter p
  | [],_=>rfl
  | t::L,h=>by
    have ih:=yH (p:=p) (q:=q) (L:=L) λu hu=>h u (jB _ hu);have e:=h t jM;rw[nU,qdo,qdo,e];by_cases hp:p (lZ t)=true;rw[dH hp,dH hp,nU,ih];rw[dM hp,dM hp,ih]
theorem Xf{x:Int}{L:List af}{c:List iJ}(h:∀t∈L,WO x t)(e:L.map eu=c):L.map lZ=c.map λc=>(x,c):=by
 rw[<- e,qdS];exact dqU λt ht=>by show(t.View,eu t)=(x,eu t);rw[(h t ht).1]
theorem ZQ{α:Type}{p q:α->Bool}{a:List α}(h:∀x∈a,p x=q x):a.any p=a.any q:=by
 induction a with|nil=>rfl|cons x a ih=>rw[qj4,qj4,h x jM,ih λy hy=>h y (jB _ hy)]
def zq0(s:au)(r:bI)(l:Sl bu):List (Int×iJ):=((iE s l 1).filter (oJ s l 1 r)).map (λc=>(1,c))++((iE s l 2).filter (oJ s l 2 r)).map (λc=>(2,c))
theorem H5.keys{s:au}{r:bI}{l:Sl bu}{f:found}(h:H5 s r l f):(ls f.fits).map lZ=zq0 s r l/\((ls f.ax).map lZ).Perm ((zq0 s r l).filter λk=>!(zq0 s r l).any λx=>grK x k):=by
 obtain⟨X,Y,e,x1,y1,x2,y2⟩:=h.fx;have hk:(ls f.fits).map lZ=zq0 s r l:=by rw[e,TR,Xf x1 x2,Xf y1 y2];rfl
 refine⟨hk,(h.tr.map lZ).trans (List.Perm.of_eq ?_)⟩;rw[<- hk];refine yH λt _=>?_;rw[List.any_map];congr 1;exact ZQ λx _=>zE4 x t
structure E80 where
 N:Nat
 c105:(Pt aH)×af->ae ((Sl aC))
 c49:(Sl aC)->ae ((Sl Int)×Int)
abbrev G80(E:E80):bM:=jc ((Tabs.nil.addF 105 (ae.un E.c105)).addF 49 (ae.un E.c49)) []
def A80:dI:=bZ aJ 80 [] {ks:=[(1,6,⟨[],[],[(8,1,39,3)],[],[],[],[]⟩)]}
def F80(E:E80):(Pt found)×af->ae (bD×Bool):=ae.ty (aF aJ E.N (G80 E) A80 80)
section
variable(E:E80){A:Type}(k:(bD×Bool)->Option A)
def zcl(E:E80)(n:Nat)(a1:af)(v25:Sl Int)(v26 zM:Int)(w39:Sl Int){A:Type}(k:(bD×Bool)->Option A):Option A:=kC aJ (G80 E) E.N A80 80 [1,1,1,1,0,1,0] [.n n] (kz k) ⟨[(3,.cl (.ptr 3 0)),(4,.cl (.ptr 4 0)),(8,.cl (.ptr 8 0)),(25,eP v25),(26,.int v26),(27,.int zM)],[(3,eB 43 a1),(4,.box 50 [.p (.int .i64 0),.p (.nils),.p (.nils),.p (.int .i64 0),.p (.nils),.p (.nils)]),(8,.box 50 [.p (.int .i64 2),.vec 39,.p (.nils),.p (.int .i64 0),.p (.nils),.p (.nils)]),(39,eV 3 1 8 w39)],[]⟩
theorem e80(a0:Pt found)(a1:af):(F80 E (a0,a1)).T k=(E.c105 (a0.v.aH,a1)).T λr1=>(E.c49 r1).T λr2=>cond (r2.2 != 0) (k ((⟨0,(⟨0,λ_=>default⟩:(Sl Int)),(⟨0,λ_=>default⟩:(Sl Int)),(⟨0,(⟨0,λ_=>default⟩:(Sl Int)),(⟨0,λ_=>default⟩:(Sl Int))⟩:af)⟩:bD),false)) (zcl E E.N a1 r2.1 (r2.1.len:Int) 0 (⟨0,(λ_=>0)⟩:(Sl Int)) k):=eX
theorem zts(n0:Nat)(a1:af)(v25:Sl Int)(v26 zM:Int)(w39:Sl Int):zcl E (n0+1) a1 v25 v26 zM w39 k=cond (decide (zM<v26)) (aV (decide (0<=zM/\zM<(v25.len:Int))) (aV (decide (0<=v25.get zM.toNat/\v25.get zM.toNat<(a1.Hits.len:Int))) (aV (room (w39.len+1) 8) (zcl E n0 a1 v25 v26 (aQ (zM+1)) (⟨(w39.len+1),(lm w39.len w39.get (λ_=>a1.Hits.get (v25.get zM.toNat).toNat))⟩:(Sl Int)) k)))) (k ((⟨2,w39,(⟨0,λ_=>default⟩:(Sl Int)),(⟨0,(⟨0,λ_=>default⟩:(Sl Int)),(⟨0,λ_=>default⟩:(Sl Int))⟩:af)⟩:bD),true)):=krY
end
theorem o80 [aG](E:E80)(MI:Ok aJ 105 (ae.un E.c105))(h49:Ok aJ 49 (ae.un E.c49)):Ok aJ 80 (ae.un (F80 E)):=eY ((aB.nil.addF MI).addF h49)
structure E81 where
 N:Nat
 c50:au×(Sl bu)->ae (bC×Int)
abbrev G81(E:E81):bM:=jc (Tabs.nil.addF 50 (ae.un E.c50)) []
def A81:dI:=bZ aJ 81 [] {}
def F81(E:E81):(Pt found)×af->ae (bD×Bool):=ae.ty (aF aJ E.N (G81 E) A81 81)
section
variable(E:E81){A:Type}(k:(bD×Bool)->Option A)
def Nz(E:E81)(n:Nat)(a0:Pt found)(a1:af)(Ij:Int){A:Type}(k:(bD×Bool)->Option A):Option A:=kC aJ (G81 E) E.N A81 81 [1,0,1,0] [.n n] (kz k) ⟨[(0,eP a0),(3,.cl (.ptr 3 0)),(4,.cl (.ptr 4 0)),(13,eP a1.Hits),(14,.int (a1.Hits.len:Int)),(15,.int Ij)],[(3,eB 43 a1),(4,.box 50 [.p (.int .i64 0),.p (.nils),.p (.nils),.p (.int .i64 0),.p (.nils),.p (.nils)])],[]⟩
def Ib(E:E81)(n0 n:Nat)(a0:Pt found)(a1:af)(v7 Ij:Int)(v24:Sl Int)(v25 v26:Int){A:Type}(k:(bD×Bool)->Option A):Option A:=kC aJ (G81 E) E.N A81 81 [1,0,1,0,0,1,1,0,0,1,1,0] [.n n0,.n n] (kz k) ⟨[(0,eP a0),(3,.cl (.ptr 3 0)),(4,.cl (.ptr 4 0)),(7,.int v7),(13,eP a1.Hits),(14,.int (a1.Hits.len:Int)),(15,.int Ij),(24,eP v24),(25,.int v25),(26,.int v26)],[(3,eB 43 a1),(4,.box 50 [.p (.int .i64 0),.p (.nils),.p (.nils),.p (.int .i64 0),.p (.nils),.p (.nils)])],[]⟩
theorem e81(a0:Pt found)(a1:af):(F81 E (a0,a1)).T k=Nz E E.N a0 a1 0 k:=eX
theorem ztt(n0:Nat)(a0:Pt found)(a1:af)(Ij:Int):Nz E (n0+1) a0 a1 Ij k=cond (decide (Ij<(a1.Hits.len:Int))) (aV (decide (0<=Ij/\Ij<(a1.Hits.len:Int))) (aV (decide ((0:Int)<=(aQ (Ij+1))/\((aQ (Ij+1)):Int)<=(a1.Hits.len:Int)/\(a1.Hits.len:Int)<=(a1.Hits.len:Int))) (Ib E n0 E.N a0 a1 (a1.Hits.get Ij.toNat) Ij (⟨(((a1.Hits.len:Int):Int)-(aQ (Ij+1))).toNat,(LU a1.Hits.get (aQ (Ij+1)).toNat)⟩:(Sl Int)) ((((a1.Hits.len:Int):Int)-(aQ (Ij+1))).toNat:Int) 0 k))) (k ((⟨0,(⟨0,λ_=>default⟩:(Sl Int)),(⟨0,λ_=>default⟩:(Sl Int)),(⟨0,(⟨0,λ_=>default⟩:(Sl Int)),(⟨0,λ_=>default⟩:(Sl Int))⟩:af)⟩:bD),false)):=krY
theorem ztu(n0 n1:Nat)(a0:Pt found)(a1:af)(v7 Ij:Int)(v24:Sl Int)(v25 v26:Int):Ib E n0 (n1+1) a0 a1 v7 Ij v24 v25 v26 k=cond (decide (v26<v25)) (aV (decide (0<=v26/\v26<(v24.len:Int))) (aV (decide (0<=v7/\v7<(a0.v.aH.v.hits.len:Int))) (aV (decide (0<=v24.get v26.toNat/\v24.get v26.toNat<(a0.v.aH.v.hits.len:Int))) ((E.c50 (a0.v.aH.v.au,(⟨2,(kW [(a0.v.aH.v.hits.get v7.toNat),(a0.v.aH.v.hits.get (v24.get v26.toNat).toNat)])⟩:(Sl bu)))).T λr1=>cond (r1.2==5) (k ((⟨3,(⟨2,(kW [v7,v24.get v26.toNat])⟩:(Sl Int)),(⟨0,λ_=>default⟩:(Sl Int)),(⟨0,(⟨0,λ_=>default⟩:(Sl Int)),(⟨0,λ_=>default⟩:(Sl Int))⟩:af)⟩:bD),true)) (Ib E n0 n1 a0 a1 v7 Ij v24 v25 (aQ (v26+1)) k))))) (Nz E n0 a0 a1 (aQ (Ij+1)) k):=krY
end
theorem o81 [aG](E:E81)(h50:Ok aJ 50 (ae.un E.c50)):Ok aJ 81 (ae.un (F81 E)):=eY (aB.nil.addF h50)
structure E82 where
 N:Nat
def F82(E:E82):(Pt found)×af->ae (bD×Bool):=jS E.N Tabs.nil 82
theorem e82(E:E82){A:Type}(k:(bD×Bool)→Option A)(a0:Pt found)(a1:af):(F82 E (a0,a1)).T k=k ((⟨4,(⟨0,λ_=>default⟩:(Sl Int)),(⟨0,λ_=>default⟩:(Sl Int)),(⟨0,(⟨0,λ_=>default⟩:(Sl Int)),(⟨0,λ_=>default⟩:(Sl Int))⟩:af)⟩:bD),decide ((a1.Hits.len:Int)<a0.v.aH.v.rules.ve)):=eX
theorem o82 [aG](E:E82):Ok aJ 82 (ae.un (F82 E)):=eY aB.nil
structure E83 where
 N:Nat
 c141:(Pt aH)×af->ae ((Sl Int))
def F83(E:E83):(Pt found)×af->ae (bD×Bool):=jS E.N (Tabs.nil.addF 141 (ae.un E.c141)) 83
theorem e83(E:E83){A:Type}(k:(bD×Bool)→Option A)(a0:Pt found)(a1:af):(F83 E (a0,a1)).T k=(E.c141 (a0.v.aH,a1)).T λr1=>k ((⟨5,(⟨0,λ_=>default⟩:(Sl Int)),r1,(⟨0,(⟨0,λ_=>default⟩:(Sl Int)),(⟨0,λ_=>default⟩:(Sl Int))⟩:af)⟩:bD),decide ((r1.len:Int)>a0.v.aH.v.rules.xA)):=eX
theorem o83 [aG](E:E83)(Zw:Ok aJ 141 (ae.un E.c141)):Ok aJ 83 (ae.un (F83 E)):=eY (aB.nil.addF Zw)
structure E84 where
 N:Nat
 c92:af×af->ae Bool
 zrt:af->ae af
abbrev G84(E:E84):bM:=jc ((Tabs.nil.addF 92 (ae.un E.c92)).addF 142 (ae.un E.zrt)) []
def A84:dI:=bZ aJ 84 [] {}
def F84(E:E84):(Pt found)×af->ae (bD×Bool):=ae.ty (aF aJ E.N (G84 E) A84 84)
section
variable(E:E84){A:Type}(k:(bD×Bool)->Option A)
def Ic(E:E84)(n:Nat)(a0:Pt found)(a1:af)(zq:Int){A:Type}(k:(bD×Bool)->Option A):Option A:=kC aJ (G84 E) E.N A84 84 [1,0,1,0] [.n n] (kz k) ⟨[(3,.cl (.ptr 3 0)),(4,.cl (.ptr 4 0)),(11,eP a0.v.ax),(12,.int (a0.v.ax.len:Int)),(13,.int zq)],[(3,eB 43 a1),(4,.box 50 [.p (.int .i64 0),.p (.nils),.p (.nils),.p (.int .i64 0),.p (.nils),.p (.nils)])],[]⟩
theorem e84(a0:Pt found)(a1:af):(F84 E (a0,a1)).T k=Ic E E.N a0 a1 0 k:=eX
theorem ztv(n0:Nat)(a0:Pt found)(a1:af)(zq:Int):Ic E (n0+1) a0 a1 zq k=cond (decide (zq<(a0.v.ax.len:Int))) (aV (decide (0<=zq/\zq<(a0.v.ax.len:Int))) (cond (decide (((a0.v.ax.get zq.toNat).Hits.len:Int)>(a1.Hits.len:Int))) ((E.c92 ((a0.v.ax.get zq.toNat),a1)).T λr1=>cond r1 ((E.zrt (a0.v.ax.get zq.toNat)).T λr2=>k ((⟨6,(⟨0,λ_=>default⟩:(Sl Int)),(⟨0,λ_=>default⟩:(Sl Int)),r2⟩:bD),true)) (Ic E n0 a0 a1 (aQ (zq+1)) k)) (Ic E n0 a0 a1 (aQ (zq+1)) k))) (k ((⟨0,(⟨0,λ_=>default⟩:(Sl Int)),(⟨0,λ_=>default⟩:(Sl Int)),(⟨0,(⟨0,λ_=>default⟩:(Sl Int)),(⟨0,λ_=>default⟩:(Sl Int))⟩:af)⟩:bD),false)):=krY
end
theorem o84 [aG](E:E84)(h92:Ok aJ 92 (ae.un E.c92))(zyI:Ok aJ 142 (ae.un E.zrt)):Ok aJ 84 (ae.un (F84 E)):=eY ((aB.nil.addF h92).addF zyI)
structure zq1 where
 N:Nat
def zq2(E:zq1):af->ae af:=jS E.N (Tabs.nil.addO 181 (.clone 3 1 8)) 142
theorem zQA(E:zq1){A:Type}(k:af→Option A)(a0:af):(zq2 E (a0)).T k=aV (room a0.Hits.len 8) (aV (room a0.aX.len 8) (k a0)):=eX
theorem zQB [aG](E:zq1)(zw1:jh aJ 181 (.clone 3 1 8)):Ok aJ 142 (ae.un (zq2 E)):=eY (aB.nil.addO zw1)
structure E25 where
 N:Nat
 Yb:au×bI×(Sl bu)->ae (Int ⊕ ((Pt aH)×Int))
 c79:(Pt aH)×af->ae Bool
 c72:au×bI×(Sl bu)×(Sl Bool)->ae (Int ⊕ ((Pt found)×Int))
 c80:(Pt found)×af->ae (bD×Bool)
 c81:(Pt found)×af->ae (bD×Bool)
 c82:(Pt found)×af->ae (bD×Bool)
 c83:(Pt found)×af->ae (bD×Bool)
 c84:(Pt found)×af->ae (bD×Bool)
abbrev G25(E:E25):bM:=jc ((((((((Tabs.nil.addF 78 (ae.unA E.Yb)).addF 79 (ae.un E.c79)).addF 72 (ae.unA E.c72)).addF 80 (ae.un E.c80)).addF 81 (ae.un E.c81)).addF 82 (ae.un E.c82)).addF 83 (ae.un E.c83)).addF 84 (ae.un E.c84)) []
def A25:dI:=bZ aJ 25 [] {unr:=[(8,6)]}
def F25(E:E25):au×bI×(Sl bu)×af->ae (bD×Int):=ae.ty (aF aJ E.N (G25 E) A25 25)
theorem e25(E:E25){A:Type}(k:(bD×Int)→Option A)(a0:au)(a1:bI)(a2:Sl bu)(a3:af):(F25 E (a0,a1,a2,a3)).T k=(E.Yb (a0,a1,a2)).T λr1=>VG r1 (λr1=>cond (r1 != 0) (k ((⟨0,(⟨0,λ_=>default⟩:(Sl Int)),(⟨0,λ_=>default⟩:(Sl Int)),(⟨0,(⟨0,λ_=>default⟩:(Sl Int)),(⟨0,λ_=>default⟩:(Sl Int))⟩:af)⟩:bD),r1)) (none)) (λr1=>cond (r1.2 != 0) (k ((⟨0,(⟨0,λ_=>default⟩:(Sl Int)),(⟨0,λ_=>default⟩:(Sl Int)),(⟨0,(⟨0,λ_=>default⟩:(Sl Int)),(⟨0,λ_=>default⟩:(Sl Int))⟩:af)⟩:bD),r1.2)) ((E.c79 (r1.1,a3)).T λr2=>(E.c72 (a0,a1,a2,(⟨1,(λ_=>r2)⟩:(Sl Bool)))).T λr3=>VG r3 (λr3=>cond (r3 != 0) (k ((⟨0,(⟨0,λ_=>default⟩:(Sl Int)),(⟨0,λ_=>default⟩:(Sl Int)),(⟨0,(⟨0,λ_=>default⟩:(Sl Int)),(⟨0,λ_=>default⟩:(Sl Int))⟩:af)⟩:bD),r3)) (none)) (λr3=>cond (r3.2 != 0) (k ((⟨0,(⟨0,λ_=>default⟩:(Sl Int)),(⟨0,λ_=>default⟩:(Sl Int)),(⟨0,(⟨0,λ_=>default⟩:(Sl Int)),(⟨0,λ_=>default⟩:(Sl Int))⟩:af)⟩:bD),r3.2)) ((E.c80 (r3.1,a3)).T λr4=>cond r4.2 (k (r4.1,0)) ((E.c81 (r3.1,a3)).T λr5=>cond r5.2 (k (r5.1,0)) ((E.c82 (r3.1,a3)).T λr6=>cond r6.2 (k (r6.1,0)) ((E.c83 (r3.1,a3)).T λr7=>cond r7.2 (k (r7.1,0)) ((E.c84 (r3.1,a3)).T λr8=>cond r8.2 (k (r8.1,0)) (k ((⟨1,(⟨0,λ_=>default⟩:(Sl Int)),(⟨0,λ_=>default⟩:(Sl Int)),(⟨0,(⟨0,λ_=>default⟩:(Sl Int)),(⟨0,λ_=>default⟩:(Sl Int))⟩:af)⟩:bD),0)))))))))):=eX
theorem o25 [aG](E:E25)(P6:Ok aJ 78 (ae.unA E.Yb))(h79:Ok aJ 79 (ae.un E.c79))(OE:Ok aJ 72 (ae.unA E.c72))(h80:Ok aJ 80 (ae.un E.c80))(h81:Ok aJ 81 (ae.un E.c81))(h82:Ok aJ 82 (ae.un E.c82))(h83:Ok aJ 83 (ae.un E.c83))(h84:Ok aJ 84 (ae.un E.c84)):Ok aJ 25 (ae.un (F25 E)):=eY ((((((((aB.nil.addF P6).addF h79).addF OE).addF h80).addF h81).addF h82).addF h83).addF h84)
structure Giv (s : au) (r : bI) (l : Sl bu) (t : af) (f : found) : Prop where
  ev:f.aH=fM s r l
  he:Evt s l
  h24:l.len<=24
  ch:F5 s l t=true
theorem Giv.len{s:au}{r:bI}{l:Sl bu}{t:af}{f:found}(h:Giv s r l t f):t.Hits.len<=24/\0<t.Hits.len:=by
 obtain⟨_,_,ne,v⟩:=zl h.ch;have a:=rU rfl v;have b:=Tf rfl ne;have:=h.h24;omega
theorem Giv.iT{s:au}{r:bI}{l:Sl bu}{t:af}{f:found}(h:Giv s r l t f):bY (gtS s l t):=by
 obtain⟨_,_,ne,v⟩:=zl h.ch;rw[SS rfl];exact Gn h.he h.h24 v ne
theorem zq3(s:au)(l:Sl bu)(t:af):(gtS s l t).len=t.Hits.len:=o6 _ _ _
theorem Giv.hit{s:au}{r:bI}{l:Sl bu}{t:af}{f:found}(h:Giv s r l t f){i:Nat}(hi:i<t.Hits.len):0<=t.Hits.get i/\t.Hits.get i<(l.len:Int):=Zr ((zik h.ch).2 i hi)
abbrev Q80(C:Pt found×af->ae (bD×Bool)):Prop:=∀s r l t (f:Pt found),Giv s r l t f.v ->
 (∃(w:bD)(b:Sl Int),C (f,t)=.ok (w,true)/\Bad (gtS s l t) b/\w.ED=2/\w.Hits.len=b.len/\∀a,a<b.len->w.Hits.get a=t.Hits.get (b.get a).toNat)\/(∃w:bD,C (f,t)=.ok (w,false)/\gp (gtS s l t)=true)
theorem s80{E:E80}(N:Big E.N)(MI:zil E.c105)(h49:Q49 E.c49):Q80 (F80 E):=λs r l t f h=>by
 have hl:=h.len;have e0:∀(A:Type)(k:bD×Bool->Option A),(F80 E (f,t)).T k=(E.c49 (gtS s l t)).T _:=λA k=>by
  rw[e80,h.ev,MI s l r t h.he omY h.ch,bf]
 rcases h49 _ h.iT with⟨b,hb,B⟩|⟨hb,hs⟩
 have Yd:=B.len;refine .inl ⟨⟨2,gw (λ_=>0) (λa=>t.Hits.get (b.get a).toNat) b.len,⟨0,λ_=>default⟩,⟨0,⟨0,λ_=>default⟩,⟨0,λ_=>default⟩⟩⟩,b,ae.ext λk=>?_,B,rfl,o6 _ _ _,λa ha=>yC ha⟩;rw[e0,hb,bf,bf];refine pK (X:=λn i=>zcl E n t b (b.len:Int) (i:Int) (gw (λ_=>0) (λa=>t.Hits.get (b.get a).toNat) i) k) (m:=b.len) (λn i hi=>?_) (λn=>?_) _ (by have:=N;omega);have m:=B.mem i hi;rw[zq3]at m;rw[zts,dK omY,dU,bF omY,fQ,bF omY,o6,lV omY omY,bJ omY];rfl;rw[zts,dV omY];rfl;exact .inr ⟨_,ae.ext λk=>by rw[e0,hb,bf,bf];rfl,hs⟩
def noT(s:au)(l:Sl bu)(a b:Int):Bool:=(cmS (ik (tmG s ⟨2,kW [l.get a.toNat,l.get b.toNat]⟩) 2)).2==5
theorem zcm{s:au}{l:Sl bu}{a b:Int}(h:noT s l a b=false):(gq s (l.get a.toNat)).Low<=(gq s (l.get b.toNat)).High/\(gq s (l.get b.toNat)).Low<=(gq s (l.get a.toNat)).High:=by
 unfold noT cmS at h;by_cases c:(ik (tmG s ⟨2,kW [l.get a.toNat,l.get b.toNat]⟩) 2).Low>(ik (tmG s ⟨2,kW [l.get a.toNat,l.get b.toNat]⟩) 2).High;rw[dK c]at h;cases h;have g0:((tmG s ⟨2,kW [l.get a.toNat,l.get b.toNat]⟩).get 0)=⟨0,(gq s (l.get a.toNat)).Low,(gq s (l.get a.toNat)).High⟩:=by
  show(⟨0,(gq s (kW [l.get a.toNat,l.get b.toNat] 0)).Low,(gq s (kW [l.get a.toNat,l.get b.toNat] 0)).High⟩:aC)=_;rw[zbY]
 have g1:((tmG s ⟨2,kW [l.get a.toNat,l.get b.toNat]⟩).get 1)=⟨0,(gq s (l.get b.toNat)).Low,(gq s (l.get b.toNat)).High⟩:=by
  show(⟨0,(gq s (kW [l.get a.toNat,l.get b.toNat] 1)).Low,(gq s (kW [l.get a.toNat,l.get b.toNat] 1)).High⟩:aC)=_;rw[zbZ]
 have x:=Ew (g:=tmG s ⟨2,kW [l.get a.toNat,l.get b.toNat]⟩) 2 0 omY;have y:=Ew (g:=tmG s ⟨2,kW [l.get a.toNat,l.get b.toNat]⟩) 2 1 omY;rw[g0]at x;rw[g1]at y;have x:(gq s (l.get a.toNat)).Low<=_/\_<=(gq s (l.get a.toNat)).High:=x;have y:(gq s (l.get b.toNat)).Low<=_/\_<=(gq s (l.get b.toNat)).High:=y;omega
theorem zq4{C:au×Sl bu->ae (bC×Int)}(h50:Q50 C){s:au}{l:Sl bu}(he:Evt s l){a b:Int}(ha:0<=a/\a<(l.len:Int))(hb:0<=b/\b<(l.len:Int)):C (s,⟨2,kW [l.get a.toNat,l.get b.toNat]⟩)=.ok (cmS (ik (tmG s ⟨2,kW [l.get a.toNat,l.get b.toNat]⟩) 2)) :=
 h50 s ⟨2,kW [l.get a.toNat,l.get b.toNat]⟩ he.sh he.se (by show 0<2;omega) (by show 2<=1000;omega) λi hi=>by
  have hi:i<2:=hi;show o5 s (kW [l.get a.toNat,l.get b.toNat] i)=true
  match i,hi with|0,_=>rw[zbY];exact dD.1 he.hi _ omY|1,_=>rw[zbZ];exact dD.1 he.hi _ omY
abbrev z0R(n:Int):bD:=⟨n,⟨0,λ_=>default⟩,⟨0,λ_=>default⟩,⟨0,⟨0,λ_=>default⟩,⟨0,λ_=>default⟩⟩⟩
abbrev Q81(C:Pt found×af->ae (bD×Bool)):Prop:=∀s r l t (f:Pt found),Giv s r l t f.v ->
 (∃(w:bD)(i j:Nat),C (f,t)=.ok (w,true)/\i<j/\j<t.Hits.len/\w.ED=3/\w.Hits=⟨2,kW [t.Hits.get i,t.Hits.get j]⟩/\noT s l (t.Hits.get i) (t.Hits.get j)=true)\/(∃w:bD,C (f,t)=.ok (w,false)/\∀i j,i<j->j<t.Hits.len->noT s l (t.Hits.get i) (t.Hits.get j)=false)
theorem s81{E:E81}(N:Big E.N)(h50:Q50 E.c50):Q81 (F81 E):=λs r l t f h=>by
 have hN:=N;have hl:=h.len
 have inn:∀(n0 i:Nat),i<t.Hits.len->∀(m j n1:Nat),i+1+j+m=t.Hits.len->m<n1 ->
   (∃(w:bD)(j':Nat),(∀(A:Type)(k:bD×Bool->Option A),Ib E n0 n1 f t (t.Hits.get i) (i:Int) ⟨((t.Hits.len:Int)-((i+1:Nat):Int)).toNat,LU t.Hits.get (((i+1:Nat):Int)).toNat⟩ ((((t.Hits.len:Int)-((i+1:Nat):Int)).toNat:Nat):Int) (j:Int) k=k (w,true))/\i<j'/\j'<t.Hits.len/\w.ED=3/\w.Hits=⟨2,kW [t.Hits.get i,t.Hits.get j']⟩/\noT s l (t.Hits.get i) (t.Hits.get j')=true) \/
   ((∀(A:Type)(k:bD×Bool->Option A),Ib E n0 n1 f t (t.Hits.get i) (i:Int) ⟨((t.Hits.len:Int)-((i+1:Nat):Int)).toNat,LU t.Hits.get (((i+1:Nat):Int)).toNat⟩ ((((t.Hits.len:Int)-((i+1:Nat):Int)).toNat:Nat):Int) (j:Int) k=Nz E n0 f t ((i+1:Nat):Int) k)/\∀j',i+1+j<=j'->j'<t.Hits.len->noT s l (t.Hits.get i) (t.Hits.get j')=false):=by
  intro n0 i hi m
  induction m with
  | zero =>
   intro j n1 hj hn;obtain⟨n1,rfl⟩:∃n',n1=n'+1:=⟨n1-1,omY⟩;exact .inr ⟨λA k=>by rw[ztu,dV omY,dQ,bJ omY],λj' a b=>by omega⟩
  | succ m ih =>
   intro j n1 hj hn;obtain⟨n1,rfl⟩:∃n',n1=n'+1:=⟨n1-1,omY⟩;have mV:=h.hit hi;have oM:=h.hit (i:=i+1+j) omY;have sg:(⟨((t.Hits.len:Int)-((i+1:Nat):Int)).toNat,LU t.Hits.get (((i+1:Nat):Int)).toNat⟩:Sl Int).get ((j:Int)).toNat=t.Hits.get (i+1+j):=by
    show t.Hits.get (((j:Int)).toNat+(((i+1:Nat):Int)).toNat)=_;rw[fQ,fQ,qjR]
   have ev:f.v.aH.v.hits=l/\f.v.aH.v.au=s:=by rw[h.ev];exact⟨rfl,rfl⟩
   have st:∀(A:Type)(k:bD×Bool->Option A),Ib E n0 (n1+1) f t (t.Hits.get i) (i:Int) ⟨((t.Hits.len:Int)-((i+1:Nat):Int)).toNat,LU t.Hits.get (((i+1:Nat):Int)).toNat⟩ ((((t.Hits.len:Int)-((i+1:Nat):Int)).toNat:Nat):Int) (j:Int) k=cond (noT s l (t.Hits.get i) (t.Hits.get (i+1+j))) (k (⟨3,⟨2,kW [t.Hits.get i,t.Hits.get (i+1+j)]⟩,⟨0,λ_=>default⟩,⟨0,⟨0,λ_=>default⟩,⟨0,λ_=>default⟩⟩⟩,true)) (Ib E n0 n1 f t (t.Hits.get i) (i:Int) ⟨((t.Hits.len:Int)-((i+1:Nat):Int)).toNat,LU t.Hits.get (((i+1:Nat):Int)).toNat⟩ ((((t.Hits.len:Int)-((i+1:Nat):Int)).toNat:Nat):Int) ((j+1:Nat):Int) k):=λA k=>by
    rw[ztu,dK omY,dU,bF (by show 0<=(j:Int)/\(j:Int)<(((t.Hits.len:Int)-((i+1:Nat):Int)).toNat:Int);omega),sg,ev.1,ev.2,bF omY,bF omY,zq4 h50 h.he mV oM,bf,bJ omY];rfl
   cases hb:noT s l (t.Hits.get i) (t.Hits.get (i+1+j))with
   | true =>
    rw[hb]at st;exact .inl ⟨_,i+1+j,st,omY,omY,rfl,rfl,hb⟩
   | false =>
    rw[hb]at st;rcases ih (j+1) n1 omY omY with⟨w,j',a,b⟩|⟨a,b⟩
    exact .inl ⟨w,j',λA k=>(st A k).trans (a A k),b⟩;refine .inr ⟨fun A k=>(st A k).trans (a A k),fun j' h1 h2 => ?_⟩;by_cases e:j'=i+1+j;rw[e];exact hb;exact b j' omY h2
 have out:∀(m i n0:Nat),i+m=t.Hits.len->m<n0 ->
   (∃(w:bD)(i' j':Nat),(∀(A:Type)(k:bD×Bool->Option A),Nz E n0 f t (i:Int) k=k (w,true))/\i'<j'/\j'<t.Hits.len/\w.ED=3/\w.Hits=⟨2,kW [t.Hits.get i',t.Hits.get j']⟩/\noT s l (t.Hits.get i') (t.Hits.get j')=true) \/
   ((∀(A:Type)(k:bD×Bool->Option A),Nz E n0 f t (i:Int) k=k (z0R 0,false))/\∀i' j',i<=i'->i'<j'->j'<t.Hits.len->noT s l (t.Hits.get i') (t.Hits.get j')=false):=by
  intro m
  induction m with
  | zero =>
   intro i n0 hi hn;obtain⟨n0,rfl⟩:∃n',n0=n'+1:=⟨n0-1,omY⟩;exact .inr ⟨λA k=>by rw[ztt,dV omY];rfl,λi' j' a b c=>by omega⟩
  | succ m ih =>
   intro i n0 hi hn;obtain⟨n0,rfl⟩:∃n',n0=n'+1:=⟨n0-1,omY⟩;have st:∀(A:Type)(k:bD×Bool->Option A),Nz E (n0+1) f t (i:Int) k=Ib E n0 E.N f t (t.Hits.get i) (i:Int) ⟨((t.Hits.len:Int)-((i+1:Nat):Int)).toNat,LU t.Hits.get (((i+1:Nat):Int)).toNat⟩ ((((t.Hits.len:Int)-((i+1:Nat):Int)).toNat:Nat):Int) 0 k:=λA k=>by
    rw[ztt,dK omY,dU,bF omY,fQ,bJ omY,bF omY]
   rcases inn n0 i omY (t.Hits.len-(i+1)) 0 E.N omY omY with⟨w,j',a,b⟩|⟨a,b⟩
   exact .inl ⟨w,i,j',λA k=>(st A k).trans (a A k),b⟩;rcases ih (i+1) n0 omY omY with⟨w,i',j',c,d⟩|⟨c,d⟩
   exact .inl ⟨w,i',j',λA k=>(st A k).trans ((a A k).trans (c A k)),d⟩;refine .inr ⟨fun A k=>(st A k).trans ((a A k).trans (c A k)),fun i' j' h1 h2 h3 => ?_⟩;by_cases e:i'=i;rw[e];exact b j' omY h3;exact d i' j' omY h2 h3
 rcases out t.Hits.len 0 E.N omY omY with⟨w,i,j,a,b⟩|⟨a,b⟩
 exact .inl ⟨w,i,j,ae.ext λk=>by rw[e81];exact a _ k,b⟩;exact .inr ⟨_,ae.ext λk=>by rw[e81];exact a _ k,λi j h1 h2=>b i j (xn _) h1 h2⟩
abbrev Q82(C:Pt found×af->ae (bD×Bool)):Prop:=∀s r l t (f:Pt found),Giv s r l t f.v->C (f,t)=.ok (z0R 4,decide ((t.Hits.len:Int)<r.ve))
theorem s82{E:E82}:Q82 (F82 E):=λs r l t f h=>ae.ext λk=>by rw[e82,h.ev];rfl
abbrev Q83(C:Pt found×af->ae (bD×Bool)):Prop:=∀s r l t (f:Pt found),Giv s r l t f.v->∃w:bD,C (f,t)=.ok (w,decide (((W9 s l t.View (eu t)).length:Int)>r.xA))/\w.ED=5/\w.Hits.len=0/\ls w.ak=W9 s l t.View (eu t)
theorem s83{E:E83}(Zw:zqJ E.c141):Q83 (F83 E):=λs r l t f h=>by
 obtain⟨tv,vw,ne,v⟩:=zl h.ch;obtain⟨w,e,hw⟩:=Zw s l r t.View t (eu t) l.len {toEvt:=h.he,l24:=h.h24,vw:=vw} tv rfl v ne;refine⟨⟨5,⟨0,λ_=>default⟩,w,⟨0,⟨0,λ_=>default⟩,⟨0,λ_=>default⟩⟩⟩,ae.ext λk=>?_,rfl,rfl,hw⟩;rw[e83,h.ev,e,bf,bf,<- hw,jL];rfl
abbrev zyK(C:af->ae af):Prop:=∀t:af,t.Hits.len<=1000->t.aX.len<=1000->C t=.ok t
theorem zQC{E:zq1}:zyK (zq2 E):=λt h1 h2=>ae.ext λk=>by rw[zQA,lV omY omY,lV omY omY,bf]
abbrev Q84(C:Pt found×af->ae (bD×Bool)):Prop:=∀s r l t (f:Pt found),Giv s r l t f.v->(∀x∈ls f.v.ax,One x/\x.aX.len=x.Hits.len)->f.v.ax.len<=10000 ->
 (∃(w:bD),C (f,t)=.ok (w,true)/\w.ED=6/\w.Hits.len=0/\w.wO∈ls f.v.ax/\EO w.wO t=true)\/(∃w:bD,C (f,t)=.ok (w,false)/\∀x∈ls f.v.ax,EO x t=false)
theorem s84{E:E84}(N:Big E.N)(h92:Q92 E.c92)(zyI:zyK E.zrt):Q84 (F84 E):=λs r l t f h hx hf=>by
 have hN:=N;obtain⟨tv,_,ne,v⟩:=zl h.ch;have ot:One t:=zb9 h.h24 tv rfl v
 have key:∀(m i n:Nat),i+m=f.v.ax.len->m<n ->
   (∃(w:bD),(∀(A:Type)(k:bD×Bool->Option A),Ic E n f t (i:Int) k=k (w,true))/\w.ED=6/\w.Hits.len=0/\w.wO∈ls f.v.ax/\EO w.wO t=true) \/
   ((∀(A:Type)(k:bD×Bool->Option A),Ic E n f t (i:Int) k=k (z0R 0,false))/\∀i',i<=i'->i'<f.v.ax.len->EO (f.v.ax.get i') t=false):=by
  intro m
  induction m with
  | zero =>
   intro i n hi hn;obtain⟨n,rfl⟩:∃n',n=n'+1:=⟨n-1,omY⟩;exact .inr ⟨λA k=>by rw[ztv,dV omY];rfl,λi' a b=>by omega⟩
  | succ m ih =>
   intro i n hi hn;obtain⟨n,rfl⟩:∃n',n=n'+1:=⟨n-1,omY⟩;have hm:f.v.ax.get i∈ls f.v.ax:=gz.2 ⟨i,omY,rfl⟩;obtain⟨ox,sx⟩:=hx _ hm;have lx:=ox.le;have st:∀(A:Type)(k:bD×Bool->Option A),Ic E (n+1) f t (i:Int) k=cond (EO (f.v.ax.get i) t) (k (⟨6,⟨0,λ_=>default⟩,⟨0,λ_=>default⟩,f.v.ax.get i⟩,true)) (Ic E n f t ((i+1:Nat):Int) k):=λA k=>by
    rw[ztv,dK omY,dU,bF omY,fQ,bJ omY,h92 _ _ ox ot,bf,zyI _ omY omY,bf];unfold EO;cases decide (((f.v.ax.get i).Hits.len:Int)>(t.Hits.len:Int))<;>cases wJ (f.v.ax.get i) t<;>rfl
   cases hb:EO (f.v.ax.get i) t with
   | true =>
    rw[hb]at st;exact .inl ⟨_,st,rfl,rfl,hm,hb⟩
   | false =>
    rw[hb]at st;rcases ih (i+1) n omY omY with⟨w,a,b⟩|⟨a,b⟩
    exact .inl ⟨w,λA k=>(st A k).trans (a A k),b⟩;refine .inr ⟨fun A k=>(st A k).trans (a A k),fun i' h1 h2 => ?_⟩;by_cases e:i'=i;rw[e];exact hb;exact b i' omY h2
 rcases key f.v.ax.len 0 E.N omY omY with⟨w,a,b⟩|⟨a,b⟩
 exact .inl ⟨w,ae.ext λk=>by rw[e84];exact a _ k,b⟩;refine .inr ⟨_,ae.ext fun k=>by rw [e84];exact a _ k,fun x hx => ?_⟩;obtain⟨i,hi,rfl⟩:=gz.1 hx;exact b i (xn _) hi
def Wh(s:au)(r:bI)(l:Sl bu)(t:af)(f:found)(w:bD):Prop :=
 (w.ED=2/\∃b:Sl Int,Bad (gtS s l t) b/\w.Hits.len=b.len/\∀a,a<b.len->w.Hits.get a=t.Hits.get (b.get a).toNat) \/
 (w.ED=3/\∃i j:Nat,i<j/\j<t.Hits.len/\w.Hits=⟨2,kW [t.Hits.get i,t.Hits.get j]⟩/\noT s l (t.Hits.get i) (t.Hits.get j)=true) \/
 (w.ED=4/\w.Hits.len=0/\(t.Hits.len:Int)<r.ve) \/
 (w.ED=5/\w.Hits.len=0/\ls w.ak=W9 s l t.View (eu t)/\((W9 s l t.View (eu t)).length:Int)>r.xA) \/
 (w.ED=6/\w.Hits.len=0/\w.wO∈ls f.ax/\EO w.wO t=true) \/
 (w.ED=1/\w.Hits.len=0/\∃m∈ls f.ax,lZ m=lZ t)
abbrev Q25(C:au×bI×Sl bu×af->ae (bD×Int)):Prop:=∀s r l t,qO s->l.len<=40->jT s r l=0->(iE s l 1).length<=2000->(iE s l 2).length<=2000->F5 s l t=true->∃(f:found)(w:bD),H5 s r l f/\C (s,r,l,t)=.ok (w,0)/\Wh s r l t f w
theorem s25{E:E25}(P6:Q78 E.Yb)(h79:Q79 E.c79)(OE:Q72 E.c72)(h80:Q80 E.c80)(h81:Q81 E.c81)(h82:Q82 E.c82)(h83:Q83 E.c83)(h84:Q84 E.c84):Q25 (F25 E):=λs r l t hs hl h0 n1 n2 hc=>by
 obtain⟨he,_,h24⟩:=rO hs h0;obtain⟨tv,vw,ne,v⟩:=zl hc;have tl:=rU rfl v;obtain⟨f,f1,f2⟩:=OE s r l ⟨1,λ_=>true⟩ hs hl h0 n1 n2 (by show 1<=10;omega) (λb hb=>by obtain⟨_,_,e⟩:=gz.1 hb;exact e.symm);have G:Giv s r l t f.v:=⟨f2.ev,he,h24,hc⟩;have fl:=f2.len n1 n2;have ct:∀x∈ls f.v.ax,jE s l x:=λx hx=>f2.chosen he h24 (f2.sub hx);have eo:opn s r l=.inr (fM s r l,0):=by unfold opn;rw[h0];rfl
 have e0:∀(A:Type)(k:bD×Int->Option A),(F25 E (s,r,l,t)).T k=(E.c80 (f,t)).T λr4=>cond r4.2 (k (r4.1,0)) ((E.c81 (f,t)).T λr5=>cond r5.2 (k (r5.1,0)) ((E.c82 (f,t)).T λr6=>cond r6.2 (k (r6.1,0)) ((E.c83 (f,t)).T λr7=>cond r7.2 (k (r7.1,0)) ((E.c84 (f,t)).T λr8=>cond r8.2 (k (r8.1,0)) (k (z0R 1,0)))))):=λA k=>by
  rw[e25,P6 s r l hs hl,bf,eo];show(E.c79 (fM s r l,t)).T _=_;rw[h79 s l r t he omY (by rw[tv.2];omega),bf,hc];show(E.c72 (s,r,l,⟨1,λ_=>true⟩)).T _=_;rw[f1,bf];rfl
 rcases h80 s r l t f G with⟨w,b,a1,a2,a3,a4,a5⟩|⟨w,a1,as1⟩
 exact⟨f.v,w,f2,ae.ext λk=>by rw[e0,a1,bf];rfl,.inl ⟨a3,b,a2,a4,a5⟩⟩;rcases h81 s r l t f G with⟨w',i,j,b1,b2,b3,b4,b5,b6⟩|⟨w',b1,bs⟩
 exact⟨f.v,w',f2,ae.ext λk=>by rw[e0,a1,bf,dQ,b1,bf];rfl,.inr (.inl ⟨b4,i,j,b2,b3,b5,b6⟩)⟩;have e1:∀(A:Type)(k:bD×Int->Option A),(F25 E (s,r,l,t)).T k=cond (decide ((t.Hits.len:Int)<r.ve)) (k (z0R 4,0)) ((E.c83 (f,t)).T λr7=>cond r7.2 (k (r7.1,0)) ((E.c84 (f,t)).T λr8=>cond r8.2 (k (r8.1,0)) (k (z0R 1,0)))):=λA k=>by
  rw[e0,a1,bf,dQ,b1,bf,dQ,h82 s r l t f G,bf]
 by_cases c:(t.Hits.len:Int)<r.ve;exact⟨f.v,z0R 4,f2,ae.ext λk=>by rw[e1,dK c];rfl,.inr (.inr (.inl ⟨rfl,rfl,c⟩))⟩;obtain⟨w3,d1,d2,d3,d4⟩:=h83 s r l t f G;by_cases d:((W9 s l t.View (eu t)).length:Int)>r.xA;exact⟨f.v,w3,f2,ae.ext λk=>by rw[e1,dV c,dQ,d1,bf,dK d];rfl,.inr (.inr (.inr (.inl ⟨d2,d3,d4,d⟩)))⟩;rcases h84 s r l t f G (λx hx=>⟨(ct x hx).one,(ct x hx).tv.2⟩) omY with⟨w4,g1,g2,g3,g4,g5⟩|⟨w4,g1,gs⟩
 exact⟨f.v,w4,f2,ae.ext λk=>by rw[e1,dV c,dQ,d1,bf,dV d,dQ,g1,bf];rfl,.inr (.inr (.inr (.inr (.inl ⟨g2,g3,g4,g5⟩))))⟩;refine⟨f.v,z0R 1,f2,ae.ext λk=>by rw[e1,dV c,dQ,d1,bf,dV d,dQ,g1,bf];rfl,.inr (.inr (.inr (.inr (.inr ⟨rfl,rfl,?_⟩))))⟩
 -- the choice is a track
 have hits:∀p∈eu t,∃i,i<t.Hits.len/\t.Hits.get i=p.1:=λp hp=>by obtain⟨i,hi,a,_⟩:=ql.1 hp;exact⟨i,hi,a⟩
 have pair:∀p∈eu t,∀q∈eu t,(gq s (l.get p.1.toNat)).Low<=(gq s (l.get q.1.toNat)).High:=λp hp q hq=>by
  obtain⟨i,hi,a⟩:=hits p hp;obtain⟨j,hj,b⟩:=hits q hq;rw[<- a,<- b];rcases qdw i j with c|c|c
  exact(zcm (bs i j c hj)).1;subst c;have:=G.hit hi;exact zqZ he omY;exact(zcm (bs j i c hi)).2
 have tim:Nu s l (eu t)=true:=by
  rw[Tu ne];have mx:∀c:iJ,c≠[]->∃p∈c,∀q∈c,(gq s (l.get q.1.toNat)).Low<=(gq s (l.get p.1.toNat)).Low:=by
   intro c
   induction c with
   | nil=>intro h;exact absurd rfl h
   | cons p c ih =>
    intro _;by_cases e:c=[];subst e;exact⟨p,jM,λq hq=>by rw[kK.1 hq];omega⟩;obtain⟨u,hu,hm⟩:=ih e;by_cases le:(gq s (l.get u.1.toNat)).Low<=(gq s (l.get p.1.toNat)).Low;refine⟨p,jM,fun q hq => ?_⟩;rcases jW.1 hq with e|h
    rw[e];omega;have:=hm q h;omega;refine⟨u,jB _ hu,fun q hq => ?_⟩;rcases jW.1 hq with e|h
    rw[e];omega;exact hm q h
  obtain⟨p,hp,hm⟩:=mx _ ne;exact⟨_,λq hq=>⟨hm q hq,pair p hp q hq⟩⟩
 have ag:Bj s l (eu t)=true:=by
  unfold Bj;rw[tim,<- SS (t:=t) rfl,as1];rfl
 have vx:t.View=1\/t.View=2:=by
  exact qde vw
 have fit:oJ s l t.View r (eu t)=true:=by
  unfold oJ;rw[iw,fH,oO,oO];exact⟨omY,omY⟩
 obtain⟨u,hu,u1,u2⟩:=f2.has vx (Qu.2 ⟨zqY he h24 v ne ag,fit⟩);obtain⟨m,hm,TM⟩:=f2.max he h24 hu;rw[uU,u1,u2]at TM;have cm:=ct m hm;obtain⟨jm,vm⟩:=cm.vl;obtain⟨le,eq⟩:=zcg (c:=eu t) (d:=eu m) (v.pw.imp λh=>h.1) (vm.pw.imp λh=>h.1) TM.1;rw[iw,iw]at le eq;have ng:=gs m hm;have nl:¬(m.Hits.len:Int)>(t.Hits.len:Int):=λTN=>by
  unfold EO at ng;rw[dK TN,qdq]at ng;have:wJ m t=true:=uU.2 ⟨TM.1,TM.2⟩;rw[this]at ng;cases ng
 exact⟨m,hm,Prod.ext TM.2.symm (eq omY).symm⟩
def zq6(a b:af):Bool:=(a.View==b.View)&&((cmpL (kG a.Hits) (kG b.Hits)==0)&&(cmpL (kG a.aX) (kG b.aX)==0))
abbrev Q52(C:af×af->ae Bool):Prop:=∀a b,One a->One b->a.aX.len=a.Hits.len->b.aX.len=b.Hits.len->C (a,b)=.ok (zq6 a b)
theorem s52{E:E52}(h38:zek E.c38):Q52 (F52 E):=λa b ha hb sa sb=>ae.ext λk=>by
 have la:=ha.le;have lb:=hb.le;rw[e52,h38 _ _ omY omY,bf,h38 _ _ omY omY,bf,bf];unfold zq6;cases a.View==b.View<;>cases cmpL (kG a.Hits) (kG b.Hits)==0<;>rfl
theorem zq7{a b:af}(sa:a.aX.len=a.Hits.len)(sb:b.aX.len=b.Hits.len)(h:lZ a=lZ b):zq6 a b=true:=by
 have h1:a.View=b.View:=jF Prod.fst h;have h2:eu a=eu b:=jF Prod.snd h;unfold zq6;rw[<- zcj,<- zcj,<- zck sa,<- zck sb,h1,h2,Bi.2 rfl,Bi.2 rfl];simp
theorem Ey{x:Nat}(h:x<2^63):IntKind.i64.wrap (x:Int)=(x:Int):=by
 have h:x<9223372036854775808:=h;exact aZ omY omY
theorem qB{x:Nat}(h:x<2^63):(BitVec.ofInt 64 (x:Int)).toNat=x:=by
 have h:x<9223372036854775808:=h;rw[BitVec.toNat_ofInt];have:((x:Int)%((2^64:Nat):Int))=(x:Int):=Int.emod_eq_of_lt omY (by show(x:Int)<18446744073709551616;omega);rw[this,fQ]
theorem Ez{a b:Nat}(ha:a<2^63)(hb:b<2^63):orW .i64 (a:Int) (b:Int)=((a ||| b:Nat):Int):=by
 unfold orW;have e:(BitVec.ofInt IntKind.i64.bits (a:Int) ||| BitVec.ofInt IntKind.i64.bits (b:Int)).toNat=a ||| b:=by
  show(BitVec.ofInt 64 (a:Int) ||| BitVec.ofInt 64 (b:Int)).toNat=a ||| b
  rw[BitVec.toNat_or,qB ha,qB hb]
 rw[e,Ey (qdG ha hb)]
theorem uX{a b:Nat}(ha:a<2^63)(hb:b<2^63):N7 .i64 (a:Int) (b:Int)=((a &&& b:Nat):Int):=by
 unfold N7;have e:(BitVec.ofInt IntKind.i64.bits (a:Int) &&& BitVec.ofInt IntKind.i64.bits (b:Int)).toNat=a &&& b:=by
  show(BitVec.ofInt 64 (a:Int) &&& BitVec.ofInt 64 (b:Int)).toNat=a &&& b;rw[BitVec.toNat_and,qB ha,qB hb]
 rw[e,Ey (Nat.and_lt_two_pow a hb)]
theorem zkn{i:Nat}(h:i<40):Qw .i64 (1:Int) (i:Int)=((2^i:Nat):Int):=by
 unfold Qw;have e:min (i:Int).toNat IntKind.i64.bits=i:=by show min (i:Int).toNat 64=i;omega
 have hp:(2:Nat)^i<2^63:=jqY omY omY;rw[e,Int.one_mul,<- Ey hp];congr 1
theorem ztw{i:Nat}(h:i<40):(2:Nat)^i<2^40:=jqY omY h
def Sm(t:af):Prop:=t.Hits.len<=100/\∀i,i<t.Hits.len->0<=t.Hits.get i/\t.Hits.get i<40
def bt(t:af):Nat→Nat
  | 0=>0
  | i+1=>bt t i ||| 2^(t.Hits.get i).toNat
theorem zcn{t:af}(h:Sm t):∀i,i≤t.Hits.len→bt t i<2^40|0,_=>(by decide:0<2^40)|i+1,hi=>qdG (zcn h i omY) (ztw (by have:=h.2 i omY;omega))
theorem zE9{a:Nat}(h:a<2^40):a<2^63:=jqT h (by decide)
abbrev Q99(C:af->ae Int):Prop:=∀t,Sm t->C t=.ok (bt t t.Hits.len:Int)
theorem s99{E:E99}(N:Big E.N):Q99 (F99 E):=λt h=>ae.ext λk=>by
 have hN:=N;rw[e99,bf];refine pK (X:=λn i=>zbO E n t (bt t i:Int) (i:Int) k) (m:=t.Hits.len) (λn i hi=>?_) (λn=>?_) E.N (by have:=h.1;omega);have:=h.2 i hi;have e:t.Hits.get i=(((t.Hits.get i).toNat:Nat):Int):=by omega
 rw[zs9,dK omY,dU,bF omY,fQ,bF this.1,bJ (by have:=h.1;omega)];congr 1;rw[e,zkn omY,Ez (zE9 (zcn h i omY)) (zE9 (ztw omY))];rfl;rw[zs9,dV omY];rfl
theorem zFa{s:au}{l:Sl bu}{t:af}(h:jE s l t):Sm t:=by
 obtain⟨j,hv⟩:=h.vl;refine⟨h.one.le,λi hi=>?_⟩;have:=(hv.mem (t.Hits.get i,t.aX.get i) (ql.2 ⟨i,hi,rfl,rfl⟩)).1;have:=hv.le.2;have:=h.ev.l24;constructor<;>omega
theorem H5.chs{s:au}{r:bI}{l:Sl bu}{f:found}(h:H5 s r l f)(he:Evt s l)(h24:l.len<=24){i:Nat}(hi:i<f.ax.len):jE s l (f.ax.get i):=h.chosen he h24 (h.sub (gz.2 ⟨i,hi,rfl⟩))
theorem zko{α:Type}(w:Sl α):ls w=(List.range' 0 w.len).map w.get:=by unfold ls;rw[dqV]
theorem zco{α:Type}[DecidableEq α]:∀{L M:List α},L.Nodup→(∀x∈L,x∈M)→L.length≤M.length
  | [],_,_,_=>xn _
  | x::L,M,hn,hs=>by
    have hx:=hs x jM;have h1:=qdc.1 hn;have:=zco (L:=L) (M:=M.erase x) h1.2 λy hy=>(List.mem_erase_of_ne (λe=>h1.1 (by rw[<- e];exact hy))).2 (hs y (jB _ hy));rw[List.length_erase_of_mem hx]at this;have:=jqH hx;rw[xm];omega
section
variable(s:au)(l:Sl bu)(x:Int)
def ZR(p:Nat):Nat→iJ|0=>[]|i+1=>ZR p i++cond ((l.get i).aj==(p:Int)&&EM s l i==x) ((List.range' 0 (qc s l i)).map λ(k:Nat)=>((i:Int),(k:Int))) []
def chE:Nat→List iJ|0=>[[]]|p+1=>chE p++(chE p).flatMap λe=>(ZR s l x p l.len).map λq=>q::e
end
section
variable{s:au}{l:Sl bu}{x:Int}
theorem zcp(p:Nat):∀i,((ZR s l x p i).length:Int)=Ba s l x (p:Int) i
  | 0=>rfl
  | i+1=>by
    simp only[ZR,Ba,BG];rw[<- zcp p i];cases(l.get i).aj==(p:Int)&&EM s l i==x<;>simp
theorem zkp (S : iJ) (j : Nat) : ∀ L : List iJ, (L.flatMap fun e => S.map fun q => q :: e).countP (fun e => e.length == j + 1) = S.length * L.countP fun e => e.length == j
  | []=>by simp
  | e::L=>by
    rw[lX,qjA,zkp S j L,qdV,Nat.mul_add,qjR];congr 1;rw[List.countP_map];by_cases h:e.length=j;rw [dH (by simpa using h),qjW];refine List.countP_eq_length.2 λq _=>?_;simp[h];rw [dM (by simpa using h),Nat.mul_zero];refine qjZ.2 λq _=>?_;simp[h]
theorem ZT (S : iJ) : ∀ L : List iJ, (L.flatMap fun e => S.map fun q => q :: e).length = L.length * S.length|[]=>by simp|e::L=>by rw[lX,BG,ZT S L,qda,xm,Nat.add_mul];omega
theorem ztx(S:iJ):∀L:List iJ,(L.flatMap λe=>S.map λq=>q::e).countP (λe=>e.length==0)=0:=λL=>by
 refine qjZ.2 λe he=>?_;obtain⟨_,_,h⟩:=jJ.1 he;obtain⟨q,_,rfl⟩:=rY.1 h;simp
theorem Tv:∀p,∀e∈chE s l x p,e.length≤p
  | 0,e,h=>by simp[chE]at h;subst h;exact jy _
  | p+1,e,h=>by
    simp only[chE,dG]at h;rcases h with h|h
    have:=Tv p e h;omega;obtain⟨d,hd,h⟩:=jJ.1 h;obtain⟨q,_,rfl⟩:=rY.1 h;have:=Tv p d hd;rw[xm];omega
def Gs(s:au)(l:Sl bu)(x:Int)(i:Nat):Nat→Nat|0=>0|p+1=>Gs s l x i p+(ZR s l x p i).length
theorem zkq:∀p,Gs s l x 0 p=0|0=>rfl|p+1=>by simp only[Gs,zkq p,ZR];rfl
theorem zkr(i:Nat):∀p,Gs s l x (i+1) p≤Gs s l x i p+2∧((p:Int)≤(l.get i).aj→Gs s l x (i+1) p=Gs s l x i p)
  | 0=>⟨xn _,λ_=>rfl⟩
  | p+1=>by
    obtain⟨h1,h2⟩:=zkr i p;have hg:=Jk s l i;simp only[Gs,ZR,BG];by_cases hp:(l.get i).aj=(p:Int);have e:=h2 omY;have:(cond ((l.get i).aj==(p:Int)&&EM s l i==x) ((List.range' 0 (qc s l i)).map λ(k:Nat)=>((i:Int),(k:Int))) []).length<=2:=by
      cases(l.get i).aj==(p:Int)&&EM s l i==x;exact xn _;simpa using hg
    exact⟨omY,λh=>by omega⟩;rw [show((l.get i).aj==(p:Int))=false by simpa using hp,qd1,dQ,X6];exact⟨omY,λh=>by rw[h2 omY];omega⟩
theorem zcq(p:Nat):∀i,Gs s l x i p≤2*i|0=>by rw[zkq];exact xn _|i+1=>by have:=zcq p i;have:=(zkr (s:=s) (l:=l) (x:=x) i p).1;omega
theorem zcr:∀p,(chE s l x p).length≤2^Gs s l x l.len p
  | 0=>by simp[chE,Gs]
  | p+1=>by
    simp only[chE,Gs,BG,ZT,Nat.pow_add];have h:=zcr p;have h2:(ZR s l x p l.len).length+1<=2^(ZR s l x p l.len).length:=Nat.lt_two_pow_self
    calc _ = (chE s l x p).length * ((ZR s l x p l.len).length + 1) := by rw [Nat.mul_add, qjW, qjR]
      _<=_:=qjF h h2
theorem ZU(h24:l.len<=24)(p:Nat):(chE s l x p).length<=281474976710656:=by
 have h:=zcr (s:=s) (l:=l) (x:=x) p;have h2:=zcq (s:=s) (l:=l) (x:=x) p l.len;exact BH h (BH (qdO (by decide) (show Gs s l x l.len p<=48 by omega)) (by decide))
theorem Tz (h24 : l.len ≤ 24) : ∀ p j, cf (fun p => Ba s l x (p : Int) l.len) p j = ((chE s l x p).countP fun e => e.length == j : Int)
  | 0,j=>by
    simp only[cf,chE];rw[qdV,List.countP_nil];cases j with|zero=>rfl|succ j=>rfl
  | p+1,0=>by
    simp only[cf,chE];rw[Tz h24 p 0,qjA,ztx,qdQ]
  | p+1,j+1=>by
    have c1:(chE s l x p).countP (λe=>e.length==j+1)<=(chE s l x p).length:=qjS;have c3:(chE s l x (p+1)).countP (λe=>e.length==j+1)<=(chE s l x (p+1)).length:=qjS;have b1:=ZU (s:=s) (l:=l) (x:=x) h24 p;have b3:=ZU (s:=s) (l:=l) (x:=x) h24 (p+1);have e:(chE s l x (p+1)).countP (λe=>e.length==j+1)=(chE s l x p).countP (λe=>e.length==j+1)+(ZR s l x p l.len).length*(chE s l x p).countP λe=>e.length==j:=by
      simp only[chE];rw[qjA,zkp]
    simp only[cf];rw[Tz h24 p (j+1),Tz h24 p j,<- zcp,<- Int.natCast_mul];have hi:aQ (((ZR s l x p l.len).length*(chE s l x p).countP (λe=>e.length==j):Nat):Int)=(((ZR s l x p l.len).length*(chE s l x p).countP (λe=>e.length==j):Nat):Int):=aZ omY omY;rw[hi,aZ omY omY,e];omega
theorem zq8{L:List iJ}{a b:Nat}(h:a<=b):(L.countP λe=>decide (a<=e.length/\e.length<b+1))=(L.countP λe=>decide (a<=e.length/\e.length<b))+L.countP λe=>e.length==b:=by
 induction L with
 | nil=>rfl
 | cons e L ih =>
  rw[qdV,qdV,qdV,ih];by_cases h1:e.length=b;rw[dH (by simp;omega),dM (by simp;omega),dH (by simpa using h1)];omega;by_cases h2:a≤e.length∧e.length<b;rw[dH (by simp;omega),dH (by simpa using h2),dM (by simpa using h1)];omega;rw[dM (by simp;omega),dM (by simpa using h2),dM (by simpa using h1)];omega
theorem zks (h24 : l.len ≤ 24) (p a : Nat) : ∀ d v, a ≤ v → tlS (cf (fun p => Ba s l x (p : Int) l.len) p) d ((chE s l x p).countP fun e => decide (a ≤ e.length ∧ e.length < v) : Int) v = ((chE s l x p).countP fun e => decide (a ≤ e.length ∧ e.length < v + d) : Int)
  | 0,v,_=>rfl
  | d+1,v,h=>by
    simp only[tlS];have b:=ZU (s:=s) (l:=l) (x:=x) h24 p;have c:(chE s l x p).countP (λe=>decide (a<=e.length/\e.length<v+1))<=(chE s l x p).length:=qjS;have e:=zq8 (L:=chE s l x p) h;rw[Tz h24,<- Int.natCast_add,<- e,aZ omY omY,zks h24 p a d (v+1) omY,show v+1+d=v+(d+1)by omega]
theorem zq9(h24:l.len<=24)(a:Int):chN s l x a=((chE s l x s.ak.len).countP λe=>decide ((uD a).toNat<=e.length):Int):=by
 unfold chN;have z:(chE s l x s.ak.len).countP (λe=>decide ((uD a).toNat<=e.length/\e.length<(uD a).toNat))=0:=qjZ.2 λe _=>by simp
 have h:=zks (s:=s) (l:=l) (x:=x) h24 s.ak.len (uD a).toNat (s.ak.len+1-(uD a).toNat) (uD a).toNat (jy _);rw[z]at h;refine h.trans ?_;congr 1;refine List.countP_congr λe he=>?_;have:=Tv _ e he;simp only[oO];omega
end
def wp(i:Int):aj:=⟨1,1,i,0,100,1,0,⟨0,0⟩,⟨0,0⟩,0,0,⟨0,λ_=>⟨0,⟨0,0⟩⟩⟩,⟨0,λ_=>0⟩⟩
def wh(i:Int):bu:=⟨i,0,1,0,0,0⟩
structure Wd (n : Nat) (s : au) (l : Sl bu) : Prop where
  n1:1<=n
  n2:n<=12
  sl:s.ak.len=n
  ll:l.len=n
  p:∀i,i<n->s.ak.get i=wp (i:Int)
  h:∀i,i<n->l.get i=wh (i:Int)
theorem zFb{i:Int}(h:0<=i/\i<=100):plB (wp i)=true:=by
 have a:lfP (wp i) = -100:=by kernel_rfl
 have b:rtP (wp i)=200:=by kernel_rfl
 have n:VQ (wp i):=by
  unfold VQ;rw[a,b];simp only[wp];omega
 unfold plB;rw[dK n];rfl
section
variable{n:Nat}{s:au}{l:Sl bu}
theorem Wd.sh(w:Wd n s l):qO s:=⟨by rw[w.sl];have:=w.n2;omega,λi hi=>by rw[w.p i (by rw[<- w.sl];exact hi)];exact⟨xn _,xn _⟩⟩
theorem Wd.set(w:Wd n s l):fF s=true:=by
 have h1:=w.n1;have h2:=w.n2;unfold fF;rw[fH,w.sl,dD];refine⟨by unfold inB;exact dK omY,λi hi=>?_⟩;unfold seB;rw[w.p i hi,zFb ⟨omY,omY⟩,qdq];by_cases h0:i=0;rw[dK h0];rfl;rw [dV h0,w.p (i-1) omY];exact dK (by show((i-1:Nat):Int)<(i:Int);omega)
theorem Wd.hit(w:Wd n s l):Hy s l=true:=by
 have h2:=w.n2;unfold Hy;rw[w.ll,dD];intro i hi;unfold o5;rw[w.h i hi,w.sl];show(decide (0<=(i:Int)/\(i:Int)<(n:Int))&&hpB (s.ak.get ((i:Int)).toNat) (wh (i:Int)))=true;rw[fQ,w.p i hi,dK omY];rfl
theorem Wd.evt(w:Wd n s l):Evt s l:=⟨w.sh,w.set,w.hit,by have:=w.ll;have:=w.n2;omega⟩
theorem Wd.l24(w:Wd n s l):l.len<=24:=by have:=w.ll;have:=w.n2;omega
theorem Wd.ref(w:Wd n s l):jT s ⟨1,0⟩ l=0:=by
 unfold jT;rw[dV (show ¬l.len>24 by have:=w.l24;omega),w.set,w.hit];rfl
theorem Wd.pl(w:Wd n s l){i:Nat}(hi:i<n):(l.get i).aj=(i:Int):=by rw[w.h i hi];rfl
theorem Wd.vw(w:Wd n s l){i:Nat}(hi:i<n):EM s l i=1:=by
 unfold EM;rw[w.h i hi];show(s.ak.get ((i:Int)).toNat).View=1;rw[fQ,w.p i hi];rfl
theorem Wd.ga(w:Wd n s l){i:Nat}(hi:i<n):Ac s (l.get i)=⟨1,λ_=>⟨(i:Int),0,100⟩⟩:=by
 unfold Ac;rw[w.h i hi];show gaP (s.ak.get ((i:Int)).toNat) _=_;rw[fQ,w.p i hi]
 kernel_rfl
theorem Wd.gl(w:Wd n s l){i:Nat}(hi:i<n):qc s l i=1:=by unfold qc;rw[w.ga hi]
theorem Wd.tm(w:Wd n s l){i:Nat}(hi:i<n):gq s (l.get i)=⟨0,0⟩:=by
 unfold gq;rw[w.h i hi];show zjX (s.ak.get ((i:Int)).toNat) _=_;rw[fQ,w.p i hi]
 kernel_rfl
def wl:straight:=⟨0,50,1⟩
theorem zty:Ae wl:=by unfold Ae wl;simp only;omega
theorem Wd.tru(w:Wd n s l){c:iJ}{j:Nat}(hv:Val s l 1 c j):Tru s l wl 0 c:=λp hp=>by
 obtain⟨h1,_,h3⟩:=hv.mem p hp;have:=hv.le;have hi:p.1.toNat<n:=by have:=w.ll;omega
 rw[w.tm hi,w.ga hi];exact⟨by unfold iq iG wl;exact dK (by simp only;omega),qju _,qju _⟩
theorem Wd.ag(w:Wd n s l){c:iJ}{j:Nat}(hv:Val s l 1 c j)(hn:c≠[]):Bj s l c=true:=zkh w.evt w.l24 hv hn zty (w.tru hv)
theorem Wd.us(w:Wd n s l){c:iJ}{i j:Nat}(hv:Val s l 1 c i)(hi:i<=j)(hj:j<n):Gl l c (j:Int)=false:=by
 unfold Gl;rw[qdP];intro q hq;obtain⟨h1,_⟩:=hv.mem q hq;rw[fQ,w.pl hj,w.pl (i:=q.1.toNat) omY];simp;omega
theorem Wd.sdK(w:Wd n s l){i:Nat}(hi:i<n)(d:Nat):IA s l 1 (d+1) i=((i:Int),(0:Int))::IA s l 1 d (i+1):=by
 rw[IA,w.vw hi,w.gl hi];rfl
theorem Val.up{x:Int}{c:iJ}{i j:Nat}(hv:Val s l x c i)(h:i<=j)(hj:j<=l.len):Val s l x c j :=
 ⟨by have:=hv.le;omega,λp hp=>⟨by have:=(hv.mem p hp).1;omega,(hv.mem p hp).2⟩,hv.pw⟩
theorem Wd.gr(w:Wd n s l):∀(f:Nat)(c:iJ)(i:Nat),Val s l 1 c i→i≤n→n-i≤f→(gr (Bj s l) (Gl l) (Nj s l 1) f c i).length+1=2^(n-i)
  | 0,c,i,_,hi,hf=>by rw[show n-i=0 by omega];rfl
  | f+1,c,i,hv,hi,hf=>by
    have ll:=w.ll;have key:∀(d j:Nat),j+d=n->i<=j->((IA s l 1 d j).flatMap λp=>cond (Gl l c p.1 || !Bj s l (c++[p])) [] ((c++[p])::Go.Proofs.gr (Bj s l) (Gl l) (Nj s l 1) f (c++[p]) (p.1.toNat+1))).length+1=2^d:=by
      intro d
      induction d with
      | zero=>intro j _ _;rfl
      | succ d ih =>
        intro j hj IR;have hvj:=hv.up IR (show j<=l.len by omega);have hp:((j:Int),(0:Int))∈Nj s l 1 j:=(Jp omY).2 ⟨⟨by show(j:Int)<=(j:Int);omega,by show(j:Int)<_;omega⟩,by show EM s l ((j:Int)).toNat=1;rw[fQ];exact w.vw omY,by show(0:Int)<=0;omega,by show(0:Int)<(qc s l ((j:Int)).toNat:Int);rw[fQ,w.gl omY];decide⟩;have hu:=w.us hv IR (show j<n by omega);have hs:=hvj.snoc hp hu;have ha:=w.ag hs (by simp);rw[w.sdK omY,lX,BG];have e1:=ih (j+1) omY omY;have hs2:Val s l 1 (c++[((j:Int),(0:Int))]) (j+1):=by have:=hs;rwa[show(((j:Int),(0:Int)).1.toNat+1)=j+1 from by show((j:Int)).toNat+1=_;rw[fQ]]at this
        have e2:=w.gr f (c++[((j:Int),(0:Int))]) (j+1) hs2 omY omY;rw[show n-(j+1)=d by omega]at e2;have e3:(cond (Gl l c (((j:Int),(0:Int))).1 || !Bj s l (c++[((j:Int),(0:Int))])) [] ((c++[((j:Int),(0:Int))])::Go.Proofs.gr (Bj s l) (Gl l) (Nj s l 1) f (c++[((j:Int),(0:Int))]) ((((j:Int),(0:Int))).1.toNat+1))).length=2^d:=by
          rw[show Gl l c (((j:Int),(0:Int))).1=false from hu,ha];show(Go.Proofs.gr _ _ _ f _ (((j:Int)).toNat+1)).length+1=_;rw[fQ];exact e2
        rw[e3,Nat.pow_succ];omega
    have:=key (n-i) i omY (jy _);rw[<- ll]at this ⊢;exact this
theorem Wd.all1(w:Wd n s l):(iE s l 1).length+1=2^n:=by
 have:=w.gr 30 [] 0 ⟨⟨jy _,xn _⟩,(λp h=>by cases h),List.Pairwise.nil⟩ (xn _) (by have:=w.n2;omega);exact this
theorem Wd.sd2(w:Wd n s l):∀d i,i+d=n→IA s l 2 d i=[]|0,_,_=>rfl|d+1,i,h=>by rw[IA,w.vw omY,w.sd2 d (i+1) omY];rfl
theorem Wd.all2(w:Wd n s l):iE s l 2=[]:=by
 show(IA s l 2 (l.len-0) 0).flatMap _=[];rw[w.sd2 (l.len-0) 0 (by have:=w.ll;omega)];rfl
theorem Wd.sdP1(w:Wd n s l){p:Nat}(hp:p<n):∀i,i≤n→(ZR s l 1 p i).length=if p<i then 1 else 0
  | 0,_=>rfl
  | i+1,hi=>by
    have ih:=w.sdP1 hp i omY;simp only[ZR,BG];rw[ih,w.pl omY,w.vw omY,w.gl omY];by_cases h:i=p;subst h;simp;rw [show((i:Int)==(p:Int))=false by simp;omega];by_cases h2:p<i;rw[dH h2,dH omY];rfl;rw[dM h2,dM omY];rfl
theorem Wd.chE (w : Wd n s l) : ∀ p, p ≤ n → (chE s l 1 p).length = 2 ^ p ∧ (chE s l 1 p).countP (fun e => e.length == 0) = 1
  | 0,_=>⟨rfl,rfl⟩
  | p+1,hp=>by
    obtain⟨h1,h2⟩:=w.chE p omY;have e:=w.sdP1 (p:=p) omY l.len (by have:=w.ll;omega);rw[dH (by have:=w.ll;omega)]at e;simp only[Go.Proofs.chE];rw[BG,ZT,h1,e,qjA,h2,ztx,Nat.pow_succ];omega
theorem Wd.chN(w:Wd n s l):chN s l 1 1=((2^n-1:Nat):Int):=by
 obtain⟨h1,h2⟩:=w.chE n (jy _);rw[zq9 w.l24,w.sl];have:(Go.Proofs.chE s l 1 n).countP (λe=>decide ((uD 1).toNat<=e.length))+(Go.Proofs.chE s l 1 n).countP (λe=>e.length==0)=(Go.Proofs.chE s l 1 n).length:=by
  generalize Go.Proofs.chE s l 1 n=L
  induction L with
  | nil=>rfl
  | cons e L ih =>
   rw[qdV,qdV,xm];have f1:(uD 1).toNat=1:=rfl;rw[f1]at ih ⊢;by_cases h:e.length=0;rw[dM (by simp;exact qdF.1 h),dH (by simpa using h)];omega;rw[dH (by simp;omega),dM (by simpa using h)];omega
 rw[h1,h2]at this;have p:=Nat.pow_pos (n:=n) (show 0<2 by decide);omega
theorem Wd.few(w:Wd n s l):(zel s l 1&&zel s l 2)=decide (n<=10):=by
 rw[og,og,w.all2];have h:=w.all1;have h2:=w.n2;by_cases c:n<=10;have:2^n≤2^10:=qdO (by decide) c;rw[dK c,dK omY];rfl;have:2^11≤2^n:=qdO (by decide) omY;rw[dV c,dV omY];rfl
theorem Wd.err(w:Wd n s l){b:Bool}:rV s ⟨1,0⟩ l b=cond (!b) 2 (cond (decide (n<=10)) 0 8):=by
 unfold rV;rw[w.ref,w.few];rfl
def cT(n:Nat):iJ:=(List.range n).map λ(i:Nat)=>((i:Int),(0:Int))
theorem Wd.full(w:Wd n s l){t:af}(h:jE s l t)(hv:t.View=1)(hn:n<=t.Hits.len):eu t=cT n:=by
 obtain⟨j,v⟩:=h.vl;rw[hv]at v;have ll:=w.ll;have le:=v.le;rw[iw]at le;have e:t.Hits.len=n:=by omega
 have pw:=qdg.1 v.pw;have mem:∀i,i<n->(0<=t.Hits.get i/\t.Hits.get i<(n:Int))/\t.aX.get i=0:=λi hi=>by
  have m:=v.mem (t.Hits.get i,t.aX.get i) (ql.2 ⟨i,omY,rfl,rfl⟩);simp only at m;have hh:(t.Hits.get i).toNat<n:=by omega
  rw[w.gl hh]at m;omega
 have lt:∀i,i+1<n->t.Hits.get i<t.Hits.get (i+1):=λi hi=>by
  have:=(pw i (i+1) (by rw[iw];omega) (by rw[iw];omega) omY).1;have e1:=zk (t:=t) (i:=i) omY;have e2:=zk (t:=t) (i:=i+1) omY;rw[Ai (by rw[iw];omega),bG]at e1 e2;rw[e1,e2]at this;exact this
 have up:∀i,i<n->(i:Int)<=t.Hits.get i:=by
  intro i
  induction i with|zero=>intro h0;have:=(mem 0 h0).1;omega|succ i ih=>intro hi;have:=ih omY;have:=lt i hi;omega
 have dn:∀d i,i+d+1=n->t.Hits.get i<=(i:Int):=by
  intro d
  induction d with|zero=>intro i hi;have:=(mem i omY).1;omega|succ d ih=>intro i hi;have:=ih (i+1) omY;have:=lt i omY;omega
 unfold eu cT;rw[e];refine dqU λi hi=>?_;have hi:i<n:=Ak.1 hi;have a:=up i hi;have b:=dn (n-i-1) i omY;rw[(mem i hi).2,show t.Hits.get i=(i:Int)by omega]
theorem Wd.one(w:Wd n s l){f:found}(F:H5 s ⟨1,0⟩ l f):f.ax.len=1/\(f.ax.get 0).View=1/\eu (f.ax.get 0)=cT n:=by
 have he:=w.evt;have h24:=w.l24;have ll:=w.ll;have n1:=w.n1;let u:Sl Int:=⟨n,λi=>(i:Int)⟩;have own:Own s l 1 wl 0 u l.len:=by
  refine⟨⟨by show n<=_;omega,jy _⟩,λj hj=>?_,λj k hjk hk=>?_⟩;have hj:j<n:=hj;refine⟨⟨by show 0<=(j:Int);omega,by show(j:Int)<_;omega⟩,?_⟩;show zyC s l 1 wl 0 ((j:Int)).toNat;rw[fQ];refine⟨w.vw hj,by rw[w.tm hj];exact⟨qju _,qju _⟩,0,by rw[w.gl hj];decide,?_⟩;rw[w.ga hj];unfold iq iG wl;exact dK (by simp only;omega);have hk:k<n:=hk;refine⟨by show(j:Int)<(k:Int);omega,?_⟩;show(l.get ((j:Int)).toNat).aj≠(l.get ((k:Int)).toNat).aj;rw[fQ,fQ,w.pl omY,w.pl hk];omega
 have ms:msN s l 1 wl u=0:=by
  unfold msN;rw[qdF,jqI];intro k hk;have hk:k<n:=by have:=List.mem_range'_1.1 hk;have:=w.sl;omega
  have:owP l u k=true:=by
   unfold owP;rw[qjj];refine⟨(k:Int),gz.2 ⟨k,hk,rfl⟩,?_⟩;rw[fQ,w.pl hk];exact qji _
  unfold msR;rw[this,Bool.or_true];exact Bool.false_ne_true
 obtain⟨m,hm,mv,mh⟩:=zeo F he h24 (by decide) (.inl rfl) zty own (by show(1:Int)<=(n:Int);omega) (by rw[ms];decide);have chs:∀t∈ls f.ax,jE s l t/\t.View=1:=λt ht=>by
  have c:=F.chosen he h24 (F.sub ht);obtain⟨v,_,k⟩:=F.fit (F.sub ht);refine⟨c,v.resolve_right λe=>?_⟩;rw[e,w.all2]at k;cases k
 -- a track with all hits
 have mn:n<=m.Hits.len:=by
  have:=zco (L:=(List.range n).map λ(i:Nat)=>(i:Int)) (M:=kG m.Hits) (by
   unfold List.Nodup;rw[qjf];exact List.nodup_range.imp λh e=>h omY) (λx hx=>by
    obtain⟨i,hi,rfl⟩:=rY.1 hx;obtain⟨j,hj,e⟩:=mh i (Ak.1 hi);exact gz.2 ⟨j,hj,e⟩)
  rw[Em,qda,qje]at this;exact this
 have mc:=w.full (chs m hm).1 mv mn;have all:∀t∈ls f.ax,eu t=cT n:=λt ht=>by
  obtain⟨c,tv⟩:=chs t ht;refine w.full c tv ?_;refine qjH λjv=>?_;have k:=(Qu.1 (F.tr.mem_iff.1 ht)).2;rw[NQ,qdP]at k;refine k m (F.sub hm) ?_;unfold EO;rw[fH];refine⟨dK omY,uU.2 ⟨λp hp=>?_,tv.trans mv.symm⟩⟩;obtain⟨j,v⟩:=c.vl;rw[tv]at v;obtain⟨h1,_,h3⟩:=v.mem p hp;have:=v.le;have hi:p.1.toNat<n:=by omega
  rw[w.gl hi]at h3;rw[mc];unfold cT;exact rY.2 ⟨p.1.toNat,Ak.2 hi,Prod.ext (by show((p.1.toNat:Nat):Int)=p.1;omega) (by show(0:Int)=p.2;omega)⟩
 have pos:0<f.ax.len:=by
  obtain⟨i,hi,_⟩:=gz.1 hm;omega
 refine⟨?_,(chs _ (gz.2 ⟨0,pos,rfl⟩)).2,all _ (gz.2 ⟨0,pos,rfl⟩)⟩;refine qjH λh=>?_;have h1:1<f.ax.len:=by omega
 have m0:f.ax.get 0∈ls f.ax:=gz.2 ⟨0,pos,rfl⟩;have m1:f.ax.get 1∈ls f.ax:=gz.2 ⟨1,h1,rfl⟩;have st:=qdg.1 F.st 0 1 (by rw[jL];omega) (by rw[jL];omega) (by decide);have e0:(ls f.ax)[0]? = some (f.ax.get 0):=Nw pos;have e1:(ls f.ax)[1]? = some (f.ax.get 1):=Nw h1;rw[Ai (by rw[jL];omega),bG]at e0 e1;rw[e0,e1]at st;have c0:=chs _ m0;have c1:=chs _ m1;have k:=(zE3 c0.1.tv.2 c1.1.tv.2).2 st;have e2:lZ (f.ax.get 0)=lZ (f.ax.get 1):=by
  show(_,eu _)=(_,eu _);rw[c0.2,c1.2,all _ m0,all _ m1]
 rw[e2]at k;exact zkm k k
end
structure E31 where
 N:Nat
 c72:au×bI×(Sl bu)×(Sl Bool)->ae (Int ⊕ ((Pt found)×Int))
 c92:af×af->ae Bool
 c93:(Pt aH)×af->ae (bC×Bool)
abbrev G31(E:E31):bM:=jc (((Tabs.nil.addF 72 (ae.unA E.c72)).addF 92 (ae.un E.c92)).addF 93 (ae.un E.c93)) [41]
def A31:dI:=bZ aJ 31 [] {ks:=[(1,18,⟨[],[(17,148,66)],[],[],[],[10],[]⟩),(1,21,⟨[],[(17,148,66)],[],[],[],[10],[]⟩)]}
def F31(E:E31):au×bI×(Sl bu)->ae ((Sl iC)×Int):=ae.ty (aF aJ E.N (G31 E) A31 31)
section
variable(E:E31){A:Type}(k:((Sl iC)×Int)->Option A)
def Xg(E:E31)(n:Nat)(v8:Pt found)(v45:Sl af)(v46 Yf:Int)(NT:Sl (Sl bC)){A:Type}(k:((Sl iC)×Int)->Option A):Option A:=kC aJ (G31 E) E.N A31 31 [1,1,1,1,0,1,0] [.n n] (kz k) ⟨[(8,eP v8),(10,.cl (.vec 41)),(45,eP v45),(46,.int v46),(47,.int Yf)],[(41,eW 166 24 105 2 16 NT)],[]⟩
def Ie(E:E31)(n0 n:Nat)(v8:Pt found)(v11:Int)(v45:Sl af)(v46 Yf:Int)(v55:Sl af)(v56 v57:Int)(NT:Sl (Sl bC))(x12:af){A:Type}(k:((Sl iC)×Int)->Option A):Option A:=kC aJ (G31 E) E.N A31 31 [1,1,1,1,0,1,0,0,1,1,0,0,1,1,0] [.n n0,.n n] (kz k) ⟨[(8,eP v8),(10,.cl (.vec 41)),(11,.int v11),(12,.cl (.ptr 12 0)),(45,eP v45),(46,.int v46),(47,.int Yf),(55,eP v55),(56,.int v56),(57,.int v57)],[(41,eW 166 24 105 2 16 NT),(12,eB 43 x12)],[]⟩
def Qj(E:E31)(n:Nat)(v8:Pt found)(v10:(Sl (Sl bC)))(EP:Sl af)(Gz Bo:Int)(lW:Sl iC){A:Type}(k:((Sl iC)×Int)->Option A):Option A:=kC aJ (G31 E) E.N A31 31 [1,1,1,1,1,1,0,1,0] [.n n] (kz k) ⟨[(8,eP v8),(10,eP v10),(17,.cl (.vec 148)),(88,eP EP),(89,.int Gz),(90,.int Bo)],[(148,eV 66 2 16 lW)],[]⟩
def uY(E:E31)(n0 n:Nat)(v8:Pt found)(v10:(Sl (Sl bC)))(xh:Int)(EP:Sl af)(Gz Bo:Int)(NU:Sl af)(Ov o9:Int)(lW:Sl iC)(OI:af){A:Type}(k:((Sl iC)×Int)->Option A):Option A:=kC aJ (G31 E) E.N A31 31 [1,1,1,1,1,1,0,1,0,0,1,1,0,0,1,0,1,1,0] [.n n0,.n n] (kz k) ⟨[(8,eP v8),(10,eP v10),(17,.cl (.vec 148)),(18,.int xh),(19,.cl (.ptr 19 0)),(88,eP EP),(89,.int Gz),(90,.int Bo),(98,eP NU),(99,.int Ov),(100,.int o9)],[(148,eV 66 2 16 lW),(19,eB 43 OI)],[]⟩
def Xh(E:E31)(n0 n1 n:Nat)(v8:Pt found)(v10:(Sl (Sl bC)))(xh v20:Int)(EP:Sl af)(Gz Bo:Int)(NU:Sl af)(Ov o9:Int)(Gt:Sl bC)(v117 Bq:Int)(lW:Sl iC)(OI:af){A:Type}(k:((Sl iC)×Int)->Option A):Option A:=kC aJ (G31 E) E.N A31 31 [1,1,1,1,1,1,0,1,0,0,1,1,0,0,1,0,1,1,0,0,1,1,0,0,1,1,1,0] [.n n0,.n n1,.n n] (kz k) ⟨[(8,eP v8),(10,eP v10),(17,.cl (.vec 148)),(18,.int xh),(19,.cl (.ptr 19 0)),(20,.int v20),(88,eP EP),(89,.int Gz),(90,.int Bo),(98,eP NU),(99,.int Ov),(100,.int o9),(116,eP Gt),(117,.int v117),(118,.int Bq)],[(148,eV 66 2 16 lW),(19,eB 43 OI)],[]⟩
def Xi(E:E31)(n0 n1 n2 n:Nat)(v8:Pt found)(v10:(Sl (Sl bC)))(xh v20:Int)(EP:Sl af)(Gz Bo:Int)(NU:Sl af)(Ov o9:Int)(Gt:Sl bC)(v117 Bq:Int)(Xj:Sl bC)(zes v127:Int)(lW:Sl iC)(OI:af)(x23:bC){A:Type}(k:((Sl iC)×Int)->Option A):Option A:=kC aJ (G31 E) E.N A31 31 [1,1,1,1,1,1,0,1,0,0,1,1,0,0,1,0,1,1,0,0,1,1,0,0,1,1,1,0,0,1,1,0,0,1,1,0] [.n n0,.n n1,.n n2,.n n] (kz k) ⟨[(8,eP v8),(10,eP v10),(17,.cl (.vec 148)),(18,.int xh),(19,.cl (.ptr 19 0)),(20,.int v20),(23,.cl (.ptr 23 0)),(88,eP EP),(89,.int Gz),(90,.int Bo),(98,eP NU),(99,.int Ov),(100,.int o9),(116,eP Gt),(117,.int v117),(118,.int Bq),(125,eP Xj),(126,.int zes),(127,.int v127)],[(148,eV 66 2 16 lW),(19,eB 43 OI),(23,eB 105 x23)],[]⟩
theorem e31(a0:au)(a1:bI)(a2:Sl bu):(F31 E (a0,a1,a2)).T k=(E.c72 (a0,a1,a2,(⟨0,λ_=>default⟩:(Sl Bool)))).T λr1=>VG r1 (λr1=>cond (r1 != 0) (k ((⟨0,λ_=>default⟩:(Sl iC)),r1)) (none)) (λr1=>cond (r1.2 != 0) (k ((⟨0,λ_=>default⟩:(Sl iC)),r1.2)) (aV (decide ((0:Int)<=(r1.1.v.ax.len:Int)/\((r1.1.v.ax.len:Int):Int)=(r1.1.v.ax.len:Int)/\(r1.1.v.ax.len:Int)<=1000000)) (Xg E E.N r1.1 r1.1.v.ax (r1.1.v.ax.len:Int) 0 (⟨(r1.1.v.ax.len:Int).toNat,(λ_=>(⟨0,(λ_=>(⟨0,0⟩:bC))⟩:(Sl bC)))⟩:(Sl (Sl bC))) k))):=eX
theorem ztz(n0:Nat)(v8:Pt found)(v45:Sl af)(v46 Yf:Int)(NT:Sl (Sl bC)):Xg E (n0+1) v8 v45 v46 Yf NT k=cond (decide (Yf<v46)) (aV (decide (0<=Yf/\Yf<(v45.len:Int))) (Ie E n0 E.N v8 Yf v45 v46 Yf v8.v.fits (v8.v.fits.len:Int) 0 NT (v45.get Yf.toNat) k)) (Qj E E.N v8 NT v8.v.ax (v8.v.ax.len:Int) 0 (⟨0,(λ_=>(⟨0,0⟩:iC))⟩:(Sl iC)) k):=krY
theorem ztA(n0 n1:Nat)(v8:Pt found)(v11:Int)(v45:Sl af)(v46 Yf:Int)(v55:Sl af)(v56 v57:Int)(NT:Sl (Sl bC))(x12:af):Ie E n0 (n1+1) v8 v11 v45 v46 Yf v55 v56 v57 NT x12 k=cond (decide (v57<v56)) (aV (decide (0<=v57/\v57<(v55.len:Int))) ((E.c92 (x12,(v55.get v57.toNat))).T λr1=>cond r1 ((E.c93 (v8.v.aH,(v55.get v57.toNat))).T λr2=>aV (decide (0<=v11/\v11<(NT.len:Int))) (aV (decide (v11.toNat<NT.len)) (aV (room ((NT.get v11.toNat).len+1) 16) (aV (decide (0<=v11/\v11<(NT.len:Int))) (aV (decide (v11.toNat<NT.len/\v11.toNat=v11.toNat/\0<((NT.get v11.toNat).len+1))) (Ie E n0 n1 v8 v11 v45 v46 Yf v55 v56 (aQ (v57+1)) (⟨NT.len,(upG v11.toNat (⟨((NT.get v11.toNat).len+1),(lm (NT.get v11.toNat).len (NT.get v11.toNat).get (λ_=>r2.1))⟩:(Sl bC)) NT.get)⟩:(Sl (Sl bC))) x12 k)))))) (Ie E n0 n1 v8 v11 v45 v46 Yf v55 v56 (aQ (v57+1)) NT x12 k))) (Xg E n0 v8 v45 v46 (aQ (Yf+1)) NT k):=krY
theorem ztB(n0:Nat)(v8:Pt found)(v10:(Sl (Sl bC)))(EP:Sl af)(Gz Bo:Int)(lW:Sl iC):Qj E (n0+1) v8 v10 EP Gz Bo lW k=cond (decide (Bo<Gz)) (aV (decide (0<=Bo/\Bo<(EP.len:Int))) (uY E n0 E.N v8 v10 Bo EP Gz Bo v8.v.ax (v8.v.ax.len:Int) 0 lW (EP.get Bo.toNat) k)) (k (lW,0)):=krY
theorem ztC(n0 n1:Nat)(v8:Pt found)(v10:(Sl (Sl bC)))(xh:Int)(EP:Sl af)(Gz Bo:Int)(NU:Sl af)(Ov o9:Int)(lW:Sl iC)(OI:af):uY E n0 (n1+1) v8 v10 xh EP Gz Bo NU Ov o9 lW OI k=cond (decide (o9<Ov)) (aV (decide (0<=o9/\o9<(NU.len:Int))) (cond (OI.View != 1) (uY E n0 n1 v8 v10 xh EP Gz Bo NU Ov (aQ (o9+1)) lW OI k) (cond ((NU.get o9.toNat).View != 2) (uY E n0 n1 v8 v10 xh EP Gz Bo NU Ov (aQ (o9+1)) lW OI k) (aV (decide (0≤xh∧xh<(v10.len:Int))) (Xh E n0 n1 E.N v8 v10 xh o9 EP Gz Bo NU Ov o9 (v10.get xh.toNat) ((v10.get xh.toNat).len:Int) 0 lW OI k))))) (Qj E n0 v8 v10 EP Gz (aQ (Bo+1)) lW k):=krY
theorem ztD(n0 n1 n2:Nat)(v8:Pt found)(v10:(Sl (Sl bC)))(xh v20:Int)(EP:Sl af)(Gz Bo:Int)(NU:Sl af)(Ov o9:Int)(Gt:Sl bC)(v117 Bq:Int)(lW:Sl iC)(OI:af):Xh E n0 n1 (n2+1) v8 v10 xh v20 EP Gz Bo NU Ov o9 Gt v117 Bq lW OI k=cond (decide (Bq<v117)) (aV (decide (0<=Bq/\Bq<(Gt.len:Int))) (aV (decide (0<=v20/\v20<(v10.len:Int))) (Xi E n0 n1 n2 E.N v8 v10 xh v20 EP Gz Bo NU Ov o9 Gt v117 Bq (v10.get v20.toNat) ((v10.get v20.toNat).len:Int) 0 lW OI (Gt.get Bq.toNat) k))) (uY E n0 n1 v8 v10 xh EP Gz Bo NU Ov (aQ (o9+1)) lW OI k):=krY
theorem ztE(n0 n1 n2 n3:Nat)(v8:Pt found)(v10:(Sl (Sl bC)))(xh v20:Int)(EP:Sl af)(Gz Bo:Int)(NU:Sl af)(Ov o9:Int)(Gt:Sl bC)(v117 Bq:Int)(Xj:Sl bC)(zes v127:Int)(lW:Sl iC)(OI:af)(x23:bC):Xi E n0 n1 n2 (n3+1) v8 v10 xh v20 EP Gz Bo NU Ov o9 Gt v117 Bq Xj zes v127 lW OI x23 k=cond (decide (v127<zes)) (aV (decide (0<=v127/\v127<(Xj.len:Int))) (cond (decide (x23.Low<=(Xj.get v127.toNat).High)) (cond (decide ((Xj.get v127.toNat).Low<=x23.High)) (aV (room (lW.len+1) 16) (uY E n0 n1 v8 v10 xh EP Gz Bo NU Ov (aQ (o9+1)) (⟨(lW.len+1),(lm lW.len lW.get (λ_=>(⟨xh,v20⟩:iC)))⟩:(Sl iC)) OI k)) (Xi E n0 n1 n2 n3 v8 v10 xh v20 EP Gz Bo NU Ov o9 Gt v117 Bq Xj zes (aQ (v127+1)) lW OI x23 k)) (Xi E n0 n1 n2 n3 v8 v10 xh v20 EP Gz Bo NU Ov o9 Gt v117 Bq Xj zes (aQ (v127+1)) lW OI x23 k))) (Xh E n0 n1 n2 v8 v10 xh v20 EP Gz Bo NU Ov o9 Gt v117 (aQ (Bq+1)) lW OI k):=krY
end
theorem o31 [aG](E:E31)(OE:Ok aJ 72 (ae.unA E.c72))(h92:Ok aJ 92 (ae.un E.c92))(h93:Ok aJ 93 (ae.un E.c93)):Ok aJ 31 (ae.un (F31 E)):=eY (((aB.nil.addF OE).addF h92).addF h93)
def Xk(s:au)(l:Sl bu)(f:found)(t:af):List bC:=((ls f.fits).filter λc=>wJ t c).map λc=>zG s l (eu c)
def mee(a b:List bC):Bool:=a.any λx=>b.any λy=>decide (x.Low<=y.High)&&decide (y.Low<=x.High)
def muB(s:au)(l:Sl bu)(f:found)(i k:Nat):Bool:=(f.ax.get i).View==1&&((f.ax.get k).View==2&&mee (Xk s l f (f.ax.get i)) (Xk s l f (f.ax.get k)))
theorem zyP{s:au}{r:bI}{l:Sl bu}{f:found}(h:H5 s r l f){t:af}(ht:t∈ls f.fits):Bj s l (eu t)=true:=by
 obtain⟨_,_,m⟩:=h.fit ht;obtain⟨⟨j,hj⟩,ne⟩:=Ep (Qu.1 m).1;exact(zER hj).resolve_left ne
def muL(s:au)(l:Sl bu)(f:found):List iC:=(List.range' 0 f.ax.len).flatMap λi=>((List.range' 0 f.ax.len).filter (muB s l f i)).map λ(k:Nat)=>⟨(i:Int),(k:Int)⟩
abbrev zQE(C:au×bI×Sl bu->ae (Sl iC×Int)):Prop:=∀s r l,qO s->l.len<=24->jT s r l=0->(iE s l 1).length<=2000->(iE s l 2).length<=2000->∃f:found,H5 s r l f/\∃w:Sl iC,C (s,r,l)=.ok (w,0)/\w.len<=16000000/\ls w=muL s l f
theorem zQF{E:E31}(N:Big E.N)(OE:Q72 E.c72)(h92:Q92 E.c92)(h93:Q93 E.c93):zQE (F31 E):=λs r l hs hl h0 n1 n2=>by
 have hN:=N;obtain⟨he,_,h24⟩:=rO hs h0;obtain⟨f,c1,hf⟩:=OE s r l ⟨0,λ_=>default⟩ hs omY h0 n1 n2 (xn _) (λb hb=>by cases hb);have fl:=hf.len n1 n2;have zQG:f.v.fits.len<=4000:=by
  obtain⟨X,Y,e,x1,y1,x2,y2⟩:=hf.fx;have a:=jF List.length e;have c:=jF List.length x2;have d:=jF List.length y2;rw[jL,BG]at a;rw[qda]at c d;have:=qdL (oJ s l 1 r) (iE s l 1);have:=qdL (oJ s l 2 r) (iE s l 2);omega
 have cf:∀q,q<f.v.fits.len->jE s l (f.v.fits.get q):=λq hq=>hf.chosen he h24 (gz.2 ⟨q,hq,rfl⟩);have ct:∀q,q<f.v.ax.len->jE s l (f.v.ax.get q):=λq hq=>hf.chosen he h24 (hf.sub (gz.2 ⟨q,hq,rfl⟩))
 -- the times of one track
 have one:∀(n i:Nat),i<f.v.ax.len->∀(m j n1:Nat)(w:Sl (Sl bC)),j+m=f.v.fits.len->m<n1->w.len=f.v.ax.len->(w.get i).len<=j ->
   ∃w':Sl (Sl bC),(∀(A:Type)(k:Sl iC×Int->Option A),Ie E n n1 f (i:Int) f.v.ax (f.v.ax.len:Int) (i:Int) f.v.fits (f.v.fits.len:Int) (j:Int) w (f.v.ax.get i) k=Xg E n f f.v.ax (f.v.ax.len:Int) ((i+1:Nat):Int) w' k)/\w'.len=f.v.ax.len/\(∀q,q≠i->w'.get q=w.get q) /\
    ls (w'.get i)=ls (w.get i)++(((List.range' j m).map f.v.fits.get).filter λc=>wJ (f.v.ax.get i) c).map λc=>zG s l (eu c):=by
  intro n i hi m
  induction m with
  | zero =>
   intro j n1 w hj hn hw hr;obtain⟨n1,rfl⟩:∃n',n1=n'+1:=⟨n1-1,omY⟩;exact⟨w,λA k=>by rw[ztA,dV omY,dQ,bJ omY],hw,λ_ _=>rfl,by simp⟩
  | succ m ih =>
   intro j n1 w hj hn hw hr;obtain⟨n1,rfl⟩:∃n',n1=n'+1:=⟨n1-1,omY⟩;have hc:=cf j omY;obtain⟨q,hq⟩:=hc.vl;have ag:=zyP hf (gz.2 ⟨j,omY,rfl⟩);have tb:Nu s l (eu (f.v.fits.get j))=true:=by unfold Bj at ag;rw[fH]at ag;exact ag.1
   have tc:(cmS (zG s l (eu (f.v.fits.get j)))).1=zG s l (eu (f.v.fits.get j)):=by
    unfold Nu at tb;have:=qde tb;unfold cmS;rw[dV omY];rfl
   let w1:Sl (Sl bC):=⟨w.len,upG i (mX (w.get i) (zG s l (eu (f.v.fits.get j)))) w.get⟩;have w1i:w1.get i=mX (w.get i) (zG s l (eu (f.v.fits.get j))):=by show upG i _ w.get i=_;rw[zhG,dH rfl]
   have w1j:∀q,q≠i->w1.get q=w.get q:=λq hq=>by show upG i _ w.get q=_;rw[zhG,dM hq]
   rw[Yj,nU,qdo];have st:∀(A:Type)(k:Sl iC×Int->Option A),Ie E n (n1+1) f (i:Int) f.v.ax (f.v.ax.len:Int) (i:Int) f.v.fits (f.v.fits.len:Int) (j:Int) w (f.v.ax.get i) k=cond (wJ (f.v.ax.get i) (f.v.fits.get j)) (Ie E n n1 f (i:Int) f.v.ax (f.v.ax.len:Int) (i:Int) f.v.fits (f.v.fits.len:Int) ((j+1:Nat):Int) w1 (f.v.ax.get i) k) (Ie E n n1 f (i:Int) f.v.ax (f.v.ax.len:Int) (i:Int) f.v.fits (f.v.fits.len:Int) ((j+1:Nat):Int) w (f.v.ax.get i) k):=λA k=>by
    have lh:=rU rfl hq;rw[ztA,dK omY,dU,bF omY,fQ,h92 _ _ (ct i hi).one hc.one,bf,hf.ev,h93 s l r _ _ he (Td rfl hq) (Tf rfl hc.ne) omY rfl,bf,bJ omY,bF omY,fQ,bF omY,lV omY omY,bF omY,bF omY,tc];rfl
   cases hb:wJ (f.v.ax.get i) (f.v.fits.get j)with
   | true =>
    rw[hb]at st;obtain⟨w',a,b,d,e⟩:=ih (j+1) n1 w1 omY omY hw (by rw[w1i];show(w.get i).len+1<=j+1;omega);refine⟨w',λA k=>by rw[st];exact a A k,b,λq hq=>by rw[d q hq,w1j q hq],?_⟩;rw[e,w1i,Qe,dH rfl];simp
   | false =>
    rw[hb]at st;obtain⟨w',a,b,d,e⟩:=ih (j+1) n1 w omY omY hw omY;exact⟨w',λA k=>by rw[st];exact a A k,b,d,by rw[e,dM (by simp)]⟩
 have zH4:∀(m i n:Nat)(w:Sl (Sl bC)),i+m=f.v.ax.len->m<n->w.len=f.v.ax.len->(∀q,q<f.v.ax.len->ls (w.get q)=if q<i then Xk s l f.v (f.v.ax.get q)else []) ->
   ∃w':Sl (Sl bC),(∀(A:Type)(k:Sl iC×Int->Option A),Xg E n f f.v.ax (f.v.ax.len:Int) (i:Int) w k=Qj E E.N f w' f.v.ax (f.v.ax.len:Int) 0 ⟨0,λ_=>⟨0,0⟩⟩ k)/\w'.len=f.v.ax.len/\∀q,q<f.v.ax.len->ls (w'.get q)=Xk s l f.v (f.v.ax.get q):=by
  intro m
  induction m with
  | zero =>
   intro i n w hi hn hw hg;obtain⟨n,rfl⟩:∃n',n=n'+1:=⟨n-1,omY⟩;exact⟨w,λA k=>by rw[ztz,dV omY];rfl,hw,λq hq=>by rw[hg q hq,dH omY]⟩
  | succ m ih =>
   intro i n w hi hn hw hg;obtain⟨n,rfl⟩:∃n',n=n'+1:=⟨n-1,omY⟩;have gi:=hg i omY;rw[dM omY]at gi;have li:(w.get i).len=0:=by rw[<- jL,gi];rfl
   obtain⟨w1,o1,o2,o3,o4⟩:=one n i omY f.v.fits.len 0 E.N w omY omY hw omY;obtain⟨w',a1,a2,a3⟩:=ih (i+1) n w1 omY omY o2 (λq hq=>by
    by_cases e:q=i;subst e;rw[o4,gi,dH omY,NW,<- dqV];rfl;rw [o3 q e,hg q hq];by_cases h:q<i;rw[dH h,dH omY];rw[dM h,dM omY])
   refine⟨w',λA k=>?_,a2,a3⟩;rw[ztz,dK omY,dU,bF omY,fQ];exact(o1 A k).trans (a1 A k)
 obtain⟨sp,s1,s2,s3⟩:=zH4 f.v.ax.len 0 E.N ⟨(f.v.ax.len:Int).toNat,λ_=>⟨0,λ_=>⟨0,0⟩⟩⟩ omY omY (by show(f.v.ax.len:Int).toNat=_;omega) (λq hq=>rfl)
 -- two ax
 have spl:∀q,q<f.v.ax.len->(sp.get q).len<=4000:=λq hq=>by
  rw[<- jL,s3 q hq];unfold Xk;rw[qda];refine BH (qdL _ _) ?_;rw[jL];exact zQG
 have ee:∀q,q<f.v.ax.len->(List.range' 0 (sp.get q).len).map (sp.get q).get=Xk s l f.v (f.v.ax.get q):=λq hq=>by rw[<- s3 q hq,<- dqV];rfl
 have in6:∀(n0 n1 n2 i k a:Nat),k<f.v.ax.len->a<5000->∀(w:Sl iC)(t:af)(x:bC),w.len<=16000000->∀(m j n3:Nat),j+m=(sp.get k).len->m<n3->∀(A:Type)(K:Sl iC×Int->Option A),
   Xi E n0 n1 n2 n3 f sp (i:Int) (k:Int) f.v.ax (f.v.ax.len:Int) (i:Int) f.v.ax (f.v.ax.len:Int) (k:Int) (sp.get i) ((sp.get i).len:Int) (a:Int) (sp.get k) ((sp.get k).len:Int) (j:Int) w t x K =
    cond (((List.range' j m).map (sp.get k).get).any λy=>decide (x.Low<=y.High)&&decide (y.Low<=x.High)) (uY E n0 n1 f sp (i:Int) f.v.ax (f.v.ax.len:Int) (i:Int) f.v.ax (f.v.ax.len:Int) ((k+1:Nat):Int) (mX w ⟨(i:Int),(k:Int)⟩) t K) (Xh E n0 n1 n2 f sp (i:Int) (k:Int) f.v.ax (f.v.ax.len:Int) (i:Int) f.v.ax (f.v.ax.len:Int) (k:Int) (sp.get i) ((sp.get i).len:Int) ((a+1:Nat):Int) w t K):=by
  intro n0 n1 n2 i k a hk ha w t x hw m;have lk:=spl k hk
  induction m with
  | zero =>
   intro j n3 hj hn A K;obtain⟨n3,rfl⟩:∃n',n3=n'+1:=⟨n3-1,omY⟩;rw[ztE,dV omY,dQ,bJ (show a<4611686018427387904 by omega)];rfl
  | succ m ih =>
   intro j n3 hj hn A K;obtain⟨n3,rfl⟩:∃n',n3=n'+1:=⟨n3-1,omY⟩;have rm:room (w.len+1) 16=true:=dK omY;rw[ztE,dK omY,dU,bF omY,fQ,Yj,nU,qj4,bJ (show j<4611686018427387904 by omega),ih (j+1) n3 omY omY,rm,bJ (show k<4611686018427387904 by omega)];cases decide (x.Low<=((sp.get k).get j).High)<;>cases decide (((sp.get k).get j).Low<=x.High)<;>rfl
 have in5:∀(n0 n1 i k:Nat),i<f.v.ax.len->k<f.v.ax.len->∀(w:Sl iC)(t:af),w.len<=16000000->∀(m a n2:Nat),a+m=(sp.get i).len->m<n2->∀(A:Type)(K:Sl iC×Int->Option A),
   Xh E n0 n1 n2 f sp (i:Int) (k:Int) f.v.ax (f.v.ax.len:Int) (i:Int) f.v.ax (f.v.ax.len:Int) (k:Int) (sp.get i) ((sp.get i).len:Int) (a:Int) w t K =
    cond (((List.range' a m).map (sp.get i).get).any λx=>(Xk s l f.v (f.v.ax.get k)).any λy=>decide (x.Low<=y.High)&&decide (y.Low<=x.High)) (uY E n0 n1 f sp (i:Int) f.v.ax (f.v.ax.len:Int) (i:Int) f.v.ax (f.v.ax.len:Int) ((k+1:Nat):Int) (mX w ⟨(i:Int),(k:Int)⟩) t K) (uY E n0 n1 f sp (i:Int) f.v.ax (f.v.ax.len:Int) (i:Int) f.v.ax (f.v.ax.len:Int) ((k+1:Nat):Int) w t K):=by
  intro n0 n1 i k hi hk w t hw m;have li:=spl i hi;have lk:=spl k hk
  induction m with
  | zero =>
   intro a n2 ha hn A K;obtain⟨n2,rfl⟩:∃n',n2=n'+1:=⟨n2-1,omY⟩;rw[ztD,dV omY,dQ,bJ (show k<4611686018427387904 by omega)];rfl
  | succ m ih =>
   intro a n2 ha hn A K;obtain⟨n2,rfl⟩:∃n',n2=n'+1:=⟨n2-1,omY⟩;rw[ztD,dK omY,dU,bF omY,fQ,bF omY,fQ,Yj,nU,qj4];have h6:=in6 n0 n1 n2 i k a hk omY w t ((sp.get i).get a) hw (sp.get k).len 0 E.N omY omY A K;rw[ee k hk,ih (a+1) n2 omY omY]at h6;refine h6.trans ?_;cases(Xk s l f.v (f.v.ax.get k)).any λy=>decide (((sp.get i).get a).Low<=y.High)&&decide (y.Low<=((sp.get i).get a).High)<;>rfl
 have in4:∀(n0 i:Nat),i<f.v.ax.len->∀(m k n1:Nat)(w:Sl iC),k+m=f.v.ax.len->m<n1->w.len+m<=16000000 ->
   ∃w':Sl iC,(∀(A:Type)(K:Sl iC×Int->Option A),uY E n0 n1 f sp (i:Int) f.v.ax (f.v.ax.len:Int) (i:Int) f.v.ax (f.v.ax.len:Int) (k:Int) w (f.v.ax.get i) K=Qj E n0 f sp f.v.ax (f.v.ax.len:Int) ((i+1:Nat):Int) w' K)/\w'.len<=w.len+m/\ls w'=ls w++((List.range' k m).filter (muB s l f.v i)).map λk=>⟨(i:Int),(k:Int)⟩:=by
  intro n0 i hi m
  induction m with
  | zero =>
   intro k n1 w hk hn hw;obtain⟨n1,rfl⟩:∃n',n1=n'+1:=⟨n1-1,omY⟩;exact⟨w,λA K=>by rw[ztC,dV omY,dQ,bJ (show i<4611686018427387904 by omega)],omY,by simp⟩
  | succ m ih =>
   intro k n1 w hk hn hw;obtain⟨n1,rfl⟩:∃n',n1=n'+1:=⟨n1-1,omY⟩;have je:k<f.v.ax.len:=by omega
   have st:∀(A:Type)(K:Sl iC×Int->Option A),uY E n0 (n1+1) f sp (i:Int) f.v.ax (f.v.ax.len:Int) (i:Int) f.v.ax (f.v.ax.len:Int) (k:Int) w (f.v.ax.get i) K=cond (muB s l f.v i k) (uY E n0 n1 f sp (i:Int) f.v.ax (f.v.ax.len:Int) (i:Int) f.v.ax (f.v.ax.len:Int) ((k+1:Nat):Int) (mX w ⟨(i:Int),(k:Int)⟩) (f.v.ax.get i) K) (uY E n0 n1 f sp (i:Int) f.v.ax (f.v.ax.len:Int) (i:Int) f.v.ax (f.v.ax.len:Int) ((k+1:Nat):Int) w (f.v.ax.get i) K):=λA K=>by
    have h5:=in5 n0 n1 i k hi je w (f.v.ax.get i) omY (sp.get i).len 0 E.N omY (by have:=spl i hi;omega) A K;rw[ee i hi]at h5;rw[ztC,dK omY,dU,bF omY,fQ,bJ (show k<4611686018427387904 by omega),bF omY,fQ];unfold muB mee;rw[bne,bne];cases(f.v.ax.get i).View==1 with
    | false=>rfl
    | true =>
     cases(f.v.ax.get k).View==2 with|false=>rfl|true=>exact h5
   rw[Yj,qdo];cases hm:muB s l f.v i k with
   | true =>
    rw[hm]at st;obtain⟨w',a,b,c⟩:=ih (k+1) n1 (mX w ⟨(i:Int),(k:Int)⟩) omY omY (by show w.len+1+m<=_;omega);refine⟨w',λA K=>by rw[st];exact a A K,by have b:w'.len<=w.len+1+m:=b;omega,?_⟩;rw[c,Qe,dH rfl];simp
   | false =>
    rw[hm]at st;obtain⟨w',a,b,c⟩:=ih (k+1) n1 w omY omY omY;exact⟨w',λA K=>by rw[st];exact a A K,omY,by rw[c,dM (by simp)]⟩
 have in3:∀(m i n0:Nat)(w:Sl iC),i+m=f.v.ax.len->m<n0->w.len+m*f.v.ax.len<=16000000 ->
   ∃w':Sl iC,(∀(A:Type)(K:Sl iC×Int->Option A),Qj E n0 f sp f.v.ax (f.v.ax.len:Int) (i:Int) w K=K (w',0))/\w'.len<=16000000/\ls w'=ls w++(List.range' i m).flatMap λi=>((List.range' 0 f.v.ax.len).filter (muB s l f.v i)).map λk=>⟨(i:Int),(k:Int)⟩:=by
  intro m
  induction m with
  | zero =>
   intro i n0 w hi hn hw;obtain⟨n0,rfl⟩:∃n',n0=n'+1:=⟨n0-1,omY⟩;exact⟨w,λA K=>by rw[ztB,dV omY];rfl,omY,by simp⟩
  | succ m ih =>
   intro i n0 w hi hn hw;obtain⟨n0,rfl⟩:∃n',n0=n'+1:=⟨n0-1,omY⟩;rw[Qv]at hw;obtain⟨w1,a1,b1,c1⟩:=in4 n0 i omY f.v.ax.len 0 E.N w omY omY omY;obtain⟨w',a,b,c⟩:=ih (i+1) n0 w1 omY omY omY;refine⟨w',λA K=>?_,b,?_⟩;rw [ztB,dK omY,dU,bF omY,fQ];exact(a1 A K).trans (a A K);rw[c,c1,Yj,lX,qjd]
 have sq:f.v.ax.len*f.v.ax.len<=4000*4000:=qjF fl fl;obtain⟨w,a,b,c⟩:=in3 f.v.ax.len 0 E.N ⟨0,λ_=>⟨0,0⟩⟩ omY omY (by show 0+_<=_;omega);have c:ls w=(List.range' 0 f.v.ax.len).flatMap λi=>((List.range' 0 f.v.ax.len).filter (muB s l f.v i)).map λk=>⟨(i:Int),(k:Int)⟩:=c;refine⟨f.v,hf,w,ae.ext λK=>?_,b,c⟩;rw[e31,c1,bf];show aV (decide ((0:Int)<=(f.v.ax.len:Int)/\((f.v.ax.len:Int):Int)=(f.v.ax.len:Int)/\(f.v.ax.len:Int)<=1000000)) _=_;rw[bF omY,bf];exact(s1 _ K).trans (a _ K)
abbrev zyQ(C:au×bI×Sl bu->ae (Sl iC×Int)):Prop:=∀s r l,qO s->l.len<=40->(rV s r l true≠0/\C (s,r,l)=.ok (⟨0,λ_=>default⟩,rV s r l true))\/(rV s r l true=0/\∃f:found,H5 s r l f/\∃w:Sl iC,C (s,r,l)=.ok (w,0)/\w.len<=16000000/\ls w=muL s l f)
theorem zkt{C:au×bI×Sl bu×Sl Bool->ae (Int ⊕ (Pt found×Int))}(h:ZO C):Q72 C:=λs r l w hs hl h0 n1 n2 hw hb=>by
 have e:rV s r l ((ls w).all id)=0:=by
  have a:(ls w).all id=true:=Aj.2 λb hm=>hb b hm;unfold rV;rw[a,h0,og,og,dK n1,dK n2];rfl
 rcases h s r l w hs hl hw with⟨a,_⟩|⟨_,f⟩
 exact absurd e a;exact f
theorem zQH{E:E31}(N:Big E.N)(OE:ZO E.c72)(h92:Q92 E.c92)(h93:Q93 E.c93):zyQ (F31 E):=λs r l hs hl=>by
 rcases OE s r l ⟨0,λ_=>default⟩ hs hl (xn _)with⟨h0,h1⟩|⟨h0,_⟩
 have h0:rV s r l true≠0:=h0;have h1:E.c72 (s,r,l,⟨0,λ_=>default⟩)=.ok (.inl (rV s r l true)):=h1;refine .inl ⟨h0,ae.ext λk=>?_⟩;rw[e31,h1,bf,bf];show cond (rV s r l true != 0) _ _=_;rw[show(rV s r l true != 0)=true by simpa using h0];rfl;have h0:rV s r l true=0:=h0;obtain⟨r0,_,n1,n2⟩:=zkc h0;obtain⟨_,_,h24⟩:=rO hs r0;exact .inr ⟨h0,zQF N (zkt OE) h92 h93 s r l hs h24 r0 n1 n2⟩
def qU(a b:Nat):Nat:=a ^^^ (a &&& b)
theorem zn(a b k:Nat):(qU a b).testBit k=(a.testBit k && !b.testBit k):=by
 unfold qU;rw[Nat.testBit_xor,Nat.testBit_and];cases a.testBit k<;>cases b.testBit k<;>rfl
theorem zku{a:Nat}:a=0↔∀k,a.testBit k=false:=by
 constructor;rintro rfl k;exact jqe k;intro h;exact jqZ λk=>by rw[h k,jqe]
theorem zkv{a b:Nat}:qU a b=0↔∀k,a.testBit k=true->b.testBit k=true:=by
 rw[zku];constructor
 ·intro h k ha;have:=h k;rw[zn,ha]at this;cases e:b.testBit k with|true=>rfl|false=>rw[e]at this;cases this
 ·intro h k;rw[zn];cases e:a.testBit k with|false=>rfl|true=>rw[h k e];rfl
def tC:List Nat→Nat
  | []=>0
  | b::r=>b ||| tC r
def lst:List Nat→Nat→Nat
  | [],left=>cond (left==0) 0 1000
  | b::r,left=>cond (left==0) 0 (cond (qU left (tC (b::r))==0) (cond (b &&& left != 0) (if 1+lst r (qU left b)<lst r left then 1+lst r (qU left b)else lst r left) (lst r left)) 1000)
def cvr:List Nat→List Bool→Nat→Prop|[],[],left=>left=0|b::r,true::s,left=>cvr r s (qU left b)|_::r,false::s,left=>cvr r s left|_,_,_=>False
theorem zFd(B:List Nat):lst B 0=0:=by cases B<;>rfl
theorem zFe{b:Nat}{r:List Nat}{left:Nat}(h0:left≠0)(h1:qU left (tC (b::r))=0):lst (b::r) left=cond (b &&& left != 0) (if 1+lst r (qU left b)<lst r left then 1+lst r (qU left b)else lst r left) (lst r left):=by
 show cond (left==0) 0 (cond (qU left (tC (b::r))==0) _ 1000)=_;rw[show(left==0)=false by simpa using h0,h1];rfl
theorem zcs : ∀ {B : List Nat} {left : Nat}, qU left (tC B) = 0 → cvr B (B.map fun _ => true) left
  | [],left,h=>by
    have:qU left 0=0:=h;refine zku.2 λk=>?_;cases e:left.testBit k with|false=>rfl|true=>have:=zkv.1 this k e;rw[jqe]at this;cases this
  | b::r,left,h=>by
    show cvr r _ (qU left b);refine zcs (zkv.2 λk hk=>?_);rw[zn,fH]at hk;have:(b ||| tC r).testBit k=true:=zkv.1 h k hk.1;rw[jqv]at this;cases e:b.testBit k with|true=>rw[e]at hk;cases hk.2|false=>rw[e,Bool.false_or]at this;exact this
def grd:List Nat→Nat→List Bool|[],_=>[]|b::r,left=>cond (b &&& left != 0&&lst (b::r) left==1+lst r (qU left b)) (true::grd r (qU left b)) (false::grd r left)
def ru:List Nat→Nat→Nat
  | [],_=>0
  | b::r,used=>cond (b &&& used==0) (if 1+ru r (used ||| b)>ru r used then 1+ru r (used ||| b)else ru r used) (ru r used)
def grm:List Nat→Nat→List Bool
  | [],_=>[]
  | b::r,used=>cond (b &&& used==0&&ru (b::r) used==1+ru r (used ||| b)) (true::grm r (used ||| b)) (false::grm r used)
theorem ztH(b:Nat)(r:List Nat)(used:Nat):ru (b::r) used=cond (b &&& used==0) (if 1+ru r (used ||| b)>ru r used then 1+ru r (used ||| b)else ru r used) (ru r used):=rfl
abbrev PM:=Nat×(List Int->Option (List Int))
abbrev BM:=Bm 170 173 3 (.ints,2,false,[some .i64])
abbrev zkw:=Int×Int×BM×Bc 39 (Sl Int)×Bs 171 100 2 3×Unit->ae (Int×(Unit×Unit×PM×Sl Int×Unit×Unit))
abbrev zkx:=Int×Int×Bc 39 (Sl Int)×BM×Bs 171 101 2 3×Unit->ae (Int×(Unit×Unit×Sl Int×PM×Unit×Unit))
structure zet where
 N:Nat
 BA:zkw
abbrev zyR(E:zet):bM:=jc (Tabs.nil.addM 100 (ae.unM E.BA)) []
def zra:dI:=bZ aJ 100 [2,3,4] {}
def Xl(E:zet):zkw:=ae.tyM λxs=>aM aJ E.N (zyR E) zra 100 xs
section
variable(E:zet){A:Type}(k:((Int)×(Unit×Unit×PM×(Sl Int)×Unit×Unit))->Option A)
def yI(E:zet)(n:Nat)(a0 a1:Int)(a2:PM)(a3:Sl Int)(v11 v32:Int){A:Type}(k:((Int)×(Unit×Unit×PM×(Sl Int)×Unit×Unit))->Option A):Option A:=ptM aJ (zyR E) E.N zra 100 [1,1,1,1,1,0,1,0] [.n n] (zhz aJ (kP.enc ((a0,a1,⟨a2.1,a2.2⟩,⟨a3⟩,{},()):Int×Int×BM×Bc 39 (Sl Int)×Bs 171 100 2 3×Unit))) (zC7 ((a0,a1,⟨a2.1,a2.2⟩,⟨a3⟩,{},()):Int×Int×BM×Bc 39 (Sl Int)×Bs 171 100 2 3×Unit) k) ⟨[(0,.int a0),(1,.int a1),(2,.cl (.ptr 2 0)),(3,.cl (.ptr 3 0)),(4,.cl (.ptr 4 0)),(8,.cl (.ptr 8 0)),(11,.int v11),(30,.cl (.p (.sl (((a3.len:Int):Int)-a0).toNat 1 (λi=>bn.enc ((LU a3.get a0.toNat) i))))),(31,.int ((((a3.len:Int):Int)-a0).toNat:Int)),(32,.int v32)],[(2,.box 170 [.mo 4098]),(3,eB 39 a3),(4,.box 171 [.clo 100 [.b 2,.b 3,.b 4]]),(8,.box 173 [.p (.int .i64 a0),.p (.int .i64 a1)]),(4098,.mo 173 3 (.ints,2,false,[some .i64]) a2.1 a2.2)],[]⟩
theorem zFf(a0 a1:Int)(a2:PM)(a3:Sl Int):(Xl E (a0,a1,⟨a2.1,a2.2⟩,⟨a3⟩,{},())).T k=cond (a1==0) (k (0,(),(),(a2.1,a2.2),a3,(),())) (cond (a2.2 [a0,a1]).isSome (k ((sD (a2.2 [a0,a1]) 0),(),(),(a2.1,a2.2),a3,(),())) (aV (decide ((0:Int)<=a0/\(a0:Int)<=(a3.len:Int)/\(a3.len:Int)<=(a3.len:Int))) (yI E E.N a0 a1 a2 a3 0 0 k))):=zsE.trans krY
theorem NC(n0:Nat)(a0 a1:Int)(a2:PM)(a3:Sl Int)(v11 v32:Int):yI E (n0+1) a0 a1 a2 a3 v11 v32 k=cond (decide (v32<((((a3.len:Int):Int)-a0).toNat:Int))) (aV (decide (0<=v32/\v32<((((a3.len:Int):Int)-a0).toNat:Int))) (yI E n0 a0 a1 a2 a3 (orW .i64 v11 ((LU a3.get a0.toNat) v32.toNat)) (aQ (v32+1)) k)) (cond ((pR .i64 a1 v11)==0) ((E.BA ((aQ (a0+1)),a1,(⟨a2.1,a2.2⟩:BM),(⟨a3⟩:Bc 39 (Sl Int)),({}:Bs 171 100 2 3),())).T λr1=>aV (decide (0<=a0/\a0<(r1.2.2.2.2.1.len:Int))) (cond ((N7 .i64 (r1.2.2.2.2.1.get a0.toNat) a1) != 0) (aV (decide (0<=a0/\a0<(r1.2.2.2.2.1.len:Int))) ((E.BA ((aQ (a0+1)),(pR .i64 a1 (r1.2.2.2.2.1.get a0.toNat)),(⟨r1.2.2.2.1.1,r1.2.2.2.1.2⟩:BM),(⟨r1.2.2.2.2.1⟩:Bc 39 (Sl Int)),({}:Bs 171 100 2 3),())).T λr2=>k ((if(aQ (1+r2.1))<r1.1 then(aQ (1+r2.1))else r1.1),(),(),((addN (r2.2.2.2.1.2 [a0,a1]) r2.2.2.2.1.1),(lT [a0,a1] [(if(aQ (1+r2.1))<r1.1 then(aQ (1+r2.1))else r1.1)] r2.2.2.2.1.2)),r2.2.2.2.2.1,(),()))) (k (r1.1,(),(),((addN (r1.2.2.2.1.2 [a0,a1]) r1.2.2.2.1.1),(lT [a0,a1] [r1.1] r1.2.2.2.1.2)),r1.2.2.2.2.1,(),())))) (k (1000,(),(),((addN (a2.2 [a0,a1]) a2.1),(lT [a0,a1] [1000] a2.2)),a3,(),()))):=krY
end
theorem zQI(E:zet)(zAA:iM aJ 100 (ae.unM E.BA)):iM aJ 100 (ae.unM (Xl E)):=by
  have h:iM aJ 100 (λxs=>aM aJ E.N (zyR E) zra 100 xs):=LP (aO:=λ_=>zra) (aB.nil.addM zAA) (dC krY);exact(zhP h:iM aJ 100 (ae.unM (ae.tyM _:zkw)))
structure zky where
 N:Nat
 zI:zkx
abbrev zFg(E:zky):bM:=jc (Tabs.nil.addM 101 (ae.unM E.zI)) []
def zyS:dI:=bZ aJ 101 [2,3,4] {}
def ZV(E:zky):zkx:=ae.tyM λxs=>aM aJ E.N (zFg E) zyS 101 xs
theorem zFh(E:zky){A:Type}(k:((Int)×(Unit×Unit×(Sl Int)×PM×Unit×Unit))→Option A)(a0 a1:Int)(a2:Sl Int)(a3:PM):(ZV E (a0,a1,⟨a2⟩,⟨a3.1,a3.2⟩,{},())).T k=cond (a0==(a2.len:Int)) (k (0,(),(),a2,(a3.1,a3.2),(),())) (cond (a3.2 [a0,a1]).isSome (k ((sD (a3.2 [a0,a1]) 0),(),(),a2,(a3.1,a3.2),(),())) ((E.zI ((aQ (a0+1)),a1,(⟨a2⟩:Bc 39 (Sl Int)),(⟨a3.1,a3.2⟩:BM),({}:Bs 171 101 2 3),())).T λr1=>aV (decide (0<=a0/\a0<(r1.2.2.2.1.len:Int))) (cond ((N7 .i64 (r1.2.2.2.1.get a0.toNat) a1)==0) (aV (decide (0<=a0/\a0<(r1.2.2.2.1.len:Int))) ((E.zI ((aQ (a0+1)),(orW .i64 a1 (r1.2.2.2.1.get a0.toNat)),(⟨r1.2.2.2.1⟩:Bc 39 (Sl Int)),(⟨r1.2.2.2.2.1.1,r1.2.2.2.2.1.2⟩:BM),({}:Bs 171 101 2 3),())).T λr2=>k ((if(aQ (1+r2.1))>r1.1 then(aQ (1+r2.1))else r1.1),(),(),r2.2.2.2.1,((addN (r2.2.2.2.2.1.2 [a0,a1]) r2.2.2.2.2.1.1),(lT [a0,a1] [(if(aQ (1+r2.1))>r1.1 then(aQ (1+r2.1))else r1.1)] r2.2.2.2.2.1.2)),(),()))) (k (r1.1,(),(),r1.2.2.2.1,((addN (r1.2.2.2.2.1.2 [a0,a1]) r1.2.2.2.2.1.1),(lT [a0,a1] [r1.1] r1.2.2.2.2.1.2)),(),()))))):=zsE.trans krY
theorem zQJ(E:zky)(zAl:iM aJ 101 (ae.unM E.zI)):iM aJ 101 (ae.unM (ZV E)):=by
  have h:iM aJ 101 (λxs=>aM aJ E.N (zFg E) zyS 101 xs):=LP (aO:=λ_=>zyS) (aB.nil.addM zAl) (dC krY);exact(zhP h:iM aJ 101 (ae.unM (ae.tyM _:zkx)))
theorem rW{a b:Nat}(ha:a<2^63)(hb:b<2^63):pR .i64 (a:Int) (b:Int)=((qU a b:Nat):Int):=by
 unfold pR;have e:(BitVec.ofInt IntKind.i64.bits (a:Int) &&& ~~~ BitVec.ofInt IntKind.i64.bits (b:Int)).toNat=qU a b:=by
  show(BitVec.ofInt 64 (a:Int) &&& ~~~ BitVec.ofInt 64 (b:Int)).toNat=qU a b;refine jqZ λk=>?_;rw[BitVec.toNat_and,BitVec.toNat_not,qB ha,qB hb,zn,Nat.testBit_and,show 2^64-1-b=2^64-(b+1)by omega,Nat.testBit_two_pow_sub_succ (jqT hb (by decide))];by_cases hk:k<64;rw[dK hk,qdq];rw[Nat.testBit_lt_two_pow (qdi ha (qdO omY (show 63<=k by omega)))];rfl
 rw[e,Ey];refine Nat.lt_of_le_of_lt ?_ ha;refine Nat.le_of_testBit λk hk=>?_;rw[zn,fH]at hk;exact hk.1
theorem ZW{a b n:Nat}(h:a<n):qU a b<n:=by
 refine Nat.lt_of_le_of_lt (Nat.le_of_testBit λk hk=>?_) h;rw[zn,fH]at hk;exact hk.1
theorem TA(x:Nat):((x:Int) != 0)=(x != 0):=by
 cases x with|zero=>rfl|succ n=>rw[show((n+1:Nat) != 0)=true from rfl];simp;omega
theorem zo(x:Nat):((x:Int)==0)=(x==0):=by
 cases x with|zero=>rfl|succ n=>rw[show((n+1:Nat)==0)=false from rfl];simp;omega
structure MB (B : Sl Int) (M : List Nat) : Prop where
  len:M.length=B.len
  get:∀i,i<B.len->∃b,M.drop i=b::M.drop (i+1)/\B.get i=(b:Int)/\b<2^40
  le:B.len<=40
theorem ny{a:Nat}(h:a<2^40):a<2^63:=jqT h (by decide)
theorem zct:∀(B:List Nat)(left:Nat),lst B left≤1000
  | [],left=>by
    show cond (left==0) 0 1000<=1000;cases left==0<;>decide
  | b::r,left=>by
    show cond (left==0) 0 (cond (qU left (tC (b::r))==0) (cond (b &&& left != 0) (if 1+lst r (qU left b)<lst r left then 1+lst r (qU left b)else lst r left) (lst r left)) 1000)<=1000;have:=zct r left;cases left==0 with
    | true=>exact xn _
    | false=>cases qU left (tC (b::r))==0 with
      | false=>exact jy _
      | true=>cases b &&& left != 0 with|false=>exact this|true=>simp only[dU,dQ];split<;>omega
theorem ztI{L:List Nat}{left:Nat}(h0:left≠0)(h1:qU left (tC L)≠0):lst L left=1000:=by
 cases L with
 | nil=>show cond (left==0) 0 1000=_;rw[show(left==0)=false by simpa using h0];rfl
 | cons b r =>
  show cond (left==0) 0 (cond (qU left (tC (b::r))==0) _ 1000)=_;rw[show(left==0)=false by simpa using h0,show(qU left (tC (b::r))==0)=false by simpa using h1];rfl
def Gu(f:List Nat->Nat->Nat)(M:List Nat)(F:List Int->Option (List Int)):Prop:=∀(i left:Nat) v,F [(i:Int),(left:Int)]=some v->v=[((f (M.drop i) left:Nat):Int)]
theorem yJ{f:List Nat->Nat->Nat}{M:List Nat}{F:List Int->Option (List Int)}(h:Gu f M F){i left:Nat}{x:Int}(hx:x=((f (M.drop i) left:Nat):Int)):Gu f M (lT [(i:Int),(left:Int)] [x] F):=λj l v hv=>by
 unfold lT at hv;by_cases e:([(j:Int),(l:Int)]:List Int)=[(i:Int),(left:Int)];rw [dK e]at hv;have hv:[x]=v:=dq9 hv;simp only[ES,qj1]at e;rw[<- hv,hx,Int.ofNat_inj.1 e.1,Int.ofNat_inj.1 e.2];rw [dV e]at hv;exact h j l v hv
theorem TC:∀{L:List Nat},(∀b∈L,b<2^40)→tC L<2^40|[],_=>by decide|b::r,h=>qdG (h b jM) (TC λx hx=>h x (jB _ hx))
theorem MB.all{B:Sl Int}{M:List Nat}(h:MB B M):∀{m i:Nat},i+m=B.len→∀b∈M.drop i,b<2^40
  | 0,i,hi,b,hb=>by
    rw[qdt (by have:=h.len;omega)]at hb;cases hb
  | m+1,i,hi,b,hb=>by
    obtain⟨c,e,_,lt⟩:=h.get i omY;rw[e]at hb;rcases jW.1 hb with rfl|hb
    exact lt;exact h.all (m:=m) (i:=i+1) omY b hb
abbrev Xm:=Int×(Unit×Unit×PM×Sl Int×Unit×Unit)
abbrev zFi:=Int×Int×BM×Bc 39 (Sl Int)×Bs 171 100 2 3×Unit
abbrev Xn(n:Nat)(C:zFi->ae Xm):Prop:=∀B M,MB B M->∀(i left:Nat)(p:PM),Gu lst M p.2->i<=B.len->B.len<i+n->left<2^40 ->
 ∃p':PM,Gu lst M p'.2/\C ((i:Int),(left:Int),⟨p.1,p.2⟩,⟨B⟩,{},())=.ok (((lst (M.drop i) left:Nat):Int),(),(),(p'.1,p'.2),B,(),())
theorem zQK{E:zet}(N:Big E.N){n:Nat}(hm:Xn n E.BA):Xn (n+1) (Xl E):=λB M mb i left p hF hi hn hl=>by
  have hN:=N;have bl:=mb.le;by_cases h0:left=0;subst h0;refine⟨p,hF,ae.ext λk=>?_⟩;have e0:=zFf E k (i:Int) ((0:Nat):Int) p B;rw[zo,show((0:Nat)==0)=true from rfl,dU]at e0;rw[zFd,bf];exact e0;have hd:∀(A:Type)(k:Xm->Option A),(Xl E ((i:Int),(left:Int),⟨p.1,p.2⟩,⟨B⟩,{},())).T k=cond (p.2 [(i:Int),(left:Int)]).isSome (k (sD (p.2 [(i:Int),(left:Int)]) 0,(),(),(p.1,p.2),B,(),())) (yI E E.N (i:Int) (left:Int) p B 0 0 k):=λA k=>by
    refine(zFf E k (i:Int) (left:Int) p B).trans ?_;rw[zo,show(left==0)=false by simpa using h0,dQ,bF omY]
  cases hf:p.2 [(i:Int),(left:Int)]with
  | some v =>
    refine⟨p,hF,ae.ext λk=>?_⟩;rw[hd,hf,bf];rw[hF i left v hf];rfl
  | none =>
  rw[hf]at hd
  -- zAo the sets from here on have
  have lp:∀(A:Type)(k:Xm->Option A)(m j n1 v:Nat),i+j+m=B.len->m<n1->v<2^40->yI E n1 (i:Int) (left:Int) p B (v:Int) (j:Int) k=yI E 1 (i:Int) (left:Int) p B ((v ||| tC (M.drop (i+j)):Nat):Int) ((B.len-i:Nat):Int) k:=by
    intro A k m
    induction m with
    | zero =>
      intro j n1 v hj hn1 hv;obtain⟨n1,rfl⟩:∃n',n1=n'+1:=⟨n1-1,omY⟩;rw[qdt (by have:=mb.len;omega),show j=B.len-i by omega];rw[show v ||| tC []=v from Nat.or_zero v,NC,NC (n0:=0),dV omY];rfl
    | succ m ih =>
      intro j n1 v hj hn1 hv;obtain⟨n1,rfl⟩:∃n',n1=n'+1:=⟨n1-1,omY⟩;obtain⟨b,e,eb,lb⟩:=mb.get (i+j) omY;rw[NC,dK omY,dU,bF omY];have eg:LU B.get ((i:Int)).toNat ((j:Int)).toNat=(b:Int):=by
        rw[<- eb];show B.get (((j:Int)).toNat+((i:Int)).toNat)=_;rw[fQ,fQ,qjR]
      rw[eg,Ez (ny hv) (ny lb),bJ omY,ih (j+1) n1 (v ||| b) omY omY (qdG hv lb),e];show _=yI E 1 (i:Int) (left:Int) p B ((v ||| (b ||| tC (M.drop (i+j+1))):Nat):Int) _ k;rw[Nat.or_assoc];rfl
  have ol:tC (M.drop i)<2^40:=TC (mb.all (m:=B.len-i) omY);have h1:∀(A:Type)(k:Xm->Option A),(Xl E ((i:Int),(left:Int),⟨p.1,p.2⟩,⟨B⟩,{},())).T k=yI E 1 (i:Int) (left:Int) p B ((tC (M.drop i):Nat):Int) ((B.len-i:Nat):Int) k:=λA k=>by
    have:=lp A k (B.len-i) 0 E.N 0 omY omY (by decide);rw[Nat.zero_or]at this;exact(hd A k).trans this
  have ex:decide (((B.len-i:Nat):Int)<((((B.len:Int):Int)-(i:Int)).toNat:Int))=false:=dV omY;by_cases hc:qU left (tC (M.drop i))=0
  case neg =>
    refine⟨(addN (p.2 [(i:Int),(left:Int)]) p.1,lT [(i:Int),(left:Int)] [1000] p.2),yJ (i:=i) (left:=left) (x:=1000) hF (by rw[ztI h0 hc];rfl),ae.ext λk=>?_⟩;rw[h1,NC,ex,dQ,rW (ny hl) (ny ol),zo,show(qU left (tC (M.drop i))==0)=false by simpa using hc,dQ,bf,ztI h0 hc];rfl
  have il:i<B.len:=by
    refine qjH λh=>h0 ?_;rw[qdt (by have:=mb.len;omega)]at hc;exact(zcs hc:left=0)
  obtain⟨b,e,eb,lb⟩:=mb.get i il;rw[e]at hc;have lc:=zFe h0 hc;obtain⟨p1,hF1,c1⟩:=hm B M mb (i+1) left p hF omY omY hl;obtain⟨p2,hF2,c2⟩:=hm B M mb (i+1) (qU left b) p1 hF1 omY omY (ZW hl);have b1:=zct (M.drop (i+1)) left;have b2:=zct (M.drop (i+1)) (qU left b)
  have st:∀(A:Type)(k:Xm→Option A),(Xl E ((i:Int),(left:Int),⟨p.1,p.2⟩,⟨B⟩,{},())).T k=cond (b &&& left != 0)
      (k ((if aQ (1+((lst (M.drop (i+1)) (qU left b):Nat):Int))<((lst (M.drop (i+1)) left:Nat):Int)then aQ (1+((lst (M.drop (i+1)) (qU left b):Nat):Int))else((lst (M.drop (i+1)) left:Nat):Int)),(),(),(addN (p2.2 [(i:Int),(left:Int)]) p2.1,lT [(i:Int),(left:Int)] [if aQ (1+((lst (M.drop (i+1)) (qU left b):Nat):Int))<((lst (M.drop (i+1)) left:Nat):Int)then aQ (1+((lst (M.drop (i+1)) (qU left b):Nat):Int))else((lst (M.drop (i+1)) left:Nat):Int)] p2.2),B,(),()))
      (k (((lst (M.drop (i+1)) left:Nat):Int),(),(),(addN (p1.2 [(i:Int),(left:Int)]) p1.1,lT [(i:Int),(left:Int)] [((lst (M.drop (i+1)) left:Nat):Int)] p1.2),B,(),())):=λA k=>by
    rw[h1,NC,ex,dQ,e,rW (ny hl) (ny (by rw[<- e];exact ol)),hc];show(E.BA (aQ ((i:Int)+1),(left:Int),⟨p.1,p.2⟩,⟨B⟩,{},())).T _=_;rw[bJ omY,c1,bf];show aV (decide (0<=(i:Int)/\(i:Int)<(B.len:Int))) (cond ((N7 .i64 (B.get ((i:Int)).toNat) (left:Int)) != 0) (aV (decide (0<=(i:Int)/\(i:Int)<(B.len:Int))) ((E.BA (((i+1:Nat):Int),pR .i64 (left:Int) (B.get ((i:Int)).toNat),⟨p1.1,p1.2⟩,⟨B⟩,{},())).T _)) _)=_;rw[bF omY,bF omY,fQ,eb,uX (ny lb) (ny hl),TA,rW (ny hl) (ny lb),c2,bf]
  have mi:∀x y:Nat,x<=1000->(if aQ (1+(x:Int))<(y:Int)then aQ (1+(x:Int))else(y:Int))=((if 1+x<y then 1+x else y:Nat):Int):=λx y hx=>by
    rw[aZ omY omY];by_cases c:1+x<y;rw[dH omY,dH c];omega;rw[dM omY,dM c]
  cases Yd:b &&& left != 0 with
  | false =>
    rw[Yd,dQ]at lc;exact⟨(addN (p1.2 [(i:Int),(left:Int)]) p1.1,lT [(i:Int),(left:Int)] [((lst (M.drop (i+1)) left:Nat):Int)] p1.2),yJ (i:=i) (left:=left) hF1 (by rw[e,lc]),ae.ext λk=>by rw[st,Yd,dQ,bf,e,lc]⟩
  | true =>
    rw[Yd,dU]at lc;refine⟨(addN (p2.2 [(i:Int),(left:Int)]) p2.1,lT [(i:Int),(left:Int)] [((lst (b::M.drop (i+1)) left:Nat):Int)] p2.2),yJ (i:=i) (left:=left) (x:=((lst (b::M.drop (i+1)) left:Nat):Int)) hF2 (by rw[e]),ae.ext λk=>?_⟩;rw[st,Yd,dU,bf,e,mi _ _ b2,<- lc]
theorem zcu:∀(B:List Nat)(used:Nat),ru B used≤B.length
  | [],_=>jy _
  | b::r,used=>by
    have h1:=zcu r used;have h2:=zcu r (used ||| b);rw[ztH,xm];cases b &&& used==0 with|true=>rw[dU];split<;>omega|false=>rw[dQ];omega
abbrev zkz:=Int×(Unit×Unit×Sl Int×PM×Unit×Unit)
abbrev zFj:=Int×Int×Bc 39 (Sl Int)×BM×Bs 171 101 2 3×Unit
abbrev Xo(n:Nat)(C:zFj->ae zkz):Prop:=∀B M,MB B M->∀(i used:Nat)(p:PM),Gu ru M p.2->i<=B.len->B.len<i+n->used<2^40 ->
 ∃p':PM,Gu ru M p'.2/\C ((i:Int),(used:Int),⟨B⟩,⟨p.1,p.2⟩,{},())=.ok (((ru (M.drop i) used:Nat):Int),(),(),B,(p'.1,p'.2),(),())
theorem zQL{E:zky}(N:Big E.N){n:Nat}(hm:Xo n E.zI):Xo (n+1) (ZV E):=λB M mb i used p hF hi hn hl=>by
  have hN:=N;have bl:=mb.le;by_cases hil:i=B.len;refine⟨p,hF,ae.ext fun k => ?_⟩;have e0:=zFh E k (i:Int) (used:Int) B p;rw[show((i:Int)==(B.len:Int))=true by rw[hil];exact qji _,dU]at e0;rw[qdt (by have:=mb.len;omega),bf];exact e0;have hd:∀(A:Type)(k:zkz->Option A),(ZV E ((i:Int),(used:Int),⟨B⟩,⟨p.1,p.2⟩,{},())).T k=cond (p.2 [(i:Int),(used:Int)]).isSome (k (sD (p.2 [(i:Int),(used:Int)]) 0,(),(),B,(p.1,p.2),(),())) ((E.zI (aQ ((i:Int)+1),(used:Int),⟨B⟩,⟨p.1,p.2⟩,{},())).T _):=λA k=>by
    rw[zFh E k (i:Int) (used:Int) B p,show((i:Int)==(B.len:Int))=false by rw[qjt];omega,dQ]
  cases hf:p.2 [(i:Int),(used:Int)]with
  | some v =>
    refine⟨p,hF,ae.ext λk=>?_⟩;rw[hd,hf,bf];rw[hF i used v hf];rfl
  | none =>
  rw[hf]at hd;obtain⟨b,e,eb,lb⟩:=mb.get i omY;obtain⟨p1,hF1,c1⟩:=hm B M mb (i+1) used p hF omY omY hl;obtain⟨p2,hF2,c2⟩:=hm B M mb (i+1) (used ||| b) p1 hF1 omY omY (qdG hl lb);have b1:=zcu (M.drop (i+1)) (used ||| b);have b2:(M.drop (i+1)).length<=40:=by rw[qdD];have:=mb.len;omega
  have st:∀(A:Type)(k:zkz→Option A),(ZV E ((i:Int),(used:Int),⟨B⟩,⟨p.1,p.2⟩,{},())).T k=cond (b &&& used==0)
      (k ((if aQ (1+((ru (M.drop (i+1)) (used ||| b):Nat):Int))>((ru (M.drop (i+1)) used:Nat):Int)then aQ (1+((ru (M.drop (i+1)) (used ||| b):Nat):Int))else((ru (M.drop (i+1)) used:Nat):Int)),(),(),B,(addN (p2.2 [(i:Int),(used:Int)]) p2.1,lT [(i:Int),(used:Int)] [if aQ (1+((ru (M.drop (i+1)) (used ||| b):Nat):Int))>((ru (M.drop (i+1)) used:Nat):Int)then aQ (1+((ru (M.drop (i+1)) (used ||| b):Nat):Int))else((ru (M.drop (i+1)) used:Nat):Int)] p2.2),(),()))
      (k (((ru (M.drop (i+1)) used:Nat):Int),(),(),B,(addN (p1.2 [(i:Int),(used:Int)]) p1.1,lT [(i:Int),(used:Int)] [((ru (M.drop (i+1)) used:Nat):Int)] p1.2),(),())):=λA k=>by
    rw[hd];show(E.zI (aQ ((i:Int)+1),(used:Int),⟨B⟩,⟨p.1,p.2⟩,{},())).T _=_;rw[bJ omY,c1,bf];show aV (decide (0<=(i:Int)/\(i:Int)<(B.len:Int))) (cond ((N7 .i64 (B.get ((i:Int)).toNat) (used:Int))==0) (aV (decide (0<=(i:Int)/\(i:Int)<(B.len:Int))) ((E.zI (((i+1:Nat):Int),orW .i64 (used:Int) (B.get ((i:Int)).toNat),⟨B⟩,⟨p1.1,p1.2⟩,{},())).T _)) _)=_;rw[bF omY,bF omY,fQ,eb,uX (ny lb) (ny hl),zo,Ez (ny hl) (ny lb),c2,bf]
  have mi:∀x y:Nat,x<=1000->(if aQ (1+(x:Int))>(y:Int)then aQ (1+(x:Int))else(y:Int))=((if 1+x>y then 1+x else y:Nat):Int):=λx y hx=>by
    rw[aZ omY omY];by_cases c:1+x>y;rw[dH omY,dH c];omega;rw[dM omY,dM c]
  have lc:=ztH b (M.drop (i+1)) used;cases Yd:b &&& used==0 with
  | false =>
    rw[Yd,dQ]at lc;exact⟨(addN (p1.2 [(i:Int),(used:Int)]) p1.1,lT [(i:Int),(used:Int)] [((ru (M.drop (i+1)) used:Nat):Int)] p1.2),yJ (i:=i) (left:=used) hF1 (by rw[e,lc]),ae.ext λk=>by rw[st,Yd,dQ,bf,e,lc]⟩
  | true =>
    rw[Yd,dU]at lc;refine⟨(addN (p2.2 [(i:Int),(used:Int)]) p2.1,lT [(i:Int),(used:Int)] [((ru (b::M.drop (i+1)) used:Nat):Int)] p2.2),yJ (i:=i) (left:=used) (x:=((ru (b::M.drop (i+1)) used:Nat):Int)) hF2 (by rw[e]),ae.ext λk=>?_⟩;rw[st,Yd,dU,bf,e,mi _ _ omY,<- lc]
structure E36 where
 N:Nat
 Yc:Int->ae Bool
 c72:au×bI×(Sl bu)×(Sl Bool)->ae (Int ⊕ ((Pt found)×Int))
 c97:(Sl af)×((dF 132 Unit (Pt af)) ⊕ (dF 98 Unit (Pt Int)))->ae Int
 c99:af->ae Int
 BA:zkw
 zI:zkx
abbrev G36(E:E36):bM:=jc ((((((Tabs.nil.addM 100 (ae.unM E.BA)).addM 101 (ae.unM E.zI)).addF 96 (ae.un E.Yc)).addF 72 (ae.unA E.c72)).addF 97 (ae.un E.c97)).addF 99 (ae.un E.c99)) [73,75]
def A36:dI:=bZ aJ 36 [] {ks:=[(0,14,⟨[],[],[],[],[1000896],[],[]⟩),(1,8,⟨[],[],[(14,0,64,3)],[],[],[],[]⟩),(1,25,⟨[],[(22,109,3),(23,137,3)],[],[],[],[],[]⟩)],cut:=[29]}
def F36(E:E36):au×bI×(Sl bu)×Int->ae ((Sl Int)×(Sl Int)×Int):=ae.ty (aF aJ E.N (G36 E) A36 36)
section
variable(E:E36){A:Type}(k:((Sl Int)×(Sl Int)×Int)->Option A)
def ND(E:E36)(n:Nat)(a3 zq Ij:Int)(v50:Sl af)(v51 v52:Int)(wY:Sl Int){A:Type}(k:((Sl Int)×(Sl Int)×Int)->Option A):Option A:=kC aJ (G36 E) E.N A36 36 [1,1,1,1,1,1,0,1,0] [.n n] (kz k) ⟨[(7,.cl (.ptr 7 0)),(13,.int zq),(14,.cl (.ptr 14 0)),(15,.int Ij),(50,eP v50),(51,.int v51),(52,.int v52)],[(7,.fbox (bn.enc a3)),(14,.box 39 [.vec 64]),(64,eV 3 1 8 wY)],[]⟩
def EC(E:E36)(n:Nat)(zq v24 v25:Int)(v78:Sl Int)(v79 v80:Int)(yK yL yM:Sl Int)(IG:Nat)(II:List Int->Option (List Int))(IJ:Nat)(IK:List Int->Option (List Int)){A:Type}(k:((Sl Int)×(Sl Int)×Int)->Option A):Option A:=kC aJ (G36 E) E.N A36 36 [1,1,1,1,1,1,1,1,1,1,1,1,1,1,1,1,0,1,0] [.n n] (kz k) ⟨[(13,.int zq),(19,.cl (.ptr 19 0)),(21,.cl (.ptr 21 0)),(22,.cl (.vec 109)),(23,.cl (.vec 137)),(24,.int v24),(25,.int v25),(78,eP v78),(79,.int v79),(80,.int v80)],[(19,.box 171 [.clo 100 [.b 18,.b 14,.b 19]]),(21,.box 171 [.clo 101 [.b 14,.b 20,.b 21]]),(109,eV 3 1 8 yK),(137,eV 3 1 8 yL),(18,.box 170 [.mo 73]),(14,eB 39 yM),(20,.box 170 [.mo 75]),(73,.mo 173 3 (.ints,2,false,[some .i64]) IG II),(75,.mo 173 3 (.ints,2,false,[some .i64]) IJ IK)],[]⟩
def Ig(E:E36)(n0:Nat)(zq v24 v25 v26 zM:Int)(v78:Sl Int)(v79 v80:Int)(yK yL yM:Sl Int)(IG:Nat)(II:List Int->Option (List Int))(IJ:Nat)(IK:List Int->Option (List Int)){A:Type}(k:((Sl Int)×(Sl Int)×Int)->Option A):Option A:=kC aJ (G36 E) E.N A36 36 [1,1,1,1,1,1,1,1,1,1,1,1,1,1,1,1,0,1,0,0,1,1,0,0,1,1] [.n n0] (kz k) ⟨[(13,.int zq),(19,.cl (.ptr 19 0)),(21,.cl (.ptr 21 0)),(22,.cl (.vec 109)),(23,.cl (.vec 137)),(24,.int v24),(25,.int v25),(26,.int v26),(27,.int zM),(78,eP v78),(79,.int v79),(80,.int v80)],[(19,.box 171 [.clo 100 [.b 18,.b 14,.b 19]]),(21,.box 171 [.clo 101 [.b 14,.b 20,.b 21]]),(109,eV 3 1 8 yK),(137,eV 3 1 8 yL),(18,.box 170 [.mo 73]),(14,eB 39 yM),(20,.box 170 [.mo 75]),(73,.mo 173 3 (.ints,2,false,[some .i64]) IG II),(75,.mo 173 3 (.ints,2,false,[some .i64]) IJ IK)],[]⟩
theorem e36(a0:au)(a1:bI)(a2:Sl bu)(a3:Int):(F36 E (a0,a1,a2,a3)).T k=(E.Yc a3).T λr1=>(E.c72 (a0,a1,a2,(⟨1,(λ_=>r1)⟩:(Sl Bool)))).T λr2=>VG r2 (λr2=>cond (r2 != 0) (k ((⟨0,λ_=>default⟩:(Sl Int)),(⟨0,λ_=>default⟩:(Sl Int)),r2)) (none)) (λr2=>cond (r2.2 != 0) (k ((⟨0,λ_=>default⟩:(Sl Int)),(⟨0,λ_=>default⟩:(Sl Int)),r2.2)) ((E.c97 (r2.1.v.ax,(Sum.inr (⟨(),(⟨a3⟩:(Pt Int))⟩:(dF 98 Unit (Pt Int)))))).T λr3=>ND E E.N a3 r3 0 r2.1.v.ax (r2.1.v.ax.len:Int) 0 (⟨0,(λ_=>0)⟩:(Sl Int)) k)):=eX
theorem Qk(n0:Nat)(a3 zq Ij:Int)(v50:Sl af)(v51 v52:Int)(wY:Sl Int):ND E (n0+1) a3 zq Ij v50 v51 v52 wY k=cond (decide (v52<v51)) (aV (decide (0<=v52/\v52<(v50.len:Int))) (cond ((v50.get v52.toNat).View==a3) ((E.c99 (v50.get v52.toNat)).T λr1=>aV (room (wY.len+1) 8) ((E.c99 (v50.get v52.toNat)).T λr2=>ND E n0 a3 zq (orW .i64 Ij r2) v50 v51 (aQ (v52+1)) (⟨(wY.len+1),(lm wY.len wY.get (λ_=>r1))⟩:(Sl Int)) k)) (ND E n0 a3 zq Ij v50 v51 (aQ (v52+1)) wY k))) (cond (decide ((wY.len:Int)>40)) (k ((⟨0,λ_=>default⟩:(Sl Int)),(⟨0,λ_=>default⟩:(Sl Int)),8)) (EC E E.N zq Ij 0 wY (wY.len:Int) 0 (⟨0,(λ_=>0)⟩:(Sl Int)) (⟨0,(λ_=>0)⟩:(Sl Int)) wY 0 (λ_=>none) 0 (λ_=>none) k)):=krY
theorem zkA(n0:Nat)(zq v24 v25:Int)(v78:Sl Int)(v79 v80:Int)(yK yL yM:Sl Int)(IG:Nat)(II:List Int→Option (List Int))(IJ:Nat)(IK:List Int→Option (List Int)):EC E (n0+1) zq v24 v25 v78 v79 v80 yK yL yM IG II IJ IK k=cond (decide (v80<v79)) (aV (decide (0<=v80/\v80<(v78.len:Int))) (cond ((N7 .i64 (v78.get v80.toNat) v24) != 0) ((E.BA (v80,v24,(⟨IG,II⟩:BM),(⟨yM⟩:Bc 39 (Sl Int)),({}:Bs 171 100 2 3),())).T λr1=>(E.BA ((aQ (v80+1)),(pR .i64 v24 (v78.get v80.toNat)),(⟨r1.2.2.2.1.1,r1.2.2.2.1.2⟩:BM),(⟨r1.2.2.2.2.1⟩:Bc 39 (Sl Int)),({}:Bs 171 100 2 3),())).T λr2=>cond (r1.1==(aQ (1+r2.1))) (aV (room (yK.len+1) 8) (Ig E n0 zq (pR .i64 v24 (v78.get v80.toNat)) v25 v80 (v78.get v80.toNat) v78 v79 v80 (⟨(yK.len+1),(lm yK.len yK.get (λ_=>(aQ (zq+v80))))⟩:(Sl Int)) yL r2.2.2.2.2.1 r2.2.2.2.1.1 r2.2.2.2.1.2 IJ IK k)) (Ig E n0 zq v24 v25 v80 (v78.get v80.toNat) v78 v79 v80 yK yL r2.2.2.2.2.1 r2.2.2.2.1.1 r2.2.2.2.1.2 IJ IK k)) (Ig E n0 zq v24 v25 v80 (v78.get v80.toNat) v78 v79 v80 yK yL yM IG II IJ IK k))) (k (yK,yL,0)):=krY
theorem ztJ(n0:Nat)(zq v24 v25 v26 zM:Int)(v78:Sl Int)(v79 v80:Int)(yK yL yM:Sl Int)(IG:Nat)(II:List Int→Option (List Int))(IJ:Nat)(IK:List Int→Option (List Int)):Ig E n0 zq v24 v25 v26 zM v78 v79 v80 yK yL yM IG II IJ IK k=cond ((N7 .i64 zM v25)==0) ((E.zI (v26,v25,(⟨yM⟩:Bc 39 (Sl Int)),(⟨IJ,IK⟩:BM),({}:Bs 171 101 2 3),())).T λr1=>(E.zI ((aQ (v26+1)),(orW .i64 v25 zM),(⟨r1.2.2.2.1⟩:Bc 39 (Sl Int)),(⟨r1.2.2.2.2.1.1,r1.2.2.2.2.1.2⟩:BM),({}:Bs 171 101 2 3),())).T λr2=>cond (r1.1==(aQ (1+r2.1))) (aV (room (yL.len+1) 8) (EC E n0 zq v24 (orW .i64 v25 zM) v78 v79 (aQ (v80+1)) yK (⟨(yL.len+1),(lm yL.len yL.get (λ_=>(aQ (zq+v26))))⟩:(Sl Int)) r2.2.2.2.1 IG II r2.2.2.2.2.1.1 r2.2.2.2.2.1.2 k)) (EC E n0 zq v24 v25 v78 v79 (aQ (v80+1)) yK yL r2.2.2.2.1 IG II r2.2.2.2.2.1.1 r2.2.2.2.2.1.2 k)) (EC E n0 zq v24 v25 v78 v79 (aQ (v80+1)) yK yL yM IG II IJ IK k):=krY
end
theorem o36 [aG](E:E36)(h96:Ok aJ 96 (ae.un E.Yc))(OE:Ok aJ 72 (ae.unA E.c72))(h97:Ok aJ 97 (ae.un E.c97))(h99:Ok aJ 99 (ae.un E.c99))(zAA:iM aJ 100 (ae.unM E.BA))(zAl:iM aJ 101 (ae.unM E.zI)):Ok aJ 36 (ae.un (F36 E)):=eY ((((((aB.nil.addM zAA).addM zAl).addF h96).addF OE).addF h97).addF h99)
def zH:Int→List Bool→List Int|_,[]=>[]|o,true::s=>o::zH (o+1) s|o,false::s=>zH (o+1) s
section
variable{E:E36}(N:Big E.N)(ZX:Xn 42 E.BA)(ZY:Xo 42 E.zI){B:Sl Int}{M:List Nat}(mb:MB B M){o:Int}(ho : -1<=o/\o<=10000)
include N ZX mb ho in
theorem zFm{i n left used:Nat}{b:Nat}(hi:i<B.len)(e:M.drop i=b::M.drop (i+1))(eb:B.get i=(b:Int))(lb:b<2^40)(hl:left<2^40){W1 W2:Sl Int}(hW:W1.len≤1000){p q:PM}(hp:Gu lst M p.2) :
    ∃p':PM,Gu lst M p'.2∧∀(A:Type)(k:Sl Int×Sl Int×Int→Option A),EC E (n+1) o (left:Int) (used:Int) B (B.len:Int) (i:Int) W1 W2 B p.1 p.2 q.1 q.2 k=cond (b &&& left != 0&&lst (b::M.drop (i+1)) left==1+lst (M.drop (i+1)) (qU left b))
      (Ig E n o ((qU left b:Nat):Int) (used:Int) (i:Int) (b:Int) B (B.len:Int) (i:Int) (mX W1 (o+(i:Int))) W2 B p'.1 p'.2 q.1 q.2 k)
      (Ig E n o (left:Int) (used:Int) (i:Int) (b:Int) B (B.len:Int) (i:Int) W1 W2 B p'.1 p'.2 q.1 q.2 k):=by
  have bl:=mb.le;cases Yd:b &&& left != 0 with
  | false =>
    refine⟨p,hp,λA k=>?_⟩;rw[zkA,dK omY,dU,bF omY,fQ,eb,uX (ny lb) (ny hl),TA,Yd];rfl
  | true =>
    obtain⟨p1,hp1,c1⟩:=ZX B M mb i left p hp omY omY hl;obtain⟨p2,hp2,c2⟩:=ZX B M mb (i+1) (qU left b) p1 hp1 omY omY (ZW hl);have b1:=zct (M.drop (i+1)) (qU left b);refine⟨p2,hp2,λA k=>?_⟩;have eq:(((lst (M.drop i) left:Nat):Int)==aQ (1+((lst (M.drop (i+1)) (qU left b):Nat):Int)))=(lst (b::M.drop (i+1)) left==1+lst (M.drop (i+1)) (qU left b)):=by
      rw[aZ omY omY,e,qdA,qd8,qd8];omega
    rw[zkA,dK omY,dU,bF omY,fQ,eb,uX (ny lb) (ny hl),TA,Yd,dU,c1,bf,rW (ny hl) (ny lb),bJ omY];show(E.BA (((i+1:Nat):Int),((qU left b:Nat):Int),⟨p1.1,p1.2⟩,⟨B⟩,{},())).T _=_;rw[c2,bf,eq,aZ (x:=o+(i:Int)) omY omY,lV omY omY];rfl
include N ZY mb ho in
theorem zFn{i n left used:Nat}{b:Nat}(hi:i<B.len)(e:M.drop i=b::M.drop (i+1))(lb:b<2^40)(hl:used<2^40){W1 W2:Sl Int}(hW:W2.len≤1000){p q:PM}(hq:Gu ru M q.2) :
    ∃q':PM,Gu ru M q'.2∧∀(A:Type)(k:Sl Int×Sl Int×Int→Option A),Ig E n o (left:Int) (used:Int) (i:Int) (b:Int) B (B.len:Int) (i:Int) W1 W2 B p.1 p.2 q.1 q.2 k=cond (b &&& used==0&&ru (b::M.drop (i+1)) used==1+ru (M.drop (i+1)) (used ||| b))
      (EC E n o (left:Int) ((used ||| b:Nat):Int) B (B.len:Int) ((i+1:Nat):Int) W1 (mX W2 (o+(i:Int))) B p.1 p.2 q'.1 q'.2 k)
      (EC E n o (left:Int) (used:Int) B (B.len:Int) ((i+1:Nat):Int) W1 W2 B p.1 p.2 q'.1 q'.2 k):=by
  have bl:=mb.le;cases Yd:b &&& used==0 with
  | false =>
    refine⟨q,hq,λA k=>?_⟩;rw[ztJ,uX (ny lb) (ny hl),zo,Yd,bJ omY];rfl
  | true =>
    obtain⟨q1,hq1,c1⟩:=ZY B M mb i used q hq omY omY hl;obtain⟨q2,hq2,c2⟩:=ZY B M mb (i+1) (used ||| b) q1 hq1 omY omY (qdG hl lb);have b1:=zcu (M.drop (i+1)) (used ||| b);have b2:(M.drop (i+1)).length<=40:=by rw[qdD];have:=mb.len;omega
    refine⟨q2,hq2,λA k=>?_⟩;have eq:(((ru (M.drop i) used:Nat):Int)==aQ (1+((ru (M.drop (i+1)) (used ||| b):Nat):Int)))=(ru (b::M.drop (i+1)) used==1+ru (M.drop (i+1)) (used ||| b)):=by
      rw[aZ omY omY,e,qdA,qd8,qd8];omega
    rw[ztJ,uX (ny lb) (ny hl),zo,Yd,dU,c1,bf,Ez (ny hl) (ny lb),bJ omY];show(E.zI (((i+1:Nat):Int),((used ||| b:Nat):Int),⟨B⟩,⟨q1.1,q1.2⟩,{},())).T _=_;rw[c2,bf,eq,aZ (x:=o+(i:Int)) omY omY,lV omY omY];rfl
include N ZX ZY mb ho in
theorem zQM:∀(m i n left used:Nat)(W1 W2:Sl Int)(p q:PM),i+m=B.len->m<n->left<2^40->used<2^40->W1.len<=i->W2.len<=i->Gu lst M p.2->Gu ru M q.2 ->
  ∃a c:Sl Int,(∀(A:Type)(k:Sl Int×Sl Int×Int->Option A),EC E n o (left:Int) (used:Int) B (B.len:Int) (i:Int) W1 W2 B p.1 p.2 q.1 q.2 k=k (a,c,0))/\kG a=kG W1++zH (o+(i:Int)) (grd (M.drop i) left)/\kG c=kG W2++zH (o+(i:Int)) (grm (M.drop i) used)/\a.len<=B.len/\c.len<=B.len:=by
 have bl:=mb.le;intro m
 induction m with
 | zero =>
  intro i n left used W1 W2 p q hi hn hl hu h1 h2 hp hq;obtain⟨n,rfl⟩:∃n',n=n'+1:=⟨n-1,omY⟩;refine⟨W1,W2,λA k=>by rw[zkA,dV omY];rfl,?_,?_,omY,omY⟩;rw[qdt (by have:=mb.len;omega)];exact(qjq _).symm;rw[qdt (by have:=mb.len;omega)];exact(qjq _).symm
 | succ m ih =>
  intro i n left used W1 W2 p q hi hn hl hu h1 h2 hp hq;obtain⟨n,rfl⟩:∃n',n=n'+1:=⟨n-1,omY⟩;obtain⟨b,e,eb,lb⟩:=mb.get i omY;obtain⟨p',OC,s2⟩:=zFm (n:=n) (used:=used) (W2:=W2) (q:=q) N ZX mb ho omY e eb lb hl (show W1.len<=1000 by omega) hp;have oi:o+(i:Int)+1=o+((i+1:Nat):Int):=by omega
  have gd:zH (o+(i:Int)) (grd (M.drop i) left)=cond (b &&& left != 0&&lst (b::M.drop (i+1)) left==1+lst (M.drop (i+1)) (qU left b)) ((o+(i:Int))::zH (o+((i+1:Nat):Int)) (grd (M.drop (i+1)) (qU left b))) (zH (o+((i+1:Nat):Int)) (grd (M.drop (i+1)) left)):=by
   rw[e,<- oi];show zH _ (cond _ _ _)=_;cases b &&& left != 0&&lst (b::M.drop (i+1)) left==1+lst (M.drop (i+1)) (qU left b)<;>rfl
  have gm:zH (o+(i:Int)) (grm (M.drop i) used)=cond (b &&& used==0&&ru (b::M.drop (i+1)) used==1+ru (M.drop (i+1)) (used ||| b)) ((o+(i:Int))::zH (o+((i+1:Nat):Int)) (grm (M.drop (i+1)) (used ||| b))) (zH (o+((i+1:Nat):Int)) (grm (M.drop (i+1)) used)):=by
   rw[e,<- oi];show zH _ (cond _ _ _)=_;cases b &&& used==0&&ru (b::M.drop (i+1)) used==1+ru (M.drop (i+1)) (used ||| b)<;>rfl
  have ap:∀(W:Sl Int)(x:Int),kG (mX W x)=kG W++[x]:=λW x=>Qe W x;have fin:∀(NL:Nat)(V1:Sl Int)(L1:List Int),NL<2^40->V1.len<=i+1->kG V1++zH (o+((i+1:Nat):Int)) (grd (M.drop (i+1)) NL)=L1->∃a c:Sl Int,(∀(A:Type)(k:Sl Int×Sl Int×Int->Option A),Ig E n o (NL:Int) (used:Int) (i:Int) (b:Int) B (B.len:Int) (i:Int) V1 W2 B p'.1 p'.2 q.1 q.2 k=k (a,c,0))/\kG a=L1/\kG c=kG W2++zH (o+(i:Int)) (grm (M.drop i) used)/\a.len<=B.len/\c.len<=B.len:=λNL V1 L1 vk hV hL=>by
   obtain⟨q',hq',s3⟩:=zFn (n:=n) (left:=NL) (W1:=V1) (p:=p') N ZY mb ho omY e lb hu (show W2.len<=1000 by omega) hq;rw[gm];cases hg:b &&& used==0&&ru (b::M.drop (i+1)) used==1+ru (M.drop (i+1)) (used ||| b)with
   | true =>
    rw[hg]at s3;obtain⟨a,c,k1,k2,k3,k4,k5⟩:=ih (i+1) n NL (used ||| b) V1 (mX W2 (o+(i:Int))) p' q' omY omY vk (qdG hu lb) hV (by show W2.len+1<=i+1;omega) OC hq';refine⟨a,c,λA k=>(s3 A k).trans (k1 A k),k2.trans hL,?_,k4,k5⟩;rw[k3,ap,qjd];rfl
   | false =>
    rw[hg]at s3;obtain⟨a,c,k1,k2,k3,k4,k5⟩:=ih (i+1) n NL used V1 W2 p' q' omY omY vk hu hV omY OC hq';exact⟨a,c,λA k=>(s3 A k).trans (k1 A k),k2.trans hL,k3,k4,k5⟩
  rw[gd];cases hg:b &&& left != 0&&lst (b::M.drop (i+1)) left==1+lst (M.drop (i+1)) (qU left b)with
  | true =>
   rw[hg]at s2;obtain⟨a,c,k1,k2⟩:=fin (qU left b) (mX W1 (o+(i:Int))) _ (ZW hl) (by show W1.len+1<=i+1;omega) rfl;refine⟨a,c,λA k=>(s2 A k).trans (k1 A k),?_,k2.2⟩;rw[k2.1,ap,qjd];rfl
  | false =>
   rw[hg]at s2;obtain⟨a,c,k1,k2⟩:=fin left W1 _ hl omY rfl;exact⟨a,c,λA k=>(s2 A k).trans (k1 A k),k2⟩
end
def uZ(L:List af)(x:Int):List Nat:=(L.filter λt=>t.View==x).map λt=>bt t t.Hits.len
theorem zFo{B:Sl Int}{M:List Nat}(h:kG B=M.map Int.ofNat)(hM:∀b∈M,b<2^40)(hl:B.len<=40):MB B M:=by
 have e:M.length=B.len:=by have:=jF List.length h;rw[Em,qda]at this;omega
 refine⟨e,λi hi=>?_,hl⟩;have mV:i<M.length:=by omega
 refine⟨M[i],jqt mV,?_,hM _ (qdb mV)⟩;have:=jF (λL=>L[i]?) h;simp only[dq0,Ai mV,OL]at this;rw[show(kG B)[i]? = some (B.get i)from Nw (w:=B) hi]at this;exact dq9 this
theorem zFp{E:E36}(N:Big E.N)(h99:Q99 E.c99){T:Sl af}(hT:T.len<=10000)(hs:∀i,i<T.len->Sm (T.get i)){x o:Int}:∀(m i n all:Nat)(W:Sl Int),i+m=T.len->m<n->all<2^40->W.len<=i ->
  ∃(W':Sl Int)(zfk:Nat),(∀(A:Type)(k:Sl Int×Sl Int×Int->Option A),ND E n x o (all:Int) T (T.len:Int) (i:Int) W k=ND E 1 x o (zfk:Int) T (T.len:Int) (T.len:Int) W' k)/\kG W'=kG W++(uZ ((List.range' i m).map T.get) x).map Int.ofNat/\zfk=all ||| tC (uZ ((List.range' i m).map T.get) x):=by
 intro m
 induction m with
 | zero =>
  intro i n all W hi hn ha hW;obtain⟨n,rfl⟩:∃n',n=n'+1:=⟨n-1,omY⟩;refine⟨W,all,λA k=>by rw[show i=T.len by omega,Qk,Qk (n0:=0),dV omY];rfl,(qjq _).symm,(Nat.or_zero _).symm⟩
 | succ m ih =>
  intro i n all W hi hn ha hW;obtain⟨n,rfl⟩:∃n',n=n'+1:=⟨n-1,omY⟩;have sm:=hs i omY;have lb:=zcn sm _ (jy _);rw[Yj,nU];cases hv:(T.get i).View==x with
  | false =>
   obtain⟨W',zfk,a,b,c⟩:=ih (i+1) n all W omY omY ha omY;have em:uZ (T.get i::(List.range' (i+1) m).map T.get) x=uZ ((List.range' (i+1) m).map T.get) x:=by unfold uZ;rw[qdo,hv];rfl
   rw[em];refine⟨W',zfk,λA k=>?_,b,c⟩;rw[Qk,dK omY,dU,bF omY,fQ,hv,bJ omY];exact a A k
  | true =>
   obtain⟨W',zfk,a,b,c⟩:=ih (i+1) n (all ||| bt (T.get i) (T.get i).Hits.len) (mX W (bt (T.get i) (T.get i).Hits.len:Int)) omY omY (qdG ha lb) (by show W.len+1<=i+1;omega);have em:uZ (T.get i::(List.range' (i+1) m).map T.get) x=bt (T.get i) (T.get i).Hits.len::uZ ((List.range' (i+1) m).map T.get) x:=by unfold uZ;rw[qdo,hv];rfl
   rw[em];refine⟨W',zfk,λA k=>?_,?_,?_⟩;rw [Qk,dK omY,dU,bF omY,fQ,hv,dU,h99 _ sm,bf,lV omY omY,bf,Ez (ny ha) (ny lb),bJ omY];exact a A k;rw[b,show kG (mX W (bt (T.get i) (T.get i).Hits.len:Int))=kG W++[(bt (T.get i) (T.get i).Hits.len:Int)]from Qe W _,qjd];rfl;rw[c,Nat.or_assoc];rfl
abbrev Q36(C:au×bI×Sl bu×Int->ae (Sl Int×Sl Int×Int)):Prop:=∀s r l x,qO s->l.len<=40 ->
  (rV s r l (RN x)≠0/\C (s,r,l,x)=.ok (⟨0,λ_=>default⟩,⟨0,λ_=>default⟩,rV s r l (RN x))) \/
  (rV s r l (RN x)=0/\∃f,H5 s r l f /\
    ((40 < (uZ (ls f.ax) x).length ∧ C (s, r, l, x) = .ok (⟨0, fun _ => default⟩, ⟨0, fun _ => default⟩, 8)) ∨
     ((uZ (ls f.ax) x).length<=40/\∃a b:Sl Int,C (s,r,l,x)=.ok (a,b,0)/\a.len<=40/\b.len<=40 /\
       kG a=zH (fst (λj=>(f.ax.get j).View==x) f.ax.len 0) (grd (uZ (ls f.ax) x) (tC (uZ (ls f.ax) x))) /\
       kG b=zH (fst (λj=>(f.ax.get j).View==x) f.ax.len 0) (grm (uZ (ls f.ax) x) 0))))
theorem zkB(p:Nat→Bool):∀m i,-1≤fst p m i∧fst p m i≤((i+m:Nat):Int)
  | 0,i=>by show(-1:Int)<=-1/\(-1:Int)<=_;omega
  | m+1,i=>by
    have:=zkB p m (i+1);show -1<=cond (p i) (i:Int) (fst p m (i+1))/\cond (p i) (i:Int) (fst p m (i+1))<=_;cases p i with|true=>rw[dU];omega|false=>rw[dQ];omega
theorem s36{E:E36}(N:Big E.N)(h96:QVw E.Yc)(OE:ZO E.c72)(h97:Q97 E.c97)(h99:Q99 E.c99)(ZX:Xn 42 E.BA)(ZY:Xo 42 E.zI):Q36 (F36 E):=λs r l x hs hl=>by
 have hN:=N;have al:(ls (⟨1,λ_=>RN x⟩:Sl Bool)).all id=RN x:=qjp _;have c72:=OE s r l ⟨1,λ_=>RN x⟩ hs hl (by show 1<=10;omega);rw[al]at c72;rcases c72 with⟨h0,c72⟩|⟨h0,f,c72,F⟩
 refine .inl ⟨h0,ae.ext fun k => ?_⟩;rw[e36,h96,bf,c72,bf,bf];show cond (rV s r l (RN x) != 0) _ _=_;rw[show(rV s r l (RN x) != 0)=true by simpa using h0];rfl;refine .inr ⟨h0,f.v,F,?_⟩;obtain⟨r0,_,n1,n2⟩:=zkc h0;obtain⟨he,_,h24⟩:=rO hs r0;have fl:=F.len n1 n2;have sm:∀i,i<f.v.ax.len->Sm (f.v.ax.get i):=λi hi=>zFa (F.chs he h24 hi);obtain⟨W,all,w1,w2,w3⟩:=zFp (E:=E) N h99 (T:=f.v.ax) omY sm (x:=x) (o:=fst (λj=>(f.v.ax.get j).View==x) f.v.ax.len 0) f.v.ax.len 0 E.N 0 ⟨0,λ_=>0⟩ omY omY (by decide) (xn _);rw[<- zko,Nat.zero_or]at w3;rw[<- zko]at w2;have w2:kG W=(uZ (ls f.v.ax) x).map Int.ofNat:=w2;have wl:W.len=(uZ (ls f.v.ax) x).length:=by have:=jF List.length w2;rw[Em,qda]at this;exact this
 have st:∀(A:Type)(k:Sl Int×Sl Int×Int->Option A),(F36 E (s,r,l,x)).T k=ND E 1 x (fst (λj=>(f.v.ax.get j).View==x) f.v.ax.len 0) (all:Int) f.v.ax (f.v.ax.len:Int) (f.v.ax.len:Int) W k:=λA k=>by
  rw[e36,h96,bf,c72,bf];show(E.c97 (f.v.ax,.inr ⟨(),⟨x⟩⟩)).T _=_;rw[show E.c97 (f.v.ax,.inr ⟨(),⟨x⟩⟩)=_ from h97.2 f.v.ax ⟨(),⟨x⟩⟩ omY,bf];exact w1 A k
 by_cases h40:40<(uZ (ls f.v.ax) x).length;refine .inl ⟨h40,ae.ext fun k => ?_⟩;rw[st,Qk,dV omY,dQ,dK omY,bf];rfl;refine .inr ⟨omY,?_⟩;have hM:∀b∈uZ (ls f.v.ax) x,b<2^40:=λb hb=>by
  obtain⟨t,ht,rfl⟩:=rY.1 hb;obtain⟨i,hi,rfl⟩:=gz.1 (Qu.1 ht).1;exact zcn (sm i hi) _ (jy _)
 have mb:=zFo w2 hM omY;have fi:=zkB (λj=>(f.v.ax.get j).View==x) f.v.ax.len 0;have no:∀g:List Nat->Nat->Nat,Gu g (uZ (ls f.v.ax) x) ((0,λ_=>none):PM).2:=λg i left v hv=>by cases hv
 obtain⟨a,c,g1,g2,g3,g4,g5⟩:=zQM (E:=E) N ZX ZY mb (o:=fst (λj=>(f.v.ax.get j).View==x) f.v.ax.len 0) omY W.len 0 E.N all 0 ⟨0,λ_=>0⟩ ⟨0,λ_=>0⟩ (0,λ_=>none) (0,λ_=>none) omY omY (by rw[w3];exact TC hM) (by decide) (xn _) (xn _) (no lst) (no ru);have o0:fst (λj=>(f.v.ax.get j).View==x) f.v.ax.len 0+((0:Nat):Int)=fst (λj=>(f.v.ax.get j).View==x) f.v.ax.len 0:=Int.add_zero _;rw[o0,jqu]at g2 g3;refine⟨a,c,ae.ext λk=>?_,omY,omY,by rw[g2,w3];rfl,by rw[g3];rfl⟩;rw[st,Qk,dV omY,dQ,dV omY,dQ,bf];exact g1 _ k
structure E14 where
 N:Nat
 c19:Unit->ae Bool
 c20:au×bI×(Sl bu)->ae ((Sl af)×Int)
 c25:au×bI×(Sl bu)×af->ae (bD×Int)
 c31:au×bI×(Sl bu)->ae ((Sl iC)×Int)
 c36:au×bI×(Sl bu)×Int->ae ((Sl Int)×(Sl Int)×Int)
 c59:au×(Sl bu)×Int×Int->ae (Int×Int)
 c52:af×af->ae Bool
abbrev G14(E:E14):bM:=jc (((((((Tabs.nil.addF 19 (ae.un E.c19)).addF 20 (ae.un E.c20)).addF 25 (ae.un E.c25)).addF 31 (ae.un E.c31)).addF 36 (ae.un E.c36)).addF 59 (ae.un E.c59)).addF 52 (ae.un E.c52)) []
def A14:dI:=bZ aJ 14 [] {ks:=[(1,7,⟨[],[(4,43,92)],[(3,0,37,124),(5,1,48,3),(5,2,52,3)],[],[],[],[]⟩)]}
def F14(E:E14):Int->ae Bool:=ae.ty (aF aJ E.N (G14 E) A14 14)
section
variable(E:E14){A:Type}(k:Bool->Option A)
def Xp(E:E14)(n:Nat)(a0 v6:Int)(nX:Sl bu)(w37:Sl aj)(w48 w52:Sl Int){A:Type}(k:Bool->Option A):Option A:=kC aJ (G14 E) E.N A14 14 [1,1,1,1,1,0,1,0] [.n n] (kz k) ⟨[(0,.int a0),(3,.cl (.ptr 3 0)),(4,.cl (.vec 43)),(5,.cl (.ptr 5 0)),(6,.int v6)],[(3,.box 24 [.vec 37]),(43,eV 92 6 48 nX),(5,.box 43 [.p (.int .i64 1),.vec 48,.vec 52]),(37,eV 124 15 152 w37),(48,eV 3 1 8 w48),(52,eV 3 1 8 w52)],[]⟩
theorem e14(a0:Int):(F14 E (a0)).T k=cond (decide (a0<1)) ((E.c19 ()).T λr1=>k r1) (cond (decide (a0>12)) ((E.c19 ()).T λr2=>k r2) (Xp E E.N a0 0 (⟨0,(λ_=>(⟨0,0,0,0,0,0⟩:bu))⟩:(Sl bu)) (⟨0,(λ_=>(⟨0,0,0,0,0,0,0,(⟨0,0⟩:bC),(⟨0,0⟩:bC),0,0,(⟨0,(λ_=>(⟨0,(⟨0,0⟩:bC)⟩:aW))⟩:(Sl aW)),(⟨0,(λ_=>0)⟩:(Sl Int))⟩:aj))⟩:(Sl aj)) (⟨0,(λ_=>0)⟩:(Sl Int)) (⟨0,(λ_=>0)⟩:(Sl Int)) k)):=eX
theorem zcv(n0:Nat)(a0 v6:Int)(nX:Sl bu)(w37:Sl aj)(w48 w52:Sl Int):Xp E (n0+1) a0 v6 nX w37 w48 w52 k=cond (decide (v6<a0)) (aV (room (w37.len+1) 152) (aV (room (nX.len+1) 48) (aV (room (w48.len+1) 8) (aV (room (w52.len+1) 8) (Xp E n0 a0 (aQ (v6+1)) (⟨(nX.len+1),(lm nX.len nX.get (λ_=>(⟨v6,0,1,0,0,0⟩:bu)))⟩:(Sl bu)) (⟨(w37.len+1),(lm w37.len w37.get (λ_=>(⟨1,1,v6,0,100,1,0,(⟨0,0⟩:bC),(⟨0,0⟩:bC),0,0,(⟨0,(λ_=>(⟨0,(⟨0,0⟩:bC)⟩:aW))⟩:(Sl aW)),(⟨0,(λ_=>0)⟩:(Sl Int))⟩:aj)))⟩:(Sl aj)) (⟨(w48.len+1),(lm w48.len w48.get (λ_=>v6))⟩:(Sl Int)) (⟨(w52.len+1),(lm w52.len w52.get (λ_=>0))⟩:(Sl Int)) k))))) ((E.c20 ((⟨w37⟩:au),(⟨1,0⟩:bI),nX)).T λr1=>(E.c25 ((⟨w37⟩:au),(⟨1,0⟩:bI),nX,(⟨1,w48,w52⟩:af))).T λr2=>(E.c31 ((⟨w37⟩:au),(⟨1,0⟩:bI),nX)).T λr3=>(E.c36 ((⟨w37⟩:au),(⟨1,0⟩:bI),nX,2)).T λr4=>(E.c59 ((⟨w37⟩:au),nX,1,1)).T λr5=>cond (r5.2 != 0) (k false) (aV (decide (0<=a0)) (cond (r5.1 != (aQ ((Qw .i64 1 a0)-1))) (k false) (cond (decide (r5.1>2000)) (cond (r1.2==8) (cond (r2.2==8) (cond (r3.2==8) (cond (r4.2.2==8) (cond ((r1.1.len:Int)==0) ((E.c19 ()).T λr6=>k r6) (k false)) (k false)) (k false)) (k false)) (k false)) (cond (r1.2==0) (cond (r2.2==0) (cond (r3.2==0) (cond (r4.2.2==0) (cond ((r1.1.len:Int)==1) (aV (decide ((0:Int)<=0/\0<(r1.1.len:Int))) ((E.c52 ((r1.1.get 0),(⟨1,w48,w52⟩:af))).T λr7=>cond r7 ((E.c19 ()).T λr8=>k r8) (k false))) (k false)) (k false)) (k false)) (k false)) (k false)))))):=krY
end
theorem o14 [aG](E:E14)(h19:Ok aJ 19 (ae.un E.c19))(h20:Ok aJ 20 (ae.un E.c20))(h25:Ok aJ 25 (ae.un E.c25))(h31:Ok aJ 31 (ae.un E.c31))(h36:Ok aJ 36 (ae.un E.c36))(h59:Ok aJ 59 (ae.un E.c59))(h52:Ok aJ 52 (ae.un E.c52)):Ok aJ 14 (ae.un (F14 E)):=eY (((((((aB.nil.addF h19).addF h20).addF h25).addF h31).addF h36).addF h59).addF h52)
abbrev zyT(C:au×bI×Sl bu×af->ae (bD×Int)):Prop:=∀s r l t,qO s->l.len<=40->jT s r l=0->F5 s l t=true->∃w,C (s,r,l,t)=.ok (w,rV s r l true)
theorem zQS{E:E25}(P6:Q78 E.Yb)(h79:Q79 E.c79)(OE:ZO E.c72)(h80:Q80 E.c80)(h81:Q81 E.c81)(h82:Q82 E.c82)(h83:Q83 E.c83)(h84:Q84 E.c84):zyT (F25 E):=λs r l t hs hl r0 hc=>by
 obtain⟨he,_,h24⟩:=rO hs r0;obtain⟨tv,vw,ne,v⟩:=zl hc;have tl:=rU rfl v;have al:(ls (⟨1,λ_=>true⟩:Sl Bool)).all id=true:=rfl;have c72:=OE s r l ⟨1,λ_=>true⟩ hs hl (by show 1<=10;omega);rw[al]at c72;rcases c72 with⟨h0,c72⟩|⟨h0,_⟩
 have eo:opn s r l = .inr (fM s r l,0):=by unfold opn;rw [r0];rfl
 refine⟨z0R 0,ae.ext λk=>?_⟩;rw[e25,P6 s r l hs hl,bf,eo];show(E.c79 (fM s r l,t)).T _=_;rw[h79 s l r t he omY (by rw[tv.2];omega),bf,hc];show(E.c72 (s,r,l,⟨1,λ_=>true⟩)).T _=_;rw[c72,bf,bf];show cond (rV s r l true != 0) _ _=_;rw[show(rV s r l true != 0)=true by simpa using h0];rfl;obtain⟨_,_,n1,n2⟩:=zkc h0;obtain⟨f,w,_,c,_⟩:=s25 P6 h79 (zkt OE) h80 h81 h82 h83 h84 s r l t hs hl r0 n1 n2 hc;exact⟨w,by rw[h0];exact c⟩
structure Iv (i : Nat) (l : Sl bu) (p : Sl aj) (h u : Sl Int) : Prop where
  ll:l.len=i
  pl:p.len=i
  hl:h.len=i
  ul:u.len=i
  l:∀j,j<i->l.get j=wh (j:Int)
  p:∀j,j<i->p.get j=wp (j:Int)
  h:∀j,j<i->h.get j=(j:Int)
  u:∀j,j<i->u.get j=0
theorem Jt{α:Type}[bn α][rq α]{w:Sl α}{x:α}{i j:Nat}{f:Nat->α}(hl:w.len=i)(hj:j<i+1)(lo:∀j,j<i->w.get j=f j)(hi:x=f i):(mX w x).get j=f j:=by
 show lm w.len w.get (λ_=>x) j=_;rw[jD];by_cases h:j<i;rw[dM omY];exact lo j h;rw[dH omY,hi,show j=i by omega]
theorem Iv.up{i:Nat}{l:Sl bu}{p:Sl aj}{h u:Sl Int}(v:Iv i l p h u):Iv (i+1) (mX l (wh (i:Int))) (mX p (wp (i:Int))) (mX h (i:Int)) (mX u 0) :=
 ⟨by show l.len+1=_;rw[v.ll],by show p.len+1=_;rw[v.pl],by show h.len+1=_;rw[v.hl],by show u.len+1=_;rw[v.ul],
  λj hj=>Jt (f:=λj=>wh (j:Int)) v.ll hj v.l rfl,λj hj=>Jt (f:=λj=>wp (j:Int)) v.pl hj v.p rfl,λj hj=>Jt (f:=λj=>(j:Int)) v.hl hj v.h rfl,λj hj=>Jt (f:=λ_=>0) v.ul hj v.u rfl⟩
theorem zFq:∀n:Nat,n<13->aQ (Qw .i64 1 (n:Int)-1)=((2^n-1:Nat):Int):=qde (by kernel_rfl)
abbrev Q14(C:Int->ae Bool):Prop:=∀a,C a=.ok true
theorem s14{E:E14}(N:Big E.N)(h19:Q19 E.c19)(h20:zyA E.c20)(h25:zyT E.c25)(h31:zyQ E.c31)(h36:Q36 E.c36)(h59:Q59 E.c59)(h52:Q52 E.c52):Q14 (F14 E):=λa=>ae.ext λk=>by
 have hN:=N;rw[e14,bf];by_cases a1:a<1;rw[dK a1,dU,h19,bf];rw[dV a1,dQ];by_cases a2:a>12;rw[dK a2,dU,h19,bf];rw[dV a2,dQ];obtain⟨n,rfl⟩:∃n:Nat,a=(n:Int):=⟨a.toNat,omY⟩;have lp:∀(d i m:Nat)(l:Sl bu)(p:Sl aj)(h u:Sl Int),i+d=n->d<m->Iv i l p h u->∃(l':Sl bu)(p':Sl aj)(h' u':Sl Int),Iv n l' p' h' u'/\Xp E m (n:Int) (i:Int) l p h u k=Xp E 1 (n:Int) (n:Int) l' p' h' u' k:=by
  intro d
  induction d with
  | zero =>
   intro i m l p h u hi hm v;obtain⟨m,rfl⟩:∃n',m=n'+1:=⟨m-1,omY⟩;rw[show i=n by omega]at v ⊢;exact⟨l,p,h,u,v,by rw[zcv,zcv (n0:=0),dV omY];rfl⟩
  | succ d ih =>
   intro i m l p h u hi hm v;obtain⟨m,rfl⟩:∃n',m=n'+1:=⟨m-1,omY⟩;obtain⟨l',p',h',u',v',e⟩:=ih (i+1) m _ _ _ _ omY omY v.up;refine⟨l',p',h',u',v',?_⟩;have v1:=v.ll;have v2:=v.pl;have v3:=v.hl;have v4:=v.ul;rw[zcv,dK omY,dU,lV omY omY,lV omY omY,lV omY omY,lV omY omY,bJ omY];exact e
 obtain⟨l,p,h,u,v,e⟩:=lp n 0 E.N ⟨0,λ_=>⟨0,0,0,0,0,0⟩⟩ ⟨0,λ_=>⟨0,0,0,0,0,0,0,⟨0,0⟩,⟨0,0⟩,0,0,⟨0,λ_=>⟨0,⟨0,0⟩⟩⟩,⟨0,λ_=>0⟩⟩⟩ ⟨0,λ_=>0⟩ ⟨0,λ_=>0⟩ omY omY ⟨rfl,rfl,rfl,rfl,λj hj=>absurd hj (dq8 j),λj hj=>absurd hj (dq8 j),λj hj=>absurd hj (dq8 j),λj hj=>absurd hj (dq8 j)⟩;refine Eq.trans e ?_;have w:Wd n ⟨p⟩ l:=⟨omY,omY,v.pl,v.ll,v.p,v.l⟩;generalize hs:(⟨p⟩:au)=s at w;generalize ht:(⟨1,h,u⟩:af)=t;have t1:t.View=1:=by rw[<- ht]
 have t2:t.Hits.len=n:=by rw[<- ht];exact v.hl
 have t3:t.aX.len=n:=by rw[<- ht];exact v.ul
 have tc:eu t=cT n:=by
  unfold eu cT;rw[t2];refine dqU λi hi=>?_;have hi:=Ak.1 hi;rw[<- ht];show(h.get i,u.get i)=_;rw[v.h i hi,v.u i hi]
 have ll:=w.ll;have zX6:=w.l24;have vv:Val s l 1 (cT n) n:=by
  unfold cT;refine⟨⟨by simp,omY⟩,λq hq=>?_,?_⟩;obtain⟨i,hi,rfl⟩:=rY.1 hq;have hi:=Ak.1 hi;refine⟨⟨by show 0<=(i:Int);omega,by show(i:Int)<_;omega⟩,?_⟩;show EM s l ((i:Int)).toNat=1/\(0:Int)<=0/\(0:Int)<(qc s l ((i:Int)).toNat:Int);rw[fQ,w.gl hi];exact⟨w.vw hi,qju _,by decide⟩;rw [qjf];refine List.pairwise_lt_range.imp_of_mem fun {i j} hi hj IR=>?_;have hi:=Ak.1 hi;have hj:=Ak.1 hj;refine⟨by show(i:Int)<(j:Int);omega,?_⟩;show(l.get ((i:Int)).toNat).aj≠(l.get ((j:Int)).toNat).aj;rw[fQ,fQ,w.pl hi,w.pl hj];omega
 have tv:WO 1 t:=⟨t1,by rw[t2,t3]⟩;have tn:cT n≠[]:=λe=>by
  have:=jF List.length e;unfold cT at this;rw[qda,qje]at this;have:=w.n1;simp at *;omega
 have hc:F5 s l t=true:=SQ rfl tv tc vv tn;have ev1:Ev s l 1:={toEvt:=w.evt,l24:=w.l24,vw:=rfl};have ct:jE s l t:=by
  refine {ev:=?_,tv:=?_,vl:=⟨n,?_⟩,ne:=?_};rw[t1];exact ev1;rw[t1];exact tv;rw[t1,tc];exact vv;rw[tc];exact tn
 have c20:=h20 s ⟨1,0⟩ l w.sh omY;obtain⟨x25,c25⟩:=h25 s ⟨1,0⟩ l t w.sh omY w.ref hc;have c31:=h31 s ⟨1,0⟩ l w.sh omY;have c36:=h36 s ⟨1,0⟩ l 2 w.sh omY;have c59:=h59 s l 1 1 w.sh omY;rw[w.ref]at c59;have c59:E.c59 (s,l,1,1)=.ok (((2^n-1:Nat):Int),0):=by rw[c59,w.chN];rfl
 have sh:=zFq n omY;have er:rV s ⟨1,0⟩ l true=cond (decide (n<=10)) 0 8:=w.err;have er2:rV s ⟨1,0⟩ l (RN 2)=cond (decide (n<=10)) 0 8:=w.err;rw[zcv,dV omY,dQ,hs,ht];by_cases n10:n<=10;have pw:2^n≤2^10:=qdO (by decide) n10;rw[dK n10,dU]at er er2;rw[er]at c25;rcases c20 with⟨h0,_⟩|⟨_,f,c20,F⟩
 exact absurd er h0;rcases c31 with⟨h0,_⟩|⟨_,_,_,y31,c31,_⟩
 exact absurd er h0;rcases c36 with⟨h0,_⟩|⟨_,g,G,c36⟩
 exact absurd er2 h0;obtain⟨o1,o2,o3⟩:=w.one F;obtain⟨g1,g2,_⟩:=w.one G;have mz:uZ (ls g.ax) 2=[]:=by
  unfold uZ;rw[jqI.2 λx hx=>?_];rfl;obtain⟨i,hi,rfl⟩:=gz.1 hx;rw[show i=0 by omega,g2];decide
 rw[mz]at c36;rcases c36 with⟨h0,_⟩|⟨_,x36,y36,c36,_⟩
 exact absurd h0 (by decide);have c0:=F.chosen w.evt w.l24 (F.sub (gz.2 ⟨0,omY,rfl⟩));rw[c20,bf,c25,bf,c31,bf,c36,bf,c59,bf];show cond ((0:Int) != 0) _ _=_;rw[show((0:Int) != 0)=false from rfl,dQ,bF omY,sh];show cond (((2^n-1:Nat):Int) != ((2^n-1:Nat):Int)) _ _=_;rw[show(((2^n-1:Nat):Int) != ((2^n-1:Nat):Int))=false by simp,dQ];show cond (decide (((2^n-1:Nat):Int)>2000)) _ _=_;rw[dV omY,dQ];show cond ((0:Int)==0) (cond ((0:Int)==0) (cond ((0:Int)==0) (cond ((0:Int)==0) (cond ((f.ax.len:Int)==1) _ _) _) _) _) _=_;rw[show((0:Int)==0)=true from rfl,dU,dU,dU,dU,o1];show cond (((1:Nat):Int)==1) (aV (decide ((0:Int)<=0/\0<((1:Nat):Int))) ((E.c52 (f.ax.get 0,t)).T _)) _=_;rw[show(((1:Nat):Int)==1)=true from rfl,dU];rw[bF omY,h52 _ _ c0.one ct.one c0.tv.2 (by rw[t2,t3]),bf,zq7 c0.tv.2 (by rw[t2,t3]) (Prod.ext (o2.trans t1.symm) (o3.trans tc.symm)),dU,h19,bf]
 ·have pw : 2 ^ 11 ≤ 2 ^ n := qdO (by decide) omY;rw[dV n10,dQ] at er er2;rw[er] at c25;rcases c20 with ⟨_,c20⟩ | ⟨h0,_⟩
  case inr=>rw[er]at h0;cases h0
  rcases c31 with⟨_,c31⟩|⟨h0,_⟩
  case inr=>rw[er]at h0;cases h0
  rcases c36 with⟨_,c36⟩|⟨h0,_⟩
  case inr=>rw[er2]at h0;cases h0
  rw[er]at c20 c31;rw[er2]at c36;rw[c20,bf,c25,bf,c31,bf,c36,bf,c59,bf];show cond ((0:Int) != 0) _ _=_;rw[show((0:Int) != 0)=false from rfl,dQ,bF omY,sh];show cond (((2^n-1:Nat):Int) != ((2^n-1:Nat):Int)) _ _=_;rw[show(((2^n-1:Nat):Int) != ((2^n-1:Nat):Int))=false by simp,dQ];show cond (decide (((2^n-1:Nat):Int)>2000)) _ _=_;rw[dK omY,dU];show cond ((8:Int)==8) (cond ((8:Int)==8) (cond ((8:Int)==8) (cond ((8:Int)==8) (cond (((0:Nat):Int)==0) _ _) _) _) _) _=_;rw[show((8:Int)==8)=true from rfl,dU,dU,dU,dU];show cond (((0:Nat):Int)==0) ((E.c19 ()).T _) _=_;rw[show(((0:Nat):Int)==0)=true from rfl,dU,h19,bf]
def N0:Nat:=1000000000
theorem cZ:20000000<N0:=by decide
def D19:Unit->ae Bool:=λ_=>.ok true
theorem zQU:Q19 D19:=rfl
theorem zQV:Ok aJ 19 (ae.un D19):=λargs rs hr w h0 vs jI hw=>by
 obtain⟨h1,h2⟩:=ae.chk_o hr;cases args with
 | nil =>
  cases ae.ok_o h2;exact(zMr.all []).fn 19 [] _ k19 w h0 vs jI hw
 | cons=>cases h1
def Bv:=znR ⟨N0⟩
def NE:=zMO ⟨N0⟩
def zkC:=znU ⟨N0,Bv⟩
def ztK:=zMR ⟨N0,Bv⟩ NE
def zyU:=zn6 ⟨N0,Bv,zkC⟩
def zFs:=zMY ⟨N0,Bv,zkC⟩ NE ztK
def zyV:=zn1 ⟨N0⟩
def zFt:=zMU ⟨N0⟩
def zyW:=zn2 ⟨N0,Bv⟩
def zFu:=zMV ⟨N0,Bv⟩ NE
def zyX:=zn4 ⟨N0⟩
def zFv:=zMW ⟨N0⟩
def zyY:=znV ⟨N0,Bv,zyU,zyV,zyW,zyX⟩
def zFw:=zMT ⟨N0,Bv,zyU,zyV,zyW,zyX⟩ NE zFs zFt zFu zFv
def TD:=znS ⟨N0,zyY,Bv⟩
def zcw:=zMP ⟨N0,zyY,Bv⟩ zFw NE
def zyZ:=znI ⟨N0,TD⟩
def zFx:=zMG ⟨N0,TD⟩ zcw
def zkD:=znK ⟨N0⟩
def ztL:=zMI ⟨N0⟩
def D60:=F60 ⟨N0,zyZ,zkD⟩
def zQX:=o60 ⟨N0,zyZ,zkD⟩ zFx ztL
def TE:=znP ⟨N0,Bv⟩
def zcx:=zMN ⟨N0,Bv⟩ NE
def zkE:=zn8 ⟨N0,TD,TE⟩
def ztM:=zM0 ⟨N0,TD,TE⟩ zcw zcx
def zy0:=znM ⟨N0,zkE⟩
def zFy:=zMJ ⟨N0,zkE⟩ ztM
def zy1:=zoc ⟨N0⟩
def zFz:=zM2 ⟨N0⟩
def zy2:=zwf ⟨N0⟩
def zFA:=zM5 ⟨N0⟩
def zy3:=zod ⟨N0,zy2⟩
def zFB:=zM3 ⟨N0,zy2⟩ zFA
def zy4:=zoa ⟨N0,zy1,zy3⟩
def zFC:=zM1 ⟨N0,zy1,zy3⟩ zFz zFB
def zy5:=znO ⟨N0,zkE,TE,zy4⟩
def zFD:=zML ⟨N0,zkE,TE,zy4⟩ ztM zcx zFC
def D78:=F78 ⟨N0,D60,zy0,zy5⟩
def zy6:=o78 ⟨N0,D60,zy0,zy5⟩ zQX zFy zFD
def zy7:=zpg ⟨N0⟩
def zFE:=zOl ⟨N0⟩
def zy8:=zoF ⟨N0,zy7⟩
def zFF:=zNL ⟨N0,zy7⟩ zFE
def zy9:=zpl ⟨N0⟩
def zFG:=zOp ⟨N0⟩
def zza:=zpv ⟨N0⟩
def zFH:=zOw ⟨N0⟩
def Xq:=DZ ⟨N0,zy9⟩
def zeu:=zi2 ⟨N0,zy9⟩ zFG
def Xr:=D5 ⟨N0,zza⟩
def zev:=zi4 ⟨N0,zza⟩ zFH
def zew:=ae.two Xq Xr
theorem ztN:Ok aJ 210 (ae.un zew):=sV zeu zev
def Xt:=DK ⟨N0,zew⟩
def zex:=ziO ⟨N0,zew⟩ ztN
def Xu:=DN ⟨N0,zew⟩
def zey:=ziQ ⟨N0,zew⟩ ztN
def zez:=ae.two Xt Xu
theorem ztO:Ok aJ 179 (ae.un zez):=sV zex zey
def zzb:=zot ⟨N0,TD,TE⟩
def zFI:=o111 ⟨N0,TD,TE⟩ zcw zcx
def zzc:=zov ⟨N0⟩
def zFJ:=zNE ⟨N0⟩
def D50:=F50 ⟨N0,zzb,TE,zzc⟩
def zFL:=o50 ⟨N0,zzb,TE,zzc⟩ zFI zcx zFJ
def D93:=F93 ⟨N0,D50⟩
def zFN:=o93 ⟨N0,D50⟩ zFL
def zeA:=znE ⟨N0⟩
def zkF:=zMA ⟨N0⟩
def TF:=zoX ⟨N0⟩
def zcy [aG]:=zN4 ⟨N0⟩
def zzd:=zoV ⟨N0,TF⟩
def zFO:=zN2 ⟨N0,TF⟩ zcy
def ZZ:=zos ⟨N0,zzd,TF⟩
def zkG:=zNB ⟨N0,zzd,TF⟩ zFO zcy
def zze:=zpL ⟨N0⟩
def zFP [aG]:=zOM ⟨N0⟩
def zzf:=zpY ⟨N0,TF⟩
def zFQ [aG]:=zOU ⟨N0,TF⟩ zcy
def zzg:=zpW ⟨N0,zzf⟩
def zFR [aG]:=zOT ⟨N0,zzf⟩ zFQ
def zzh:=zqd ⟨N0⟩
def zFS [aG]:=zO8 ⟨N0⟩
def Xv:=D6 ⟨N0,zze⟩
def zeB [aG]:=zi8 ⟨N0,zze⟩ zFP
def Xw:=D7 ⟨N0,zzg⟩
def zeC [aG]:=zja ⟨N0,zzg⟩ zFR
def Xx:=D8 ⟨N0,zzh⟩
def zeD [aG]:=zjc ⟨N0,zzh⟩ zFS
def Xy:=ae.two Xv (ae.two Xw Xx)
theorem zkH [aG]:Ok aJ 238 (ae.un Xy):=sV zeB (sV zeC zeD)
def Xz:=DT ⟨N0,Xy⟩
def zeE [aG]:=ziW ⟨N0,Xy⟩ zkH
def XB:=DW ⟨N0,Xy⟩
def zeF [aG]:=ziY ⟨N0,Xy⟩ zkH
def XD:=DY ⟨N0,Xy⟩
def zeG [aG]:=zi0 ⟨N0,Xy⟩ zkH
def XE:=ae.two Xz (ae.two XB XD)
theorem zkI [aG]:Ok aJ 206 (ae.un XE):=sV zeE (sV zeF zeG)
def NF:=zo7 ⟨N0,XE⟩
def XF:=zOd ⟨N0,XE⟩ zkI
def zzi:=zpO ⟨N0⟩
def zFT [aG]:=zOO ⟨N0⟩
def NG:=zpf ⟨N0,zzi⟩
def XG [aG]:=zOj ⟨N0,zzi⟩ zFT
def zkJ:=zpB ⟨N0,NG⟩
def ztP:=zOC ⟨N0,NG⟩ XG
def zzj:=zpD ⟨N0,XE⟩
def zFU:=zOD ⟨N0,XE⟩ zkI
def zzk:=zpU ⟨N0⟩
def zFV:=zOS ⟨N0⟩
def zzl:=zxe ⟨N0,zzk⟩
def zFW:=zOR ⟨N0,zzk⟩ zFV
def Z4:=zoY ⟨N0,NF,zkJ,zzj,zzl⟩
def zkK:=zN6 ⟨N0,NF,zkJ,zzj,zzl⟩ XF ztP zFU zFW
def zkL:=zpE ⟨N0⟩
def ztQ:=zOF ⟨N0⟩
def Z5:=zo1 ⟨N0,zkL,NF⟩
def zkM:=zN9 ⟨N0,zkL,NF⟩ ztQ XF
def zzm:=zoB ⟨N0⟩
def zFX:=zNJ ⟨N0⟩
def zzn:=zo3 ⟨N0⟩
def zFY:=zOa ⟨N0⟩
def XH:=Du ⟨N0,ZZ,Z4,Z5,NF,zzm⟩
def zeH:=zit ⟨N0,ZZ,Z4,Z5,NF,zzm⟩ zkG zkK zkM XF zFX
def XI:=Dw ⟨N0,ZZ,Z4,Z5,NF,zzn⟩
def zeI:=ziv ⟨N0,ZZ,Z4,Z5,NF,zzn⟩ zkG zkK zkM XF zFY
def zeJ:=ae.two XH XI
theorem ztR:Ok aJ 117 (ae.un zeJ):=sV zeH zeI
def zzo:=zqb ⟨N0,XE⟩
def zFZ [aG]:=zO7 ⟨N0,XE⟩ zkI
def zkN:=zp4 ⟨N0⟩
def ztS [aG]:=zOZ ⟨N0⟩
def zkO:=zpN ⟨N0,zkN⟩
def ztT [aG]:=zON ⟨N0,zkN⟩ ztS
def Z7:=zpb ⟨N0,zkO⟩
def zkP [aG]:=zOf ⟨N0,zkO⟩ ztT
def zzp:=zp8 ⟨N0,zzo,NG,Z7⟩
def zF0 [aG]:=zO5 ⟨N0,zzo,NG,Z7⟩ zFZ XG zkP
def zzq:=zp6 ⟨N0,zzp⟩
def zF1:=zO1 ⟨N0,zzp⟩ zh2 zh0 (@zF0 ⟨1⟩)
def zzr:=zjd ⟨N0,zeJ,zzq,zkJ⟩
def zF2:=zO0 ⟨N0,zeJ,zzq,zkJ⟩ ztR zF1 ztP
def zzs:=zpQ ⟨N0,zzr⟩
def zF3:=zOP ⟨N0,zzr⟩ zF2
def zre:=zpn ⟨N0,D93,zeA,zzs⟩
def zF4:=zOr ⟨N0,D93,zeA,zzs⟩ zFN zkF zF3
def zkQ:=znG ⟨N0⟩
def ztU:=zME ⟨N0⟩
def zeK:=zv1 ⟨N0,zkQ⟩
def ztV:=zMC ⟨N0,zkQ⟩ ztU
def Z8:Nat→af×Int×Bc 143 (Pt aH)×Bc 38 Int×Bw 30 43 3 56 af×Bs 255 178 2 4×Unit→ae ((Bool×Int)×(Unit×Unit×(Pt aH)×Int×Sl af×Unit×Unit))
 | 0=>λ_=>.no
 | n+1=>zpi ⟨N0,zez,zre,zeK,(Z8 n)⟩
theorem ztW:∀n,iM aJ 178 (ae.unP 254 (Z8 n))
  | 0=>λxs ys rs h=>by
    obtain⟨_,h2⟩:=ae.chk_o h;cases h2
  | n+1=>zOn ⟨N0,zez,zre,zeK,(Z8 n)⟩ ztO zF4 ztV Zk (ztW n)
def zzt:=zoG ⟨N0,(Z8 30)⟩
def zF5:=zNO ⟨N0,(Z8 30)⟩ (ztW 30)
def zzu:=zpI ⟨N0⟩
def zF6:=zOI ⟨N0⟩
def zzv:=zpG ⟨N0,zzu⟩
def zF7:=zOH ⟨N0,zzu⟩ zF6
def zzw:=zo9 ⟨N0,Z7⟩
def zF8:=zOe ⟨N0,Z7⟩ zkP
def zzx:=zpd ⟨N0,Z7⟩
def zF9:=zOh ⟨N0,Z7⟩ zkP
def XJ:=DF ⟨N0,zzw⟩
def zeL:=ziI ⟨N0,zzw⟩ zF8
def XK:=DI ⟨N0,zzx⟩
def zeM:=ziK ⟨N0,zzx⟩ zF9
def zeN:=ae.two XJ XK
theorem ztX:Ok aJ 168 (ae.un zeN):=sV zeL zeM
def zzy:=zoD ⟨N0⟩
def zGa:=zNK ⟨N0⟩
def XL:=Dx ⟨N0,zzv,zeN,NG⟩
def zeO:=zix ⟨N0,zzv,zeN,NG⟩ zF7 ztX XG
def XM:=Dy ⟨N0,zzy,zeN,NG⟩
def zeP:=ziz ⟨N0,zzy,zeN,NG⟩ zGa ztX XG
def zrf:=ae.two XL XM
theorem zGb:Ok aJ 119 (ae.un zrf):=sV zeO zeP
def zzz:=zo5 ⟨N0,NF,zkL,NG,zrf⟩
def zGc:=zOc ⟨N0,NF,zkL,NG,zrf⟩ XF ztQ XG zGb
def zGd:=zox ⟨N0,TF,zeJ,zzz⟩
def zGe:=zNG ⟨N0,TF,zeJ,zzz⟩ zcy ztR zGc
def zrg:=zpx ⟨N0⟩
def ztY:=zOy ⟨N0⟩
def zGf:=zpz ⟨N0,zrg⟩
def zGg:=zOA ⟨N0,zrg⟩ ztY
def zzA:=zp0 ⟨N0,zkN⟩
def zGh:=zOW ⟨N0,zkN⟩ ztS
def zzB:=zp2 ⟨N0⟩
def zGi:=zOX ⟨N0⟩
def zzC:=zpJ ⟨N0,zzA,zzB⟩
def zGj:=zOL ⟨N0,zzA,zzB⟩ zGh zGi
def zzD:=zw4 ⟨N0,zzC⟩
def zGk:=zOJ ⟨N0,zzC⟩ zGj
def zGl:=zoy ⟨N0,TD,Bv,zkC,zzD⟩
def zGm:=zNH ⟨N0,TD,Bv,zkC,zzD⟩ zcw NE ztK zGk
def zeQ:=zoS ⟨N0,zeA,zez,zGd,zrg,zGf,zGl⟩
theorem ztZ:Ok aJ 141 (ae.un zeQ):=zNZ _ zkF ztO zGe ztY zGg zGm
def zzE:=zoI ⟨N0,zeQ⟩
def zGn:=zNP ⟨N0,zeQ⟩ ztZ
def zzF:=zoT ⟨N0⟩
def zGo:=zN0 ⟨N0⟩
def D92:=F92 ⟨N0,zzF⟩
def zzH:=o92 ⟨N0,zzF⟩ zGo
def zzI:=zoO ⟨N0,D92⟩
def zGp:=zNV ⟨N0,D92⟩ zzH
def D98:=F98 ⟨N0⟩
def zQZ:=o98 ⟨N0⟩
def zcz:=Jl ⟨N0,zzI⟩
def zkR:=zor ⟨N0,zzI⟩ zGp
def zkS:=RQ ⟨N0,D98⟩
def zrh:=zwA ⟨N0,D98⟩ zQZ
def D97:=ae.two zcz zkS
theorem zGr:Ok aJ 97 (ae.un D97):=sV zkR zrh
def zzJ:=zoM ⟨N0,D97⟩
def zGs:=zNT ⟨N0,D97⟩ zGr
def zzK:=zoK ⟨N0,zzJ⟩
def zGt:=zNR ⟨N0,zzJ⟩ zGs
def XN:=Dz ⟨N0,zzE⟩
def zeR:=ziC ⟨N0,zzE⟩ zGn
def XO:=DD ⟨N0,zzK⟩
def zeS:=ziE ⟨N0,zzK⟩ zGt
def zri:=ae.two XN XO
theorem zGu:jh aJ 128 (.mkv 43 3 56 (ae.unV zri)):=znu zeR zeS
def zzL:=zpS ⟨N0⟩
def zGv [aG]:=zOQ ⟨N0⟩
def zzM:=zpr ⟨N0,zzL⟩
def zGw [aG]:=zOu ⟨N0,zzL⟩ zGv
def zzN:=zpt ⟨N0,zkO⟩
def zGx [aG]:=zOv ⟨N0,zkO⟩ ztT
def zzO:=zpp ⟨N0⟩
def zGy [aG]:=zOs ⟨N0⟩
def zzQ:=zoQ ⟨N0,zzM,zzN,zzO⟩
def zGz [aG]:=zNX ⟨N0,zzM,zzN,zzO⟩ zGw zGx zGy
def D72:=F72 ⟨N0,D78,zy8,zzt,zri,zzQ⟩
def zrj:=o72 ⟨N0,D78,zy8,zzt,zri,zzQ⟩ zy6 zFF zF5 zGu zh1 (@zGz ⟨1⟩)
def D20:=F20 ⟨N0,D72⟩
def zQ0:=o20 ⟨N0,D72⟩ zrj
def D96:=F96 ⟨N0⟩
def zzS:=o96 ⟨N0⟩
def D79:=F79 ⟨N0,zkD,zkQ,D96⟩
def zQ1:=o79 ⟨N0,zkD,zkQ,D96⟩ ztL ztU zzS
def zzT:=zqW ⟨N0,Z4,Z5⟩
def zGA:=zQq ⟨N0,Z4,Z5⟩ zkK zkM
def D49:=F49 ⟨N0,ZZ,zzT⟩
def zQ3:=o49 ⟨N0,ZZ,zzT⟩ zkG zGA
def D80:=F80 ⟨N0,zeA,D49⟩
def zQ4:=o80 ⟨N0,zeA,D49⟩ zkF zQ3
def D81:=F81 ⟨N0,D50⟩
def zQ5:=o81 ⟨N0,D50⟩ zFL
def D82:=F82 ⟨N0⟩
def zQ6:=o82 ⟨N0⟩
def D83:=F83 ⟨N0,zeQ⟩
def zQ7:=o83 ⟨N0,zeQ⟩ ztZ
def zzU:=zq2 ⟨N0⟩
def zGB:=zQB ⟨N0⟩ Zk
def D84:=F84 ⟨N0,D92,zzU⟩
def zQ8:=o84 ⟨N0,D92,zzU⟩ zzH zGB
def D25:=F25 ⟨N0,D78,D79,D72,D80,D81,D82,D83,D84⟩
theorem zRa:Ok aJ 25 (ae.un D25):=o25 _ zy6 zQ1 zrj zQ4 zQ5 zQ6 zQ7 zQ8
def D31:=F31 ⟨N0,D72,D92,D93⟩
def zRb:=o31 ⟨N0,D72,D92,D93⟩ zrj zzH zFN
def D99:=F99 ⟨N0⟩
def zRc:=o99 ⟨N0⟩
def XP:Nat→zkw
 | 0=>λ_=>.no
 | n+1=>Xl ⟨N0,(XP n)⟩
theorem zkT(n:Nat):XP (n+1)=Xl ⟨N0,(XP n)⟩:=rfl
theorem zGC(n:Nat):iM aJ 100 (ae.unM (XP n)):=by
 induction n with
 | zero =>
  intro _ xs ys rs h;obtain⟨_,h2⟩:=ae.chk_o h;cases h2
 | succ n ih =>
  rw[zkT];exact zQI ⟨N0,(XP n)⟩ ih
def XQ:Nat→zkx
 | 0=>λ_=>.no
 | n+1=>ZV ⟨N0,(XQ n)⟩
theorem zkU(n:Nat):XQ (n+1)=ZV ⟨N0,(XQ n)⟩:=rfl
theorem zGD(n:Nat):iM aJ 101 (ae.unM (XQ n)):=by
 induction n with
 | zero =>
  intro _ xs ys rs h;obtain⟨_,h2⟩:=ae.chk_o h;cases h2
 | succ n ih =>
  rw[zkU];exact zQJ ⟨N0,(XQ n)⟩ ih
def D36:=F36 ⟨N0,D96,D72,D97,D99,(XP 42),(XQ 42)⟩
theorem zRe:Ok aJ 36 (ae.un D36):=o36 _ zzS zrj zGr zRc (zGC 42) (zGD 42)
def zzV:=znD ⟨N0⟩
def zGE:=zMu ⟨N0⟩
def D59:=F59 ⟨N0,zzV,D78,D96,zeK⟩
def zRf:=o59 ⟨N0,zzV,D78,D96,zeK⟩ zGE zy6 zzS ztV
def D38:=F38 ⟨N0⟩
def zRh:=o38 ⟨N0⟩
def D52:=F52 ⟨N0,D38⟩
def zRi:=o52 ⟨N0,D38⟩ zRh
def D14:=F14 ⟨N0,D19,D20,D25,D31,D36,D59,D52⟩
theorem zRj:Ok aJ 14 (ae.un D14):=o14 _ zQV zQ0 zRa zRb zRe zRf zRi
theorem NH:RI Bv:=zM7
theorem zt0:zoh zkC:=zM9 NH
theorem zGF:zwg zyU:=zNa NH zt0
theorem zGG:zdW zyV:=zNb
theorem zGH:zwh zyW:=zNd cZ NH
theorem zGI:zdW zyX:=zNc
theorem zGJ:zwi zyY:=zNe cZ NH zGF zGG zGH zGI
theorem zcA:QSe TD:=zNf cZ zGJ NH
theorem zGK:zwj zyZ:=zNg zcA
theorem zt1:RI zkD:=zM6
theorem zRk:Q60 D60:=s60 zGK zt1
theorem zcB:zdX TE:=zNh cZ NH
theorem zt2:zoi zkE:=zNi zcA zcB
theorem zGL:zwk zy0:=zNj zt2
theorem zGM:zwn zy1:=zNn
theorem zGN:zwl zy2:=zNk cZ
theorem zGO:zwm zy3:=zNl cZ zGN
theorem zGP:zwo zy4:=zNo zGM zGO
theorem zGQ:zwp zy5:=zNp zt2 zcB zGP
theorem zzW:Q78 D78:=s78 cZ zRk zGL zGQ
theorem zGR:zyw zy7:=zQk cZ
theorem zGS:zqQ zy8:=zQl zGR
theorem zGT:zx7 zy9:=zPV
theorem zeT:QUx .inl Xq:=zjY cZ zGT
theorem zGU:zx8 zza:=zPW
theorem zeU:QUx .inr Xr:=zjZ cZ zGU
theorem zt3:zqA zew:=zPX zeT zeU
theorem zeV:QUa .inl Xt:=zj0 zt3
theorem zeW:QUa .inr Xu:=zj1 zt3
theorem zt4:zqB zez:=zPY zeV zeW
theorem zGV:zx4 zzb:=zPT cZ zcA zcB
theorem zGW:zx3 zzc:=zPS
theorem zGX:Q50 D50:=s50 cZ zGV zcB zGW
theorem zGY:Q93 D93:=s93 cZ zGX
theorem zkV:zil zeA:=zNs cZ
theorem zcC:RI TF:=zPd
theorem zGZ:zxo zzd:=zPg zcC
theorem zkW:zji ZZ:=zPh cZ zGZ zcC
theorem zG0:zxs zze:=zPl
theorem zeX:QIx .inl Xv:=zjl cZ zG0
theorem zG1:zxp zzf:=zPi zcC
theorem zG2:zxq zzg:=zPj zG1
theorem zeY:QIx (λc=>.inr (.inl c)) Xw:=zjm cZ zG2
theorem zG3:zxr zzh:=zPk
theorem zeZ:QIx (λc=>.inr (.inr c)) Xx:=zjn cZ zG3
theorem zkX:zjk Xy:=zPm zeX zeY zeZ
theorem ze0:Oo .inl Xz:=zjo zkX
theorem ze1:Oo (λc=>.inr (.inl c)) XB:=zjq zkX
theorem ze2:Oo (λc=>.inr (.inr c)) XD:=zjr zkX
theorem zkY:WC XE:=zPn ze0 ze1 ze2
theorem XR:ZH NF:=zPo zkY
theorem zG4:zxm zzk:=zPe
theorem zG5:zxn zzl:=zPf cZ zG4
theorem zG6:zxl zzi:=zPb cZ
theorem XT:ZG NG:=zPc zG6
theorem zt5:zqh zkJ:=zPs XT
theorem zG7:zxt zzj:=zPp zkY
theorem zkZ:zjw Z4:=zPt XR zG5 zt5 zG7
theorem zt6:zqg zkL:=zPr cZ
theorem zk0:zjx Z5:=zPu zt6 XR
theorem zG8:zxw zzm:=zPv
theorem ze3:QOp .inl XH:=zjy zkW zkZ zk0 XR zG8
theorem zG9:zxx zzn:=zPw
theorem ze4:QOp .inr XI:=zjz zkW zkZ zk0 XR zG9
theorem zt7:zqj zeJ:=zPy ze3 ze4
theorem zHa:zxu zzo:=zPq zkY
theorem zt8:zqm zkN:=zPz
theorem zt9:ZJ zkO:=zPA zt8
theorem zk1:zjC Z7:=zPC zt9
theorem zHb:zxC zzp:=zPD zHa XT zk1
theorem zHc:zxD zzq:=zPE zHb
theorem zHd:zxE zzr:=zPG cZ zt7 zHc zt5
theorem zHe:zxF zzs:=zPH zHd
theorem zHf:zx6 zre:=zPU zGY zkV zHe
theorem zua:zom zkQ:=zNr
theorem zue:zoo zeK:=zNu cZ zua
theorem zk2:∀n,QMp n (Z8 n)
  | 0=>λs l r x t c i w he hv hc ht hf=>absurd hf (by have:=hv.le;omega)
  | n+1=>zEL (E:=⟨N0,zez,zre,zeK,(Z8 n)⟩) zt4 zHf zue (zk2 n)
theorem zzX:zj4 zzt:=zEM (zk2 30)
theorem zHg:zxS zzu:=zPJ
theorem zHh:zxT zzv:=zPK zHg
theorem zHi:zxU zzw:=zPL zk1
theorem ze5:QEx .inl XJ:=zjT cZ zHi
theorem zHj:zxV zzx:=zPM zk1
theorem ze6:QEx .inr XK:=zjU cZ zHj
theorem zuf:zqx zeN:=zPN ze5 ze6
theorem ze7:QBd .inl XL:=zjV cZ zHh zuf XT
theorem zHk:zxY zzy:=zPO
theorem ze8:QBd .inr XM:=zjW cZ zHk zuf XT
theorem zHl:zx0 zrf:=zPP ze7 ze8
theorem zHm:zx1 zzz:=zPQ XR zt6 XT zHl
theorem zHn:zx2 zGd:=zPR zcC zt7 zHm
theorem zug:zqI zrg:=zP5
theorem zHo:zyj zGf:=zP6 zug
theorem zHp:zyc zzA:=zP0 zt8
theorem zHq:zyb zzB:=zPZ
theorem zHr:zyf zzC:=zP1 cZ zHp zHq
theorem zHs:zyg zzD:=zP3 cZ zHr
theorem zHt:zyh zGl:=zP4 zcA NH zt0 zHs
theorem zuh:zqJ zeQ:=zP7 cZ zkV zt4 zHn zug zHo zHt
theorem zHu:zym zzE:=zP8 zuh
theorem ze9:QFi .inl XN:=zj8 cZ zHu
theorem zHv:zyn zzF:=zP9 cZ
theorem zzY:Q92 D92:=s92 cZ zHv
theorem zHw:zyo zzI:=zQa zzY
theorem zk3:zqK zcz:=zqL cZ zHw
theorem zRl:Q98 D98:=s98
theorem zrk:zqM zkS:=zyp cZ zRl
theorem zHx:Q97 D97:=s97 zk3 zrk
theorem zHy:zyq zzJ:=zQc zHx
theorem zHz:zyr zzK:=zQd zHy
theorem zfa:QFi .inr XO:=zj9 cZ zHz
theorem zHA:zqO zri:=zQe ze9 zfa
theorem zHB:zyt zzL:=zQf
theorem zHC:ZJ zzM:=zQg zHB
theorem zHD:zek zzN:=zQh cZ zt9
theorem zHE:zyv zzO:=zQi cZ
theorem zHF:zqP zzQ:=zQj zHC zHD zHE
theorem zcD:ZO D72:=zQm zzW zGS zzX zHA zHF
theorem zHG:zyA D20:=zQn zcD
theorem zzZ:QVw D96:=s96
theorem zRm:Q79 D79:=s79 cZ zt1 zua zzZ
theorem zHH:zyF zzT:=zQt cZ zkZ zk0
theorem zRn:Q49 D49:=s49 cZ zkW zHH
theorem zRo:Q80 D80:=s80 cZ zkV zRn
theorem zRp:Q81 D81:=s81 cZ zGX
theorem zRq:Q82 D82:=s82
theorem zRr:Q83 D83:=s83 zuh
theorem zHI:zyK zzU:=zQC
theorem zRs:Q84 D84:=s84 cZ zzY zHI
theorem zHJ:zyT D25:=zQS zzW zRm zcD zRo zRp zRq zRr zRs
theorem zHK:zyQ D31:=zQH cZ zcD zzY zGY
theorem zRt:Q99 D99:=s99 cZ
theorem zHL(n:Nat):Xn n (XP n):=by
 induction n with
 | zero=>exact λB M mb i left p _ hi hn _=>by omega
 | succ n ih =>
  rw[zkT];exact zQK (E:=⟨N0,(XP n)⟩) cZ ih
theorem zHM(n:Nat):Xo n (XQ n):=by
 induction n with
 | zero=>exact λB M mb i left p _ hi hn _=>by omega
 | succ n ih =>
  rw[zkU];exact zQL (E:=⟨N0,(XQ n)⟩) cZ ih
theorem zRu:Q36 D36:=s36 cZ zzZ zcD zHx zRt (zHL 42) (zHM 42)
theorem zHN:zwr zzV:=zNt
theorem zRv:Q59 D59:=s59 cZ zHN zzW zzZ zue
theorem zRw:zek D38:=s38 cZ
theorem zRx:Q52 D52:=s52 zRw
theorem zRy:Q14 D14:=s14 cZ zQU zHG zHJ zHK zRu zRv zRx
theorem zRz{δ ρ:Type}[dm δ][dm ρ]{F:δ->ae ρ}{a:δ}{r:ρ}(hc:dm.ck (α:=δ) (dm.enc a)=true)(hd:dm.dec (dm.enc a)=a)(h:F a=.ok r):(ae.un F (dm.enc a)).o=some (dm.enc r):=by
 unfold ae.un;rw[hc,hd,h];rfl
end Go.Proofs
