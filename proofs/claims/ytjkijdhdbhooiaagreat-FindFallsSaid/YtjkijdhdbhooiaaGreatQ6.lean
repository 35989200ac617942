/- Part 6: framework, functions, plain laws. -/
import Derived.Test.YtjkijdhdbhooiaaGreatQ5
set_option linter.all false
noncomputable section
namespace Go.Proofs
open Go Go.Pm
set_option maxRecDepth 100000
theorem zrI(g:Sl ay):∀(r acc:List straight)(F:List Int->Option (List Int)),(∀c,(EN (F c) 0 != 0)=true↔∃x∈acc,uf (fC x)=c)->acc.Pairwise (λx y=>fC x≠fC y) ->
    (∀s∈GH g r acc F,s∈acc\/(s∈r/\allB g s=true))/\(∀s∈acc,s∈GH g r acc F)/\(∀s∈r,allB g s=true->∃x∈GH g r acc F,fC x=fC s)/\(GH g r acc F).Pairwise (λx y=>fC x≠fC y):=by
  intro r
  induction r with
  | nil=>intro acc F _ hp;exact⟨λs h=>.inl h,λs h=>h,(λs h=>by cases h),hp⟩
  | cons y r ih =>
    intro acc F hF hp;have skip:=ih acc F hF hp;simp only[GH];cases h1:(EN (F (uf (fC y))) 0 != 0)with
    | true =>
      obtain⟨c3,c4,c5,c6⟩:=skip;simp only[OZ,dS];refine⟨λs h=>(c3 s h).imp id λk=>⟨jU _ k.1,k.2⟩,c4,λs h ha=>?_,c6⟩;rcases kR.1 h with rfl|h
      · obtain⟨x,hx,hc⟩:=(hF _).1 h1;exact⟨x,c4 x hx,zeU hc⟩
      · exact c5 s h ha
    | false =>
      cases h2:allB g y with
      | true =>
        simp only[qdU,ed]
        obtain⟨c3,c4,c5,c6⟩:=ih (acc++[y]) (IG (uf (fC y)) [1] F)
          (λc=>by
            unfold IG;by_cases hc:c=uf (fC y)
            · rw [dZ hc];exact⟨λ_=>⟨y,by simp,hc.symm⟩,λ_=>rfl⟩
            · rw [eU hc];refine (hF c).trans ⟨λ ⟨x,hx,e⟩=>⟨x,dU.2 (.inl hx),e⟩,λ ⟨x,hx,e⟩=>?_⟩;rcases dU.1 hx with hx | hx
              · exact⟨x,hx,e⟩
              · rw[mg.1 hx]at e;exact absurd e.symm hc)
          (by
            rw[qdx];refine⟨hp,jq6 _ _,λa ha b hb=>?_⟩;rw[mg.1 hb];exact λe=>by rw[(hF _).2 ⟨a,ha,by rw[e]⟩]at h1;cases h1)
        have hy:=c4 y (by simp);refine⟨λs h=>?_,λs h=>c4 s (dU.2 (.inl h)),λs h ha=>?_,c6⟩
        · rcases c3 s h with h | h
          · rcases dU.1 h with h | h
            · exact .inl h
            · rw[mg.1 h];exact .inr ⟨lq,h2⟩
          · exact .inr ⟨jU _ h.1,h.2⟩
        · rcases kR.1 h with rfl | h
          · exact⟨s,hy,rfl⟩
          · exact c5 s h ha
      | false =>
        obtain⟨c3,c4,c5,c6⟩:=skip;simp only[qdU,ed,dS];refine⟨λs h=>(c3 s h).imp id λk=>⟨jU _ k.1,k.2⟩,c4,λs h ha=>?_,c6⟩;rcases kR.1 h with rfl|h
        · rw[h2]at ha;cases ha
        · exact c5 s h ha
theorem TN{g:Sl ay}(hf:fQ g=false):(∀s∈jB g,s∈cst g/\allB g s=true)/\(∀s∈cst g,allB g s=true->∃x∈jB g,fC x=fC s)/\(jB g).Pairwise (λx y=>fC x≠fC y):=by
 unfold jB;rw[hf,dS];obtain⟨c3,_,c5,c6⟩:=zrI g (cst g) [] (λ_=>none) (λc=>⟨λh=>by simp[EN]at h,λ⟨x,hx,_⟩=>by cases hx⟩) List.Pairwise.nil;refine⟨λs h=>?_,c5,c6⟩;rcases c3 s h with h|h
 ·cases h
 ·exact h
def iG(g:Sl ay):Bool:=cond (fQ g) (decide ((fP g g.len).Low<=(fP g g.len).High)) (decide (((jB g).length:Int)>0))
def iZ(g:Sl ay):set:=⟨⟨g⟩,(jB g).foldl oO Iq⟩
theorem Ep(g:Sl ay):(iZ g).dm.len=(jB g).length:=by show((jB g).foldl oO Iq).len=_;rw[uM];simp
abbrev zmS(C:set->ae Bool):Prop:=∀g,dw g->C (iZ g)=.ok (iG g)
theorem zU1{E:zp3}(zaF:zrG E.Uk)(wX:zaQ E.c167):zmS (zp4 E):=λg G=>ae.ext λk=>by
 have hl:=G.2;rw[zTt,zaF _ (by show 0<g.len;omega) (by show g.len<=1000;omega),bn,wX _ (by show 0<g.len;omega) (by show g.len<=1000;omega),bn,bn,Ep,kc k];rfl
def Ad(g:Sl ay)(b:Bool):set×Int:=cond (xq g) (cond (iG g) (cond (fQ g && !b) (⟨⟨Iq⟩,Iq⟩,6) (iZ g,0)) (⟨⟨Iq⟩,Iq⟩,5)) (⟨⟨Iq⟩,Iq⟩,2)
abbrev zyY(C:list->ae Bool):Prop:=∀l,C l=.ok false
theorem zU2{E:zpm}:zyY (zpn E):=λl=>ae.ext λk=>by rw[e118,bn]
abbrev zyZ(C:list×Pt Int->ae Bool):Prop:=∀(l:list)(z:Pt Int),0<l.bQ.len->C (l,z)=.ok ((l.bQ.get 0).Z==z.v)
theorem zU3{E:zp5}:zyZ (zp6 E):=λl z h=>ae.ext λk=>by rw[e162,bn,bG omY]
abbrev zy0:=dY 118 Unit Unit ⊕ dY 162 Unit (Pt Int)
def zU4(g:Sl ay):zy0→Bool
  | .inl _=>false
  | .inr c=>(g.get 0).Z==c.v.v
abbrev QOp{γ:Type}(i:γ->zy0)(C:Sl ay×γ->ae (set×Int)):Prop:=∀(g:Sl ay)(c:γ),g.len<=1000->C (g,c)=.ok (Ad g (zU4 g (i c)))
abbrev zmB(C:Sl ay×zy0->ae (set×Int)):Prop:=QOp id C
theorem zkB{E:DJ}(YG:zmQ E.c109)(YJ:zmR E.OM)(YL:zmS E.c159)(wX:zaQ E.c167)(zx5:zyY E.zsg):QOp .inl (DK E):=λg c hl=>ae.ext λk=>by
 rw[zjs,YG g hl,bn,bn];unfold Ad;cases hg:xq g with
 | false=>rfl
 | true =>
  have G:=kU.1 hg;have G2:=G.2;rw[YJ g G,bn,show(⟨⟨g⟩,(jB g).foldl oO Iq⟩:set)=iZ g from rfl,YL g G,bn,wX _ (by show 0<g.len;omega) (by show g.len<=1000;omega),bn,zx5,bn];show cond (!true) _ (cond (!iG g) _ (cond (fQ g) _ _))=_;cases iG g<;>cases fQ g<;>rfl
theorem zkC{E:DL}(YG:zmQ E.c109)(YJ:zmR E.OM)(YL:zmS E.c159)(wX:zaQ E.c167)(zx6:zyZ E.c162):QOp .inr (DN E):=λg c hl=>ae.ext λk=>by
 rw[zju,YG g hl,bn,bn];unfold Ad;cases hg:xq g with
 | false=>rfl
 | true =>
  have G:=kU.1 hg;have G2:=G.2;rw[YJ g G,bn,show(⟨⟨g⟩,(jB g).foldl oO Iq⟩:set)=iZ g from rfl,YL g G,bn,wX _ (by show 0<g.len;omega) (by show g.len<=1000;omega),bn,zx6 _ _ (by show 0<g.len;omega),bn];show cond (!true) _ (cond (!iG g) _ (cond (fQ g) (cond (!((g.get 0).Z==c.v.v)) _ _) _))=k (cond true (cond (iG g) (cond (fQ g && !((g.get 0).Z==c.v.v)) _ _) _) _);cases iG g<;>cases fQ g<;>cases((g.get 0).Z==c.v.v)<;>rfl
theorem zU5{f:Sl ay×dY 118 Unit Unit->ae (set×Int)}{h:Sl ay×dY 162 Unit (Pt Int)->ae (set×Int)}(a:QOp .inl f)(b:QOp .inr h):zmB (ae.two f h):=λg c hl=>by
 rcases c with c|c
 ·exact a g c hl
 ·exact b g c hl
def iL(s:straight)(z:Int):Int:=s.start+s.bI*z
def mJ(s:straight)(g:ay):Bool:=decide (g.Low*s.den<=iL s g.Z/\iL s g.Z<=g.High*s.den)
def zy2(s:straight)(g:ay):Bool:=decide (iL s g.Z=g.Low*s.den)
theorem zcJ{s:straight}(S:yw s){z:Int}(hz : -200000<=z/\z<=200000):aO (s.start+aO (s.bI*z))=iL s z/\(-600000000000<=iL s z/\iL s z<=600000000000):=by
 have b : -400000000000<=s.bI*z/\s.bI*z<=400000000000:=by
  rcases qdX z 0 with h|h
  ·have:=qy (x:=s.bI) (y := -z) (X:=2000000) (Y:=200000) (by have:=S.1;omega) (by have:=S.1;omega) omY omY;rw[qjl]at this;omega
  ·exact qy (X:=2000000) (Y:=200000) (by have:=S.1;omega) (by have:=S.1;omega) h omY
 have:=S.2.1;unfold iL;rw[bf (x:=s.bI*z) omY omY,bf omY omY];omega
theorem zkD{s:straight}(S:yw s){p:Int}(hp : -1000000<=p/\p<=1000000):aO (p*s.den)=p*s.den:=by
 have:=qy hp.1 hp.2 (show 0<=s.den by have:=S.2.2;omega) S.2.2.2;exact bf omY omY
theorem Xy{s:straight}(S:yw s){g:ay}(h:gZ g):Qz s g=mJ s g:=by
 unfold Qz mJ inB;rw[(zcJ S (z:=g.Z) (by have:=h.1;omega)).1,zkD S (qF h),zkD S (rZ h)]
theorem zcK{s:straight}(S:yw s){g:ay}(h:gZ g):Xr s g=zy2 s g:=by
 unfold Xr zy2;rw[(zcJ S (z:=g.Z) (by have:=h.1;omega)).1,zkD S (qF h)];rw[Ut];simp
def zx(g:Sl ay)(s:straight):Prop:=∀i,i<g.len->mJ s (g.get i)=true
def oH(g:Sl ay)(s:straight):Prop:=∃i,i<g.len/\zy2 s (g.get i)=true
theorem Es{g:Sl ay}(G:dw g){s:straight}(S:yw s):allB g s=true↔zx g s:=by
 unfold allB;rw[dI];exact⟨λh i hi=>by rw[<- Xy S (G.1 i hi)];exact h i hi,λh i hi=>by rw[Xy S (G.1 i hi)];exact h i hi⟩
theorem Xz{g:Sl ay}(G:dw g){s:straight}(S:yw s):(!fG (λj=>!Xr s (g.get j)) g.len)=true↔oH g s:=by
 rw[NR,<- qjt,dI];constructor
 ·intro h;apply qdG;intro hc;refine h λi hi=>?_;cases e:Xr s (g.get i)with
  | false=>rfl
  | true=>rw[zcK S (G.1 i hi)]at e;exact(hc ⟨i,hi,e⟩).elim
 ·rintro⟨i,hi,e⟩ h;have:=h i hi;rw[zcK S (G.1 i hi),e]at this;cases this
def wB(g:Sl ay)(s:straight):Prop:=s∈cst g/\zx g s
theorem mi{g:Sl ay}(G:dw g){s:straight}(h:wB g s):yw s:=rE G h.1
def yz(a b:aP):Prop:=a.Num*b.bT<b.Num*a.bT
def Nq(s:straight):aP:=⟨s.bI,s.den⟩
theorem zaR{z p y q:Int}(h:z≠y):iL (EP z p y q) z=p*(EP z p y q).den/\iL (EP z p y q) y=q*(EP z p y q).den:=by
 unfold EP iL;split
 ·constructor
  ·show q*z-p*y+(p-q)*z=p*(z-y);rw[jqu,qjG];omega
  ·show q*z-p*y+(p-q)*y=q*(z-y);rw[jqu,qjG];omega
 ·constructor
  ·show p*y-q*z+(q-p)*z=p*(y-z);rw[jqu,qjG];omega
  ·show p*y-q*z+(q-p)*y=q*(y-z);rw[jqu,qjG];omega
def zcL(g:Sl ay)(s:straight):Prop:=∃i,i<g.len/\iL s (g.get i).Z=(g.get i).High*s.den
theorem zeV{g:Sl ay}{s:straight}(h:s∈cst g):oH g s\/zcL g s:=by
 obtain⟨a,b,h1,h2,hz,p,q,hp,hq,rfl⟩:=zcI h;have e:=(zaR (p:=p) (q:=q) hz).1;rcases hp with rfl|rfl
 ·exact .inl ⟨a,omY,dZ e⟩
 ·exact .inr ⟨a,omY,e⟩
theorem par{s t:straight}(h:s.bI*t.den=t.bI*s.den)(z:Int):iL s z*t.den-iL t z*s.den=s.start*t.den-t.start*s.den:=by
  unfold iL;rw[qjx,qjx];have e:s.bI*z*t.den=t.bI*z*s.den:=by
    calc s.bI * z * t.den = s.bI * t.den * z := by ac_rfl
      _=t.bI*z*s.den:=by rw[h];ac_rfl
  omega
theorem xG{g:Sl ay}{s:straight}(h:zx g s){i:Nat}(hi:i<g.len):(g.get i).Low*s.den<=iL s (g.get i).Z/\iL s (g.get i).Z<=(g.get i).High*s.den:=dqS (h i hi)
theorem zy3{g:Sl ay}(G:dw g){s t:straight}(hs:wB g s)(ht:wB g t)(h:s.bI*t.den=t.bI*s.den)(hl:s.start*t.den<t.start*s.den):¬oH g t/\¬zcL g s:=by
 have ps:0<s.den:=by have:=(mi G hs).2.2;omega
 have pt:0<t.den:=by have:=(mi G ht).2.2;omega
 constructor
 ·intro ⟨i, hi, e⟩;have e:iL t (g.get i).Z=(g.get i).Low * t.den:=dqS e;have a:=(xG hs.2 hi).1;have p:=par h (g.get i).Z;have a2:=NY a (yt pt);have:(g.get i).Low * s.den * t.den=iL t (g.get i).Z * s.den:=by rw[e];ac_rfl
  omega
 ·intro ⟨i, hi, e⟩;have a:=(xG ht.2 hi).2;have p:=par h (g.get i).Z;have a2:=NY a (yt ps);have:(g.get i).High * t.den * s.den=iL s (g.get i).Z * t.den:=by rw[e];ac_rfl
  omega
theorem XB{g:Sl ay}(G:dw g){s t:straight}(hs:wB g s)(ht:wB g t)(hf:oH g s↔oH g t)(h1:¬yz (Nq s) (Nq t))(h2:¬yz (Nq t) (Nq s)):fC s=fC t:=by
 have ps:0<s.den:=by have:=(mi G hs).2.2;omega
 have pt:0<t.den:=by have:=(mi G ht).2.2;omega
 have h:s.bI*t.den=t.bI*s.den:=by
  have a:¬s.bI*t.den<t.bI*s.den:=h1;have b:¬t.bI*s.den<s.bI*t.den:=h2;omega
 have key:∀{s t:straight},wB g s->wB g t->(oH g s↔oH g t)->s.bI*t.den=t.bI*s.den->¬s.start*t.den<t.start*s.den:=fun {s t} hs ht hf h hl=>by
  obtain⟨a,b⟩:=zy3 G hs ht h hl;rcases zeV hs.1 with c|c
  ·exact a (hf.1 c)
  ·exact b c
 have e:s.start*t.den=t.start*s.den:=by
  have a:=key hs ht hf h;have b:=key ht hs hf.symm h.symm;omega
 unfold fC;rw[(Y4 ps pt).2 h,(Y4 ps pt).2 e]
def Nr(g:Sl ay)(s t:straight):Prop:=(oH g s/\(oH g t->yz (Nq s) (Nq t)))\/(¬oH g s/\¬oH g t/\yz (Nq t) (Nq s))
theorem TP{a:aP}:¬yz a a:=by unfold yz;omega
theorem zcM{a b:aP}(h:yz a b):¬yz b a:=by unfold yz at *;omega
theorem zaS{a b c:aP}(ha:0<a.bT)(hb:0<b.bT)(hc:0<c.bT)(h1:yz a b)(h2:yz b c):yz a c:=by
 unfold yz at *;have y1:=qjT h1 hc;have y2:=qjT h2 ha;have z1:b.Num*a.bT*c.bT=b.Num*c.bT*a.bT:=by ac_rfl
 have z2:c.Num*b.bT*a.bT=c.Num*a.bT*b.bT:=by ac_rfl
 have z3:a.Num*b.bT*c.bT=a.Num*c.bT*b.bT:=by ac_rfl
 have:a.Num*c.bT*b.bT<c.Num*a.bT*b.bT:=by omega
 exact jqT this (yt hb)
theorem zrJ{g:Sl ay}{s:straight}:¬Nr g s s:=λh=>by
 rcases h with⟨a,b⟩|⟨_,_,c⟩
 ·exact TP (b a)
 ·exact TP c
theorem zkE{g:Sl ay}{s t:straight}(h:Nr g s t):¬Nr g t s:=λk=>by
 rcases h with⟨a,b⟩|⟨a,b,c⟩<;>rcases k with⟨x,y⟩|⟨x,y,z⟩
 ·exact zcM (b x) (y a)
 ·exact y a
 ·exact b x
 ·exact zcM c z
theorem zeW{g:Sl ay}(G:dw g){s t u:straight}(hs:wB g s)(ht:wB g t)(hu:wB g u)(h:Nr g s t)(k:Nr g t u):Nr g s u:=by
 have ps:0<(Nq s).bT:=by have:=(mi G hs).2.2;show 0<s.den;omega
 have pt:0<(Nq t).bT:=by have:=(mi G ht).2.2;show 0<t.den;omega
 have pu:0<(Nq u).bT:=by have:=(mi G hu).2.2;show 0<u.den;omega
 rcases h with⟨a,b⟩|⟨a,b,c⟩<;>rcases k with⟨x,y⟩|⟨x,y,z⟩
 ·exact .inl ⟨a,λw=>zaS ps pt pu (b x) (y w)⟩
 ·exact .inl ⟨a,λw=>absurd w y⟩
 ·exact absurd x b
 ·exact .inr ⟨a,y,zaS pu pt ps z c⟩
theorem zrK{g:Sl ay}(G:dw g){s t:straight}(hs:wB g s)(ht:wB g t)(hn:fC s≠fC t):Nr g s t\/Nr g t s:=by
 by_cases a:oH g s<;>by_cases b:oH g t
 ·by_cases c : yz (Nq s) (Nq t)
  ·exact .inl (.inl ⟨a,λ_=>c⟩)
  ·by_cases d : yz (Nq t) (Nq s)
   ·exact .inr (.inl ⟨b,λ_=>d⟩)
   ·exact absurd (XB G hs ht ⟨λ_=>b,λ_=>a⟩ c d) hn
 ·exact .inl (.inl ⟨a,λw=>absurd w b⟩)
 ·exact .inr (.inl ⟨b,λw=>absurd w a⟩)
 ·by_cases c : yz (Nq s) (Nq t)
  ·exact .inr (.inr ⟨b,a,c⟩)
  ·by_cases d : yz (Nq t) (Nq s)
   ·exact .inl (.inr ⟨a,b,d⟩)
   ·exact absurd (XB G hs ht ⟨λw=>absurd w a,λw=>absurd w b⟩ c d) hn
abbrev zrL(C:Int->ae Bool):Prop:=∀x,C x=.ok false
theorem zU6{E:zrp}:zrL (zrq E):=λx=>ae.ext λk=>by rw[zUu,bn,show(x != x)=false by simp]
def qQ(a b:Int):Int:=cond (decide (a<b)) (-1) (cond (decide (a>b)) 1 0)
abbrev zaT(C:Int×Int->ae Int):Prop:=∀a b,C (a,b)=.ok (qQ a b)
theorem zU7{E:zqY}(Xd:zrL E.NI):zaT (zqZ E):=λa b=>ae.ext λk=>by
 rw[e208,Xd,bn,Xd,bn,bn];unfold qQ;cases decide (a<b)<;>cases decide (a>b)<;>rfl
def FOK(f:aP):Prop:=(-1000000000<=f.Num/\f.Num<=1000000000)/\0<f.bT/\f.bT<=1000000000
def cmF(a b:aP):Int:=qQ (a.Num*b.bT) (b.Num*a.bT)
theorem zHd{a b:aP}(h1:FOK a)(h2:FOK b):aO (a.Num*b.bT)=a.Num*b.bT:=by
 have:=qy h1.1.1 h1.1.2 (yt h2.2.1) h2.2.2;exact bf omY omY
abbrev zkF(C:aP×aP->ae Int):Prop:=∀a b:aP,aO (a.Num*b.bT)=a.Num*b.bT->aO (b.Num*a.bT)=b.Num*a.bT->C (a,b)=.ok (cmF a b)
theorem zU9{E:zqf}(zaG:zaT E.c208):zkF (zqg E):=λa b h1 h2=>ae.ext λk=>by
 rw[e170,zaG,bn,bn,h1,h2];rfl
theorem zkG{a b:aP}:cmF a b<0↔yz a b:=by
 unfold cmF qQ yz;by_cases h:a.Num*b.bT<b.Num*a.bT
 ·rw[dZ h];simp[h]
 ·rw [eU h];cases decide (a.Num*b.bT>b.Num*a.bT)<;>simp[h]
theorem zkH{a b:aP}:0-cmF a b<0↔yz b a:=by
 unfold cmF qQ yz;by_cases h:a.Num*b.bT<b.Num*a.bT
 ·rw[dZ h];simp;omega
 ·rw [eU h];by_cases h2:a.Num * b.bT > b.Num * a.bT
  ·rw[dZ h2];simp;omega
  ·rw[eU h2];simp;omega
theorem zHe(a b:aP) : -1<=cmF a b/\cmF a b<=1:=by
 unfold cmF qQ;cases decide (a.Num*b.bT<b.Num*a.bT)<;>cases decide (a.Num*b.bT>b.Num*a.bT)<;>simp
theorem zkI{a b c d:Int}(hb:0<b)(hd:0<d):yz (red a b) (red c d)↔a*d<c*b:=by
 have a1:=oM (num:=a) hb;have a2:=mG (num:=a) hb;have c1:=oM (num:=c) hd;have c2:=mG (num:=c) hd;have hG:=lI (num:=a) hb;have hK:=lI (num:=c) hd;unfold yz;generalize (Int.gcd a b:Int)=G at a1 a2 hG;generalize (Int.gcd c d:Int)=K at c1 c2 hK;generalize (red a b).Num=p at a1 ⊢;generalize (red a b).bT=q at a2 ⊢;generalize (red c d).Num=u at c1 ⊢;generalize (red c d).bT=v at c2 ⊢;subst a1 a2 c1 c2;have e1:G*p*(K*v)=p*v*(G*K):=by ac_rfl
 have e2:K*u*(G*q)=u*q*(G*K):=by ac_rfl
 rw[e1,e2];have hp:=jqt hG hK;exact⟨λh=>qjT h hp,λh=>jqT h (yt hp)⟩
theorem Jp{a b:Int}(h1 : -1000000000<=a)(h2:a<=1000000000)(hb:0<b)(Us:b<=1000000000):FOK (red a b):=by
 have r1:=zU (num:=a) hb;have r2:=GG (num:=a) hb;have r3:=jf (num:=a) hb;exact⟨omY,omY,omY⟩
def yf(g:Sl ay)(s:straight):Bool:=!fG (λj=>!Xr s (g.get j)) g.len
def zkJ(g:Sl ay)(s t:straight):Int:=cond (yf g s) (cond (yf g t) (cmF (red s.bI s.den) (red t.bI t.den)) (-1)) (cond (yf g t) 1 (aO (0-cmF (red s.bI s.den) (red t.bI t.den))))
abbrev zy4(C:straight×straight×Pt set->ae Int):Prop:=∀s t (P:Pt set),yw s->yw t->P.v.list.bQ.len<=1000->C (s,t,P)=.ok (zkJ P.v.list.bQ s t)
theorem zVa{E:zry}(zrA:zyX E.zly)(qP:IV E.kJ)(MX:zkF E.EE):zy4 (zrz E):=λs t P S T hl=>ae.ext λk=>by
 have s1:=S.1;have s3:=S.2.2;have t1:=T.1;have t3:=T.2.2
 rw[e254,zrA _ _ hl,bn,zrA _ _ hl,bn,qP _ _ omY omY omY omY,bn,qP _ _ omY omY omY omY,bn,
  MX _ _ (zHd (Jp omY omY omY omY) (Jp omY omY omY omY)) (zHd (Jp omY omY omY omY) (Jp omY omY omY omY)),bn,bn]
 unfold zkJ;show cond (yf P.v.list.bQ s) (cond (yf P.v.list.bQ t) _ (cond (yf P.v.list.bQ s) _ (cond (yf P.v.list.bQ t) _ _))) (cond (yf P.v.list.bQ s) _ (cond (yf P.v.list.bQ t) _ _))=_;cases yf P.v.list.bQ s<;>cases yf P.v.list.bQ t<;>rfl
theorem zrM{g:Sl ay}(G:dw g){s t:straight}(hs:wB g s)(ht:wB g t):zkJ g s t<0↔Nr g s t:=by
 have S:=mi G hs;have T:=mi G ht;have a:=Xz G S;have b:=Xz G T;have ps:0<s.den:=by have:=S.2.2;omega
 have pt:0<t.den:=by have:=T.2.2;omega
 have e1:=(zkG (a:=red s.bI s.den) (b:=red t.bI t.den)).trans (zkI ps pt);have e2:=(zkH (a:=red s.bI s.den) (b:=red t.bI t.den)).trans (zkI pt ps);have bb:=zHe (red s.bI s.den) (red t.bI t.den);have e3:yz (Nq s) (Nq t)↔s.bI*t.den<t.bI*s.den:=UX;have e4:yz (Nq t) (Nq s)↔t.bI*s.den<s.bI*t.den:=UX;unfold zkJ Nr;rw[<- a,<- b,e3,e4,<- e1,<- e2,bf omY omY];show cond (yf g s) _ _<0↔(yf g s=true/\(yf g t=true->_))\/(¬yf g s=true/\¬yf g t=true/\_);cases yf g s<;>cases yf g t<;>simp
theorem zuv{α:Type}[bH α][sQ α]{C:List PA→ae (List PA)}{caps:List PV}{ag:Bool}{w:Sl α}{cmp:α→α→Int}{R:α→α→Prop}(hn:w.len≤1000000)
    (hc:∀i j,i<w.len->j<w.len->JK C caps ag (uG w) i j=some (cmp (w.get i) (w.get j))) (hR:∀i j,i<w.len->j<w.len->(cmp (w.get i) (w.get j)<0↔R (w.get i) (w.get j)))
    (irr:∀i,i<w.len->¬R (w.get i) (w.get i)) (tot:∀i j,i<w.len->j<w.len->i≠j->R (w.get i) (w.get j)\/R (w.get j) (w.get i)) (asym:∀i j,i<w.len->j<w.len->R (w.get i) (w.get j)->¬R (w.get j) (w.get i))
    (tr:∀i j k,i<w.len->j<w.len->k<w.len->R (w.get i) (w.get j)->R (w.get j) (w.get k)->R (w.get i) (w.get k)) :
    soP C caps ag w=true/\∃l:List Nat,l.Perm (List.range w.len)/\l.Pairwise (λi j=>R (w.get i) (w.get j))/\∀i (h:i<l.length),soG C caps ag w i=w.get l[i]:=by
  have hv:∀i j,i<w.len->j<w.len->(nY C caps ag (uG w) i j<0↔R (w.get i) (w.get j)):=λi j hi hj=>by
    unfold nY;rw[hc i j hi hj];exact hR i j hi hj
  have S1:zgZ w.len (λi j=>(JK C caps ag (uG w) i j).isSome) (nY C caps ag (uG w))=true:=by
    simp only[zgZ,Aa,JC,gG,Zb,pJ,NR,jq9,dq2];intro i hi;refine⟨by have:¬nY C caps ag (uG w) i i<0:=λh=>irr i hi ((hv i i hi hi).1 h);omega,λj hj=>?_⟩;refine⟨⟨by rw[hc i j hi hj];rfl,?_⟩,λk hk=>?_⟩
    · by_cases O5 : i = j
      · exact .inl (.inl (by rw[O5];exact Nat.beq_refl j))
      · rcases tot i j hi hj O5 with h | h
        · have:¬nY C caps ag (uG w) j i<0:=fun k=>asym i j hi hj h ((hv j i hj hi).1 k);exact .inl (.inr ⟨(hv i j hi hj).2 h,omY⟩)
        · have:¬nY C caps ag (uG w) i j<0:=fun k=>asym j i hj hi h ((hv i j hi hj).1 k);exact .inr ⟨(hv j i hj hi).2 h,omY⟩
    · by_cases h1 : nY C caps ag (uG w) i j < 0
      · by_cases h2 : nY C caps ag (uG w) j k < 0
        · exact .inr ((hv i k hi hk).2 (tr i j k hi hj hk ((hv i j hi hj).1 h1) ((hv j k hj hk).1 h2)))
        · exact .inl (.inr h2)
      · exact .inl (.inl h1)
  have hb:(zv3 w.len (λi j=>(JK C caps ag (uG w) i j).isSome) (nY C caps ag (uG w))).b=true:=by
    show(Nat.ble w.len 4611686018427387&&zgZ w.len _ _)=true;rw[S1,jqe omY];rfl
  have T:STO w.len (nY C caps ag (uG w)):=(CP.h _ hb).2.2;have pm:=BD (c:=nY C caps ag (uG w)) w.len;refine⟨hb,yG w.len (nY C caps ag (uG w)),pm,?_,λi h=>?_⟩
  · have nd : (yG w.len (nY C caps ag (uG w))).Nodup := pm.nodup_iff.2 List.nodup_range;refine (List.Pairwise.and (WG T) nd).imp_of_mem ?_;intro a b ha hb hab;have ha:=JC.1 (pm.mem_iff.1 ha);have hb:=JC.1 (pm.mem_iff.1 hb);rcases tot a b ha hb hab.2 with h | h
    · exact h
    · exact absurd ((hv b a hb ha).2 h) hab.1
  · show(bH.dec (bH.enc (w.get ((yG w.len (nY C caps ag (uG w))).getD i ((yG w.len (nY C caps ag (uG w))).getD 0 0))))).1=_;rw[sQ.de,jqU,BR h];rfl
theorem vX(g:Sl ay){i:Nat}(h:i<(jB g).length):(iZ g).dm.get i=(jB g)[i]:=by
 have:=AV (jB g) Iq i (jB g)[i] (BR h);rw[show(Iq:Sl straight).len+i=i by show 0+i=i;omega]at this;exact this
theorem zkK(g:Sl ay):∀(r acc:List straight)(F:List Int->Option (List Int)),(GH g r acc F).length<=acc.length+r.length:=by
 intro r
 induction r with
 | nil=>intro acc F;exact kC _
 | cons y r ih =>
  intro acc F;have a:=ih (acc++[y]) (IG (uf (fC y)) [1] F);have b:=ih acc F;rw[Jz]at a;simp only[Cc,UJ]at a ⊢;simp only[GH];cases(EN (F (uf (fC y))) 0 != 0)<;>cases allB g y<;>simp only[OZ,qdU,ed,dS]<;>omega
theorem Jq{g:Sl ay}(G:dw g):(jB g).length<=2304:=by
 unfold jB;cases fQ g with
 | true=>exact Cf _
 | false =>
  have a:=zkK g (cst g) [] λ_=>none;have b:=Og G;rw[dS];simp only[UJ,NV]at a;omega
theorem Jr{g:Sl ay}(G:dw g){s:straight}(h:s∈jB g):wB g s:=by
 cases hf:fQ g with
 | true=>unfold jB at h;rw[hf]at h;cases h
 | false =>
  obtain⟨a,b⟩:=(TN hf).1 s h;exact⟨a,(Es G (rE G a)).1 b⟩
abbrev zy5(C:set->ae (Sl straight)):Prop:=∀g,dw g->∃D:Sl straight,C (iZ g)=.ok D/\D.len=(jB g).length/\∀i,i<D.len->yw (D.get i)
theorem zVb{E:zrv}(zVc:zy4 E.Yq):zy5 (zrx E):=λg G=>by
  have hl:=Jq G;have hG:=G.2.2;have len:=Ep g;have cr:∀i,i<(iZ g).dm.len->wB g ((iZ g).dm.get i):=λi hi=>by
    rw[vX g omY];exact Jr G (YY _)
  have ne:∀i j,i<(iZ g).dm.len->j<(iZ g).dm.len->i≠j->fC ((iZ g).dm.get i)≠fC ((iZ g).dm.get j):=λi j hi hj O5 e=>by
    rw[vX g omY,vX g omY]at e;cases hf:fQ g with
    | true =>
      have:jB g=[]:=by unfold jB;rw[hf];rfl
      rw[this]at len;simp at len;omega
    | false =>
      have P:=(TN hf).2.2;rw[qdk]at P;rcases qd4 i j with h|h
      · exact P i j omY omY h e
      · exact P j i omY omY omY e.symm
  obtain⟨hp,l,h1,_,h3⟩:=zuv (C:=ae.un E.Yq) (caps:=bH.enc (⟨iZ g⟩:Pt set)) (ag:=true) (w:=(iZ g).dm) (cmp:=zkJ g) (R:=Nr g) omY
    (λi j hi hj=>by
      show(E.Yq ((iZ g).dm.get i,(iZ g).dm.get j,(⟨iZ g⟩:Pt set))).T _=_;rw[zVc _ _ _ (mi G (cr i hi)) (mi G (cr j hj)) (by show g.len<=1000;omega)];rfl)
    (λi j hi hj=>zrM G (cr i hi) (cr j hj)) (λi hi=>zrJ) (λi j hi hj O5=>zrK G (cr i hi) (cr j hj) (ne i j hi hj O5)) (λi j _ _ h=>zkE h)
    (λi j k hi hj hk a b=>zeW G (cr i hi) (cr j hj) (cr k hk) a b)
  have ll:l.length=(iZ g).dm.len:=by rw[h1.length_eq,jqC]
  refine⟨⟨(iZ g).dm.len,soG (ae.un E.Yq) (bH.enc (⟨iZ g⟩:Pt set)) true (iZ g).dm⟩,ae.ext λk=>?_,len,λi hi=>?_⟩
  · rw[e249,hp,bn,show room (iZ g).dm.len 24=true from dZ omY];rfl
  · have hi:i<(iZ g).dm.len:=hi;show yw (soG _ _ _ _ i);rw[h3 i omY];exact mi G (cr _ (JC.1 (h1.mem_iff.1 (YY _))))
def TQ(g:Sl ay):Int:=(Ad g false).2
abbrev zy6(C:Sl ay->ae (Sl Line×Int)):Prop:=∀g:Sl ay,g.len<=1000->∃L,C g=.ok (L,TQ g)/\(TQ g=0->0<L.len)
theorem zVd{E:zeR}(N:Big E.N)(UM:zmB E.c117)(zyO:zy5 E.zlx)(zaE:zrH E.c198):zy6 (zkn E):=λg hl=>by
 have e:∀(A:Type)(k:Sl Line×Int->Option A),(zkn E g).T k=cond ((Ad g false).2 != 0) (k (⟨0,λ_=>default⟩,(Ad g false).2)) ((E.zlx (Ad g false).1).T λr2=>Gz E E.N r2 (r2.len:Int) 0 ⟨0,λ_=>⟨⟨0,0⟩,⟨0,0⟩⟩⟩ k):=λA k=>by
  rw[e240,UM g (.inl ⟨(),()⟩) hl,bn];rfl
 unfold TQ;by_cases h0:(Ad g false).2=0
 ·have:xq g=true/\iG g=true/\fQ g=false:=by
   unfold Ad at h0;revert h0;cases xq g<;>cases iG g<;>cases fQ g<;>simp
  obtain⟨hg,hs,hf⟩:=this;have G:=kU.1 hg;have e1:(Ad g false).1=iZ g:=by unfold Ad;rw[hg,hs,hf];rfl
  obtain⟨D,d1,d2,d3⟩:=zyO g G;have dl:D.len<=2304:=by rw[d2];exact Jq G
  have key:∃L:Sl Line,L.len=D.len/\∀(A:Type)(k:Sl Line×Int->Option A),Gz E E.N D (D.len:Int) 0 ⟨0,λ_=>⟨⟨0,0⟩,⟨0,0⟩⟩⟩ k=k (L,0):=by
   let acc:Nat->Sl Line:=λn=>Nat.rec ⟨0,λ_=>⟨⟨0,0⟩,⟨0,0⟩⟩⟩ (λi v=>oO v (fC (D.get i))) n;have al:∀n,(acc n).len=n:=λn=>by
    induction n with
    | zero=>rfl
    | succ n ih=>show(acc n).len+1=n+1;rw[ih]
   refine⟨acc D.len,al _,λA k=>?_⟩;refine kV (X:=λn i=>Gz E n D (D.len:Int) (i:Int) (acc i) k) (m:=D.len) (λn i hi=>?_) (λn=>?_) _ (by have:=N;omega)
   ·rw[zko,dZ omY,ed,bG omY,gU,zaE _ (d3 i hi),bn,bP omY,show room ((acc i).len+1) 32=true from dZ (by rw[al];omega)];rfl
   ·rw[zko,eU omY];rfl
  obtain⟨L,l1,l2⟩:=key;refine⟨L,ae.ext λk=>?_,λ_=>?_⟩
  ·rw[e,h0,e1,d1,bn,l2];rfl
  ·rw [l1,d2];unfold iG at hs;rw[hf,dS,pJ]at hs;omega
 ·exact⟨_,ae.ext λk=>by rw[e,show((Ad g false).2 != 0)=true by simpa using h0];rfl,λh=>absurd h h0⟩
abbrev zy7(C:Sl ay->ae (Line×Int)):Prop:=∀g:Sl ay,g.len<=1000->∃l,C g=.ok (l,TQ g)
theorem zVe{E:zq1}(zyG:zy6 E.zsF):zy7 (zq2 E):=λg hl=>by
 obtain⟨L,h1,h2⟩:=zyG g hl;by_cases h0:TQ g=0
 ·exact⟨_,ae.ext λk=>by rw[e211,h1,bn,h0];show aV (decide ((0:Int)<=0/\0<(L.len:Int))) _=_;rw[bG ⟨qd8 0,by have:=h2 h0;omega⟩];rfl⟩
 ·exact⟨_,ae.ext λk=>by rw[e211,h1,bn];show cond (TQ g != 0) _ _=_;rw[show(TQ g != 0)=true by simpa using h0];rfl⟩
theorem zy8{g:Sl ay}(G:dw g):(TQ g != 5)=iG g:=by
 unfold TQ Ad;rw[kU.2 G];cases iG g<;>cases fQ g<;>rfl
theorem zrN{g:Sl ay}(h:0<g.len):fQ g=fG (λi=>(g.get (i+1)).Z==(g.get 0).Z) (g.len-1):=by
 unfold fQ;rw[Ut,dI,dI];refine⟨λa i hi=>a (i+1) omY,λa i hi=>?_⟩;cases i with
 | zero=>simp
 | succ i=>exact a i omY
abbrev zgH(C:Sl ay->ae Bool):Prop:=∀g:Sl ay,0<g.len->g.len<=1000->C g=.ok (fQ g)
theorem zVf{E:zeE}(N:Big E.N):zgH (zpO E):=λg h0 h1=>ae.ext λk=>by
 rw[zTd,bn,zrN h0];have:=loopA (L:=λn i=>BH E n g (i+1) k) (p:=λi=>(g.get (i+1)).Z==(g.get 0).Z) (m:=g.len-1) (fin:=k true) (stop:=k false) omY (λn i hi=>by
  show BH E (n+1) g ((i:Int)+1) k=cond _ (BH E n g (aO ((i:Int)+1)+1) k) _
  rw[zjI,dZ omY,ed,bG omY,bG omY,show((i:Int)+1).toNat=i+1 by omega,show(i:Int)+1=((i+1:Nat):Int)by omega,bP omY,
   show aO ((i+1:Nat):Int)=((i+1:Nat):Int)from bf omY omY]
  rw[show((i+1:Nat):Int)+1=((i+1+1:Nat):Int)by omega];cases h:(g.get (i+1)).Z==(g.get 0).Z<;>simp[bne,h]) (λn=>by
  show BH E (n+1) g (((g.len-1:Nat):Int)+1) k=_;rw[zjI,eU omY];rfl) E.N (by have:=N;omega)
 rw[show(1:Int)=0+1 from rfl];refine this.trans ?_;cases fG (λi=>(g.get (i+1)).Z==(g.get 0).Z) (g.len-1)<;>rfl
theorem zaU(g:Sl ay):fP g 1=⟨(g.get 0).Low,(g.get 0).High⟩:=by
 show(⟨_,_⟩:bZ)=_;simp only[fP,gt_iff_lt,UQ,qjr]
abbrev zuw(C:Sl ay->ae (Int×Int×Bool)):Prop:=∀g:Sl ay,0<g.len->g.len<=1000->C g=.ok ((fP g g.len).Low,(fP g g.len).High,decide ((fP g g.len).Low<=(fP g g.len).High))
theorem zVg{E:zeM}(N:Big E.N):zuw (zqF E):=λg h0 h1=>ae.ext λk=>by
 rw[zTX,bG omY,bG omY,bn];have:=kV (X:=λn i=>TF E n g (fP g (i+1)).Low (fP g (i+1)).High ((i+1:Nat):Int) k) (m:=g.len-1) (fin:=k ((fP g g.len).Low,(fP g g.len).High,decide ((fP g g.len).Low<=(fP g g.len).High))) (λn i hi=>by
  rw[zjX,dZ omY,ed,bG omY,bG omY,bP omY,gU];rfl) (λn=>by
  rw[zjX,show g.len-1+1=g.len by omega,eU omY];rfl) E.N (by have:=N;omega)
 rw[show(0+1:Nat)=1 from rfl,zaU]at this;exact this
def plN(l:Line)(z:Int):Int:=l.Start.Num*l.dM.bT+l.dM.Num*z*l.Start.bT
def QA(l:Line):Int:=l.Start.bT*l.dM.bT
theorem zcN{s:straight}(S:yw s):(-2000000<=(fC s).dM.Num/\(fC s).dM.Num<=2000000)/\(-200000000000<=(fC s).Start.Num/\(fC s).Start.Num<=200000000000)/\(0<(fC s).dM.bT/\(fC s).dM.bT<=100000)/\0<(fC s).Start.bT/\(fC s).Start.bT<=100000:=by
 have h1:=S.1;have h2:=S.2.1;have h3:=S.2.2;have p:0<s.den:=by omega
 have a1:=zU (num:=s.bI) p;have a2:=GG (num:=s.bI) p;have a3:=jf (num:=s.bI) p;have b1:=zU (num:=s.start) p;have b2:=GG (num:=s.start) p;have b3:=jf (num:=s.start) p;show(_<=(red s.bI s.den).Num/\(red s.bI s.den).Num<=_)/\(_<=(red s.start s.den).Num/\(red s.start s.den).Num<=_)/\(_<(red s.bI s.den).bT/\(red s.bI s.den).bT<=_)/\_<(red s.start s.den).bT/\(red s.start s.den).bT<=_;omega
theorem TR{s:straight}(S:yw s)(z:Int):iL s z*QA (fC s)=plN (fC s) z*s.den:=by
  have p:0<s.den:=by have:=S.2.2;omega
  have a1:=oM (num:=s.bI) p;have a2:=mG (num:=s.bI) p;have b1:=oM (num:=s.start) p;have b2:=mG (num:=s.start) p;unfold iL QA plN;show(s.start+s.bI*z)*((red s.start s.den).bT*(red s.bI s.den).bT)=((red s.start s.den).Num*(red s.bI s.den).bT+(red s.bI s.den).Num*z*(red s.start s.den).bT)*s.den;generalize (Int.gcd s.bI s.den:Int)=G at a1 a2;generalize (Int.gcd s.start s.den:Int)=K at b1 b2;generalize (red s.bI s.den).Num=x at a1 ⊢;generalize (red s.bI s.den).bT=q at a2 ⊢;generalize (red s.start s.den).Num=u at b1 ⊢;generalize (red s.start s.den).bT=v at b2 ⊢;rw[qjx,qjx];have e1:s.start*(v*q)=u*q*s.den:=by
    calc s.start * (v * q) = K * u * (v * q) := by rw [b1]
      _=u*q*(K*v):=by ac_rfl
      _=u*q*s.den:=by rw[b2]
  have e2:s.bI*z*(v*q)=x*z*v*s.den:=by
    calc s.bI * z * (v * q) = G * x * z * (v * q) := by rw [a1]
      _=x*z*v*(G*q):=by ac_rfl
      _=x*z*v*s.den:=by rw[a2]
  rw[e1,e2]
theorem UT{s:straight}(S:yw s):0<QA (fC s):=by
 have:=zcN S;exact jqt this.2.2.2.1 this.2.2.1.1
theorem XD{s:straight}(S:yw s)(z n:Int):(n*QA (fC s)<=plN (fC s) z↔n*s.den<=iL s z)/\(plN (fC s) z<=n*QA (fC s)↔iL s z<=n*s.den):=by
 have p:0<s.den:=by have:=S.2.2;omega
 have d:=UT S;have c:=TR S z;generalize QA (fC s)=D at c d ⊢;generalize plN (fC s) z=M at c ⊢;generalize iL s z=X at c ⊢;have e:n*D*s.den=n*s.den*D:=by ac_rfl
 constructor
 ·constructor
  ·intro h;have:=NY h (yt p);refine dq9 (?_:n*s.den*D<=X*D) d;omega
  ·intro h;have:=NY h (yt d);refine dq9 (?_:n*D*s.den<=M*s.den) p;omega
 ·constructor
  ·intro h;have:=NY h (yt p);refine dq9 (?_:X*D<=n*s.den*D) d;omega
  ·intro h;have:=NY h (yt d);refine dq9 (?_:M*s.den<=n*D*s.den) p;omega
abbrev zrO(C:Line×Int->ae (Int×Int)):Prop:=∀s z,yw s->-200000<=z/\z<=200000->C (fC s,z)=.ok (plN (fC s) z,QA (fC s))
theorem zVh{E:zp9}:zrO (zqa E):=λs z S hz=>ae.ext λk=>by
 obtain⟨h1,h2,h3,h4⟩:=zcN S;have m1:=qy h2.1 h2.2 (yt h3.1) h3.2;have m2 : -400000000000<=(fC s).dM.Num*z/\(fC s).dM.Num*z<=400000000000:=by
  rcases qdX z 0 with h|h
  ·have:=qy (y := -z) (Y:=200000) h1.1 h1.2 omY omY;rw[qjl]at this;omega
  ·have:=qy (y:=z) (Y:=200000) h1.1 h1.2 h omY;omega
 have m3:=qy m2.1 m2.2 (yt h4.1) h4.2;have m4:=qy (x:=(fC s).Start.bT) (X:=100000) omY h4.2 (yt h3.1) h3.2;rw[e166,bn,bf (x:=(fC s).Start.Num*(fC s).dM.bT) omY omY,bf (x:=(fC s).dM.Num*z) omY omY,bf (x:=(fC s).dM.Num*z*(fC s).Start.bT) omY omY,bf omY omY,bf omY omY];rfl
abbrev zy9(C:Line×ay->ae Bool):Prop:=∀s g,yw s->gZ g->C (fC s,g)=.ok (mJ s g)
theorem zVi{E:zpk}(zax:zrO E.Uh):zy9 (zpl E):=λs g S G=>ae.ext λk=>by
 obtain⟨h1,h2,h3,h4⟩:=zcN S;have m4:=qy (x:=(fC s).Start.bT) (X:=100000) omY h4.2 (yt h3.1) h3.2;have d:=UT S;have m5:QA (fC s)<=10000000000:=m4.2;have l1:=qy (qF G).1 (qF G).2 (yt d) m5;have l2:=qy (rZ G).1 (rZ G).2 (yt d) m5;rw[e116,zax s g.Z S (by have:=G.1;omega),bn,bn];show cond (decide (aO (g.Low*QA (fC s))<=plN (fC s) g.Z)) (k (decide (plN (fC s) g.Z<=aO (g.High*QA (fC s))))) (k false)=_;rw[bf (x:=g.Low*QA (fC s)) omY omY,bf (x:=g.High*QA (fC s)) omY omY,kc k];congr 1;unfold mJ;have a:=(XD S g.Z g.Low).1;have b:=(XD S g.Z g.High).2;rw[Ut,pJ,<- a,<- b];by_cases h:g.Low*QA (fC s)<=plN (fC s) g.Z<;>simp[h]
abbrev Q55(C:Int×Int×Int×Int->ae Line):Prop:=∀z p y q,(0<=z/\z<=100000)->(0<=y/\y<=100000)->(-1000000<=p/\p<=1000000)->(-1000000<=q/\q<=1000000)->z≠y->C (z,p,y,q)=.ok (fC (EP z p y q))
theorem s55{E:E55}(h71:IV E.Uy):Q55 (F55 E):=λz p y q hz hy hp hq hn=>ae.ext λk=>by
 have b1:=qy hp.1 hp.2 hy.1 hy.2;have b2:=qy hq.1 hq.2 hz.1 hz.2;rw[e55,bn];unfold EP;by_cases h:z>y
 ·rw[dZ (show y<z from h),ed,eX h,zui,bf (x:=q*z) omY omY,bf (x:=p*y) omY omY,bf (x:=p-q) omY omY,bf (x:=z-y) omY omY,bf (x:=q*z-p*y) omY omY,
   h71 _ _ omY omY omY omY,bn,h71 _ _ omY omY omY omY,bn];rfl
 ·rw[eU (show ¬y<z from h),dS,fB h,zui,bf (x:=p*y) omY omY,bf (x:=q*z) omY omY,bf (x:=q-p) omY omY,bf (x:=y-z) omY omY,bf (x:=p*y-q*z) omY omY,
   h71 _ _ omY omY omY omY,bn,h71 _ _ omY omY omY omY,bn];rfl
abbrev zza(C:ay×Int->ae Int):Prop:=∀g e,C (g,e)=.ok (cond (e==0) g.Low g.High)
theorem zVj{E:zrr}:zza (zrt E):=λg e=>ae.ext λk=>by rw[e247,bn,kc k]
theorem zBW{α:Type}[bH α][sQ α](a b:α):GU [a,b] 0=a:=by
 show(bH.dec (IC (shp 8) (bH.enc a) (bH.enc a))).1=a;rw[kK (pO 8) (bH.sm _ _),sQ.de]
theorem zBX{α:Type}[bH α][sQ α](a b:α):GU [a,b] 1=b:=by
 show(bH.dec (IC (shp 8) (bH.enc a) (bH.enc b))).1=b;rw[kK (pO 8) (bH.sm _ _),sQ.de]
theorem XE{l:Sl aT}{p:Int}(h:rV l p=true){i:Nat}(hi:i<l.len):(0<=(l.get i).dQ.Low/\(l.get i).dQ.Low<=(l.get i).dQ.High/\(l.get i).dQ.High<=aO (p.tdiv 2)) /\
  (i=0\/((l.get (i-1)).Time<(l.get i).Time/\(l.get (i-1)).dQ.Low<=(l.get i).dQ.Low)):=by
 simp only[rV,gG,dI]at h;have:=h.1 i hi;simp only[stB,inB,gG,Zb,pJ]at this;exact⟨⟨this.1.1.2.1,this.1.1.2.2,this.1.2⟩,this.2.imp id λx=>⟨x.1.1,x.1.2⟩⟩
theorem TS{l:Sl aT}{p:Int}(h:rV l p=true):∀{j:Nat},j<l.len→∀{i:Nat},i<j→(l.get i).Time<(l.get j).Time∧(l.get i).dQ.Low≤(l.get j).dQ.Low
  | 0,_,_,hi=>absurd hi omY
  | j+1,hj,i,hi=>by
    have:=(XE h hj).2;rw[qjj]at this;rcases this with h0|⟨a,b⟩
    · omega
    · by_cases e : i = j
      · rw[e];exact⟨a,b⟩
      · obtain⟨c,d⟩:=TS h (j:=j) omY (i:=i) omY;omega
theorem XF(l:Sl aT)(t:Int):∀n,vI l t n=0∨∃i,i<n∧(l.get i).Time≤t∧vI l t n=(l.get i).dQ.Low
  | 0=>.inl rfl
  | n+1=>by
    simp only[vI];by_cases h:(l.get n).Time<=t
    · rw[dZ h];exact .inr ⟨n,omY,h,rfl⟩
    · rw [eU h];rcases XF l t n with e | ⟨i,a,b,c⟩
      · exact .inl e
      · exact .inr ⟨i,omY,b,c⟩
theorem XG(l:Sl aT)(t z:Int):∀d,d≤l.len→zo l t z d=z∨∃j,j<l.len∧t≤(l.get j).Time∧zo l t z d=(l.get j).dQ.High
  | 0,_=>.inl rfl
  | d+1,hd=>by
    simp only[zo];by_cases h:(l.get (l.len-1-d)).Time>=t
    · rw[dZ h];exact .inr ⟨l.len-1-d,omY,h,rfl⟩
    · rw [eU h];exact XG l t z d omY
theorem zrP{p:ak}(hp:YD p)(h:rV p.aT p.aS=true){t:Int}(ht:0<=t/\t<=1000000):0<=(uJ p t).1/\(uJ p t).1<=(uJ p t).2/\(uJ p t).2<=p.aS:=by
 obtain⟨_,_,_,_,hpi,_,_,_,_,hj,_⟩:=hp;have e1:aO (t-p.dP)=t-p.dP:=bf omY omY;have e2:aO (t+p.dP)=t+p.dP:=bf omY omY;have e4:0<=p.aS.tdiv 2/\p.aS.tdiv 2<=p.aS:=by
  rw[qdC omY];omega
 have e3:aO (p.aS.tdiv 2)=p.aS.tdiv 2:=bf omY omY;have a:=XF p.aT (t-p.dP) p.aT.len;have b:=XG p.aT (t+p.dP) (p.aS.tdiv 2) p.aT.len (kC _);unfold uJ;rw[e1,e2,e3];show 0<=vI _ _ _/\vI _ _ _<=zo _ _ _ _/\zo _ _ _ _<=_;rcases a with a|⟨i,a1,a2,a3⟩<;>rcases b with b|⟨j,b1,b2,b3⟩
 ·rw[a,b];omega
 ·rw[a,b3];have:=(XE h b1).1;rw[e3]at this;omega
 ·rw[a3,b];have:=(XE h a1).1;rw[e3]at this;omega
 ·rw [a3, b3];have x:=(XE h a1).1;have y:=(XE h b1).1;rw[e3] at x y;by_cases e:i=j
  ·subst e;omega
  ·have O5:i<j:=by
    rcases qd4 i j with h1|h1
    ·exact h1
    ·have:=(TS h a1 (i:=j) omY).1;omega
   have:=(TS h b1 O5).2;omega
theorem TT{p:ak}(hp:YD p){a b:Int}(h1:a<=b)(h2:p.First-p.aS-p.dN<=a)(h3:b<=p.First+(p.bM+1)*p.aS+p.dN):gZ (gate p a b):=by
 obtain⟨_,_,hz,hf,hpi,Fb,hsp,ho,_,_,_,hl,hr⟩:=hp;obtain⟨e1,e2,e3⟩:=zGm hf hpi Fb hsp ho;obtain⟨q1,q2⟩:=xW (a:=p.bM+1) (b:=p.aS) omY omY;refine⟨hz,?_⟩;show _<=aO (a+p.bC.Low)/\aO (a+p.bC.Low)<=aO (b+p.bC.High)/\aO (b+p.bC.High)<=_;rw[bf (x:=a+p.bC.Low) omY omY,bf (x:=b+p.bC.High) omY omY];omega
theorem zkL{p:ak}{a b c d:Int}(h1:gZ (gate p a b))(h2:gZ (gate p c d))(h:(gate p a b).Low<=(gate p c d).High):gZ ⟨p.Z,(gate p a b).Low,(gate p c d).High⟩ :=
 ⟨h1.1,h1.2.1,h,h2.2.2.2⟩
theorem zHg{b:Bool}{x y:Sl ay}(h1:∀i,i<x.len->gZ (x.get i))(h2:∀i,i<y.len->gZ (y.get i)){i:Nat}(hi:i<(cond b x y).len):gZ ((cond b x y).get i):=by
 cases b
 ·exact h2 i hi
 ·exact h1 i hi
theorem zzb{p:ak}(hp:YD p)(hb:plB p=true){h:bF}(hh:hpB p h=true){i:Nat}(hi:i<(gaP p h).len):gZ ((gaP p h).get i):=by
 simp only[hpB,inB,gG,pJ]at hh;obtain⟨⟨⟨⟨⟨hc,hm⟩,_⟩,_⟩,_⟩,hk⟩:=hh;obtain⟨hki,_,hz,hf,hpi,Fb,hsp,ho,_,hj,_,hl,hr⟩:=hp;have hp':YD p:=zGn hb;have q0:=xW (a:=h.Channel) (b:=p.aS) omY omY;have q1:=xW (a:=h.Channel+1) (b:=p.aS) omY omY;have q2:=xW (a:=h.Channel+h.jW-1) (b:=p.aS) omY omY;have q3:=xW (a:=p.bM+1) (b:=p.aS) omY omY;have m0:h.Channel*p.aS+p.aS<=(p.bM+1)*p.aS:=by
  have:=NY (show h.Channel+1<=p.bM+1 by omega) (show 0<=p.aS by omega);rw[qjx,qjU]at this;omega
 have m1:(h.Channel+1)*p.aS<=(p.bM+1)*p.aS:=NY omY omY;revert hi;unfold gaP;cases hk2:p.Kind != 2 with
 | true =>
  simp only[ed]
  rw[bf (x:=h.Channel+h.jW) omY omY,bf (x:=h.Channel+h.jW-1) omY omY,bf (x:=(h.Channel+h.jW-1)*p.aS) omY omY,bf (x:=p.First+(h.Channel+h.jW-1)*p.aS) omY omY,bf (x:=p.First+(h.Channel+h.jW-1)*p.aS-p.dN) omY omY,
   bf (x:=h.Channel+1) omY omY,bf (x:=(h.Channel+1)*p.aS) omY omY,bf (x:=p.First+(h.Channel+1)*p.aS) omY omY,bf (x:=p.First+(h.Channel+1)*p.aS+p.dN) omY omY]
  by_cases c:p.First+(h.Channel+h.jW-1)*p.aS-p.dN>p.First+(h.Channel+1)*p.aS+p.dN
  ·rw[dZ c];intro hi;exact absurd hi (UW _)
  ·rw [eU c];intro hi;exact TT hp' omY omY omY
 | false =>
  have hk3:p.Kind=2:=by simpa using hk2
  have hd:0<=h.aT/\h.aT<=1000000:=by
   simp only[knB,hk3,qdP,ed,inB,gG,pJ]at hk;exact hk.2
  have hs:rV p.aT p.aS=true:=by
   simp only[plB,gG,hk3,qdP,ed]at hb;exact hb.1.1.2
  obtain⟨r1,r2,r3⟩:=zrP hp' hs hd;simp only[dS];generalize uJ p h.aT=R at r1 r2 r3 ⊢;rw[bf (x:=h.Channel*p.aS) omY omY,bf (x:=p.First+h.Channel*p.aS) omY omY,bf (x:=p.First+h.Channel*p.aS-R.2) omY omY,bf (x:=p.First+h.Channel*p.aS-R.1) omY omY,bf (x:=p.First+h.Channel*p.aS+R.1) omY omY,bf (x:=p.First+h.Channel*p.aS+R.2) omY omY];have g1:gZ (gate p (p.First+h.Channel*p.aS-R.2) (p.First+h.Channel*p.aS-R.1)):=TT hp' omY omY omY;have g2:gZ (gate p (p.First+h.Channel*p.aS+R.1) (p.First+h.Channel*p.aS+R.2)):=TT hp' omY omY omY;have g3:(gate p (p.First+h.Channel*p.aS-R.2) (p.First+h.Channel*p.aS-R.1)).Low<=(gate p (p.First+h.Channel*p.aS+R.1) (p.First+h.Channel*p.aS+R.2)).High:=by
   show aO _<=aO _;rw[bf omY omY,bf omY omY];omega
  intro hi;refine zHg (λ_ _=>zkL g1 g2 g3) (λi hi=>?_) hi;have hi:i<2:=hi;rcases(show i=0\/i=1 by omega)with e|e<;>subst e
  ·show gZ (GU _ 0);rw[zBW];exact g1
  ·show gZ (GU _ 1);rw[zBX];exact g2
theorem zvy{s:au}(hs:fH s=true){h:bF}(hh:mD s h=true){i:Nat}(hi:i<(yC s h).len):gZ ((yC s h).get i):=by
 have hp:=MI hh;have h1:h.ak.toNat<s.aj.len:=by omega
 simp only[mD,gG,pJ]at hh;exact zzb (xE hs h1) (MH hs h1) hh.2 hi
abbrev jv:=List (Int×Int)
section
variable(ag:jv->Bool)(us:jv->Int->Bool)(sd:Nat->jv)
def gr:Nat→jv→Nat→List jv
  | 0,_,_=>[]
  | f+1,c,i=>(sd i).flatMap λp=>cond (us c p.1 || !ag (c++[p])) [] ((c++[p])::gr f (c++[p]) (p.1.toNat+1))
def O7:Nat→List jv→jv→Nat→List jv
  | 0,out,_,_=>out
  | f+1,out,c,i=>(sd i).foldl (λout p=>cond (us c p.1||(decide (2000<out.length) || !ag (c++[p]))) out (O7 f (out++[c++[p]]) (c++[p]) (p.1.toNat+1))) out
inductive Ch:jv→Nat→Prop
  | nil:Ch [] 0
  | snoc {c:jv} {i:Nat} {p:Int×Int}:Ch c i->p∈sd i->us c p.1=false->ag (c++[p])=true->Ch (c++[p]) (p.1.toNat+1)
end
section
variable{ag:jv->Bool}{us:jv->Int->Bool}{sd:Nat->jv}
theorem TU:∀{f c i x},x∈gr ag us sd f c i→∃p e,p∈sd i∧x=c++p::e
  | f+1,c,i,x,h=>by
    simp only[gr,lK]at h;obtain⟨p,hp,h⟩:=h;cases hc:us c p.1 || !ag (c++[p])with
    | true=>rw[hc]at h;cases h
    | false =>
      rw[hc]at h;rcases kR.1 h with h|h
      · exact⟨p,[],hp,h⟩
      · obtain⟨q,e,_,h⟩:=TU h;exact⟨p,q::e,hp,by rw[h];simp⟩
theorem zux:∀{f c i x},Ch ag us sd c i→x∈gr ag us sd f c i→∃j,Ch ag us sd x j
  | f+1,c,i,x,hc,h=>by
    simp only[gr,lK]at h;obtain⟨p,hp,h⟩:=h;cases hu:us c p.1 || !ag (c++[p])with
    | true=>rw[hu]at h;cases h
    | false =>
      rw[hu]at h;simp only[qjq,Bool.not_eq_false']at hu;have hn:=Ch.snoc hc hp hu.1 hu.2;rcases kR.1 h with h|h
      · exact⟨_,h▸hn⟩
      · exact zux hn h
theorem Ir(hs:∀i,(sd i).Nodup):∀f c i,(gr ag us sd f c i).Nodup
  | 0,_,_=>List.Pairwise.nil
  | f+1,c,i=>by
    rw[gr];unfold List.Nodup;rw[List.pairwise_flatMap];have pre:∀p,∀x∈cond (us c p.1 || !ag (c++[p])) [] ((c++[p])::gr ag us sd f (c++[p]) (p.1.toNat+1)),∃e,x=c++p::e:=λp x hx=>by
      cases hu:us c p.1 || !ag (c++[p])with
      | true=>rw[hu]at hx;cases hx
      | false =>
        rw[hu]at hx;rcases kR.1 hx with h|h
        · exact⟨[],h⟩
        · obtain⟨q,e,_,h⟩:=TU h;exact⟨q::e,by rw[h];simp⟩
    refine⟨λp _=>?_,(hs i).imp_of_mem fun {p q} _ _ hpq x hx y hy e=>?_⟩
    · cases us c p.1 || !ag (c++[p])with
      | true=>exact List.Pairwise.nil
      | false =>
        refine List.Pairwise.cons (λy hy e=>?_) (Ir hs f _ _);obtain⟨q,r,_,h⟩:=TU hy;rw[<- e]at h;have:=jX List.length h;simp at this
    · obtain⟨a,ha⟩:=pre p x hx;obtain⟨b,hb⟩:=pre q y hy;rw[ha,hb]at e;have:=List.append_cancel_left e;rw[GZ]at this;exact hpq this.1
theorem zkM:∀{f out c i},(out.length≤(O7 ag us sd f out c i).length)∧((O7 ag us sd f out c i).length≤2000→O7 ag us sd f out c i=out++gr ag us sd f c i)
  | 0,out,c,i=>⟨kC _,λ_=>by simp[O7,gr]⟩
  | f+1,out,c,i=>by
    simp only[O7,gr];generalize sd i=l
    induction l generalizing out with
    | nil=>exact⟨kC _,λ_=>by simp⟩
    | cons p l ih =>
      rw[YC,oK];cases hu:us c p.1 || !ag (c++[p])with
      | true =>
        have:(us c p.1||(decide (2000<out.length) || !ag (c++[p])))=true:=by
          revert hu;cases us c p.1<;>cases ag (c++[p])<;>simp
        rw[this];exact ih out
      | false =>
        have:(us c p.1||(decide (2000<out.length) || !ag (c++[p])))=decide (2000<out.length):=by
          revert hu;cases us c p.1<;>cases ag (c++[p])<;>simp
        rw[this,dS];by_cases h:2000<out.length
        · rw [dZ h];obtain⟨a,_⟩:=ih out;exact⟨a,λh2=>by have:_<=2000:=h2;rw[ed]at this;omega⟩
        · rw [eU h,dS];obtain⟨a,b⟩:=zkM (f:=f) (out:=out++[c++[p]]) (c:=c++[p]) (i:=p.1.toNat+1);obtain⟨a2,b2⟩:=ih (O7 ag us sd f (out++[c++[p]]) (c++[p]) (p.1.toNat+1));rw[Jz]at a;refine⟨omY,λh2=>?_⟩;rw[b2 h2,b omY];simp
theorem zcO:∀{f out c i x},Ch ag us sd c i→x∈O7 ag us sd f out c i→x∈out∨∃j,Ch ag us sd x j
  | 0,out,c,i,x,_,h=>.inl h
  | f+1,out,c,i,x,hc,h=>by
    simp only[O7]at h;have key:∀(l:jv)(out:List jv),(∀p∈l,p∈sd i)->x∈l.foldl (λout p=>cond (us c p.1||(decide (2000<out.length) || !ag (c++[p]))) out (O7 ag us sd f (out++[c++[p]]) (c++[p]) (p.1.toNat+1))) out->x∈out\/∃j,Ch ag us sd x j:=by
      intro l
      induction l with
      | nil=>intro out _ h;exact .inl h
      | cons p l ih =>
        intro out hp h;rw[YC]at h;have ih:=ih _ (λq hq=>hp q (jU _ hq)) h;rcases ih with ih|ih
        · cases hu:us c p.1||(decide (2000<out.length) || !ag (c++[p]))with
          | true=>rw[hu]at ih;exact .inl ih
          | false =>
            rw[hu]at ih;simp only[qjq,Bool.not_eq_false']at hu;have hn:=Ch.snoc hc (hp p lq) hu.1 hu.2.2;rcases zcO hn ih with h|h
            · rcases dU.1 h with h | h
              · exact .inl h
              · rw[mg.1 h];exact .inr ⟨_,hn⟩
            · exact .inr h
        · exact .inr ih
    exact key _ _ (λ_ h=>h) h
end
def fA(t:af):jv:=(List.range t.Hits.len).map λi=>(t.Hits.get i,t.bz.get i)
theorem kz(t:af):(fA t).length=t.Hits.len:=by simp[fA]
theorem QO{t:af}{i:Nat}(h:i<t.Hits.len):(fA t)[i]? = some (t.Hits.get i,t.bz.get i):=by
 simp[fA,qjv h]
def Ol(x:Int)(t:af):Prop:=t.View=x/\t.bz.len=t.Hits.len
def Cb(l:Sl bF)(c:jv)(i:Int):Bool:=c.any λq=>(l.get q.1.toNat).ak==(l.get i.toNat).ak
def O8(s:au)(l:Sl bF)(x:Int)(i:Nat):jv:=sdL s l x (l.len-i) i
theorem Et{i:Int}{y:Int×Int}:∀{d k},y∈sdK i d k↔y.1=i∧(k:Int)≤y.2∧y.2<((k+d:Nat):Int)
  | 0,k=>by
    refine⟨λh=>(by cases h),λh=>?_⟩;omega
  | d+1,k=>by
    rw[sdK,kR,Et];constructor
    · rintro (h | h)
      · rw[h];show i=i/\(k:Int)<=(k:Int)/\(k:Int)<_;omega
      · omega
    · intro h;by_cases e:y.2=(k:Int)
      · exact .inl (Prod.ext h.1 e)
      · exact .inr omY
theorem TV{s:au}{l:Sl bF}{x:Int}{y:Int×Int}:∀{d i},y∈sdL s l x d i↔((i:Int)≤y.1∧y.1<((i+d:Nat):Int))∧QN s l y.1.toNat=x∧0≤y.2∧y.2<(yD s l y.1.toNat:Int)
  | 0,i=>⟨λh=>(by cases h),λh=>by omega⟩
  | d+1,i=>by
    rw[sdL,dU,TV];constructor
    · rintro (h | h)
      · cases hv:QN s l i==x with
        | false=>rw[hv]at h;cases h
        | true =>
          rw[hv,ed,Et]at h;rw[h.1,gU];exact⟨omY,eq_of_beq hv,omY,omY⟩
      · exact⟨omY,h.2⟩
    · rintro ⟨h1, h2, h3, h4⟩;by_cases e:y.1=(i:Int)
      · refine .inl ?_;rw[e,gU]at h2 h4;rw[qdO.2 h2,ed,Et];exact⟨e,omY,omY⟩
      · exact .inr ⟨omY,h2,h3,h4⟩
theorem Y5{s:au}{l:Sl bF}{x:Int}{y:Int×Int}{i:Nat}(hi:i<=l.len):y∈O8 s l x i↔((i:Int)<=y.1/\y.1<(l.len:Int))/\QN s l y.1.toNat=x/\0<=y.2/\y.2<(yD s l y.1.toNat:Int):=by
 unfold O8;rw[TV,show i+(l.len-i)=l.len by omega]
theorem XH{s:au}{l:Sl bF}{x:Int}{y:Int×Int}{i:Nat}(h:y∈O8 s l x i):i<l.len/\((i:Int)<=y.1/\y.1<(l.len:Int))/\QN s l y.1.toNat=x/\0<=y.2/\y.2<(yD s l y.1.toNat:Int):=by
 by_cases hi:i<=l.len
 ·have:=(Y5 hi).1 h;exact⟨omY,this⟩
 ·unfold O8 at h;rw[show l.len-i=0 by omega]at h;cases h
theorem QB(i:Int):∀d k,(sdK i d k).Nodup
  | 0,_=>List.Pairwise.nil
  | d+1,k=>by
    rw[sdK];refine List.Pairwise.cons (λy hy e=>?_) (QB i d (k+1));have:=Et.1 hy;rw[<- e]at this;have:=this.2.1;simp only at this;omega
theorem QC(s:au)(l:Sl bF)(x:Int):∀d i,(sdL s l x d i).Nodup
  | 0,_=>List.Pairwise.nil
  | d+1,i=>by
    rw[sdL];unfold List.Nodup;rw[qdx];refine⟨?_,QC s l x d (i+1),λa ha b hb e=>?_⟩
    · cases QN s l i == x
      · exact List.Pairwise.nil
      · exact QB _ _ _
    · have h1:a.1=(i:Int):=by
        cases hv:QN s l i==x with
        | false=>rw[hv]at ha;cases ha
        | true=>rw[hv,ed]at ha;exact(Et.1 ha).1
      have:=(TV.1 hb).1;rw[<- e]at this;omega
structure Val (s : au) (l : Sl bF) (x : Int) (c : jv) (j : Nat) : Prop where
  le:c.length<=j/\j<=l.len
  mem:∀p∈c,(0<=p.1/\p.1<(j:Int))/\QN s l p.1.toNat=x/\0<=p.2/\p.2<(yD s l p.1.toNat:Int)
  pw:c.Pairwise λp q=>p.1<q.1/\(l.get p.1.toNat).ak≠(l.get q.1.toNat).ak
theorem Val.snoc{s:au}{l:Sl bF}{x:Int}{c:jv}{j:Nat}{p:Int×Int}(h:Val s l x c j)(hp:p∈O8 s l x j)(hu:Cb l c p.1=false):Val s l x (c++[p]) (p.1.toNat+1):=by
 obtain⟨h1,h2,h3,h4⟩:=XH hp;have hle:=h.le;refine⟨by rw[Jz];simp only[Cc,UJ];omega,λq hq=>?_,?_⟩
 ·rcases dU.1 hq with hq | hq
  ·have:=h.mem q hq;exact⟨omY,this.2⟩
  ·rw[mg.1 hq];exact⟨omY,h3,h4⟩
 ·rw [qdx];refine⟨h.pw,jq6 _ _,λa ha b hb=>?_⟩;rw[mg.1 hb];have:=(h.mem a ha).1;refine⟨omY,λe=>?_⟩;unfold Cb at hu;rw[qdK]at hu;exact hu a ha (by simpa using e)
theorem Uu{ag:jv->Bool}{s:au}{l:Sl bF}{x:Int}{c:jv}{j:Nat}(h:Ch ag (Cb l) (O8 s l x) c j):Val s l x c j:=by
 induction h with
 | nil=>exact⟨⟨kC _,Cf _⟩,(λp h=>by cases h),List.Pairwise.nil⟩
 | snoc _ hp hu _ ih=>exact ih.snoc hp hu
theorem zV{t:af}{c:jv}(hc:fA t=c){i:Nat}(hi:i<t.Hits.len):c[i]? = some (t.Hits.get i,t.bz.get i):=by rw[<- hc];exact QO hi
theorem Fa{s:au}{l:Sl bF}{x:Int}{t:af}{c:jv}{j:Nat}(hx:vwB x=true)(ht:Ol x t)(hc:fA t=c)(h:Val s l x c j)(hn:c≠[]):O1 s l t=true:=by
 have hlen:c.length=t.Hits.len:=by rw[<- hc,kz]
 have hle:=h.le;have pw:=qdk.1 h.pw;have ge:∀i (hi:i<t.Hits.len) (kN:i<c.length),c[i]=(t.Hits.get i,t.bz.get i):=λi hi kN=>by
  have:=zV hc hi;rw[BR kN]at this;exact YR this
 simp only[O1,gG,pJ,dI];refine⟨⟨⟨by rw[ht.1];exact hx,?_⟩,ht.2⟩,λi hi=>?_⟩
 ·rcases qjY t.Hits.len with h0 | h0
  ·rw[h0]at hlen;exact absurd (qjC.1 hlen) hn
  ·exact h0
 ·have kN : i < c.length := by omega
  have m:=h.mem c[i] (YY _);rw[ge i hi kN]at m;simp only[chP,gG,Zb,pJ,inB,usB,dI,NR,dq2];refine⟨⟨⟨⟨by simp only at m;omega,?_⟩,by rw[ht.1];exact m.2.1⟩,?_⟩,λk hk=>?_⟩
  ·rcases qjY i with h0 | h0
   ·exact .inl h0
   ·refine .inr ?_;have:=(pw (i-1) i omY kN omY).1;rw[ge i hi kN,ge (i-1) omY omY]at this;exact this
  ·have:=m.2.2;show 0<=t.bz.get i/\t.bz.get i<=((yD s l (t.Hits.get i).toNat:Nat):Int)-1;simp only at this;omega
  ·have:=(pw k i omY kN hk).2;rw[ge i hi kN,ge k omY omY]at this;exact this
def qx(s:au)(l:Sl bF)(c:jv):Sl ay:=gw z0 (λi=>(yC s (l.get ((c[i]?).getD (0,0)).1.toNat)).get ((c[i]?).getD (0,0)).2.toNat) c.length
theorem IY{s:au}{l:Sl bF}{t:af}{c:jv}(hc:fA t=c):gtS s l t=qx s l c:=by
 unfold gtS qx;rw[<- hc,kz];exact MJ λi hi=>by rw[QO hi];rfl
theorem EX{s:au}{l:Sl bF}{x:Int}{c:jv}{j:Nat}(he:Evt s l)(hl:l.len<=24)(h:Val s l x c j)(hn:c≠[]):dw (qx s l c):=by
 have e:(qx s l c).len=c.length:=EO _ _ _;have hle:=h.le;refine⟨λi hi=>?_,by
  rw[e];rcases qjY c.length with h0|h0
  ·exact absurd (qjC.1 h0) hn
  ·exact h0,omY⟩
 rw[e]at hi;show gZ ((gw z0 _ c.length).get i);rw[Ph hi,BR hi];have m:=h.mem c[i] (YY _);have m2:=m.2.2;show gZ ((yC s (l.get (c[i]).1.toNat)).get (c[i]).2.toNat);refine zvy he.se (dI.1 he.hi _ omY) ?_;show _<yD s l (c[i]).1.toNat;omega
def XI(g:Sl ay):Prop:=∀k,k<g.len->(g.get k).Z=(g.get 0).Z
theorem Om{g:Sl ay}:fQ g=true↔XI g:=by
 unfold fQ XI;rw[dI];exact⟨λh k hk=>eq_of_beq (h k hk),λh k hk=>qdO.2 (h k hk)⟩
theorem Ns{g:Sl ay}{i b:Nat}{x:straight}(hx:x∈BK (g.get i) (g.get b)):∀m k,k≤b→b<k+m→x∈Eo g i m k
  | 0,k,h1,h2=>by omega
  | m+1,k,h1,h2=>by
    show x∈BK (g.get i) (g.get k)++Eo g i m (k+1);by_cases h:k=b
    · rw[h];exact qd9 _ hx
    · exact qjJ _ (Ns hx m (k+1) omY omY)
theorem Nu{g:Sl ay}{a:Nat}{x:straight}(hx:x∈Eo g a (g.len-(a+1)) (a+1)):∀m i,i≤a→a<i+m→x∈OG g m i
  | 0,i,h1,h2=>by omega
  | m+1,i,h1,h2=>by
    show x∈Eo g i (g.len-(i+1)) (i+1)++OG g m (i+1);by_cases h:i=a
    · rw[h];exact qd9 _ hx
    · exact qjJ _ (Nu hx m (i+1) omY omY)
theorem zkN{z p y q:Int}(h:z≠y):EP z p y q=EP y q z p:=by
 unfold EP;by_cases h1:z>y
 ·rw[eX h1,fB (show ¬y>z by omega)]
 ·rw[fB h1,eX (show y>z by omega)]
theorem zHh{g:Sl ay}{a b:Nat}(ha:a<g.len)(hb:b<g.len)(hz:(g.get a).Z≠(g.get b).Z){p q:Int}(hp:p=(g.get a).Low\/p=(g.get a).High)(hq:q=(g.get b).Low\/q=(g.get b).High):EP (g.get a).Z p (g.get b).Z q∈cst g:=by
 have key:∀{a b:Nat}{p q:Int},a<b->b<g.len->(g.get a).Z≠(g.get b).Z->(p=(g.get a).Low\/p=(g.get a).High)->(q=(g.get b).Low\/q=(g.get b).High)->EP (g.get a).Z p (g.get b).Z q∈cst g:=fun {a b p q} h1 h2 hz hp hq=>by
  refine Nu (Ns ?_ _ _ h1 omY) _ 0 (Cf _) omY;unfold BK;rw[fB hz];rcases hp with rfl|rfl<;>rcases hq with rfl|rfl<;>simp
 rcases qd4 a b with h|h
 ·exact key h hb hz hp hq
 ·have:a≠b:=fun e=>hz (by rw [e]);rw[zkN hz];exact key omY ha (jqa hz) hq hp
theorem Eu{Q:Nat→Prop}{le:Nat→Nat→Prop}(tot:∀i j,Q i→Q j→le i j∨le j i)(tr:∀i j k,Q i→Q j→Q k→le i j→le j k→le i k):∀n,(∃k,k<n∧Q k)→∃k,k<n∧Q k∧∀j,j<n→Q j→le j k
  | 0,⟨k,h,_⟩=>absurd h (UW k)
  | n+1,hex=>by
    by_cases h:∃k,k<n/\Q k
    · obtain ⟨k, hk, qk, hm⟩ := Eu tot tr n h;by_cases qn:Q n
      · rcases tot n k qn qk with h1 | h1
        · exact⟨k,omY,qk,λj hj qj=>by
            by_cases e:j=n
            · rw[e];exact h1
            · exact hm j omY qj⟩
        · exact⟨n,omY,qn,λj hj qj=>by
            by_cases e:j=n
            · rw[e];rcases tot n n qn qn with h2|h2<;>exact h2
            · exact tr j k n qj qk qn (hm j omY qj) h1⟩
      · exact⟨k,omY,qk,λj hj qj=>hm j (by
          have:j≠n:=λe=>qn (e▸qj);omega) qj⟩
    · obtain⟨k,hk,qk⟩:=hex;have e:k=n:=by
        rcases qd4 k n with h1|h1
        · exact absurd ⟨k,h1,qk⟩ h
        · omega
      subst e;exact⟨k,omY,qk,λj hj qj=>by
        by_cases e:j=k
        · rw[e];rcases tot k k qk qk with h2|h2<;>exact h2
        · exact absurd ⟨j,omY,qj⟩ h⟩
def XJ(a b:straight):Prop:=a.bI*b.den<=b.bI*a.den
theorem TW{a b c:straight}(ha:0<a.den)(hb:0<b.den)(hc:0<c.den)(h1:XJ a b)(h2:XJ b c):XJ a c:=by
 unfold XJ at *;have y1:=NY h1 (yt hc);have y2:=NY h2 (yt ha);refine dq9 (a:=b.den) ?_ hb
 grind
def lcS(g:Sl ay)(i:Nat)(p:Int)(k:Nat):straight:=EP (g.get i).Z p (g.get k).Z (if(g.get k).Z>(g.get i).Z then(g.get k).Low else(g.get k).High)
def ucS(g:Sl ay)(i:Nat)(p:Int)(k:Nat):straight:=EP (g.get i).Z p (g.get k).Z (if(g.get k).Z>(g.get i).Z then(g.get k).High else(g.get k).Low)
theorem Nv{g:Sl ay}{i k:Nat}{p:Int}{c:straight}(he:iL c (g.get i).Z=p*c.den)(hz:(g.get k).Z≠(g.get i).Z):mJ c (g.get k)=true↔XJ (lcS g i p k) c/\XJ c (ucS g i p k):=by
 unfold mJ XJ lcS ucS EP;rw[pJ];unfold iL at *;by_cases h:(g.get k).Z>(g.get i).Z
 ·simp only [eX h, fB (show ¬ (g.get i).Z > (g.get k).Z by omega)];constructor
  ·intro⟨h1,h2⟩;constructor<;>grind
  ·intro⟨h1,h2⟩;constructor<;>grind
 ·simp only [fB h, eX (show (g.get i).Z > (g.get k).Z by omega)];constructor
  ·intro⟨h1,h2⟩;constructor<;>grind
  ·intro⟨h1,h2⟩;constructor<;>grind
theorem zcP{z p y q:Int}(h:z≠y):0<(EP z p y q).den:=by
 unfold EP;by_cases h1:z>y
 ·rw[eX h1];show 0<z-y;omega
 ·rw[fB h1];show 0<y-z;omega
theorem QD{g:Sl ay}{i k:Nat}{p:Int}{s c:straight}(ps:0<s.den)(pc:0<c.den)(he:iL s (g.get i).Z=p*s.den)(hc:iL c (g.get i).Z=p*c.den)(hz:(g.get k).Z=(g.get i).Z)(h:mJ s (g.get k)=true):mJ c (g.get k)=true:=by
 unfold mJ at *;rw[pJ]at *;rw[hz,he]at h;rw[hz,hc];exact⟨NY (dq9 h.1 ps) (yt pc),NY (dq9 h.2 ps) (yt pc)⟩
theorem rot{g:Sl ay}{s:straight}(hd:0<s.den)(ha:zx g s){i:Nat}(hi:i<g.len){p:Int}(hp:p=(g.get i).Low∨p=(g.get i).High)(he:iL s (g.get i).Z=p*s.den)(hn:∃k,k<g.len∧(g.get k).Z≠(g.get i).Z) :
  (∃c,wB g c/\0<c.den/\iL c (g.get i).Z=p*c.den/\XJ c s)/\∃c,wB g c/\0<c.den/\iL c (g.get i).Z=p*c.den/\XJ s c:=by
 have ld:∀k,(g.get k).Z≠(g.get i).Z->0<(lcS g i p k).den:=λk h=>zcP (jqa h);have ud:∀k,(g.get k).Z≠(g.get i).Z->0<(ucS g i p k).den:=λk h=>zcP (jqa h);have le1:∀k,(g.get k).Z≠(g.get i).Z->iL (lcS g i p k) (g.get i).Z=p*(lcS g i p k).den:=λk h=>(zaR (jqa h)).1;have ue1:∀k,(g.get k).Z≠(g.get i).Z->iL (ucS g i p k) (g.get i).Z=p*(ucS g i p k).den:=λk h=>(zaR (jqa h)).1;have sp:∀k,k<g.len->(g.get k).Z≠(g.get i).Z->XJ (lcS g i p k) s/\XJ s (ucS g i p k):=λk hk hz=>(Nv he hz).1 (ha k hk);constructor
 ·obtain ⟨k, hk, qk, hm⟩ := Eu (Q := fun k => (g.get k).Z ≠ (g.get i).Z) (le := fun a b => XJ (lcS g i p a) (lcS g i p b)) (fun a b _ _ => qjZ _ _) (fun a b c ha hb hc h1 h2 => TW (ld a ha) (ld b hb) (ld c hc) h1 h2) g.len hn;refine⟨lcS g i p k,⟨zHh hi hk (jqa qk) hp (by split <;> simp),λ j hj=>?_⟩,ld k qk,le1 k qk,(sp k hk qk).1⟩;by_cases hz:(g.get j).Z=(g.get i).Z
  ·exact QD hd (ld k qk) he (le1 k qk) hz (ha j hj)
  ·exact(Nv (le1 k qk) hz).2 ⟨hm j hj hz,TW (ld k qk) hd (ud j hz) (sp k hk qk).1 (sp j hj hz).2⟩
 ·obtain ⟨k, hk, qk, hm⟩ := Eu (Q := fun k => (g.get k).Z ≠ (g.get i).Z) (le := fun a b => XJ (ucS g i p b) (ucS g i p a)) (fun a b _ _ => qjZ _ _) (fun a b c ha hb hc h1 h2 => TW (ud c hc) (ud b hb) (ud a ha) h2 h1) g.len hn;refine⟨ucS g i p k,⟨zHh hi hk (jqa qk) hp (by split <;> simp),λ j hj=>?_⟩,ud k qk,ue1 k qk,(sp k hk qk).2⟩;by_cases hz:(g.get j).Z=(g.get i).Z
  ·exact QD hd (ud k qk) he (ue1 k qk) hz (ha j hj)
  ·exact(Nv (ue1 k qk) hz).2 ⟨TW (ld j hz) hd (ud k qk) (sp j hj hz).1 (sp k hk qk).2,hm j hj hz⟩
theorem zzc{g:Sl ay}(hl:1<=g.len){s:straight}(ha:zx g s):∃d,0<=d/\zx g ⟨s.bI,s.start-d,s.den⟩/\∃i,i<g.len/\iL ⟨s.bI,s.start-d,s.den⟩ (g.get i).Z=(g.get i).Low*s.den:=by
 obtain⟨k,hk,_,hm⟩:=Eu (Q:=λ_=>True) (le:=λa b=>iL s (g.get b).Z-(g.get b).Low*s.den<=iL s (g.get a).Z-(g.get a).Low*s.den) (λa b _ _=>qjZ _ _) (λa b c _ _ _ h1 h2=>qjK h2 h1) g.len ⟨0,hl,trivial⟩;have hk2:=xG ha hk;refine⟨iL s (g.get k).Z-(g.get k).Low*s.den,omY,λj hj=>dZ ?_,k,hk,by unfold iL;simp only;omega⟩;have h1:=hm j hj trivial;have h2:=xG ha hj;unfold iL at *;simp only;omega
theorem zzd{g:Sl ay}(hl:1<=g.len){s:straight}(ha:zx g s):∃d,0<=d/\zx g ⟨s.bI,s.start+d,s.den⟩/\∃i,i<g.len/\iL ⟨s.bI,s.start+d,s.den⟩ (g.get i).Z=(g.get i).High*s.den:=by
 obtain⟨k,hk,_,hm⟩:=Eu (Q:=λ_=>True) (le:=λa b=>(g.get b).High*s.den-iL s (g.get b).Z<=(g.get a).High*s.den-iL s (g.get a).Z) (λa b _ _=>qjZ _ _) (λa b c _ _ _ h1 h2=>qjK h2 h1) g.len ⟨0,hl,trivial⟩;have hk2:=xG ha hk;refine⟨(g.get k).High*s.den-iL s (g.get k).Z,omY,λj hj=>dZ ?_,k,hk,by unfold iL;simp only;omega⟩;have h1:=hm j hj trivial;have h2:=xG ha hj;unfold iL at *;simp only;omega
theorem XK{g:Sl ay}(nf:¬XI g)(i:Nat)(hi:i<g.len):∃k,k<g.len/\(g.get k).Z≠(g.get i).Z:=by
 by_cases h:∃k,k<g.len/\(g.get k).Z≠(g.get i).Z
 ·exact h
 ·have all:∀k,k<g.len→(g.get k).Z=(g.get i).Z:=fun k hk=>qdG fun e=>h ⟨k,hk,e⟩;exact absurd (λk hk=>(all k hk).trans (all 0 omY).symm) nf
theorem zcQ{a b:straight}{z p h:Int}(ha:iL a z=p*a.den)(hb:iL b z=p*b.den)(hs:XJ a b)(hh:z<=h):iL a h*b.den<=iL b h*a.den:=by
 have y:=NY hs (show 0<=h-z by omega);unfold iL at *;have e1:a.start=p*a.den-a.bI*z:=by omega
 have e2:b.start=p*b.den-b.bI*z:=by omega
 rw[e1,e2];clear ha hb hs e1 e2
 grind
theorem zcR{a b:straight}{z p h:Int}(ha:iL a z=p*a.den)(hb:iL b z=p*b.den)(hs:XJ a b)(hh:h<=z):iL b h*a.den<=iL a h*b.den:=by
 have y:=NY hs (show 0<=z-h by omega);unfold iL at *;have e1:a.start=p*a.den-a.bI*z:=by omega
 have e2:b.start=p*b.den-b.bI*z:=by omega
 rw[e1,e2];clear ha hb hs e1 e2
 grind
theorem lp{g:Sl ay}(hl:1≤g.len)(nf:¬XI g){s:straight}(hd:0<s.den)(ha:zx g s) :
  (∀h,(∃c,wB g c/\iL c h*s.den<=iL s h*c.den)/\∃c,wB g c/\iL s h*c.den<=iL c h*s.den)/\(∃c,wB g c/\XJ c s)/\∃c,wB g c/\XJ s c:=by
 obtain⟨d,d0,da,i,hi,di⟩:=zzc hl ha;obtain⟨e,e0,ea,j,hj,ej⟩:=zzd hl ha;obtain⟨⟨c1,c1c,c1d,c1p,c1s⟩,⟨c2,c2c,c2d,c2p,c2s⟩⟩:=rot (s:=⟨s.bI,s.start-d,s.den⟩) hd da hi (.inl rfl) di (XK nf i hi);obtain⟨⟨f1,f1c,f1d,f1p,f1s⟩,⟨f2,f2c,f2d,f2p,f2s⟩⟩:=rot (s:=⟨s.bI,s.start+e,s.den⟩) hd ea hj (.inr rfl) ej (XK nf j hj);have lo:∀{c:straight}{h:Int},0<c.den->iL c h*s.den<=iL ⟨s.bI,s.start-d,s.den⟩ h*c.den->iL c h*s.den<=iL s h*c.den:=fun {c h} pc k=>by
  have:=qjf d0 (yt pc);unfold iL at *;simp only at k
  grind
 have kN:∀{c:straight}{h:Int},0<c.den->iL ⟨s.bI,s.start+e,s.den⟩ h*c.den<=iL c h*s.den->iL s h*c.den<=iL c h*s.den:=fun {c h} pc k=>by
  have:=qjf e0 (yt pc);unfold iL at *;simp only at k
  grind
 refine⟨λh=>⟨?_,?_⟩,⟨c1,c1c,c1s⟩,⟨c2,c2c,c2s⟩⟩
 ·rcases qjZ (g.get i).Z h with k | k
  ·exact⟨c1,c1c,lo c1d (zcQ (b:=⟨s.bI,s.start-d,s.den⟩) c1p di c1s k)⟩
  ·exact⟨c2,c2c,lo c2d (zcR (a:=⟨s.bI,s.start-d,s.den⟩) di c2p c2s k)⟩
 ·rcases qjZ (g.get j).Z h with k | k
  ·exact⟨f2,f2c,kN f2d (zcQ (a:=⟨s.bI,s.start+e,s.den⟩) ej f2p f2s k)⟩
  ·exact⟨f1,f1c,kN f1d (zcR (b:=⟨s.bI,s.start+e,s.den⟩) f1p ej f1s k)⟩
def sW(lt:aP→aP→Bool)(f:Nat→aP):Nat→aP
  | 0=>f 0
  | n+1=>cond (lt (f n) (sW lt f n)) (f n) (sW lt f n)
theorem zaV{lt:aP→aP→Bool}{Q:aP→Prop}{f:Nat→aP}(irr:∀a,Q a→lt a a=false)(tr:∀a b c,Q a→Q b→Q c→lt a b=true→lt b c=true→lt a c=true) :
  ∀n,(∀i,i<n+1->Q (f i))->(∃i,i<n+1/\sW lt f (n+1)=f i)/\∀j,j<n+1->lt (f j) (sW lt f (n+1))=false
 | 0,hq=>by
  have e:sW lt f 1=f 0:=by simp only[sW];cases lt (f 0) (f 0)<;>rfl
  rw[e];exact⟨⟨0,omY,rfl⟩,λj hj=>by rw[show j=0 by omega];exact irr _ (hq 0 omY)⟩
 | n+1,hq=>by
  obtain⟨⟨i,hi,e⟩,h⟩:=zaV irr tr n λi hi=>hq i omY;have qe:Q (sW lt f (n+1)):=by rw[e];exact hq i omY
  rw[sW];cases hl:lt (f (n+1)) (sW lt f (n+1))with
  | true =>
   rw[ed];refine⟨⟨n+1,omY,rfl⟩,λj hj=>?_⟩;by_cases ej:j=n+1
   ·rw[ej];exact irr _ (hq _ omY)
   ·cases hx:lt (f j) (f (n+1))with
    | false=>rfl
    | true=>rw[<- h j omY,tr _ _ _ (hq j omY) (hq (n+1) omY) qe hx hl]
  | false =>
   rw[dS];refine⟨⟨i,omY,e⟩,λj hj=>?_⟩;by_cases ej:j=n+1
   ·rw[ej];exact hl
   ·exact h j omY
def ltB(a b:aP):Bool:=decide (cmF a b<0)
def gtB(a b:aP):Bool:=decide (cmF a b>0)
theorem Ew{a b:aP}:gtB a b=true↔yz b a:=by
 unfold gtB;rw[pJ,<- zkH];omega
theorem Ey{a b:aP}:ltB a b=true↔yz a b:=by
 unfold ltB;rw[pJ,zkG]
def Oc(z:Int)(s:straight):aP:=⟨iL s z,s.den⟩
def zbf(s:straight):aP:=⟨s.bI,s.den⟩
def loG(g:Sl ay)(F:straight->aP):aP:=sW ltB (λi=>F ((iZ g).dm.get i)) (jB g).length
def hiG(g:Sl ay)(F:straight->aP):aP:=sW gtB (λi=>F ((iZ g).dm.get i)) (jB g).length
abbrev loF(g:Sl ay)(z:Int):aP:=loG g (Oc z)
abbrev hiF(g:Sl ay)(z:Int):aP:=hiG g (Oc z)
theorem zy{g:Sl ay}(G:dw g){i:Nat}(h:i<(jB g).length):wB g ((iZ g).dm.get i):=by
 rw[vX g h];exact Jr G (YY _)
theorem zkQ{g:Sl ay}(G:dw g)(F:straight->aP)(hF:∀s,wB g s->0<(F s).bT)(h:0<(jB g).length):(∃s,wB g s/\loG g F=F s)/\∀s∈jB g,¬yz (F s) (loG g F):=by
  obtain⟨n,hn⟩:∃n,(jB g).length=n+1:=⟨(jB g).length-1,omY⟩
  have := zaV (lt := ltB) (Q := fun a => 0 < a.bT) (f := fun i => F ((iZ g).dm.get i)) (fun a _ => by cases e : ltB a a with | false => rfl | true => exact absurd (Ey.1 e) TP)
    (λa b c ha hb hc h1 h2=>Ey.2 (zaS ha hb hc (Ey.1 h1) (Ey.1 h2))) n λi hi=>hF _ (zy G (i:=i) omY)
  unfold loG;rw[hn];obtain⟨⟨i,hi,e⟩,h2⟩:=this;refine⟨⟨_,zy G (i:=i) omY,e⟩,λs hs hl=>?_⟩;obtain⟨j,hj,rfl⟩:=qdA hs;have:=h2 j omY;rw[vX g hj]at this;rw[Ey.2 hl]at this;cases this
theorem zkR{g:Sl ay}(G:dw g)(F:straight->aP)(hF:∀s,wB g s->0<(F s).bT)(h:0<(jB g).length):(∃s,wB g s/\hiG g F=F s)/\∀s∈jB g,¬yz (hiG g F) (F s):=by
  obtain⟨n,hn⟩:∃n,(jB g).length=n+1:=⟨(jB g).length-1,omY⟩
  have := zaV (lt := gtB) (Q := fun a => 0 < a.bT) (f := fun i => F ((iZ g).dm.get i)) (fun a _ => by cases e : gtB a a with | false => rfl | true => exact absurd (Ew.1 e) TP)
    (λa b c ha hb hc h1 h2=>Ew.2 (zaS hc hb ha (Ew.1 h2) (Ew.1 h1))) n λi hi=>hF _ (zy G (i:=i) omY)
  unfold hiG;rw[hn];obtain⟨⟨i,hi,e⟩,h2⟩:=this;refine⟨⟨_,zy G (i:=i) omY,e⟩,λs hs hl=>?_⟩;obtain⟨j,hj,rfl⟩:=qdA hs;have:=h2 j omY;rw[vX g hj]at this;rw[Ew.2 hl]at this;cases this
theorem zcS{g:Sl ay}(G:dw g)(z:Int)(s:straight)(h:wB g s):0<(Oc z s).bT:=by have:=(mi G h).2.2;show 0<s.den;omega
theorem zmC{g:Sl ay}(G:dw g)(z:Int)(h:0<(jB g).length):(∃s,wB g s/\loF g z=Oc z s)/\∀s∈jB g,¬yz (Oc z s) (loF g z):=zkQ G _ (zcS G z) h
theorem zmD{g:Sl ay}(G:dw g)(z:Int)(h:0<(jB g).length):(∃s,wB g s/\hiF g z=Oc z s)/\∀s∈jB g,¬yz (hiF g z) (Oc z s):=zkR G _ (zcS G z) h
def cmpL:List Int→List Int→Int
  | [],[]=>0
  | [],_::_=>-1
  | _::_,[]=>1
  | a::x,b::y=>cond (qQ a b != 0) (qQ a b) (cmpL x y)
theorem BL{a b:Int}:qQ a b=0↔a=b:=by
 unfold qQ;by_cases h:a<b
 ·rw[dZ h];simp;omega
 ·rw [eU h];by_cases k:a > b
  ·rw[dZ k];simp;omega
  ·rw[eU k];simp;omega
theorem zcT{a b:Int}:qQ a b<0↔a<b:=by
 unfold qQ;by_cases h:a<b
 ·rw[dZ h];simp[h]
 ·rw [eU h];cases decide (a>b)<;>simp[h]
theorem xw:∀{x y:List Int},cmpL x y<0↔(∃b y',x=[]∧y=b::y')∨∃a x' b y',x=a::x'∧y=b::y'∧(a<b∨a=b∧cmpL x' y'<0)
  | [],[]=>by simp[cmpL]
  | [],b::y=>by simp[cmpL]
  | a::x,[]=>by simp[cmpL]
  | a::x,b::y=>by
    simp only[cmpL];have e:((∃b' y',a::x=[]/\b::y=b'::y')\/∃a' x' b' y',a::x=a'::x'/\b::y=b'::y'/\(a'<b'\/a'=b'/\cmpL x' y'<0))↔(a<b\/a=b/\cmpL x y<0):=by
      constructor
      · rintro (⟨b', y', h, _⟩ | ⟨a', x', b', y', h1, h2, h⟩)
        · cases h
        · cases h1;cases h2;exact h
      · intro h;exact .inr ⟨a,x,b,y,rfl,rfl,h⟩
    rw[e];by_cases h:a=b
    · subst h;rw[show(qQ a a != 0)=false by rw[BL.2 rfl];rfl];simp
    · rw [show(qQ a b != 0)=true by simpa [BL]using h,ed,zcT];simp[h]
theorem BM:∀{x y:List Int},cmpL x y=0↔x=y
  | [],[]=>by simp[cmpL]
  | [],b::y=>by simp[cmpL]
  | a::x,[]=>by simp[cmpL]
  | a::x,b::y=>by
    simp only[cmpL];by_cases h:a=b
    · subst h;rw[show(qQ a a != 0)=false by rw[BL.2 rfl];rfl,dS,BM];simp
    · rw[show(qQ a b != 0)=true by simpa [BL]using h,ed,BL];simp[h]
theorem vY(x:List Int):¬cmpL x x<0:=by rw[BM.2 rfl];omega
theorem Ez:∀{x y z:List Int},cmpL x y<0→cmpL y z<0→cmpL x z<0
  | x,y,z,h1,h2=>by
    rw[xw]at h1 h2;rcases h1 with⟨b,y',rfl,rfl⟩|⟨a,x',b,y',rfl,rfl,h1⟩
    · rcases h2 with ⟨c, z', h, _⟩ | ⟨b', y'', c, z', h, rfl, h2⟩
      · cases h
      · exact xw.2 (.inl ⟨c,z',rfl,rfl⟩)
    · rcases h2 with ⟨c, z', h, _⟩ | ⟨b', y'', c, z', h, rfl, h2⟩
      · cases h
      · cases h;refine xw.2 (.inr ⟨a,x',c,z',rfl,rfl,?_⟩);rcases h1 with h1 | ⟨rfl,h1⟩ <;> rcases h2 with h2 | ⟨rfl,h2⟩
        · exact .inl omY
        · exact .inl h1
        · exact .inl h2
        · exact .inr ⟨rfl,Ez h1 h2⟩
theorem Nw:∀{x y:List Int},x≠y→cmpL x y<0∨cmpL y x<0
  | [],[],h=>absurd rfl h
  | [],b::y,_=>.inl (by simp[cmpL])
  | a::x,[],_=>.inr (by simp[cmpL])
  | a::x,b::y,h=>by
    rcases jqD a b with k|k|k
    · exact .inl (xw.2 (.inr ⟨a,x,b,y,rfl,rfl,.inl k⟩))
    · subst k;have:x ≠ y:=λ e=>h (by rw[e]);rcases Nw this with k | k
      · exact .inl (xw.2 (.inr ⟨a,x,a,y,rfl,rfl,.inr ⟨rfl,k⟩⟩))
      · exact .inr (xw.2 (.inr ⟨a,y,a,x,rfl,rfl,.inr ⟨rfl,k⟩⟩))
    · exact .inr (xw.2 (.inr ⟨b,y,a,x,rfl,rfl,.inl k⟩))
def pI(w:Sl Int):List Int:=(List.range w.len).map w.get
theorem Uw(w:Sl Int):(pI w).length=w.len:=by simp[pI]
def zrS(a b:af):Int:=cond (qQ a.View b.View != 0) (qQ a.View b.View) (cond (cmpL (pI a.Hits) (pI b.Hits) != 0) (cmpL (pI a.Hits) (pI b.Hits)) (cmpL (pI a.bz) (pI b.bz)))
def OI(a b:af):Prop:=a.View<b.View\/a.View=b.View/\(cmpL (pI a.Hits) (pI b.Hits)<0\/pI a.Hits=pI b.Hits/\cmpL (pI a.bz) (pI b.bz)<0)
theorem zrT{a b:af}:zrS a b<0↔OI a b:=by
 unfold zrS OI;by_cases h:a.View=b.View
 ·rw [show (qQ a.View b.View != 0) = false by rw [BL.2 h]; rfl, dS];by_cases k:pI a.Hits=pI b.Hits
  ·rw [show(cmpL (pI a.Hits) (pI b.Hits) != 0)=false by rw [BM.2 k];rfl,dS,BM.2 k];simp[h,k]
  ·rw [show(cmpL (pI a.Hits) (pI b.Hits) != 0)=true by simpa [BM]using k,ed];simp[h,k]
 ·rw [show(qQ a.View b.View != 0)=true by simpa [BL]using h,ed,zcT];simp[h]
theorem zcU(a:af):¬OI a a:=λh=>by
 rcases h with h|⟨_,h|⟨_,h⟩⟩
 ·omega
 ·exact vY _ h
 ·exact vY _ h
theorem zeX{a b c:af}(h:OI a b)(k:OI b c):OI a c:=by
 rcases h with h|⟨h,h2⟩<;>rcases k with k|⟨k,k2⟩
 ·exact .inl omY
 ·exact .inl omY
 ·exact .inl omY
 ·refine .inr ⟨omY, ?_⟩;rcases h2 with h2 | ⟨h2,h3⟩ <;> rcases k2 with k2 | ⟨k2,k3⟩
  ·exact .inl (Ez h2 k2)
  ·exact .inl (k2▸h2)
  ·exact .inl (h2▸k2)
  ·exact .inr ⟨h2.trans k2,Ez h3 k3⟩
theorem zkS{a b:af}(h:OI a b):¬OI b a:=λk=>zcU a (zeX h k)
theorem zgA{a b:af}(h:¬(a.View=b.View/\pI a.Hits=pI b.Hits/\pI a.bz=pI b.bz)):OI a b\/OI b a:=by
 rcases jqD a.View b.View with k|k|k
 ·exact .inl (.inl k)
 ·by_cases h1 : pI a.Hits = pI b.Hits
  ·have : pI a.bz ≠ pI b.bz := fun e => h ⟨k, h1, e⟩;rcases Nw this with h2 | h2
   ·exact .inl (.inr ⟨k,.inr ⟨h1,h2⟩⟩)
   ·exact .inr (.inr ⟨k.symm,.inr ⟨h1.symm,h2⟩⟩)
  ·rcases Nw h1 with h2 | h2
   ·exact .inl (.inr ⟨k,.inl h2⟩)
   ·exact .inr (.inr ⟨k.symm,.inl h2⟩)
 ·exact .inr (.inl k)
theorem zrU{a b:af}(h1:pI a.Hits=pI b.Hits)(h2:pI a.bz=pI b.bz)(ha:a.bz.len=a.Hits.len)(hb:b.bz.len=b.Hits.len):fA a=fA b:=by
 have l1:a.Hits.len=b.Hits.len:=by rw[<- Uw,<- Uw,h1]
 have key:∀t:af,t.bz.len=t.Hits.len->fA t=(pI t.Hits).zip (pI t.bz):=λt ht=>by
  unfold fA pI;rw[ht,List.zip_map']
 rw[key a ha,key b hb,h1,h2]
def yE(a b:af):Bool:=(fA b).all (λp=>(fA a).contains p)&&(b.View==a.View)
theorem zkT{t u:af}{p:Int×Int}(h1:u.Hits.len=t.Hits.len+1)(h2:∀j,j<t.Hits.len->u.Hits.get j=t.Hits.get j/\u.bz.get j=t.bz.get j)(h3:u.Hits.get t.Hits.len=p.1/\u.bz.get t.Hits.len=p.2):fA u=fA t++[p]:=by
 unfold fA;rw[h1,qjm,QQ];congr 1
 ·exact qdg λi hi=>by
   have:=h2 i (JC.1 hi);rw[this.1,this.2]
 ·show [(u.Hits.get t.Hits.len,u.bz.get t.Hits.len)]=[p];rw[h3.1,h3.2]
def ug(s:straight)(g:Sl ay):Nat→Sl Int
  | 0=>⟨0,λ_=>0⟩
  | i+1=>cond (mJ s (g.get i)) (oO (ug s g i) (i:Int)) (ug s g i)
theorem ES(s:straight)(g:Sl ay):∀i,(ug s g i).len≤i∧((ug s g i).len=i↔∀j,j<i→mJ s (g.get j)=true)∧(0<(ug s g i).len↔∃j,j<i∧mJ s (g.get j)=true)
  | 0=>⟨kC _,⟨λ_ j hj=>absurd hj (UW j),λ_=>rfl⟩,⟨λh=>absurd h (jq4 0),λ⟨j,hj,_⟩=>absurd hj (UW j)⟩⟩
  | i+1=>by
    obtain⟨a,b,c⟩:=ES s g i;simp only[ug];cases h:mJ s (g.get i)with
    | true =>
      show(ug s g i).len+1<=i+1/\((ug s g i).len+1=i+1↔_)/\(0<(ug s g i).len+1↔_);refine⟨omY,⟨λe j hj=>?_,λe=>?_⟩,⟨λ_=>⟨i,omY,h⟩,λ_=>by omega⟩⟩
      · by_cases k : j = i
        · rw[k];exact h
        · exact b.1 omY j omY
      · rw[b.2 λj hj=>e j omY]
    | false =>
      show(ug s g i).len<=i+1/\((ug s g i).len=i+1↔_)/\(0<(ug s g i).len↔_);refine⟨omY,⟨λe=>by omega,λe=>by rw[e i omY]at h;cases h⟩,c.trans ⟨λ⟨j,h1,h2⟩=>⟨j,omY,h2⟩,λ⟨j,h1,h2⟩=>⟨j,?_,h2⟩⟩⟩;have:j≠i:=λe=>by rw[e,h]at h2;cases h2
      omega
abbrev Q57(C:Line×Sl ay->ae (Sl Int)):Prop:=∀s (g:Sl ay),yw s->g.len<=1000->(∀i,i<g.len->gZ (g.get i))->C (fC s,g)=.ok (ug s g g.len)
theorem s57{E:E57}(N:Big E.N)(zBz:zy9 E.c116):Q57 (F57 E):=λs g S hl G=>ae.ext λk=>by
 rw[e57,bn];refine kV (X:=λn i=>WQ E n (fC s) g (i:Int) (ug s g i) k) (m:=g.len) (λn i hi=>?_) (λn=>?_) _ (by have:=N;omega)
 ·rw [zuj,dZ omY,ed,bG omY,gU,zBz s _ S (G i hi),bn,bP omY,jQ (by have:=(ES s g i).1;omega) omY];simp only[ug];cases mJ s (g.get i)<;>rfl
 ·rw[zuj,eU omY];rfl
def eL:Sl Line:=⟨0,λ_=>⟨⟨0,0⟩,⟨0,0⟩⟩⟩
def Ba(v:Sl Line)(l:List straight):Sl Line:=(l.map fC).foldl oO v
theorem vZ(v:Sl Line)(l:List straight):(Ba v l).len=v.len+l.length:=by unfold Ba;rw[uM,dqU]
theorem zA(v:Sl Line)(a b:List straight):Ba v (a++b)=Ba (Ba v a) b:=by unfold Ba;rw[QQ,jqB]
def xU(g:Sl ay):Sl Line:=Ba eL (cst g)
theorem zgB(g:Sl ay):(xU g).len=(cst g).length:=by unfold xU;rw[vZ];show 0+_=_;omega
theorem GX(g:Sl ay){i:Nat}(h:i<(cst g).length):(xU g).get i=fC (cst g)[i]:=by
 have:=AV ((cst g).map fC) eL i (fC (cst g)[i]) (by rw[qdc,BR h];rfl);rw[show(eL:Sl Line).len+i=i by show 0+i=i;omega]at this;exact this
abbrev zuy(C:Sl ay->ae (Sl Line)):Prop:=∀g,dw g->C g=.ok (xU g)
theorem zVm{E:Xi}(N:Big E.N)(zq8:zza E.zlw)(h55:Q55 E.c55):zuy (zq7 E):=λg G=>ae.ext λk=>by
 have hg:=G.2;have hN:=N;have inn:∀n0 n1 (i j:Nat) (w:Sl Line),i<g.len->j<g.len->w.len<=100000->Gy E n0 n1 E.N g (i:Int) (j:Int) 0 w k=Gx E n0 n1 g (i:Int) ((j+1:Nat):Int) (Ba w (BK (g.get i) (g.get j))) k:=by
  intro n0 n1 i j w hi hj hw;have gi:=G.1 i hi;have gj:=G.1 j hj;obtain⟨n,hn⟩:∃n,E.N=n+1+1+1+1+1:=⟨E.N-5,omY⟩
  have st:∀n (v:Int) (w:Sl Line) (p q:Int),(0<=v/\v<4)->w.len<=200000->(g.get i).Z≠(g.get j).Z->p=cond (aO (v.tdiv 2)==0) (g.get i).Low (g.get i).High->q=cond (v.tmod 2==0) (g.get j).Low (g.get j).High->(-1000000<=p/\p<=1000000)->(-1000000<=q/\q<=1000000) ->
    Gy E n0 n1 (n+1) g (i:Int) (j:Int) v w k=Gy E n0 n1 n g (i:Int) (j:Int) (v+1) (Ba w [EP (g.get i).Z p (g.get j).Z q]) k:=by
   intro n v w p q hv hw hz hp hq hpb hqb;rw[zaO,dZ (show v<4 by omega),ed];simp only[bG (show 0<=(i:Int)/\(i:Int)<(g.len:Int)by omega),bG (show 0<=(j:Int)/\(j:Int)<(g.len:Int)by omega)];rw[gU,gU,show((g.get i).Z != (g.get j).Z)=true by simpa using hz,ed,zq8,bn,zq8,bn,<- hp,<- hq,h55 _ _ _ _ gi.1 gj.1 hpb hqb hz,bn,jQ omY omY,bf omY omY];rfl
  unfold BK;rw[hn];by_cases hz:(g.get i).Z=(g.get j).Z
  ·rw [eX hz,zaO,dZ omY,ed,bG omY,bG omY,gU,gU,show((g.get i).Z != (g.get j).Z)=false by simpa using hz,dS,bP omY];rfl
  ·rw [fB hz]
   rw[st _ 0 w (g.get i).Low (g.get j).Low omY omY hz rfl rfl (qF gi) (qF gj),
    st _ (0+1) _ (g.get i).Low (g.get j).High omY (by rw[vZ];simp only[Cc,UJ];omega) hz rfl rfl (qF gi) (rZ gj),<- zA,
    st _ (0+1+1) _ (g.get i).High (g.get j).Low omY (by rw[vZ];simp only[Jz,Cc,UJ];omega) hz rfl rfl (rZ gi) (qF gj),<- zA,
    st _ (0+1+1+1) _ (g.get i).High (g.get j).High omY (by rw[vZ];simp only[Jz,Cc,UJ];omega) hz rfl rfl (rZ gi) (rZ gj),<- zA,zaO,eU omY,dS,bP omY]
   rfl
 have mid:∀n0 (i:Nat),i<g.len->∀(m j n1:Nat)(w:Sl Line),j+m=g.len->m<n1->w.len+4*m<=100000->Gx E n0 n1 g (i:Int) (j:Int) w k=Nc E n0 g ((i+1:Nat):Int) (Ba w (Eo g i m j)) k:=by
  intro n0 i hi m
  induction m with
  | zero =>
   intro j n1 w hj hn hw;obtain⟨n1,rfl⟩:∃n',n1=n'+1:=⟨n1-1,omY⟩;rw[zke,eU omY,dS,bP omY];rfl
  | succ m ih =>
   intro j n1 w hj hn hw;obtain⟨n1,rfl⟩:∃n',n1=n'+1:=⟨n1-1,omY⟩;have:=Xw (g.get i) (g.get j);rw[zke,dZ omY,ed,inn n0 n1 i j w hi omY omY,ih (j+1) n1 _ omY omY (by rw[vZ];omega),<- zA];rfl
 have out:∀(m i n:Nat)(w:Sl Line),i+m=g.len->m<n->w.len+96*m<=10000->Nc E n g (i:Int) w k=k (Ba w (OG g m i)):=by
  intro m
  induction m with
  | zero =>
   intro i n w hi hn hw;obtain⟨n,rfl⟩:∃n',n=n'+1:=⟨n-1,omY⟩;rw[zkd,eU omY];rfl
  | succ m ih =>
   intro i n w hi hn hw;obtain⟨n,rfl⟩:∃n',n=n'+1:=⟨n-1,omY⟩;have:=Xx g i (g.len-(i+1)) (i+1);rw[zkd,dZ omY,ed,bP omY,mid n i omY (g.len-(i+1)) (i+1) E.N w omY omY omY,ih (i+1) n _ omY omY (by rw[vZ];omega),<- zA];rfl
 rw[zUj,bn];exact out g.len 0 E.N eL omY omY (by show 0+_<=_;omega)
abbrev zze(C:Line×Sl ay->ae Bool):Prop:=∀s g,yw s->dw g->∃b,C (fC s,g)=.ok b
theorem zVn{E:zeS}(N:Big E.N)(zax:zrO E.Uh):zze (zru E):=λs g S G=>by
 have hg:=G.2;exact⟨_,ae.ext λk=>by
  rw[e248,bn];refine(loopA (L:=λn v=>TK E n (fC s) g v k) (p:=λi=>!(plN (fC s) (g.get i).Z==aO ((g.get i).Low*QA (fC s)))) (m:=g.len) (fin:=k false) (stop:=k true) omY (λn i hi=>?_) (λn=>?_) _ (by have:=N;omega)).trans (kc k _ _ _)
  ·have gi:=G.1 i hi;rw[zkp,dZ omY,ed,bG omY,gU,zax s _ S (by have:=gi.1;omega),bn,bG omY];show cond (plN (fC s) (g.get i).Z==aO ((g.get i).Low*QA (fC s))) _ _=_;cases plN (fC s) (g.get i).Z==aO ((g.get i).Low*QA (fC s))<;>rfl
  ·rw[zkp,eU omY];rfl⟩
def leB(a b:aP):Bool:=decide (aO (a.Num*b.bT)<aO (b.Num*a.bT))
abbrev Q56(C:aP×aP->ae Bool):Prop:=∀a b,C (a,b)=.ok (leB a b)
theorem s56{E:E56}:Q56 (F56 E):=λa b=>ae.ext λk=>by rw[e56,bn];rfl
abbrev zuz(C:Line×Line×Sl ay->ae Bool):Prop:=∀s t g,yw s->yw t->dw g->∃b,C (fC s,fC t,g)=.ok b
theorem zVo{E:zq9}(zrb:zze E.za2)(h56:Q56 E.YB):zuz (zra E):=λs t g S T G=>by
 obtain⟨a,ha⟩:=zrb s g S G;obtain⟨b,hb⟩:=zrb t g T G;exact⟨cond (a != b) a (cond a (leB (fC s).dM (fC t).dM) (leB (fC t).dM (fC s).dM)),ae.ext λk=>by
  rw[e226,ha,hb,bn,bn,bn,bn,h56,h56,bn,bn,kc k,kc k,bn]⟩
def LnS(g:Sl ay)(v:Sl Line):Prop:=∀i,i<v.len->∃s,s∈cst g/\v.get i=fC s
abbrev zuA(C:Sl ay->ae (Sl Line)):Prop:=∀g,dw g->∃L:Sl Line,C g=.ok L/\(0<L.len↔∃s∈cst g,zx g s)/\L.len<=2304/\LnS g L
theorem zVp{E:Qy}(N:Big E.N)(zqH:zuy E.zmk)(h57:Q57 E.c57)(zqI:zuz E.c226):zuA (zmd E):=λg G=>by
 have hg:=G.2;have hN:=N;have hc:=Og G;have hcd:=zgB g;have pos:∀n0 (i:Nat),i<(cst g).length->∀(v:Sl Line),LnS g v->v.len<=2304->∃a,a<=v.len/\∀(A:Type)(k:Sl Line->Option A),sV E n0 E.N g v (xU g) (i:Int) 0 k=qg E n0 g v (xU g) (i:Int) (a:Int) k:=by
  intro n0 i hi v hv hl;have key:∀(m j n1:Nat),j+m=v.len->m<n1->∃a,a<=v.len/\∀(A:Type)(k:Sl Line->Option A),sV E n0 n1 g v (xU g) (i:Int) (j:Int) k=qg E n0 g v (xU g) (i:Int) (a:Int) k:=by
   intro m
   induction m with
   | zero =>
    intro j n1 hj hn;obtain⟨n1,rfl⟩:∃n',n1=n'+1:=⟨n1-1,omY⟩;exact⟨j,omY,λA k=>by rw[zaJ,eU omY];rfl⟩
   | succ m ih =>
    intro j n1 hj hn;obtain⟨n1,rfl⟩:∃n',n1=n'+1:=⟨n1-1,omY⟩;obtain⟨s,hs,es⟩:=hv j omY;obtain⟨b,hb⟩:=zqI s (cst g)[i] g (rE G hs) (rE G (YY hi)) G;have st:∀(A:Type)(k:Sl Line->Option A),sV E n0 (n1+1) g v (xU g) (i:Int) (j:Int) k=cond b (sV E n0 n1 g v (xU g) (i:Int) ((j+1:Nat):Int) k) (qg E n0 g v (xU g) (i:Int) (j:Int) k):=λA k=>by
     rw[zaJ,dZ omY,ed,bG omY,bG omY,gU,gU,es,GX g hi,hb,bn,bP omY]
    cases b with
    | true =>
     obtain⟨a,h1,h2⟩:=ih (j+1) n1 omY omY;exact⟨a,h1,λA k=>by rw[st];exact h2 A k⟩
    | false=>exact⟨j,omY,λA k=>by rw[st];rfl⟩
  exact key v.len 0 E.N omY omY
 have key:∀(m i n:Nat)(v:Sl Line),i+m=(cst g).length->m<n->LnS g v->v.len<=i->∃L:Sl Line,(∀(A:Type)(k:Sl Line->Option A),lG E n g v (xU g) (i:Int) k=k L)/\(0<L.len↔0<v.len\/∃j,∃h:j<(cst g).length,i<=j/\zx g (cst g)[j])/\L.len<=(cst g).length/\LnS g L:=by
  intro m
  induction m with
  | zero =>
   intro i n v hi hn hv hl;obtain⟨n,rfl⟩:∃n',n=n'+1:=⟨n-1,omY⟩;exact⟨v,λA k=>by rw[zaI,eU omY];rfl,⟨.inl,λh=>h.elim id λ⟨j,h1,h2,_⟩=>by omega⟩,omY,hv⟩
  | succ m ih =>
   intro i n v hi hn hv hl;obtain⟨n,rfl⟩:∃n',n=n'+1:=⟨n-1,omY⟩;have kN:i<(cst g).length:=by omega
   have S:=rE G (YY kN);have pl:=ES (cst g)[i] g g.len;have st:∀(A:Type)(k:Sl Line->Option A),lG E (n+1) g v (xU g) (i:Int) k=cond (decide (((ug (cst g)[i] g g.len).len:Int)<(g.len:Int))) (lG E n g v (xU g) ((i+1:Nat):Int) k) (sV E n E.N g v (xU g) (i:Int) 0 k):=λA k=>by
    rw[zaI,dZ omY,ed,bG omY,gU,GX g kN,h57 _ g S omY G.1,bn,bP omY]
   by_cases ha:zx g (cst g)[i]
   ·have e : (ug (cst g)[i] g g.len).len = g.len := pl.2.1.2 ha;obtain⟨a,a1,a2⟩:=pos n i kN v hv omY;have st2:∀ (A:Type) (k:Sl Line->Option A),lG E (n+1) g v (xU g) (i:Int) k=qg E n g v (xU g) (i:Int) (a:Int) k:=λ A k=>by rw[st,eU omY,dS,a2]
    have ins:∃v':Sl Line,(∀(A:Type)(k:Sl Line->Option A),Gv E n g v (xU g) (i:Int) (a:Int) k=lG E n g v' (xU g) ((i+1:Nat):Int) k)/\v'.len=v.len+1/\LnS g v':=by
     refine⟨_,λA k=>by
      rw[zqG,bG omY,jQ omY omY,bG omY,jQ omY omY,bG omY,jQ omY omY,bP omY],?_,?_⟩
     ·show((((a:Int)-0).toNat+1)+((v.len:Int)-(a:Int)).toNat)=_;omega
     ·intro q hq;have hq:q < ((((a:Int) - 0).toNat+1)+((v.len:Int) - (a:Int)).toNat):=hq;show ∃ s,s∈cst g/\jL (((a:Int) - 0).toNat+1) (jL ((a:Int) - 0).toNat (EM v.get 0) (λ _=>(xU g).get (i:Int).toNat)) (EM v.get (a:Int).toNat) q=fC s;rw[je];split
      ·exact hv (q-(((a:Int)-0).toNat+1)+(a:Int).toNat) omY
      ·rw [je];split
       ·rw[gU,GX g kN];exact⟨_,YY kN,rfl⟩
       ·exact hv (q+0) omY
    obtain⟨v',i1,i2,i3⟩:=ins;have fin:∃v'':Sl Line,(∀(A:Type)(k:Sl Line->Option A),qg E n g v (xU g) (i:Int) (a:Int) k=lG E n g v'' (xU g) ((i+1:Nat):Int) k)/\0<v''.len/\v''.len<=i+1/\LnS g v'':=by
     by_cases h1:(a:Int)<(v.len:Int)
     ·have e3:∃B:Bool,∀(A:Type)(k:Sl Line->Option A),qg E n g v (xU g) (i:Int) (a:Int) k=cond B (lG E n g v (xU g) ((i+1:Nat):Int) k) (Gv E n g v (xU g) (i:Int) (a:Int) k):=⟨_,λA k=>by
       rw[zaK,dZ h1,ed,bG omY,bG omY,bP omY]⟩
      obtain⟨B,e3⟩:=e3;cases B with
      | true=>exact⟨v,λA k=>by rw[e3];rfl,omY,omY,hv⟩
      | false=>exact⟨v',λA k=>by rw[e3];exact i1 A k,omY,omY,i3⟩
     ·exact⟨v',λA k=>by rw[zaK,eU h1];exact i1 A k,omY,omY,i3⟩
    obtain⟨v'',f1,f2,f3,f4⟩:=fin;obtain⟨L,l1,l2,l3,l4⟩:=ih (i+1) n v'' omY omY f4 f3;exact⟨L,λA k=>by rw[st2,f1,l1],l2.trans ⟨λ_=>.inr ⟨i,kN,kC _,ha⟩,λ_=>.inl f2⟩,l3,l4⟩
   ·have e:(ug (cst g)[i] g g.len).len<g.len:=by
     rcases qd4 (ug (cst g)[i] g g.len).len g.len with h|h
     ·exact h
     ·exact absurd (pl.2.1.1 omY) ha
    obtain⟨L,l1,l2,l3,l4⟩:=ih (i+1) n v omY omY hv omY;refine⟨L,λA k=>by rw[st,dZ omY,ed,l1],l2.trans ⟨λh=>h.imp id λ⟨j,h1,h2,h3⟩=>⟨j,h1,omY,h3⟩,λh=>h.imp id λ⟨j,h1,h2,h3⟩=>⟨j,h1,?_,h3⟩⟩,l3,l4⟩;have:j≠i:=λe=>ha (by subst e;exact h3);omega
 obtain⟨L,l1,l2,l3,l4⟩:=key (cst g).length 0 E.N eL omY omY (λi hi=>absurd hi (UW i)) (kC _);refine⟨L,ae.ext λk=>by rw[zMU,zqH g G,bn,bn];exact l1 _ k,l2.trans ⟨λh=>?_,λ⟨s,hs,ha⟩=>?_⟩,omY,l4⟩
 ·rcases h with h | ⟨j, h1, _, h3⟩
  ·exact absurd h (jq4 0)
  ·exact⟨_,YY h1,h3⟩
 ·obtain⟨j,h1,rfl⟩:=qdA hs;exact .inr ⟨j,h1,Cf _,ha⟩
theorem IW{g:Sl ay}(G:dw g)(hf:fQ g=false):iG g=true↔∃s∈cst g,zx g s:=by
 unfold iG;rw[hf,dS,pJ];obtain⟨c1,c2,_⟩:=TN hf;constructor
 ·intro h;obtain⟨a,b⟩:=c1 _ (YY (l:=jB g) (n:=0) omY);exact⟨_,a,(Es G (rE G a)).1 b⟩
 ·rintro⟨s,hs,ha⟩;obtain⟨x,hx,_⟩:=c2 s hs ((Es G (rE G hs)).2 ha);have:=qjh hx;omega
abbrev zzf(C:Sl ay->ae Bool):Prop:=∀g,dw g->C g=.ok (iG g)
theorem zVq{E:zpK}(IE:zgH E.BU)(zeB:zuw E.c193)(YM:zuA E.c194):zzf (zpL E):=λg G=>ae.ext λk=>by
 have hg:=G.2;rw[zS7,IE g omY omY,bn,bn];cases hf:fQ g with
 | true =>
  rw[ed,zeB g omY omY,bn];unfold iG;rw[hf];rfl
 | false =>
  obtain⟨L,l1,l2,_⟩:=YM g G;rw[dS,l1,bn];congr 1;rw[Ut,IW G hf,<- l2,pJ];omega
def N7(z:Int):Prop:=-100000<=z/\z<=200000
abbrev zzg(C:straight×Int->ae aP):Prop:=∀s z,yw s->N7 z->C (s,z)=.ok (Oc z s)
theorem zVr{E:zqT}:zzg (zqU E):=λs z S hz=>ae.ext λk=>by
 rw[e203,bn,(zcJ S (z:=z) ⟨by have:=hz.1;omega,hz.2⟩).1];rfl
abbrev zzh(C:straight×Pt Int->ae aP):Prop:=∀s (z:Pt Int),yw s->N7 z.v->C (s,z)=.ok (Oc z.v s)
theorem zVs{E:zqR}(zyy:zzg E.c203):zzh (zqS E):=λs z S hz=>ae.ext λk=>by rw[zT8,zyy _ _ S hz]
theorem UN{s:straight}(S:yw s){z:Int}(hz:N7 z):(-600000000000<=(Oc z s).Num/\(Oc z s).Num<=600000000000)/\0<(Oc z s).bT/\(Oc z s).bT<=100000:=by
 have:=(zcJ S (z:=z) ⟨by have:=hz.1;omega,hz.2⟩).2;have:=S.2.2;exact⟨‹_›,by show 0<s.den;omega,by show s.den<=_;omega⟩
def QE(f:aP):Prop:=(-600000000000<=f.Num/\f.Num<=600000000000)/\0<f.bT/\f.bT<=100000
theorem XL{a b:aP}(h1:QE a)(h2:QE b):aO (a.Num*b.bT)=a.Num*b.bT:=by
 have:=qy h1.1.1 h1.1.2 (yt h2.2.1) h2.2.2;exact bf omY omY
abbrev zzi(C:aP×aP->ae Bool):Prop:=∀a b,QE a->QE b->C (a,b)=.ok (ltB a b)
theorem zVt{E:zqd}(MX:zkF E.EE):zzi (zqe E):=λa b h1 h2=>ae.ext λk=>by rw[e169,MX _ _ (XL h1 h2) (XL h2 h1),bn,bn];rfl
abbrev zzj(C:aP×aP->ae Bool):Prop:=∀a b,QE a->QE b->C (a,b)=.ok (gtB a b)
theorem zVu{E:zqh}(MX:zkF E.EE):zzj (zqi E):=λa b h1 h2=>ae.ext λk=>by rw[zTC,MX _ _ (XL h1 h2) (XL h2 h1),bn,bn];rfl
abbrev zzk:=dY 169 Unit Unit ⊕ dY 171 Unit Unit
def nG:zzk→aP→aP→Bool
  | .inl _=>ltB
  | .inr _=>gtB
abbrev QEx{γ:Type}(i:γ->zzk)(C:Sl aP×γ->ae aP):Prop:=∀(l:Sl aP)(c:γ),0<l.len->l.len<=10000->(∀i,i<l.len->QE (l.get i))->C (l,c)=.ok (sW (nG (i c)) l.get l.len)
abbrev zrV(C:Sl aP×zzk->ae aP):Prop:=QEx id C
theorem XM{lt:aP->aP->Bool}{f:Nat->aP}:sW lt f 1=f 0:=by simp only[sW];cases lt (f 0) (f 0)<;>rfl
theorem XN{lt:aP->aP->Bool}{f:Nat->aP}{n:Nat}:sW lt f (n+1)=cond (lt (f n) (sW lt f n)) (f n) (sW lt f n):=rfl
theorem EC{lt:aP→aP→Bool}{f:Nat→aP}:∀n,∃i,i<n+1∧sW lt f (n+1)=f i
  | 0=>⟨0,omY,XM⟩
  | n+1=>by
    obtain⟨i,hi,e⟩:=EC (lt:=lt) (f:=f) n;rw[XN];cases lt (f (n+1)) (sW lt f (n+1))with
    | true=>exact⟨n+1,omY,rfl⟩
    | false=>exact⟨i,omY,e⟩
theorem zkU{E:vO}(N:Big E.N)(zyo:zzi E.zsq):QEx .inl (DX E):=λl c h0 hl hp=>ae.ext λk=>by
 rw[zjL,bn,bG omY,bG omY,<- XM (lt:=nG (.inl c)) (f:=l.get)];have hm:(((l.len:Int)-1).toNat:Int)=((l.len-1:Nat):Int):=by omega
 refine(kV (X:=λn i=>oD E n l (i:Int) (sW (nG (.inl c)) l.get (i+1)) k) (m:=l.len-1) (fin:=k (sW (nG (.inl c)) l.get l.len)) (λn i hi=>?_) (λn=>?_) E.N (by have:=N;omega))
 ·obtain ⟨j, hj, e⟩ := EC (lt := nG (.inl c)) (f := l.get) i;have hq:QE (sW (nG (.inl c)) l.get (i+1)):=by rw[e];exact hp j omY
  rw[MV,hm,dZ omY,ed,bG omY,gU,show EM l.get 1 i=l.get (i+1)from rfl,zyo _ _ (hp (i+1) omY) hq,bn,bP omY,XN (n:=i+1)];show cond (ltB (l.get (i+1)) (sW (nG (.inl c)) l.get (i+1))) _ _=oD E n l _ (cond (ltB (l.get (i+1)) (sW (nG (.inl c)) l.get (i+1))) _ _) k;cases ltB (l.get (i+1)) (sW (nG (.inl c)) l.get (i+1))<;>rfl
 ·rw[MV,hm,eU omY,show l.len-1+1=l.len by omega];rfl
theorem zkV{E:vP}(N:Big E.N)(zyp:zzj E.c171):QEx .inr (DY E):=λl c h0 hl hp=>ae.ext λk=>by
 rw[zjN,bn,bG omY,bG omY,<- XM (lt:=nG (.inr c)) (f:=l.get)];have hm:(((l.len:Int)-1).toNat:Int)=((l.len-1:Nat):Int):=by omega
 refine(kV (X:=λn i=>oG E n l (i:Int) (sW (nG (.inr c)) l.get (i+1)) k) (m:=l.len-1) (fin:=k (sW (nG (.inr c)) l.get l.len)) (λn i hi=>?_) (λn=>?_) E.N (by have:=N;omega))
 ·obtain ⟨j, hj, e⟩ := EC (lt := nG (.inr c)) (f := l.get) i;have hq:QE (sW (nG (.inr c)) l.get (i+1)):=by rw[e];exact hp j omY
  rw[MW,hm,dZ omY,ed,bG omY,gU,show EM l.get 1 i=l.get (i+1)from rfl,zyp _ _ (hp (i+1) omY) hq,bn,bP omY,XN (n:=i+1)];show cond (gtB (l.get (i+1)) (sW (nG (.inr c)) l.get (i+1))) _ _=oG E n l _ (cond (gtB (l.get (i+1)) (sW (nG (.inr c)) l.get (i+1))) _ _) k;cases gtB (l.get (i+1)) (sW (nG (.inr c)) l.get (i+1))<;>rfl
 ·rw[MW,hm,eU omY,show l.len-1+1=l.len by omega];rfl
theorem zVv{f:Sl aP×dY 169 Unit Unit->ae aP}{g:Sl aP×dY 171 Unit Unit->ae aP}(a:QEx .inl f)(b:QEx .inr g):zrV (ae.two f g):=λl c h0 hl hp=>by
 rcases c with c|c
 ·exact a l c h0 hl hp
 ·exact b l c h0 hl hp
abbrev zzm(C:straight->ae aP):Prop:=∀s,C s=.ok (zbf s)
theorem zVw{E:zpo}:zzm (zpp E):=λs=>ae.ext λk=>by rw[e120,bn];rfl
abbrev zeY:=dY 202 Unit (Pt Int) ⊕ dY 120 Unit Unit
def iR:zeY→straight→aP
  | .inl c=>Oc c.v.v
  | .inr _=>zbf
def okB:zeY→Prop
  | .inl c=>N7 c.v.v
  | .inr _=>True
theorem TY{g:Sl ay}(G:dw g){c:zeY}(hc:okB c){s:straight}(h:wB g s):QE (iR c s):=by
 have S:=mi G h;rcases c with c|c
 ·exact UN S hc
 ·have:=S.1;have:=S.2.2;exact⟨by show -600000000000<=s.bI/\s.bI<=600000000000;omega,by show 0<s.den;omega,by show s.den<=100000;omega⟩
def yA(g:Sl ay)(F:straight→aP):Nat→Sl aP
  | 0=>⟨0,λ_=>⟨0,0⟩⟩
  | i+1=>oO (yA g F i) (F ((iZ g).dm.get i))
theorem iM(g:Sl ay)(F:straight→aP):∀n,(yA g F n).len=n
  | 0=>rfl
  | n+1=>by show(yA g F n).len+1=n+1;rw[iM g F n]
theorem xx(g:Sl ay)(F:straight→aP):∀n i,i<n→(yA g F n).get i=F ((iZ g).dm.get i)
  | n+1,i,h=>by
    show jL (yA g F n).len (yA g F n).get (λ_=>F ((iZ g).dm.get n)) i=_;rw[je,iM];by_cases e:i=n
    · rw[eX omY,e]
    · rw[fB omY,xx g F n i omY]
theorem wo{lt:aP→aP→Bool}{f g:Nat→aP}:∀n,(∀i,i<n+1→f i=g i)→sW lt f (n+1)=sW lt g (n+1)
  | 0,h=>by rw[XM,XM,h 0 omY]
  | n+1,h=>by rw[XN,XN (f:=g) (n:=n+1),wo n λi hi=>h i omY,h (n+1) omY]
theorem zuB{g:Sl ay}(G:dw g){c:zeY}(hc:okB c)(h0:0<(jB g).length):QE (loG g (iR c))/\QE (hiG g (iR c)):=by
 obtain⟨n,hn⟩:∃n,(jB g).length=n+1:=⟨(jB g).length-1,omY⟩;have pok:∀i,i<n+1->QE (iR c ((iZ g).dm.get i)):=λi hi=>TY G hc (zy G omY);unfold loG hiG;rw[hn];obtain⟨i,i2,i3⟩:=EC (lt:=ltB) (f:=λi=>iR c ((iZ g).dm.get i)) n;obtain⟨j,j2,j3⟩:=EC (lt:=gtB) (f:=λi=>iR c ((iZ g).dm.get i)) n;exact⟨by rw[i3];exact pok i i2,by rw[j3];exact pok j j2⟩
abbrev QBd{γ:Type}(i:γ->zeY)(C:set×γ->ae (aP×aP)):Prop:=∀g (c:γ),dw g->okB (i c)->0<(jB g).length->C (iZ g,c)=.ok (red (loG g (iR (i c))).Num (loG g (iR (i c))).bT,red (hiG g (iR (i c))).Num (hiG g (iR (i c))).bT)
abbrev zvz(C:set×zeY->ae (aP×aP)):Prop:=QBd id C
theorem zkW{E:vJ}(N:Big E.N)(zx7:zzh E.zsx)(Tu:zrV E.c168)(qP:IV E.kJ):QBd .inl (DR E):=λg c G hz h0=>ae.ext λk=>by
 have hl:=Jq G;have hs:=Ep g;have pok:∀i,i<(jB g).length->QE (iR (.inl c) ((iZ g).dm.get i)):=λi hi=>TY G hz (zy G hi);obtain⟨pl,ph⟩:=zuB G hz h0;rw[zjw,bn];refine kV (X:=λn i=>wY E n (iZ g) c (i:Int) (yA g (iR (.inl c)) i) k) (m:=(jB g).length) (λn i hi=>?_) (λm=>?_) _ (by have:=N;omega)
 ·rw[MN,hs,dZ omY,ed,bG omY,gU,zx7 _ _ (mi G (zy G hi)) hz,bn,jQ (by rw[iM];omega) omY,bP omY];rfl
 ·obtain⟨n,hn⟩:∃n,(jB g).length=n+1:=⟨(jB g).length-1,by omega⟩;have hp:∀i,i<(yA g (iR (.inl c)) (jB g).length).len->QE ((yA g (iR (.inl c)) (jB g).length).get i):=λi hi=>by
   rw[iM]at hi;rw[xx _ _ _ _ hi];exact pok i hi
  rw[MN,hs,eU omY,dS,Tu _ _ (by rw[iM];omega) (by rw[iM];omega) hp,bn,Tu _ _ (by rw[iM];omega) (by rw[iM];omega) hp,bn];have e1:sW (nG (.inl ⟨(),()⟩)) (yA g (iR (.inl c)) (jB g).length).get (yA g (iR (.inl c)) (jB g).length).len=loG g (iR (.inl c)):=by
   rw[iM];unfold loG;rw[hn];exact wo n λi hi=>xx _ _ _ _ hi
  have e2:sW (nG (.inr ⟨(),()⟩)) (yA g (iR (.inl c)) (jB g).length).get (yA g (iR (.inl c)) (jB g).length).len=hiG g (iR (.inl c)):=by
   rw[iM];unfold hiG;rw[hn];exact wo n λi hi=>xx _ _ _ _ hi
  show(E.kJ ((sW (nG (.inl ⟨(),()⟩)) (yA g (iR (.inl c)) (jB g).length).get (yA g (iR (.inl c)) (jB g).length).len).Num,(sW (nG (.inl ⟨(),()⟩)) (yA g (iR (.inl c)) (jB g).length).get (yA g (iR (.inl c)) (jB g).length).len).bT)).T (λr4=>(E.kJ ((sW (nG (.inr ⟨(),()⟩)) (yA g (iR (.inl c)) (jB g).length).get (yA g (iR (.inl c)) (jB g).length).len).Num,(sW (nG (.inr ⟨(),()⟩)) (yA g (iR (.inl c)) (jB g).length).get (yA g (iR (.inl c)) (jB g).length).len).bT)).T λr5=>k (r4,r5))=_;rw[e1,e2,qP _ _ (by have:=pl.1;omega) (by have:=pl.1;omega) pl.2.1 (by have:=pl.2.2;omega),bn,qP _ _ (by have:=ph.1;omega) (by have:=ph.1;omega) ph.2.1 (by have:=ph.2.2;omega),bn]
theorem zkX{E:vK}(N:Big E.N)(zx8:zzm E.zsh)(Tu:zrV E.c168)(qP:IV E.kJ):QBd .inr (DT E):=λg c G hz h0=>ae.ext λk=>by
 have hl:=Jq G;have hs:=Ep g;have pok:∀i,i<(jB g).length->QE (iR (.inr c) ((iZ g).dm.get i)):=λi hi=>TY G hz (zy G hi);obtain⟨pl,ph⟩:=zuB G hz h0;rw[zjy,bn];refine kV (X:=λn i=>wZ E n (iZ g) (i:Int) (yA g (iR (.inr c)) i) k) (m:=(jB g).length) (λn i hi=>?_) (λm=>?_) _ (by have:=N;omega)
 ·rw[MO,hs,dZ omY,ed,bG omY,gU,zx8,bn,jQ (by rw[iM];omega) omY,bP omY];rfl
 ·obtain⟨n,hn⟩:∃n,(jB g).length=n+1:=⟨(jB g).length-1,by omega⟩;have hp:∀i,i<(yA g (iR (.inr c)) (jB g).length).len->QE ((yA g (iR (.inr c)) (jB g).length).get i):=λi hi=>by
   rw[iM]at hi;rw[xx _ _ _ _ hi];exact pok i hi
  rw[MO,hs,eU omY,dS,Tu _ _ (by rw[iM];omega) (by rw[iM];omega) hp,bn,Tu _ _ (by rw[iM];omega) (by rw[iM];omega) hp,bn];have e1:sW (nG (.inl ⟨(),()⟩)) (yA g (iR (.inr c)) (jB g).length).get (yA g (iR (.inr c)) (jB g).length).len=loG g (iR (.inr c)):=by
   rw[iM];unfold loG;rw[hn];exact wo n λi hi=>xx _ _ _ _ hi
  have e2:sW (nG (.inr ⟨(),()⟩)) (yA g (iR (.inr c)) (jB g).length).get (yA g (iR (.inr c)) (jB g).length).len=hiG g (iR (.inr c)):=by
   rw[iM];unfold hiG;rw[hn];exact wo n λi hi=>xx _ _ _ _ hi
  show(E.kJ ((sW (nG (.inl ⟨(),()⟩)) (yA g (iR (.inr c)) (jB g).length).get (yA g (iR (.inr c)) (jB g).length).len).Num,(sW (nG (.inl ⟨(),()⟩)) (yA g (iR (.inr c)) (jB g).length).get (yA g (iR (.inr c)) (jB g).length).len).bT)).T (λr4=>(E.kJ ((sW (nG (.inr ⟨(),()⟩)) (yA g (iR (.inr c)) (jB g).length).get (yA g (iR (.inr c)) (jB g).length).len).Num,(sW (nG (.inr ⟨(),()⟩)) (yA g (iR (.inr c)) (jB g).length).get (yA g (iR (.inr c)) (jB g).length).len).bT)).T λr5=>k (r4,r5))=_;rw[e1,e2,qP _ _ (by have:=pl.1;omega) (by have:=pl.1;omega) pl.2.1 (by have:=pl.2.2;omega),bn,qP _ _ (by have:=ph.1;omega) (by have:=ph.1;omega) ph.2.1 (by have:=ph.2.2;omega),bn]
theorem zVx{f:set×dY 202 Unit (Pt Int)->ae (aP×aP)}{g:set×dY 120 Unit Unit->ae (aP×aP)}(a:QBd .inl f)(b:QBd .inr g):zvz (ae.two f g):=λw c G hz h0=>by
 rcases c with c|c
 ·exact a w c G hz h0
 ·exact b w c G hz h0
def xB(g:Sl ay)(z:Int):aP×aP:=cond (fQ g) (red (fP g g.len).Low 1,red (fP g g.len).High 1) (red (loF g z).Num (loF g z).bT,red (hiF g z).Num (hiF g z).bT)
theorem Oh{g:Sl ay}(G:∀i,i<g.len→gZ (g.get i))(h0:0<g.len):∀n,n≤g.len→(-1000000≤(fP g n).Low∧(fP g n).Low≤1000000) ∧ -1000000≤(fP g n).High∧(fP g n).High≤1000000
  | 0,_=>⟨qF (G 0 h0),rZ (G 0 h0)⟩
  | n+1,h=>by
    obtain⟨a,b⟩:=Oh G h0 n omY;have c:=qF (G n omY);have d:=rZ (G n omY);simp only[fP];constructor
    · split<;>assumption
    · split<;>assumption
abbrev zzo(C:set×Int->ae (aP×aP)):Prop:=∀g z,dw g->N7 z->(fQ g=false->0<(jB g).length)->C (iZ g,z)=.ok (xB g z)
theorem zVy{E:zp7}(wX:zaQ E.c167)(zaF:zrG E.Uk)(qP:IV E.kJ)(zmK:zvz E.c119):zzo (zp8 E):=λg z G hz hc=>ae.ext λk=>by
 have hg:=G.2;rw[zTw,wX (iZ g).list (by show 0<g.len;omega) (by show g.len<=1000;omega),bn,bn];show cond (fQ g) _ _=_;unfold xB;cases hf:fQ g with
 | true =>
  obtain⟨a,b⟩:=Oh G.1 omY g.len (kC _);rw[ed,zaF _ (by show 0<g.len;omega) (by show g.len<=1000;omega),bn];show(E.kJ ((fP g g.len).Low,1)).T (λr3=>(E.kJ ((fP g g.len).High,1)).T λr4=>k (r3,r4))=_;rw[qP _ _ omY omY omY omY,bn,qP _ _ omY omY omY omY,bn];rfl
 | false=>rw[dS,zmK g (.inl ⟨(),⟨z⟩⟩) G hz (hc hf),bn];rfl
abbrev zvM(C:Sl ay×Int->ae (aP×aP×Int)):Prop:=∀g z,dw g->N7 z->C (g,z)=.ok (cond ((Ad g ((g.get 0).Z==z)).2 != 0) (⟨0,0⟩,⟨0,0⟩,(Ad g ((g.get 0).Z==z)).2) ((xB g z).1,(xB g z).2,0))
theorem zVz{E:zpg}(BG:BX E.c157)(UM:zmB E.c117)(zx1:zzo E.zfG):zvM (zph E):=λg z G hz=>ae.ext λk=>by
 have hg:=G.2;rw[zSF,BG,bn,bn,show inB z (-100000) 200000=true from dZ hz,UM g _ omY,bn];show cond ((Ad g ((g.get 0).Z==z)).2 != 0) (k (⟨0,0⟩,⟨0,0⟩,(Ad g ((g.get 0).Z==z)).2)) ((E.zfG ((Ad g ((g.get 0).Z==z)).1,z)).T λr3=>k (r3.1,r3.2,0))=_;unfold Ad;rw[kU.2 G];cases hs:iG g with
 | false=>rfl
 | true =>
  cases hf:fQ g && !((g.get 0).Z==z)with
  | true=>rfl
  | false =>
   show(E.zfG (iZ g,z)).T _=_;rw[zx1 g z G hz λhf=>by unfold iG at hs;rw[hf,dS,pJ]at hs;omega,bn];rfl
def slV(g:Sl ay):aP×aP:=(red (loG g zbf).Num (loG g zbf).bT,red (hiG g zbf).Num (hiG g zbf).bT)
abbrev Q58(C:Sl ay->ae (aP×aP×Int)):Prop:=∀g,dw g->C g=.ok (cond ((Ad g false).2 != 0) (⟨0,0⟩,⟨0,0⟩,(Ad g false).2) ((slV g).1,(slV g).2,0))
theorem s58{E:E58}(UM:zmB E.c117)(zmK:zvz E.c119):Q58 (F58 E):=λg G=>ae.ext λk=>by
 have hg:=G.2;rw[e58,UM g _ omY,bn,bn];show cond ((Ad g false).2 != 0) (k (⟨0,0⟩,⟨0,0⟩,(Ad g false).2)) ((E.c119 ((Ad g false).1,.inr ⟨(),()⟩)).T λr3=>k (r3.1,r3.2,0))=_;unfold Ad;rw[kU.2 G];cases hs:iG g with
 | false=>rfl
 | true =>
  cases hf:fQ g with
  | true=>rfl
  | false =>
   show(E.c119 (iZ g,.inr ⟨(),()⟩)).T _=_;rw[zmK g (.inr ⟨(),()⟩) G trivial (by unfold iG at hs;rw[hf,dS,pJ]at hs;omega),bn];rfl
def zvN(p:ak)(h:bF):bZ:=cond (p.Kind==3) p.Clock ⟨aO (aO (h.Time-p.Clock.High)-p.dP),aO (aO (h.Time-p.Clock.Low)+p.dP)⟩
def tq(s:au)(h:bF):bZ:=zvN (s.aj.get h.ak.toNat) h
abbrev zzp(C:placed×bF->ae bZ):Prop:=∀q h,C (q,h)=.ok (zvN q.ak h)
theorem zVA{E:zpe}:zzp (zpf E):=λq h=>ae.ext λk=>by rw[zSD,bn,kc k];rfl
abbrev Q74(C:au×bF->ae bZ):Prop:=∀s h,mD s h=true->C (s,h)=.ok (tq s h)
theorem s74{E:E74}:Q74 (F74 E):=λs h hh=>ae.ext λk=>by rw[e74,bn,bG (MI hh),kc k];rfl
def tmG(s:au)(l:Sl bF):Sl ay:=⟨l.len,λi=>⟨0,(tq s (l.get i)).Low,(tq s (l.get i)).High⟩⟩
theorem Ny{g h:Sl ay}{m:Nat}(h0:0<m)(e:∀i,i<m→g.get i=h.get i):∀n,n≤m→fP g n=fP h n
  | 0,_=>by simp only[fP,e 0 h0]
  | n+1,hn=>by simp only[fP,Ny h0 e n omY,e n omY]
abbrev zzq(C:au×Sl bF->ae (bZ×Bool)):Prop:=∀s (l:Sl bF),0<l.len->l.len<=1000->(∀i,i<l.len->mD s (l.get i)=true)->C (s,l)=.ok (fP (tmG s l) l.len,decide ((fP (tmG s l) l.len).Low<=(fP (tmG s l) l.len).High))
theorem zVB{E:zeC}(N:Big E.N)(h74:Q74 E.c74):zzq (zpM E):=λs l h0 h1 hh=>ae.ext λk=>by
 have:=kV (X:=λn i=>Tz E n s l ((i+1:Nat):Int) (fP (tmG s l) (i+1)) k) (m:=l.len-1) (fin:=k (fP (tmG s l) l.len,decide ((fP (tmG s l) l.len).Low<=(fP (tmG s l) l.len).High))) (λn i hi=>by
  rw[zjG,dZ omY,ed,bG omY,gU,h74 _ _ (hh (i+1) omY),bn,bP omY];rfl) (λn=>by
  rw[zjG,show l.len-1+1=l.len by omega,eU omY];rfl) E.N (by have:=N;omega)
 rw[show(0+1:Nat)=1 from rfl,zaU]at this;rw[zS9,bG omY,h74 _ _ (hh 0 h0),bn,bn];exact this
abbrev zzr(C:au×Sl bF->ae Int):Prop:=∀s (l:Sl bF),sN s->fH s=true->l.len<=1000->(∀i,i<l.len->mD s (l.get i)=true)->C (s,l)=.ok 0
theorem zVC{E:zey}(N:Big E.N)(BF:QSe E.c160)(Ap:zev E.uN):zzr (zpd E):=λs l hs hb hl hh=>ae.ext λk=>by
 rw[zSC,eU omY,dS,BF s hs,bn,hb,bn];refine kV (X:=λn i=>Tt E n s l (i:Int) k) (m:=l.len) (λn i hi=>?_) (λn=>?_) _ (by have:=N;omega)
 ·rw [zjr,dZ omY,ed,bG omY,gU,Ap _ _ hs hb,bn,bP omY];show cond (!mD s (l.get i)) _ _=_;rw[hh i hi];rfl
 ·rw[zjr,eU omY];rfl
def cmS(x:bZ):bZ×Int:=cond (decide (x.Low>x.High)) (⟨0,0⟩,5) (x,0)
abbrev Q50(C:au×Sl bF->ae (bZ×Int)):Prop:=∀s (l:Sl bF),sN s->fH s=true->0<l.len->l.len<=1000->(∀i,i<l.len->mD s (l.get i)=true)->C (s,l)=.ok (cmS (fP (tmG s l) l.len))
theorem s50{E:E50}(N:Big E.N)(zxR:zzr E.zsf)(Ap:zev E.uN)(zo9:zzp E.za1):Q50 (F50 E):=λs l hs hb h0 hl hh=>ae.ext λk=>by
 have hm:(((l.len:Int)-1).toNat:Int)=((l.len-1:Nat):Int):=by omega
 have tm:∀i,i<l.len->zvN (ofP s (l.get i)).ak (l.get i)=tq s (l.get i):=λi hi=>by rw[zjj (hh i hi)];rfl
 have:=kV (X:=λn i=>zcy E n s l (i:Int) (fP (tmG s l) (i+1)) k) (m:=l.len-1) (fin:=k (cmS (fP (tmG s l) l.len))) (λn i hi=>by
  rw[zue,hm,dZ omY,ed,bG omY,gU];show(E.uN (s,l.get (i+1))).T _=_;rw[Ap _ _ hs hb,bn];show(E.za1 (ofP s (l.get (i+1)),l.get (i+1))).T _=_;rw[zo9,bn,tm (i+1) omY,bP omY];rfl) (λn=>by
  rw[zue,hm,show l.len-1+1=l.len by omega,eU omY,dS,kc k];rfl) E.N (by have:=N;omega)
 rw[show(0+1:Nat)=1 from rfl,zaU]at this;rw[e50,zxR s l hs hb hl hh,bn,show((0:Int) != 0)=false from rfl,dS,show((l.len:Int)==0)=false by rw[qdz];omega,dS,bG omY,Ap _ _ hs hb,bn,bG omY];show(E.za1 (ofP s (l.get 0),l.get 0)).T _=_;rw[zo9,bn,bG omY,tm 0 h0,bn];exact this
def O4(l:Sl bF)(w:Sl Int):Nat→Sl bF
  | 0=>⟨0,λ_=>⟨0,0,0,0,0,0⟩⟩
  | i+1=>oO (O4 l w i) (l.get (w.get i).toNat)
theorem oQ(l:Sl bF)(w:Sl Int):∀n,(O4 l w n).len=n
  | 0=>rfl
  | n+1=>by show(O4 l w n).len+1=n+1;rw[oQ l w n]
theorem TZ(l:Sl bF)(w:Sl Int):∀n i,i<n→(O4 l w n).get i=l.get (w.get i).toNat
  | n+1,i,h=>by
    show jL (O4 l w n).len (O4 l w n).get (λ_=>l.get (w.get n).toNat) i=_;rw[je,oQ];by_cases e:i=n
    · rw[eX omY,e]
    · rw[fB omY,TZ l w n i omY]
def InH(l:Sl bF)(w:Sl Int):Prop:=∀i,i<w.len->0<=w.get i/\w.get i<(l.len:Int)
theorem zkY{s:au}{l:Sl bF}(he:Evt s l){w:Sl Int}(h:InH l w):∀i,i<(O4 l w w.len).len->mD s ((O4 l w w.len).get i)=true:=λi hi=>by
 rw[oQ]at hi;rw[TZ _ _ _ _ hi];have:=h i hi;exact dI.1 he.hi _ omY
def ED(s:au)(l:Sl bF)(c:jv):bZ:=fP ⟨c.length,λi=>⟨0,(tq s (l.get ((c[i]?).getD (0,0)).1.toNat)).Low,(tq s (l.get ((c[i]?).getD (0,0)).1.toNat)).High⟩⟩ c.length
theorem zbd{s:au}{l:Sl bF}{t:af}{c:jv}(hc:fA t=c)(h0:0<t.Hits.len):fP (tmG s (O4 l t.Hits t.Hits.len)) (O4 l t.Hits t.Hits.len).len=ED s l c:=by
 unfold ED;rw[oQ,<- hc,kz];refine Ny h0 (λi hi=>?_) _ (kC _);show(⟨0,(tq s ((O4 l t.Hits t.Hits.len).get i)).Low,(tq s ((O4 l t.Hits t.Hits.len).get i)).High⟩:ay)=⟨0,(tq s (l.get (((fA t)[i]?).getD (0,0)).1.toNat)).Low,(tq s (l.get (((fA t)[i]?).getD (0,0)).1.toNat)).High⟩;rw[TZ _ _ _ _ hi,QO hi];rfl
def QF(s:au)(l:Sl bF)(c:jv):Bool:=decide ((ED s l c).Low<=(ED s l c).High)
abbrev Q93(C:Pt aU×af->ae (bZ×Bool)):Prop:=∀s l r t c,Evt s l->InH l t.Hits->0<t.Hits.len->t.Hits.len<=100->fA t=c->C (iY s r l,t)=.ok ((cmS (ED s l c)).1,QF s l c)
theorem s93{E:E93}(N:Big E.N)(h50:Q50 E.c50):Q93 (F93 E):=λs l r t c he hi h0 h1 hc=>ae.ext λk=>by
 rw[e93,bn];refine kV (X:=λn i=>zcE E n (iY s r l) t (i:Int) (O4 l t.Hits i) k) (m:=t.Hits.len) (λn i kN=>?_) (λn=>?_) _ (by have:=N;omega)
 ·have a:=hi i kN;rw[zuq,dZ omY,ed,bG omY,gU,bG (show 0<=t.Hits.get i/\t.Hits.get i<((iY s r l).v.hits.len:Int)from a),jQ (by rw[oQ];omega) omY,bP omY];rfl
 ·rw [zuq,eU omY,dS];show(E.c50 (s,O4 l t.Hits t.Hits.len)).T _=_;rw[h50 _ _ he.sh he.se (by rw[oQ];omega) (by rw[oQ];omega) (zkY he hi),bn,zbd hc h0];have:((cmS (ED s l c)).2==0)=QF s l c:=by
   unfold cmS QF;by_cases h:(ED s l c).Low>(ED s l c).High
   ·rw[dZ h,eU omY];rfl
   ·rw[eU h,dZ omY];rfl
  rw[this]
abbrev zzs(C:Sl bF×Sl Int->ae (Sl bF)):Prop:=∀(l:Sl bF)(w:Sl Int),InH l w->w.len<=100->C (l,w)=.ok (O4 l w w.len)
theorem zVD{E:zeD}(N:Big E.N):zzs (zpN E):=λl w hi h1=>ae.ext λk=>by
 rw[zTb,bn];refine kV (X:=λn i=>TA E n l w (i:Int) (O4 l w i) k) (m:=w.len) (λn i kN=>?_) (λn=>?_) _ (by have:=N;omega)
 ·have a:=hi i kN;rw[zjH,dZ omY,ed,bG omY,gU,bG a,jQ (by rw[oQ];omega) omY,bP omY];rfl
 ·rw[zjH,eU omY];rfl
abbrev Q90(C:au×Sl bF×Sl Int->ae Bool):Prop:=∀s l (w:Sl Int),Evt s l->InH l w->0<w.len->w.len<=100->C (s,l,w)=.ok (decide ((fP (tmG s (O4 l w w.len)) (O4 l w w.len).len).Low<=(fP (tmG s (O4 l w w.len)) (O4 l w w.len).len).High))
theorem s90{E:E90}(zxT:zzs E.c148)(zxU:zzq E.zsn):Q90 (F90 E):=λs l w he hi h0 h1=>ae.ext λk=>by
 rw[e90,zxT _ _ hi h1,bn,zxU _ _ (by rw[oQ];omega) (by rw[oQ];omega) (zkY he hi),bn,bn]
def ET(s:au)(l:Sl bF)(c:jv):Bool:=QF s l c&&iG (qx s l c)
theorem EQ{s:au}{l:Sl bF}{x:Int}{t:af}{c:jv}{j:Nat}(hc:fA t=c)(h:Val s l x c j):InH l t.Hits:=λi hi=>by
 have:=zV hc hi;have m:=(h.mem _ (JB this)).1;have:=h.le;simp only at m;omega
theorem Oi{t:af}{c:jv}(hc:fA t=c)(hn:c≠[]):0<t.Hits.len:=by
 rw[<- kz,hc];exact qdR.2 hn
theorem qR{s:au}{l:Sl bF}{x:Int}{t:af}{c:jv}{j:Nat}(hc:fA t=c)(h:Val s l x c j):t.Hits.len<=l.len:=by
 rw[<- kz,hc];have:=h.le;omega
structure Ev (s : au) (l : Sl bF) (x : Int) : Prop extends Evt s l where
  l24:l.len<=24
  vw:vwB x=true
abbrev zzt(C:Pt aU×af->ae Bool):Prop:=∀s l r x t c j,Ev s l x->Ol x t->fA t=c->Val s l x c j->c≠[]->C (iY s r l,t)=.ok (ET s l c)
theorem zVE{E:zqr}(h93:Q93 E.c93)(NT:zjk E.c105)(zyt:zy7 E.zsB):zzt (zqs E):=λs l r x t c j he ht hc hv hn=>ae.ext λk=>by
 have hl:=qR hc hv;have h24:=he.l24;have G:=EX he.toEvt he.l24 hv hn;obtain⟨y,hy⟩:=zyt (qx s l c) (by have:=G.2;omega);rw[zTM,h93 s l r t c he.toEvt (EQ hc hv) (Oi hc hn) omY hc,bn,bn];unfold ET;cases QF s l c with
 | false=>rfl
 | true =>
  show(E.c105 (iY s r l,t)).T _=_;rw[NT s l r t he.toEvt omY (Fa he.vw ht hc hv hn),bn,IY hc,hy,bn,<- zy8 G];rfl
abbrev zrW(C:au×Sl bF×af->ae Bool):Prop:=∀s l x t c j,Ev s l x->Ol x t->fA t=c->Val s l x c j->c≠[]->C (s,l,t)=.ok (ET s l c)
theorem zVF{E:zqK}(h65:Q65 E.c65)(zyx:zzf E.c145)(h90:Q90 E.c90):zrW (zqL E):=λs l x t c j he ht hc hv hn=>ae.ext λk=>by
 have hl:=qR hc hv;have h24:=he.l24;have G:=EX he.toEvt he.l24 hv hn;rw[zT1,h65 s l t he.toEvt omY (Fa he.vw ht hc hv hn),bn,IY hc,zyx _ G,bn,h90 s l _ he.toEvt (EQ hc hv) (Oi hc hn) omY,bn,zbd hc (Oi hc hn),bn];unfold ET;show cond (iG (qx s l c)) (k (QF s l c)) (k false)=_;cases iG (qx s l c)<;>cases QF s l c<;>rfl
abbrev zzu(C:Int×Pt (Pt aU)×Pt Int->ae Bool):Prop:=∀s l r i k,0<=i/\i<(l.len:Int)->0<=k/\k<(l.len:Int)->C (i,⟨iY s r l⟩,⟨k⟩)=.ok ((l.get i.toNat).ak==(l.get k.toNat).ak)
theorem zVG{E:zqp}:zzu (zqq E):=λs l r i k hi hk=>ae.ext λK=>by
 rw[zTK,bn];exact(bG (p:=0<=i/\i<(l.len:Int)) hi).trans (bG (p:=0<=k/\k<(l.len:Int)) hk)
abbrev zzv(C:Int×Pt (Pt aU)×Pt Int->ae Bool):Prop:=∀s l r i p,0<=i/\i<(l.len:Int)->C (i,⟨iY s r l⟩,⟨p⟩)=.ok ((l.get i.toNat).ak==p)
theorem zVH{E:zqz}:zzv (zqA E):=λs l r i p hi=>ae.ext λK=>by
 rw[e190,bn];exact bG (p:=0<=i/\i<(l.len:Int)) hi
abbrev zeZ:=dY 180 Unit (Pt (Pt aU)×Pt Int) ⊕ dY 190 Unit (Pt (Pt aU)×Pt Int)
def zrX(l:Sl bF):zeZ→Int→Bool
  | .inl c,h=>(l.get h.toNat).ak==(l.get c.v.2.v.toNat).ak
  | .inr c,h=>(l.get h.toNat).ak==c.v.2.v
def okU(s:au)(l:Sl bF)(r:bJ):zeZ→Prop
  | .inl c=>c.v.1.v=iY s r l/\0<=c.v.2.v/\c.v.2.v<(l.len:Int)
  | .inr c=>c.v.1.v=iY s r l
abbrev QUx{γ:Type}(i:γ->zeZ)(C:Sl Int×γ->ae Int):Prop:=∀s l r (w:Sl Int) (c:γ),InH l w->w.len<=1000->okU s l r (i c)->C (w,c)=.ok (fst (λj=>zrX l (i c) (w.get j)) w.len 0)
abbrev QUa{γ:Type}(i:γ->zeZ)(C:Sl Int×γ->ae Bool):Prop:=∀s l r (w:Sl Int) (c:γ),InH l w->w.len<=1000->okU s l r (i c)->C (w,c)=.ok (!fG (λj=>!zrX l (i c) (w.get j)) w.len)
abbrev zrY(C:Sl Int×zeZ->ae Int):Prop:=QUx id C
abbrev zrZ(C:Sl Int×zeZ->ae Bool):Prop:=QUa id C
theorem zkZ{E:vS}(N:Big E.N)(zyE:zzu E.zls):QUx .inl (Eh E):=λs l r w c hi hw ho=>ae.ext λk=>by
 obtain⟨⟨⟩,⟨a⟩,⟨b⟩⟩:=c;obtain⟨rfl,hb⟩:=ho;rw[zj9,bn];refine Ip (L:=λn i=>xg E n w _ i k) (p:=λj=>zrX l (.inl ⟨(),⟨iY s r l⟩,⟨b⟩⟩) (w.get j)) (m:=w.len) (k:=k) omY (λn i kN=>?_) (λn=>?_) _ (by have:=N;omega)
 ·rw [Na,dZ omY,ed,bG omY,gU];show(E.zls (w.get i,⟨iY s r l⟩,⟨b⟩)).T _=_;rw[zyE s l r _ _ (hi i kN) hb,bn];rfl
 ·rw[Na,eU omY];rfl
theorem zk0{E:vT}(N:Big E.N)(zyF:zzv E.zlu):QUx .inr (Ei E):=λs l r w c hi hw ho=>ae.ext λk=>by
 obtain⟨⟨⟩,⟨a⟩,⟨b⟩⟩:=c;have ho:a=iY s r l:=ho;subst ho;rw[zkb,bn];refine Ip (L:=λn i=>xh E n w _ i k) (p:=λj=>zrX l (.inr ⟨(),⟨iY s r l⟩,⟨b⟩⟩) (w.get j)) (m:=w.len) (k:=k) omY (λn i kN=>?_) (λn=>?_) _ (by have:=N;omega)
 ·rw [Nb,dZ omY,ed,bG omY,gU];show(E.zlu (w.get i,⟨iY s r l⟩,⟨b⟩)).T _=_;rw[zyF s l r _ _ (hi i kN),bn];rfl
 ·rw[Nb,eU omY];rfl
theorem zVI{f:Sl Int×dY 180 Unit (Pt (Pt aU)×Pt Int)->ae Int}{g:Sl Int×dY 190 Unit (Pt (Pt aU)×Pt Int)->ae Int}(a:QUx .inl f)(b:QUx .inr g):zrY (ae.two f g):=λs l r w c hi hw ho=>by
 rcases c with c|c
 ·exact a s l r w c hi hw ho
 ·exact b s l r w c hi hw ho
theorem zk1{E:DZ}(zaH:zrY E.c210):QUa .inl (D7 E):=λs l r w c hi hw ho=>ae.ext λk=>by rw[zjR,zaH s l r w (.inl c) hi hw ho,bn,bn,xu];rfl
theorem zk2{E:D8}(zaH:zrY E.c210):QUa .inr (Ea E):=λs l r w c hi hw ho=>ae.ext λk=>by rw[zjT,zaH s l r w (.inr c) hi hw ho,bn,bn,xu];rfl
theorem zVJ{f:Sl Int×dY 180 Unit (Pt (Pt aU)×Pt Int)->ae Bool}{g:Sl Int×dY 190 Unit (Pt (Pt aU)×Pt Int)->ae Bool}(a:QUa .inl f)(b:QUa .inr g):zrZ (ae.two f g):=λs l r w c hi hw ho=>by
 rcases c with c|c
 ·exact a s l r w c hi hw ho
 ·exact b s l r w c hi hw ho
theorem zf0{l:Sl bF}{t:af}{c:jv}(hc:fA t=c)(p:Int->Bool):(!fG (λj=>!p (t.Hits.get j)) t.Hits.len)=c.any λq=>p q.1:=by
 rw[Ut,NR,<- qjt,dI,qd1];constructor
 ·intro h;apply qdG;intro hn;refine h λj hj=>?_;cases e:p (t.Hits.get j)with
  | false=>rfl
  | true=>exact(hn ⟨_,JB (zV hc hj),e⟩).elim
 ·rintro ⟨q, hq, e⟩ h;obtain⟨j,hj,rfl⟩:=qdA hq;have hl:j < t.Hits.len:=by rw[<- kz,hc];exact hj
  have:=zV hc hl;rw[BR hj]at this;have:=YR this;have h2:=h j hl;rw[this]at e;rw[e]at h2;cases h2
def chs(w:Sl af):List jv:=(List.range w.len).map λi=>fA (w.get i)
theorem kY(w:Sl af):(chs w).length=w.len:=by simp[chs]
theorem zr0{w:Sl af}{i:Nat}(h:i<w.len):(chs w)[i]? = some (fA (w.get i)):=by simp[chs,qjv h]
def zW(x:Int)(w:Sl af):Prop:=∀i,i<w.len->Ol x (w.get i)
theorem zcV(w:Sl af)(t:af):chs (oO w t)=chs w++[fA t]:=by
 unfold chs;show(List.range (w.len+1)).map _=_;rw[qjm,QQ];congr 1
 ·exact qdg λi hi=>by
   show fA (jL w.len w.get (λ_=>t) i)=_;rw[je,fB (by have:=JC.1 hi;omega)]
 ·show [fA (jL w.len w.get (fun _=>t) w.len)]=_;rw[je,eX (kC _)]
theorem XO{x:Int}{w:Sl af}{t:af}(h:zW x w)(ht:Ol x t):zW x (oO w t):=λi hi=>by
 show Ol x (jL w.len w.get (λ_=>t) i);rw[je];by_cases e:w.len<=i
 ·rw[eX e];exact ht
 ·rw[fB e];exact h i omY
def Ua(x:Int)(t:af)(p:Int×Int):af:=⟨x,⟨t.Hits.len+1,jL t.Hits.len t.Hits.get λ_=>p.1⟩,⟨t.bz.len+1,jL t.bz.len t.bz.get λ_=>p.2⟩⟩
theorem zcW{x:Int}{t:af}{p:Int×Int}(h:t.bz.len=t.Hits.len):fA (Ua x t p)=fA t++[p]:=by
 refine zkT rfl (λj hj=>?_) ?_
 ·show jL t.Hits.len t.Hits.get (fun _=>p.1) j=_∧jL t.bz.len t.bz.get (fun _=>p.2) j=_;rw[je,je,fB omY,fB omY];exact⟨rfl,rfl⟩
 ·show jL t.Hits.len t.Hits.get (fun _=>p.1) t.Hits.len=_∧jL t.bz.len t.bz.get (fun _=>p.2) t.Hits.len=_;rw[je,je,eX omY,eX omY];exact⟨rfl,rfl⟩
theorem GI{x:Int}{t:af}{p:Int×Int}(h:t.bz.len=t.Hits.len):Ol x (Ua x t p):=⟨rfl,by show t.bz.len+1=t.Hits.len+1;rw[h]⟩
abbrev zHi:=af×Int×Bc 143 (Pt aU)×Bc 38 Int×Bw 30 43 3 56 af×Bs 255 178 2 4×Unit
def kF(s:au)(l:Sl bF)(x:Int):List jv:=gr (ET s l) (Cb l) (O8 s l x) 30 [] 0
theorem zcX(s:au)(l:Sl bF)(x:Int):Val s l x [] 0:=⟨⟨kC _,Cf _⟩,(λp h=>by cases h),List.Pairwise.nil⟩
abbrev zHj(C:Pt aU×Int->ae (Sl af×Bool)):Prop:=∀s l r x,Ev s l x->(kF s l x).length<=2000->∃w,C (iY s r l,x)=.ok (w,true)/\chs w=kF s l x/\zW x w
abbrev XP:=(Bool×Int)×(Unit×Unit×Pt aU×Int×Sl af×Unit×Unit)
def zk3(s:au)(l:Sl bF)(r:bJ)(x:Int)(G:List jv)(w:Sl af)(R:XP):Prop :=
 (w.len+G.length<=2000/\∃w',R=((false,0),(),(),iY s r l,x,w',(),())/\chs w'=chs w++G/\zW x w')\/(2000<w.len+G.length/\∃w',R=((true,x),(),(),iY s r l,x,w',(),()))
def QMp(f:Nat)(C:zHi->ae XP):Prop:=∀s l r x t c (i:Nat) (w:Sl af),Ev s l x->Val s l x c i->fA t=c->t.bz.len=t.Hits.len->l.len<i+f->zW x w->w.len<=2000 ->
 ∃R,C (t,(i:Int),⟨iY s r l⟩,⟨x⟩,⟨w⟩,{},())=.ok R/\zk3 s l r x (gr (ET s l) (Cb l) (O8 s l x) f c i) w R
theorem zHk{E:zeJ}{f:Nat}(zaz:zrZ E.NH)(zys:zzt E.c182)(i173:zvL E.i173)(hm:QMp f E.IQ):QMp (f+1) (zqn E):=λs l r x t c i w he hv hc ht hf hw hn=>by
 have h24:=he.l24;have hle:=hv.le;have hlen:=qR hc hv
 have key:∀(ys:jv)(w:Sl af),(∀y∈ys,y∈O8 s l x i)->zW x w->w.len<=2000 ->
   ∃R,(∀(A:Type)(k:XP->Option A)(w0:Sl af),qc E ys t (i:Int) (iY s r l) x w0 (iY s r l) x w k=k R)/\zk3 s l r x (ys.flatMap λp=>cond (Cb l c p.1 || !ET s l (c++[p])) [] ((c++[p])::gr (ET s l) (Cb l) (O8 s l x) f (c++[p]) (p.1.toNat+1))) w R:=by
  intro ys
  induction ys with
  | nil=>intro w _ hw hn;exact⟨_,λA k w0=>zqo ..,.inl ⟨by simpa using hn,w,rfl,by simp,hw⟩⟩
  | cons y ys ih =>
   intro w hy hw hn;rw[oK];have Yz:∀z∈ys,z∈O8 s l x i:=λz hz=>hy z (jU _ hz);obtain⟨_,y1,_,_⟩:=XH (hy y lq);have u:(E.NH (t.Hits,.inl ⟨(),⟨iY s r l⟩,⟨y.1⟩⟩))=.ok (Cb l c y.1):=by
    rw[zaz s l r t.Hits (.inl ⟨(),⟨iY s r l⟩,⟨y.1⟩⟩) (EQ hc hv) omY ⟨rfl,(by show 0<=y.1;omega),(by show y.1<(l.len:Int);omega)⟩];exact jX ae.ok (zf0 (l:=l) hc λh=>(l.get h.toNat).ak==(l.get y.1.toNat).ak)
   have skip:∀(A:Type)(k:XP->Option A)(w0:Sl af),Cb l c y.1=true->qc E (y::ys) t (i:Int) (iY s r l) x w0 (iY s r l) x w k=qc E ys t (i:Int) (iY s r l) x w0 (iY s r l) x w k:=λA k w0 e=>by
    rw[zjQ,u,bn,e];rfl
   cases hu:Cb l c y.1 with
   | true =>
    obtain⟨R,a,b⟩:=ih w Yz hw hn;exact⟨R,λA k w0=>by rw[skip A k w0 hu,a],by simpa using b⟩
   | false =>
    have hv2:=hv.snoc (hy y lq) hu;have hc2:fA (Ua x t y)=c++[y]:=by rw[zcW ht,hc]
    have ag:=zys s l r x (Ua x t y) (c++[y]) _ he (GI ht) hc2 hv2 (by simp);have st:∀(A:Type)(k:XP->Option A)(w0:Sl af),qc E (y::ys) t (i:Int) (iY s r l) x w0 (iY s r l) x w k=cond (!ET s l (c++[y])) (qc E ys t (i:Int) (iY s r l) x w0 (iY s r l) x w k) (aV (room (w.len+1) 56) (cond (decide ((w.len:Int)+1>2000)) (k ((true,x),(),(),iY s r l,x,oO w (Ua x t y),(),())) ((E.IQ (Ua x t y,aO (y.1+1),⟨iY s r l⟩,⟨x⟩,⟨oO w (Ua x t y)⟩,{},())).T λr3=>cond r3.1.1 (k ((true,r3.1.2),(),(),r3.2.2.2.1,r3.2.2.2.2.1,r3.2.2.2.2.2.1,(),())) (qc E ys t (i:Int) (iY s r l) x w0 r3.2.2.2.1 r3.2.2.2.2.1 r3.2.2.2.2.2.1 k)))):=λA k w0=>by
     rw[zjQ,u,bn,hu,dS,jQ omY omY,jQ omY omY,jQ omY omY,jQ omY omY];show(E.c182 (iY s r l,Ua x t y)).T _=_;rw[ag,bn];rfl
    cases ha:ET s l (c++[y])with
    | false =>
     obtain⟨R,a,b⟩:=ih w Yz hw hn;exact⟨R,λA k w0=>by rw[st,ha];exact a A k w0,by simpa using b⟩
    | true =>
     simp only[OZ,qzf,dS];have e1:aO (y.1+1)=((y.1.toNat+1:Nat):Int):=by rw[bf omY omY];omega
     by_cases h0:w.len+1<=2000
     case neg =>
      refine⟨((true,x),(),(),iY s r l,x,oO w (Ua x t y),(),()),λA k w0=>?_,.inr ⟨by rw[Jz,Cc];omega,_,rfl⟩⟩;rw[st,ha,OZ,dS,jQ omY omY,dZ omY,ed]
     obtain⟨R1,a1,o1⟩:=hm s l r x (Ua x t y) (c++[y]) (y.1.toNat+1) (oO w (Ua x t y)) he hv2 hc2 (GI (x:=x) ht).2 omY (XO hw (GI ht)) h0;have lw:(oO w (Ua x t y)).len=w.len+1:=rfl;rcases o1 with⟨n1,w1,rfl,b1,d1⟩|⟨n1,w1,rfl⟩
     ·have l1:w1.len=w.len+1+(gr (ET s l) (Cb l) (O8 s l x) f (c++[y]) (y.1.toNat+1)).length:=by
       rw[<- kY,b1,Jz,kY];rfl
      obtain⟨R,a,b⟩:=ih w1 Yz d1 omY;refine⟨R,λA k w0=>?_,?_⟩
      ·rw [st,ha,e1,a1,bn,OZ,dS,jQ omY omY,eU omY,dS];exact a A k w0
      ·rcases b with ⟨n2, w', e2, b2, d2⟩ | ⟨n2, w', e2⟩
       ·exact .inl ⟨by rw[Jz,Cc];omega,w',e2,by rw[b2,b1,zcV,hc2];simp,d2⟩
       ·exact .inr ⟨by rw[Jz,Cc];omega,w',e2⟩
     ·refine⟨_,fun A k w0 => ?_,.inr ⟨by rw [Jz,Cc];omega,w1,rfl⟩⟩;rw[st,ha,e1,a1,bn,OZ,dS,jQ omY omY,eU omY,dS];rfl
 obtain⟨R,a,b⟩:=key (O8 s l x i) w (λy hy=>hy) hw hn;refine⟨R,ae.ext λk=>?_,b⟩;rw[zTI,i173 s l r x i he.toEvt hle.2,bn,bn];exact a _ k w
abbrev zk4(C:Pt aU×Int->ae (Sl af×Bool)):Prop:=∀s l r x,Ev s l x->((kF s l x).length<=2000/\∃w,C (iY s r l,x)=.ok (w,true)/\chs w=kF s l x/\zW x w)\/(2000<(kF s l x).length/\∃w,C (iY s r l,x)=.ok (w,false))
theorem zHl{E:zjA}(hm:QMp 30 E.IQ):zk4 (zpt E):=λs l r x he=>by
 have h24:=he.l24;obtain⟨R,a,b⟩:=hm s l r x ⟨0,⟨0,λ_=>default⟩,⟨0,λ_=>default⟩⟩ [] 0 ⟨0,λ_=>⟨0,⟨0,λ_=>0⟩,⟨0,λ_=>0⟩⟩⟩ he (zcX s l x) rfl rfl omY (λi hi=>absurd hi (UW i)) (Cf _);rcases b with⟨n,w',rfl,b,d⟩|⟨n,w',rfl⟩
 ·exact .inl ⟨by have h:0+(kF s l x).length<=2000:=n;omega,w',ae.ext λk=>by rw[e127];show(E.IQ (_,((0:Nat):Int),_)).T _=_;rw[a,bn,bn];rfl,b,d⟩
 ·exact .inr ⟨by have h:2000<0+(kF s l x).length:=n;omega,_,ae.ext λk=>by rw[e127];show(E.IQ (_,((0:Nat):Int),_)).T _=_;rw[a,bn,bn];rfl⟩
end Go.Proofs
namespace Go.Proofs
open Go Go.Pm
theorem zM9{C:Pt aU×Int->ae (Sl af×Bool)}(h:zk4 C):zHj C:=λs l r x he hn=>by
 rcases h s l r x he with⟨_,a⟩|⟨a,_⟩
 ·exact a
 ·omega
end Go.Proofs
namespace Go.Proofs
open Go Go.Pm
set_option maxRecDepth 100000
abbrev zzy(C:af×Int×Int->ae af):Prop:=∀t i k,t.Hits.len<=1000->t.bz.len<=1000->C (t,i,k)=.ok (Ua t.View t (i,k))
theorem zVK{E:zrd}:zzy (zre E):=λt i k h1 h2=>ae.ext λK=>by
 rw[e227,bn,jQ omY omY,jQ omY omY,jQ omY omY,jQ omY omY];rfl
abbrev stC(s:au)(l:Sl bF)(x:Int)(f:Nat)(c:jv):List jv->Int×Int->List jv:=λout p=>cond (Cb l c p.1||(decide (2000<out.length) || !ET s l (c++[p]))) out (O7 (ET s l) (Cb l) (O8 s l x) f (out++[c++[p]]) (c++[p]) (p.1.toNat+1))
def QW(f:Nat)(C:(au×Sl bF×af×Int)×Sl af->ae (Sl af)):Prop:=∀s l x t c (i:Nat) (w:Sl af),Ev s l x->Val s l x c i->fA t=c->Ol x t->l.len<i+f->zW x w->w.len<=2001 ->
 ∃w',C ((s,l,t,(i:Int)),w)=.ok w'/\chs w'=O7 (ET s l) (Cb l) (O8 s l x) f (chs w) c i/\zW x w'
theorem zk5{s:au}{l:Sl bF}{x:Int}{f:Nat}{c:jv}{i:Int}(h:Cb l c i=true):∀(d k:Nat)(out:List jv),(sdK i d k).foldl (stC s l x f c) out=out
  | 0,_,_=>rfl
  | d+1,k,out=>by
    rw[sdK,YC];show(sdK i d (k+1)).foldl _ (cond (Cb l c i||_) out _)=out;rw[h];exact zk5 h d (k+1) out
theorem XQ{s:au}{l:Sl bF}{x:Int}{f:Nat}{c:jv}{i:Int}:∀(d k:Nat)(out:List jv),2000<out.length→(sdK i d k).foldl (stC s l x f c) out=out
  | 0,_,_,_=>rfl
  | d+1,k,out,h=>by
    rw[sdK,YC];have:stC s l x f c out (i,(k:Int))=out:=by
      show cond (Cb l c i||(decide (2000<out.length)||_)) out _=out;rw[dZ h,jqh,jqg];rfl
    rw[this];exact XQ d (k+1) out h
theorem Ub{ag:jv→Bool}{us:jv→Int→Bool}{sd:Nat→jv}:∀{f out c i},out.length≤2001→(O7 ag us sd f out c i).length≤2001
  | 0,out,c,i,h=>h
  | f+1,out,c,i,h=>by
    simp only[O7];generalize sd i=l
    induction l generalizing out with
    | nil=>exact h
    | cons p l ih =>
      rw[YC];refine ih _ ?_;cases hc:us c p.1||(decide (2000<out.length) || !ag (c++[p]))with
      | true=>exact h
      | false =>
        simp only[qjq,dq2]at hc;exact Ub (by rw[Jz];simp only[Cc,UJ];omega)
theorem zVL{E:zaL}{f:Nat}(N:Big E.N)(h87:Q87 E.c87)(h75:Q75 E.c75)(zyw:zzy E.c227)(zaD:zrW E.c196)(hm:QW f E.NJ):QW (f+1) (zqJ E):=λs l x t c i w he hv hc ht hf hw hn=>by
 have h24:=he.l24;have hle:=hv.le;have hlen:=qR hc hv;have hN:=N
 -- the kW of one hit
 have inn:∀(n0:Nat)(a:Nat),i<=a->a<l.len->QN s l a=x->Cb l c (a:Int)=false->∀(m k n1:Nat)(w:Sl af),k+m=yD s l a->m<n1->zW x w->w.len<=2001 ->
   ∃w',(∀(A:Type)(K:Sl af->Option A),xe E n0 n1 s l t (a:Int) (yC s (l.get a)) (k:Int) w K=rY E n0 s l t ((a+1:Nat):Int) w' K)/\chs w'=(sdK (a:Int) m k).foldl (stC s l x f c) (chs w)/\zW x w':=by
  intro n0 a ha1 ha2 hva NL m
  induction m with
  | zero =>
   intro k n1 w hk hn1 hw hwl;obtain⟨n1,rfl⟩:∃n',n1=n'+1:=⟨n1-1,omY⟩;refine⟨w,λA K=>?_,rfl,hw⟩;rw[zaM,eU (by have:(yC s (l.get a)).len=yD s l a:=rfl;omega),dS,bP omY]
  | succ m ih =>
   intro k n1 w hk hn1 hw hwl;obtain⟨n1,rfl⟩:∃n',n1=n'+1:=⟨n1-1,omY⟩;have hgl:(yC s (l.get a)).len=yD s l a:=rfl;have hg2:=GV s l a;by_cases hfull:2000<w.len
   ·refine⟨w,fun A K => ?_,(XQ _ _ _ (by rw [kY];exact hfull)).symm,hw⟩;rw[zaM,dZ omY,ed,eU omY,dS,bP omY]
   ·have hp : ((a : Int), (k : Int)) ∈ O8 s l x i := (Y5 hle.2).2 ⟨by simp only; omega, by simpa using hva, by simp only; omega, by simp only [gU]; omega⟩;have hv2:=hv.snoc hp NL;have hc2:fA (Ua x t ((a:Int),(k:Int)))=c ++ [((a:Int),(k:Int))]:=by rw[zcW ht.2,hc]
    have ag:=zaD s l x (Ua x t ((a:Int),(k:Int))) _ _ he (GI ht.2) hc2 hv2 (by simp);have st:∀(A:Type)(K:Sl af->Option A),xe E n0 (n1+1) s l t (a:Int) (yC s (l.get a)) (k:Int) w K=cond (ET s l (c++[((a:Int),(k:Int))])) ((E.NJ ((s,l,Ua x t ((a:Int),(k:Int)),((a+1:Nat):Int)),oO w (Ua x t ((a:Int),(k:Int))))).T λr3=>xe E n0 n1 s l t (a:Int) (yC s (l.get a)) ((k+1:Nat):Int) r3 K) (xe E n0 n1 s l t (a:Int) (yC s (l.get a)) ((k+1:Nat):Int) w K):=λA K=>by
     rw[zaM,dZ omY,ed,dZ omY,ed,zyw _ _ _ omY (by rw[ht.2];omega),bn,ht.1,ag,bn,jQ omY omY,bP omY,bP omY];rfl
    rw[sdK,YC];cases uP:ET s l (c++[((a:Int),(k:Int))])with
    | false =>
     have e:stC s l x f c (chs w) ((a:Int),(k:Int))=chs w:=by
      show cond (Cb l c (a:Int)||(_ || !ET s l (c++[((a:Int),(k:Int))]))) _ _=_;rw[uP,qdU,jqg,jqg];rfl
     rw[e];obtain⟨w',a1,a2,a3⟩:=ih (k+1) n1 w omY omY hw hwl;exact⟨w',λA K=>by rw[st,uP];exact a1 A K,a2,a3⟩
    | true =>
     have e:stC s l x f c (chs w) ((a:Int),(k:Int))=O7 (ET s l) (Cb l) (O8 s l x) f (chs w++[c++[((a:Int),(k:Int))]]) (c++[((a:Int),(k:Int))]) (a+1):=by
      show cond (Cb l c (a:Int)||(decide (2000<(chs w).length) || !ET s l (c++[((a:Int),(k:Int))]))) _ _=_;rw[uP,NL,kY,eU hfull];rfl
     rw[e];obtain⟨w1,b1,b2,b3⟩:=hm s l x (Ua x t ((a:Int),(k:Int))) _ (a+1) (oO w (Ua x t ((a:Int),(k:Int)))) he hv2 hc2 (GI ht.2) omY (XO hw (GI ht.2)) (by show w.len+1<=_;omega);rw[zcV,hc2]at b2;have l1:w1.len<=2001:=by
      rw[<- kY,b2];exact Ub (by rw[Jz,kY];simp only[Cc,UJ];omega)
     obtain⟨w',a1,a2,a3⟩:=ih (k+1) n1 w1 omY omY b3 l1;rw[b2]at a2;exact⟨w',λA K=>by rw[st,uP,ed,b1,bn];exact a1 A K,a2,a3⟩
 have zr1:∀(ys:jv)(out:List jv),out.length<=2001->(ys.foldl (stC s l x f c) out).length<=2001:=by
  intro ys
  induction ys with
  | nil=>intro out h;exact h
  | cons p ys ih =>
   intro out h;rw[YC];refine ih _ ?_;show(cond (Cb l c p.1||(decide (2000<out.length) || !ET s l (c++[p]))) out _).length<=_;cases hq:Cb l c p.1||(decide (2000<out.length) || !ET s l (c++[p]))with
   | true=>exact h
   | false =>
    simp only[qjq,dq2]at hq;exact Ub (by rw[Jz];simp only[Cc,UJ];omega)
 have key:∀(d a n:Nat)(w:Sl af),a+d=l.len->i<=a->d<n->zW x w->w.len<=2001->∃w',(∀(A:Type)(K:Sl af->Option A),rY E n s l t (a:Int) w K=K w')/\chs w'=(sdL s l x d a).foldl (stC s l x f c) (chs w)/\zW x w':=by
  intro d
  induction d with
  | zero =>
   intro a n w ha hi hn hw hwl;obtain⟨n,rfl⟩:∃n',n=n'+1:=⟨n-1,omY⟩;exact⟨w,λA K=>by rw[zj0,eU omY];rfl,rfl,hw⟩
  | succ d ih =>
   intro a n w ha hi hn hw hwl;obtain⟨n,rfl⟩:∃n',n=n'+1:=⟨n-1,omY⟩;have Ob:=he.pl (i:=a) omY;rw[sdL,jqB];have us:E.c87 (l,t.Hits,(l.get a).ak)=.ok (Cb l c (a:Int)):=by
    rw[h87 l t.Hits _ omY (EQ hc hv)];refine jX ae.ok ?_;have:=zf0 (l:=l) hc λh=>(l.get h.toNat).ak==(l.get a).ak;unfold Cb;rw[gU,<- this];rfl
   have st:∀(A:Type)(K:Sl af->Option A),rY E (n+1) s l t (a:Int) w K=cond (QN s l a != x) (rY E n s l t ((a+1:Nat):Int) w K) (cond (Cb l c (a:Int)) (rY E n s l t ((a+1:Nat):Int) w K) (xe E n E.N s l t (a:Int) (yC s (l.get a)) ((0:Nat):Int) w K)):=λA K=>by
    rw[zj0,dZ omY,ed,bG omY,gU,bG Ob,us,bn,h75 s _ he.sh Ob,bn,bP omY,ht.1];rfl
   cases hv1:QN s l a==x with
   | false =>
    have e1:(QN s l a != x)=true:=by rw[bne,hv1];rfl
    rw[e1]at st;obtain⟨w',a1,a2,a3⟩:=ih (a+1) n w omY omY omY hw hwl;exact⟨w',λA K=>by rw[st];exact a1 A K,a2,a3⟩
   | true =>
    have e1:(QN s l a != x)=false:=by rw[bne,hv1];rfl
    rw[e1]at st;rw[ed];cases hu:Cb l c (a:Int)with
    | true =>
     rw[hu]at st;obtain⟨w',a1,a2,a3⟩:=ih (a+1) n w omY omY omY hw hwl;exact⟨w',λA K=>by rw[st];exact a1 A K,by rw[zk5 hu];exact a2,a3⟩
    | false =>
     rw[hu]at st;obtain⟨w1,b1,b2,b3⟩:=inn n a hi omY (eq_of_beq hv1) hu (yD s l a) 0 E.N w omY (by have:=GV s l a;omega) hw hwl;have l1:w1.len<=2001:=by
      rw[<- kY,b2];exact zr1 _ _ (by rw[kY];exact hwl)
     obtain⟨w',a1,a2,a3⟩:=ih (a+1) n w1 omY omY omY b3 l1;rw[b2]at a2;exact⟨w',λA K=>by rw[st];exact(b1 A K).trans (a1 A K),a2,a3⟩
 obtain⟨w',a1,a2,a3⟩:=key (l.len-i) i E.N w omY (kC _) omY hw hn;refine⟨w',ae.ext λK=>by rw[e195,bn];exact a1 _ K,?_,a3⟩;rw[a2,O7];rfl
def UD(s:au)(l:Sl bF)(x:Int):List jv:=O7 (ET s l) (Cb l) (O8 s l x) 30 [] [] 0
theorem zcY{s:au}{l:Sl bF}{x:Int}(h:(UD s l x).length<=2000):UD s l x=kF s l x:=by
 have:=(zkM (f:=30) (out:=[]) (c:=[]) (i:=0)).2 h;rw[Pg]at this;exact this
abbrev zzz(C:au×Sl bF×Int->ae (Sl af×Bool)):Prop:=∀s l x,Ev s l x->∃w,C (s,l,x)=.ok (w,decide ((UD s l x).length<=2000))/\chs w=UD s l x/\zW x w/\w.len<=2001
theorem zVM{E:zpT}(hm:QW 30 E.NJ):zzz (zpU E):=λs l x he=>by
 have h24:=he.l24;obtain⟨w',a,b,d⟩:=hm s l x ⟨x,⟨0,λ_=>default⟩,⟨0,λ_=>default⟩⟩ [] 0 ⟨0,λ_=>⟨0,⟨0,λ_=>default⟩,⟨0,λ_=>default⟩⟩⟩ he (zcX s l x) rfl ⟨rfl,rfl⟩ omY (λi hi=>absurd hi (UW i)) (Cf _);have hb:chs w'=UD s l x:=b;refine⟨w',ae.ext λk=>?_,hb,d,?_⟩
 ·rw [e153];show (E.NJ ((_,_,_,((0:Nat):Int)),_)).T _=_;rw[a,bn,bn];have:decide ((w'.len:Int)<=2000)=decide ((UD s l x).length<=2000):=by rw[<- hb,kY];exact jqK.2 omY
  rw[this]
 ·rw[<- kY,hb];exact Ub (Cf _)
abbrev zzA(C:Int->ae Bool):Prop:=∀x,C x=.ok false
theorem zVN{E:zrn}:zzA (zro E):=λx=>ae.ext λk=>by rw[e237,bn,show(x != x)=false by simp]
abbrev zzB(C:Int×Int->ae Bool):Prop:=∀a b,C (a,b)=.ok (decide (a<b))
theorem zVO{E:zrl}(Xd:zrL E.NI):zzB (zrm E):=λa b=>ae.ext λk=>by rw[zUr,Xd,bn,bn];rfl
theorem zzC{a:Int}(h:0<=a/\a<=1000000):aO (EZ .u64 (IntKind.u64.wrap (aO a)) 1)=a/2:=by
 have e1:aO a=a:=bf omY omY;have e2:IntKind.u64.wrap a=a:=by
  have hb:IntKind.u64.bits=64:=rfl;have hs:IntKind.u64.signed=false:=rfl;unfold IntKind.wrap;rw[hb,hs];simp only[qdf,qdE,qjr];omega
 have e3:EZ .u64 a 1=a/2:=by
  show a.fdiv (2^(min (1:Int).toNat 64))=_;rw[jqV _ (by decide)];rfl
 rw[e1,e2,e3,bf omY omY]
def hasB(w:Sl Int)(x:Int):Bool:=!fG (λj=>!decide (w.get j=x)) w.len
theorem Iu{w:Sl Int}{x:Int}:hasB w x=true↔∃j,j<w.len/\w.get j=x:=by
 unfold hasB;rw[NR,<- qjt,dI];constructor
 ·intro h;apply qdG;intro hc;exact h λi hi=>by simpa using λe=>hc ⟨i,hi,e⟩
 ·rintro⟨j,hj,e⟩ h;have:=h j hj;simp[e]at this
def zr2(w:Sl Int):Prop:=∀i j,i<j->j<w.len->w.get i<w.get j
abbrev zzD(C:Sl Int×Int->ae (Int×Bool)):Prop:=∀w x,zr2 w->w.len<=1000->∃r,C (w,x)=.ok (r,hasB w x)
theorem zVP{E:zeO}(N:Big E.N)(zyB:zzB E.c236)(zyC:zzA E.zlv):zzD (zqV E):=λw x hw hl=>by
 have key:∀(d i j n:Nat),i+d=j->j<=w.len->d<n->(∀p,p<i->w.get p<x)->(∀p,j<=p->p<w.len->x<=w.get p)->∃r,∀(A:Type)(k:Int×Bool->Option A),zu E n w x (i:Int) (j:Int) k=k (r,hasB w x):=by
  intro d
  induction d using Nat.strongRecOn with
  | _ d ih =>
   intro i j n hd hj hn h1 h2;obtain⟨n,rfl⟩:∃n',n=n'+1:=⟨n-1,omY⟩;by_cases h0:d=0
   ·have e : i = j := by omega
    subst e;have no:(i<w.len->w.get i≠x)->hasB w x=false:=λhn=>by
     cases hb:hasB w x with
     | false=>rfl
     | true =>
      obtain⟨p,hp,e⟩:=Iu.1 hb;rcases qdB p i with q|q|q
      ·have:=h1 p q;omega
      ·subst q;exact absurd e (hn hp)
      ·have a:=hw i p q hp;have:=h2 i (kC _) omY;omega
    by_cases hi:i<w.len
    ·by_cases hx : w.get i = x
     ·refine⟨(i:Int),fun A k => ?_⟩;rw[TI,eU omY,dS,dZ omY,ed,bG omY,gU,show(w.get i==x)=true by simpa using hx,ed,Iu.2 ⟨i,hi,hx⟩]
     ·refine⟨(i:Int),fun A k => ?_⟩;rw[TI,eU omY,dS,dZ omY,ed,bG omY,gU,show(w.get i==x)=false by simpa using hx,dS,bG omY,zyC,bn,no λ_=>hx];rfl
    ·refine⟨(i:Int),fun A k => ?_⟩;rw[TI,eU omY,dS,eU omY,dS,no λh=>absurd h hi]
   ·have em : aO (EZ .u64 (IntKind.u64.wrap (aO ((i : Int) + (j : Int)))) 1) = (((i + j) / 2 : Nat) : Int) := by rw [zzC omY]; omega
    generalize hm:(i+j)/2=m at em;have m1:i<=m/\m<j:=by omega
    have st:∀(A:Type)(k:Int×Bool->Option A),zu E (n+1) w x (i:Int) (j:Int) k=cond (decide (w.get m<x)) (zu E n w x ((m+1:Nat):Int) (j:Int) k) (zu E n w x (i:Int) (m:Int) k):=λA k=>by
     rw[TI,em,dZ omY,ed,bG omY,gU,zyB,bn,bP omY]
    by_cases c:w.get m<x
    ·obtain⟨r,hr⟩:=ih (j-(m+1)) omY (m+1) j n omY hj omY (λp hp=>by
      by_cases e:p=m
      ·rw[e];exact c
      ·have:=hw p m omY omY;omega) h2
     exact⟨r,λA k=>by rw[st,dZ c];exact hr A k⟩
    ·obtain⟨r,hr⟩:=ih (m-i) omY i m n omY omY omY h1 (λp hp hp2=>by
      by_cases e:p=m
      ·rw[e];omega
      ·have:=hw m p omY hp2;omega)
     exact⟨r,λA k=>by rw[st,eU c];exact hr A k⟩
 obtain⟨r,hr⟩:=key w.len 0 w.len E.N omY (kC _) (by have:=N;omega) (λp hp=>absurd hp (UW p)) (λp h1 h2=>by omega);exact⟨r,ae.ext λk=>by rw[zUc,bn];exact hr _ k⟩
def jT(p:ak):Int:=cond (p.Kind==2) (aO (p.aS.tdiv 2)) 0
def zMW(p:ak)(c:Nat):bZ:=⟨aO (aO (p.First+aO ((c:Int)*p.aS))-jT p),aO (aO (aO (aO (p.First+aO ((c:Int)*p.aS))-jT p)+p.aS)-1)⟩
def Oe(p:ak):Nat→Nat→List (Int×bZ)
  | 0,_=>[]
  | m+1,c=>cond (hasB p.Dead (c:Int)) (Oe p m (c+1)) (((c:Int),zMW p c)::Oe p m (c+1))
abbrev zzE(I:Pt placed->ae (List (Int×bZ))):Prop:=∀q:Pt placed,YD q.v.ak->zr2 q.v.ak.Dead->q.v.ak.Dead.len<=1000->I q=.ok (Oe q.v.ak q.v.ak.bM.toNat 0)
theorem zVQ{E:zaN}(N:Big E.N)(zyA:zzD E.zsy):zzE (zyz E):=λq hp hi hl=>by
 refine DI ?_ (λ_=>rfl) (λ_=>rfl);obtain⟨_,_,_,_,_,Fb,_⟩:=hp;have key:∀(m c n:Nat),c+m=q.v.ak.bM.toNat->m<n->Gw E n q (jT q.v.ak) (c:Int)=some ((Oe q.v.ak m c).map dG.enc):=by
  intro m
  induction m with
  | zero =>
   intro c n hc hn;obtain⟨n,rfl⟩:∃n',n=n'+1:=⟨n-1,omY⟩;rw[zj2,eU omY];rfl
  | succ m ih =>
   intro c n hc hn;obtain⟨n,rfl⟩:∃n',n=n'+1:=⟨n-1,omY⟩;obtain⟨r,hr⟩:=zyA q.v.ak.Dead (c:Int) hi hl;rw[zj2,dZ omY,ed,hr,bn,bP omY,ih (c+1) n omY omY];show cond (hasB q.v.ak.Dead (c:Int)) _ _=_;simp only[Oe];cases hasB q.v.ak.Dead (c:Int)<;>rfl
 have h0:=key q.v.ak.bM.toNat 0 E.N omY (by have:=N;omega);rw[e204];unfold jT at h0;revert h0;cases q.v.ak.Kind==2<;>exact id
def nxt:List (Int×bZ)→Int→Int
  | [],n=>n
  | y::r,n=>nxt r (cond (decide (y.2.Low<=n)&&decide (n<=y.2.High)) (aO (y.2.High+1)) n)
def Y7(x:bZ):Bool:=decide (-1000000<=x.Low/\x.Low<=x.High/\x.High<=1000000)
def EY(p:ak)(x:bZ):Bool:=decide (nxt (Oe p p.bM.toNat 0) (aO (x.Low-p.bC.High))>aO (x.High-p.bC.Low))
theorem zr3{p:ak}(h:plB p=true):zr2 p.Dead/\p.Dead.len<=100:=by
 simp only[plB,gG,pJ,dI]at h;obtain⟨⟨_,h1⟩,h2⟩:=h;refine⟨λi j=>?_,h1⟩;have step:∀j,j+1<p.Dead.len->p.Dead.get j<p.Dead.get (j+1):=λj hj=>by
  have:=h2 (j+1) hj;simp only[dB,gG,Zb,pJ,qjj]at this;exact this.2.resolve_left omY
 intro O5 hj
 induction j with
 | zero=>omega
 | succ j ih =>
  have:=step j hj;by_cases e:i=j
  ·rw[e];exact this
  ·have:=ih omY omY;omega
abbrev zvO(C:au×Int×bZ->ae (Bool×Bool×Int)):Prop:=∀s (i:Nat) x,sN s->fH s=true->i<s.aj.len->∃b,C (s,(i:Int),x)=.ok (cond (Y7 x) (EY (s.aj.get i) x,b,0) (false,false,2))
theorem zVR{E:zav}(BF:QSe E.c160)(lT:BX E.iw)(WL:zo4 E.c164)(zfJ:zzE E.zfJ):zvO (zpi E):=λs i x hs hb hi=>by
 have hl:=tu hb;obtain⟨d1,d2⟩:=zr3 (MH hb hi);have key:∀(l:List (Int×bZ))(lo hg nx:Int)(cn:Bool),∃b,∀(A:Type)(k:Bool×Bool×Int->Option A),uK E l s (i:Int) lo hg cn nx k=k (decide (nxt l nx>hg),b,0):=by
  intro l
  induction l with
  | nil=>intro lo hg nx cn;exact⟨cn,λA k=>zpj ..⟩
  | cons y l ih =>
   intro lo hg nx cn;have st:∃cn',∀(A:Type)(k:Bool×Bool×Int->Option A),uK E (y::l) s (i:Int) lo hg cn nx k=uK E l s (i:Int) lo hg cn' (cond (decide (y.2.Low<=nx)&&decide (nx<=y.2.High)) (aO (y.2.High+1)) nx) k:=by
    have e2:∀cn' (A:Type) (k:Bool×Bool×Int->Option A),MM E l s (i:Int) lo hg cn' nx y.2 k=uK E l s (i:Int) lo hg cn' (cond (decide (y.2.Low<=nx)&&decide (nx<=y.2.High)) (aO (y.2.High+1)) nx) k:=λcn' A k=>by
     rw[zx4];cases decide (y.2.Low<=nx)<;>cases decide (nx<=y.2.High)<;>rfl
    cases cn with
    | true=>exact⟨true,λA k=>by rw[zaw];exact e2 _ A k⟩
    | false =>
     cases hd:decide (aO (y.2.Low-(s.aj.get (i:Int).toNat).dN)<=hg)with
     | true=>exact⟨_,λA k=>by rw[zaw,hd];exact e2 _ A k⟩
     | false=>exact⟨false,λA k=>by rw[zaw,hd];exact e2 _ A k⟩
   obtain⟨cn',h⟩:=st;obtain⟨b,h2⟩:=ih lo hg (cond (decide (y.2.Low<=nx)&&decide (nx<=y.2.High)) (aO (y.2.High+1)) nx) cn';exact⟨b,λA k=>by rw[h,h2];rfl⟩
 obtain⟨b,hk⟩:=key (Oe (s.aj.get i) (s.aj.get i).bM.toNat 0) (aO (x.Low-(s.aj.get i).bC.High)) (aO (x.High-(s.aj.get i).bC.Low)) (aO (x.Low-(s.aj.get i).bC.High)) false;refine⟨b,ae.ext λk=>?_⟩;rw[e115,BF s hs,bn,hb,lT,bn,bn,Ar omY,show inB (i:Int) 0 ((s.aj.len:Int)-1)=true from dZ omY,WL _ _ omY,bn,bG omY,gU,zfJ ⟨⟨s.aj.get i,(i:Int)⟩⟩ (xE hb hi) d1 (by show(s.aj.get i).Dead.len<=1000;omega),bn];show cond (!decide (-1000000<=x.Low/\x.Low<=x.High/\x.High<=1000000)) _ _=_;rw[show decide (-1000000<=x.Low/\x.Low<=x.High/\x.High<=1000000)=Y7 x from rfl];cases Y7 x with
 | false=>rfl
 | true=>exact hk _ k
/-! Fractions, rounded. -/
def FlK(f:aP):Prop:=(-100000000000000000<=f.Num/\f.Num<=100000000000000000)/\0<f.bT/\f.bT<=100000000000000000
abbrev zr4(C:aP->ae Int):Prop:=∀f,FlK f->C f=.ok (f.Num/f.bT)
theorem zcZ{a b:Int}(h1 : -100000000000000000<=a/\a<=100000000000000000)(h2:0<b) : -100000000000000000<=a/b/\a/b<=100000000000000000:=by
 refine⟨qzj h2 ?_,?_⟩
 ·have:=dq8 (show(1:Int)≤b by omega) (show(0:Int)≤100000000000000000 by omega);omega
 ·rcases qdX a 0 with h | h
  ·have:=jqW h h2;omega
  ·have:=Int.ediv_le_self b h;omega
theorem zVS{E:zqB}:zr4 (zqC E):=λf h=>ae.ext λk=>by
 obtain⟨h1,h2,h3⟩:=h;have q:=zcZ h1 h2;rw[zTT,bn];by_cases hn:f.Num<0
 ·have e1:(-f.Num+f.bT-1)/f.bT = -(f.Num/f.bT):=by
   have a:=qjL f.Num f.bT;have b:=jqj f.Num (show f.bT≠0 by omega);have c:=qj0 f.Num h2;refine((qdD (r:=f.bT-1-f.Num%f.bT) h2).2 ⟨?_,omY,omY⟩).1;rw[qjl];omega
  rw[dZ hn,ed,bG omY,bf (x:=0-f.Num) omY omY,bf (x:=0-f.Num+f.bT) omY omY,bf (x:=0-f.Num+f.bT-1) omY omY,qdC omY,show 0-f.Num+f.bT-1 = -f.Num+f.bT-1 by omega,e1,bf (x:=-(f.Num/f.bT)) omY omY,show 0 - -(f.Num/f.bT)=f.Num/f.bT by omega,bf omY omY]
 ·rw[eU hn,dS,bG omY,qdC omY,bf omY omY]
abbrev zzG(C:aP->ae Int):Prop:=∀f,FlK f->C f=.ok (-(-f.Num/f.bT))
theorem zVT{E:zqD}(zaA:zr4 E.OO):zzG (zqE E):=λf h=>ae.ext λk=>by
 obtain⟨h1,h2,h3⟩:=h;have q:=zcZ (a:=-f.Num) omY h2;rw[zTV,bf (x:=0-f.Num) omY omY,show 0-f.Num = -f.Num by omega,zaA ⟨-f.Num,f.bT⟩ ⟨by show _<=-f.Num/\-f.Num<=_;omega,h2,h3⟩,bn,bn];show k (aO (0 - -f.Num/f.bT))=_;rw[bf omY omY,show 0 - -f.Num/f.bT = -(-f.Num/f.bT)by omega]
def ls{α:Type}(w:Sl α):List α:=(List.range w.len).map w.get
theorem iQ{α:Type}(w:Sl α):(ls w).length=w.len:=by simp[ls]
theorem NU{α:Type}{w:Sl α}{i:Nat}(h:i<w.len):(ls w)[i]? = some (w.get i):=by simp[ls,qjv h]
theorem jA{α:Type}{w:Sl α}{x:α}:x∈ls w↔∃i,i<w.len/\w.get i=x:=by simp[ls]
theorem O9{α:Type}[bH α][sQ α](w:Sl α)(x:α):ls (oO w x)=ls w++[x]:=by
 unfold ls;show(List.range (w.len+1)).map _=_;rw[qjm,QQ];congr 1
 ·exact qdg λi hi=>by
   show jL w.len w.get (λ_=>x) i=_;rw[je,fB (by have:=JC.1 hi;omega)]
 ·show [jL w.len w.get (fun _=>x) w.len]=_;rw[je,eX (kC _)]
theorem XR{α:Type}[bH α][sQ α](a b:Sl α):ls (⟨a.len+b.len,jL a.len a.get b.get⟩:Sl α)=ls a++ls b:=by
 unfold ls;show(List.range (a.len+b.len)).map (jL a.len a.get b.get)=_;rw[List.range_add,QQ,qdW];congr 1
 ·exact qdg λi hi=>by rw[je,fB (by have:=JC.1 hi;omega)]
 ·exact qdg λi _=>by
   show jL a.len a.get b.get (a.len+i)=_;rw[je,eX omY,jq7]
theorem XT(w:Sl af):chs w=(ls w).map fA:=by unfold chs ls;rw[qdW];rfl
theorem zgC{x:Int}{w:Sl af}:zW x w↔∀t∈ls w,Ol x t:=by
 constructor
 ·intro h t ht;obtain⟨i,hi,rfl⟩:=jA.1 ht;exact h i hi
 ·intro h i hi;exact h _ (jA.2 ⟨i,hi,rfl⟩)
def QT{α:Type}[bH α](z:Nat→α)(p:α→Bool)(w:Sl α):Nat→Sl α
  | 0=>⟨0,z⟩
  | i+1=>cond (p (w.get i)) (oO (QT z p w i) (w.get i)) (QT z p w i)
theorem yj{α:Type}[bH α](z:Nat→α)(p:α→Bool)(w:Sl α):∀n,(QT z p w n).len≤n
  | 0=>kC _
  | n+1=>by
    have:=yj z p w n;simp only[QT];cases p (w.get n)with
    | true=>show(QT z p w n).len+1<=n+1;omega
    | false=>show(QT z p w n).len<=n+1;omega
theorem Uc{α:Type}[bH α][sQ α](z:Nat→α)(p:α→Bool)(w:Sl α):∀n,ls (QT z p w n)=((List.range n).map w.get).filter p
  | 0=>rfl
  | n+1=>by
    rw[qjm,QQ,qjB,<- Uc z p w n];simp only[QT,oU,qd3];cases h:p (w.get n)with
    | true=>rw[ed,O9];simp[h]
    | false=>rw[dS];simp[h]
def usP(l:Sl bF)(c:jv)(i:Nat):Bool:=c.any λq=>(l.get q.1.toNat).ak==(i:Int)
def atB(g:Sl ay)(p:ak):Bool:=cond ((opn' g p).2 != 0) false (cond (decide ((xB g p.Z).1.Num/(xB g p.Z).1.bT < -1000000)) false (cond (decide (-(-(xB g p.Z).2.Num/(xB g p.Z).2.bT)>1000000)) false
  (Y7 ⟨(xB g p.Z).1.Num/(xB g p.Z).1.bT,-(-(xB g p.Z).2.Num/(xB g p.Z).2.bT)⟩&&EY p ⟨(xB g p.Z).1.Num/(xB g p.Z).1.bT,-(-(xB g p.Z).2.Num/(xB g p.Z).2.bT)⟩)))
where opn' (g:Sl ay) (p:ak):set×Int:=Ad g ((g.get 0).Z==p.Z)
def UO(s:au)(l:Sl bF)(x:Int)(c:jv)(i:Nat):Bool:=cond ((s.aj.get i).View != x) false (cond (usP l c i) false (atB (qx s l c) (s.aj.get i)))
def zmE(s:au)(l:Sl bF)(x:Int)(c:jv):List Int:=((List.range' 0 s.aj.len).filter (UO s l x c)).map Int.ofNat
theorem Js{a b:Int}(h1 : -100000000000000000<=a)(h2:a<=100000000000000000)(hb:0<b)(Us:b<=100000000000000000):FlK (red a b):=by
 have r1:=zU (num:=a) hb;have r2:=GG (num:=a) hb;have r3:=jf (num:=a) hb;exact⟨omY,omY,omY⟩
theorem zvA{g:Sl ay}(G:dw g){z:Int}(hz:N7 z)(hc:fQ g=false->0<(jB g).length):FlK (xB g z).1/\FlK (xB g z).2:=by
 have hg:=G.2;unfold xB;cases hf:fQ g with
 | true =>
  obtain⟨a,b⟩:=Oh G.1 omY g.len (kC _);exact⟨Js omY omY omY omY,Js omY omY omY omY⟩
 | false =>
  obtain⟨⟨s,s1,s2⟩,_⟩:=zmC G z (hc hf);obtain⟨⟨t,t1,t2⟩,_⟩:=zmD G z (hc hf);have a:=UN (mi G s1) hz;have b:=UN (mi G t1) hz;rw[<- s2]at a;rw[<- t2]at b;exact⟨Js omY omY omY omY,Js omY omY omY omY⟩
theorem zr5{p:ak}(h:YD p):N7 p.Z:=by
 obtain⟨_,_,hz,_⟩:=h;exact⟨omY,omY⟩
theorem zr6{g:Sl ay}(G:dw g){b:Bool}(h:(Ad g b).2=0):iG g=true/\(fQ g=false->0<(jB g).length):=by
 unfold Ad at h;rw[kU.2 G]at h;cases hs:iG g with
 | false=>rw[hs]at h;cases h
 | true =>
  refine⟨rfl,λhf=>?_⟩;unfold iG at hs;rw[hf,dS,pJ]at hs;omega
abbrev zvP(C:Pt aU×af->ae (Sl Int)):Prop:=∀s l r x t c j,Ev s l x->Ol x t->fA t=c->Val s l x c j->c≠[]->∃w:Sl Int,C (iY s r l,t)=.ok w/\ls w=zmE s l x c
theorem zVU{E:zeA}(N:Big E.N)(NT:zjk E.c105)(zaz:zrZ E.NH)(zte:zvM E.zfX)(zaA:zr4 E.OO)(zyh:zzG E.zsv)(ztf:zvO E.zfY):zvP (zpH E):=λs l r x t c j he ht hc hv hn=>by
 have hl:=qR hc hv;have h24:=he.l24;have G:=EX he.toEvt he.l24 hv hn;have hp:=tu he.se;have key:∀(m i n:Nat)(w:Sl Int),i+m=s.aj.len->m<n->w.len<=i->∃w':Sl Int,(∀(A:Type)(k:Sl Int->Option A),nC E n (iY s r l) t (qx s l c) (i:Int) w k=k w')/\ls w'=ls w++((List.range' i m).filter (UO s l x c)).map Int.ofNat:=by
  intro m
  induction m with
  | zero =>
   intro i n w hi hn hw;obtain⟨n,rfl⟩:∃n',n=n'+1:=⟨n-1,omY⟩;exact⟨w,λA k=>by rw[zjF,eU (by show ¬(i:Int)<(s.aj.len:Int);omega)];rfl,by simp⟩
  | succ m ih =>
   intro i n w hi hn hw;obtain⟨n,rfl⟩:∃n',n=n'+1:=⟨n-1,omY⟩;have Ob:=xE he.se (i:=i) omY;have hz:=zr5 Ob;rw[YA];have st:∀(A:Type)(k:Sl Int->Option A),nC E (n+1) (iY s r l) t (qx s l c) (i:Int) w k=cond (UO s l x c i) (nC E n (iY s r l) t (qx s l c) ((i+1:Nat):Int) (oO w (i:Int)) k) (nC E n (iY s r l) t (qx s l c) ((i+1:Nat):Int) w k):=λA k=>by
    have u:E.NH (t.Hits,.inr ⟨(),⟨iY s r l⟩,⟨(i:Int)⟩⟩)=.ok (usP l c i):=by
     rw[zaz s l r t.Hits (.inr ⟨(),⟨iY s r l⟩,⟨(i:Int)⟩⟩) (EQ hc hv) omY rfl];exact jX ae.ok (zf0 (l:=l) hc λh=>(l.get h.toNat).ak==(i:Int))
    rw[zjF,dZ (show(i:Int)<((iY s r l).v.au.aj.len:Int)by show(i:Int)<(s.aj.len:Int);omega),ed,bG (show 0<=(i:Int)/\(i:Int)<((iY s r l).v.au.aj.len:Int)by show _/\(i:Int)<(s.aj.len:Int);omega),gU,u,bn,bP omY,ht.1];show cond ((s.aj.get i).View != x) _ _=_;unfold UO;cases(s.aj.get i).View != x with
    | true=>rfl
    | false =>
     simp only[dS];cases usP l c i with
     | true=>rfl
     | false =>
      simp only[dS];show(E.zfX (qx s l c,(s.aj.get i).Z)).T _=_;rw[zte _ _ G hz,bn];unfold atB atB.opn';cases ho:(Ad (qx s l c) (((qx s l c).get 0).Z==(s.aj.get i).Z)).2 != 0 with
      | true =>
       simp only[ed];show cond ((Ad (qx s l c) (((qx s l c).get 0).Z==(s.aj.get i).Z)).2 != 0) _ _=_;rw[ho];rfl
      | false =>
       obtain⟨_,hco⟩:=zr6 G (by simpa using ho);obtain⟨b1,b2⟩:=zvA G hz hco;simp only[dS];show(E.OO (xB (qx s l c) (s.aj.get i).Z).1).T _=_;rw[zaA _ b1,bn,zyh _ b2,bn];generalize (xB (qx s l c) (s.aj.get i).Z).1.Num/(xB (qx s l c) (s.aj.get i).Z).1.bT=fa;generalize -(-(xB (qx s l c) (s.aj.get i).Z).2.Num/(xB (qx s l c) (s.aj.get i).Z).2.bT)=fb;cases decide (fa < -1000000)with
       | true=>rfl
       | false =>
        cases decide (fb>1000000)with
        | true=>rfl
        | false =>
         simp only[dS];obtain⟨b,hb⟩:=ztf s i ⟨fa,fb⟩ he.sh he.se omY;show(E.zfY (s,(i:Int),⟨fa,fb⟩)).T _=_;rw[hb,bn];cases Y7 ⟨fa,fb⟩with
         | false=>rfl
         | true =>
          show cond (EY (s.aj.get i) ⟨fa,fb⟩) (aV (room (w.len+1) 8) _) _=cond (true&&EY (s.aj.get i) ⟨fa,fb⟩) _ _;rw[jQ omY omY];cases EY (s.aj.get i) ⟨fa,fb⟩<;>rfl
   cases hb:UO s l x c i with
   | true =>
    rw[hb]at st;obtain⟨w',a,b⟩:=ih (i+1) n (oO w (i:Int)) omY omY (by show w.len+1<=i+1;omega);exact⟨w',λA k=>by rw[st];exact a A k,by rw[b,O9];simp[hb]⟩
   | false =>
    rw[hb]at st;obtain⟨w',a,b⟩:=ih (i+1) n w omY omY omY;exact⟨w',λA k=>by rw[st];exact a A k,by rw[b];simp[hb]⟩
 obtain⟨w',a,b⟩:=key s.aj.len 0 E.N ⟨0,λ_=>0⟩ omY (by have:=N;omega) (kC _);refine⟨w',ae.ext λk=>?_,b⟩;rw[zS3,NT s l r t he.toEvt omY (Fa he.vw ht hc hv hn),bn,IY hc,bn];exact a _ k
def qG(s:au)(l:Sl bF)(x:Int)(r:bJ)(c:jv):Bool:=decide ((c.length:Int)>=r.uS)&&decide (((zmE s l x c).length:Int)<=r.zF)
abbrev zzH(C:Pt aU×af->ae Bool):Prop:=∀s l r x t c j,Ev s l x->Ol x t->fA t=c->Val s l x c j->c≠[]->C (iY s r l,t)=.ok (qG s l x r c)
theorem zVV{E:zpu}(ztd:zvP E.c141):zzH (zpv E):=λs l r x t c j he ht hc hv hn=>ae.ext λk=>by
 obtain⟨w,h1,h2⟩:=ztd s l r x t c j he ht hc hv hn;rw[e129,h1,bn,bn];unfold qG;rw[<- h2,iQ,<- hc,kz];show cond (decide ((t.Hits.len:Int)>=r.uS)) (k (decide ((w.len:Int)<=r.zF))) (k false)=_;cases decide ((t.Hits.len:Int)>=r.uS)<;>rfl
/-! Choices that contain others. -/
abbrev zzI(C:Sl Int×Int->ae Int):Prop:=∀(w:Sl Int) x,w.len<=1000->C (w,x)=.ok (fst (λj=>x==w.get j) w.len 0)
theorem zVW{E:zeF}(N:Big E.N):zzI (zpS E):=λw x hw=>ae.ext λk=>by
 rw[e152,bn];refine Ip (L:=λn i=>TC E n w x i k) (p:=λj=>x==w.get j) (m:=w.len) (k:=k) omY (λn i hi=>?_) (λn=>?_) _ (by have:=N;omega)
 ·rw[zjK,dZ omY,ed,bG omY,gU]
 ·rw[zjK,eU omY];rfl
theorem zk6(p:Nat→Bool):∀m i,0≤fst p m i→∃j:Nat,fst p m i=(j:Int)∧i≤j∧j<i+m∧p j=true
  | 0,i,h=>by simp[fst]at h
  | m+1,i,h=>by
    simp only[fst]at h ⊢;cases hp:p i with
    | true=>exact⟨i,rfl,kC _,omY,hp⟩
    | false =>
      rw[hp,dS]at h;obtain⟨j,a,b,c,d⟩:=zk6 p m (i+1) h;exact⟨j,a,omY,omY,d⟩
structure One (t : af) : Prop where
  le:t.Hits.len<=100
  sd:t.bz.len=t.Hits.len
  un:∀i j,i<t.Hits.len->j<t.Hits.len->t.Hits.get i=t.Hits.get j->i=j
theorem lJ{t:af}{p:Int×Int}:p∈fA t↔∃i,i<t.Hits.len/\t.Hits.get i=p.1/\t.bz.get i=p.2:=by
 unfold fA;simp only[xR,JC];constructor
 ·rintro⟨i,hi,rfl⟩;exact⟨i,hi,rfl,rfl⟩
 ·rintro⟨i,hi,h1,h2⟩;exact⟨i,hi,by rw[h1,h2]⟩
abbrev Q92(C:af×af->ae Bool):Prop:=∀a b,One a->One b->C (a,b)=.ok (yE a b)
theorem s92{E:E92}(N:Big E.N)(zxW:zzI E.c152):Q92 (F92 E):=λa b ha hb=>ae.ext λk=>by
 have la:=ha.le;have lb:=hb.le;rw[e92,bn,loopA (L:=λn i=>zcD E n a b i k) (p:=λi=>(fA a).contains (b.Hits.get i,b.bz.get i)) (m:=b.Hits.len) (fin:=k (a.View==b.View)) (stop:=k false) omY (λn i hi=>?_) (λn=>?_) _ (by have:=N;omega)]
 ·have e:yE a b=(fG (λi=>(fA a).contains (b.Hits.get i,b.bz.get i)) b.Hits.len&&(a.View==b.View)):=by
   unfold yE;congr 1
   ·rw [Ut, dI, Aa];constructor
    ·intro h i hi;exact h _ (lJ.2 ⟨i,hi,rfl,rfl⟩)
    ·intro h p hp;obtain⟨i,hi,h1,h2⟩:=lJ.1 hp;have:=h i hi;rw[h1,h2]at this;exact this
   ·rw[Ut,qdO,qdO];exact eq_comm
  rw[e];cases fG (λi=>(fA a).contains (b.Hits.get i,b.bz.get i)) b.Hits.len<;>rfl
 ·rw [zuo, dZ omY, ed, bG omY, gU, zxW _ _ omY, bn];by_cases h0:fst (λ j=>b.Hits.get i == a.Hits.get j) a.Hits.len 0 < 0
  ·have:(fA a).contains (b.Hits.get i,b.bz.get i)=false:=by
    cases hc:(fA a).contains (b.Hits.get i,b.bz.get i)with
    | false=>rfl
    | true =>
     obtain⟨j,hj,h1,_⟩:=lJ.1 (qjn.1 hc);have:=(zcH (λj=>b.Hits.get i==a.Hits.get j) a.Hits.len 0).2 ⟨j,Cf _,omY,by simp[h1]⟩;omega
   rw[dZ h0,this];rfl
  ·obtain⟨j,e,_,hj,hp⟩:=zk6 (fun j=>b.Hits.get i==a.Hits.get j) a.Hits.len 0 omY;have sa:=ha.sd;have sb:=hb.sd;have hp:b.Hits.get i=a.Hits.get j:=eq_of_beq hp;rw[eU h0,dS,e,bG omY,bG omY,gU];have:(fA a).contains (b.Hits.get i,b.bz.get i)=(a.bz.get j==b.bz.get i):=by
    rw[Ut,qjn,lJ,qdO];constructor
    ·rintro⟨q,hq,h1,h2⟩;have:=ha.un q j hq omY (h1.trans hp);rw[this]at h2;exact h2
    ·intro h;exact⟨j,omY,hp.symm,h⟩
   rw[this,bne];cases a.bz.get j==b.bz.get i<;>rfl
 ·rw[zuo,eU omY];rfl
theorem zlN{s:au}{l:Sl bF}{x:Int}{t:af}{c:jv}{j:Nat}(h24:l.len<=24)(ht:Ol x t)(hc:fA t=c)(h:Val s l x c j):One t:=by
 have hl:=qR hc h;have lc:c.length=t.Hits.len:=by rw[<- hc,kz]
 refine⟨omY,ht.2,λa b ha hb e=>?_⟩;have pw:=qdk.1 h.pw;have ge:∀i (hi:i<t.Hits.len),c[i]'omY=(t.Hits.get i,t.bz.get i):=λi hi=>by
  have:=zV hc hi;rw[BR omY]at this;exact YR this
 rcases qdB a b with q|q|q
 ·have:=(pw a b omY omY q).1;rw[ge a ha,ge b hb]at this;simp only at this;omega
 ·exact q
 ·have:=(pw b a omY omY q).1;rw[ge a ha,ge b hb]at this;simp only at this;omega
def Jt(a b:af):Bool:=decide ((a.Hits.len:Int)>(b.Hits.len:Int))&&yE a b
abbrev zzJ(C:af×Pt af->ae Bool):Prop:=∀a (b:Pt af),One a->One b.v->C (a,b)=.ok (Jt a b.v)
theorem zVX{E:zpA}(h92:Q92 E.c92):zzJ (zpB E):=λa b ha hb=>ae.ext λk=>by
 rw[zSW,h92 _ _ ha hb,bn,bn];unfold Jt;cases decide ((a.Hits.len:Int)>(b.v.Hits.len:Int))<;>rfl
abbrev Q97(C:Sl af×dY 132 Unit (Pt af)->ae Int):Prop:=∀(w:Sl af)(c:dY 132 Unit (Pt af)),(∀t∈ls w,One t)->w.len<=10000->One c.v.v->C (w,c)=.ok (fst (λj=>Jt (w.get j) c.v.v) w.len 0)
theorem s97{E:E97}(N:Big E.N)(zxZ:zzJ E.zsk):Q97 (F97 E):=λw c hw hl hc=>ae.ext λk=>by
 rw[e97,bn];refine Ip (L:=λn i=>zcF E n w c i k) (p:=λj=>Jt (w.get j) c.v.v) (m:=w.len) (k:=k) omY (λn i hi=>?_) (λn=>?_) _ (by have:=N;omega)
 ·rw[zus,dZ omY,ed,bG omY,gU,zxZ _ _ (hw _ (jA.2 ⟨i,hi,rfl⟩)) hc,bn]
 ·rw[zus,eU omY];rfl
theorem zgu{α:Type}{w:Sl α}{p:α->Bool}:(!fG (λj=>!p (w.get j)) w.len)=(ls w).any p:=by
 rw[Ut,NR,<- qjt,dI,qd1];constructor
 ·intro h;apply qdG;intro hn;refine h λj hj=>?_;cases e:p (w.get j)with
  | false=>rfl
  | true=>exact(hn ⟨_,jA.2 ⟨j,hj,rfl⟩,e⟩).elim
 ·rintro⟨q,hq,e⟩ h;obtain⟨j,hj,rfl⟩:=jA.1 hq;have:=h j hj;rw[e]at this;cases this
abbrev zzK(C:Sl af×dY 132 Unit (Pt af)->ae Bool):Prop:=∀(w:Sl af)(c:dY 132 Unit (Pt af)),(∀t∈ls w,One t)->w.len<=10000->One c.v.v->C (w,c)=.ok ((ls w).any λx=>Jt x c.v.v)
theorem zVZ{E:zpy}(h97:Q97 E.c97):zzK (zpz E):=λw c hw hl hc=>ae.ext λk=>by
 rw[zSU,h97 w c hw hl hc,bn,bn,xu (λj=>Jt (w.get j) c.v.v),zgu (p:=λx=>Jt x c.v.v)]
abbrev zzL(C:af×Pt (Pt found)->ae Bool):Prop:=∀t (f:Pt (Pt found)),(∀t∈ls f.v.v.fits,One t)->f.v.v.fits.len<=10000->One t->C (t,f)=.ok (!(ls f.v.v.fits).any λx=>Jt x t)
theorem zV1{E:zpw}(zye:zzK E.c131):zzL (zpx E):=λt f hf hl ht=>ae.ext λk=>by
 rw[zSS,zye f.v.v.fits _ hf hl ht,bn,bn]
/-! Those that are as wanted. -/
abbrev UE:Nat->af:=λ_=>⟨0,⟨0,λ_=>0⟩,⟨0,λ_=>0⟩⟩
abbrev zr7:=dY 129 (Pt aU) Unit ⊕ dY 130 Unit (Pt (Pt found))
def zB:zr7→af→Bool
  | .inl c,t=>qG c.a.v.au c.a.v.hits t.View c.a.v.rules (fA t)
  | .inr c,t=>!(ls c.v.v.v.fits).any λx=>Jt x t
structure Chosen (s : au) (l : Sl bF) (t : af) : Prop where
  ev:Ev s l t.View
  tv:Ol t.View t
  vl:∃j,Val s l t.View (fA t) j
  ne:fA t≠[]
theorem Chosen.one{s:au}{l:Sl bF}{t:af}(h:Chosen s l t):One t:=by
 obtain⟨j,hj⟩:=h.vl;exact zlN h.ev.l24 h.tv rfl hj
def okF:zr7→Sl af→Prop
  | .inl c,w=>∃s l r,c.a=iY s r l/\∀t∈ls w,Chosen s l t
  | .inr c,w=>(∀t∈ls w,One t)/\(∀t∈ls c.v.v.v.fits,One t)/\c.v.v.v.fits.len<=10000
abbrev QFi{γ:Type}(i:γ->zr7)(C:Sl af×γ->ae (Sl af×Unit)):Prop:=∀(w:Sl af)(c:γ),okF (i c) w->w.len<=10000->C (w,c)=.ok (QT UE (zB (i c)) w w.len,())
abbrev zuD(C:Sl af×zr7->ae (Sl af×Unit)):Prop:=QFi id C
theorem zk7{E:vM}(N:Big E.N)(zyc:zzH E.zsj):QFi .inl (DU E):=λw c ho hl=>ae.ext λk=>by
 obtain⟨s,l,r,e,hc⟩:=ho;rw[zjB,bn];refine kV (X:=λn i=>rW E n w c (i:Int) (QT UE (zB (.inl c)) w i) k) (m:=w.len) (λn i hi=>?_) (λn=>?_) _ (by have:=N;omega)
 ·have h := hc _ (jA.2 ⟨i, hi, rfl⟩);obtain⟨j,hj⟩:=h.vl;have:=yj UE (zB (.inl c)) w i;have e2:zB (.inl c) (w.get i)=qG s l (w.get i).View r (fA (w.get i)):=by show qG c.a.v.au c.a.v.hits (w.get i).View c.a.v.rules (fA (w.get i))=_;rw[e];rfl
  rw[MP,dZ omY,ed,bG omY,gU,e,zyc s l r _ _ _ j h.ev h.tv rfl hj h.ne,bn,jQ omY omY,bP omY];simp only[QT,e2];cases qG s l (w.get i).View r (fA (w.get i))<;>rfl
 ·rw[MP,eU omY];rfl
theorem zk8{E:vN}(N:Big E.N)(zyd:zzL E.c130):QFi .inr (DW E):=λw c ho hl=>ae.ext λk=>by
 obtain⟨h1,h2,h3⟩:=ho;rw[zjD,bn];refine kV (X:=λn i=>rX E n w c (i:Int) (QT UE (zB (.inr c)) w i) k) (m:=w.len) (λn i hi=>?_) (λn=>?_) _ (by have:=N;omega)
 ·have:=yj UE (zB (.inr c)) w i;have e2:zB (.inr c) (w.get i) = !(ls c.v.v.v.fits).any λx=>Jt x (w.get i):=rfl;rw[MR,dZ omY,ed,bG omY,gU,zyd _ c.v h2 h3 (h1 _ (jA.2 ⟨i,hi,rfl⟩)),bn,jQ omY omY,bP omY];simp only[QT,e2];cases !(ls c.v.v.v.fits).any λx=>Jt x (w.get i)<;>rfl
 ·rw[MR,eU omY];rfl
theorem zV2{f:Sl af×dY 129 (Pt aU) Unit->ae (Sl af×Unit)}{g:Sl af×dY 130 Unit (Pt (Pt found))->ae (Sl af×Unit)}(a:QFi .inl f)(b:QFi .inr g):zuD (ae.two f g):=λw c ho hl=>by
 rcases c with c|c
 ·exact a w c ho hl
 ·exact b w c ho hl
/-! The order. -/
abbrev zzN(C:Int->ae Bool):Prop:=∀x,C x=.ok false
theorem zV3{E:zq3}:zzN (zq4 E):=λx=>ae.ext λk=>by rw[e222,bn,show(x != x)=false by simp]
theorem zV4{E:zqv}(zqx:zzN E.c222):zaT (zqw E):=λa b=>ae.ext λk=>by
 rw[zTP,zqx,bn,zqx,bn,bn];unfold qQ;cases decide (a<b)<;>cases decide (a>b)<;>rfl
abbrev zc0(C:Sl Int×Sl Int->ae Int):Prop:=∀a b:Sl Int,a.len<=1000->b.len<=1000->C (a,b)=.ok (cmpL (pI a) (pI b))
theorem zV5{E:zeL}(N:Big E.N)(zaG:zaT E.c208):zc0 (zqy E):=λa b ha hb=>ae.ext λk=>by
 have key:∀(m i n:Nat),i+m=a.len->m<n->TE E n a b (i:Int) k=k (cmpL ((List.range' i m).map a.get) ((List.range' i (b.len-i)).map b.get)):=by
  intro m
  induction m with
  | zero =>
   intro i n hi hn;obtain⟨n,rfl⟩:∃n',n=n'+1:=⟨n-1,omY⟩;rw[zjW,eU omY,dS,kc k];congr 1;cases h:b.len-i with
   | zero=>rw[eU omY];rfl
   | succ q=>rw[dZ omY];rfl
  | succ m ih =>
   intro i n hi hn;obtain⟨n,rfl⟩:∃n',n=n'+1:=⟨n-1,omY⟩;rw[zjW,dZ omY,ed,bG omY,YA,oU];cases h:b.len-i with
   | zero=>rw[dZ omY];rfl
   | succ q =>
    rw[eU omY,dS,bG omY,gU,zaG,bn,bP omY,ih (i+1) n omY omY,YA,oU,kc k,show b.len-(i+1)=q by omega];rfl
 rw[e187,bn];have:=key a.len 0 E.N omY (by have:=N;omega);unfold pI;rw[dqQ,dqQ];exact this
theorem zNQ(a b c:Int):GU [a,b,c] 0=a/\GU [a,b,c] 1=b/\GU [a,b,c] 2=c:=by
 refine⟨?_,?_,?_⟩
 ·show(bH.dec (IC (shp 8) (bH.enc a) (bH.enc a))).1=a;rw[kK (pO 8) (bH.sm _ _),sQ.de]
 ·show(bH.dec (IC (shp 8) (bH.enc a) (bH.enc b))).1=b;rw[kK (pO 8) (bH.sm _ _),sQ.de]
 ·show(bH.dec (IC (shp 8) (bH.enc a) (bH.enc c))).1=c;rw[kK (pO 8) (bH.sm _ _),sQ.de]
abbrev zzO(C:Sl Int->ae Int):Prop:=∀a b c:Int,C ⟨3,GU [a,b,c]⟩=.ok (cond (a != 0) a (cond (b != 0) b c))
theorem zV6{E:zeK}(N:Big E.N):zzO (zqu E):=λa b c=>ae.ext λk=>by
 obtain⟨n,hn⟩:∃n,E.N=n+1+1+1+1:=⟨E.N-4,by have:=N;omega⟩;obtain⟨g0,g1,g2⟩:=zNQ a b c;have st:∀n (i:Nat),i<3->Gu E (n+1) ⟨3,GU [a,b,c]⟩ (i:Int) k=cond (GU [a,b,c] i != 0) (k (GU [a,b,c] i)) (Gu E n ⟨3,GU [a,b,c]⟩ ((i+1:Nat):Int) k):=λn i hi=>by
  rw[zjV,dZ (show(i:Int)<((3:Nat):Int)by omega),ed,bG (show 0<=(i:Int)/\(i:Int)<((3:Nat):Int)by omega),bP omY];rfl
 have en:∀n,Gu E (n+1) ⟨3,GU [a,b,c]⟩ ((3:Nat):Int) k=k 0:=λn=>by
  rw[zjV,eU (show ¬((3:Nat):Int)<((3:Nat):Int)by omega)];rfl
 rw[e185,bn,hn];refine(st _ 0 omY).trans ?_;rw[st _ 1 omY,st _ 2 omY,en,g0,g1,g2];by_cases h:c=0
 ·subst h;cases a != 0<;>cases b != 0<;>rfl
 ·rw [show(c != 0)=true by simpa using h];cases a != 0<;>cases b != 0<;>rfl
abbrev zuE(C:af×af->ae Int):Prop:=∀a b:af,One a->One b->C (a,b)=.ok (zrS a b)
theorem zV7{E:zpC}(zyf:zaT E.zst)(zpE:zc0 E.zlt)(zyg:zzO E.zss):zuE (zpD E):=λa b ha hb=>ae.ext λk=>by
 have a1:=ha.le;have a2:=ha.sd;have b1:=hb.le;have b2:=hb.sd;rw[zSY,zyf,bn,zpE _ _ omY omY,bn,zpE _ _ omY omY,bn,zyg,bn,bn];rfl
abbrev zzQ(C:Sl Bool×Bool->ae Int):Prop:=∀(w:Sl Bool) x,w.len<=1000->C (w,x)=.ok (fst (λj=>x==w.get j) w.len 0)
theorem zV8{E:zeI}(N:Big E.N):zzQ (zql E):=λw x hw=>ae.ext λk=>by
 rw[zTG,bn];refine Ip (L:=λn i=>TD E n w x i k) (p:=λj=>x==w.get j) (m:=w.len) (k:=k) omY (λn i hi=>?_) (λn=>?_) _ (by have:=N;omega)
 ·rw[zjP,dZ omY,ed,bG omY,gU]
 ·rw[zjP,eU omY];rfl
abbrev zuF(C:Sl Bool×Bool->ae Bool):Prop:=∀(w:Sl Bool) x,w.len<=1000->C (w,x)=.ok ((ls w).any λb=>x==b)
theorem zV9{E:zpr}(zya:zzQ E.zsr):zuF (zps E):=λw x hw=>ae.ext λk=>by
 rw[e126,zya w x hw,bn,bn,xu (λj=>x==w.get j),zgu (p:=λb=>x==b)]
structure NW (s : au) (r : bJ) (l : Sl bF) (f : found) : Prop where
  ev:f.aU=iY s r l
  fx:∃X Y:List af,ls f.fits=X++Y/\(∀t∈X,Ol 1 t)/\(∀t∈Y,Ol 2 t)/\X.map fA=(kF s l 1).filter (qG s l 1 r)/\Y.map fA=(kF s l 2).filter (qG s l 2 r)
  tr:(ls f.aW).Perm ((ls f.fits).filter λt=>!(ls f.fits).any λx=>Jt x t)
  st:(ls f.aW).Pairwise OI
theorem Nz{s:au}{l:Sl bF}{x:Int}{c:jv}(h:c∈kF s l x):(∃j,Ch (ET s l) (Cb l) (O8 s l x) c j)/\c≠[]:=by
 refine⟨zux .nil h,?_⟩;obtain⟨p,e,_,h⟩:=TU h;rw[h];simp
theorem Jw(s:au)(l:Sl bF)(x:Int)(i:Nat):(O8 s l x i).Nodup:=QC s l x _ _
theorem BN {P : Int → jv → Bool} {x : Int} : ∀ {L : List af}, (∀ t ∈ L, t.View = x) → (L.filter fun t => P t.View (fA t)).map fA = (L.map fA).filter (P x)
  | [],_=>rfl
  | t::L,h=>by
    have ih:=BN (P:=P) (L:=L) λu hu=>h u (jU _ hu);have e:=h t lq;rw[oU,dq7,dq7,e];by_cases hp:P x (fA t)=true
    · rw[eX hp,eX hp,oU,ih]
    · rw[fB hp,fB hp,ih]
def Df(a b:af):Prop:=¬(a.View=b.View/\fA a=fA b)
theorem zzR{a b:af}(h:Df a b):Df b a:=λk=>h ⟨k.1.symm,k.2.symm⟩
theorem zuG{X:List af}(h:(X.map fA).Nodup):X.Pairwise Df:=by
 unfold List.Nodup at h;rw[qjc]at h;exact h.imp λhn k=>hn k.2
abbrev Q72(C:au×bJ×Sl bF×Sl Bool->ae (Int ⊕ (Pt found×Int))):Prop:=∀s r l (w:Sl Bool),sN s->l.len<=40->lV s r l=0->(kF s l 1).length<=2000->(kF s l 2).length<=2000->w.len<=10->(∀b∈ls w,b=true)->∃f:Pt found,C (s,r,l,w)=.ok (.inr (f,0))/\NW s r l f.v
theorem s72{E:E72}(h78:Q78 E.c78)(zgh:zuF E.Yp)(zfU:zHj E.c127)(zmm:zuD E.GK)(zHm:zuE E.UF):Q72 (F72 E):=λs r l w hs hl h0 n1 n2 hw hb=>by
  obtain⟨he,_,h24⟩:=E8 hs h0;have ev1:Ev s l 1:={toEvt:=he,l24:=h24,vw:=rfl};have ev2:Ev s l 2:={toEvt:=he,l24:=h24,vw:=rfl};obtain⟨w1,a1,b1,c1⟩:=zfU s l r 1 ev1 n1;obtain⟨w2,a2,b2,c2⟩:=zfU s l r 2 ev2 n2;have ln1:w1.len<=2000:=by rw[<- kY,b1];exact n1
  have ln2:w2.len<=2000:=by rw[<- kY,b2];exact n2
  have cs:∀{x:Int}{w:Sl af},Ev s l x->chs w=kF s l x->zW x w->∀t∈ls w,t.View=x/\Chosen s l t:=fun {x w} ev hb hc t ht=>by
    have hv:=zgC.1 hc t ht;have hm:fA t∈kF s l x:=by rw[<- hb,XT];exact qdJ ht
    obtain⟨⟨j,hj⟩,ja⟩:=Nz hm;have e:=hv.1;subst e;exact⟨rfl,ev,hv,⟨j,Uu hj⟩,ja⟩
  have k1:=cs ev1 b1 c1;have k2:=cs ev2 b2 c2;have f1:=zmm w1 (.inl ⟨iY s r l,()⟩) ⟨s,l,r,rfl,λt ht=>(k1 t ht).2⟩ omY;have f2:=zmm w2 (.inl ⟨iY s r l,()⟩) ⟨s,l,r,rfl,λt ht=>(k2 t ht).2⟩ omY;have g1:ls (QT UE (zB (id (.inl ⟨iY s r l,()⟩))) w1 w1.len)=(ls w1).filter λt=>qG s l t.View r (fA t):=Uc _ _ _ _;have g2:ls (QT UE (zB (id (.inl ⟨iY s r l,()⟩))) w2 w2.len)=(ls w2).filter λt=>qG s l t.View r (fA t):=Uc _ _ _ _;have m1:=yj UE (zB (id (.inl ⟨iY s r l,()⟩))) w1 w1.len;have m2:=yj UE (zB (id (.inl ⟨iY s r l,()⟩))) w2 w2.len;generalize hu1:QT UE (zB (id (.inl ⟨iY s r l,()⟩))) w1 w1.len=u1 at f1 g1 m1;generalize hu2:QT UE (zB (id (.inl ⟨iY s r l,()⟩))) w2 w2.len=u2 at f2 g2 m2;have hX:(ls u1).map fA=(kF s l 1).filter (qG s l 1 r):=by
    rw[g1,BN (P:=λx c=>qG s l x r c) (x:=1) λt ht=>(k1 t ht).1,<- b1,XT]
  have hY:(ls u2).map fA=(kF s l 2).filter (qG s l 2 r):=by
    rw[g2,BN (P:=λx c=>qG s l x r c) (x:=2) λt ht=>(k2 t ht).1,<- b2,XT]
  have q1:∀t∈ls u1,t.View=1/\Chosen s l t:=λt ht=>by rw[g1]at ht;exact k1 t (UL.1 ht).1
  have q2:∀t∈ls u2,t.View=2/\Chosen s l t:=λt ht=>by rw[g2]at ht;exact k2 t (UL.1 ht).1
  let ft:Sl af:=⟨u1.len+u2.len,jL u1.len u1.get u2.get⟩;have hf:ls ft=ls u1++ls u2:=XR u1 u2;have qf:∀t∈ls ft,Chosen s l t:=λt ht=>by
    rw[hf]at ht;rcases dU.1 ht with h|h
    · exact(q1 t h).2
    · exact(q2 t h).2
  have dff:(ls ft).Pairwise Df:=by
    rw[hf,qdx];refine⟨zuG ?_,zuG ?_,λa ha b hb=>λk=>?_⟩
    · rw[hX];exact(Ir (Jw s l 1) _ _ _).filter _
    · rw[hY];exact(Ir (Jw s l 2) _ _ _).filter _
    · have:=(q1 a ha).1;have:=(q2 b hb).1;have:=k.1;omega
  let cl:dY 130 Unit (Pt (Pt found)):=⟨(),⟨⟨⟨iY s r l,ft,⟨0,UE⟩⟩⟩⟩⟩;have lf:ft.len<=4000:=by show u1.len+u2.len<=4000;omega
  have f3:=zmm ft (.inr cl) ⟨λt ht=>(qf t ht).one,λt ht=>(qf t ht).one,by show ft.len<=10000;omega⟩ omY;have g3:ls (QT UE (zB (id (.inr cl))) ft ft.len)=(ls ft).filter λt=>!(ls ft).any λx=>Jt x t:=Uc _ _ _ _;have m3:=yj UE (zB (id (.inr cl))) ft ft.len;generalize hu3:QT UE (zB (id (.inr cl))) ft ft.len=u3 at f3 g3 m3;have q3:∀t∈ls u3,Chosen s l t:=λt ht=>by rw[g3]at ht;exact qf t (UL.1 ht).1
  have df3:(ls u3).Pairwise Df:=by rw[g3];exact dff.sublist List.filter_sublist
  have in3:∀i,i<u3.len->Chosen s l (u3.get i):=λi hi=>q3 _ (jA.2 ⟨i,hi,rfl⟩);have ne3:∀i j,i<u3.len->j<u3.len->i≠j->Df (u3.get i) (u3.get j):=λi j hi hj O5=>by
    have P:=qdk.1 df3;have ge:∀i (hi:i<u3.len),(ls u3)[i]'(by rw[iQ];exact hi)=u3.get i:=λi hi=>by
      have:=NU hi;rw[BR (by rw[iQ];exact hi)]at this;exact YR this
    rcases qd4 i j with h|h
    · have:=P i j (by rw [iQ];exact hi) (by rw [iQ];exact hj) h;rwa[ge i hi,ge j hj]at this
    · have:=P j i (by rw [iQ];exact hj) (by rw [iQ];exact hi) omY;rw[ge i hi,ge j hj]at this;exact zzR this
  obtain⟨hp,p,p1,p2,p3⟩:=zuv (C:=ae.un E.UF) (caps:=[]) (ag:=true) (w:=u3) (cmp:=zrS) (R:=OI) omY
    (λi j hi hj=>by
      show(E.UF (u3.get i,u3.get j)).T _=_;rw[zHm _ _ (in3 i hi).one (in3 j hj).one];rfl)
    (λi j hi hj=>zrT) (λi hi=>zcU _) (λi j hi hj O5=>zgA λh=>ne3 i j hi hj O5 ⟨h.1,zrU h.2.1 h.2.2 (in3 i hi).tv.2 (in3 j hj).tv.2⟩) (λi j _ _ h=>zkS h)
    (λi j k _ _ _ a b=>zeX a b)
  have pl:p.length=u3.len:=by rw[p1.length_eq,jqC]
  let tr:Sl af:=⟨u3.len,soG (ae.un E.UF) [] true u3⟩;have ht:ls tr=p.map u3.get:=by
    refine jqL (by rw[iQ,dqU,pl]) λi h1 h2=>?_;have hi:i<u3.len:=by rw[iQ]at h1;exact h1
    have:=NU (w:=tr) (i:=i) hi;rw[BR h1]at this;rw[YR this,List.getElem_map];exact p3 i omY
  refine⟨⟨⟨iY s r l,ft,tr⟩⟩,ae.ext λk=>?_,rfl,⟨ls u1,ls u2,hf,λt h=>?_,λt h=>?_,hX,hY⟩,?_,?_⟩
  · have no:((ls w).any λb=>false==b)=false:=by
      rw[qdK];intro b Us;rw[hb b Us];simp
    rw[e72,h78 s r l hs hl,bn];have eo:opn s r l=.inr (iY s r l,0):=by unfold opn;rw[h0];rfl
    rw[eo];show(E.Yp (w,false)).T _=_;rw[zgh w false omY,bn,no];show(E.c127 (iY s r l,1)).T _=_;rw[a1,bn];show(E.GK (w1,.inl ⟨iY s r l,()⟩)).T _=_;rw[f1,bn];show aV (room u1.len 56) ((E.c127 (iY s r l,2)).T _)=_;rw[jQ omY omY,a2,bn];show(E.GK (w2,.inl ⟨iY s r l,()⟩)).T _=_;rw[f2,bn];show aV (room (u1.len+u2.len) 56) ((E.GK (ft,.inr cl)).T _)=_;rw[jQ omY omY,f3,bn];show zcA E (iY s r l) ft u3 k=_;rw[zGr,hp];rfl
  · have:=q1 t h;exact⟨this.1,this.2.tv.2⟩
  · have:=q2 t h;exact⟨this.1,this.2.tv.2⟩
  · show(ls tr).Perm _;rw[ht];show(p.map u3.get).Perm ((ls ft).filter λt=>!(ls ft).any λx=>Jt x t);rw[<- g3];exact p1.map _
  · show(ls tr).Pairwise OI;rw[ht,qjc];exact p2
abbrev Q20(C:au×bJ×Sl bF->ae (Sl af×Int)):Prop:=∀s r l,sN s->l.len<=40->lV s r l=0->(kF s l 1).length<=2000->(kF s l 2).length<=2000->∃f:found,C (s,r,l)=.ok (f.aW,0)/\NW s r l f
theorem s20{E:E20}(h72:Q72 E.c72):Q20 (F20 E):=λs r l hs hl h0 n1 n2=>by
 obtain⟨f,h1,h2⟩:=h72 s r l ⟨0,λ_=>default⟩ hs hl h0 n1 n2 (Cf _) (λb hb=>by cases hb);exact⟨f.v,ae.ext λk=>by rw[e20,h1,bn,bn];rfl,h2⟩
theorem zzS{s:straight}(S:yw s):(fC s).Start.Num*s.den=s.start*(fC s).Start.bT/\(fC s).dM.Num*s.den=s.bI*(fC s).dM.bT:=by
 have p:0<s.den:=by have:=S.2.2;omega
 have key:∀a,(red a s.den).Num*s.den=a*(red a s.den).bT:=λa=>by
  have h1:=oM (num:=a) p;have h2:=mG (num:=a) p;generalize (Int.gcd a s.den:Int)=G at h1 h2;generalize (red a s.den).Num=x at *;generalize (red a s.den).bT=y at *;rw[<- h1,<- h2];ac_rfl
 exact⟨key _,key _⟩
abbrev Q76(C:Line×Int->ae aP):Prop:=∀s z,yw s->N7 z->C (fC s,z)=.ok (red (iL s z) s.den)
theorem s76{E:E76}(zau:zaP E.Ug)(h71:IV E.Uy):Q76 (F76 E):=λs z S hz=>ae.ext λk=>by
  obtain⟨h1,h2,h3,h4⟩:=zcN S;obtain⟨x1,x2⟩:=zzS S;have pd:0<s.den:=by have:=S.2.2;omega
  rw[e76,zau _ _ omY omY omY,bn,bn];have hr:=lI (num:=(fC s).Start.bT) (den:=(fC s).dM.bT) h3.1;obtain⟨a,ha⟩:=zHb (fC s).Start.bT (fC s).dM.bT;obtain⟨b,hb⟩:=zHc (fC s).Start.bT (fC s).dM.bT;generalize (Int.gcd (fC s).Start.bT (fC s).dM.bT:Int)=r at hr ha hb ⊢;generalize (fC s).Start.bT=A at *;generalize (fC s).dM.bT=B at *;generalize (fC s).Start.Num=u at *;generalize (fC s).dM.Num=v at *;have pa:0<a:=by
    rcases qdX 0 a with h|h
    · exact h
    · have:=dq8 h (yt hr);rw[jqG]at this;omega
  have pb:0<b:=by
    rcases qdX 0 b with h|h
    · exact h
    · have:=dq8 h (yt hr);rw[jqG]at this;omega
  have aA:a<=A:=by
    have:=NY (show(1:Int)<=r by omega) (yt pa);omega
  have bB:b<=B:=by
    have:=NY (show(1:Int)<=r by omega) (yt pb);omega
  have e1:A.tdiv r=a:=by rw[ha,qjb _ omY]
  have e2:(a*B).tdiv A=b:=by
    have:a*B=A*b:=by rw[ha,hb];ac_rfl
    rw[this,qjb _ omY]
  have e3:(a*B).tdiv B=a:=by rw[qjX,qjb _ omY]
  have m0:=qy (x:=a) (X:=100000) omY omY (yt h3.1) h3.2;have m1:=qy h2.1 h2.2 (y:=b) (Y:=100000) omY omY;have m2:=qy h1.1 h1.2 (y:=a) (Y:=100000) omY omY;have m3 : -40000000000000000<=v*a*z/\v*a*z<=40000000000000000:=by
    have hz1:=hz.1;have hz2:=hz.2;rcases qdX z 0 with h|h
    · have:=qy (y := -z) (Y:=200000) m2.1 m2.2 omY omY;rw[qjl]at this;omega
    · have:=qy (y:=z) (Y:=200000) m2.1 m2.2 h omY;omega
  have pos:0<a*B:=jqt pa h3.1
  rw[bf (x:=A.tdiv r) (by rw[e1];omega) (by rw[e1];omega),e1,bf (x:=a*B) omY omY,bf (x:=(a*B).tdiv A) (by rw[e2];omega) (by rw[e2];omega),bf (x:=(a*B).tdiv B) (by rw[e3];omega) (by rw[e3];omega),e2,e3,
    bf (x:=u*b) omY omY,bf (x:=v*a) omY omY,bf (x:=v*a*z) omY omY,bf (x:=u*b+v*a*z) omY omY,bG omY,bG omY,bG omY,h71 _ _ omY omY pos omY,bn]
  congr 1;refine(Y4 pos pd).2 ?_;unfold iL;have f1:u*b*s.den=s.start*(a*B):=by
    calc u * b * s.den = u * s.den * b := by ac_rfl
      _=s.start*A*b:=by rw[x1]
      _=s.start*(a*B):=by rw[ha,hb];ac_rfl
  have f2:v*a*z*s.den=s.bI*z*(a*B):=by
    calc v * a * z * s.den = v * s.den * (a * z) := by ac_rfl
      _=s.bI*B*(a*z):=by rw[x2]
      _=s.bI*z*(a*B):=by ac_rfl
  rw[qjx,qjx,f1,f2]
def PlQ(g:Sl ay)(z:Int)(f:aP):Prop:=∃t∈cst g,f=red (iL t z) t.den
theorem PlQ.pos{g:Sl ay}(G:dw g){z:Int}{f:aP}(h:PlQ g z f):0<f.bT:=by
 obtain⟨t,ht,rfl⟩:=h;exact jf (by have:=(rE G ht).2.2;omega)
abbrev zWN(C:Sl ay×Int->ae (aP×aP)):Prop:=∀g z,dw g->N7 z->iG g=true->∃a b,C (g,z)=.ok (a,b)/\0<a.bT/\0<b.bT
theorem z8h{E:zaB}(N:Big E.N)(IE:zgH E.BU)(zeB:zuw E.c193)(h71:IV E.Uy)(YM:zuA E.c194)(h76:Q76 E.c76)(h56:Q56 E.YB):zWN (zpP E):=λg z G hz hs=>by
 have hg:=G.2;cases hf:fQ g with
 | true =>
  obtain⟨a,b⟩:=Oh G.1 omY g.len (kC _);refine⟨red (fP g g.len).Low 1,red (fP g g.len).High 1,ae.ext λk=>?_,jf omY,jf omY⟩;rw[zMT,IE g omY omY,bn,hf,ed,zeB g omY omY,bn,bn];show(E.Uy ((fP g g.len).Low,1)).T (λr3=>(E.Uy ((fP g g.len).High,1)).T λr4=>k (r3,r4))=_;rw[h71 _ _ omY omY omY omY,bn,h71 _ _ omY omY omY omY,bn]
 | false =>
  obtain⟨L,l1,l2,l3,l4⟩:=YM g G;have l0:0<L.len:=l2.2 ((IW G hf).1 hs);have pc:∀i,i<L.len->∃f,PlQ g z f/\E.c76 (L.get i,z)=.ok f:=λi hi=>by
   obtain⟨t,ht,e⟩:=l4 i hi;exact⟨_,⟨t,ht,rfl⟩,by rw[e];exact h76 t z (rE G ht) hz⟩
  have key:∀(m i n:Nat)(x y:aP),i+m=L.len->m<n->PlQ g z x->PlQ g z y->∃a b,(∀(A:Type)(k:aP×aP->Option A),BI E n z L (i:Int) x y k=k (a,b))/\PlQ g z a/\PlQ g z b:=by
   intro m
   induction m with
   | zero =>
    intro i n x y hi hn hx hy;obtain⟨n,rfl⟩:∃n',n=n'+1:=⟨n-1,omY⟩;exact⟨x,y,λA k=>by rw[zjJ,eU omY];rfl,hx,hy⟩
   | succ m ih =>
    intro i n x y hi hn hx hy;obtain⟨n,rfl⟩:∃n',n=n'+1:=⟨n-1,omY⟩;obtain⟨f,hf,ef⟩:=pc i omY;have st:∀(A:Type)(k:aP×aP->Option A),BI E (n+1) z L (i:Int) x y k=BI E n z L ((i+1:Nat):Int) (cond (leB f x) f x) (cond (leB y f) f y) k:=λA k=>by
     rw[zjJ,dZ omY,ed,bG omY,gU,ef,bn,h56,bn];cases leB f x<;>simp only[ed,dS]<;>rw[zyk,h56,bn,bP omY]<;>cases leB y f<;>rfl
    obtain⟨a,b,h1,h2,h3⟩:=ih (i+1) n (cond (leB f x) f x) (cond (leB y f) f y) omY omY (by cases leB f x<;>assumption) (by cases leB y f<;>assumption);exact⟨a,b,λA k=>by rw[st];exact h1 A k,h2,h3⟩
  obtain⟨f,hf0,ef⟩:=pc 0 l0;obtain⟨a,b,h1,h2,h3⟩:=key (L.len-1) 1 E.N f f omY (by have:=N;omega) hf0 hf0;refine⟨a,b,ae.ext λk=>?_,h2.pos G,h3.pos G⟩;rw[zMT,IE g omY omY,bn,hf,dS,l1,bn,bG omY,ef,bn,bG omY,bn,bn];exact h1 _ k
abbrev zWO(C:aP->ae Int):Prop:=∀f:aP,0<f.bT->∃n,C f=.ok n
theorem z8i{E:zpQ}:zWO (zpR E):=λf h=>by
 exact⟨_,ae.ext λk=>by rw[zTg,bG omY,kc k,bn]⟩
/-! What a plane sees. -/
def qh(p:ak)(c:Int):bZ:=⟨aO (aO (p.First+aO (c*p.aS))-jT p),aO (aO (aO (aO (p.First+aO (c*p.aS))-jT p)+p.aS)-1)⟩
abbrev zzT(C:ak×Int->ae (Int×Int)):Prop:=∀p c,C (p,c)=.ok ((qh p c).Low,(qh p c).High)
theorem zWa{E:zpF}:zzT (zpG E):=λp c=>ae.ext λk=>by
 rw[zS1,bn];unfold qh jT;cases p.Kind==2<;>rfl
def IB(p:ak)(lo hi:Int)(c:Nat):Bool:=hasB p.Dead (c:Int)&&(decide ((qh p (c:Int)).Low<=hi)&&decide ((qh p (c:Int)).High>=lo))
def XU(p:ak)(x:bZ):Bool:=(decide (aO (x.Low-p.bC.High)>=(qh p 0).Low)&&decide (aO (x.High-p.bC.Low)<=(qh p (aO (p.bM-1))).High))&&fG (λc=>!IB p (aO (x.Low-p.bC.High)) (aO (x.High-p.bC.Low)) c) p.bM.toNat
abbrev Q77(C:ak×bZ->ae (Bool×Bool)):Prop:=∀p x,YD p->Few p->∃b,C (p,x)=.ok (XU p x,b)
theorem s77{E:E77}(N:Big E.N)(zjn:zzT E.zfF)(zan:zo5 E.OL):Q77 (F77 E):=λp x hp hf=>by
  obtain⟨_,_,_,_,_,Fb,_⟩:=hp;have key:∀(m c n:Nat)(lo hi:Int)(mu ca:Bool),c+m=p.bM.toNat->m<n->∃b,∀(A:Type)(k:Bool×Bool->Option A),ny E n p lo hi mu ca (c:Int) k=k (mu&&(List.range' c m).all (λc=>!IB p lo hi c),b):=by
    intro m
    induction m with
    | zero =>
      intro c n lo hi mu ca hc hn;obtain⟨n,rfl⟩:∃n',n=n'+1:=⟨n-1,omY⟩;exact⟨ca,λA k=>by rw[zuk,eU omY];simp⟩
    | succ m ih =>
      intro c n lo hi mu ca hc hn;obtain⟨n,rfl⟩:∃n',n=n'+1:=⟨n-1,omY⟩;rw[YA];have st:∃ca',∀(A:Type)(k:Bool×Bool->Option A),ny E (n+1) p lo hi mu ca (c:Int) k=ny E n p lo hi (mu && !IB p lo hi c) ca' ((c+1:Nat):Int) k:=by
        have hd:E.OL (p,(c:Int))=.ok (hasB p.Dead (c:Int)):=zan p _ hf
        have e0:∀(A:Type)(k:Bool×Bool→Option A),ny E (n+1) p lo hi mu ca (c:Int) k=cond (hasB p.Dead (c:Int)) (cond (decide ((qh p (c:Int)).Low≤hi)) (cond (decide ((qh p (c:Int)).High≥lo)) (ny E n p lo hi false ca ((c+1:Nat):Int) k) (ny E n p lo hi mu ca ((c+1:Nat):Int) k)) (ny E n p lo hi mu ca ((c+1:Nat):Int) k))
            (ny E n p lo hi mu (cond (decide (aO ((qh p (c:Int)).Low-p.dN)<=hi)) (cond (decide (aO ((qh p (c:Int)).High+p.dN)>=lo)) true ca) ca) ((c+1:Nat):Int) k):=λA k=>by
          rw[zuk,dZ omY,ed,zjn,bn,hd,bn,bP omY];cases hasB p.Dead (c:Int)with
          | true=>rfl
          | false =>
            simp only[dS];cases decide (aO ((qh p (c:Int)).Low-p.dN)<=hi)with
            | false=>rfl
            | true =>
              simp only[ed];cases decide (aO ((qh p (c:Int)).High+p.dN)>=lo)<;>rfl
        cases h1:hasB p.Dead (c:Int)with
        | false =>
          rw[h1]at e0;exact⟨_,λA k=>by rw[e0];simp only[IB,h1,qdf,qdU,qje];rfl⟩
        | true =>
          rw[h1]at e0;refine⟨ca,λA k=>?_⟩;rw[e0];simp only[IB,h1,OY,ed];cases decide ((qh p (c:Int)).Low<=hi)<;>cases decide ((qh p (c:Int)).High>=lo)<;>simp
      obtain⟨ca',h⟩:=st;obtain⟨b,h2⟩:=ih (c+1) n lo hi (mu && !IB p lo hi c) ca' omY omY;exact⟨b,λA k=>by rw[h,h2,qdS,Bool.and_assoc]⟩
  have al:∀(q:Nat->Bool) n,(List.range' 0 n).all q=fG q n:=λq n=>by
    rw[Ut,dI,Aa];exact⟨λh i hi=>h i (by simp;omega),λh i hi=>h i (by simp at hi;omega)⟩
  obtain⟨b,hb⟩:=key p.bM.toNat 0 E.N (aO (x.Low-p.bC.High)) (aO (x.High-p.bC.Low)) (decide (aO (x.Low-p.bC.High)>=(qh p 0).Low)&&decide (aO (x.High-p.bC.Low)<=(qh p (aO (p.bM-1))).High)) false omY (by have:=N;omega);refine⟨b,ae.ext λk=>?_⟩;rw[e77,zjn,bn,zjn,bn,bn];have hb:=hb _ k;rw[al]at hb;refine Eq.trans ?_ hb;show cond (decide (aO (x.Low-p.bC.High)>=(qh p 0).Low)) (ny E E.N p _ _ (decide (aO (x.High-p.bC.Low)<=(qh p (aO (p.bM-1))).High)) false 0 k) (ny E E.N p _ _ false false 0 k)=_;cases decide (aO (x.Low-p.bC.High)>=(qh p 0).Low)<;>rfl
structure qH (s : au) (l : Sl bF) (t : af) : Prop extends Chosen s l t where
  ag:ET s l (fA t)=true
abbrev Q91(C:au×Sl bF×af->ae (Sl Int)):Prop:=∀s l t,qH s l t->∃w:Sl Int,C (s,l,t)=.ok w
theorem s91{E:E91}(N:Big E.N)(h65:Q65 E.c65)(h87:Q87 E.c87)(IE:zgH E.BU)(zxV:zWN E.zso)(zpb:zWO E.YW)(h86:BX E.c86)(h77:Q77 E.c77):Q91 (F91 E):=λs l t ha=>by
 obtain⟨j,hv⟩:=ha.vl;have he:=ha.ev;have hl:=qR rfl hv;have h24:=he.l24;have G:=EX he.toEvt he.l24 hv ha.ne;have hG:=G.2;have hp:=tu he.se;have so:iG (qx s l (fA t))=true:=by
  have:=ha.ag;unfold ET at this;rw[gG]at this;exact this.2
 have key:∀(m i n:Nat)(w:Sl Int),i+m=s.aj.len->m<n->w.len<=i->∃w':Sl Int,∀(A:Type)(k:Sl Int->Option A),sS E n s l t (qx s l (fA t)) (i:Int) w k=k w':=by
  intro m
  induction m with
  | zero =>
   intro i n w hi hn hw;obtain⟨n,rfl⟩:∃n',n=n'+1:=⟨n-1,omY⟩;exact⟨w,λA k=>by rw[zun,eU omY];rfl⟩
  | succ m ih =>
   intro i n w hi hn hw;obtain⟨n,rfl⟩:∃n',n=n'+1:=⟨n-1,omY⟩;have Ob:=xE he.se (i:=i) omY;have hz:=zr5 Ob;obtain⟨wa,ya⟩:=ih (i+1) n (oO w (i:Int)) omY omY (by show w.len+1<=i+1;omega);obtain⟨wb,yb⟩:=ih (i+1) n w omY omY omY;obtain⟨a,b,e1,e2,e3⟩:=zxV _ _ G hz so;obtain⟨x,ex⟩:=zpb a e2;obtain⟨y,ey⟩:=zpb ⟨aO (0-b.Num),b.bT⟩ e3;obtain⟨c,ec⟩:=h77 (s.aj.get i) ⟨x,aO (0-y)⟩ Ob (he.sh.2 i omY);have st:∀(A:Type)(k:Sl Int->Option A),sS E (n+1) s l t (qx s l (fA t)) (i:Int) w k=cond ((s.aj.get i).View != t.View) (k wb) (cond (!usB l t.Hits t.Hits.len (i:Int)) (k wb) (cond (fQ (qx s l (fA t))) (k wb) (cond (!inB x (-1000000) 1000000) (k wb) (cond (!inB (aO (0-y)) (-1000000) 1000000) (k wb) (cond (XU (s.aj.get i) ⟨x,aO (0-y)⟩) (k wa) (k wb)))))):=λA k=>by
    rw[zun,dZ omY,ed,bG omY,gU,bP omY,yb,h87 l t.Hits _ omY (EQ rfl hv),bn,IE _ omY omY,bn,bG omY,e1,bn];show cond _ _ (cond _ _ (cond _ _ ((E.YW a).T λr4=>(E.YW ⟨aO (0-b.Num),b.bT⟩).T _)))=_;rw[ex,bn,ey,bn,h86,bn,h86,bn,bG omY,ec,bn,jQ omY omY];show cond _ _ (cond _ _ (cond _ _ (cond _ _ (cond _ _ (cond (XU (s.aj.get i) ⟨x,aO (0-y)⟩) (sS E n s l t (qx s l (fA t)) ((i+1:Nat):Int) (oO w (i:Int)) k) _)))))=_;rw[ya]
   exact⟨_,λA k=>by rw[st,kc k,kc k,kc k,kc k,kc k,kc k]⟩
 obtain⟨w',h⟩:=key s.aj.len 0 E.N ⟨0,λ_=>0⟩ omY (by have:=N;omega) (kC _);refine⟨w',ae.ext λk=>?_⟩;rw[e91,h65 s l t he.toEvt omY (Fa he.vw ha.tv rfl hv ha.ne),bn,IY rfl,bn];exact h _ k
abbrev zWP(C:au×bJ×Sl bF×af->ae Bool):Prop:=∀s r l t,qH s l t->∃b,C (s,r,l,t)=.ok b
theorem z8k{E:zpV}(zaD:zrW E.c196)(h91:Q91 E.c91):zWP (zpW E):=λs r l t ha=>by
 obtain⟨j,hv⟩:=ha.vl;obtain⟨w,hw⟩:=h91 s l t ha;exact⟨_,ae.ext λk=>by rw[e154,zaD s l _ t _ j ha.ev ha.tv rfl hv ha.ne,bn,ha.ag,ed,hw,bn,kc k,bn]⟩
/-! Choices that contain others: hits in their order. -/
structure zlW (t : af) : Prop where
  le:t.Hits.len<=100
  sd:t.bz.len=t.Hits.len
  inc:zr2 t.Hits
theorem zmx{s:au}{l:Sl bF}{x:Int}{t:af}{c:jv}{j:Nat}(h24:l.len<=24)(ht:Ol x t)(hc:fA t=c)(h:Val s l x c j):zlW t:=by
 have hl:=qR hc h;have lc:c.length=t.Hits.len:=by rw[<- hc,kz]
 refine⟨omY,ht.2,λa b hab hb=>?_⟩;have pw:=qdk.1 h.pw;have ge:∀i (hi:i<t.Hits.len),c[i]'omY=(t.Hits.get i,t.bz.get i):=λi hi=>by
  have:=zV hc hi;rw[BR omY]at this;exact YR this
 have:=(pw a b omY omY hab).1;rw[ge a omY,ge b hb]at this;exact this
theorem Chosen.inc{s:au}{l:Sl bF}{t:af}(h:Chosen s l t):zlW t:=by
 obtain⟨j,hj⟩:=h.vl;exact zmx h.ev.l24 h.tv rfl hj
abbrev Q53(C:af×af->ae Bool):Prop:=∀a b,zlW a->zlW b->C (a,b)=.ok (yE a b)
theorem s53{E:E53}(N:Big E.N):Q53 (F53 E):=λa b ha hb=>ae.ext λk=>by
 have la:=ha.le;have lb:=hb.le;have sa:=ha.sd;have sb:=hb.sd;have ia:=ha.inc;have ib:=hb.inc;have hN:=N;have key:∀(m i n q:Nat),i+m=b.Hits.len->m<n->q<=a.Hits.len->(∀p,p<q->i<b.Hits.len->a.Hits.get p<b.Hits.get i)->zcz E n a b (q:Int) (i:Int) k=k ((List.range' i m).all (λi=>(fA a).contains (b.Hits.get i,b.bz.get i))&&(a.View==b.View)):=by
  intro m
  induction m with
  | zero =>
   intro i n q hi hn hq iC;obtain⟨n,rfl⟩:∃n',n=n'+1:=⟨n-1,omY⟩;rw[zug,eU omY];rfl
  | succ m ih =>
   intro i n q hi hn hq iC;obtain⟨n,rfl⟩:∃n',n=n'+1:=⟨n-1,omY⟩;have hib:i<b.Hits.len:=by omega
   rw[zug,dZ omY,ed,YA,qdS]
   -- the place where the hit can stand
   have adv:∀(d q n1:Nat),q+d=a.Hits.len->d<n1->(∀p,p<q->a.Hits.get p<b.Hits.get i)->∃q',q'<=a.Hits.len/\(∀p,p<q'->a.Hits.get p<b.Hits.get i)/\(q'<a.Hits.len->b.Hits.get i<=a.Hits.get q')/\Qw E n n1 a b (q:Int) (i:Int) k=WP E n a b (q':Int) (i:Int) k:=by
    intro d
    induction d with
    | zero =>
     intro q n1 hq hn1 iC;obtain⟨n1,rfl⟩:∃n',n1=n'+1:=⟨n1-1,omY⟩;exact⟨q,omY,iC,λh=>by omega,by rw[zuh,eU omY];rfl⟩
    | succ d ih2 =>
     intro q n1 hq hn1 iC;obtain⟨n1,rfl⟩:∃n',n1=n'+1:=⟨n1-1,omY⟩;have st:Qw E n (n1+1) a b (q:Int) (i:Int) k=cond (decide (a.Hits.get q<b.Hits.get i)) (Qw E n n1 a b ((q+1:Nat):Int) (i:Int) k) (WP E n a b (q:Int) (i:Int) k):=by
      rw[zuh,dZ omY,ed,bG omY,bG omY,gU,gU,bP omY]
     by_cases h:a.Hits.get q<b.Hits.get i
     ·obtain⟨q',h1,h2,h3,h4⟩:=ih2 (q+1) n1 omY omY (λp hp=>by
       by_cases e:p=q
       ·rw[e];exact h
       ·exact iC p omY)
      exact⟨q',h1,h2,h3,by rw[st,dZ h];exact h4⟩
     ·exact⟨q,omY,iC,λ_=>by omega,by rw[st,eU h];rfl⟩
   obtain⟨q',h1,h2,h3,h4⟩:=adv (a.Hits.len-q) q E.N omY omY (λp hp=>iC p hp hib);rw[h4];have only:∀p,p<a.Hits.len->a.Hits.get p=b.Hits.get i->p=q':=λp hp e=>by
    rcases qdB p q' with h|h|h
    ·have:=h2 p h;omega
    ·exact h
    ·have:=ia q' p h hp;have:=h3 omY;omega
   rw[zGp];by_cases c1:q'=a.Hits.len
   ·have:(fA a).contains (b.Hits.get i,b.bz.get i)=false:=by
     cases hc:(fA a).contains (b.Hits.get i,b.bz.get i)with
     | false=>rfl
     | true =>
      obtain⟨p,hp,e,_⟩:=lJ.1 (qjn.1 hc);have:=only p hp e;omega
    rw[show((q':Int)==(a.Hits.len:Int))=true by rw[qdO];omega,this];rfl
   ·rw [show ((q' : Int) == (a.Hits.len : Int)) = false by rw [qdz]; omega, dS, bG omY, bG omY, gU, gU];by_cases c2:a.Hits.get q'=b.Hits.get i
    ·have:(fA a).contains (b.Hits.get i,b.bz.get i)=(a.bz.get q'==b.bz.get i):=by
      rw[Ut,qjn,lJ,qdO];constructor
      ·rintro⟨p,hp,e,e2⟩;rw[only p hp e]at e2;exact e2
      ·intro h;exact⟨q',omY,c2,h⟩
     rw[show(a.Hits.get q' != b.Hits.get i)=false by simp[c2],dS,bG omY,bG omY,this,bP omY,bne];cases a.bz.get q'==b.bz.get i with
     | false=>rfl
     | true =>
      rw[OY];refine ih (i+1) n q' omY omY h1 (λp hp hi2=>?_);have:=h2 p hp;have:=ib i (i+1) omY hi2;omega
    ·have:(fA a).contains (b.Hits.get i,b.bz.get i)=false:=by
      cases hc:(fA a).contains (b.Hits.get i,b.bz.get i)with
      | false=>rfl
      | true =>
       obtain⟨p,hp,e,_⟩:=lJ.1 (qjn.1 hc);rw[only p hp e]at e;exact absurd e c2
     rw[show(a.Hits.get q' != b.Hits.get i)=true by simpa using c2,this];rfl
 rw[e53,bn];refine(key b.Hits.len 0 E.N 0 omY omY (Cf _) (λp hp=>absurd hp (UW p))).trans ?_;congr 1;unfold yE;congr 1
 ·rw [Ut, Aa, Aa];constructor
  ·intro h p hp;obtain⟨i,hi,e1,e2⟩:=lJ.1 hp;have:=h i (by simp;omega);rw[e1,e2]at this;exact this
  ·intro h i hi;exact h _ (lJ.2 ⟨i,by simp at hi;omega,rfl,rfl⟩)
 ·rw[Ut,qdO,qdO];exact eq_comm
theorem s38{E:E38}(N:Big E.N):zc0 (F38 E):=λa b ha hb=>ae.ext λk=>by
 have key:∀(m i n:Nat),i+m=a.len->i<=b.len->m<n->zcx E n a b (i:Int) k=k (cmpL ((List.range' i m).map a.get) ((List.range' i (b.len-i)).map b.get)):=by
  intro m
  induction m with
  | zero =>
   intro i n hi hb hn;obtain⟨n,rfl⟩:∃n',n=n'+1:=⟨n-1,omY⟩;rw[zt8,eU omY,dS,zt9,zua,eU (show ¬(a.len:Int)>(b.len:Int)by omega),dS,kc k];congr 1;cases h:b.len-i with
   | zero=>rw[eU omY];rfl
   | succ q=>rw[dZ omY];rfl
  | succ m ih =>
   intro i n hi hb hn;obtain⟨n,rfl⟩:∃n',n=n'+1:=⟨n-1,omY⟩;rw[zt8,dZ omY,ed,YA,oU];cases h:b.len-i with
   | zero=>rw[eU omY,dS,zt9,zua,eU omY,dZ (show(a.len:Int)>(b.len:Int)by omega)];rfl
   | succ q =>
    rw[dZ omY,ed,bG omY,bG omY,bG omY,bG omY,gU,bP omY,ih (i+1) n omY omY omY,YA,oU,show b.len-(i+1)=q by omega];show _=k (cond (qQ (a.get i) (b.get i) != 0) (qQ (a.get i) (b.get i)) _);unfold qQ;cases decide (a.get i<b.get i)<;>cases decide (a.get i>b.get i)<;>rfl
 rw[e38,bn];have:=key a.len 0 E.N omY (Cf _) (by have:=N;omega);unfold pI;rw[dqQ,dqQ];exact this
abbrev zWQ(C:af×af->ae Bool):Prop:=∀a b,One a->One b->∃r,C (a,b)=.ok r
theorem z8l{E:zpI}(h38:zc0 E.c38):zWQ (zpJ E):=λa b ha hb=>by
 have a1:=ha.le;have a2:=ha.sd;have b1:=hb.le;have b2:=hb.sd;exact⟨_,ae.ext λk=>by rw[zS5,h38 _ _ omY omY,bn,h38 _ _ omY omY,bn,kc k,kc k,bn]⟩
structure E17 where
  N:Nat
  c23:au×(Sl bF)×Int->ae Bool
  c26:au×bJ×(Sl bF)->ae Int
  c28:au×bJ×(Sl bF)->ae ((Sl af)×Bool)
def F17(E:E17):au×bJ×(Sl bF)×Int->ae ((Sl af)×Bool):=iK E.N (((Tabs.nil.addF 23 (ae.un E.c23)).addF 26 (ae.un E.c26)).addF 28 (ae.un E.c28)) 17
theorem e17(E:E17){A:Type}(k:((Sl af)×Bool)→Option A)(a0:au)(a1:bJ)(a2:Sl bF)(a3:Int):(F17 E (a0,a1,a2,a3)).T k =
  (E.c23 (a0,a2,a3)).T λr1 =>
  cond (!r1)
  (k ((⟨0,λ_=>default⟩:(Sl af)),false))
  (cond (decide ((a2.len:Int)>a3))
 (k ((⟨0,λ_=>default⟩:(Sl af)),false))
 ((E.c26 (a0,a1,a2)).T λr2 =>
 cond (r2 != 0)
 (k ((⟨0,λ_=>default⟩:(Sl af)),false))
 ((E.c28 (a0,a1,a2)).T λr3 =>
 k (r3.1,r3.2)))):=dV
theorem o17 [aJ](E:E17)(h23:Ok aH 23 (ae.un E.c23))(h26:Ok aH 26 (ae.un E.c26))(h28:Ok aH 28 (ae.un E.c28)):Ok aH 17 (ae.un (F17 E)):=dW (((ax.nil.addF h23).addF h26).addF h28)
theorem zB1{ag:jv->Bool}{us:jv->Int->Bool}{sd:Nat->jv}{c:jv}{j:Nat}(h:Ch ag us sd c j):c=[]\/ag c=true:=by
 cases h with
 | nil=>exact .inl rfl
 | snoc _ _ _ h=>exact .inr h
theorem zk9{ag:jv→Bool}{us:jv→Int→Bool}{sd:Nat→jv}:∀{f out c i},(∀x∈out,x≠[])→∀x∈O7 ag us sd f out c i,x≠[]
  | 0,out,c,i,h=>h
  | f+1,out,c,i,h=>by
    simp only[O7];generalize sd i=l
    induction l generalizing out with
    | nil=>exact h
    | cons p l ih =>
      rw[YC];refine ih _ ?_;cases us c p.1||(decide (2000<out.length) || !ag (c++[p]))with
      | true=>exact h
      | false =>
        refine zk9 λx hx=>?_;rcases dU.1 hx with hx|hx
        · exact h x hx
        · rw[mg.1 hx];simp
theorem XV{s:au}{l:Sl bF}{x:Int}(he:Ev s l x){t:af}(ht:Ol x t)(hc:fA t∈UD s l x):qH s l t:=by
 have ne:=zk9 (f:=30) (out:=[]) (λx h=>by cases h) _ hc;rcases zcO .nil hc with h|⟨j,hj⟩
 ·cases h
 ·have e:=ht.1;subst e;exact {ev:=he,tv:=ht,vl:=⟨j,Uu hj⟩,ne:=ne,ag:=(zB1 hj).resolve_left ne}
theorem zzU{P:af->Prop}{w:Sl af}{t:af}(h:∀t∈ls w,P t)(ht:P t):∀u∈ls (oO w t),P u:=λu hu=>by
 rw[O9]at hu;rcases dU.1 hu with hu|hu
 ·exact h u hu
 ·rw[mg.1 hu];exact ht
def xC(s:au)(l:Sl bF)(x:Int):Bool:=decide ((UD s l x).length<=2000)
abbrev Q94(C:au×bJ×Sl bF×Int->ae (Sl af×Bool)):Prop:=∀s r l x,Ev s l x->∃w:Sl af,C (s,r,l,x)=.ok (w,xC s l x)/\w.len<=2001/\∀t∈ls w,qH s l t
theorem s94{E:E94}(N:Big E.N)(zxX:zzz E.zsp)(zxY:zWP E.c154):Q94 (F94 E):=λs r l x he=>by
 obtain⟨v,h1,h2,h3,h4⟩:=zxX s l x he;have ha:∀i,i<v.len->qH s l (v.get i):=λi hi=>XV he (h3 i hi) (by rw[<- h2];exact JB (zr0 hi));cases hb:xC s l x with
 | false=>exact⟨⟨0,λ_=>default⟩,ae.ext λk=>by rw[e94,h1,bn];show cond (!xC s l x) _ _=_;rw[hb];rfl,Cf _,λt h=>by cases h⟩
 | true =>
  have key:∀(m i n:Nat)(w:Sl af),i+m=v.len->m<n->w.len<=i->(∀t∈ls w,qH s l t)->∃w':Sl af,(∀(A:Type)(k:Sl af×Bool->Option A),Ik E n s r l v (i:Int) w k=k (w',true))/\w'.len<=v.len/\∀t∈ls w',qH s l t:=by
   intro m
   induction m with
   | zero =>
    intro i n w hi hn hw hq;obtain⟨n,rfl⟩:∃n',n=n'+1:=⟨n-1,omY⟩;exact⟨w,λA k=>by rw[zur,eU omY];rfl,omY,hq⟩
   | succ m ih =>
    intro i n w hi hn hw hq;obtain⟨n,rfl⟩:∃n',n=n'+1:=⟨n-1,omY⟩;obtain⟨b,eb⟩:=zxY s r l _ (ha i omY);have st:∀(A:Type)(k:Sl af×Bool->Option A),Ik E (n+1) s r l v (i:Int) w k=cond b (Ik E n s r l v ((i+1:Nat):Int) (oO w (v.get i)) k) (Ik E n s r l v ((i+1:Nat):Int) w k):=λA k=>by
     rw[zur,dZ omY,ed,bG omY,gU,eb,bn,bP omY,bG omY,jQ omY omY];rfl
    cases b with
    | true =>
     obtain⟨w',a,c,d⟩:=ih (i+1) n (oO w (v.get i)) omY omY (by show w.len+1<=i+1;omega) (zzU hq (ha i omY));exact⟨w',λA k=>by rw[st];exact a A k,c,d⟩
    | false =>
     obtain⟨w',a,c,d⟩:=ih (i+1) n w omY omY omY hq;exact⟨w',λA k=>by rw[st];exact a A k,c,d⟩
  obtain⟨w',a,c,d⟩:=key v.len 0 E.N ⟨0,UE⟩ omY (by have:=N;omega) (kC _) (λt h=>by cases h);refine⟨w',ae.ext λk=>?_,omY,d⟩;rw[e94,h1,bn];show cond (!xC s l x) _ _=_;rw[hb];exact a _ k
abbrev Q88(C:au×bJ×Sl bF×Int->ae (Sl af×Bool)):Prop:=∀s r l x,Ev s l x->∃w:Sl af,C (s,r,l,x)=.ok (w,xC s l x)/\w.len<=2001
theorem s88{E:E88}(N:Big E.N)(h94:Q94 E.c94)(h53:Q53 E.c53)(zxS:zWQ E.zsm):Q88 (F88 E):=λs r l x he=>by
 have hN:=N;obtain⟨v,h1,h2,h3⟩:=h94 s r l x he;have ha:∀i,i<v.len->qH s l (v.get i):=λi hi=>h3 _ (jA.2 ⟨i,hi,rfl⟩);cases hb:xC s l x with
 | false=>exact⟨_,ae.ext λk=>by rw[e88,h1,bn];show cond (!xC s l x) _ _=_;rw[hb];rfl,Cf _⟩
 | true =>
  have mo:∀n0 (i:Nat),i<v.len->∀(m j n1:Nat)(w:Sl af)(f:Bool),j+m=v.len->m<n1->∃B:Bool,∀(A:Type)(k:Sl af×Bool->Option A),ML E n0 n1 v (i:Int) f (j:Int) w k=cond B (BV E n0 v ((i+1:Nat):Int) w k) (IX E n0 E.N v w (i:Int) 0 k):=by
   intro n0 i hi m
   induction m with
   | zero =>
    intro j n1 w f hj hn;obtain⟨n1,rfl⟩:∃n',n1=n'+1:=⟨n1-1,omY⟩;exact⟨!f,λA k=>by rw[zjo,eU omY,dS,bP omY]⟩
   | succ m ih =>
    intro j n1 w f hj hn;obtain⟨n1,rfl⟩:∃n',n1=n'+1:=⟨n1-1,omY⟩;have st:∃f':Bool,∀(A:Type)(k:Sl af×Bool->Option A),ML E n0 (n1+1) v (i:Int) f (j:Int) w k=ML E n0 n1 v (i:Int) f' ((j+1:Nat):Int) w k:=by
     cases f with
     | false=>exact⟨false,λA k=>by rw[zjo,dZ omY,bP omY];rfl⟩
     | true =>
      by_cases e:i=j
      ·exact⟨true,λA k=>by rw[zjo,dZ omY,bP omY,show((i:Int)==(j:Int))=true by rw[qdO];omega];rfl⟩
      ·exact⟨_,λA k=>by
        rw[zjo,dZ omY,bP omY,show((i:Int)==(j:Int))=false by rw[qdz];omega,ed,ed,dS,bG omY,bG omY,gU,gU,h53 _ _ (ha j omY).inc (ha i hi).inc,bn]⟩
    obtain⟨f',h⟩:=st;obtain⟨B,h2⟩:=ih (j+1) n1 w f' omY omY;exact⟨B,λA k=>by rw[h,h2]⟩
  have pos:∀n0 (i:Nat),i<v.len->∀(w:Sl af),(∀t∈ls w,qH s l t)->∀(m j n1:Nat),j+m=w.len->w.len<=2001->m<n1->∃a,a<=w.len/\∀(A:Type)(k:Sl af×Bool->Option A),IX E n0 n1 v w (i:Int) (j:Int) k=Qx E n0 v w (i:Int) (a:Int) k:=by
   intro n0 i hi w hw m
   induction m with
   | zero =>
    intro j n1 hj hl hn;obtain⟨n1,rfl⟩:∃n',n1=n'+1:=⟨n1-1,omY⟩;exact⟨j,omY,λA k=>by rw[zum,eU omY];rfl⟩
   | succ m ih =>
    intro j n1 hj hl hn;obtain⟨n1,rfl⟩:∃n',n1=n'+1:=⟨n1-1,omY⟩;obtain⟨b,eb⟩:=zxS (w.get j) (v.get i) (hw _ (jA.2 ⟨j,omY,rfl⟩)).one (ha i hi).one;have st:∀(A:Type)(k:Sl af×Bool->Option A),IX E n0 (n1+1) v w (i:Int) (j:Int) k=cond b (IX E n0 n1 v w (i:Int) ((j+1:Nat):Int) k) (Qx E n0 v w (i:Int) (j:Int) k):=λA k=>by
     rw[zum,dZ omY,ed,bG omY,bG omY,gU,gU,eb,bn,bP omY]
    cases b with
    | true =>
     obtain⟨a,a1,a2⟩:=ih (j+1) n1 omY hl omY;exact⟨a,a1,λA k=>by rw[st];exact a2 A k⟩
    | false=>exact⟨j,omY,λA k=>by rw[st];rfl⟩
  have key:∀(m i n:Nat)(w:Sl af),i+m=v.len->m<n->w.len<=i->(∀t∈ls w,qH s l t)->∃w':Sl af,(∀(A:Type)(k:Sl af×Bool->Option A),BV E n v (i:Int) w k=k (w',true))/\w'.len<=v.len:=by
   intro m
   induction m with
   | zero =>
    intro i n w hi hn hw hq;obtain⟨n,rfl⟩:∃n',n=n'+1:=⟨n-1,omY⟩;exact⟨w,λA k=>by rw[zul,eU omY];rfl,omY⟩
   | succ m ih =>
    intro i n w hi hn hw hq;obtain⟨n,rfl⟩:∃n',n=n'+1:=⟨n-1,omY⟩;have kN:i<v.len:=by omega
    obtain⟨B,hB⟩:=mo n i kN v.len 0 E.N w true omY omY;obtain⟨a,a1,a2⟩:=pos n i kN w hq w.len 0 E.N omY omY omY;have ins:∃w':Sl af,(∀(A:Type)(k:Sl af×Bool->Option A),Qx E n v w (i:Int) (a:Int) k=BV E n v ((i+1:Nat):Int) w' k)/\w'.len=w.len+1/\∀t∈ls w',qH s l t:=by
     refine⟨_,λA k=>by
      rw[zGu,bG omY,jQ omY omY,bG omY,jQ omY omY,bG omY,jQ omY omY,bP omY],?_,?_⟩
     ·show((((a:Int)-0).toNat+1)+((w.len:Int)-(a:Int)).toNat)=_;omega
     ·intro t ht;obtain⟨q,hq',rfl⟩:=jA.1 ht;have hq':q < ((((a:Int) - 0).toNat+1)+((w.len:Int) - (a:Int)).toNat):=hq';show qH s l (jL (((a:Int) - 0).toNat+1) (jL ((a:Int) - 0).toNat (EM w.get 0) (λ _=>v.get (i:Int).toNat)) (EM w.get (a:Int).toNat) q);rw[je];split
      ·exact hq _ (jA.2 ⟨q-(((a:Int)-0).toNat+1)+(a:Int).toNat,omY,rfl⟩)
      ·rw [je];split
       ·rw[gU];exact ha i kN
       ·exact hq _ (jA.2 ⟨q+0,omY,rfl⟩)
    obtain⟨w1,i1,i2,i3⟩:=ins;have st:∀(A:Type)(k:Sl af×Bool->Option A),BV E (n+1) v (i:Int) w k=cond B (BV E n v ((i+1:Nat):Int) w k) (BV E n v ((i+1:Nat):Int) w1 k):=λA k=>by
     rw[zul,dZ omY,ed];have h0:=hB A k;have h1:=a2 A k;rw[show((0:Nat):Int)=0 from rfl]at h0 h1;rw[h0,h1,i1]
    cases B with
    | true =>
     obtain⟨w',x1,x2⟩:=ih (i+1) n w omY omY omY hq;exact⟨w',λA k=>by rw[st];exact x1 A k,x2⟩
    | false =>
     obtain⟨w',x1,x2⟩:=ih (i+1) n w1 omY omY omY i3;exact⟨w',λA k=>by rw[st];exact x1 A k,x2⟩
  obtain⟨w',a,c⟩:=key v.len 0 E.N ⟨0,UE⟩ omY omY (kC _) (λt h=>by cases h);refine⟨w',ae.ext λk=>?_,omY⟩;rw[e88,h1,bn];show cond (!xC s l x) _ _=_;rw[hb];exact a _ k
abbrev Q28(C:au×bJ×Sl bF->ae (Sl af×Bool)):Prop:=∀s r l,Ev s l 1->Ev s l 2->∃w:Sl af,C (s,r,l)=.ok (w,xC s l 1&&xC s l 2)
theorem s28{E:E28}(h88:Q88 E.v88):Q28 (F28 E):=λs r l h1 h2=>by
 obtain⟨a,a1,a2⟩:=h88 s r l 1 h1;obtain⟨b,b1,b2⟩:=h88 s r l 2 h2;refine⟨⟨a.len+b.len,jL a.len a.get b.get⟩,ae.ext λk=>?_⟩;rw[e28,a1,bn,b1,bn,jQ (show a.len+b.len<=1000000 by omega) omY];show cond (xC s l 1) _ _=_;cases xC s l 1<;>rfl
structure Fair (s : au) (r : bJ) (l : Sl bF) (m : Int) : Prop where
  sh:sN s
  le:l.len<=40
  lm:(l.len:Int)<=m
  rf:lV s r l=0
  n1:(kF s l 1).length<=2000
  n2:(kF s l 2).length<=2000
abbrev Q17(C:au×bJ×Sl bF×Int->ae (Sl af×Bool)):Prop:=∀s r l m,∃w b,C (s,r,l,m)=.ok (w,b)/\(b=true->Fair s r l m)
theorem s17{E:E17}(h23:Q23 E.c23)(h26:Q26 E.c26)(h28:Q28 E.c28):Q17 (F17 E):=λs r l m=>by
 cases hsh:zew s l m with
 | false=>exact⟨⟨0,λ_=>default⟩,false,ae.ext λk=>by rw[e17,h23,bn,hsh];rfl,λh=>by cases h⟩
 | true =>
  obtain⟨hs,hl,_⟩:=zxQ hsh;by_cases hm:(l.len:Int)>m
  ·exact⟨⟨0,λ_=>default⟩,false,ae.ext λk=>by rw[e17,h23,bn,hsh,dZ hm];rfl,λh=>by cases h⟩
  ·by_cases h0 : lV s r l = 0
   ·obtain ⟨he, _, h24⟩ := E8 hs h0;obtain⟨w,hw⟩:=h28 s r l { toEvt:=he,l24:=h24,vw:=rfl } { toEvt:=he,l24:=h24,vw:=rfl };refine⟨w,xC s l 1 && xC s l 2,ae.ext λ k=>by rw[e17,h23,bn,hsh,eU hm,h26 s r l hs hl,bn,h0];show (E.c28 (s,r,l)).T _=_;rw[hw,bn],λ h=>?_⟩;rw[gG] at h;have a:=dqS h.1;have b:=dqS h.2;refine⟨hs,hl,omY,h0,?_,?_⟩
    ·rw[<- zcY a];exact a
    ·rw[<- zcY b];exact b
   ·exact⟨⟨0,λ_=>default⟩,false,ae.ext λk=>by rw[e17,h23,bn,hsh,eU hm,h26 s r l hs hl,bn,show(lV s r l != 0)=true by simpa using h0];rfl,λh=>by cases h⟩
theorem NW.fit{s:au}{r:bJ}{l:Sl bF}{f:found}(h:NW s r l f){t:af}(ht:t∈ls f.fits):(t.View=1\/t.View=2)/\Ol t.View t/\fA t∈(kF s l t.View).filter (qG s l t.View r):=by
 obtain⟨X,Y,e,x1,y1,x2,y2⟩:=h.fx;rw[e]at ht;rcases dU.1 ht with h|h
 ·have a:=(x1 t h).1;exact⟨.inl a,⟨rfl,(x1 t h).2⟩,by rw[a,<- x2];exact qdJ h⟩
 ·have a:=(y1 t h).1;exact⟨.inr a,⟨rfl,(y1 t h).2⟩,by rw[a,<- y2];exact qdJ h⟩
theorem NW.chosen{s:au}{r:bJ}{l:Sl bF}{f:found}(h:NW s r l f)(he:Evt s l)(h24:l.len<=24){t:af}(ht:t∈ls f.fits):Chosen s l t:=by
 obtain⟨v,tv,m⟩:=h.fit ht;obtain⟨⟨j,hj⟩,ne⟩:=Nz (UL.1 m).1;exact {ev:={toEvt:=he,l24:=h24,vw:=dZ v},tv:=tv,vl:=⟨j,Uu hj⟩,ne:=ne}
theorem NW.sub{s:au}{r:bJ}{l:Sl bF}{f:found}(h:NW s r l f){t:af}(ht:t∈ls f.aW):t∈ls f.fits:=(UL.1 (h.tr.mem_iff.1 ht)).1
theorem NW.len{s:au}{r:bJ}{l:Sl bF}{f:found}(h:NW s r l f)(n1:(kF s l 1).length<=2000)(n2:(kF s l 2).length<=2000):f.aW.len<=4000:=by
 obtain⟨X,Y,e,x1,y1,x2,y2⟩:=h.fx;have a:=h.tr.length_eq;rw[iQ]at a;have b:=qdY (λt=>!(ls f.fits).any λx=>Jt x t) (ls f.fits);rw[e,Jz]at b;have c:=jX List.length x2;have d:=jX List.length y2;rw[dqU]at c d;have:=qdY (qG s l 1 r) (kF s l 1);have:=qdY (qG s l 2 r) (kF s l 2);rw[e]at a;omega
theorem Fair.evt{s:au}{r:bJ}{l:Sl bF}{m:Int}(h:Fair s r l m):Evt s l/\l.len<=24/\qV r=true:=by
 obtain⟨a,b,c⟩:=E8 h.sh h.rf;exact⟨a,c,b⟩
theorem Zf5{s:au}{r:bJ}{l:Sl bF}(he:Evt s l)(h24:l.len<=24)(hr:qV r=true):lV s r l=0:=by
 unfold lV;rw[eU omY,he.se,hr,he.hi];rfl
def IA(a b:aP):Prop:=a.Num*b.bT<=b.Num*a.bT
theorem YN{a b:aP}(h:¬yz b a):IA a b:=by unfold yz at h;unfold IA;omega
theorem oN{a b c:aP}(ha:0<a.bT)(hb:0<b.bT)(hc:0<c.bT)(h1:IA a b)(h2:IA b c):IA a c:=by
 unfold IA at *;have y1:=NY h1 (yt hc);have y2:=NY h2 (yt ha);have z1:b.Num*a.bT*c.bT=b.Num*c.bT*a.bT:=by ac_rfl
 have z2:c.Num*b.bT*a.bT=c.Num*a.bT*b.bT:=by ac_rfl
 have z3:a.Num*b.bT*c.bT=a.Num*c.bT*b.bT:=by ac_rfl
 have:a.Num*c.bT*b.bT<=c.Num*a.bT*b.bT:=by omega
 exact dq9 this hb
theorem zX{a b:Int}(hb:0<b):IA (red a b) ⟨a,b⟩/\IA ⟨a,b⟩ (red a b):=by
 have h1:=oM (num:=a) hb;have h2:=mG (num:=a) hb;unfold IA;generalize (Int.gcd a b:Int)=G at h1 h2;have e:(red a b).Num*b=a*(red a b).bT:=by
  generalize (red a b).Num=x at *;generalize (red a b).bT=y at *;rw[<- h1,<- h2];ac_rfl
 show(red a b).Num*b<=a*(red a b).bT/\a*(red a b).bT<=(red a b).Num*b;omega
structure E18 where
  N:Nat
def F18(E:E18):ER->ae Bool:=iK E.N Tabs.nil 18
theorem e18(E:E18){A:Type}(k:Bool→Option A)(a0:ER):(F18 E (a0)).T k =
  cond (decide (a0.Z>=0))
  (cond (decide (a0.Z<=100000))
 (cond (decide (a0.W>=0))
 (cond (decide (a0.W<=100000))
 (cond (a0.Z != a0.W)
 (cond (decide (a0.X>=(-1000000)))
 (cond (decide (a0.X<=1000000))
 (cond (decide (a0.Y>=(-1000000)))
 (k (decide (a0.Y<=1000000)))
 (k false))
 (k false))
 (k false))
 (k false))
 (k false))
 (k false))
 (k false))
  (k false):=dV
theorem o18 [aJ](E:E18):Ok aH 18 (ae.un (F18 E)):=dW ax.nil
def zLc(s:au)(l:Sl bF)(v:Int)(ln:straight)(time:Int)(i:Nat):Prop :=
 QN s l i=v/\((tq s (l.get i)).Low<=time/\time<=(tq s (l.get i)).High)/\∃k,k<yD s l i/\mJ ln ((yC s (l.get i)).get k)=true
structure Own (s : au) (l : Sl bF) (v : Int) (ln : straight) (time : Int) (w : Sl Int) (i : Nat) : Prop where
  le:w.len<=i/\i<=l.len
  mem:∀j,j<w.len->(0<=w.get j/\w.get j<(i:Int))/\zLc s l v ln time (w.get j).toNat
  pw:∀j k,j<k->k<w.len->w.get j<w.get k/\(l.get (w.get j).toNat).ak≠(l.get (w.get k).toNat).ak
theorem Own.snoc{s:au}{l:Sl bF}{v:Int}{ln:straight}{time:Int}{w:Sl Int}{i:Nat}(h:Own s l v ln time w i)(hi:i<l.len)(h1:zLc s l v ln time i)(h2:∀j,j<w.len->(l.get (w.get j).toNat).ak≠(l.get i).ak):Own s l v ln time (oO w (i:Int)) (i+1):=by
 have lo:∀j,j<w.len->(oO w (i:Int)).get j=w.get j:=λj hj=>by
  show jL w.len w.get (λ_=>(i:Int)) j=_;rw[je,fB omY]
 have kN:(oO w (i:Int)).get w.len=(i:Int):=by
  show jL w.len w.get (λ_=>(i:Int)) w.len=_;rw[je,eX (kC _)]
 refine⟨by have:=h.le;show w.len+1<=i+1/\_;omega,λj hj=>?_,λj k hjk hk=>?_⟩
 ·have hj : j < w.len + 1 := hj;by_cases e:j=w.len
  ·rw[e,kN,gU];exact⟨omY,h1⟩
  ·rw[lo j omY];have:=h.mem j omY;exact⟨by have:=this.1;omega,this.2⟩
 ·have hk : k < w.len + 1 := hk;by_cases e:k=w.len
  ·subst e;rw[kN,lo j omY,gU];exact⟨by have:=(h.mem j omY).1;omega,h2 j omY⟩
  ·rw[lo j omY,lo k omY];exact h.pw j k hjk omY
theorem zDj{α:Type}{p q:α→Bool}:∀{l:List α},(∀x∈l,p x=true→q x=true)→(l.filter p).length≤(l.filter q).length
  | [],_=>kC _
  | x::l,h=>by
    have ih:=zDj (p:=p) (q:=q) (l:=l) λy hy=>h y (jU _ hy);rw[dq7,dq7];by_cases hp:p x=true
    · rw[eX hp,eX (h x lq hp),Cc,Cc];omega
    · rw [fB hp];by_cases hq:q x=true
      · rw[eX hq,Cc];omega
      · rw[fB hq];exact ih
structure zN8 where
  N:Nat
  Pi:Int×Int×Int->ae Bool
abbrev z8D(E:zN8):bU:=gY (Tabs.nil.addF 123 (ae.un E.Pi)) []
def z8E:dK:=bY aH 103 [] {}
def zYA(E:zN8):aP->ae Bool:=ae.ty (aF aH E.N (z8D E) z8E 103)
section
variable(E:zN8){A:Type}(k:Bool->Option A)
def zDL(E:zN8)(n:Nat)(v3 v4:Int){A:Type}(k:Bool->Option A):Option A :=
  iP aH (z8D E) E.N z8E 103 [1,1,1,0,0] [.n n] (iO k)
    ⟨[(3,.int v3),(4,.int v4)],[],[]⟩
theorem ZdQ(a0:aP):(zYA E (a0)).T k =
  (E.Pi (a0.bT,1,1000)).T λr1 =>
  cond (!r1)
  (k false)
  ((E.Pi (a0.Num,(-1000000),1000000)).T λr2 =>
 cond (!r2)
 (k false)
 (zDL E E.N (if(aO (0-a0.Num))>a0.Num then(aO (0-a0.Num))else a0.Num) a0.bT k)):=dV
theorem z2d(n0:Nat)(v3 v4:Int):zDL E (n0+1) v3 v4 k =
  cond (decide (v4>0))
  (aV (decide (v4≠0)) (zDL E n0 v4 (v3.tmod v4) k))
  (k (v3==1)):=krY
end
theorem ZdR [aJ](E:zN8)(zdf:Ok aH 123 (ae.un E.Pi)):Ok aH 103 (ae.un (zYA E)):=dW (ax.nil.addF zdf)
structure zYB where
  N:Nat
def zYC(E:zYB):aP×aP->ae Bool:=iK E.N Tabs.nil 104
theorem ZdS(E:zYB){A:Type}(k:Bool→Option A)(a0 a1:aP):(zYC E (a0,a1)).T k =
  k (decide ((aO (a0.Num*a1.bT))<(aO (a1.Num*a0.bT)))):=dV
theorem ZdT [aJ](E:zYB):Ok aH 104 (ae.un (zYC E)):=dW ax.nil
structure zYD where
  N:Nat
  c86:Int×Int×Int->ae Bool
  Uy:Int×Int->ae aP
def zYE(E:zYD):aP->ae Bool:=iK E.N ((Tabs.nil.addF 86 (ae.un E.c86)).addF 71 (ae.un E.Uy)) 106
theorem ZdU(E:zYD){A:Type}(k:Bool→Option A)(a0:aP):(zYE E (a0)).T k =
  (E.c86 (a0.bT,1,1000)).T λr1 =>
  cond r1
  ((E.c86 (a0.Num,(-1000000),1000000)).T λr2 =>
 cond r2
 ((E.Uy (a0.Num,a0.bT)).T λr3 =>
 k (cond (r3.Num==a0.Num) (cond (r3.bT==a0.bT) true false) false))
 (k false))
  (k false):=dV
theorem ZdV [aJ](E:zYD)(h86:Ok aH 86 (ae.un E.c86))(h71:Ok aH 71 (ae.un E.Uy)):Ok aH 106 (ae.un (zYE E)):=dW ((ax.nil.addF h86).addF h71)
structure E43 where
  N:Nat
  c34:Int->ae Bool
  zW6:aP->ae Bool
  YB:aP×aP->ae Bool
def F43(E:E43):Bin->ae Bool:=iK E.N (((Tabs.nil.addF 34 (ae.un E.c34)).addF 106 (ae.un E.zW6)).addF 56 (ae.un E.YB)) 43
theorem e43(E:E43){A:Type}(k:Bool→Option A)(a0:Bin):(F43 E (a0)).T k =
  (E.c34 a0.View).T λr1 =>
  cond r1
  ((E.zW6 a0.Low).T λr2 =>
 cond r2
 ((E.zW6 a0.High).T λr3 =>
 cond r3
 ((E.YB (a0.Low,a0.High)).T λr4 =>
 k r4)
 (k false))
 (k false))
  (k false):=dV
theorem o43 [aJ](E:E43)(h34:Ok aH 34 (ae.un E.c34))(zYF:Ok aH 106 (ae.un E.zW6))(h56:Ok aH 56 (ae.un E.YB)):Ok aH 43 (ae.un (F43 E)):=dW (((ax.nil.addF h34).addF zYF).addF h56)
structure E42 where
  N:Nat
  c96:Int->ae Bool
  zOe:aP->ae Bool
  zDN:aP×aP->ae Bool
  c72:au×bJ×(Sl bF)×(Sl Bool)->ae (Int ⊕ ((Pt found)×Int))
  c105:(Pt aU)×af->ae ((Sl ay))
  c58:(Sl ay)->ae (aP×aP×Int)
abbrev G42(E:E42):bU:=gY ((((((Tabs.nil.addF 96 (ae.un E.c96)).addF 103 (ae.un E.zOe)).addF 104 (ae.un E.zDN)).addF 72 (ae.unA E.c72)).addF 105 (ae.un E.c105)).addF 58 (ae.un E.c58)) []
def A42:dK:=bY aH 42 [] {}
def F42(E:E42):au×bJ×(Sl bF)×(Sl Bin)->ae ((Sl Tally)×Int):=ae.ty (aF aH E.N (G42 E) A42 42)
section
variable(E:E42){A:Type}(k:((Sl Tally)×Int)->Option A)
def zlr(E:E42)(n:Nat)(a0:au)(a1:bJ)(a2:Sl bF)(a3:Sl Bin)(v10:Bool)(v33:Int){A:Type}(k:((Sl Tally)×Int)->Option A):Option A :=
  iP aH (G42 E) E.N A42 42 [1,1,1,0,1,0] [.n n] (iO k)
    ⟨[(2,eP a2),(3,eP a3),(4,.cl (.ptr 4 0)),(5,.cl (.ptr 5 0)),(10,.bool v10),(31,eP a3),(32,.int (a3.len:Int)),(33,.int v33)],[(4,eB 24 a0),(5,eB 26 a1)],[]⟩
def zJ2(E:E42)(n:Nat)(a3:Sl Bin)(jI:Pt found)(v79:Sl af)(v80 v81:Int)(w75:Sl Tally){A:Type}(k:((Sl Tally)×Int)->Option A):Option A :=
  iP aH (G42 E) E.N A42 42 [1,1,1,1,1,1,1,0,1,0] [.n n] (iO k)
    ⟨[(3,eP a3),(13,eP jI),(15,.cl (.vec 75)),(79,eP v79),(80,.int v80),(81,.int v81)],[(75,eV 112 2 16 w75)],[]⟩
def OJ(E:E42)(n0 n:Nat)(a3:Sl Bin)(jI:Pt found)(v20:Int)(v79:Sl af)(v80 v81 NC:Int)(w75:Sl Tally)(x17:af)(x18 x19:aP){A:Type}(k:((Sl Tally)×Int)->Option A):Option A :=
  iP aH (G42 E) E.N A42 42 [1,1,1,1,1,1,1,0,1,0,0,1,1,0,0,1,1,1,0] [.n n0,.n n] (iO k)
    ⟨[(3,eP a3),(13,eP jI),(15,.cl (.vec 75)),(17,.cl (.ptr 17 0)),(18,.cl (.ptr 18 0)),(19,.cl (.ptr 19 0)),(20,.int v20),(79,eP v79),(80,.int v80),(81,.int v81),(96,eP a3),(97,.int (a3.len:Int)),(98,.int NC)],[(75,eV 112 2 16 w75),(17,eB 43 x17),(18,eB 85 x18),(19,eB 85 x19)],[]⟩
theorem e42(a0:au)(a1:bJ)(a2:Sl bF)(a3:Sl Bin):(F42 E (a0,a1,a2,a3)).T k =
  cond (decide ((a2.len:Int)>24))
  (k ((⟨0,λ_=>default⟩:(Sl Tally)),3))
  (cond (decide ((a3.len:Int)>100))
 (k ((⟨0,λ_=>default⟩:(Sl Tally)),3))
 (zlr E E.N a0 a1 a2 a3 true 0 k)):=dV
theorem zDk(n0:Nat)(a0:au)(a1:bJ)(a2:Sl bF)(a3:Sl Bin)(v10:Bool)(v33:Int):zlr E (n0+1) a0 a1 a2 a3 v10 v33 k =
  cond (decide (v33<(a3.len:Int)))
  (aV (decide (0<=v33/\v33<(a3.len:Int))) (cond v10
 ((E.c96 (a3.get v33.toNat).View).T λr1 =>
 cond r1
 ((E.zOe (a3.get v33.toNat).Low).T λr2 =>
 cond r2
 ((E.zOe (a3.get v33.toNat).High).T λr3 =>
 cond r3
 ((E.zDN ((a3.get v33.toNat).Low,(a3.get v33.toNat).High)).T λr4 =>
 zlr E n0 a0 a1 a2 a3 r4 (aO (v33+1)) k)
 (zlr E n0 a0 a1 a2 a3 false (aO (v33+1)) k))
 (zlr E n0 a0 a1 a2 a3 false (aO (v33+1)) k))
 (zlr E n0 a0 a1 a2 a3 false (aO (v33+1)) k))
 (zlr E n0 a0 a1 a2 a3 false (aO (v33+1)) k)))
  ((E.c72 (a0,a1,a2,(⟨1,(λ_=>v10)⟩:(Sl Bool)))).T λr5=>zmz r5
 (λr5=>cond (r5 != 0)
 (k ((⟨0,λ_=>default⟩:(Sl Tally)),r5))
 (aV (decide ((0:Int)<=(a3.len:Int)/\((a3.len:Int):Int)=(a3.len:Int)/\(a3.len:Int)<=1000000)) (none)))
 (λr5=>cond (r5.2 != 0)
 (k ((⟨0,λ_=>default⟩:(Sl Tally)),r5.2))
 (aV (decide ((0:Int)<=(a3.len:Int)/\((a3.len:Int):Int)=(a3.len:Int)/\(a3.len:Int)<=1000000)) (zJ2 E E.N a3 r5.1 r5.1.v.aW (r5.1.v.aW.len:Int) 0 (⟨(a3.len:Int).toNat,(λ_=>(⟨0,0⟩:Tally))⟩:(Sl Tally)) k)))):=krY
theorem z08(n0:Nat)(a3:Sl Bin)(jI:Pt found)(v79:Sl af)(v80 v81:Int)(w75:Sl Tally):zJ2 E (n0+1) a3 jI v79 v80 v81 w75 k =
  cond (decide (v81<v80))
  (aV (decide (0<=v81/\v81<(v79.len:Int))) ((E.c105 (jI.v.aU,(v79.get v81.toNat))).T λr1 =>
 (E.c58 r1).T λr2 =>
 OJ E n0 E.N a3 jI r2.2.2 v79 v80 v81 0 w75 (v79.get v81.toNat) r2.1 r2.2.1 k))
  (k (w75,0)):=krY
theorem z09(n0 n1:Nat)(a3:Sl Bin)(jI:Pt found)(v20:Int)(v79:Sl af)(v80 v81 NC:Int)(w75:Sl Tally)(x17:af)(x18 x19:aP):OJ E n0 (n1+1) a3 jI v20 v79 v80 v81 NC w75 x17 x18 x19 k =
  cond (decide (NC<(a3.len:Int)))
  (aV (decide (0<=NC/\NC<(a3.len:Int))) (cond ((a3.get NC.toNat).View != x17.View)
 (OJ E n0 n1 a3 jI v20 v79 v80 v81 (aO (NC+1)) w75 x17 x18 x19 k)
 (cond (v20 != 0)
 (aV (decide (0<=NC/\NC<(w75.len:Int))) (aV (decide (NC.toNat<w75.len)) (aV (decide (0<=NC/\NC<(w75.len:Int))) (aV (decide (NC.toNat<w75.len)) (OJ E n0 n1 a3 jI v20 v79 v80 v81 (aO (NC+1)) (⟨w75.len,(stG NC.toNat 1 w75.get [.int .i64 (aO ((w75.get NC.toNat).sO+1))])⟩:(Sl Tally)) x17 x18 x19 k)))))
 ((E.zDN (x18,(a3.get NC.toNat).High)).T λr1 =>
 cond r1
 ((E.zDN (x19,(a3.get NC.toNat).Low)).T λr2 =>
 cond (!r2)
 (aV (decide (0<=NC/\NC<(w75.len:Int))) (aV (decide (NC.toNat<w75.len)) (aV (decide (0<=NC/\NC<(w75.len:Int))) (aV (decide (NC.toNat<w75.len)) ((E.zDN (x18,(a3.get NC.toNat).Low)).T λr3 =>
 cond (!r3)
 ((E.zDN (x19,(a3.get NC.toNat).High)).T λr4 =>
 cond r4
 (aV (decide (0<=NC/\NC<(w75.len:Int))) (aV (decide (NC.toNat<w75.len)) (aV (decide (0<=NC/\NC<(w75.len:Int))) (aV (decide (NC.toNat<w75.len)) (OJ E n0 n1 a3 jI v20 v79 v80 v81 (aO (NC+1)) (⟨w75.len,(stG NC.toNat 0 (stG NC.toNat 1 w75.get [.int .i64 (aO ((w75.get NC.toNat).sO+1))]) [.int .i64 (aO (((stG NC.toNat 1 w75.get [.int .i64 (aO ((w75.get NC.toNat).sO+1))]) NC.toNat).zgk+1))])⟩:(Sl Tally)) x17 x18 x19 k)))))
 (OJ E n0 n1 a3 jI v20 v79 v80 v81 (aO (NC+1)) (⟨w75.len,(stG NC.toNat 1 w75.get [.int .i64 (aO ((w75.get NC.toNat).sO+1))])⟩:(Sl Tally)) x17 x18 x19 k))
 (OJ E n0 n1 a3 jI v20 v79 v80 v81 (aO (NC+1)) (⟨w75.len,(stG NC.toNat 1 w75.get [.int .i64 (aO ((w75.get NC.toNat).sO+1))])⟩:(Sl Tally)) x17 x18 x19 k))))))
 (OJ E n0 n1 a3 jI v20 v79 v80 v81 (aO (NC+1)) w75 x17 x18 x19 k))
 (OJ E n0 n1 a3 jI v20 v79 v80 v81 (aO (NC+1)) w75 x17 x18 x19 k)))))
  (zJ2 E n0 a3 jI v79 v80 (aO (v81+1)) w75 k):=krY
end
theorem o42 [aJ](E:E42)(h96:Ok aH 96 (ae.un E.c96))(zLh:Ok aH 103 (ae.un E.zOe))(zDl:Ok aH 104 (ae.un E.zDN))(h72:Ok aH 72 (ae.unA E.c72))(NT:Ok aH 105 (ae.un E.c105))(h58:Ok aH 58 (ae.un E.c58)):Ok aH 42 (ae.un (F42 E)):=dW ((((((ax.nil.addF h96).addF zLh).addF zDl).addF h72).addF NT).addF h58)
abbrev fZ(t:af):Int×jv:=(t.View,fA t)
def ltK(a b:Int×jv):Prop:=a.1<b.1\/a.1=b.1/\(cmpL (a.2.map (·.1)) (b.2.map (·.1))<0\/a.2.map (·.1)=b.2.map (·.1)/\cmpL (a.2.map (·.2)) (b.2.map (·.2))<0)
theorem zmh(t:af):(fA t).map (·.1)=pI t.Hits:=by unfold fA pI;rw[qdW];rfl
theorem zmi{t:af}(h:t.bz.len=t.Hits.len):(fA t).map (·.2)=pI t.bz:=by unfold fA pI;rw[qdW,h];rfl
theorem zDS{a b:af}(ha:a.bz.len=a.Hits.len)(hb:b.bz.len=b.Hits.len):ltK (fZ a) (fZ b)↔OI a b:=by
 unfold ltK OI;show _\/_/\(cmpL ((fA a).map (·.1)) ((fA b).map (·.1))<0\/(fA a).map (·.1)=(fA b).map (·.1)/\cmpL ((fA a).map (·.2)) ((fA b).map (·.2))<0)↔_;rw[zmh,zmh,zmi ha,zmi hb]
theorem zgj{a b:Int×jv}(h:ltK a b)(k:ltK b a):False:=by
 rcases h with h|⟨h,h2⟩<;>rcases k with k|⟨k,k2⟩
 ·omega
 ·omega
 ·omega
 ·rcases h2 with h2 | ⟨h2, h3⟩ <;> rcases k2 with k2 | ⟨k2, k3⟩
  ·exact vY _ (Ez h2 k2)
  ·rw[k2]at h2;exact vY _ h2
  ·rw[h2]at k2;exact vY _ k2
  ·exact vY _ (Ez h3 k3)
def grK(a b:Int×jv):Bool:=decide (a.2.length>b.2.length)&&(b.2.all (λp=>a.2.contains p)&&(b.1==a.1))
theorem zHo(a b:af):Jt a b=grK (fZ a) (fZ b):=by
 unfold Jt grK yE;show _=(decide ((fA a).length>(fA b).length)&&_);rw[kz,kz];congr 1;exact jqK.2 omY
theorem yg{p:Int×jv→Bool}{q:af→Bool}:∀{L:List af},(∀t∈L,q t=p (fZ t))→(L.filter q).map fZ=(L.map fZ).filter p
  | [],_=>rfl
  | t::L,h=>by
    have ih:=yg (p:=p) (q:=q) (L:=L) λu hu=>h u (jU _ hu);have e:=h t lq;rw[oU,dq7,dq7,e];by_cases hp:p (fZ t)=true
    · rw[eX hp,eX hp,oU,ih]
    · rw[fB hp,fB hp,ih]
theorem XX{x:Int}{L:List af}{c:List jv}(h:∀t∈L,Ol x t)(e:L.map fA=c):L.map fZ=c.map λc=>(x,c):=by
 rw[<- e,qdW];exact qdg λt ht=>by show(t.View,fA t)=(x,fA t);rw[(h t ht).1]
theorem zaX{α:Type}{p q:α->Bool}{a:List α}(h:∀x∈a,p x=q x):a.any p=a.any q:=by
 induction a with
 | nil=>rfl
 | cons x a ih=>rw[qjp,qjp,h x lq,ih λy hy=>h y (jU _ hy)]
def zmT(s:au)(r:bJ)(l:Sl bF):List (Int×jv):=((kF s l 1).filter (qG s l 1 r)).map (λc=>(1,c))++((kF s l 2).filter (qG s l 2 r)).map (λc=>(2,c))
theorem NW.keys{s:au}{r:bJ}{l:Sl bF}{f:found}(h:NW s r l f):(ls f.fits).map fZ=zmT s r l/\((ls f.aW).map fZ).Perm ((zmT s r l).filter λk=>!(zmT s r l).any λx=>grK x k):=by
 obtain⟨X,Y,e,x1,y1,x2,y2⟩:=h.fx;have hk:(ls f.fits).map fZ=zmT s r l:=by rw[e,QQ,XX x1 x2,XX y1 y2];rfl
 refine⟨hk,(h.tr.map fZ).trans (qjD ?_)⟩;rw[<- hk];refine yg λt _=>?_;rw[qjz];congr 1;exact zaX λx _=>zHo x t
theorem NW.uniq{s:au}{r:bJ}{l:Sl bF}{f g:found}(h:NW s r l f)(k:NW s r l g)(he:Evt s l)(h24:l.len<=24):(ls f.aW).map fZ=(ls g.aW).map fZ:=by
 have srt:∀{f:found},NW s r l f->((ls f.aW).map fZ).Pairwise ltK:=fun {f} h=>by
  rw[qjc];refine h.st.imp_of_mem fun {a b} ha hb hab=>?_;exact(zDS (h.chosen he h24 (h.sub ha)).tv.2 (h.chosen he h24 (h.sub hb)).tv.2).2 hab
 exact qj9 (le:=ltK) (λa b _ _ h1 h2=>(zgj h1 h2).elim) (srt h) (srt k) (h.keys.2.trans k.keys.2.symm)
/-! Fractions of bins. -/
def frB(f:aP):Bool:=inB f.bT 1 1000&&(inB f.Num (-1000000) 1000000&&((Int.gcd f.Num f.bT:Int)==1))
abbrev zLi(C:aP->ae Bool):Prop:=∀f,C f=.ok (frB f)
theorem ZdW{E:zN8}(N:Big E.N)(zdf:BX E.Pi):zLi (zYA E):=λf=>ae.ext λk=>by
 rw[ZdQ,zdf,bn,bn];unfold frB;cases h1:inB f.bT 1 1000 with
 | false=>rfl
 | true =>
  have h1:=dqS h1;rw[OZ,dS,zdf,bn,OY];cases h2:inB f.Num (-1000000) 1000000 with
  | false=>rfl
  | true =>
   have h2:=dqS h2;rw[OZ,dS,OY,show aO (0-f.Num) = -f.Num by rw[bf omY omY];omega,zf3,<- Y0];refine TL (X:=λn a b=>zDL E n a b k) (k:=λa=>k (a==1)) (λn a b ha hb=>?_) 61 _ _ _ omY omY omY (by have:=N;omega);rw[z2d];by_cases h:b=0
   ·subst h;rfl
   ·rw[dZ (show b>0 by omega),ed,bG h,fB h]
theorem ZdX{E:zYB}:Q56 (zYC E):=λa b=>ae.ext λk=>by rw[ZdS,bn];rfl
theorem ZdY{E:zYD}(h86:BX E.c86)(h71:IV E.Uy):zLi (zYE E):=λf=>ae.ext λk=>by
 rw[ZdU,h86,bn,bn];unfold frB;cases h1:inB f.bT 1 1000 with
 | false=>rfl
 | true =>
  have h1:=dqS h1;rw[ed,h86,bn,OY];cases h2:inB f.Num (-1000000) 1000000 with
  | false=>rfl
  | true =>
   have h2:=dqS h2;rw[ed,OY,h71 _ _ omY omY omY omY,bn];congr 1;have pd:0<f.bT:=by omega
   have a1:=oM (num:=f.Num) pd;have a2:=mG (num:=f.Num) pd;have pr:=jf (num:=f.Num) pd;by_cases hg:(Int.gcd f.Num f.bT:Int)=1
   ·rw [hg,qjU]at a1 a2;rw[a1,a2,hg];simp
   ·have:(red f.Num f.bT).bT≠f.bT:=λe=>by
     rw[e]at a2;refine hg (qjV (show f.bT≠0 by omega) ?_);rw[qjU];exact a2
    rw[show((red f.Num f.bT).bT==f.bT)=false by simpa using this,show((Int.gcd f.Num f.bT:Int)==1)=false by simpa using hg];cases(red f.Num f.bT).Num==f.Num<;>rfl
def zlO(b:Bin):Bool:=vwB b.View&&(frB b.Low&&(frB b.High&&leB b.Low b.High))
abbrev Q43(C:Bin->ae Bool):Prop:=∀b,C b=.ok (zlO b)
theorem s43{E:E43}(h34:QVw E.c34)(zYF:zLi E.zW6)(h56:Q56 E.YB):Q43 (F43 E):=λb=>ae.ext λk=>by
 rw[e43,h34,bn,zYF,bn,zYF,bn,h56,bn,bn];unfold zlO;cases vwB b.View<;>cases frB b.Low<;>cases frB b.High<;>rfl
theorem z1a(i:Nat)(g:Nat->Tally)(x:Int)(j:Nat):stG i 1 g [.int .i64 x] j=if j=i then⟨(g i).zgk,x⟩else g j:=by
 refine UR ?_;unfold yu;cases hb:Nat.beq j i with
 | true=>rw[eX (kL hb),kL hb];rfl
 | false=>rw[fB (qde hb)]
theorem z1b(i:Nat)(g:Nat->Tally)(x:Int)(j:Nat):stG i 0 g [.int .i64 x] j=if j=i then⟨x,(g i).sO⟩else g j:=by
 refine UR ?_;unfold yu;cases hb:Nat.beq j i with
 | true=>rw[eX (kL hb),kL hb];rfl
 | false=>rw[fB (qde hb)]
def Pj(s:au)(l:Sl bF)(k:Int×jv):aP×aP×Int:=cond ((Ad (qx s l k.2) false).2 != 0) (⟨0,0⟩,⟨0,0⟩,(Ad (qx s l k.2) false).2) ((slV (qx s l k.2)).1,(slV (qx s l k.2)).2,0)
def Oj(s:au)(l:Sl bF)(b:Bin)(k:Int×jv):Bool:=cond (b.View != k.1) false (cond ((Pj s l k).2.2 != 0) true (leB (Pj s l k).1 b.High && !leB (Pj s l k).2.1 b.Low))
def N9(s:au)(l:Sl bF)(b:Bin)(k:Int×jv):Bool:=cond (b.View != k.1) false (cond ((Pj s l k).2.2 != 0) false (leB (Pj s l k).1 b.High && !leB (Pj s l k).2.1 b.Low&&(!leB (Pj s l k).1 b.Low&&leB (Pj s l k).2.1 b.High)))
def zmj(s:au)(l:Sl bF)(b:Bin)(L:List (Int×jv)):Tally:=⟨(L.countP (N9 s l b):Int),(L.countP (Oj s l b):Int)⟩
abbrev Q42(C:au×bJ×Sl bF×Sl Bin->ae (Sl Tally×Int)):Prop:=∀s r l (bs:Sl Bin),sN s->l.len<=24->lV s r l=0->(kF s l 1).length<=2000->(kF s l 2).length<=2000->bs.len<=100->(∀i,i<bs.len->zlO (bs.get i)=true)->∃f:found,NW s r l f/\∃w:Sl Tally,C (s,r,l,bs)=.ok (w,0)/\w.len=bs.len/\∀i,i<bs.len->w.get i=zmj s l (bs.get i) ((ls f.aW).map fZ)
theorem s42{E:E42}(N:Big E.N)(h96:QVw E.c96)(zLh:zLi E.zOe)(zDl:Q56 E.zDN)(h72:Q72 E.c72)(NT:zjk E.c105)(h58:Q58 E.c58):Q42 (F42 E):=λs r l bs hs hl h0 n1 n2 hb zWS=>by
  have hN:=N;obtain⟨he,_,h24⟩:=E8 hs h0;obtain⟨f,c1,hf⟩:=h72 s r l ⟨1,λ_=>true⟩ hs omY h0 n1 n2 (by show 1<=10;omega) (λb hb=>by
    obtain⟨i,_,rfl⟩:=jA.1 hb;rfl)
  have fl:=hf.len n1 n2;have ok1:∀(n i:Nat),i+n=bs.len->∀m,n<m->∀(A:Type)(k:Sl Tally×Int->Option A),zlr E m s r l bs true (i:Int) k=zlr E 1 s r l bs true (bs.len:Int) k:=by
    intro n
    induction n with
    | zero =>
      intro i hi m hm A k;obtain⟨m,rfl⟩:∃m',m=m'+1:=⟨m-1,omY⟩;rw[show i=bs.len by omega,zDk,zDk (n0:=0),eU omY];rfl
    | succ n ih =>
      intro i hi m hm A k;obtain⟨m,rfl⟩:∃m',m=m'+1:=⟨m-1,omY⟩;have h:=zWS i omY;unfold zlO at h;simp only[gG]at h;rw[zDk,dZ omY,ed,bG omY,gU,h96,bn,zLh,bn,zLh,bn,zDl,bn,h.1,h.2.1,h.2.2.1,h.2.2.2,bP omY];exact ih (i+1) omY m omY A k
  -- one track
  have one:∀(n:Nat)(q:Nat),q<f.v.aW.len->∀(L:List (Int×jv))(hL:L.length<=4000)(m i n1:Nat)(w:Sl Tally),i+m=bs.len->m<n1->w.len=bs.len->(∀j,j<bs.len->w.get j=zmj s l (bs.get j) (if j<i then L++[fZ (f.v.aW.get q)]else L)) ->
      ∃w':Sl Tally,(∀(A:Type)(k:Sl Tally×Int->Option A),OJ E n n1 bs f (Pj s l (fZ (f.v.aW.get q))).2.2 f.v.aW (f.v.aW.len:Int) (q:Int) (i:Int) w (f.v.aW.get q) (Pj s l (fZ (f.v.aW.get q))).1 (Pj s l (fZ (f.v.aW.get q))).2.1 k=zJ2 E n bs f f.v.aW (f.v.aW.len:Int) ((q+1:Nat):Int) w' k)/\w'.len=bs.len/\∀j,j<bs.len->w'.get j=zmj s l (bs.get j) (L++[fZ (f.v.aW.get q)]):=by
    intro n q hq L hL m
    induction m with
    | zero =>
      intro i n1 w hi hn hw hg;obtain⟨n1,rfl⟩:∃n',n1=n'+1:=⟨n1-1,omY⟩;exact⟨w,λA k=>by rw[z09,eU omY,dS,bP omY],hw,λj hj=>by rw[hg j hj,eX omY]⟩
    | succ m ih =>
      intro i n1 w hi hn hw hg;obtain⟨n1,rfl⟩:∃n',n1=n'+1:=⟨n1-1,omY⟩;have gi:=hg i omY;rw[fB omY]at gi;have cs:(L.countP (N9 s l (bs.get i)):Nat)<=4000:=EW qdL hL;have cp:(L.countP (Oj s l (bs.get i)):Nat)<=4000:=EW qdL hL
      -- zDQ stands in the row of the bin afterwards
      have st:∃w1:Sl Tally,(∀(A:Type)(k:Sl Tally×Int->Option A),OJ E n (n1+1) bs f (Pj s l (fZ (f.v.aW.get q))).2.2 f.v.aW (f.v.aW.len:Int) (q:Int) (i:Int) w (f.v.aW.get q) (Pj s l (fZ (f.v.aW.get q))).1 (Pj s l (fZ (f.v.aW.get q))).2.1 k=OJ E n n1 bs f (Pj s l (fZ (f.v.aW.get q))).2.2 f.v.aW (f.v.aW.len:Int) (q:Int) ((i+1:Nat):Int) w1 (f.v.aW.get q) (Pj s l (fZ (f.v.aW.get q))).1 (Pj s l (fZ (f.v.aW.get q))).2.1 k)/\w1.len=bs.len/\(∀j,j≠i->w1.get j=w.get j)/\w1.get i=zmj s l (bs.get i) (L++[fZ (f.v.aW.get q)]):=by
        have tk:zmj s l (bs.get i) (L++[fZ (f.v.aW.get q)])=⟨(L.countP (N9 s l (bs.get i)):Int)+cond (N9 s l (bs.get i) (fZ (f.v.aW.get q))) 1 0,(L.countP (Oj s l (bs.get i)):Int)+cond (Oj s l (bs.get i) (fZ (f.v.aW.get q))) 1 0⟩:=by
          unfold zmj;rw[qjk,qjk,jqk,jqk];cases N9 s l (bs.get i) (fZ (f.v.aW.get q))<;>cases Oj s l (bs.get i) (fZ (f.v.aW.get q))<;>simp
        rw[tk];have w0:w.get i=⟨(L.countP (N9 s l (bs.get i)):Int),(L.countP (Oj s l (bs.get i)):Int)⟩:=gi;have none:Oj s l (bs.get i) (fZ (f.v.aW.get q))=false->N9 s l (bs.get i) (fZ (f.v.aW.get q))=false->w.get i=⟨(L.countP (N9 s l (bs.get i)):Int)+cond (N9 s l (bs.get i) (fZ (f.v.aW.get q))) 1 0,(L.countP (Oj s l (bs.get i)):Int)+cond (Oj s l (bs.get i) (fZ (f.v.aW.get q))) 1 0⟩:=λh1 h2=>by rw[h1,h2,w0];simp
        let w1:Sl Tally:=⟨w.len,stG i 1 w.get [.int .i64 (aO ((w.get i).sO+1))]⟩;have w1i:w1.get i=⟨(L.countP (N9 s l (bs.get i)):Int),(L.countP (Oj s l (bs.get i)):Int)+1⟩:=by
          show stG i 1 w.get [.int .i64 (aO ((w.get i).sO+1))] i=_;rw[z1a,eX rfl,w0];show(⟨_,aO ((L.countP (Oj s l (bs.get i)):Int)+1)⟩:Tally)=_;rw[bf omY omY]
        have w1j:∀j,j≠i->w1.get j=w.get j:=λj hj=>by
          show stG i 1 w.get [.int .i64 (aO ((w.get i).sO+1))] j=_;rw[z1a,fB hj]
        let w2:Sl Tally:=⟨w.len,stG i 0 w1.get [.int .i64 (aO ((w1.get i).zgk+1))]⟩;have w2i:w2.get i=⟨(L.countP (N9 s l (bs.get i)):Int)+1,(L.countP (Oj s l (bs.get i)):Int)+1⟩:=by
          show stG i 0 w1.get [.int .i64 (aO ((w1.get i).zgk+1))] i=_;rw[z1b,eX rfl,w1i];show(⟨aO ((L.countP (N9 s l (bs.get i)):Int)+1),_⟩:Tally)=_;rw[bf omY omY]
        have w2j:∀j,j≠i->w2.get j=w.get j:=λj hj=>by
          show stG i 0 w1.get [.int .i64 (aO ((w1.get i).zgk+1))] j=_;rw[z1b,fB hj,w1j j hj]
        have c1:0<=(i:Int)/\(i:Int)<(w.len:Int):=by omega
        have c2:(i:Int).toNat<w.len:=by omega
        have hd:∀(A:Type)(k:Sl Tally×Int→Option A),OJ E n (n1+1) bs f (Pj s l (fZ (f.v.aW.get q))).2.2 f.v.aW (f.v.aW.len:Int) (q:Int) (i:Int) w (f.v.aW.get q) (Pj s l (fZ (f.v.aW.get q))).1 (Pj s l (fZ (f.v.aW.get q))).2.1 k =
            cond ((bs.get i).View != (f.v.aW.get q).View) (OJ E n n1 bs f (Pj s l (fZ (f.v.aW.get q))).2.2 f.v.aW (f.v.aW.len:Int) (q:Int) ((i+1:Nat):Int) w (f.v.aW.get q) (Pj s l (fZ (f.v.aW.get q))).1 (Pj s l (fZ (f.v.aW.get q))).2.1 k)
            (cond ((Pj s l (fZ (f.v.aW.get q))).2.2 != 0) (OJ E n n1 bs f (Pj s l (fZ (f.v.aW.get q))).2.2 f.v.aW (f.v.aW.len:Int) (q:Int) ((i+1:Nat):Int) w1 (f.v.aW.get q) (Pj s l (fZ (f.v.aW.get q))).1 (Pj s l (fZ (f.v.aW.get q))).2.1 k)
            (cond (leB (Pj s l (fZ (f.v.aW.get q))).1 (bs.get i).High) (cond (!leB (Pj s l (fZ (f.v.aW.get q))).2.1 (bs.get i).Low) (cond (!leB (Pj s l (fZ (f.v.aW.get q))).1 (bs.get i).Low) (cond (leB (Pj s l (fZ (f.v.aW.get q))).2.1 (bs.get i).High)
              (OJ E n n1 bs f (Pj s l (fZ (f.v.aW.get q))).2.2 f.v.aW (f.v.aW.len:Int) (q:Int) ((i+1:Nat):Int) w2 (f.v.aW.get q) (Pj s l (fZ (f.v.aW.get q))).1 (Pj s l (fZ (f.v.aW.get q))).2.1 k)
              (OJ E n n1 bs f (Pj s l (fZ (f.v.aW.get q))).2.2 f.v.aW (f.v.aW.len:Int) (q:Int) ((i+1:Nat):Int) w1 (f.v.aW.get q) (Pj s l (fZ (f.v.aW.get q))).1 (Pj s l (fZ (f.v.aW.get q))).2.1 k))
              (OJ E n n1 bs f (Pj s l (fZ (f.v.aW.get q))).2.2 f.v.aW (f.v.aW.len:Int) (q:Int) ((i+1:Nat):Int) w1 (f.v.aW.get q) (Pj s l (fZ (f.v.aW.get q))).1 (Pj s l (fZ (f.v.aW.get q))).2.1 k))
              (OJ E n n1 bs f (Pj s l (fZ (f.v.aW.get q))).2.2 f.v.aW (f.v.aW.len:Int) (q:Int) ((i+1:Nat):Int) w (f.v.aW.get q) (Pj s l (fZ (f.v.aW.get q))).1 (Pj s l (fZ (f.v.aW.get q))).2.1 k))
              (OJ E n n1 bs f (Pj s l (fZ (f.v.aW.get q))).2.2 f.v.aW (f.v.aW.len:Int) (q:Int) ((i+1:Nat):Int) w (f.v.aW.get q) (Pj s l (fZ (f.v.aW.get q))).1 (Pj s l (fZ (f.v.aW.get q))).2.1 k))):=λA k=>by
          rw[z09,dZ omY,ed,bG omY,gU,zDl,bn,zDl,bn,zDl,bn,zDl,bn,bP omY];have c3:i<w.len:=by omega
          simp only[bG c1,bG c3];rfl
        generalize hX:OJ E n n1 bs f (Pj s l (fZ (f.v.aW.get q))).2.2 f.v.aW (f.v.aW.len:Int) (q:Int) ((i+1:Nat):Int)=X at hd ⊢;have vw:((bs.get i).View != (fZ (f.v.aW.get q)).1)=((bs.get i).View != (f.v.aW.get q).View):=rfl;by_cases d1:((bs.get i).View != (f.v.aW.get q).View)=true
        · exact⟨w,λA k=>by rw[hd,d1];rfl,hw,λj _=>rfl,none (by unfold Oj;rw[d1];rfl) (by unfold N9;rw[d1];rfl)⟩
        have d1:((bs.get i).View != (f.v.aW.get q).View)=false:=by simpa using d1
        cases d2:(Pj s l (fZ (f.v.aW.get q))).2.2 != 0 with
        | true=>exact⟨w1,λA k=>by rw[hd,d1,d2];rfl,hw,w1j,by rw[w1i];unfold Oj N9;rw[d1,d2];simp⟩
        | false =>
          cases d3:leB (Pj s l (fZ (f.v.aW.get q))).1 (bs.get i).High with
          | false=>exact⟨w,λA k=>by rw[hd,d1,d2,d3];rfl,hw,λj _=>rfl,none (by unfold Oj;rw[d1,d2,d3];rfl) (by unfold N9;rw[d1,d2,d3];rfl)⟩
          | true =>
            cases d4:leB (Pj s l (fZ (f.v.aW.get q))).2.1 (bs.get i).Low with
            | true=>exact⟨w,λA k=>by rw[hd,d1,d2,d3,d4];rfl,hw,λj _=>rfl,none (by unfold Oj;rw[d1,d2,d3,d4];rfl) (by unfold N9;rw[d1,d2,d3,d4];rfl)⟩
            | false =>
              cases d5:leB (Pj s l (fZ (f.v.aW.get q))).1 (bs.get i).Low with
              | true=>exact⟨w1,λA k=>by rw[hd,d1,d2,d3,d4,d5];rfl,hw,w1j,by rw[w1i];unfold Oj N9;rw[d1,d2,d3,d4,d5];simp⟩
              | false =>
                cases d6:leB (Pj s l (fZ (f.v.aW.get q))).2.1 (bs.get i).High with
                | false=>exact⟨w1,λA k=>by rw[hd,d1,d2,d3,d4,d5,d6];rfl,hw,w1j,by rw[w1i];unfold Oj N9;rw[d1,d2,d3,d4,d5,d6];simp⟩
                | true=>exact⟨w2,λA k=>by rw[hd,d1,d2,d3,d4,d5,d6];rfl,hw,w2j,by rw[w2i];unfold Oj N9;rw[d1,d2,d3,d4,d5,d6];simp⟩
      obtain⟨w1,s1,s2,s3,s4⟩:=st;obtain⟨w',a1,a2,a3⟩:=ih (i+1) n1 w1 omY omY s2 (λj hj=>by
        by_cases e:j=i
        · subst e;rw[s4,eX omY]
        · rw [s3 j e, hg j hj];by_cases h:j < i
          · rw[eX h,eX omY]
          · rw[fB h,fB omY])
      exact⟨w',λA k=>by rw[s1];exact a1 A k,a2,a3⟩
  have ch:∀q,q<f.v.aW.len->Chosen s l (f.v.aW.get q):=λq hq=>hf.chosen he h24 (hf.sub (jA.2 ⟨q,hq,rfl⟩))
  have all:∀(m q n:Nat)(w:Sl Tally),q+m=f.v.aW.len->m<n->w.len=bs.len->(∀j,j<bs.len->w.get j=zmj s l (bs.get j) ((List.range q).map λi=>fZ (f.v.aW.get i))) ->
      ∃w':Sl Tally,(∀(A:Type)(k:Sl Tally×Int->Option A),zJ2 E n bs f f.v.aW (f.v.aW.len:Int) (q:Int) w k=k (w',0))/\w'.len=bs.len/\∀j,j<bs.len->w'.get j=zmj s l (bs.get j) ((List.range f.v.aW.len).map λi=>fZ (f.v.aW.get i)):=by
    intro m
    induction m with
    | zero =>
      intro q n w hq hn hw hg;obtain⟨n,rfl⟩:∃n',n=n'+1:=⟨n-1,omY⟩;exact⟨w,λA k=>by rw[z08,eU omY];rfl,hw,λj hj=>by rw[hg j hj,show q=f.v.aW.len by omega]⟩
    | succ m ih =>
      intro q n w hq hn hw hg;obtain⟨n,rfl⟩:∃n',n=n'+1:=⟨n-1,omY⟩;have hc:=ch q omY;obtain⟨j,hj⟩:=hc.vl;have G:=EX he h24 hj hc.ne;obtain⟨w1,o1,o2,o3⟩:=one n q omY ((List.range q).map λi=>fZ (f.v.aW.get i)) (by simp;omega) bs.len 0 E.N w omY omY hw (λj hj=>by rw[fB omY];exact hg j hj);have e0:(List.range q).map (λi=>fZ (f.v.aW.get i))++[fZ (f.v.aW.get q)]=(List.range (q+1)).map λi=>fZ (f.v.aW.get i):=by rw[qjm,QQ];rfl
      rw[e0]at o3;obtain⟨w',a1,a2,a3⟩:=ih (q+1) n w1 omY omY o2 o3;refine⟨w',λA k=>?_,a2,a3⟩;rw[z08,dZ omY,ed,bG omY,gU,hf.ev,NT s l r _ he (by have:=hc.one.le;omega) (Fa hc.ev.vw hc.tv rfl hj hc.ne),bn,IY rfl,h58 _ G,bn];have o1:=o1 A k;rw[a1]at o1;exact o1
  obtain⟨w,a1,a2,a3⟩:=all f.v.aW.len 0 E.N ⟨(bs.len:Int).toNat,λ_=>⟨0,0⟩⟩ omY omY (by show(bs.len:Int).toNat=_;omega) (λj hj=>rfl);refine⟨f.v,hf,w,ae.ext λk=>?_,a2,λi hi=>?_⟩
  · rw [e42,eU omY,dS,eU omY,dS,bn];rw[show(0:Int)=((0:Nat):Int)from rfl,ok1 bs.len 0 omY E.N omY,zDk,eU omY,dS,c1,bn];show aV (decide ((0:Int)<=(bs.len:Int)/\((bs.len:Int):Int)=(bs.len:Int)/\(bs.len:Int)<=1000000)) _=_;rw[bG omY];exact a1 _ k
  · rw [a3 i hi];unfold ls;rw[qdW];rfl
def Rt(t:ER):Prop:=(0<=t.Z/\t.Z<=100000)/\(0<=t.W/\t.W<=100000)/\t.Z≠t.W/\(-1000000<=t.X/\t.X<=1000000)/\-1000000<=t.Y/\t.Y<=1000000
instance(t:ER):Decidable (Rt t):=by unfold Rt;infer_instance
abbrev Q18(C:ER->ae Bool):Prop:=∀t,C t=.ok (decide (Rt t))
theorem s18{E:E18}:Q18 (F18 E):=λt=>ae.ext λk=>by
 rw[e18,bn];simp only[kc k];congr 1;unfold Rt
 grind (splits:=60)
def YE(t:ER):straight:=EP t.Z t.X t.W t.Y
theorem zWR{t:ER}(h:Rt t):yw (YE t):=ztg h.1 h.2.1 h.2.2.2.1 h.2.2.2.2 h.2.2.1
structure E13 where
  N:Nat
  c17:au×bJ×(Sl bF)×Int->ae ((Sl af)×Bool)
  c19:Unit->ae Bool
  c18:ER->ae Bool
  c43:Bin->ae Bool
  c42:au×bJ×(Sl bF)×(Sl Bin)->ae ((Sl Tally)×Int)
  c20:au×bJ×(Sl bF)->ae ((Sl af)×Int)
  c55:Int×Int×Int×Int->ae Line
  YB:aP×aP->ae Bool
  c47:au×(Sl bF)×af->ae ((Sl ay)×Int)
  c57:Line×(Sl ay)->ae ((Sl Int))
  c58:(Sl ay)->ae (aP×aP×Int)
abbrev G13(E:E13):bU:=gY (((((((((((Tabs.nil.addF 17 (ae.un E.c17)).addF 19 (ae.un E.c19)).addF 18 (ae.un E.c18)).addF 43 (ae.un E.c43)).addF 42 (ae.un E.c42)).addF 20 (ae.un E.c20)).addF 55 (ae.un E.c55)).addF 56 (ae.un E.YB)).addF 47 (ae.un E.c47)).addF 57 (ae.un E.c57)).addF 58 (ae.un E.c58)) []
def A13:dK:=bY aH 13 [] {cut:=[32]}
def F13(E:E13):au×bJ×(Sl bF)×Bin×aP×ER->ae Bool:=ae.ty (aF aH E.N (G13 E) A13 13)
section
variable(E:E13){A:Type}(k:Bool->Option A)
def zNh(E:E13)(n:Nat)(a0:au)(a2:Sl bF)(a3:Bin)(a5:ER)(v17:Sl Tally)(GY:Sl af)(v21:Int){A:Type}(k:Bool->Option A):Option A :=
  iP aH (G13 E) E.N A13 13 [1,1,1,1,1,1,1,1,0,1,0] [.n n] (iO k)
    ⟨[(2,eP a2),(6,.cl (.ptr 6 0)),(9,.cl (.ptr 9 0)),(11,.cl (.ptr 11 0)),(17,eP v17),(19,eP GY),(21,.int v21)],[(6,eB 24 a0),(9,eB 87 a3),(11,eB 29 a5)],[]⟩
def zJ4(E:E13)(n:Nat)(a0:au)(a2:Sl bF)(a3:Bin)(GY:Sl af)(v23:Bool)(v24:Int)(x22:Line){A:Type}(k:Bool->Option A):Option A :=
  iP aH (G13 E) E.N A13 13 [1,1,1,1,1,1,1,1,1,1,1,1,0,1,0] [.n n] (iO k)
    ⟨[(2,eP a2),(6,.cl (.ptr 6 0)),(9,.cl (.ptr 9 0)),(19,eP GY),(22,.cl (.ptr 22 0)),(23,.bool v23),(24,.int v24)],[(6,eB 24 a0),(9,eB 87 a3),(22,eB 114 x22)],[]⟩
def z2Q(E:E13)(n0:Nat)(a0:au)(a2:Sl bF)(a3:Bin)(GY:Sl af)(v23:Bool)(v24:Int)(v30:Bool)(x22:Line){A:Type}(k:Bool->Option A):Option A :=
  iP aH (G13 E) E.N A13 13 [1,1,1,1,1,1,1,1,1,1,1,1,0,1,0,0,1,0,0,1,1,1,1,1,1] [.n n0] (iO k)
    ⟨[(2,eP a2),(6,.cl (.ptr 6 0)),(9,.cl (.ptr 9 0)),(19,eP GY),(22,.cl (.ptr 22 0)),(23,.bool v23),(24,.int v24),(30,.bool v30)],[(6,eB 24 a0),(9,eB 87 a3),(22,eB 114 x22)],[]⟩
theorem e13(a0:au)(a1:bJ)(a2:Sl bF)(a3:Bin)(a4:aP)(a5:ER):(F13 E (a0,a1,a2,a3,a4,a5)).T k =
  (E.c17 (a0,a1,a2,8)).T λr1 =>
  cond (!r1.2)
  ((E.c19 ()).T λr2 =>
 k r2)
  ((E.c18 a5).T λr3 =>
 cond (!r3)
 ((E.c19 ()).T λr4 =>
 k r4)
 ((E.c43 a3).T λr5 =>
 cond (!r5)
 ((E.c19 ()).T λr6 =>
 k r6)
 ((E.c43 (⟨a3.View,a3.Low,a4⟩:Bin)).T λr7 =>
 cond (!r7)
 ((E.c19 ()).T λr8 =>
 k r8)
 ((E.c43 (⟨a3.View,a4,a3.High⟩:Bin)).T λr9 =>
 cond (!r9)
 ((E.c19 ()).T λUI =>
 k UI)
 ((E.c42 (a0,a1,a2,(⟨3,(GU [a3,(⟨a3.View,a3.Low,a4⟩:Bin),(⟨a3.View,a4,a3.High⟩:Bin)])⟩:(Sl Bin)))).T λr11 =>
 (E.c20 (a0,a1,a2)).T λr12 =>
 cond (r11.2 != 0)
 (k false)
 (cond (r12.2 != 0)
 (k false)
 (cond ((r11.1.len:Int) != 3)
 (k false)
 (aV (decide ((0:Int)<=0/\0<(r11.1.len:Int))) (aV (decide ((0:Int)<=1/\1<(r11.1.len:Int))) (aV (decide ((0:Int)<=2/\2<(r11.1.len:Int))) (cond (decide ((r11.1.get 0).zgk<(aO ((r11.1.get 1).zgk+(r11.1.get 2).zgk))))
 (k false)
 (aV (decide ((0:Int)<=0/\0<(r11.1.len:Int))) (aV (decide ((0:Int)<=1/\1<(r11.1.len:Int))) (aV (decide ((0:Int)<=2/\2<(r11.1.len:Int))) (cond (decide ((r11.1.get 0).sO>(aO ((r11.1.get 1).sO+(r11.1.get 2).sO))))
 (k false)
 (zNh E E.N a0 a2 a3 a5 r11.1 r12.1 0 k)))))))))))))))):=dV
theorem Zc2(n0:Nat)(a0:au)(a2:Sl bF)(a3:Bin)(a5:ER)(v17:Sl Tally)(GY:Sl af)(v21:Int):zNh E (n0+1) a0 a2 a3 a5 v17 GY v21 k =
  cond (decide (v21<3))
  (aV (decide (0<=v21/\v21<(v17.len:Int))) (cond (decide ((v17.get v21.toNat).zgk<0))
 (k false)
 (aV (decide (0<=v21/\v21<(v17.len:Int))) (aV (decide (0<=v21/\v21<(v17.len:Int))) (cond (decide ((v17.get v21.toNat).zgk>(v17.get v21.toNat).sO))
 (k false)
 (aV (decide (0<=v21/\v21<(v17.len:Int))) (cond (decide ((v17.get v21.toNat).sO>(GY.len:Int)))
 (k false)
 (zNh E n0 a0 a2 a3 a5 v17 GY (aO (v21+1)) k))))))))
  (aV (decide ((0:Int)<=0/\0<(v17.len:Int))) (aV (decide ((0:Int)<=0/\0<(v17.len:Int))) (cond ((v17.get 0).zgk != (v17.get 0).sO)
 ((E.c19 ()).T λr1 =>
 k r1)
 ((E.c55 (a5.Z,a5.X,a5.W,a5.Y)).T λr2 =>
 (E.YB (r2.dM,a3.Low)).T λr3 =>
 cond (!r3)
 ((E.YB (r2.dM,a3.High)).T λr4 =>
 zJ4 E E.N a0 a2 a3 GY r4 0 r2 k)
 (zJ4 E E.N a0 a2 a3 GY false 0 r2 k))))):=krY
theorem Zc3(n0:Nat)(a0:au)(a2:Sl bF)(a3:Bin)(GY:Sl af)(v23:Bool)(v24:Int)(x22:Line):zJ4 E (n0+1) a0 a2 a3 GY v23 v24 x22 k =
  cond (decide (v24<(GY.len:Int)))
  (aV (decide (0<=v24/\v24<(GY.len:Int))) ((E.c47 (a0,a2,(GY.get v24.toNat))).T λr1 =>
 cond (r1.2 != 0)
 (k false)
 (aV (decide (0<=v24/\v24<(GY.len:Int))) (cond ((GY.get v24.toNat).View != a3.View)
 (zJ4 E n0 a0 a2 a3 GY v23 (aO (v24+1)) x22 k)
 ((E.c57 (x22,r1.1)).T λr2 =>
 cond (decide ((r2.len:Int)<(r1.1.len:Int)))
 (zJ4 E n0 a0 a2 a3 GY v23 (aO (v24+1)) x22 k)
 ((E.c58 r1.1).T λr3 =>
 cond (r3.2.2 != 0)
 (k false)
 ((E.YB (r3.1,a3.Low)).T λr4 =>
 cond (!r4)
 ((E.YB (r3.2.1,a3.High)).T λr5 =>
 z2Q E n0 a0 a2 a3 GY v23 v24 r5 x22 k)
 (z2Q E n0 a0 a2 a3 GY v23 v24 false x22 k))))))))
  ((E.c19 ()).T λr6 =>
 k r6):=krY
theorem Zf6(n0:Nat)(a0:au)(a2:Sl bF)(a3:Bin)(GY:Sl af)(v23:Bool)(v24:Int)(v30:Bool)(x22:Line):z2Q E n0 a0 a2 a3 GY v23 v24 v30 x22 k =
  cond (v30 != v23)
  (k false)
  (zJ4 E n0 a0 a2 a3 GY v23 (aO (v24+1)) x22 k):=krY
end
theorem o13 [aJ](E:E13)(h17:Ok aH 17 (ae.un E.c17))(h19:Ok aH 19 (ae.un E.c19))(h18:Ok aH 18 (ae.un E.c18))(h43:Ok aH 43 (ae.un E.c43))(h42:Ok aH 42 (ae.un E.c42))(h20:Ok aH 20 (ae.un E.c20))(h55:Ok aH 55 (ae.un E.c55))(h56:Ok aH 56 (ae.un E.YB))(h47:Ok aH 47 (ae.un E.c47))(h57:Ok aH 57 (ae.un E.c57))(h58:Ok aH 58 (ae.un E.c58)):Ok aH 13 (ae.un (F13 E)):=dW (((((((((((ax.nil.addF h17).addF h19).addF h18).addF h43).addF h42).addF h20).addF h55).addF h56).addF h47).addF h57).addF h58)
def SmF(f:aP):Prop:=(-2000000<=f.Num/\f.Num<=2000000)/\0<f.bT/\f.bT<=100000
theorem YF{a b:aP}(ha:SmF a)(hb:SmF b):leB a b=true↔yz a b:=by
 have m:∀{a b:aP},SmF a->SmF b->aO (a.Num*b.bT)=a.Num*b.bT:=fun {a b} h1 h2=>by
  have:=qy h1.1.1 h1.1.2 (yt h2.2.1) h2.2.2;exact bf omY omY
 unfold leB yz;rw[pJ,m ha hb,m hb ha]
theorem zf6{a b:aP}(ha:SmF a)(hb:SmF b):leB a b=false↔IA b a:=by
 rw[<- qjt,YF ha hb];unfold yz IA;omega
theorem zOa{f:aP}(h:frB f=true):SmF f:=by
 unfold frB inB at h;simp only[gG,pJ]at h;exact⟨omY,omY,omY⟩
theorem z9e{a b:aP}(h:yz a b):IA a b:=by unfold yz at h;unfold IA;omega
theorem zNb{a b c:aP}(ha:0<a.bT)(hb:0<b.bT)(hc:0<c.bT)(h1:IA a b)(h2:yz b c):yz a c:=by
 by_cases h:yz a c
 ·exact h
 ·have h3:=oN hc ha hb (YN h) h1;unfold yz at h2;unfold IA at h3;omega
theorem zLj{a b:Int}(h1 : -2000000<=a/\a<=2000000)(h2:0<b/\b<=100000):SmF (red a b):=by
 have r1:=zU (num:=a) h2.1;have r2:=GG (num:=a) h2.1;have r3:=jf (num:=a) h2.1;exact⟨omY,r3,omY⟩
theorem zWT{g:Sl ay}(G:dw g)(h0:(Ad g false).2=0):SmF (slV g).1/\SmF (slV g).2/\IA (slV g).1 (slV g).2/\∀s,yw s->zx g s->IA (slV g).1 (red s.bI s.den)/\IA (red s.bI s.den) (slV g).2:=by
 have hg:=G.2;have hf:fQ g=false:=by
  unfold Ad at h0;rw[kU.2 G]at h0;cases hs:iG g with
  | false=>rw[hs]at h0;cases h0
  | true =>
   cases hf:fQ g with
   | false=>rfl
   | true=>rw[hs,hf]at h0;cases h0
 have hc:=(zr6 G h0).2 hf;have nf:¬XI g:=λh=>by rw[Om.2 h]at hf;cases hf
 have dn:∀s,wB g s->0<(zbf s).bT:=λs h=>by have:=(mi G h).2.2;show 0<s.den;omega
 obtain⟨⟨u,u1,u2⟩,u3⟩:=zkQ G zbf dn hc;obtain⟨⟨v,v1,v2⟩,v3⟩:=zkR G zbf dn hc;have U:=mi G u1;have V:=mi G v1;have pu:0<u.den:=by have:=U.2.2;omega
 have pv:0<v.den:=by have:=V.2.2;omega
 have e1:(slV g).1=red u.bI u.den:=by unfold slV;rw[u2];rfl
 have e2:(slV g).2=red v.bI v.den:=by unfold slV;rw[v2];rfl
 have r1:=zX (a:=u.bI) pu;have r2:=zX (a:=v.bI) pv;have p1:=jf (num:=u.bI) pu;have p2:=jf (num:=v.bI) pv;have inn:∀{c:straight},wB g c->∃x∈jB g,fC x=fC c:=fun {c} hc=>(TN hf).2.1 c hc.1 ((Es G (rE G hc.1)).2 hc.2);have eqs:∀{x y:straight},0<x.den->0<y.den->fC x=fC y->IA (zbf x) (zbf y):=fun {x y} px py h=>by
  have h:red x.bI x.den=red y.bI y.den:=jX Line.dM h;have a:=zX (a:=x.bI) px;have b:=zX (a:=y.bI) py;rw[h]at a;exact oN px (jf (num:=y.bI) py) py a.2 b.1
 have mid:∀s,yw s->zx g s->IA (red u.bI u.den) (red s.bI s.den)/\IA (red s.bI s.den) (red v.bI v.den):=λs S ha=>by
  have hd:0<s.den:=by have:=S.2.2;omega
  have r3:=zX (a:=s.bI) hd;have p3:=jf (num:=s.bI) hd;obtain⟨_,⟨c,c1,c2⟩,e,d1,d2⟩:=lp omY nf hd ha;obtain⟨x,x1,x2⟩:=inn c1;obtain⟨y,y1,y2⟩:=inn d1;have pc:0<c.den:=by have:=(mi G c1).2.2;omega
  have pe:0<e.den:=by have:=(mi G d1).2.2;omega
  have px:0<x.den:=by have:=(mi G (Jr G x1)).2.2;omega
  have py:0<y.den:=by have:=(mi G (Jr G y1)).2.2;omega
  have a:=YN (u3 x x1);have b:=YN (v3 y y1);rw[u2]at a;rw[v2]at b;constructor
  ·exact oN p1 pu p3 r1.1 (oN pu (b:=zbf x) px p3 a (oN px (b:=zbf c) pc p3 (eqs px pc x2) (oN pc (b:=⟨s.bI,s.den⟩) hd p3 c2 r3.2)))
  ·exact oN p3 hd p2 r3.1 (oN hd (b:=zbf e) pe p2 d2 (oN pe (b:=zbf y) py p2 (eqs pe py y2.symm) (oN py pv p2 b r2.2)))
 rw[e1,e2];refine⟨zLj U.1 ⟨pu,U.2.2.2⟩,zLj V.1 ⟨pv,V.2.2.2⟩,?_,mid⟩;obtain⟨a,b⟩:=mid u U u1.2;exact b
theorem count_le{α:Type}{p q:α->Bool}:∀{l:List α},(∀x∈l,p x=true->q x=true)->l.countP p<=l.countP q:=fun {l} h=>by
 rw[qd2,qd2];exact zDj h
theorem zOc{α:Type}{p q:α→Bool}:∀{l:List α},(∀x∈l,p x=true→q x=true)→l.countP q≤l.countP p→∀x∈l,q x=true→p x=true
  | [],_,_,x,hx,_=>by cases hx
  | y::l,h,hc,x,hx,hq=>by
    have h':=λz hz=>h z (jU _ hz);have le:=count_le (l:=l) h';rw[qdv,qdv]at hc;cases hp:p y with
    | true =>
      rw[hp,h y lq hp]at hc;rcases kR.1 hx with e|hx
      · rw[e];exact hp
      · exact zOc h' (by simpa using hc) x hx hq
    | false =>
      rw[hp]at hc;cases hqy:q y with
      | true=>rw[hqy]at hc;simp at hc;omega
      | false =>
        rw[hqy]at hc;rcases kR.1 hx with e|hx
        · rw[e,hqy]at hq;cases hq
        · exact zOc h' (by simpa using hc) x hx hq
theorem z1m{α:Type}{p q o:α→Bool}:∀{l:List α},(∀x∈l,o x=true→p x=true∨q x=true)→l.countP o≤l.countP p+l.countP q
  | [],_=>Cf _
  | y::l,h=>by
    have ih:=z1m (p:=p) (q:=q) (o:=o) (l:=l) λx hx=>h x (jU _ hx);have hy:=h y lq;rw[qdv,qdv,qdv];revert hy;cases o y<;>cases p y<;>cases q y<;>simp<;>omega
theorem zYm{α:Type}{p q o:α→Bool}:∀{l:List α},(∀x∈l,(p x=true→o x=true)∧(q x=true→o x=true)∧(p x=true→q x=false))→l.countP p+l.countP q≤l.countP o
  | [],_=>Cf _
  | y::l,h=>by
    have ih:=zYm (p:=p) (q:=q) (o:=o) (l:=l) λx hx=>h x (jU _ hx);have hy:=h y lq;rw[qdv,qdv,qdv];revert hy;cases o y<;>cases p y<;>cases q y<;>simp<;>omega
theorem z2R{s:au}{l:Sl bF}{b:Bin}{k:Int×jv}(h:N9 s l b k=true):Oj s l b k=true:=by
 unfold N9 at h;unfold Oj;cases h1:b.View != k.1 with
 | true=>rw[h1]at h;cases h
 | false =>
  rw[h1,dS]at h;cases h2:(Pj s l k).2.2 != 0 with
  | true=>rw[h2]at h;cases h
  | false =>
   rw[h2,dS,gG]at h;exact h.1
abbrev Q13(C:au×bJ×Sl bF×Bin×aP×ER->ae Bool):Prop:=∀s r l b m t,C (s,r,l,b,m,t)=.ok true
theorem s13{E:E13}(N:Big E.N)(h17:Q17 E.c17)(h19:Q19 E.c19)(h18:Q18 E.c18)(h43:Q43 E.c43)(h42:Q42 E.c42)(h20:Q20 E.c20)(h55:Q55 E.c55)(h56:Q56 E.YB)(h47:Q47 E.c47)(h57:Q57 E.c57)(h58:Q58 E.c58):Q13 (F13 E):=λs r l b m t=>ae.ext λk=>by
  have hN:=N;obtain⟨w,is,h1,h2⟩:=h17 s r l 8;rw[e13,h1,bn,bn];cases is with
  | false=>show(E.c19 ()).T _=_;rw[h19,bn]
  | true =>
  have hf:=h2 rfl;obtain⟨he,h24,hr⟩:=hf.evt;show(E.c18 t).T _=_;rw[h18,bn];by_cases ht:Rt t
  case neg=>rw[eU ht];show(E.c19 ()).T _=_;rw[h19,bn]
  rw[dZ ht,OZ,dS,h43,bn];cases hb0:zlO b with
  | false=>show(E.c19 ()).T _=_;rw[h19,bn]
  | true =>
  rw[OZ,dS,h43,bn];cases hb1:zlO ⟨b.View,b.Low,m⟩with
  | false=>show(E.c19 ()).T _=_;rw[h19,bn]
  | true =>
  rw[OZ,dS,h43,bn];cases Us:zlO ⟨b.View,m,b.High⟩with
  | false=>show(E.c19 ()).T _=_;rw[h19,bn]
  | true =>
  rw[OZ,dS]
  -- the three bins
  have B0:=hb0;have B1:=hb1;have B2:=Us;unfold zlO at B0 B1 B2;simp only[gG]at B0 B1 B2;have sL:=zOa B0.2.1;have sH:=zOa B0.2.2.1;have sM:=zOa B1.2.2.1;have lm:=(YF sL sM).1 B1.2.2.2;have mh:=(YF sM sH).1 B2.2.2.2;have lg:∀i,GU [b,⟨b.View,b.Low,m⟩,⟨b.View,m,b.High⟩] i=if i=1 then⟨b.View,b.Low,m⟩else if i=2 then⟨b.View,m,b.High⟩else b:=λi=>by
    have key:∀x:Bin,(bH.dec (IC (shp 8) (bH.enc b) (bH.enc x))).1=x:=λx=>by rw[kK (pO 8) (bH.sm _ _),sQ.de]
    rcases i with _|_|_|i
    · exact key _
    · exact key _
    · exact key _
    · rw[fB omY,fB omY];exact key _
  obtain⟨f,hf1,v,v1,v2,v3⟩:=h42 s r l ⟨3,GU [b,⟨b.View,b.Low,m⟩,⟨b.View,m,b.High⟩]⟩ hf.sh h24 hf.rf hf.n1 hf.n2 (by show 3<=100;omega) (λi hi=>by
    have hi:i<3:=hi;show zlO (GU _ i)=true;rw[lg];split
    · exact hb1
    · split
      · exact Us
      · exact hb0)
  obtain⟨g,g1,hg1⟩:=h20 s r l hf.sh hf.le hf.rf hf.n1 hf.n2;have uq:=hf1.uniq hg1 he h24;rw[uq]at v3;have gl:=hg1.len hf.n1 hf.n2;generalize hT:(ls g.aW).map fZ=T at v3;have Tl:T.length=g.aW.len:=by rw[<- hT,dqU,iQ]
  have ch:∀q,q<g.aW.len->Chosen s l (g.aW.get q):=λq hq=>hg1.chosen he h24 (hg1.sub (jA.2 ⟨q,hq,rfl⟩));have Tc:∀x∈T,dw (qx s l x.2):=λx hx=>by
    rw[<- hT]at hx;obtain⟨t,ht,rfl⟩:=xR.1 hx;have hc:=hg1.chosen he h24 (hg1.sub ht);obtain⟨j,hj⟩:=hc.vl;exact EX he h24 hj hc.ne
  have v0:v.get 0=zmj s l b T:=by
    rw[v3 0 (by show 0<3;omega)];show zmj s l (GU _ 0) T=_;rw[lg];rfl
  have v1':v.get 1=zmj s l ⟨b.View,b.Low,m⟩ T:=by
    rw[v3 1 (by show 1<3;omega)];show zmj s l (GU _ 1) T=_;rw[lg];rfl
  have v2':v.get 2=zmj s l ⟨b.View,m,b.High⟩ T:=by
    rw[v3 2 (by show 2<3;omega)];show zmj s l (GU _ 2) T=_;rw[lg];rfl
  have vl:v.len=3:=v2
  -- the slopes of a track
  have slp:∀x∈T,((Pj s l x).2.2 != 0)=false->SmF (Pj s l x).1/\SmF (Pj s l x).2.1/\IA (Pj s l x).1 (Pj s l x).2.1/\(Ad (qx s l x.2) false).2=0/\(Pj s l x).1=(slV (qx s l x.2)).1/\(Pj s l x).2.1=(slV (qx s l x.2)).2:=λx hx h=>by
    unfold Pj at h ⊢;cases ho:(Ad (qx s l x.2) false).2 != 0 with
    | true=>rw[ho]at h;exact absurd h (by show ¬((Ad (qx s l x.2) false).2 != 0)=false;rw[ho];simp)
    | false =>
      have o0:(Ad (qx s l x.2) false).2=0:=by simpa using ho
      obtain⟨a1,a2,a3,_⟩:=zWT (Tc x hx) o0;exact⟨a1,a2,a3,o0,rfl,rfl⟩
  have pL:=sL.2.1;have pH:=sH.2.1;have pM:=sM.2.1
  -- a track is surely in one part at most, and in one part if possibly in the whole
  have dis:∀x∈T,(N9 s l ⟨b.View,b.Low,m⟩ x=true->N9 s l b x=true)/\(N9 s l ⟨b.View,m,b.High⟩ x=true->N9 s l b x=true)/\(N9 s l ⟨b.View,b.Low,m⟩ x=true->N9 s l ⟨b.View,m,b.High⟩ x=false):=λx hx=>by
    unfold N9;cases d1:b.View != x.1 with
    | true=>simp
    | false =>
      cases d2:(Pj s l x).2.2 != 0 with
      | true=>simp
      | false =>
        obtain⟨a1,a2,a3,_⟩:=slp x hx d2;have q1:=a1.2.1;have q2:=a2.2.1;simp only[dS,gG,NR,YF a1 sH,YF a1 sM,YF a2 sH,YF a2 sM,zf6 a1 sL,zf6 a2 sL,zf6 a1 sM,zf6 a2 sM];refine⟨λh=>⟨⟨zaS q1 pM pH h.1.1 mh,h.1.2⟩,h.2.1,zaS q2 pM pH h.2.2 mh⟩,λh=>⟨⟨h.1.1,oN pL pM q2 (z9e lm) h.1.2⟩,oN pL pM q1 (z9e lm) h.2.1,h.2.2⟩,λh=>?_⟩;have:leB (Pj s l x).1 m=true:=(YF a1 sM).2 h.1.1;rw[this];simp
  have orr:∀x∈T,Oj s l b x=true->Oj s l ⟨b.View,b.Low,m⟩ x=true\/Oj s l ⟨b.View,m,b.High⟩ x=true:=λx hx=>by
    unfold Oj;cases d1:b.View != x.1 with
    | true=>simp
    | false =>
      cases d2:(Pj s l x).2.2 != 0 with
      | true=>simp
      | false =>
        obtain⟨a1,a2,a3,_⟩:=slp x hx d2;have q1:=a1.2.1;have q2:=a2.2.1;simp only[dS,gG,NR,YF a1 sH,YF a1 sM,zf6 a2 sL,zf6 a2 sM];intro h;by_cases c:yz (Pj s l x).1 m
        · exact .inl ⟨c,h.2⟩
        · exact .inr ⟨h.1,oN pM q1 q2 (YN c) a3⟩
  have n0:=zYm dis;have n1:=z1m orr;have n2:∀b,T.countP (N9 s l b)<=T.countP (Oj s l b):=λb=>count_le λx _ h=>z2R h;have n3:∀b,T.countP (Oj s l b)<=T.length:=λb=>qdL;rw[v1,bn,g1,bn];have Zmq:∀n,zNh E n s l b t v g.aW 3 k=zNh E n s l b t v g.aW ((3:Nat):Int) k:=λn=>rfl;have c0:(v.get 0).zgk=(T.countP (N9 s l b):Int)/\(v.get 0).sO=(T.countP (Oj s l b):Int):=by rw[v0];exact⟨rfl,rfl⟩
  have c1:(v.get 1).zgk=(T.countP (N9 s l ⟨b.View,b.Low,m⟩):Int)/\(v.get 1).sO=(T.countP (Oj s l ⟨b.View,b.Low,m⟩):Int):=by rw[v1'];exact⟨rfl,rfl⟩
  have c2:(v.get 2).zgk=(T.countP (N9 s l ⟨b.View,m,b.High⟩):Int)/\(v.get 2).sO=(T.countP (Oj s l ⟨b.View,m,b.High⟩):Int):=by rw[v2'];exact⟨rfl,rfl⟩
  show cond ((0:Int) != 0) _ (cond ((0:Int) != 0) _ (cond ((v.len:Int) != 3) _ (aV (decide ((0:Int)≤0∧0<(v.len:Int))) (aV (decide ((0:Int)≤1∧1<(v.len:Int))) (aV (decide ((0:Int)≤2∧2<(v.len:Int))) (cond (decide ((v.get 0).zgk<aO ((v.get 1).zgk+(v.get 2).zgk))) _
    (aV (decide ((0:Int)<=0/\0<(v.len:Int))) (aV (decide ((0:Int)<=1/\1<(v.len:Int))) (aV (decide ((0:Int)<=2/\2<(v.len:Int))) (cond (decide ((v.get 0).sO>aO ((v.get 1).sO+(v.get 2).sO))) _ (zNh E E.N s l b t v g.aW 0 k)))))))))))=_
  have m1:=n3 b;have m2:=n3 ⟨b.View,b.Low,m⟩;have m3:=n3 ⟨b.View,m,b.High⟩;have m4:=n2 ⟨b.View,b.Low,m⟩;have m5:=n2 ⟨b.View,m,b.High⟩;have m6:=n2 b;rw[show((v.len:Int) != 3)=false by rw[vl];rfl,bG omY,bG omY,bG omY,bG omY,bG omY,bG omY,c0.1,c0.2,c1.1,c1.2,c2.1,c2.2,bf (x:=(T.countP (N9 s l ⟨b.View,b.Low,m⟩):Int)+(T.countP (N9 s l ⟨b.View,m,b.High⟩):Int)) omY omY,bf (x:=(T.countP (Oj s l ⟨b.View,b.Low,m⟩):Int)+(T.countP (Oj s l ⟨b.View,m,b.High⟩):Int)) omY omY,eU omY,eU omY];show zNh E E.N s l b t v g.aW 0 k=k true;have step:∀(n i:Nat),i<3->zNh E (n+1) s l b t v g.aW (i:Int) k=zNh E n s l b t v g.aW ((i+1:Nat):Int) k:=λn i hi=>by
    have vi:∃b',(v.get i).zgk=(T.countP (N9 s l b'):Int)/\(v.get i).sO=(T.countP (Oj s l b'):Int):=by
      rcases i with _|_|_|i
      · exact⟨_,c0⟩
      · exact⟨_,c1⟩
      · exact⟨_,c2⟩
      · omega
    obtain⟨b',y1,y2⟩:=vi;have:=n2 b';have:=n3 b';rw[Zc2,dZ omY,ed,bG omY,bG omY,bG omY,bG omY,gU,y1,y2,eU omY,eU omY,eU omY,bP omY];rfl
  obtain⟨n,hn⟩:∃n,E.N=n+1+1+1+1:=⟨E.N-4,omY⟩;rw[hn];refine(step _ 0 omY).trans ?_;rw[step _ 1 omY,step _ 2 omY,Zc2,eU omY,dS,bG omY,bG omY,c0.1,c0.2];by_cases hsp:T.countP (N9 s l b)=T.countP (Oj s l b)
  case neg=>rw[show((T.countP (N9 s l b):Int) != (T.countP (Oj s l b):Int))=true by simpa using λh=>hsp omY,ed,h19,bn]
  have sp:=zOc (λx _ h=>z2R (s:=s) (l:=l) (b:=b) h) (by omega:T.countP (Oj s l b)<=T.countP (N9 s l b));have S:=zWR ht;have pd:0<(YE t).den:=by have:=S.2.2;omega
  have xs:SmF (red (YE t).bI (YE t).den):=zLj S.1 ⟨pd,S.2.2.2⟩;rw[show((T.countP (N9 s l b):Int) != (T.countP (Oj s l b):Int))=false by rw[hsp];simp,dS,h55 _ _ _ _ ht.1 ht.2.1 ht.2.2.2.1 ht.2.2.2.2 ht.2.2.1,bn,h56,bn,h56,bn];have last:∀(m q n:Nat),q+m=g.aW.len->m<n->zJ4 E n s l b g.aW (!leB (red (YE t).bI (YE t).den) b.Low&&leB (red (YE t).bI (YE t).den) b.High) (q:Int) (fC (YE t)) k=k true:=by
    intro m
    induction m with
    | zero =>
      intro q n hq hn;obtain⟨n,rfl⟩:∃n',n=n'+1:=⟨n-1,omY⟩;rw[Zc3,eU omY,dS,h19,bn]
    | succ m ih =>
      intro q n hq hn;obtain⟨n,rfl⟩:∃n',n=n'+1:=⟨n-1,omY⟩;have hc:=ch q omY;obtain⟨j,hj⟩:=hc.vl;have G:=EX he h24 hj hc.ne;have hG:=G.2;have o1:=hc.one;have o2:=o1.sd;have o3:(g.aW.get q).Hits.len<=l.len:=qR rfl hj;have r0:lV s ⟨1,0⟩ l=0:=Zf5 he h24 rfl;have pl:=ES (YE t) (qx s l (fA (g.aW.get q))) (qx s l (fA (g.aW.get q))).len;have inT:fZ (g.aW.get q)∈T:=by rw[<- hT];exact qdJ (jA.2 ⟨q,omY,rfl⟩)
      rw[Zc3,dZ omY,ed,bG omY,gU,h47 s l (g.aW.get q) hf.sh hf.le omY omY,bn,r0,Fa hc.ev.vw hc.tv rfl hj hc.ne,IY rfl,bP omY];show aV (decide (0<=(q:Int)/\(q:Int)<(g.aW.len:Int))) _=_;rw[bG omY];show cond ((g.aW.get q).View != b.View) (zJ4 E n s l b g.aW _ ((q+1:Nat):Int) (fC (YE t)) k) ((E.c57 (fC (YE t),qx s l (fA (g.aW.get q)))).T _)=_;cases d1:(g.aW.get q).View != b.View with
      | true=>exact ih (q+1) n omY omY
      | false =>
        have d1':(b.View != (fZ (g.aW.get q)).1)=false:=by
          have:(g.aW.get q).View=b.View:=by simpa using d1
          show(b.View != (g.aW.get q).View)=false;rw[this];simp
        rw[dS,h57 _ _ S omY G.1,bn];show cond (decide (((ug (YE t) (qx s l (fA (g.aW.get q))) (qx s l (fA (g.aW.get q))).len).len:Int)<((qx s l (fA (g.aW.get q))).len:Int))) (zJ4 E n s l b g.aW _ ((q+1:Nat):Int) (fC (YE t)) k) ((E.c58 (qx s l (fA (g.aW.get q)))).T _)=_;by_cases hp:((ug (YE t) (qx s l (fA (g.aW.get q))) (qx s l (fA (g.aW.get q))).len).len:Int)<((qx s l (fA (g.aW.get q))).len:Int)
        · rw[dZ hp];exact ih (q+1) n omY omY
        have al:zx (qx s l (fA (g.aW.get q))) (YE t):=pl.2.1.1 omY;rw[eU hp,dS,h58 _ G,bn];have hsl:cond ((Ad (qx s l (fA (g.aW.get q))) false).2 != 0) ((⟨0,0⟩:aP),(⟨0,0⟩:aP),(Ad (qx s l (fA (g.aW.get q))) false).2) ((slV (qx s l (fA (g.aW.get q)))).1,(slV (qx s l (fA (g.aW.get q)))).2,0)=Pj s l (fZ (g.aW.get q)):=rfl;rw[hsl];have sp1:=sp _ inT;unfold Oj N9 at sp1;rw[d1']at sp1;simp only[dS]at sp1;cases d2:(Pj s l (fZ (g.aW.get q))).2.2 != 0 with
        | true=>rw[d2]at sp1;have:=sp1 rfl;cases this
        | false =>
          rw[d2]at sp1;simp only[dS]at sp1;obtain⟨a1,a2,a3,a4,a5,a6⟩:=slp _ inT d2;obtain⟨_,_,_,sv⟩:=zWT G a4;obtain⟨b1,b2⟩:=sv (YE t) S al;rw[<- a5]at b1;rw[<- a6]at b2;have q1:=a1.2.1;have q2:=a2.2.1;have q3:=xs.2.1;rw[dS,h56,bn,h56,bn];have e3:∀z,z2Q E n s l b g.aW (!leB (red (YE t).bI (YE t).den) b.Low&&leB (red (YE t).bI (YE t).den) b.High) (q:Int) z (fC (YE t)) k=cond (z != (!leB (red (YE t).bI (YE t).den) b.Low&&leB (red (YE t).bI (YE t).den) b.High)) (k false) (k true):=λz=>by
            rw[Zf6,bP omY,ih (q+1) n omY omY]
          rw[e3,e3]
          -- within and inside are one
          have wi:(!leB (Pj s l (fZ (g.aW.get q))).1 b.Low&&leB (Pj s l (fZ (g.aW.get q))).2.1 b.High)=(!leB (red (YE t).bI (YE t).den) b.Low&&leB (red (YE t).bI (YE t).den) b.High):=by
            generalize Pj s l (fZ (g.aW.get q))=K at *;rw[Ut];simp only[gG,NR,zf6 a1 sL,YF a2 sH,zf6 xs sL,YF xs sH];constructor
            · rintro⟨x1,x2⟩;exact⟨oN pL q1 q3 x1 b1,zNb q3 q2 pH b2 x2⟩
            · rintro⟨x1,x2⟩;have:=sp1 (by
                rw[gG,NR,YF a1 sH,zf6 a2 sL];exact⟨zNb q1 q3 pH b1 x2,oN pL q3 q2 x1 b2⟩)
              simp only[gG,NR,zf6 a1 sL,YF a2 sH]at this;exact this.2
          revert wi;generalize (!leB (red (YE t).bI (YE t).den) b.Low&&leB (red (YE t).bI (YE t).den) b.High)=I;cases leB (Pj s l (fZ (g.aW.get q))).1 b.Low<;>cases leB (Pj s l (fZ (g.aW.get q))).2.1 b.High<;>intro wi<;>rw[<- wi]<;>rfl
  have la:=last g.aW.len 0 E.N omY omY;have hs:(fC (YE t)).dM=red (YE t).bI (YE t).den:=rfl;revert la;show _->cond (!leB (red (YE t).bI (YE t).den) b.Low) (zJ4 E E.N s l b g.aW (leB (red (YE t).bI (YE t).den) b.High) ((0:Nat):Int) (fC (YE t)) k) (zJ4 E E.N s l b g.aW false ((0:Nat):Int) (fC (YE t)) k)=_;cases leB (red (YE t).bI (YE t).den) b.Low<;>exact id
def N0:Nat:=1000000000
theorem bV:20000000<N0:=by decide
def D23:=F23 ⟨N0⟩
def zWh:=o23 ⟨N0⟩
def D73:=F73 ⟨N0⟩
def zgI:=o73 ⟨N0⟩
def zAU:=zoq ⟨N0,D73⟩
def zIw:=zRp ⟨N0,D73⟩ zgI
def zAV:=zor ⟨N0,D73⟩
def zIx:=zRr ⟨N0,D73⟩ zgI
def zAW:=zol ⟨N0,D73,zAU,zAV⟩
def zIy:=zRj ⟨N0,D73,zAU,zAV⟩ zgI zIw zIx
def D61:=F61 ⟨N0,D73,zAW⟩
def zWq:=o61 ⟨N0,D73,zAW⟩ zgI zIy
def D86:=F86 ⟨N0⟩
def zDe:=o86 ⟨N0⟩
def D62:=F62 ⟨N0,D86⟩
def zWs:=o62 ⟨N0,D86⟩ zDe
def zlj:=zon ⟨N0⟩
def zuT:=zRm ⟨N0⟩
def zAX:=zoo ⟨N0,D73,zlj⟩
def zIA:=zRn ⟨N0,D73,zlj⟩ zgI zuT
def D85:=F85 ⟨N0,zAX⟩
def zWu:=o85 ⟨N0,zAX⟩ zIA
def D26:=F26 ⟨N0,D61,D62,D85⟩
def zWv:=o26 ⟨N0,D61,D62,D85⟩ zWq zWs zWu
def D87:=F87 ⟨N0⟩
def zD8:=o87 ⟨N0⟩
def zAY:=zom ⟨N0⟩
def zIB:=zRl ⟨N0⟩
def D75:=F75 ⟨N0,zAY⟩
def zDJ:=o75 ⟨N0,zAY⟩ zIB
def zsd:=zre ⟨N0⟩
def zIC:=zUm ⟨N0⟩
def D65:=F65 ⟨N0,D75⟩
def zD9:=o65 ⟨N0,D75⟩ zDJ
def zdi:=zpO ⟨N0⟩
def zgF:=zTe ⟨N0⟩
def zlk:=zqF ⟨N0⟩
def zuU:=zTY ⟨N0⟩
def zAZ:=zrt ⟨N0⟩
def zID:=zUx ⟨N0⟩
def zll:=zpq ⟨N0⟩
def zuV:=zSM ⟨N0⟩
def D71:=F71 ⟨N0,zll⟩
def zvC:=o71 ⟨N0,zll⟩ zuV
def D55:=F55 ⟨N0,D71⟩
def zNW:=o55 ⟨N0,D71⟩ zvC
def zA1:=zq7 ⟨N0,zAZ,D55⟩
def zIE:=zUk ⟨N0,zAZ,D55⟩ zID zNW
def zlm:=zqa ⟨N0⟩
def zuW:=zTy ⟨N0⟩
def zA2:=zpl ⟨N0,zlm⟩
def zIF:=zSJ ⟨N0,zlm⟩ zuW
def D57:=F57 ⟨N0,zA2⟩
def zNX:=o57 ⟨N0,zA2⟩ zIF
def zA3:=zru ⟨N0,zlm⟩
def zIG:=zUy ⟨N0,zlm⟩ zuW
def D56:=F56 ⟨N0⟩
def zBO:=o56 ⟨N0⟩
def zA4:=zra ⟨N0,zA3,D56⟩
def zIH:=zUl ⟨N0,zA3,D56⟩ zIG zBO
def zfW:=zmd ⟨N0,zA1,D57,zA4⟩
def zs6:=zTZ ⟨N0,zA1,D57,zA4⟩ zIE zNX zIH
def zA5:=zpL ⟨N0,zdi,zlk,zfW⟩
def zII:=zS8 ⟨N0,zdi,zlk,zfW⟩ zgF zuU zs6
def zA6:=zpN ⟨N0⟩
def zIJ:=zTc ⟨N0⟩
def D74:=F74 ⟨N0⟩
def zOM:=o74 ⟨N0⟩
def zA7:=zpM ⟨N0,D74⟩
def zIK:=zTa ⟨N0,D74⟩ zOM
def D90:=F90 ⟨N0,zA6,zA7⟩
def zOO:=o90 ⟨N0,zA6,zA7⟩ zIJ zIK
def zfm:=zqL ⟨N0,D65,zA5,D90⟩
def zuX:=zT2 ⟨N0,D65,zA5,D90⟩ zD9 zII zOO
def za0:Nat→(au×(Sl bF)×af×Int)×Sl af→ae (Sl af)
  | 0=>λ_=>.no
  | n+1=>zqJ ⟨N0,D87,D75,zsd,zfm,(za0 n)⟩
theorem zuY:∀n,gz aH 195 (.grow 43 3 56 (ae.unW (za0 n)))
  | 0=>λw h base az vs v n get m lM hh=>by
    obtain⟨_,h2⟩:=ae.chk_o hh;cases h2
  | n+1=>zT0 ⟨N0,D87,D75,zsd,zfm,(za0 n)⟩ zD8 zDJ zIC zuX (zuY n)
def zA8:=zpU ⟨N0,(za0 30)⟩
def zIL:=zTj ⟨N0,(za0 30)⟩ (zuY 30)
def D76:=F76 ⟨N0,zll,D71⟩
def zOP:=o76 ⟨N0,zll,D71⟩ zuV zvC
def zIM:=zpP ⟨N0,zdi,zlk,D71,zfW,D76,D56⟩
def zIN:=zTf ⟨N0,zdi,zlk,D71,zfW,D76,D56⟩ zgF zuU zvC zs6 zOP zBO
def zIO:=zpR ⟨N0⟩
def zIP:=zTh ⟨N0⟩
def zA9:=zpG ⟨N0⟩
def zIQ:=zS2 ⟨N0⟩
def D77:=F77 ⟨N0,zA9,zlj⟩
def zOQ:=o77 ⟨N0,zA9,zlj⟩ zIQ zuT
def D91:=F91 ⟨N0,D65,D87,zdi,zIM,zIO,D86,D77⟩
theorem zWw:Ok aH 91 (ae.un D91):=o91 _ zD9 zD8 zgF zIN zIP zDe zOQ
def zBa:=zpW ⟨N0,zfm,D91⟩
def zIR:=zTk ⟨N0,zfm,D91⟩ zuX zWw
def D94:=F94 ⟨N0,zA8,zBa⟩
def zOS:=o94 ⟨N0,zA8,zBa⟩ zIL zIR
def D53:=F53 ⟨N0⟩
def zNY:=o53 ⟨N0⟩
def D38:=F38 ⟨N0⟩
def zM6:=o38 ⟨N0⟩
def zBb:=zpJ ⟨N0,D38⟩
def zIS:=zS6 ⟨N0,D38⟩ zM6
def D88:=F88 ⟨N0,D94,D53,zBb⟩
def zWy:=o88 ⟨N0,D94,D53,zBb⟩ zOS zNY zIS
def D28:=F28 ⟨N0,D88⟩
def zWz:=o28 ⟨N0,D88⟩ zWy
def D17:=F17 ⟨N0,D23,D26,D28⟩
def z8s:=o17 ⟨N0,D23,D26,D28⟩ zWh zWv zWz
def D19:Unit->ae Bool:=λ_=>.ok true
theorem zWj:Q19 D19:=rfl
theorem zWk:Ok aH 19 (ae.un D19):=λargs rs hr w h0 vs jK hw=>by
 obtain⟨h1,h2⟩:=ae.chk_o hr;cases args with
 | nil =>
  cases ae.ok_o h2;exact(zRa.all []).fn 19 [] _ k19 w h0 vs jK hw
 | cons=>cases h1
def D18:=F18 ⟨N0⟩
def ZdI:=o18 ⟨N0⟩
def D34:=F34 ⟨N0⟩
def z8Q:=o34 ⟨N0⟩
def z2h:=zYE ⟨N0,D86,D71⟩
def z8R:=ZdV ⟨N0,D86,D71⟩ zDe zvC
def D43:=F43 ⟨N0,D34,z2h,D56⟩
def Zd7:=o43 ⟨N0,D34,z2h,D56⟩ z8Q z8R zBO
def D96:=F96 ⟨N0⟩
def z1f:=o96 ⟨N0⟩
def zmH:=zoy ⟨N0⟩
def zz6:=zRD ⟨N0⟩
def z8L:=zYA ⟨N0,zmH⟩
def z8M:=ZdR ⟨N0,zmH⟩ zz6
def z8N:=zYC ⟨N0⟩
def z8O:=ZdT ⟨N0⟩
def BO:=zoF ⟨N0⟩
def ND:=zRJ ⟨N0⟩
def zla:=zoI ⟨N0,BO⟩
def zuI:=zRM ⟨N0,BO⟩ ND
def zz0:=zoU ⟨N0,BO,zla⟩
def zHz:=zRT ⟨N0,BO,zla⟩ ND zuI
def zz1:=zoP ⟨N0⟩
def zHA:=zRP ⟨N0⟩
def zz2:=zoQ ⟨N0,BO⟩
def zHB:=zRQ ⟨N0,BO⟩ ND
def zz3:=zoS ⟨N0⟩
def zHC:=zRR ⟨N0⟩
def zz4:=zoJ ⟨N0,BO,zz0,zz1,zz2,zz3⟩
def zHD:=zRO ⟨N0,BO,zz0,zz1,zz2,zz3⟩ ND zHz zHA zHB zHC
def Ud:=zoG ⟨N0,zz4,BO⟩
def zc1:=zRK ⟨N0,zz4,BO⟩ zHD ND
def zz5:=zow ⟨N0,Ud⟩
def zHE:=zRB ⟨N0,Ud⟩ zc1
def D60:=F60 ⟨N0,zz5,zmH⟩
def zWm:=o60 ⟨N0,zz5,zmH⟩ zHE zz6
def Ue:=zoD ⟨N0,BO⟩
def zc2:=zRI ⟨N0,BO⟩ ND
def zlb:=zoW ⟨N0,Ud,Ue⟩
def zuJ:=zRV ⟨N0,Ud,Ue⟩ zc1 zc2
def zz7:=zoA ⟨N0,zlb⟩
def zHF:=zRE ⟨N0,zlb⟩ zuJ
def zz8:=zo0 ⟨N0⟩
def zHG:=zRX ⟨N0⟩
def zz9:=zxz ⟨N0⟩
def zHH:=zR0 ⟨N0⟩
def zAa:=zo1 ⟨N0,zz9⟩
def zHI:=zRY ⟨N0,zz9⟩ zHH
def zAb:=zoY ⟨N0,zz8,zAa⟩
def zHJ:=zRW ⟨N0,zz8,zAa⟩ zHG zHI
def zAc:=zoC ⟨N0,zlb,Ue,zAb⟩
def zHK:=zRG ⟨N0,zlb,Ue,zAb⟩ zuJ zc2 zHJ
def D78:=F78 ⟨N0,D60,zz7,zAc⟩
def zLd:=o78 ⟨N0,D60,zz7,zAc⟩ zWm zHF zHK
def zAd:=zql ⟨N0⟩
def zHL:=zTH ⟨N0⟩
def zAe:=zps ⟨N0,zAd⟩
def zHM:=zSN ⟨N0,zAd⟩ zHL
def zAf:=zqq ⟨N0⟩
def zHN:=zTL ⟨N0⟩
def zAg:=zqA ⟨N0⟩
def zHO:=zTS ⟨N0⟩
def XY:=Eh ⟨N0,zAf⟩
def ze1:=zka ⟨N0,zAf⟩ zHN
def XZ:=Ei ⟨N0,zAg⟩
def ze2:=zkc ⟨N0,zAg⟩ zHO
def ze3:=ae.two XY XZ
theorem zuK:Ok aH 210 (ae.un ze3):=wV ze1 ze2
def X0:=D7 ⟨N0,ze3⟩
def ze4:=zjS ⟨N0,ze3⟩ zuK
def X4:=Ea ⟨N0,ze3⟩
def ze5:=zjU ⟨N0,ze3⟩ zuK
def ze6:=ae.two X0 X4
theorem zuL:Ok aH 179 (ae.un ze6):=wV ze4 ze5
def zAh:=zpd ⟨N0,Ud,Ue⟩
def zHP:=o111 ⟨N0,Ud,Ue⟩ zc1 zc2
def zAi:=zpf ⟨N0⟩
def zHQ:=zSE ⟨N0⟩
def D50:=F50 ⟨N0,zAh,Ue,zAi⟩
def zNT:=o50 ⟨N0,zAh,Ue,zAi⟩ zHP zc2 zHQ
def D93:=F93 ⟨N0,D50⟩
def zNV:=o93 ⟨N0,D50⟩ zNT
def zgv:=zos ⟨N0⟩
def zlT:=zRv ⟨N0⟩
def Uf:=zp0 ⟨N0⟩
def zc3 [aJ]:=zTp ⟨N0⟩
def zAj:=zpY ⟨N0,Uf⟩
def zHR:=zTn ⟨N0,Uf⟩ zc3
def zgw:=zpc ⟨N0,zAj,Uf⟩
def zs3:=zSB ⟨N0,zAj,Uf⟩ zHR zc3
def zAk:=zqX ⟨N0⟩
def zHS [aJ]:=zUe ⟨N0⟩
def zAl:=zrk ⟨N0,Uf⟩
def zHT [aJ]:=zUq ⟨N0,Uf⟩ zc3
def zAm:=zri ⟨N0,zAl⟩
def zHU [aJ]:=zUp ⟨N0,zAl⟩ zHT
def zAn:=zrE ⟨N0⟩
def zHV [aJ]:=zUG ⟨N0⟩
def X5:=Ej ⟨N0,zAk⟩
def ze7 [aJ]:=zki ⟨N0,zAk⟩ zHS
def X6:=Em ⟨N0,zAm⟩
def ze8 [aJ]:=zkk ⟨N0,zAm⟩ zHU
def X7:=En ⟨N0,zAn⟩
def ze9 [aJ]:=zkm ⟨N0,zAn⟩ zHV
def X8:=ae.two X5 (ae.two X6 X7)
theorem zlc [aJ]:Ok aH 238 (ae.un X8):=wV ze7 (wV ze8 ze9)
def X9:=Ec ⟨N0,X8⟩
def zfa [aJ]:=zj4 ⟨N0,X8⟩ zlc
def Ya:=Ee ⟨N0,X8⟩
def zfb [aJ]:=zj6 ⟨N0,X8⟩ zlc
def Yb:=Eg ⟨N0,X8⟩
def zfc [aJ]:=zj8 ⟨N0,X8⟩ zlc
def Yc:=ae.two X9 (ae.two Ya Yb)
theorem zld [aJ]:Ok aH 206 (ae.un Yc):=wV zfa (wV zfb zfc)
def NE:=zqc ⟨N0,Yc⟩
def Yd:=zTz ⟨N0,Yc⟩ zld
def zAo:=zq0 ⟨N0⟩
def zHW [aJ]:=zUg ⟨N0⟩
def NF:=zqk ⟨N0,zAo⟩
def Ye [aJ]:=zTF ⟨N0,zAo⟩ zHW
def zle:=zqN ⟨N0,NF⟩
def zuM:=zT4 ⟨N0,NF⟩ Ye
def zAp:=zqP ⟨N0,Yc⟩
def zHX:=zT5 ⟨N0,Yc⟩ zld
def zAq:=zrg ⟨N0⟩
def zHY:=zUo ⟨N0⟩
def zAr:=zyJ ⟨N0,zAq⟩
def zHZ:=zUn ⟨N0,zAq⟩ zHY
def zgx:=zp1 ⟨N0,NE,zle,zAp,zAr⟩
def zs4:=zTr ⟨N0,NE,zle,zAp,zAr⟩ Yd zuM zHX zHZ
def zlf:=zqQ ⟨N0⟩
def zuN:=zT7 ⟨N0⟩
def zgy:=zp4 ⟨N0,zlf,NE⟩
def zs5:=zTu ⟨N0,zlf,NE⟩ zuN Yd
def zAs:=zpn ⟨N0⟩
def zH0:=zSK ⟨N0⟩
def zAt:=zp6 ⟨N0⟩
def zH1:=zTv ⟨N0⟩
def Yf:=DK ⟨N0,zgw,zgx,zgy,NE,zAs⟩
def zfd:=zjt ⟨N0,zgw,zgx,zgy,NE,zAs⟩ zs3 zs4 zs5 Yd zH0
def Yg:=DN ⟨N0,zgw,zgx,zgy,NE,zAt⟩
def zfe:=zjv ⟨N0,zgw,zgx,zgy,NE,zAt⟩ zs3 zs4 zs5 Yd zH1
def zbj:=ae.two Yf Yg
theorem zr9:Ok aH 117 (ae.un zbj):=wV zfd zfe
def zAu:=zrC ⟨N0,Yc⟩
def zH2 [aJ]:=zUF ⟨N0,Yc⟩ zld
def zlg:=zrq ⟨N0⟩
def zuO [aJ]:=zUv ⟨N0⟩
def zlh:=zqZ ⟨N0,zlg⟩
def zuP [aJ]:=zUf ⟨N0,zlg⟩ zuO
def zaY:=zqg ⟨N0,zlh⟩
def zli [aJ]:=zTB ⟨N0,zlh⟩ zuP
def zAv:=zrz ⟨N0,zAu,NF,zaY⟩
def zH3 [aJ]:=zUD ⟨N0,zAu,NF,zaY⟩ zH2 Ye zli
def zAw:=zrx ⟨N0,zAv⟩
def zH4:=zUz ⟨N0,zAv⟩ ziV ziT (@zH3 ⟨1⟩)
def zAx:=zkn ⟨N0,zbj,zAw,zle⟩
def zH5:=zUw ⟨N0,zbj,zAw,zle⟩ zr9 zH4 zuM
def zAy:=zq2 ⟨N0,zAx⟩
def zH6:=zUh ⟨N0,zAx⟩ zH5
def zsa:=zqs ⟨N0,D93,zgv,zAy⟩
def zH7:=zTN ⟨N0,D93,zgv,zAy⟩ zNV zlT zH6
def zti:=zou ⟨N0⟩
def zDc:=zRz ⟨N0⟩
def zmI:=zxm ⟨N0,zti⟩
def zDU:=zRx ⟨N0,zti⟩ zDc
def zaZ:Nat→af×Int×Bc 143 (Pt aU)×Bc 38 Int×Bw 30 43 3 56 af×Bs 255 178 2 4×Unit→ae ((Bool×Int)×(Unit×Unit×(Pt aU)×Int×Sl af×Unit×Unit))
  | 0=>λ_=>.no
  | n+1=>zqn ⟨N0,ze6,zsa,zmI,(zaZ n)⟩
theorem zuQ:∀n,rJ aH 178 (ae.unP 254 (zaZ n))
  | 0=>λxs ys rs h=>by
    obtain⟨_,h2⟩:=ae.chk_o h;cases h2
  | n+1=>zTJ ⟨N0,ze6,zsa,zmI,(zaZ n)⟩ zuL zH7 zDU zgs (zuQ n)
def zAz:=zpt ⟨N0,(zaZ 30)⟩
def zH8:=zSQ ⟨N0,(zaZ 30)⟩ (zuQ 30)
def zAA:=zqU ⟨N0⟩
def zH9:=zUa ⟨N0⟩
def zAB:=zqS ⟨N0,zAA⟩
def zIa:=zT9 ⟨N0,zAA⟩ zH9
def zAC:=zqe ⟨N0,zaY⟩
def zIb:=zTA ⟨N0,zaY⟩ zli
def zAD:=zqi ⟨N0,zaY⟩
def zIc:=zTD ⟨N0,zaY⟩ zli
def Yh:=DX ⟨N0,zAC⟩
def zff:=zjM ⟨N0,zAC⟩ zIb
def Yi:=DY ⟨N0,zAD⟩
def zfg:=zjO ⟨N0,zAD⟩ zIc
def zfh:=ae.two Yh Yi
theorem zuR:Ok aH 168 (ae.un zfh):=wV zff zfg
def zAE:=zpp ⟨N0⟩
def zId:=zSL ⟨N0⟩
def Yj:=DR ⟨N0,zAB,zfh,NF⟩
def zfi:=zjx ⟨N0,zAB,zfh,NF⟩ zIa zuR Ye
def Yk:=DT ⟨N0,zAE,zfh,NF⟩
def zfj:=zjz ⟨N0,zAE,zfh,NF⟩ zId zuR Ye
def zlX:=ae.two Yj Yk
theorem zDd:Ok aH 119 (ae.un zlX):=wV zfi zfj
def zAF:=zp8 ⟨N0,NE,zlf,NF,zlX⟩
def zIe:=zTx ⟨N0,NE,zlf,NF,zlX⟩ Yd zuN Ye zDd
def zDH:=zph ⟨N0,Uf,zbj,zAF⟩
def zDV:=zSG ⟨N0,Uf,zbj,zAF⟩ zc3 zr9 zIe
def zsb:=zqC ⟨N0⟩
def zuS:=zTU ⟨N0⟩
def zIf:=zqE ⟨N0,zsb⟩
def zIg:=zTW ⟨N0,zsb⟩ zuS
def zAG:=zrm ⟨N0,zlg⟩
def zIh:=zUs ⟨N0,zlg⟩ zuO
def zAH:=zro ⟨N0⟩
def zIi:=zUt ⟨N0⟩
def zAI:=zqV ⟨N0,zAG,zAH⟩
def zIj:=zUd ⟨N0,zAG,zAH⟩ zIh zIi
def zAJ:=zyz ⟨N0,zAI⟩
def zIk:=zUb ⟨N0,zAI⟩ zIj
def zDI:=zpi ⟨N0,Ud,BO,zla,zAJ⟩
def zDW:=zSH ⟨N0,Ud,BO,zla,zAJ⟩ zc1 ND zuI zIk
def zmJ:=zpH ⟨N0,zgv,ze6,zDH,zsb,zIf,zDI⟩
theorem zDX:Ok aH 141 (ae.un zmJ):=zS4 _ zlT zuL zDV zuS zIg zDW
def zAK:=zpv ⟨N0,zmJ⟩
def zIl:=zSR ⟨N0,zmJ⟩ zDX
def zAL:=zpS ⟨N0⟩
def zIm:=zTi ⟨N0⟩
def D92:=F92 ⟨N0,zAL⟩
def zM4:=o92 ⟨N0,zAL⟩ zIm
def zAM:=zpB ⟨N0,D92⟩
def zIn:=zSX ⟨N0,D92⟩ zM4
def D97:=F97 ⟨N0,zAM⟩
def zWo:=o97 ⟨N0,zAM⟩ zIn
def zAN:=zpz ⟨N0,D97⟩
def zIo:=zSV ⟨N0,D97⟩ zWo
def zAO:=zpx ⟨N0,zAN⟩
def zIp:=zST ⟨N0,zAN⟩ zIo
def Yl:=DU ⟨N0,zAK⟩
def zfk:=zjC ⟨N0,zAK⟩ zIl
def Ym:=DW ⟨N0,zAO⟩
def zfl:=zjE ⟨N0,zAO⟩ zIp
def zsc:=ae.two Yl Ym
theorem zIq:gz aH 128 (.mkv 43 3 56 (ae.unV zsc)):=zoc zfk zfl
def zAP:=zq4 ⟨N0⟩
def zIr [aJ]:=zUi ⟨N0⟩
def zAQ:=zqw ⟨N0,zAP⟩
def zIs [aJ]:=zTQ ⟨N0,zAP⟩ zIr
def zAR:=zqy ⟨N0,zlh⟩
def zIt [aJ]:=zTR ⟨N0,zlh⟩ zuP
def zAS:=zqu ⟨N0⟩
def zIu [aJ]:=zTO ⟨N0⟩
def zAT:=zpD ⟨N0,zAQ,zAR,zAS⟩
def zIv [aJ]:=zSZ ⟨N0,zAQ,zAR,zAS⟩ zIs zIt zIu
def D72:=F72 ⟨N0,D78,zAe,zAz,zsc,zAT⟩
def zLe:=o72 ⟨N0,D78,zAe,zAz,zsc,zAT⟩ zLd zHM zH8 zIq ziU (@zIv ⟨1⟩)
def D58:=F58 ⟨N0,zbj,zlX⟩
def ZbF:=o58 ⟨N0,zbj,zlX⟩ zr9 zDd
def D42:=F42 ⟨N0,D96,z8L,z8N,D72,zgv,D58⟩
theorem Zd6:Ok aH 42 (ae.un D42):=o42 _ z1f z8M z8O zLe zlT ZbF
def D20:=F20 ⟨N0,D72⟩
def z2a:=o20 ⟨N0,D72⟩ zLe
def zW0:=zNd ⟨N0⟩
def z1k:=z8X ⟨N0⟩
def D79:=F79 ⟨N0,zmH,zti,D96⟩
def ZbV:=o79 ⟨N0,zmH,zti,D96⟩ zz6 zDc z1f
def D47:=F47 ⟨N0,zW0,D78,D79,zgv⟩
def Zeq:=o47 ⟨N0,zW0,D78,D79,zgv⟩ z1k zLd ZbV zlT
def D13:=F13 ⟨N0,D17,D19,D18,D43,D42,D20,D55,D56,D47,D57,D58⟩
theorem Zjs:Ok aH 13 (ae.un D13):=o13 _ z8s zWk ZdI Zd7 Zd6 z2a zNW zBO Zeq zNX ZbF
theorem zWA:Q23 D23:=s23 bV
theorem zgJ:BX D73:=s73
theorem zJO:zxA zAU:=zR3 zgJ
theorem zJP:zxB zAV:=zR4 bV zgJ
theorem zJQ:zxC zAW:=zR5 bV zgJ zJO zJP
theorem zWD:QSe D61:=s61 bV zgJ zJQ
theorem zDh:BX D86:=s86
theorem zWE:Q62 D62:=s62 zDh
theorem zva:zo5 zlj:=zSe bV
theorem zJR:zxH zAX:=zSf bV zgJ zva
theorem zWF:Q85 D85:=s85 bV zJR
theorem zWG:Q26 D26:=s26 zWD zWE zWF
theorem zEa:Q87 D87:=s87 bV
theorem zJS:zxJ zAY:=zSj bV
theorem zDK:Q75 D75:=s75 zJS
theorem zJT:zzy zsd:=zVK
theorem zEb:Q65 D65:=s65 bV zDK
theorem zgG:zgH zdi:=zVf bV
theorem zB6:zuw zlk:=zVg bV
theorem zJU:zza zAZ:=zVj
theorem zvb:zaP zll:=zUI bV
theorem zBP:IV D71:=s71 zvb
theorem zN1:Q55 D55:=s55 zBP
theorem zB7:zuy zA1:=zVm bV zJU zN1
theorem zvc:zrO zlm:=zVh
theorem zJV:zy9 zA2:=zVi zvc
theorem zKU:Q57 D57:=s57 bV zJV
theorem zJW:zze zA3:=zVn bV zvc
theorem zBQ:Q56 D56:=s56
theorem zB8:zuz zA4:=zVo zJW zBQ
theorem zB9:zuA zfW:=zVp bV zB7 zKU zB8
theorem zJX:zzf zA5:=zVq zgG zB6 zB9
theorem zJY:zzs zA6:=zVD bV
theorem zOT:Q74 D74:=s74
theorem zJZ:zzq zA7:=zVB bV zOT
theorem zOU:Q90 D90:=s90 zJY zJZ
theorem zvd:zrW zfm:=zVF zEb zJX zOU
theorem zve:∀n,QW n (za0 n)
  | 0=>λs l x t c i w he hv hc ht hf=>absurd hf (by have:=hv.le;omega)
  | n+1=>zVL (E:=⟨N0,D87,D75,zsd,zfm,(za0 n)⟩) bV zEa zDK zJT zvd (zve n)
theorem zJ0:zzz zA8:=zVM (zve 30)
theorem zOV:Q76 D76:=s76 zvb zBP
theorem z03:zWN zIM:=z8h bV zgG zB6 zBP zB9 zOV zBQ
theorem z04:zWO zIO:=z8i
theorem zJ1:zzT zA9:=zWa
theorem zOW:Q77 D77:=s77 bV zJ1 zva
theorem z8v:Q91 D91:=s91 bV zEb zEa zgG z03 z04 zDh zOW
theorem z05:zWP zBa:=z8k zvd z8v
theorem z8w:Q94 D94:=s94 bV zJ0 z05
theorem zN3:Q53 D53:=s53 bV
theorem zM8:zc0 D38:=s38 bV
theorem z06:zWQ zBb:=z8l zM8
theorem z8x:Q88 D88:=s88 bV z8w zN3 z06
theorem z8y:Q28 D28:=s28 z8x
theorem z8z:Q17 D17:=s17 zWA zWG z8y
theorem ZdJ:Q18 D18:=s18
theorem z8U:QVw D34:=s34
theorem z8V:zLi z2h:=ZdY zDh zBP
theorem Zea:Q43 D43:=s43 z8U z8V zBQ
theorem z1g:QVw D96:=s96
theorem zBc:BX zmH:=zR1
theorem z8S:zLi z8L:=ZdW bV zBc
theorem z8T:Q56 z8N:=ZdX
theorem NG:BX BO:=zR2
theorem zuZ:zo4 zla:=zR6 NG
theorem zIT:zxD zz0:=zR7 NG zuZ
theorem zIU:zeu zz1:=zR8
theorem zIV:zxE zz2:=zSa bV NG
theorem zIW:zeu zz3:=zR9
theorem zIX:zxF zz4:=zSb bV NG zIT zIU zIV zIW
theorem zc4:QSe Ud:=zSc bV zIX NG
theorem zIY:zxG zz5:=zSd zc4
theorem zWB:Q60 D60:=s60 zIY zBc
theorem zc5:zev Ue:=zSg bV NG
theorem zu0:zo6 zlb:=zSh zc4 zc5
theorem zIZ:zxI zz7:=zSi zu0
theorem zI0:zxM zz8:=zSn
theorem zI1:zxK zz9:=zSk bV
theorem zI2:zxL zAa:=zSl bV zI1
theorem zI3:zxN zAb:=zSo zI0 zI2
theorem zI4:zxO zAc:=zSp zu0 zc5 zI3
theorem zLg:Q78 D78:=s78 bV zWB zIZ zI4
theorem zI5:zzQ zAd:=zV8 bV
theorem zI6:zuF zAe:=zV9 zI5
theorem zI7:zzu zAf:=zVG
theorem zfn:QUx .inl XY:=zkZ bV zI7
theorem zI8:zzv zAg:=zVH
theorem zfo:QUx .inr XZ:=zk0 bV zI8
theorem zu1:zrY ze3:=zVI zfn zfo
theorem zfp:QUa .inl X0:=zk1 zu1
theorem zfq:QUa .inr X4:=zk2 zu1
theorem zu3:zrZ ze6:=zVJ zfp zfq
theorem zI9:zzr zAh:=zVC bV zc4 zc5
theorem zJa:zzp zAi:=zVA
theorem zNZ:Q50 D50:=s50 bV zI9 zc5 zJa
theorem zN0:Q93 D93:=s93 bV zNZ
theorem zlU:zjk zgv:=zSu bV
theorem zc6:BX Uf:=zUK
theorem zJb:zyR zAj:=zUN zc6
theorem zs7:zmQ zgw:=zUO bV zJb zc6
theorem zJc:zyV zAk:=zUS
theorem zfr:QIx .inl X5:=zkt bV zJc
theorem zJd:zyS zAl:=zUP zc6
theorem zJe:zyT zAm:=zUQ zJd
theorem zfs:QIx (λc=>.inr (.inl c)) X6:=zku bV zJe
theorem zJf:zyU zAn:=zUR
theorem zft:QIx (λc=>.inr (.inr c)) X7:=zkv bV zJf
theorem zln:zks X8:=zUT zfr zfs zft
theorem zfu:OH .inl X9:=zkw zln
theorem zfv:OH (λc=>.inr (.inl c)) Ya:=zkx zln
theorem zfw:OH (λc=>.inr (.inr c)) Yb:=zky zln
theorem zlo:Xt Yc:=zUU zfu zfv zfw
theorem Yn:zaQ NE:=zUV zlo
theorem zJg:zyP zAq:=zUL
theorem zJh:zyQ zAr:=zUM bV zJg
theorem zJi:zaP zAo:=zUH bV
theorem Yo:IV NF:=zUJ zJi
theorem zu4:zrH zle:=zUZ Yo
theorem zJj:zyW zAp:=zUW zlo
theorem zs8:zmR zgx:=zU0 Yn zJh zu4 zJj
theorem zu5:zrG zlf:=zUY bV
theorem zs9:zmS zgy:=zU1 zu5 Yn
theorem zJk:zyY zAs:=zU2
theorem zfx:QOp .inl Yf:=zkB zs7 zs8 zs9 Yn zJk
theorem zJl:zyZ zAt:=zU3
theorem zfy:QOp .inr Yg:=zkC zs7 zs8 zs9 Yn zJl
theorem zse:zmB zbj:=zU5 zfx zfy
theorem zJm:zyX zAu:=zUX zlo
theorem zu6:zrL zlg:=zU6
theorem zu7:zaT zlh:=zU7 zu6
theorem zlp:zkF zaY:=zU9 zu7
theorem zJn:zy4 zAv:=zVa zJm Yo zlp
theorem zJo:zy5 zAw:=zVb zJn
theorem zJp:zy6 zAx:=zVd bV zse zJo zu4
theorem zJq:zy7 zAy:=zVe zJp
theorem zJr:zzt zsa:=zVE zN0 zlU zJq
theorem zDf:zvx zti:=zSt
theorem zDY:zvL zmI:=zSw bV zDf
theorem zlq:∀n,QMp n (zaZ n)
  | 0=>λs l r x t c i w he hv hc ht hf=>absurd hf (by have:=hv.le;omega)
  | n+1=>zHk (E:=⟨N0,ze6,zsa,zmI,(zaZ n)⟩) zu3 zJr zDY (zlq n)
theorem zBd:zk4 zAz:=zHl (zlq 30)
theorem zJs:zzg zAA:=zVr
theorem zJt:zzh zAB:=zVs zJs
theorem zJu:zzi zAC:=zVt zlp
theorem zfz:QEx .inl Yh:=zkU bV zJu
theorem zJv:zzj zAD:=zVu zlp
theorem zfA:QEx .inr Yi:=zkV bV zJv
theorem zu8:zrV zfh:=zVv zfz zfA
theorem zfB:QBd .inl Yj:=zkW bV zJt zu8 Yo
theorem zJw:zzm zAE:=zVw
theorem zfC:QBd .inr Yk:=zkX bV zJw zu8 Yo
theorem zDg:zvz zlX:=zVx zfB zfC
theorem zJx:zzo zAF:=zVy Yn zu5 Yo zDg
theorem zDZ:zvM zDH:=zVz zc6 zse zJx
theorem zu9:zr4 zsb:=zVS
theorem zJy:zzG zIf:=zVT zu9
theorem zJz:zzB zAG:=zVO zu6
theorem zJA:zzA zAH:=zVN
theorem zJB:zzD zAI:=zVP bV zJz zJA
theorem zJC:zzE zAJ:=zVQ bV zJB
theorem zD0:zvO zDI:=zVR zc4 NG zuZ zJC
theorem zD1:zvP zmJ:=zVU bV zlU zu3 zDZ zu9 zJy zD0
theorem zJD:zzH zAK:=zVV zD1
theorem zfD:QFi .inl Yl:=zk7 bV zJD
theorem zJE:zzI zAL:=zVW bV
theorem zM7:Q92 D92:=s92 bV zJE
theorem zJF:zzJ zAM:=zVX zM7
theorem zWC:Q97 D97:=s97 bV zJF
theorem zJG:zzK zAN:=zVZ zWC
theorem zJH:zzL zAO:=zV1 zJG
theorem zfE:QFi .inr Ym:=zk8 bV zJH
theorem zJI:zuD zsc:=zV2 zfD zfE
theorem zJJ:zzN zAP:=zV3
theorem zJK:zaT zAQ:=zV4 zJJ
theorem zJL:zc0 zAR:=zV5 bV zu7
theorem zJM:zzO zAS:=zV6 bV
theorem zJN:zuE zAT:=zV7 zJK zJL zJM
theorem z07:Q72 D72:=s72 zLg zI6 (zM9 zBd) zJI zJN
theorem ZbG:Q58 D58:=s58 zse zDg
theorem Zjt:Q42 D42:=s42 bV z1g z8S z8T z07 zlU ZbG
theorem z8A:Q20 D20:=s20 z07
theorem z1l:zWW zW0:=z8Z
theorem ZbX:Q79 D79:=s79 bV zBc zDf z1g
theorem Zer:Q47 D47:=s47 z1l zLg ZbX zlU
theorem Zju:Q13 D13:=s13 bV z8z zWj ZdJ Zea Zjt z8A zN1 zBQ Zer zKU ZbG
theorem zWL{δ ρ:Type}[dG δ][dG ρ]{F:δ->ae ρ}{a:δ}{r:ρ}(hc:dG.ck (α:=δ) (dG.enc a)=true)(hd:dG.dec (dG.enc a)=a)(h:F a=.ok r):(ae.un F (dG.enc a)).o=some (dG.enc r):=by
 unfold ae.un;rw[hc,hd,h];rfl
end Go.Proofs
