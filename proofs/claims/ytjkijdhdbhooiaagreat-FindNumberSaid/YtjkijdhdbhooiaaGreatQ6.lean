/- Part 6: framework, functions, plain laws. -/
import Derived.Test.YtjkijdhdbhooiaaGreatQ5
set_option linter.all false
noncomputable section
namespace Go.Proofs
open Go Go.Pm
set_option maxRecDepth 100000
theorem wI(g:Sl ay){i:Nat}(h:i<(jD g).length):(jg g).cO.get i=(jD g)[i]:=by
 have:=BJ (jD g) Jl i (jD g)[i] (yC h);rw[show(Jl:Sl straight).len+i=i by show 0+i=i;omega]at this;exact this
theorem zmb(g:Sl ay):∀(r acc:List straight)(F:List Int->Option (List Int)),(Ic g r acc F).length<=acc.length+r.length:=by
 intro r
 induction r with
 | nil=>intro acc F;exact jP _
 | cons y r ih =>
  intro acc F;have a:=ih (acc++[y]) (oI (ui (fA y)) [1] F);have b:=ih acc F;rw[Py]at a;simp only[qp,Wj]at a ⊢;simp only[Ic];cases(AZ (F (ui (fA y))) 0 != 0)<;>cases allB g y<;>simp only[Qo,qdQ,dF,dL]<;>omega
theorem KA{g:Sl ay}(G:dh g):(jD g).length<=2304:=by
 unfold jD;cases gy g with
 | true=>exact Ad _
 | false =>
  have a:=zmb g (cst g) [] λ_=>none;have b:=Ky G;rw[dL];simp only[Wj,PK]at a;omega
theorem KC{g:Sl ay}(G:dh g){s:straight}(h:s∈jD g):uj g s:=by
 cases hf:gy g with
 | true=>unfold jD at h;rw[hf]at h;cases h
 | false =>
  obtain⟨a,b⟩:=(UO hf).1 s h;exact⟨a,(Fq G (sO G a)).1 b⟩
abbrev zBJ(C:set->ae (Sl straight)):Prop:=∀g,dh g->∃D:Sl straight,C (jg g)=.ok D/\D.len=(jD g).length/\∀i,i<D.len->yN (D.get i)
theorem zXT{E:zts}(zXU:zBI E.ZV):zBJ (ztt E):=λg G=>by
  have hl:=KA G;have hG:=G.2.2;have len:=Fp g;have cr:∀i,i<(jg g).cO.len->uj g ((jg g).cO.get i):=λi hi=>by
    rw[wI g omY];exact KC G (VP _)
  have ne:∀i j,i<(jg g).cO.len->j<(jg g).cO.len->i≠j->fA ((jg g).cO.get i)≠fA ((jg g).cO.get j):=λi j hi hj Ju e=>by
    rw[wI g omY,wI g omY]at e;cases hf:gy g with
    | true =>
      have:jD g=[]:=by unfold jD;rw[hf];rfl
      rw[this]at len;simp at len;omega
    | false =>
      have P:=(UO hf).2.2;rw[dq9]at P;rcases qdP i j with h|h
      exact P i j omY omY h e;exact P j i omY omY omY e.symm
  obtain⟨hp,l,h1,_,h3⟩:=zwQ (C:=ae.un E.ZV) (caps:=bD.enc (⟨jg g⟩:Pt set)) (ag:=true) (w:=(jg g).cO) (cmp:=zma g) (R:=OI g) omY
    (λi j hi hj=>by
      show(E.ZV ((jg g).cO.get i,(jg g).cO.get j,(⟨jg g⟩:Pt set))).T _=_;rw[zXU _ _ _ (kP G (cr i hi)) (kP G (cr j hj)) (by show g.len<=1000;omega)];rfl)
    (λi j hi hj=>ztM G (cr i hi) (cr j hj)) (λi hi=>ztJ) (λi j hi hj Ju=>ztK G (cr i hi) (cr j hj) (ne i j hi hj Ju)) (λi j _ _ h=>zl5 h)
    (λi j k hi hj hk a b=>zgv G (cr i hi) (cr j hj) (cr k hk) a b)
  have ll:l.length=(jg g).cO.len:=by rw[h1.length_eq,List.length_range]
  refine⟨⟨(jg g).cO.len,soG (ae.un E.ZV) (bD.enc (⟨jg g⟩:Pt set)) true (jg g).cO⟩,ae.ext λk=>?_,len,λi hi=>?_⟩;rw[e249,hp,aX,show room (jg g).cO.len 24=true from dP omY];rfl;have hi:i<(jg g).cO.len:=hi;show yN (soG _ _ _ _ i);rw[h3 i omY];exact kP G (cr _ (KQ.1 (h1.mem_iff.1 (VP _))))
def UR(g:Sl ay):Int:=(Dq g false).2
abbrev zBK(C:Sl ay->ae (Sl Line×Int)):Prop:=∀g:Sl ay,g.len<=1000->∃L,C g=.ok (L,UR g)/\(UR g=0->0<L.len)
theorem zXV{E:zgq}(N:Big E.N)(zbz:ztI E.c117)(zBr:zBJ E.znV)(zbO:ztE E.c198):zBK (zlN E):=λg hl=>by
 have e:∀(A:Type)(k:Sl Line×Int->Option A),(zlN E g).T k=cond ((Dq g false).2 != 0) (k (⟨0,λ_=>default⟩,(Dq g false).2)) ((E.znV (Dq g false).1).T λr2=>Ia E E.N r2 (r2.len:Int) 0 ⟨0,λ_=>⟨⟨0,0⟩,⟨0,0⟩⟩⟩ k):=λA k=>by
  rw[e240,zbz g (.inl ⟨(),()⟩) hl,aX];rfl
 unfold UR;by_cases h0:(Dq g false).2=0;have:xM g=true/\jy g=true/\gy g=false:=by
  unfold Dq at h0;revert h0;cases xM g<;>cases jy g<;>cases gy g<;>simp
 obtain⟨hg,hs,hf⟩:=this;have G:=kS.1 hg;have e1:(Dq g false).1=jg g:=by unfold Dq;rw[hg,hs,hf];rfl
 obtain⟨D,d1,d2,d3⟩:=zBr g G;have dl:D.len<=2304:=by rw[d2];exact KA G
 have key:∃L:Sl Line,L.len=D.len/\∀(A:Type)(k:Sl Line×Int->Option A),Ia E E.N D (D.len:Int) 0 ⟨0,λ_=>⟨⟨0,0⟩,⟨0,0⟩⟩⟩ k=k (L,0):=by
  let acc:Nat->Sl Line:=λn=>Nat.rec ⟨0,λ_=>⟨⟨0,0⟩,⟨0,0⟩⟩⟩ (λi v=>mM v (fA (D.get i))) n;have al:∀n,(acc n).len=n:=λn=>by
   induction n with|zero=>rfl|succ n ih=>show(acc n).len+1=n+1;rw[ih]
  refine⟨acc D.len,al _,λA k=>?_⟩;refine lq (X:=λn i=>Ia E n D (D.len:Int) (i:Int) (acc i) k) (m:=D.len) (λn i hi=>?_) (λn=>?_) _ (by have:=N;omega);rw[zlO,dP omY,dF,bf omY,fO,zbO _ (d3 i hi),aX,bF omY,show room ((acc i).len+1) 32=true from dP (by rw[al];omega)];rfl;rw[zlO,dY omY];rfl
 obtain⟨L,l1,l2⟩:=key;refine⟨L,ae.ext λk=>?_,λ_=>?_⟩;rw[e,h0,e1,d1,aX,l2];rfl;rw [l1,d2];unfold jy at hs;rw[hf,dL,oD]at hs;omega;exact⟨_,ae.ext λk=>by rw[e,show((Dq g false).2 != 0)=true by simpa using h0];rfl,λh=>absurd h h0⟩
abbrev zBL(C:Sl ay->ae (Line×Int)):Prop:=∀g:Sl ay,g.len<=1000->∃l,C g=.ok (l,UR g)
theorem zXW{E:zsX}(zBj:zBK E.zvb):zBL (zsY E):=λg hl=>by
 obtain⟨L,h1,h2⟩:=zBj g hl;by_cases h0:UR g=0;exact⟨_,ae.ext λk=>by rw[e211,h1,aX,h0];show aU (decide ((0:Int)<=0/\0<(L.len:Int))) _=_;rw[bf ⟨qd5 0,by have:=h2 h0;omega⟩];rfl⟩;exact⟨_,ae.ext λk=>by rw[e211,h1,aX];show cond (UR g != 0) _ _=_;rw[show(UR g != 0)=true by simpa using h0];rfl⟩
theorem zBM{g:Sl ay}(G:dh g):(UR g != 5)=jy g:=by
 unfold UR Dq;rw[kS.2 G];cases jy g<;>cases gy g<;>rfl
theorem ztN{g:Sl ay}(h:0<g.len):gy g=dX (λi=>(g.get (i+1)).Z==(g.get 0).Z) (g.len-1):=by
 unfold gy;rw[PN,cZ,cZ];refine⟨λa i hi=>a (i+1) omY,λa i hi=>?_⟩;cases i with|zero=>simp|succ i=>exact a i omY
abbrev zmc(C:Sl ay->ae Bool):Prop:=∀g:Sl ay,0<g.len->g.len<=1000->C g=.ok (gy g)
theorem zXX{E:zgd}(N:Big E.N):zmc (zrM E):=λg h0 h1=>ae.ext λk=>by
 rw[zVO,aX,ztN h0];have:=loopA (L:=λn i=>CV E n g (i+1) k) (p:=λi=>(g.get (i+1)).Z==(g.get 0).Z) (m:=g.len-1) (fin:=k true) (stop:=k false) omY (λn i hi=>by
  show CV E (n+1) g ((i:Int)+1) k=cond _ (CV E n g (aJ ((i:Int)+1)+1) k) _
  rw[zk4,dP omY,dF,bf omY,bf omY,show((i:Int)+1).toNat=i+1 by omega,show(i:Int)+1=((i+1:Nat):Int)by omega,bF omY,
   show aJ ((i+1:Nat):Int)=((i+1:Nat):Int)from aT omY omY]
  rw[show((i+1:Nat):Int)+1=((i+1+1:Nat):Int)by omega];cases h:(g.get (i+1)).Z==(g.get 0).Z<;>simp[bne,h]) (λn=>by
  show CV E (n+1) g (((g.len-1:Nat):Int)+1) k=_;rw[zk4,dY omY];rfl) E.N (by have:=N;omega)
 rw[show(1:Int)=0+1 from rfl];refine this.trans ?_;cases dX (λi=>(g.get (i+1)).Z==(g.get 0).Z) (g.len-1)<;>rfl
theorem zb1(g:Sl ay):gz g 1=⟨(g.get 0).Low,(g.get 0).High⟩:=by
 show(⟨_,_⟩:bW)=_;simp only[gz,gt_iff_lt,Wn,qje]
abbrev zBN(C:Sl ay->ae (Int×Int×Bool)):Prop:=∀g:Sl ay,0<g.len->g.len<=1000->C g=.ok ((gz g g.len).Low,(gz g g.len).High,decide ((gz g g.len).Low<=(gz g g.len).High))
theorem zXY{E:zgl}(N:Big E.N):zBN (zsD E):=λg h0 h1=>ae.ext λk=>by
 rw[zWD,bf omY,bf omY,aX];have:=lq (X:=λn i=>UF E n g (gz g (i+1)).Low (gz g (i+1)).High ((i+1:Nat):Int) k) (m:=g.len-1) (fin:=k ((gz g g.len).Low,(gz g g.len).High,decide ((gz g g.len).Low<=(gz g g.len).High))) (λn i hi=>by
  rw[zlj,dP omY,dF,bf omY,bf omY,bF omY,fO];rfl) (λn=>by
  rw[zlj,show g.len-1+1=g.len by omega,dY omY];rfl) E.N (by have:=N;omega)
 rw[show(0+1:Nat)=1 from rfl,zb1]at this;exact this
def plN(l:Line)(z:Int):Int:=l.Start.Num*l.dI.bK+l.dI.Num*z*l.Start.bK
def PE(l:Line):Int:=l.Start.bK*l.dI.bK
theorem zd8{s:straight}(S:yN s):(-2000000<=(fA s).dI.Num/\(fA s).dI.Num<=2000000)/\(-200000000000<=(fA s).Start.Num/\(fA s).Start.Num<=200000000000)/\(0<(fA s).dI.bK/\(fA s).dI.bK<=100000)/\0<(fA s).Start.bK/\(fA s).Start.bK<=100000:=by
 have h1:=S.1;have h2:=S.2.1;have h3:=S.2.2;have p:0<s.den:=by omega
 have a1:=AB (num:=s.bT) p;have a2:=Ib (num:=s.bT) p;have a3:=jC (num:=s.bT) p;have b1:=AB (num:=s.start) p;have b2:=Ib (num:=s.start) p;have b3:=jC (num:=s.start) p;show(_<=(red s.bT s.den).Num/\(red s.bT s.den).Num<=_)/\(_<=(red s.start s.den).Num/\(red s.start s.den).Num<=_)/\(_<(red s.bT s.den).bK/\(red s.bT s.den).bK<=_)/\_<(red s.start s.den).bK/\(red s.start s.den).bK<=_;omega
theorem OJ{s:straight}(S:yN s)(z:Int):ik s z*PE (fA s)=plN (fA s) z*s.den:=by
  have p:0<s.den:=by have:=S.2.2;omega
  have a1:=pF (num:=s.bT) p;have a2:=nK (num:=s.bT) p;have b1:=pF (num:=s.start) p;have b2:=nK (num:=s.start) p;unfold ik PE plN;show(s.start+s.bT*z)*((red s.start s.den).bK*(red s.bT s.den).bK)=((red s.start s.den).Num*(red s.bT s.den).bK+(red s.bT s.den).Num*z*(red s.start s.den).bK)*s.den;generalize (Int.gcd s.bT s.den:Int)=G at a1 a2;generalize (Int.gcd s.start s.den:Int)=K at b1 b2;generalize (red s.bT s.den).Num=x at a1 ⊢;generalize (red s.bT s.den).bK=q at a2 ⊢;generalize (red s.start s.den).Num=u at b1 ⊢;generalize (red s.start s.den).bK=v at b2 ⊢;rw[qjj,qjj];have e1:s.start*(v*q)=u*q*s.den:=by
    calc s.start * (v * q) = K * u * (v * q) := by rw [b1]
      _=u*q*(K*v):=by ac_rfl
      _=u*q*s.den:=by rw[b2]
  have e2:s.bT*z*(v*q)=x*z*v*s.den:=by
    calc s.bT * z * (v * q) = G * x * z * (v * q) := by rw [a1]
      _=x*z*v*(G*q):=by ac_rfl
      _=x*z*v*s.den:=by rw[a2]
  rw[e1,e2]
theorem UT{s:straight}(S:yN s):0<PE (fA s):=by
 have:=zd8 S;exact jqz this.2.2.2.1 this.2.2.1.1
theorem YW{s:straight}(S:yN s)(z n:Int):(n*PE (fA s)<=plN (fA s) z↔n*s.den<=ik s z)/\(plN (fA s) z<=n*PE (fA s)↔ik s z<=n*s.den):=by
 have p:0<s.den:=by have:=S.2.2;omega
 have d:=UT S;have c:=OJ S z;generalize PE (fA s)=D at c d ⊢;generalize plN (fA s) z=M at c ⊢;generalize ik s z=X at c ⊢;have e:n*D*s.den=n*s.den*D:=by ac_rfl
 constructor;constructor;intro h;have:=KO h (xY p);refine qdb (?_:n*s.den*D<=X*D) d;omega;intro h;have:=KO h (xY d);refine qdb (?_:n*D*s.den<=M*s.den) p;omega;constructor;intro h;have:=KO h (xY p);refine qdb (?_:X*D<=n*s.den*D) d;omega;intro h;have:=KO h (xY d);refine qdb (?_:M*s.den<=n*D*s.den) p;omega
abbrev ztO(C:Line×Int->ae (Int×Int)):Prop:=∀s z,yN s->-200000<=z/\z<=200000->C (fA s,z)=.ok (plN (fA s) z,PE (fA s))
theorem zXZ{E:zr8}:ztO (zr9 E):=λs z S hz=>ae.ext λk=>by
 obtain⟨h1,h2,h3,h4⟩:=zd8 S;have m1:=ru h2.1 h2.2 (xY h3.1) h3.2;have m2 : -400000000000<=(fA s).dI.Num*z/\(fA s).dI.Num*z<=400000000000:=by
  rcases qd0 z 0 with h|h
  have:=ru (y := -z) (Y:=200000) h1.1 h1.2 omY omY;rw[qjq]at this;omega;have:=ru (y:=z) (Y:=200000) h1.1 h1.2 h omY;omega
 have m3:=ru m2.1 m2.2 (xY h4.1) h4.2;have m4:=ru (x:=(fA s).Start.bK) (X:=100000) omY h4.2 (xY h3.1) h3.2;rw[e166,aX,aT (x:=(fA s).Start.Num*(fA s).dI.bK) omY omY,aT (x:=(fA s).dI.Num*z) omY omY,aT (x:=(fA s).dI.Num*z*(fA s).Start.bK) omY omY,aT omY omY,aT omY omY];rfl
abbrev zBO(C:Line×ay->ae Bool):Prop:=∀s g,yN s->ig g->C (fA s,g)=.ok (qQ s g)
theorem zX0{E:zrg}(zbC:ztO E.VA):zBO (zrh E):=λs g S G=>ae.ext λk=>by
 obtain⟨h1,h2,h3,h4⟩:=zd8 S;have m4:=ru (x:=(fA s).Start.bK) (X:=100000) omY h4.2 (xY h3.1) h3.2;have d:=UT S;have m5:PE (fA s)<=10000000000:=m4.2;have l1:=ru (qP G).1 (qP G).2 (xY d) m5;have l2:=ru (sN G).1 (sN G).2 (xY d) m5;rw[e116,zbC s g.Z S (by have:=G.1;omega),aX,aX];show cond (decide (aJ (g.Low*PE (fA s))<=plN (fA s) g.Z)) (k (decide (plN (fA s) g.Z<=aJ (g.High*PE (fA s))))) (k false)=_;rw[aT (x:=g.Low*PE (fA s)) omY omY,aT (x:=g.High*PE (fA s)) omY omY,kc k];congr 1;unfold qQ;have a:=(YW S g.Z g.Low).1;have b:=(YW S g.Z g.High).2;rw[PN,oD,<- a,<- b];by_cases h:g.Low*PE (fA s)<=plN (fA s) g.Z<;>simp[h]
abbrev Q55(C:Int×Int×Int×Int->ae Line):Prop:=∀z p y q,(0<=z/\z<=100000)->(0<=y/\y<=100000)->(-1000000<=p/\p<=1000000)->(-1000000<=q/\q<=1000000)->z≠y->C (z,p,y,q)=.ok (fA (Gl z p y q))
theorem s55{E:E55}(h71:OG E.c71):Q55 (F55 E):=λz p y q hz hy hp hq hn=>ae.ext λk=>by
 have b1:=ru hp.1 hp.2 hy.1 hy.2;have b2:=ru hq.1 hq.2 hz.1 hz.2;rw[e55,aX];unfold Gl;by_cases h:z>y
 rw[dP (show y<z from h),dF,eU h,zwC,aT (x:=q*z) omY omY,aT (x:=p*y) omY omY,aT (x:=p-q) omY omY,aT (x:=z-y) omY omY,aT (x:=q*z-p*y) omY omY,
  h71 _ _ omY omY omY omY,aX,h71 _ _ omY omY omY omY,aX];rfl
 rw[dY (show ¬y<z from h),dL,eY h,zwC,aT (x:=p*y) omY omY,aT (x:=q*z) omY omY,aT (x:=q-p) omY omY,aT (x:=y-z) omY omY,aT (x:=p*y-q*z) omY omY,
  h71 _ _ omY omY omY omY,aX,h71 _ _ omY omY omY omY,aX];rfl
abbrev zBP(C:ay×Int->ae Int):Prop:=∀g e,C (g,e)=.ok (cond (e==0) g.Low g.High)
theorem zX2{E:ztp}:zBP (ztq E):=λg e=>ae.ext λk=>by rw[e247,aX,kc k]
theorem zJK{α:Type}[bD α][tZ α](a b:α):X5 [a,b] 0=a:=by
 show(bD.dec (Jw (shp 8) (bD.enc a) (bD.enc a))).1=a;rw[mV (uD 8) (bD.sm _ _),tZ.de]
theorem zJL{α:Type}[bD α][tZ α](a b:α):X5 [a,b] 1=b:=by
 show(bD.dec (Jw (shp 8) (bD.enc a) (bD.enc b))).1=b;rw[mV (uD 8) (bD.sm _ _),tZ.de]
theorem YX{l:Sl aS}{p:Int}(h:sF l p=true){i:Nat}(hi:i<l.len):(0<=(l.get i).dQ.Low/\(l.get i).dQ.Low<=(l.get i).dQ.High/\(l.get i).dQ.High<=aJ (p.tdiv 2)) /\
  (i=0\/((l.get (i-1)).Time<(l.get i).Time/\(l.get (i-1)).dQ.Low<=(l.get i).dQ.Low)):=by
 simp only[sF,fQ,cZ]at h;have:=h.1 i hi;simp only[stB,inB,fQ,V8,oD]at this;exact⟨⟨this.1.1.2.1,this.1.1.2.2,this.1.2⟩,this.2.imp id λx=>⟨x.1.1,x.1.2⟩⟩
theorem UU{l:Sl aS}{p:Int}(h:sF l p=true):∀{j:Nat},j<l.len→∀{i:Nat},i<j→(l.get i).Time<(l.get j).Time∧(l.get i).dQ.Low≤(l.get j).dQ.Low
  | 0,_,_,hi=>absurd hi omY
  | j+1,hj,i,hi=>by
    have:=(YX h hj).2;rw[qjF]at this;rcases this with h0|⟨a,b⟩
    omega;by_cases e:i=j;rw[e];exact⟨a,b⟩;obtain⟨c,d⟩:=UU h (j:=j) omY (i:=i) omY;omega
theorem YY(l:Sl aS)(t:Int):∀n,vY l t n=0∨∃i,i<n∧(l.get i).Time≤t∧vY l t n=(l.get i).dQ.Low
  | 0=>.inl rfl
  | n+1=>by
    simp only[vY];by_cases h:(l.get n).Time<=t;rw[dP h];exact .inr ⟨n,omY,h,rfl⟩;rw [dY h];rcases YY l t n with e|⟨i,a,b,c⟩
    exact .inl e;exact .inr ⟨i,omY,b,c⟩
theorem YZ(l:Sl aS)(t z:Int):∀d,d≤l.len→zH l t z d=z∨∃j,j<l.len∧t≤(l.get j).Time∧zH l t z d=(l.get j).dQ.High
  | 0,_=>.inl rfl
  | d+1,hd=>by
    simp only[zH];by_cases h:(l.get (l.len-1-d)).Time>=t;rw[dP h];exact .inr ⟨l.len-1-d,omY,h,rfl⟩;rw [dY h];exact YZ l t z d omY
theorem ztP{p:aj}(hp:VW p)(h:sF p.aS p.aO=true){t:Int}(ht:0<=t/\t<=1000000):0<=(uU p t).1/\(uU p t).1<=(uU p t).2/\(uU p t).2<=p.aO:=by
 obtain⟨_,_,_,_,hpi,_,_,_,_,hj,_⟩:=hp;have e1:aJ (t-p.dO)=t-p.dO:=aT omY omY;have e2:aJ (t+p.dO)=t+p.dO:=aT omY omY;have e4:0<=p.aO.tdiv 2/\p.aO.tdiv 2<=p.aO:=by
  rw[qdJ omY];omega
 have e3:aJ (p.aO.tdiv 2)=p.aO.tdiv 2:=aT omY omY;have a:=YY p.aS (t-p.dO) p.aS.len;have b:=YZ p.aS (t+p.dO) (p.aO.tdiv 2) p.aS.len (jP _);unfold uU;rw[e1,e2,e3];show 0<=vY _ _ _/\vY _ _ _<=zH _ _ _ _/\zH _ _ _ _<=_;rcases a with a|⟨i,a1,a2,a3⟩<;>rcases b with b|⟨j,b1,b2,b3⟩
 rw[a,b];omega;rw[a,b3];have:=(YX h b1).1;rw[e3]at this;omega;rw[a3,b];have:=(YX h a1).1;rw[e3]at this;omega;rw [a3,b3];have x:=(YX h a1).1;have y:=(YX h b1).1;rw[e3]at x y;by_cases e:i=j;subst e;omega;have Ju:i<j:=by
  rcases qdP i j with h1|h1
  exact h1;have:=(UU h a1 (i:=j) omY).1;omega
 have:=(UU h b1 Ju).2;omega
theorem UV{p:aj}(hp:VW p){a b:Int}(h1:a<=b)(h2:p.First-p.aO-p.dJ<=a)(h3:b<=p.First+(p.bC+1)*p.aO+p.dJ):ig (gate p a b):=by
 obtain⟨_,_,hz,hf,hpi,Gn,hsp,ho,_,_,_,hl,hr⟩:=hp;obtain⟨e1,e2,e3⟩:=zIL hf hpi Gn hsp ho;obtain⟨q1,q2⟩:=xy (a:=p.bC+1) (b:=p.aO) omY omY;refine⟨hz,?_⟩;show _<=aJ (a+p.aZ.Low)/\aJ (a+p.aZ.Low)<=aJ (b+p.aZ.High)/\aJ (b+p.aZ.High)<=_;rw[aT (x:=a+p.aZ.Low) omY omY,aT (x:=b+p.aZ.High) omY omY];omega
theorem zmd{p:aj}{a b c d:Int}(h1:ig (gate p a b))(h2:ig (gate p c d))(h:(gate p a b).Low<=(gate p c d).High):ig ⟨p.Z,(gate p a b).Low,(gate p c d).High⟩ :=
 ⟨h1.1,h1.2.1,h,h2.2.2.2⟩
theorem zJM{b:Bool}{x y:Sl ay}(h1:∀i,i<x.len->ig (x.get i))(h2:∀i,i<y.len->ig (y.get i)){i:Nat}(hi:i<(cond b x y).len):ig ((cond b x y).get i):=by
 cases b;exact h2 i hi;exact h1 i hi
theorem zBQ{p:aj}(hp:VW p)(hb:plB p=true){h:bz}(hh:hpB p h=true){i:Nat}(hi:i<(gaP p h).len):ig ((gaP p h).get i):=by
 simp only[hpB,inB,fQ,oD]at hh;obtain⟨⟨⟨⟨⟨hc,hm⟩,_⟩,_⟩,_⟩,hk⟩:=hh;obtain⟨hki,_,hz,hf,hpi,Gn,hsp,ho,_,hj,_,hl,hr⟩:=hp;have Qi:VW p:=zIM hb;have q0:=xy (a:=h.Channel) (b:=p.aO) omY omY;have q1:=xy (a:=h.Channel+1) (b:=p.aO) omY omY;have q2:=xy (a:=h.Channel+h.kz-1) (b:=p.aO) omY omY;have q3:=xy (a:=p.bC+1) (b:=p.aO) omY omY;have m0:h.Channel*p.aO+p.aO<=(p.bC+1)*p.aO:=by
  have:=KO (show h.Channel+1<=p.bC+1 by omega) (show 0<=p.aO by omega);rw[qjj,jqd]at this;omega
 have m1:(h.Channel+1)*p.aO<=(p.bC+1)*p.aO:=KO omY omY;revert hi;unfold gaP;cases hk2:p.Kind != 2 with
 | true =>
  simp only[dF]
  rw[aT (x:=h.Channel+h.kz) omY omY,aT (x:=h.Channel+h.kz-1) omY omY,aT (x:=(h.Channel+h.kz-1)*p.aO) omY omY,aT (x:=p.First+(h.Channel+h.kz-1)*p.aO) omY omY,aT (x:=p.First+(h.Channel+h.kz-1)*p.aO-p.dJ) omY omY,
   aT (x:=h.Channel+1) omY omY,aT (x:=(h.Channel+1)*p.aO) omY omY,aT (x:=p.First+(h.Channel+1)*p.aO) omY omY,aT (x:=p.First+(h.Channel+1)*p.aO+p.dJ) omY omY]
  by_cases c:p.First+(h.Channel+h.kz-1)*p.aO-p.dJ>p.First+(h.Channel+1)*p.aO+p.dJ;rw[dP c];intro hi;exact absurd hi (Wi _);rw [dY c];intro hi;exact UV Qi omY omY omY
 | false =>
  have hk3:p.Kind=2:=by simpa using hk2
  have hd:0<=h.aS/\h.aS<=1000000:=by
   simp only[knB,hk3,qdj,dF,inB,fQ,oD]at hk;exact hk.2
  have hs:sF p.aS p.aO=true:=by
   simp only[plB,fQ,hk3,qdj,dF]at hb;exact hb.1.1.2
  obtain⟨r1,r2,r3⟩:=ztP Qi hs hd;simp only[dL];generalize uU p h.aS=R at r1 r2 r3 ⊢;rw[aT (x:=h.Channel*p.aO) omY omY,aT (x:=p.First+h.Channel*p.aO) omY omY,aT (x:=p.First+h.Channel*p.aO-R.2) omY omY,aT (x:=p.First+h.Channel*p.aO-R.1) omY omY,aT (x:=p.First+h.Channel*p.aO+R.1) omY omY,aT (x:=p.First+h.Channel*p.aO+R.2) omY omY];have g1:ig (gate p (p.First+h.Channel*p.aO-R.2) (p.First+h.Channel*p.aO-R.1)):=UV Qi omY omY omY;have g2:ig (gate p (p.First+h.Channel*p.aO+R.1) (p.First+h.Channel*p.aO+R.2)):=UV Qi omY omY omY;have g3:(gate p (p.First+h.Channel*p.aO-R.2) (p.First+h.Channel*p.aO-R.1)).Low<=(gate p (p.First+h.Channel*p.aO+R.1) (p.First+h.Channel*p.aO+R.2)).High:=by
   show aJ _<=aJ _;rw[aT omY omY,aT omY omY];omega
  intro hi;refine zJM (λ_ _=>zmd g1 g2 g3) (λi hi=>?_) hi;have hi:i<2:=hi;rcases(show i=0\/i=1 by omega)with e|e<;>subst e
  show ig (X5 _ 0);rw[zJK];exact g1;show ig (X5 _ 1);rw[zJL];exact g2
theorem zBR{s:ak}(hs:fD s=true){h:bz}(hh:nG s h=true){i:Nat}(hi:i<(Bh s h).len):ig ((Bh s h).get i):=by
 have hp:=Ob hh;have h1:h.aj.toNat<s.ai.len:=by omega
 simp only[nG,fQ,oD]at hh;exact zBQ (Aw hs h1) (Oa hs h1) hh.2 hi
abbrev jT:=List (Int×Int)
section
variable(ag:jT->Bool)(us:jT->Int->Bool)(sd:Nat->jT)
def gr:Nat→jT→Nat→List jT
  | 0,_,_=>[]
  | f+1,c,i=>(sd i).flatMap λp=>cond (us c p.1 || !ag (c++[p])) [] ((c++[p])::gr f (c++[p]) (p.1.toNat+1))
def PG:Nat→List jT→jT→Nat→List jT
  | 0,out,_,_=>out
  | f+1,out,c,i=>(sd i).foldl (λout p=>cond (us c p.1||(decide (2000<out.length) || !ag (c++[p]))) out (PG f (out++[c++[p]]) (c++[p]) (p.1.toNat+1))) out
inductive Ch:jT→Nat→Prop
  | nil:Ch [] 0
  | snoc {c:jT} {i:Nat} {p:Int×Int}:Ch c i->p∈sd i->us c p.1=false->ag (c++[p])=true->Ch (c++[p]) (p.1.toNat+1)
end
section
variable{ag:jT->Bool}{us:jT->Int->Bool}{sd:Nat->jT}
theorem UW:∀{f c i x},x∈gr ag us sd f c i→∃p e,p∈sd i∧x=c++p::e
  | f+1,c,i,x,h=>by
    simp only[gr,mg]at h;obtain⟨p,hp,h⟩:=h;cases hc:us c p.1 || !ag (c++[p])with
    | true=>rw[hc]at h;cases h
    | false =>
      rw[hc]at h;rcases jV.1 h with h|h
      exact⟨p,[],hp,h⟩;obtain⟨q,e,_,h⟩:=UW h;exact⟨p,q::e,hp,by rw[h];simp⟩
theorem zwR:∀{f c i x},Ch ag us sd c i→x∈gr ag us sd f c i→∃j,Ch ag us sd x j
  | f+1,c,i,x,hc,h=>by
    simp only[gr,mg]at h;obtain⟨p,hp,h⟩:=h;cases hu:us c p.1 || !ag (c++[p])with
    | true=>rw[hu]at h;cases h
    | false =>
      rw[hu]at h;simp only[qdI,Bool.not_eq_false']at hu;have hn:=Ch.snoc hc hp hu.1 hu.2;rcases jV.1 h with h|h
      exact⟨_,h▸hn⟩;exact zwR hn h
theorem Fv(hs:∀i,(sd i).Nodup):∀f c i,(gr ag us sd f c i).Nodup
  | 0,_,_=>List.Pairwise.nil
  | f+1,c,i=>by
    rw[gr];unfold List.Nodup;rw[List.pairwise_flatMap];have pre:∀p,∀x∈cond (us c p.1 || !ag (c++[p])) [] ((c++[p])::gr ag us sd f (c++[p]) (p.1.toNat+1)),∃e,x=c++p::e:=λp x hx=>by
      cases hu:us c p.1 || !ag (c++[p])with
      | true=>rw[hu]at hx;cases hx
      | false =>
        rw[hu]at hx;rcases jV.1 hx with h|h
        exact⟨[],h⟩;obtain⟨q,e,_,h⟩:=UW h;exact⟨q::e,by rw[h];simp⟩
    refine⟨λp _=>?_,(hs i).imp_of_mem fun {p q} _ _ hpq x hx y hy e=>?_⟩
    · cases us c p.1 || !ag (c++[p])with
      | true=>exact List.Pairwise.nil
      | false =>
        refine List.Pairwise.cons (λy hy e=>?_) (Fv hs f _ _);obtain⟨q,r,_,h⟩:=UW hy;rw[<- e]at h;have:=jZ List.length h;simp at this
    obtain⟨a,ha⟩:=pre p x hx;obtain⟨b,hb⟩:=pre q y hy;rw[ha,hb]at e;have:=List.append_cancel_left e;rw[Du]at this;exact hpq this.1
theorem zme:∀{f out c i},(out.length≤(PG ag us sd f out c i).length)∧((PG ag us sd f out c i).length≤2000→PG ag us sd f out c i=out++gr ag us sd f c i)
  | 0,out,c,i=>⟨jP _,λ_=>by simp[PG,gr]⟩
  | f+1,out,c,i=>by
    simp only[PG,gr];generalize sd i=l
    induction l generalizing out with
    | nil=>exact⟨jP _,λ_=>by simp⟩
    | cons p l ih =>
      rw[Wl,oG];cases hu:us c p.1 || !ag (c++[p])with
      | true =>
        have:(us c p.1||(decide (2000<out.length) || !ag (c++[p])))=true:=by
          revert hu;cases us c p.1<;>cases ag (c++[p])<;>simp
        rw[this];exact ih out
      | false =>
        have:(us c p.1||(decide (2000<out.length) || !ag (c++[p])))=decide (2000<out.length):=by
          revert hu;cases us c p.1<;>cases ag (c++[p])<;>simp
        rw[this,dL];by_cases h:2000<out.length;rw [dP h];obtain⟨a,_⟩:=ih out;exact⟨a,λh2=>by have:_<=2000:=h2;rw[dF]at this;omega⟩;rw [dY h,dL];obtain⟨a,b⟩:=zme (f:=f) (out:=out++[c++[p]]) (c:=c++[p]) (i:=p.1.toNat+1);obtain⟨a2,b2⟩:=ih (PG ag us sd f (out++[c++[p]]) (c++[p]) (p.1.toNat+1));rw[Py]at a;refine⟨omY,λh2=>?_⟩;rw[b2 h2,b omY];simp
theorem zd9:∀{f out c i x},Ch ag us sd c i→x∈PG ag us sd f out c i→x∈out∨∃j,Ch ag us sd x j
  | 0,out,c,i,x,_,h=>.inl h
  | f+1,out,c,i,x,hc,h=>by
    simp only[PG]at h;have key:∀(l:jT)(out:List jT),(∀p∈l,p∈sd i)->x∈l.foldl (λout p=>cond (us c p.1||(decide (2000<out.length) || !ag (c++[p]))) out (PG ag us sd f (out++[c++[p]]) (c++[p]) (p.1.toNat+1))) out->x∈out\/∃j,Ch ag us sd x j:=by
      intro l
      induction l with
      | nil=>intro out _ h;exact .inl h
      | cons p l ih =>
        intro out hp h;rw[Wl]at h;have ih:=ih _ (λq hq=>hp q (jM _ hq)) h;rcases ih with ih|ih
        · cases hu:us c p.1||(decide (2000<out.length) || !ag (c++[p]))with
          | true=>rw[hu]at ih;exact .inl ih
          | false =>
            rw[hu]at ih;simp only[qdI,Bool.not_eq_false']at hu;have hn:=Ch.snoc hc (hp p kH) hu.1 hu.2.2;rcases zd9 hn ih with h|h
            rcases dR.1 h with h|h
            exact .inl h;rw[mf.1 h];exact .inr ⟨_,hn⟩;exact .inr h
        exact .inr ih
    exact key _ _ (λ_ h=>h) h
end
def eH(t:af):jT:=(List.range t.Hits.len).map λi=>(t.Hits.get i,t.bu.get i)
theorem kG(t:af):(eH t).length=t.Hits.len:=by simp[eH]
theorem UX{t:af}{i:Nat}(h:i<t.Hits.len):(eH t)[i]? = some (t.Hits.get i,t.bu.get i):=by
 simp[eH,qjh h]
def OL(x:Int)(t:af):Prop:=t.View=x/\t.bu.len=t.Hits.len
def FB(l:Sl bz)(c:jT)(i:Int):Bool:=c.any λq=>(l.get q.1.toNat).aj==(l.get i.toNat).aj
def RI(s:ak)(l:Sl bz)(x:Int)(i:Nat):jT:=sdL s l x (l.len-i) i
theorem FC{i:Int}{y:Int×Int}:∀{d k},y∈sdK i d k↔y.1=i∧(k:Int)≤y.2∧y.2<((k+d:Nat):Int)
  | 0,k=>by
    refine⟨λh=>(by cases h),λh=>?_⟩;omega
  | d+1,k=>by
    rw[sdK,jV,FC];constructor;rintro(h|h);rw[h];show i=i/\(k:Int)<=(k:Int)/\(k:Int)<_;omega;omega;intro h;by_cases e:y.2=(k:Int);exact .inl (Prod.ext h.1 e);exact .inr omY
theorem UY{s:ak}{l:Sl bz}{x:Int}{y:Int×Int}:∀{d i},y∈sdL s l x d i↔((i:Int)≤y.1∧y.1<((i+d:Nat):Int))∧VX s l y.1.toNat=x∧0≤y.2∧y.2<(Bi s l y.1.toNat:Int)
  | 0,i=>⟨λh=>(by cases h),λh=>by omega⟩
  | d+1,i=>by
    rw[sdL,dR,UY];constructor;rintro(h|h)
    · cases hv:VX s l i==x with
      | false=>rw[hv]at h;cases h
      | true =>
        rw[hv,dF,FC]at h;rw[h.1,fO];exact⟨omY,eq_of_beq hv,omY,omY⟩
    exact⟨omY,h.2⟩;rintro⟨h1,h2,h3,h4⟩;by_cases e:y.1=(i:Int);refine .inl ?_;rw[e,fO]at h2 h4;rw[KN.2 h2,dF,FC];exact⟨e,omY,omY⟩;exact .inr ⟨omY,h2,h3,h4⟩
theorem zea{s:ak}{l:Sl bz}{x:Int}{y:Int×Int}{i:Nat}(hi:i<=l.len):y∈RI s l x i↔((i:Int)<=y.1/\y.1<(l.len:Int))/\VX s l y.1.toNat=x/\0<=y.2/\y.2<(Bi s l y.1.toNat:Int):=by
 unfold RI;rw[UY,show i+(l.len-i)=l.len by omega]
theorem Y0{s:ak}{l:Sl bz}{x:Int}{y:Int×Int}{i:Nat}(h:y∈RI s l x i):i<l.len/\((i:Int)<=y.1/\y.1<(l.len:Int))/\VX s l y.1.toNat=x/\0<=y.2/\y.2<(Bi s l y.1.toNat:Int):=by
 by_cases hi:i<=l.len;have:=(zea hi).1 h;exact⟨omY,this⟩;unfold RI at h;rw[show l.len-i=0 by omega]at h;cases h
theorem RJ(i:Int):∀d k,(sdK i d k).Nodup
  | 0,_=>List.Pairwise.nil
  | d+1,k=>by
    rw[sdK];refine List.Pairwise.cons (λy hy e=>?_) (RJ i d (k+1));have:=FC.1 hy;rw[<- e]at this;have:=this.2.1;simp only at this;omega
theorem RN(s:ak)(l:Sl bz)(x:Int):∀d i,(sdL s l x d i).Nodup
  | 0,_=>List.Pairwise.nil
  | d+1,i=>by
    rw[sdL];unfold List.Nodup;rw[qdy];refine⟨?_,RN s l x d (i+1),λa ha b hb e=>?_⟩;cases VX s l i==x;exact List.Pairwise.nil;exact RJ _ _ _;have h1:a.1=(i:Int):=by
      cases hv:VX s l i==x with|false=>rw[hv]at ha;cases ha|true=>rw[hv,dF]at ha;exact(FC.1 ha).1
    have:=(UY.1 hb).1;rw[<- e]at this;omega
structure Val (s : ak) (l : Sl bz) (x : Int) (c : jT) (j : Nat) : Prop where
  le:c.length<=j/\j<=l.len
  mem:∀p∈c,(0<=p.1/\p.1<(j:Int))/\VX s l p.1.toNat=x/\0<=p.2/\p.2<(Bi s l p.1.toNat:Int)
  pw:c.Pairwise λp q=>p.1<q.1/\(l.get p.1.toNat).aj≠(l.get q.1.toNat).aj
theorem Val.snoc{s:ak}{l:Sl bz}{x:Int}{c:jT}{j:Nat}{p:Int×Int}(h:Val s l x c j)(hp:p∈RI s l x j)(hu:FB l c p.1=false):Val s l x (c++[p]) (p.1.toNat+1):=by
 obtain⟨h1,h2,h3,h4⟩:=Y0 hp;have hle:=h.le;refine⟨by rw[Py];simp only[qp,Wj];omega,λq hq=>?_,?_⟩;rcases dR.1 hq with hq|hq
 have:=h.mem q hq;exact⟨omY,this.2⟩;rw[mf.1 hq];exact⟨omY,h3,h4⟩;rw [qdy];refine⟨h.pw,jqQ _ _,λa ha b hb=>?_⟩;rw[mf.1 hb];have:=(h.mem a ha).1;refine⟨omY,λe=>?_⟩;unfold FB at hu;rw[qjc]at hu;exact hu a ha (by simpa using e)
theorem UZ{ag:jT->Bool}{s:ak}{l:Sl bz}{x:Int}{c:jT}{j:Nat}(h:Ch ag (FB l) (RI s l x) c j):Val s l x c j:=by
 induction h with|nil=>exact⟨⟨jP _,Ad _⟩,(λp h=>by cases h),List.Pairwise.nil⟩|snoc _ hp hu _ ih=>exact ih.snoc hp hu
theorem AL{t:af}{c:jT}(hc:eH t=c){i:Nat}(hi:i<t.Hits.len):c[i]? = some (t.Hits.get i,t.bu.get i):=by rw[<- hc];exact UX hi
theorem KD{s:ak}{l:Sl bz}{x:Int}{t:af}{c:jT}{j:Nat}(hx:VN x=true)(ht:OL x t)(hc:eH t=c)(h:Val s l x c j)(hn:c≠[]):zf5 s l t=true:=by
 have hlen:c.length=t.Hits.len:=by rw[<- hc,kG]
 have hle:=h.le;have pw:=dq9.1 h.pw;have ge:∀i (hi:i<t.Hits.len) (jY:i<c.length),c[i]=(t.Hits.get i,t.bu.get i):=λi hi jY=>by
  have:=AL hc hi;rw[yC jY]at this;exact SH this
 simp only[zf5,fQ,oD,cZ];refine⟨⟨⟨by rw[ht.1];exact hx,?_⟩,ht.2⟩,λi hi=>?_⟩;rcases jqh t.Hits.len with h0|h0
 rw[h0]at hlen;exact absurd (qjo.1 hlen) hn;exact h0;have jY:i<c.length:=by omega
 have m:=h.mem c[i] (VP _);rw[ge i hi jY]at m;simp only[chP,fQ,V8,oD,inB,usB,cZ,JS,dqM];refine⟨⟨⟨⟨by simp only at m;omega,?_⟩,by rw[ht.1];exact m.2.1⟩,?_⟩,λk hk=>?_⟩;rcases jqh i with h0|h0
 exact .inl h0;refine .inr ?_;have:=(pw (i-1) i omY jY omY).1;rw[ge i hi jY,ge (i-1) omY omY]at this;exact this;have:=m.2.2;show 0<=t.bu.get i/\t.bu.get i<=((Bi s l (t.Hits.get i).toNat:Nat):Int)-1;simp only at this;omega;have:=(pw k i omY jY hk).2;rw[ge i hi jY,ge k omY omY]at this;exact this
def oh(s:ak)(l:Sl bz)(c:jT):Sl ay:=gw z0 (λi=>(Bh s (l.get ((c[i]?).getD (0,0)).1.toNat)).get ((c[i]?).getD (0,0)).2.toNat) c.length
theorem U0{s:ak}{l:Sl bz}{t:af}{c:jT}(hc:eH t=c):gtS s l t=oh s l c:=by
 unfold gtS oh;rw[<- hc,kG];exact Oe λi hi=>by rw[UX hi];rfl
theorem OM{s:ak}{l:Sl bz}{x:Int}{c:jT}{j:Nat}(he:Evt s l)(hl:l.len<=24)(h:Val s l x c j)(hn:c≠[]):dh (oh s l c):=by
 have e:(oh s l c).len=c.length:=Oc _ _ _;have hle:=h.le;refine⟨λi hi=>?_,by
  rw[e];rcases jqh c.length with h0|h0
  exact absurd (qjo.1 h0) hn;exact h0,omY⟩
 rw[e]at hi;show ig ((gw z0 _ c.length).get i);rw[Ur hi,yC hi];have m:=h.mem c[i] (VP _);have m2:=m.2.2;show ig ((Bh s (l.get (c[i]).1.toNat)).get (c[i]).2.toNat);refine zBR he.se (cZ.1 he.hi _ omY) ?_;show _<Bi s l (c[i]).1.toNat;omega
def Y1(g:Sl ay):Prop:=∀k,k<g.len->(g.get k).Z=(g.get 0).Z
theorem RP{g:Sl ay}:gy g=true↔Y1 g:=by
 unfold gy Y1;rw[cZ];exact⟨λh k hk=>eq_of_beq (h k hk),λh k hk=>KN.2 (h k hk)⟩
theorem OO{g:Sl ay}{i b:Nat}{x:straight}(hx:x∈CZ (g.get i) (g.get b)):∀m k,k≤b→b<k+m→x∈Fh g i m k
  | 0,k,h1,h2=>by omega
  | m+1,k,h1,h2=>by
    show x∈CZ (g.get i) (g.get k)++Fh g i m (k+1);by_cases h:k=b;rw[h];exact qza _ hx;exact jq2 _ (OO hx m (k+1) omY omY)
theorem OQ{g:Sl ay}{a:Nat}{x:straight}(hx:x∈Fh g a (g.len-(a+1)) (a+1)):∀m i,i≤a→a<i+m→x∈P9 g m i
  | 0,i,h1,h2=>by omega
  | m+1,i,h1,h2=>by
    show x∈Fh g i (g.len-(i+1)) (i+1)++P9 g m (i+1);by_cases h:i=a;rw[h];exact qza _ hx;exact jq2 _ (OQ hx m (i+1) omY omY)
theorem zmf{z p y q:Int}(h:z≠y):Gl z p y q=Gl y q z p:=by
 unfold Gl;by_cases h1:z>y;rw[eU h1,eY (show ¬y>z by omega)];rw[eY h1,eU (show y>z by omega)]
theorem cand{g:Sl ay}{a b:Nat}(ha:a<g.len)(hb:b<g.len)(hz:(g.get a).Z≠(g.get b).Z){p q:Int}(hp:p=(g.get a).Low\/p=(g.get a).High)(hq:q=(g.get b).Low\/q=(g.get b).High):Gl (g.get a).Z p (g.get b).Z q∈cst g:=by
 have key:∀{a b:Nat}{p q:Int},a<b->b<g.len->(g.get a).Z≠(g.get b).Z->(p=(g.get a).Low\/p=(g.get a).High)->(q=(g.get b).Low\/q=(g.get b).High)->Gl (g.get a).Z p (g.get b).Z q∈cst g:=fun {a b p q} h1 h2 hz hp hq=>by
  refine OQ (OO ?_ _ _ h1 omY) _ 0 (Ad _) omY;unfold CZ;rw[eY hz];rcases hp with rfl|rfl<;>rcases hq with rfl|rfl<;>simp
 rcases qdP a b with h|h
 exact key h hb hz hp hq;have:a≠b:=fun e=>hz (by rw [e]);rw[zmf hz];exact key omY ha (qjV hz) hq hp
theorem FD{Q:Nat→Prop}{le:Nat→Nat→Prop}(tot:∀i j,Q i→Q j→le i j∨le j i)(tr:∀i j k,Q i→Q j→Q k→le i j→le j k→le i k):∀n,(∃k,k<n∧Q k)→∃k,k<n∧Q k∧∀j,j<n→Q j→le j k
  | 0,⟨k,h,_⟩=>absurd h (Wi k)
  | n+1,hex=>by
    by_cases h:∃k,k<n/\Q k;obtain⟨k,hk,qk,hm⟩:=FD tot tr n h;by_cases qn:Q n;rcases tot n k qn qk with h1|h1
    exact⟨k,omY,qk,λj hj qj=>by
      by_cases e:j=n;rw[e];exact h1;exact hm j omY qj⟩
    exact⟨n,omY,qn,λj hj qj=>by
      by_cases e:j=n;rw[e];rcases tot n n qn qn with h2|h2<;>exact h2
      exact tr j k n qj qk qn (hm j omY qj) h1⟩
    exact⟨k,omY,qk,λj hj qj=>hm j (by
      have:j≠n:=λe=>qn (e▸qj);omega) qj⟩
    obtain⟨k,hk,qk⟩:=hex;have e:k=n:=by
      rcases qdP k n with h1|h1
      exact absurd ⟨k,h1,qk⟩ h;omega
    subst e;exact⟨k,omY,qk,λj hj qj=>by
      by_cases e:j=k;rw[e];rcases tot k k qk qk with h2|h2<;>exact h2
      exact absurd ⟨j,omY,qj⟩ h⟩
def Y2(a b:straight):Prop:=a.bT*b.den<=b.bT*a.den
theorem U1{a b c:straight}(ha:0<a.den)(hb:0<b.den)(hc:0<c.den)(h1:Y2 a b)(h2:Y2 b c):Y2 a c:=by
 unfold Y2 at *;have y1:=KO h1 (xY hc);have y2:=KO h2 (xY ha);refine qdb (a:=b.den) ?_ hb
 grind
def lcS(g:Sl ay)(i:Nat)(p:Int)(k:Nat):straight:=Gl (g.get i).Z p (g.get k).Z (if(g.get k).Z>(g.get i).Z then(g.get k).Low else(g.get k).High)
def ucS(g:Sl ay)(i:Nat)(p:Int)(k:Nat):straight:=Gl (g.get i).Z p (g.get k).Z (if(g.get k).Z>(g.get i).Z then(g.get k).High else(g.get k).Low)
theorem OT{g:Sl ay}{i k:Nat}{p:Int}{c:straight}(he:ik c (g.get i).Z=p*c.den)(hz:(g.get k).Z≠(g.get i).Z):qQ c (g.get k)=true↔Y2 (lcS g i p k) c/\Y2 c (ucS g i p k):=by
 unfold qQ Y2 lcS ucS Gl;rw[oD];unfold ik at *;by_cases h:(g.get k).Z>(g.get i).Z;simp only [eU h,eY (show ¬(g.get i).Z>(g.get k).Z by omega)];constructor;intro⟨h1,h2⟩;constructor<;>grind;intro⟨h1,h2⟩;constructor<;>grind;simp only [eY h,eU (show(g.get i).Z>(g.get k).Z by omega)];constructor;intro⟨h1,h2⟩;constructor<;>grind;intro⟨h1,h2⟩;constructor<;>grind
theorem zeb{z p y q:Int}(h:z≠y):0<(Gl z p y q).den:=by
 unfold Gl;by_cases h1:z>y;rw[eU h1];show 0<z-y;omega;rw[eY h1];show 0<y-z;omega
theorem RQ{g:Sl ay}{i k:Nat}{p:Int}{s c:straight}(ps:0<s.den)(pc:0<c.den)(he:ik s (g.get i).Z=p*s.den)(hc:ik c (g.get i).Z=p*c.den)(hz:(g.get k).Z=(g.get i).Z)(h:qQ s (g.get k)=true):qQ c (g.get k)=true:=by
 unfold qQ at *;rw[oD]at *;rw[hz,he]at h;rw[hz,hc];exact⟨KO (qdb h.1 ps) (xY pc),KO (qdb h.2 ps) (xY pc)⟩
theorem rot{g:Sl ay}{s:straight}(hd:0<s.den)(ha:zK g s){i:Nat}(hi:i<g.len){p:Int}(hp:p=(g.get i).Low∨p=(g.get i).High)(he:ik s (g.get i).Z=p*s.den)(hn:∃k,k<g.len∧(g.get k).Z≠(g.get i).Z) :
  (∃c,uj g c/\0<c.den/\ik c (g.get i).Z=p*c.den/\Y2 c s)/\∃c,uj g c/\0<c.den/\ik c (g.get i).Z=p*c.den/\Y2 s c:=by
 have ld:∀k,(g.get k).Z≠(g.get i).Z->0<(lcS g i p k).den:=λk h=>zeb (qjV h);have ud:∀k,(g.get k).Z≠(g.get i).Z->0<(ucS g i p k).den:=λk h=>zeb (qjV h);have le1:∀k,(g.get k).Z≠(g.get i).Z->ik (lcS g i p k) (g.get i).Z=p*(lcS g i p k).den:=λk h=>(zbZ (qjV h)).1;have ue1:∀k,(g.get k).Z≠(g.get i).Z->ik (ucS g i p k) (g.get i).Z=p*(ucS g i p k).den:=λk h=>(zbZ (qjV h)).1;have sp:∀k,k<g.len->(g.get k).Z≠(g.get i).Z->Y2 (lcS g i p k) s/\Y2 s (ucS g i p k):=λk hk hz=>(OT he hz).1 (ha k hk);constructor;obtain⟨k,hk,qk,hm⟩:=FD (Q:=fun k=>(g.get k).Z≠(g.get i).Z) (le:=fun a b=>Y2 (lcS g i p a) (lcS g i p b)) (fun a b _ _=>qjG _ _) (fun a b c ha hb hc h1 h2=>U1 (ld a ha) (ld b hb) (ld c hc) h1 h2) g.len hn;refine⟨lcS g i p k,⟨cand hi hk (qjV qk) hp (by split<;>simp),λj hj=>?_⟩,ld k qk,le1 k qk,(sp k hk qk).1⟩;by_cases hz:(g.get j).Z=(g.get i).Z;exact RQ hd (ld k qk) he (le1 k qk) hz (ha j hj);exact(OT (le1 k qk) hz).2 ⟨hm j hj hz,U1 (ld k qk) hd (ud j hz) (sp k hk qk).1 (sp j hj hz).2⟩;obtain⟨k,hk,qk,hm⟩:=FD (Q:=fun k=>(g.get k).Z≠(g.get i).Z) (le:=fun a b=>Y2 (ucS g i p b) (ucS g i p a)) (fun a b _ _=>qjG _ _) (fun a b c ha hb hc h1 h2=>U1 (ud c hc) (ud b hb) (ud a ha) h2 h1) g.len hn;refine⟨ucS g i p k,⟨cand hi hk (qjV qk) hp (by split<;>simp),λj hj=>?_⟩,ud k qk,ue1 k qk,(sp k hk qk).2⟩;by_cases hz:(g.get j).Z=(g.get i).Z;exact RQ hd (ud k qk) he (ue1 k qk) hz (ha j hj);exact(OT (ue1 k qk) hz).2 ⟨U1 (ld j hz) hd (ud k qk) (sp j hj hz).1 (sp k hk qk).2,hm j hj hz⟩
theorem zBS{g:Sl ay}(hl:1<=g.len){s:straight}(ha:zK g s):∃d,0<=d/\zK g ⟨s.bT,s.start-d,s.den⟩/\∃i,i<g.len/\ik ⟨s.bT,s.start-d,s.den⟩ (g.get i).Z=(g.get i).Low*s.den:=by
 obtain⟨k,hk,_,hm⟩:=FD (Q:=λ_=>True) (le:=λa b=>ik s (g.get b).Z-(g.get b).Low*s.den<=ik s (g.get a).Z-(g.get a).Low*s.den) (λa b _ _=>qjG _ _) (λa b c _ _ _ h1 h2=>jq3 h2 h1) g.len ⟨0,hl,trivial⟩;have hk2:=xO ha hk;refine⟨ik s (g.get k).Z-(g.get k).Low*s.den,omY,λj hj=>dP ?_,k,hk,by unfold ik;simp only;omega⟩;have h1:=hm j hj trivial;have h2:=xO ha hj;unfold ik at *;simp only;omega
theorem zBT{g:Sl ay}(hl:1<=g.len){s:straight}(ha:zK g s):∃d,0<=d/\zK g ⟨s.bT,s.start+d,s.den⟩/\∃i,i<g.len/\ik ⟨s.bT,s.start+d,s.den⟩ (g.get i).Z=(g.get i).High*s.den:=by
 obtain⟨k,hk,_,hm⟩:=FD (Q:=λ_=>True) (le:=λa b=>(g.get b).High*s.den-ik s (g.get b).Z<=(g.get a).High*s.den-ik s (g.get a).Z) (λa b _ _=>qjG _ _) (λa b c _ _ _ h1 h2=>jq3 h2 h1) g.len ⟨0,hl,trivial⟩;have hk2:=xO ha hk;refine⟨(g.get k).High*s.den-ik s (g.get k).Z,omY,λj hj=>dP ?_,k,hk,by unfold ik;simp only;omega⟩;have h1:=hm j hj trivial;have h2:=xO ha hj;unfold ik at *;simp only;omega
theorem Y3{g:Sl ay}(nf:¬Y1 g)(i:Nat)(hi:i<g.len):∃k,k<g.len/\(g.get k).Z≠(g.get i).Z:=by
 by_cases h:∃k,k<g.len/\(g.get k).Z≠(g.get i).Z;exact h;have all:∀k,k<g.len→(g.get k).Z=(g.get i).Z:=fun k hk=>qdM fun e=>h ⟨k,hk,e⟩;exact absurd (λk hk=>(all k hk).trans (all 0 omY).symm) nf
theorem zec{a b:straight}{z p h:Int}(ha:ik a z=p*a.den)(hb:ik b z=p*b.den)(hs:Y2 a b)(hh:z<=h):ik a h*b.den<=ik b h*a.den:=by
 have y:=KO hs (show 0<=h-z by omega);unfold ik at *;have e1:a.start=p*a.den-a.bT*z:=by omega
 have e2:b.start=p*b.den-b.bT*z:=by omega
 rw[e1,e2];clear ha hb hs e1 e2
 grind
theorem zed{a b:straight}{z p h:Int}(ha:ik a z=p*a.den)(hb:ik b z=p*b.den)(hs:Y2 a b)(hh:h<=z):ik b h*a.den<=ik a h*b.den:=by
 have y:=KO hs (show 0<=z-h by omega);unfold ik at *;have e1:a.start=p*a.den-a.bT*z:=by omega
 have e2:b.start=p*b.den-b.bT*z:=by omega
 rw[e1,e2];clear ha hb hs e1 e2
 grind
theorem lp{g:Sl ay}(hl:1≤g.len)(nf:¬Y1 g){s:straight}(hd:0<s.den)(ha:zK g s) :
  (∀h,(∃c,uj g c/\ik c h*s.den<=ik s h*c.den)/\∃c,uj g c/\ik s h*c.den<=ik c h*s.den)/\(∃c,uj g c/\Y2 c s)/\∃c,uj g c/\Y2 s c:=by
 obtain⟨d,d0,da,i,hi,di⟩:=zBS hl ha;obtain⟨e,e0,ea,j,hj,ej⟩:=zBT hl ha;obtain⟨⟨c1,c1c,c1d,c1p,c1s⟩,⟨c2,c2c,c2d,c2p,c2s⟩⟩:=rot (s:=⟨s.bT,s.start-d,s.den⟩) hd da hi (.inl rfl) di (Y3 nf i hi);obtain⟨⟨f1,f1c,f1d,f1p,f1s⟩,⟨f2,f2c,f2d,f2p,f2s⟩⟩:=rot (s:=⟨s.bT,s.start+e,s.den⟩) hd ea hj (.inr rfl) ej (Y3 nf j hj);have lo:∀{c:straight}{h:Int},0<c.den->ik c h*s.den<=ik ⟨s.bT,s.start-d,s.den⟩ h*c.den->ik c h*s.den<=ik s h*c.den:=fun {c h} pc k=>by
  have:=qj9 d0 (xY pc);unfold ik at *;simp only at k
  grind
 have jY:∀{c:straight}{h:Int},0<c.den->ik ⟨s.bT,s.start+e,s.den⟩ h*c.den<=ik c h*s.den->ik s h*c.den<=ik c h*s.den:=fun {c h} pc k=>by
  have:=qj9 e0 (xY pc);unfold ik at *;simp only at k
  grind
 refine⟨λh=>⟨?_,?_⟩,⟨c1,c1c,c1s⟩,⟨c2,c2c,c2s⟩⟩;rcases qjG (g.get i).Z h with k|k
 exact⟨c1,c1c,lo c1d (zec (b:=⟨s.bT,s.start-d,s.den⟩) c1p di c1s k)⟩;exact⟨c2,c2c,lo c2d (zed (a:=⟨s.bT,s.start-d,s.den⟩) di c2p c2s k)⟩;rcases qjG (g.get j).Z h with k|k
 exact⟨f2,f2c,jY f2d (zec (a:=⟨s.bT,s.start+e,s.den⟩) ej f2p f2s k)⟩;exact⟨f1,f1c,jY f1d (zed (b:=⟨s.bT,s.start+e,s.den⟩) f1p ej f1s k)⟩
def tC(lt:aP→aP→Bool)(f:Nat→aP):Nat→aP|0=>f 0|n+1=>cond (lt (f n) (tC lt f n)) (f n) (tC lt f n)
theorem zb2{lt:aP→aP→Bool}{Q:aP→Prop}{f:Nat→aP}(irr:∀a,Q a→lt a a=false)(tr:∀a b c,Q a→Q b→Q c→lt a b=true→lt b c=true→lt a c=true) :
  ∀n,(∀i,i<n+1->Q (f i))->(∃i,i<n+1/\tC lt f (n+1)=f i)/\∀j,j<n+1->lt (f j) (tC lt f (n+1))=false
 | 0,hq=>by
  have e:tC lt f 1=f 0:=by simp only[tC];cases lt (f 0) (f 0)<;>rfl
  rw[e];exact⟨⟨0,omY,rfl⟩,λj hj=>by rw[show j=0 by omega];exact irr _ (hq 0 omY)⟩
 | n+1,hq=>by
  obtain⟨⟨i,hi,e⟩,h⟩:=zb2 irr tr n λi hi=>hq i omY;have qe:Q (tC lt f (n+1)):=by rw[e];exact hq i omY
  rw[tC];cases hl:lt (f (n+1)) (tC lt f (n+1))with
  | true =>
   rw[dF];refine⟨⟨n+1,omY,rfl⟩,λj hj=>?_⟩;by_cases ej:j=n+1;rw[ej];exact irr _ (hq _ omY)
   ·cases hx:lt (f j) (f (n+1))with|false=>rfl|true=>rw[<- h j omY,tr _ _ _ (hq j omY) (hq (n+1) omY) qe hx hl]
  | false =>
   rw[dL];refine⟨⟨i,omY,e⟩,λj hj=>?_⟩;by_cases ej:j=n+1;rw[ej];exact hl;exact h j omY
def ltB(a b:aP):Bool:=decide (cmF a b<0)
def gtB(a b:aP):Bool:=decide (cmF a b>0)
theorem FH{a b:aP}:gtB a b=true↔AC b a:=by
 unfold gtB;rw[oD,<- zl8];omega
theorem FI{a b:aP}:ltB a b=true↔AC a b:=by
 unfold ltB;rw[oD,zl7]
def Jm(z:Int)(s:straight):aP:=⟨ik s z,s.den⟩
def zJN(s:straight):aP:=⟨s.bT,s.den⟩
def loG(g:Sl ay)(F:straight->aP):aP:=tC ltB (λi=>F ((jg g).cO.get i)) (jD g).length
def hiG(g:Sl ay)(F:straight->aP):aP:=tC gtB (λi=>F ((jg g).cO.get i)) (jD g).length
abbrev loF(g:Sl ay)(z:Int):aP:=loG g (Jm z)
abbrev hiF(g:Sl ay)(z:Int):aP:=hiG g (Jm z)
theorem zL{g:Sl ay}(G:dh g){i:Nat}(h:i<(jD g).length):uj g ((jg g).cO.get i):=by
 rw[wI g h];exact KC G (VP _)
theorem zmi{g:Sl ay}(G:dh g)(F:straight->aP)(hF:∀s,uj g s->0<(F s).bK)(h:0<(jD g).length):(∃s,uj g s/\loG g F=F s)/\∀s∈jD g,¬AC (F s) (loG g F):=by
  obtain⟨n,hn⟩:∃n,(jD g).length=n+1:=⟨(jD g).length-1,omY⟩
  have := zb2 (lt := ltB) (Q := fun a => 0 < a.bK) (f := fun i => F ((jg g).cO.get i)) (fun a _ => by cases e : ltB a a with | false => rfl | true => exact absurd (FI.1 e) UQ)
    (λa b c ha hb hc h1 h2=>FI.2 (zd6 ha hb hc (FI.1 h1) (FI.1 h2))) n λi hi=>hF _ (zL G (i:=i) omY)
  unfold loG;rw[hn];obtain⟨⟨i,hi,e⟩,h2⟩:=this;refine⟨⟨_,zL G (i:=i) omY,e⟩,λs hs hl=>?_⟩;obtain⟨j,hj,rfl⟩:=qdV hs;have:=h2 j omY;rw[wI g hj]at this;rw[FI.2 hl]at this;cases this
theorem zmj{g:Sl ay}(G:dh g)(F:straight->aP)(hF:∀s,uj g s->0<(F s).bK)(h:0<(jD g).length):(∃s,uj g s/\hiG g F=F s)/\∀s∈jD g,¬AC (hiG g F) (F s):=by
  obtain⟨n,hn⟩:∃n,(jD g).length=n+1:=⟨(jD g).length-1,omY⟩
  have := zb2 (lt := gtB) (Q := fun a => 0 < a.bK) (f := fun i => F ((jg g).cO.get i)) (fun a _ => by cases e : gtB a a with | false => rfl | true => exact absurd (FH.1 e) UQ)
    (λa b c ha hb hc h1 h2=>FH.2 (zd6 hc hb ha (FH.1 h2) (FH.1 h1))) n λi hi=>hF _ (zL G (i:=i) omY)
  unfold hiG;rw[hn];obtain⟨⟨i,hi,e⟩,h2⟩:=this;refine⟨⟨_,zL G (i:=i) omY,e⟩,λs hs hl=>?_⟩;obtain⟨j,hj,rfl⟩:=qdV hs;have:=h2 j omY;rw[wI g hj]at this;rw[FH.2 hl]at this;cases this
theorem zeg{g:Sl ay}(G:dh g)(z:Int)(s:straight)(h:uj g s):0<(Jm z s).bK:=by have:=(kP G h).2.2;show 0<s.den;omega
theorem zmk{g:Sl ay}(G:dh g)(z:Int)(h:0<(jD g).length):(∃s,uj g s/\loF g z=Jm z s)/\∀s∈jD g,¬AC (Jm z s) (loF g z):=zmi G _ (zeg G z) h
theorem zml{g:Sl ay}(G:dh g)(z:Int)(h:0<(jD g).length):(∃s,uj g s/\hiF g z=Jm z s)/\∀s∈jD g,¬AC (hiF g z) (Jm z s):=zmj G _ (zeg G z) h
def cmpL:List Int→List Int→Int|[],[]=>0|[],_::_=>-1|_::_,[]=>1|a::x,b::y=>cond (qi a b != 0) (qi a b) (cmpL x y)
theorem C9{a b:Int}:qi a b=0↔a=b:=by
 unfold qi;by_cases h:a<b;rw[dP h];simp;omega;rw [dY h];by_cases k:a>b;rw[dP k];simp;omega;rw[dY k];simp;omega
theorem zeh{a b:Int}:qi a b<0↔a<b:=by
 unfold qi;by_cases h:a<b;rw[dP h];simp[h];rw [dY h];cases decide (a>b)<;>simp[h]
theorem pG:∀{x y:List Int},cmpL x y<0↔(∃b y',x=[]∧y=b::y')∨∃a x' b y',x=a::x'∧y=b::y'∧(a<b∨a=b∧cmpL x' y'<0)
  | [],[]=>by simp[cmpL]
  | [],b::y=>by simp[cmpL]
  | a::x,[]=>by simp[cmpL]
  | a::x,b::y=>by
    simp only[cmpL];have e:((∃b' y',a::x=[]/\b::y=b'::y')\/∃a' x' b' y',a::x=a'::x'/\b::y=b'::y'/\(a'<b'\/a'=b'/\cmpL x' y'<0))↔(a<b\/a=b/\cmpL x y<0):=by
      constructor;rintro(⟨b',y',h,_⟩|⟨a',x',b',y',h1,h2,h⟩);cases h;cases h1;cases h2;exact h;intro h;exact .inr ⟨a,x,b,y,rfl,rfl,h⟩
    rw[e];by_cases h:a=b;subst h;rw[show(qi a a != 0)=false by rw[C9.2 rfl];rfl];simp;rw [show(qi a b != 0)=true by simpa [C9]using h,dF,zeh];simp[h]
theorem zb3:∀x y:List Int,-1≤cmpL x y∧cmpL x y≤1
  | [],[]=>by simp[cmpL]
  | [],b::y=>by simp[cmpL]
  | a::x,[]=>by simp[cmpL]
  | a::x,b::y=>by
    simp only[cmpL];have:=zb3 x y;cases qi a b != 0 with
    | true =>
      rw[dF];unfold qi;cases decide (a<b)<;>cases decide (a>b)<;>simp
    | false=>exact this
theorem lZ:∀{x y:List Int},cmpL x y=0↔x=y
  | [],[]=>by simp[cmpL]
  | [],b::y=>by simp[cmpL]
  | a::x,[]=>by simp[cmpL]
  | a::x,b::y=>by
    simp only[cmpL];by_cases h:a=b;subst h;rw[show(qi a a != 0)=false by rw[C9.2 rfl];rfl,dL,lZ];simp;rw[show(qi a b != 0)=true by simpa [C9]using h,dF,C9];simp[h]
theorem wJ(x:List Int):¬cmpL x x<0:=by rw[lZ.2 rfl];omega
theorem BO:∀{x y z:List Int},cmpL x y<0→cmpL y z<0→cmpL x z<0
  | x,y,z,h1,h2=>by
    rw[pG]at h1 h2;rcases h1 with⟨b,y',rfl,rfl⟩|⟨a,x',b,y',rfl,rfl,h1⟩
    rcases h2 with⟨c,z',h,_⟩|⟨b',y'',c,z',h,rfl,h2⟩
    cases h;exact pG.2 (.inl ⟨c,z',rfl,rfl⟩);rcases h2 with⟨c,z',h,_⟩|⟨b',y'',c,z',h,rfl,h2⟩
    cases h;cases h;refine pG.2 (.inr ⟨a,x',c,z',rfl,rfl,?_⟩);rcases h1 with h1|⟨rfl,h1⟩<;>rcases h2 with h2|⟨rfl,h2⟩
    exact .inl omY;exact .inl h1;exact .inl h2;exact .inr ⟨rfl,BO h1 h2⟩
theorem Jn:∀{x y:List Int},x≠y→cmpL x y<0∨cmpL y x<0
  | [],[],h=>absurd rfl h
  | [],b::y,_=>.inl (by simp[cmpL])
  | a::x,[],_=>.inr (by simp[cmpL])
  | a::x,b::y,h=>by
    rcases jqm a b with k|k|k
    exact .inl (pG.2 (.inr ⟨a,x,b,y,rfl,rfl,.inl k⟩));subst k;have:x≠y:=λe=>h (by rw[e]);rcases Jn this with k|k
    exact .inl (pG.2 (.inr ⟨a,x,a,y,rfl,rfl,.inr ⟨rfl,k⟩⟩));exact .inr (pG.2 (.inr ⟨a,y,a,x,rfl,rfl,.inr ⟨rfl,k⟩⟩));exact .inr (pG.2 (.inr ⟨b,y,a,x,rfl,rfl,.inl k⟩))
def fB(w:Sl Int):List Int:=(List.range w.len).map w.get
theorem fC(w:Sl Int):(fB w).length=w.len:=by simp[fB]
def ztS(a b:af):Int:=cond (qi a.View b.View != 0) (qi a.View b.View) (cond (cmpL (fB a.Hits) (fB b.Hits) != 0) (cmpL (fB a.Hits) (fB b.Hits)) (cmpL (fB a.bu) (fB b.bu)))
def Ie(a b:af):Prop:=a.View<b.View\/a.View=b.View/\(cmpL (fB a.Hits) (fB b.Hits)<0\/fB a.Hits=fB b.Hits/\cmpL (fB a.bu) (fB b.bu)<0)
theorem ztT{a b:af}:ztS a b<0↔Ie a b:=by
 unfold ztS Ie;by_cases h:a.View=b.View;rw [show(qi a.View b.View != 0)=false by rw [C9.2 h];rfl,dL];by_cases k:fB a.Hits=fB b.Hits;rw [show(cmpL (fB a.Hits) (fB b.Hits) != 0)=false by rw [lZ.2 k];rfl,dL,lZ.2 k];simp[h,k];rw [show(cmpL (fB a.Hits) (fB b.Hits) != 0)=true by simpa [lZ]using k,dF];simp[h,k];rw [show(qi a.View b.View != 0)=true by simpa [C9]using h,dF,zeh];simp[h]
theorem zei(a:af):¬Ie a a:=λh=>by
 rcases h with h|⟨_,h|⟨_,h⟩⟩
 omega;exact wJ _ h;exact wJ _ h
theorem zb4{a b c:af}(h:Ie a b)(k:Ie b c):Ie a c:=by
 rcases h with h|⟨h,h2⟩<;>rcases k with k|⟨k,k2⟩
 exact .inl omY;exact .inl omY;exact .inl omY;refine .inr ⟨omY,?_⟩;rcases h2 with h2|⟨h2,h3⟩<;>rcases k2 with k2|⟨k2,k3⟩
 exact .inl (BO h2 k2);exact .inl (k2▸h2);exact .inl (h2▸k2);exact .inr ⟨h2.trans k2,BO h3 k3⟩
theorem zmm{a b:af}(h:Ie a b):¬Ie b a:=λk=>zei a (zb4 h k)
theorem zej{a b:af}(h:¬(a.View=b.View/\fB a.Hits=fB b.Hits/\fB a.bu=fB b.bu)):Ie a b\/Ie b a:=by
 rcases jqm a.View b.View with k|k|k
 exact .inl (.inl k);by_cases h1:fB a.Hits=fB b.Hits;have:fB a.bu≠fB b.bu:=fun e=>h ⟨k,h1,e⟩;rcases Jn this with h2|h2
 exact .inl (.inr ⟨k,.inr ⟨h1,h2⟩⟩);exact .inr (.inr ⟨k.symm,.inr ⟨h1.symm,h2⟩⟩);rcases Jn h1 with h2|h2
 exact .inl (.inr ⟨k,.inl h2⟩);exact .inr (.inr ⟨k.symm,.inl h2⟩);exact .inr (.inl k)
theorem zmn{a b:af}(h1:fB a.Hits=fB b.Hits)(h2:fB a.bu=fB b.bu)(ha:a.bu.len=a.Hits.len)(hb:b.bu.len=b.Hits.len):eH a=eH b:=by
 have l1:a.Hits.len=b.Hits.len:=by rw[<- fC,<- fC,h1]
 have key:∀t:af,t.bu.len=t.Hits.len->eH t=(fB t.Hits).zip (fB t.bu):=λt ht=>by
  unfold eH fB;rw[ht,List.zip_map']
 rw[key a ha,key b hb,h1,h2]
def Ig(a b:af):Bool:=(eH b).all (λp=>(eH a).contains p)&&(b.View==a.View)
theorem zmo{a b:af}:Ig a b=true↔(∀p∈eH b,p∈eH a)/\b.View=a.View:=by
 unfold Ig;simp[yL]
theorem zmp{t u:af}{p:Int×Int}(h1:u.Hits.len=t.Hits.len+1)(h2:∀j,j<t.Hits.len->u.Hits.get j=t.Hits.get j/\u.bu.get j=t.bu.get j)(h3:u.Hits.get t.Hits.len=p.1/\u.bu.get t.Hits.len=p.2):eH u=eH t++[p]:=by
 unfold eH;rw[h1,qjE,Qn];congr 1;exact qdo λi hi=>by
  have:=h2 i (KQ.1 hi);rw[this.1,this.2]
 show [(u.Hits.get t.Hits.len,u.bu.get t.Hits.len)]=[p];rw[h3.1,h3.2]
def sQ(s:straight)(g:Sl ay):Nat→Sl Int|0=>⟨0,λ_=>0⟩|i+1=>cond (qQ s (g.get i)) (mM (sQ s g i) (i:Int)) (sQ s g i)
theorem FK(s:straight)(g:Sl ay):∀i,(sQ s g i).len≤i∧((sQ s g i).len=i↔∀j,j<i→qQ s (g.get j)=true)∧(0<(sQ s g i).len↔∃j,j<i∧qQ s (g.get j)=true)
  | 0=>⟨jP _,⟨λ_ j hj=>absurd hj (Wi j),λ_=>rfl⟩,⟨λh=>absurd h (Nat.lt_irrefl 0),λ⟨j,hj,_⟩=>absurd hj (Wi j)⟩⟩
  | i+1=>by
    obtain⟨a,b,c⟩:=FK s g i;simp only[sQ];cases h:qQ s (g.get i)with
    | true =>
      show(sQ s g i).len+1<=i+1/\((sQ s g i).len+1=i+1↔_)/\(0<(sQ s g i).len+1↔_);refine⟨omY,⟨λe j hj=>?_,λe=>?_⟩,⟨λ_=>⟨i,omY,h⟩,λ_=>by omega⟩⟩;by_cases k:j=i;rw[k];exact h;exact b.1 omY j omY;rw[b.2 λj hj=>e j omY]
    | false =>
      show(sQ s g i).len<=i+1/\((sQ s g i).len=i+1↔_)/\(0<(sQ s g i).len↔_);refine⟨omY,⟨λe=>by omega,λe=>by rw[e i omY]at h;cases h⟩,c.trans ⟨λ⟨j,h1,h2⟩=>⟨j,omY,h2⟩,λ⟨j,h1,h2⟩=>⟨j,?_,h2⟩⟩⟩;have:j≠i:=λe=>by rw[e,h]at h2;cases h2
      omega
abbrev Q57(C:Line×Sl ay->ae (Sl Int)):Prop:=∀s (g:Sl ay),yN s->g.len<=1000->(∀i,i<g.len->ig (g.get i))->C (fA s,g)=.ok (sQ s g g.len)
theorem s57{E:E57}(N:Big E.N)(zEL:zBO E.c116):Q57 (F57 E):=λs g S hl G=>ae.ext λk=>by
 rw[e57,aX];refine lq (X:=λn i=>Yd E n (fA s) g (i:Int) (sQ s g i) k) (m:=g.len) (λn i hi=>?_) (λn=>?_) _ (by have:=N;omega);rw [zwD,dP omY,dF,bf omY,fO,zEL s _ S (G i hi),aX,bF omY,ja (by have:=(FK s g i).1;omega) omY];simp only[sQ];cases qQ s (g.get i)<;>rfl;rw[zwD,dY omY];rfl
def eL:Sl Line:=⟨0,λ_=>⟨⟨0,0⟩,⟨0,0⟩⟩⟩
def BV(v:Sl Line)(l:List straight):Sl Line:=(l.map fA).foldl mM v
theorem wK(v:Sl Line)(l:List straight):(BV v l).len=v.len+l.length:=by unfold BV;rw[uY,VM]
theorem zM(v:Sl Line)(a b:List straight):BV v (a++b)=BV (BV v a) b:=by unfold BV;rw[Qn,jql]
def qR(g:Sl ay):Sl Line:=BV eL (cst g)
theorem zek(g:Sl ay):(qR g).len=(cst g).length:=by unfold qR;rw[wK];show 0+_=_;omega
theorem AP(g:Sl ay){i:Nat}(h:i<(cst g).length):(qR g).get i=fA (cst g)[i]:=by
 have:=BJ ((cst g).map fA) eL i (fA (cst g)[i]) (by rw[qde,yC h];rfl);rw[show(eL:Sl Line).len+i=i by show 0+i=i;omega]at this;exact this
abbrev ztU(C:Sl ay->ae (Sl Line)):Prop:=∀g,dh g->C g=.ok (qR g)
theorem zX4{E:Yz}(N:Big E.N)(zs7:zBP E.znU)(h55:Q55 E.c55):ztU (zs6 E):=λg G=>ae.ext λk=>by
 have hg:=G.2;have hN:=N;have inn:∀n0 n1 (i j:Nat) (w:Sl Line),i<g.len->j<g.len->w.len<=100000->H9 E n0 n1 E.N g (i:Int) (j:Int) 0 w k=H8 E n0 n1 g (i:Int) ((j+1:Nat):Int) (BV w (CZ (g.get i) (g.get j))) k:=by
  intro n0 n1 i j w hi hj hw;have gi:=G.1 i hi;have gj:=G.1 j hj;obtain⟨n,hn⟩:∃n,E.N=n+1+1+1+1+1:=⟨E.N-5,omY⟩
  have st:∀n (v:Int) (w:Sl Line) (p q:Int),(0<=v/\v<4)->w.len<=200000->(g.get i).Z≠(g.get j).Z->p=cond (aJ (v.tdiv 2)==0) (g.get i).Low (g.get i).High->q=cond (v.tmod 2==0) (g.get j).Low (g.get j).High->(-1000000<=p/\p<=1000000)->(-1000000<=q/\q<=1000000) ->
    H9 E n0 n1 (n+1) g (i:Int) (j:Int) v w k=H9 E n0 n1 n g (i:Int) (j:Int) (v+1) (BV w [Gl (g.get i).Z p (g.get j).Z q]) k:=by
   intro n v w p q hv hw hz hp hq hpb hqb;rw[zbV,dP (show v<4 by omega),dF];simp only[bf (show 0<=(i:Int)/\(i:Int)<(g.len:Int)by omega),bf (show 0<=(j:Int)/\(j:Int)<(g.len:Int)by omega)];rw[fO,fO,show((g.get i).Z != (g.get j).Z)=true by simpa using hz,dF,zs7,aX,zs7,aX,<- hp,<- hq,h55 _ _ _ _ gi.1 gj.1 hpb hqb hz,aX,ja omY omY,aT omY omY];rfl
  unfold CZ;rw[hn];by_cases hz:(g.get i).Z=(g.get j).Z;rw [eU hz,zbV,dP omY,dF,bf omY,bf omY,fO,fO,show((g.get i).Z != (g.get j).Z)=false by simpa using hz,dL,bF omY];rfl;rw [eY hz]
  rw[st _ 0 w (g.get i).Low (g.get j).Low omY omY hz rfl rfl (qP gi) (qP gj),
   st _ (0+1) _ (g.get i).Low (g.get j).High omY (by rw[wK];simp only[qp,Wj];omega) hz rfl rfl (qP gi) (sN gj),<- zM,
   st _ (0+1+1) _ (g.get i).High (g.get j).Low omY (by rw[wK];simp only[Py,qp,Wj];omega) hz rfl rfl (sN gi) (qP gj),<- zM,
   st _ (0+1+1+1) _ (g.get i).High (g.get j).High omY (by rw[wK];simp only[Py,qp,Wj];omega) hz rfl rfl (sN gi) (sN gj),<- zM,zbV,dY omY,dL,bF omY]
  rfl
 have mid:∀n0 (i:Nat),i<g.len->∀(m j n1:Nat)(w:Sl Line),j+m=g.len->m<n1->w.len+4*m<=100000->H8 E n0 n1 g (i:Int) (j:Int) w k=Oz E n0 g ((i+1:Nat):Int) (BV w (Fh g i m j)) k:=by
  intro n0 i hi m
  induction m with
  | zero =>
   intro j n1 w hj hn hw;obtain⟨n1,rfl⟩:∃n',n1=n'+1:=⟨n1-1,omY⟩;rw[zlE,dY omY,dL,bF omY];rfl
  | succ m ih =>
   intro j n1 w hj hn hw;obtain⟨n1,rfl⟩:∃n',n1=n'+1:=⟨n1-1,omY⟩;have:=YR (g.get i) (g.get j);rw[zlE,dP omY,dF,inn n0 n1 i j w hi omY omY,ih (j+1) n1 _ omY omY (by rw[wK];omega),<- zM];rfl
 have out:∀(m i n:Nat)(w:Sl Line),i+m=g.len->m<n->w.len+96*m<=10000->Oz E n g (i:Int) w k=k (BV w (P9 g m i)):=by
  intro m
  induction m with
  | zero =>
   intro i n w hi hn hw;obtain⟨n,rfl⟩:∃n',n=n'+1:=⟨n-1,omY⟩;rw[zlD,dY omY];rfl
  | succ m ih =>
   intro i n w hi hn hw;obtain⟨n,rfl⟩:∃n',n=n'+1:=⟨n-1,omY⟩;have:=YS g i (g.len-(i+1)) (i+1);rw[zlD,dP omY,dF,bF omY,mid n i omY (g.len-(i+1)) (i+1) E.N w omY omY omY,ih (i+1) n _ omY omY (by rw[wK];omega),<- zM];rfl
 rw[zW0,aX];exact out g.len 0 E.N eL omY omY (by show 0+_<=_;omega)
abbrev zBW(C:Line×Sl ay->ae Bool):Prop:=∀s g,yN s->dh g->∃b,C (fA s,g)=.ok b
theorem zX5{E:zgr}(N:Big E.N)(zbC:ztO E.VA):zBW (ztr E):=λs g S G=>by
 have hg:=G.2;exact⟨_,ae.ext λk=>by
  rw[e248,aX];refine(loopA (L:=λn v=>UM E n (fA s) g v k) (p:=λi=>!(plN (fA s) (g.get i).Z==aJ ((g.get i).Low*PE (fA s)))) (m:=g.len) (fin:=k false) (stop:=k true) omY (λn i hi=>?_) (λn=>?_) _ (by have:=N;omega)).trans (kc k _ _ _);have gi:=G.1 i hi;rw[zlP,dP omY,dF,bf omY,fO,zbC s _ S (by have:=gi.1;omega),aX,bf omY];show cond (plN (fA s) (g.get i).Z==aJ ((g.get i).Low*PE (fA s))) _ _=_;cases plN (fA s) (g.get i).Z==aJ ((g.get i).Low*PE (fA s))<;>rfl;rw[zlP,dY omY];rfl⟩
def leB(a b:aP):Bool:=decide (aJ (a.Num*b.bK)<aJ (b.Num*a.bK))
abbrev Q56(C:aP×aP->ae Bool):Prop:=∀a b,C (a,b)=.ok (leB a b)
theorem s56{E:E56}:Q56 (F56 E):=λa b=>ae.ext λk=>by rw[e56,aX];rfl
abbrev ztV(C:Line×Line×Sl ay->ae Bool):Prop:=∀s t g,yN s->yN t->dh g->∃b,C (fA s,fA t,g)=.ok b
theorem zX6{E:zs8}(zta:zBW E.zcm)(h56:Q56 E.c56):ztV (zs9 E):=λs t g S T G=>by
 obtain⟨a,ha⟩:=zta s g S G;obtain⟨b,hb⟩:=zta t g T G;exact⟨cond (a != b) a (cond a (leB (fA s).dI (fA t).dI) (leB (fA t).dI (fA s).dI)),ae.ext λk=>by
  rw[e226,ha,hb,aX,aX,aX,aX,h56,h56,aX,aX,kc k,kc k,aX]⟩
def LnS(g:Sl ay)(v:Sl Line):Prop:=∀i,i<v.len->∃s,s∈cst g/\v.get i=fA s
abbrev zBX(C:Sl ay->ae (Sl Line)):Prop:=∀g,dh g->∃L:Sl Line,C g=.ok L/\(0<L.len↔∃s∈cst g,zK g s)/\L.len<=2304/\LnS g L
theorem zX7{E:P7}(N:Big E.N)(zlo:ztU E.znS)(h57:Q57 E.c57)(zlp:ztV E.c226):zBX (zlm E):=λg G=>by
 have hg:=G.2;have hN:=N;have hc:=Ky G;have hcd:=zek g;have pos:∀n0 (i:Nat),i<(cst g).length->∀(v:Sl Line),LnS g v->v.len<=2304->∃a,a<=v.len/\∀(A:Type)(k:Sl Line->Option A),oZ E n0 E.N g v (qR g) (i:Int) 0 k=lY E n0 g v (qR g) (i:Int) (a:Int) k:=by
  intro n0 i hi v hv hl;have key:∀(m j n1:Nat),j+m=v.len->m<n1->∃a,a<=v.len/\∀(A:Type)(k:Sl Line->Option A),oZ E n0 n1 g v (qR g) (i:Int) (j:Int) k=lY E n0 g v (qR g) (i:Int) (a:Int) k:=by
   intro m
   induction m with
   | zero =>
    intro j n1 hj hn;obtain⟨n1,rfl⟩:∃n',n1=n'+1:=⟨n1-1,omY⟩;exact⟨j,omY,λA k=>by rw[UH,dY omY];rfl⟩
   | succ m ih =>
    intro j n1 hj hn;obtain⟨n1,rfl⟩:∃n',n1=n'+1:=⟨n1-1,omY⟩;obtain⟨s,hs,es⟩:=hv j omY;obtain⟨b,hb⟩:=zlp s (cst g)[i] g (sO G hs) (sO G (VP hi)) G;have st:∀(A:Type)(k:Sl Line->Option A),oZ E n0 (n1+1) g v (qR g) (i:Int) (j:Int) k=cond b (oZ E n0 n1 g v (qR g) (i:Int) ((j+1:Nat):Int) k) (lY E n0 g v (qR g) (i:Int) (j:Int) k):=λA k=>by
     rw[UH,dP omY,dF,bf omY,bf omY,fO,fO,es,AP g hi,hb,aX,bF omY]
    cases b with
    | true =>
     obtain⟨a,h1,h2⟩:=ih (j+1) n1 omY omY;exact⟨a,h1,λA k=>by rw[st];exact h2 A k⟩
    | false=>exact⟨j,omY,λA k=>by rw[st];rfl⟩
  exact key v.len 0 E.N omY omY
 have key:∀(m i n:Nat)(v:Sl Line),i+m=(cst g).length->m<n->LnS g v->v.len<=i->∃L:Sl Line,(∀(A:Type)(k:Sl Line->Option A),jU E n g v (qR g) (i:Int) k=k L)/\(0<L.len↔0<v.len\/∃j,∃h:j<(cst g).length,i<=j/\zK g (cst g)[j])/\L.len<=(cst g).length/\LnS g L:=by
  intro m
  induction m with
  | zero =>
   intro i n v hi hn hv hl;obtain⟨n,rfl⟩:∃n',n=n'+1:=⟨n-1,omY⟩;exact⟨v,λA k=>by rw[UG,dY omY];rfl,⟨.inl,λh=>h.elim id λ⟨j,h1,h2,_⟩=>by omega⟩,omY,hv⟩
  | succ m ih =>
   intro i n v hi hn hv hl;obtain⟨n,rfl⟩:∃n',n=n'+1:=⟨n-1,omY⟩;have jY:i<(cst g).length:=by omega
   have S:=sO G (VP jY);have pl:=FK (cst g)[i] g g.len;have st:∀(A:Type)(k:Sl Line->Option A),jU E (n+1) g v (qR g) (i:Int) k=cond (decide (((sQ (cst g)[i] g g.len).len:Int)<(g.len:Int))) (jU E n g v (qR g) ((i+1:Nat):Int) k) (oZ E n E.N g v (qR g) (i:Int) 0 k):=λA k=>by
    rw[UG,dP omY,dF,bf omY,fO,AP g jY,h57 _ g S omY G.1,aX,bF omY]
   by_cases ha:zK g (cst g)[i];have e:(sQ (cst g)[i] g g.len).len=g.len:=pl.2.1.2 ha;obtain⟨a,a1,a2⟩:=pos n i jY v hv omY;have st2:∀(A:Type)(k:Sl Line->Option A),jU E (n+1) g v (qR g) (i:Int) k=lY E n g v (qR g) (i:Int) (a:Int) k:=λA k=>by rw[st,dY omY,dL,a2]
   have ins:∃v':Sl Line,(∀(A:Type)(k:Sl Line->Option A),CY E n g v (qR g) (i:Int) (a:Int) k=jU E n g v' (qR g) ((i+1:Nat):Int) k)/\v'.len=v.len+1/\LnS g v':=by
    refine⟨_,λA k=>by
     rw[zln,bf omY,ja omY omY,bf omY,ja omY omY,bf omY,ja omY omY,bF omY],?_,?_⟩
    show((((a:Int)-0).toNat+1)+((v.len:Int)-(a:Int)).toNat)=_;omega;intro q hq;have hq:q<((((a:Int)-0).toNat+1)+((v.len:Int)-(a:Int)).toNat):=hq;show ∃s,s∈cst g/\iR (((a:Int)-0).toNat+1) (iR ((a:Int)-0).toNat (xZ v.get 0) (λ_=>(qR g).get (i:Int).toNat)) (xZ v.get (a:Int).toNat) q=fA s;rw[jA];split;exact hv (q-(((a:Int)-0).toNat+1)+(a:Int).toNat) omY;rw [jA];split;rw[fO,AP g jY];exact⟨_,VP jY,rfl⟩;exact hv (q+0) omY
   obtain⟨v',i1,i2,i3⟩:=ins;have fin:∃v'':Sl Line,(∀(A:Type)(k:Sl Line->Option A),lY E n g v (qR g) (i:Int) (a:Int) k=jU E n g v'' (qR g) ((i+1:Nat):Int) k)/\0<v''.len/\v''.len<=i+1/\LnS g v'':=by
    by_cases h1:(a:Int)<(v.len:Int)
    ·have e3:∃B:Bool,∀(A:Type)(k:Sl Line->Option A),lY E n g v (qR g) (i:Int) (a:Int) k=cond B (jU E n g v (qR g) ((i+1:Nat):Int) k) (CY E n g v (qR g) (i:Int) (a:Int) k):=⟨_,λA k=>by
      rw[UI,dP h1,dF,bf omY,bf omY,bF omY]⟩
     obtain⟨B,e3⟩:=e3;cases B with|true=>exact⟨v,λA k=>by rw[e3];rfl,omY,omY,hv⟩|false=>exact⟨v',λA k=>by rw[e3];exact i1 A k,omY,omY,i3⟩
    exact⟨v',λA k=>by rw[UI,dY h1];exact i1 A k,omY,omY,i3⟩
   obtain⟨v'',f1,f2,f3,f4⟩:=fin;obtain⟨L,l1,l2,l3,l4⟩:=ih (i+1) n v'' omY omY f4 f3;exact⟨L,λA k=>by rw[st2,f1,l1],l2.trans ⟨λ_=>.inr ⟨i,jY,jP _,ha⟩,λ_=>.inl f2⟩,l3,l4⟩;have e:(sQ (cst g)[i] g g.len).len<g.len:=by
    rcases qdP (sQ (cst g)[i] g g.len).len g.len with h|h
    exact h;exact absurd (pl.2.1.1 omY) ha
   obtain⟨L,l1,l2,l3,l4⟩:=ih (i+1) n v omY omY hv omY;refine⟨L,λA k=>by rw[st,dP omY,dF,l1],l2.trans ⟨λh=>h.imp id λ⟨j,h1,h2,h3⟩=>⟨j,h1,omY,h3⟩,λh=>h.imp id λ⟨j,h1,h2,h3⟩=>⟨j,h1,?_,h3⟩⟩,l3,l4⟩;have:j≠i:=λe=>ha (by subst e;exact h3);omega
 obtain⟨L,l1,l2,l3,l4⟩:=key (cst g).length 0 E.N eL omY omY (λi hi=>absurd hi (Wi i)) (jP _);refine⟨L,ae.ext λk=>by rw[zJq,zlo g G,aX,aX];exact l1 _ k,l2.trans ⟨λh=>?_,λ⟨s,hs,ha⟩=>?_⟩,omY,l4⟩;rcases h with h|⟨j,h1,_,h3⟩
 exact absurd h (Nat.lt_irrefl 0);exact⟨_,VP h1,h3⟩;obtain⟨j,h1,rfl⟩:=qdV hs;exact .inr ⟨j,h1,Ad _,ha⟩
theorem RU{g:Sl ay}(G:dh g)(hf:gy g=false):jy g=true↔∃s∈cst g,zK g s:=by
 unfold jy;rw[hf,dL,oD];obtain⟨c1,c2,_⟩:=UO hf;constructor;intro h;obtain⟨a,b⟩:=c1 _ (VP (l:=jD g) (n:=0) omY);exact⟨_,a,(Fq G (sO G a)).1 b⟩;rintro⟨s,hs,ha⟩;obtain⟨x,hx,_⟩:=c2 s hs ((Fq G (sO G hs)).2 ha);have:=jqT hx;omega
abbrev zBY(C:Sl ay->ae Bool):Prop:=∀g,dh g->C g=.ok (jy g)
theorem zX8{E:zrI}(Og:zmc E.FW)(zk1:zBN E.c193)(zbK:zBX E.c194):zBY (zrJ E):=λg G=>ae.ext λk=>by
 have hg:=G.2;rw[zVI,Og g omY omY,aX,aX];cases hf:gy g with
 | true =>
  rw[dF,zk1 g omY omY,aX];unfold jy;rw[hf];rfl
 | false =>
  obtain⟨L,l1,l2,_⟩:=zbK g G;rw[dL,l1,aX];congr 1;rw[PN,RU G hf,<- l2,oD];omega
def OU(z:Int):Prop:=-100000<=z/\z<=200000
abbrev zBZ(C:straight×Int->ae aP):Prop:=∀s z,yN s->OU z->C (s,z)=.ok (Jm z s)
theorem zX9{E:zsO}:zBZ (zsP E):=λs z S hz=>ae.ext λk=>by
 rw[e203,aX,(zd2 S (z:=z) ⟨by have:=hz.1;omega,hz.2⟩).1];rfl
abbrev zB1(C:straight×Pt Int->ae aP):Prop:=∀s (z:Pt Int),yN s->OU z.v->C (s,z)=.ok (Jm z.v s)
theorem zYa{E:zsM}(zBb:zBZ E.c203):zB1 (zsN E):=λs z S hz=>ae.ext λk=>by rw[zWP,zBb _ _ S hz]
theorem U2{s:straight}(S:yN s){z:Int}(hz:OU z):(-600000000000<=(Jm z s).Num/\(Jm z s).Num<=600000000000)/\0<(Jm z s).bK/\(Jm z s).bK<=100000:=by
 have:=(zd2 S (z:=z) ⟨by have:=hz.1;omega,hz.2⟩).2;have:=S.2.2;exact⟨‹_›,by show 0<s.den;omega,by show s.den<=_;omega⟩
def OV(f:aP):Prop:=(-600000000000<=f.Num/\f.Num<=600000000000)/\0<f.bK/\f.bK<=100000
theorem RV{a b:aP}(h1:OV a)(h2:OV b):aJ (a.Num*b.bK)=a.Num*b.bK:=by
 have:=ru h1.1.1 h1.1.2 (xY h2.2.1) h2.2.2;exact aT omY omY
abbrev zB2(C:aP×aP->ae Bool):Prop:=∀a b,OV a->OV b->C (a,b)=.ok (ltB a b)
theorem zYb{E:zsc}(Ou:zl6 E.FX):zB2 (zsd E):=λa b h1 h2=>ae.ext λk=>by rw[e169,Ou _ _ (RV h1 h2) (RV h2 h1),aX,aX];rfl
abbrev zB3(C:aP×aP->ae Bool):Prop:=∀a b,OV a->OV b->C (a,b)=.ok (gtB a b)
theorem zYc{E:zsg}(Ou:zl6 E.FX):zB3 (zsh E):=λa b h1 h2=>ae.ext λk=>by rw[zWf,Ou _ _ (RV h1 h2) (RV h2 h1),aX,aX];rfl
abbrev zB4:=dM 169 Unit Unit ⊕ dM 171 Unit Unit
def nM:zB4→aP→aP→Bool|.inl _=>ltB|.inr _=>gtB
abbrev QEx{γ:Type}(i:γ->zB4)(C:Sl aP×γ->ae aP):Prop:=∀(l:Sl aP)(c:γ),0<l.len->l.len<=10000->(∀i,i<l.len->OV (l.get i))->C (l,c)=.ok (tC (nM (i c)) l.get l.len)
abbrev ztW(C:Sl aP×zB4->ae aP):Prop:=QEx id C
theorem Y4{lt:aP->aP->Bool}{f:Nat->aP}:tC lt f 1=f 0:=by simp only[tC];cases lt (f 0) (f 0)<;>rfl
theorem Y5{lt:aP->aP->Bool}{f:Nat->aP}{n:Nat}:tC lt f (n+1)=cond (lt (f n) (tC lt f n)) (f n) (tC lt f n):=rfl
theorem FM{lt:aP→aP→Bool}{f:Nat→aP}:∀n,∃i,i<n+1∧tC lt f (n+1)=f i
  | 0=>⟨0,omY,Y4⟩
  | n+1=>by
    obtain⟨i,hi,e⟩:=FM (lt:=lt) (f:=f) n;rw[Y5];cases lt (f (n+1)) (tC lt f (n+1))with|true=>exact⟨n+1,omY,rfl⟩|false=>exact⟨i,omY,e⟩
theorem zmq{E:wz}(N:Big E.N)(zA1:zB2 E.zuV):QEx .inl (EO E):=λl c h0 hl hp=>ae.ext λk=>by
 rw[zk7,aX,bf omY,bf omY,<- Y4 (lt:=nM (.inl c)) (f:=l.get)];have hm:(((l.len:Int)-1).toNat:Int)=((l.len-1:Nat):Int):=by omega
 refine(lq (X:=λn i=>oU E n l (i:Int) (tC (nM (.inl c)) l.get (i+1)) k) (m:=l.len-1) (fin:=k (tC (nM (.inl c)) l.get l.len)) (λn i hi=>?_) (λn=>?_) E.N (by have:=N;omega));obtain⟨j,hj,e⟩:=FM (lt:=nM (.inl c)) (f:=l.get) i;have hq:OV (tC (nM (.inl c)) l.get (i+1)):=by rw[e];exact hp j omY
 rw[Oq,hm,dP omY,dF,bf omY,fO,show xZ l.get 1 i=l.get (i+1)from rfl,zA1 _ _ (hp (i+1) omY) hq,aX,bF omY,Y5 (n:=i+1)];show cond (ltB (l.get (i+1)) (tC (nM (.inl c)) l.get (i+1))) _ _=oU E n l _ (cond (ltB (l.get (i+1)) (tC (nM (.inl c)) l.get (i+1))) _ _) k;cases ltB (l.get (i+1)) (tC (nM (.inl c)) l.get (i+1))<;>rfl;rw[Oq,hm,dY omY,show l.len-1+1=l.len by omega];rfl
theorem zmr{E:wB}(N:Big E.N)(zA2:zB3 E.c171):QEx .inr (EP E):=λl c h0 hl hp=>ae.ext λk=>by
 rw[zk9,aX,bf omY,bf omY,<- Y4 (lt:=nM (.inr c)) (f:=l.get)];have hm:(((l.len:Int)-1).toNat:Int)=((l.len-1:Nat):Int):=by omega
 refine(lq (X:=λn i=>oV E n l (i:Int) (tC (nM (.inr c)) l.get (i+1)) k) (m:=l.len-1) (fin:=k (tC (nM (.inr c)) l.get l.len)) (λn i hi=>?_) (λn=>?_) E.N (by have:=N;omega));obtain⟨j,hj,e⟩:=FM (lt:=nM (.inr c)) (f:=l.get) i;have hq:OV (tC (nM (.inr c)) l.get (i+1)):=by rw[e];exact hp j omY
 rw[Ot,hm,dP omY,dF,bf omY,fO,show xZ l.get 1 i=l.get (i+1)from rfl,zA2 _ _ (hp (i+1) omY) hq,aX,bF omY,Y5 (n:=i+1)];show cond (gtB (l.get (i+1)) (tC (nM (.inr c)) l.get (i+1))) _ _=oV E n l _ (cond (gtB (l.get (i+1)) (tC (nM (.inr c)) l.get (i+1))) _ _) k;cases gtB (l.get (i+1)) (tC (nM (.inr c)) l.get (i+1))<;>rfl;rw[Ot,hm,dY omY,show l.len-1+1=l.len by omega];rfl
theorem zYd{f:Sl aP×dM 169 Unit Unit->ae aP}{g:Sl aP×dM 171 Unit Unit->ae aP}(a:QEx .inl f)(b:QEx .inr g):ztW (ae.two f g):=λl c h0 hl hp=>by
 rcases c with c|c
 exact a l c h0 hl hp;exact b l c h0 hl hp
abbrev zB6(C:straight->ae aP):Prop:=∀s,C s=.ok (zJN s)
theorem zYe{E:zrk}:zB6 (zrl E):=λs=>ae.ext λk=>by rw[e120,aX];rfl
abbrev zgw:=dM 202 Unit (Pt Int) ⊕ dM 120 Unit Unit
def iU:zgw→straight→aP|.inl c=>Jm c.v.v|.inr _=>zJN
def okB:zgw→Prop|.inl c=>OU c.v.v|.inr _=>True
theorem U3{g:Sl ay}(G:dh g){c:zgw}(hc:okB c){s:straight}(h:uj g s):OV (iU c s):=by
 have S:=kP G h;rcases c with c|c
 exact U2 S hc;have:=S.1;have:=S.2.2;exact⟨by show -600000000000<=s.bT/\s.bT<=600000000000;omega,by show 0<s.den;omega,by show s.den<=100000;omega⟩
def yO(g:Sl ay)(F:straight→aP):Nat→Sl aP|0=>⟨0,λ_=>⟨0,0⟩⟩|i+1=>mM (yO g F i) (F ((jg g).cO.get i))
theorem iT(g:Sl ay)(F:straight→aP):∀n,(yO g F n).len=n|0=>rfl|n+1=>by show(yO g F n).len+1=n+1;rw[iT g F n]
theorem xP(g:Sl ay)(F:straight→aP):∀n i,i<n→(yO g F n).get i=F ((jg g).cO.get i)
  | n+1,i,h=>by
    show iR (yO g F n).len (yO g F n).get (λ_=>F ((jg g).cO.get n)) i=_;rw[jA,iT];by_cases e:i=n;rw[eU omY,e];rw[eY omY,xP g F n i omY]
theorem wL{lt:aP→aP→Bool}{f g:Nat→aP}:∀n,(∀i,i<n+1→f i=g i)→tC lt f (n+1)=tC lt g (n+1)|0,h=>by rw[Y4,Y4,h 0 omY]|n+1,h=>by rw[Y5,Y5 (f:=g) (n:=n+1),wL n λi hi=>h i omY,h (n+1) omY]
theorem zwS{g:Sl ay}(G:dh g){c:zgw}(hc:okB c)(h0:0<(jD g).length):OV (loG g (iU c))/\OV (hiG g (iU c)):=by
 obtain⟨n,hn⟩:∃n,(jD g).length=n+1:=⟨(jD g).length-1,omY⟩;have pok:∀i,i<n+1->OV (iU c ((jg g).cO.get i)):=λi hi=>U3 G hc (zL G omY);unfold loG hiG;rw[hn];obtain⟨i,i2,i3⟩:=FM (lt:=ltB) (f:=λi=>iU c ((jg g).cO.get i)) n;obtain⟨j,j2,j3⟩:=FM (lt:=gtB) (f:=λi=>iU c ((jg g).cO.get i)) n;exact⟨by rw[i3];exact pok i i2,by rw[j3];exact pok j j2⟩
abbrev QBd{γ:Type}(i:γ->zgw)(C:set×γ->ae (aP×aP)):Prop:=∀g (c:γ),dh g->okB (i c)->0<(jD g).length->C (jg g,c)=.ok (red (loG g (iU (i c))).Num (loG g (iU (i c))).bK,red (hiG g (iU (i c))).Num (hiG g (iU (i c))).bK)
abbrev zB8(C:set×zgw->ae (aP×aP)):Prop:=QBd id C
theorem zmt{E:vZ}(N:Big E.N)(zAG:zB1 E.zu3)(Ux:ztW E.c168)(rq:OG E.kQ):QBd .inl (EJ E):=λg c G hz h0=>ae.ext λk=>by
 have hl:=KA G;have hs:=Fp g;have pok:∀i,i<(jD g).length->OV (iU (.inl c) ((jg g).cO.get i)):=λi hi=>U3 G hz (zL G hi);obtain⟨pl,ph⟩:=zwS G hz h0;rw[zkR,aX];refine lq (X:=λn i=>xB E n (jg g) c (i:Int) (yO g (iU (.inl c)) i) k) (m:=(jD g).length) (λn i hi=>?_) (λm=>?_) _ (by have:=N;omega);rw[Oi,hs,dP omY,dF,bf omY,fO,zAG _ _ (kP G (zL G hi)) hz,aX,ja (by rw[iT];omega) omY,bF omY];rfl;obtain⟨n,hn⟩:∃n,(jD g).length=n+1:=⟨(jD g).length-1,by omega⟩;have hp:∀i,i<(yO g (iU (.inl c)) (jD g).length).len->OV ((yO g (iU (.inl c)) (jD g).length).get i):=λi hi=>by
  rw[iT]at hi;rw[xP _ _ _ _ hi];exact pok i hi
 rw[Oi,hs,dY omY,dL,Ux _ _ (by rw[iT];omega) (by rw[iT];omega) hp,aX,Ux _ _ (by rw[iT];omega) (by rw[iT];omega) hp,aX];have e1:tC (nM (.inl ⟨(),()⟩)) (yO g (iU (.inl c)) (jD g).length).get (yO g (iU (.inl c)) (jD g).length).len=loG g (iU (.inl c)):=by
  rw[iT];unfold loG;rw[hn];exact wL n λi hi=>xP _ _ _ _ hi
 have e2:tC (nM (.inr ⟨(),()⟩)) (yO g (iU (.inl c)) (jD g).length).get (yO g (iU (.inl c)) (jD g).length).len=hiG g (iU (.inl c)):=by
  rw[iT];unfold hiG;rw[hn];exact wL n λi hi=>xP _ _ _ _ hi
 show(E.kQ ((tC (nM (.inl ⟨(),()⟩)) (yO g (iU (.inl c)) (jD g).length).get (yO g (iU (.inl c)) (jD g).length).len).Num,(tC (nM (.inl ⟨(),()⟩)) (yO g (iU (.inl c)) (jD g).length).get (yO g (iU (.inl c)) (jD g).length).len).bK)).T (λr4=>(E.kQ ((tC (nM (.inr ⟨(),()⟩)) (yO g (iU (.inl c)) (jD g).length).get (yO g (iU (.inl c)) (jD g).length).len).Num,(tC (nM (.inr ⟨(),()⟩)) (yO g (iU (.inl c)) (jD g).length).get (yO g (iU (.inl c)) (jD g).length).len).bK)).T λr5=>k (r4,r5))=_;rw[e1,e2,rq _ _ (by have:=pl.1;omega) (by have:=pl.1;omega) pl.2.1 (by have:=pl.2.2;omega),aX,rq _ _ (by have:=ph.1;omega) (by have:=ph.1;omega) ph.2.1 (by have:=ph.2.2;omega),aX]
theorem zmu{E:wo}(N:Big E.N)(zAH:zB6 E.zuM)(Ux:ztW E.c168)(rq:OG E.kQ):QBd .inr (EL E):=λg c G hz h0=>ae.ext λk=>by
 have hl:=KA G;have hs:=Fp g;have pok:∀i,i<(jD g).length->OV (iU (.inr c) ((jg g).cO.get i)):=λi hi=>U3 G hz (zL G hi);obtain⟨pl,ph⟩:=zwS G hz h0;rw[zkT,aX];refine lq (X:=λn i=>xC E n (jg g) (i:Int) (yO g (iU (.inr c)) i) k) (m:=(jD g).length) (λn i hi=>?_) (λm=>?_) _ (by have:=N;omega);rw[Oj,hs,dP omY,dF,bf omY,fO,zAH,aX,ja (by rw[iT];omega) omY,bF omY];rfl;obtain⟨n,hn⟩:∃n,(jD g).length=n+1:=⟨(jD g).length-1,by omega⟩;have hp:∀i,i<(yO g (iU (.inr c)) (jD g).length).len->OV ((yO g (iU (.inr c)) (jD g).length).get i):=λi hi=>by
  rw[iT]at hi;rw[xP _ _ _ _ hi];exact pok i hi
 rw[Oj,hs,dY omY,dL,Ux _ _ (by rw[iT];omega) (by rw[iT];omega) hp,aX,Ux _ _ (by rw[iT];omega) (by rw[iT];omega) hp,aX];have e1:tC (nM (.inl ⟨(),()⟩)) (yO g (iU (.inr c)) (jD g).length).get (yO g (iU (.inr c)) (jD g).length).len=loG g (iU (.inr c)):=by
  rw[iT];unfold loG;rw[hn];exact wL n λi hi=>xP _ _ _ _ hi
 have e2:tC (nM (.inr ⟨(),()⟩)) (yO g (iU (.inr c)) (jD g).length).get (yO g (iU (.inr c)) (jD g).length).len=hiG g (iU (.inr c)):=by
  rw[iT];unfold hiG;rw[hn];exact wL n λi hi=>xP _ _ _ _ hi
 show(E.kQ ((tC (nM (.inl ⟨(),()⟩)) (yO g (iU (.inr c)) (jD g).length).get (yO g (iU (.inr c)) (jD g).length).len).Num,(tC (nM (.inl ⟨(),()⟩)) (yO g (iU (.inr c)) (jD g).length).get (yO g (iU (.inr c)) (jD g).length).len).bK)).T (λr4=>(E.kQ ((tC (nM (.inr ⟨(),()⟩)) (yO g (iU (.inr c)) (jD g).length).get (yO g (iU (.inr c)) (jD g).length).len).Num,(tC (nM (.inr ⟨(),()⟩)) (yO g (iU (.inr c)) (jD g).length).get (yO g (iU (.inr c)) (jD g).length).len).bK)).T λr5=>k (r4,r5))=_;rw[e1,e2,rq _ _ (by have:=pl.1;omega) (by have:=pl.1;omega) pl.2.1 (by have:=pl.2.2;omega),aX,rq _ _ (by have:=ph.1;omega) (by have:=ph.1;omega) ph.2.1 (by have:=ph.2.2;omega),aX]
theorem zYf{f:set×dM 202 Unit (Pt Int)->ae (aP×aP)}{g:set×dM 120 Unit Unit->ae (aP×aP)}(a:QBd .inl f)(b:QBd .inr g):zB8 (ae.two f g):=λw c G hz h0=>by
 rcases c with c|c
 exact a w c G hz h0;exact b w c G hz h0
def wM(g:Sl ay)(z:Int):aP×aP:=cond (gy g) (red (gz g g.len).Low 1,red (gz g g.len).High 1) (red (loF g z).Num (loF g z).bK,red (hiF g z).Num (hiF g z).bK)
theorem U4{g:Sl ay}(G:∀i,i<g.len→ig (g.get i))(h0:0<g.len):∀n,n≤g.len→(-1000000≤(gz g n).Low∧(gz g n).Low≤1000000) ∧ -1000000≤(gz g n).High∧(gz g n).High≤1000000
  | 0,_=>⟨qP (G 0 h0),sN (G 0 h0)⟩
  | n+1,h=>by
    obtain⟨a,b⟩:=U4 G h0 n omY;have c:=qP (G n omY);have d:=sN (G n omY);simp only[gz];constructor;split<;>assumption;split<;>assumption
abbrev zB9(C:set×Int->ae (aP×aP)):Prop:=∀g z,dh g->OU z->(gy g=false->0<(jD g).length)->C (jg g,z)=.ok (wM g z)
theorem zYg{E:zr6}(xA:zbY E.c167)(zbP:ztD E.VD)(rq:OG E.kQ)(zEU:zB8 E.c119):zB9 (zr7 E):=λg z G hz hc=>ae.ext λk=>by
 have hg:=G.2;rw[zV9,xA (jg g).list (by show 0<g.len;omega) (by show g.len<=1000;omega),aX,aX];show cond (gy g) _ _=_;unfold wM;cases hf:gy g with
 | true =>
  obtain⟨a,b⟩:=U4 G.1 omY g.len (jP _);rw[dF,zbP _ (by show 0<g.len;omega) (by show g.len<=1000;omega),aX];show(E.kQ ((gz g g.len).Low,1)).T (λr3=>(E.kQ ((gz g g.len).High,1)).T λr4=>k (r3,r4))=_;rw[rq _ _ omY omY omY omY,aX,rq _ _ omY omY omY omY,aX];rfl
 | false=>rw[dL,zEU g (.inl ⟨(),⟨z⟩⟩) G hz (hc hf),aX];rfl
abbrev zCa(C:Sl ay×Int->ae (aP×aP×Int)):Prop:=∀g z,dh g->OU z->C (g,z)=.ok (cond ((Dq g ((g.get 0).Z==z)).2 != 0) (⟨0,0⟩,⟨0,0⟩,(Dq g ((g.get 0).Z==z)).2) ((wM g z).1,(wM g z).2,0))
theorem zYh{E:zrb}(CU:Ew E.c157)(zbz:ztI E.c117)(zAA:zB9 E.zhj):zCa (zrd E):=λg z G hz=>ae.ext λk=>by
 have hg:=G.2;rw[zVf,CU,aX,aX,show inB z (-100000) 200000=true from dP hz,zbz g _ omY,aX];show cond ((Dq g ((g.get 0).Z==z)).2 != 0) (k (⟨0,0⟩,⟨0,0⟩,(Dq g ((g.get 0).Z==z)).2)) ((E.zhj ((Dq g ((g.get 0).Z==z)).1,z)).T λr3=>k (r3.1,r3.2,0))=_;unfold Dq;rw[kS.2 G];cases hs:jy g with
 | false=>rfl
 | true =>
  cases hf:gy g && !((g.get 0).Z==z)with
  | true=>rfl
  | false =>
   show(E.zhj (jg g,z)).T _=_;rw[zAA g z G hz λhf=>by unfold jy at hs;rw[hf,dL,oD]at hs;omega,aX];rfl
def zCb(p:aj)(h:bz):bW:=cond (p.Kind==3) p.Clock ⟨aJ (aJ (h.Time-p.Clock.High)-p.dO),aJ (aJ (h.Time-p.Clock.Low)+p.dO)⟩
def JF(s:ak)(h:bz):bW:=zCb (s.ai.get h.aj.toNat) h
abbrev zCc(C:placed×bz->ae bW):Prop:=∀q h,C (q,h)=.ok (zCb q.aj h)
theorem zYi{E:zq9}:zCc (zra E):=λq h=>ae.ext λk=>by rw[zVd,aX,kc k];rfl
abbrev Q74(C:ak×bz->ae bW):Prop:=∀s h,nG s h=true->C (s,h)=.ok (JF s h)
theorem s74{E:E74}:Q74 (F74 E):=λs h hh=>ae.ext λk=>by rw[e74,aX,bf (Ob hh),kc k];rfl
def tmG(s:ak)(l:Sl bz):Sl ay:=⟨l.len,λi=>⟨0,(JF s (l.get i)).Low,(JF s (l.get i)).High⟩⟩
theorem OW{g h:Sl ay}{m:Nat}(h0:0<m)(e:∀i,i<m→g.get i=h.get i):∀n,n≤m→gz g n=gz h n|0,_=>by simp only[gz,e 0 h0]|n+1,hn=>by simp only[gz,OW h0 e n omY,e n omY]
abbrev zCd(C:ak×Sl bz->ae (bW×Bool)):Prop:=∀s (l:Sl bz),0<l.len->l.len<=1000->(∀i,i<l.len->nG s (l.get i)=true)->C (s,l)=.ok (gz (tmG s l) l.len,decide ((gz (tmG s l) l.len).Low<=(gz (tmG s l) l.len).High))
theorem zYk{E:zgb}(N:Big E.N)(h74:Q74 E.c74):zCd (zrK E):=λs l h0 h1 hh=>ae.ext λk=>by
 have:=lq (X:=λn i=>UA E n s l ((i+1:Nat):Int) (gz (tmG s l) (i+1)) k) (m:=l.len-1) (fin:=k (gz (tmG s l) l.len,decide ((gz (tmG s l) l.len).Low<=(gz (tmG s l) l.len).High))) (λn i hi=>by
  rw[zk2,dP omY,dF,bf omY,fO,h74 _ _ (hh (i+1) omY),aX,bF omY];rfl) (λn=>by
  rw[zk2,show l.len-1+1=l.len by omega,dY omY];rfl) E.N (by have:=N;omega)
 rw[show(0+1:Nat)=1 from rfl,zb1]at this;rw[zVK,bf omY,h74 _ _ (hh 0 h0),aX,aX];exact this
abbrev zCe(C:ak×Sl bz->ae Int):Prop:=∀s (l:Sl bz),ug s->fD s=true->l.len<=1000->(∀i,i<l.len->nG s (l.get i)=true)->C (s,l)=.ok 0
theorem zYl{E:zf8}(N:Big E.N)(CS:QSe E.c160)(Bq:zf4 E.uZ):zCe (zq8 E):=λs l hs hb hl hh=>ae.ext λk=>by
 rw[zVc,dY omY,dL,CS s hs,aX,hb,aX];refine lq (X:=λn i=>Uw E n s l (i:Int) k) (m:=l.len) (λn i hi=>?_) (λn=>?_) _ (by have:=N;omega);rw [zkM,dP omY,dF,bf omY,fO,Bq _ _ hs hb,aX,bF omY];show cond (!nG s (l.get i)) _ _=_;rw[hh i hi];rfl;rw[zkM,dY omY];rfl
def cmS(x:bW):bW×Int:=cond (decide (x.Low>x.High)) (⟨0,0⟩,5) (x,0)
abbrev Q50(C:ak×Sl bz->ae (bW×Int)):Prop:=∀s (l:Sl bz),ug s->fD s=true->0<l.len->l.len<=1000->(∀i,i<l.len->nG s (l.get i)=true)->C (s,l)=.ok (cmS (gz (tmG s l) l.len))
theorem s50{E:E50}(N:Big E.N)(zAn:zCe E.zuK)(Bq:zf4 E.uZ)(zq0:zCc E.zcl):Q50 (F50 E):=λs l hs hb h0 hl hh=>ae.ext λk=>by
 have hm:(((l.len:Int)-1).toNat:Int)=((l.len-1:Nat):Int):=by omega
 have tm:∀i,i<l.len->zCb (ofP s (l.get i)).aj (l.get i)=JF s (l.get i):=λi hi=>by rw[zkE (hh i hi)];rfl
 have:=lq (X:=λn i=>zdO E n s l (i:Int) (gz (tmG s l) (i+1)) k) (m:=l.len-1) (fin:=k (cmS (gz (tmG s l) l.len))) (λn i hi=>by
  rw[zwy,hm,dP omY,dF,bf omY,fO];show(E.uZ (s,l.get (i+1))).T _=_;rw[Bq _ _ hs hb,aX];show(E.zcl (ofP s (l.get (i+1)),l.get (i+1))).T _=_;rw[zq0,aX,tm (i+1) omY,bF omY];rfl) (λn=>by
  rw[zwy,hm,show l.len-1+1=l.len by omega,dY omY,dL,kc k];rfl) E.N (by have:=N;omega)
 rw[show(0+1:Nat)=1 from rfl,zb1]at this;rw[e50,zAn s l hs hb hl hh,aX,show((0:Int) != 0)=false from rfl,dL,show((l.len:Int)==0)=false by rw[qdU];omega,dL,bf omY,Bq _ _ hs hb,aX,bf omY];show(E.zcl (ofP s (l.get 0),l.get 0)).T _=_;rw[zq0,aX,bf omY,tm 0 h0,aX];exact this
def RX(l:Sl bz)(w:Sl Int):Nat→Sl bz|0=>⟨0,λ_=>⟨0,0,0,0,0,0⟩⟩|i+1=>mM (RX l w i) (l.get (w.get i).toNat)
theorem pI(l:Sl bz)(w:Sl Int):∀n,(RX l w n).len=n|0=>rfl|n+1=>by show(RX l w n).len+1=n+1;rw[pI l w n]
theorem U5(l:Sl bz)(w:Sl Int):∀n i,i<n→(RX l w n).get i=l.get (w.get i).toNat
  | n+1,i,h=>by
    show iR (RX l w n).len (RX l w n).get (λ_=>l.get (w.get n).toNat) i=_;rw[jA,pI];by_cases e:i=n;rw[eU omY,e];rw[eY omY,U5 l w n i omY]
def InH(l:Sl bz)(w:Sl Int):Prop:=∀i,i<w.len->0<=w.get i/\w.get i<(l.len:Int)
theorem zmv{s:ak}{l:Sl bz}(he:Evt s l){w:Sl Int}(h:InH l w):∀i,i<(RX l w w.len).len->nG s ((RX l w w.len).get i)=true:=λi hi=>by
 rw[pI]at hi;rw[U5 _ _ _ _ hi];have:=h i hi;exact cZ.1 he.hi _ omY
def Y6(s:ak)(l:Sl bz)(c:jT):bW:=gz ⟨c.length,λi=>⟨0,(JF s (l.get ((c[i]?).getD (0,0)).1.toNat)).Low,(JF s (l.get ((c[i]?).getD (0,0)).1.toNat)).High⟩⟩ c.length
theorem zel{s:ak}{l:Sl bz}{t:af}{c:jT}(hc:eH t=c)(h0:0<t.Hits.len):gz (tmG s (RX l t.Hits t.Hits.len)) (RX l t.Hits t.Hits.len).len=Y6 s l c:=by
 unfold Y6;rw[pI,<- hc,kG];refine OW h0 (λi hi=>?_) _ (jP _);show(⟨0,(JF s ((RX l t.Hits t.Hits.len).get i)).Low,(JF s ((RX l t.Hits t.Hits.len).get i)).High⟩:ay)=⟨0,(JF s (l.get (((eH t)[i]?).getD (0,0)).1.toNat)).Low,(JF s (l.get (((eH t)[i]?).getD (0,0)).1.toNat)).High⟩;rw[U5 _ _ _ _ hi,UX hi];rfl
def zb5(s:ak)(l:Sl bz)(c:jT):Bool:=decide ((Y6 s l c).Low<=(Y6 s l c).High)
abbrev Q93(C:Pt aW×af->ae (bW×Bool)):Prop:=∀s l r t c,Evt s l->InH l t.Hits->0<t.Hits.len->t.Hits.len<=100->eH t=c->C (jf s r l,t)=.ok ((cmS (Y6 s l c)).1,zb5 s l c)
theorem s93{E:E93}(N:Big E.N)(h50:Q50 E.c50):Q93 (F93 E):=λs l r t c he hi h0 h1 hc=>ae.ext λk=>by
 rw[e93,aX];refine lq (X:=λn i=>zdU E n (jf s r l) t (i:Int) (RX l t.Hits i) k) (m:=t.Hits.len) (λn i jY=>?_) (λn=>?_) _ (by have:=N;omega);have a:=hi i jY;rw[zwL,dP omY,dF,bf omY,fO,bf (show 0<=t.Hits.get i/\t.Hits.get i<((jf s r l).v.hits.len:Int)from a),ja (by rw[pI];omega) omY,bF omY];rfl;rw [zwL,dY omY,dL];show(E.c50 (s,RX l t.Hits t.Hits.len)).T _=_;rw[h50 _ _ he.sh he.se (by rw[pI];omega) (by rw[pI];omega) (zmv he hi),aX,zel hc h0];have:((cmS (Y6 s l c)).2==0)=zb5 s l c:=by
  unfold cmS zb5;by_cases h:(Y6 s l c).Low>(Y6 s l c).High;rw[dP h,dY omY];rfl;rw[dY h,dP omY];rfl
 rw[this]
abbrev zCg(C:Sl bz×Sl Int->ae (Sl bz)):Prop:=∀(l:Sl bz)(w:Sl Int),InH l w->w.len<=100->C (l,w)=.ok (RX l w w.len)
theorem zYo{E:zgc}(N:Big E.N):zCg (zrL E):=λl w hi h1=>ae.ext λk=>by
 rw[zVM,aX];refine lq (X:=λn i=>UB E n l w (i:Int) (RX l w i) k) (m:=w.len) (λn i jY=>?_) (λn=>?_) _ (by have:=N;omega);have a:=hi i jY;rw[zk3,dP omY,dF,bf omY,fO,bf a,ja (by rw[pI];omega) omY,bF omY];rfl;rw[zk3,dY omY];rfl
abbrev Q90(C:ak×Sl bz×Sl Int->ae Bool):Prop:=∀s l (w:Sl Int),Evt s l->InH l w->0<w.len->w.len<=100->C (s,l,w)=.ok (decide ((gz (tmG s (RX l w w.len)) (RX l w w.len).len).Low<=(gz (tmG s (RX l w w.len)) (RX l w w.len).len).High))
theorem s90{E:E90}(zAq:zCg E.c148)(zAr:zCd E.zuS):Q90 (F90 E):=λs l w he hi h0 h1=>ae.ext λk=>by
 rw[e90,zAq _ _ hi h1,aX,zAr _ _ (by rw[pI];omega) (by rw[pI];omega) (zmv he hi),aX,aX]
def JG(s:ak)(l:Sl bz)(c:jT):Bool:=zb5 s l c&&jy (oh s l c)
theorem Ih{s:ak}{l:Sl bz}{x:Int}{t:af}{c:jT}{j:Nat}(hc:eH t=c)(h:Val s l x c j):InH l t.Hits:=λi hi=>by
 have:=AL hc hi;have m:=(h.mem _ (KP this)).1;have:=h.le;simp only at m;omega
theorem U6{t:af}{c:jT}(hc:eH t=c)(hn:c≠[]):0<t.Hits.len:=by
 rw[<- kG,hc];exact List.length_pos_iff.2 hn
theorem uk{s:ak}{l:Sl bz}{x:Int}{t:af}{c:jT}{j:Nat}(hc:eH t=c)(h:Val s l x c j):t.Hits.len<=l.len:=by
 rw[<- kG,hc];have:=h.le;omega
structure Ev (s : ak) (l : Sl bz) (x : Int) : Prop extends Evt s l where
  l24:l.len<=24
  vw:VN x=true
abbrev zCh(C:Pt aW×af->ae Bool):Prop:=∀s l r x t c j,Ev s l x->OL x t->eH t=c->Val s l x c j->c≠[]->C (jf s r l,t)=.ok (JG s l c)
theorem zYq{E:zsq}(h93:Q93 E.c93)(zbH:zqZ E.c105)(zA6:zBL E.zu7):zCh (zsr E):=λs l r x t c j he ht hc hv hn=>ae.ext λk=>by
 have hl:=uk hc hv;have vz:=he.l24;have G:=OM he.toEvt he.l24 hv hn;obtain⟨y,hy⟩:=zA6 (oh s l c) (by have:=G.2;omega);rw[zWr,h93 s l r t c he.toEvt (Ih hc hv) (U6 hc hn) omY hc,aX,aX];unfold JG;cases zb5 s l c with
 | false=>rfl
 | true =>
  show(E.c105 (jf s r l,t)).T _=_;rw[zbH s l r t he.toEvt omY (KD he.vw ht hc hv hn),aX,U0 hc,hy,aX,<- zBM G];rfl
abbrev ztX(C:ak×Sl bz×af->ae Bool):Prop:=∀s l x t c j,Ev s l x->OL x t->eH t=c->Val s l x c j->c≠[]->C (s,l,t)=.ok (JG s l c)
theorem zYr{E:zsF}(h65:Q65 E.c65)(zBa:zBY E.c145)(h90:Q90 E.c90):ztX (zsG E):=λs l x t c j he ht hc hv hn=>ae.ext λk=>by
 have hl:=uk hc hv;have vz:=he.l24;have G:=OM he.toEvt he.l24 hv hn;rw[zWH,h65 s l t he.toEvt omY (KD he.vw ht hc hv hn),aX,U0 hc,zBa _ G,aX,h90 s l _ he.toEvt (Ih hc hv) (U6 hc hn) omY,aX,zel hc (U6 hc hn),aX];unfold JG;show cond (jy (oh s l c)) (k (zb5 s l c)) (k false)=_;cases jy (oh s l c)<;>cases zb5 s l c<;>rfl
abbrev zCi(C:Int×Pt (Pt aW)×Pt Int->ae Bool):Prop:=∀s l r i k,0<=i/\i<(l.len:Int)->0<=k/\k<(l.len:Int)->C (i,⟨jf s r l⟩,⟨k⟩)=.ok ((l.get i.toNat).aj==(l.get k.toNat).aj)
theorem zYs{E:zso}:zCi (zsp E):=λs l r i k hi hk=>ae.ext λK=>by
 rw[zWp,aX];exact(bf (p:=0<=i/\i<(l.len:Int)) hi).trans (bf (p:=0<=k/\k<(l.len:Int)) hk)
abbrev zCj(C:Int×Pt (Pt aW)×Pt Int->ae Bool):Prop:=∀s l r i p,0<=i/\i<(l.len:Int)->C (i,⟨jf s r l⟩,⟨p⟩)=.ok ((l.get i.toNat).aj==p)
theorem zYt{E:zsx}:zCj (zsy E):=λs l r i p hi=>ae.ext λK=>by
 rw[e190,aX];exact bf (p:=0<=i/\i<(l.len:Int)) hi
abbrev zgy:=dM 180 Unit (Pt (Pt aW)×Pt Int) ⊕ dM 190 Unit (Pt (Pt aW)×Pt Int)
def ztY(l:Sl bz):zgy→Int→Bool|.inl c,h=>(l.get h.toNat).aj==(l.get c.v.2.v.toNat).aj|.inr c,h=>(l.get h.toNat).aj==c.v.2.v
def okU(s:ak)(l:Sl bz)(r:bQ):zgy→Prop|.inl c=>c.v.1.v=jf s r l/\0<=c.v.2.v/\c.v.2.v<(l.len:Int)|.inr c=>c.v.1.v=jf s r l
abbrev QUx{γ:Type}(i:γ->zgy)(C:Sl Int×γ->ae Int):Prop:=∀s l r (w:Sl Int) (c:γ),InH l w->w.len<=1000->okU s l r (i c)->C (w,c)=.ok (fst (λj=>ztY l (i c) (w.get j)) w.len 0)
abbrev QUa{γ:Type}(i:γ->zgy)(C:Sl Int×γ->ae Bool):Prop:=∀s l r (w:Sl Int) (c:γ),InH l w->w.len<=1000->okU s l r (i c)->C (w,c)=.ok (!dX (λj=>!ztY l (i c) (w.get j)) w.len)
abbrev ztZ(C:Sl Int×zgy->ae Int):Prop:=QUx id C
abbrev zt0(C:Sl Int×zgy->ae Bool):Prop:=QUa id C
theorem zmw{E:wC}(N:Big E.N)(zBh:zCi E.znP):QUx .inl (Fa E):=λs l r w c hi hw ho=>ae.ext λk=>by
 obtain⟨⟨⟩,⟨a⟩,⟨b⟩⟩:=c;obtain⟨rfl,hb⟩:=ho;rw[zlz,aX];refine Fj (L:=λn i=>xG E n w _ i k) (p:=λj=>ztY l (.inl ⟨(),⟨jf s r l⟩,⟨b⟩⟩) (w.get j)) (m:=w.len) (k:=k) omY (λn i jY=>?_) (λn=>?_) _ (by have:=N;omega);rw [Ox,dP omY,dF,bf omY,fO];show(E.znP (w.get i,⟨jf s r l⟩,⟨b⟩)).T _=_;rw[zBh s l r _ _ (hi i jY) hb,aX];rfl;rw[Ox,dY omY];rfl
theorem zmx{E:wE}(N:Big E.N)(zBi:zCj E.znR):QUx .inr (Fb E):=λs l r w c hi hw ho=>ae.ext λk=>by
 obtain⟨⟨⟩,⟨a⟩,⟨b⟩⟩:=c;have ho:a=jf s r l:=ho;subst ho;rw[zlB,aX];refine Fj (L:=λn i=>xH E n w _ i k) (p:=λj=>ztY l (.inr ⟨(),⟨jf s r l⟩,⟨b⟩⟩) (w.get j)) (m:=w.len) (k:=k) omY (λn i jY=>?_) (λn=>?_) _ (by have:=N;omega);rw [Oy,dP omY,dF,bf omY,fO];show(E.znR (w.get i,⟨jf s r l⟩,⟨b⟩)).T _=_;rw[zBi s l r _ _ (hi i jY),aX];rfl;rw[Oy,dY omY];rfl
theorem zYu{f:Sl Int×dM 180 Unit (Pt (Pt aW)×Pt Int)->ae Int}{g:Sl Int×dM 190 Unit (Pt (Pt aW)×Pt Int)->ae Int}(a:QUx .inl f)(b:QUx .inr g):ztZ (ae.two f g):=λs l r w c hi hw ho=>by
 rcases c with c|c
 exact a s l r w c hi hw ho;exact b s l r w c hi hw ho
theorem zmy{E:EQ}(zbR:ztZ E.c210):QUa .inl (ER E):=λs l r w c hi hw ho=>ae.ext λk=>by rw[zld,zbR s l r w (.inl c) hi hw ho,aX,aX,xN];rfl
theorem zmz{E:ES}(zbR:ztZ E.c210):QUa .inr (ET E):=λs l r w c hi hw ho=>ae.ext λk=>by rw[zlf,zbR s l r w (.inr c) hi hw ho,aX,aX,xN];rfl
theorem zYv{f:Sl Int×dM 180 Unit (Pt (Pt aW)×Pt Int)->ae Bool}{g:Sl Int×dM 190 Unit (Pt (Pt aW)×Pt Int)->ae Bool}(a:QUa .inl f)(b:QUa .inr g):zt0 (ae.two f g):=λs l r w c hi hw ho=>by
 rcases c with c|c
 exact a s l r w c hi hw ho;exact b s l r w c hi hw ho
theorem zem{l:Sl bz}{t:af}{c:jT}(hc:eH t=c)(p:Int->Bool):(!dX (λj=>!p (t.Hits.get j)) t.Hits.len)=c.any λq=>p q.1:=by
 rw[PN,JS,<- qjw,cZ,qdX];constructor
 ·intro h;apply qdM;intro hn;refine h λj hj=>?_;cases e:p (t.Hits.get j)with|false=>rfl|true=>exact(hn ⟨_,KP (AL hc hj),e⟩).elim
 rintro⟨q,hq,e⟩ h;obtain⟨j,hj,rfl⟩:=qdV hq;have hl:j<t.Hits.len:=by rw[<- kG,hc];exact hj
 have:=AL hc hl;rw[yC hj]at this;have:=SH this;have h2:=h j hl;rw[this]at e;rw[e]at h2;cases h2
def chs(w:Sl af):List jT:=(List.range w.len).map λi=>eH (w.get i)
theorem kT(w:Sl af):(chs w).length=w.len:=by simp[chs]
theorem zt1{w:Sl af}{i:Nat}(h:i<w.len):(chs w)[i]? = some (eH (w.get i)):=by simp[chs,qjh h]
def zN(x:Int)(w:Sl af):Prop:=∀i,i<w.len->OL x (w.get i)
theorem zen(w:Sl af)(t:af):chs (mM w t)=chs w++[eH t]:=by
 unfold chs;show(List.range (w.len+1)).map _=_;rw[qjE,Qn];congr 1;exact qdo λi hi=>by
  show eH (iR w.len w.get (λ_=>t) i)=_;rw[jA,eY (by have:=KQ.1 hi;omega)]
 show [eH (iR w.len w.get (fun _=>t) w.len)]=_;rw[jA,eU (jP _)]
theorem Y7{x:Int}{w:Sl af}{t:af}(h:zN x w)(ht:OL x t):zN x (mM w t):=λi hi=>by
 show OL x (iR w.len w.get (λ_=>t) i);rw[jA];by_cases e:w.len<=i;rw[eU e];exact ht;rw[eY e];exact h i omY
def U7(x:Int)(t:af)(p:Int×Int):af:=⟨x,⟨t.Hits.len+1,iR t.Hits.len t.Hits.get λ_=>p.1⟩,⟨t.bu.len+1,iR t.bu.len t.bu.get λ_=>p.2⟩⟩
theorem zeo{x:Int}{t:af}{p:Int×Int}(h:t.bu.len=t.Hits.len):eH (U7 x t p)=eH t++[p]:=by
 refine zmp rfl (λj hj=>?_) ?_;show iR t.Hits.len t.Hits.get (fun _=>p.1) j=_∧iR t.bu.len t.bu.get (fun _=>p.2) j=_;rw[jA,jA,eY omY,eY omY];exact⟨rfl,rfl⟩;show iR t.Hits.len t.Hits.get (fun _=>p.1) t.Hits.len=_∧iR t.bu.len t.bu.get (fun _=>p.2) t.Hits.len=_;rw[jA,jA,eU omY,eU omY];exact⟨rfl,rfl⟩
theorem Ii{x:Int}{t:af}{p:Int×Int}(h:t.bu.len=t.Hits.len):OL x (U7 x t p):=⟨rfl,by show t.bu.len+1=t.Hits.len+1;rw[h]⟩
abbrev zJP:=af×Int×Bc 143 (Pt aW)×Bc 38 Int×Bw 30 43 3 56 af×Bs 255 178 2 4×Unit
def kw(s:ak)(l:Sl bz)(x:Int):List jT:=gr (JG s l) (FB l) (RI s l x) 30 [] 0
theorem zep(s:ak)(l:Sl bz)(x:Int):Val s l x [] 0:=⟨⟨jP _,Ad _⟩,(λp h=>by cases h),List.Pairwise.nil⟩
abbrev zJQ(C:Pt aW×Int->ae (Sl af×Bool)):Prop:=∀s l r x,Ev s l x->(kw s l x).length<=2000->∃w,C (jf s r l,x)=.ok (w,true)/\chs w=kw s l x/\zN x w
abbrev Y8:=(Bool×Int)×(Unit×Unit×Pt aW×Int×Sl af×Unit×Unit)
def zmA(s:ak)(l:Sl bz)(r:bQ)(x:Int)(G:List jT)(w:Sl af)(R:Y8):Prop :=
 (w.len+G.length<=2000/\∃w',R=((false,0),(),(),jf s r l,x,w',(),())/\chs w'=chs w++G/\zN x w')\/(2000<w.len+G.length/\∃w',R=((true,x),(),(),jf s r l,x,w',(),()))
def QMp(f:Nat)(C:zJP->ae Y8):Prop:=∀s l r x t c (i:Nat) (w:Sl af),Ev s l x->Val s l x c i->eH t=c->t.bu.len=t.Hits.len->l.len<i+f->zN x w->w.len<=2000 ->
 ∃R,C (t,(i:Int),⟨jf s r l⟩,⟨x⟩,⟨w⟩,{},())=.ok R/\zmA s l r x (gr (JG s l) (FB l) (RI s l x) f c i) w R
theorem zJR{E:zgi}{f:Nat}(zbI:zt0 E.Pi)(zA5:zCh E.c182)(i173:zAm E.i173)(hm:QMp f E.JO):QMp (f+1) (zsm E):=λs l r x t c i w he hv hc ht hf hw hn=>by
 have vz:=he.l24;have hle:=hv.le;have hlen:=uk hc hv
 have key:∀(ys:jT)(w:Sl af),(∀y∈ys,y∈RI s l x i)->zN x w->w.len<=2000 ->
   ∃R,(∀(A:Type)(k:Y8->Option A)(w0:Sl af),qF E ys t (i:Int) (jf s r l) x w0 (jf s r l) x w k=k R)/\zmA s l r x (ys.flatMap λp=>cond (FB l c p.1 || !JG s l (c++[p])) [] ((c++[p])::gr (JG s l) (FB l) (RI s l x) f (c++[p]) (p.1.toNat+1))) w R:=by
  intro ys
  induction ys with
  | nil=>intro w _ hw hn;exact⟨_,λA k w0=>zsn ..,.inl ⟨by simpa using hn,w,rfl,by simp,hw⟩⟩
  | cons y ys ih =>
   intro w hy hw hn;rw[oG];have hys:∀z∈ys,z∈RI s l x i:=λz hz=>hy z (jM _ hz);obtain⟨_,y1,_,_⟩:=Y0 (hy y kH);have u:(E.Pi (t.Hits,.inl ⟨(),⟨jf s r l⟩,⟨y.1⟩⟩))=.ok (FB l c y.1):=by
    rw[zbI s l r t.Hits (.inl ⟨(),⟨jf s r l⟩,⟨y.1⟩⟩) (Ih hc hv) omY ⟨rfl,(by show 0<=y.1;omega),(by show y.1<(l.len:Int);omega)⟩];exact jZ ae.ok (zem (l:=l) hc λh=>(l.get h.toNat).aj==(l.get y.1.toNat).aj)
   have skip:∀(A:Type)(k:Y8->Option A)(w0:Sl af),FB l c y.1=true->qF E (y::ys) t (i:Int) (jf s r l) x w0 (jf s r l) x w k=qF E ys t (i:Int) (jf s r l) x w0 (jf s r l) x w k:=λA k w0 e=>by
    rw[zlc,u,aX,e];rfl
   cases hu:FB l c y.1 with
   | true =>
    obtain⟨R,a,b⟩:=ih w hys hw hn;exact⟨R,λA k w0=>by rw[skip A k w0 hu,a],by simpa using b⟩
   | false =>
    have hv2:=hv.snoc (hy y kH) hu;have hc2:eH (U7 x t y)=c++[y]:=by rw[zeo ht,hc]
    have ag:=zA5 s l r x (U7 x t y) (c++[y]) _ he (Ii ht) hc2 hv2 (by simp);have st:∀(A:Type)(k:Y8->Option A)(w0:Sl af),qF E (y::ys) t (i:Int) (jf s r l) x w0 (jf s r l) x w k=cond (!JG s l (c++[y])) (qF E ys t (i:Int) (jf s r l) x w0 (jf s r l) x w k) (aU (room (w.len+1) 56) (cond (decide ((w.len:Int)+1>2000)) (k ((true,x),(),(),jf s r l,x,mM w (U7 x t y),(),())) ((E.JO (U7 x t y,aJ (y.1+1),⟨jf s r l⟩,⟨x⟩,⟨mM w (U7 x t y)⟩,{},())).T λr3=>cond r3.1.1 (k ((true,r3.1.2),(),(),r3.2.2.2.1,r3.2.2.2.2.1,r3.2.2.2.2.2.1,(),())) (qF E ys t (i:Int) (jf s r l) x w0 r3.2.2.2.1 r3.2.2.2.2.1 r3.2.2.2.2.2.1 k)))):=λA k w0=>by
     rw[zlc,u,aX,hu,dL,ja omY omY,ja omY omY,ja omY omY,ja omY omY];show(E.c182 (jf s r l,U7 x t y)).T _=_;rw[ag,aX];rfl
    cases ha:JG s l (c++[y])with
    | false =>
     obtain⟨R,a,b⟩:=ih w hys hw hn;exact⟨R,λA k w0=>by rw[st,ha];exact a A k w0,by simpa using b⟩
    | true =>
     simp only[Qo,Bool.or_self,dL];have e1:aJ (y.1+1)=((y.1.toNat+1:Nat):Int):=by rw[aT omY omY];omega
     by_cases h0:w.len+1<=2000
     case neg =>
      refine⟨((true,x),(),(),jf s r l,x,mM w (U7 x t y),(),()),λA k w0=>?_,.inr ⟨by rw[Py,qp];omega,_,rfl⟩⟩;rw[st,ha,Qo,dL,ja omY omY,dP omY,dF]
     obtain⟨R1,a1,o1⟩:=hm s l r x (U7 x t y) (c++[y]) (y.1.toNat+1) (mM w (U7 x t y)) he hv2 hc2 (Ii (x:=x) ht).2 omY (Y7 hw (Ii ht)) h0;have lw:(mM w (U7 x t y)).len=w.len+1:=rfl;rcases o1 with⟨n1,w1,rfl,b1,d1⟩|⟨n1,w1,rfl⟩
     have l1:w1.len=w.len+1+(gr (JG s l) (FB l) (RI s l x) f (c++[y]) (y.1.toNat+1)).length:=by
      rw[<- kT,b1,Py,kT];rfl
     obtain⟨R,a,b⟩:=ih w1 hys d1 omY;refine⟨R,λA k w0=>?_,?_⟩;rw [st,ha,e1,a1,aX,Qo,dL,ja omY omY,dY omY,dL];exact a A k w0;rcases b with⟨n2,w',e2,b2,d2⟩|⟨n2,w',e2⟩
     exact .inl ⟨by rw[Py,qp];omega,w',e2,by rw[b2,b1,zen,hc2];simp,d2⟩;exact .inr ⟨by rw[Py,qp];omega,w',e2⟩;refine⟨_,fun A k w0 => ?_,.inr ⟨by rw [Py,qp];omega,w1,rfl⟩⟩;rw[st,ha,e1,a1,aX,Qo,dL,ja omY omY,dY omY,dL];rfl
 obtain⟨R,a,b⟩:=key (RI s l x i) w (λy hy=>hy) hw hn;refine⟨R,ae.ext λk=>?_,b⟩;rw[zWl,i173 s l r x i he.toEvt hle.2,aX,aX];exact a _ k w
abbrev zmB(C:Pt aW×Int->ae (Sl af×Bool)):Prop:=∀s l r x,Ev s l x->((kw s l x).length<=2000/\∃w,C (jf s r l,x)=.ok (w,true)/\chs w=kw s l x/\zN x w)\/(2000<(kw s l x).length/\∃w,C (jf s r l,x)=.ok (w,false))
theorem zJS{E:zkV}(hm:QMp 30 E.JO):zmB (zrp E):=λs l r x he=>by
 have vz:=he.l24;obtain⟨R,a,b⟩:=hm s l r x ⟨0,⟨0,λ_=>default⟩,⟨0,λ_=>default⟩⟩ [] 0 ⟨0,λ_=>⟨0,⟨0,λ_=>0⟩,⟨0,λ_=>0⟩⟩⟩ he (zep s l x) rfl rfl omY (λi hi=>absurd hi (Wi i)) (Ad _);rcases b with⟨n,w',rfl,b,d⟩|⟨n,w',rfl⟩
 exact .inl ⟨by have h:0+(kw s l x).length<=2000:=n;omega,w',ae.ext λk=>by rw[e127];show(E.JO (_,((0:Nat):Int),_)).T _=_;rw[a,aX,aX];rfl,b,d⟩;exact .inr ⟨by have h:2000<0+(kw s l x).length:=n;omega,_,ae.ext λk=>by rw[e127];show(E.JO (_,((0:Nat):Int),_)).T _=_;rw[a,aX,aX];rfl⟩
structure E98 where
 N:Nat
def F98(E:E98):af×(Pt Int)->ae Bool:=iW E.N Tabs.nil 98
theorem e98(E:E98){A:Type}(k:Bool→Option A)(a0:af)(a1:Pt Int):(F98 E (a0,a1)).T k=k (a0.View==a1.v):=dU
theorem o98 [aH](E:E98):Ok aB 98 (ae.un (F98 E)):=dV au.nil
abbrev zCm(C:af×Int×Int->ae af):Prop:=∀t i k,t.Hits.len<=1000->t.bu.len<=1000->C (t,i,k)=.ok (U7 t.View t (i,k))
theorem zYw{E:ztb}:zCm (ztc E):=λt i k h1 h2=>ae.ext λK=>by
 rw[e227,aX,ja omY omY,ja omY omY,ja omY omY,ja omY omY];rfl
abbrev stC(s:ak)(l:Sl bz)(x:Int)(f:Nat)(c:jT):List jT->Int×Int->List jT:=λout p=>cond (FB l c p.1||(decide (2000<out.length) || !JG s l (c++[p]))) out (PG (JG s l) (FB l) (RI s l x) f (out++[c++[p]]) (c++[p]) (p.1.toNat+1))
def QW(f:Nat)(C:(ak×Sl bz×af×Int)×Sl af->ae (Sl af)):Prop:=∀s l x t c (i:Nat) (w:Sl af),Ev s l x->Val s l x c i->eH t=c->OL x t->l.len<i+f->zN x w->w.len<=2001 ->
 ∃w',C ((s,l,t,(i:Int)),w)=.ok w'/\chs w'=PG (JG s l) (FB l) (RI s l x) f (chs w) c i/\zN x w'
theorem zmC{s:ak}{l:Sl bz}{x:Int}{f:Nat}{c:jT}{i:Int}(h:FB l c i=true):∀(d k:Nat)(out:List jT),(sdK i d k).foldl (stC s l x f c) out=out
  | 0,_,_=>rfl
  | d+1,k,out=>by
    rw[sdK,Wl];show(sdK i d (k+1)).foldl _ (cond (FB l c i||_) out _)=out;rw[h];exact zmC h d (k+1) out
theorem Y9{s:ak}{l:Sl bz}{x:Int}{f:Nat}{c:jT}{i:Int}:∀(d k:Nat)(out:List jT),2000<out.length→(sdK i d k).foldl (stC s l x f c) out=out
  | 0,_,_,_=>rfl
  | d+1,k,out,h=>by
    rw[sdK,Wl];have:stC s l x f c out (i,(k:Int))=out:=by
      show cond (FB l c i||(decide (2000<out.length)||_)) out _=out;rw[dP h,Bool.true_or,jqr];rfl
    rw[this];exact Y9 d (k+1) out h
theorem U8{ag:jT→Bool}{us:jT→Int→Bool}{sd:Nat→jT}:∀{f out c i},out.length≤2001→(PG ag us sd f out c i).length≤2001
  | 0,out,c,i,h=>h
  | f+1,out,c,i,h=>by
    simp only[PG];generalize sd i=l
    induction l generalizing out with
    | nil=>exact h
    | cons p l ih =>
      rw[Wl];refine ih _ ?_;cases hc:us c p.1||(decide (2000<out.length) || !ag (c++[p]))with
      | true=>exact h
      | false =>
        simp only[qdI,dqM]at hc;exact U8 (by rw[Py];simp only[qp,Wj];omega)
theorem zYx{E:zbS}{f:Nat}(N:Big E.N)(h87:Q87 E.c87)(h75:Q75 E.c75)(zA9:zCm E.c227)(zbN:ztX E.c196)(hm:QW f E.Pn):QW (f+1) (zsE E):=λs l x t c i w he hv hc ht hf hw hn=>by
 have vz:=he.l24;have hle:=hv.le;have hlen:=uk hc hv;have hN:=N
 -- the oq of one hit
 have inn:∀(n0:Nat)(a:Nat),i<=a->a<l.len->VX s l a=x->FB l c (a:Int)=false->∀(m k n1:Nat)(w:Sl af),k+m=Bi s l a->m<n1->zN x w->w.len<=2001 ->
   ∃w',(∀(A:Type)(K:Sl af->Option A),xE E n0 n1 s l t (a:Int) (Bh s (l.get a)) (k:Int) w K=sK E n0 s l t ((a+1:Nat):Int) w' K)/\chs w'=(sdK (a:Int) m k).foldl (stC s l x f c) (chs w)/\zN x w':=by
  intro n0 a ha1 ha2 hva Po m
  induction m with
  | zero =>
   intro k n1 w hk hn1 hw hwl;obtain⟨n1,rfl⟩:∃n',n1=n'+1:=⟨n1-1,omY⟩;refine⟨w,λA K=>?_,rfl,hw⟩;rw[zbT,dY (by have:(Bh s (l.get a)).len=Bi s l a:=rfl;omega),dL,bF omY]
  | succ m ih =>
   intro k n1 w hk hn1 hw hwl;obtain⟨n1,rfl⟩:∃n',n1=n'+1:=⟨n1-1,omY⟩;have hgl:(Bh s (l.get a)).len=Bi s l a:=rfl;have hg2:=Kv s l a;by_cases hfull:2000<w.len;refine⟨w,fun A K => ?_,(Y9 _ _ _ (by rw [kT];exact hfull)).symm,hw⟩;rw[zbT,dP omY,dF,dY omY,dL,bF omY]
   ·have hp : ((a : Int), (k : Int)) ∈ RI s l x i := (zea hle.2).2 ⟨by simp only; omega, by simpa using hva, by simp only; omega, by simp only [fO]; omega⟩;have hv2:=hv.snoc hp Po;have hc2:eH (U7 x t ((a:Int),(k:Int)))=c ++ [((a:Int),(k:Int))]:=by rw[zeo ht.2,hc]
    have ag:=zbN s l x (U7 x t ((a:Int),(k:Int))) _ _ he (Ii ht.2) hc2 hv2 (by simp);have st:∀(A:Type)(K:Sl af->Option A),xE E n0 (n1+1) s l t (a:Int) (Bh s (l.get a)) (k:Int) w K=cond (JG s l (c++[((a:Int),(k:Int))])) ((E.Pn ((s,l,U7 x t ((a:Int),(k:Int)),((a+1:Nat):Int)),mM w (U7 x t ((a:Int),(k:Int))))).T λr3=>xE E n0 n1 s l t (a:Int) (Bh s (l.get a)) ((k+1:Nat):Int) r3 K) (xE E n0 n1 s l t (a:Int) (Bh s (l.get a)) ((k+1:Nat):Int) w K):=λA K=>by
     rw[zbT,dP omY,dF,dP omY,dF,zA9 _ _ _ omY (by rw[ht.2];omega),aX,ht.1,ag,aX,ja omY omY,bF omY,bF omY];rfl
    rw[sdK,Wl];cases vk:JG s l (c++[((a:Int),(k:Int))])with
    | false =>
     have e:stC s l x f c (chs w) ((a:Int),(k:Int))=chs w:=by
      show cond (FB l c (a:Int)||(_ || !JG s l (c++[((a:Int),(k:Int))]))) _ _=_;rw[vk,qdQ,jqr,jqr];rfl
     rw[e];obtain⟨w',a1,a2,a3⟩:=ih (k+1) n1 w omY omY hw hwl;exact⟨w',λA K=>by rw[st,vk];exact a1 A K,a2,a3⟩
    | true =>
     have e:stC s l x f c (chs w) ((a:Int),(k:Int))=PG (JG s l) (FB l) (RI s l x) f (chs w++[c++[((a:Int),(k:Int))]]) (c++[((a:Int),(k:Int))]) (a+1):=by
      show cond (FB l c (a:Int)||(decide (2000<(chs w).length) || !JG s l (c++[((a:Int),(k:Int))]))) _ _=_;rw[vk,Po,kT,dY hfull];rfl
     rw[e];obtain⟨w1,b1,b2,b3⟩:=hm s l x (U7 x t ((a:Int),(k:Int))) _ (a+1) (mM w (U7 x t ((a:Int),(k:Int)))) he hv2 hc2 (Ii ht.2) omY (Y7 hw (Ii ht.2)) (by show w.len+1<=_;omega);rw[zen,hc2]at b2;have l1:w1.len<=2001:=by
      rw[<- kT,b2];exact U8 (by rw[Py,kT];simp only[qp,Wj];omega)
     obtain⟨w',a1,a2,a3⟩:=ih (k+1) n1 w1 omY omY b3 l1;rw[b2]at a2;exact⟨w',λA K=>by rw[st,vk,dF,b1,aX];exact a1 A K,a2,a3⟩
 have zt2:∀(ys:jT)(out:List jT),out.length<=2001->(ys.foldl (stC s l x f c) out).length<=2001:=by
  intro ys
  induction ys with
  | nil=>intro out h;exact h
  | cons p ys ih =>
   intro out h;rw[Wl];refine ih _ ?_;show(cond (FB l c p.1||(decide (2000<out.length) || !JG s l (c++[p]))) out _).length<=_;cases hq:FB l c p.1||(decide (2000<out.length) || !JG s l (c++[p]))with
   | true=>exact h
   | false =>
    simp only[qdI,dqM]at hq;exact U8 (by rw[Py];simp only[qp,Wj];omega)
 have key:∀(d a n:Nat)(w:Sl af),a+d=l.len->i<=a->d<n->zN x w->w.len<=2001->∃w',(∀(A:Type)(K:Sl af->Option A),sK E n s l t (a:Int) w K=K w')/\chs w'=(sdL s l x d a).foldl (stC s l x f c) (chs w)/\zN x w':=by
  intro d
  induction d with
  | zero =>
   intro a n w ha hi hn hw hwl;obtain⟨n,rfl⟩:∃n',n=n'+1:=⟨n-1,omY⟩;exact⟨w,λA K=>by rw[zlq,dY omY];rfl,rfl,hw⟩
  | succ d ih =>
   intro a n w ha hi hn hw hwl;obtain⟨n,rfl⟩:∃n',n=n'+1:=⟨n-1,omY⟩;have VG:=he.pl (i:=a) omY;rw[sdL,jql];have us:E.c87 (l,t.Hits,(l.get a).aj)=.ok (FB l c (a:Int)):=by
    rw[h87 l t.Hits _ omY (Ih hc hv)];refine jZ ae.ok ?_;have:=zem (l:=l) hc λh=>(l.get h.toNat).aj==(l.get a).aj;unfold FB;rw[fO,<- this];rfl
   have st:∀(A:Type)(K:Sl af->Option A),sK E (n+1) s l t (a:Int) w K=cond (VX s l a != x) (sK E n s l t ((a+1:Nat):Int) w K) (cond (FB l c (a:Int)) (sK E n s l t ((a+1:Nat):Int) w K) (xE E n E.N s l t (a:Int) (Bh s (l.get a)) ((0:Nat):Int) w K)):=λA K=>by
    rw[zlq,dP omY,dF,bf omY,fO,bf VG,us,aX,h75 s _ he.sh VG,aX,bF omY,ht.1];rfl
   cases hv1:VX s l a==x with
   | false =>
    have e1:(VX s l a != x)=true:=by rw[bne,hv1];rfl
    rw[e1]at st;obtain⟨w',a1,a2,a3⟩:=ih (a+1) n w omY omY omY hw hwl;exact⟨w',λA K=>by rw[st];exact a1 A K,a2,a3⟩
   | true =>
    have e1:(VX s l a != x)=false:=by rw[bne,hv1];rfl
    rw[e1]at st;rw[dF];cases hu:FB l c (a:Int)with
    | true =>
     rw[hu]at st;obtain⟨w',a1,a2,a3⟩:=ih (a+1) n w omY omY omY hw hwl;exact⟨w',λA K=>by rw[st];exact a1 A K,by rw[zmC hu];exact a2,a3⟩
    | false =>
     rw[hu]at st;obtain⟨w1,b1,b2,b3⟩:=inn n a hi omY (eq_of_beq hv1) hu (Bi s l a) 0 E.N w omY (by have:=Kv s l a;omega) hw hwl;have l1:w1.len<=2001:=by
      rw[<- kT,b2];exact zt2 _ _ (by rw[kT];exact hwl)
     obtain⟨w',a1,a2,a3⟩:=ih (a+1) n w1 omY omY omY b3 l1;rw[b2]at a2;exact⟨w',λA K=>by rw[st];exact(b1 A K).trans (a1 A K),a2,a3⟩
 obtain⟨w',a1,a2,a3⟩:=key (l.len-i) i E.N w omY (jP _) omY hw hn;refine⟨w',ae.ext λK=>by rw[e195,aX];exact a1 _ K,?_,a3⟩;rw[a2,PG];rfl
def U9(s:ak)(l:Sl bz)(x:Int):List jT:=PG (JG s l) (FB l) (RI s l x) 30 [] [] 0
theorem Va{s:ak}{l:Sl bz}{x:Int}(h:(U9 s l x).length<=2000):U9 s l x=kw s l x:=by
 have:=(zme (f:=30) (out:=[]) (c:=[]) (i:=0)).2 h;rw[Qr]at this;exact this
abbrev zCn(C:ak×Sl bz×Int->ae (Sl af×Bool)):Prop:=∀s l x,Ev s l x->∃w,C (s,l,x)=.ok (w,decide ((U9 s l x).length<=2000))/\chs w=U9 s l x/\zN x w/\w.len<=2001
theorem zYy{E:zrS}(hm:QW 30 E.Pn):zCn (zrT E):=λs l x he=>by
 have vz:=he.l24;obtain⟨w',a,b,d⟩:=hm s l x ⟨x,⟨0,λ_=>default⟩,⟨0,λ_=>default⟩⟩ [] 0 ⟨0,λ_=>⟨0,⟨0,λ_=>default⟩,⟨0,λ_=>default⟩⟩⟩ he (zep s l x) rfl ⟨rfl,rfl⟩ omY (λi hi=>absurd hi (Wi i)) (Ad _);have hb:chs w'=U9 s l x:=b;refine⟨w',ae.ext λk=>?_,hb,d,?_⟩;rw [e153];show(E.Pn ((_,_,_,((0:Nat):Int)),_)).T _=_;rw[a,aX,aX];have:decide ((w'.len:Int)<=2000)=decide ((U9 s l x).length<=2000):=by rw[<- hb,kT];exact jqu.2 omY
 rw[this];rw[<- kT,hb];exact U8 (Ad _)
abbrev zCo(C:Int->ae Bool):Prop:=∀x,C x=.ok false
theorem zYz{E:ztl}:zCo (ztm E):=λx=>ae.ext λk=>by rw[e237,aX,show(x != x)=false by simp]
abbrev zCp(C:Int×Int->ae Bool):Prop:=∀a b,C (a,b)=.ok (decide (a<b))
theorem zYA{E:ztj}(Yu:ztL E.Pj):zCp (ztk E):=λa b=>ae.ext λk=>by rw[zW9,Yu,aX,aX];rfl
theorem zCq{a:Int}(h:0<=a/\a<=1000000):aJ (Gs .u64 (IntKind.u64.wrap (aJ a)) 1)=a/2:=by
 have e1:aJ a=a:=aT omY omY;have e2:IntKind.u64.wrap a=a:=by
  have hb:IntKind.u64.bits=64:=rfl;have hs:IntKind.u64.signed=false:=rfl;unfold IntKind.wrap;rw[hb,hs];simp only[qjs,qdz,qje];omega
 have e3:Gs .u64 a 1=a/2:=by
  show a.fdiv (2^(min (1:Int).toNat 64))=_;rw[Int.fdiv_eq_ediv_of_nonneg _ (by decide)];rfl
 rw[e1,e2,e3,aT omY omY]
def hasB(w:Sl Int)(x:Int):Bool:=!dX (λj=>!decide (w.get j=x)) w.len
theorem OX{w:Sl Int}{x:Int}:hasB w x=true↔∃j,j<w.len/\w.get j=x:=by
 unfold hasB;rw[JS,<- qjw,cZ];constructor;intro h;apply qdM;intro hc;exact h λi hi=>by simpa using λe=>hc ⟨i,hi,e⟩
 rintro⟨j,hj,e⟩ h;have:=h j hj;simp[e]at this
def zt3(w:Sl Int):Prop:=∀i j,i<j->j<w.len->w.get i<w.get j
abbrev zCr(C:Sl Int×Int->ae (Int×Bool)):Prop:=∀w x,zt3 w->w.len<=1000->∃r,C (w,x)=.ok (r,hasB w x)
theorem zYB{E:zgn}(N:Big E.N)(zBe:zCp E.c236)(zBf:zCo E.znT):zCr (zsQ E):=λw x hw hl=>by
 have key:∀(d i j n:Nat),i+d=j->j<=w.len->d<n->(∀p,p<i->w.get p<x)->(∀p,j<=p->p<w.len->x<=w.get p)->∃r,∀(A:Type)(k:Int×Bool->Option A),zJ E n w x (i:Int) (j:Int) k=k (r,hasB w x):=by
  intro d
  induction d using Nat.strongRecOn with
  | _ d ih =>
   intro i j n hd hj hn h1 h2;obtain⟨n,rfl⟩:∃n',n=n'+1:=⟨n-1,omY⟩;by_cases h0:d=0;have e:i=j:=by omega
   subst e;have no:(i<w.len->w.get i≠x)->hasB w x=false:=λhn=>by
    cases hb:hasB w x with
    | false=>rfl
    | true =>
     obtain⟨p,hp,e⟩:=OX.1 hb;rcases qjR p i with q|q|q
     have:=h1 p q;omega;subst q;exact absurd e (hn hp);have a:=hw i p q hp;have:=h2 i (jP _) omY;omega
   by_cases hi:i<w.len;by_cases hx:w.get i=x;refine⟨(i:Int),fun A k => ?_⟩;rw[UK,dY omY,dL,dP omY,dF,bf omY,fO,show(w.get i==x)=true by simpa using hx,dF,OX.2 ⟨i,hi,hx⟩];refine⟨(i:Int),fun A k => ?_⟩;rw[UK,dY omY,dL,dP omY,dF,bf omY,fO,show(w.get i==x)=false by simpa using hx,dL,bf omY,zBf,aX,no λ_=>hx];rfl;refine⟨(i:Int),fun A k => ?_⟩;rw[UK,dY omY,dL,dY omY,dL,no λh=>absurd h hi];have em:aJ (Gs .u64 (IntKind.u64.wrap (aJ ((i:Int)+(j:Int)))) 1)=(((i+j)/2:Nat):Int):=by rw [zCq omY];omega
   generalize hm:(i+j)/2=m at em;have m1:i<=m/\m<j:=by omega
   have st:∀(A:Type)(k:Int×Bool->Option A),zJ E (n+1) w x (i:Int) (j:Int) k=cond (decide (w.get m<x)) (zJ E n w x ((m+1:Nat):Int) (j:Int) k) (zJ E n w x (i:Int) (m:Int) k):=λA k=>by
    rw[UK,em,dP omY,dF,bf omY,fO,zBe,aX,bF omY]
   by_cases c:w.get m<x;obtain⟨r,hr⟩:=ih (j-(m+1)) omY (m+1) j n omY hj omY (λp hp=>by
    by_cases e:p=m;rw[e];exact c;have:=hw p m omY omY;omega) h2
   exact⟨r,λA k=>by rw[st,dP c];exact hr A k⟩;obtain⟨r,hr⟩:=ih (m-i) omY i m n omY omY omY h1 (λp hp hp2=>by
    by_cases e:p=m;rw[e];omega;have:=hw m p omY hp2;omega)
   exact⟨r,λA k=>by rw[st,dY c];exact hr A k⟩
 obtain⟨r,hr⟩:=key w.len 0 w.len E.N omY (jP _) (by have:=N;omega) (λp hp=>absurd hp (Wi p)) (λp h1 h2=>by omega);exact⟨r,ae.ext λk=>by rw[zWT,aX];exact hr _ k⟩
def gB(p:aj):Int:=cond (p.Kind==2) (aJ (p.aO.tdiv 2)) 0
def zJT(p:aj)(c:Nat):bW:=⟨aJ (aJ (p.First+aJ ((c:Int)*p.aO))-gB p),aJ (aJ (aJ (aJ (p.First+aJ ((c:Int)*p.aO))-gB p)+p.aO)-1)⟩
def Ij(p:aj):Nat→Nat→List (Int×bW)|0,_=>[]|m+1,c=>cond (hasB p.Dead (c:Int)) (Ij p m (c+1)) (((c:Int),zJT p c)::Ij p m (c+1))
abbrev zCs(I:Pt placed->ae (List (Int×bW))):Prop:=∀q:Pt placed,VW q.v.aj->zt3 q.v.aj.Dead->q.v.aj.Dead.len<=1000->I q=.ok (Ij q.v.aj q.v.aj.bC.toNat 0)
theorem zYC{E:zbU}(N:Big E.N)(zBd:zCr E.zu4):zCs (zBc E):=λq hp hi hl=>by
 refine Ey ?_ (λ_=>rfl) (λ_=>rfl);obtain⟨_,_,_,_,_,Gn,_⟩:=hp;have key:∀(m c n:Nat),c+m=q.v.aj.bC.toNat->m<n->H7 E n q (gB q.v.aj) (c:Int)=some ((Ij q.v.aj m c).map dA.enc):=by
  intro m
  induction m with
  | zero =>
   intro c n hc hn;obtain⟨n,rfl⟩:∃n',n=n'+1:=⟨n-1,omY⟩;rw[zls,dY omY];rfl
  | succ m ih =>
   intro c n hc hn;obtain⟨n,rfl⟩:∃n',n=n'+1:=⟨n-1,omY⟩;obtain⟨r,hr⟩:=zBd q.v.aj.Dead (c:Int) hi hl;rw[zls,dP omY,dF,hr,aX,bF omY,ih (c+1) n omY omY];show cond (hasB q.v.aj.Dead (c:Int)) _ _=_;simp only[Ij];cases hasB q.v.aj.Dead (c:Int)<;>rfl
 have h0:=key q.v.aj.bC.toNat 0 E.N omY (by have:=N;omega);rw[e204];unfold gB at h0;revert h0;cases q.v.aj.Kind==2<;>exact id
def nxt:List (Int×bW)→Int→Int|[],n=>n|y::r,n=>nxt r (cond (decide (y.2.Low<=n)&&decide (n<=y.2.High)) (aJ (y.2.High+1)) n)
def Vb(x:bW):Bool:=decide (-1000000<=x.Low/\x.Low<=x.High/\x.High<=1000000)
def zO(p:aj)(x:bW):Bool:=decide (nxt (Ij p p.bC.toNat 0) (aJ (x.Low-p.aZ.High))>aJ (x.High-p.aZ.Low))
theorem zt4{p:aj}(h:plB p=true):zt3 p.Dead/\p.Dead.len<=100:=by
 simp only[plB,fQ,oD,cZ]at h;obtain⟨⟨_,h1⟩,h2⟩:=h;refine⟨λi j=>?_,h1⟩;have step:∀j,j+1<p.Dead.len->p.Dead.get j<p.Dead.get (j+1):=λj hj=>by
  have:=h2 (j+1) hj;simp only[dB,fQ,V8,oD,qjF]at this;exact this.2.resolve_left omY
 intro Ju hj
 induction j with
 | zero=>omega
 | succ j ih =>
  have:=step j hj;by_cases e:i=j;rw[e];exact this;have:=ih omY omY;omega
abbrev zCt(C:ak×Int×bW->ae (Bool×Bool×Int)):Prop:=∀s (i:Nat) x,ug s->fD s=true->i<s.ai.len->∃b,C (s,(i:Int),x)=.ok (cond (Vb x) (zO (s.ai.get i) x,b,0) (false,false,2))
theorem zYD{E:zbA}(CS:QSe E.c160)(lX:Ew E.iD)(Ya:zqT E.c164)(zhn:zCs E.zhn):zCt (zre E):=λs i x hs hb hi=>by
 have hl:=vX hb;obtain⟨d1,d2⟩:=zt4 (Oa hb hi);have key:∀(l:List (Int×bW))(lo hg nx:Int)(cn:Bool),∃b,∀(A:Type)(k:Bool×Bool×Int->Option A),uX E l s (i:Int) lo hg cn nx k=k (decide (nxt l nx>hg),b,0):=by
  intro l
  induction l with
  | nil=>intro lo hg nx cn;exact⟨cn,λA k=>zrf ..⟩
  | cons y l ih =>
   intro lo hg nx cn;have st:∃cn',∀(A:Type)(k:Bool×Bool×Int->Option A),uX E (y::l) s (i:Int) lo hg cn nx k=uX E l s (i:Int) lo hg cn' (cond (decide (y.2.Low<=nx)&&decide (nx<=y.2.High)) (aJ (y.2.High+1)) nx) k:=by
    have e2:∀cn' (A:Type) (k:Bool×Bool×Int->Option A),Oh E l s (i:Int) lo hg cn' nx y.2 k=uX E l s (i:Int) lo hg cn' (cond (decide (y.2.Low<=nx)&&decide (nx<=y.2.High)) (aJ (y.2.High+1)) nx) k:=λcn' A k=>by
     rw[zAD];cases decide (y.2.Low<=nx)<;>cases decide (nx<=y.2.High)<;>rfl
    cases cn with
    | true=>exact⟨true,λA k=>by rw[zbB];exact e2 _ A k⟩
    | false =>
     cases hd:decide (aJ (y.2.Low-(s.ai.get (i:Int).toNat).dJ)<=hg)with|true=>exact⟨_,λA k=>by rw[zbB,hd];exact e2 _ A k⟩|false=>exact⟨false,λA k=>by rw[zbB,hd];exact e2 _ A k⟩
   obtain⟨cn',h⟩:=st;obtain⟨b,h2⟩:=ih lo hg (cond (decide (y.2.Low<=nx)&&decide (nx<=y.2.High)) (aJ (y.2.High+1)) nx) cn';exact⟨b,λA k=>by rw[h,h2];rfl⟩
 obtain⟨b,hk⟩:=key (Ij (s.ai.get i) (s.ai.get i).bC.toNat 0) (aJ (x.Low-(s.ai.get i).aZ.High)) (aJ (x.High-(s.ai.get i).aZ.Low)) (aJ (x.Low-(s.ai.get i).aZ.High)) false;refine⟨b,ae.ext λk=>?_⟩;rw[e115,CS s hs,aX,hb,lX,aX,aX,Eu omY,show inB (i:Int) 0 ((s.ai.len:Int)-1)=true from dP omY,Ya _ _ omY,aX,bf omY,fO,zhn ⟨⟨s.ai.get i,(i:Int)⟩⟩ (Aw hb hi) d1 (by show(s.ai.get i).Dead.len<=1000;omega),aX];show cond (!decide (-1000000<=x.Low/\x.Low<=x.High/\x.High<=1000000)) _ _=_;rw[show decide (-1000000<=x.Low/\x.Low<=x.High/\x.High<=1000000)=Vb x from rfl];cases Vb x with|false=>rfl|true=>exact hk _ k
/-! Fractions, rounded. -/
def FlK(f:aP):Prop:=(-100000000000000000<=f.Num/\f.Num<=100000000000000000)/\0<f.bK/\f.bK<=100000000000000000
abbrev zt5(C:aP->ae Int):Prop:=∀f,FlK f->C f=.ok (f.Num/f.bK)
theorem Za{a b:Int}(h1 : -100000000000000000<=a/\a<=100000000000000000)(h2:0<b) : -100000000000000000<=a/b/\a/b<=100000000000000000:=by
 refine⟨Int.le_ediv_of_mul_le h2 ?_,?_⟩;have:=qds (show(1:Int)≤b by omega) (show(0:Int)≤100000000000000000 by omega);omega;rcases qd0 a 0 with h|h
 have:=Int.ediv_neg_of_neg_of_pos h h2;omega;have:=Int.ediv_le_self b h;omega
theorem zYE{E:zsz}:zt5 (zsA E):=λf h=>ae.ext λk=>by
 obtain⟨h1,h2,h3⟩:=h;have q:=Za h1 h2;rw[zWz,aX];by_cases hn:f.Num<0;have e1:(-f.Num+f.bK-1)/f.bK = -(f.Num/f.bK):=by
  have a:=qj1 f.Num f.bK;have b:=jqB f.Num (show f.bK≠0 by omega);have c:=jqi f.Num h2;refine((qjd (r:=f.bK-1-f.Num%f.bK) h2).2 ⟨?_,omY,omY⟩).1;rw[qjq];omega
 rw[dP hn,dF,bf omY,aT (x:=0-f.Num) omY omY,aT (x:=0-f.Num+f.bK) omY omY,aT (x:=0-f.Num+f.bK-1) omY omY,qdJ omY,show 0-f.Num+f.bK-1 = -f.Num+f.bK-1 by omega,e1,aT (x:=-(f.Num/f.bK)) omY omY,show 0 - -(f.Num/f.bK)=f.Num/f.bK by omega,aT omY omY];rw[dY hn,dL,bf omY,qdJ omY,aT omY omY]
abbrev zCv(C:aP->ae Int):Prop:=∀f,FlK f->C f=.ok (-(-f.Num/f.bK))
theorem zYF{E:zsB}(zbJ:zt5 E.Qd):zCv (zsC E):=λf h=>ae.ext λk=>by
 obtain⟨h1,h2,h3⟩:=h;have q:=Za (a:=-f.Num) omY h2;rw[zWB,aT (x:=0-f.Num) omY omY,show 0-f.Num = -f.Num by omega,zbJ ⟨-f.Num,f.bK⟩ ⟨by show _<=-f.Num/\-f.Num<=_;omega,h2,h3⟩,aX,aX];show k (aJ (0 - -f.Num/f.bK))=_;rw[aT omY omY,show 0 - -f.Num/f.bK = -(-f.Num/f.bK)by omega]
def ls{α:Type}(w:Sl α):List α:=(List.range w.len).map w.get
theorem fP{α:Type}(w:Sl α):(ls w).length=w.len:=by simp[ls]
theorem l7{α:Type}{w:Sl α}{i:Nat}(h:i<w.len):(ls w)[i]? = some (w.get i):=by simp[ls,qjh h]
theorem iC{α:Type}{w:Sl α}{x:α}:x∈ls w↔∃i,i<w.len/\w.get i=x:=by simp[ls]
theorem BK{α:Type}[bD α][tZ α](w:Sl α)(x:α):ls (mM w x)=ls w++[x]:=by
 unfold ls;show(List.range (w.len+1)).map _=_;rw[qjE,Qn];congr 1;exact qdo λi hi=>by
  show iR w.len w.get (λ_=>x) i=_;rw[jA,eY (by have:=KQ.1 hi;omega)]
 show [iR w.len w.get (fun _=>x) w.len]=_;rw[jA,eU (jP _)]
theorem Ik{α:Type}[bD α][tZ α](a b:Sl α):ls (⟨a.len+b.len,iR a.len a.get b.get⟩:Sl α)=ls a++ls b:=by
 unfold ls;show(List.range (a.len+b.len)).map (iR a.len a.get b.get)=_;rw[List.range_add,Qn,qdF];congr 1;exact qdo λi hi=>by rw[jA,eY (by have:=KQ.1 hi;omega)]
 exact qdo λi _=>by
  show iR a.len a.get b.get (a.len+i)=_;rw[jA,eU omY,Nat.add_sub_cancel_left]
theorem Vd(w:Sl af):chs w=(ls w).map eH:=by unfold chs ls;rw[qdF];rfl
theorem zeq{x:Int}{w:Sl af}:zN x w↔∀t∈ls w,OL x t:=by
 constructor;intro h t ht;obtain⟨i,hi,rfl⟩:=iC.1 ht;exact h i hi;intro h i hi;exact h _ (iC.2 ⟨i,hi,rfl⟩)
def RY{α:Type}[bD α](z:Nat→α)(p:α→Bool)(w:Sl α):Nat→Sl α|0=>⟨0,z⟩|i+1=>cond (p (w.get i)) (mM (RY z p w i) (w.get i)) (RY z p w i)
theorem xQ{α:Type}[bD α](z:Nat→α)(p:α→Bool)(w:Sl α):∀n,(RY z p w n).len≤n
  | 0=>jP _
  | n+1=>by
    have:=xQ z p w n;simp only[RY];cases p (w.get n)with|true=>show(RY z p w n).len+1<=n+1;omega|false=>show(RY z p w n).len<=n+1;omega
theorem Ve{α:Type}[bD α][tZ α](z:Nat→α)(p:α→Bool)(w:Sl α):∀n,ls (RY z p w n)=((List.range n).map w.get).filter p
  | 0=>rfl
  | n+1=>by
    rw[qjE,Qn,qjn,<- Ve z p w n];simp only[RY,lM,qdY];cases h:p (w.get n)with|true=>rw[dF,BK];simp[h]|false=>rw[dL];simp[h]
def usP(l:Sl bz)(c:jT)(i:Nat):Bool:=c.any λq=>(l.get q.1.toNat).aj==(i:Int)
def atB(g:Sl ay)(p:aj):Bool:=cond ((opn' g p).2 != 0) false (cond (decide ((wM g p.Z).1.Num/(wM g p.Z).1.bK < -1000000)) false (cond (decide (-(-(wM g p.Z).2.Num/(wM g p.Z).2.bK)>1000000)) false
  (Vb ⟨(wM g p.Z).1.Num/(wM g p.Z).1.bK,-(-(wM g p.Z).2.Num/(wM g p.Z).2.bK)⟩&&zO p ⟨(wM g p.Z).1.Num/(wM g p.Z).1.bK,-(-(wM g p.Z).2.Num/(wM g p.Z).2.bK)⟩)))
where opn' (g:Sl ay) (p:aj):set×Int:=Dq g ((g.get 0).Z==p.Z)
def Vf(s:ak)(l:Sl bz)(x:Int)(c:jT)(i:Nat):Bool:=cond ((s.ai.get i).View != x) false (cond (usP l c i) false (atB (oh s l c) (s.ai.get i)))
def zCw(s:ak)(l:Sl bz)(x:Int)(c:jT):List Int:=((List.range' 0 s.ai.len).filter (Vf s l x c)).map Int.ofNat
theorem KE{a b:Int}(h1 : -100000000000000000<=a)(h2:a<=100000000000000000)(hb:0<b)(V7:b<=100000000000000000):FlK (red a b):=by
 have r1:=AB (num:=a) hb;have r2:=Ib (num:=a) hb;have r3:=jC (num:=a) hb;exact⟨omY,omY,omY⟩
theorem zCx{g:Sl ay}(G:dh g){z:Int}(hz:OU z)(hc:gy g=false->0<(jD g).length):FlK (wM g z).1/\FlK (wM g z).2:=by
 have hg:=G.2;unfold wM;cases hf:gy g with
 | true =>
  obtain⟨a,b⟩:=U4 G.1 omY g.len (jP _);exact⟨KE omY omY omY omY,KE omY omY omY omY⟩
 | false =>
  obtain⟨⟨s,s1,s2⟩,_⟩:=zmk G z (hc hf);obtain⟨⟨t,t1,t2⟩,_⟩:=zml G z (hc hf);have a:=U2 (kP G s1) hz;have b:=U2 (kP G t1) hz;rw[<- s2]at a;rw[<- t2]at b;exact⟨KE omY omY omY omY,KE omY omY omY omY⟩
theorem zwX{p:aj}(h:VW p):OU p.Z:=by
 obtain⟨_,_,hz,_⟩:=h;exact⟨omY,omY⟩
theorem zwY{g:Sl ay}(G:dh g){b:Bool}(h:(Dq g b).2=0):jy g=true/\(gy g=false->0<(jD g).length):=by
 unfold Dq at h;rw[kS.2 G]at h;cases hs:jy g with
 | false=>rw[hs]at h;cases h
 | true =>
  refine⟨rfl,λhf=>?_⟩;unfold jy at hs;rw[hf,dL,oD]at hs;omega
abbrev zCy(C:Pt aW×af->ae (Sl Int)):Prop:=∀s l r x t c j,Ev s l x->OL x t->eH t=c->Val s l x c j->c≠[]->∃w:Sl Int,C (jf s r l,t)=.ok w/\ls w=zCw s l x c
theorem zYG{E:zga}(N:Big E.N)(zbH:zqZ E.c105)(zbI:zt0 E.Pi)(zAR:zCa E.znL)(zbJ:zt5 E.Qd)(zAS:zCv E.zu0)(zAT:zCt E.znM):zCy (zrF E):=λs l r x t c j he ht hc hv hn=>by
 have hl:=uk hc hv;have vz:=he.l24;have G:=OM he.toEvt he.l24 hv hn;have hp:=vX he.se;have key:∀(m i n:Nat)(w:Sl Int),i+m=s.ai.len->m<n->w.len<=i->∃w':Sl Int,(∀(A:Type)(k:Sl Int->Option A),nI E n (jf s r l) t (oh s l c) (i:Int) w k=k w')/\ls w'=ls w++((List.range' i m).filter (Vf s l x c)).map Int.ofNat:=by
  intro m
  induction m with
  | zero =>
   intro i n w hi hn hw;obtain⟨n,rfl⟩:∃n',n=n'+1:=⟨n-1,omY⟩;exact⟨w,λA k=>by rw[zk0,dY (by show ¬(i:Int)<(s.ai.len:Int);omega)];rfl,by simp⟩
  | succ m ih =>
   intro i n w hi hn hw;obtain⟨n,rfl⟩:∃n',n=n'+1:=⟨n-1,omY⟩;have VG:=Aw he.se (i:=i) omY;have hz:=zwX VG;rw[SG];have st:∀(A:Type)(k:Sl Int->Option A),nI E (n+1) (jf s r l) t (oh s l c) (i:Int) w k=cond (Vf s l x c i) (nI E n (jf s r l) t (oh s l c) ((i+1:Nat):Int) (mM w (i:Int)) k) (nI E n (jf s r l) t (oh s l c) ((i+1:Nat):Int) w k):=λA k=>by
    have u:E.Pi (t.Hits,.inr ⟨(),⟨jf s r l⟩,⟨(i:Int)⟩⟩)=.ok (usP l c i):=by
     rw[zbI s l r t.Hits (.inr ⟨(),⟨jf s r l⟩,⟨(i:Int)⟩⟩) (Ih hc hv) omY rfl];exact jZ ae.ok (zem (l:=l) hc λh=>(l.get h.toNat).aj==(i:Int))
    rw[zk0,dP (show(i:Int)<((jf s r l).v.ak.ai.len:Int)by show(i:Int)<(s.ai.len:Int);omega),dF,bf (show 0<=(i:Int)/\(i:Int)<((jf s r l).v.ak.ai.len:Int)by show _/\(i:Int)<(s.ai.len:Int);omega),fO,u,aX,bF omY,ht.1];show cond ((s.ai.get i).View != x) _ _=_;unfold Vf;cases(s.ai.get i).View != x with
    | true=>rfl
    | false =>
     simp only[dL];cases usP l c i with
     | true=>rfl
     | false =>
      simp only[dL];show(E.znL (oh s l c,(s.ai.get i).Z)).T _=_;rw[zAR _ _ G hz,aX];unfold atB atB.opn';cases ho:(Dq (oh s l c) (((oh s l c).get 0).Z==(s.ai.get i).Z)).2 != 0 with
      | true =>
       simp only[dF];show cond ((Dq (oh s l c) (((oh s l c).get 0).Z==(s.ai.get i).Z)).2 != 0) _ _=_;rw[ho];rfl
      | false =>
       obtain⟨_,hco⟩:=zwY G (by simpa using ho);obtain⟨b1,b2⟩:=zCx G hz hco;simp only[dL];show(E.Qd (wM (oh s l c) (s.ai.get i).Z).1).T _=_;rw[zbJ _ b1,aX,zAS _ b2,aX];generalize (wM (oh s l c) (s.ai.get i).Z).1.Num/(wM (oh s l c) (s.ai.get i).Z).1.bK=fa;generalize -(-(wM (oh s l c) (s.ai.get i).Z).2.Num/(wM (oh s l c) (s.ai.get i).Z).2.bK)=fb;cases decide (fa < -1000000)with
       | true=>rfl
       | false =>
        cases decide (fb>1000000)with
        | true=>rfl
        | false =>
         simp only[dL];obtain⟨b,hb⟩:=zAT s i ⟨fa,fb⟩ he.sh he.se omY;show(E.znM (s,(i:Int),⟨fa,fb⟩)).T _=_;rw[hb,aX];cases Vb ⟨fa,fb⟩with
         | false=>rfl
         | true =>
          show cond (zO (s.ai.get i) ⟨fa,fb⟩) (aU (room (w.len+1) 8) _) _=cond (true&&zO (s.ai.get i) ⟨fa,fb⟩) _ _;rw[ja omY omY];cases zO (s.ai.get i) ⟨fa,fb⟩<;>rfl
   cases hb:Vf s l x c i with
   | true =>
    rw[hb]at st;obtain⟨w',a,b⟩:=ih (i+1) n (mM w (i:Int)) omY omY (by show w.len+1<=i+1;omega);exact⟨w',λA k=>by rw[st];exact a A k,by rw[b,BK];simp[hb]⟩
   | false =>
    rw[hb]at st;obtain⟨w',a,b⟩:=ih (i+1) n w omY omY omY;exact⟨w',λA k=>by rw[st];exact a A k,by rw[b];simp[hb]⟩
 obtain⟨w',a,b⟩:=key s.ai.len 0 E.N ⟨0,λ_=>0⟩ omY (by have:=N;omega) (jP _);refine⟨w',ae.ext λk=>?_,b⟩;rw[zVE,zbH s l r t he.toEvt omY (KD he.vw ht hc hv hn),aX,U0 hc,aX];exact a _ k
def qG(s:ak)(l:Sl bz)(x:Int)(r:bQ)(c:jT):Bool:=decide ((c.length:Int)>=r.yI)&&decide (((zCw s l x c).length:Int)<=r.Dj)
abbrev zCz(C:Pt aW×af->ae Bool):Prop:=∀s l r x t c j,Ev s l x->OL x t->eH t=c->Val s l x c j->c≠[]->C (jf s r l,t)=.ok (qG s l x r c)
theorem zYH{E:zrq}(zAN:zCy E.c141):zCz (zrr E):=λs l r x t c j he ht hc hv hn=>ae.ext λk=>by
 obtain⟨w,h1,h2⟩:=zAN s l r x t c j he ht hc hv hn;rw[e129,h1,aX,aX];unfold qG;rw[<- h2,fP,<- hc,kG];show cond (decide ((t.Hits.len:Int)>=r.yI)) (k (decide ((w.len:Int)<=r.Dj))) (k false)=_;cases decide ((t.Hits.len:Int)>=r.yI)<;>rfl
/-! Choices that contain others. -/
abbrev zCA(C:Sl Int×Int->ae Int):Prop:=∀(w:Sl Int) x,w.len<=1000->C (w,x)=.ok (fst (λj=>x==w.get j) w.len 0)
theorem zYI{E:zge}(N:Big E.N):zCA (zrR E):=λw x hw=>ae.ext λk=>by
 rw[e152,aX];refine Fj (L:=λn i=>UC E n w x i k) (p:=λj=>x==w.get j) (m:=w.len) (k:=k) omY (λn i hi=>?_) (λn=>?_) _ (by have:=N;omega);rw[zk6,dP omY,dF,bf omY,fO];rw[zk6,dY omY];rfl
theorem zmD(p:Nat→Bool):∀m i,0≤fst p m i→∃j:Nat,fst p m i=(j:Int)∧i≤j∧j<i+m∧p j=true
  | 0,i,h=>by simp[fst]at h
  | m+1,i,h=>by
    simp only[fst]at h ⊢;cases hp:p i with
    | true=>exact⟨i,rfl,jP _,omY,hp⟩
    | false =>
      rw[hp,dL]at h;obtain⟨j,a,b,c,d⟩:=zmD p m (i+1) h;exact⟨j,a,omY,omY,d⟩
structure One (t : af) : Prop where
  le:t.Hits.len<=100
  sd:t.bu.len=t.Hits.len
  un:∀i j,i<t.Hits.len->j<t.Hits.len->t.Hits.get i=t.Hits.get j->i=j
theorem pJ{t:af}{p:Int×Int}:p∈eH t↔∃i,i<t.Hits.len/\t.Hits.get i=p.1/\t.bu.get i=p.2:=by
 unfold eH;simp only[uu,KQ];constructor;rintro⟨i,hi,rfl⟩;exact⟨i,hi,rfl,rfl⟩;rintro⟨i,hi,h1,h2⟩;exact⟨i,hi,by rw[h1,h2]⟩
abbrev Q92(C:af×af->ae Bool):Prop:=∀a b,One a->One b->C (a,b)=.ok (Ig a b)
theorem s92{E:E92}(N:Big E.N)(zAt:zCA E.c152):Q92 (F92 E):=λa b ha hb=>ae.ext λk=>by
 have la:=ha.le;have lb:=hb.le;rw[e92,aX,loopA (L:=λn i=>zdT E n a b i k) (p:=λi=>(eH a).contains (b.Hits.get i,b.bu.get i)) (m:=b.Hits.len) (fin:=k (a.View==b.View)) (stop:=k false) omY (λn i hi=>?_) (λn=>?_) _ (by have:=N;omega)];have e:Ig a b=(dX (λi=>(eH a).contains (b.Hits.get i,b.bu.get i)) b.Hits.len&&(a.View==b.View)):=by
  unfold Ig;congr 1;rw [PN,cZ,yL];constructor;intro h i hi;exact h _ (pJ.2 ⟨i,hi,rfl,rfl⟩);intro h p hp;obtain⟨i,hi,h1,h2⟩:=pJ.1 hp;have:=h i hi;rw[h1,h2]at this;exact this;rw[PN,KN,KN];exact eq_comm
 rw[e];cases dX (λi=>(eH a).contains (b.Hits.get i,b.bu.get i)) b.Hits.len<;>rfl;rw [zwJ,dP omY,dF,bf omY,fO,zAt _ _ omY,aX];by_cases h0:fst (λj=>b.Hits.get i==a.Hits.get j) a.Hits.len 0<0;have:(eH a).contains (b.Hits.get i,b.bu.get i)=false:=by
  cases hc:(eH a).contains (b.Hits.get i,b.bu.get i)with
  | false=>rfl
  | true =>
   obtain⟨j,hj,h1,_⟩:=pJ.1 (qjb.1 hc);have:=(zd0 (λj=>b.Hits.get i==a.Hits.get j) a.Hits.len 0).2 ⟨j,Ad _,omY,by simp[h1]⟩;omega
 rw[dP h0,this];rfl;obtain⟨j,e,_,hj,hp⟩:=zmD (fun j=>b.Hits.get i==a.Hits.get j) a.Hits.len 0 omY;have sa:=ha.sd;have sb:=hb.sd;have hp:b.Hits.get i=a.Hits.get j:=eq_of_beq hp;rw[dY h0,dL,e,bf omY,bf omY,fO];have:(eH a).contains (b.Hits.get i,b.bu.get i)=(a.bu.get j==b.bu.get i):=by
  rw[PN,qjb,pJ,KN];constructor;rintro⟨q,hq,h1,h2⟩;have:=ha.un q j hq omY (h1.trans hp);rw[this]at h2;exact h2;intro h;exact⟨j,omY,hp.symm,h⟩
 rw[this,bne];cases a.bu.get j==b.bu.get i<;>rfl;rw[zwJ,dY omY];rfl
theorem zt6{s:ak}{l:Sl bz}{x:Int}{t:af}{c:jT}{j:Nat}(vz:l.len<=24)(ht:OL x t)(hc:eH t=c)(h:Val s l x c j):One t:=by
 have hl:=uk hc h;have lc:c.length=t.Hits.len:=by rw[<- hc,kG]
 refine⟨omY,ht.2,λa b ha hb e=>?_⟩;have pw:=dq9.1 h.pw;have ge:∀i (hi:i<t.Hits.len),c[i]'omY=(t.Hits.get i,t.bu.get i):=λi hi=>by
  have:=AL hc hi;rw[yC omY]at this;exact SH this
 rcases qjR a b with q|q|q
 have:=(pw a b omY omY q).1;rw[ge a ha,ge b hb]at this;simp only at this;omega;exact q;have:=(pw b a omY omY q).1;rw[ge a ha,ge b hb]at this;simp only at this;omega
def Il(a b:af):Bool:=decide ((a.Hits.len:Int)>(b.Hits.len:Int))&&Ig a b
abbrev zCB(C:af×Pt af->ae Bool):Prop:=∀a (b:Pt af),One a->One b.v->C (a,b)=.ok (Il a b.v)
theorem zYK{E:zry}(h92:Q92 E.c92):zCB (zrz E):=λa b ha hb=>ae.ext λk=>by
 rw[zVx,h92 _ _ ha hb,aX,aX];unfold Il;cases decide ((a.Hits.len:Int)>(b.v.Hits.len:Int))<;>rfl
abbrev zt7(C:Sl af×dM 132 Unit (Pt af)->ae Int):Prop:=∀(w:Sl af)(c:dM 132 Unit (Pt af)),(∀t∈ls w,One t)->w.len<=10000->One c.v.v->C (w,c)=.ok (fst (λj=>Il (w.get j) c.v.v) w.len 0)
theorem zt8{E:Az}(N:Big E.N)(zAw:zCB E.zuP):zt7 (Kw E):=λw c hw hl hc=>ae.ext λk=>by
 rw[zq5,aX];refine Fj (L:=λn i=>AA E n w c i k) (p:=λj=>Il (w.get j) c.v.v) (m:=w.len) (k:=k) omY (λn i hi=>?_) (λn=>?_) _ (by have:=N;omega);rw[RG,dP omY,dF,bf omY,fO,zAw _ _ (hw _ (iC.2 ⟨i,hi,rfl⟩)) hc,aX];rw[RG,dY omY];rfl
abbrev Q98(C:af×Pt Int->ae Bool):Prop:=∀t p,C (t,p)=.ok (t.View==p.v)
theorem s98{E:E98}:Q98 (F98 E):=λt p=>ae.ext λk=>by rw[e98,aX]
abbrev zt9(C:Sl af×dM 98 Unit (Pt Int)->ae Int):Prop:=∀(w:Sl af)(c:dM 98 Unit (Pt Int)),w.len<=10000->C (w,c)=.ok (fst (λj=>(w.get j).View==c.v.v) w.len 0)
theorem zCC{E:H5}(N:Big E.N)(h98:Q98 E.c98):zt9 (Ut E):=λw c hl=>ae.ext λk=>by
 rw[zAx,aX];refine Fj (L:=λn i=>EE E n w c i k) (p:=λj=>(w.get j).View==c.v.v) (m:=w.len) (k:=k) omY (λn i hi=>?_) (λn=>?_) _ (by have:=N;omega);rw[Yf,dP omY,dF,bf omY,fO,h98,aX];rw[Yf,dY omY];rfl
abbrev Q97(C:Sl af×(dM 132 Unit (Pt af) ⊕ dM 98 Unit (Pt Int))->ae Int):Prop:=zt7 (λx=>C (x.1,.inl x.2))/\zt9 (λx=>C (x.1,.inr x.2))
theorem s97{f:Sl af×dM 132 Unit (Pt af)->ae Int}{g:Sl af×dM 98 Unit (Pt Int)->ae Int}(a:zt7 f)(b:zt9 g):Q97 (ae.two f g):=⟨a,b⟩
theorem zmE{α:Type}{w:Sl α}{p:α->Bool}:(!dX (λj=>!p (w.get j)) w.len)=(ls w).any p:=by
 rw[PN,JS,<- qjw,cZ,qdX];constructor
 ·intro h;apply qdM;intro hn;refine h λj hj=>?_;cases e:p (w.get j)with|false=>rfl|true=>exact(hn ⟨_,iC.2 ⟨j,hj,rfl⟩,e⟩).elim
 rintro⟨q,hq,e⟩ h;obtain⟨j,hj,rfl⟩:=iC.1 hq;have:=h j hj;rw[e]at this;cases this
abbrev zCD(C:Sl af×dM 132 Unit (Pt af)->ae Bool):Prop:=∀(w:Sl af)(c:dM 132 Unit (Pt af)),(∀t∈ls w,One t)->w.len<=10000->One c.v.v->C (w,c)=.ok ((ls w).any λx=>Il x c.v.v)
theorem zYM{E:zrv}(h97:Q97 E.c97):zCD (zrx E):=λw c hw hl hc=>ae.ext λk=>by
 rw[zVv];show(E.c97 (w,.inl c)).T _=_;rw[show E.c97 (w,.inl c)=_ from h97.1 w c hw hl hc,aX,aX,xN (λj=>Il (w.get j) c.v.v),zmE (p:=λx=>Il x c.v.v)]
abbrev zCE(C:af×Pt (Pt found)->ae Bool):Prop:=∀t (f:Pt (Pt found)),(∀t∈ls f.v.v.fits,One t)->f.v.v.fits.len<=10000->One t->C (t,f)=.ok (!(ls f.v.v.fits).any λx=>Il x t)
theorem zYN{E:zrt}(zAO:zCD E.c131):zCE (zru E):=λt f hf hl ht=>ae.ext λk=>by
 rw[zVt,zAO f.v.v.fits _ hf hl ht,aX,aX]
/-! Those that are as wanted. -/
abbrev Vg:Nat->af:=λ_=>⟨0,⟨0,λ_=>0⟩,⟨0,λ_=>0⟩⟩
abbrev zua:=dM 129 (Pt aW) Unit ⊕ dM 130 Unit (Pt (Pt found))
def yH:zua→af→Bool|.inl c,t=>qG c.a.v.ak c.a.v.hits t.View c.a.v.rules (eH t)|.inr c,t=>!(ls c.v.v.v.fits).any λx=>Il x t
structure kY (s : ak) (l : Sl bz) (t : af) : Prop where
  ev:Ev s l t.View
  tv:OL t.View t
  vl:∃j,Val s l t.View (eH t) j
  ne:eH t≠[]
theorem kY.one{s:ak}{l:Sl bz}{t:af}(h:kY s l t):One t:=by
 obtain⟨j,hj⟩:=h.vl;exact zt6 h.ev.l24 h.tv rfl hj
def okF:zua→Sl af→Prop|.inl c,w=>∃s l r,c.a=jf s r l/\∀t∈ls w,kY s l t|.inr c,w=>(∀t∈ls w,One t)/\(∀t∈ls c.v.v.v.fits,One t)/\c.v.v.v.fits.len<=10000
abbrev QFi{γ:Type}(i:γ->zua)(C:Sl af×γ->ae (Sl af×Unit)):Prop:=∀(w:Sl af)(c:γ),okF (i c) w->w.len<=10000->C (w,c)=.ok (RY Vg (yH (i c)) w w.len,())
abbrev zue(C:Sl af×zua->ae (Sl af×Unit)):Prop:=QFi id C
theorem zmF{E:wu}(N:Big E.N)(zAL:zCz E.zuO):QFi .inl (EM E):=λw c ho hl=>ae.ext λk=>by
 obtain⟨s,l,r,e,hc⟩:=ho;rw[zkW,aX];refine lq (X:=λn i=>sG E n w c (i:Int) (RY Vg (yH (.inl c)) w i) k) (m:=w.len) (λn i hi=>?_) (λn=>?_) _ (by have:=N;omega);have h:=hc _ (iC.2 ⟨i,hi,rfl⟩);obtain⟨j,hj⟩:=h.vl;have:=xQ Vg (yH (.inl c)) w i;have e2:yH (.inl c) (w.get i)=qG s l (w.get i).View r (eH (w.get i)):=by show qG c.a.v.ak c.a.v.hits (w.get i).View c.a.v.rules (eH (w.get i))=_;rw[e];rfl
 rw[Ol,dP omY,dF,bf omY,fO,e,zAL s l r _ _ _ j h.ev h.tv rfl hj h.ne,aX,ja omY omY,bF omY];simp only[RY,e2];cases qG s l (w.get i).View r (eH (w.get i))<;>rfl;rw[Ol,dY omY];rfl
theorem zmG{E:ww}(N:Big E.N)(zAM:zCE E.c130):QFi .inr (EN E):=λw c ho hl=>ae.ext λk=>by
 obtain⟨h1,h2,h3⟩:=ho;rw[zkY,aX];refine lq (X:=λn i=>sH E n w c (i:Int) (RY Vg (yH (.inr c)) w i) k) (m:=w.len) (λn i hi=>?_) (λn=>?_) _ (by have:=N;omega);have:=xQ Vg (yH (.inr c)) w i;have e2:yH (.inr c) (w.get i) = !(ls c.v.v.v.fits).any λx=>Il x (w.get i):=rfl;rw[Om,dP omY,dF,bf omY,fO,zAM _ c.v h2 h3 (h1 _ (iC.2 ⟨i,hi,rfl⟩)),aX,ja omY omY,bF omY];simp only[RY,e2];cases !(ls c.v.v.v.fits).any λx=>Il x (w.get i)<;>rfl;rw[Om,dY omY];rfl
theorem zYO{f:Sl af×dM 129 (Pt aW) Unit->ae (Sl af×Unit)}{g:Sl af×dM 130 Unit (Pt (Pt found))->ae (Sl af×Unit)}(a:QFi .inl f)(b:QFi .inr g):zue (ae.two f g):=λw c ho hl=>by
 rcases c with c|c
 exact a w c ho hl;exact b w c ho hl
/-! The order. -/
abbrev zCG(C:Int->ae Bool):Prop:=∀x,C x=.ok false
theorem zYP{E:zsZ}:zCG (zs3 E):=λx=>ae.ext λk=>by rw[e222,aX,show(x != x)=false by simp]
theorem zYQ{E:zst}(zsv:zCG E.c222):zb0 (zsu E):=λa b=>ae.ext λk=>by
 rw[zWv,zsv,aX,zsv,aX,aX];unfold qi;cases decide (a<b)<;>cases decide (a>b)<;>rfl
abbrev Zb(C:Sl Int×Sl Int->ae Int):Prop:=∀a b:Sl Int,a.len<=1000->b.len<=1000->C (a,b)=.ok (cmpL (fB a) (fB b))
theorem zYR{E:zgk}(N:Big E.N)(zbQ:zb0 E.c208):Zb (zsw E):=λa b ha hb=>ae.ext λk=>by
 have key:∀(m i n:Nat),i+m=a.len->m<n->UE E n a b (i:Int) k=k (cmpL ((List.range' i m).map a.get) ((List.range' i (b.len-i)).map b.get)):=by
  intro m
  induction m with
  | zero =>
   intro i n hi hn;obtain⟨n,rfl⟩:∃n',n=n'+1:=⟨n-1,omY⟩;rw[zli,dY omY,dL,kc k];congr 1;cases h:b.len-i with|zero=>rw[dY omY];rfl|succ q=>rw[dP omY];rfl
  | succ m ih =>
   intro i n hi hn;obtain⟨n,rfl⟩:∃n',n=n'+1:=⟨n-1,omY⟩;rw[zli,dP omY,dF,bf omY,SG,lM];cases h:b.len-i with
   | zero=>rw[dP omY];rfl
   | succ q =>
    rw[dY omY,dL,bf omY,fO,zbQ,aX,bF omY,ih (i+1) n omY omY,SG,lM,kc k,show b.len-(i+1)=q by omega];rfl
 rw[e187,aX];have:=key a.len 0 E.N omY (by have:=N;omega);unfold fB;rw[dq7,dq7];exact this
theorem zYS(a b c:Int):X5 [a,b,c] 0=a/\X5 [a,b,c] 1=b/\X5 [a,b,c] 2=c:=by
 refine⟨?_,?_,?_⟩;show(bD.dec (Jw (shp 8) (bD.enc a) (bD.enc a))).1=a;rw[mV (uD 8) (bD.sm _ _),tZ.de];show(bD.dec (Jw (shp 8) (bD.enc a) (bD.enc b))).1=b;rw[mV (uD 8) (bD.sm _ _),tZ.de];show(bD.dec (Jw (shp 8) (bD.enc a) (bD.enc c))).1=c;rw[mV (uD 8) (bD.sm _ _),tZ.de]
abbrev zCH(C:Sl Int->ae Int):Prop:=∀a b c:Int,C ⟨3,X5 [a,b,c]⟩=.ok (cond (a != 0) a (cond (b != 0) b c))
theorem zYT{E:zgj}(N:Big E.N):zCH (zss E):=λa b c=>ae.ext λk=>by
 obtain⟨n,hn⟩:∃n,E.N=n+1+1+1+1:=⟨E.N-4,by have:=N;omega⟩;obtain⟨g0,g1,g2⟩:=zYS a b c;have st:∀n (i:Nat),i<3->H6 E (n+1) ⟨3,X5 [a,b,c]⟩ (i:Int) k=cond (X5 [a,b,c] i != 0) (k (X5 [a,b,c] i)) (H6 E n ⟨3,X5 [a,b,c]⟩ ((i+1:Nat):Int) k):=λn i hi=>by
  rw[zlh,dP (show(i:Int)<((3:Nat):Int)by omega),dF,bf (show 0<=(i:Int)/\(i:Int)<((3:Nat):Int)by omega),bF omY];rfl
 have en:∀n,H6 E (n+1) ⟨3,X5 [a,b,c]⟩ ((3:Nat):Int) k=k 0:=λn=>by
  rw[zlh,dY (show ¬((3:Nat):Int)<((3:Nat):Int)by omega)];rfl
 rw[e185,aX,hn];refine(st _ 0 omY).trans ?_;rw[st _ 1 omY,st _ 2 omY,en,g0,g1,g2];by_cases h:c=0;subst h;cases a != 0<;>cases b != 0<;>rfl;rw [show(c != 0)=true by simpa using h];cases a != 0<;>cases b != 0<;>rfl
abbrev zuf(C:af×af->ae Int):Prop:=∀a b:af,One a->One b->C (a,b)=.ok (ztS a b)
theorem zYU{E:zrA}(zAP:zb0 E.zuY)(zrC:Zb E.znQ)(zAQ:zCH E.zuX):zuf (zrB E):=λa b ha hb=>ae.ext λk=>by
 have a1:=ha.le;have a2:=ha.sd;have b1:=hb.le;have b2:=hb.sd;rw[zVA,zAP,aX,zrC _ _ omY omY,aX,zrC _ _ omY omY,aX,zAQ,aX,aX];rfl
abbrev zCI(C:Sl Bool×Bool->ae Int):Prop:=∀(w:Sl Bool) x,w.len<=1000->C (w,x)=.ok (fst (λj=>x==w.get j) w.len 0)
theorem zYV{E:zgh}(N:Big E.N):zCI (zsk E):=λw x hw=>ae.ext λk=>by
 rw[zWj,aX];refine Fj (L:=λn i=>UD E n w x i k) (p:=λj=>x==w.get j) (m:=w.len) (k:=k) omY (λn i hi=>?_) (λn=>?_) _ (by have:=N;omega);rw[zlb,dP omY,dF,bf omY,fO];rw[zlb,dY omY];rfl
abbrev zug(C:Sl Bool×Bool->ae Bool):Prop:=∀(w:Sl Bool) x,w.len<=1000->C (w,x)=.ok ((ls w).any λb=>x==b)
theorem zYW{E:zrn}(zAJ:zCI E.zuW):zug (zro E):=λw x hw=>ae.ext λk=>by
 rw[e126,zAJ w x hw,aX,aX,xN (λj=>x==w.get j),zmE (p:=λb=>x==b)]
structure JH (s : ak) (r : bQ) (l : Sl bz) (f : found) : Prop where
  ev:f.aW=jf s r l
  fx:∃X Y:List af,ls f.fits=X++Y/\(∀t∈X,OL 1 t)/\(∀t∈Y,OL 2 t)/\X.map eH=(kw s l 1).filter (qG s l 1 r)/\Y.map eH=(kw s l 2).filter (qG s l 2 r)
  tr:(ls f.bn).Perm ((ls f.fits).filter λt=>!(ls f.fits).any λx=>Il x t)
  st:(ls f.bn).Pairwise Ie
theorem OY{s:ak}{l:Sl bz}{x:Int}{c:jT}(h:c∈kw s l x):(∃j,Ch (JG s l) (FB l) (RI s l x) c j)/\c≠[]:=by
 refine⟨zwR .nil h,?_⟩;obtain⟨p,e,_,h⟩:=UW h;rw[h];simp
theorem Io(s:ak)(l:Sl bz)(x:Int)(i:Nat):(RI s l x i).Nodup:=RN s l x _ _
theorem Dc {P : Int → jT → Bool} {x : Int} : ∀ {L : List af}, (∀ t ∈ L, t.View = x) → (L.filter fun t => P t.View (eH t)).map eH = (L.map eH).filter (P x)
  | [],_=>rfl
  | t::L,h=>by
    have ih:=Dc (P:=P) (L:=L) λu hu=>h u (jM _ hu);have e:=h t kH;rw[lM,qdk,qdk,e];by_cases hp:P x (eH t)=true;rw[eU hp,eU hp,lM,ih];rw[eY hp,eY hp,ih]
def Df(a b:af):Prop:=¬(a.View=b.View/\eH a=eH b)
theorem zCJ{a b:af}(h:Df a b):Df b a:=λk=>h ⟨k.1.symm,k.2.symm⟩
theorem zwZ{X:List af}(h:(X.map eH).Nodup):X.Pairwise Df:=by
 unfold List.Nodup at h;rw[qjr]at h;exact h.imp λhn k=>hn k.2
abbrev Q72(C:ak×bQ×Sl bz×Sl Bool->ae (Int ⊕ (Pt found×Int))):Prop:=∀s r l (w:Sl Bool),ug s->l.len<=40->lJ s r l=0->(kw s l 1).length<=2000->(kw s l 2).length<=2000->w.len<=10->(∀b∈ls w,b=true)->∃f:Pt found,C (s,r,l,w)=.ok (.inr (f,0))/\JH s r l f.v
theorem s72{E:E72}(h78:Q78 E.c78)(Ye:zug E.Qb)(Z5:zJQ E.c127)(zho:zue E.FZ)(zCK:zuf E.VF):Q72 (F72 E):=λs r l w hs hl h0 n1 n2 hw hb=>by
  obtain⟨he,_,vz⟩:=Iz hs h0;have ev1:Ev s l 1:={toEvt:=he,l24:=vz,vw:=rfl};have ev2:Ev s l 2:={toEvt:=he,l24:=vz,vw:=rfl};obtain⟨w1,a1,b1,c1⟩:=Z5 s l r 1 ev1 n1;obtain⟨w2,a2,b2,c2⟩:=Z5 s l r 2 ev2 n2;have ln1:w1.len<=2000:=by rw[<- kT,b1];exact n1
  have ln2:w2.len<=2000:=by rw[<- kT,b2];exact n2
  have cs:∀{x:Int}{w:Sl af},Ev s l x->chs w=kw s l x->zN x w->∀t∈ls w,t.View=x/\kY s l t:=fun {x w} ev hb hc t ht=>by
    have hv:=zeq.1 hc t ht;have hm:eH t∈kw s l x:=by rw[<- hb,Vd];exact qjk ht
    obtain⟨⟨j,hj⟩,jb⟩:=OY hm;have e:=hv.1;subst e;exact⟨rfl,ev,hv,⟨j,UZ hj⟩,jb⟩
  have k1:=cs ev1 b1 c1;have k2:=cs ev2 b2 c2;have f1:=zho w1 (.inl ⟨jf s r l,()⟩) ⟨s,l,r,rfl,λt ht=>(k1 t ht).2⟩ omY;have f2:=zho w2 (.inl ⟨jf s r l,()⟩) ⟨s,l,r,rfl,λt ht=>(k2 t ht).2⟩ omY;have g1:ls (RY Vg (yH (id (.inl ⟨jf s r l,()⟩))) w1 w1.len)=(ls w1).filter λt=>qG s l t.View r (eH t):=Ve _ _ _ _;have g2:ls (RY Vg (yH (id (.inl ⟨jf s r l,()⟩))) w2 w2.len)=(ls w2).filter λt=>qG s l t.View r (eH t):=Ve _ _ _ _;have m1:=xQ Vg (yH (id (.inl ⟨jf s r l,()⟩))) w1 w1.len;have m2:=xQ Vg (yH (id (.inl ⟨jf s r l,()⟩))) w2 w2.len;generalize hu1:RY Vg (yH (id (.inl ⟨jf s r l,()⟩))) w1 w1.len=u1 at f1 g1 m1;generalize hu2:RY Vg (yH (id (.inl ⟨jf s r l,()⟩))) w2 w2.len=u2 at f2 g2 m2;have hX:(ls u1).map eH=(kw s l 1).filter (qG s l 1 r):=by
    rw[g1,Dc (P:=λx c=>qG s l x r c) (x:=1) λt ht=>(k1 t ht).1,<- b1,Vd]
  have hY:(ls u2).map eH=(kw s l 2).filter (qG s l 2 r):=by
    rw[g2,Dc (P:=λx c=>qG s l x r c) (x:=2) λt ht=>(k2 t ht).1,<- b2,Vd]
  have q1:∀t∈ls u1,t.View=1/\kY s l t:=λt ht=>by rw[g1]at ht;exact k1 t (Qp.1 ht).1
  have q2:∀t∈ls u2,t.View=2/\kY s l t:=λt ht=>by rw[g2]at ht;exact k2 t (Qp.1 ht).1
  let ft:Sl af:=⟨u1.len+u2.len,iR u1.len u1.get u2.get⟩;have hf:ls ft=ls u1++ls u2:=Ik u1 u2;have qf:∀t∈ls ft,kY s l t:=λt ht=>by
    rw[hf]at ht;rcases dR.1 ht with h|h
    exact(q1 t h).2;exact(q2 t h).2
  have dff:(ls ft).Pairwise Df:=by
    rw[hf,qdy];refine⟨zwZ ?_,zwZ ?_,λa ha b hb=>λk=>?_⟩;rw[hX];exact(Fv (Io s l 1) _ _ _).filter _;rw[hY];exact(Fv (Io s l 2) _ _ _).filter _;have:=(q1 a ha).1;have:=(q2 b hb).1;have:=k.1;omega
  let cl:dM 130 Unit (Pt (Pt found)):=⟨(),⟨⟨⟨jf s r l,ft,⟨0,Vg⟩⟩⟩⟩⟩;have lf:ft.len<=4000:=by show u1.len+u2.len<=4000;omega
  have f3:=zho ft (.inr cl) ⟨λt ht=>(qf t ht).one,λt ht=>(qf t ht).one,by show ft.len<=10000;omega⟩ omY;have g3:ls (RY Vg (yH (id (.inr cl))) ft ft.len)=(ls ft).filter λt=>!(ls ft).any λx=>Il x t:=Ve _ _ _ _;have m3:=xQ Vg (yH (id (.inr cl))) ft ft.len;generalize hu3:RY Vg (yH (id (.inr cl))) ft ft.len=u3 at f3 g3 m3;have q3:∀t∈ls u3,kY s l t:=λt ht=>by rw[g3]at ht;exact qf t (Qp.1 ht).1
  have df3:(ls u3).Pairwise Df:=by rw[g3];exact dff.sublist List.filter_sublist
  have in3:∀i,i<u3.len->kY s l (u3.get i):=λi hi=>q3 _ (iC.2 ⟨i,hi,rfl⟩);have ne3:∀i j,i<u3.len->j<u3.len->i≠j->Df (u3.get i) (u3.get j):=λi j hi hj Ju=>by
    have P:=dq9.1 df3;have ge:∀i (hi:i<u3.len),(ls u3)[i]'(by rw[fP];exact hi)=u3.get i:=λi hi=>by
      have:=l7 hi;rw[yC (by rw[fP];exact hi)]at this;exact SH this
    rcases qdP i j with h|h
    have:=P i j (by rw [fP];exact hi) (by rw [fP];exact hj) h;rwa[ge i hi,ge j hj]at this;have:=P j i (by rw [fP];exact hj) (by rw [fP];exact hi) omY;rw[ge i hi,ge j hj]at this;exact zCJ this
  obtain⟨hp,p,p1,p2,p3⟩:=zwQ (C:=ae.un E.VF) (caps:=[]) (ag:=true) (w:=u3) (cmp:=ztS) (R:=Ie) omY
    (λi j hi hj=>by
      show(E.VF (u3.get i,u3.get j)).T _=_;rw[zCK _ _ (in3 i hi).one (in3 j hj).one];rfl)
    (λi j hi hj=>ztT) (λi hi=>zei _) (λi j hi hj Ju=>zej λh=>ne3 i j hi hj Ju ⟨h.1,zmn h.2.1 h.2.2 (in3 i hi).tv.2 (in3 j hj).tv.2⟩) (λi j _ _ h=>zmm h)
    (λi j k _ _ _ a b=>zb4 a b)
  have pl:p.length=u3.len:=by rw[p1.length_eq,List.length_range]
  let tr:Sl af:=⟨u3.len,soG (ae.un E.VF) [] true u3⟩;have ht:ls tr=p.map u3.get:=by
    refine jqv (by rw[fP,VM,pl]) λi h1 h2=>?_;have hi:i<u3.len:=by rw[fP]at h1;exact h1
    have:=l7 (w:=tr) (i:=i) hi;rw[yC h1]at this;rw[SH this,List.getElem_map];exact p3 i omY
  refine⟨⟨⟨jf s r l,ft,tr⟩⟩,ae.ext λk=>?_,rfl,⟨ls u1,ls u2,hf,λt h=>?_,λt h=>?_,hX,hY⟩,?_,?_⟩;have no:((ls w).any λb=>false==b)=false:=by
    rw[qjc];intro b V7;rw[hb b V7];simp
  rw[e72,h78 s r l hs hl,aX];have eo:opn s r l=.inr (jf s r l,0):=by unfold opn;rw[h0];rfl
  rw[eo];show(E.Qb (w,false)).T _=_;rw[Ye w false omY,aX,no];show(E.c127 (jf s r l,1)).T _=_;rw[a1,aX];show(E.FZ (w1,.inl ⟨jf s r l,()⟩)).T _=_;rw[f1,aX];show aU (room u1.len 56) ((E.c127 (jf s r l,2)).T _)=_;rw[ja omY omY,a2,aX];show(E.FZ (w2,.inl ⟨jf s r l,()⟩)).T _=_;rw[f2,aX];show aU (room (u1.len+u2.len) 56) ((E.FZ (ft,.inr cl)).T _)=_;rw[ja omY omY,f3,aX];show zdQ E (jf s r l) ft u3 k=_;rw[zIV,hp];rfl;have:=q1 t h;exact⟨this.1,this.2.tv.2⟩;have:=q2 t h;exact⟨this.1,this.2.tv.2⟩;show(ls tr).Perm _;rw[ht];show(p.map u3.get).Perm ((ls ft).filter λt=>!(ls ft).any λx=>Il x t);rw[<- g3];exact p1.map _;show(ls tr).Pairwise Ie;rw[ht,qjr];exact p2
theorem zCL{s:straight}(S:yN s):(fA s).Start.Num*s.den=s.start*(fA s).Start.bK/\(fA s).dI.Num*s.den=s.bT*(fA s).dI.bK:=by
 have p:0<s.den:=by have:=S.2.2;omega
 have key:∀a,(red a s.den).Num*s.den=a*(red a s.den).bK:=λa=>by
  have h1:=pF (num:=a) p;have h2:=nK (num:=a) p;generalize (Int.gcd a s.den:Int)=G at h1 h2;generalize (red a s.den).Num=x at *;generalize (red a s.den).bK=y at *;rw[<- h1,<- h2];ac_rfl
 exact⟨key _,key _⟩
abbrev Q76(C:Line×Int->ae aP):Prop:=∀s z,yN s->OU z->C (fA s,z)=.ok (red (ik s z) s.den)
theorem s76{E:E76}(zby:zbX E.Vy)(h71:OG E.c71):Q76 (F76 E):=λs z S hz=>ae.ext λk=>by
  obtain⟨h1,h2,h3,h4⟩:=zd8 S;obtain⟨x1,x2⟩:=zCL S;have pd:0<s.den:=by have:=S.2.2;omega
  rw[e76,zby _ _ omY omY omY,aX,aX];have hr:=lK (num:=(fA s).Start.bK) (den:=(fA s).dI.bK) h3.1;obtain⟨a,ha⟩:=zJF (fA s).Start.bK (fA s).dI.bK;obtain⟨b,hb⟩:=zJG (fA s).Start.bK (fA s).dI.bK;generalize (Int.gcd (fA s).Start.bK (fA s).dI.bK:Int)=r at hr ha hb ⊢;generalize (fA s).Start.bK=A at *;generalize (fA s).dI.bK=B at *;generalize (fA s).Start.Num=u at *;generalize (fA s).dI.Num=v at *;have pa:0<a:=by
    rcases qd0 0 a with h|h
    exact h;have:=qds h (xY hr);rw[jqp]at this;omega
  have pb:0<b:=by
    rcases qd0 0 b with h|h
    exact h;have:=qds h (xY hr);rw[jqp]at this;omega
  have aA:a<=A:=by
    have:=KO (show(1:Int)<=r by omega) (xY pa);omega
  have bB:b<=B:=by
    have:=KO (show(1:Int)<=r by omega) (xY pb);omega
  have e1:A.tdiv r=a:=by rw[ha,qd2 _ omY]
  have e2:(a*B).tdiv A=b:=by
    have:a*B=A*b:=by rw[ha,hb];ac_rfl
    rw[this,qd2 _ omY]
  have e3:(a*B).tdiv B=a:=by rw[jq4,qd2 _ omY]
  have m0:=ru (x:=a) (X:=100000) omY omY (xY h3.1) h3.2;have m1:=ru h2.1 h2.2 (y:=b) (Y:=100000) omY omY;have m2:=ru h1.1 h1.2 (y:=a) (Y:=100000) omY omY;have m3 : -40000000000000000<=v*a*z/\v*a*z<=40000000000000000:=by
    have hz1:=hz.1;have hz2:=hz.2;rcases qd0 z 0 with h|h
    have:=ru (y := -z) (Y:=200000) m2.1 m2.2 omY omY;rw[qjq]at this;omega;have:=ru (y:=z) (Y:=200000) m2.1 m2.2 h omY;omega
  have pos:0<a*B:=jqz pa h3.1
  rw[aT (x:=A.tdiv r) (by rw[e1];omega) (by rw[e1];omega),e1,aT (x:=a*B) omY omY,aT (x:=(a*B).tdiv A) (by rw[e2];omega) (by rw[e2];omega),aT (x:=(a*B).tdiv B) (by rw[e3];omega) (by rw[e3];omega),e2,e3,
    aT (x:=u*b) omY omY,aT (x:=v*a) omY omY,aT (x:=v*a*z) omY omY,aT (x:=u*b+v*a*z) omY omY,bf omY,bf omY,bf omY,h71 _ _ omY omY pos omY,aX]
  congr 1;refine(zbW pos pd).2 ?_;unfold ik;have f1:u*b*s.den=s.start*(a*B):=by
    calc u * b * s.den = u * s.den * b := by ac_rfl
      _=s.start*A*b:=by rw[x1]
      _=s.start*(a*B):=by rw[ha,hb];ac_rfl
  have f2:v*a*z*s.den=s.bT*z*(a*B):=by
    calc v * a * z * s.den = v * s.den * (a * z) := by ac_rfl
      _=s.bT*B*(a*z):=by rw[x2]
      _=s.bT*z*(a*B):=by ac_rfl
  rw[qjj,qjj,f1,f2]
/-! What a plane sees. -/
def nT(p:aj)(c:Int):bW:=⟨aJ (aJ (p.First+aJ (c*p.aO))-gB p),aJ (aJ (aJ (aJ (p.First+aJ (c*p.aO))-gB p)+p.aO)-1)⟩
abbrev zCM(C:aj×Int->ae (Int×Int)):Prop:=∀p c,C (p,c)=.ok ((nT p c).Low,(nT p c).High)
theorem zYY{E:zrD}:zCM (zrE E):=λp c=>ae.ext λk=>by
 rw[zVC,aX];unfold nT gB;cases p.Kind==2<;>rfl
def FN(p:aj)(lo hi:Int)(c:Nat):Bool:=hasB p.Dead (c:Int)&&(decide ((nT p (c:Int)).Low<=hi)&&decide ((nT p (c:Int)).High>=lo))
def RZ(p:aj)(x:bW):Bool:=(decide (aJ (x.Low-p.aZ.High)>=(nT p 0).Low)&&decide (aJ (x.High-p.aZ.Low)<=(nT p (aJ (p.bC-1))).High))&&dX (λc=>!FN p (aJ (x.Low-p.aZ.High)) (aJ (x.High-p.aZ.Low)) c) p.bC.toNat
abbrev Q77(C:aj×bW->ae (Bool×Bool)):Prop:=∀p x,VW p->Few p->∃b,C (p,x)=.ok (RZ p x,b)
theorem s77{E:E77}(N:Big E.N)(zkI:zCM E.zhi)(zbr:zqU E.Qc):Q77 (F77 E):=λp x hp hf=>by
  obtain⟨_,_,_,_,_,Gn,_⟩:=hp;have key:∀(m c n:Nat)(lo hi:Int)(mu ca:Bool),c+m=p.bC.toNat->m<n->∃b,∀(A:Type)(k:Bool×Bool->Option A),nH E n p lo hi mu ca (c:Int) k=k (mu&&(List.range' c m).all (λc=>!FN p lo hi c),b):=by
    intro m
    induction m with
    | zero =>
      intro c n lo hi mu ca hc hn;obtain⟨n,rfl⟩:∃n',n=n'+1:=⟨n-1,omY⟩;exact⟨ca,λA k=>by rw[zwE,dY omY];simp⟩
    | succ m ih =>
      intro c n lo hi mu ca hc hn;obtain⟨n,rfl⟩:∃n',n=n'+1:=⟨n-1,omY⟩;rw[SG];have st:∃ca',∀(A:Type)(k:Bool×Bool->Option A),nH E (n+1) p lo hi mu ca (c:Int) k=nH E n p lo hi (mu && !FN p lo hi c) ca' ((c+1:Nat):Int) k:=by
        have hd:E.Qc (p,(c:Int))=.ok (hasB p.Dead (c:Int)):=zbr p _ hf
        have e0:∀(A:Type)(k:Bool×Bool→Option A),nH E (n+1) p lo hi mu ca (c:Int) k=cond (hasB p.Dead (c:Int)) (cond (decide ((nT p (c:Int)).Low≤hi)) (cond (decide ((nT p (c:Int)).High≥lo)) (nH E n p lo hi false ca ((c+1:Nat):Int) k) (nH E n p lo hi mu ca ((c+1:Nat):Int) k)) (nH E n p lo hi mu ca ((c+1:Nat):Int) k))
            (nH E n p lo hi mu (cond (decide (aJ ((nT p (c:Int)).Low-p.dJ)<=hi)) (cond (decide (aJ ((nT p (c:Int)).High+p.dJ)>=lo)) true ca) ca) ((c+1:Nat):Int) k):=λA k=>by
          rw[zwE,dP omY,dF,zkI,aX,hd,aX,bF omY];cases hasB p.Dead (c:Int)with
          | true=>rfl
          | false =>
            simp only[dL];cases decide (aJ ((nT p (c:Int)).Low-p.dJ)<=hi)with
            | false=>rfl
            | true =>
              simp only[dF];cases decide (aJ ((nT p (c:Int)).High+p.dJ)>=lo)<;>rfl
        cases h1:hasB p.Dead (c:Int)with
        | false =>
          rw[h1]at e0;exact⟨_,λA k=>by rw[e0];simp only[FN,h1,qjs,qdQ,qjT];rfl⟩
        | true =>
          rw[h1]at e0;refine⟨ca,λA k=>?_⟩;rw[e0];simp only[FN,h1,Jv,dF];cases decide ((nT p (c:Int)).Low<=hi)<;>cases decide ((nT p (c:Int)).High>=lo)<;>simp
      obtain⟨ca',h⟩:=st;obtain⟨b,h2⟩:=ih (c+1) n lo hi (mu && !FN p lo hi c) ca' omY omY;exact⟨b,λA k=>by rw[h,h2,qd4,Bool.and_assoc]⟩
  have al:∀(q:Nat->Bool) n,(List.range' 0 n).all q=dX q n:=λq n=>by
    rw[PN,cZ,yL];exact⟨λh i hi=>h i (by simp;omega),λh i hi=>h i (by simp at hi;omega)⟩
  obtain⟨b,hb⟩:=key p.bC.toNat 0 E.N (aJ (x.Low-p.aZ.High)) (aJ (x.High-p.aZ.Low)) (decide (aJ (x.Low-p.aZ.High)>=(nT p 0).Low)&&decide (aJ (x.High-p.aZ.Low)<=(nT p (aJ (p.bC-1))).High)) false omY (by have:=N;omega);refine⟨b,ae.ext λk=>?_⟩;rw[e77,zkI,aX,zkI,aX,aX];have hb:=hb _ k;rw[al]at hb;refine Eq.trans ?_ hb;show cond (decide (aJ (x.Low-p.aZ.High)>=(nT p 0).Low)) (nH E E.N p _ _ (decide (aJ (x.High-p.aZ.Low)<=(nT p (aJ (p.bC-1))).High)) false 0 k) (nH E E.N p _ _ false false 0 k)=_;cases decide (aJ (x.Low-p.aZ.High)>=(nT p 0).Low)<;>rfl
structure zQ (s : ak) (l : Sl bz) (t : af) : Prop extends kY s l t where
  ag:JG s l (eH t)=true
/-! Choices that contain others: hits in their order. -/
structure zuh (t : af) : Prop where
  le:t.Hits.len<=100
  sd:t.bu.len=t.Hits.len
  inc:zt3 t.Hits
theorem zui{s:ak}{l:Sl bz}{x:Int}{t:af}{c:jT}{j:Nat}(vz:l.len<=24)(ht:OL x t)(hc:eH t=c)(h:Val s l x c j):zuh t:=by
 have hl:=uk hc h;have lc:c.length=t.Hits.len:=by rw[<- hc,kG]
 refine⟨omY,ht.2,λa b hab hb=>?_⟩;have pw:=dq9.1 h.pw;have ge:∀i (hi:i<t.Hits.len),c[i]'omY=(t.Hits.get i,t.bu.get i):=λi hi=>by
  have:=AL hc hi;rw[yC omY]at this;exact SH this
 have:=(pw a b omY omY hab).1;rw[ge a omY,ge b hb]at this;exact this
theorem kY.inc{s:ak}{l:Sl bz}{t:af}(h:kY s l t):zuh t:=by
 obtain⟨j,hj⟩:=h.vl;exact zui h.ev.l24 h.tv rfl hj
abbrev Q53(C:af×af->ae Bool):Prop:=∀a b,zuh a->zuh b->C (a,b)=.ok (Ig a b)
theorem s53{E:E53}(N:Big E.N):Q53 (F53 E):=λa b ha hb=>ae.ext λk=>by
 have la:=ha.le;have lb:=hb.le;have sa:=ha.sd;have sb:=hb.sd;have ia:=ha.inc;have ib:=hb.inc;have hN:=N;have key:∀(m i n q:Nat),i+m=b.Hits.len->m<n->q<=a.Hits.len->(∀p,p<q->i<b.Hits.len->a.Hits.get p<b.Hits.get i)->zdP E n a b (q:Int) (i:Int) k=k ((List.range' i m).all (λi=>(eH a).contains (b.Hits.get i,b.bu.get i))&&(a.View==b.View)):=by
  intro m
  induction m with
  | zero =>
   intro i n q hi hn hq iF;obtain⟨n,rfl⟩:∃n',n=n'+1:=⟨n-1,omY⟩;rw[zwA,dY omY];rfl
  | succ m ih =>
   intro i n q hi hn hq iF;obtain⟨n,rfl⟩:∃n',n=n'+1:=⟨n-1,omY⟩;have hib:i<b.Hits.len:=by omega
   rw[zwA,dP omY,dF,SG,qd4]
   -- the place where the hit can stand
   have adv:∀(d q n1:Nat),q+d=a.Hits.len->d<n1->(∀p,p<q->a.Hits.get p<b.Hits.get i)->∃q',q'<=a.Hits.len/\(∀p,p<q'->a.Hits.get p<b.Hits.get i)/\(q'<a.Hits.len->b.Hits.get i<=a.Hits.get q')/\Rz E n n1 a b (q:Int) (i:Int) k=Yc E n a b (q':Int) (i:Int) k:=by
    intro d
    induction d with
    | zero =>
     intro q n1 hq hn1 iF;obtain⟨n1,rfl⟩:∃n',n1=n'+1:=⟨n1-1,omY⟩;exact⟨q,omY,iF,λh=>by omega,by rw[zwB,dY omY];rfl⟩
    | succ d ih2 =>
     intro q n1 hq hn1 iF;obtain⟨n1,rfl⟩:∃n',n1=n'+1:=⟨n1-1,omY⟩;have st:Rz E n (n1+1) a b (q:Int) (i:Int) k=cond (decide (a.Hits.get q<b.Hits.get i)) (Rz E n n1 a b ((q+1:Nat):Int) (i:Int) k) (Yc E n a b (q:Int) (i:Int) k):=by
      rw[zwB,dP omY,dF,bf omY,bf omY,fO,fO,bF omY]
     by_cases h:a.Hits.get q<b.Hits.get i;obtain⟨q',h1,h2,h3,h4⟩:=ih2 (q+1) n1 omY omY (λp hp=>by
      by_cases e:p=q;rw[e];exact h;exact iF p omY)
     exact⟨q',h1,h2,h3,by rw[st,dP h];exact h4⟩;exact⟨q,omY,iF,λ_=>by omega,by rw[st,dY h];rfl⟩
   obtain⟨q',h1,h2,h3,h4⟩:=adv (a.Hits.len-q) q E.N omY omY (λp hp=>iF p hp hib);rw[h4];have only:∀p,p<a.Hits.len->a.Hits.get p=b.Hits.get i->p=q':=λp hp e=>by
    rcases qjR p q' with h|h|h
    have:=h2 p h;omega;exact h;have:=ia q' p h hp;have:=h3 omY;omega
   rw[zIR];by_cases c1:q'=a.Hits.len;have:(eH a).contains (b.Hits.get i,b.bu.get i)=false:=by
    cases hc:(eH a).contains (b.Hits.get i,b.bu.get i)with
    | false=>rfl
    | true =>
     obtain⟨p,hp,e,_⟩:=pJ.1 (qjb.1 hc);have:=only p hp e;omega
   rw[show((q':Int)==(a.Hits.len:Int))=true by rw[KN];omega,this];rfl;rw [show((q':Int)==(a.Hits.len:Int))=false by rw [qdU];omega,dL,bf omY,bf omY,fO,fO];by_cases c2:a.Hits.get q'=b.Hits.get i
   ·have:(eH a).contains (b.Hits.get i,b.bu.get i)=(a.bu.get q'==b.bu.get i):=by
     rw[PN,qjb,pJ,KN];constructor;rintro⟨p,hp,e,e2⟩;rw[only p hp e]at e2;exact e2;intro h;exact⟨q',omY,c2,h⟩
    rw[show(a.Hits.get q' != b.Hits.get i)=false by simp[c2],dL,bf omY,bf omY,this,bF omY,bne];cases a.bu.get q'==b.bu.get i with
    | false=>rfl
    | true =>
     rw[Jv];refine ih (i+1) n q' omY omY h1 (λp hp hi2=>?_);have:=h2 p hp;have:=ib i (i+1) omY hi2;omega
   have:(eH a).contains (b.Hits.get i,b.bu.get i)=false:=by
    cases hc:(eH a).contains (b.Hits.get i,b.bu.get i)with
    | false=>rfl
    | true =>
     obtain⟨p,hp,e,_⟩:=pJ.1 (qjb.1 hc);rw[only p hp e]at e;exact absurd e c2
   rw[show(a.Hits.get q' != b.Hits.get i)=true by simpa using c2,this];rfl
 rw[e53,aX];refine(key b.Hits.len 0 E.N 0 omY omY (Ad _) (λp hp=>absurd hp (Wi p))).trans ?_;congr 1;unfold Ig;congr 1;rw [PN,yL,yL];constructor;intro h p hp;obtain⟨i,hi,e1,e2⟩:=pJ.1 hp;have:=h i (by simp;omega);rw[e1,e2]at this;exact this;intro h i hi;exact h _ (pJ.2 ⟨i,by simp at hi;omega,rfl,rfl⟩);rw[PN,KN,KN];exact eq_comm
theorem s38{E:E38}(N:Big E.N):Zb (F38 E):=λa b ha hb=>ae.ext λk=>by
 have key:∀(m i n:Nat),i+m=a.len->i<=b.len->m<n->zdM E n a b (i:Int) k=k (cmpL ((List.range' i m).map a.get) ((List.range' i (b.len-i)).map b.get)):=by
  intro m
  induction m with
  | zero =>
   intro i n hi hb hn;obtain⟨n,rfl⟩:∃n',n=n'+1:=⟨n-1,omY⟩;rw[zwu,dY omY,dL,zwv,zww,dY (show ¬(a.len:Int)>(b.len:Int)by omega),dL,kc k];congr 1;cases h:b.len-i with|zero=>rw[dY omY];rfl|succ q=>rw[dP omY];rfl
  | succ m ih =>
   intro i n hi hb hn;obtain⟨n,rfl⟩:∃n',n=n'+1:=⟨n-1,omY⟩;rw[zwu,dP omY,dF,SG,lM];cases h:b.len-i with
   | zero=>rw[dY omY,dL,zwv,zww,dY omY,dP (show(a.len:Int)>(b.len:Int)by omega)];rfl
   | succ q =>
    rw[dP omY,dF,bf omY,bf omY,bf omY,bf omY,fO,bF omY,ih (i+1) n omY omY omY,SG,lM,show b.len-(i+1)=q by omega];show _=k (cond (qi (a.get i) (b.get i) != 0) (qi (a.get i) (b.get i)) _);unfold qi;cases decide (a.get i<b.get i)<;>cases decide (a.get i>b.get i)<;>rfl
 rw[e38,aX];have:=key a.len 0 E.N omY (Ad _) (by have:=N;omega);unfold fB;rw[dq7,dq7];exact this
theorem zJV{ag:jT->Bool}{us:jT->Int->Bool}{sd:Nat->jT}{c:jT}{j:Nat}(h:Ch ag us sd c j):c=[]\/ag c=true:=by
 cases h with|nil=>exact .inl rfl|snoc _ _ _ h=>exact .inr h
theorem zmH{ag:jT→Bool}{us:jT→Int→Bool}{sd:Nat→jT}:∀{f out c i},(∀x∈out,x≠[])→∀x∈PG ag us sd f out c i,x≠[]
  | 0,out,c,i,h=>h
  | f+1,out,c,i,h=>by
    simp only[PG];generalize sd i=l
    induction l generalizing out with
    | nil=>exact h
    | cons p l ih =>
      rw[Wl];refine ih _ ?_;cases us c p.1||(decide (2000<out.length) || !ag (c++[p]))with
      | true=>exact h
      | false =>
        refine zmH λx hx=>?_;rcases dR.1 hx with hx|hx
        exact h x hx;rw[mf.1 hx];simp
theorem Zc{s:ak}{l:Sl bz}{x:Int}(he:Ev s l x){t:af}(ht:OL x t)(hc:eH t∈U9 s l x):zQ s l t:=by
 have ne:=zmH (f:=30) (out:=[]) (λx h=>by cases h) _ hc;rcases zd9 .nil hc with h|⟨j,hj⟩
 cases h;have e:=ht.1;subst e;exact {ev:=he,tv:=ht,vl:=⟨j,UZ hj⟩,ne:=ne,ag:=(zJV hj).resolve_left ne}
theorem zCN{P:af->Prop}{w:Sl af}{t:af}(h:∀t∈ls w,P t)(ht:P t):∀u∈ls (mM w t),P u:=λu hu=>by
 rw[BK]at hu;rcases dR.1 hu with hu|hu
 exact h u hu;rw[mf.1 hu];exact ht
def ql(s:ak)(l:Sl bz)(x:Int):Bool:=decide ((U9 s l x).length<=2000)
theorem zer{ag:jT→Bool}{us:jT→Int→Bool}{sd:Nat→jT}:∀{f out c i},out.length+(gr ag us sd f c i).length≤2000→PG ag us sd f out c i=out++gr ag us sd f c i
  | 0,out,c,i,_=>by simp[PG,gr]
  | f+1,out,c,i,h=>by
    simp only[PG,gr]at h ⊢;generalize sd i=l at h ⊢
    induction l generalizing out with
    | nil=>simp
    | cons p l ih =>
      rw[Wl,oG];rw[oG,Py]at h;cases hu:us c p.1 || !ag (c++[p])with
      | true =>
        rw[hu]at h;have e:(us c p.1||(decide (2000<out.length) || !ag (c++[p])))=true:=by
          revert hu;cases us c p.1<;>cases ag (c++[p])<;>simp
        rw[e];exact ih out (by simpa using h)
      | false =>
        rw[hu]at h;simp only[dL,qp]at h;have e:(us c p.1||(decide (2000<out.length) || !ag (c++[p])))=false:=by
          rw[dY omY];revert hu;cases us c p.1<;>cases ag (c++[p])<;>simp
        rw[e,dL,zer (by rw[Py];simp only[qp,Wj];omega),ih _ (by simp only[Py,qp,Wj];omega)];simp
theorem xR{s:ak}{l:Sl bz}{x:Int}:ql s l x=decide ((kw s l x).length<=2000):=by
 unfold ql;refine jqu.2 ⟨λh=>by rw[<- Va h];exact h,λh=>?_⟩;have:U9 s l x=[]++kw s l x:=zer (show 0+(kw s l x).length<=2000 by omega);rw[this];exact h
def Jo(s:ak)(r:bQ)(l:Sl bz)(b:Bool):Int:=cond (lJ s r l != 0) (lJ s r l) (cond (!b) 2 (cond (ql s l 1&&ql s l 2) 0 8))
theorem zJW{s:ak}{r:bQ}{l:Sl bz}{b:Bool}(h:Jo s r l b=0):lJ s r l=0/\b=true/\(kw s l 1).length<=2000/\(kw s l 2).length<=2000:=by
 unfold Jo at h;by_cases h0:lJ s r l=0
 ·rw [h0]at h;cases b with
  | false=>cases h
  | true =>
   rw[xR,xR]at h;by_cases h1:(kw s l 1).length<=2000;by_cases h2:(kw s l 2).length≤2000;exact⟨h0,rfl,h1,h2⟩;rw[dY h2,qd7]at h;cases h;rw[dY h1]at h;cases h
 rw[show(lJ s r l != 0)=true by simpa using h0]at h;exact absurd h h0
theorem zCO{s:ak}{l:Sl bz}{x:Int}{w:Sl af}(ev:Ev s l x)(hb:chs w=kw s l x)(hc:zN x w):∀t∈ls w,t.View=x/\kY s l t:=λt ht=>by
 have hv:=zeq.1 hc t ht;have hm:eH t∈kw s l x:=by rw[<- hb,Vd];exact qjk ht
 obtain⟨⟨j,hj⟩,jb⟩:=OY hm;have e:=hv.1;subst e;exact⟨rfl,ev,hv,⟨j,UZ hj⟩,jb⟩
abbrev zCP(C:ak×bQ×Sl bz×Sl Bool->ae (Int ⊕ (Pt found×Int))):Prop:=∀s r l (w:Sl Bool),ug s->l.len<=40->w.len<=10 ->
 (Jo s r l ((ls w).all id)≠0/\C (s,r,l,w)=.ok (.inl (Jo s r l ((ls w).all id))))\/(Jo s r l ((ls w).all id)=0/\∃f:Pt found,C (s,r,l,w)=.ok (.inr (f,0))/\JH s r l f.v)
theorem zY1{E:E72}(h78:Q78 E.c78)(Ye:zug E.Qb)(Z5:zmB E.c127)(zho:zue E.FZ)(zCK:zuf E.VF):zCP (F72 E):=λs r l w hs hl hw=>by
 have an:((ls w).any λb=>false==b) = !(ls w).all id:=by
  rw[List.not_all_eq_any_not];congr 1;funext b;cases b<;>rfl
 by_cases h0:lJ s r l=0
 case neg =>
  have e:Jo s r l ((ls w).all id)=lJ s r l:=by unfold Jo;rw[show(lJ s r l != 0)=true by simpa using h0];rfl
  refine .inl ⟨by rw[e];exact h0,?_⟩;have eo:opn s r l=.inl (lJ s r l):=by unfold opn;rw[show(lJ s r l==0)=false by simpa using h0];rfl
  refine ae.ext λk=>?_;rw[e72,h78 s r l hs hl,aX,eo,aX,e];show cond (lJ s r l==0) _ (cond (lJ s r l != 0) _ _)=_;rw[show(lJ s r l==0)=false by simpa using h0,show(lJ s r l != 0)=true by simpa using h0];rfl
 have eo:opn s r l=.inr (jf s r l,0):=by unfold opn;rw[h0];rfl
 obtain⟨he,_,vz⟩:=Iz hs h0;have ev1:Ev s l 1:={toEvt:=he,l24:=vz,vw:=rfl};have ev2:Ev s l 2:={toEvt:=he,l24:=vz,vw:=rfl};cases hb:(ls w).all id with
 | false =>
  have e:Jo s r l false=2:=by unfold Jo;rw[h0];rfl
  refine .inl ⟨by rw[e];decide,?_⟩;refine ae.ext λk=>?_;rw[e72,h78 s r l hs hl,aX,eo,aX,e];show(E.Qb (w,false)).T _=_;rw[Ye w false omY,aX,an,hb];rfl
 | true =>
 rcases Z5 s l r 1 ev1 with⟨n1,w1,a1,b1,c1⟩|⟨n1,w1,a1⟩
 case inr =>
  have e:Jo s r l true=8:=by unfold Jo;rw[h0,xR,dY (show ¬(kw s l 1).length<=2000 by omega)];rfl
  refine .inl ⟨by rw[e];decide,?_⟩;refine ae.ext λk=>?_;rw[e72,h78 s r l hs hl,aX,eo,aX,e];show(E.Qb (w,false)).T _=_;rw[Ye w false omY,aX,an,hb];show(E.c127 (jf s r l,1)).T _=_;rw[a1,aX];rfl
 rcases Z5 s l r 2 ev2 with⟨n2,_⟩|⟨n2,w2,a2⟩
 case inr =>
  have e:Jo s r l true=8:=by unfold Jo;rw[h0,xR (x:=2),dY (show ¬(kw s l 2).length<=2000 by omega),qd7];rfl
  refine .inl ⟨by rw[e];decide,?_⟩;have k1:=zCO ev1 b1 c1;have ln1:w1.len<=2000:=by rw[<- kT,b1];exact n1
  have f1:=zho w1 (.inl ⟨jf s r l,()⟩) ⟨s,l,r,rfl,λt ht=>(k1 t ht).2⟩ omY;have m1:=xQ Vg (yH (id (.inl ⟨jf s r l,()⟩))) w1 w1.len;refine ae.ext λk=>?_;rw[e72,h78 s r l hs hl,aX,eo,aX,e];show(E.Qb (w,false)).T _=_;rw[Ye w false omY,aX,an,hb];show(E.c127 (jf s r l,1)).T _=_;rw[a1,aX];show(E.FZ (w1,.inl ⟨jf s r l,()⟩)).T _=_;rw[f1,aX];show aU (room (RY Vg (yH (id (.inl ⟨jf s r l,()⟩))) w1 w1.len).len 56) ((E.c127 (jf s r l,2)).T _)=_;rw[ja omY omY,a2,aX];rfl
 have e:Jo s r l true=0:=by unfold Jo;rw[h0,xR,xR,dP n1,dP n2];rfl
 refine .inr ⟨e,?_⟩;have zJX:zJQ E.c127:=λs l r x ev n=>(Z5 s l r x ev).elim (λh=>h.2) λh=>absurd h.1 omY;exact s72 h78 Ye zJX zho zCK s r l w hs hl h0 n1 n2 hw (λb hm=>by simpa using yL.1 hb b hm)
theorem JH.fit{s:ak}{r:bQ}{l:Sl bz}{f:found}(h:JH s r l f){t:af}(ht:t∈ls f.fits):(t.View=1\/t.View=2)/\OL t.View t/\eH t∈(kw s l t.View).filter (qG s l t.View r):=by
 obtain⟨X,Y,e,x1,y1,x2,y2⟩:=h.fx;rw[e]at ht;rcases dR.1 ht with h|h
 have a:=(x1 t h).1;exact⟨.inl a,⟨rfl,(x1 t h).2⟩,by rw[a,<- x2];exact qjk h⟩;have a:=(y1 t h).1;exact⟨.inr a,⟨rfl,(y1 t h).2⟩,by rw[a,<- y2];exact qjk h⟩
theorem JH.chosen{s:ak}{r:bQ}{l:Sl bz}{f:found}(h:JH s r l f)(he:Evt s l)(vz:l.len<=24){t:af}(ht:t∈ls f.fits):kY s l t:=by
 obtain⟨v,tv,m⟩:=h.fit ht;obtain⟨⟨j,hj⟩,ne⟩:=OY (Qp.1 m).1;exact {ev:={toEvt:=he,l24:=vz,vw:=dP v},tv:=tv,vl:=⟨j,UZ hj⟩,ne:=ne}
theorem JH.sub{s:ak}{r:bQ}{l:Sl bz}{f:found}(h:JH s r l f){t:af}(ht:t∈ls f.bn):t∈ls f.fits:=(Qp.1 (h.tr.mem_iff.1 ht)).1
theorem JH.len{s:ak}{r:bQ}{l:Sl bz}{f:found}(h:JH s r l f)(n1:(kw s l 1).length<=2000)(n2:(kw s l 2).length<=2000):f.bn.len<=4000:=by
 obtain⟨X,Y,e,x1,y1,x2,y2⟩:=h.fx;have a:=h.tr.length_eq;rw[fP]at a;have b:=qj2 (λt=>!(ls f.fits).any λx=>Il x t) (ls f.fits);rw[e,Py]at b;have c:=jZ List.length x2;have d:=jZ List.length y2;rw[VM]at c d;have:=qj2 (qG s l 1 r) (kw s l 1);have:=qj2 (qG s l 2 r) (kw s l 2);rw[e]at a;omega
theorem Zd{g:Sl ay}{d x:Int}(hd:0≤d)(h0:0<g.len)(h:∀i,i<g.len→(g.get i).Low*d≤x∧x≤(g.get i).High*d):∀n,n≤g.len→(gz g n).Low*d≤x∧x≤(gz g n).High*d
  | 0,_=>h 0 h0
  | n+1,hn=>by
    obtain⟨a,b⟩:=Zd hd h0 h n omY;obtain⟨c,e⟩:=h n omY;simp only[gz];constructor;split<;>assumption;split<;>assumption
theorem zmI{g:Sl ay}(hf:gy g=true){s:straight}(ha:zK g s){z:Int}(hz:(g.get 0).Z=z):∀i,i<g.len->(g.get i).Low*s.den<=ik s z/\ik s z<=(g.get i).High*s.den:=λi hi=>by
 have:=xO ha hi;rw[RP.1 hf i hi,hz]at this;exact this
def Dt(a b:aP):Prop:=a.Num*b.bK<=b.Num*a.bK
theorem Vh{a b:aP}(h:¬AC b a):Dt a b:=by unfold AC at h;unfold Dt;omega
theorem qH{a b c:aP}(ha:0<a.bK)(hb:0<b.bK)(hc:0<c.bK)(h1:Dt a b)(h2:Dt b c):Dt a c:=by
 unfold Dt at *;have y1:=KO h1 (xY hc);have y2:=KO h2 (xY ha);have z1:b.Num*a.bK*c.bK=b.Num*c.bK*a.bK:=by ac_rfl
 have z2:c.Num*b.bK*a.bK=c.Num*a.bK*b.bK:=by ac_rfl
 have z3:a.Num*b.bK*c.bK=a.Num*c.bK*b.bK:=by ac_rfl
 have:a.Num*c.bK*b.bK<=c.Num*a.bK*b.bK:=by omega
 exact qdb this hb
theorem FO{a b:aP}(ha:0<a.bK)(hb:0<b.bK)(h:Dt a b):a.Num/a.bK<=b.Num/b.bK:=by
 rw[Int.le_ediv_iff_mul_le hb];have h1:=jqC a.Num (show a.bK≠0 by omega);unfold Dt at h;refine qdb (?_:_*a.bK<=_*a.bK) ha;have h2:=KO h1 (xY hb);have e:a.Num/a.bK*b.bK*a.bK=a.Num/a.bK*a.bK*b.bK:=by ac_rfl
 omega
theorem Ze{a b:aP}(ha:0<a.bK)(hb:0<b.bK)(h:Dt a b) : -(-a.Num/a.bK)<=-(-b.Num/b.bK):=by
 have:=FO (a:=⟨-b.Num,b.bK⟩) (b:=⟨-a.Num,a.bK⟩) hb ha (by unfold Dt at *;show -b.Num*a.bK<=-a.Num*b.bK;rw[jqb,jqb];omega);have : -b.Num/b.bK<=-a.Num/a.bK:=this;omega
theorem AQ{a b:Int}(hb:0<b):Dt (red a b) ⟨a,b⟩/\Dt ⟨a,b⟩ (red a b):=by
 have h1:=pF (num:=a) hb;have h2:=nK (num:=a) hb;unfold Dt;generalize (Int.gcd a b:Int)=G at h1 h2;have e:(red a b).Num*b=a*(red a b).bK:=by
  generalize (red a b).Num=x at *;generalize (red a b).bK=y at *;rw[<- h1,<- h2];ac_rfl
 show(red a b).Num*b<=a*(red a b).bK/\a*(red a b).bK<=(red a b).Num*b;omega
theorem zmJ{x y:straight}(X:yN x)(Y:yN y)(h:fA x=fA y)(z:Int):Dt (Jm z x) (Jm z y):=by
  have a:=OJ X z;have b:=OJ Y z;rw[h]at a;have px:=UT Y;unfold Dt;show ik x z*y.den<=ik y z*x.den;have e:ik x z*y.den*PE (fA y)=ik y z*x.den*PE (fA y):=by
    calc ik x z * y.den * PE (fA y) = ik x z * PE (fA y) * y.den := by ac_rfl
      _=plN (fA y) z*x.den*y.den:=by rw[a]
      _=plN (fA y) z*y.den*x.den:=by ac_rfl
      _=ik y z*PE (fA y)*x.den:=by rw[b]
      _=ik y z*x.den*PE (fA y):=by ac_rfl
  have:=jqE omY e;omega
theorem zmK{g:Sl ay}(G:dh g){s:straight}(S:yN s)(ha:zK g s){z:Int}(ho:(Dq g ((g.get 0).Z==z)).2=0):Dt (wM g z).1 (Jm z s)/\Dt (Jm z s) (wM g z).2/\0<(wM g z).1.bK/\0<(wM g z).2.bK:=by
 have hg:=G.2;have hd:0<s.den:=by have:=S.2.2;omega
 obtain⟨so,hc⟩:=zwY G ho;unfold wM;cases hf:gy g with
 | true =>
  have hz:(g.get 0).Z=z:=by
   unfold Dq at ho;rw[kS.2 G,so,hf]at ho;cases h:(g.get 0).Z==z with|true=>exact eq_of_beq h|false=>rw[h]at ho;cases ho
  obtain⟨a,b⟩:=Zd (xY hd) omY (zmI hf ha hz) g.len (jP _);rw[dF];have r1:=AQ (a:=(gz g g.len).Low) (b:=1) omY;have r2:=AQ (a:=(gz g g.len).High) (b:=1) omY;have p1:=jC (num:=(gz g g.len).Low) (den:=1) omY;have p2:=jC (num:=(gz g g.len).High) (den:=1) omY;refine⟨qH p1 (b:=⟨_,1⟩) (show(0:Int)<1 by omega) hd r1.1 ?_,qH hd (b:=⟨_,1⟩) (show(0:Int)<1 by omega) p2 ?_ r2.2,p1,p2⟩;show(gz g g.len).Low*s.den<=ik s z*1;omega;show ik s z*1<=(gz g g.len).High*s.den;omega
 | false =>
  have nf:¬Y1 g:=λh=>by rw[RP.2 h]at hf;cases hf
  obtain⟨hl,_,_⟩:=lp omY nf hd ha;obtain⟨⟨c,c1,c2⟩,e,e1,e2⟩:=hl z;have C:=kP G c1;have D:=kP G e1;have pc:0<c.den:=by have:=C.2.2;omega
  have pe:0<e.den:=by have:=D.2.2;omega
  have inn:∀{c:straight},uj g c->∃x∈jD g,fA x=fA c:=fun {c} hc=>(UO hf).2.1 c hc.1 ((Fq G (sO G hc.1)).2 hc.2);obtain⟨x,x1,x2⟩:=inn c1;obtain⟨y,y1,y2⟩:=inn e1;have X:=kP G (KC G x1);have Y:=kP G (KC G y1);have px:0<x.den:=by have:=X.2.2;omega
  have py:0<y.den:=by have:=Y.2.2;omega
  obtain⟨⟨u,u1,u2⟩,u3⟩:=zmk G z (hc hf);obtain⟨⟨v,v1,v2⟩,v3⟩:=zml G z (hc hf);have pu:0<(loF g z).bK:=by rw[u2];have:=(kP G u1).2.2;show 0<u.den;omega
  have pv:0<(hiF g z).bK:=by rw[v2];have:=(kP G v1).2.2;show 0<v.den;omega
  have r1:=AQ (a:=(loF g z).Num) pu;have r2:=AQ (a:=(hiF g z).Num) pv;have p1:=jC (num:=(loF g z).Num) pu;have p2:=jC (num:=(hiF g z).Num) pv;rw[dL];refine⟨qH p1 pu hd r1.1 ?_,qH hd pv p2 ?_ r2.2,p1,p2⟩;refine qH pu (b:=Jm z x) px hd (Vh (u3 x x1)) (qH (b:=Jm z c) px pc hd (zmJ X C x2 z) ?_);exact c2;refine qH hd (b:=Jm z y) py pv (qH (b:=Jm z e) hd pe py ?_ (zmJ D Y y2.symm z)) (Vh (v3 y y1));exact e2
/-! What a plane must see. -/
theorem Vj:∀{l:List (Int×bW)}{n h:Int},(∀t∈l,-1000000000000≤t.2.High∧t.2.High≤1000000000000)→nxt l n>h→∀y,n≤y→y≤h→∃t∈l,t.2.Low≤y∧y≤t.2.High
  | [],n,h,_,hn,y,h1,h2=>by have:n>h:=hn;omega
  | t::l,n,h,hb,hn,y,h1,h2=>by
    have mP:=λu hu=>hb u (jM _ hu);have ht:=hb t kH;by_cases c:t.2.Low<=n/\n<=t.2.High;have e:nxt (t::l) n=nxt l (t.2.High+1):=by
      show nxt l (cond (decide (t.2.Low<=n)&&decide (n<=t.2.High)) (aJ (t.2.High+1)) n)=_;rw[dP c.1,dP c.2,aT omY omY];rfl
    rw[e]at hn;by_cases hy:y<=t.2.High;exact⟨t,kH,omY,hy⟩;obtain⟨u,a,b⟩:=Vj mP hn y omY h2;exact⟨u,jM _ a,b⟩;have e:nxt (t::l) n=nxt l n:=by
      show nxt l (cond (decide (t.2.Low<=n)&&decide (n<=t.2.High)) (aJ (t.2.High+1)) n)=_;by_cases h1:t.2.Low<=n;rw[dY (show ¬n<=t.2.High from λh2=>c ⟨h1,h2⟩),qd7];rfl;rw[dY h1];rfl
    rw[e]at hn;obtain⟨u,a,b⟩:=Vj mP hn y h1 h2;exact⟨u,jM _ a,b⟩
theorem Vk{p:aj}(hp:VW p):0<=gB p/\gB p<=p.aO:=by
 obtain⟨_,_,_,_,hpi,_⟩:=hp;have:0<=p.aO.tdiv 2/\p.aO.tdiv 2<=p.aO:=by rw[qdJ omY];omega
 unfold gB;cases p.Kind==2 with|true=>rw[dF,aT omY omY];exact this|false=>rw[dL];omega
theorem xU{p:aj}(hp:VW p){c:Int}(h1:0<=c)(h2:c<=2000):nT p c=⟨p.First+c*p.aO-gB p,p.First+c*p.aO-gB p+p.aO-1⟩/\0<=c*p.aO/\c*p.aO<=1000000000:=by
 have hh:=Vk hp;obtain⟨_,_,_,hf,hpi,_⟩:=hp;obtain⟨q1,q2⟩:=xy (a:=c) (b:=p.aO) omY omY;refine⟨?_,q1,q2⟩;unfold nT;rw[aT (x:=c*p.aO) omY omY,aT (x:=p.First+c*p.aO) omY omY,aT (x:=p.First+c*p.aO-gB p) omY omY,aT (x:=p.First+c*p.aO-gB p+p.aO) omY omY,aT omY omY]
theorem zS{p:aj}{t:Int×bW}:∀{m c:Nat},t∈Ij p m c→∃q:Nat,c≤q∧q<c+m∧hasB p.Dead (q:Int)=false∧t.2=nT p (q:Int)
  | m+1,c,h=>by
    simp only[Ij]at h;cases hd:hasB p.Dead (c:Int)with
    | true =>
      rw[hd]at h;obtain⟨q,a,b,d⟩:=zS h;exact⟨q,omY,omY,d⟩
    | false =>
      rw[hd]at h;rcases jV.1 h with h|h
      exact⟨c,jP _,omY,hd,by rw[h];rfl⟩;obtain⟨q,a,b,d⟩:=zS h;exact⟨q,omY,omY,d⟩
theorem zmL{p:aj}(hp:VW p){X x:bW}(h:zO p X=true)(hX : -1000000<=X.Low/\X.High<=1000000)(h1:X.Low<=x.Low)(h2:x.Low<=x.High)(h3:x.High<=X.High):RZ p x=true:=by
 have hh:=Vk hp;have Qi:=hp;obtain⟨_,_,_,hf,hpi,Gn,hsp,ho,_⟩:=hp;unfold zO at h;rw[oD,aT (x:=X.Low-p.aZ.High) omY omY,aT (x:=X.High-p.aZ.Low) omY omY]at h;have cov:∀y,X.Low-p.aZ.High<=y->y<=X.High-p.aZ.Low->∃q:Nat,(q:Int)<p.bC/\hasB p.Dead (q:Int)=false/\(nT p (q:Int)).Low<=y/\y<=(nT p (q:Int)).High:=λy y1 y2=>by
  obtain⟨t,ht,a,b⟩:=Vj (λt ht=>by
   obtain⟨q,_,q2,_,e⟩:=zS ht;obtain⟨e2,e3,e4⟩:=xU Qi (c:=(q:Int)) omY omY;rw[e,e2];show _<=p.First+q*p.aO-gB p+p.aO-1/\p.First+q*p.aO-gB p+p.aO-1<=_;omega) h y y1 y2
  obtain⟨q,_,q2,q3,e⟩:=zS ht;rw[e]at a b;exact⟨q,omY,q3,a,b⟩
 have ge:∀q:Nat,(q:Int)<p.bC->nT p (q:Int)=⟨p.First+q*p.aO-gB p,p.First+q*p.aO-gB p+p.aO-1⟩:=λq hq=>(xU Qi (c:=(q:Int)) omY omY).1;have mono:∀a b:Int,a<b->a*p.aO+p.aO<=b*p.aO:=λa b hab=>by
  have:=KO (show a+1<=b by omega) (show 0<=p.aO by omega);rw[qjj,jqd]at this;exact this
 have nn:∀q:Nat,0<=(q:Int)*p.aO:=λq=>qj9 omY omY;unfold RZ;rw[aT (x:=x.Low-p.aZ.High) omY omY,aT (x:=x.High-p.aZ.Low) omY omY,aT (x:=p.bC-1) omY omY];simp only[fQ,oD,cZ,JS];refine⟨⟨?_,?_⟩,λc hc=>?_⟩;obtain⟨q,q1,_,q3,_⟩:=cov (x.Low-p.aZ.High) omY omY;rw[ge q q1]at q3;rw[(xU Qi (c:=0) omY omY).1];have:=nn q;show p.First+0*p.aO-gB p<=_;simp only at q3;omega;obtain⟨q,q1,_,_,q4⟩:=cov (x.High-p.aZ.Low) omY omY;rw[ge q q1]at q4;rw[(xU Qi (c:=p.bC-1) omY omY).1];show _<=p.First+(p.bC-1)*p.aO-gB p+p.aO-1;simp only at q4;by_cases e:(q:Int)=p.bC-1;rw[<- e];exact q4;have:=mono q (p.bC-1) omY;omega
 ·cases hd:FN p (x.Low-p.aZ.High) (x.High-p.aZ.Low) c with
  | false=>rfl
  | true =>
   simp only[FN,fQ,oD]at hd;obtain⟨d1,d2,d3⟩:=hd;have gc:=ge c omY;rw[gc]at d2 d3;simp only at d2 d3;obtain⟨q,q1,q2,q3,q4⟩:=cov (if p.First+c*p.aO-gB p>=x.Low-p.aZ.High then p.First+c*p.aO-gB p else x.Low-p.aZ.High) (by split<;>omega) (by split<;>omega);rw[ge q q1]at q3 q4;simp only at q3 q4;rcases jqm (q:Int) (c:Int)with e|e|e
   have:=mono q c e;split at q4<;>omega;have:q=c:=by omega
   rw[this,d1]at q2;cases q2;have:=mono c q e;split at q3<;>omega
def zJY(s:ak)(l:Sl bz)(v:Int)(ln:straight)(time:Int)(i:Nat):Prop :=
 VX s l i=v/\((JF s (l.get i)).Low<=time/\time<=(JF s (l.get i)).High)/\∃k,k<Bi s l i/\qQ ln ((Bh s (l.get i)).get k)=true
structure Own (s : ak) (l : Sl bz) (v : Int) (ln : straight) (time : Int) (w : Sl Int) (i : Nat) : Prop where
  le:w.len<=i/\i<=l.len
  mem:∀j,j<w.len->(0<=w.get j/\w.get j<(i:Int))/\zJY s l v ln time (w.get j).toNat
  pw:∀j k,j<k->k<w.len->w.get j<w.get k/\(l.get (w.get j).toNat).aj≠(l.get (w.get k).toNat).aj
theorem Own.snoc{s:ak}{l:Sl bz}{v:Int}{ln:straight}{time:Int}{w:Sl Int}{i:Nat}(h:Own s l v ln time w i)(hi:i<l.len)(h1:zJY s l v ln time i)(h2:∀j,j<w.len->(l.get (w.get j).toNat).aj≠(l.get i).aj):Own s l v ln time (mM w (i:Int)) (i+1):=by
 have lo:∀j,j<w.len->(mM w (i:Int)).get j=w.get j:=λj hj=>by
  show iR w.len w.get (λ_=>(i:Int)) j=_;rw[jA,eY omY]
 have jY:(mM w (i:Int)).get w.len=(i:Int):=by
  show iR w.len w.get (λ_=>(i:Int)) w.len=_;rw[jA,eU (jP _)]
 refine⟨by have:=h.le;show w.len+1<=i+1/\_;omega,λj hj=>?_,λj k hjk hk=>?_⟩;have hj:j<w.len+1:=hj;by_cases e:j=w.len;rw[e,jY,fO];exact⟨omY,h1⟩;rw[lo j omY];have:=h.mem j omY;exact⟨by have:=this.1;omega,this.2⟩;have hk:k<w.len+1:=hk;by_cases e:k=w.len;subst e;rw[jY,lo j omY,fO];exact⟨by have:=(h.mem j omY).1;omega,h2 j omY⟩;rw[lo j omY,lo k omY];exact h.pw j k hjk omY
theorem zuj{n d:Int}(hd:0<d):n/d<=-(-n/d):=by
 have h1:=jqC n (show d≠0 by omega);have h2:=jqC (-n) (show d≠0 by omega);refine qdb (?_:_*d<=_*d) hd;rw[jqb];omega
theorem zes : ∀ {c d : jT}, c.Pairwise (fun p q => p.1 < q.1) → d.Pairwise (fun p q => p.1 < q.1) → (∀ p ∈ c, p ∈ d) → c.length ≤ d.length ∧ (c.length = d.length → c = d)
  | [],d,_,_,_=>⟨Ad _,λh=>(qjo.1 h.symm).symm⟩
  | p::c,[],_,_,m=>by cases m p kH
  | p::c,q::d,hc,hd,m=>by
    have hc:=qdm.1 hc;have hd:=qdm.1 hd;have hp:=jV.1 (m p kH);have m':∀r∈c,r∈d:=λr hr=>by
      rcases jV.1 (m r (jM _ hr))with e|h
      have a:=hc.1 r hr;rw[e]at a;rcases hp with e|h
      rw[e]at a;omega;have:=hd.1 p h;omega;exact h
    obtain⟨a,b⟩:=zes hc.2 hd.2 m';refine⟨by rw[qp,qp];omega,λh=>?_⟩;rw[qp,qp]at h;have e:=b omY;rcases hp with f|h
    rw[e,f];rw[<- e]at h;have:=hc.1 p h;omega
theorem zuk{s:ak}{l:Sl bz}{c:jT}{i:Nat}(hi:i<c.length):(oh s l c).get i=(Bh s (l.get (c[i]).1.toNat)).get (c[i]).2.toNat:=by
 unfold oh;rw[Ur hi,yC hi];rfl
abbrev lQ(t:af):Int×jT:=(t.View,eH t)
def ltK(a b:Int×jT):Prop:=a.1<b.1\/a.1=b.1/\(cmpL (a.2.map (·.1)) (b.2.map (·.1))<0\/a.2.map (·.1)=b.2.map (·.1)/\cmpL (a.2.map (·.2)) (b.2.map (·.2))<0)
theorem zet(t:af):(eH t).map (·.1)=fB t.Hits:=by unfold eH fB;rw[qdF];rfl
theorem zw0{t:af}(h:t.bu.len=t.Hits.len):(eH t).map (·.2)=fB t.bu:=by unfold eH fB;rw[qdF,h];rfl
theorem zJZ{a b:af}(ha:a.bu.len=a.Hits.len)(hb:b.bu.len=b.Hits.len):ltK (lQ a) (lQ b)↔Ie a b:=by
 unfold ltK Ie;show _\/_/\(cmpL ((eH a).map (·.1)) ((eH b).map (·.1))<0\/(eH a).map (·.1)=(eH b).map (·.1)/\cmpL ((eH a).map (·.2)) ((eH b).map (·.2))<0)↔_;rw[zet,zet,zw0 ha,zw0 hb]
theorem zmM{a b:Int×jT}(h:ltK a b)(k:ltK b a):False:=by
 rcases h with h|⟨h,h2⟩<;>rcases k with k|⟨k,k2⟩
 omega;omega;omega;rcases h2 with h2|⟨h2,h3⟩<;>rcases k2 with k2|⟨k2,k3⟩
 exact wJ _ (BO h2 k2);rw[k2]at h2;exact wJ _ h2;rw[h2]at k2;exact wJ _ k2;exact wJ _ (BO h3 k3)
def grK(a b:Int×jT):Bool:=decide (a.2.length>b.2.length)&&(b.2.all (λp=>a.2.contains p)&&(b.1==a.1))
theorem zJ0(a b:af):Il a b=grK (lQ a) (lQ b):=by
 unfold Il grK Ig;show _=(decide ((eH a).length>(eH b).length)&&_);rw[kG,kG];congr 1;exact jqu.2 omY
theorem zT{p:Int×jT→Bool}{q:af→Bool}:∀{L:List af},(∀t∈L,q t=p (lQ t))→(L.filter q).map lQ=(L.map lQ).filter p
  | [],_=>rfl
  | t::L,h=>by
    have ih:=zT (p:=p) (q:=q) (L:=L) λu hu=>h u (jM _ hu);have e:=h t kH;rw[lM,qdk,qdk,e];by_cases hp:p (lQ t)=true;rw[eU hp,eU hp,lM,ih];rw[eY hp,eY hp,ih]
theorem Zf{x:Int}{L:List af}{c:List jT}(h:∀t∈L,OL x t)(e:L.map eH=c):L.map lQ=c.map λc=>(x,c):=by
 rw[<- e,qdF];exact qdo λt ht=>by show(t.View,eH t)=(x,eH t);rw[(h t ht).1]
theorem zb7{α:Type}{p q:α->Bool}{a:List α}(h:∀x∈a,p x=q x):a.any p=a.any q:=by
 induction a with|nil=>rfl|cons x a ih=>rw[jqR,jqR,h x kH,ih λy hy=>h y (jM _ hy)]
def zul(s:ak)(r:bQ)(l:Sl bz):List (Int×jT):=((kw s l 1).filter (qG s l 1 r)).map (λc=>(1,c))++((kw s l 2).filter (qG s l 2 r)).map (λc=>(2,c))
theorem JH.keys{s:ak}{r:bQ}{l:Sl bz}{f:found}(h:JH s r l f):(ls f.fits).map lQ=zul s r l/\((ls f.bn).map lQ).Perm ((zul s r l).filter λk=>!(zul s r l).any λx=>grK x k):=by
 obtain⟨X,Y,e,x1,y1,x2,y2⟩:=h.fx;have hk:(ls f.fits).map lQ=zul s r l:=by rw[e,Qn,Zf x1 x2,Zf y1 y2];rfl
 refine⟨hk,(h.tr.map lQ).trans (qj3 ?_)⟩;rw[<- hk];refine zT λt _=>?_;rw[List.any_map];congr 1;exact zb7 λx _=>zJ0 x t
theorem JH.uniq{s:ak}{r:bQ}{l:Sl bz}{f g:found}(h:JH s r l f)(k:JH s r l g)(he:Evt s l)(vz:l.len<=24):(ls f.bn).map lQ=(ls g.bn).map lQ:=by
 have srt:∀{f:found},JH s r l f->((ls f.bn).map lQ).Pairwise ltK:=fun {f} h=>by
  rw[qjr];refine h.st.imp_of_mem fun {a b} ha hb hab=>?_;exact(zJZ (h.chosen he vz (h.sub ha)).tv.2 (h.chosen he vz (h.sub hb)).tv.2).2 hab
 exact jqN (le:=ltK) (λa b _ _ h1 h2=>(zmM h1 h2).elim) (srt h) (srt k) (h.keys.2.trans k.keys.2.symm)
/-! Floors and ceilings. -/
theorem zJ1{a b:Int}(h1 : -100000000000000000≤a∧a≤100000000000000000)(h2:0<b)(h3:b≤100000000000000000) :
  aJ (a.tdiv b)=a.tdiv b/\aJ (a.tdiv b*b)=a.tdiv b*b/\(a.tdiv b*b>a->aJ (a.tdiv b-1)=a/b)/\(¬a.tdiv b*b>a->a.tdiv b=a/b)/\(a.tdiv b*b<a->aJ (a.tdiv b+1) = -(-a/b))/\(¬a.tdiv b*b<a->a.tdiv b = -(-a/b)):=by
 have q:=Za h1 h2;have q':=Za (a:=-a) omY h2;rcases qd0 a 0 with hn|hn
 have e:a.tdiv b = -(-a/b):=by
  rw[show a = -(-a)by omega,Int.neg_tdiv,qdJ omY,Int.neg_neg]
 have m1:=qj1 (-a) b;have m2:=jqB (-a) (show b≠0 by omega);have m3:=jqi (-a) h2;have pr : -(-a/b)*b = -(b*(-a/b)):=by rw[jqb,jq4]
 rw[e,pr];refine⟨aT omY omY,aT omY omY,λh=>?_,λh=>?_,λh=>by omega,λ_=>rfl⟩;have:a/b = -(-a/b)-1:=by
  refine((qjd (r:=b - -a%b) h2).2 ⟨?_,omY,omY⟩).1;rw[qjW,qjq];omega
 rw[this,aT omY omY];refine((qjd (r:=0) h2).2 ⟨?_,by omega,by omega⟩).1.symm;rw[qjq];omega;have e:a.tdiv b=a/b:=qdJ hn;have m1:=qj1 a b;have m2:=jqB a (show b≠0 by omega);have m3:=jqi a h2;have pr:a/b*b=b*(a/b):=jq4 _ _;rw[e,pr];refine⟨aT omY omY,aT omY omY,λh=>by omega,λ_=>rfl,λh=>?_,λh=>?_⟩;have : -a/b = -(a/b)-1:=by
  refine((qjd (r:=b-a%b) h2).2 ⟨?_,omY,omY⟩).1;rw[qjW,qjq];omega
 rw[this,aT omY omY];omega;have : -a/b = -(a/b):=by
  refine((qjd (r:=0) h2).2 ⟨?_,omY,omY⟩).1;rw[qjq];omega
 rw[this];omega
abbrev Q48(C:Sl Int×Int->ae Bool):Prop:=∀(w:Sl Int) x,w.len<=1000->C (w,x)=.ok (hasB w x)
theorem s48{E:E48}(N:Big E.N):Q48 (F48 E):=λw x hw=>ae.ext λk=>by
 rw[e48,aX,loopA (L:=λn i=>zdN E n w x i k) (p:=λj=>!decide (w.get j=x)) (m:=w.len) (fin:=k false) (stop:=k true) omY (λn i hi=>?_) (λn=>?_) _ (by have:=N;omega)];unfold hasB;cases dX (λj=>!decide (w.get j=x)) w.len<;>rfl;rw [zwx,dP omY,dF,bf omY,fO];show cond (w.get i==x) _ _=cond (!(w.get i==x)) _ _;cases w.get i==x<;>rfl;rw[zwx,dY omY];rfl
theorem FP{x:Nat}(h:x<2^63):IntKind.i64.wrap (x:Int)=(x:Int):=by
 have h:x<9223372036854775808:=h;exact aT omY omY
theorem rQ{x:Nat}(h:x<2^63):(BitVec.ofInt 64 (x:Int)).toNat=x:=by
 have h:x<9223372036854775808:=h;rw[BitVec.toNat_ofInt];have:((x:Int)%((2^64:Nat):Int))=(x:Int):=Int.emod_eq_of_lt omY (by show(x:Int)<18446744073709551616;omega);rw[this,fO]
theorem FQ{a b:Nat}(ha:a<2^63)(hb:b<2^63):orW .i64 (a:Int) (b:Int)=((a ||| b:Nat):Int):=by
 unfold orW;have e:(BitVec.ofInt IntKind.i64.bits (a:Int) ||| BitVec.ofInt IntKind.i64.bits (b:Int)).toNat=a ||| b:=by
  show(BitVec.ofInt 64 (a:Int) ||| BitVec.ofInt 64 (b:Int)).toNat=a ||| b
  rw[BitVec.toNat_or,rQ ha,rQ hb]
 rw[e,FP (qdS ha hb)]
theorem wO{a b:Nat}(ha:a<2^63)(hb:b<2^63):KT .i64 (a:Int) (b:Int)=((a &&& b:Nat):Int):=by
 unfold KT;have e:(BitVec.ofInt IntKind.i64.bits (a:Int) &&& BitVec.ofInt IntKind.i64.bits (b:Int)).toNat=a &&& b:=by
  show(BitVec.ofInt 64 (a:Int) &&& BitVec.ofInt 64 (b:Int)).toNat=a &&& b;rw[BitVec.toNat_and,rQ ha,rQ hb]
 rw[e,FP (Nat.and_lt_two_pow a hb)]
theorem zmN{i:Nat}(h:i<40):zaq .i64 (1:Int) (i:Int)=((2^i:Nat):Int):=by
 unfold zaq;have e:min (i:Int).toNat IntKind.i64.bits=i:=by show min (i:Int).toNat 64=i;omega
 have hp:(2:Nat)^i<2^63:=qzb omY omY;rw[e,jqd,<- FP hp];congr 1
theorem zw1{i:Nat}(h:i<40):(2:Nat)^i<2^40:=qzb omY h
def Sm(t:af):Prop:=t.Hits.len<=100/\∀i,i<t.Hits.len->0<=t.Hits.get i/\t.Hits.get i<40
def bt(t:af):Nat→Nat
  | 0=>0
  | i+1=>bt t i ||| 2^(t.Hits.get i).toNat
theorem zeu{t:af}(h:Sm t):∀i,i≤t.Hits.len→bt t i<2^40|0,_=>(by decide:0<2^40)|i+1,hi=>qdS (zeu h i omY) (zw1 (by have:=h.2 i omY;omega))
theorem zb8{t:af}(h:Sm t)(k:Nat):∀i,i≤t.Hits.len→((bt t i).testBit k=true↔∃j,j<i∧t.Hits.get j=(k:Int))
  | 0,_=>by simp[bt]
  | i+1,hi=>by
    have:=h.2 i omY;simp only[bt,qd6,V8,zb8 h k i omY,Nat.testBit_two_pow,oD];constructor;rintro(⟨j,h1,h2⟩|h1);exact⟨j,omY,h2⟩;exact⟨i,omY,omY⟩;rintro⟨j,h1,h2⟩;by_cases e:j=i;subst e;exact .inr omY;exact .inl ⟨j,omY,h2⟩
theorem zCQ{t:af}(h:Sm t)(k:Nat):(bt t t.Hits.len).testBit k=hasB t.Hits (k:Int):=by
 rw[PN,zb8 h k _ (jP _),OX]
theorem zJ2{a:Nat}(h:a<2^40):a<2^63:=jq5 h (by decide)
abbrev Q99(C:af->ae Int):Prop:=∀t,Sm t->C t=.ok (bt t t.Hits.len:Int)
theorem s99{E:E99}(N:Big E.N):Q99 (F99 E):=λt h=>ae.ext λk=>by
 have hN:=N;rw[e99,aX];refine lq (X:=λn i=>zdX E n t (bt t i:Int) (i:Int) k) (m:=t.Hits.len) (λn i hi=>?_) (λn=>?_) E.N (by have:=h.1;omega);have:=h.2 i hi;have e:t.Hits.get i=(((t.Hits.get i).toNat:Nat):Int):=by omega
 rw[zwN,dP omY,dF,bf omY,fO,bf this.1,bF (by have:=h.1;omega)];congr 1;rw[e,zmN omY,FQ (zJ2 (zeu h i omY)) (zJ2 (zw1 omY))];rfl;rw[zwN,dY omY];rfl
theorem zw2{s:ak}{l:Sl bz}{t:af}(h:kY s l t):Sm t:=by
 obtain⟨j,hv⟩:=h.vl;refine⟨h.one.le,λi hi=>?_⟩;have:=(hv.mem (t.Hits.get i,t.bu.get i) (pJ.2 ⟨i,hi,rfl,rfl⟩)).1;have:=hv.le.2;have:=h.ev.l24;constructor<;>omega
theorem JH.chs{s:ak}{r:bQ}{l:Sl bz}{f:found}(h:JH s r l f)(he:Evt s l)(vz:l.len<=24){i:Nat}(hi:i<f.bn.len):kY s l (f.bn.get i):=h.chosen he vz (h.sub (iC.2 ⟨i,hi,rfl⟩))
theorem JI{α:Type}(w:Sl α):ls w=(List.range' 0 w.len).map w.get:=by unfold ls;rw[dq7]
def OZ(w:Sl af)(x:Int):List Int:=((List.range' 0 w.len).filter λi=>(w.get i).View==x).map Int.ofNat
abbrev Q35(C:Sl af×Int->ae (Sl Int)):Prop:=∀(w:Sl af) x,w.len<=10000->∃o:Sl Int,C (w,x)=.ok o/\fB o=OZ w x/\o.len<=w.len
theorem s35{E:E35}(N:Big E.N):Q35 (F35 E):=λw x hw=>by
 have hN:=N;have lp:∀(d i n:Nat)(W:Sl Int),i+d=w.len->d<n->W.len<=i->∃o:Sl Int,(∀(A:Type)(k:Sl Int->Option A),Jh E n w x (i:Int) W k=k o)/\fB o=fB W++((List.range' i d).filter λi=>(w.get i).View==x).map Int.ofNat/\o.len<=w.len:=by
  intro d
  induction d with
  | zero =>
   intro i n W hi hn hW;obtain⟨n,rfl⟩:∃n',n=n'+1:=⟨n-1,omY⟩;exact⟨W,λA k=>by rw[zwq,dY omY];rfl,by simp,omY⟩
  | succ d ih =>
   intro i n W hi hn hW;obtain⟨n,rfl⟩:∃n',n=n'+1:=⟨n-1,omY⟩;have st:∀(A:Type)(k:Sl Int->Option A),Jh E (n+1) w x (i:Int) W k=cond ((w.get i).View==x) (Jh E n w x ((i+1:Nat):Int) (mM W (i:Int)) k) (Jh E n w x ((i+1:Nat):Int) W k):=λA k=>by
    rw[zwq,dP omY,dF,bf omY,fO,ja omY omY,bF omY];rfl
   rw[SG,qdk];cases hb:(w.get i).View==x with
   | true =>
    obtain⟨o,a,b,c⟩:=ih (i+1) n (mM W (i:Int)) omY omY (by show W.len+1<=i+1;omega);refine⟨o,λA k=>by rw[st,hb];exact a A k,?_,c⟩;rw[b,eU rfl,show fB (mM W (i:Int))=fB W++[(i:Int)]from BK W (i:Int)];simp
   | false =>
    obtain⟨o,a,b,c⟩:=ih (i+1) n W omY omY omY;exact⟨o,λA k=>by rw[st,hb];exact a A k,by rw[b,eY (by simp)],c⟩
 obtain⟨o,a,b,c⟩:=lp w.len 0 E.N ⟨0,λ_=>0⟩ omY omY (Ad _);exact⟨o,ae.ext λk=>by rw[e35,aX];exact a _ k,by rw[b];rfl,c⟩
def kU(a b:Nat):Nat:=a ^^^ (a &&& b)
theorem pK(a b k:Nat):(kU a b).testBit k=(a.testBit k && !b.testBit k):=by
 unfold kU;rw[Nat.testBit_xor,qd3];cases a.testBit k<;>cases b.testBit k<;>rfl
theorem sS{a:Nat}:a=0↔∀k,a.testBit k=false:=by
 constructor;rintro rfl k;exact qjx k;intro h;exact qj6 λk=>by rw[h k,qjx]
theorem FT{a b:Nat}:kU a b=0↔∀k,a.testBit k=true->b.testBit k=true:=by
 rw[sS];constructor
 ·intro h k ha;have:=h k;rw[pK,ha]at this;cases e:b.testBit k with|true=>rfl|false=>rw[e]at this;cases this
 ·intro h k;rw[pK];cases e:a.testBit k with|false=>rfl|true=>rw[h k e];rfl
theorem zev{a b:Nat}(h:b &&& a=0):kU a b=a:=qj6 λk=>by
 have:=sS.1 h k;rw[qd3]at this;rw[pK];cases e:a.testBit k<;>cases e2:b.testBit k<;>simp_all
theorem zJ3(b:Nat):kU 0 b=0:=FT.2 λk h=>by rw[qjx]at h;cases h
def jR:List Nat→Nat
  | []=>0
  | b::r=>b ||| jR r
theorem O0 (k : Nat) : ∀ L : List Nat, (jR L).testBit k = L.any fun b => b.testBit k
  | []=>qjx k
  | b::r=>by
    show(b ||| jR r).testBit k=(b.testBit k||r.any _);rw[qd6,O0 k r]
def lst:List Nat→Nat→Nat
  | [],left=>cond (left==0) 0 1000
  | b::r,left=>cond (left==0) 0 (cond (kU left (jR (b::r))==0) (cond (b &&& left != 0) (if 1+lst r (kU left b)<lst r left then 1+lst r (kU left b)else lst r left) (lst r left)) 1000)
def Zg:List Nat→List Bool→Nat→Prop|[],[],left=>left=0|b::r,true::s,left=>Zg r s (kU left b)|_::r,false::s,left=>Zg r s left|_,_,_=>False
theorem O1:∀{B:List Nat}{s:List Bool}{left:Nat},Zg B s left→kU left (jR B)=0
  | [],[],left,h=>by rw[show left=0 from h];exact zJ3 _
  | b::r,true::s,left,h=>FT.2 λk hk=>by
    show(b ||| jR r).testBit k=true;rw[qd6];cases e:b.testBit k with
    | true=>rfl
    | false =>
      have:=FT.1 (O1 (B:=r) (s:=s) h) k (by rw[pK,hk,e];rfl);rw[this];rfl
  | b::r,false::s,left,h=>FT.2 λk hk=>by
    show(b ||| jR r).testBit k=true;rw[qd6,FT.1 (O1 (B:=r) (s:=s) h) k hk,jqr]
  | [],_::_,_,h=>h.elim
  | _::_,[],_,h=>h.elim
theorem Vl:∀{B:List Nat}{s:List Bool}{left:Nat},Zg B s left→s.length=B.length|[],[],_,_=>rfl|b::r,true::s,left,h=>by rw[qp,qp,Vl (B:=r) (s:=s) h]|b::r,false::s,left,h=>by rw[qp,qp,Vl (B:=r) (s:=s) h]|[],_::_,_,h=>h.elim|_::_,[],_,h=>h.elim
theorem zmO : ∀ {B : List Nat}, Zg B (B.map fun _ => false) 0|[]=>rfl|_::r=>zmO (B:=r)
theorem Si(B:List Nat):lst B 0=0:=by cases B<;>rfl
theorem zew{b:Nat}{r:List Nat}{left:Nat}(h0:left≠0)(h1:kU left (jR (b::r))=0):lst (b::r) left=cond (b &&& left != 0) (if 1+lst r (kU left b)<lst r left then 1+lst r (kU left b)else lst r left) (lst r left):=by
 show cond (left==0) 0 (cond (kU left (jR (b::r))==0) _ 1000)=_;rw[show(left==0)=false by simpa using h0,h1];rfl
theorem zex{b:Nat}{r:List Nat}{left:Nat}(h0:left≠0)(h1:kU left (jR (b::r))=0):lst (b::r) left<=lst r left/\lst (b::r) left<=1+lst r (kU left b):=by
 rw[zew h0 h1];cases e:b &&& left != 0 with
 | true=>rw[dF];split<;>omega
 | false =>
  rw[dL,zev (a:=left) (b:=b) (by simpa using e)];omega
theorem O3:∀{B:List Nat}{s:List Bool}{left:Nat},Zg B s left→lst B left≤s.count true
  | [],[],left,h=>by rw[show left=0 from h];exact jP _
  | b::r,c::s,left,h=>by
    by_cases h0:left=0;rw[h0,Si];exact Ad _;obtain⟨a1,a2⟩:=zex h0 (O1 h);cases c with
    | true =>
      have:=O3 (B:=r) (s:=s) h;rw[dq1];omega
    | false =>
      have:=O3 (B:=r) (s:=s) h;rw[dq3 (by decide)];omega
  | [],_::_,_,h=>h.elim
  | _::_,[],_,h=>h.elim
theorem zmP(B:List Nat):(B.map λ_=>false).count true=0:=by
 induction B with|nil=>rfl|cons b r ih=>rw[lM,dq3 (by decide),ih]
theorem Vm:∀{B:List Nat}{left:Nat},lst B left<1000→∃s,Zg B s left∧s.count true=lst B left
  | [],left,h=>by
    by_cases h0:left=0;subst h0;exact⟨[],rfl,rfl⟩;have:lst [] left=1000:=by show cond (left==0) 0 1000=_;rw [show(left==0)=false by simpa using h0];rfl
    omega
  | b::r,left,h=>by
    by_cases h0:left=0;subst h0;exact⟨_,zmO,by rw[zmP,Si]⟩;by_cases h1:kU left (jR (b::r))=0
    case neg =>
      have:lst (b::r) left=1000:=by
        show cond (left==0) 0 (cond (kU left (jR (b::r))==0) _ 1000)=_;rw[show(left==0)=false by simpa using h0,show(kU left (jR (b::r))==0)=false by simpa using h1];rfl
      omega
    have e:=zew h0 h1;have no:lst (b::r) left=lst r left->∃s,Zg (b::r) s left/\s.count true=lst (b::r) left:=λe'=>by
      obtain⟨s,a,c⟩:=Vm (B:=r) (left:=left) omY;exact⟨false::s,a,by rw[dq3 (by decide),c,e']⟩
    cases e2:b &&& left != 0 with
    | false=>rw[e2,dL]at e;exact no e
    | true =>
      rw[e2,dF]at e;by_cases e3:1+lst r (kU left b)<lst r left;rw [eU e3]at e;obtain⟨s,a,c⟩:=Vm (B:=r) (left:=kU left b) omY;exact⟨true::s,a,by rw[dq1,c,e];omega⟩;rw[eY e3]at e;exact no e
theorem IA : ∀ {B : List Nat} {left : Nat}, kU left (jR B) = 0 → Zg B (B.map fun _ => true) left
  | [],left,h=>by
    have:kU left 0=0:=h;refine sS.2 λk=>?_;cases e:left.testBit k with|false=>rfl|true=>have:=FT.1 this k e;rw[qjx]at this;cases this
  | b::r,left,h=>by
    show Zg r _ (kU left b);refine IA (FT.2 λk hk=>?_);rw[pK,fQ]at hk;have:(b ||| jR r).testBit k=true:=FT.1 h k hk.1;rw[qd6]at this;cases e:b.testBit k with|true=>rw[e]at hk;cases hk.2|false=>rw[e,qjB]at this;exact this
theorem zCR{B:List Nat}{left:Nat}(hB:B.length<1000)(h:kU left (jR B)=0):lst B left<1000:=by
 have:=O3 (IA h);have c:(B.map λ_=>true).count true<=B.length:=Gj qjz (by simp);omega
def lexB:List Bool→List Bool→Prop|[],[]=>True|true::s,true::t=>lexB s t|false::s,false::t=>lexB s t|true::_,false::_=>True|_,_=>False
def V9:List Nat→Nat→List Bool|[],_=>[]|b::r,left=>cond (b &&& left != 0&&lst (b::r) left==1+lst r (kU left b)) (true::V9 r (kU left b)) (false::V9 r left)
theorem zb9:∀{B:List Nat}{left:Nat},B.length<1000→kU left (jR B)=0→Zg B (V9 B left) left∧(V9 B left).count true=lst B left∧∀s,Zg B s left→s.count true=lst B left→lexB (V9 B left) s
  | [],left,_,h=>by
    have h0:left=0:=IA h;subst h0;exact⟨rfl,rfl,λs hs _=>by cases s with|nil=>exact trivial|cons=>exact hs.elim⟩
  | b::r,left,hB,h=>by
    have hB':r.length<1000:=by rw[qp]at hB;omega
    have lt:=zCR hB h;by_cases c:(b &&& left != 0&&lst (b::r) left==1+lst r (kU left b))=true
    · have e : V9 (b :: r) left = true :: V9 r (kU left b) := by show cond _ _ _ = _; rw [c]; rfl
      rw[fQ,KN]at c;have l2:lst r (kU left b)<1000:=by omega
      obtain⟨s0,a0,_⟩:=Vm l2;obtain⟨g1,g2,g3⟩:=zb9 (B:=r) (left:=kU left b) hB' (O1 a0);rw[e];refine⟨g1,by rw[dq1,g2,c.2];omega,λs hs hc=>?_⟩;cases s with
      | nil=>exact hs.elim
      | cons d s=>cases d with|false=>exact trivial|true=>exact g3 s hs (by rw[dq1]at hc;omega)
    · have c' : (b &&& left != 0 && lst (b :: r) left == 1 + lst r (kU left b)) = false := by simpa using c
      have e:V9 (b::r) left=false::V9 r left:=by show cond _ _ _=_;rw[c'];rfl
      have eq:lst (b::r) left=lst r left:=by
        by_cases h0:left=0;rw[h0,Si,Si];have e1:=zew h0 h;cases e2:b &&& left != 0 with
        | false=>rw[e2,dL]at e1;exact e1
        | true =>
          rw[e2,dF]at e1;by_cases e3:1+lst r (kU left b)<lst r left;rw [eU e3]at e1;rw[e2,e1,Jv,qdj]at c';cases c';rw[eY e3]at e1;exact e1
      obtain⟨s0,a0,_⟩:=Vm (B:=r) (left:=left) omY;obtain⟨g1,g2,g3⟩:=zb9 (B:=r) (left:=left) hB' (O1 a0);rw[e];refine⟨g1,by rw[dq3 (by decide),g2,eq],λs hs hc=>?_⟩;cases s with
      | nil=>exact hs.elim
      | cons d s=>cases d with
        | false=>exact g3 s hs (by rw[dq3 (by decide)]at hc;omega)
        | true =>
          exfalso;rw[dq1]at hc;have hs:Zg r s (kU left b):=hs;have l1:=O3 hs;by_cases h0:left=0;rw[h0,Si]at hc;omega;obtain⟨a1,a2⟩:=zex h0 h;cases e2:b &&& left != 0 with
          | false =>
            rw[zev (a:=left) (b:=b) (by simpa using e2)]at l1;omega
          | true =>
            refine c ?_;rw[e2,Jv,KN];omega
def nU:List Nat→Nat→Nat
  | [],_=>0
  | b::r,used=>cond (b &&& used==0) (if 1+nU r (used ||| b)>nU r used then 1+nU r (used ||| b)else nU r used) (nU r used)
def apt:List Nat→List Bool→Nat→Prop
  | [],[],_=>True
  | b::r,true::s,used=>b &&& used=0/\apt r s (used ||| b)
  | _::r,false::s,used=>apt r s used
  | _,_,_=>False
theorem Vo:∀{B:List Nat}{s:List Bool}{used:Nat},apt B s used→s.length=B.length|[],[],_,_=>rfl|b::r,true::s,used,h=>by rw[qp,qp,Vo (B:=r) (s:=s) h.2]|b::r,false::s,used,h=>by rw[qp,qp,Vo (B:=r) (s:=s) h]|[],_::_,_,h=>h.elim|_::_,[],_,h=>h.elim
def We:List Nat→Nat→List Bool
  | [],_=>[]
  | b::r,used=>cond (b &&& used==0&&nU (b::r) used==1+nU r (used ||| b)) (true::We r (used ||| b)) (false::We r used)
theorem Sj(b:Nat)(r:List Nat)(used:Nat):nU (b::r) used=cond (b &&& used==0) (if 1+nU r (used ||| b)>nU r used then 1+nU r (used ||| b)else nU r used) (nU r used):=rfl
theorem Vp:∀{B:List Nat}{s:List Bool}{used:Nat},apt B s used→s.count true≤nU B used
  | [],[],_,_=>jP _
  | b::r,true::s,used,h=>by
    have:=Vp (B:=r) (s:=s) h.2;rw[dq1,Sj,h.1,qdj,dF];split<;>omega
  | b::r,false::s,used,h=>by
    have:=Vp (B:=r) (s:=s) h;rw[dq3 (by decide),Sj];cases b &&& used==0 with|true=>rw[dF];split<;>omega|false=>exact this
  | [],_::_,_,h=>h.elim
  | _::_,[],_,h=>h.elim
theorem zca:∀{B:List Nat}{used:Nat},apt B (We B used) used∧(We B used).count true=nU B used∧∀s,apt B s used→s.count true=nU B used→lexB (We B used) s
  | [],used=>⟨trivial,rfl,λs hs _=>by cases s with|nil=>exact trivial|cons=>exact hs.elim⟩
  | b::r,used=>by
    by_cases c:(b &&& used==0&&nU (b::r) used==1+nU r (used ||| b))=true
    · have e : We (b :: r) used = true :: We r (used ||| b) := by show cond _ _ _ = _; rw [c]; rfl
      rw[fQ,KN,KN]at c;obtain⟨g1,g2,g3⟩:=zca (B:=r) (used:=used ||| b);rw[e];refine⟨⟨c.1,g1⟩,by rw[dq1,g2,c.2];omega,λs hs hc=>?_⟩;cases s with
      | nil=>exact hs.elim
      | cons d s=>cases d with|false=>exact trivial|true=>exact g3 s hs.2 (by rw[dq1]at hc;omega)
    · have c' : (b &&& used == 0 && nU (b :: r) used == 1 + nU r (used ||| b)) = false := by simpa using c
      have e:We (b::r) used=false::We r used:=by show cond _ _ _=_;rw[c'];rfl
      have eq:nU (b::r) used=nU r used:=by
        have e1:=Sj b r used;cases e2:b &&& used==0 with
        | false=>rw[e2,dL]at e1;exact e1
        | true =>
          rw[e2,dF]at e1;by_cases e3:1+nU r (used ||| b)>nU r used;rw [eU e3]at e1;rw[e2,e1,Jv,qdj]at c';cases c';rw[eY e3]at e1;exact e1
      obtain⟨g1,g2,g3⟩:=zca (B:=r) (used:=used);rw[e];refine⟨g1,by rw[dq3 (by decide),g2,eq],λs hs hc=>?_⟩;cases s with
      | nil=>exact hs.elim
      | cons d s=>cases d with
        | false=>exact g3 s hs (by rw[dq3 (by decide)]at hc;omega)
        | true =>
          exfalso;rw[dq1]at hc;have l1:=Vp (B:=r) (s:=s) hs.2;refine c ?_;have e1:=Sj b r used;rw[hs.1,qdj,dF]at e1;rw[hs.1,qdj,Jv,KN];split at e1<;>omega
theorem Dn:∀{s t:List Bool},lexB s t→lexB t s→s=t|[],[],_,_=>rfl|true::s,true::t,h,k=>by rw[Dn (s:=s) (t:=t) h k]|false::s,false::t,h,k=>by rw[Dn (s:=s) (t:=t) h k]|true::_,false::_,_,k=>k.elim|false::_,true::_,h,_=>h.elim|[],b::_,h,_=>by cases b<;>exact h.elim|a::_,[],h,_=>by cases a<;>exact h.elim
abbrev PM:=Nat×(List Int->Option (List Int))
abbrev BM:=Bm 170 173 3 (.ints,2,false,[some .i64])
abbrev zmQ:=Int×Int×BM×Bc 39 (Sl Int)×Bs 171 100 2 3×Unit->ae (Int×(Unit×Unit×PM×Sl Int×Unit×Unit))
abbrev zmR:=Int×Int×Bc 39 (Sl Int)×BM×Bs 171 101 2 3×Unit->ae (Int×(Unit×Unit×Sl Int×PM×Unit×Unit))
structure zgz where
 N:Nat
 Dk:zmQ
abbrev zCS(E:zgz):bI:=gQ (Tabs.nil.addM 100 (ae.unM E.Dk)) []
def zum:dG:=bP aB 100 [2,3,4] {}
def Zh(E:zgz):zmQ:=ae.tyM λxs=>aM aB E.N (zCS E) zum 100 xs
section
variable(E:zgz){A:Type}(k:((Int)×(Unit×Unit×PM×(Sl Int)×Unit×Unit))->Option A)
def zU(E:zgz)(n:Nat)(a0 a1:Int)(a2:PM)(a3:Sl Int)(v11 v32:Int){A:Type}(k:((Int)×(Unit×Unit×PM×(Sl Int)×Unit×Unit))->Option A):Option A:=ptM aB (zCS E) E.N zum 100 [1,1,1,1,1,0,1,0] [.n n] (zjH aB (lC.enc ((a0,a1,⟨a2.1,a2.2⟩,⟨a3⟩,{},()):Int×Int×BM×Bc 39 (Sl Int)×Bs 171 100 2 3×Unit))) (zHF ((a0,a1,⟨a2.1,a2.2⟩,⟨a3⟩,{},()):Int×Int×BM×Bc 39 (Sl Int)×Bs 171 100 2 3×Unit) k) ⟨[(0,.int a0),(1,.int a1),(2,.cl (.ptr 2 0)),(3,.cl (.ptr 3 0)),(4,.cl (.ptr 4 0)),(8,.cl (.ptr 8 0)),(11,.int v11),(30,.cl (.p (.sl (((a3.len:Int):Int)-a0).toNat 1 (λi=>bD.enc ((xZ a3.get a0.toNat) i))))),(31,.int ((((a3.len:Int):Int)-a0).toNat:Int)),(32,.int v32)],[(2,.box 170 [.mo 4098]),(3,eB 39 a3),(4,.box 171 [.clo 100 [.b 2,.b 3,.b 4]]),(8,.box 173 [.p (.int .i64 a0),.p (.int .i64 a1)]),(4098,.mo 173 3 (.ints,2,false,[some .i64]) a2.1 a2.2)],[]⟩
theorem zJ4(a0 a1:Int)(a2:PM)(a3:Sl Int):(Zh E (a0,a1,⟨a2.1,a2.2⟩,⟨a3⟩,{},())).T k=cond (a1==0) (k (0,(),(),(a2.1,a2.2),a3,(),())) (cond (a2.2 [a0,a1]).isSome (k ((AZ (a2.2 [a0,a1]) 0),(),(),(a2.1,a2.2),a3,(),())) (aU (decide ((0:Int)<=a0/\(a0:Int)<=(a3.len:Int)/\(a3.len:Int)<=(a3.len:Int))) (zU E E.N a0 a1 a2 a3 0 0 k))):=zv8.trans krY
theorem O4(n0:Nat)(a0 a1:Int)(a2:PM)(a3:Sl Int)(v11 v32:Int):zU E (n0+1) a0 a1 a2 a3 v11 v32 k=cond (decide (v32<((((a3.len:Int):Int)-a0).toNat:Int))) (aU (decide (0<=v32/\v32<((((a3.len:Int):Int)-a0).toNat:Int))) (zU E n0 a0 a1 a2 a3 (orW .i64 v11 ((xZ a3.get a0.toNat) v32.toNat)) (aJ (v32+1)) k)) (cond ((qU .i64 a1 v11)==0) ((E.Dk ((aJ (a0+1)),a1,(⟨a2.1,a2.2⟩:BM),(⟨a3⟩:Bc 39 (Sl Int)),({}:Bs 171 100 2 3),())).T λr1=>aU (decide (0<=a0/\a0<(r1.2.2.2.2.1.len:Int))) (cond ((KT .i64 (r1.2.2.2.2.1.get a0.toNat) a1) != 0) (aU (decide (0<=a0/\a0<(r1.2.2.2.2.1.len:Int))) ((E.Dk ((aJ (a0+1)),(qU .i64 a1 (r1.2.2.2.2.1.get a0.toNat)),(⟨r1.2.2.2.1.1,r1.2.2.2.1.2⟩:BM),(⟨r1.2.2.2.2.1⟩:Bc 39 (Sl Int)),({}:Bs 171 100 2 3),())).T λr2=>k ((if(aJ (1+r2.1))<r1.1 then(aJ (1+r2.1))else r1.1),(),(),((addN (r2.2.2.2.1.2 [a0,a1]) r2.2.2.2.1.1),(oI [a0,a1] [(if(aJ (1+r2.1))<r1.1 then(aJ (1+r2.1))else r1.1)] r2.2.2.2.1.2)),r2.2.2.2.2.1,(),()))) (k (r1.1,(),(),((addN (r1.2.2.2.1.2 [a0,a1]) r1.2.2.2.1.1),(oI [a0,a1] [r1.1] r1.2.2.2.1.2)),r1.2.2.2.2.1,(),())))) (k (1000,(),(),((addN (a2.2 [a0,a1]) a2.1),(oI [a0,a1] [1000] a2.2)),a3,(),()))):=krY
end
theorem zY4(E:zgz)(zEV:jc aB 100 (ae.unM E.Dk)):jc aB 100 (ae.unM (Zh E)):=by
  have h:jc aB 100 (λxs=>aM aB E.N (zCS E) zum 100 xs):=NL (aQ:=λ_=>zum) (au.nil.addM zEV) (dE krY);exact(zjV h:jc aB 100 (ae.unM (ae.tyM _:zmQ)))
structure zmS where
 N:Nat
 Bj:zmR
abbrev zJ5(E:zmS):bI:=gQ (Tabs.nil.addM 101 (ae.unM E.Bj)) []
def zCT:dG:=bP aB 101 [2,3,4] {}
def zcb(E:zmS):zmR:=ae.tyM λxs=>aM aB E.N (zJ5 E) zCT 101 xs
theorem zJ6(E:zmS){A:Type}(k:((Int)×(Unit×Unit×(Sl Int)×PM×Unit×Unit))→Option A)(a0 a1:Int)(a2:Sl Int)(a3:PM):(zcb E (a0,a1,⟨a2⟩,⟨a3.1,a3.2⟩,{},())).T k=cond (a0==(a2.len:Int)) (k (0,(),(),a2,(a3.1,a3.2),(),())) (cond (a3.2 [a0,a1]).isSome (k ((AZ (a3.2 [a0,a1]) 0),(),(),a2,(a3.1,a3.2),(),())) ((E.Bj ((aJ (a0+1)),a1,(⟨a2⟩:Bc 39 (Sl Int)),(⟨a3.1,a3.2⟩:BM),({}:Bs 171 101 2 3),())).T λr1=>aU (decide (0<=a0/\a0<(r1.2.2.2.1.len:Int))) (cond ((KT .i64 (r1.2.2.2.1.get a0.toNat) a1)==0) (aU (decide (0<=a0/\a0<(r1.2.2.2.1.len:Int))) ((E.Bj ((aJ (a0+1)),(orW .i64 a1 (r1.2.2.2.1.get a0.toNat)),(⟨r1.2.2.2.1⟩:Bc 39 (Sl Int)),(⟨r1.2.2.2.2.1.1,r1.2.2.2.2.1.2⟩:BM),({}:Bs 171 101 2 3),())).T λr2=>k ((if(aJ (1+r2.1))>r1.1 then(aJ (1+r2.1))else r1.1),(),(),r2.2.2.2.1,((addN (r2.2.2.2.2.1.2 [a0,a1]) r2.2.2.2.2.1.1),(oI [a0,a1] [(if(aJ (1+r2.1))>r1.1 then(aJ (1+r2.1))else r1.1)] r2.2.2.2.2.1.2)),(),()))) (k (r1.1,(),(),r1.2.2.2.1,((addN (r1.2.2.2.2.1.2 [a0,a1]) r1.2.2.2.2.1.1),(oI [a0,a1] [r1.1] r1.2.2.2.2.1.2)),(),()))))):=zv8.trans krY
theorem zY5(E:zmS)(zEF:jc aB 101 (ae.unM E.Bj)):jc aB 101 (ae.unM (zcb E)):=by
  have h:jc aB 101 (λxs=>aM aB E.N (zJ5 E) zCT 101 xs):=NL (aQ:=λ_=>zCT) (au.nil.addM zEF) (dE krY);exact(zjV h:jc aB 101 (ae.unM (ae.tyM _:zmR)))
theorem ul{a b:Nat}(ha:a<2^63)(hb:b<2^63):qU .i64 (a:Int) (b:Int)=((kU a b:Nat):Int):=by
 unfold qU;have e:(BitVec.ofInt IntKind.i64.bits (a:Int) &&& ~~~ BitVec.ofInt IntKind.i64.bits (b:Int)).toNat=kU a b:=by
  show(BitVec.ofInt 64 (a:Int) &&& ~~~ BitVec.ofInt 64 (b:Int)).toNat=kU a b;refine qj6 λk=>?_;rw[BitVec.toNat_and,BitVec.toNat_not,rQ ha,rQ hb,pK,qd3,show 2^64-1-b=2^64-(b+1)by omega,Nat.testBit_two_pow_sub_succ (jq5 hb (by decide))];by_cases hk:k<64;rw[dP hk,Jv];rw[Nat.testBit_lt_two_pow (qdw ha (qj7 omY (show 63<=k by omega)))];rfl
 rw[e,FP];refine Nat.lt_of_le_of_lt ?_ ha;refine Nat.le_of_testBit λk hk=>?_;rw[pK,fQ]at hk;exact hk.1
theorem zcc{a b n:Nat}(h:a<n):kU a b<n:=by
 refine Nat.lt_of_le_of_lt (Nat.le_of_testBit λk hk=>?_) h;rw[pK,fQ]at hk;exact hk.1
theorem Vq(x:Nat):((x:Int) != 0)=(x != 0):=by
 cases x with|zero=>rfl|succ n=>rw[show((n+1:Nat) != 0)=true from rfl];simp;omega
theorem AU(x:Nat):((x:Int)==0)=(x==0):=by
 cases x with|zero=>rfl|succ n=>rw[show((n+1:Nat)==0)=false from rfl];simp;omega
structure MB (B : Sl Int) (M : List Nat) : Prop where
  len:M.length=B.len
  get:∀i,i<B.len->∃b,M.drop i=b::M.drop (i+1)/\B.get i=(b:Int)/\b<2^40
  le:B.len<=40
theorem nV{a:Nat}(h:a<2^40):a<2^63:=jq5 h (by decide)
theorem zey:∀(B:List Nat)(left:Nat),lst B left≤1000
  | [],left=>by
    show cond (left==0) 0 1000<=1000;cases left==0<;>decide
  | b::r,left=>by
    show cond (left==0) 0 (cond (kU left (jR (b::r))==0) (cond (b &&& left != 0) (if 1+lst r (kU left b)<lst r left then 1+lst r (kU left b)else lst r left) (lst r left)) 1000)<=1000;have:=zey r left;cases left==0 with
    | true=>exact Ad _
    | false=>cases kU left (jR (b::r))==0 with
      | false=>exact jP _
      | true=>cases b &&& left != 0 with|false=>exact this|true=>simp only[dF,dL];split<;>omega
theorem zw3{L:List Nat}{left:Nat}(h0:left≠0)(h1:kU left (jR L)≠0):lst L left=1000:=by
 cases L with
 | nil=>show cond (left==0) 0 1000=_;rw[show(left==0)=false by simpa using h0];rfl
 | cons b r =>
  show cond (left==0) 0 (cond (kU left (jR (b::r))==0) _ 1000)=_;rw[show(left==0)=false by simpa using h0,show(kU left (jR (b::r))==0)=false by simpa using h1];rfl
def Ip(f:List Nat->Nat->Nat)(M:List Nat)(F:List Int->Option (List Int)):Prop:=∀(i left:Nat) v,F [(i:Int),(left:Int)]=some v->v=[((f (M.drop i) left:Nat):Int)]
theorem zV{f:List Nat->Nat->Nat}{M:List Nat}{F:List Int->Option (List Int)}(h:Ip f M F){i left:Nat}{x:Int}(hx:x=((f (M.drop i) left:Nat):Int)):Ip f M (oI [(i:Int),(left:Int)] [x] F):=λj l v hv=>by
 unfold oI at hv;by_cases e:([(j:Int),(l:Int)]:List Int)=[(i:Int),(left:Int)];rw [dP e]at hv;have hv:[x]=v:=SH hv;simp only[Du,jqf]at e;rw[<- hv,hx,Int.ofNat_inj.1 e.1,Int.ofNat_inj.1 e.2];rw [dY e]at hv;exact h j l v hv
theorem Vr:∀{L:List Nat},(∀b∈L,b<2^40)→jR L<2^40|[],_=>by decide|b::r,h=>qdS (h b kH) (Vr λx hx=>h x (jM _ hx))
theorem MB.all{B:Sl Int}{M:List Nat}(h:MB B M):∀{m i:Nat},i+m=B.len→∀b∈M.drop i,b<2^40
  | 0,i,hi,b,hb=>by
    rw[qdB (by have:=h.len;omega)]at hb;cases hb
  | m+1,i,hi,b,hb=>by
    obtain⟨c,e,_,lt⟩:=h.get i omY;rw[e]at hb;rcases jV.1 hb with rfl|hb
    exact lt;exact h.all (m:=m) (i:=i+1) omY b hb
abbrev Zi:=Int×(Unit×Unit×PM×Sl Int×Unit×Unit)
abbrev zJ7:=Int×Int×BM×Bc 39 (Sl Int)×Bs 171 100 2 3×Unit
abbrev Zj(n:Nat)(C:zJ7->ae Zi):Prop:=∀B M,MB B M->∀(i left:Nat)(p:PM),Ip lst M p.2->i<=B.len->B.len<i+n->left<2^40 ->
 ∃p':PM,Ip lst M p'.2/\C ((i:Int),(left:Int),⟨p.1,p.2⟩,⟨B⟩,{},())=.ok (((lst (M.drop i) left:Nat):Int),(),(),(p'.1,p'.2),B,(),())
theorem zY6{E:zgz}(N:Big E.N){n:Nat}(hm:Zj n E.Dk):Zj (n+1) (Zh E):=λB M mb i left p hF hi hn hl=>by
  have hN:=N;have bl:=mb.le;by_cases h0:left=0;subst h0;refine⟨p,hF,ae.ext λk=>?_⟩;have e0:=zJ4 E k (i:Int) ((0:Nat):Int) p B;rw[AU,show((0:Nat)==0)=true from rfl,dF]at e0;rw[Si,aX];exact e0;have hd:∀(A:Type)(k:Zi->Option A),(Zh E ((i:Int),(left:Int),⟨p.1,p.2⟩,⟨B⟩,{},())).T k=cond (p.2 [(i:Int),(left:Int)]).isSome (k (AZ (p.2 [(i:Int),(left:Int)]) 0,(),(),(p.1,p.2),B,(),())) (zU E E.N (i:Int) (left:Int) p B 0 0 k):=λA k=>by
    refine(zJ4 E k (i:Int) (left:Int) p B).trans ?_;rw[AU,show(left==0)=false by simpa using h0,dL,bf omY]
  cases hf:p.2 [(i:Int),(left:Int)]with
  | some v =>
    refine⟨p,hF,ae.ext λk=>?_⟩;rw[hd,hf,aX];rw[hF i left v hf];rfl
  | none =>
  rw[hf]at hd
  -- zEI the sets from here on have
  have lp:∀(A:Type)(k:Zi->Option A)(m j n1 v:Nat),i+j+m=B.len->m<n1->v<2^40->zU E n1 (i:Int) (left:Int) p B (v:Int) (j:Int) k=zU E 1 (i:Int) (left:Int) p B ((v ||| jR (M.drop (i+j)):Nat):Int) ((B.len-i:Nat):Int) k:=by
    intro A k m
    induction m with
    | zero =>
      intro j n1 v hj hn1 hv;obtain⟨n1,rfl⟩:∃n',n1=n'+1:=⟨n1-1,omY⟩;rw[qdB (by have:=mb.len;omega),show j=B.len-i by omega];rw[show v ||| jR []=v from Nat.or_zero v,O4,O4 (n0:=0),dY omY];rfl
    | succ m ih =>
      intro j n1 v hj hn1 hv;obtain⟨n1,rfl⟩:∃n',n1=n'+1:=⟨n1-1,omY⟩;obtain⟨b,e,eb,lb⟩:=mb.get (i+j) omY;rw[O4,dP omY,dF,bf omY];have eg:xZ B.get ((i:Int)).toNat ((j:Int)).toNat=(b:Int):=by
        rw[<- eb];show B.get (((j:Int)).toNat+((i:Int)).toNat)=_;rw[fO,fO,jqn]
      rw[eg,FQ (nV hv) (nV lb),bF omY,ih (j+1) n1 (v ||| b) omY omY (qdS hv lb),e];show _=zU E 1 (i:Int) (left:Int) p B ((v ||| (b ||| jR (M.drop (i+j+1))):Nat):Int) _ k;rw[Nat.or_assoc];rfl
  have ol:jR (M.drop i)<2^40:=Vr (mb.all (m:=B.len-i) omY);have h1:∀(A:Type)(k:Zi->Option A),(Zh E ((i:Int),(left:Int),⟨p.1,p.2⟩,⟨B⟩,{},())).T k=zU E 1 (i:Int) (left:Int) p B ((jR (M.drop i):Nat):Int) ((B.len-i:Nat):Int) k:=λA k=>by
    have:=lp A k (B.len-i) 0 E.N 0 omY omY (by decide);rw[Nat.zero_or]at this;exact(hd A k).trans this
  have ex:decide (((B.len-i:Nat):Int)<((((B.len:Int):Int)-(i:Int)).toNat:Int))=false:=dY omY;by_cases hc:kU left (jR (M.drop i))=0
  case neg =>
    refine⟨(addN (p.2 [(i:Int),(left:Int)]) p.1,oI [(i:Int),(left:Int)] [1000] p.2),zV (i:=i) (left:=left) (x:=1000) hF (by rw[zw3 h0 hc];rfl),ae.ext λk=>?_⟩;rw[h1,O4,ex,dL,ul (nV hl) (nV ol),AU,show(kU left (jR (M.drop i))==0)=false by simpa using hc,dL,aX,zw3 h0 hc];rfl
  have il:i<B.len:=by
    refine Decidable.byContradiction λh=>h0 ?_;rw[qdB (by have:=mb.len;omega)]at hc;exact(IA hc:left=0)
  obtain⟨b,e,eb,lb⟩:=mb.get i il;rw[e]at hc;have lc:=zew h0 hc;obtain⟨p1,hF1,c1⟩:=hm B M mb (i+1) left p hF omY omY hl;obtain⟨p2,hF2,c2⟩:=hm B M mb (i+1) (kU left b) p1 hF1 omY omY (zcc hl);have b1:=zey (M.drop (i+1)) left;have b2:=zey (M.drop (i+1)) (kU left b)
  have st:∀(A:Type)(k:Zi→Option A),(Zh E ((i:Int),(left:Int),⟨p.1,p.2⟩,⟨B⟩,{},())).T k=cond (b &&& left != 0)
      (k ((if aJ (1+((lst (M.drop (i+1)) (kU left b):Nat):Int))<((lst (M.drop (i+1)) left:Nat):Int)then aJ (1+((lst (M.drop (i+1)) (kU left b):Nat):Int))else((lst (M.drop (i+1)) left:Nat):Int)),(),(),(addN (p2.2 [(i:Int),(left:Int)]) p2.1,oI [(i:Int),(left:Int)] [if aJ (1+((lst (M.drop (i+1)) (kU left b):Nat):Int))<((lst (M.drop (i+1)) left:Nat):Int)then aJ (1+((lst (M.drop (i+1)) (kU left b):Nat):Int))else((lst (M.drop (i+1)) left:Nat):Int)] p2.2),B,(),()))
      (k (((lst (M.drop (i+1)) left:Nat):Int),(),(),(addN (p1.2 [(i:Int),(left:Int)]) p1.1,oI [(i:Int),(left:Int)] [((lst (M.drop (i+1)) left:Nat):Int)] p1.2),B,(),())):=λA k=>by
    rw[h1,O4,ex,dL,e,ul (nV hl) (nV (by rw[<- e];exact ol)),hc];show(E.Dk (aJ ((i:Int)+1),(left:Int),⟨p.1,p.2⟩,⟨B⟩,{},())).T _=_;rw[bF omY,c1,aX];show aU (decide (0<=(i:Int)/\(i:Int)<(B.len:Int))) (cond ((KT .i64 (B.get ((i:Int)).toNat) (left:Int)) != 0) (aU (decide (0<=(i:Int)/\(i:Int)<(B.len:Int))) ((E.Dk (((i+1:Nat):Int),qU .i64 (left:Int) (B.get ((i:Int)).toNat),⟨p1.1,p1.2⟩,⟨B⟩,{},())).T _)) _)=_;rw[bf omY,bf omY,fO,eb,wO (nV lb) (nV hl),Vq,ul (nV hl) (nV lb),c2,aX]
  have mi:∀x y:Nat,x<=1000->(if aJ (1+(x:Int))<(y:Int)then aJ (1+(x:Int))else(y:Int))=((if 1+x<y then 1+x else y:Nat):Int):=λx y hx=>by
    rw[aT omY omY];by_cases c:1+x<y;rw[eU omY,eU c];omega;rw[eY omY,eY c]
  cases hbl:b &&& left != 0 with
  | false =>
    rw[hbl,dL]at lc;exact⟨(addN (p1.2 [(i:Int),(left:Int)]) p1.1,oI [(i:Int),(left:Int)] [((lst (M.drop (i+1)) left:Nat):Int)] p1.2),zV (i:=i) (left:=left) hF1 (by rw[e,lc]),ae.ext λk=>by rw[st,hbl,dL,aX,e,lc]⟩
  | true =>
    rw[hbl,dF]at lc;refine⟨(addN (p2.2 [(i:Int),(left:Int)]) p2.1,oI [(i:Int),(left:Int)] [((lst (b::M.drop (i+1)) left:Nat):Int)] p2.2),zV (i:=i) (left:=left) (x:=((lst (b::M.drop (i+1)) left:Nat):Int)) hF2 (by rw[e]),ae.ext λk=>?_⟩;rw[st,hbl,dF,aX,e,mi _ _ b2,<- lc]
theorem zez:∀(B:List Nat)(used:Nat),nU B used≤B.length
  | [],_=>jP _
  | b::r,used=>by
    have h1:=zez r used;have h2:=zez r (used ||| b);rw[Sj,qp];cases b &&& used==0 with|true=>rw[dF];split<;>omega|false=>rw[dL];omega
abbrev zmT:=Int×(Unit×Unit×Sl Int×PM×Unit×Unit)
abbrev zJ8:=Int×Int×Bc 39 (Sl Int)×BM×Bs 171 101 2 3×Unit
abbrev Zk(n:Nat)(C:zJ8->ae zmT):Prop:=∀B M,MB B M->∀(i used:Nat)(p:PM),Ip nU M p.2->i<=B.len->B.len<i+n->used<2^40 ->
 ∃p':PM,Ip nU M p'.2/\C ((i:Int),(used:Int),⟨B⟩,⟨p.1,p.2⟩,{},())=.ok (((nU (M.drop i) used:Nat):Int),(),(),B,(p'.1,p'.2),(),())
theorem zY7{E:zmS}(N:Big E.N){n:Nat}(hm:Zk n E.Bj):Zk (n+1) (zcb E):=λB M mb i used p hF hi hn hl=>by
  have hN:=N;have bl:=mb.le;by_cases hil:i=B.len;refine⟨p,hF,ae.ext fun k => ?_⟩;have e0:=zJ6 E k (i:Int) (used:Int) B p;rw[show((i:Int)==(B.len:Int))=true by rw[hil];exact qdj _,dF]at e0;rw[qdB (by have:=mb.len;omega),aX];exact e0;have hd:∀(A:Type)(k:zmT->Option A),(zcb E ((i:Int),(used:Int),⟨B⟩,⟨p.1,p.2⟩,{},())).T k=cond (p.2 [(i:Int),(used:Int)]).isSome (k (AZ (p.2 [(i:Int),(used:Int)]) 0,(),(),B,(p.1,p.2),(),())) ((E.Bj (aJ ((i:Int)+1),(used:Int),⟨B⟩,⟨p.1,p.2⟩,{},())).T _):=λA k=>by
    rw[zJ6 E k (i:Int) (used:Int) B p,show((i:Int)==(B.len:Int))=false by rw[qdU];omega,dL]
  cases hf:p.2 [(i:Int),(used:Int)]with
  | some v =>
    refine⟨p,hF,ae.ext λk=>?_⟩;rw[hd,hf,aX];rw[hF i used v hf];rfl
  | none =>
  rw[hf]at hd;obtain⟨b,e,eb,lb⟩:=mb.get i omY;obtain⟨p1,hF1,c1⟩:=hm B M mb (i+1) used p hF omY omY hl;obtain⟨p2,hF2,c2⟩:=hm B M mb (i+1) (used ||| b) p1 hF1 omY omY (qdS hl lb);have b1:=zez (M.drop (i+1)) (used ||| b);have b2:(M.drop (i+1)).length<=40:=by rw[VO];have:=mb.len;omega
  have st:∀(A:Type)(k:zmT→Option A),(zcb E ((i:Int),(used:Int),⟨B⟩,⟨p.1,p.2⟩,{},())).T k=cond (b &&& used==0)
      (k ((if aJ (1+((nU (M.drop (i+1)) (used ||| b):Nat):Int))>((nU (M.drop (i+1)) used:Nat):Int)then aJ (1+((nU (M.drop (i+1)) (used ||| b):Nat):Int))else((nU (M.drop (i+1)) used:Nat):Int)),(),(),B,(addN (p2.2 [(i:Int),(used:Int)]) p2.1,oI [(i:Int),(used:Int)] [if aJ (1+((nU (M.drop (i+1)) (used ||| b):Nat):Int))>((nU (M.drop (i+1)) used:Nat):Int)then aJ (1+((nU (M.drop (i+1)) (used ||| b):Nat):Int))else((nU (M.drop (i+1)) used:Nat):Int)] p2.2),(),()))
      (k (((nU (M.drop (i+1)) used:Nat):Int),(),(),B,(addN (p1.2 [(i:Int),(used:Int)]) p1.1,oI [(i:Int),(used:Int)] [((nU (M.drop (i+1)) used:Nat):Int)] p1.2),(),())):=λA k=>by
    rw[hd];show(E.Bj (aJ ((i:Int)+1),(used:Int),⟨B⟩,⟨p.1,p.2⟩,{},())).T _=_;rw[bF omY,c1,aX];show aU (decide (0<=(i:Int)/\(i:Int)<(B.len:Int))) (cond ((KT .i64 (B.get ((i:Int)).toNat) (used:Int))==0) (aU (decide (0<=(i:Int)/\(i:Int)<(B.len:Int))) ((E.Bj (((i+1:Nat):Int),orW .i64 (used:Int) (B.get ((i:Int)).toNat),⟨B⟩,⟨p1.1,p1.2⟩,{},())).T _)) _)=_;rw[bf omY,bf omY,fO,eb,wO (nV lb) (nV hl),AU,FQ (nV hl) (nV lb),c2,aX]
  have mi:∀x y:Nat,x<=1000->(if aJ (1+(x:Int))>(y:Int)then aJ (1+(x:Int))else(y:Int))=((if 1+x>y then 1+x else y:Nat):Int):=λx y hx=>by
    rw[aT omY omY];by_cases c:1+x>y;rw[eU omY,eU c];omega;rw[eY omY,eY c]
  have lc:=Sj b (M.drop (i+1)) used;cases hbl:b &&& used==0 with
  | false =>
    rw[hbl,dL]at lc;exact⟨(addN (p1.2 [(i:Int),(used:Int)]) p1.1,oI [(i:Int),(used:Int)] [((nU (M.drop (i+1)) used:Nat):Int)] p1.2),zV (i:=i) (left:=used) hF1 (by rw[e,lc]),ae.ext λk=>by rw[st,hbl,dL,aX,e,lc]⟩
  | true =>
    rw[hbl,dF]at lc;refine⟨(addN (p2.2 [(i:Int),(used:Int)]) p2.1,oI [(i:Int),(used:Int)] [((nU (b::M.drop (i+1)) used:Nat):Int)] p2.2),zV (i:=i) (left:=used) (x:=((nU (b::M.drop (i+1)) used:Nat):Int)) hF2 (by rw[e]),ae.ext λk=>?_⟩;rw[st,hbl,dF,aX,e,mi _ _ omY,<- lc]
structure E36 where
 N:Nat
 c96:Int->ae Bool
 c72:ak×bQ×(Sl bz)×(Sl Bool)->ae (Int ⊕ ((Pt found)×Int))
 c97:(Sl af)×((dM 132 Unit (Pt af)) ⊕ (dM 98 Unit (Pt Int)))->ae Int
 c99:af->ae Int
 Dk:zmQ
 Bj:zmR
abbrev G36(E:E36):bI:=gQ ((((((Tabs.nil.addM 100 (ae.unM E.Dk)).addM 101 (ae.unM E.Bj)).addF 96 (ae.un E.c96)).addF 72 (ae.unA E.c72)).addF 97 (ae.un E.c97)).addF 99 (ae.un E.c99)) [73,75]
def A36:dG:=bP aB 36 [] {ks:=[(0,14,⟨[],[],[],[],[1000896],[],[]⟩),(1,8,⟨[],[],[(14,0,64,3)],[],[],[],[]⟩),(1,25,⟨[],[(22,109,3),(23,137,3)],[],[],[],[],[]⟩)],cut:=[29]}
def F36(E:E36):ak×bQ×(Sl bz)×Int->ae ((Sl Int)×(Sl Int)×Int):=ae.ty (aF aB E.N (G36 E) A36 36)
section
variable(E:E36){A:Type}(k:((Sl Int)×(Sl Int)×Int)->Option A)
def O5(E:E36)(n:Nat)(a3 iM V6:Int)(v50:Sl af)(v51 v52:Int)(yw:Sl Int){A:Type}(k:((Sl Int)×(Sl Int)×Int)->Option A):Option A:=iK aB (G36 E) E.N A36 36 [1,1,1,1,1,1,0,1,0] [.n n] (iJ k) ⟨[(7,.cl (.ptr 7 0)),(13,.int iM),(14,.cl (.ptr 14 0)),(15,.int V6),(50,eP v50),(51,.int v51),(52,.int v52)],[(7,.fbox (bD.enc a3)),(14,.box 39 [.vec 64]),(64,eV 3 1 8 yw)],[]⟩
def FU(E:E36)(n:Nat)(iM v24 v25:Int)(v78:Sl Int)(v79 v80:Int)(zW zX zY:Sl Int)(JJ:Nat)(JK:List Int->Option (List Int))(JL:Nat)(JM:List Int->Option (List Int)){A:Type}(k:((Sl Int)×(Sl Int)×Int)->Option A):Option A:=iK aB (G36 E) E.N A36 36 [1,1,1,1,1,1,1,1,1,1,1,1,1,1,1,1,0,1,0] [.n n] (iJ k) ⟨[(13,.int iM),(19,.cl (.ptr 19 0)),(21,.cl (.ptr 21 0)),(22,.cl (.vec 109)),(23,.cl (.vec 137)),(24,.int v24),(25,.int v25),(78,eP v78),(79,.int v79),(80,.int v80)],[(19,.box 171 [.clo 100 [.b 18,.b 14,.b 19]]),(21,.box 171 [.clo 101 [.b 14,.b 20,.b 21]]),(109,eV 3 1 8 zW),(137,eV 3 1 8 zX),(18,.box 170 [.mo 73]),(14,eB 39 zY),(20,.box 170 [.mo 75]),(73,.mo 173 3 (.ints,2,false,[some .i64]) JJ JK),(75,.mo 173 3 (.ints,2,false,[some .i64]) JL JM)],[]⟩
def Jp(E:E36)(n0:Nat)(iM v24 v25 v26 PI:Int)(v78:Sl Int)(v79 v80:Int)(zW zX zY:Sl Int)(JJ:Nat)(JK:List Int->Option (List Int))(JL:Nat)(JM:List Int->Option (List Int)){A:Type}(k:((Sl Int)×(Sl Int)×Int)->Option A):Option A:=iK aB (G36 E) E.N A36 36 [1,1,1,1,1,1,1,1,1,1,1,1,1,1,1,1,0,1,0,0,1,1,0,0,1,1] [.n n0] (iJ k) ⟨[(13,.int iM),(19,.cl (.ptr 19 0)),(21,.cl (.ptr 21 0)),(22,.cl (.vec 109)),(23,.cl (.vec 137)),(24,.int v24),(25,.int v25),(26,.int v26),(27,.int PI),(78,eP v78),(79,.int v79),(80,.int v80)],[(19,.box 171 [.clo 100 [.b 18,.b 14,.b 19]]),(21,.box 171 [.clo 101 [.b 14,.b 20,.b 21]]),(109,eV 3 1 8 zW),(137,eV 3 1 8 zX),(18,.box 170 [.mo 73]),(14,eB 39 zY),(20,.box 170 [.mo 75]),(73,.mo 173 3 (.ints,2,false,[some .i64]) JJ JK),(75,.mo 173 3 (.ints,2,false,[some .i64]) JL JM)],[]⟩
theorem e36(a0:ak)(a1:bQ)(a2:Sl bz)(a3:Int):(F36 E (a0,a1,a2,a3)).T k=(E.c96 a3).T λr1=>(E.c72 (a0,a1,a2,(⟨1,(λ_=>r1)⟩:(Sl Bool)))).T λr2=>zzb r2 (λr2=>cond (r2 != 0) (k ((⟨0,λ_=>default⟩:(Sl Int)),(⟨0,λ_=>default⟩:(Sl Int)),r2)) (none)) (λr2=>cond (r2.2 != 0) (k ((⟨0,λ_=>default⟩:(Sl Int)),(⟨0,λ_=>default⟩:(Sl Int)),r2.2)) ((E.c97 (r2.1.v.bn,(Sum.inr (⟨(),(⟨a3⟩:(Pt Int))⟩:(dM 98 Unit (Pt Int)))))).T λr3=>O5 E E.N a3 r3 0 r2.1.v.bn (r2.1.v.bn.len:Int) 0 (⟨0,(λ_=>0)⟩:(Sl Int)) k)):=dU
theorem Su(n0:Nat)(a3 iM V6:Int)(v50:Sl af)(v51 v52:Int)(yw:Sl Int):O5 E (n0+1) a3 iM V6 v50 v51 v52 yw k=cond (decide (v52<v51)) (aU (decide (0<=v52/\v52<(v50.len:Int))) (cond ((v50.get v52.toNat).View==a3) ((E.c99 (v50.get v52.toNat)).T λr1=>aU (room (yw.len+1) 8) ((E.c99 (v50.get v52.toNat)).T λr2=>O5 E n0 a3 iM (orW .i64 V6 r2) v50 v51 (aJ (v52+1)) (⟨(yw.len+1),(iR yw.len yw.get (λ_=>r1))⟩:(Sl Int)) k)) (O5 E n0 a3 iM V6 v50 v51 (aJ (v52+1)) yw k))) (cond (decide ((yw.len:Int)>40)) (k ((⟨0,λ_=>default⟩:(Sl Int)),(⟨0,λ_=>default⟩:(Sl Int)),8)) (FU E E.N iM V6 0 yw (yw.len:Int) 0 (⟨0,(λ_=>0)⟩:(Sl Int)) (⟨0,(λ_=>0)⟩:(Sl Int)) yw 0 (λ_=>none) 0 (λ_=>none) k)):=krY
theorem zmU(n0:Nat)(iM v24 v25:Int)(v78:Sl Int)(v79 v80:Int)(zW zX zY:Sl Int)(JJ:Nat)(JK:List Int→Option (List Int))(JL:Nat)(JM:List Int→Option (List Int)):FU E (n0+1) iM v24 v25 v78 v79 v80 zW zX zY JJ JK JL JM k=cond (decide (v80<v79)) (aU (decide (0<=v80/\v80<(v78.len:Int))) (cond ((KT .i64 (v78.get v80.toNat) v24) != 0) ((E.Dk (v80,v24,(⟨JJ,JK⟩:BM),(⟨zY⟩:Bc 39 (Sl Int)),({}:Bs 171 100 2 3),())).T λr1=>(E.Dk ((aJ (v80+1)),(qU .i64 v24 (v78.get v80.toNat)),(⟨r1.2.2.2.1.1,r1.2.2.2.1.2⟩:BM),(⟨r1.2.2.2.2.1⟩:Bc 39 (Sl Int)),({}:Bs 171 100 2 3),())).T λr2=>cond (r1.1==(aJ (1+r2.1))) (aU (room (zW.len+1) 8) (Jp E n0 iM (qU .i64 v24 (v78.get v80.toNat)) v25 v80 (v78.get v80.toNat) v78 v79 v80 (⟨(zW.len+1),(iR zW.len zW.get (λ_=>(aJ (iM+v80))))⟩:(Sl Int)) zX r2.2.2.2.2.1 r2.2.2.2.1.1 r2.2.2.2.1.2 JL JM k)) (Jp E n0 iM v24 v25 v80 (v78.get v80.toNat) v78 v79 v80 zW zX r2.2.2.2.2.1 r2.2.2.2.1.1 r2.2.2.2.1.2 JL JM k)) (Jp E n0 iM v24 v25 v80 (v78.get v80.toNat) v78 v79 v80 zW zX zY JJ JK JL JM k))) (k (zW,zX,0)):=krY
theorem zw4(n0:Nat)(iM v24 v25 v26 PI:Int)(v78:Sl Int)(v79 v80:Int)(zW zX zY:Sl Int)(JJ:Nat)(JK:List Int→Option (List Int))(JL:Nat)(JM:List Int→Option (List Int)):Jp E n0 iM v24 v25 v26 PI v78 v79 v80 zW zX zY JJ JK JL JM k=cond ((KT .i64 PI v25)==0) ((E.Bj (v26,v25,(⟨zY⟩:Bc 39 (Sl Int)),(⟨JL,JM⟩:BM),({}:Bs 171 101 2 3),())).T λr1=>(E.Bj ((aJ (v26+1)),(orW .i64 v25 PI),(⟨r1.2.2.2.1⟩:Bc 39 (Sl Int)),(⟨r1.2.2.2.2.1.1,r1.2.2.2.2.1.2⟩:BM),({}:Bs 171 101 2 3),())).T λr2=>cond (r1.1==(aJ (1+r2.1))) (aU (room (zX.len+1) 8) (FU E n0 iM v24 (orW .i64 v25 PI) v78 v79 (aJ (v80+1)) zW (⟨(zX.len+1),(iR zX.len zX.get (λ_=>(aJ (iM+v26))))⟩:(Sl Int)) r2.2.2.2.1 JJ JK r2.2.2.2.2.1.1 r2.2.2.2.2.1.2 k)) (FU E n0 iM v24 v25 v78 v79 (aJ (v80+1)) zW zX r2.2.2.2.1 JJ JK r2.2.2.2.2.1.1 r2.2.2.2.2.1.2 k)) (FU E n0 iM v24 v25 v78 v79 (aJ (v80+1)) zW zX zY JJ JK JL JM k):=krY
end
theorem o36 [aH](E:E36)(h96:Ok aB 96 (ae.un E.c96))(h72:Ok aB 72 (ae.unA E.c72))(h97:Ok aB 97 (ae.un E.c97))(h99:Ok aB 99 (ae.un E.c99))(zEV:jc aB 100 (ae.unM E.Dk))(zEF:jc aB 101 (ae.unM E.Bj)):Ok aB 36 (ae.un (F36 E)):=dV ((((((au.nil.addM zEV).addM zEF).addF h96).addF h72).addF h97).addF h99)
def ed:Int→List Bool→List Int|_,[]=>[]|o,true::s=>o::ed (o+1) s|o,false::s=>ed (o+1) s
section
variable{E:E36}(N:Big E.N)(zcd:Zj 42 E.Dk)(zce:Zk 42 E.Bj){B:Sl Int}{M:List Nat}(mb:MB B M){o:Int}(ho : -1<=o/\o<=10000)
include N zcd mb ho in
theorem zKb{i n left used:Nat}{b:Nat}(hi:i<B.len)(e:M.drop i=b::M.drop (i+1))(eb:B.get i=(b:Int))(lb:b<2^40)(hl:left<2^40){W1 W2:Sl Int}(hW:W1.len≤1000){p q:PM}(hp:Ip lst M p.2) :
    ∃p':PM,Ip lst M p'.2∧∀(A:Type)(k:Sl Int×Sl Int×Int→Option A),FU E (n+1) o (left:Int) (used:Int) B (B.len:Int) (i:Int) W1 W2 B p.1 p.2 q.1 q.2 k=cond (b &&& left != 0&&lst (b::M.drop (i+1)) left==1+lst (M.drop (i+1)) (kU left b))
      (Jp E n o ((kU left b:Nat):Int) (used:Int) (i:Int) (b:Int) B (B.len:Int) (i:Int) (mM W1 (o+(i:Int))) W2 B p'.1 p'.2 q.1 q.2 k)
      (Jp E n o (left:Int) (used:Int) (i:Int) (b:Int) B (B.len:Int) (i:Int) W1 W2 B p'.1 p'.2 q.1 q.2 k):=by
  have bl:=mb.le;cases hbl:b &&& left != 0 with
  | false =>
    refine⟨p,hp,λA k=>?_⟩;rw[zmU,dP omY,dF,bf omY,fO,eb,wO (nV lb) (nV hl),Vq,hbl];rfl
  | true =>
    obtain⟨p1,hp1,c1⟩:=zcd B M mb i left p hp omY omY hl;obtain⟨p2,hp2,c2⟩:=zcd B M mb (i+1) (kU left b) p1 hp1 omY omY (zcc hl);have b1:=zey (M.drop (i+1)) (kU left b);refine⟨p2,hp2,λA k=>?_⟩;have eq:(((lst (M.drop i) left:Nat):Int)==aJ (1+((lst (M.drop (i+1)) (kU left b):Nat):Int)))=(lst (b::M.drop (i+1)) left==1+lst (M.drop (i+1)) (kU left b)):=by
      rw[aT omY omY,e,PN,KN,KN];omega
    rw[zmU,dP omY,dF,bf omY,fO,eb,wO (nV lb) (nV hl),Vq,hbl,dF,c1,aX,ul (nV hl) (nV lb),bF omY];show(E.Dk (((i+1:Nat):Int),((kU left b:Nat):Int),⟨p1.1,p1.2⟩,⟨B⟩,{},())).T _=_;rw[c2,aX,eq,aT (x:=o+(i:Int)) omY omY,ja omY omY];rfl
include N zce mb ho in
theorem zKc{i n left used:Nat}{b:Nat}(hi:i<B.len)(e:M.drop i=b::M.drop (i+1))(lb:b<2^40)(hl:used<2^40){W1 W2:Sl Int}(hW:W2.len≤1000){p q:PM}(hq:Ip nU M q.2) :
    ∃q':PM,Ip nU M q'.2∧∀(A:Type)(k:Sl Int×Sl Int×Int→Option A),Jp E n o (left:Int) (used:Int) (i:Int) (b:Int) B (B.len:Int) (i:Int) W1 W2 B p.1 p.2 q.1 q.2 k=cond (b &&& used==0&&nU (b::M.drop (i+1)) used==1+nU (M.drop (i+1)) (used ||| b))
      (FU E n o (left:Int) ((used ||| b:Nat):Int) B (B.len:Int) ((i+1:Nat):Int) W1 (mM W2 (o+(i:Int))) B p.1 p.2 q'.1 q'.2 k)
      (FU E n o (left:Int) (used:Int) B (B.len:Int) ((i+1:Nat):Int) W1 W2 B p.1 p.2 q'.1 q'.2 k):=by
  have bl:=mb.le;cases hbl:b &&& used==0 with
  | false =>
    refine⟨q,hq,λA k=>?_⟩;rw[zw4,wO (nV lb) (nV hl),AU,hbl,bF omY];rfl
  | true =>
    obtain⟨q1,hq1,c1⟩:=zce B M mb i used q hq omY omY hl;obtain⟨q2,hq2,c2⟩:=zce B M mb (i+1) (used ||| b) q1 hq1 omY omY (qdS hl lb);have b1:=zez (M.drop (i+1)) (used ||| b);have b2:(M.drop (i+1)).length<=40:=by rw[VO];have:=mb.len;omega
    refine⟨q2,hq2,λA k=>?_⟩;have eq:(((nU (M.drop i) used:Nat):Int)==aJ (1+((nU (M.drop (i+1)) (used ||| b):Nat):Int)))=(nU (b::M.drop (i+1)) used==1+nU (M.drop (i+1)) (used ||| b)):=by
      rw[aT omY omY,e,PN,KN,KN];omega
    rw[zw4,wO (nV lb) (nV hl),AU,hbl,dF,c1,aX,FQ (nV hl) (nV lb),bF omY];show(E.Bj (((i+1:Nat):Int),((used ||| b:Nat):Int),⟨B⟩,⟨q1.1,q1.2⟩,{},())).T _=_;rw[c2,aX,eq,aT (x:=o+(i:Int)) omY omY,ja omY omY];rfl
include N zcd zce mb ho in
theorem zY8:∀(m i n left used:Nat)(W1 W2:Sl Int)(p q:PM),i+m=B.len->m<n->left<2^40->used<2^40->W1.len<=i->W2.len<=i->Ip lst M p.2->Ip nU M q.2 ->
  ∃a c:Sl Int,(∀(A:Type)(k:Sl Int×Sl Int×Int->Option A),FU E n o (left:Int) (used:Int) B (B.len:Int) (i:Int) W1 W2 B p.1 p.2 q.1 q.2 k=k (a,c,0))/\fB a=fB W1++ed (o+(i:Int)) (V9 (M.drop i) left)/\fB c=fB W2++ed (o+(i:Int)) (We (M.drop i) used)/\a.len<=B.len/\c.len<=B.len:=by
 have bl:=mb.le;intro m
 induction m with
 | zero =>
  intro i n left used W1 W2 p q hi hn hl hu h1 h2 hp hq;obtain⟨n,rfl⟩:∃n',n=n'+1:=⟨n-1,omY⟩;refine⟨W1,W2,λA k=>by rw[zmU,dY omY];rfl,?_,?_,omY,omY⟩;rw[qdB (by have:=mb.len;omega)];exact(qd1 _).symm;rw[qdB (by have:=mb.len;omega)];exact(qd1 _).symm
 | succ m ih =>
  intro i n left used W1 W2 p q hi hn hl hu h1 h2 hp hq;obtain⟨n,rfl⟩:∃n',n=n'+1:=⟨n-1,omY⟩;obtain⟨b,e,eb,lb⟩:=mb.get i omY;obtain⟨p',Qi,s2⟩:=zKb (n:=n) (used:=used) (W2:=W2) (q:=q) N zcd mb ho omY e eb lb hl (show W1.len<=1000 by omega) hp;have oi:o+(i:Int)+1=o+((i+1:Nat):Int):=by omega
  have gd:ed (o+(i:Int)) (V9 (M.drop i) left)=cond (b &&& left != 0&&lst (b::M.drop (i+1)) left==1+lst (M.drop (i+1)) (kU left b)) ((o+(i:Int))::ed (o+((i+1:Nat):Int)) (V9 (M.drop (i+1)) (kU left b))) (ed (o+((i+1:Nat):Int)) (V9 (M.drop (i+1)) left)):=by
   rw[e,<- oi];show ed _ (cond _ _ _)=_;cases b &&& left != 0&&lst (b::M.drop (i+1)) left==1+lst (M.drop (i+1)) (kU left b)<;>rfl
  have gm:ed (o+(i:Int)) (We (M.drop i) used)=cond (b &&& used==0&&nU (b::M.drop (i+1)) used==1+nU (M.drop (i+1)) (used ||| b)) ((o+(i:Int))::ed (o+((i+1:Nat):Int)) (We (M.drop (i+1)) (used ||| b))) (ed (o+((i+1:Nat):Int)) (We (M.drop (i+1)) used)):=by
   rw[e,<- oi];show ed _ (cond _ _ _)=_;cases b &&& used==0&&nU (b::M.drop (i+1)) used==1+nU (M.drop (i+1)) (used ||| b)<;>rfl
  have ap:∀(W:Sl Int)(x:Int),fB (mM W x)=fB W++[x]:=λW x=>BK W x;have fin:∀(Pq:Nat)(V1:Sl Int)(L1:List Int),Pq<2^40->V1.len<=i+1->fB V1++ed (o+((i+1:Nat):Int)) (V9 (M.drop (i+1)) Pq)=L1->∃a c:Sl Int,(∀(A:Type)(k:Sl Int×Sl Int×Int->Option A),Jp E n o (Pq:Int) (used:Int) (i:Int) (b:Int) B (B.len:Int) (i:Int) V1 W2 B p'.1 p'.2 q.1 q.2 k=k (a,c,0))/\fB a=L1/\fB c=fB W2++ed (o+(i:Int)) (We (M.drop i) used)/\a.len<=B.len/\c.len<=B.len:=λPq V1 L1 yK hV hL=>by
   obtain⟨q',hq',s3⟩:=zKc (n:=n) (left:=Pq) (W1:=V1) (p:=p') N zce mb ho omY e lb hu (show W2.len<=1000 by omega) hq;rw[gm];cases hg:b &&& used==0&&nU (b::M.drop (i+1)) used==1+nU (M.drop (i+1)) (used ||| b)with
   | true =>
    rw[hg]at s3;obtain⟨a,c,k1,k2,k3,k4,k5⟩:=ih (i+1) n Pq (used ||| b) V1 (mM W2 (o+(i:Int))) p' q' omY omY yK (qdS hu lb) hV (by show W2.len+1<=i+1;omega) Qi hq';refine⟨a,c,λA k=>(s3 A k).trans (k1 A k),k2.trans hL,?_,k4,k5⟩;rw[k3,ap,qdR];rfl
   | false =>
    rw[hg]at s3;obtain⟨a,c,k1,k2,k3,k4,k5⟩:=ih (i+1) n Pq used V1 W2 p' q' omY omY yK hu hV omY Qi hq';exact⟨a,c,λA k=>(s3 A k).trans (k1 A k),k2.trans hL,k3,k4,k5⟩
  rw[gd];cases hg:b &&& left != 0&&lst (b::M.drop (i+1)) left==1+lst (M.drop (i+1)) (kU left b)with
  | true =>
   rw[hg]at s2;obtain⟨a,c,k1,k2⟩:=fin (kU left b) (mM W1 (o+(i:Int))) _ (zcc hl) (by show W1.len+1<=i+1;omega) rfl;refine⟨a,c,λA k=>(s2 A k).trans (k1 A k),?_,k2.2⟩;rw[k2.1,ap,qdR];rfl
  | false =>
   rw[hg]at s2;obtain⟨a,c,k1,k2⟩:=fin left W1 _ hl omY rfl;exact⟨a,c,λA k=>(s2 A k).trans (k1 A k),k2⟩
end
def lL(L:List af)(x:Int):List Nat:=(L.filter λt=>t.View==x).map λt=>bt t t.Hits.len
theorem zKd{B:Sl Int}{M:List Nat}(h:fB B=M.map Int.ofNat)(hM:∀b∈M,b<2^40)(hl:B.len<=40):MB B M:=by
 have e:M.length=B.len:=by have:=jZ List.length h;rw[fC,VM]at this;omega
 refine⟨e,λi hi=>?_,hl⟩;have jY:i<M.length:=by omega
 refine⟨M[i],qjL jY,?_,hM _ (VP jY)⟩;have:=jZ (λL=>L[i]?) h;simp only[qde,yC jY,Qq]at this;rw[show(fB B)[i]? = some (B.get i)from l7 (w:=B) hi]at this;exact SH this
theorem zKe{E:E36}(N:Big E.N)(h99:Q99 E.c99){T:Sl af}(hT:T.len<=10000)(hs:∀i,i<T.len->Sm (T.get i)){x o:Int}:∀(m i n all:Nat)(W:Sl Int),i+m=T.len->m<n->all<2^40->W.len<=i ->
  ∃(W':Sl Int)(zhs:Nat),(∀(A:Type)(k:Sl Int×Sl Int×Int->Option A),O5 E n x o (all:Int) T (T.len:Int) (i:Int) W k=O5 E 1 x o (zhs:Int) T (T.len:Int) (T.len:Int) W' k)/\fB W'=fB W++(lL ((List.range' i m).map T.get) x).map Int.ofNat/\zhs=all ||| jR (lL ((List.range' i m).map T.get) x):=by
 intro m
 induction m with
 | zero =>
  intro i n all W hi hn ha hW;obtain⟨n,rfl⟩:∃n',n=n'+1:=⟨n-1,omY⟩;refine⟨W,all,λA k=>by rw[show i=T.len by omega,Su,Su (n0:=0),dY omY];rfl,(qd1 _).symm,(Nat.or_zero _).symm⟩
 | succ m ih =>
  intro i n all W hi hn ha hW;obtain⟨n,rfl⟩:∃n',n=n'+1:=⟨n-1,omY⟩;have sm:=hs i omY;have lb:=zeu sm _ (jP _);rw[SG,lM];cases hv:(T.get i).View==x with
  | false =>
   obtain⟨W',zhs,a,b,c⟩:=ih (i+1) n all W omY omY ha omY;have em:lL (T.get i::(List.range' (i+1) m).map T.get) x=lL ((List.range' (i+1) m).map T.get) x:=by unfold lL;rw[qdk,hv];rfl
   rw[em];refine⟨W',zhs,λA k=>?_,b,c⟩;rw[Su,dP omY,dF,bf omY,fO,hv,bF omY];exact a A k
  | true =>
   obtain⟨W',zhs,a,b,c⟩:=ih (i+1) n (all ||| bt (T.get i) (T.get i).Hits.len) (mM W (bt (T.get i) (T.get i).Hits.len:Int)) omY omY (qdS ha lb) (by show W.len+1<=i+1;omega);have em:lL (T.get i::(List.range' (i+1) m).map T.get) x=bt (T.get i) (T.get i).Hits.len::lL ((List.range' (i+1) m).map T.get) x:=by unfold lL;rw[qdk,hv];rfl
   rw[em];refine⟨W',zhs,λA k=>?_,?_,?_⟩;rw [Su,dP omY,dF,bf omY,fO,hv,dF,h99 _ sm,aX,ja omY omY,aX,FQ (nV ha) (nV lb),bF omY];exact a A k;rw[b,show fB (mM W (bt (T.get i) (T.get i).Hits.len:Int))=fB W++[(bt (T.get i) (T.get i).Hits.len:Int)]from BK W _,qdR];rfl;rw[c,Nat.or_assoc];rfl
abbrev Q36(C:ak×bQ×Sl bz×Int->ae (Sl Int×Sl Int×Int)):Prop:=∀s r l x,ug s->l.len<=40 ->
  (Jo s r l (VN x)≠0/\C (s,r,l,x)=.ok (⟨0,λ_=>default⟩,⟨0,λ_=>default⟩,Jo s r l (VN x))) \/
  (Jo s r l (VN x)=0/\∃f,JH s r l f /\
    ((40 < (lL (ls f.bn) x).length ∧ C (s, r, l, x) = .ok (⟨0, fun _ => default⟩, ⟨0, fun _ => default⟩, 8)) ∨
     ((lL (ls f.bn) x).length<=40/\∃a b:Sl Int,C (s,r,l,x)=.ok (a,b,0)/\a.len<=40/\b.len<=40 /\
       fB a=ed (fst (λj=>(f.bn.get j).View==x) f.bn.len 0) (V9 (lL (ls f.bn) x) (jR (lL (ls f.bn) x))) /\
       fB b=ed (fst (λj=>(f.bn.get j).View==x) f.bn.len 0) (We (lL (ls f.bn) x) 0))))
theorem zmV(p:Nat→Bool):∀m i,-1≤fst p m i∧fst p m i≤((i+m:Nat):Int)
  | 0,i=>by show(-1:Int)<=-1/\(-1:Int)<=_;omega
  | m+1,i=>by
    have:=zmV p m (i+1);show -1<=cond (p i) (i:Int) (fst p m (i+1))/\cond (p i) (i:Int) (fst p m (i+1))<=_;cases p i with|true=>rw[dF];omega|false=>rw[dL];omega
theorem s36{E:E36}(N:Big E.N)(h96:QVw E.c96)(h72:zCP E.c72)(h97:Q97 E.c97)(h99:Q99 E.c99)(zcd:Zj 42 E.Dk)(zce:Zk 42 E.Bj):Q36 (F36 E):=λs r l x hs hl=>by
 have hN:=N;have al:(ls (⟨1,λ_=>VN x⟩:Sl Bool)).all id=VN x:=qjT _;have c72:=h72 s r l ⟨1,λ_=>VN x⟩ hs hl (by show 1<=10;omega);rw[al]at c72;rcases c72 with⟨h0,c72⟩|⟨h0,f,c72,F⟩
 refine .inl ⟨h0,ae.ext fun k => ?_⟩;rw[e36,h96,aX,c72,aX,aX];show cond (Jo s r l (VN x) != 0) _ _=_;rw[show(Jo s r l (VN x) != 0)=true by simpa using h0];rfl;refine .inr ⟨h0,f.v,F,?_⟩;obtain⟨r0,_,n1,n2⟩:=zJW h0;obtain⟨he,_,vz⟩:=Iz hs r0;have fl:=F.len n1 n2;have sm:∀i,i<f.v.bn.len->Sm (f.v.bn.get i):=λi hi=>zw2 (F.chs he vz hi);obtain⟨W,all,w1,w2,w3⟩:=zKe (E:=E) N h99 (T:=f.v.bn) omY sm (x:=x) (o:=fst (λj=>(f.v.bn.get j).View==x) f.v.bn.len 0) f.v.bn.len 0 E.N 0 ⟨0,λ_=>0⟩ omY omY (by decide) (Ad _);rw[<- JI,Nat.zero_or]at w3;rw[<- JI]at w2;have w2:fB W=(lL (ls f.v.bn) x).map Int.ofNat:=w2;have wl:W.len=(lL (ls f.v.bn) x).length:=by have:=jZ List.length w2;rw[fC,VM]at this;exact this
 have st:∀(A:Type)(k:Sl Int×Sl Int×Int->Option A),(F36 E (s,r,l,x)).T k=O5 E 1 x (fst (λj=>(f.v.bn.get j).View==x) f.v.bn.len 0) (all:Int) f.v.bn (f.v.bn.len:Int) (f.v.bn.len:Int) W k:=λA k=>by
  rw[e36,h96,aX,c72,aX];show(E.c97 (f.v.bn,.inr ⟨(),⟨x⟩⟩)).T _=_;rw[show E.c97 (f.v.bn,.inr ⟨(),⟨x⟩⟩)=_ from h97.2 f.v.bn ⟨(),⟨x⟩⟩ omY,aX];exact w1 A k
 by_cases h40:40<(lL (ls f.v.bn) x).length;refine .inl ⟨h40,ae.ext fun k => ?_⟩;rw[st,Su,dY omY,dL,dP omY,aX];rfl;refine .inr ⟨omY,?_⟩;have hM:∀b∈lL (ls f.v.bn) x,b<2^40:=λb hb=>by
  obtain⟨t,ht,rfl⟩:=uu.1 hb;obtain⟨i,hi,rfl⟩:=iC.1 (Qp.1 ht).1;exact zeu (sm i hi) _ (jP _)
 have mb:=zKd w2 hM omY;have fi:=zmV (λj=>(f.v.bn.get j).View==x) f.v.bn.len 0;have no:∀g:List Nat->Nat->Nat,Ip g (lL (ls f.v.bn) x) ((0,λ_=>none):PM).2:=λg i left v hv=>by cases hv
 obtain⟨a,c,g1,g2,g3,g4,g5⟩:=zY8 (E:=E) N zcd zce mb (o:=fst (λj=>(f.v.bn.get j).View==x) f.v.bn.len 0) omY W.len 0 E.N all 0 ⟨0,λ_=>0⟩ ⟨0,λ_=>0⟩ (0,λ_=>none) (0,λ_=>none) omY omY (by rw[w3];exact Vr hM) (by decide) (Ad _) (Ad _) (no lst) (no nU);have o0:fst (λj=>(f.v.bn.get j).View==x) f.v.bn.len 0+((0:Nat):Int)=fst (λj=>(f.v.bn.get j).View==x) f.v.bn.len 0:=Int.add_zero _;rw[o0,qj8]at g2 g3;refine⟨a,c,ae.ext λk=>?_,omY,omY,by rw[g2,w3];rfl,by rw[g3];rfl⟩;rw[st,Su,dY omY,dL,dY omY,dL,aX];exact g1 _ k
def ofV(x:Int):List Int→Nat→List Int|[],_=>[]|v::V,i=>cond (v==x) ((i:Int)::ofV x V (i+1)) (ofV x V (i+1))
def fsV(x:Int):List Int→Nat→Int|[],_=>-1|v::V,i=>cond (v==x) (i:Int) (fsV x V (i+1))
def Dp(o:Int):Nat→List Int|0=>[]|n+1=>o::Dp (o+1) n
theorem zmW{x:Int}:∀{V:List Int}{i:Nat},(∀v∈V,v≠x)→ofV x V i=[]
  | [],_,_=>rfl
  | v::V,i,h=>by
    show cond (v==x) _ _=_;rw[show(v==x)=false by simpa using h v kH];exact zmW λu hu=>h u (jM _ hu)
theorem zgA{x:Int}{V:List Int}(h:∀v∈V,v≠x):V.count x=0:=List.count_eq_zero.2 λhx=>h x hx rfl
theorem zmX {x : Int} : ∀ {V : List Int} {i : Nat}, V.Pairwise (· ≤ ·) → (∀ v ∈ V, x ≤ v) → ofV x V i = Dp (i : Int) (V.count x)
  | [],_,_,_=>rfl
  | v::V,i,hp,h=>by
    rw[qdm]at hp;by_cases c:v=x;subst c;rw[dq1];show cond (v==v) _ _=(i:Int)::Dp ((i:Int)+1) _;rw[qdj,dF,zmX (i:=i+1) hp.2 λu hu=>h u (jM _ hu)];rfl;have lt:=h v kH;have no:∀u∈v::V,u≠x:=λu hu=>by
      rcases jV.1 hu with e|hu
      rw[e];exact c;have:=hp.1 u hu;omega
    rw[zmW no,zgA no];rfl
theorem zmY {x : Int} : ∀ {V : List Int} {i : Nat}, V.Pairwise (· ≤ ·) → ofV x V i = Dp (fsV x V i) (V.count x)
  | [],_,_=>rfl
  | v::V,i,hp=>by
    have Qi:=hp;rw[qdm]at hp;by_cases c:v=x;subst c;rw[zmX Qi λu hu=>by
      rcases jV.1 hu with e|hu
      omega;exact hp.1 u hu]
    show _=Dp (cond (v==v) (i:Int) _) _;rw[qdj];rfl;have e:(v==x)=false:=by simpa using c
    show cond (v==x) _ _=Dp (cond (v==x) _ _) _;rw[e,dq3 c];exact zmY hp.2
theorem zmZ {x : Int} (g : Nat → Int) : ∀ m i, ofV x ((List.range' i m).map g) i = ((List.range' i m).filter fun j => g j == x).map Int.ofNat
  | 0,_=>rfl
  | m+1,i=>by
    rw[SG,lM,qdk];show cond (g i==x) _ _=_;cases g i==x with|true=>rw[dF,zmZ g m (i+1)];rfl|false=>rw[dL,zmZ g m (i+1)];rfl
theorem zm0 {x : Int} (g : Nat → Int) : ∀ m i, fsV x ((List.range' i m).map g) i = fst (fun j => g j == x) m i
  | 0,_=>rfl
  | m+1,i=>by
    rw[SG,lM];show cond (g i==x) _ _=cond (g i==x) _ _;rw[zm0 g m (i+1)]
theorem JH.of{s:ak}{r:bQ}{l:Sl bz}{f:found}(F:JH s r l f)(x:Int):OZ f.bn x=Dp (fst (λj=>(f.bn.get j).View==x) f.bn.len 0) (lL (ls f.bn) x).length:=by
 have sr:((ls f.bn).map λt=>t.View).Pairwise (·<=·):=qjr.2 (F.st.imp fun {a b} h=>by
  rcases h with h|h
  omega;omega)
 have e:(ls f.bn).map (λt=>t.View)=(List.range' 0 f.bn.len).map λj=>(f.bn.get j).View:=by rw[JI,qdF];rfl
 have k:=zmY (x:=x) (i:=0) sr;rw[e,zmZ,zm0]at k;rw[<- e]at k;unfold OZ;rw[k];congr 1;unfold lL;rw[VM,<- jqw,List.count_eq_countP,List.countP_map];rfl
structure zCU where
 N:Nat
 znK:(Sl Int)->ae ((Sl (Sl Int)))
abbrev zZa(E:zCU):bI:=gQ (Tabs.nil.addF 102 (ae.un E.znK)) []
def zZb:dG:=bP aB 102 [] {}
def zQu(E:zCU):(Sl Int)->ae ((Sl (Sl Int))):=ae.ty (aF aB E.N (zZa E) zZb 102)
section
variable(E:zCU){A:Type}(k:(Sl (Sl Int))->Option A)
def zm1(E:zCU)(n:Nat)(a0:Sl Int)(v4:Int)(w7:Sl (Sl Int)){A:Type}(k:(Sl (Sl Int))->Option A):Option A:=iK aB (zZa E) E.N zZb 102 [1,1,0,1,0] [.n n] (iJ k) ⟨[(0,eP a0),(3,.cl (.vec 7)),(4,.int v4)],[(7,eV 39 1 24 w7)],[]⟩
def zun(E:zCU)(n0 n:Nat)(a0:Sl Int)(v4:Int)(v5:(Sl (Sl Int)))(v6:Int)(w7:Sl (Sl Int)){A:Type}(k:(Sl (Sl Int))->Option A):Option A:=iK aB (zZa E) E.N zZb 102 [1,1,0,1,0,0,1,0,0,1,1,0] [.n n0,.n n] (iJ k) ⟨[(0,eP a0),(3,.cl (.vec 7)),(4,.int v4),(5,eP v5),(6,.int v6)],[(7,eV 39 1 24 w7)],[]⟩
theorem z8Y(a0:Sl Int):(zQu E (a0)).T k=zm1 E E.N a0 0 (⟨1,(λ_=>(⟨0,(λ_=>0)⟩:(Sl Int)))⟩:(Sl (Sl Int))) k:=dU
theorem zKf(n0:Nat)(a0:Sl Int)(v4:Int)(w7:Sl (Sl Int)):zm1 E (n0+1) a0 v4 w7 k=cond (decide (v4<(a0.len:Int))) (aU (decide ((0:Int)<=(aJ (v4+1))/\((aJ (v4+1)):Int)<=(a0.len:Int)/\(a0.len:Int)<=(a0.len:Int))) ((E.znK (⟨(((a0.len:Int):Int)-(aJ (v4+1))).toNat,(xZ a0.get (aJ (v4+1)).toNat)⟩:(Sl Int))).T λr1=>zun E n0 E.N a0 v4 r1 0 w7 k)) (k w7):=krY
theorem zKg(n0 n1:Nat)(a0:Sl Int)(v4:Int)(v5:(Sl (Sl Int)))(v6:Int)(w7:Sl (Sl Int)):zun E n0 (n1+1) a0 v4 v5 v6 w7 k=cond (decide (v6<(v5.len:Int))) (aU (decide (0<=v4/\v4<(a0.len:Int))) (aU (decide (0<=v6/\v6<(v5.len:Int))) (aU (room (1+(v5.get v6.toNat).len) 8) (aU (room (w7.len+1) 24) (zun E n0 n1 a0 v4 v5 (aJ (v6+1)) (⟨(w7.len+1),(iR w7.len w7.get (λ_=>(⟨(1+(v5.get v6.toNat).len),(iR 1 (λ_=>a0.get v4.toNat) (v5.get v6.toNat).get)⟩:(Sl Int))))⟩:(Sl (Sl Int))) k))))) (zm1 E n0 a0 (aJ (v4+1)) w7 k):=krY
end
theorem z8Z [aH](E:zCU)(zKh:Ok aB 102 (ae.un E.znK)):Ok aB 102 (ae.un (zQu E)):=dV (au.nil.addF zKh)
def subs:List Int→List (List Int)|[]=>[[]]|a::r=>[]::((subs r).map (a :: ·)++(subs r).tail)
theorem zm2:∀L:List Int,(subs L).length=2^L.length
  | []=>rfl
  | a::r=>by
    have h:=zm2 r;have p:0<2^r.length:=Nat.pow_pos (by decide);show([]::((subs r).map (a :: ·)++(subs r).tail)).length=2^(r.length+1);rw[qp,Py,VM,List.length_tail,h,Nat.pow_succ];omega
abbrev zQv(n:Nat)(C:Sl Int->ae (Sl (Sl Int))):Prop:=∀w:Sl Int,w.len<=10->w.len<n->∃o:Sl (Sl Int),C w=.ok o/\(ls o).map fB=subs (fB w)
theorem zQw(w:Sl Int){i:Nat}(hi:i<=w.len):fB ⟨w.len-i,xZ w.get i⟩=(fB w).drop i:=by
 refine qdd λj=>?_;rw[qdl];by_cases h:j<w.len-i;rw[show(fB (⟨w.len-i,xZ w.get i⟩:Sl Int))[j]? = some (w.get (j+i))from l7 (w:=(⟨w.len-i,xZ w.get i⟩:Sl Int)) h,show(fB w)[i+j]? = some (w.get (i+j))from l7 (w:=w) omY,jqn];rw[dq2 (by rw[fC];show w.len-i<=j;omega),dq2 (by rw[fC];omega)]
theorem zKi(a:Int)(v:Sl Int):fB ⟨1+v.len,iR 1 (λ_=>a) v.get⟩=a::fB v:=by
 refine qdd λj=>?_;by_cases h:j<1+v.len
 ·rw [show(fB (⟨1+v.len,iR 1 (fun _=>a) v.get⟩:Sl Int))[j]? = some (iR 1 (fun _=>a) v.get j)from l7 (w:=(⟨1+v.len,iR 1 (fun _=>a) v.get⟩:Sl Int)) h,jA];cases j with
  | zero=>rfl
  | succ j =>
   rw[eU omY,qjF,dqN];exact(l7 (w:=v) omY).symm
 rw[dq2 (by rw[fC];show 1+v.len<=j;omega),dq2 (by rw[qp,fC];omega)]
theorem z81{E:zCU}(N:Big E.N){n:Nat}(hm:zQv n E.znK):zQv (n+1) (zQu E):=λw hw hn=>by
 have hN:=N;have inn:∀(n0 i:Nat),i<w.len->∀(r:Sl (Sl Int)),r.len<=2000->(∀j,j<r.len->(r.get j).len<=100)->∀(m j n1:Nat)(W:Sl (Sl Int)),j+m=r.len->m<n1->W.len<=2000+2000*i+j->∃W':Sl (Sl Int),(∀(A:Type)(k:Sl (Sl Int)->Option A),zun E n0 n1 w (i:Int) r (j:Int) W k=zm1 E n0 w ((i+1:Nat):Int) W' k)/\(ls W').map fB=(ls W).map fB++(((List.range' j m).map r.get).map fB).map (w.get i :: ·)/\W'.len=W.len+m:=by
  intro n0 i hi r hr hr2 m
  induction m with
  | zero =>
   intro j n1 W hj hn1 hW;obtain⟨n1,rfl⟩:∃n',n1=n'+1:=⟨n1-1,omY⟩;exact⟨W,λA k=>by rw[zKg,dY omY,dL,bF omY],(qd1 _).symm,rfl⟩
  | succ m ih =>
   intro j n1 W hj hn1 hW;obtain⟨n1,rfl⟩:∃n',n1=n'+1:=⟨n1-1,omY⟩;have r2:=hr2 j omY;obtain⟨W',a,b,c⟩:=ih (j+1) n1 ⟨W.len+1,iR W.len W.get λ_=>⟨1+(r.get j).len,iR 1 (λ_=>w.get i) (r.get j).get⟩⟩ omY omY (by show W.len+1<=_;omega);refine⟨W',λA k=>?_,?_,?_⟩;rw [zKg,dP omY,dF,bf omY,bf omY,fO,fO,ja omY omY,ja omY omY,bF omY];exact a A k;rw[b,show ls (⟨W.len+1,iR W.len W.get λ_=>⟨1+(r.get j).len,iR 1 (λ_=>w.get i) (r.get j).get⟩⟩:Sl (Sl Int))=ls W++[⟨1+(r.get j).len,iR 1 (λ_=>w.get i) (r.get j).get⟩]from BK W _,Qn,lM,qdY,zKi,SG,lM,lM,lM,qdR];rfl;rw[c];show W.len+1+m=_;omega
 have out:∀(m i n1:Nat)(W:Sl (Sl Int)),i+m=w.len->m<n1->W.len<=2000+2000*i->∃o:Sl (Sl Int),(∀(A:Type)(k:Sl (Sl Int)->Option A),zm1 E n1 w (i:Int) W k=k o)/\(ls o).map fB=(ls W).map fB++(subs ((fB w).drop i)).tail:=by
  intro m
  induction m with
  | zero =>
   intro i n1 W hi hn1 hW;obtain⟨n1,rfl⟩:∃n',n1=n'+1:=⟨n1-1,omY⟩;refine⟨W,λA k=>by rw[zKf,dY omY];rfl,?_⟩;rw[qdB (by rw[fC];omega)];exact(qd1 _).symm
  | succ m ih =>
   intro i n1 W hi hn1 hW;obtain⟨n1,rfl⟩:∃n',n1=n'+1:=⟨n1-1,omY⟩;obtain⟨r,c,hr⟩:=hm ⟨w.len-(i+1),xZ w.get (i+1)⟩ (by show w.len-(i+1)<=10;omega) (by show w.len-(i+1)<n;omega);rw[zQw w omY]at hr;have rl:r.len<=2000:=by
    have:=jZ List.length hr;rw[VM,fP,zm2,VO,fC]at this;have:2^(w.len-(i+1))<=2^10:=qj7 (by decide) omY;omega
   have hs:∀j,j<r.len->(r.get j).len<=100:=λj hj=>by
    have key:∀(L:List Int),∀x∈subs L,x.length<=L.length:=by
     intro L
     induction L with
     | nil=>intro x hx;rw[mf.1 hx];exact jP _
     | cons a q ih =>
      intro x hx;rcases jV.1 hx with e|hx
      rw[e];exact Ad _;rcases dR.1 hx with hx|hx
      obtain⟨y,hy,rfl⟩:=uu.1 hx;have:=ih y hy;rw[qp,qp];omega;have:=ih x (qzc hx);rw[qp];omega
    have:=key _ (fB (r.get j)) (by rw[<- hr];exact uu.2 ⟨r.get j,iC.2 ⟨j,hj,rfl⟩,rfl⟩);rw[fC,VO,fC]at this;omega
   obtain⟨W',a,b,d⟩:=inn n1 i omY r rl hs r.len 0 E.N W omY omY omY;obtain⟨o,a2,b2⟩:=ih (i+1) n1 W' omY omY omY;refine⟨o,λA k=>?_,?_⟩;rw [zKf,dP omY,dF,bF omY,bf omY,fO,show((((w.len:Int):Int)-((i+1:Nat):Int)).toNat)=w.len-(i+1)by omega,c,aX];exact(a A k).trans (a2 A k);have dr:(fB w).drop i=w.get i::(fB w).drop (i+1):=by
    have h:i<(fB w).length:=by rw[fC];omega
    rw[qjL h];congr 1;have:=show(fB w)[i]? = some (w.get i)from l7 (w:=w) omY;rw[yC h]at this;exact SH this
   rw[b2,b,dr,<- dq7,show((List.range r.len).map r.get).map fB=subs ((fB w).drop (i+1))from hr,qdR];rfl
 obtain⟨o,a,b⟩:=out w.len 0 E.N ⟨1,λ_=>⟨0,λ_=>0⟩⟩ omY omY (by show 1<=_;omega);refine⟨o,ae.ext λk=>by rw[z8Y,aX];exact a _ k,?_⟩;rw[b,qj8];have:∀L,subs L=[]::(subs L).tail:=λL=>by cases L<;>rfl
 rw[this (fB w)];rfl
end Go.Proofs
namespace Go.Proofs
open Go Go.Pm
theorem zuo(L:List Int):subs L=[]::(subs L).tail:=by cases L<;>rfl
theorem zKj{a:Int}{r x:List Int}:x∈subs (a::r)↔(∃y∈subs r,x=a::y)\/x∈subs r:=by
 show x∈[]::((subs r).map (a :: ·)++(subs r).tail)↔_;rw[jV,dR,uu];constructor;rintro(e|⟨y,hy,e⟩|h);exact .inr (by rw[zuo r,e];exact kH);exact .inl ⟨y,hy,e.symm⟩;exact .inr (qzc h);rintro(⟨y,hy,e⟩|h);exact .inr (.inl ⟨y,hy,e.symm⟩);rw [zuo r]at h;rcases jV.1 h with e|h
 exact .inl e;exact .inr (.inr h)
theorem Iq:∀(c:Nat)(o:Int)(x:List Int),x∈subs (Dp o c)↔∃s:List Bool,s.length=c∧x=ed o s
  | 0,o,x=>by
    show x∈[[]]↔_;rw[mf];constructor;rintro rfl;exact⟨[],rfl,rfl⟩;rintro⟨s,h,rfl⟩;rw[qjo.1 h];rfl
  | c+1,o,x=>by
    show x∈subs (o::Dp (o+1) c)↔_;rw[zKj];constructor;rintro(⟨y,hy,rfl⟩|h);obtain⟨s,hs,rfl⟩:=(Iq c (o+1) y).1 hy;exact⟨true::s,by rw[qp,hs],rfl⟩;obtain⟨s,hs,rfl⟩:=(Iq c (o+1) x).1 h;exact⟨false::s,by rw[qp,hs],rfl⟩
    · rintro⟨s,hs,rfl⟩;cases s with
      | nil=>cases hs
      | cons d s =>
        have pM:s.length=c:=by rw[qp]at hs;omega
        cases d with|true=>exact .inl ⟨_,(Iq c (o+1) _).2 ⟨s,pM,rfl⟩,rfl⟩|false=>exact .inr ((Iq c (o+1) _).2 ⟨s,pM,rfl⟩)
theorem sU:∀{s:List Bool}{o:Int},(ed o s).length=s.count true|[],_=>rfl|true::s,o=>by rw[dq1];show(ed (o+1) s).length+1=_;rw[sU (s:=s)]|false::s,o=>by rw[dq3 (by decide)];exact sU (s:=s) (o:=o+1)
theorem IB:∀{s:List Bool}{o x:Int},x∈ed o s→o≤x
  | true::s,o,x,h=>by
    rcases jV.1 h with e|h
    omega;have:=IB h;omega
  | false::s,o,x,h=>by have:=IB (s:=s) (o:=o+1) h;omega
theorem Jq:∀{s t:List Bool}{o:Int},s.length=t.length→s.count true=t.count true→(lexB s t↔cmpL (ed o s) (ed o t)≤0)
  | [],[],o,_,_=>by
    show True↔cmpL [] []<=0;rw[lZ.2 rfl];simp
  | true::s,true::t,o,hl,hc=>by
    have ih:=Jq (s:=s) (t:=t) (o:=o+1) (by rw[qp,qp]at hl;omega) (by rw[dq1,dq1]at hc;omega);show lexB s t↔cmpL (o::ed (o+1) s) (o::ed (o+1) t)<=0;rw[ih];have e:cmpL (o::ed (o+1) s) (o::ed (o+1) t)=cmpL (ed (o+1) s) (ed (o+1) t):=by
      have a:=pG (x:=o::ed (o+1) s) (y:=o::ed (o+1) t);have b:=lZ (x:=o::ed (o+1) s) (y:=o::ed (o+1) t);have c:=lZ (x:=ed (o+1) s) (y:=ed (o+1) t);have d:=zb3 (o::ed (o+1) s) (o::ed (o+1) t);have d':=zb3 (ed (o+1) s) (ed (o+1) t);have lt:cmpL (o::ed (o+1) s) (o::ed (o+1) t)<0↔cmpL (ed (o+1) s) (ed (o+1) t)<0:=by
        rw[a];constructor;rintro(⟨_,_,h,_⟩|⟨p,x,q,y,e1,e2,h⟩);cases h;cases e1;cases e2;rcases h with h|⟨_,h⟩
        omega;exact h;intro h;exact .inr ⟨o,_,o,_,rfl,rfl,.inr ⟨rfl,h⟩⟩
      have eq:cmpL (o::ed (o+1) s) (o::ed (o+1) t)=0↔cmpL (ed (o+1) s) (ed (o+1) t)=0:=by
        rw[b,c];simp
      omega
    rw[e]
  | false::s,false::t,o,hl,hc=>by
    exact Jq (s:=s) (t:=t) (o:=o+1) (by rw[qp,qp]at hl;omega) (by rw[dq3 (by decide),dq3 (by decide)]at hc;exact hc)
  | true::s,false::t,o,hl,hc=>by
    show True↔cmpL (o::ed (o+1) s) (ed (o+1) t)<=0;refine⟨λ_=>?_,λ_=>trivial⟩;cases h:ed (o+1) t with
    | nil =>
      exfalso;have:=sU (s:=t) (o:=o+1);rw[h]at this;rw[dq1,dq3 (by decide),<- this]at hc;cases hc
    | cons y z =>
      have:=IB (s:=t) (o:=o+1) (x:=y) (by rw[h];exact kH);exact xY (pG.2 (.inr ⟨o,_,y,z,rfl,rfl,.inl omY⟩))
  | false::s,true::t,o,hl,hc=>by
    show False↔cmpL (ed (o+1) s) (o::ed (o+1) t)<=0;refine⟨λh=>h.elim,λhle=>?_⟩;cases h:ed (o+1) s with
    | nil =>
      have:=sU (s:=s) (o:=o+1);rw[h]at this;rw[dq1,dq3 (by decide),<- this]at hc;cases hc
    | cons y z =>
      have ge:=IB (s:=s) (o:=o+1) (x:=y) (by rw[h];exact kH);rw[h]at hle;have n0:cmpL (y::z) (o::ed (o+1) t)≠0:=λe=>by
        have:=lZ.1 e;rw[Du]at this;omega
      rcases pG.1 (show cmpL (y::z) (o::ed (o+1) t)<0 by omega)with⟨_,_,e,_⟩|⟨p,x,q,w,e1,e2,h⟩
      cases e;cases e1;cases e2;rcases h with h|⟨h,_⟩<;>omega
  | [],_::_,_,hl,_=>by cases hl
  | _::_,[],_,hl,_=>by cases hl
end Go.Proofs
namespace Go.Proofs
open Go Go.Pm
set_option maxRecDepth 100000
structure E40 where
 N:Nat
 VE:(Sl af)×Int->ae ((Sl Int))
 c48:(Sl Int)×Int->ae Bool
abbrev G40(E:E40):bI:=gQ ((Tabs.nil.addF 35 (ae.un E.VE)).addF 48 (ae.un E.c48)) []
def A40:dG:=bP aB 40 [] {}
def F40(E:E40):(Sl af)×Int×(Sl Int)->ae Bool:=ae.ty (aF aB E.N (G40 E) A40 40)
section
variable(E:E40){A:Type}(k:Bool->Option A)
def Zl(E:E40)(n:Nat)(a0:Sl af)(a2 v7:Sl Int)(v8:Int){A:Type}(k:Bool->Option A):Option A:=iK aB (G40 E) E.N A40 40 [1,1,0,1,0] [.n n] (iJ k) ⟨[(0,eP a0),(2,eP a2),(7,eP v7),(8,.int v8)],[],[]⟩
def Zm(E:E40)(n0 n:Nat)(a0:Sl af)(a2 v7:Sl Int)(v8 v9:Int){A:Type}(k:Bool->Option A):Option A:=iK aB (G40 E) E.N A40 40 [1,1,0,1,0,0,1,0,0,1,0] [.n n0,.n n] (iJ k) ⟨[(0,eP a0),(2,eP a2),(7,eP v7),(8,.int v8),(9,.int v9)],[],[]⟩
def Zn(E:E40)(n0 n1 n:Nat)(a0:Sl af)(a2 v7:Sl Int)(v8 v9:Int)(v10:Bool)(v11:Int){A:Type}(k:Bool->Option A):Option A:=iK aB (G40 E) E.N A40 40 [1,1,0,1,0,0,1,0,0,1,0,0,1,0,0,1,0,1,0] [.n n0,.n n1,.n n] (iJ k) ⟨[(0,eP a0),(2,eP a2),(7,eP v7),(8,.int v8),(9,.int v9),(10,.bool v10),(11,.int v11)],[],[]⟩
theorem e40(a0:Sl af)(a1:Int)(a2:Sl Int):(F40 E (a0,a1,a2)).T k=(E.VE (a0,a1)).T λr1=>Zl E E.N a0 a2 r1 0 k:=dU
theorem zw6(n0:Nat)(a0:Sl af)(a2 v7:Sl Int)(v8:Int):Zl E (n0+1) a0 a2 v7 v8 k=cond (decide (v8<(v7.len:Int))) (Zm E n0 E.N a0 a2 v7 v8 0 k) (k true):=krY
theorem zw7(n0 n1:Nat)(a0:Sl af)(a2 v7:Sl Int)(v8 v9:Int):Zm E n0 (n1+1) a0 a2 v7 v8 v9 k=aU (decide (0<=v8/\v8<(v7.len:Int))) (aU (decide (0<=v7.get v8.toNat/\v7.get v8.toNat<(a0.len:Int))) (cond (decide (v9<((a0.get (v7.get v8.toNat).toNat).Hits.len:Int))) (Zn E n0 n1 E.N a0 a2 v7 v8 v9 false 0 k) (Zl E n0 a0 a2 v7 (aJ (v8+1)) k))):=krY
theorem zw8(n0 n1 n2:Nat)(a0:Sl af)(a2 v7:Sl Int)(v8 v9:Int)(v10:Bool)(v11:Int):Zn E n0 n1 (n2+1) a0 a2 v7 v8 v9 v10 v11 k=cond (decide (v11<(a2.len:Int))) (cond v10 (Zn E n0 n1 n2 a0 a2 v7 v8 v9 true (aJ (v11+1)) k) (aU (decide (0<=v11/\v11<(a2.len:Int))) (aU (decide (0<=a2.get v11.toNat/\a2.get v11.toNat<(a0.len:Int))) (aU (decide (0<=v8/\v8<(v7.len:Int))) (aU (decide (0<=v7.get v8.toNat/\v7.get v8.toNat<(a0.len:Int))) (aU (decide (0<=v9/\v9<((a0.get (v7.get v8.toNat).toNat).Hits.len:Int))) ((E.c48 ((a0.get (a2.get v11.toNat).toNat).Hits,(a0.get (v7.get v8.toNat).toNat).Hits.get v9.toNat)).T λr1=>Zn E n0 n1 n2 a0 a2 v7 v8 v9 r1 (aJ (v11+1)) k))))))) (cond (!v10) (k false) (Zm E n0 n1 a0 a2 v7 v8 (aJ (v9+1)) k)):=krY
end
theorem o40 [aH](E:E40)(h35:Ok aB 35 (ae.un E.VE))(h48:Ok aB 48 (ae.un E.c48)):Ok aB 40 (ae.un (F40 E)):=dV ((au.nil.addF h35).addF h48)
structure E41 where
 N:Nat
 c48:(Sl Int)×Int->ae Bool
abbrev G41(E:E41):bI:=gQ (Tabs.nil.addF 48 (ae.un E.c48)) []
def A41:dG:=bP aB 41 [] {}
def F41(E:E41):(Sl af)×(Sl Int)->ae Bool:=ae.ty (aF aB E.N (G41 E) A41 41)
section
variable(E:E41){A:Type}(k:Bool->Option A)
def Zo(E:E41)(n:Nat)(a0:Sl af)(a1:Sl Int)(v5:Int){A:Type}(k:Bool->Option A):Option A:=iK aB (G41 E) E.N A41 41 [1,0,1,0] [.n n] (iJ k) ⟨[(0,eP a0),(1,eP a1),(5,.int v5)],[],[]⟩
def Zp(E:E41)(n0 n:Nat)(a0:Sl af)(a1:Sl Int)(v5 v6:Int){A:Type}(k:Bool->Option A):Option A:=iK aB (G41 E) E.N A41 41 [1,0,1,0,0,1,0,0,1,0] [.n n0,.n n] (iJ k) ⟨[(0,eP a0),(1,eP a1),(5,.int v5),(6,.int v6)],[],[]⟩
def zeA(E:E41)(n0 n1 n:Nat)(a0:Sl af)(a1:Sl Int)(v5 v6 v7:Int){A:Type}(k:Bool->Option A):Option A:=iK aB (G41 E) E.N A41 41 [1,0,1,0,0,1,0,0,1,0,0,1,0,0,1,0] [.n n0,.n n1,.n n] (iJ k) ⟨[(0,eP a0),(1,eP a1),(5,.int v5),(6,.int v6),(7,.int v7)],[],[]⟩
theorem e41(a0:Sl af)(a1:Sl Int):(F41 E (a0,a1)).T k=Zo E E.N a0 a1 0 k:=dU
theorem zxa(n0:Nat)(a0:Sl af)(a1:Sl Int)(v5:Int):Zo E (n0+1) a0 a1 v5 k=cond (decide (v5<(a1.len:Int))) (Zp E n0 E.N a0 a1 v5 0 k) (k true):=krY
theorem zxb(n0 n1:Nat)(a0:Sl af)(a1:Sl Int)(v5 v6:Int):Zp E n0 (n1+1) a0 a1 v5 v6 k=cond (decide (v6<v5)) (zeA E n0 n1 E.N a0 a1 v5 v6 0 k) (Zo E n0 a0 a1 (aJ (v5+1)) k):=krY
theorem zxc(n0 n1 n2:Nat)(a0:Sl af)(a1:Sl Int)(v5 v6 v7:Int):zeA E n0 n1 (n2+1) a0 a1 v5 v6 v7 k=aU (decide (0<=v5/\v5<(a1.len:Int))) (aU (decide (0<=a1.get v5.toNat/\a1.get v5.toNat<(a0.len:Int))) (cond (decide (v7<((a0.get (a1.get v5.toNat).toNat).Hits.len:Int))) (aU (decide (0<=v6/\v6<(a1.len:Int))) (aU (decide (0<=a1.get v6.toNat/\a1.get v6.toNat<(a0.len:Int))) (aU (decide (0<=v5/\v5<(a1.len:Int))) (aU (decide (0<=a1.get v5.toNat/\a1.get v5.toNat<(a0.len:Int))) (aU (decide (0<=v7/\v7<((a0.get (a1.get v5.toNat).toNat).Hits.len:Int))) ((E.c48 ((a0.get (a1.get v6.toNat).toNat).Hits,(a0.get (a1.get v5.toNat).toNat).Hits.get v7.toNat)).T λr1=>cond r1 (k false) (zeA E n0 n1 n2 a0 a1 v5 v6 (aJ (v7+1)) k))))))) (Zp E n0 n1 a0 a1 v5 (aJ (v6+1)) k))):=krY
end
theorem o41 [aH](E:E41)(h48:Ok aB 48 (ae.un E.c48)):Ok aB 41 (ae.un (F41 E)):=dV (au.nil.addF h48)
def inS(T:Sl af)(S:List Int)(h:Int):Bool:=S.any λj=>hasB (T.get j.toNat).Hits h
def Ir(T:Sl af)(V S:List Int):Bool:=V.all λi=>dX (λk=>inS T S ((T.get i.toNat).Hits.get k)) (T.get i.toNat).Hits.len
theorem zup{w:Sl Int}{p:Int->Bool}:(fB w).all p=dX (λi=>p (w.get i)) w.len:=by
 rw[PN,yL,cZ];exact⟨λh i hi=>h _ (iC.2 ⟨i,hi,rfl⟩),λh x hx=>by obtain⟨i,hi,rfl⟩:=iC.1 hx;exact h i hi⟩
abbrev Q40(C:Sl af×Int×Sl Int->ae Bool):Prop:=∀(T:Sl af) x (S:Sl Int),T.len<=10000->(∀i,i<T.len->(T.get i).Hits.len<=100)->S.len<=10000->(∀j,j<S.len->0<=S.get j/\S.get j<(T.len:Int))->C (T,x,S)=.ok (Ir T (OZ T x) (fB S))
theorem s40{E:E40}(N:Big E.N)(h35:Q35 E.VE)(h48:Q48 E.c48):Q40 (F40 E):=λT x S hT hH hS V4=>ae.ext λK=>by
 have hN:=N;obtain⟨V,VE,hV,vl⟩:=h35 T x hT;have vin:∀i,i<V.len->0<=V.get i/\V.get i<(T.len:Int):=λi hi=>by
  have:V.get i∈OZ T x:=by rw[<- hV];exact iC.2 ⟨i,hi,rfl⟩
  unfold OZ at this;obtain⟨j,hj,e⟩:=uu.1 this;have:=qjS.1 (Qp.1 hj).1;rw[<- e];show 0<=(j:Int)/\(j:Int)<_;omega
 have in3:∀(n n1 i k:Nat),i<V.len->k<(T.get (V.get i).toNat).Hits.len->∀(m j n2:Nat)(b:Bool),j+m=S.len->m<n2->Zn E n n1 n2 T S V (i:Int) (k:Int) b (j:Int) K=cond (b||((List.range' j m).map S.get).any λj=>hasB (T.get j.toNat).Hits ((T.get (V.get i).toNat).Hits.get k)) (Zm E n n1 T S V (i:Int) (aJ ((k:Int)+1)) K) (K false):=by
  intro n n1 i k hi hk m
  induction m with
  | zero =>
   intro j n2 b hj hn;obtain⟨n2,rfl⟩:∃n',n2=n'+1:=⟨n2-1,omY⟩;rw[zw8,dY omY];cases b<;>rfl
  | succ m ih =>
   intro j n2 b hj hn;obtain⟨n2,rfl⟩:∃n',n2=n'+1:=⟨n2-1,omY⟩;have s1:=V4 j omY;have v1:=vin i hi;have l1:=hH (S.get j).toNat omY;rw[zw8,dP omY,dF,SG,lM,jqR];cases b with
   | true=>rw[dF,bF omY,ih (j+1) n2 true omY omY];rfl
   | false =>
    rw[dL,bf omY,fO,bf omY,bf omY,fO,bf omY,bf omY,fO,h48 _ _ omY,aX,bF omY,ih (j+1) n2 _ omY omY,qjB]
 rw[e40,VE,aX,aX];unfold Ir;rw[<- hV,zup];refine(loopA (L:=λn i=>Zl E n T S V i K) (p:=λi=>dX (λk=>inS T (fB S) ((T.get (V.get i).toNat).Hits.get k)) (T.get (V.get i).toNat).Hits.len) (m:=V.len) (fin:=K true) (stop:=K false) omY (λn i hi=>?_) (λn=>?_) E.N omY).trans ?_;have v1:=vin i hi;have l1:=hH (V.get i).toNat omY;rw[zw6,dP omY,dF];refine loopA (L:=λn1 k=>Zm E n n1 T S V (i:Int) k K) (p:=λk=>inS T (fB S) ((T.get (V.get i).toNat).Hits.get k)) (m:=(T.get (V.get i).toNat).Hits.len) (fin:=Zl E n T S V (aJ ((i:Int)+1)) K) (stop:=K false) omY (λn1 k hk=>?_) (λn1=>?_) E.N omY;rw [zw7,bf omY,fO,bf omY,dP omY,dF];refine(in3 n n1 i k hi hk S.len 0 E.N false omY omY).trans ?_;rw[qjB,<- dq7];rfl;rw[zw7,bf omY,fO,bf omY,dY omY];rfl;rw[zw6,dY omY];rfl;cases dX (λi=>dX (λk=>inS T (fB S) ((T.get (V.get i).toNat).Hits.get k)) (T.get (V.get i).toNat).Hits.len) V.len<;>rfl
def Sv(T:Sl af)(S:Sl Int):Bool:=dX (λi=>dX (λk=>dX (λj=>!hasB (T.get (S.get k).toNat).Hits ((T.get (S.get i).toNat).Hits.get j)) (T.get (S.get i).toNat).Hits.len) i) S.len
abbrev Q41(C:Sl af×Sl Int->ae Bool):Prop:=∀(T:Sl af)(S:Sl Int),T.len<=10000->(∀i,i<T.len->(T.get i).Hits.len<=100)->S.len<=10000->(∀j,j<S.len->0<=S.get j/\S.get j<(T.len:Int))->C (T,S)=.ok (Sv T S)
theorem s41{E:E41}(N:Big E.N)(h48:Q48 E.c48):Q41 (F41 E):=λT S hT hH hS V4=>ae.ext λK=>by
 have hN:=N;rw[e41,aX];unfold Sv;refine(loopA (L:=λn i=>Zo E n T S i K) (p:=λi=>dX (λk=>dX (λj=>!hasB (T.get (S.get k).toNat).Hits ((T.get (S.get i).toNat).Hits.get j)) (T.get (S.get i).toNat).Hits.len) i) (m:=S.len) (fin:=K true) (stop:=K false) omY (λn i hi=>?_) (λn=>?_) E.N omY).trans ?_;have s1:=V4 i hi;have l1:=hH (S.get i).toNat omY;rw[zxa,dP omY,dF];refine loopA (L:=λn1 k=>Zp E n n1 T S (i:Int) k K) (p:=λk=>dX (λj=>!hasB (T.get (S.get k).toNat).Hits ((T.get (S.get i).toNat).Hits.get j)) (T.get (S.get i).toNat).Hits.len) (m:=i) (fin:=Zo E n T S (aJ ((i:Int)+1)) K) (stop:=K false) omY (λn1 k hk=>?_) (λn1=>?_) E.N omY;have s2:=V4 k omY;have l2:=hH (S.get k).toNat omY;rw[zxb,dP omY,dF];refine loopA (L:=λn2 j=>zeA E n n1 n2 T S (i:Int) (k:Int) j K) (p:=λj=>!hasB (T.get (S.get k).toNat).Hits ((T.get (S.get i).toNat).Hits.get j)) (m:=(T.get (S.get i).toNat).Hits.len) (fin:=Zp E n n1 T S (i:Int) (aJ ((k:Int)+1)) K) (stop:=K false) omY (λn2 j hj=>?_) (λn2=>?_) E.N omY;rw [zxc,bf omY,fO,bf omY,dP omY,dF,bf omY,fO,bf omY,bf omY,bf omY,bf omY,fO,h48 _ _ omY,aX];cases hasB (T.get (S.get k).toNat).Hits ((T.get (S.get i).toNat).Hits.get j)<;>rfl;rw[zxc,bf omY,fO,bf omY,dY omY];rfl;rw[zxb,dY omY];rfl;rw[zxa,dY omY];rfl;cases dX (λi=>dX (λk=>dX (λj=>!hasB (T.get (S.get k).toNat).Hits ((T.get (S.get i).toNat).Hits.get j)) (T.get (S.get i).toNat).Hits.len) i) S.len<;>rfl
theorem O6{bq:Int→Nat}:∀{c:Nat}{o:Int}{s:List Bool}{left:Nat},s.length=c→(Zg ((Dp o c).map bq) s left↔∀k,left.testBit k=true→∃j∈ed o s,(bq j).testBit k=true)
  | 0,o,[],left,_=>by
    show left=0↔_;rw[sS];constructor;intro h k hk;rw[h k]at hk;cases hk
    · intro h k;cases e:left.testBit k with
      | false=>rfl
      | true=>obtain⟨j,hj,_⟩:=h k e;cases hj
  | c+1,o,true::s,left,hl=>by
    have ih:=O6 (bq:=bq) (c:=c) (o:=o+1) (s:=s) (left:=kU left (bq o)) (by rw[qp]at hl;omega);show Zg ((Dp (o+1) c).map bq) s (kU left (bq o))↔∀k,left.testBit k=true->∃j∈o::ed (o+1) s,(bq j).testBit k=true;rw[ih];constructor
    · intro h k hk;cases e:(bq o).testBit k with
      | true=>exact⟨o,kH,e⟩
      | false =>
        obtain⟨j,hj,hb⟩:=h k (by rw[pK,hk,e];rfl);exact⟨j,jM _ hj,hb⟩
    intro h k hk;rw[pK,fQ]at hk;obtain⟨j,hj,hb⟩:=h k hk.1;rcases jV.1 hj with e|hj
    rw[<- e,hb]at hk;cases hk.2;exact⟨j,hj,hb⟩
  | c+1,o,false::s,left,hl=>O6 (bq:=bq) (c:=c) (o:=o+1) (s:=s) (left:=left) (by rw[qp]at hl;omega)
  | 0,_,_::_,_,h=>by cases h
  | _+1,_,[],_,h=>by cases h
theorem O7 {bq : Int → Nat} : ∀ {c : Nat} {o : Int} {s : List Bool} {used : Nat}, s.length = c → (apt ((Dp o c).map bq) s used ↔ (∀ j ∈ ed o s, bq j &&& used = 0) ∧ (ed o s).Pairwise fun a b => bq b &&& bq a = 0)
  | 0,o,[],used,_=>by
    show True↔_;exact⟨λ_=>⟨λj hj=>(by cases hj),List.Pairwise.nil⟩,λ_=>trivial⟩
  | c+1,o,true::s,used,hl=>by
    have ih:=O7 (bq:=bq) (c:=c) (o:=o+1) (s:=s) (used:=used ||| bq o) (by rw[qp]at hl;omega);show bq o &&& used=0/\apt ((Dp (o+1) c).map bq) s (used ||| bq o)↔(∀j∈o::ed (o+1) s,bq j &&& used=0)/\(o::ed (o+1) s).Pairwise _;rw[ih,qdm];have orz:∀a:Nat,a &&& (used ||| bq o)=0↔a &&& used=0/\a &&& bq o=0:=λa=>by
      have tb:∀k,(a &&& (used ||| bq o)).testBit k=((a &&& used).testBit k||(a &&& bq o).testBit k):=λk=>by
        rw[qd3,qd6,qd3,qd3];cases a.testBit k<;>rfl
      constructor;intro h;have h:=sS.1 h;refine⟨sS.2 λk=>?_,sS.2 λk=>?_⟩;have:=h k;rw[tb,qdI]at this;exact this.1;have:=h k;rw[tb,qdI]at this;exact this.2;rintro⟨h1,h2⟩;exact sS.2 λk=>by rw[tb,sS.1 h1 k,sS.1 h2 k];rfl
    constructor;rintro⟨h1,h2,h3⟩;refine⟨λj hj=>?_,λj hj=>((orz _).1 (h2 j hj)).2,h3⟩;rcases jV.1 hj with e|hj
    rw[e];exact h1;exact((orz _).1 (h2 j hj)).1;rintro⟨h1,h2,h3⟩;exact⟨h1 o kH,λj hj=>(orz _).2 ⟨h1 j (jM _ hj),h2 j hj⟩,h3⟩
  | c+1,o,false::s,used,hl=>O7 (bq:=bq) (c:=c) (o:=o+1) (s:=s) (used:=used) (by rw[qp]at hl;omega)
  | 0,_,_::_,_,h=>by cases h
  | _+1,_,[],_,h=>by cases h
def bq(T:Sl af)(j:Int):Nat:=bt (T.get j.toNat) (T.get j.toNat).Hits.len
theorem Vs{T:Sl af}{j:Int}(h:Sm (T.get j.toNat))(k:Nat):(bq T j).testBit k=true↔∃q,q<(T.get j.toNat).Hits.len/\(T.get j.toNat).Hits.get q=(k:Int):=zb8 h k _ (jP _)
theorem Vt{T:Sl af}{j:Int}(h:Sm (T.get j.toNat))(k:Nat):(bq T j).testBit k=hasB (T.get j.toNat).Hits (k:Int):=zCQ h k
theorem zZ:∀{s:List Bool}{o x:Int},x∈ed o s→x∈Dp o s.length
  | true::s,o,x,h=>by
    show x∈o::Dp (o+1) s.length;rcases jV.1 h with e|h
    rw[e];exact kH;exact jM _ (zZ h)
  | false::s,o,x,h=>jM _ (zZ (s:=s) (o:=o+1) h)
theorem zuq{T:Sl af}{o:Int}{c:Nat}{s:List Bool}(hs:∀j∈Dp o c,Sm (T.get j.toNat))(hl:s.length=c):Ir T (Dp o c) (ed o s)=true↔Zg ((Dp o c).map (bq T)) s (jR ((Dp o c).map (bq T))):=by
 have hp:∀j∈ed o s,Sm (T.get j.toNat):=λj hj=>hs j (by rw[<- hl];exact zZ hj);rw[O6 hl];unfold Ir;rw[yL];constructor;intro h k hk;rw[O0,qdX]at hk;obtain⟨b,hb,hk⟩:=hk;obtain⟨i,hi,rfl⟩:=uu.1 hb;obtain⟨q,hq,e⟩:=(Vs (hs _ hi) k).1 hk;have:=cZ.1 (h i hi) q hq;rw[e]at this;unfold inS at this;obtain⟨j,hj,hh⟩:=qdX.1 this;exact⟨j,hj,by rw[Vt (hp _ hj)];exact hh⟩;intro h i hi;refine cZ.2 λq hq=>?_;obtain⟨h1,h2⟩:=(hs i hi).2 q hq;have e:(T.get i.toNat).Hits.get q=((((T.get i.toNat).Hits.get q).toNat:Nat):Int):=by omega
 obtain⟨j,hj,hb⟩:=h ((T.get i.toNat).Hits.get q).toNat (by
  rw[O0,qdX];exact⟨_,uu.2 ⟨i,hi,rfl⟩,(Vs (hs _ hi) _).2 ⟨q,hq,e⟩⟩)
 unfold inS;rw[qdX];rw[Vt (hp _ hj)]at hb;exact⟨j,hj,by rw[e];exact hb⟩
theorem zm3{T:Sl af}{a b:Int}(ha:Sm (T.get a.toNat))(hb:Sm (T.get b.toNat)):dX (λj=>!hasB (T.get a.toNat).Hits ((T.get b.toNat).Hits.get j)) (T.get b.toNat).Hits.len=true↔bq T b &&& bq T a=0:=by
 rw[cZ,sS];constructor
 ·intro h k;rw[qd3];cases e:(bq T b).testBit k with
  | false=>rfl
  | true =>
   obtain⟨q,hq,eq⟩:=(Vs hb k).1 e;have:=h q hq;rw[eq,JS]at this;rw[Vt ha,this];rfl
 intro h q hq;obtain⟨h1,h2⟩:=hb.2 q hq;have e:(T.get b.toNat).Hits.get q=((((T.get b.toNat).Hits.get q).toNat:Nat):Int):=by omega
 have:=h ((T.get b.toNat).Hits.get q).toNat;rw[qd3,(Vs hb _).2 ⟨q,hq,e⟩,Jv,Vt ha]at this;rw[e,this];rfl
theorem zur{T:Sl af}{o:Int}{c:Nat}{s:List Bool}(hs:∀j∈Dp o c,Sm (T.get j.toNat))(hl:s.length=c){S:Sl Int}(hS:fB S=ed o s):Sv T S=true↔apt ((Dp o c).map (bq T)) s 0:=by
 have hp:∀i,i<S.len->Sm (T.get (S.get i).toNat):=λi hi=>hs _ (by rw[<- hl];exact zZ (by rw[<- hS];exact iC.2 ⟨i,hi,rfl⟩));rw[O7 hl,<- hS];have z:(∀j∈fB S,bq T j &&& 0=0):=λj _=>Nat.and_zero _;unfold Sv;rw[cZ];constructor;intro h;refine⟨z,dq9.2 λi j hi hj Ju=>?_⟩;rw[fC]at hi hj;have a:=(zm3 (hp i hi) (hp j hj)).1 (cZ.1 (h j hj) i Ju);have ei:(fB S)[i]? = some (S.get i):=l7 (w:=S) hi;have ej:(fB S)[j]? = some (S.get j):=l7 (w:=S) hj;rw[yC (by rw[fC];exact hi),bM]at ei;rw[yC (by rw[fC];exact hj),bM]at ej;rw[ei,ej];exact a;rintro⟨_,h⟩ j hj;refine cZ.2 λi Ju=>?_;have hi:i<S.len:=by omega
 refine(zm3 (hp i hi) (hp j hj)).2 ?_;have a:=dq9.1 h i j (by rw[fC];exact hi) (by rw[fC];exact hj) Ju;have ei:(fB S)[i]? = some (S.get i):=l7 (w:=S) hi;have ej:(fB S)[j]? = some (S.get j):=l7 (w:=S) hj;rw[yC (by rw[fC];exact hi),bM]at ei;rw[yC (by rw[fC];exact hj),bM]at ej;rw[ei,ej]at a;exact a
theorem zm4{α:Type}[bD α][tZ α](v:Sl α)(a:Nat)(h:a<=v.len)(x:α):ls (⟨(((a:Int)-0).toNat+1)+((v.len:Int)-(a:Int)).toNat,iR (((a:Int)-0).toNat+1) (iR ((a:Int)-0).toNat (xZ v.get 0) (λ_=>x)) (xZ v.get (a:Int).toNat)⟩:Sl α)=(ls v).take a++x::(ls v).drop a:=by
 have e1:((a:Int)-0).toNat=a:=by omega
 have e2:((v.len:Int)-(a:Int)).toNat=v.len-a:=by omega
 rw[e1,e2,fO];refine(Ik (⟨a+1,iR a (xZ v.get 0) λ_=>x⟩:Sl α) (⟨v.len-a,xZ v.get a⟩:Sl α)).trans ?_;rw[show(⟨a+1,iR a (xZ v.get 0) λ_=>x⟩:Sl α)=mM ⟨a,xZ v.get 0⟩ x from rfl,BK,qdR];have t:ls (⟨a,xZ v.get 0⟩:Sl α)=(ls v).take a:=by
  refine jqv (by rw[fP,qdC,fP];show a=_;omega) λi h1 h2=>?_;simp[ls,xZ]
 have d:ls (⟨v.len-a,xZ v.get a⟩:Sl α)=(ls v).drop a:=by
  refine jqv (by rw[fP,VO,fP]) λi h1 h2=>?_;simp[ls,xZ,jqn]
 rw[t,d];rfl
theorem zus{α:Type}{L:List α}{a:Nat}{x y:α}:y∈L.take a++x::L.drop a↔y=x\/y∈L:=by
 rw[dR,jV];have q:y∈L↔y∈L.take a\/y∈L.drop a:=by rw[<- dR,qjt]
 rw[q];constructor;rintro(h|h|h);exact .inr (.inl h);exact .inl h;exact .inr (.inr h);rintro(h|h|h);exact .inr (.inl h);exact .inl h;exact .inr (.inr h)
def eqL(x y:Line):Bool:=cond (cond (x.dI.Num==y.dI.Num) (cond (x.dI.bK==y.dI.bK) true false) false) (cond (cond (x.Start.Num==y.Start.Num) (cond (x.Start.bK==y.Start.bK) true false) false) true false) false
theorem zCV{x y:Line}(h:eqL x y=true):x=y:=by
 unfold eqL at h;cases h1:x.dI.Num==y.dI.Num with
 | false=>rw[h1]at h;cases h
 | true =>
 cases h2:x.dI.bK==y.dI.bK with
 | false=>rw[h1,h2]at h;cases h
 | true =>
 cases h3:x.Start.Num==y.Start.Num with
 | false=>rw[h1,h2,h3]at h;cases h
 | true =>
 cases h4:x.Start.bK==y.Start.bK with
 | false=>rw[h1,h2,h3,h4]at h;cases h
 | true =>
  have a:=eq_of_beq h1;have b:=eq_of_beq h2;have c:=eq_of_beq h3;have d:=eq_of_beq h4;obtain⟨⟨x1,x2⟩,⟨x3,x4⟩⟩:=x;obtain⟨⟨y1,y2⟩,⟨y3,y4⟩⟩:=y;simp only at a b c d;rw[a,b,c,d]
abbrev zm5(C:Sl ay->ae (Sl Line)):Prop:=∀g,dh g->∃L:Sl Line,C g=.ok L/\L.len<=2304/\(∀x∈ls L,∃t,uj g t/\x=fA t)/\∀t,uj g t->fA t∈ls L
theorem zKk{E:P7}(N:Big E.N)(zlo:ztU E.znS)(h57:Q57 E.c57)(zlp:ztV E.c226):zm5 (zlm E):=λg G=>by
 have hg:=G.2;have hN:=N;have hc:=Ky G;have hcd:=zek g;have pos:∀n0 (i:Nat),i<(cst g).length->∀(v:Sl Line),(∀x∈ls v,∃t,uj g t/\x=fA t)->v.len<=2304->∃a,a<=v.len/\∀(A:Type)(k:Sl Line->Option A),oZ E n0 E.N g v (qR g) (i:Int) 0 k=lY E n0 g v (qR g) (i:Int) (a:Int) k:=by
  intro n0 i hi v hv hl;have key:∀(m j n1:Nat),j+m=v.len->m<n1->∃a,a<=v.len/\∀(A:Type)(k:Sl Line->Option A),oZ E n0 n1 g v (qR g) (i:Int) (j:Int) k=lY E n0 g v (qR g) (i:Int) (a:Int) k:=by
   intro m
   induction m with
   | zero =>
    intro j n1 hj hn;obtain⟨n1,rfl⟩:∃n',n1=n'+1:=⟨n1-1,omY⟩;exact⟨j,omY,λA k=>by rw[UH,dY omY];rfl⟩
   | succ m ih =>
    intro j n1 hj hn;obtain⟨n1,rfl⟩:∃n',n1=n'+1:=⟨n1-1,omY⟩;obtain⟨s,hs,es⟩:=hv (v.get j) (iC.2 ⟨j,omY,rfl⟩);obtain⟨b,hb⟩:=zlp s (cst g)[i] g (kP G hs) (sO G (VP hi)) G;have st:∀(A:Type)(k:Sl Line->Option A),oZ E n0 (n1+1) g v (qR g) (i:Int) (j:Int) k=cond b (oZ E n0 n1 g v (qR g) (i:Int) ((j+1:Nat):Int) k) (lY E n0 g v (qR g) (i:Int) (j:Int) k):=λA k=>by
     rw[UH,dP omY,dF,bf omY,bf omY,fO,fO,es,AP g hi,hb,aX,bF omY]
    cases b with
    | true =>
     obtain⟨a,h1,h2⟩:=ih (j+1) n1 omY omY;exact⟨a,h1,λA k=>by rw[st];exact h2 A k⟩
    | false=>exact⟨j,omY,λA k=>by rw[st];rfl⟩
  exact key v.len 0 E.N omY omY
 have key:∀(m i n:Nat)(v:Sl Line),i+m=(cst g).length->m<n->(∀x∈ls v,∃t,uj g t/\x=fA t)->v.len<=i->∃L:Sl Line,(∀(A:Type)(k:Sl Line->Option A),jU E n g v (qR g) (i:Int) k=k L)/\L.len<=(cst g).length/\(∀x∈ls L,∃t,uj g t/\x=fA t)/\(∀x∈ls v,x∈ls L)/\∀j (h:j<(cst g).length),i<=j->zK g (cst g)[j]->fA (cst g)[j]∈ls L:=by
  intro m
  induction m with
  | zero =>
   intro i n v hi hn hv hl;obtain⟨n,rfl⟩:∃n',n=n'+1:=⟨n-1,omY⟩;exact⟨v,λA k=>by rw[UG,dY omY];rfl,omY,hv,λx h=>h,λj h Ju=>by omega⟩
  | succ m ih =>
   intro i n v hi hn hv hl;obtain⟨n,rfl⟩:∃n',n=n'+1:=⟨n-1,omY⟩;have jY:i<(cst g).length:=by omega
   have S:=sO G (VP jY);have pl:=FK (cst g)[i] g g.len;have st:∀(A:Type)(k:Sl Line->Option A),jU E (n+1) g v (qR g) (i:Int) k=cond (decide (((sQ (cst g)[i] g g.len).len:Int)<(g.len:Int))) (jU E n g v (qR g) ((i+1:Nat):Int) k) (oZ E n E.N g v (qR g) (i:Int) 0 k):=λA k=>by
    rw[UG,dP omY,dF,bf omY,fO,AP g jY,h57 _ g S omY G.1,aX,bF omY]
   by_cases ha:zK g (cst g)[i];have e:(sQ (cst g)[i] g g.len).len=g.len:=pl.2.1.2 ha;obtain⟨a,a1,a2⟩:=pos n i jY v hv omY;have st2:∀(A:Type)(k:Sl Line->Option A),jU E (n+1) g v (qR g) (i:Int) k=lY E n g v (qR g) (i:Int) (a:Int) k:=λA k=>by rw[st,dY omY,dL,a2]
   let v':Sl Line:=⟨(((a:Int)-0).toNat+1)+((v.len:Int)-(a:Int)).toNat,iR (((a:Int)-0).toNat+1) (iR ((a:Int)-0).toNat (xZ v.get 0) (λ_=>(qR g).get (i:Int).toNat)) (xZ v.get (a:Int).toNat)⟩;have i1:∀(A:Type)(k:Sl Line->Option A),CY E n g v (qR g) (i:Int) (a:Int) k=jU E n g v' (qR g) ((i+1:Nat):Int) k:=λA k=>by
    rw[zln,bf omY,ja omY omY,bf omY,ja omY omY,bf omY,ja omY omY,bF omY]
   have i2:v'.len=v.len+1:=by show((((a:Int)-0).toNat+1)+((v.len:Int)-(a:Int)).toNat)=_;omega
   have lg:(qR g).get (i:Int).toNat=fA (cst g)[i]:=by rw[fO,AP g jY]
   have i3:∀x,x∈ls v'↔x=fA (cst g)[i]\/x∈ls v:=λx=>by
    rw[show ls v'=(ls v).take a++(qR g).get (i:Int).toNat::(ls v).drop a from zm4 v a a1 _,zus,lg]
   have i4:∀x∈ls v',∃t,uj g t/\x=fA t:=λx hx=>by
    rcases(i3 x).1 hx with h|h
    exact⟨_,⟨VP jY,ha⟩,h⟩;exact hv x h
   have fin:∃v'':Sl Line,(∀(A:Type)(k:Sl Line->Option A),lY E n g v (qR g) (i:Int) (a:Int) k=jU E n g v'' (qR g) ((i+1:Nat):Int) k)/\v''.len<=i+1/\(∀x∈ls v'',∃t,uj g t/\x=fA t)/\(∀x∈ls v,x∈ls v'')/\fA (cst g)[i]∈ls v'':=by
    by_cases h1:(a:Int)<(v.len:Int)
    ·have e3:∀(A:Type)(k:Sl Line->Option A),lY E n g v (qR g) (i:Int) (a:Int) k=cond (eqL (v.get a) ((qR g).get (i:Int).toNat)) (jU E n g v (qR g) ((i+1:Nat):Int) k) (CY E n g v (qR g) (i:Int) (a:Int) k):=λA k=>by
      rw[UI,dP h1,dF,bf omY,bf omY,bF omY,fO,fO];rfl
     cases hB:eqL (v.get a) ((qR g).get (i:Int).toNat)with
     | true =>
      rw[hB]at e3;have:=zCV hB;rw[lg]at this;exact⟨v,λA k=>e3 A k,omY,hv,λx h=>h,by rw[<- this];exact iC.2 ⟨a,omY,rfl⟩⟩
     | false =>
      rw[hB]at e3;exact⟨v',λA k=>(e3 A k).trans (i1 A k),omY,i4,λx h=>(i3 x).2 (.inr h),(i3 _).2 (.inl rfl)⟩
    exact⟨v',λA k=>by rw[UI,dY h1];exact i1 A k,omY,i4,λx h=>(i3 x).2 (.inr h),(i3 _).2 (.inl rfl)⟩
   obtain⟨v'',f1,f2,f3,f4,f5⟩:=fin;obtain⟨L,l1,l2,l3,l4,l5⟩:=ih (i+1) n v'' omY omY f3 f2;refine⟨L,λA k=>by rw[st2,f1,l1],l2,l3,λx h=>l4 x (f4 x h),λj h Ju hj=>?_⟩;by_cases e:j=i;subst e;exact l4 _ f5;exact l5 j h omY hj;have e:(sQ (cst g)[i] g g.len).len<g.len:=by
    rcases qdP (sQ (cst g)[i] g g.len).len g.len with h|h
    exact h;exact absurd (pl.2.1.1 omY) ha
   obtain⟨L,l1,l2,l3,l4,l5⟩:=ih (i+1) n v omY omY hv omY;refine⟨L,λA k=>by rw[st,dP omY,dF,l1],l2,l3,l4,λj h Ju hj=>?_⟩;have:j≠i:=λe=>ha (by subst e;exact hj);exact l5 j h omY hj
 obtain⟨L,l1,l2,l3,_,l5⟩:=key (cst g).length 0 E.N eL omY omY (λx hx=>by cases hx) (jP _);refine⟨L,ae.ext λk=>by rw[zJq,zlo g G,aX,aX];exact l1 _ k,omY,l3,λt ht=>?_⟩;obtain⟨j,h1,rfl⟩:=qdV ht.1;exact l5 j h1 (Ad _) ht.2
theorem zcf{α:Type}{a b:α}(h:(ae.ok a:ae α)=.ok b):a=b:=SH (jZ (λc=>ae.o c) h)
theorem KG{a b:aP}(h1:OV a)(h2:OV b):leB a b=true↔AC a b:=by
 unfold leB;rw[RV h1 h2,RV h2 h1,oD];rfl
def PlC(g:Sl ay)(z:Int)(f:aP):Prop:=∃t,uj g t/\f=red (ik t z) t.den
theorem zcg{t:straight}(S:yN t){z:Int}(hz:OU z):OV (red (ik t z) t.den):=by
 have h:=U2 S hz;have a : -600000000000<=ik t z/\ik t z<=600000000000:=h.1;have b:0<t.den/\t.den<=100000:=h.2;have r1:=AB (num:=ik t z) b.1;have r2:=Ib (num:=ik t z) b.1;have r3:=jC (num:=ik t z) b.1;exact⟨omY,r3,omY⟩
abbrev zm6(C:Sl ay×Int->ae (aP×aP)):Prop:=∀g z,dh g->OU z->gy g=false->jy g=true->∃a b,C (g,z)=.ok (a,b)/\(PlC g z a/\∀t,uj g t->Dt a (red (ik t z) t.den))/\PlC g z b/\∀t,uj g t->Dt (red (ik t z) t.den) b
theorem zKl{E:zbL}(N:Big E.N)(Og:zmc E.FW)(zbK:zm5 E.c194)(h76:Q76 E.c76)(h56:Q56 E.c56):zm6 (zrN E):=λg z G hz hf hs=>by
 have hg:=G.2;have hN:=N;obtain⟨L,l1,l2,l3,l4⟩:=zbK g G;obtain⟨t0,t01,t02⟩:=(RU G hf).1 hs;have l0:0<L.len:=by
  have:=jqT (l4 t0 ⟨t01,t02⟩);rw[fP]at this;exact this
 have pc:∀i,i<L.len->∃t,uj g t/\L.get i=fA t/\E.c76 (L.get i,z)=.ok (red (ik t z) t.den):=λi hi=>by
  obtain⟨t,ht,e⟩:=l3 _ (iC.2 ⟨i,hi,rfl⟩);exact⟨t,ht,e,by rw[e];exact h76 t z (kP G ht) hz⟩
 have pok:∀f,PlC g z f->OV f:=λf ⟨t,ht,e⟩=>by rw[e];exact zcg (kP G ht) hz
 have key:∀(m i n:Nat)(x y:aP),i+m=L.len->m<n->PlC g z x->PlC g z y->(∀j,j<i->∀f,E.c76 (L.get j,z)=.ok f->Dt x f/\Dt f y) ->
   ∃a b,(∀(A:Type)(k:aP×aP->Option A),CW E n z L (i:Int) x y k=k (a,b))/\PlC g z a/\PlC g z b/\∀j,j<L.len->∀f,E.c76 (L.get j,z)=.ok f->Dt a f/\Dt f b:=by
  intro m
  induction m with
  | zero =>
   intro i n x y hi hn hx hy hb;obtain⟨n,rfl⟩:∃n',n=n'+1:=⟨n-1,omY⟩;exact⟨x,y,λA k=>by rw[zk5,dY omY];rfl,hx,hy,λj hj=>hb j omY⟩
  | succ m ih =>
   intro i n x y hi hn hx hy hb;obtain⟨n,rfl⟩:∃n',n=n'+1:=⟨n-1,omY⟩;obtain⟨t,ht,et,ef⟩:=pc i omY;have hf':PlC g z (red (ik t z) t.den):=⟨t,ht,rfl⟩;generalize red (ik t z) t.den=f at ef hf';have px:=pok x hx;have py:=pok y hy;have pf:=pok f hf';have st:∀(A:Type)(k:aP×aP->Option A),CW E (n+1) z L (i:Int) x y k=CW E n z L ((i+1:Nat):Int) (cond (leB f x) f x) (cond (leB y f) f y) k:=λA k=>by
    rw[zk5,dP omY,dF,bf omY,fO,ef,aX,h56,aX];cases leB f x<;>simp only[dF,dL]<;>rw[zAW,h56,aX,bF omY]<;>cases leB y f<;>rfl
   have zxd:Dt f f:=qd5 _;obtain⟨a,b,h1,h2,h3,h4⟩:=ih (i+1) n (cond (leB f x) f x) (cond (leB y f) f y) omY omY (by cases leB f x<;>assumption) (by cases leB y f<;>assumption) (λj hj q hq=>by
    have qf:j=i->q=f:=λe=>by subst e;exact zcf (hq.symm.trans ef)
    have qo:PlC g z q:=by
     obtain⟨t',ht',_,e'⟩:=pc j omY;exact⟨t',ht',zcf (hq.symm.trans e')⟩
    have pq:=pok q qo;constructor
    ·cases hl:leB f x with
     | true =>
      have lt:=(KG pf px).1 hl;rw[dF];by_cases e:j=i;rw[qf e];exact zxd;exact qH pf.2.1 px.2.1 pq.2.1 (xY lt) (hb j omY q hq).1
     | false =>
      rw[dL];by_cases e:j=i;rw[qf e];exact Vh λh=>by rw[(KG pf px).2 h]at hl;cases hl
      exact(hb j omY q hq).1
    ·cases hl:leB y f with
     | true =>
      have lt:=(KG py pf).1 hl;rw[dF];by_cases e:j=i;rw[qf e];exact zxd;exact qH pq.2.1 py.2.1 pf.2.1 (hb j omY q hq).2 (xY lt)
     | false =>
      rw[dL];by_cases e:j=i;rw[qf e];exact Vh λh=>by rw[(KG py pf).2 h]at hl;cases hl
      exact(hb j omY q hq).2)
   exact⟨a,b,λA k=>by rw[st];exact h1 A k,h2,h3,h4⟩
 obtain⟨t,ht,et,ef⟩:=pc 0 l0;obtain⟨a,b,h1,h2,h3,h4⟩:=key (L.len-1) 1 E.N (red (ik t z) t.den) (red (ik t z) t.den) omY omY ⟨t,ht,rfl⟩ ⟨t,ht,rfl⟩ (λj hj q hq=>by
  rw[show j=0 by omega]at hq;have:=zcf (hq.symm.trans ef);rw[this];exact⟨qd5 _,qd5 _⟩)
 have al:∀u,uj g u->Dt a (red (ik u z) u.den)/\Dt (red (ik u z) u.den) b:=λu hu=>by
  obtain⟨j,hj,e⟩:=iC.1 (l4 u hu);exact h4 j hj _ (by rw[e];exact h76 u z (kP G hu) hz)
 refine⟨a,b,ae.ext λk=>?_,⟨h2,λu hu=>(al u hu).1⟩,h3,λu hu=>(al u hu).2⟩;rw[zVQ,Og g omY omY,aX,hf,dL,l1,aX,bf omY,ef,aX,bf omY,aX,aX];exact h1 _ k
abbrev zm7(C:aP->ae Int):Prop:=∀f:aP,FlK f->C f=.ok (f.Num/f.bK)
theorem zKm{E:zrP}:zm7 (zrQ E):=λf ⟨h1,h2,h3⟩=>ae.ext λk=>by
 obtain⟨x1,x2,x3,x4,_,_⟩:=zJ1 h1 h2 h3;rw[zVS,bf omY,x1,x2,aX];by_cases c:f.Num.tdiv f.bK*f.bK>f.Num;rw[dP c,dF,x3 c];rw[dY c,dL,x4 c]
theorem zch:∀{r:List (Int×bW)}{n:Int},(∀t∈r,-2000000000≤t.2.High∧t.2.High≤2000000000)→n≤nxt r n
  | [],n,_=>qd5 _
  | y::r,n,h=>by
    have hy:=h y kH;have hr:∀t∈r,-2000000000<=t.2.High/\t.2.High<=2000000000:=λt ht=>h t (jM _ ht);rw[nxt];by_cases c:y.2.Low<=n/\n<=y.2.High;rw [dP c.1,dP c.2,qjU,dF,aT omY omY];have:=zch (n:=y.2.High+1) hr;omega;have e:(decide (y.2.Low<=n)&&decide (n<=y.2.High))=false:=by
      by_cases h1:y.2.Low<=n;rw[dY (show ¬n<=y.2.High from λh2=>c ⟨h1,h2⟩),qd7];rw[dY h1,qjs]
    rw[e,dL];exact zch hr
theorem zuu{p:aj}(hp:VW p){x:bW}(hx:Vb x=true):zO p x=RZ p x:=by
 have hx:=qdE hx;cases hm:RZ p x with
 | false =>
  cases hb:zO p x with
  | false=>rfl
  | true =>
   have:=zmL hp hb ⟨hx.1,hx.2.2⟩ (qd5 _) hx.2.1 (qd5 _);rw[this]at hm;cases hm
 | true =>
  have hh:=Vk hp;have Qi:=hp;obtain⟨_,_,_,hf,hpi,Gn,hsp,ho,_⟩:=hp;unfold RZ at hm;rw[aT (x:=x.Low-p.aZ.High) omY omY,aT (x:=x.High-p.aZ.Low) omY omY,aT (x:=p.bC-1) omY omY]at hm;simp only[fQ,oD,cZ,JS]at hm;obtain⟨⟨m1,m2⟩,m3⟩:=hm;rw[(xU Qi (c:=0) omY omY).1]at m1;rw[(xU Qi (c:=p.bC-1) omY omY).1]at m2;have ge:∀q:Nat,(q:Int)<p.bC->nT p (q:Int)=⟨p.First+q*p.aO-gB p,p.First+q*p.aO-gB p+p.aO-1⟩/\0<=(q:Int)*p.aO/\(q:Int)*p.aO<=1000000000:=λq hq=>xU Qi (c:=(q:Int)) omY omY;have hb:∀m c:Nat,c+m=p.bC.toNat->∀t∈Ij p m c,-2000000000<=t.2.High/\t.2.High<=2000000000:=λm c hc t ht=>by
   obtain⟨q,_,q2,_,e⟩:=zS ht;obtain⟨e2,e3,e4⟩:=ge q omY;rw[e,e2];show _<=p.First+q*p.aO-gB p+p.aO-1/\p.First+q*p.aO-gB p+p.aO-1<=_;omega
  generalize hlo:x.Low-p.aZ.High=lo at *;generalize hhi:x.High-p.aZ.Low=hi at *;have m1:lo>=p.First+0*p.aO-gB p:=m1;have m2:hi<=p.First+(p.bC-1)*p.aO-gB p+p.aO-1:=m2;have key:∀(m c:Nat)(n:Int),c+m=p.bC.toNat->lo<=n->(n<=hi->p.First+c*p.aO-gB p<=n)->hi<nxt (Ij p m c) n:=by
   intro m
   induction m with
   | zero =>
    intro c n hc hn h;show hi<n;rcases qd0 hi n with h1|h1
    exact h1;have h2:=h h1;have e:(c:Int)=p.bC:=by omega
    rw[e]at h2;have:(p.bC-1)*p.aO=p.bC*p.aO-p.aO:=by rw[jqc,jqd]
    omega
   | succ m ih =>
    intro c n hc hn h;obtain⟨e2,e3,e4⟩:=ge c omY;have nx:((c+1:Nat):Int)*p.aO=c*p.aO+p.aO:=by rw[show((c+1:Nat):Int)=(c:Int)+1 by omega,qjj,jqd]
    rcases qd0 hi n with h1|h1
    exact Int.lt_of_lt_of_le h1 (zch (hb (m+1) c hc));have h2:=h h1;simp only[Ij];cases hd:hasB p.Dead (c:Int)with
    | true =>
     rw[dF];refine ih (c+1) n omY hn λ_=>?_;have d:=m3 c omY;simp only[FN,hd,Jv]at d;rw[e2]at d;have d:(decide (p.First+c*p.aO-gB p<=hi)&&decide (p.First+c*p.aO-gB p+p.aO-1>=lo))=false:=d;rw[dP (show p.First+c*p.aO-gB p<=hi by omega),Jv,dqM]at d;rw[nx];omega
    | false =>
     rw[dL,nxt];have te:zJT p c=nT p (c:Int):=rfl;rw[te,e2];show hi<nxt (Ij p m (c+1)) (cond (decide (p.First+c*p.aO-gB p<=n)&&decide (n<=p.First+c*p.aO-gB p+p.aO-1)) (aJ (p.First+c*p.aO-gB p+p.aO-1+1)) n);rw[dP h2,Jv];by_cases c1:n<=p.First+c*p.aO-gB p+p.aO-1;rw [dP c1,dF,aT omY omY];exact ih (c+1) _ omY omY λ_=>by rw[nx];omega
     rw [dY c1,dL];exact ih (c+1) n omY hn λ_=>by rw[nx];omega
  unfold zO;rw[oD,aT (x:=x.Low-p.aZ.High) omY omY,aT (x:=x.High-p.aZ.Low) omY omY,hlo,hhi];exact key p.bC.toNat 0 lo omY (qd5 _) λ_=>by show p.First+0*p.aO-gB p<=lo;omega
end Go.Proofs
