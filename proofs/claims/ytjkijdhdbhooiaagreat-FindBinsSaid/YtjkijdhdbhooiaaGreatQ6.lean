/- Part 6: framework, functions, plain laws. -/
import Derived.Test.YtjkijdhdbhooiaaGreatQ5
set_option linter.all false
noncomputable section
namespace Go.Proofs
open Go Go.Pm
set_option maxRecDepth 100000
abbrev zrL(C:Int->ae Bool):Prop:=∀x,C x=.ok false
theorem zU6{E:zrp}:zrL (zrq E):=λx=>ae.ext λk=>by rw[zUu,bn,show(x != x)=false by simp]
def qQ(a b:Int):Int:=cond (decide (a<b)) (-1) (cond (decide (a>b)) 1 0)
abbrev zaT(C:Int×Int->ae Int):Prop:=∀a b,C (a,b)=.ok (qQ a b)
theorem zU7{E:zqY}(Xd:zrL E.NI):zaT (zqZ E):=λa b=>ae.ext λk=>by
 rw[e208,Xd,bn,Xd,bn,bn];unfold qQ;cases decide (a<b)<;>cases decide (a>b)<;>rfl
def FOK(f:aP):Prop:=(-1000000000<=f.Num/\f.Num<=1000000000)/\0<f.bT/\f.bT<=1000000000
def cmF(a b:aP):Int:=qQ (a.Num*b.bT) (b.Num*a.bT)
theorem zHd{a b:aP}(h1:FOK a)(h2:FOK b):aO (a.Num*b.bT)=a.Num*b.bT:=by
 have:=qy h1.1.1 h1.1.2 (yt h2.2.1) h2.2.2;exact bf omY omY
abbrev zkF(C:aP×aP->ae Int):Prop:=∀a b:aP,aO (a.Num*b.bT)=a.Num*b.bT->aO (b.Num*a.bT)=b.Num*a.bT->C (a,b)=.ok (cmF a b)
theorem zU9{E:zqf}(zaG:zaT E.c208):zkF (zqg E):=λa b h1 h2=>ae.ext λk=>by
 rw[e170,zaG,bn,bn,h1,h2];rfl
theorem zkG{a b:aP}:cmF a b<0↔yz a b:=by
 unfold cmF qQ yz;by_cases h:a.Num*b.bT<b.Num*a.bT
 ·rw[dZ h];simp[h]
 ·rw [eU h];cases decide (a.Num*b.bT>b.Num*a.bT)<;>simp[h]
theorem zkH{a b:aP}:0-cmF a b<0↔yz b a:=by
 unfold cmF qQ yz;by_cases h:a.Num*b.bT<b.Num*a.bT
 ·rw[dZ h];simp;omega
 ·rw [eU h];by_cases h2:a.Num * b.bT > b.Num * a.bT
  ·rw[dZ h2];simp;omega
  ·rw[eU h2];simp;omega
theorem zHe(a b:aP) : -1<=cmF a b/\cmF a b<=1:=by
 unfold cmF qQ;cases decide (a.Num*b.bT<b.Num*a.bT)<;>cases decide (a.Num*b.bT>b.Num*a.bT)<;>simp
theorem zkI{a b c d:Int}(hb:0<b)(hd:0<d):yz (red a b) (red c d)↔a*d<c*b:=by
 have a1:=oM (num:=a) hb;have a2:=mG (num:=a) hb;have c1:=oM (num:=c) hd;have c2:=mG (num:=c) hd;have hG:=lI (num:=a) hb;have hK:=lI (num:=c) hd;unfold yz;generalize (Int.gcd a b:Int)=G at a1 a2 hG;generalize (Int.gcd c d:Int)=K at c1 c2 hK;generalize (red a b).Num=p at a1 ⊢;generalize (red a b).bT=q at a2 ⊢;generalize (red c d).Num=u at c1 ⊢;generalize (red c d).bT=v at c2 ⊢;subst a1 a2 c1 c2;have e1:G*p*(K*v)=p*v*(G*K):=by ac_rfl
 have e2:K*u*(G*q)=u*q*(G*K):=by ac_rfl
 rw[e1,e2];have hp:=jqt hG hK;exact⟨λh=>qjT h hp,λh=>jqT h (yt hp)⟩
theorem Jp{a b:Int}(h1 : -1000000000<=a)(h2:a<=1000000000)(hb:0<b)(Us:b<=1000000000):FOK (red a b):=by
 have r1:=zU (num:=a) hb;have r2:=GG (num:=a) hb;have r3:=jf (num:=a) hb;exact⟨omY,omY,omY⟩
def yf(g:Sl ay)(s:straight):Bool:=!fG (λj=>!Xr s (g.get j)) g.len
def zkJ(g:Sl ay)(s t:straight):Int:=cond (yf g s) (cond (yf g t) (cmF (red s.bI s.den) (red t.bI t.den)) (-1)) (cond (yf g t) 1 (aO (0-cmF (red s.bI s.den) (red t.bI t.den))))
abbrev zy4(C:straight×straight×Pt set->ae Int):Prop:=∀s t (P:Pt set),yw s->yw t->P.v.list.bQ.len<=1000->C (s,t,P)=.ok (zkJ P.v.list.bQ s t)
theorem zVa{E:zry}(zrA:zyX E.zly)(qP:IV E.kJ)(MX:zkF E.EE):zy4 (zrz E):=λs t P S T hl=>ae.ext λk=>by
 have s1:=S.1;have s3:=S.2.2;have t1:=T.1;have t3:=T.2.2
 rw[e254,zrA _ _ hl,bn,zrA _ _ hl,bn,qP _ _ omY omY omY omY,bn,qP _ _ omY omY omY omY,bn,
  MX _ _ (zHd (Jp omY omY omY omY) (Jp omY omY omY omY)) (zHd (Jp omY omY omY omY) (Jp omY omY omY omY)),bn,bn]
 unfold zkJ;show cond (yf P.v.list.bQ s) (cond (yf P.v.list.bQ t) _ (cond (yf P.v.list.bQ s) _ (cond (yf P.v.list.bQ t) _ _))) (cond (yf P.v.list.bQ s) _ (cond (yf P.v.list.bQ t) _ _))=_;cases yf P.v.list.bQ s<;>cases yf P.v.list.bQ t<;>rfl
theorem zrM{g:Sl ay}(G:dw g){s t:straight}(hs:wB g s)(ht:wB g t):zkJ g s t<0↔Nr g s t:=by
 have S:=mi G hs;have T:=mi G ht;have a:=Xz G S;have b:=Xz G T;have ps:0<s.den:=by have:=S.2.2;omega
 have pt:0<t.den:=by have:=T.2.2;omega
 have e1:=(zkG (a:=red s.bI s.den) (b:=red t.bI t.den)).trans (zkI ps pt);have e2:=(zkH (a:=red s.bI s.den) (b:=red t.bI t.den)).trans (zkI pt ps);have bb:=zHe (red s.bI s.den) (red t.bI t.den);have e3:yz (Nq s) (Nq t)↔s.bI*t.den<t.bI*s.den:=UX;have e4:yz (Nq t) (Nq s)↔t.bI*s.den<s.bI*t.den:=UX;unfold zkJ Nr;rw[<- a,<- b,e3,e4,<- e1,<- e2,bf omY omY];show cond (yf g s) _ _<0↔(yf g s=true/\(yf g t=true->_))\/(¬yf g s=true/\¬yf g t=true/\_);cases yf g s<;>cases yf g t<;>simp
theorem zuv{α:Type}[bH α][sQ α]{C:List PA→ae (List PA)}{caps:List PV}{ag:Bool}{w:Sl α}{cmp:α→α→Int}{R:α→α→Prop}(hn:w.len≤1000000)
    (hc:∀i j,i<w.len->j<w.len->JK C caps ag (uG w) i j=some (cmp (w.get i) (w.get j))) (hR:∀i j,i<w.len->j<w.len->(cmp (w.get i) (w.get j)<0↔R (w.get i) (w.get j)))
    (irr:∀i,i<w.len->¬R (w.get i) (w.get i)) (tot:∀i j,i<w.len->j<w.len->i≠j->R (w.get i) (w.get j)\/R (w.get j) (w.get i)) (asym:∀i j,i<w.len->j<w.len->R (w.get i) (w.get j)->¬R (w.get j) (w.get i))
    (tr:∀i j k,i<w.len->j<w.len->k<w.len->R (w.get i) (w.get j)->R (w.get j) (w.get k)->R (w.get i) (w.get k)) :
    soP C caps ag w=true/\∃l:List Nat,l.Perm (List.range w.len)/\l.Pairwise (λi j=>R (w.get i) (w.get j))/\∀i (h:i<l.length),soG C caps ag w i=w.get l[i]:=by
  have hv:∀i j,i<w.len->j<w.len->(nY C caps ag (uG w) i j<0↔R (w.get i) (w.get j)):=λi j hi hj=>by
    unfold nY;rw[hc i j hi hj];exact hR i j hi hj
  have S1:zgZ w.len (λi j=>(JK C caps ag (uG w) i j).isSome) (nY C caps ag (uG w))=true:=by
    simp only[zgZ,Aa,JC,gG,Zb,pJ,NR,jq9,dq2];intro i hi;refine⟨by have:¬nY C caps ag (uG w) i i<0:=λh=>irr i hi ((hv i i hi hi).1 h);omega,λj hj=>?_⟩;refine⟨⟨by rw[hc i j hi hj];rfl,?_⟩,λk hk=>?_⟩
    · by_cases O5 : i = j
      · exact .inl (.inl (by rw[O5];exact Nat.beq_refl j))
      · rcases tot i j hi hj O5 with h | h
        · have:¬nY C caps ag (uG w) j i<0:=fun k=>asym i j hi hj h ((hv j i hj hi).1 k);exact .inl (.inr ⟨(hv i j hi hj).2 h,omY⟩)
        · have:¬nY C caps ag (uG w) i j<0:=fun k=>asym j i hj hi h ((hv i j hi hj).1 k);exact .inr ⟨(hv j i hj hi).2 h,omY⟩
    · by_cases h1 : nY C caps ag (uG w) i j < 0
      · by_cases h2 : nY C caps ag (uG w) j k < 0
        · exact .inr ((hv i k hi hk).2 (tr i j k hi hj hk ((hv i j hi hj).1 h1) ((hv j k hj hk).1 h2)))
        · exact .inl (.inr h2)
      · exact .inl (.inl h1)
  have hb:(zv3 w.len (λi j=>(JK C caps ag (uG w) i j).isSome) (nY C caps ag (uG w))).b=true:=by
    show(Nat.ble w.len 4611686018427387&&zgZ w.len _ _)=true;rw[S1,jqe omY];rfl
  have T:STO w.len (nY C caps ag (uG w)):=(CP.h _ hb).2.2;have pm:=BD (c:=nY C caps ag (uG w)) w.len;refine⟨hb,yG w.len (nY C caps ag (uG w)),pm,?_,λi h=>?_⟩
  · have nd : (yG w.len (nY C caps ag (uG w))).Nodup := pm.nodup_iff.2 List.nodup_range;refine (List.Pairwise.and (WG T) nd).imp_of_mem ?_;intro a b ha hb hab;have ha:=JC.1 (pm.mem_iff.1 ha);have hb:=JC.1 (pm.mem_iff.1 hb);rcases tot a b ha hb hab.2 with h | h
    · exact h
    · exact absurd ((hv b a hb ha).2 h) hab.1
  · show(bH.dec (bH.enc (w.get ((yG w.len (nY C caps ag (uG w))).getD i ((yG w.len (nY C caps ag (uG w))).getD 0 0))))).1=_;rw[sQ.de,jqU,BR h];rfl
theorem vX(g:Sl ay){i:Nat}(h:i<(jB g).length):(iZ g).dm.get i=(jB g)[i]:=by
 have:=AV (jB g) Iq i (jB g)[i] (BR h);rw[show(Iq:Sl straight).len+i=i by show 0+i=i;omega]at this;exact this
theorem zkK(g:Sl ay):∀(r acc:List straight)(F:List Int->Option (List Int)),(GH g r acc F).length<=acc.length+r.length:=by
 intro r
 induction r with
 | nil=>intro acc F;exact kC _
 | cons y r ih =>
  intro acc F;have a:=ih (acc++[y]) (IG (uf (fC y)) [1] F);have b:=ih acc F;rw[Jz]at a;simp only[Cc,UJ]at a ⊢;simp only[GH];cases(EN (F (uf (fC y))) 0 != 0)<;>cases allB g y<;>simp only[OZ,qdU,ed,dS]<;>omega
theorem Jq{g:Sl ay}(G:dw g):(jB g).length<=2304:=by
 unfold jB;cases fQ g with
 | true=>exact Cf _
 | false =>
  have a:=zkK g (cst g) [] λ_=>none;have b:=Og G;rw[dS];simp only[UJ,NV]at a;omega
theorem Jr{g:Sl ay}(G:dw g){s:straight}(h:s∈jB g):wB g s:=by
 cases hf:fQ g with
 | true=>unfold jB at h;rw[hf]at h;cases h
 | false =>
  obtain⟨a,b⟩:=(TN hf).1 s h;exact⟨a,(Es G (rE G a)).1 b⟩
abbrev zy5(C:set->ae (Sl straight)):Prop:=∀g,dw g->∃D:Sl straight,C (iZ g)=.ok D/\D.len=(jB g).length/\∀i,i<D.len->yw (D.get i)
theorem zVb{E:zrv}(zVc:zy4 E.Yq):zy5 (zrx E):=λg G=>by
  have hl:=Jq G;have hG:=G.2.2;have len:=Ep g;have cr:∀i,i<(iZ g).dm.len->wB g ((iZ g).dm.get i):=λi hi=>by
    rw[vX g omY];exact Jr G (YY _)
  have ne:∀i j,i<(iZ g).dm.len->j<(iZ g).dm.len->i≠j->fC ((iZ g).dm.get i)≠fC ((iZ g).dm.get j):=λi j hi hj O5 e=>by
    rw[vX g omY,vX g omY]at e;cases hf:fQ g with
    | true =>
      have:jB g=[]:=by unfold jB;rw[hf];rfl
      rw[this]at len;simp at len;omega
    | false =>
      have P:=(TN hf).2.2;rw[qdk]at P;rcases qd4 i j with h|h
      · exact P i j omY omY h e
      · exact P j i omY omY omY e.symm
  obtain⟨hp,l,h1,_,h3⟩:=zuv (C:=ae.un E.Yq) (caps:=bH.enc (⟨iZ g⟩:Pt set)) (ag:=true) (w:=(iZ g).dm) (cmp:=zkJ g) (R:=Nr g) omY
    (λi j hi hj=>by
      show(E.Yq ((iZ g).dm.get i,(iZ g).dm.get j,(⟨iZ g⟩:Pt set))).T _=_;rw[zVc _ _ _ (mi G (cr i hi)) (mi G (cr j hj)) (by show g.len<=1000;omega)];rfl)
    (λi j hi hj=>zrM G (cr i hi) (cr j hj)) (λi hi=>zrJ) (λi j hi hj O5=>zrK G (cr i hi) (cr j hj) (ne i j hi hj O5)) (λi j _ _ h=>zkE h)
    (λi j k hi hj hk a b=>zeW G (cr i hi) (cr j hj) (cr k hk) a b)
  have ll:l.length=(iZ g).dm.len:=by rw[h1.length_eq,jqC]
  refine⟨⟨(iZ g).dm.len,soG (ae.un E.Yq) (bH.enc (⟨iZ g⟩:Pt set)) true (iZ g).dm⟩,ae.ext λk=>?_,len,λi hi=>?_⟩
  · rw[e249,hp,bn,show room (iZ g).dm.len 24=true from dZ omY];rfl
  · have hi:i<(iZ g).dm.len:=hi;show yw (soG _ _ _ _ i);rw[h3 i omY];exact mi G (cr _ (JC.1 (h1.mem_iff.1 (YY _))))
def TQ(g:Sl ay):Int:=(Ad g false).2
abbrev zy6(C:Sl ay->ae (Sl Line×Int)):Prop:=∀g:Sl ay,g.len<=1000->∃L,C g=.ok (L,TQ g)/\(TQ g=0->0<L.len)
theorem zVd{E:zeR}(N:Big E.N)(UM:zmB E.c117)(zyO:zy5 E.zlx)(zaE:zrH E.c198):zy6 (zkn E):=λg hl=>by
 have e:∀(A:Type)(k:Sl Line×Int->Option A),(zkn E g).T k=cond ((Ad g false).2 != 0) (k (⟨0,λ_=>default⟩,(Ad g false).2)) ((E.zlx (Ad g false).1).T λr2=>Gz E E.N r2 (r2.len:Int) 0 ⟨0,λ_=>⟨⟨0,0⟩,⟨0,0⟩⟩⟩ k):=λA k=>by
  rw[e240,UM g (.inl ⟨(),()⟩) hl,bn];rfl
 unfold TQ;by_cases h0:(Ad g false).2=0
 ·have:xq g=true/\iG g=true/\fQ g=false:=by
   unfold Ad at h0;revert h0;cases xq g<;>cases iG g<;>cases fQ g<;>simp
  obtain⟨hg,hs,hf⟩:=this;have G:=kU.1 hg;have e1:(Ad g false).1=iZ g:=by unfold Ad;rw[hg,hs,hf];rfl
  obtain⟨D,d1,d2,d3⟩:=zyO g G;have dl:D.len<=2304:=by rw[d2];exact Jq G
  have key:∃L:Sl Line,L.len=D.len/\∀(A:Type)(k:Sl Line×Int->Option A),Gz E E.N D (D.len:Int) 0 ⟨0,λ_=>⟨⟨0,0⟩,⟨0,0⟩⟩⟩ k=k (L,0):=by
   let acc:Nat->Sl Line:=λn=>Nat.rec ⟨0,λ_=>⟨⟨0,0⟩,⟨0,0⟩⟩⟩ (λi v=>oO v (fC (D.get i))) n;have al:∀n,(acc n).len=n:=λn=>by
    induction n with
    | zero=>rfl
    | succ n ih=>show(acc n).len+1=n+1;rw[ih]
   refine⟨acc D.len,al _,λA k=>?_⟩;refine kV (X:=λn i=>Gz E n D (D.len:Int) (i:Int) (acc i) k) (m:=D.len) (λn i hi=>?_) (λn=>?_) _ (by have:=N;omega)
   ·rw[zko,dZ omY,ed,bG omY,gU,zaE _ (d3 i hi),bn,bP omY,show room ((acc i).len+1) 32=true from dZ (by rw[al];omega)];rfl
   ·rw[zko,eU omY];rfl
  obtain⟨L,l1,l2⟩:=key;refine⟨L,ae.ext λk=>?_,λ_=>?_⟩
  ·rw[e,h0,e1,d1,bn,l2];rfl
  ·rw [l1,d2];unfold iG at hs;rw[hf,dS,pJ]at hs;omega
 ·exact⟨_,ae.ext λk=>by rw[e,show((Ad g false).2 != 0)=true by simpa using h0];rfl,λh=>absurd h h0⟩
abbrev zy7(C:Sl ay->ae (Line×Int)):Prop:=∀g:Sl ay,g.len<=1000->∃l,C g=.ok (l,TQ g)
theorem zVe{E:zq1}(zyG:zy6 E.zsF):zy7 (zq2 E):=λg hl=>by
 obtain⟨L,h1,h2⟩:=zyG g hl;by_cases h0:TQ g=0
 ·exact⟨_,ae.ext λk=>by rw[e211,h1,bn,h0];show aV (decide ((0:Int)<=0/\0<(L.len:Int))) _=_;rw[bG ⟨qd8 0,by have:=h2 h0;omega⟩];rfl⟩
 ·exact⟨_,ae.ext λk=>by rw[e211,h1,bn];show cond (TQ g != 0) _ _=_;rw[show(TQ g != 0)=true by simpa using h0];rfl⟩
theorem zy8{g:Sl ay}(G:dw g):(TQ g != 5)=iG g:=by
 unfold TQ Ad;rw[kU.2 G];cases iG g<;>cases fQ g<;>rfl
theorem zrN{g:Sl ay}(h:0<g.len):fQ g=fG (λi=>(g.get (i+1)).Z==(g.get 0).Z) (g.len-1):=by
 unfold fQ;rw[Ut,dI,dI];refine⟨λa i hi=>a (i+1) omY,λa i hi=>?_⟩;cases i with
 | zero=>simp
 | succ i=>exact a i omY
abbrev zgH(C:Sl ay->ae Bool):Prop:=∀g:Sl ay,0<g.len->g.len<=1000->C g=.ok (fQ g)
theorem zVf{E:zeE}(N:Big E.N):zgH (zpO E):=λg h0 h1=>ae.ext λk=>by
 rw[zTd,bn,zrN h0];have:=loopA (L:=λn i=>BH E n g (i+1) k) (p:=λi=>(g.get (i+1)).Z==(g.get 0).Z) (m:=g.len-1) (fin:=k true) (stop:=k false) omY (λn i hi=>by
  show BH E (n+1) g ((i:Int)+1) k=cond _ (BH E n g (aO ((i:Int)+1)+1) k) _
  rw[zjI,dZ omY,ed,bG omY,bG omY,show((i:Int)+1).toNat=i+1 by omega,show(i:Int)+1=((i+1:Nat):Int)by omega,bP omY,
   show aO ((i+1:Nat):Int)=((i+1:Nat):Int)from bf omY omY]
  rw[show((i+1:Nat):Int)+1=((i+1+1:Nat):Int)by omega];cases h:(g.get (i+1)).Z==(g.get 0).Z<;>simp[bne,h]) (λn=>by
  show BH E (n+1) g (((g.len-1:Nat):Int)+1) k=_;rw[zjI,eU omY];rfl) E.N (by have:=N;omega)
 rw[show(1:Int)=0+1 from rfl];refine this.trans ?_;cases fG (λi=>(g.get (i+1)).Z==(g.get 0).Z) (g.len-1)<;>rfl
theorem zaU(g:Sl ay):fP g 1=⟨(g.get 0).Low,(g.get 0).High⟩:=by
 show(⟨_,_⟩:bZ)=_;simp only[fP,gt_iff_lt,UQ,qjr]
abbrev zuw(C:Sl ay->ae (Int×Int×Bool)):Prop:=∀g:Sl ay,0<g.len->g.len<=1000->C g=.ok ((fP g g.len).Low,(fP g g.len).High,decide ((fP g g.len).Low<=(fP g g.len).High))
theorem zVg{E:zeM}(N:Big E.N):zuw (zqF E):=λg h0 h1=>ae.ext λk=>by
 rw[zTX,bG omY,bG omY,bn];have:=kV (X:=λn i=>TF E n g (fP g (i+1)).Low (fP g (i+1)).High ((i+1:Nat):Int) k) (m:=g.len-1) (fin:=k ((fP g g.len).Low,(fP g g.len).High,decide ((fP g g.len).Low<=(fP g g.len).High))) (λn i hi=>by
  rw[zjX,dZ omY,ed,bG omY,bG omY,bP omY,gU];rfl) (λn=>by
  rw[zjX,show g.len-1+1=g.len by omega,eU omY];rfl) E.N (by have:=N;omega)
 rw[show(0+1:Nat)=1 from rfl,zaU]at this;exact this
def plN(l:Line)(z:Int):Int:=l.Start.Num*l.dM.bT+l.dM.Num*z*l.Start.bT
def QA(l:Line):Int:=l.Start.bT*l.dM.bT
theorem zcN{s:straight}(S:yw s):(-2000000<=(fC s).dM.Num/\(fC s).dM.Num<=2000000)/\(-200000000000<=(fC s).Start.Num/\(fC s).Start.Num<=200000000000)/\(0<(fC s).dM.bT/\(fC s).dM.bT<=100000)/\0<(fC s).Start.bT/\(fC s).Start.bT<=100000:=by
 have h1:=S.1;have h2:=S.2.1;have h3:=S.2.2;have p:0<s.den:=by omega
 have a1:=zU (num:=s.bI) p;have a2:=GG (num:=s.bI) p;have a3:=jf (num:=s.bI) p;have b1:=zU (num:=s.start) p;have b2:=GG (num:=s.start) p;have b3:=jf (num:=s.start) p;show(_<=(red s.bI s.den).Num/\(red s.bI s.den).Num<=_)/\(_<=(red s.start s.den).Num/\(red s.start s.den).Num<=_)/\(_<(red s.bI s.den).bT/\(red s.bI s.den).bT<=_)/\_<(red s.start s.den).bT/\(red s.start s.den).bT<=_;omega
theorem TR{s:straight}(S:yw s)(z:Int):iL s z*QA (fC s)=plN (fC s) z*s.den:=by
  have p:0<s.den:=by have:=S.2.2;omega
  have a1:=oM (num:=s.bI) p;have a2:=mG (num:=s.bI) p;have b1:=oM (num:=s.start) p;have b2:=mG (num:=s.start) p;unfold iL QA plN;show(s.start+s.bI*z)*((red s.start s.den).bT*(red s.bI s.den).bT)=((red s.start s.den).Num*(red s.bI s.den).bT+(red s.bI s.den).Num*z*(red s.start s.den).bT)*s.den;generalize (Int.gcd s.bI s.den:Int)=G at a1 a2;generalize (Int.gcd s.start s.den:Int)=K at b1 b2;generalize (red s.bI s.den).Num=x at a1 ⊢;generalize (red s.bI s.den).bT=q at a2 ⊢;generalize (red s.start s.den).Num=u at b1 ⊢;generalize (red s.start s.den).bT=v at b2 ⊢;rw[qjx,qjx];have e1:s.start*(v*q)=u*q*s.den:=by
    calc s.start * (v * q) = K * u * (v * q) := by rw [b1]
      _=u*q*(K*v):=by ac_rfl
      _=u*q*s.den:=by rw[b2]
  have e2:s.bI*z*(v*q)=x*z*v*s.den:=by
    calc s.bI * z * (v * q) = G * x * z * (v * q) := by rw [a1]
      _=x*z*v*(G*q):=by ac_rfl
      _=x*z*v*s.den:=by rw[a2]
  rw[e1,e2]
theorem UT{s:straight}(S:yw s):0<QA (fC s):=by
 have:=zcN S;exact jqt this.2.2.2.1 this.2.2.1.1
theorem XD{s:straight}(S:yw s)(z n:Int):(n*QA (fC s)<=plN (fC s) z↔n*s.den<=iL s z)/\(plN (fC s) z<=n*QA (fC s)↔iL s z<=n*s.den):=by
 have p:0<s.den:=by have:=S.2.2;omega
 have d:=UT S;have c:=TR S z;generalize QA (fC s)=D at c d ⊢;generalize plN (fC s) z=M at c ⊢;generalize iL s z=X at c ⊢;have e:n*D*s.den=n*s.den*D:=by ac_rfl
 constructor
 ·constructor
  ·intro h;have:=NY h (yt p);refine dq9 (?_:n*s.den*D<=X*D) d;omega
  ·intro h;have:=NY h (yt d);refine dq9 (?_:n*D*s.den<=M*s.den) p;omega
 ·constructor
  ·intro h;have:=NY h (yt p);refine dq9 (?_:X*D<=n*s.den*D) d;omega
  ·intro h;have:=NY h (yt d);refine dq9 (?_:M*s.den<=n*D*s.den) p;omega
abbrev zrO(C:Line×Int->ae (Int×Int)):Prop:=∀s z,yw s->-200000<=z/\z<=200000->C (fC s,z)=.ok (plN (fC s) z,QA (fC s))
theorem zVh{E:zp9}:zrO (zqa E):=λs z S hz=>ae.ext λk=>by
 obtain⟨h1,h2,h3,h4⟩:=zcN S;have m1:=qy h2.1 h2.2 (yt h3.1) h3.2;have m2 : -400000000000<=(fC s).dM.Num*z/\(fC s).dM.Num*z<=400000000000:=by
  rcases qdX z 0 with h|h
  ·have:=qy (y := -z) (Y:=200000) h1.1 h1.2 omY omY;rw[qjl]at this;omega
  ·have:=qy (y:=z) (Y:=200000) h1.1 h1.2 h omY;omega
 have m3:=qy m2.1 m2.2 (yt h4.1) h4.2;have m4:=qy (x:=(fC s).Start.bT) (X:=100000) omY h4.2 (yt h3.1) h3.2;rw[e166,bn,bf (x:=(fC s).Start.Num*(fC s).dM.bT) omY omY,bf (x:=(fC s).dM.Num*z) omY omY,bf (x:=(fC s).dM.Num*z*(fC s).Start.bT) omY omY,bf omY omY,bf omY omY];rfl
abbrev zy9(C:Line×ay->ae Bool):Prop:=∀s g,yw s->gZ g->C (fC s,g)=.ok (mJ s g)
theorem zVi{E:zpk}(zax:zrO E.Uh):zy9 (zpl E):=λs g S G=>ae.ext λk=>by
 obtain⟨h1,h2,h3,h4⟩:=zcN S;have m4:=qy (x:=(fC s).Start.bT) (X:=100000) omY h4.2 (yt h3.1) h3.2;have d:=UT S;have m5:QA (fC s)<=10000000000:=m4.2;have l1:=qy (qF G).1 (qF G).2 (yt d) m5;have l2:=qy (rZ G).1 (rZ G).2 (yt d) m5;rw[e116,zax s g.Z S (by have:=G.1;omega),bn,bn];show cond (decide (aO (g.Low*QA (fC s))<=plN (fC s) g.Z)) (k (decide (plN (fC s) g.Z<=aO (g.High*QA (fC s))))) (k false)=_;rw[bf (x:=g.Low*QA (fC s)) omY omY,bf (x:=g.High*QA (fC s)) omY omY,kc k];congr 1;unfold mJ;have a:=(XD S g.Z g.Low).1;have b:=(XD S g.Z g.High).2;rw[Ut,pJ,<- a,<- b];by_cases h:g.Low*QA (fC s)<=plN (fC s) g.Z<;>simp[h]
abbrev Q55(C:Int×Int×Int×Int->ae Line):Prop:=∀z p y q,(0<=z/\z<=100000)->(0<=y/\y<=100000)->(-1000000<=p/\p<=1000000)->(-1000000<=q/\q<=1000000)->z≠y->C (z,p,y,q)=.ok (fC (EP z p y q))
theorem s55{E:E55}(h71:IV E.Uy):Q55 (F55 E):=λz p y q hz hy hp hq hn=>ae.ext λk=>by
 have b1:=qy hp.1 hp.2 hy.1 hy.2;have b2:=qy hq.1 hq.2 hz.1 hz.2;rw[e55,bn];unfold EP;by_cases h:z>y
 ·rw[dZ (show y<z from h),ed,eX h,zui,bf (x:=q*z) omY omY,bf (x:=p*y) omY omY,bf (x:=p-q) omY omY,bf (x:=z-y) omY omY,bf (x:=q*z-p*y) omY omY,
   h71 _ _ omY omY omY omY,bn,h71 _ _ omY omY omY omY,bn];rfl
 ·rw[eU (show ¬y<z from h),dS,fB h,zui,bf (x:=p*y) omY omY,bf (x:=q*z) omY omY,bf (x:=q-p) omY omY,bf (x:=y-z) omY omY,bf (x:=p*y-q*z) omY omY,
   h71 _ _ omY omY omY omY,bn,h71 _ _ omY omY omY omY,bn];rfl
abbrev zza(C:ay×Int->ae Int):Prop:=∀g e,C (g,e)=.ok (cond (e==0) g.Low g.High)
theorem zVj{E:zrr}:zza (zrt E):=λg e=>ae.ext λk=>by rw[e247,bn,kc k]
theorem zBW{α:Type}[bH α][sQ α](a b:α):GU [a,b] 0=a:=by
 show(bH.dec (IC (shp 8) (bH.enc a) (bH.enc a))).1=a;rw[kK (pO 8) (bH.sm _ _),sQ.de]
theorem zBX{α:Type}[bH α][sQ α](a b:α):GU [a,b] 1=b:=by
 show(bH.dec (IC (shp 8) (bH.enc a) (bH.enc b))).1=b;rw[kK (pO 8) (bH.sm _ _),sQ.de]
theorem XE{l:Sl aT}{p:Int}(h:rV l p=true){i:Nat}(hi:i<l.len):(0<=(l.get i).dQ.Low/\(l.get i).dQ.Low<=(l.get i).dQ.High/\(l.get i).dQ.High<=aO (p.tdiv 2)) /\
  (i=0\/((l.get (i-1)).Time<(l.get i).Time/\(l.get (i-1)).dQ.Low<=(l.get i).dQ.Low)):=by
 simp only[rV,gG,dI]at h;have:=h.1 i hi;simp only[stB,inB,gG,Zb,pJ]at this;exact⟨⟨this.1.1.2.1,this.1.1.2.2,this.1.2⟩,this.2.imp id λx=>⟨x.1.1,x.1.2⟩⟩
theorem TS{l:Sl aT}{p:Int}(h:rV l p=true):∀{j:Nat},j<l.len→∀{i:Nat},i<j→(l.get i).Time<(l.get j).Time∧(l.get i).dQ.Low≤(l.get j).dQ.Low
  | 0,_,_,hi=>absurd hi omY
  | j+1,hj,i,hi=>by
    have:=(XE h hj).2;rw[qjj]at this;rcases this with h0|⟨a,b⟩
    · omega
    · by_cases e : i = j
      · rw[e];exact⟨a,b⟩
      · obtain⟨c,d⟩:=TS h (j:=j) omY (i:=i) omY;omega
theorem XF(l:Sl aT)(t:Int):∀n,vI l t n=0∨∃i,i<n∧(l.get i).Time≤t∧vI l t n=(l.get i).dQ.Low
  | 0=>.inl rfl
  | n+1=>by
    simp only[vI];by_cases h:(l.get n).Time<=t
    · rw[dZ h];exact .inr ⟨n,omY,h,rfl⟩
    · rw [eU h];rcases XF l t n with e | ⟨i,a,b,c⟩
      · exact .inl e
      · exact .inr ⟨i,omY,b,c⟩
theorem XG(l:Sl aT)(t z:Int):∀d,d≤l.len→zo l t z d=z∨∃j,j<l.len∧t≤(l.get j).Time∧zo l t z d=(l.get j).dQ.High
  | 0,_=>.inl rfl
  | d+1,hd=>by
    simp only[zo];by_cases h:(l.get (l.len-1-d)).Time>=t
    · rw[dZ h];exact .inr ⟨l.len-1-d,omY,h,rfl⟩
    · rw [eU h];exact XG l t z d omY
theorem zrP{p:ak}(hp:YD p)(h:rV p.aT p.aS=true){t:Int}(ht:0<=t/\t<=1000000):0<=(uJ p t).1/\(uJ p t).1<=(uJ p t).2/\(uJ p t).2<=p.aS:=by
 obtain⟨_,_,_,_,hpi,_,_,_,_,hj,_⟩:=hp;have e1:aO (t-p.dP)=t-p.dP:=bf omY omY;have e2:aO (t+p.dP)=t+p.dP:=bf omY omY;have e4:0<=p.aS.tdiv 2/\p.aS.tdiv 2<=p.aS:=by
  rw[qdC omY];omega
 have e3:aO (p.aS.tdiv 2)=p.aS.tdiv 2:=bf omY omY;have a:=XF p.aT (t-p.dP) p.aT.len;have b:=XG p.aT (t+p.dP) (p.aS.tdiv 2) p.aT.len (kC _);unfold uJ;rw[e1,e2,e3];show 0<=vI _ _ _/\vI _ _ _<=zo _ _ _ _/\zo _ _ _ _<=_;rcases a with a|⟨i,a1,a2,a3⟩<;>rcases b with b|⟨j,b1,b2,b3⟩
 ·rw[a,b];omega
 ·rw[a,b3];have:=(XE h b1).1;rw[e3]at this;omega
 ·rw[a3,b];have:=(XE h a1).1;rw[e3]at this;omega
 ·rw [a3, b3];have x:=(XE h a1).1;have y:=(XE h b1).1;rw[e3] at x y;by_cases e:i=j
  ·subst e;omega
  ·have O5:i<j:=by
    rcases qd4 i j with h1|h1
    ·exact h1
    ·have:=(TS h a1 (i:=j) omY).1;omega
   have:=(TS h b1 O5).2;omega
theorem TT{p:ak}(hp:YD p){a b:Int}(h1:a<=b)(h2:p.First-p.aS-p.dN<=a)(h3:b<=p.First+(p.bM+1)*p.aS+p.dN):gZ (gate p a b):=by
 obtain⟨_,_,hz,hf,hpi,Fb,hsp,ho,_,_,_,hl,hr⟩:=hp;obtain⟨e1,e2,e3⟩:=zGm hf hpi Fb hsp ho;obtain⟨q1,q2⟩:=xW (a:=p.bM+1) (b:=p.aS) omY omY;refine⟨hz,?_⟩;show _<=aO (a+p.bC.Low)/\aO (a+p.bC.Low)<=aO (b+p.bC.High)/\aO (b+p.bC.High)<=_;rw[bf (x:=a+p.bC.Low) omY omY,bf (x:=b+p.bC.High) omY omY];omega
theorem zkL{p:ak}{a b c d:Int}(h1:gZ (gate p a b))(h2:gZ (gate p c d))(h:(gate p a b).Low<=(gate p c d).High):gZ ⟨p.Z,(gate p a b).Low,(gate p c d).High⟩ :=
 ⟨h1.1,h1.2.1,h,h2.2.2.2⟩
theorem zHg{b:Bool}{x y:Sl ay}(h1:∀i,i<x.len->gZ (x.get i))(h2:∀i,i<y.len->gZ (y.get i)){i:Nat}(hi:i<(cond b x y).len):gZ ((cond b x y).get i):=by
 cases b
 ·exact h2 i hi
 ·exact h1 i hi
theorem zzb{p:ak}(hp:YD p)(hb:plB p=true){h:bF}(hh:hpB p h=true){i:Nat}(hi:i<(gaP p h).len):gZ ((gaP p h).get i):=by
 simp only[hpB,inB,gG,pJ]at hh;obtain⟨⟨⟨⟨⟨hc,hm⟩,_⟩,_⟩,_⟩,hk⟩:=hh;obtain⟨hki,_,hz,hf,hpi,Fb,hsp,ho,_,hj,_,hl,hr⟩:=hp;have hp':YD p:=zGn hb;have q0:=xW (a:=h.Channel) (b:=p.aS) omY omY;have q1:=xW (a:=h.Channel+1) (b:=p.aS) omY omY;have q2:=xW (a:=h.Channel+h.jW-1) (b:=p.aS) omY omY;have q3:=xW (a:=p.bM+1) (b:=p.aS) omY omY;have m0:h.Channel*p.aS+p.aS<=(p.bM+1)*p.aS:=by
  have:=NY (show h.Channel+1<=p.bM+1 by omega) (show 0<=p.aS by omega);rw[qjx,qjU]at this;omega
 have m1:(h.Channel+1)*p.aS<=(p.bM+1)*p.aS:=NY omY omY;revert hi;unfold gaP;cases hk2:p.Kind != 2 with
 | true =>
  simp only[ed]
  rw[bf (x:=h.Channel+h.jW) omY omY,bf (x:=h.Channel+h.jW-1) omY omY,bf (x:=(h.Channel+h.jW-1)*p.aS) omY omY,bf (x:=p.First+(h.Channel+h.jW-1)*p.aS) omY omY,bf (x:=p.First+(h.Channel+h.jW-1)*p.aS-p.dN) omY omY,
   bf (x:=h.Channel+1) omY omY,bf (x:=(h.Channel+1)*p.aS) omY omY,bf (x:=p.First+(h.Channel+1)*p.aS) omY omY,bf (x:=p.First+(h.Channel+1)*p.aS+p.dN) omY omY]
  by_cases c:p.First+(h.Channel+h.jW-1)*p.aS-p.dN>p.First+(h.Channel+1)*p.aS+p.dN
  ·rw[dZ c];intro hi;exact absurd hi (UW _)
  ·rw [eU c];intro hi;exact TT hp' omY omY omY
 | false =>
  have hk3:p.Kind=2:=by simpa using hk2
  have hd:0<=h.aT/\h.aT<=1000000:=by
   simp only[knB,hk3,qdP,ed,inB,gG,pJ]at hk;exact hk.2
  have hs:rV p.aT p.aS=true:=by
   simp only[plB,gG,hk3,qdP,ed]at hb;exact hb.1.1.2
  obtain⟨r1,r2,r3⟩:=zrP hp' hs hd;simp only[dS];generalize uJ p h.aT=R at r1 r2 r3 ⊢;rw[bf (x:=h.Channel*p.aS) omY omY,bf (x:=p.First+h.Channel*p.aS) omY omY,bf (x:=p.First+h.Channel*p.aS-R.2) omY omY,bf (x:=p.First+h.Channel*p.aS-R.1) omY omY,bf (x:=p.First+h.Channel*p.aS+R.1) omY omY,bf (x:=p.First+h.Channel*p.aS+R.2) omY omY];have g1:gZ (gate p (p.First+h.Channel*p.aS-R.2) (p.First+h.Channel*p.aS-R.1)):=TT hp' omY omY omY;have g2:gZ (gate p (p.First+h.Channel*p.aS+R.1) (p.First+h.Channel*p.aS+R.2)):=TT hp' omY omY omY;have g3:(gate p (p.First+h.Channel*p.aS-R.2) (p.First+h.Channel*p.aS-R.1)).Low<=(gate p (p.First+h.Channel*p.aS+R.1) (p.First+h.Channel*p.aS+R.2)).High:=by
   show aO _<=aO _;rw[bf omY omY,bf omY omY];omega
  intro hi;refine zHg (λ_ _=>zkL g1 g2 g3) (λi hi=>?_) hi;have hi:i<2:=hi;rcases(show i=0\/i=1 by omega)with e|e<;>subst e
  ·show gZ (GU _ 0);rw[zBW];exact g1
  ·show gZ (GU _ 1);rw[zBX];exact g2
theorem zvy{s:au}(hs:fH s=true){h:bF}(hh:mD s h=true){i:Nat}(hi:i<(yC s h).len):gZ ((yC s h).get i):=by
 have hp:=MI hh;have h1:h.ak.toNat<s.aj.len:=by omega
 simp only[mD,gG,pJ]at hh;exact zzb (xE hs h1) (MH hs h1) hh.2 hi
abbrev jv:=List (Int×Int)
section
variable(ag:jv->Bool)(us:jv->Int->Bool)(sd:Nat->jv)
def gr:Nat→jv→Nat→List jv
  | 0,_,_=>[]
  | f+1,c,i=>(sd i).flatMap λp=>cond (us c p.1 || !ag (c++[p])) [] ((c++[p])::gr f (c++[p]) (p.1.toNat+1))
def O7:Nat→List jv→jv→Nat→List jv
  | 0,out,_,_=>out
  | f+1,out,c,i=>(sd i).foldl (λout p=>cond (us c p.1||(decide (2000<out.length) || !ag (c++[p]))) out (O7 f (out++[c++[p]]) (c++[p]) (p.1.toNat+1))) out
inductive Ch:jv→Nat→Prop
  | nil:Ch [] 0
  | snoc {c:jv} {i:Nat} {p:Int×Int}:Ch c i->p∈sd i->us c p.1=false->ag (c++[p])=true->Ch (c++[p]) (p.1.toNat+1)
end
section
variable{ag:jv->Bool}{us:jv->Int->Bool}{sd:Nat->jv}
theorem TU:∀{f c i x},x∈gr ag us sd f c i→∃p e,p∈sd i∧x=c++p::e
  | f+1,c,i,x,h=>by
    simp only[gr,lK]at h;obtain⟨p,hp,h⟩:=h;cases hc:us c p.1 || !ag (c++[p])with
    | true=>rw[hc]at h;cases h
    | false =>
      rw[hc]at h;rcases kR.1 h with h|h
      · exact⟨p,[],hp,h⟩
      · obtain⟨q,e,_,h⟩:=TU h;exact⟨p,q::e,hp,by rw[h];simp⟩
theorem zux:∀{f c i x},Ch ag us sd c i→x∈gr ag us sd f c i→∃j,Ch ag us sd x j
  | f+1,c,i,x,hc,h=>by
    simp only[gr,lK]at h;obtain⟨p,hp,h⟩:=h;cases hu:us c p.1 || !ag (c++[p])with
    | true=>rw[hu]at h;cases h
    | false =>
      rw[hu]at h;simp only[qjq,Bool.not_eq_false']at hu;have hn:=Ch.snoc hc hp hu.1 hu.2;rcases kR.1 h with h|h
      · exact⟨_,h▸hn⟩
      · exact zux hn h
theorem Ir(hs:∀i,(sd i).Nodup):∀f c i,(gr ag us sd f c i).Nodup
  | 0,_,_=>List.Pairwise.nil
  | f+1,c,i=>by
    rw[gr];unfold List.Nodup;rw[List.pairwise_flatMap];have pre:∀p,∀x∈cond (us c p.1 || !ag (c++[p])) [] ((c++[p])::gr ag us sd f (c++[p]) (p.1.toNat+1)),∃e,x=c++p::e:=λp x hx=>by
      cases hu:us c p.1 || !ag (c++[p])with
      | true=>rw[hu]at hx;cases hx
      | false =>
        rw[hu]at hx;rcases kR.1 hx with h|h
        · exact⟨[],h⟩
        · obtain⟨q,e,_,h⟩:=TU h;exact⟨q::e,by rw[h];simp⟩
    refine⟨λp _=>?_,(hs i).imp_of_mem fun {p q} _ _ hpq x hx y hy e=>?_⟩
    · cases us c p.1 || !ag (c++[p])with
      | true=>exact List.Pairwise.nil
      | false =>
        refine List.Pairwise.cons (λy hy e=>?_) (Ir hs f _ _);obtain⟨q,r,_,h⟩:=TU hy;rw[<- e]at h;have:=jX List.length h;simp at this
    · obtain⟨a,ha⟩:=pre p x hx;obtain⟨b,hb⟩:=pre q y hy;rw[ha,hb]at e;have:=List.append_cancel_left e;rw[GZ]at this;exact hpq this.1
theorem zkM:∀{f out c i},(out.length≤(O7 ag us sd f out c i).length)∧((O7 ag us sd f out c i).length≤2000→O7 ag us sd f out c i=out++gr ag us sd f c i)
  | 0,out,c,i=>⟨kC _,λ_=>by simp[O7,gr]⟩
  | f+1,out,c,i=>by
    simp only[O7,gr];generalize sd i=l
    induction l generalizing out with
    | nil=>exact⟨kC _,λ_=>by simp⟩
    | cons p l ih =>
      rw[YC,oK];cases hu:us c p.1 || !ag (c++[p])with
      | true =>
        have:(us c p.1||(decide (2000<out.length) || !ag (c++[p])))=true:=by
          revert hu;cases us c p.1<;>cases ag (c++[p])<;>simp
        rw[this];exact ih out
      | false =>
        have:(us c p.1||(decide (2000<out.length) || !ag (c++[p])))=decide (2000<out.length):=by
          revert hu;cases us c p.1<;>cases ag (c++[p])<;>simp
        rw[this,dS];by_cases h:2000<out.length
        · rw [dZ h];obtain⟨a,_⟩:=ih out;exact⟨a,λh2=>by have:_<=2000:=h2;rw[ed]at this;omega⟩
        · rw [eU h,dS];obtain⟨a,b⟩:=zkM (f:=f) (out:=out++[c++[p]]) (c:=c++[p]) (i:=p.1.toNat+1);obtain⟨a2,b2⟩:=ih (O7 ag us sd f (out++[c++[p]]) (c++[p]) (p.1.toNat+1));rw[Jz]at a;refine⟨omY,λh2=>?_⟩;rw[b2 h2,b omY];simp
theorem zcO:∀{f out c i x},Ch ag us sd c i→x∈O7 ag us sd f out c i→x∈out∨∃j,Ch ag us sd x j
  | 0,out,c,i,x,_,h=>.inl h
  | f+1,out,c,i,x,hc,h=>by
    simp only[O7]at h;have key:∀(l:jv)(out:List jv),(∀p∈l,p∈sd i)->x∈l.foldl (λout p=>cond (us c p.1||(decide (2000<out.length) || !ag (c++[p]))) out (O7 ag us sd f (out++[c++[p]]) (c++[p]) (p.1.toNat+1))) out->x∈out\/∃j,Ch ag us sd x j:=by
      intro l
      induction l with
      | nil=>intro out _ h;exact .inl h
      | cons p l ih =>
        intro out hp h;rw[YC]at h;have ih:=ih _ (λq hq=>hp q (jU _ hq)) h;rcases ih with ih|ih
        · cases hu:us c p.1||(decide (2000<out.length) || !ag (c++[p]))with
          | true=>rw[hu]at ih;exact .inl ih
          | false =>
            rw[hu]at ih;simp only[qjq,Bool.not_eq_false']at hu;have hn:=Ch.snoc hc (hp p lq) hu.1 hu.2.2;rcases zcO hn ih with h|h
            · rcases dU.1 h with h | h
              · exact .inl h
              · rw[mg.1 h];exact .inr ⟨_,hn⟩
            · exact .inr h
        · exact .inr ih
    exact key _ _ (λ_ h=>h) h
end
def fA(t:af):jv:=(List.range t.Hits.len).map λi=>(t.Hits.get i,t.bz.get i)
theorem kz(t:af):(fA t).length=t.Hits.len:=by simp[fA]
theorem QO{t:af}{i:Nat}(h:i<t.Hits.len):(fA t)[i]? = some (t.Hits.get i,t.bz.get i):=by
 simp[fA,qjv h]
def Ol(x:Int)(t:af):Prop:=t.View=x/\t.bz.len=t.Hits.len
def Cb(l:Sl bF)(c:jv)(i:Int):Bool:=c.any λq=>(l.get q.1.toNat).ak==(l.get i.toNat).ak
def O8(s:au)(l:Sl bF)(x:Int)(i:Nat):jv:=sdL s l x (l.len-i) i
theorem Et{i:Int}{y:Int×Int}:∀{d k},y∈sdK i d k↔y.1=i∧(k:Int)≤y.2∧y.2<((k+d:Nat):Int)
  | 0,k=>by
    refine⟨λh=>(by cases h),λh=>?_⟩;omega
  | d+1,k=>by
    rw[sdK,kR,Et];constructor
    · rintro (h | h)
      · rw[h];show i=i/\(k:Int)<=(k:Int)/\(k:Int)<_;omega
      · omega
    · intro h;by_cases e:y.2=(k:Int)
      · exact .inl (Prod.ext h.1 e)
      · exact .inr omY
theorem TV{s:au}{l:Sl bF}{x:Int}{y:Int×Int}:∀{d i},y∈sdL s l x d i↔((i:Int)≤y.1∧y.1<((i+d:Nat):Int))∧QN s l y.1.toNat=x∧0≤y.2∧y.2<(yD s l y.1.toNat:Int)
  | 0,i=>⟨λh=>(by cases h),λh=>by omega⟩
  | d+1,i=>by
    rw[sdL,dU,TV];constructor
    · rintro (h | h)
      · cases hv:QN s l i==x with
        | false=>rw[hv]at h;cases h
        | true =>
          rw[hv,ed,Et]at h;rw[h.1,gU];exact⟨omY,eq_of_beq hv,omY,omY⟩
      · exact⟨omY,h.2⟩
    · rintro ⟨h1, h2, h3, h4⟩;by_cases e:y.1=(i:Int)
      · refine .inl ?_;rw[e,gU]at h2 h4;rw[qdO.2 h2,ed,Et];exact⟨e,omY,omY⟩
      · exact .inr ⟨omY,h2,h3,h4⟩
theorem Y5{s:au}{l:Sl bF}{x:Int}{y:Int×Int}{i:Nat}(hi:i<=l.len):y∈O8 s l x i↔((i:Int)<=y.1/\y.1<(l.len:Int))/\QN s l y.1.toNat=x/\0<=y.2/\y.2<(yD s l y.1.toNat:Int):=by
 unfold O8;rw[TV,show i+(l.len-i)=l.len by omega]
theorem XH{s:au}{l:Sl bF}{x:Int}{y:Int×Int}{i:Nat}(h:y∈O8 s l x i):i<l.len/\((i:Int)<=y.1/\y.1<(l.len:Int))/\QN s l y.1.toNat=x/\0<=y.2/\y.2<(yD s l y.1.toNat:Int):=by
 by_cases hi:i<=l.len
 ·have:=(Y5 hi).1 h;exact⟨omY,this⟩
 ·unfold O8 at h;rw[show l.len-i=0 by omega]at h;cases h
theorem QB(i:Int):∀d k,(sdK i d k).Nodup
  | 0,_=>List.Pairwise.nil
  | d+1,k=>by
    rw[sdK];refine List.Pairwise.cons (λy hy e=>?_) (QB i d (k+1));have:=Et.1 hy;rw[<- e]at this;have:=this.2.1;simp only at this;omega
theorem QC(s:au)(l:Sl bF)(x:Int):∀d i,(sdL s l x d i).Nodup
  | 0,_=>List.Pairwise.nil
  | d+1,i=>by
    rw[sdL];unfold List.Nodup;rw[qdx];refine⟨?_,QC s l x d (i+1),λa ha b hb e=>?_⟩
    · cases QN s l i == x
      · exact List.Pairwise.nil
      · exact QB _ _ _
    · have h1:a.1=(i:Int):=by
        cases hv:QN s l i==x with
        | false=>rw[hv]at ha;cases ha
        | true=>rw[hv,ed]at ha;exact(Et.1 ha).1
      have:=(TV.1 hb).1;rw[<- e]at this;omega
structure Val (s : au) (l : Sl bF) (x : Int) (c : jv) (j : Nat) : Prop where
  le:c.length<=j/\j<=l.len
  mem:∀p∈c,(0<=p.1/\p.1<(j:Int))/\QN s l p.1.toNat=x/\0<=p.2/\p.2<(yD s l p.1.toNat:Int)
  pw:c.Pairwise λp q=>p.1<q.1/\(l.get p.1.toNat).ak≠(l.get q.1.toNat).ak
theorem Val.snoc{s:au}{l:Sl bF}{x:Int}{c:jv}{j:Nat}{p:Int×Int}(h:Val s l x c j)(hp:p∈O8 s l x j)(hu:Cb l c p.1=false):Val s l x (c++[p]) (p.1.toNat+1):=by
 obtain⟨h1,h2,h3,h4⟩:=XH hp;have hle:=h.le;refine⟨by rw[Jz];simp only[Cc,UJ];omega,λq hq=>?_,?_⟩
 ·rcases dU.1 hq with hq | hq
  ·have:=h.mem q hq;exact⟨omY,this.2⟩
  ·rw[mg.1 hq];exact⟨omY,h3,h4⟩
 ·rw [qdx];refine⟨h.pw,jq6 _ _,λa ha b hb=>?_⟩;rw[mg.1 hb];have:=(h.mem a ha).1;refine⟨omY,λe=>?_⟩;unfold Cb at hu;rw[qdK]at hu;exact hu a ha (by simpa using e)
theorem Uu{ag:jv->Bool}{s:au}{l:Sl bF}{x:Int}{c:jv}{j:Nat}(h:Ch ag (Cb l) (O8 s l x) c j):Val s l x c j:=by
 induction h with
 | nil=>exact⟨⟨kC _,Cf _⟩,(λp h=>by cases h),List.Pairwise.nil⟩
 | snoc _ hp hu _ ih=>exact ih.snoc hp hu
theorem zV{t:af}{c:jv}(hc:fA t=c){i:Nat}(hi:i<t.Hits.len):c[i]? = some (t.Hits.get i,t.bz.get i):=by rw[<- hc];exact QO hi
theorem Fa{s:au}{l:Sl bF}{x:Int}{t:af}{c:jv}{j:Nat}(hx:vwB x=true)(ht:Ol x t)(hc:fA t=c)(h:Val s l x c j)(hn:c≠[]):O1 s l t=true:=by
 have hlen:c.length=t.Hits.len:=by rw[<- hc,kz]
 have hle:=h.le;have pw:=qdk.1 h.pw;have ge:∀i (hi:i<t.Hits.len) (kN:i<c.length),c[i]=(t.Hits.get i,t.bz.get i):=λi hi kN=>by
  have:=zV hc hi;rw[BR kN]at this;exact YR this
 simp only[O1,gG,pJ,dI];refine⟨⟨⟨by rw[ht.1];exact hx,?_⟩,ht.2⟩,λi hi=>?_⟩
 ·rcases qjY t.Hits.len with h0 | h0
  ·rw[h0]at hlen;exact absurd (qjC.1 hlen) hn
  ·exact h0
 ·have kN : i < c.length := by omega
  have m:=h.mem c[i] (YY _);rw[ge i hi kN]at m;simp only[chP,gG,Zb,pJ,inB,usB,dI,NR,dq2];refine⟨⟨⟨⟨by simp only at m;omega,?_⟩,by rw[ht.1];exact m.2.1⟩,?_⟩,λk hk=>?_⟩
  ·rcases qjY i with h0 | h0
   ·exact .inl h0
   ·refine .inr ?_;have:=(pw (i-1) i omY kN omY).1;rw[ge i hi kN,ge (i-1) omY omY]at this;exact this
  ·have:=m.2.2;show 0<=t.bz.get i/\t.bz.get i<=((yD s l (t.Hits.get i).toNat:Nat):Int)-1;simp only at this;omega
  ·have:=(pw k i omY kN hk).2;rw[ge i hi kN,ge k omY omY]at this;exact this
def qx(s:au)(l:Sl bF)(c:jv):Sl ay:=gw z0 (λi=>(yC s (l.get ((c[i]?).getD (0,0)).1.toNat)).get ((c[i]?).getD (0,0)).2.toNat) c.length
theorem IY{s:au}{l:Sl bF}{t:af}{c:jv}(hc:fA t=c):gtS s l t=qx s l c:=by
 unfold gtS qx;rw[<- hc,kz];exact MJ λi hi=>by rw[QO hi];rfl
theorem EX{s:au}{l:Sl bF}{x:Int}{c:jv}{j:Nat}(he:Evt s l)(hl:l.len<=24)(h:Val s l x c j)(hn:c≠[]):dw (qx s l c):=by
 have e:(qx s l c).len=c.length:=EO _ _ _;have hle:=h.le;refine⟨λi hi=>?_,by
  rw[e];rcases qjY c.length with h0|h0
  ·exact absurd (qjC.1 h0) hn
  ·exact h0,omY⟩
 rw[e]at hi;show gZ ((gw z0 _ c.length).get i);rw[Ph hi,BR hi];have m:=h.mem c[i] (YY _);have m2:=m.2.2;show gZ ((yC s (l.get (c[i]).1.toNat)).get (c[i]).2.toNat);refine zvy he.se (dI.1 he.hi _ omY) ?_;show _<yD s l (c[i]).1.toNat;omega
def XI(g:Sl ay):Prop:=∀k,k<g.len->(g.get k).Z=(g.get 0).Z
theorem Om{g:Sl ay}:fQ g=true↔XI g:=by
 unfold fQ XI;rw[dI];exact⟨λh k hk=>eq_of_beq (h k hk),λh k hk=>qdO.2 (h k hk)⟩
theorem Ns{g:Sl ay}{i b:Nat}{x:straight}(hx:x∈BK (g.get i) (g.get b)):∀m k,k≤b→b<k+m→x∈Eo g i m k
  | 0,k,h1,h2=>by omega
  | m+1,k,h1,h2=>by
    show x∈BK (g.get i) (g.get k)++Eo g i m (k+1);by_cases h:k=b
    · rw[h];exact qd9 _ hx
    · exact qjJ _ (Ns hx m (k+1) omY omY)
theorem Nu{g:Sl ay}{a:Nat}{x:straight}(hx:x∈Eo g a (g.len-(a+1)) (a+1)):∀m i,i≤a→a<i+m→x∈OG g m i
  | 0,i,h1,h2=>by omega
  | m+1,i,h1,h2=>by
    show x∈Eo g i (g.len-(i+1)) (i+1)++OG g m (i+1);by_cases h:i=a
    · rw[h];exact qd9 _ hx
    · exact qjJ _ (Nu hx m (i+1) omY omY)
theorem zkN{z p y q:Int}(h:z≠y):EP z p y q=EP y q z p:=by
 unfold EP;by_cases h1:z>y
 ·rw[eX h1,fB (show ¬y>z by omega)]
 ·rw[fB h1,eX (show y>z by omega)]
theorem zHh{g:Sl ay}{a b:Nat}(ha:a<g.len)(hb:b<g.len)(hz:(g.get a).Z≠(g.get b).Z){p q:Int}(hp:p=(g.get a).Low\/p=(g.get a).High)(hq:q=(g.get b).Low\/q=(g.get b).High):EP (g.get a).Z p (g.get b).Z q∈cst g:=by
 have key:∀{a b:Nat}{p q:Int},a<b->b<g.len->(g.get a).Z≠(g.get b).Z->(p=(g.get a).Low\/p=(g.get a).High)->(q=(g.get b).Low\/q=(g.get b).High)->EP (g.get a).Z p (g.get b).Z q∈cst g:=fun {a b p q} h1 h2 hz hp hq=>by
  refine Nu (Ns ?_ _ _ h1 omY) _ 0 (Cf _) omY;unfold BK;rw[fB hz];rcases hp with rfl|rfl<;>rcases hq with rfl|rfl<;>simp
 rcases qd4 a b with h|h
 ·exact key h hb hz hp hq
 ·have:a≠b:=fun e=>hz (by rw [e]);rw[zkN hz];exact key omY ha (jqa hz) hq hp
theorem Eu{Q:Nat→Prop}{le:Nat→Nat→Prop}(tot:∀i j,Q i→Q j→le i j∨le j i)(tr:∀i j k,Q i→Q j→Q k→le i j→le j k→le i k):∀n,(∃k,k<n∧Q k)→∃k,k<n∧Q k∧∀j,j<n→Q j→le j k
  | 0,⟨k,h,_⟩=>absurd h (UW k)
  | n+1,hex=>by
    by_cases h:∃k,k<n/\Q k
    · obtain ⟨k, hk, qk, hm⟩ := Eu tot tr n h;by_cases qn:Q n
      · rcases tot n k qn qk with h1 | h1
        · exact⟨k,omY,qk,λj hj qj=>by
            by_cases e:j=n
            · rw[e];exact h1
            · exact hm j omY qj⟩
        · exact⟨n,omY,qn,λj hj qj=>by
            by_cases e:j=n
            · rw[e];rcases tot n n qn qn with h2|h2<;>exact h2
            · exact tr j k n qj qk qn (hm j omY qj) h1⟩
      · exact⟨k,omY,qk,λj hj qj=>hm j (by
          have:j≠n:=λe=>qn (e▸qj);omega) qj⟩
    · obtain⟨k,hk,qk⟩:=hex;have e:k=n:=by
        rcases qd4 k n with h1|h1
        · exact absurd ⟨k,h1,qk⟩ h
        · omega
      subst e;exact⟨k,omY,qk,λj hj qj=>by
        by_cases e:j=k
        · rw[e];rcases tot k k qk qk with h2|h2<;>exact h2
        · exact absurd ⟨j,omY,qj⟩ h⟩
def XJ(a b:straight):Prop:=a.bI*b.den<=b.bI*a.den
theorem TW{a b c:straight}(ha:0<a.den)(hb:0<b.den)(hc:0<c.den)(h1:XJ a b)(h2:XJ b c):XJ a c:=by
 unfold XJ at *;have y1:=NY h1 (yt hc);have y2:=NY h2 (yt ha);refine dq9 (a:=b.den) ?_ hb
 grind
def lcS(g:Sl ay)(i:Nat)(p:Int)(k:Nat):straight:=EP (g.get i).Z p (g.get k).Z (if(g.get k).Z>(g.get i).Z then(g.get k).Low else(g.get k).High)
def ucS(g:Sl ay)(i:Nat)(p:Int)(k:Nat):straight:=EP (g.get i).Z p (g.get k).Z (if(g.get k).Z>(g.get i).Z then(g.get k).High else(g.get k).Low)
theorem Nv{g:Sl ay}{i k:Nat}{p:Int}{c:straight}(he:iL c (g.get i).Z=p*c.den)(hz:(g.get k).Z≠(g.get i).Z):mJ c (g.get k)=true↔XJ (lcS g i p k) c/\XJ c (ucS g i p k):=by
 unfold mJ XJ lcS ucS EP;rw[pJ];unfold iL at *;by_cases h:(g.get k).Z>(g.get i).Z
 ·simp only [eX h, fB (show ¬ (g.get i).Z > (g.get k).Z by omega)];constructor
  ·intro⟨h1,h2⟩;constructor<;>grind
  ·intro⟨h1,h2⟩;constructor<;>grind
 ·simp only [fB h, eX (show (g.get i).Z > (g.get k).Z by omega)];constructor
  ·intro⟨h1,h2⟩;constructor<;>grind
  ·intro⟨h1,h2⟩;constructor<;>grind
theorem zcP{z p y q:Int}(h:z≠y):0<(EP z p y q).den:=by
 unfold EP;by_cases h1:z>y
 ·rw[eX h1];show 0<z-y;omega
 ·rw[fB h1];show 0<y-z;omega
theorem QD{g:Sl ay}{i k:Nat}{p:Int}{s c:straight}(ps:0<s.den)(pc:0<c.den)(he:iL s (g.get i).Z=p*s.den)(hc:iL c (g.get i).Z=p*c.den)(hz:(g.get k).Z=(g.get i).Z)(h:mJ s (g.get k)=true):mJ c (g.get k)=true:=by
 unfold mJ at *;rw[pJ]at *;rw[hz,he]at h;rw[hz,hc];exact⟨NY (dq9 h.1 ps) (yt pc),NY (dq9 h.2 ps) (yt pc)⟩
theorem rot{g:Sl ay}{s:straight}(hd:0<s.den)(ha:zx g s){i:Nat}(hi:i<g.len){p:Int}(hp:p=(g.get i).Low∨p=(g.get i).High)(he:iL s (g.get i).Z=p*s.den)(hn:∃k,k<g.len∧(g.get k).Z≠(g.get i).Z) :
  (∃c,wB g c/\0<c.den/\iL c (g.get i).Z=p*c.den/\XJ c s)/\∃c,wB g c/\0<c.den/\iL c (g.get i).Z=p*c.den/\XJ s c:=by
 have ld:∀k,(g.get k).Z≠(g.get i).Z->0<(lcS g i p k).den:=λk h=>zcP (jqa h);have ud:∀k,(g.get k).Z≠(g.get i).Z->0<(ucS g i p k).den:=λk h=>zcP (jqa h);have le1:∀k,(g.get k).Z≠(g.get i).Z->iL (lcS g i p k) (g.get i).Z=p*(lcS g i p k).den:=λk h=>(zaR (jqa h)).1;have ue1:∀k,(g.get k).Z≠(g.get i).Z->iL (ucS g i p k) (g.get i).Z=p*(ucS g i p k).den:=λk h=>(zaR (jqa h)).1;have sp:∀k,k<g.len->(g.get k).Z≠(g.get i).Z->XJ (lcS g i p k) s/\XJ s (ucS g i p k):=λk hk hz=>(Nv he hz).1 (ha k hk);constructor
 ·obtain ⟨k, hk, qk, hm⟩ := Eu (Q := fun k => (g.get k).Z ≠ (g.get i).Z) (le := fun a b => XJ (lcS g i p a) (lcS g i p b)) (fun a b _ _ => qjZ _ _) (fun a b c ha hb hc h1 h2 => TW (ld a ha) (ld b hb) (ld c hc) h1 h2) g.len hn;refine⟨lcS g i p k,⟨zHh hi hk (jqa qk) hp (by split <;> simp),λ j hj=>?_⟩,ld k qk,le1 k qk,(sp k hk qk).1⟩;by_cases hz:(g.get j).Z=(g.get i).Z
  ·exact QD hd (ld k qk) he (le1 k qk) hz (ha j hj)
  ·exact(Nv (le1 k qk) hz).2 ⟨hm j hj hz,TW (ld k qk) hd (ud j hz) (sp k hk qk).1 (sp j hj hz).2⟩
 ·obtain ⟨k, hk, qk, hm⟩ := Eu (Q := fun k => (g.get k).Z ≠ (g.get i).Z) (le := fun a b => XJ (ucS g i p b) (ucS g i p a)) (fun a b _ _ => qjZ _ _) (fun a b c ha hb hc h1 h2 => TW (ud c hc) (ud b hb) (ud a ha) h2 h1) g.len hn;refine⟨ucS g i p k,⟨zHh hi hk (jqa qk) hp (by split <;> simp),λ j hj=>?_⟩,ud k qk,ue1 k qk,(sp k hk qk).2⟩;by_cases hz:(g.get j).Z=(g.get i).Z
  ·exact QD hd (ud k qk) he (ue1 k qk) hz (ha j hj)
  ·exact(Nv (ue1 k qk) hz).2 ⟨TW (ld j hz) hd (ud k qk) (sp j hj hz).1 (sp k hk qk).2,hm j hj hz⟩
theorem zzc{g:Sl ay}(hl:1<=g.len){s:straight}(ha:zx g s):∃d,0<=d/\zx g ⟨s.bI,s.start-d,s.den⟩/\∃i,i<g.len/\iL ⟨s.bI,s.start-d,s.den⟩ (g.get i).Z=(g.get i).Low*s.den:=by
 obtain⟨k,hk,_,hm⟩:=Eu (Q:=λ_=>True) (le:=λa b=>iL s (g.get b).Z-(g.get b).Low*s.den<=iL s (g.get a).Z-(g.get a).Low*s.den) (λa b _ _=>qjZ _ _) (λa b c _ _ _ h1 h2=>qjK h2 h1) g.len ⟨0,hl,trivial⟩;have hk2:=xG ha hk;refine⟨iL s (g.get k).Z-(g.get k).Low*s.den,omY,λj hj=>dZ ?_,k,hk,by unfold iL;simp only;omega⟩;have h1:=hm j hj trivial;have h2:=xG ha hj;unfold iL at *;simp only;omega
theorem zzd{g:Sl ay}(hl:1<=g.len){s:straight}(ha:zx g s):∃d,0<=d/\zx g ⟨s.bI,s.start+d,s.den⟩/\∃i,i<g.len/\iL ⟨s.bI,s.start+d,s.den⟩ (g.get i).Z=(g.get i).High*s.den:=by
 obtain⟨k,hk,_,hm⟩:=Eu (Q:=λ_=>True) (le:=λa b=>(g.get b).High*s.den-iL s (g.get b).Z<=(g.get a).High*s.den-iL s (g.get a).Z) (λa b _ _=>qjZ _ _) (λa b c _ _ _ h1 h2=>qjK h2 h1) g.len ⟨0,hl,trivial⟩;have hk2:=xG ha hk;refine⟨(g.get k).High*s.den-iL s (g.get k).Z,omY,λj hj=>dZ ?_,k,hk,by unfold iL;simp only;omega⟩;have h1:=hm j hj trivial;have h2:=xG ha hj;unfold iL at *;simp only;omega
theorem XK{g:Sl ay}(nf:¬XI g)(i:Nat)(hi:i<g.len):∃k,k<g.len/\(g.get k).Z≠(g.get i).Z:=by
 by_cases h:∃k,k<g.len/\(g.get k).Z≠(g.get i).Z
 ·exact h
 ·have all:∀k,k<g.len→(g.get k).Z=(g.get i).Z:=fun k hk=>qdG fun e=>h ⟨k,hk,e⟩;exact absurd (λk hk=>(all k hk).trans (all 0 omY).symm) nf
theorem zcQ{a b:straight}{z p h:Int}(ha:iL a z=p*a.den)(hb:iL b z=p*b.den)(hs:XJ a b)(hh:z<=h):iL a h*b.den<=iL b h*a.den:=by
 have y:=NY hs (show 0<=h-z by omega);unfold iL at *;have e1:a.start=p*a.den-a.bI*z:=by omega
 have e2:b.start=p*b.den-b.bI*z:=by omega
 rw[e1,e2];clear ha hb hs e1 e2
 grind
theorem zcR{a b:straight}{z p h:Int}(ha:iL a z=p*a.den)(hb:iL b z=p*b.den)(hs:XJ a b)(hh:h<=z):iL b h*a.den<=iL a h*b.den:=by
 have y:=NY hs (show 0<=z-h by omega);unfold iL at *;have e1:a.start=p*a.den-a.bI*z:=by omega
 have e2:b.start=p*b.den-b.bI*z:=by omega
 rw[e1,e2];clear ha hb hs e1 e2
 grind
theorem lp{g:Sl ay}(hl:1≤g.len)(nf:¬XI g){s:straight}(hd:0<s.den)(ha:zx g s) :
  (∀h,(∃c,wB g c/\iL c h*s.den<=iL s h*c.den)/\∃c,wB g c/\iL s h*c.den<=iL c h*s.den)/\(∃c,wB g c/\XJ c s)/\∃c,wB g c/\XJ s c:=by
 obtain⟨d,d0,da,i,hi,di⟩:=zzc hl ha;obtain⟨e,e0,ea,j,hj,ej⟩:=zzd hl ha;obtain⟨⟨c1,c1c,c1d,c1p,c1s⟩,⟨c2,c2c,c2d,c2p,c2s⟩⟩:=rot (s:=⟨s.bI,s.start-d,s.den⟩) hd da hi (.inl rfl) di (XK nf i hi);obtain⟨⟨f1,f1c,f1d,f1p,f1s⟩,⟨f2,f2c,f2d,f2p,f2s⟩⟩:=rot (s:=⟨s.bI,s.start+e,s.den⟩) hd ea hj (.inr rfl) ej (XK nf j hj);have lo:∀{c:straight}{h:Int},0<c.den->iL c h*s.den<=iL ⟨s.bI,s.start-d,s.den⟩ h*c.den->iL c h*s.den<=iL s h*c.den:=fun {c h} pc k=>by
  have:=qjf d0 (yt pc);unfold iL at *;simp only at k
  grind
 have kN:∀{c:straight}{h:Int},0<c.den->iL ⟨s.bI,s.start+e,s.den⟩ h*c.den<=iL c h*s.den->iL s h*c.den<=iL c h*s.den:=fun {c h} pc k=>by
  have:=qjf e0 (yt pc);unfold iL at *;simp only at k
  grind
 refine⟨λh=>⟨?_,?_⟩,⟨c1,c1c,c1s⟩,⟨c2,c2c,c2s⟩⟩
 ·rcases qjZ (g.get i).Z h with k | k
  ·exact⟨c1,c1c,lo c1d (zcQ (b:=⟨s.bI,s.start-d,s.den⟩) c1p di c1s k)⟩
  ·exact⟨c2,c2c,lo c2d (zcR (a:=⟨s.bI,s.start-d,s.den⟩) di c2p c2s k)⟩
 ·rcases qjZ (g.get j).Z h with k | k
  ·exact⟨f2,f2c,kN f2d (zcQ (a:=⟨s.bI,s.start+e,s.den⟩) ej f2p f2s k)⟩
  ·exact⟨f1,f1c,kN f1d (zcR (b:=⟨s.bI,s.start+e,s.den⟩) f1p ej f1s k)⟩
def sW(lt:aP→aP→Bool)(f:Nat→aP):Nat→aP
  | 0=>f 0
  | n+1=>cond (lt (f n) (sW lt f n)) (f n) (sW lt f n)
theorem zaV{lt:aP→aP→Bool}{Q:aP→Prop}{f:Nat→aP}(irr:∀a,Q a→lt a a=false)(tr:∀a b c,Q a→Q b→Q c→lt a b=true→lt b c=true→lt a c=true) :
  ∀n,(∀i,i<n+1->Q (f i))->(∃i,i<n+1/\sW lt f (n+1)=f i)/\∀j,j<n+1->lt (f j) (sW lt f (n+1))=false
 | 0,hq=>by
  have e:sW lt f 1=f 0:=by simp only[sW];cases lt (f 0) (f 0)<;>rfl
  rw[e];exact⟨⟨0,omY,rfl⟩,λj hj=>by rw[show j=0 by omega];exact irr _ (hq 0 omY)⟩
 | n+1,hq=>by
  obtain⟨⟨i,hi,e⟩,h⟩:=zaV irr tr n λi hi=>hq i omY;have qe:Q (sW lt f (n+1)):=by rw[e];exact hq i omY
  rw[sW];cases hl:lt (f (n+1)) (sW lt f (n+1))with
  | true =>
   rw[ed];refine⟨⟨n+1,omY,rfl⟩,λj hj=>?_⟩;by_cases ej:j=n+1
   ·rw[ej];exact irr _ (hq _ omY)
   ·cases hx:lt (f j) (f (n+1))with
    | false=>rfl
    | true=>rw[<- h j omY,tr _ _ _ (hq j omY) (hq (n+1) omY) qe hx hl]
  | false =>
   rw[dS];refine⟨⟨i,omY,e⟩,λj hj=>?_⟩;by_cases ej:j=n+1
   ·rw[ej];exact hl
   ·exact h j omY
def ltB(a b:aP):Bool:=decide (cmF a b<0)
def gtB(a b:aP):Bool:=decide (cmF a b>0)
theorem Ew{a b:aP}:gtB a b=true↔yz b a:=by
 unfold gtB;rw[pJ,<- zkH];omega
theorem Ey{a b:aP}:ltB a b=true↔yz a b:=by
 unfold ltB;rw[pJ,zkG]
def Oc(z:Int)(s:straight):aP:=⟨iL s z,s.den⟩
def zbf(s:straight):aP:=⟨s.bI,s.den⟩
def loG(g:Sl ay)(F:straight->aP):aP:=sW ltB (λi=>F ((iZ g).dm.get i)) (jB g).length
def hiG(g:Sl ay)(F:straight->aP):aP:=sW gtB (λi=>F ((iZ g).dm.get i)) (jB g).length
abbrev loF(g:Sl ay)(z:Int):aP:=loG g (Oc z)
abbrev hiF(g:Sl ay)(z:Int):aP:=hiG g (Oc z)
theorem zy{g:Sl ay}(G:dw g){i:Nat}(h:i<(jB g).length):wB g ((iZ g).dm.get i):=by
 rw[vX g h];exact Jr G (YY _)
theorem zkQ{g:Sl ay}(G:dw g)(F:straight->aP)(hF:∀s,wB g s->0<(F s).bT)(h:0<(jB g).length):(∃s,wB g s/\loG g F=F s)/\∀s∈jB g,¬yz (F s) (loG g F):=by
  obtain⟨n,hn⟩:∃n,(jB g).length=n+1:=⟨(jB g).length-1,omY⟩
  have := zaV (lt := ltB) (Q := fun a => 0 < a.bT) (f := fun i => F ((iZ g).dm.get i)) (fun a _ => by cases e : ltB a a with | false => rfl | true => exact absurd (Ey.1 e) TP)
    (λa b c ha hb hc h1 h2=>Ey.2 (zaS ha hb hc (Ey.1 h1) (Ey.1 h2))) n λi hi=>hF _ (zy G (i:=i) omY)
  unfold loG;rw[hn];obtain⟨⟨i,hi,e⟩,h2⟩:=this;refine⟨⟨_,zy G (i:=i) omY,e⟩,λs hs hl=>?_⟩;obtain⟨j,hj,rfl⟩:=qdA hs;have:=h2 j omY;rw[vX g hj]at this;rw[Ey.2 hl]at this;cases this
theorem zkR{g:Sl ay}(G:dw g)(F:straight->aP)(hF:∀s,wB g s->0<(F s).bT)(h:0<(jB g).length):(∃s,wB g s/\hiG g F=F s)/\∀s∈jB g,¬yz (hiG g F) (F s):=by
  obtain⟨n,hn⟩:∃n,(jB g).length=n+1:=⟨(jB g).length-1,omY⟩
  have := zaV (lt := gtB) (Q := fun a => 0 < a.bT) (f := fun i => F ((iZ g).dm.get i)) (fun a _ => by cases e : gtB a a with | false => rfl | true => exact absurd (Ew.1 e) TP)
    (λa b c ha hb hc h1 h2=>Ew.2 (zaS hc hb ha (Ew.1 h2) (Ew.1 h1))) n λi hi=>hF _ (zy G (i:=i) omY)
  unfold hiG;rw[hn];obtain⟨⟨i,hi,e⟩,h2⟩:=this;refine⟨⟨_,zy G (i:=i) omY,e⟩,λs hs hl=>?_⟩;obtain⟨j,hj,rfl⟩:=qdA hs;have:=h2 j omY;rw[vX g hj]at this;rw[Ew.2 hl]at this;cases this
theorem zcS{g:Sl ay}(G:dw g)(z:Int)(s:straight)(h:wB g s):0<(Oc z s).bT:=by have:=(mi G h).2.2;show 0<s.den;omega
theorem zmC{g:Sl ay}(G:dw g)(z:Int)(h:0<(jB g).length):(∃s,wB g s/\loF g z=Oc z s)/\∀s∈jB g,¬yz (Oc z s) (loF g z):=zkQ G _ (zcS G z) h
theorem zmD{g:Sl ay}(G:dw g)(z:Int)(h:0<(jB g).length):(∃s,wB g s/\hiF g z=Oc z s)/\∀s∈jB g,¬yz (hiF g z) (Oc z s):=zkR G _ (zcS G z) h
def cmpL:List Int→List Int→Int
  | [],[]=>0
  | [],_::_=>-1
  | _::_,[]=>1
  | a::x,b::y=>cond (qQ a b != 0) (qQ a b) (cmpL x y)
theorem BL{a b:Int}:qQ a b=0↔a=b:=by
 unfold qQ;by_cases h:a<b
 ·rw[dZ h];simp;omega
 ·rw [eU h];by_cases k:a > b
  ·rw[dZ k];simp;omega
  ·rw[eU k];simp;omega
theorem zcT{a b:Int}:qQ a b<0↔a<b:=by
 unfold qQ;by_cases h:a<b
 ·rw[dZ h];simp[h]
 ·rw [eU h];cases decide (a>b)<;>simp[h]
theorem xw:∀{x y:List Int},cmpL x y<0↔(∃b y',x=[]∧y=b::y')∨∃a x' b y',x=a::x'∧y=b::y'∧(a<b∨a=b∧cmpL x' y'<0)
  | [],[]=>by simp[cmpL]
  | [],b::y=>by simp[cmpL]
  | a::x,[]=>by simp[cmpL]
  | a::x,b::y=>by
    simp only[cmpL];have e:((∃b' y',a::x=[]/\b::y=b'::y')\/∃a' x' b' y',a::x=a'::x'/\b::y=b'::y'/\(a'<b'\/a'=b'/\cmpL x' y'<0))↔(a<b\/a=b/\cmpL x y<0):=by
      constructor
      · rintro (⟨b', y', h, _⟩ | ⟨a', x', b', y', h1, h2, h⟩)
        · cases h
        · cases h1;cases h2;exact h
      · intro h;exact .inr ⟨a,x,b,y,rfl,rfl,h⟩
    rw[e];by_cases h:a=b
    · subst h;rw[show(qQ a a != 0)=false by rw[BL.2 rfl];rfl];simp
    · rw [show(qQ a b != 0)=true by simpa [BL]using h,ed,zcT];simp[h]
theorem BM:∀{x y:List Int},cmpL x y=0↔x=y
  | [],[]=>by simp[cmpL]
  | [],b::y=>by simp[cmpL]
  | a::x,[]=>by simp[cmpL]
  | a::x,b::y=>by
    simp only[cmpL];by_cases h:a=b
    · subst h;rw[show(qQ a a != 0)=false by rw[BL.2 rfl];rfl,dS,BM];simp
    · rw[show(qQ a b != 0)=true by simpa [BL]using h,ed,BL];simp[h]
theorem vY(x:List Int):¬cmpL x x<0:=by rw[BM.2 rfl];omega
theorem Ez:∀{x y z:List Int},cmpL x y<0→cmpL y z<0→cmpL x z<0
  | x,y,z,h1,h2=>by
    rw[xw]at h1 h2;rcases h1 with⟨b,y',rfl,rfl⟩|⟨a,x',b,y',rfl,rfl,h1⟩
    · rcases h2 with ⟨c, z', h, _⟩ | ⟨b', y'', c, z', h, rfl, h2⟩
      · cases h
      · exact xw.2 (.inl ⟨c,z',rfl,rfl⟩)
    · rcases h2 with ⟨c, z', h, _⟩ | ⟨b', y'', c, z', h, rfl, h2⟩
      · cases h
      · cases h;refine xw.2 (.inr ⟨a,x',c,z',rfl,rfl,?_⟩);rcases h1 with h1 | ⟨rfl,h1⟩ <;> rcases h2 with h2 | ⟨rfl,h2⟩
        · exact .inl omY
        · exact .inl h1
        · exact .inl h2
        · exact .inr ⟨rfl,Ez h1 h2⟩
theorem Nw:∀{x y:List Int},x≠y→cmpL x y<0∨cmpL y x<0
  | [],[],h=>absurd rfl h
  | [],b::y,_=>.inl (by simp[cmpL])
  | a::x,[],_=>.inr (by simp[cmpL])
  | a::x,b::y,h=>by
    rcases jqD a b with k|k|k
    · exact .inl (xw.2 (.inr ⟨a,x,b,y,rfl,rfl,.inl k⟩))
    · subst k;have:x ≠ y:=λ e=>h (by rw[e]);rcases Nw this with k | k
      · exact .inl (xw.2 (.inr ⟨a,x,a,y,rfl,rfl,.inr ⟨rfl,k⟩⟩))
      · exact .inr (xw.2 (.inr ⟨a,y,a,x,rfl,rfl,.inr ⟨rfl,k⟩⟩))
    · exact .inr (xw.2 (.inr ⟨b,y,a,x,rfl,rfl,.inl k⟩))
def pI(w:Sl Int):List Int:=(List.range w.len).map w.get
theorem Uw(w:Sl Int):(pI w).length=w.len:=by simp[pI]
def zrS(a b:af):Int:=cond (qQ a.View b.View != 0) (qQ a.View b.View) (cond (cmpL (pI a.Hits) (pI b.Hits) != 0) (cmpL (pI a.Hits) (pI b.Hits)) (cmpL (pI a.bz) (pI b.bz)))
def OI(a b:af):Prop:=a.View<b.View\/a.View=b.View/\(cmpL (pI a.Hits) (pI b.Hits)<0\/pI a.Hits=pI b.Hits/\cmpL (pI a.bz) (pI b.bz)<0)
theorem zrT{a b:af}:zrS a b<0↔OI a b:=by
 unfold zrS OI;by_cases h:a.View=b.View
 ·rw [show (qQ a.View b.View != 0) = false by rw [BL.2 h]; rfl, dS];by_cases k:pI a.Hits=pI b.Hits
  ·rw [show(cmpL (pI a.Hits) (pI b.Hits) != 0)=false by rw [BM.2 k];rfl,dS,BM.2 k];simp[h,k]
  ·rw [show(cmpL (pI a.Hits) (pI b.Hits) != 0)=true by simpa [BM]using k,ed];simp[h,k]
 ·rw [show(qQ a.View b.View != 0)=true by simpa [BL]using h,ed,zcT];simp[h]
theorem zcU(a:af):¬OI a a:=λh=>by
 rcases h with h|⟨_,h|⟨_,h⟩⟩
 ·omega
 ·exact vY _ h
 ·exact vY _ h
theorem zeX{a b c:af}(h:OI a b)(k:OI b c):OI a c:=by
 rcases h with h|⟨h,h2⟩<;>rcases k with k|⟨k,k2⟩
 ·exact .inl omY
 ·exact .inl omY
 ·exact .inl omY
 ·refine .inr ⟨omY, ?_⟩;rcases h2 with h2 | ⟨h2,h3⟩ <;> rcases k2 with k2 | ⟨k2,k3⟩
  ·exact .inl (Ez h2 k2)
  ·exact .inl (k2▸h2)
  ·exact .inl (h2▸k2)
  ·exact .inr ⟨h2.trans k2,Ez h3 k3⟩
theorem zkS{a b:af}(h:OI a b):¬OI b a:=λk=>zcU a (zeX h k)
theorem zgA{a b:af}(h:¬(a.View=b.View/\pI a.Hits=pI b.Hits/\pI a.bz=pI b.bz)):OI a b\/OI b a:=by
 rcases jqD a.View b.View with k|k|k
 ·exact .inl (.inl k)
 ·by_cases h1 : pI a.Hits = pI b.Hits
  ·have : pI a.bz ≠ pI b.bz := fun e => h ⟨k, h1, e⟩;rcases Nw this with h2 | h2
   ·exact .inl (.inr ⟨k,.inr ⟨h1,h2⟩⟩)
   ·exact .inr (.inr ⟨k.symm,.inr ⟨h1.symm,h2⟩⟩)
  ·rcases Nw h1 with h2 | h2
   ·exact .inl (.inr ⟨k,.inl h2⟩)
   ·exact .inr (.inr ⟨k.symm,.inl h2⟩)
 ·exact .inr (.inl k)
theorem zrU{a b:af}(h1:pI a.Hits=pI b.Hits)(h2:pI a.bz=pI b.bz)(ha:a.bz.len=a.Hits.len)(hb:b.bz.len=b.Hits.len):fA a=fA b:=by
 have l1:a.Hits.len=b.Hits.len:=by rw[<- Uw,<- Uw,h1]
 have key:∀t:af,t.bz.len=t.Hits.len->fA t=(pI t.Hits).zip (pI t.bz):=λt ht=>by
  unfold fA pI;rw[ht,List.zip_map']
 rw[key a ha,key b hb,h1,h2]
def yE(a b:af):Bool:=(fA b).all (λp=>(fA a).contains p)&&(b.View==a.View)
theorem zaW{a b:af}:yE a b=true↔(∀p∈fA b,p∈fA a)/\b.View=a.View:=by
 unfold yE;simp[Aa]
theorem zkT{t u:af}{p:Int×Int}(h1:u.Hits.len=t.Hits.len+1)(h2:∀j,j<t.Hits.len->u.Hits.get j=t.Hits.get j/\u.bz.get j=t.bz.get j)(h3:u.Hits.get t.Hits.len=p.1/\u.bz.get t.Hits.len=p.2):fA u=fA t++[p]:=by
 unfold fA;rw[h1,qjm,QQ];congr 1
 ·exact qdg λi hi=>by
   have:=h2 i (JC.1 hi);rw[this.1,this.2]
 ·show [(u.Hits.get t.Hits.len,u.bz.get t.Hits.len)]=[p];rw[h3.1,h3.2]
def ug(s:straight)(g:Sl ay):Nat→Sl Int
  | 0=>⟨0,λ_=>0⟩
  | i+1=>cond (mJ s (g.get i)) (oO (ug s g i) (i:Int)) (ug s g i)
theorem ES(s:straight)(g:Sl ay):∀i,(ug s g i).len≤i∧((ug s g i).len=i↔∀j,j<i→mJ s (g.get j)=true)∧(0<(ug s g i).len↔∃j,j<i∧mJ s (g.get j)=true)
  | 0=>⟨kC _,⟨λ_ j hj=>absurd hj (UW j),λ_=>rfl⟩,⟨λh=>absurd h (jq4 0),λ⟨j,hj,_⟩=>absurd hj (UW j)⟩⟩
  | i+1=>by
    obtain⟨a,b,c⟩:=ES s g i;simp only[ug];cases h:mJ s (g.get i)with
    | true =>
      show(ug s g i).len+1<=i+1/\((ug s g i).len+1=i+1↔_)/\(0<(ug s g i).len+1↔_);refine⟨omY,⟨λe j hj=>?_,λe=>?_⟩,⟨λ_=>⟨i,omY,h⟩,λ_=>by omega⟩⟩
      · by_cases k : j = i
        · rw[k];exact h
        · exact b.1 omY j omY
      · rw[b.2 λj hj=>e j omY]
    | false =>
      show(ug s g i).len<=i+1/\((ug s g i).len=i+1↔_)/\(0<(ug s g i).len↔_);refine⟨omY,⟨λe=>by omega,λe=>by rw[e i omY]at h;cases h⟩,c.trans ⟨λ⟨j,h1,h2⟩=>⟨j,omY,h2⟩,λ⟨j,h1,h2⟩=>⟨j,?_,h2⟩⟩⟩;have:j≠i:=λe=>by rw[e,h]at h2;cases h2
      omega
abbrev Q57(C:Line×Sl ay->ae (Sl Int)):Prop:=∀s (g:Sl ay),yw s->g.len<=1000->(∀i,i<g.len->gZ (g.get i))->C (fC s,g)=.ok (ug s g g.len)
theorem s57{E:E57}(N:Big E.N)(zBz:zy9 E.c116):Q57 (F57 E):=λs g S hl G=>ae.ext λk=>by
 rw[e57,bn];refine kV (X:=λn i=>WQ E n (fC s) g (i:Int) (ug s g i) k) (m:=g.len) (λn i hi=>?_) (λn=>?_) _ (by have:=N;omega)
 ·rw [zuj,dZ omY,ed,bG omY,gU,zBz s _ S (G i hi),bn,bP omY,jQ (by have:=(ES s g i).1;omega) omY];simp only[ug];cases mJ s (g.get i)<;>rfl
 ·rw[zuj,eU omY];rfl
def eL:Sl Line:=⟨0,λ_=>⟨⟨0,0⟩,⟨0,0⟩⟩⟩
def Ba(v:Sl Line)(l:List straight):Sl Line:=(l.map fC).foldl oO v
theorem vZ(v:Sl Line)(l:List straight):(Ba v l).len=v.len+l.length:=by unfold Ba;rw[uM,dqU]
theorem zA(v:Sl Line)(a b:List straight):Ba v (a++b)=Ba (Ba v a) b:=by unfold Ba;rw[QQ,jqB]
def xU(g:Sl ay):Sl Line:=Ba eL (cst g)
theorem zgB(g:Sl ay):(xU g).len=(cst g).length:=by unfold xU;rw[vZ];show 0+_=_;omega
theorem GX(g:Sl ay){i:Nat}(h:i<(cst g).length):(xU g).get i=fC (cst g)[i]:=by
 have:=AV ((cst g).map fC) eL i (fC (cst g)[i]) (by rw[qdc,BR h];rfl);rw[show(eL:Sl Line).len+i=i by show 0+i=i;omega]at this;exact this
abbrev zuy(C:Sl ay->ae (Sl Line)):Prop:=∀g,dw g->C g=.ok (xU g)
theorem zVm{E:Xi}(N:Big E.N)(zq8:zza E.zlw)(h55:Q55 E.c55):zuy (zq7 E):=λg G=>ae.ext λk=>by
 have hg:=G.2;have hN:=N;have inn:∀n0 n1 (i j:Nat) (w:Sl Line),i<g.len->j<g.len->w.len<=100000->Gy E n0 n1 E.N g (i:Int) (j:Int) 0 w k=Gx E n0 n1 g (i:Int) ((j+1:Nat):Int) (Ba w (BK (g.get i) (g.get j))) k:=by
  intro n0 n1 i j w hi hj hw;have gi:=G.1 i hi;have gj:=G.1 j hj;obtain⟨n,hn⟩:∃n,E.N=n+1+1+1+1+1:=⟨E.N-5,omY⟩
  have st:∀n (v:Int) (w:Sl Line) (p q:Int),(0<=v/\v<4)->w.len<=200000->(g.get i).Z≠(g.get j).Z->p=cond (aO (v.tdiv 2)==0) (g.get i).Low (g.get i).High->q=cond (v.tmod 2==0) (g.get j).Low (g.get j).High->(-1000000<=p/\p<=1000000)->(-1000000<=q/\q<=1000000) ->
    Gy E n0 n1 (n+1) g (i:Int) (j:Int) v w k=Gy E n0 n1 n g (i:Int) (j:Int) (v+1) (Ba w [EP (g.get i).Z p (g.get j).Z q]) k:=by
   intro n v w p q hv hw hz hp hq hpb hqb;rw[zaO,dZ (show v<4 by omega),ed];simp only[bG (show 0<=(i:Int)/\(i:Int)<(g.len:Int)by omega),bG (show 0<=(j:Int)/\(j:Int)<(g.len:Int)by omega)];rw[gU,gU,show((g.get i).Z != (g.get j).Z)=true by simpa using hz,ed,zq8,bn,zq8,bn,<- hp,<- hq,h55 _ _ _ _ gi.1 gj.1 hpb hqb hz,bn,jQ omY omY,bf omY omY];rfl
  unfold BK;rw[hn];by_cases hz:(g.get i).Z=(g.get j).Z
  ·rw [eX hz,zaO,dZ omY,ed,bG omY,bG omY,gU,gU,show((g.get i).Z != (g.get j).Z)=false by simpa using hz,dS,bP omY];rfl
  ·rw [fB hz]
   rw[st _ 0 w (g.get i).Low (g.get j).Low omY omY hz rfl rfl (qF gi) (qF gj),
    st _ (0+1) _ (g.get i).Low (g.get j).High omY (by rw[vZ];simp only[Cc,UJ];omega) hz rfl rfl (qF gi) (rZ gj),<- zA,
    st _ (0+1+1) _ (g.get i).High (g.get j).Low omY (by rw[vZ];simp only[Jz,Cc,UJ];omega) hz rfl rfl (rZ gi) (qF gj),<- zA,
    st _ (0+1+1+1) _ (g.get i).High (g.get j).High omY (by rw[vZ];simp only[Jz,Cc,UJ];omega) hz rfl rfl (rZ gi) (rZ gj),<- zA,zaO,eU omY,dS,bP omY]
   rfl
 have mid:∀n0 (i:Nat),i<g.len->∀(m j n1:Nat)(w:Sl Line),j+m=g.len->m<n1->w.len+4*m<=100000->Gx E n0 n1 g (i:Int) (j:Int) w k=Nc E n0 g ((i+1:Nat):Int) (Ba w (Eo g i m j)) k:=by
  intro n0 i hi m
  induction m with
  | zero =>
   intro j n1 w hj hn hw;obtain⟨n1,rfl⟩:∃n',n1=n'+1:=⟨n1-1,omY⟩;rw[zke,eU omY,dS,bP omY];rfl
  | succ m ih =>
   intro j n1 w hj hn hw;obtain⟨n1,rfl⟩:∃n',n1=n'+1:=⟨n1-1,omY⟩;have:=Xw (g.get i) (g.get j);rw[zke,dZ omY,ed,inn n0 n1 i j w hi omY omY,ih (j+1) n1 _ omY omY (by rw[vZ];omega),<- zA];rfl
 have out:∀(m i n:Nat)(w:Sl Line),i+m=g.len->m<n->w.len+96*m<=10000->Nc E n g (i:Int) w k=k (Ba w (OG g m i)):=by
  intro m
  induction m with
  | zero =>
   intro i n w hi hn hw;obtain⟨n,rfl⟩:∃n',n=n'+1:=⟨n-1,omY⟩;rw[zkd,eU omY];rfl
  | succ m ih =>
   intro i n w hi hn hw;obtain⟨n,rfl⟩:∃n',n=n'+1:=⟨n-1,omY⟩;have:=Xx g i (g.len-(i+1)) (i+1);rw[zkd,dZ omY,ed,bP omY,mid n i omY (g.len-(i+1)) (i+1) E.N w omY omY omY,ih (i+1) n _ omY omY (by rw[vZ];omega),<- zA];rfl
 rw[zUj,bn];exact out g.len 0 E.N eL omY omY (by show 0+_<=_;omega)
abbrev zze(C:Line×Sl ay->ae Bool):Prop:=∀s g,yw s->dw g->∃b,C (fC s,g)=.ok b
theorem zVn{E:zeS}(N:Big E.N)(zax:zrO E.Uh):zze (zru E):=λs g S G=>by
 have hg:=G.2;exact⟨_,ae.ext λk=>by
  rw[e248,bn];refine(loopA (L:=λn v=>TK E n (fC s) g v k) (p:=λi=>!(plN (fC s) (g.get i).Z==aO ((g.get i).Low*QA (fC s)))) (m:=g.len) (fin:=k false) (stop:=k true) omY (λn i hi=>?_) (λn=>?_) _ (by have:=N;omega)).trans (kc k _ _ _)
  ·have gi:=G.1 i hi;rw[zkp,dZ omY,ed,bG omY,gU,zax s _ S (by have:=gi.1;omega),bn,bG omY];show cond (plN (fC s) (g.get i).Z==aO ((g.get i).Low*QA (fC s))) _ _=_;cases plN (fC s) (g.get i).Z==aO ((g.get i).Low*QA (fC s))<;>rfl
  ·rw[zkp,eU omY];rfl⟩
def leB(a b:aP):Bool:=decide (aO (a.Num*b.bT)<aO (b.Num*a.bT))
abbrev Q56(C:aP×aP->ae Bool):Prop:=∀a b,C (a,b)=.ok (leB a b)
theorem s56{E:E56}:Q56 (F56 E):=λa b=>ae.ext λk=>by rw[e56,bn];rfl
abbrev zuz(C:Line×Line×Sl ay->ae Bool):Prop:=∀s t g,yw s->yw t->dw g->∃b,C (fC s,fC t,g)=.ok b
theorem zVo{E:zq9}(zrb:zze E.za2)(h56:Q56 E.YB):zuz (zra E):=λs t g S T G=>by
 obtain⟨a,ha⟩:=zrb s g S G;obtain⟨b,hb⟩:=zrb t g T G;exact⟨cond (a != b) a (cond a (leB (fC s).dM (fC t).dM) (leB (fC t).dM (fC s).dM)),ae.ext λk=>by
  rw[e226,ha,hb,bn,bn,bn,bn,h56,h56,bn,bn,kc k,kc k,bn]⟩
def LnS(g:Sl ay)(v:Sl Line):Prop:=∀i,i<v.len->∃s,s∈cst g/\v.get i=fC s
abbrev zuA(C:Sl ay->ae (Sl Line)):Prop:=∀g,dw g->∃L:Sl Line,C g=.ok L/\(0<L.len↔∃s∈cst g,zx g s)/\L.len<=2304/\LnS g L
theorem zVp{E:Qy}(N:Big E.N)(zqH:zuy E.zmk)(h57:Q57 E.c57)(zqI:zuz E.c226):zuA (zmd E):=λg G=>by
 have hg:=G.2;have hN:=N;have hc:=Og G;have hcd:=zgB g;have pos:∀n0 (i:Nat),i<(cst g).length->∀(v:Sl Line),LnS g v->v.len<=2304->∃a,a<=v.len/\∀(A:Type)(k:Sl Line->Option A),sV E n0 E.N g v (xU g) (i:Int) 0 k=qg E n0 g v (xU g) (i:Int) (a:Int) k:=by
  intro n0 i hi v hv hl;have key:∀(m j n1:Nat),j+m=v.len->m<n1->∃a,a<=v.len/\∀(A:Type)(k:Sl Line->Option A),sV E n0 n1 g v (xU g) (i:Int) (j:Int) k=qg E n0 g v (xU g) (i:Int) (a:Int) k:=by
   intro m
   induction m with
   | zero =>
    intro j n1 hj hn;obtain⟨n1,rfl⟩:∃n',n1=n'+1:=⟨n1-1,omY⟩;exact⟨j,omY,λA k=>by rw[zaJ,eU omY];rfl⟩
   | succ m ih =>
    intro j n1 hj hn;obtain⟨n1,rfl⟩:∃n',n1=n'+1:=⟨n1-1,omY⟩;obtain⟨s,hs,es⟩:=hv j omY;obtain⟨b,hb⟩:=zqI s (cst g)[i] g (rE G hs) (rE G (YY hi)) G;have st:∀(A:Type)(k:Sl Line->Option A),sV E n0 (n1+1) g v (xU g) (i:Int) (j:Int) k=cond b (sV E n0 n1 g v (xU g) (i:Int) ((j+1:Nat):Int) k) (qg E n0 g v (xU g) (i:Int) (j:Int) k):=λA k=>by
     rw[zaJ,dZ omY,ed,bG omY,bG omY,gU,gU,es,GX g hi,hb,bn,bP omY]
    cases b with
    | true =>
     obtain⟨a,h1,h2⟩:=ih (j+1) n1 omY omY;exact⟨a,h1,λA k=>by rw[st];exact h2 A k⟩
    | false=>exact⟨j,omY,λA k=>by rw[st];rfl⟩
  exact key v.len 0 E.N omY omY
 have key:∀(m i n:Nat)(v:Sl Line),i+m=(cst g).length->m<n->LnS g v->v.len<=i->∃L:Sl Line,(∀(A:Type)(k:Sl Line->Option A),lG E n g v (xU g) (i:Int) k=k L)/\(0<L.len↔0<v.len\/∃j,∃h:j<(cst g).length,i<=j/\zx g (cst g)[j])/\L.len<=(cst g).length/\LnS g L:=by
  intro m
  induction m with
  | zero =>
   intro i n v hi hn hv hl;obtain⟨n,rfl⟩:∃n',n=n'+1:=⟨n-1,omY⟩;exact⟨v,λA k=>by rw[zaI,eU omY];rfl,⟨.inl,λh=>h.elim id λ⟨j,h1,h2,_⟩=>by omega⟩,omY,hv⟩
  | succ m ih =>
   intro i n v hi hn hv hl;obtain⟨n,rfl⟩:∃n',n=n'+1:=⟨n-1,omY⟩;have kN:i<(cst g).length:=by omega
   have S:=rE G (YY kN);have pl:=ES (cst g)[i] g g.len;have st:∀(A:Type)(k:Sl Line->Option A),lG E (n+1) g v (xU g) (i:Int) k=cond (decide (((ug (cst g)[i] g g.len).len:Int)<(g.len:Int))) (lG E n g v (xU g) ((i+1:Nat):Int) k) (sV E n E.N g v (xU g) (i:Int) 0 k):=λA k=>by
    rw[zaI,dZ omY,ed,bG omY,gU,GX g kN,h57 _ g S omY G.1,bn,bP omY]
   by_cases ha:zx g (cst g)[i]
   ·have e : (ug (cst g)[i] g g.len).len = g.len := pl.2.1.2 ha;obtain⟨a,a1,a2⟩:=pos n i kN v hv omY;have st2:∀ (A:Type) (k:Sl Line->Option A),lG E (n+1) g v (xU g) (i:Int) k=qg E n g v (xU g) (i:Int) (a:Int) k:=λ A k=>by rw[st,eU omY,dS,a2]
    have ins:∃v':Sl Line,(∀(A:Type)(k:Sl Line->Option A),Gv E n g v (xU g) (i:Int) (a:Int) k=lG E n g v' (xU g) ((i+1:Nat):Int) k)/\v'.len=v.len+1/\LnS g v':=by
     refine⟨_,λA k=>by
      rw[zqG,bG omY,jQ omY omY,bG omY,jQ omY omY,bG omY,jQ omY omY,bP omY],?_,?_⟩
     ·show((((a:Int)-0).toNat+1)+((v.len:Int)-(a:Int)).toNat)=_;omega
     ·intro q hq;have hq:q < ((((a:Int) - 0).toNat+1)+((v.len:Int) - (a:Int)).toNat):=hq;show ∃ s,s∈cst g/\jL (((a:Int) - 0).toNat+1) (jL ((a:Int) - 0).toNat (EM v.get 0) (λ _=>(xU g).get (i:Int).toNat)) (EM v.get (a:Int).toNat) q=fC s;rw[je];split
      ·exact hv (q-(((a:Int)-0).toNat+1)+(a:Int).toNat) omY
      ·rw [je];split
       ·rw[gU,GX g kN];exact⟨_,YY kN,rfl⟩
       ·exact hv (q+0) omY
    obtain⟨v',i1,i2,i3⟩:=ins;have fin:∃v'':Sl Line,(∀(A:Type)(k:Sl Line->Option A),qg E n g v (xU g) (i:Int) (a:Int) k=lG E n g v'' (xU g) ((i+1:Nat):Int) k)/\0<v''.len/\v''.len<=i+1/\LnS g v'':=by
     by_cases h1:(a:Int)<(v.len:Int)
     ·have e3:∃B:Bool,∀(A:Type)(k:Sl Line->Option A),qg E n g v (xU g) (i:Int) (a:Int) k=cond B (lG E n g v (xU g) ((i+1:Nat):Int) k) (Gv E n g v (xU g) (i:Int) (a:Int) k):=⟨_,λA k=>by
       rw[zaK,dZ h1,ed,bG omY,bG omY,bP omY]⟩
      obtain⟨B,e3⟩:=e3;cases B with
      | true=>exact⟨v,λA k=>by rw[e3];rfl,omY,omY,hv⟩
      | false=>exact⟨v',λA k=>by rw[e3];exact i1 A k,omY,omY,i3⟩
     ·exact⟨v',λA k=>by rw[zaK,eU h1];exact i1 A k,omY,omY,i3⟩
    obtain⟨v'',f1,f2,f3,f4⟩:=fin;obtain⟨L,l1,l2,l3,l4⟩:=ih (i+1) n v'' omY omY f4 f3;exact⟨L,λA k=>by rw[st2,f1,l1],l2.trans ⟨λ_=>.inr ⟨i,kN,kC _,ha⟩,λ_=>.inl f2⟩,l3,l4⟩
   ·have e:(ug (cst g)[i] g g.len).len<g.len:=by
     rcases qd4 (ug (cst g)[i] g g.len).len g.len with h|h
     ·exact h
     ·exact absurd (pl.2.1.1 omY) ha
    obtain⟨L,l1,l2,l3,l4⟩:=ih (i+1) n v omY omY hv omY;refine⟨L,λA k=>by rw[st,dZ omY,ed,l1],l2.trans ⟨λh=>h.imp id λ⟨j,h1,h2,h3⟩=>⟨j,h1,omY,h3⟩,λh=>h.imp id λ⟨j,h1,h2,h3⟩=>⟨j,h1,?_,h3⟩⟩,l3,l4⟩;have:j≠i:=λe=>ha (by subst e;exact h3);omega
 obtain⟨L,l1,l2,l3,l4⟩:=key (cst g).length 0 E.N eL omY omY (λi hi=>absurd hi (UW i)) (kC _);refine⟨L,ae.ext λk=>by rw[zMU,zqH g G,bn,bn];exact l1 _ k,l2.trans ⟨λh=>?_,λ⟨s,hs,ha⟩=>?_⟩,omY,l4⟩
 ·rcases h with h | ⟨j, h1, _, h3⟩
  ·exact absurd h (jq4 0)
  ·exact⟨_,YY h1,h3⟩
 ·obtain⟨j,h1,rfl⟩:=qdA hs;exact .inr ⟨j,h1,Cf _,ha⟩
theorem IW{g:Sl ay}(G:dw g)(hf:fQ g=false):iG g=true↔∃s∈cst g,zx g s:=by
 unfold iG;rw[hf,dS,pJ];obtain⟨c1,c2,_⟩:=TN hf;constructor
 ·intro h;obtain⟨a,b⟩:=c1 _ (YY (l:=jB g) (n:=0) omY);exact⟨_,a,(Es G (rE G a)).1 b⟩
 ·rintro⟨s,hs,ha⟩;obtain⟨x,hx,_⟩:=c2 s hs ((Es G (rE G hs)).2 ha);have:=qjh hx;omega
abbrev zzf(C:Sl ay->ae Bool):Prop:=∀g,dw g->C g=.ok (iG g)
theorem zVq{E:zpK}(IE:zgH E.BU)(zeB:zuw E.c193)(YM:zuA E.c194):zzf (zpL E):=λg G=>ae.ext λk=>by
 have hg:=G.2;rw[zS7,IE g omY omY,bn,bn];cases hf:fQ g with
 | true =>
  rw[ed,zeB g omY omY,bn];unfold iG;rw[hf];rfl
 | false =>
  obtain⟨L,l1,l2,_⟩:=YM g G;rw[dS,l1,bn];congr 1;rw[Ut,IW G hf,<- l2,pJ];omega
def N7(z:Int):Prop:=-100000<=z/\z<=200000
abbrev zzg(C:straight×Int->ae aP):Prop:=∀s z,yw s->N7 z->C (s,z)=.ok (Oc z s)
theorem zVr{E:zqT}:zzg (zqU E):=λs z S hz=>ae.ext λk=>by
 rw[e203,bn,(zcJ S (z:=z) ⟨by have:=hz.1;omega,hz.2⟩).1];rfl
abbrev zzh(C:straight×Pt Int->ae aP):Prop:=∀s (z:Pt Int),yw s->N7 z.v->C (s,z)=.ok (Oc z.v s)
theorem zVs{E:zqR}(zyy:zzg E.c203):zzh (zqS E):=λs z S hz=>ae.ext λk=>by rw[zT8,zyy _ _ S hz]
theorem UN{s:straight}(S:yw s){z:Int}(hz:N7 z):(-600000000000<=(Oc z s).Num/\(Oc z s).Num<=600000000000)/\0<(Oc z s).bT/\(Oc z s).bT<=100000:=by
 have:=(zcJ S (z:=z) ⟨by have:=hz.1;omega,hz.2⟩).2;have:=S.2.2;exact⟨‹_›,by show 0<s.den;omega,by show s.den<=_;omega⟩
def QE(f:aP):Prop:=(-600000000000<=f.Num/\f.Num<=600000000000)/\0<f.bT/\f.bT<=100000
theorem XL{a b:aP}(h1:QE a)(h2:QE b):aO (a.Num*b.bT)=a.Num*b.bT:=by
 have:=qy h1.1.1 h1.1.2 (yt h2.2.1) h2.2.2;exact bf omY omY
abbrev zzi(C:aP×aP->ae Bool):Prop:=∀a b,QE a->QE b->C (a,b)=.ok (ltB a b)
theorem zVt{E:zqd}(MX:zkF E.EE):zzi (zqe E):=λa b h1 h2=>ae.ext λk=>by rw[e169,MX _ _ (XL h1 h2) (XL h2 h1),bn,bn];rfl
abbrev zzj(C:aP×aP->ae Bool):Prop:=∀a b,QE a->QE b->C (a,b)=.ok (gtB a b)
theorem zVu{E:zqh}(MX:zkF E.EE):zzj (zqi E):=λa b h1 h2=>ae.ext λk=>by rw[zTC,MX _ _ (XL h1 h2) (XL h2 h1),bn,bn];rfl
abbrev zzk:=dY 169 Unit Unit ⊕ dY 171 Unit Unit
def nG:zzk→aP→aP→Bool
  | .inl _=>ltB
  | .inr _=>gtB
abbrev QEx{γ:Type}(i:γ->zzk)(C:Sl aP×γ->ae aP):Prop:=∀(l:Sl aP)(c:γ),0<l.len->l.len<=10000->(∀i,i<l.len->QE (l.get i))->C (l,c)=.ok (sW (nG (i c)) l.get l.len)
abbrev zrV(C:Sl aP×zzk->ae aP):Prop:=QEx id C
theorem XM{lt:aP->aP->Bool}{f:Nat->aP}:sW lt f 1=f 0:=by simp only[sW];cases lt (f 0) (f 0)<;>rfl
theorem XN{lt:aP->aP->Bool}{f:Nat->aP}{n:Nat}:sW lt f (n+1)=cond (lt (f n) (sW lt f n)) (f n) (sW lt f n):=rfl
theorem EC{lt:aP→aP→Bool}{f:Nat→aP}:∀n,∃i,i<n+1∧sW lt f (n+1)=f i
  | 0=>⟨0,omY,XM⟩
  | n+1=>by
    obtain⟨i,hi,e⟩:=EC (lt:=lt) (f:=f) n;rw[XN];cases lt (f (n+1)) (sW lt f (n+1))with
    | true=>exact⟨n+1,omY,rfl⟩
    | false=>exact⟨i,omY,e⟩
theorem zkU{E:vO}(N:Big E.N)(zyo:zzi E.zsq):QEx .inl (DX E):=λl c h0 hl hp=>ae.ext λk=>by
 rw[zjL,bn,bG omY,bG omY,<- XM (lt:=nG (.inl c)) (f:=l.get)];have hm:(((l.len:Int)-1).toNat:Int)=((l.len-1:Nat):Int):=by omega
 refine(kV (X:=λn i=>oD E n l (i:Int) (sW (nG (.inl c)) l.get (i+1)) k) (m:=l.len-1) (fin:=k (sW (nG (.inl c)) l.get l.len)) (λn i hi=>?_) (λn=>?_) E.N (by have:=N;omega))
 ·obtain ⟨j, hj, e⟩ := EC (lt := nG (.inl c)) (f := l.get) i;have hq:QE (sW (nG (.inl c)) l.get (i+1)):=by rw[e];exact hp j omY
  rw[MV,hm,dZ omY,ed,bG omY,gU,show EM l.get 1 i=l.get (i+1)from rfl,zyo _ _ (hp (i+1) omY) hq,bn,bP omY,XN (n:=i+1)];show cond (ltB (l.get (i+1)) (sW (nG (.inl c)) l.get (i+1))) _ _=oD E n l _ (cond (ltB (l.get (i+1)) (sW (nG (.inl c)) l.get (i+1))) _ _) k;cases ltB (l.get (i+1)) (sW (nG (.inl c)) l.get (i+1))<;>rfl
 ·rw[MV,hm,eU omY,show l.len-1+1=l.len by omega];rfl
theorem zkV{E:vP}(N:Big E.N)(zyp:zzj E.c171):QEx .inr (DY E):=λl c h0 hl hp=>ae.ext λk=>by
 rw[zjN,bn,bG omY,bG omY,<- XM (lt:=nG (.inr c)) (f:=l.get)];have hm:(((l.len:Int)-1).toNat:Int)=((l.len-1:Nat):Int):=by omega
 refine(kV (X:=λn i=>oG E n l (i:Int) (sW (nG (.inr c)) l.get (i+1)) k) (m:=l.len-1) (fin:=k (sW (nG (.inr c)) l.get l.len)) (λn i hi=>?_) (λn=>?_) E.N (by have:=N;omega))
 ·obtain ⟨j, hj, e⟩ := EC (lt := nG (.inr c)) (f := l.get) i;have hq:QE (sW (nG (.inr c)) l.get (i+1)):=by rw[e];exact hp j omY
  rw[MW,hm,dZ omY,ed,bG omY,gU,show EM l.get 1 i=l.get (i+1)from rfl,zyp _ _ (hp (i+1) omY) hq,bn,bP omY,XN (n:=i+1)];show cond (gtB (l.get (i+1)) (sW (nG (.inr c)) l.get (i+1))) _ _=oG E n l _ (cond (gtB (l.get (i+1)) (sW (nG (.inr c)) l.get (i+1))) _ _) k;cases gtB (l.get (i+1)) (sW (nG (.inr c)) l.get (i+1))<;>rfl
 ·rw[MW,hm,eU omY,show l.len-1+1=l.len by omega];rfl
theorem zVv{f:Sl aP×dY 169 Unit Unit->ae aP}{g:Sl aP×dY 171 Unit Unit->ae aP}(a:QEx .inl f)(b:QEx .inr g):zrV (ae.two f g):=λl c h0 hl hp=>by
 rcases c with c|c
 ·exact a l c h0 hl hp
 ·exact b l c h0 hl hp
abbrev zzm(C:straight->ae aP):Prop:=∀s,C s=.ok (zbf s)
theorem zVw{E:zpo}:zzm (zpp E):=λs=>ae.ext λk=>by rw[e120,bn];rfl
abbrev zeY:=dY 202 Unit (Pt Int) ⊕ dY 120 Unit Unit
def iR:zeY→straight→aP
  | .inl c=>Oc c.v.v
  | .inr _=>zbf
def okB:zeY→Prop
  | .inl c=>N7 c.v.v
  | .inr _=>True
theorem TY{g:Sl ay}(G:dw g){c:zeY}(hc:okB c){s:straight}(h:wB g s):QE (iR c s):=by
 have S:=mi G h;rcases c with c|c
 ·exact UN S hc
 ·have:=S.1;have:=S.2.2;exact⟨by show -600000000000<=s.bI/\s.bI<=600000000000;omega,by show 0<s.den;omega,by show s.den<=100000;omega⟩
def yA(g:Sl ay)(F:straight→aP):Nat→Sl aP
  | 0=>⟨0,λ_=>⟨0,0⟩⟩
  | i+1=>oO (yA g F i) (F ((iZ g).dm.get i))
theorem iM(g:Sl ay)(F:straight→aP):∀n,(yA g F n).len=n
  | 0=>rfl
  | n+1=>by show(yA g F n).len+1=n+1;rw[iM g F n]
theorem xx(g:Sl ay)(F:straight→aP):∀n i,i<n→(yA g F n).get i=F ((iZ g).dm.get i)
  | n+1,i,h=>by
    show jL (yA g F n).len (yA g F n).get (λ_=>F ((iZ g).dm.get n)) i=_;rw[je,iM];by_cases e:i=n
    · rw[eX omY,e]
    · rw[fB omY,xx g F n i omY]
theorem wo{lt:aP→aP→Bool}{f g:Nat→aP}:∀n,(∀i,i<n+1→f i=g i)→sW lt f (n+1)=sW lt g (n+1)
  | 0,h=>by rw[XM,XM,h 0 omY]
  | n+1,h=>by rw[XN,XN (f:=g) (n:=n+1),wo n λi hi=>h i omY,h (n+1) omY]
theorem zuB{g:Sl ay}(G:dw g){c:zeY}(hc:okB c)(h0:0<(jB g).length):QE (loG g (iR c))/\QE (hiG g (iR c)):=by
 obtain⟨n,hn⟩:∃n,(jB g).length=n+1:=⟨(jB g).length-1,omY⟩;have pok:∀i,i<n+1->QE (iR c ((iZ g).dm.get i)):=λi hi=>TY G hc (zy G omY);unfold loG hiG;rw[hn];obtain⟨i,i2,i3⟩:=EC (lt:=ltB) (f:=λi=>iR c ((iZ g).dm.get i)) n;obtain⟨j,j2,j3⟩:=EC (lt:=gtB) (f:=λi=>iR c ((iZ g).dm.get i)) n;exact⟨by rw[i3];exact pok i i2,by rw[j3];exact pok j j2⟩
abbrev QBd{γ:Type}(i:γ->zeY)(C:set×γ->ae (aP×aP)):Prop:=∀g (c:γ),dw g->okB (i c)->0<(jB g).length->C (iZ g,c)=.ok (red (loG g (iR (i c))).Num (loG g (iR (i c))).bT,red (hiG g (iR (i c))).Num (hiG g (iR (i c))).bT)
abbrev zvz(C:set×zeY->ae (aP×aP)):Prop:=QBd id C
theorem zkW{E:vJ}(N:Big E.N)(zx7:zzh E.zsx)(Tu:zrV E.c168)(qP:IV E.kJ):QBd .inl (DR E):=λg c G hz h0=>ae.ext λk=>by
 have hl:=Jq G;have hs:=Ep g;have pok:∀i,i<(jB g).length->QE (iR (.inl c) ((iZ g).dm.get i)):=λi hi=>TY G hz (zy G hi);obtain⟨pl,ph⟩:=zuB G hz h0;rw[zjw,bn];refine kV (X:=λn i=>wY E n (iZ g) c (i:Int) (yA g (iR (.inl c)) i) k) (m:=(jB g).length) (λn i hi=>?_) (λm=>?_) _ (by have:=N;omega)
 ·rw[MN,hs,dZ omY,ed,bG omY,gU,zx7 _ _ (mi G (zy G hi)) hz,bn,jQ (by rw[iM];omega) omY,bP omY];rfl
 ·obtain⟨n,hn⟩:∃n,(jB g).length=n+1:=⟨(jB g).length-1,by omega⟩;have hp:∀i,i<(yA g (iR (.inl c)) (jB g).length).len->QE ((yA g (iR (.inl c)) (jB g).length).get i):=λi hi=>by
   rw[iM]at hi;rw[xx _ _ _ _ hi];exact pok i hi
  rw[MN,hs,eU omY,dS,Tu _ _ (by rw[iM];omega) (by rw[iM];omega) hp,bn,Tu _ _ (by rw[iM];omega) (by rw[iM];omega) hp,bn];have e1:sW (nG (.inl ⟨(),()⟩)) (yA g (iR (.inl c)) (jB g).length).get (yA g (iR (.inl c)) (jB g).length).len=loG g (iR (.inl c)):=by
   rw[iM];unfold loG;rw[hn];exact wo n λi hi=>xx _ _ _ _ hi
  have e2:sW (nG (.inr ⟨(),()⟩)) (yA g (iR (.inl c)) (jB g).length).get (yA g (iR (.inl c)) (jB g).length).len=hiG g (iR (.inl c)):=by
   rw[iM];unfold hiG;rw[hn];exact wo n λi hi=>xx _ _ _ _ hi
  show(E.kJ ((sW (nG (.inl ⟨(),()⟩)) (yA g (iR (.inl c)) (jB g).length).get (yA g (iR (.inl c)) (jB g).length).len).Num,(sW (nG (.inl ⟨(),()⟩)) (yA g (iR (.inl c)) (jB g).length).get (yA g (iR (.inl c)) (jB g).length).len).bT)).T (λr4=>(E.kJ ((sW (nG (.inr ⟨(),()⟩)) (yA g (iR (.inl c)) (jB g).length).get (yA g (iR (.inl c)) (jB g).length).len).Num,(sW (nG (.inr ⟨(),()⟩)) (yA g (iR (.inl c)) (jB g).length).get (yA g (iR (.inl c)) (jB g).length).len).bT)).T λr5=>k (r4,r5))=_;rw[e1,e2,qP _ _ (by have:=pl.1;omega) (by have:=pl.1;omega) pl.2.1 (by have:=pl.2.2;omega),bn,qP _ _ (by have:=ph.1;omega) (by have:=ph.1;omega) ph.2.1 (by have:=ph.2.2;omega),bn]
theorem zkX{E:vK}(N:Big E.N)(zx8:zzm E.zsh)(Tu:zrV E.c168)(qP:IV E.kJ):QBd .inr (DT E):=λg c G hz h0=>ae.ext λk=>by
 have hl:=Jq G;have hs:=Ep g;have pok:∀i,i<(jB g).length->QE (iR (.inr c) ((iZ g).dm.get i)):=λi hi=>TY G hz (zy G hi);obtain⟨pl,ph⟩:=zuB G hz h0;rw[zjy,bn];refine kV (X:=λn i=>wZ E n (iZ g) (i:Int) (yA g (iR (.inr c)) i) k) (m:=(jB g).length) (λn i hi=>?_) (λm=>?_) _ (by have:=N;omega)
 ·rw[MO,hs,dZ omY,ed,bG omY,gU,zx8,bn,jQ (by rw[iM];omega) omY,bP omY];rfl
 ·obtain⟨n,hn⟩:∃n,(jB g).length=n+1:=⟨(jB g).length-1,by omega⟩;have hp:∀i,i<(yA g (iR (.inr c)) (jB g).length).len->QE ((yA g (iR (.inr c)) (jB g).length).get i):=λi hi=>by
   rw[iM]at hi;rw[xx _ _ _ _ hi];exact pok i hi
  rw[MO,hs,eU omY,dS,Tu _ _ (by rw[iM];omega) (by rw[iM];omega) hp,bn,Tu _ _ (by rw[iM];omega) (by rw[iM];omega) hp,bn];have e1:sW (nG (.inl ⟨(),()⟩)) (yA g (iR (.inr c)) (jB g).length).get (yA g (iR (.inr c)) (jB g).length).len=loG g (iR (.inr c)):=by
   rw[iM];unfold loG;rw[hn];exact wo n λi hi=>xx _ _ _ _ hi
  have e2:sW (nG (.inr ⟨(),()⟩)) (yA g (iR (.inr c)) (jB g).length).get (yA g (iR (.inr c)) (jB g).length).len=hiG g (iR (.inr c)):=by
   rw[iM];unfold hiG;rw[hn];exact wo n λi hi=>xx _ _ _ _ hi
  show(E.kJ ((sW (nG (.inl ⟨(),()⟩)) (yA g (iR (.inr c)) (jB g).length).get (yA g (iR (.inr c)) (jB g).length).len).Num,(sW (nG (.inl ⟨(),()⟩)) (yA g (iR (.inr c)) (jB g).length).get (yA g (iR (.inr c)) (jB g).length).len).bT)).T (λr4=>(E.kJ ((sW (nG (.inr ⟨(),()⟩)) (yA g (iR (.inr c)) (jB g).length).get (yA g (iR (.inr c)) (jB g).length).len).Num,(sW (nG (.inr ⟨(),()⟩)) (yA g (iR (.inr c)) (jB g).length).get (yA g (iR (.inr c)) (jB g).length).len).bT)).T λr5=>k (r4,r5))=_;rw[e1,e2,qP _ _ (by have:=pl.1;omega) (by have:=pl.1;omega) pl.2.1 (by have:=pl.2.2;omega),bn,qP _ _ (by have:=ph.1;omega) (by have:=ph.1;omega) ph.2.1 (by have:=ph.2.2;omega),bn]
theorem zVx{f:set×dY 202 Unit (Pt Int)->ae (aP×aP)}{g:set×dY 120 Unit Unit->ae (aP×aP)}(a:QBd .inl f)(b:QBd .inr g):zvz (ae.two f g):=λw c G hz h0=>by
 rcases c with c|c
 ·exact a w c G hz h0
 ·exact b w c G hz h0
def xB(g:Sl ay)(z:Int):aP×aP:=cond (fQ g) (red (fP g g.len).Low 1,red (fP g g.len).High 1) (red (loF g z).Num (loF g z).bT,red (hiF g z).Num (hiF g z).bT)
theorem Oh{g:Sl ay}(G:∀i,i<g.len→gZ (g.get i))(h0:0<g.len):∀n,n≤g.len→(-1000000≤(fP g n).Low∧(fP g n).Low≤1000000) ∧ -1000000≤(fP g n).High∧(fP g n).High≤1000000
  | 0,_=>⟨qF (G 0 h0),rZ (G 0 h0)⟩
  | n+1,h=>by
    obtain⟨a,b⟩:=Oh G h0 n omY;have c:=qF (G n omY);have d:=rZ (G n omY);simp only[fP];constructor
    · split<;>assumption
    · split<;>assumption
abbrev zzo(C:set×Int->ae (aP×aP)):Prop:=∀g z,dw g->N7 z->(fQ g=false->0<(jB g).length)->C (iZ g,z)=.ok (xB g z)
theorem zVy{E:zp7}(wX:zaQ E.c167)(zaF:zrG E.Uk)(qP:IV E.kJ)(zmK:zvz E.c119):zzo (zp8 E):=λg z G hz hc=>ae.ext λk=>by
 have hg:=G.2;rw[zTw,wX (iZ g).list (by show 0<g.len;omega) (by show g.len<=1000;omega),bn,bn];show cond (fQ g) _ _=_;unfold xB;cases hf:fQ g with
 | true =>
  obtain⟨a,b⟩:=Oh G.1 omY g.len (kC _);rw[ed,zaF _ (by show 0<g.len;omega) (by show g.len<=1000;omega),bn];show(E.kJ ((fP g g.len).Low,1)).T (λr3=>(E.kJ ((fP g g.len).High,1)).T λr4=>k (r3,r4))=_;rw[qP _ _ omY omY omY omY,bn,qP _ _ omY omY omY omY,bn];rfl
 | false=>rw[dS,zmK g (.inl ⟨(),⟨z⟩⟩) G hz (hc hf),bn];rfl
abbrev zvM(C:Sl ay×Int->ae (aP×aP×Int)):Prop:=∀g z,dw g->N7 z->C (g,z)=.ok (cond ((Ad g ((g.get 0).Z==z)).2 != 0) (⟨0,0⟩,⟨0,0⟩,(Ad g ((g.get 0).Z==z)).2) ((xB g z).1,(xB g z).2,0))
theorem zVz{E:zpg}(BG:BX E.c157)(UM:zmB E.c117)(zx1:zzo E.zfG):zvM (zph E):=λg z G hz=>ae.ext λk=>by
 have hg:=G.2;rw[zSF,BG,bn,bn,show inB z (-100000) 200000=true from dZ hz,UM g _ omY,bn];show cond ((Ad g ((g.get 0).Z==z)).2 != 0) (k (⟨0,0⟩,⟨0,0⟩,(Ad g ((g.get 0).Z==z)).2)) ((E.zfG ((Ad g ((g.get 0).Z==z)).1,z)).T λr3=>k (r3.1,r3.2,0))=_;unfold Ad;rw[kU.2 G];cases hs:iG g with
 | false=>rfl
 | true =>
  cases hf:fQ g && !((g.get 0).Z==z)with
  | true=>rfl
  | false =>
   show(E.zfG (iZ g,z)).T _=_;rw[zx1 g z G hz λhf=>by unfold iG at hs;rw[hf,dS,pJ]at hs;omega,bn];rfl
def slV(g:Sl ay):aP×aP:=(red (loG g zbf).Num (loG g zbf).bT,red (hiG g zbf).Num (hiG g zbf).bT)
abbrev Q58(C:Sl ay->ae (aP×aP×Int)):Prop:=∀g,dw g->C g=.ok (cond ((Ad g false).2 != 0) (⟨0,0⟩,⟨0,0⟩,(Ad g false).2) ((slV g).1,(slV g).2,0))
theorem s58{E:E58}(UM:zmB E.c117)(zmK:zvz E.c119):Q58 (F58 E):=λg G=>ae.ext λk=>by
 have hg:=G.2;rw[e58,UM g _ omY,bn,bn];show cond ((Ad g false).2 != 0) (k (⟨0,0⟩,⟨0,0⟩,(Ad g false).2)) ((E.c119 ((Ad g false).1,.inr ⟨(),()⟩)).T λr3=>k (r3.1,r3.2,0))=_;unfold Ad;rw[kU.2 G];cases hs:iG g with
 | false=>rfl
 | true =>
  cases hf:fQ g with
  | true=>rfl
  | false =>
   show(E.c119 (iZ g,.inr ⟨(),()⟩)).T _=_;rw[zmK g (.inr ⟨(),()⟩) G trivial (by unfold iG at hs;rw[hf,dS,pJ]at hs;omega),bn];rfl
def zvN(p:ak)(h:bF):bZ:=cond (p.Kind==3) p.Clock ⟨aO (aO (h.Time-p.Clock.High)-p.dP),aO (aO (h.Time-p.Clock.Low)+p.dP)⟩
def tq(s:au)(h:bF):bZ:=zvN (s.aj.get h.ak.toNat) h
abbrev zzp(C:placed×bF->ae bZ):Prop:=∀q h,C (q,h)=.ok (zvN q.ak h)
theorem zVA{E:zpe}:zzp (zpf E):=λq h=>ae.ext λk=>by rw[zSD,bn,kc k];rfl
abbrev Q74(C:au×bF->ae bZ):Prop:=∀s h,mD s h=true->C (s,h)=.ok (tq s h)
theorem s74{E:E74}:Q74 (F74 E):=λs h hh=>ae.ext λk=>by rw[e74,bn,bG (MI hh),kc k];rfl
def tmG(s:au)(l:Sl bF):Sl ay:=⟨l.len,λi=>⟨0,(tq s (l.get i)).Low,(tq s (l.get i)).High⟩⟩
theorem Ny{g h:Sl ay}{m:Nat}(h0:0<m)(e:∀i,i<m→g.get i=h.get i):∀n,n≤m→fP g n=fP h n
  | 0,_=>by simp only[fP,e 0 h0]
  | n+1,hn=>by simp only[fP,Ny h0 e n omY,e n omY]
abbrev zzq(C:au×Sl bF->ae (bZ×Bool)):Prop:=∀s (l:Sl bF),0<l.len->l.len<=1000->(∀i,i<l.len->mD s (l.get i)=true)->C (s,l)=.ok (fP (tmG s l) l.len,decide ((fP (tmG s l) l.len).Low<=(fP (tmG s l) l.len).High))
theorem zVB{E:zeC}(N:Big E.N)(h74:Q74 E.c74):zzq (zpM E):=λs l h0 h1 hh=>ae.ext λk=>by
 have:=kV (X:=λn i=>Tz E n s l ((i+1:Nat):Int) (fP (tmG s l) (i+1)) k) (m:=l.len-1) (fin:=k (fP (tmG s l) l.len,decide ((fP (tmG s l) l.len).Low<=(fP (tmG s l) l.len).High))) (λn i hi=>by
  rw[zjG,dZ omY,ed,bG omY,gU,h74 _ _ (hh (i+1) omY),bn,bP omY];rfl) (λn=>by
  rw[zjG,show l.len-1+1=l.len by omega,eU omY];rfl) E.N (by have:=N;omega)
 rw[show(0+1:Nat)=1 from rfl,zaU]at this;rw[zS9,bG omY,h74 _ _ (hh 0 h0),bn,bn];exact this
abbrev zzr(C:au×Sl bF->ae Int):Prop:=∀s (l:Sl bF),sN s->fH s=true->l.len<=1000->(∀i,i<l.len->mD s (l.get i)=true)->C (s,l)=.ok 0
theorem zVC{E:zey}(N:Big E.N)(BF:QSe E.c160)(Ap:zev E.uN):zzr (zpd E):=λs l hs hb hl hh=>ae.ext λk=>by
 rw[zSC,eU omY,dS,BF s hs,bn,hb,bn];refine kV (X:=λn i=>Tt E n s l (i:Int) k) (m:=l.len) (λn i hi=>?_) (λn=>?_) _ (by have:=N;omega)
 ·rw [zjr,dZ omY,ed,bG omY,gU,Ap _ _ hs hb,bn,bP omY];show cond (!mD s (l.get i)) _ _=_;rw[hh i hi];rfl
 ·rw[zjr,eU omY];rfl
def cmS(x:bZ):bZ×Int:=cond (decide (x.Low>x.High)) (⟨0,0⟩,5) (x,0)
abbrev Q50(C:au×Sl bF->ae (bZ×Int)):Prop:=∀s (l:Sl bF),sN s->fH s=true->0<l.len->l.len<=1000->(∀i,i<l.len->mD s (l.get i)=true)->C (s,l)=.ok (cmS (fP (tmG s l) l.len))
theorem s50{E:E50}(N:Big E.N)(zxR:zzr E.zsf)(Ap:zev E.uN)(zo9:zzp E.za1):Q50 (F50 E):=λs l hs hb h0 hl hh=>ae.ext λk=>by
 have hm:(((l.len:Int)-1).toNat:Int)=((l.len-1:Nat):Int):=by omega
 have tm:∀i,i<l.len->zvN (ofP s (l.get i)).ak (l.get i)=tq s (l.get i):=λi hi=>by rw[zjj (hh i hi)];rfl
 have:=kV (X:=λn i=>zcy E n s l (i:Int) (fP (tmG s l) (i+1)) k) (m:=l.len-1) (fin:=k (cmS (fP (tmG s l) l.len))) (λn i hi=>by
  rw[zue,hm,dZ omY,ed,bG omY,gU];show(E.uN (s,l.get (i+1))).T _=_;rw[Ap _ _ hs hb,bn];show(E.za1 (ofP s (l.get (i+1)),l.get (i+1))).T _=_;rw[zo9,bn,tm (i+1) omY,bP omY];rfl) (λn=>by
  rw[zue,hm,show l.len-1+1=l.len by omega,eU omY,dS,kc k];rfl) E.N (by have:=N;omega)
 rw[show(0+1:Nat)=1 from rfl,zaU]at this;rw[e50,zxR s l hs hb hl hh,bn,show((0:Int) != 0)=false from rfl,dS,show((l.len:Int)==0)=false by rw[qdz];omega,dS,bG omY,Ap _ _ hs hb,bn,bG omY];show(E.za1 (ofP s (l.get 0),l.get 0)).T _=_;rw[zo9,bn,bG omY,tm 0 h0,bn];exact this
def O4(l:Sl bF)(w:Sl Int):Nat→Sl bF
  | 0=>⟨0,λ_=>⟨0,0,0,0,0,0⟩⟩
  | i+1=>oO (O4 l w i) (l.get (w.get i).toNat)
theorem oQ(l:Sl bF)(w:Sl Int):∀n,(O4 l w n).len=n
  | 0=>rfl
  | n+1=>by show(O4 l w n).len+1=n+1;rw[oQ l w n]
theorem TZ(l:Sl bF)(w:Sl Int):∀n i,i<n→(O4 l w n).get i=l.get (w.get i).toNat
  | n+1,i,h=>by
    show jL (O4 l w n).len (O4 l w n).get (λ_=>l.get (w.get n).toNat) i=_;rw[je,oQ];by_cases e:i=n
    · rw[eX omY,e]
    · rw[fB omY,TZ l w n i omY]
def InH(l:Sl bF)(w:Sl Int):Prop:=∀i,i<w.len->0<=w.get i/\w.get i<(l.len:Int)
theorem zkY{s:au}{l:Sl bF}(he:Evt s l){w:Sl Int}(h:InH l w):∀i,i<(O4 l w w.len).len->mD s ((O4 l w w.len).get i)=true:=λi hi=>by
 rw[oQ]at hi;rw[TZ _ _ _ _ hi];have:=h i hi;exact dI.1 he.hi _ omY
def ED(s:au)(l:Sl bF)(c:jv):bZ:=fP ⟨c.length,λi=>⟨0,(tq s (l.get ((c[i]?).getD (0,0)).1.toNat)).Low,(tq s (l.get ((c[i]?).getD (0,0)).1.toNat)).High⟩⟩ c.length
theorem zbd{s:au}{l:Sl bF}{t:af}{c:jv}(hc:fA t=c)(h0:0<t.Hits.len):fP (tmG s (O4 l t.Hits t.Hits.len)) (O4 l t.Hits t.Hits.len).len=ED s l c:=by
 unfold ED;rw[oQ,<- hc,kz];refine Ny h0 (λi hi=>?_) _ (kC _);show(⟨0,(tq s ((O4 l t.Hits t.Hits.len).get i)).Low,(tq s ((O4 l t.Hits t.Hits.len).get i)).High⟩:ay)=⟨0,(tq s (l.get (((fA t)[i]?).getD (0,0)).1.toNat)).Low,(tq s (l.get (((fA t)[i]?).getD (0,0)).1.toNat)).High⟩;rw[TZ _ _ _ _ hi,QO hi];rfl
def QF(s:au)(l:Sl bF)(c:jv):Bool:=decide ((ED s l c).Low<=(ED s l c).High)
abbrev Q93(C:Pt aU×af->ae (bZ×Bool)):Prop:=∀s l r t c,Evt s l->InH l t.Hits->0<t.Hits.len->t.Hits.len<=100->fA t=c->C (iY s r l,t)=.ok ((cmS (ED s l c)).1,QF s l c)
theorem s93{E:E93}(N:Big E.N)(h50:Q50 E.c50):Q93 (F93 E):=λs l r t c he hi h0 h1 hc=>ae.ext λk=>by
 rw[e93,bn];refine kV (X:=λn i=>zcE E n (iY s r l) t (i:Int) (O4 l t.Hits i) k) (m:=t.Hits.len) (λn i kN=>?_) (λn=>?_) _ (by have:=N;omega)
 ·have a:=hi i kN;rw[zuq,dZ omY,ed,bG omY,gU,bG (show 0<=t.Hits.get i/\t.Hits.get i<((iY s r l).v.hits.len:Int)from a),jQ (by rw[oQ];omega) omY,bP omY];rfl
 ·rw [zuq,eU omY,dS];show(E.c50 (s,O4 l t.Hits t.Hits.len)).T _=_;rw[h50 _ _ he.sh he.se (by rw[oQ];omega) (by rw[oQ];omega) (zkY he hi),bn,zbd hc h0];have:((cmS (ED s l c)).2==0)=QF s l c:=by
   unfold cmS QF;by_cases h:(ED s l c).Low>(ED s l c).High
   ·rw[dZ h,eU omY];rfl
   ·rw[eU h,dZ omY];rfl
  rw[this]
abbrev zzs(C:Sl bF×Sl Int->ae (Sl bF)):Prop:=∀(l:Sl bF)(w:Sl Int),InH l w->w.len<=100->C (l,w)=.ok (O4 l w w.len)
theorem zVD{E:zeD}(N:Big E.N):zzs (zpN E):=λl w hi h1=>ae.ext λk=>by
 rw[zTb,bn];refine kV (X:=λn i=>TA E n l w (i:Int) (O4 l w i) k) (m:=w.len) (λn i kN=>?_) (λn=>?_) _ (by have:=N;omega)
 ·have a:=hi i kN;rw[zjH,dZ omY,ed,bG omY,gU,bG a,jQ (by rw[oQ];omega) omY,bP omY];rfl
 ·rw[zjH,eU omY];rfl
abbrev Q90(C:au×Sl bF×Sl Int->ae Bool):Prop:=∀s l (w:Sl Int),Evt s l->InH l w->0<w.len->w.len<=100->C (s,l,w)=.ok (decide ((fP (tmG s (O4 l w w.len)) (O4 l w w.len).len).Low<=(fP (tmG s (O4 l w w.len)) (O4 l w w.len).len).High))
theorem s90{E:E90}(zxT:zzs E.c148)(zxU:zzq E.zsn):Q90 (F90 E):=λs l w he hi h0 h1=>ae.ext λk=>by
 rw[e90,zxT _ _ hi h1,bn,zxU _ _ (by rw[oQ];omega) (by rw[oQ];omega) (zkY he hi),bn,bn]
def ET(s:au)(l:Sl bF)(c:jv):Bool:=QF s l c&&iG (qx s l c)
theorem EQ{s:au}{l:Sl bF}{x:Int}{t:af}{c:jv}{j:Nat}(hc:fA t=c)(h:Val s l x c j):InH l t.Hits:=λi hi=>by
 have:=zV hc hi;have m:=(h.mem _ (JB this)).1;have:=h.le;simp only at m;omega
theorem Oi{t:af}{c:jv}(hc:fA t=c)(hn:c≠[]):0<t.Hits.len:=by
 rw[<- kz,hc];exact qdR.2 hn
theorem qR{s:au}{l:Sl bF}{x:Int}{t:af}{c:jv}{j:Nat}(hc:fA t=c)(h:Val s l x c j):t.Hits.len<=l.len:=by
 rw[<- kz,hc];have:=h.le;omega
structure Ev (s : au) (l : Sl bF) (x : Int) : Prop extends Evt s l where
  l24:l.len<=24
  vw:vwB x=true
abbrev zzt(C:Pt aU×af->ae Bool):Prop:=∀s l r x t c j,Ev s l x->Ol x t->fA t=c->Val s l x c j->c≠[]->C (iY s r l,t)=.ok (ET s l c)
theorem zVE{E:zqr}(h93:Q93 E.c93)(NT:zjk E.c105)(zyt:zy7 E.zsB):zzt (zqs E):=λs l r x t c j he ht hc hv hn=>ae.ext λk=>by
 have hl:=qR hc hv;have h24:=he.l24;have G:=EX he.toEvt he.l24 hv hn;obtain⟨y,hy⟩:=zyt (qx s l c) (by have:=G.2;omega);rw[zTM,h93 s l r t c he.toEvt (EQ hc hv) (Oi hc hn) omY hc,bn,bn];unfold ET;cases QF s l c with
 | false=>rfl
 | true =>
  show(E.c105 (iY s r l,t)).T _=_;rw[NT s l r t he.toEvt omY (Fa he.vw ht hc hv hn),bn,IY hc,hy,bn,<- zy8 G];rfl
abbrev zrW(C:au×Sl bF×af->ae Bool):Prop:=∀s l x t c j,Ev s l x->Ol x t->fA t=c->Val s l x c j->c≠[]->C (s,l,t)=.ok (ET s l c)
theorem zVF{E:zqK}(h65:Q65 E.c65)(zyx:zzf E.c145)(h90:Q90 E.c90):zrW (zqL E):=λs l x t c j he ht hc hv hn=>ae.ext λk=>by
 have hl:=qR hc hv;have h24:=he.l24;have G:=EX he.toEvt he.l24 hv hn;rw[zT1,h65 s l t he.toEvt omY (Fa he.vw ht hc hv hn),bn,IY hc,zyx _ G,bn,h90 s l _ he.toEvt (EQ hc hv) (Oi hc hn) omY,bn,zbd hc (Oi hc hn),bn];unfold ET;show cond (iG (qx s l c)) (k (QF s l c)) (k false)=_;cases iG (qx s l c)<;>cases QF s l c<;>rfl
abbrev zzu(C:Int×Pt (Pt aU)×Pt Int->ae Bool):Prop:=∀s l r i k,0<=i/\i<(l.len:Int)->0<=k/\k<(l.len:Int)->C (i,⟨iY s r l⟩,⟨k⟩)=.ok ((l.get i.toNat).ak==(l.get k.toNat).ak)
theorem zVG{E:zqp}:zzu (zqq E):=λs l r i k hi hk=>ae.ext λK=>by
 rw[zTK,bn];exact(bG (p:=0<=i/\i<(l.len:Int)) hi).trans (bG (p:=0<=k/\k<(l.len:Int)) hk)
abbrev zzv(C:Int×Pt (Pt aU)×Pt Int->ae Bool):Prop:=∀s l r i p,0<=i/\i<(l.len:Int)->C (i,⟨iY s r l⟩,⟨p⟩)=.ok ((l.get i.toNat).ak==p)
theorem zVH{E:zqz}:zzv (zqA E):=λs l r i p hi=>ae.ext λK=>by
 rw[e190,bn];exact bG (p:=0<=i/\i<(l.len:Int)) hi
abbrev zeZ:=dY 180 Unit (Pt (Pt aU)×Pt Int) ⊕ dY 190 Unit (Pt (Pt aU)×Pt Int)
def zrX(l:Sl bF):zeZ→Int→Bool
  | .inl c,h=>(l.get h.toNat).ak==(l.get c.v.2.v.toNat).ak
  | .inr c,h=>(l.get h.toNat).ak==c.v.2.v
def okU(s:au)(l:Sl bF)(r:bJ):zeZ→Prop
  | .inl c=>c.v.1.v=iY s r l/\0<=c.v.2.v/\c.v.2.v<(l.len:Int)
  | .inr c=>c.v.1.v=iY s r l
abbrev QUx{γ:Type}(i:γ->zeZ)(C:Sl Int×γ->ae Int):Prop:=∀s l r (w:Sl Int) (c:γ),InH l w->w.len<=1000->okU s l r (i c)->C (w,c)=.ok (fst (λj=>zrX l (i c) (w.get j)) w.len 0)
abbrev QUa{γ:Type}(i:γ->zeZ)(C:Sl Int×γ->ae Bool):Prop:=∀s l r (w:Sl Int) (c:γ),InH l w->w.len<=1000->okU s l r (i c)->C (w,c)=.ok (!fG (λj=>!zrX l (i c) (w.get j)) w.len)
abbrev zrY(C:Sl Int×zeZ->ae Int):Prop:=QUx id C
abbrev zrZ(C:Sl Int×zeZ->ae Bool):Prop:=QUa id C
theorem zkZ{E:vS}(N:Big E.N)(zyE:zzu E.zls):QUx .inl (Eh E):=λs l r w c hi hw ho=>ae.ext λk=>by
 obtain⟨⟨⟩,⟨a⟩,⟨b⟩⟩:=c;obtain⟨rfl,hb⟩:=ho;rw[zj9,bn];refine Ip (L:=λn i=>xg E n w _ i k) (p:=λj=>zrX l (.inl ⟨(),⟨iY s r l⟩,⟨b⟩⟩) (w.get j)) (m:=w.len) (k:=k) omY (λn i kN=>?_) (λn=>?_) _ (by have:=N;omega)
 ·rw [Na,dZ omY,ed,bG omY,gU];show(E.zls (w.get i,⟨iY s r l⟩,⟨b⟩)).T _=_;rw[zyE s l r _ _ (hi i kN) hb,bn];rfl
 ·rw[Na,eU omY];rfl
theorem zk0{E:vT}(N:Big E.N)(zyF:zzv E.zlu):QUx .inr (Ei E):=λs l r w c hi hw ho=>ae.ext λk=>by
 obtain⟨⟨⟩,⟨a⟩,⟨b⟩⟩:=c;have ho:a=iY s r l:=ho;subst ho;rw[zkb,bn];refine Ip (L:=λn i=>xh E n w _ i k) (p:=λj=>zrX l (.inr ⟨(),⟨iY s r l⟩,⟨b⟩⟩) (w.get j)) (m:=w.len) (k:=k) omY (λn i kN=>?_) (λn=>?_) _ (by have:=N;omega)
 ·rw [Nb,dZ omY,ed,bG omY,gU];show(E.zlu (w.get i,⟨iY s r l⟩,⟨b⟩)).T _=_;rw[zyF s l r _ _ (hi i kN),bn];rfl
 ·rw[Nb,eU omY];rfl
theorem zVI{f:Sl Int×dY 180 Unit (Pt (Pt aU)×Pt Int)->ae Int}{g:Sl Int×dY 190 Unit (Pt (Pt aU)×Pt Int)->ae Int}(a:QUx .inl f)(b:QUx .inr g):zrY (ae.two f g):=λs l r w c hi hw ho=>by
 rcases c with c|c
 ·exact a s l r w c hi hw ho
 ·exact b s l r w c hi hw ho
theorem zk1{E:DZ}(zaH:zrY E.c210):QUa .inl (D7 E):=λs l r w c hi hw ho=>ae.ext λk=>by rw[zjR,zaH s l r w (.inl c) hi hw ho,bn,bn,xu];rfl
theorem zk2{E:D8}(zaH:zrY E.c210):QUa .inr (Ea E):=λs l r w c hi hw ho=>ae.ext λk=>by rw[zjT,zaH s l r w (.inr c) hi hw ho,bn,bn,xu];rfl
theorem zVJ{f:Sl Int×dY 180 Unit (Pt (Pt aU)×Pt Int)->ae Bool}{g:Sl Int×dY 190 Unit (Pt (Pt aU)×Pt Int)->ae Bool}(a:QUa .inl f)(b:QUa .inr g):zrZ (ae.two f g):=λs l r w c hi hw ho=>by
 rcases c with c|c
 ·exact a s l r w c hi hw ho
 ·exact b s l r w c hi hw ho
theorem zf0{l:Sl bF}{t:af}{c:jv}(hc:fA t=c)(p:Int->Bool):(!fG (λj=>!p (t.Hits.get j)) t.Hits.len)=c.any λq=>p q.1:=by
 rw[Ut,NR,<- qjt,dI,qd1];constructor
 ·intro h;apply qdG;intro hn;refine h λj hj=>?_;cases e:p (t.Hits.get j)with
  | false=>rfl
  | true=>exact(hn ⟨_,JB (zV hc hj),e⟩).elim
 ·rintro ⟨q, hq, e⟩ h;obtain⟨j,hj,rfl⟩:=qdA hq;have hl:j < t.Hits.len:=by rw[<- kz,hc];exact hj
  have:=zV hc hl;rw[BR hj]at this;have:=YR this;have h2:=h j hl;rw[this]at e;rw[e]at h2;cases h2
def chs(w:Sl af):List jv:=(List.range w.len).map λi=>fA (w.get i)
theorem kY(w:Sl af):(chs w).length=w.len:=by simp[chs]
theorem zr0{w:Sl af}{i:Nat}(h:i<w.len):(chs w)[i]? = some (fA (w.get i)):=by simp[chs,qjv h]
def zW(x:Int)(w:Sl af):Prop:=∀i,i<w.len->Ol x (w.get i)
theorem zcV(w:Sl af)(t:af):chs (oO w t)=chs w++[fA t]:=by
 unfold chs;show(List.range (w.len+1)).map _=_;rw[qjm,QQ];congr 1
 ·exact qdg λi hi=>by
   show fA (jL w.len w.get (λ_=>t) i)=_;rw[je,fB (by have:=JC.1 hi;omega)]
 ·show [fA (jL w.len w.get (fun _=>t) w.len)]=_;rw[je,eX (kC _)]
theorem XO{x:Int}{w:Sl af}{t:af}(h:zW x w)(ht:Ol x t):zW x (oO w t):=λi hi=>by
 show Ol x (jL w.len w.get (λ_=>t) i);rw[je];by_cases e:w.len<=i
 ·rw[eX e];exact ht
 ·rw[fB e];exact h i omY
def Ua(x:Int)(t:af)(p:Int×Int):af:=⟨x,⟨t.Hits.len+1,jL t.Hits.len t.Hits.get λ_=>p.1⟩,⟨t.bz.len+1,jL t.bz.len t.bz.get λ_=>p.2⟩⟩
theorem zcW{x:Int}{t:af}{p:Int×Int}(h:t.bz.len=t.Hits.len):fA (Ua x t p)=fA t++[p]:=by
 refine zkT rfl (λj hj=>?_) ?_
 ·show jL t.Hits.len t.Hits.get (fun _=>p.1) j=_∧jL t.bz.len t.bz.get (fun _=>p.2) j=_;rw[je,je,fB omY,fB omY];exact⟨rfl,rfl⟩
 ·show jL t.Hits.len t.Hits.get (fun _=>p.1) t.Hits.len=_∧jL t.bz.len t.bz.get (fun _=>p.2) t.Hits.len=_;rw[je,je,eX omY,eX omY];exact⟨rfl,rfl⟩
theorem GI{x:Int}{t:af}{p:Int×Int}(h:t.bz.len=t.Hits.len):Ol x (Ua x t p):=⟨rfl,by show t.bz.len+1=t.Hits.len+1;rw[h]⟩
abbrev zHi:=af×Int×Bc 143 (Pt aU)×Bc 38 Int×Bw 30 43 3 56 af×Bs 255 178 2 4×Unit
def kF(s:au)(l:Sl bF)(x:Int):List jv:=gr (ET s l) (Cb l) (O8 s l x) 30 [] 0
theorem zcX(s:au)(l:Sl bF)(x:Int):Val s l x [] 0:=⟨⟨kC _,Cf _⟩,(λp h=>by cases h),List.Pairwise.nil⟩
abbrev zHj(C:Pt aU×Int->ae (Sl af×Bool)):Prop:=∀s l r x,Ev s l x->(kF s l x).length<=2000->∃w,C (iY s r l,x)=.ok (w,true)/\chs w=kF s l x/\zW x w
abbrev XP:=(Bool×Int)×(Unit×Unit×Pt aU×Int×Sl af×Unit×Unit)
def zk3(s:au)(l:Sl bF)(r:bJ)(x:Int)(G:List jv)(w:Sl af)(R:XP):Prop :=
 (w.len+G.length<=2000/\∃w',R=((false,0),(),(),iY s r l,x,w',(),())/\chs w'=chs w++G/\zW x w')\/(2000<w.len+G.length/\∃w',R=((true,x),(),(),iY s r l,x,w',(),()))
def QMp(f:Nat)(C:zHi->ae XP):Prop:=∀s l r x t c (i:Nat) (w:Sl af),Ev s l x->Val s l x c i->fA t=c->t.bz.len=t.Hits.len->l.len<i+f->zW x w->w.len<=2000 ->
 ∃R,C (t,(i:Int),⟨iY s r l⟩,⟨x⟩,⟨w⟩,{},())=.ok R/\zk3 s l r x (gr (ET s l) (Cb l) (O8 s l x) f c i) w R
theorem zHk{E:zeJ}{f:Nat}(zaz:zrZ E.NH)(zys:zzt E.c182)(i173:zvL E.i173)(hm:QMp f E.IQ):QMp (f+1) (zqn E):=λs l r x t c i w he hv hc ht hf hw hn=>by
 have h24:=he.l24;have hle:=hv.le;have hlen:=qR hc hv
 have key:∀(ys:jv)(w:Sl af),(∀y∈ys,y∈O8 s l x i)->zW x w->w.len<=2000 ->
   ∃R,(∀(A:Type)(k:XP->Option A)(w0:Sl af),qc E ys t (i:Int) (iY s r l) x w0 (iY s r l) x w k=k R)/\zk3 s l r x (ys.flatMap λp=>cond (Cb l c p.1 || !ET s l (c++[p])) [] ((c++[p])::gr (ET s l) (Cb l) (O8 s l x) f (c++[p]) (p.1.toNat+1))) w R:=by
  intro ys
  induction ys with
  | nil=>intro w _ hw hn;exact⟨_,λA k w0=>zqo ..,.inl ⟨by simpa using hn,w,rfl,by simp,hw⟩⟩
  | cons y ys ih =>
   intro w hy hw hn;rw[oK];have Yz:∀z∈ys,z∈O8 s l x i:=λz hz=>hy z (jU _ hz);obtain⟨_,y1,_,_⟩:=XH (hy y lq);have u:(E.NH (t.Hits,.inl ⟨(),⟨iY s r l⟩,⟨y.1⟩⟩))=.ok (Cb l c y.1):=by
    rw[zaz s l r t.Hits (.inl ⟨(),⟨iY s r l⟩,⟨y.1⟩⟩) (EQ hc hv) omY ⟨rfl,(by show 0<=y.1;omega),(by show y.1<(l.len:Int);omega)⟩];exact jX ae.ok (zf0 (l:=l) hc λh=>(l.get h.toNat).ak==(l.get y.1.toNat).ak)
   have skip:∀(A:Type)(k:XP->Option A)(w0:Sl af),Cb l c y.1=true->qc E (y::ys) t (i:Int) (iY s r l) x w0 (iY s r l) x w k=qc E ys t (i:Int) (iY s r l) x w0 (iY s r l) x w k:=λA k w0 e=>by
    rw[zjQ,u,bn,e];rfl
   cases hu:Cb l c y.1 with
   | true =>
    obtain⟨R,a,b⟩:=ih w Yz hw hn;exact⟨R,λA k w0=>by rw[skip A k w0 hu,a],by simpa using b⟩
   | false =>
    have hv2:=hv.snoc (hy y lq) hu;have hc2:fA (Ua x t y)=c++[y]:=by rw[zcW ht,hc]
    have ag:=zys s l r x (Ua x t y) (c++[y]) _ he (GI ht) hc2 hv2 (by simp);have st:∀(A:Type)(k:XP->Option A)(w0:Sl af),qc E (y::ys) t (i:Int) (iY s r l) x w0 (iY s r l) x w k=cond (!ET s l (c++[y])) (qc E ys t (i:Int) (iY s r l) x w0 (iY s r l) x w k) (aV (room (w.len+1) 56) (cond (decide ((w.len:Int)+1>2000)) (k ((true,x),(),(),iY s r l,x,oO w (Ua x t y),(),())) ((E.IQ (Ua x t y,aO (y.1+1),⟨iY s r l⟩,⟨x⟩,⟨oO w (Ua x t y)⟩,{},())).T λr3=>cond r3.1.1 (k ((true,r3.1.2),(),(),r3.2.2.2.1,r3.2.2.2.2.1,r3.2.2.2.2.2.1,(),())) (qc E ys t (i:Int) (iY s r l) x w0 r3.2.2.2.1 r3.2.2.2.2.1 r3.2.2.2.2.2.1 k)))):=λA k w0=>by
     rw[zjQ,u,bn,hu,dS,jQ omY omY,jQ omY omY,jQ omY omY,jQ omY omY];show(E.c182 (iY s r l,Ua x t y)).T _=_;rw[ag,bn];rfl
    cases ha:ET s l (c++[y])with
    | false =>
     obtain⟨R,a,b⟩:=ih w Yz hw hn;exact⟨R,λA k w0=>by rw[st,ha];exact a A k w0,by simpa using b⟩
    | true =>
     simp only[OZ,qzf,dS];have e1:aO (y.1+1)=((y.1.toNat+1:Nat):Int):=by rw[bf omY omY];omega
     by_cases h0:w.len+1<=2000
     case neg =>
      refine⟨((true,x),(),(),iY s r l,x,oO w (Ua x t y),(),()),λA k w0=>?_,.inr ⟨by rw[Jz,Cc];omega,_,rfl⟩⟩;rw[st,ha,OZ,dS,jQ omY omY,dZ omY,ed]
     obtain⟨R1,a1,o1⟩:=hm s l r x (Ua x t y) (c++[y]) (y.1.toNat+1) (oO w (Ua x t y)) he hv2 hc2 (GI (x:=x) ht).2 omY (XO hw (GI ht)) h0;have lw:(oO w (Ua x t y)).len=w.len+1:=rfl;rcases o1 with⟨n1,w1,rfl,b1,d1⟩|⟨n1,w1,rfl⟩
     ·have l1:w1.len=w.len+1+(gr (ET s l) (Cb l) (O8 s l x) f (c++[y]) (y.1.toNat+1)).length:=by
       rw[<- kY,b1,Jz,kY];rfl
      obtain⟨R,a,b⟩:=ih w1 Yz d1 omY;refine⟨R,λA k w0=>?_,?_⟩
      ·rw [st,ha,e1,a1,bn,OZ,dS,jQ omY omY,eU omY,dS];exact a A k w0
      ·rcases b with ⟨n2, w', e2, b2, d2⟩ | ⟨n2, w', e2⟩
       ·exact .inl ⟨by rw[Jz,Cc];omega,w',e2,by rw[b2,b1,zcV,hc2];simp,d2⟩
       ·exact .inr ⟨by rw[Jz,Cc];omega,w',e2⟩
     ·refine⟨_,fun A k w0 => ?_,.inr ⟨by rw [Jz,Cc];omega,w1,rfl⟩⟩;rw[st,ha,e1,a1,bn,OZ,dS,jQ omY omY,eU omY,dS];rfl
 obtain⟨R,a,b⟩:=key (O8 s l x i) w (λy hy=>hy) hw hn;refine⟨R,ae.ext λk=>?_,b⟩;rw[zTI,i173 s l r x i he.toEvt hle.2,bn,bn];exact a _ k w
abbrev zk4(C:Pt aU×Int->ae (Sl af×Bool)):Prop:=∀s l r x,Ev s l x->((kF s l x).length<=2000/\∃w,C (iY s r l,x)=.ok (w,true)/\chs w=kF s l x/\zW x w)\/(2000<(kF s l x).length/\∃w,C (iY s r l,x)=.ok (w,false))
theorem zHl{E:zjA}(hm:QMp 30 E.IQ):zk4 (zpt E):=λs l r x he=>by
 have h24:=he.l24;obtain⟨R,a,b⟩:=hm s l r x ⟨0,⟨0,λ_=>default⟩,⟨0,λ_=>default⟩⟩ [] 0 ⟨0,λ_=>⟨0,⟨0,λ_=>0⟩,⟨0,λ_=>0⟩⟩⟩ he (zcX s l x) rfl rfl omY (λi hi=>absurd hi (UW i)) (Cf _);rcases b with⟨n,w',rfl,b,d⟩|⟨n,w',rfl⟩
 ·exact .inl ⟨by have h:0+(kF s l x).length<=2000:=n;omega,w',ae.ext λk=>by rw[e127];show(E.IQ (_,((0:Nat):Int),_)).T _=_;rw[a,bn,bn];rfl,b,d⟩
 ·exact .inr ⟨by have h:2000<0+(kF s l x).length:=n;omega,_,ae.ext λk=>by rw[e127];show(E.IQ (_,((0:Nat):Int),_)).T _=_;rw[a,bn,bn];rfl⟩
abbrev zzy(C:af×Int×Int->ae af):Prop:=∀t i k,t.Hits.len<=1000->t.bz.len<=1000->C (t,i,k)=.ok (Ua t.View t (i,k))
theorem zVK{E:zrd}:zzy (zre E):=λt i k h1 h2=>ae.ext λK=>by
 rw[e227,bn,jQ omY omY,jQ omY omY,jQ omY omY,jQ omY omY];rfl
abbrev stC(s:au)(l:Sl bF)(x:Int)(f:Nat)(c:jv):List jv->Int×Int->List jv:=λout p=>cond (Cb l c p.1||(decide (2000<out.length) || !ET s l (c++[p]))) out (O7 (ET s l) (Cb l) (O8 s l x) f (out++[c++[p]]) (c++[p]) (p.1.toNat+1))
def QW(f:Nat)(C:(au×Sl bF×af×Int)×Sl af->ae (Sl af)):Prop:=∀s l x t c (i:Nat) (w:Sl af),Ev s l x->Val s l x c i->fA t=c->Ol x t->l.len<i+f->zW x w->w.len<=2001 ->
 ∃w',C ((s,l,t,(i:Int)),w)=.ok w'/\chs w'=O7 (ET s l) (Cb l) (O8 s l x) f (chs w) c i/\zW x w'
theorem zk5{s:au}{l:Sl bF}{x:Int}{f:Nat}{c:jv}{i:Int}(h:Cb l c i=true):∀(d k:Nat)(out:List jv),(sdK i d k).foldl (stC s l x f c) out=out
  | 0,_,_=>rfl
  | d+1,k,out=>by
    rw[sdK,YC];show(sdK i d (k+1)).foldl _ (cond (Cb l c i||_) out _)=out;rw[h];exact zk5 h d (k+1) out
theorem XQ{s:au}{l:Sl bF}{x:Int}{f:Nat}{c:jv}{i:Int}:∀(d k:Nat)(out:List jv),2000<out.length→(sdK i d k).foldl (stC s l x f c) out=out
  | 0,_,_,_=>rfl
  | d+1,k,out,h=>by
    rw[sdK,YC];have:stC s l x f c out (i,(k:Int))=out:=by
      show cond (Cb l c i||(decide (2000<out.length)||_)) out _=out;rw[dZ h,jqh,jqg];rfl
    rw[this];exact XQ d (k+1) out h
theorem Ub{ag:jv→Bool}{us:jv→Int→Bool}{sd:Nat→jv}:∀{f out c i},out.length≤2001→(O7 ag us sd f out c i).length≤2001
  | 0,out,c,i,h=>h
  | f+1,out,c,i,h=>by
    simp only[O7];generalize sd i=l
    induction l generalizing out with
    | nil=>exact h
    | cons p l ih =>
      rw[YC];refine ih _ ?_;cases hc:us c p.1||(decide (2000<out.length) || !ag (c++[p]))with
      | true=>exact h
      | false =>
        simp only[qjq,dq2]at hc;exact Ub (by rw[Jz];simp only[Cc,UJ];omega)
theorem zVL{E:zaL}{f:Nat}(N:Big E.N)(h87:Q87 E.c87)(h75:Q75 E.c75)(zyw:zzy E.c227)(zaD:zrW E.c196)(hm:QW f E.NJ):QW (f+1) (zqJ E):=λs l x t c i w he hv hc ht hf hw hn=>by
 have h24:=he.l24;have hle:=hv.le;have hlen:=qR hc hv;have hN:=N
 -- the kW of one hit
 have inn:∀(n0:Nat)(a:Nat),i<=a->a<l.len->QN s l a=x->Cb l c (a:Int)=false->∀(m k n1:Nat)(w:Sl af),k+m=yD s l a->m<n1->zW x w->w.len<=2001 ->
   ∃w',(∀(A:Type)(K:Sl af->Option A),xe E n0 n1 s l t (a:Int) (yC s (l.get a)) (k:Int) w K=rY E n0 s l t ((a+1:Nat):Int) w' K)/\chs w'=(sdK (a:Int) m k).foldl (stC s l x f c) (chs w)/\zW x w':=by
  intro n0 a ha1 ha2 hva NL m
  induction m with
  | zero =>
   intro k n1 w hk hn1 hw hwl;obtain⟨n1,rfl⟩:∃n',n1=n'+1:=⟨n1-1,omY⟩;refine⟨w,λA K=>?_,rfl,hw⟩;rw[zaM,eU (by have:(yC s (l.get a)).len=yD s l a:=rfl;omega),dS,bP omY]
  | succ m ih =>
   intro k n1 w hk hn1 hw hwl;obtain⟨n1,rfl⟩:∃n',n1=n'+1:=⟨n1-1,omY⟩;have hgl:(yC s (l.get a)).len=yD s l a:=rfl;have hg2:=GV s l a;by_cases hfull:2000<w.len
   ·refine⟨w,fun A K => ?_,(XQ _ _ _ (by rw [kY];exact hfull)).symm,hw⟩;rw[zaM,dZ omY,ed,eU omY,dS,bP omY]
   ·have hp : ((a : Int), (k : Int)) ∈ O8 s l x i := (Y5 hle.2).2 ⟨by simp only; omega, by simpa using hva, by simp only; omega, by simp only [gU]; omega⟩;have hv2:=hv.snoc hp NL;have hc2:fA (Ua x t ((a:Int),(k:Int)))=c ++ [((a:Int),(k:Int))]:=by rw[zcW ht.2,hc]
    have ag:=zaD s l x (Ua x t ((a:Int),(k:Int))) _ _ he (GI ht.2) hc2 hv2 (by simp);have st:∀(A:Type)(K:Sl af->Option A),xe E n0 (n1+1) s l t (a:Int) (yC s (l.get a)) (k:Int) w K=cond (ET s l (c++[((a:Int),(k:Int))])) ((E.NJ ((s,l,Ua x t ((a:Int),(k:Int)),((a+1:Nat):Int)),oO w (Ua x t ((a:Int),(k:Int))))).T λr3=>xe E n0 n1 s l t (a:Int) (yC s (l.get a)) ((k+1:Nat):Int) r3 K) (xe E n0 n1 s l t (a:Int) (yC s (l.get a)) ((k+1:Nat):Int) w K):=λA K=>by
     rw[zaM,dZ omY,ed,dZ omY,ed,zyw _ _ _ omY (by rw[ht.2];omega),bn,ht.1,ag,bn,jQ omY omY,bP omY,bP omY];rfl
    rw[sdK,YC];cases uP:ET s l (c++[((a:Int),(k:Int))])with
    | false =>
     have e:stC s l x f c (chs w) ((a:Int),(k:Int))=chs w:=by
      show cond (Cb l c (a:Int)||(_ || !ET s l (c++[((a:Int),(k:Int))]))) _ _=_;rw[uP,qdU,jqg,jqg];rfl
     rw[e];obtain⟨w',a1,a2,a3⟩:=ih (k+1) n1 w omY omY hw hwl;exact⟨w',λA K=>by rw[st,uP];exact a1 A K,a2,a3⟩
    | true =>
     have e:stC s l x f c (chs w) ((a:Int),(k:Int))=O7 (ET s l) (Cb l) (O8 s l x) f (chs w++[c++[((a:Int),(k:Int))]]) (c++[((a:Int),(k:Int))]) (a+1):=by
      show cond (Cb l c (a:Int)||(decide (2000<(chs w).length) || !ET s l (c++[((a:Int),(k:Int))]))) _ _=_;rw[uP,NL,kY,eU hfull];rfl
     rw[e];obtain⟨w1,b1,b2,b3⟩:=hm s l x (Ua x t ((a:Int),(k:Int))) _ (a+1) (oO w (Ua x t ((a:Int),(k:Int)))) he hv2 hc2 (GI ht.2) omY (XO hw (GI ht.2)) (by show w.len+1<=_;omega);rw[zcV,hc2]at b2;have l1:w1.len<=2001:=by
      rw[<- kY,b2];exact Ub (by rw[Jz,kY];simp only[Cc,UJ];omega)
     obtain⟨w',a1,a2,a3⟩:=ih (k+1) n1 w1 omY omY b3 l1;rw[b2]at a2;exact⟨w',λA K=>by rw[st,uP,ed,b1,bn];exact a1 A K,a2,a3⟩
 have zr1:∀(ys:jv)(out:List jv),out.length<=2001->(ys.foldl (stC s l x f c) out).length<=2001:=by
  intro ys
  induction ys with
  | nil=>intro out h;exact h
  | cons p ys ih =>
   intro out h;rw[YC];refine ih _ ?_;show(cond (Cb l c p.1||(decide (2000<out.length) || !ET s l (c++[p]))) out _).length<=_;cases hq:Cb l c p.1||(decide (2000<out.length) || !ET s l (c++[p]))with
   | true=>exact h
   | false =>
    simp only[qjq,dq2]at hq;exact Ub (by rw[Jz];simp only[Cc,UJ];omega)
 have key:∀(d a n:Nat)(w:Sl af),a+d=l.len->i<=a->d<n->zW x w->w.len<=2001->∃w',(∀(A:Type)(K:Sl af->Option A),rY E n s l t (a:Int) w K=K w')/\chs w'=(sdL s l x d a).foldl (stC s l x f c) (chs w)/\zW x w':=by
  intro d
  induction d with
  | zero =>
   intro a n w ha hi hn hw hwl;obtain⟨n,rfl⟩:∃n',n=n'+1:=⟨n-1,omY⟩;exact⟨w,λA K=>by rw[zj0,eU omY];rfl,rfl,hw⟩
  | succ d ih =>
   intro a n w ha hi hn hw hwl;obtain⟨n,rfl⟩:∃n',n=n'+1:=⟨n-1,omY⟩;have Ob:=he.pl (i:=a) omY;rw[sdL,jqB];have us:E.c87 (l,t.Hits,(l.get a).ak)=.ok (Cb l c (a:Int)):=by
    rw[h87 l t.Hits _ omY (EQ hc hv)];refine jX ae.ok ?_;have:=zf0 (l:=l) hc λh=>(l.get h.toNat).ak==(l.get a).ak;unfold Cb;rw[gU,<- this];rfl
   have st:∀(A:Type)(K:Sl af->Option A),rY E (n+1) s l t (a:Int) w K=cond (QN s l a != x) (rY E n s l t ((a+1:Nat):Int) w K) (cond (Cb l c (a:Int)) (rY E n s l t ((a+1:Nat):Int) w K) (xe E n E.N s l t (a:Int) (yC s (l.get a)) ((0:Nat):Int) w K)):=λA K=>by
    rw[zj0,dZ omY,ed,bG omY,gU,bG Ob,us,bn,h75 s _ he.sh Ob,bn,bP omY,ht.1];rfl
   cases hv1:QN s l a==x with
   | false =>
    have e1:(QN s l a != x)=true:=by rw[bne,hv1];rfl
    rw[e1]at st;obtain⟨w',a1,a2,a3⟩:=ih (a+1) n w omY omY omY hw hwl;exact⟨w',λA K=>by rw[st];exact a1 A K,a2,a3⟩
   | true =>
    have e1:(QN s l a != x)=false:=by rw[bne,hv1];rfl
    rw[e1]at st;rw[ed];cases hu:Cb l c (a:Int)with
    | true =>
     rw[hu]at st;obtain⟨w',a1,a2,a3⟩:=ih (a+1) n w omY omY omY hw hwl;exact⟨w',λA K=>by rw[st];exact a1 A K,by rw[zk5 hu];exact a2,a3⟩
    | false =>
     rw[hu]at st;obtain⟨w1,b1,b2,b3⟩:=inn n a hi omY (eq_of_beq hv1) hu (yD s l a) 0 E.N w omY (by have:=GV s l a;omega) hw hwl;have l1:w1.len<=2001:=by
      rw[<- kY,b2];exact zr1 _ _ (by rw[kY];exact hwl)
     obtain⟨w',a1,a2,a3⟩:=ih (a+1) n w1 omY omY omY b3 l1;rw[b2]at a2;exact⟨w',λA K=>by rw[st];exact(b1 A K).trans (a1 A K),a2,a3⟩
 obtain⟨w',a1,a2,a3⟩:=key (l.len-i) i E.N w omY (kC _) omY hw hn;refine⟨w',ae.ext λK=>by rw[e195,bn];exact a1 _ K,?_,a3⟩;rw[a2,O7];rfl
def UD(s:au)(l:Sl bF)(x:Int):List jv:=O7 (ET s l) (Cb l) (O8 s l x) 30 [] [] 0
theorem zcY{s:au}{l:Sl bF}{x:Int}(h:(UD s l x).length<=2000):UD s l x=kF s l x:=by
 have:=(zkM (f:=30) (out:=[]) (c:=[]) (i:=0)).2 h;rw[Pg]at this;exact this
abbrev zzz(C:au×Sl bF×Int->ae (Sl af×Bool)):Prop:=∀s l x,Ev s l x->∃w,C (s,l,x)=.ok (w,decide ((UD s l x).length<=2000))/\chs w=UD s l x/\zW x w/\w.len<=2001
theorem zVM{E:zpT}(hm:QW 30 E.NJ):zzz (zpU E):=λs l x he=>by
 have h24:=he.l24;obtain⟨w',a,b,d⟩:=hm s l x ⟨x,⟨0,λ_=>default⟩,⟨0,λ_=>default⟩⟩ [] 0 ⟨0,λ_=>⟨0,⟨0,λ_=>default⟩,⟨0,λ_=>default⟩⟩⟩ he (zcX s l x) rfl ⟨rfl,rfl⟩ omY (λi hi=>absurd hi (UW i)) (Cf _);have hb:chs w'=UD s l x:=b;refine⟨w',ae.ext λk=>?_,hb,d,?_⟩
 ·rw [e153];show (E.NJ ((_,_,_,((0:Nat):Int)),_)).T _=_;rw[a,bn,bn];have:decide ((w'.len:Int)<=2000)=decide ((UD s l x).length<=2000):=by rw[<- hb,kY];exact jqK.2 omY
  rw[this]
 ·rw[<- kY,hb];exact Ub (Cf _)
abbrev zzA(C:Int->ae Bool):Prop:=∀x,C x=.ok false
theorem zVN{E:zrn}:zzA (zro E):=λx=>ae.ext λk=>by rw[e237,bn,show(x != x)=false by simp]
abbrev zzB(C:Int×Int->ae Bool):Prop:=∀a b,C (a,b)=.ok (decide (a<b))
theorem zVO{E:zrl}(Xd:zrL E.NI):zzB (zrm E):=λa b=>ae.ext λk=>by rw[zUr,Xd,bn,bn];rfl
theorem zzC{a:Int}(h:0<=a/\a<=1000000):aO (EZ .u64 (IntKind.u64.wrap (aO a)) 1)=a/2:=by
 have e1:aO a=a:=bf omY omY;have e2:IntKind.u64.wrap a=a:=by
  have hb:IntKind.u64.bits=64:=rfl;have hs:IntKind.u64.signed=false:=rfl;unfold IntKind.wrap;rw[hb,hs];simp only[qdf,qdE,qjr];omega
 have e3:EZ .u64 a 1=a/2:=by
  show a.fdiv (2^(min (1:Int).toNat 64))=_;rw[jqV _ (by decide)];rfl
 rw[e1,e2,e3,bf omY omY]
def hasB(w:Sl Int)(x:Int):Bool:=!fG (λj=>!decide (w.get j=x)) w.len
theorem Iu{w:Sl Int}{x:Int}:hasB w x=true↔∃j,j<w.len/\w.get j=x:=by
 unfold hasB;rw[NR,<- qjt,dI];constructor
 ·intro h;apply qdG;intro hc;exact h λi hi=>by simpa using λe=>hc ⟨i,hi,e⟩
 ·rintro⟨j,hj,e⟩ h;have:=h j hj;simp[e]at this
def zr2(w:Sl Int):Prop:=∀i j,i<j->j<w.len->w.get i<w.get j
abbrev zzD(C:Sl Int×Int->ae (Int×Bool)):Prop:=∀w x,zr2 w->w.len<=1000->∃r,C (w,x)=.ok (r,hasB w x)
theorem zVP{E:zeO}(N:Big E.N)(zyB:zzB E.c236)(zyC:zzA E.zlv):zzD (zqV E):=λw x hw hl=>by
 have key:∀(d i j n:Nat),i+d=j->j<=w.len->d<n->(∀p,p<i->w.get p<x)->(∀p,j<=p->p<w.len->x<=w.get p)->∃r,∀(A:Type)(k:Int×Bool->Option A),zu E n w x (i:Int) (j:Int) k=k (r,hasB w x):=by
  intro d
  induction d using Nat.strongRecOn with
  | _ d ih =>
   intro i j n hd hj hn h1 h2;obtain⟨n,rfl⟩:∃n',n=n'+1:=⟨n-1,omY⟩;by_cases h0:d=0
   ·have e : i = j := by omega
    subst e;have no:(i<w.len->w.get i≠x)->hasB w x=false:=λhn=>by
     cases hb:hasB w x with
     | false=>rfl
     | true =>
      obtain⟨p,hp,e⟩:=Iu.1 hb;rcases qdB p i with q|q|q
      ·have:=h1 p q;omega
      ·subst q;exact absurd e (hn hp)
      ·have a:=hw i p q hp;have:=h2 i (kC _) omY;omega
    by_cases hi:i<w.len
    ·by_cases hx : w.get i = x
     ·refine⟨(i:Int),fun A k => ?_⟩;rw[TI,eU omY,dS,dZ omY,ed,bG omY,gU,show(w.get i==x)=true by simpa using hx,ed,Iu.2 ⟨i,hi,hx⟩]
     ·refine⟨(i:Int),fun A k => ?_⟩;rw[TI,eU omY,dS,dZ omY,ed,bG omY,gU,show(w.get i==x)=false by simpa using hx,dS,bG omY,zyC,bn,no λ_=>hx];rfl
    ·refine⟨(i:Int),fun A k => ?_⟩;rw[TI,eU omY,dS,eU omY,dS,no λh=>absurd h hi]
   ·have em : aO (EZ .u64 (IntKind.u64.wrap (aO ((i : Int) + (j : Int)))) 1) = (((i + j) / 2 : Nat) : Int) := by rw [zzC omY]; omega
    generalize hm:(i+j)/2=m at em;have m1:i<=m/\m<j:=by omega
    have st:∀(A:Type)(k:Int×Bool->Option A),zu E (n+1) w x (i:Int) (j:Int) k=cond (decide (w.get m<x)) (zu E n w x ((m+1:Nat):Int) (j:Int) k) (zu E n w x (i:Int) (m:Int) k):=λA k=>by
     rw[TI,em,dZ omY,ed,bG omY,gU,zyB,bn,bP omY]
    by_cases c:w.get m<x
    ·obtain⟨r,hr⟩:=ih (j-(m+1)) omY (m+1) j n omY hj omY (λp hp=>by
      by_cases e:p=m
      ·rw[e];exact c
      ·have:=hw p m omY omY;omega) h2
     exact⟨r,λA k=>by rw[st,dZ c];exact hr A k⟩
    ·obtain⟨r,hr⟩:=ih (m-i) omY i m n omY omY omY h1 (λp hp hp2=>by
      by_cases e:p=m
      ·rw[e];omega
      ·have:=hw m p omY hp2;omega)
     exact⟨r,λA k=>by rw[st,eU c];exact hr A k⟩
 obtain⟨r,hr⟩:=key w.len 0 w.len E.N omY (kC _) (by have:=N;omega) (λp hp=>absurd hp (UW p)) (λp h1 h2=>by omega);exact⟨r,ae.ext λk=>by rw[zUc,bn];exact hr _ k⟩
def jT(p:ak):Int:=cond (p.Kind==2) (aO (p.aS.tdiv 2)) 0
def zMW(p:ak)(c:Nat):bZ:=⟨aO (aO (p.First+aO ((c:Int)*p.aS))-jT p),aO (aO (aO (aO (p.First+aO ((c:Int)*p.aS))-jT p)+p.aS)-1)⟩
def Oe(p:ak):Nat→Nat→List (Int×bZ)
  | 0,_=>[]
  | m+1,c=>cond (hasB p.Dead (c:Int)) (Oe p m (c+1)) (((c:Int),zMW p c)::Oe p m (c+1))
abbrev zzE(I:Pt placed->ae (List (Int×bZ))):Prop:=∀q:Pt placed,YD q.v.ak->zr2 q.v.ak.Dead->q.v.ak.Dead.len<=1000->I q=.ok (Oe q.v.ak q.v.ak.bM.toNat 0)
theorem zVQ{E:zaN}(N:Big E.N)(zyA:zzD E.zsy):zzE (zyz E):=λq hp hi hl=>by
 refine DI ?_ (λ_=>rfl) (λ_=>rfl);obtain⟨_,_,_,_,_,Fb,_⟩:=hp;have key:∀(m c n:Nat),c+m=q.v.ak.bM.toNat->m<n->Gw E n q (jT q.v.ak) (c:Int)=some ((Oe q.v.ak m c).map dG.enc):=by
  intro m
  induction m with
  | zero =>
   intro c n hc hn;obtain⟨n,rfl⟩:∃n',n=n'+1:=⟨n-1,omY⟩;rw[zj2,eU omY];rfl
  | succ m ih =>
   intro c n hc hn;obtain⟨n,rfl⟩:∃n',n=n'+1:=⟨n-1,omY⟩;obtain⟨r,hr⟩:=zyA q.v.ak.Dead (c:Int) hi hl;rw[zj2,dZ omY,ed,hr,bn,bP omY,ih (c+1) n omY omY];show cond (hasB q.v.ak.Dead (c:Int)) _ _=_;simp only[Oe];cases hasB q.v.ak.Dead (c:Int)<;>rfl
 have h0:=key q.v.ak.bM.toNat 0 E.N omY (by have:=N;omega);rw[e204];unfold jT at h0;revert h0;cases q.v.ak.Kind==2<;>exact id
def nxt:List (Int×bZ)→Int→Int
  | [],n=>n
  | y::r,n=>nxt r (cond (decide (y.2.Low<=n)&&decide (n<=y.2.High)) (aO (y.2.High+1)) n)
def Y7(x:bZ):Bool:=decide (-1000000<=x.Low/\x.Low<=x.High/\x.High<=1000000)
def EY(p:ak)(x:bZ):Bool:=decide (nxt (Oe p p.bM.toNat 0) (aO (x.Low-p.bC.High))>aO (x.High-p.bC.Low))
theorem zr3{p:ak}(h:plB p=true):zr2 p.Dead/\p.Dead.len<=100:=by
 simp only[plB,gG,pJ,dI]at h;obtain⟨⟨_,h1⟩,h2⟩:=h;refine⟨λi j=>?_,h1⟩;have step:∀j,j+1<p.Dead.len->p.Dead.get j<p.Dead.get (j+1):=λj hj=>by
  have:=h2 (j+1) hj;simp only[dB,gG,Zb,pJ,qjj]at this;exact this.2.resolve_left omY
 intro O5 hj
 induction j with
 | zero=>omega
 | succ j ih =>
  have:=step j hj;by_cases e:i=j
  ·rw[e];exact this
  ·have:=ih omY omY;omega
abbrev zvO(C:au×Int×bZ->ae (Bool×Bool×Int)):Prop:=∀s (i:Nat) x,sN s->fH s=true->i<s.aj.len->∃b,C (s,(i:Int),x)=.ok (cond (Y7 x) (EY (s.aj.get i) x,b,0) (false,false,2))
theorem zVR{E:zav}(BF:QSe E.c160)(lT:BX E.iw)(WL:zo4 E.c164)(zfJ:zzE E.zfJ):zvO (zpi E):=λs i x hs hb hi=>by
 have hl:=tu hb;obtain⟨d1,d2⟩:=zr3 (MH hb hi);have key:∀(l:List (Int×bZ))(lo hg nx:Int)(cn:Bool),∃b,∀(A:Type)(k:Bool×Bool×Int->Option A),uK E l s (i:Int) lo hg cn nx k=k (decide (nxt l nx>hg),b,0):=by
  intro l
  induction l with
  | nil=>intro lo hg nx cn;exact⟨cn,λA k=>zpj ..⟩
  | cons y l ih =>
   intro lo hg nx cn;have st:∃cn',∀(A:Type)(k:Bool×Bool×Int->Option A),uK E (y::l) s (i:Int) lo hg cn nx k=uK E l s (i:Int) lo hg cn' (cond (decide (y.2.Low<=nx)&&decide (nx<=y.2.High)) (aO (y.2.High+1)) nx) k:=by
    have e2:∀cn' (A:Type) (k:Bool×Bool×Int->Option A),MM E l s (i:Int) lo hg cn' nx y.2 k=uK E l s (i:Int) lo hg cn' (cond (decide (y.2.Low<=nx)&&decide (nx<=y.2.High)) (aO (y.2.High+1)) nx) k:=λcn' A k=>by
     rw[zx4];cases decide (y.2.Low<=nx)<;>cases decide (nx<=y.2.High)<;>rfl
    cases cn with
    | true=>exact⟨true,λA k=>by rw[zaw];exact e2 _ A k⟩
    | false =>
     cases hd:decide (aO (y.2.Low-(s.aj.get (i:Int).toNat).dN)<=hg)with
     | true=>exact⟨_,λA k=>by rw[zaw,hd];exact e2 _ A k⟩
     | false=>exact⟨false,λA k=>by rw[zaw,hd];exact e2 _ A k⟩
   obtain⟨cn',h⟩:=st;obtain⟨b,h2⟩:=ih lo hg (cond (decide (y.2.Low<=nx)&&decide (nx<=y.2.High)) (aO (y.2.High+1)) nx) cn';exact⟨b,λA k=>by rw[h,h2];rfl⟩
 obtain⟨b,hk⟩:=key (Oe (s.aj.get i) (s.aj.get i).bM.toNat 0) (aO (x.Low-(s.aj.get i).bC.High)) (aO (x.High-(s.aj.get i).bC.Low)) (aO (x.Low-(s.aj.get i).bC.High)) false;refine⟨b,ae.ext λk=>?_⟩;rw[e115,BF s hs,bn,hb,lT,bn,bn,Ar omY,show inB (i:Int) 0 ((s.aj.len:Int)-1)=true from dZ omY,WL _ _ omY,bn,bG omY,gU,zfJ ⟨⟨s.aj.get i,(i:Int)⟩⟩ (xE hb hi) d1 (by show(s.aj.get i).Dead.len<=1000;omega),bn];show cond (!decide (-1000000<=x.Low/\x.Low<=x.High/\x.High<=1000000)) _ _=_;rw[show decide (-1000000<=x.Low/\x.Low<=x.High/\x.High<=1000000)=Y7 x from rfl];cases Y7 x with
 | false=>rfl
 | true=>exact hk _ k
/-! Fractions, rounded. -/
def FlK(f:aP):Prop:=(-100000000000000000<=f.Num/\f.Num<=100000000000000000)/\0<f.bT/\f.bT<=100000000000000000
abbrev zr4(C:aP->ae Int):Prop:=∀f,FlK f->C f=.ok (f.Num/f.bT)
theorem zcZ{a b:Int}(h1 : -100000000000000000<=a/\a<=100000000000000000)(h2:0<b) : -100000000000000000<=a/b/\a/b<=100000000000000000:=by
 refine⟨qzj h2 ?_,?_⟩
 ·have:=dq8 (show(1:Int)≤b by omega) (show(0:Int)≤100000000000000000 by omega);omega
 ·rcases qdX a 0 with h | h
  ·have:=jqW h h2;omega
  ·have:=Int.ediv_le_self b h;omega
theorem zVS{E:zqB}:zr4 (zqC E):=λf h=>ae.ext λk=>by
 obtain⟨h1,h2,h3⟩:=h;have q:=zcZ h1 h2;rw[zTT,bn];by_cases hn:f.Num<0
 ·have e1:(-f.Num+f.bT-1)/f.bT = -(f.Num/f.bT):=by
   have a:=qjL f.Num f.bT;have b:=jqj f.Num (show f.bT≠0 by omega);have c:=qj0 f.Num h2;refine((qdD (r:=f.bT-1-f.Num%f.bT) h2).2 ⟨?_,omY,omY⟩).1;rw[qjl];omega
  rw[dZ hn,ed,bG omY,bf (x:=0-f.Num) omY omY,bf (x:=0-f.Num+f.bT) omY omY,bf (x:=0-f.Num+f.bT-1) omY omY,qdC omY,show 0-f.Num+f.bT-1 = -f.Num+f.bT-1 by omega,e1,bf (x:=-(f.Num/f.bT)) omY omY,show 0 - -(f.Num/f.bT)=f.Num/f.bT by omega,bf omY omY]
 ·rw[eU hn,dS,bG omY,qdC omY,bf omY omY]
abbrev zzG(C:aP->ae Int):Prop:=∀f,FlK f->C f=.ok (-(-f.Num/f.bT))
theorem zVT{E:zqD}(zaA:zr4 E.OO):zzG (zqE E):=λf h=>ae.ext λk=>by
 obtain⟨h1,h2,h3⟩:=h;have q:=zcZ (a:=-f.Num) omY h2;rw[zTV,bf (x:=0-f.Num) omY omY,show 0-f.Num = -f.Num by omega,zaA ⟨-f.Num,f.bT⟩ ⟨by show _<=-f.Num/\-f.Num<=_;omega,h2,h3⟩,bn,bn];show k (aO (0 - -f.Num/f.bT))=_;rw[bf omY omY,show 0 - -f.Num/f.bT = -(-f.Num/f.bT)by omega]
def ls{α:Type}(w:Sl α):List α:=(List.range w.len).map w.get
theorem iQ{α:Type}(w:Sl α):(ls w).length=w.len:=by simp[ls]
theorem NU{α:Type}{w:Sl α}{i:Nat}(h:i<w.len):(ls w)[i]? = some (w.get i):=by simp[ls,qjv h]
theorem jA{α:Type}{w:Sl α}{x:α}:x∈ls w↔∃i,i<w.len/\w.get i=x:=by simp[ls]
theorem O9{α:Type}[bH α][sQ α](w:Sl α)(x:α):ls (oO w x)=ls w++[x]:=by
 unfold ls;show(List.range (w.len+1)).map _=_;rw[qjm,QQ];congr 1
 ·exact qdg λi hi=>by
   show jL w.len w.get (λ_=>x) i=_;rw[je,fB (by have:=JC.1 hi;omega)]
 ·show [jL w.len w.get (fun _=>x) w.len]=_;rw[je,eX (kC _)]
theorem XR{α:Type}[bH α][sQ α](a b:Sl α):ls (⟨a.len+b.len,jL a.len a.get b.get⟩:Sl α)=ls a++ls b:=by
 unfold ls;show(List.range (a.len+b.len)).map (jL a.len a.get b.get)=_;rw[List.range_add,QQ,qdW];congr 1
 ·exact qdg λi hi=>by rw[je,fB (by have:=JC.1 hi;omega)]
 ·exact qdg λi _=>by
   show jL a.len a.get b.get (a.len+i)=_;rw[je,eX omY,jq7]
theorem XT(w:Sl af):chs w=(ls w).map fA:=by unfold chs ls;rw[qdW];rfl
theorem zgC{x:Int}{w:Sl af}:zW x w↔∀t∈ls w,Ol x t:=by
 constructor
 ·intro h t ht;obtain⟨i,hi,rfl⟩:=jA.1 ht;exact h i hi
 ·intro h i hi;exact h _ (jA.2 ⟨i,hi,rfl⟩)
def QT{α:Type}[bH α](z:Nat→α)(p:α→Bool)(w:Sl α):Nat→Sl α
  | 0=>⟨0,z⟩
  | i+1=>cond (p (w.get i)) (oO (QT z p w i) (w.get i)) (QT z p w i)
theorem yj{α:Type}[bH α](z:Nat→α)(p:α→Bool)(w:Sl α):∀n,(QT z p w n).len≤n
  | 0=>kC _
  | n+1=>by
    have:=yj z p w n;simp only[QT];cases p (w.get n)with
    | true=>show(QT z p w n).len+1<=n+1;omega
    | false=>show(QT z p w n).len<=n+1;omega
theorem Uc{α:Type}[bH α][sQ α](z:Nat→α)(p:α→Bool)(w:Sl α):∀n,ls (QT z p w n)=((List.range n).map w.get).filter p
  | 0=>rfl
  | n+1=>by
    rw[qjm,QQ,qjB,<- Uc z p w n];simp only[QT,oU,qd3];cases h:p (w.get n)with
    | true=>rw[ed,O9];simp[h]
    | false=>rw[dS];simp[h]
def usP(l:Sl bF)(c:jv)(i:Nat):Bool:=c.any λq=>(l.get q.1.toNat).ak==(i:Int)
def atB(g:Sl ay)(p:ak):Bool:=cond ((opn' g p).2 != 0) false (cond (decide ((xB g p.Z).1.Num/(xB g p.Z).1.bT < -1000000)) false (cond (decide (-(-(xB g p.Z).2.Num/(xB g p.Z).2.bT)>1000000)) false
  (Y7 ⟨(xB g p.Z).1.Num/(xB g p.Z).1.bT,-(-(xB g p.Z).2.Num/(xB g p.Z).2.bT)⟩&&EY p ⟨(xB g p.Z).1.Num/(xB g p.Z).1.bT,-(-(xB g p.Z).2.Num/(xB g p.Z).2.bT)⟩)))
where opn' (g:Sl ay) (p:ak):set×Int:=Ad g ((g.get 0).Z==p.Z)
def UO(s:au)(l:Sl bF)(x:Int)(c:jv)(i:Nat):Bool:=cond ((s.aj.get i).View != x) false (cond (usP l c i) false (atB (qx s l c) (s.aj.get i)))
def zmE(s:au)(l:Sl bF)(x:Int)(c:jv):List Int:=((List.range' 0 s.aj.len).filter (UO s l x c)).map Int.ofNat
theorem Js{a b:Int}(h1 : -100000000000000000<=a)(h2:a<=100000000000000000)(hb:0<b)(Us:b<=100000000000000000):FlK (red a b):=by
 have r1:=zU (num:=a) hb;have r2:=GG (num:=a) hb;have r3:=jf (num:=a) hb;exact⟨omY,omY,omY⟩
theorem zvA{g:Sl ay}(G:dw g){z:Int}(hz:N7 z)(hc:fQ g=false->0<(jB g).length):FlK (xB g z).1/\FlK (xB g z).2:=by
 have hg:=G.2;unfold xB;cases hf:fQ g with
 | true =>
  obtain⟨a,b⟩:=Oh G.1 omY g.len (kC _);exact⟨Js omY omY omY omY,Js omY omY omY omY⟩
 | false =>
  obtain⟨⟨s,s1,s2⟩,_⟩:=zmC G z (hc hf);obtain⟨⟨t,t1,t2⟩,_⟩:=zmD G z (hc hf);have a:=UN (mi G s1) hz;have b:=UN (mi G t1) hz;rw[<- s2]at a;rw[<- t2]at b;exact⟨Js omY omY omY omY,Js omY omY omY omY⟩
theorem zr5{p:ak}(h:YD p):N7 p.Z:=by
 obtain⟨_,_,hz,_⟩:=h;exact⟨omY,omY⟩
theorem zr6{g:Sl ay}(G:dw g){b:Bool}(h:(Ad g b).2=0):iG g=true/\(fQ g=false->0<(jB g).length):=by
 unfold Ad at h;rw[kU.2 G]at h;cases hs:iG g with
 | false=>rw[hs]at h;cases h
 | true =>
  refine⟨rfl,λhf=>?_⟩;unfold iG at hs;rw[hf,dS,pJ]at hs;omega
abbrev zvP(C:Pt aU×af->ae (Sl Int)):Prop:=∀s l r x t c j,Ev s l x->Ol x t->fA t=c->Val s l x c j->c≠[]->∃w:Sl Int,C (iY s r l,t)=.ok w/\ls w=zmE s l x c
theorem zVU{E:zeA}(N:Big E.N)(NT:zjk E.c105)(zaz:zrZ E.NH)(zte:zvM E.zfX)(zaA:zr4 E.OO)(zyh:zzG E.zsv)(ztf:zvO E.zfY):zvP (zpH E):=λs l r x t c j he ht hc hv hn=>by
 have hl:=qR hc hv;have h24:=he.l24;have G:=EX he.toEvt he.l24 hv hn;have hp:=tu he.se;have key:∀(m i n:Nat)(w:Sl Int),i+m=s.aj.len->m<n->w.len<=i->∃w':Sl Int,(∀(A:Type)(k:Sl Int->Option A),nC E n (iY s r l) t (qx s l c) (i:Int) w k=k w')/\ls w'=ls w++((List.range' i m).filter (UO s l x c)).map Int.ofNat:=by
  intro m
  induction m with
  | zero =>
   intro i n w hi hn hw;obtain⟨n,rfl⟩:∃n',n=n'+1:=⟨n-1,omY⟩;exact⟨w,λA k=>by rw[zjF,eU (by show ¬(i:Int)<(s.aj.len:Int);omega)];rfl,by simp⟩
  | succ m ih =>
   intro i n w hi hn hw;obtain⟨n,rfl⟩:∃n',n=n'+1:=⟨n-1,omY⟩;have Ob:=xE he.se (i:=i) omY;have hz:=zr5 Ob;rw[YA];have st:∀(A:Type)(k:Sl Int->Option A),nC E (n+1) (iY s r l) t (qx s l c) (i:Int) w k=cond (UO s l x c i) (nC E n (iY s r l) t (qx s l c) ((i+1:Nat):Int) (oO w (i:Int)) k) (nC E n (iY s r l) t (qx s l c) ((i+1:Nat):Int) w k):=λA k=>by
    have u:E.NH (t.Hits,.inr ⟨(),⟨iY s r l⟩,⟨(i:Int)⟩⟩)=.ok (usP l c i):=by
     rw[zaz s l r t.Hits (.inr ⟨(),⟨iY s r l⟩,⟨(i:Int)⟩⟩) (EQ hc hv) omY rfl];exact jX ae.ok (zf0 (l:=l) hc λh=>(l.get h.toNat).ak==(i:Int))
    rw[zjF,dZ (show(i:Int)<((iY s r l).v.au.aj.len:Int)by show(i:Int)<(s.aj.len:Int);omega),ed,bG (show 0<=(i:Int)/\(i:Int)<((iY s r l).v.au.aj.len:Int)by show _/\(i:Int)<(s.aj.len:Int);omega),gU,u,bn,bP omY,ht.1];show cond ((s.aj.get i).View != x) _ _=_;unfold UO;cases(s.aj.get i).View != x with
    | true=>rfl
    | false =>
     simp only[dS];cases usP l c i with
     | true=>rfl
     | false =>
      simp only[dS];show(E.zfX (qx s l c,(s.aj.get i).Z)).T _=_;rw[zte _ _ G hz,bn];unfold atB atB.opn';cases ho:(Ad (qx s l c) (((qx s l c).get 0).Z==(s.aj.get i).Z)).2 != 0 with
      | true =>
       simp only[ed];show cond ((Ad (qx s l c) (((qx s l c).get 0).Z==(s.aj.get i).Z)).2 != 0) _ _=_;rw[ho];rfl
      | false =>
       obtain⟨_,hco⟩:=zr6 G (by simpa using ho);obtain⟨b1,b2⟩:=zvA G hz hco;simp only[dS];show(E.OO (xB (qx s l c) (s.aj.get i).Z).1).T _=_;rw[zaA _ b1,bn,zyh _ b2,bn];generalize (xB (qx s l c) (s.aj.get i).Z).1.Num/(xB (qx s l c) (s.aj.get i).Z).1.bT=fa;generalize -(-(xB (qx s l c) (s.aj.get i).Z).2.Num/(xB (qx s l c) (s.aj.get i).Z).2.bT)=fb;cases decide (fa < -1000000)with
       | true=>rfl
       | false =>
        cases decide (fb>1000000)with
        | true=>rfl
        | false =>
         simp only[dS];obtain⟨b,hb⟩:=ztf s i ⟨fa,fb⟩ he.sh he.se omY;show(E.zfY (s,(i:Int),⟨fa,fb⟩)).T _=_;rw[hb,bn];cases Y7 ⟨fa,fb⟩with
         | false=>rfl
         | true =>
          show cond (EY (s.aj.get i) ⟨fa,fb⟩) (aV (room (w.len+1) 8) _) _=cond (true&&EY (s.aj.get i) ⟨fa,fb⟩) _ _;rw[jQ omY omY];cases EY (s.aj.get i) ⟨fa,fb⟩<;>rfl
   cases hb:UO s l x c i with
   | true =>
    rw[hb]at st;obtain⟨w',a,b⟩:=ih (i+1) n (oO w (i:Int)) omY omY (by show w.len+1<=i+1;omega);exact⟨w',λA k=>by rw[st];exact a A k,by rw[b,O9];simp[hb]⟩
   | false =>
    rw[hb]at st;obtain⟨w',a,b⟩:=ih (i+1) n w omY omY omY;exact⟨w',λA k=>by rw[st];exact a A k,by rw[b];simp[hb]⟩
 obtain⟨w',a,b⟩:=key s.aj.len 0 E.N ⟨0,λ_=>0⟩ omY (by have:=N;omega) (kC _);refine⟨w',ae.ext λk=>?_,b⟩;rw[zS3,NT s l r t he.toEvt omY (Fa he.vw ht hc hv hn),bn,IY hc,bn];exact a _ k
def qG(s:au)(l:Sl bF)(x:Int)(r:bJ)(c:jv):Bool:=decide ((c.length:Int)>=r.uS)&&decide (((zmE s l x c).length:Int)<=r.zF)
abbrev zzH(C:Pt aU×af->ae Bool):Prop:=∀s l r x t c j,Ev s l x->Ol x t->fA t=c->Val s l x c j->c≠[]->C (iY s r l,t)=.ok (qG s l x r c)
theorem zVV{E:zpu}(ztd:zvP E.c141):zzH (zpv E):=λs l r x t c j he ht hc hv hn=>ae.ext λk=>by
 obtain⟨w,h1,h2⟩:=ztd s l r x t c j he ht hc hv hn;rw[e129,h1,bn,bn];unfold qG;rw[<- h2,iQ,<- hc,kz];show cond (decide ((t.Hits.len:Int)>=r.uS)) (k (decide ((w.len:Int)<=r.zF))) (k false)=_;cases decide ((t.Hits.len:Int)>=r.uS)<;>rfl
/-! Choices that contain others. -/
abbrev zzI(C:Sl Int×Int->ae Int):Prop:=∀(w:Sl Int) x,w.len<=1000->C (w,x)=.ok (fst (λj=>x==w.get j) w.len 0)
theorem zVW{E:zeF}(N:Big E.N):zzI (zpS E):=λw x hw=>ae.ext λk=>by
 rw[e152,bn];refine Ip (L:=λn i=>TC E n w x i k) (p:=λj=>x==w.get j) (m:=w.len) (k:=k) omY (λn i hi=>?_) (λn=>?_) _ (by have:=N;omega)
 ·rw[zjK,dZ omY,ed,bG omY,gU]
 ·rw[zjK,eU omY];rfl
theorem zk6(p:Nat→Bool):∀m i,0≤fst p m i→∃j:Nat,fst p m i=(j:Int)∧i≤j∧j<i+m∧p j=true
  | 0,i,h=>by simp[fst]at h
  | m+1,i,h=>by
    simp only[fst]at h ⊢;cases hp:p i with
    | true=>exact⟨i,rfl,kC _,omY,hp⟩
    | false =>
      rw[hp,dS]at h;obtain⟨j,a,b,c,d⟩:=zk6 p m (i+1) h;exact⟨j,a,omY,omY,d⟩
structure One (t : af) : Prop where
  le:t.Hits.len<=100
  sd:t.bz.len=t.Hits.len
  un:∀i j,i<t.Hits.len->j<t.Hits.len->t.Hits.get i=t.Hits.get j->i=j
theorem lJ{t:af}{p:Int×Int}:p∈fA t↔∃i,i<t.Hits.len/\t.Hits.get i=p.1/\t.bz.get i=p.2:=by
 unfold fA;simp only[xR,JC];constructor
 ·rintro⟨i,hi,rfl⟩;exact⟨i,hi,rfl,rfl⟩
 ·rintro⟨i,hi,h1,h2⟩;exact⟨i,hi,by rw[h1,h2]⟩
abbrev Q92(C:af×af->ae Bool):Prop:=∀a b,One a->One b->C (a,b)=.ok (yE a b)
theorem s92{E:E92}(N:Big E.N)(zxW:zzI E.c152):Q92 (F92 E):=λa b ha hb=>ae.ext λk=>by
 have la:=ha.le;have lb:=hb.le;rw[e92,bn,loopA (L:=λn i=>zcD E n a b i k) (p:=λi=>(fA a).contains (b.Hits.get i,b.bz.get i)) (m:=b.Hits.len) (fin:=k (a.View==b.View)) (stop:=k false) omY (λn i hi=>?_) (λn=>?_) _ (by have:=N;omega)]
 ·have e:yE a b=(fG (λi=>(fA a).contains (b.Hits.get i,b.bz.get i)) b.Hits.len&&(a.View==b.View)):=by
   unfold yE;congr 1
   ·rw [Ut, dI, Aa];constructor
    ·intro h i hi;exact h _ (lJ.2 ⟨i,hi,rfl,rfl⟩)
    ·intro h p hp;obtain⟨i,hi,h1,h2⟩:=lJ.1 hp;have:=h i hi;rw[h1,h2]at this;exact this
   ·rw[Ut,qdO,qdO];exact eq_comm
  rw[e];cases fG (λi=>(fA a).contains (b.Hits.get i,b.bz.get i)) b.Hits.len<;>rfl
 ·rw [zuo, dZ omY, ed, bG omY, gU, zxW _ _ omY, bn];by_cases h0:fst (λ j=>b.Hits.get i == a.Hits.get j) a.Hits.len 0 < 0
  ·have:(fA a).contains (b.Hits.get i,b.bz.get i)=false:=by
    cases hc:(fA a).contains (b.Hits.get i,b.bz.get i)with
    | false=>rfl
    | true =>
     obtain⟨j,hj,h1,_⟩:=lJ.1 (qjn.1 hc);have:=(zcH (λj=>b.Hits.get i==a.Hits.get j) a.Hits.len 0).2 ⟨j,Cf _,omY,by simp[h1]⟩;omega
   rw[dZ h0,this];rfl
  ·obtain⟨j,e,_,hj,hp⟩:=zk6 (fun j=>b.Hits.get i==a.Hits.get j) a.Hits.len 0 omY;have sa:=ha.sd;have sb:=hb.sd;have hp:b.Hits.get i=a.Hits.get j:=eq_of_beq hp;rw[eU h0,dS,e,bG omY,bG omY,gU];have:(fA a).contains (b.Hits.get i,b.bz.get i)=(a.bz.get j==b.bz.get i):=by
    rw[Ut,qjn,lJ,qdO];constructor
    ·rintro⟨q,hq,h1,h2⟩;have:=ha.un q j hq omY (h1.trans hp);rw[this]at h2;exact h2
    ·intro h;exact⟨j,omY,hp.symm,h⟩
   rw[this,bne];cases a.bz.get j==b.bz.get i<;>rfl
 ·rw[zuo,eU omY];rfl
theorem zlN{s:au}{l:Sl bF}{x:Int}{t:af}{c:jv}{j:Nat}(h24:l.len<=24)(ht:Ol x t)(hc:fA t=c)(h:Val s l x c j):One t:=by
 have hl:=qR hc h;have lc:c.length=t.Hits.len:=by rw[<- hc,kz]
 refine⟨omY,ht.2,λa b ha hb e=>?_⟩;have pw:=qdk.1 h.pw;have ge:∀i (hi:i<t.Hits.len),c[i]'omY=(t.Hits.get i,t.bz.get i):=λi hi=>by
  have:=zV hc hi;rw[BR omY]at this;exact YR this
 rcases qdB a b with q|q|q
 ·have:=(pw a b omY omY q).1;rw[ge a ha,ge b hb]at this;simp only at this;omega
 ·exact q
 ·have:=(pw b a omY omY q).1;rw[ge a ha,ge b hb]at this;simp only at this;omega
def Jt(a b:af):Bool:=decide ((a.Hits.len:Int)>(b.Hits.len:Int))&&yE a b
abbrev zzJ(C:af×Pt af->ae Bool):Prop:=∀a (b:Pt af),One a->One b.v->C (a,b)=.ok (Jt a b.v)
theorem zVX{E:zpA}(h92:Q92 E.c92):zzJ (zpB E):=λa b ha hb=>ae.ext λk=>by
 rw[zSW,h92 _ _ ha hb,bn,bn];unfold Jt;cases decide ((a.Hits.len:Int)>(b.v.Hits.len:Int))<;>rfl
abbrev Q97(C:Sl af×dY 132 Unit (Pt af)->ae Int):Prop:=∀(w:Sl af)(c:dY 132 Unit (Pt af)),(∀t∈ls w,One t)->w.len<=10000->One c.v.v->C (w,c)=.ok (fst (λj=>Jt (w.get j) c.v.v) w.len 0)
theorem s97{E:E97}(N:Big E.N)(zxZ:zzJ E.zsk):Q97 (F97 E):=λw c hw hl hc=>ae.ext λk=>by
 rw[e97,bn];refine Ip (L:=λn i=>zcF E n w c i k) (p:=λj=>Jt (w.get j) c.v.v) (m:=w.len) (k:=k) omY (λn i hi=>?_) (λn=>?_) _ (by have:=N;omega)
 ·rw[zus,dZ omY,ed,bG omY,gU,zxZ _ _ (hw _ (jA.2 ⟨i,hi,rfl⟩)) hc,bn]
 ·rw[zus,eU omY];rfl
theorem zgu{α:Type}{w:Sl α}{p:α->Bool}:(!fG (λj=>!p (w.get j)) w.len)=(ls w).any p:=by
 rw[Ut,NR,<- qjt,dI,qd1];constructor
 ·intro h;apply qdG;intro hn;refine h λj hj=>?_;cases e:p (w.get j)with
  | false=>rfl
  | true=>exact(hn ⟨_,jA.2 ⟨j,hj,rfl⟩,e⟩).elim
 ·rintro⟨q,hq,e⟩ h;obtain⟨j,hj,rfl⟩:=jA.1 hq;have:=h j hj;rw[e]at this;cases this
abbrev zzK(C:Sl af×dY 132 Unit (Pt af)->ae Bool):Prop:=∀(w:Sl af)(c:dY 132 Unit (Pt af)),(∀t∈ls w,One t)->w.len<=10000->One c.v.v->C (w,c)=.ok ((ls w).any λx=>Jt x c.v.v)
theorem zVZ{E:zpy}(h97:Q97 E.c97):zzK (zpz E):=λw c hw hl hc=>ae.ext λk=>by
 rw[zSU,h97 w c hw hl hc,bn,bn,xu (λj=>Jt (w.get j) c.v.v),zgu (p:=λx=>Jt x c.v.v)]
abbrev zzL(C:af×Pt (Pt found)->ae Bool):Prop:=∀t (f:Pt (Pt found)),(∀t∈ls f.v.v.fits,One t)->f.v.v.fits.len<=10000->One t->C (t,f)=.ok (!(ls f.v.v.fits).any λx=>Jt x t)
theorem zV1{E:zpw}(zye:zzK E.c131):zzL (zpx E):=λt f hf hl ht=>ae.ext λk=>by
 rw[zSS,zye f.v.v.fits _ hf hl ht,bn,bn]
/-! Those that are as wanted. -/
abbrev UE:Nat->af:=λ_=>⟨0,⟨0,λ_=>0⟩,⟨0,λ_=>0⟩⟩
abbrev zr7:=dY 129 (Pt aU) Unit ⊕ dY 130 Unit (Pt (Pt found))
def zB:zr7→af→Bool
  | .inl c,t=>qG c.a.v.au c.a.v.hits t.View c.a.v.rules (fA t)
  | .inr c,t=>!(ls c.v.v.v.fits).any λx=>Jt x t
structure Chosen (s : au) (l : Sl bF) (t : af) : Prop where
  ev:Ev s l t.View
  tv:Ol t.View t
  vl:∃j,Val s l t.View (fA t) j
  ne:fA t≠[]
theorem Chosen.one{s:au}{l:Sl bF}{t:af}(h:Chosen s l t):One t:=by
 obtain⟨j,hj⟩:=h.vl;exact zlN h.ev.l24 h.tv rfl hj
def okF:zr7→Sl af→Prop
  | .inl c,w=>∃s l r,c.a=iY s r l/\∀t∈ls w,Chosen s l t
  | .inr c,w=>(∀t∈ls w,One t)/\(∀t∈ls c.v.v.v.fits,One t)/\c.v.v.v.fits.len<=10000
abbrev QFi{γ:Type}(i:γ->zr7)(C:Sl af×γ->ae (Sl af×Unit)):Prop:=∀(w:Sl af)(c:γ),okF (i c) w->w.len<=10000->C (w,c)=.ok (QT UE (zB (i c)) w w.len,())
abbrev zuD(C:Sl af×zr7->ae (Sl af×Unit)):Prop:=QFi id C
theorem zk7{E:vM}(N:Big E.N)(zyc:zzH E.zsj):QFi .inl (DU E):=λw c ho hl=>ae.ext λk=>by
 obtain⟨s,l,r,e,hc⟩:=ho;rw[zjB,bn];refine kV (X:=λn i=>rW E n w c (i:Int) (QT UE (zB (.inl c)) w i) k) (m:=w.len) (λn i hi=>?_) (λn=>?_) _ (by have:=N;omega)
 ·have h := hc _ (jA.2 ⟨i, hi, rfl⟩);obtain⟨j,hj⟩:=h.vl;have:=yj UE (zB (.inl c)) w i;have e2:zB (.inl c) (w.get i)=qG s l (w.get i).View r (fA (w.get i)):=by show qG c.a.v.au c.a.v.hits (w.get i).View c.a.v.rules (fA (w.get i))=_;rw[e];rfl
  rw[MP,dZ omY,ed,bG omY,gU,e,zyc s l r _ _ _ j h.ev h.tv rfl hj h.ne,bn,jQ omY omY,bP omY];simp only[QT,e2];cases qG s l (w.get i).View r (fA (w.get i))<;>rfl
 ·rw[MP,eU omY];rfl
theorem zk8{E:vN}(N:Big E.N)(zyd:zzL E.c130):QFi .inr (DW E):=λw c ho hl=>ae.ext λk=>by
 obtain⟨h1,h2,h3⟩:=ho;rw[zjD,bn];refine kV (X:=λn i=>rX E n w c (i:Int) (QT UE (zB (.inr c)) w i) k) (m:=w.len) (λn i hi=>?_) (λn=>?_) _ (by have:=N;omega)
 ·have:=yj UE (zB (.inr c)) w i;have e2:zB (.inr c) (w.get i) = !(ls c.v.v.v.fits).any λx=>Jt x (w.get i):=rfl;rw[MR,dZ omY,ed,bG omY,gU,zyd _ c.v h2 h3 (h1 _ (jA.2 ⟨i,hi,rfl⟩)),bn,jQ omY omY,bP omY];simp only[QT,e2];cases !(ls c.v.v.v.fits).any λx=>Jt x (w.get i)<;>rfl
 ·rw[MR,eU omY];rfl
theorem zV2{f:Sl af×dY 129 (Pt aU) Unit->ae (Sl af×Unit)}{g:Sl af×dY 130 Unit (Pt (Pt found))->ae (Sl af×Unit)}(a:QFi .inl f)(b:QFi .inr g):zuD (ae.two f g):=λw c ho hl=>by
 rcases c with c|c
 ·exact a w c ho hl
 ·exact b w c ho hl
/-! The order. -/
abbrev zzN(C:Int->ae Bool):Prop:=∀x,C x=.ok false
theorem zV3{E:zq3}:zzN (zq4 E):=λx=>ae.ext λk=>by rw[e222,bn,show(x != x)=false by simp]
theorem zV4{E:zqv}(zqx:zzN E.c222):zaT (zqw E):=λa b=>ae.ext λk=>by
 rw[zTP,zqx,bn,zqx,bn,bn];unfold qQ;cases decide (a<b)<;>cases decide (a>b)<;>rfl
abbrev zc0(C:Sl Int×Sl Int->ae Int):Prop:=∀a b:Sl Int,a.len<=1000->b.len<=1000->C (a,b)=.ok (cmpL (pI a) (pI b))
theorem zV5{E:zeL}(N:Big E.N)(zaG:zaT E.c208):zc0 (zqy E):=λa b ha hb=>ae.ext λk=>by
 have key:∀(m i n:Nat),i+m=a.len->m<n->TE E n a b (i:Int) k=k (cmpL ((List.range' i m).map a.get) ((List.range' i (b.len-i)).map b.get)):=by
  intro m
  induction m with
  | zero =>
   intro i n hi hn;obtain⟨n,rfl⟩:∃n',n=n'+1:=⟨n-1,omY⟩;rw[zjW,eU omY,dS,kc k];congr 1;cases h:b.len-i with
   | zero=>rw[eU omY];rfl
   | succ q=>rw[dZ omY];rfl
  | succ m ih =>
   intro i n hi hn;obtain⟨n,rfl⟩:∃n',n=n'+1:=⟨n-1,omY⟩;rw[zjW,dZ omY,ed,bG omY,YA,oU];cases h:b.len-i with
   | zero=>rw[dZ omY];rfl
   | succ q =>
    rw[eU omY,dS,bG omY,gU,zaG,bn,bP omY,ih (i+1) n omY omY,YA,oU,kc k,show b.len-(i+1)=q by omega];rfl
 rw[e187,bn];have:=key a.len 0 E.N omY (by have:=N;omega);unfold pI;rw[dqQ,dqQ];exact this
theorem zNQ(a b c:Int):GU [a,b,c] 0=a/\GU [a,b,c] 1=b/\GU [a,b,c] 2=c:=by
 refine⟨?_,?_,?_⟩
 ·show(bH.dec (IC (shp 8) (bH.enc a) (bH.enc a))).1=a;rw[kK (pO 8) (bH.sm _ _),sQ.de]
 ·show(bH.dec (IC (shp 8) (bH.enc a) (bH.enc b))).1=b;rw[kK (pO 8) (bH.sm _ _),sQ.de]
 ·show(bH.dec (IC (shp 8) (bH.enc a) (bH.enc c))).1=c;rw[kK (pO 8) (bH.sm _ _),sQ.de]
abbrev zzO(C:Sl Int->ae Int):Prop:=∀a b c:Int,C ⟨3,GU [a,b,c]⟩=.ok (cond (a != 0) a (cond (b != 0) b c))
theorem zV6{E:zeK}(N:Big E.N):zzO (zqu E):=λa b c=>ae.ext λk=>by
 obtain⟨n,hn⟩:∃n,E.N=n+1+1+1+1:=⟨E.N-4,by have:=N;omega⟩;obtain⟨g0,g1,g2⟩:=zNQ a b c;have st:∀n (i:Nat),i<3->Gu E (n+1) ⟨3,GU [a,b,c]⟩ (i:Int) k=cond (GU [a,b,c] i != 0) (k (GU [a,b,c] i)) (Gu E n ⟨3,GU [a,b,c]⟩ ((i+1:Nat):Int) k):=λn i hi=>by
  rw[zjV,dZ (show(i:Int)<((3:Nat):Int)by omega),ed,bG (show 0<=(i:Int)/\(i:Int)<((3:Nat):Int)by omega),bP omY];rfl
 have en:∀n,Gu E (n+1) ⟨3,GU [a,b,c]⟩ ((3:Nat):Int) k=k 0:=λn=>by
  rw[zjV,eU (show ¬((3:Nat):Int)<((3:Nat):Int)by omega)];rfl
 rw[e185,bn,hn];refine(st _ 0 omY).trans ?_;rw[st _ 1 omY,st _ 2 omY,en,g0,g1,g2];by_cases h:c=0
 ·subst h;cases a != 0<;>cases b != 0<;>rfl
 ·rw [show(c != 0)=true by simpa using h];cases a != 0<;>cases b != 0<;>rfl
abbrev zuE(C:af×af->ae Int):Prop:=∀a b:af,One a->One b->C (a,b)=.ok (zrS a b)
theorem zV7{E:zpC}(zyf:zaT E.zst)(zpE:zc0 E.zlt)(zyg:zzO E.zss):zuE (zpD E):=λa b ha hb=>ae.ext λk=>by
 have a1:=ha.le;have a2:=ha.sd;have b1:=hb.le;have b2:=hb.sd;rw[zSY,zyf,bn,zpE _ _ omY omY,bn,zpE _ _ omY omY,bn,zyg,bn,bn];rfl
abbrev zzQ(C:Sl Bool×Bool->ae Int):Prop:=∀(w:Sl Bool) x,w.len<=1000->C (w,x)=.ok (fst (λj=>x==w.get j) w.len 0)
theorem zV8{E:zeI}(N:Big E.N):zzQ (zql E):=λw x hw=>ae.ext λk=>by
 rw[zTG,bn];refine Ip (L:=λn i=>TD E n w x i k) (p:=λj=>x==w.get j) (m:=w.len) (k:=k) omY (λn i hi=>?_) (λn=>?_) _ (by have:=N;omega)
 ·rw[zjP,dZ omY,ed,bG omY,gU]
 ·rw[zjP,eU omY];rfl
abbrev zuF(C:Sl Bool×Bool->ae Bool):Prop:=∀(w:Sl Bool) x,w.len<=1000->C (w,x)=.ok ((ls w).any λb=>x==b)
theorem zV9{E:zpr}(zya:zzQ E.zsr):zuF (zps E):=λw x hw=>ae.ext λk=>by
 rw[e126,zya w x hw,bn,bn,xu (λj=>x==w.get j),zgu (p:=λb=>x==b)]
structure NW (s : au) (r : bJ) (l : Sl bF) (f : found) : Prop where
  ev:f.aU=iY s r l
  fx:∃X Y:List af,ls f.fits=X++Y/\(∀t∈X,Ol 1 t)/\(∀t∈Y,Ol 2 t)/\X.map fA=(kF s l 1).filter (qG s l 1 r)/\Y.map fA=(kF s l 2).filter (qG s l 2 r)
  tr:(ls f.aW).Perm ((ls f.fits).filter λt=>!(ls f.fits).any λx=>Jt x t)
  st:(ls f.aW).Pairwise OI
theorem Nz{s:au}{l:Sl bF}{x:Int}{c:jv}(h:c∈kF s l x):(∃j,Ch (ET s l) (Cb l) (O8 s l x) c j)/\c≠[]:=by
 refine⟨zux .nil h,?_⟩;obtain⟨p,e,_,h⟩:=TU h;rw[h];simp
theorem Jw(s:au)(l:Sl bF)(x:Int)(i:Nat):(O8 s l x i).Nodup:=QC s l x _ _
theorem BN {P : Int → jv → Bool} {x : Int} : ∀ {L : List af}, (∀ t ∈ L, t.View = x) → (L.filter fun t => P t.View (fA t)).map fA = (L.map fA).filter (P x)
  | [],_=>rfl
  | t::L,h=>by
    have ih:=BN (P:=P) (L:=L) λu hu=>h u (jU _ hu);have e:=h t lq;rw[oU,dq7,dq7,e];by_cases hp:P x (fA t)=true
    · rw[eX hp,eX hp,oU,ih]
    · rw[fB hp,fB hp,ih]
def Df(a b:af):Prop:=¬(a.View=b.View/\fA a=fA b)
theorem zzR{a b:af}(h:Df a b):Df b a:=λk=>h ⟨k.1.symm,k.2.symm⟩
theorem zuG{X:List af}(h:(X.map fA).Nodup):X.Pairwise Df:=by
 unfold List.Nodup at h;rw[qjc]at h;exact h.imp λhn k=>hn k.2
abbrev Q72(C:au×bJ×Sl bF×Sl Bool->ae (Int ⊕ (Pt found×Int))):Prop:=∀s r l (w:Sl Bool),sN s->l.len<=40->lV s r l=0->(kF s l 1).length<=2000->(kF s l 2).length<=2000->w.len<=10->(∀b∈ls w,b=true)->∃f:Pt found,C (s,r,l,w)=.ok (.inr (f,0))/\NW s r l f.v
theorem s72{E:E72}(h78:Q78 E.c78)(zgh:zuF E.Yp)(zfU:zHj E.c127)(zmm:zuD E.GK)(zHm:zuE E.UF):Q72 (F72 E):=λs r l w hs hl h0 n1 n2 hw hb=>by
  obtain⟨he,_,h24⟩:=E8 hs h0;have ev1:Ev s l 1:={toEvt:=he,l24:=h24,vw:=rfl};have ev2:Ev s l 2:={toEvt:=he,l24:=h24,vw:=rfl};obtain⟨w1,a1,b1,c1⟩:=zfU s l r 1 ev1 n1;obtain⟨w2,a2,b2,c2⟩:=zfU s l r 2 ev2 n2;have ln1:w1.len<=2000:=by rw[<- kY,b1];exact n1
  have ln2:w2.len<=2000:=by rw[<- kY,b2];exact n2
  have cs:∀{x:Int}{w:Sl af},Ev s l x->chs w=kF s l x->zW x w->∀t∈ls w,t.View=x/\Chosen s l t:=fun {x w} ev hb hc t ht=>by
    have hv:=zgC.1 hc t ht;have hm:fA t∈kF s l x:=by rw[<- hb,XT];exact qdJ ht
    obtain⟨⟨j,hj⟩,ja⟩:=Nz hm;have e:=hv.1;subst e;exact⟨rfl,ev,hv,⟨j,Uu hj⟩,ja⟩
  have k1:=cs ev1 b1 c1;have k2:=cs ev2 b2 c2;have f1:=zmm w1 (.inl ⟨iY s r l,()⟩) ⟨s,l,r,rfl,λt ht=>(k1 t ht).2⟩ omY;have f2:=zmm w2 (.inl ⟨iY s r l,()⟩) ⟨s,l,r,rfl,λt ht=>(k2 t ht).2⟩ omY;have g1:ls (QT UE (zB (id (.inl ⟨iY s r l,()⟩))) w1 w1.len)=(ls w1).filter λt=>qG s l t.View r (fA t):=Uc _ _ _ _;have g2:ls (QT UE (zB (id (.inl ⟨iY s r l,()⟩))) w2 w2.len)=(ls w2).filter λt=>qG s l t.View r (fA t):=Uc _ _ _ _;have m1:=yj UE (zB (id (.inl ⟨iY s r l,()⟩))) w1 w1.len;have m2:=yj UE (zB (id (.inl ⟨iY s r l,()⟩))) w2 w2.len;generalize hu1:QT UE (zB (id (.inl ⟨iY s r l,()⟩))) w1 w1.len=u1 at f1 g1 m1;generalize hu2:QT UE (zB (id (.inl ⟨iY s r l,()⟩))) w2 w2.len=u2 at f2 g2 m2;have hX:(ls u1).map fA=(kF s l 1).filter (qG s l 1 r):=by
    rw[g1,BN (P:=λx c=>qG s l x r c) (x:=1) λt ht=>(k1 t ht).1,<- b1,XT]
  have hY:(ls u2).map fA=(kF s l 2).filter (qG s l 2 r):=by
    rw[g2,BN (P:=λx c=>qG s l x r c) (x:=2) λt ht=>(k2 t ht).1,<- b2,XT]
  have q1:∀t∈ls u1,t.View=1/\Chosen s l t:=λt ht=>by rw[g1]at ht;exact k1 t (UL.1 ht).1
  have q2:∀t∈ls u2,t.View=2/\Chosen s l t:=λt ht=>by rw[g2]at ht;exact k2 t (UL.1 ht).1
  let ft:Sl af:=⟨u1.len+u2.len,jL u1.len u1.get u2.get⟩;have hf:ls ft=ls u1++ls u2:=XR u1 u2;have qf:∀t∈ls ft,Chosen s l t:=λt ht=>by
    rw[hf]at ht;rcases dU.1 ht with h|h
    · exact(q1 t h).2
    · exact(q2 t h).2
  have dff:(ls ft).Pairwise Df:=by
    rw[hf,qdx];refine⟨zuG ?_,zuG ?_,λa ha b hb=>λk=>?_⟩
    · rw[hX];exact(Ir (Jw s l 1) _ _ _).filter _
    · rw[hY];exact(Ir (Jw s l 2) _ _ _).filter _
    · have:=(q1 a ha).1;have:=(q2 b hb).1;have:=k.1;omega
  let cl:dY 130 Unit (Pt (Pt found)):=⟨(),⟨⟨⟨iY s r l,ft,⟨0,UE⟩⟩⟩⟩⟩;have lf:ft.len<=4000:=by show u1.len+u2.len<=4000;omega
  have f3:=zmm ft (.inr cl) ⟨λt ht=>(qf t ht).one,λt ht=>(qf t ht).one,by show ft.len<=10000;omega⟩ omY;have g3:ls (QT UE (zB (id (.inr cl))) ft ft.len)=(ls ft).filter λt=>!(ls ft).any λx=>Jt x t:=Uc _ _ _ _;have m3:=yj UE (zB (id (.inr cl))) ft ft.len;generalize hu3:QT UE (zB (id (.inr cl))) ft ft.len=u3 at f3 g3 m3;have q3:∀t∈ls u3,Chosen s l t:=λt ht=>by rw[g3]at ht;exact qf t (UL.1 ht).1
  have df3:(ls u3).Pairwise Df:=by rw[g3];exact dff.sublist List.filter_sublist
  have in3:∀i,i<u3.len->Chosen s l (u3.get i):=λi hi=>q3 _ (jA.2 ⟨i,hi,rfl⟩);have ne3:∀i j,i<u3.len->j<u3.len->i≠j->Df (u3.get i) (u3.get j):=λi j hi hj O5=>by
    have P:=qdk.1 df3;have ge:∀i (hi:i<u3.len),(ls u3)[i]'(by rw[iQ];exact hi)=u3.get i:=λi hi=>by
      have:=NU hi;rw[BR (by rw[iQ];exact hi)]at this;exact YR this
    rcases qd4 i j with h|h
    · have:=P i j (by rw [iQ];exact hi) (by rw [iQ];exact hj) h;rwa[ge i hi,ge j hj]at this
    · have:=P j i (by rw [iQ];exact hj) (by rw [iQ];exact hi) omY;rw[ge i hi,ge j hj]at this;exact zzR this
  obtain⟨hp,p,p1,p2,p3⟩:=zuv (C:=ae.un E.UF) (caps:=[]) (ag:=true) (w:=u3) (cmp:=zrS) (R:=OI) omY
    (λi j hi hj=>by
      show(E.UF (u3.get i,u3.get j)).T _=_;rw[zHm _ _ (in3 i hi).one (in3 j hj).one];rfl)
    (λi j hi hj=>zrT) (λi hi=>zcU _) (λi j hi hj O5=>zgA λh=>ne3 i j hi hj O5 ⟨h.1,zrU h.2.1 h.2.2 (in3 i hi).tv.2 (in3 j hj).tv.2⟩) (λi j _ _ h=>zkS h)
    (λi j k _ _ _ a b=>zeX a b)
  have pl:p.length=u3.len:=by rw[p1.length_eq,jqC]
  let tr:Sl af:=⟨u3.len,soG (ae.un E.UF) [] true u3⟩;have ht:ls tr=p.map u3.get:=by
    refine jqL (by rw[iQ,dqU,pl]) λi h1 h2=>?_;have hi:i<u3.len:=by rw[iQ]at h1;exact h1
    have:=NU (w:=tr) (i:=i) hi;rw[BR h1]at this;rw[YR this,List.getElem_map];exact p3 i omY
  refine⟨⟨⟨iY s r l,ft,tr⟩⟩,ae.ext λk=>?_,rfl,⟨ls u1,ls u2,hf,λt h=>?_,λt h=>?_,hX,hY⟩,?_,?_⟩
  · have no:((ls w).any λb=>false==b)=false:=by
      rw[qdK];intro b Us;rw[hb b Us];simp
    rw[e72,h78 s r l hs hl,bn];have eo:opn s r l=.inr (iY s r l,0):=by unfold opn;rw[h0];rfl
    rw[eo];show(E.Yp (w,false)).T _=_;rw[zgh w false omY,bn,no];show(E.c127 (iY s r l,1)).T _=_;rw[a1,bn];show(E.GK (w1,.inl ⟨iY s r l,()⟩)).T _=_;rw[f1,bn];show aV (room u1.len 56) ((E.c127 (iY s r l,2)).T _)=_;rw[jQ omY omY,a2,bn];show(E.GK (w2,.inl ⟨iY s r l,()⟩)).T _=_;rw[f2,bn];show aV (room (u1.len+u2.len) 56) ((E.GK (ft,.inr cl)).T _)=_;rw[jQ omY omY,f3,bn];show zcA E (iY s r l) ft u3 k=_;rw[zGr,hp];rfl
  · have:=q1 t h;exact⟨this.1,this.2.tv.2⟩
  · have:=q2 t h;exact⟨this.1,this.2.tv.2⟩
  · show(ls tr).Perm _;rw[ht];show(p.map u3.get).Perm ((ls ft).filter λt=>!(ls ft).any λx=>Jt x t);rw[<- g3];exact p1.map _
  · show(ls tr).Pairwise OI;rw[ht,qjc];exact p2
theorem zzS{s:straight}(S:yw s):(fC s).Start.Num*s.den=s.start*(fC s).Start.bT/\(fC s).dM.Num*s.den=s.bI*(fC s).dM.bT:=by
 have p:0<s.den:=by have:=S.2.2;omega
 have key:∀a,(red a s.den).Num*s.den=a*(red a s.den).bT:=λa=>by
  have h1:=oM (num:=a) p;have h2:=mG (num:=a) p;generalize (Int.gcd a s.den:Int)=G at h1 h2;generalize (red a s.den).Num=x at *;generalize (red a s.den).bT=y at *;rw[<- h1,<- h2];ac_rfl
 exact⟨key _,key _⟩
abbrev Q76(C:Line×Int->ae aP):Prop:=∀s z,yw s->N7 z->C (fC s,z)=.ok (red (iL s z) s.den)
theorem s76{E:E76}(zau:zaP E.Ug)(h71:IV E.Uy):Q76 (F76 E):=λs z S hz=>ae.ext λk=>by
  obtain⟨h1,h2,h3,h4⟩:=zcN S;obtain⟨x1,x2⟩:=zzS S;have pd:0<s.den:=by have:=S.2.2;omega
  rw[e76,zau _ _ omY omY omY,bn,bn];have hr:=lI (num:=(fC s).Start.bT) (den:=(fC s).dM.bT) h3.1;obtain⟨a,ha⟩:=zHb (fC s).Start.bT (fC s).dM.bT;obtain⟨b,hb⟩:=zHc (fC s).Start.bT (fC s).dM.bT;generalize (Int.gcd (fC s).Start.bT (fC s).dM.bT:Int)=r at hr ha hb ⊢;generalize (fC s).Start.bT=A at *;generalize (fC s).dM.bT=B at *;generalize (fC s).Start.Num=u at *;generalize (fC s).dM.Num=v at *;have pa:0<a:=by
    rcases qdX 0 a with h|h
    · exact h
    · have:=dq8 h (yt hr);rw[jqG]at this;omega
  have pb:0<b:=by
    rcases qdX 0 b with h|h
    · exact h
    · have:=dq8 h (yt hr);rw[jqG]at this;omega
  have aA:a<=A:=by
    have:=NY (show(1:Int)<=r by omega) (yt pa);omega
  have bB:b<=B:=by
    have:=NY (show(1:Int)<=r by omega) (yt pb);omega
  have e1:A.tdiv r=a:=by rw[ha,qjb _ omY]
  have e2:(a*B).tdiv A=b:=by
    have:a*B=A*b:=by rw[ha,hb];ac_rfl
    rw[this,qjb _ omY]
  have e3:(a*B).tdiv B=a:=by rw[qjX,qjb _ omY]
  have m0:=qy (x:=a) (X:=100000) omY omY (yt h3.1) h3.2;have m1:=qy h2.1 h2.2 (y:=b) (Y:=100000) omY omY;have m2:=qy h1.1 h1.2 (y:=a) (Y:=100000) omY omY;have m3 : -40000000000000000<=v*a*z/\v*a*z<=40000000000000000:=by
    have hz1:=hz.1;have hz2:=hz.2;rcases qdX z 0 with h|h
    · have:=qy (y := -z) (Y:=200000) m2.1 m2.2 omY omY;rw[qjl]at this;omega
    · have:=qy (y:=z) (Y:=200000) m2.1 m2.2 h omY;omega
  have pos:0<a*B:=jqt pa h3.1
  rw[bf (x:=A.tdiv r) (by rw[e1];omega) (by rw[e1];omega),e1,bf (x:=a*B) omY omY,bf (x:=(a*B).tdiv A) (by rw[e2];omega) (by rw[e2];omega),bf (x:=(a*B).tdiv B) (by rw[e3];omega) (by rw[e3];omega),e2,e3,
    bf (x:=u*b) omY omY,bf (x:=v*a) omY omY,bf (x:=v*a*z) omY omY,bf (x:=u*b+v*a*z) omY omY,bG omY,bG omY,bG omY,h71 _ _ omY omY pos omY,bn]
  congr 1;refine(Y4 pos pd).2 ?_;unfold iL;have f1:u*b*s.den=s.start*(a*B):=by
    calc u * b * s.den = u * s.den * b := by ac_rfl
      _=s.start*A*b:=by rw[x1]
      _=s.start*(a*B):=by rw[ha,hb];ac_rfl
  have f2:v*a*z*s.den=s.bI*z*(a*B):=by
    calc v * a * z * s.den = v * s.den * (a * z) := by ac_rfl
      _=s.bI*B*(a*z):=by rw[x2]
      _=s.bI*z*(a*B):=by ac_rfl
  rw[qjx,qjx,f1,f2]
/-! What a plane sees. -/
def qh(p:ak)(c:Int):bZ:=⟨aO (aO (p.First+aO (c*p.aS))-jT p),aO (aO (aO (aO (p.First+aO (c*p.aS))-jT p)+p.aS)-1)⟩
abbrev zzT(C:ak×Int->ae (Int×Int)):Prop:=∀p c,C (p,c)=.ok ((qh p c).Low,(qh p c).High)
theorem zWa{E:zpF}:zzT (zpG E):=λp c=>ae.ext λk=>by
 rw[zS1,bn];unfold qh jT;cases p.Kind==2<;>rfl
def IB(p:ak)(lo hi:Int)(c:Nat):Bool:=hasB p.Dead (c:Int)&&(decide ((qh p (c:Int)).Low<=hi)&&decide ((qh p (c:Int)).High>=lo))
def XU(p:ak)(x:bZ):Bool:=(decide (aO (x.Low-p.bC.High)>=(qh p 0).Low)&&decide (aO (x.High-p.bC.Low)<=(qh p (aO (p.bM-1))).High))&&fG (λc=>!IB p (aO (x.Low-p.bC.High)) (aO (x.High-p.bC.Low)) c) p.bM.toNat
abbrev Q77(C:ak×bZ->ae (Bool×Bool)):Prop:=∀p x,YD p->Few p->∃b,C (p,x)=.ok (XU p x,b)
theorem s77{E:E77}(N:Big E.N)(zjn:zzT E.zfF)(zan:zo5 E.OL):Q77 (F77 E):=λp x hp hf=>by
  obtain⟨_,_,_,_,_,Fb,_⟩:=hp;have key:∀(m c n:Nat)(lo hi:Int)(mu ca:Bool),c+m=p.bM.toNat->m<n->∃b,∀(A:Type)(k:Bool×Bool->Option A),ny E n p lo hi mu ca (c:Int) k=k (mu&&(List.range' c m).all (λc=>!IB p lo hi c),b):=by
    intro m
    induction m with
    | zero =>
      intro c n lo hi mu ca hc hn;obtain⟨n,rfl⟩:∃n',n=n'+1:=⟨n-1,omY⟩;exact⟨ca,λA k=>by rw[zuk,eU omY];simp⟩
    | succ m ih =>
      intro c n lo hi mu ca hc hn;obtain⟨n,rfl⟩:∃n',n=n'+1:=⟨n-1,omY⟩;rw[YA];have st:∃ca',∀(A:Type)(k:Bool×Bool->Option A),ny E (n+1) p lo hi mu ca (c:Int) k=ny E n p lo hi (mu && !IB p lo hi c) ca' ((c+1:Nat):Int) k:=by
        have hd:E.OL (p,(c:Int))=.ok (hasB p.Dead (c:Int)):=zan p _ hf
        have e0:∀(A:Type)(k:Bool×Bool→Option A),ny E (n+1) p lo hi mu ca (c:Int) k=cond (hasB p.Dead (c:Int)) (cond (decide ((qh p (c:Int)).Low≤hi)) (cond (decide ((qh p (c:Int)).High≥lo)) (ny E n p lo hi false ca ((c+1:Nat):Int) k) (ny E n p lo hi mu ca ((c+1:Nat):Int) k)) (ny E n p lo hi mu ca ((c+1:Nat):Int) k))
            (ny E n p lo hi mu (cond (decide (aO ((qh p (c:Int)).Low-p.dN)<=hi)) (cond (decide (aO ((qh p (c:Int)).High+p.dN)>=lo)) true ca) ca) ((c+1:Nat):Int) k):=λA k=>by
          rw[zuk,dZ omY,ed,zjn,bn,hd,bn,bP omY];cases hasB p.Dead (c:Int)with
          | true=>rfl
          | false =>
            simp only[dS];cases decide (aO ((qh p (c:Int)).Low-p.dN)<=hi)with
            | false=>rfl
            | true =>
              simp only[ed];cases decide (aO ((qh p (c:Int)).High+p.dN)>=lo)<;>rfl
        cases h1:hasB p.Dead (c:Int)with
        | false =>
          rw[h1]at e0;exact⟨_,λA k=>by rw[e0];simp only[IB,h1,qdf,qdU,qje];rfl⟩
        | true =>
          rw[h1]at e0;refine⟨ca,λA k=>?_⟩;rw[e0];simp only[IB,h1,OY,ed];cases decide ((qh p (c:Int)).Low<=hi)<;>cases decide ((qh p (c:Int)).High>=lo)<;>simp
      obtain⟨ca',h⟩:=st;obtain⟨b,h2⟩:=ih (c+1) n lo hi (mu && !IB p lo hi c) ca' omY omY;exact⟨b,λA k=>by rw[h,h2,qdS,Bool.and_assoc]⟩
  have al:∀(q:Nat->Bool) n,(List.range' 0 n).all q=fG q n:=λq n=>by
    rw[Ut,dI,Aa];exact⟨λh i hi=>h i (by simp;omega),λh i hi=>h i (by simp at hi;omega)⟩
  obtain⟨b,hb⟩:=key p.bM.toNat 0 E.N (aO (x.Low-p.bC.High)) (aO (x.High-p.bC.Low)) (decide (aO (x.Low-p.bC.High)>=(qh p 0).Low)&&decide (aO (x.High-p.bC.Low)<=(qh p (aO (p.bM-1))).High)) false omY (by have:=N;omega);refine⟨b,ae.ext λk=>?_⟩;rw[e77,zjn,bn,zjn,bn,bn];have hb:=hb _ k;rw[al]at hb;refine Eq.trans ?_ hb;show cond (decide (aO (x.Low-p.bC.High)>=(qh p 0).Low)) (ny E E.N p _ _ (decide (aO (x.High-p.bC.Low)<=(qh p (aO (p.bM-1))).High)) false 0 k) (ny E E.N p _ _ false false 0 k)=_;cases decide (aO (x.Low-p.bC.High)>=(qh p 0).Low)<;>rfl
structure qH (s : au) (l : Sl bF) (t : af) : Prop extends Chosen s l t where
  ag:ET s l (fA t)=true
/-! Choices that contain others: hits in their order. -/
structure zlW (t : af) : Prop where
  le:t.Hits.len<=100
  sd:t.bz.len=t.Hits.len
  inc:zr2 t.Hits
theorem zmx{s:au}{l:Sl bF}{x:Int}{t:af}{c:jv}{j:Nat}(h24:l.len<=24)(ht:Ol x t)(hc:fA t=c)(h:Val s l x c j):zlW t:=by
 have hl:=qR hc h;have lc:c.length=t.Hits.len:=by rw[<- hc,kz]
 refine⟨omY,ht.2,λa b hab hb=>?_⟩;have pw:=qdk.1 h.pw;have ge:∀i (hi:i<t.Hits.len),c[i]'omY=(t.Hits.get i,t.bz.get i):=λi hi=>by
  have:=zV hc hi;rw[BR omY]at this;exact YR this
 have:=(pw a b omY omY hab).1;rw[ge a omY,ge b hb]at this;exact this
theorem Chosen.inc{s:au}{l:Sl bF}{t:af}(h:Chosen s l t):zlW t:=by
 obtain⟨j,hj⟩:=h.vl;exact zmx h.ev.l24 h.tv rfl hj
abbrev Q53(C:af×af->ae Bool):Prop:=∀a b,zlW a->zlW b->C (a,b)=.ok (yE a b)
theorem s53{E:E53}(N:Big E.N):Q53 (F53 E):=λa b ha hb=>ae.ext λk=>by
 have la:=ha.le;have lb:=hb.le;have sa:=ha.sd;have sb:=hb.sd;have ia:=ha.inc;have ib:=hb.inc;have hN:=N;have key:∀(m i n q:Nat),i+m=b.Hits.len->m<n->q<=a.Hits.len->(∀p,p<q->i<b.Hits.len->a.Hits.get p<b.Hits.get i)->zcz E n a b (q:Int) (i:Int) k=k ((List.range' i m).all (λi=>(fA a).contains (b.Hits.get i,b.bz.get i))&&(a.View==b.View)):=by
  intro m
  induction m with
  | zero =>
   intro i n q hi hn hq iC;obtain⟨n,rfl⟩:∃n',n=n'+1:=⟨n-1,omY⟩;rw[zug,eU omY];rfl
  | succ m ih =>
   intro i n q hi hn hq iC;obtain⟨n,rfl⟩:∃n',n=n'+1:=⟨n-1,omY⟩;have hib:i<b.Hits.len:=by omega
   rw[zug,dZ omY,ed,YA,qdS]
   -- the place where the hit can stand
   have adv:∀(d q n1:Nat),q+d=a.Hits.len->d<n1->(∀p,p<q->a.Hits.get p<b.Hits.get i)->∃q',q'<=a.Hits.len/\(∀p,p<q'->a.Hits.get p<b.Hits.get i)/\(q'<a.Hits.len->b.Hits.get i<=a.Hits.get q')/\Qw E n n1 a b (q:Int) (i:Int) k=WP E n a b (q':Int) (i:Int) k:=by
    intro d
    induction d with
    | zero =>
     intro q n1 hq hn1 iC;obtain⟨n1,rfl⟩:∃n',n1=n'+1:=⟨n1-1,omY⟩;exact⟨q,omY,iC,λh=>by omega,by rw[zuh,eU omY];rfl⟩
    | succ d ih2 =>
     intro q n1 hq hn1 iC;obtain⟨n1,rfl⟩:∃n',n1=n'+1:=⟨n1-1,omY⟩;have st:Qw E n (n1+1) a b (q:Int) (i:Int) k=cond (decide (a.Hits.get q<b.Hits.get i)) (Qw E n n1 a b ((q+1:Nat):Int) (i:Int) k) (WP E n a b (q:Int) (i:Int) k):=by
      rw[zuh,dZ omY,ed,bG omY,bG omY,gU,gU,bP omY]
     by_cases h:a.Hits.get q<b.Hits.get i
     ·obtain⟨q',h1,h2,h3,h4⟩:=ih2 (q+1) n1 omY omY (λp hp=>by
       by_cases e:p=q
       ·rw[e];exact h
       ·exact iC p omY)
      exact⟨q',h1,h2,h3,by rw[st,dZ h];exact h4⟩
     ·exact⟨q,omY,iC,λ_=>by omega,by rw[st,eU h];rfl⟩
   obtain⟨q',h1,h2,h3,h4⟩:=adv (a.Hits.len-q) q E.N omY omY (λp hp=>iC p hp hib);rw[h4];have only:∀p,p<a.Hits.len->a.Hits.get p=b.Hits.get i->p=q':=λp hp e=>by
    rcases qdB p q' with h|h|h
    ·have:=h2 p h;omega
    ·exact h
    ·have:=ia q' p h hp;have:=h3 omY;omega
   rw[zGp];by_cases c1:q'=a.Hits.len
   ·have:(fA a).contains (b.Hits.get i,b.bz.get i)=false:=by
     cases hc:(fA a).contains (b.Hits.get i,b.bz.get i)with
     | false=>rfl
     | true =>
      obtain⟨p,hp,e,_⟩:=lJ.1 (qjn.1 hc);have:=only p hp e;omega
    rw[show((q':Int)==(a.Hits.len:Int))=true by rw[qdO];omega,this];rfl
   ·rw [show ((q' : Int) == (a.Hits.len : Int)) = false by rw [qdz]; omega, dS, bG omY, bG omY, gU, gU];by_cases c2:a.Hits.get q'=b.Hits.get i
    ·have:(fA a).contains (b.Hits.get i,b.bz.get i)=(a.bz.get q'==b.bz.get i):=by
      rw[Ut,qjn,lJ,qdO];constructor
      ·rintro⟨p,hp,e,e2⟩;rw[only p hp e]at e2;exact e2
      ·intro h;exact⟨q',omY,c2,h⟩
     rw[show(a.Hits.get q' != b.Hits.get i)=false by simp[c2],dS,bG omY,bG omY,this,bP omY,bne];cases a.bz.get q'==b.bz.get i with
     | false=>rfl
     | true =>
      rw[OY];refine ih (i+1) n q' omY omY h1 (λp hp hi2=>?_);have:=h2 p hp;have:=ib i (i+1) omY hi2;omega
    ·have:(fA a).contains (b.Hits.get i,b.bz.get i)=false:=by
      cases hc:(fA a).contains (b.Hits.get i,b.bz.get i)with
      | false=>rfl
      | true =>
       obtain⟨p,hp,e,_⟩:=lJ.1 (qjn.1 hc);rw[only p hp e]at e;exact absurd e c2
     rw[show(a.Hits.get q' != b.Hits.get i)=true by simpa using c2,this];rfl
 rw[e53,bn];refine(key b.Hits.len 0 E.N 0 omY omY (Cf _) (λp hp=>absurd hp (UW p))).trans ?_;congr 1;unfold yE;congr 1
 ·rw [Ut, Aa, Aa];constructor
  ·intro h p hp;obtain⟨i,hi,e1,e2⟩:=lJ.1 hp;have:=h i (by simp;omega);rw[e1,e2]at this;exact this
  ·intro h i hi;exact h _ (lJ.2 ⟨i,by simp at hi;omega,rfl,rfl⟩)
 ·rw[Ut,qdO,qdO];exact eq_comm
theorem s38{E:E38}(N:Big E.N):zc0 (F38 E):=λa b ha hb=>ae.ext λk=>by
 have key:∀(m i n:Nat),i+m=a.len->i<=b.len->m<n->zcx E n a b (i:Int) k=k (cmpL ((List.range' i m).map a.get) ((List.range' i (b.len-i)).map b.get)):=by
  intro m
  induction m with
  | zero =>
   intro i n hi hb hn;obtain⟨n,rfl⟩:∃n',n=n'+1:=⟨n-1,omY⟩;rw[zt8,eU omY,dS,zt9,zua,eU (show ¬(a.len:Int)>(b.len:Int)by omega),dS,kc k];congr 1;cases h:b.len-i with
   | zero=>rw[eU omY];rfl
   | succ q=>rw[dZ omY];rfl
  | succ m ih =>
   intro i n hi hb hn;obtain⟨n,rfl⟩:∃n',n=n'+1:=⟨n-1,omY⟩;rw[zt8,dZ omY,ed,YA,oU];cases h:b.len-i with
   | zero=>rw[eU omY,dS,zt9,zua,eU omY,dZ (show(a.len:Int)>(b.len:Int)by omega)];rfl
   | succ q =>
    rw[dZ omY,ed,bG omY,bG omY,bG omY,bG omY,gU,bP omY,ih (i+1) n omY omY omY,YA,oU,show b.len-(i+1)=q by omega];show _=k (cond (qQ (a.get i) (b.get i) != 0) (qQ (a.get i) (b.get i)) _);unfold qQ;cases decide (a.get i<b.get i)<;>cases decide (a.get i>b.get i)<;>rfl
 rw[e38,bn];have:=key a.len 0 E.N omY (Cf _) (by have:=N;omega);unfold pI;rw[dqQ,dqQ];exact this
theorem zB1{ag:jv->Bool}{us:jv->Int->Bool}{sd:Nat->jv}{c:jv}{j:Nat}(h:Ch ag us sd c j):c=[]\/ag c=true:=by
 cases h with
 | nil=>exact .inl rfl
 | snoc _ _ _ h=>exact .inr h
theorem zk9{ag:jv→Bool}{us:jv→Int→Bool}{sd:Nat→jv}:∀{f out c i},(∀x∈out,x≠[])→∀x∈O7 ag us sd f out c i,x≠[]
  | 0,out,c,i,h=>h
  | f+1,out,c,i,h=>by
    simp only[O7];generalize sd i=l
    induction l generalizing out with
    | nil=>exact h
    | cons p l ih =>
      rw[YC];refine ih _ ?_;cases us c p.1||(decide (2000<out.length) || !ag (c++[p]))with
      | true=>exact h
      | false =>
        refine zk9 λx hx=>?_;rcases dU.1 hx with hx|hx
        · exact h x hx
        · rw[mg.1 hx];simp
theorem XV{s:au}{l:Sl bF}{x:Int}(he:Ev s l x){t:af}(ht:Ol x t)(hc:fA t∈UD s l x):qH s l t:=by
 have ne:=zk9 (f:=30) (out:=[]) (λx h=>by cases h) _ hc;rcases zcO .nil hc with h|⟨j,hj⟩
 ·cases h
 ·have e:=ht.1;subst e;exact {ev:=he,tv:=ht,vl:=⟨j,Uu hj⟩,ne:=ne,ag:=(zB1 hj).resolve_left ne}
theorem zzU{P:af->Prop}{w:Sl af}{t:af}(h:∀t∈ls w,P t)(ht:P t):∀u∈ls (oO w t),P u:=λu hu=>by
 rw[O9]at hu;rcases dU.1 hu with hu|hu
 ·exact h u hu
 ·rw[mg.1 hu];exact ht
def xC(s:au)(l:Sl bF)(x:Int):Bool:=decide ((UD s l x).length<=2000)
theorem zB2{ag:jv→Bool}{us:jv→Int→Bool}{sd:Nat→jv}:∀{f out c i},out.length+(gr ag us sd f c i).length≤2000→O7 ag us sd f out c i=out++gr ag us sd f c i
  | 0,out,c,i,_=>by simp[O7,gr]
  | f+1,out,c,i,h=>by
    simp only[O7,gr]at h ⊢;generalize sd i=l at h ⊢
    induction l generalizing out with
    | nil=>simp
    | cons p l ih =>
      rw[YC,oK];rw[oK,Jz]at h;cases hu:us c p.1 || !ag (c++[p])with
      | true =>
        rw[hu]at h;have e:(us c p.1||(decide (2000<out.length) || !ag (c++[p])))=true:=by
          revert hu;cases us c p.1<;>cases ag (c++[p])<;>simp
        rw[e];exact ih out (by simpa using h)
      | false =>
        rw[hu]at h;simp only[dS,Cc]at h;have e:(us c p.1||(decide (2000<out.length) || !ag (c++[p])))=false:=by
          rw[eU omY];revert hu;cases us c p.1<;>cases ag (c++[p])<;>simp
        rw[e,dS,zB2 (by rw[Jz];simp only[Cc,UJ];omega),ih _ (by simp only[Jz,Cc,UJ];omega)];simp
theorem QP{s:au}{l:Sl bF}{x:Int}:xC s l x=decide ((kF s l x).length<=2000):=by
 unfold xC;refine jqK.2 ⟨λh=>by rw[<- zcY h];exact h,λh=>?_⟩;have:UD s l x=[]++kF s l x:=zB2 (show 0+(kF s l x).length<=2000 by omega);rw[this];exact h
def YV(s:au)(r:bJ)(l:Sl bF)(b:Bool):Int:=cond (lV s r l != 0) (lV s r l) (cond (!b) 2 (cond (xC s l 1&&xC s l 2) 0 8))
theorem zOl{s:au}{r:bJ}{l:Sl bF}{b:Bool}(h:YV s r l b=0):lV s r l=0/\b=true/\(kF s l 1).length<=2000/\(kF s l 2).length<=2000:=by
 unfold YV at h;by_cases h0:lV s r l=0
 ·rw [h0]at h;cases b with
  | false=>cases h
  | true =>
   rw[QP,QP]at h;by_cases h1:(kF s l 1).length<=2000
   ·by_cases h2 : (kF s l 2).length ≤ 2000
    ·exact⟨h0,rfl,h1,h2⟩
    ·rw[eU h2,qds]at h;cases h
   ·rw[eU h1]at h;cases h
 ·rw[show(lV s r l != 0)=true by simpa using h0]at h;exact absurd h h0
theorem zWb{s:au}{l:Sl bF}{x:Int}{w:Sl af}(ev:Ev s l x)(hb:chs w=kF s l x)(hc:zW x w):∀t∈ls w,t.View=x/\Chosen s l t:=λt ht=>by
 have hv:=zgC.1 hc t ht;have hm:fA t∈kF s l x:=by rw[<- hb,XT];exact qdJ ht
 obtain⟨⟨j,hj⟩,ja⟩:=Nz hm;have e:=hv.1;subst e;exact⟨rfl,ev,hv,⟨j,Uu hj⟩,ja⟩
abbrev zMX(C:au×bJ×Sl bF×Sl Bool->ae (Int ⊕ (Pt found×Int))):Prop:=∀s r l (w:Sl Bool),sN s->l.len<=40->w.len<=10 ->
 (YV s r l ((ls w).all id)≠0/\C (s,r,l,w)=.ok (.inl (YV s r l ((ls w).all id))))\/(YV s r l ((ls w).all id)=0/\∃f:Pt found,C (s,r,l,w)=.ok (.inr (f,0))/\NW s r l f.v)
theorem z7Q{E:E72}(h78:Q78 E.c78)(zgh:zuF E.Yp)(zfU:zk4 E.c127)(zmm:zuD E.GK)(zHm:zuE E.UF):zMX (F72 E):=λs r l w hs hl hw=>by
 have an:((ls w).any λb=>false==b) = !(ls w).all id:=by
  rw[List.not_all_eq_any_not];congr 1;funext b;cases b<;>rfl
 by_cases h0:lV s r l=0
 case neg =>
  have e:YV s r l ((ls w).all id)=lV s r l:=by unfold YV;rw[show(lV s r l != 0)=true by simpa using h0];rfl
  refine .inl ⟨by rw[e];exact h0,?_⟩;have eo:opn s r l=.inl (lV s r l):=by unfold opn;rw[show(lV s r l==0)=false by simpa using h0];rfl
  refine ae.ext λk=>?_;rw[e72,h78 s r l hs hl,bn,eo,bn,e];show cond (lV s r l==0) _ (cond (lV s r l != 0) _ _)=_;rw[show(lV s r l==0)=false by simpa using h0,show(lV s r l != 0)=true by simpa using h0];rfl
 have eo:opn s r l=.inr (iY s r l,0):=by unfold opn;rw[h0];rfl
 obtain⟨he,_,h24⟩:=E8 hs h0;have ev1:Ev s l 1:={toEvt:=he,l24:=h24,vw:=rfl};have ev2:Ev s l 2:={toEvt:=he,l24:=h24,vw:=rfl};cases hb:(ls w).all id with
 | false =>
  have e:YV s r l false=2:=by unfold YV;rw[h0];rfl
  refine .inl ⟨by rw[e];decide,?_⟩;refine ae.ext λk=>?_;rw[e72,h78 s r l hs hl,bn,eo,bn,e];show(E.Yp (w,false)).T _=_;rw[zgh w false omY,bn,an,hb];rfl
 | true =>
 rcases zfU s l r 1 ev1 with⟨n1,w1,a1,b1,c1⟩|⟨n1,w1,a1⟩
 case inr =>
  have e:YV s r l true=8:=by unfold YV;rw[h0,QP,eU (show ¬(kF s l 1).length<=2000 by omega)];rfl
  refine .inl ⟨by rw[e];decide,?_⟩;refine ae.ext λk=>?_;rw[e72,h78 s r l hs hl,bn,eo,bn,e];show(E.Yp (w,false)).T _=_;rw[zgh w false omY,bn,an,hb];show(E.c127 (iY s r l,1)).T _=_;rw[a1,bn];rfl
 rcases zfU s l r 2 ev2 with⟨n2,_⟩|⟨n2,w2,a2⟩
 case inr =>
  have e:YV s r l true=8:=by unfold YV;rw[h0,QP (x:=2),eU (show ¬(kF s l 2).length<=2000 by omega),qds];rfl
  refine .inl ⟨by rw[e];decide,?_⟩;have k1:=zWb ev1 b1 c1;have ln1:w1.len<=2000:=by rw[<- kY,b1];exact n1
  have f1:=zmm w1 (.inl ⟨iY s r l,()⟩) ⟨s,l,r,rfl,λt ht=>(k1 t ht).2⟩ omY;have m1:=yj UE (zB (id (.inl ⟨iY s r l,()⟩))) w1 w1.len;refine ae.ext λk=>?_;rw[e72,h78 s r l hs hl,bn,eo,bn,e];show(E.Yp (w,false)).T _=_;rw[zgh w false omY,bn,an,hb];show(E.c127 (iY s r l,1)).T _=_;rw[a1,bn];show(E.GK (w1,.inl ⟨iY s r l,()⟩)).T _=_;rw[f1,bn];show aV (room (QT UE (zB (id (.inl ⟨iY s r l,()⟩))) w1 w1.len).len 56) ((E.c127 (iY s r l,2)).T _)=_;rw[jQ omY omY,a2,bn];rfl
 have e:YV s r l true=0:=by unfold YV;rw[h0,QP,QP,dZ n1,dZ n2];rfl
 refine .inr ⟨e,?_⟩;have z0z:zHj E.c127:=λs l r x ev n=>(zfU s l r x ev).elim (λh=>h.2) λh=>absurd h.1 omY;exact s72 h78 zgh z0z zmm zHm s r l w hs hl h0 n1 n2 hw (λb hm=>by simpa using Aa.1 hb b hm)
theorem NW.fit{s:au}{r:bJ}{l:Sl bF}{f:found}(h:NW s r l f){t:af}(ht:t∈ls f.fits):(t.View=1\/t.View=2)/\Ol t.View t/\fA t∈(kF s l t.View).filter (qG s l t.View r):=by
 obtain⟨X,Y,e,x1,y1,x2,y2⟩:=h.fx;rw[e]at ht;rcases dU.1 ht with h|h
 ·have a:=(x1 t h).1;exact⟨.inl a,⟨rfl,(x1 t h).2⟩,by rw[a,<- x2];exact qdJ h⟩
 ·have a:=(y1 t h).1;exact⟨.inr a,⟨rfl,(y1 t h).2⟩,by rw[a,<- y2];exact qdJ h⟩
theorem NW.chosen{s:au}{r:bJ}{l:Sl bF}{f:found}(h:NW s r l f)(he:Evt s l)(h24:l.len<=24){t:af}(ht:t∈ls f.fits):Chosen s l t:=by
 obtain⟨v,tv,m⟩:=h.fit ht;obtain⟨⟨j,hj⟩,ne⟩:=Nz (UL.1 m).1;exact {ev:={toEvt:=he,l24:=h24,vw:=dZ v},tv:=tv,vl:=⟨j,Uu hj⟩,ne:=ne}
theorem NW.sub{s:au}{r:bJ}{l:Sl bF}{f:found}(h:NW s r l f){t:af}(ht:t∈ls f.aW):t∈ls f.fits:=(UL.1 (h.tr.mem_iff.1 ht)).1
theorem NW.len{s:au}{r:bJ}{l:Sl bF}{f:found}(h:NW s r l f)(n1:(kF s l 1).length<=2000)(n2:(kF s l 2).length<=2000):f.aW.len<=4000:=by
 obtain⟨X,Y,e,x1,y1,x2,y2⟩:=h.fx;have a:=h.tr.length_eq;rw[iQ]at a;have b:=qdY (λt=>!(ls f.fits).any λx=>Jt x t) (ls f.fits);rw[e,Jz]at b;have c:=jX List.length x2;have d:=jX List.length y2;rw[dqU]at c d;have:=qdY (qG s l 1 r) (kF s l 1);have:=qdY (qG s l 2 r) (kF s l 2);rw[e]at a;omega
theorem QG{g:Sl ay}{d x:Int}(hd:0≤d)(h0:0<g.len)(h:∀i,i<g.len→(g.get i).Low*d≤x∧x≤(g.get i).High*d):∀n,n≤g.len→(fP g n).Low*d≤x∧x≤(fP g n).High*d
  | 0,_=>h 0 h0
  | n+1,hn=>by
    obtain⟨a,b⟩:=QG hd h0 h n omY;obtain⟨c,e⟩:=h n omY;simp only[fP];constructor
    · split<;>assumption
    · split<;>assumption
theorem zmf{g:Sl ay}(hf:fQ g=true){s:straight}(ha:zx g s){z:Int}(hz:(g.get 0).Z=z):∀i,i<g.len->(g.get i).Low*s.den<=iL s z/\iL s z<=(g.get i).High*s.den:=λi hi=>by
 have:=xG ha hi;rw[Om.1 hf i hi,hz]at this;exact this
def IA(a b:aP):Prop:=a.Num*b.bT<=b.Num*a.bT
theorem YN{a b:aP}(h:¬yz b a):IA a b:=by unfold yz at h;unfold IA;omega
theorem oN{a b c:aP}(ha:0<a.bT)(hb:0<b.bT)(hc:0<c.bT)(h1:IA a b)(h2:IA b c):IA a c:=by
 unfold IA at *;have y1:=NY h1 (yt hc);have y2:=NY h2 (yt ha);have z1:b.Num*a.bT*c.bT=b.Num*c.bT*a.bT:=by ac_rfl
 have z2:c.Num*b.bT*a.bT=c.Num*a.bT*b.bT:=by ac_rfl
 have z3:a.Num*b.bT*c.bT=a.Num*c.bT*b.bT:=by ac_rfl
 have:a.Num*c.bT*b.bT<=c.Num*a.bT*b.bT:=by omega
 exact dq9 this hb
theorem XW{a b:aP}(ha:0<a.bT)(hb:0<b.bT)(h:IA a b):a.Num/a.bT<=b.Num/b.bT:=by
 rw[Int.le_ediv_iff_mul_le hb];have h1:=jqQ a.Num (show a.bT≠0 by omega);unfold IA at h;refine dq9 (?_:_*a.bT<=_*a.bT) ha;have h2:=NY h1 (yt hb);have e:a.Num/a.bT*b.bT*a.bT=a.Num/a.bT*a.bT*b.bT:=by ac_rfl
 omega
theorem zmg{a b:aP}(ha:0<a.bT)(hb:0<b.bT)(h:IA a b) : -(-a.Num/a.bT)<=-(-b.Num/b.bT):=by
 have:=XW (a:=⟨-b.Num,b.bT⟩) (b:=⟨-a.Num,a.bT⟩) hb ha (by unfold IA at *;show -b.Num*a.bT<=-a.Num*b.bT;rw[jqs,jqs];omega);have : -b.Num/b.bT<=-a.Num/a.bT:=this;omega
theorem zX{a b:Int}(hb:0<b):IA (red a b) ⟨a,b⟩/\IA ⟨a,b⟩ (red a b):=by
 have h1:=oM (num:=a) hb;have h2:=mG (num:=a) hb;unfold IA;generalize (Int.gcd a b:Int)=G at h1 h2;have e:(red a b).Num*b=a*(red a b).bT:=by
  generalize (red a b).Num=x at *;generalize (red a b).bT=y at *;rw[<- h1,<- h2];ac_rfl
 show(red a b).Num*b<=a*(red a b).bT/\a*(red a b).bT<=(red a b).Num*b;omega
theorem zzV{x y:straight}(X:yw x)(Y:yw y)(h:fC x=fC y)(z:Int):IA (Oc z x) (Oc z y):=by
  have a:=TR X z;have b:=TR Y z;rw[h]at a;have px:=UT Y;unfold IA;show iL x z*y.den<=iL y z*x.den;have e:iL x z*y.den*QA (fC y)=iL y z*x.den*QA (fC y):=by
    calc iL x z * y.den * QA (fC y) = iL x z * QA (fC y) * y.den := by ac_rfl
      _=plN (fC y) z*x.den*y.den:=by rw[a]
      _=plN (fC y) z*y.den*x.den:=by ac_rfl
      _=iL y z*QA (fC y)*x.den:=by rw[b]
      _=iL y z*x.den*QA (fC y):=by ac_rfl
  have:=qjV omY e;omega
theorem zCf{g:Sl ay}(G:dw g){s:straight}(S:yw s)(ha:zx g s){z:Int}(ho:(Ad g ((g.get 0).Z==z)).2=0):IA (xB g z).1 (Oc z s)/\IA (Oc z s) (xB g z).2/\0<(xB g z).1.bT/\0<(xB g z).2.bT:=by
 have hg:=G.2;have hd:0<s.den:=by have:=S.2.2;omega
 obtain⟨so,hc⟩:=zr6 G ho;unfold xB;cases hf:fQ g with
 | true =>
  have hz:(g.get 0).Z=z:=by
   unfold Ad at ho;rw[kU.2 G,so,hf]at ho;cases h:(g.get 0).Z==z with
   | true=>exact eq_of_beq h
   | false=>rw[h]at ho;cases ho
  obtain⟨a,b⟩:=QG (yt hd) omY (zmf hf ha hz) g.len (kC _);rw[ed];have r1:=zX (a:=(fP g g.len).Low) (b:=1) omY;have r2:=zX (a:=(fP g g.len).High) (b:=1) omY;have p1:=jf (num:=(fP g g.len).Low) (den:=1) omY;have p2:=jf (num:=(fP g g.len).High) (den:=1) omY;refine⟨oN p1 (b:=⟨_,1⟩) (show(0:Int)<1 by omega) hd r1.1 ?_,oN hd (b:=⟨_,1⟩) (show(0:Int)<1 by omega) p2 ?_ r2.2,p1,p2⟩
  ·show(fP g g.len).Low*s.den<=iL s z*1;omega
  ·show iL s z*1<=(fP g g.len).High*s.den;omega
 | false =>
  have nf:¬XI g:=λh=>by rw[Om.2 h]at hf;cases hf
  obtain⟨hl,_,_⟩:=lp omY nf hd ha;obtain⟨⟨c,c1,c2⟩,e,e1,e2⟩:=hl z;have C:=mi G c1;have D:=mi G e1;have pc:0<c.den:=by have:=C.2.2;omega
  have pe:0<e.den:=by have:=D.2.2;omega
  have inn:∀{c:straight},wB g c->∃x∈jB g,fC x=fC c:=fun {c} hc=>(TN hf).2.1 c hc.1 ((Es G (rE G hc.1)).2 hc.2);obtain⟨x,x1,x2⟩:=inn c1;obtain⟨y,y1,y2⟩:=inn e1;have X:=mi G (Jr G x1);have Y:=mi G (Jr G y1);have px:0<x.den:=by have:=X.2.2;omega
  have py:0<y.den:=by have:=Y.2.2;omega
  obtain⟨⟨u,u1,u2⟩,u3⟩:=zmC G z (hc hf);obtain⟨⟨v,v1,v2⟩,v3⟩:=zmD G z (hc hf);have pu:0<(loF g z).bT:=by rw[u2];have:=(mi G u1).2.2;show 0<u.den;omega
  have pv:0<(hiF g z).bT:=by rw[v2];have:=(mi G v1).2.2;show 0<v.den;omega
  have r1:=zX (a:=(loF g z).Num) pu;have r2:=zX (a:=(hiF g z).Num) pv;have p1:=jf (num:=(loF g z).Num) pu;have p2:=jf (num:=(hiF g z).Num) pv;rw[dS];refine⟨oN p1 pu hd r1.1 ?_,oN hd pv p2 ?_ r2.2,p1,p2⟩
  ·refine oN pu (b:=Oc z x) px hd (YN (u3 x x1)) (oN (b:=Oc z c) px pc hd (zzV X C x2 z) ?_);exact c2
  ·refine oN hd (b:=Oc z y) py pv (oN (b:=Oc z e) hd pe py ?_ (zzV D Y y2.symm z)) (YN (v3 y y1));exact e2
/-! What a plane must see. -/
theorem zf4:∀{l:List (Int×bZ)}{n h:Int},(∀t∈l,-1000000000000≤t.2.High∧t.2.High≤1000000000000)→nxt l n>h→∀y,n≤y→y≤h→∃t∈l,t.2.Low≤y∧y≤t.2.High
  | [],n,h,_,hn,y,h1,h2=>by have:n>h:=hn;omega
  | t::l,n,h,hb,hn,y,h1,h2=>by
    have mf:=λu hu=>hb u (jU _ hu);have ht:=hb t lq;by_cases c:t.2.Low<=n/\n<=t.2.High
    · have e:nxt (t::l) n=nxt l (t.2.High+1):=by
        show nxt l (cond (decide (t.2.Low<=n)&&decide (n<=t.2.High)) (aO (t.2.High+1)) n)=_;rw[dZ c.1,dZ c.2,bf omY omY];rfl
      rw[e]at hn;by_cases hy:y<=t.2.High
      · exact⟨t,lq,omY,hy⟩
      · obtain⟨u,a,b⟩:=zf4 mf hn y omY h2;exact⟨u,jU _ a,b⟩
    · have e:nxt (t::l) n=nxt l n:=by
        show nxt l (cond (decide (t.2.Low<=n)&&decide (n<=t.2.High)) (aO (t.2.High+1)) n)=_;by_cases h1:t.2.Low<=n
        · rw[eU (show ¬n<=t.2.High from λh2=>c ⟨h1,h2⟩),qds];rfl
        · rw[eU h1];rfl
      rw[e]at hn;obtain⟨u,a,b⟩:=zf4 mf hn y h1 h2;exact⟨u,jU _ a,b⟩
theorem zgD{p:ak}(hp:YD p):0<=jT p/\jT p<=p.aS:=by
 obtain⟨_,_,_,_,hpi,_⟩:=hp;have:0<=p.aS.tdiv 2/\p.aS.tdiv 2<=p.aS:=by rw[qdC omY];omega
 unfold jT;cases p.Kind==2 with
 | true=>rw[ed,bf omY omY];exact this
 | false=>rw[dS];omega
theorem JA{p:ak}(hp:YD p){c:Int}(h1:0<=c)(h2:c<=2000):qh p c=⟨p.First+c*p.aS-jT p,p.First+c*p.aS-jT p+p.aS-1⟩/\0<=c*p.aS/\c*p.aS<=1000000000:=by
 have hh:=zgD hp;obtain⟨_,_,_,hf,hpi,_⟩:=hp;obtain⟨q1,q2⟩:=xW (a:=c) (b:=p.aS) omY omY;refine⟨?_,q1,q2⟩;unfold qh;rw[bf (x:=c*p.aS) omY omY,bf (x:=p.First+c*p.aS) omY omY,bf (x:=p.First+c*p.aS-jT p) omY omY,bf (x:=p.First+c*p.aS-jT p+p.aS) omY omY,bf omY omY]
theorem N8{p:ak}{t:Int×bZ}:∀{m c:Nat},t∈Oe p m c→∃q:Nat,c≤q∧q<c+m∧hasB p.Dead (q:Int)=false∧t.2=qh p (q:Int)
  | m+1,c,h=>by
    simp only[Oe]at h;cases hd:hasB p.Dead (c:Int)with
    | true =>
      rw[hd]at h;obtain⟨q,a,b,d⟩:=N8 h;exact⟨q,omY,omY,d⟩
    | false =>
      rw[hd]at h;rcases kR.1 h with h|h
      · exact⟨c,kC _,omY,hd,by rw[h];rfl⟩
      · obtain⟨q,a,b,d⟩:=N8 h;exact⟨q,omY,omY,d⟩
theorem zzW{p:ak}(hp:YD p){X x:bZ}(h:EY p X=true)(hX : -1000000<=X.Low/\X.High<=1000000)(h1:X.Low<=x.Low)(h2:x.Low<=x.High)(h3:x.High<=X.High):XU p x=true:=by
 have hh:=zgD hp;have hp':=hp;obtain⟨_,_,_,hf,hpi,Fb,hsp,ho,_⟩:=hp;unfold EY at h;rw[pJ,bf (x:=X.Low-p.bC.High) omY omY,bf (x:=X.High-p.bC.Low) omY omY]at h;have cov:∀y,X.Low-p.bC.High<=y->y<=X.High-p.bC.Low->∃q:Nat,(q:Int)<p.bM/\hasB p.Dead (q:Int)=false/\(qh p (q:Int)).Low<=y/\y<=(qh p (q:Int)).High:=λy y1 y2=>by
  obtain⟨t,ht,a,b⟩:=zf4 (λt ht=>by
   obtain⟨q,_,q2,_,e⟩:=N8 ht;obtain⟨e2,e3,e4⟩:=JA hp' (c:=(q:Int)) omY omY;rw[e,e2];show _<=p.First+q*p.aS-jT p+p.aS-1/\p.First+q*p.aS-jT p+p.aS-1<=_;omega) h y y1 y2
  obtain⟨q,_,q2,q3,e⟩:=N8 ht;rw[e]at a b;exact⟨q,omY,q3,a,b⟩
 have ge:∀q:Nat,(q:Int)<p.bM->qh p (q:Int)=⟨p.First+q*p.aS-jT p,p.First+q*p.aS-jT p+p.aS-1⟩:=λq hq=>(JA hp' (c:=(q:Int)) omY omY).1;have mono:∀a b:Int,a<b->a*p.aS+p.aS<=b*p.aS:=λa b hab=>by
  have:=NY (show a+1<=b by omega) (show 0<=p.aS by omega);rw[qjx,qjU]at this;exact this
 have nn:∀q:Nat,0<=(q:Int)*p.aS:=λq=>qjf omY omY;unfold XU;rw[bf (x:=x.Low-p.bC.High) omY omY,bf (x:=x.High-p.bC.Low) omY omY,bf (x:=p.bM-1) omY omY];simp only[gG,pJ,dI,NR];refine⟨⟨?_,?_⟩,λc hc=>?_⟩
 ·obtain⟨q,q1,_,q3,_⟩:=cov (x.Low-p.bC.High) omY omY;rw[ge q q1]at q3;rw[(JA hp' (c:=0) omY omY).1];have:=nn q;show p.First+0*p.aS-jT p<=_;simp only at q3;omega
 ·obtain ⟨q, q1, _, _, q4⟩ := cov (x.High - p.bC.Low) omY omY;rw[ge q q1] at q4;rw[(JA hp' (c:=p.bM - 1) omY omY).1];show _<=p.First+(p.bM - 1) * p.aS - jT p+p.aS - 1;simp only at q4;by_cases e:(q:Int)=p.bM - 1
  ·rw[<- e];exact q4
  ·have:=mono q (p.bM-1) omY;omega
 ·cases hd:IB p (x.Low-p.bC.High) (x.High-p.bC.Low) c with
  | false=>rfl
  | true =>
   simp only[IB,gG,pJ]at hd;obtain⟨d1,d2,d3⟩:=hd;have gc:=ge c omY;rw[gc]at d2 d3;simp only at d2 d3;obtain⟨q,q1,q2,q3,q4⟩:=cov (if p.First+c*p.aS-jT p>=x.Low-p.bC.High then p.First+c*p.aS-jT p else x.Low-p.bC.High) (by split<;>omega) (by split<;>omega);rw[ge q q1]at q3 q4;simp only at q3 q4;rcases jqD (q:Int) (c:Int)with e|e|e
   ·have:=mono q c e;split at q4<;>omega
   ·have : q = c := by omega
    rw[this,d1]at q2;cases q2
   ·have:=mono c q e;split at q3<;>omega
def zLc(s:au)(l:Sl bF)(v:Int)(ln:straight)(time:Int)(i:Nat):Prop :=
 QN s l i=v/\((tq s (l.get i)).Low<=time/\time<=(tq s (l.get i)).High)/\∃k,k<yD s l i/\mJ ln ((yC s (l.get i)).get k)=true
structure Own (s : au) (l : Sl bF) (v : Int) (ln : straight) (time : Int) (w : Sl Int) (i : Nat) : Prop where
  le:w.len<=i/\i<=l.len
  mem:∀j,j<w.len->(0<=w.get j/\w.get j<(i:Int))/\zLc s l v ln time (w.get j).toNat
  pw:∀j k,j<k->k<w.len->w.get j<w.get k/\(l.get (w.get j).toNat).ak≠(l.get (w.get k).toNat).ak
theorem Own.snoc{s:au}{l:Sl bF}{v:Int}{ln:straight}{time:Int}{w:Sl Int}{i:Nat}(h:Own s l v ln time w i)(hi:i<l.len)(h1:zLc s l v ln time i)(h2:∀j,j<w.len->(l.get (w.get j).toNat).ak≠(l.get i).ak):Own s l v ln time (oO w (i:Int)) (i+1):=by
 have lo:∀j,j<w.len->(oO w (i:Int)).get j=w.get j:=λj hj=>by
  show jL w.len w.get (λ_=>(i:Int)) j=_;rw[je,fB omY]
 have kN:(oO w (i:Int)).get w.len=(i:Int):=by
  show jL w.len w.get (λ_=>(i:Int)) w.len=_;rw[je,eX (kC _)]
 refine⟨by have:=h.le;show w.len+1<=i+1/\_;omega,λj hj=>?_,λj k hjk hk=>?_⟩
 ·have hj : j < w.len + 1 := hj;by_cases e:j=w.len
  ·rw[e,kN,gU];exact⟨omY,h1⟩
  ·rw[lo j omY];have:=h.mem j omY;exact⟨by have:=this.1;omega,this.2⟩
 ·have hk : k < w.len + 1 := hk;by_cases e:k=w.len
  ·subst e;rw[kN,lo j omY,gU];exact⟨by have:=(h.mem j omY).1;omega,h2 j omY⟩
  ·rw[lo j omY,lo k omY];exact h.pw j k hjk omY
theorem zDF{n d:Int}(hd:0<d):n/d<=-(-n/d):=by
 have h1:=jqQ n (show d≠0 by omega);have h2:=jqQ (-n) (show d≠0 by omega);refine dq9 (?_:_*d<=_*d) hd;rw[jqs];omega
structure zN8 where
  N:Nat
  Pi:Int×Int×Int->ae Bool
abbrev z8D(E:zN8):bU:=gY (Tabs.nil.addF 123 (ae.un E.Pi)) []
def z8E:dK:=bY aH 103 [] {}
def zYA(E:zN8):aP->ae Bool:=ae.ty (aF aH E.N (z8D E) z8E 103)
section
variable(E:zN8){A:Type}(k:Bool->Option A)
def zDL(E:zN8)(n:Nat)(v3 v4:Int){A:Type}(k:Bool->Option A):Option A :=
  iP aH (z8D E) E.N z8E 103 [1,1,1,0,0] [.n n] (iO k)
    ⟨[(3,.int v3),(4,.int v4)],[],[]⟩
theorem ZdQ(a0:aP):(zYA E (a0)).T k =
  (E.Pi (a0.bT,1,1000)).T λr1 =>
  cond (!r1)
  (k false)
  ((E.Pi (a0.Num,(-1000000),1000000)).T λr2 =>
 cond (!r2)
 (k false)
 (zDL E E.N (if(aO (0-a0.Num))>a0.Num then(aO (0-a0.Num))else a0.Num) a0.bT k)):=dV
theorem z2d(n0:Nat)(v3 v4:Int):zDL E (n0+1) v3 v4 k =
  cond (decide (v4>0))
  (aV (decide (v4≠0)) (zDL E n0 v4 (v3.tmod v4) k))
  (k (v3==1)):=krY
end
theorem ZdR [aJ](E:zN8)(zdf:Ok aH 123 (ae.un E.Pi)):Ok aH 103 (ae.un (zYA E)):=dW (ax.nil.addF zdf)
structure zYB where
  N:Nat
def zYC(E:zYB):aP×aP->ae Bool:=iK E.N Tabs.nil 104
theorem ZdS(E:zYB){A:Type}(k:Bool→Option A)(a0 a1:aP):(zYC E (a0,a1)).T k =
  k (decide ((aO (a0.Num*a1.bT))<(aO (a1.Num*a0.bT)))):=dV
theorem ZdT [aJ](E:zYB):Ok aH 104 (ae.un (zYC E)):=dW ax.nil
structure zYD where
  N:Nat
  c86:Int×Int×Int->ae Bool
  Uy:Int×Int->ae aP
def zYE(E:zYD):aP->ae Bool:=iK E.N ((Tabs.nil.addF 86 (ae.un E.c86)).addF 71 (ae.un E.Uy)) 106
theorem ZdU(E:zYD){A:Type}(k:Bool→Option A)(a0:aP):(zYE E (a0)).T k =
  (E.c86 (a0.bT,1,1000)).T λr1 =>
  cond r1
  ((E.c86 (a0.Num,(-1000000),1000000)).T λr2 =>
 cond r2
 ((E.Uy (a0.Num,a0.bT)).T λr3 =>
 k (cond (r3.Num==a0.Num) (cond (r3.bT==a0.bT) true false) false))
 (k false))
  (k false):=dV
theorem ZdV [aJ](E:zYD)(h86:Ok aH 86 (ae.un E.c86))(h71:Ok aH 71 (ae.un E.Uy)):Ok aH 106 (ae.un (zYE E)):=dW ((ax.nil.addF h86).addF h71)
structure E43 where
  N:Nat
  c34:Int->ae Bool
  zW6:aP->ae Bool
  YB:aP×aP->ae Bool
def F43(E:E43):Bin->ae Bool:=iK E.N (((Tabs.nil.addF 34 (ae.un E.c34)).addF 106 (ae.un E.zW6)).addF 56 (ae.un E.YB)) 43
theorem e43(E:E43){A:Type}(k:Bool→Option A)(a0:Bin):(F43 E (a0)).T k =
  (E.c34 a0.View).T λr1 =>
  cond r1
  ((E.zW6 a0.Low).T λr2 =>
 cond r2
 ((E.zW6 a0.High).T λr3 =>
 cond r3
 ((E.YB (a0.Low,a0.High)).T λr4 =>
 k r4)
 (k false))
 (k false))
  (k false):=dV
theorem o43 [aJ](E:E43)(h34:Ok aH 34 (ae.un E.c34))(zYF:Ok aH 106 (ae.un E.zW6))(h56:Ok aH 56 (ae.un E.YB)):Ok aH 43 (ae.un (F43 E)):=dW (((ax.nil.addF h34).addF zYF).addF h56)
structure E42 where
  N:Nat
  c96:Int->ae Bool
  zOe:aP->ae Bool
  zDN:aP×aP->ae Bool
  c72:au×bJ×(Sl bF)×(Sl Bool)->ae (Int ⊕ ((Pt found)×Int))
  c105:(Pt aU)×af->ae ((Sl ay))
  c58:(Sl ay)->ae (aP×aP×Int)
abbrev G42(E:E42):bU:=gY ((((((Tabs.nil.addF 96 (ae.un E.c96)).addF 103 (ae.un E.zOe)).addF 104 (ae.un E.zDN)).addF 72 (ae.unA E.c72)).addF 105 (ae.un E.c105)).addF 58 (ae.un E.c58)) []
def A42:dK:=bY aH 42 [] {}
def F42(E:E42):au×bJ×(Sl bF)×(Sl Bin)->ae ((Sl Tally)×Int):=ae.ty (aF aH E.N (G42 E) A42 42)
section
variable(E:E42){A:Type}(k:((Sl Tally)×Int)->Option A)
def zlr(E:E42)(n:Nat)(a0:au)(a1:bJ)(a2:Sl bF)(a3:Sl Bin)(v10:Bool)(v33:Int){A:Type}(k:((Sl Tally)×Int)->Option A):Option A :=
  iP aH (G42 E) E.N A42 42 [1,1,1,0,1,0] [.n n] (iO k)
    ⟨[(2,eP a2),(3,eP a3),(4,.cl (.ptr 4 0)),(5,.cl (.ptr 5 0)),(10,.bool v10),(31,eP a3),(32,.int (a3.len:Int)),(33,.int v33)],[(4,eB 24 a0),(5,eB 26 a1)],[]⟩
def zJ2(E:E42)(n:Nat)(a3:Sl Bin)(jI:Pt found)(v79:Sl af)(v80 v81:Int)(w75:Sl Tally){A:Type}(k:((Sl Tally)×Int)->Option A):Option A :=
  iP aH (G42 E) E.N A42 42 [1,1,1,1,1,1,1,0,1,0] [.n n] (iO k)
    ⟨[(3,eP a3),(13,eP jI),(15,.cl (.vec 75)),(79,eP v79),(80,.int v80),(81,.int v81)],[(75,eV 112 2 16 w75)],[]⟩
def OJ(E:E42)(n0 n:Nat)(a3:Sl Bin)(jI:Pt found)(v20:Int)(v79:Sl af)(v80 v81 NC:Int)(w75:Sl Tally)(x17:af)(x18 x19:aP){A:Type}(k:((Sl Tally)×Int)->Option A):Option A :=
  iP aH (G42 E) E.N A42 42 [1,1,1,1,1,1,1,0,1,0,0,1,1,0,0,1,1,1,0] [.n n0,.n n] (iO k)
    ⟨[(3,eP a3),(13,eP jI),(15,.cl (.vec 75)),(17,.cl (.ptr 17 0)),(18,.cl (.ptr 18 0)),(19,.cl (.ptr 19 0)),(20,.int v20),(79,eP v79),(80,.int v80),(81,.int v81),(96,eP a3),(97,.int (a3.len:Int)),(98,.int NC)],[(75,eV 112 2 16 w75),(17,eB 43 x17),(18,eB 85 x18),(19,eB 85 x19)],[]⟩
theorem e42(a0:au)(a1:bJ)(a2:Sl bF)(a3:Sl Bin):(F42 E (a0,a1,a2,a3)).T k =
  cond (decide ((a2.len:Int)>24))
  (k ((⟨0,λ_=>default⟩:(Sl Tally)),3))
  (cond (decide ((a3.len:Int)>100))
 (k ((⟨0,λ_=>default⟩:(Sl Tally)),3))
 (zlr E E.N a0 a1 a2 a3 true 0 k)):=dV
theorem zDk(n0:Nat)(a0:au)(a1:bJ)(a2:Sl bF)(a3:Sl Bin)(v10:Bool)(v33:Int):zlr E (n0+1) a0 a1 a2 a3 v10 v33 k =
  cond (decide (v33<(a3.len:Int)))
  (aV (decide (0<=v33/\v33<(a3.len:Int))) (cond v10
 ((E.c96 (a3.get v33.toNat).View).T λr1 =>
 cond r1
 ((E.zOe (a3.get v33.toNat).Low).T λr2 =>
 cond r2
 ((E.zOe (a3.get v33.toNat).High).T λr3 =>
 cond r3
 ((E.zDN ((a3.get v33.toNat).Low,(a3.get v33.toNat).High)).T λr4 =>
 zlr E n0 a0 a1 a2 a3 r4 (aO (v33+1)) k)
 (zlr E n0 a0 a1 a2 a3 false (aO (v33+1)) k))
 (zlr E n0 a0 a1 a2 a3 false (aO (v33+1)) k))
 (zlr E n0 a0 a1 a2 a3 false (aO (v33+1)) k))
 (zlr E n0 a0 a1 a2 a3 false (aO (v33+1)) k)))
  ((E.c72 (a0,a1,a2,(⟨1,(λ_=>v10)⟩:(Sl Bool)))).T λr5=>zmz r5
 (λr5=>cond (r5 != 0)
 (k ((⟨0,λ_=>default⟩:(Sl Tally)),r5))
 (aV (decide ((0:Int)<=(a3.len:Int)/\((a3.len:Int):Int)=(a3.len:Int)/\(a3.len:Int)<=1000000)) (none)))
 (λr5=>cond (r5.2 != 0)
 (k ((⟨0,λ_=>default⟩:(Sl Tally)),r5.2))
 (aV (decide ((0:Int)<=(a3.len:Int)/\((a3.len:Int):Int)=(a3.len:Int)/\(a3.len:Int)<=1000000)) (zJ2 E E.N a3 r5.1 r5.1.v.aW (r5.1.v.aW.len:Int) 0 (⟨(a3.len:Int).toNat,(λ_=>(⟨0,0⟩:Tally))⟩:(Sl Tally)) k)))):=krY
theorem z08(n0:Nat)(a3:Sl Bin)(jI:Pt found)(v79:Sl af)(v80 v81:Int)(w75:Sl Tally):zJ2 E (n0+1) a3 jI v79 v80 v81 w75 k =
  cond (decide (v81<v80))
  (aV (decide (0<=v81/\v81<(v79.len:Int))) ((E.c105 (jI.v.aU,(v79.get v81.toNat))).T λr1 =>
 (E.c58 r1).T λr2 =>
 OJ E n0 E.N a3 jI r2.2.2 v79 v80 v81 0 w75 (v79.get v81.toNat) r2.1 r2.2.1 k))
  (k (w75,0)):=krY
theorem z09(n0 n1:Nat)(a3:Sl Bin)(jI:Pt found)(v20:Int)(v79:Sl af)(v80 v81 NC:Int)(w75:Sl Tally)(x17:af)(x18 x19:aP):OJ E n0 (n1+1) a3 jI v20 v79 v80 v81 NC w75 x17 x18 x19 k =
  cond (decide (NC<(a3.len:Int)))
  (aV (decide (0<=NC/\NC<(a3.len:Int))) (cond ((a3.get NC.toNat).View != x17.View)
 (OJ E n0 n1 a3 jI v20 v79 v80 v81 (aO (NC+1)) w75 x17 x18 x19 k)
 (cond (v20 != 0)
 (aV (decide (0<=NC/\NC<(w75.len:Int))) (aV (decide (NC.toNat<w75.len)) (aV (decide (0<=NC/\NC<(w75.len:Int))) (aV (decide (NC.toNat<w75.len)) (OJ E n0 n1 a3 jI v20 v79 v80 v81 (aO (NC+1)) (⟨w75.len,(stG NC.toNat 1 w75.get [.int .i64 (aO ((w75.get NC.toNat).sO+1))])⟩:(Sl Tally)) x17 x18 x19 k)))))
 ((E.zDN (x18,(a3.get NC.toNat).High)).T λr1 =>
 cond r1
 ((E.zDN (x19,(a3.get NC.toNat).Low)).T λr2 =>
 cond (!r2)
 (aV (decide (0<=NC/\NC<(w75.len:Int))) (aV (decide (NC.toNat<w75.len)) (aV (decide (0<=NC/\NC<(w75.len:Int))) (aV (decide (NC.toNat<w75.len)) ((E.zDN (x18,(a3.get NC.toNat).Low)).T λr3 =>
 cond (!r3)
 ((E.zDN (x19,(a3.get NC.toNat).High)).T λr4 =>
 cond r4
 (aV (decide (0<=NC/\NC<(w75.len:Int))) (aV (decide (NC.toNat<w75.len)) (aV (decide (0<=NC/\NC<(w75.len:Int))) (aV (decide (NC.toNat<w75.len)) (OJ E n0 n1 a3 jI v20 v79 v80 v81 (aO (NC+1)) (⟨w75.len,(stG NC.toNat 0 (stG NC.toNat 1 w75.get [.int .i64 (aO ((w75.get NC.toNat).sO+1))]) [.int .i64 (aO (((stG NC.toNat 1 w75.get [.int .i64 (aO ((w75.get NC.toNat).sO+1))]) NC.toNat).zgk+1))])⟩:(Sl Tally)) x17 x18 x19 k)))))
 (OJ E n0 n1 a3 jI v20 v79 v80 v81 (aO (NC+1)) (⟨w75.len,(stG NC.toNat 1 w75.get [.int .i64 (aO ((w75.get NC.toNat).sO+1))])⟩:(Sl Tally)) x17 x18 x19 k))
 (OJ E n0 n1 a3 jI v20 v79 v80 v81 (aO (NC+1)) (⟨w75.len,(stG NC.toNat 1 w75.get [.int .i64 (aO ((w75.get NC.toNat).sO+1))])⟩:(Sl Tally)) x17 x18 x19 k))))))
 (OJ E n0 n1 a3 jI v20 v79 v80 v81 (aO (NC+1)) w75 x17 x18 x19 k))
 (OJ E n0 n1 a3 jI v20 v79 v80 v81 (aO (NC+1)) w75 x17 x18 x19 k)))))
  (zJ2 E n0 a3 jI v79 v80 (aO (v81+1)) w75 k):=krY
end
theorem o42 [aJ](E:E42)(h96:Ok aH 96 (ae.un E.c96))(zLh:Ok aH 103 (ae.un E.zOe))(zDl:Ok aH 104 (ae.un E.zDN))(h72:Ok aH 72 (ae.unA E.c72))(NT:Ok aH 105 (ae.un E.c105))(h58:Ok aH 58 (ae.un E.c58)):Ok aH 42 (ae.un (F42 E)):=dW ((((((ax.nil.addF h96).addF zLh).addF zDl).addF h72).addF NT).addF h58)
abbrev fZ(t:af):Int×jv:=(t.View,fA t)
def ltK(a b:Int×jv):Prop:=a.1<b.1\/a.1=b.1/\(cmpL (a.2.map (·.1)) (b.2.map (·.1))<0\/a.2.map (·.1)=b.2.map (·.1)/\cmpL (a.2.map (·.2)) (b.2.map (·.2))<0)
theorem zmh(t:af):(fA t).map (·.1)=pI t.Hits:=by unfold fA pI;rw[qdW];rfl
theorem zmi{t:af}(h:t.bz.len=t.Hits.len):(fA t).map (·.2)=pI t.bz:=by unfold fA pI;rw[qdW,h];rfl
theorem zDS{a b:af}(ha:a.bz.len=a.Hits.len)(hb:b.bz.len=b.Hits.len):ltK (fZ a) (fZ b)↔OI a b:=by
 unfold ltK OI;show _\/_/\(cmpL ((fA a).map (·.1)) ((fA b).map (·.1))<0\/(fA a).map (·.1)=(fA b).map (·.1)/\cmpL ((fA a).map (·.2)) ((fA b).map (·.2))<0)↔_;rw[zmh,zmh,zmi ha,zmi hb]
theorem zgj{a b:Int×jv}(h:ltK a b)(k:ltK b a):False:=by
 rcases h with h|⟨h,h2⟩<;>rcases k with k|⟨k,k2⟩
 ·omega
 ·omega
 ·omega
 ·rcases h2 with h2 | ⟨h2, h3⟩ <;> rcases k2 with k2 | ⟨k2, k3⟩
  ·exact vY _ (Ez h2 k2)
  ·rw[k2]at h2;exact vY _ h2
  ·rw[h2]at k2;exact vY _ k2
  ·exact vY _ (Ez h3 k3)
def grK(a b:Int×jv):Bool:=decide (a.2.length>b.2.length)&&(b.2.all (λp=>a.2.contains p)&&(b.1==a.1))
theorem zHo(a b:af):Jt a b=grK (fZ a) (fZ b):=by
 unfold Jt grK yE;show _=(decide ((fA a).length>(fA b).length)&&_);rw[kz,kz];congr 1;exact jqK.2 omY
theorem yg{p:Int×jv→Bool}{q:af→Bool}:∀{L:List af},(∀t∈L,q t=p (fZ t))→(L.filter q).map fZ=(L.map fZ).filter p
  | [],_=>rfl
  | t::L,h=>by
    have ih:=yg (p:=p) (q:=q) (L:=L) λu hu=>h u (jU _ hu);have e:=h t lq;rw[oU,dq7,dq7,e];by_cases hp:p (fZ t)=true
    · rw[eX hp,eX hp,oU,ih]
    · rw[fB hp,fB hp,ih]
theorem XX{x:Int}{L:List af}{c:List jv}(h:∀t∈L,Ol x t)(e:L.map fA=c):L.map fZ=c.map λc=>(x,c):=by
 rw[<- e,qdW];exact qdg λt ht=>by show(t.View,fA t)=(x,fA t);rw[(h t ht).1]
theorem zaX{α:Type}{p q:α->Bool}{a:List α}(h:∀x∈a,p x=q x):a.any p=a.any q:=by
 induction a with
 | nil=>rfl
 | cons x a ih=>rw[qjp,qjp,h x lq,ih λy hy=>h y (jU _ hy)]
def zmT(s:au)(r:bJ)(l:Sl bF):List (Int×jv):=((kF s l 1).filter (qG s l 1 r)).map (λc=>(1,c))++((kF s l 2).filter (qG s l 2 r)).map (λc=>(2,c))
theorem NW.keys{s:au}{r:bJ}{l:Sl bF}{f:found}(h:NW s r l f):(ls f.fits).map fZ=zmT s r l/\((ls f.aW).map fZ).Perm ((zmT s r l).filter λk=>!(zmT s r l).any λx=>grK x k):=by
 obtain⟨X,Y,e,x1,y1,x2,y2⟩:=h.fx;have hk:(ls f.fits).map fZ=zmT s r l:=by rw[e,QQ,XX x1 x2,XX y1 y2];rfl
 refine⟨hk,(h.tr.map fZ).trans (qjD ?_)⟩;rw[<- hk];refine yg λt _=>?_;rw[qjz];congr 1;exact zaX λx _=>zHo x t
theorem NW.uniq{s:au}{r:bJ}{l:Sl bF}{f g:found}(h:NW s r l f)(k:NW s r l g)(he:Evt s l)(h24:l.len<=24):(ls f.aW).map fZ=(ls g.aW).map fZ:=by
 have srt:∀{f:found},NW s r l f->((ls f.aW).map fZ).Pairwise ltK:=fun {f} h=>by
  rw[qjc];refine h.st.imp_of_mem fun {a b} ha hb hab=>?_;exact(zDS (h.chosen he h24 (h.sub ha)).tv.2 (h.chosen he h24 (h.sub hb)).tv.2).2 hab
 exact qj9 (le:=ltK) (λa b _ _ h1 h2=>(zgj h1 h2).elim) (srt h) (srt k) (h.keys.2.trans k.keys.2.symm)
/-! Fractions of bins. -/
def frB(f:aP):Bool:=inB f.bT 1 1000&&(inB f.Num (-1000000) 1000000&&((Int.gcd f.Num f.bT:Int)==1))
abbrev zLi(C:aP->ae Bool):Prop:=∀f,C f=.ok (frB f)
theorem ZdW{E:zN8}(N:Big E.N)(zdf:BX E.Pi):zLi (zYA E):=λf=>ae.ext λk=>by
 rw[ZdQ,zdf,bn,bn];unfold frB;cases h1:inB f.bT 1 1000 with
 | false=>rfl
 | true =>
  have h1:=dqS h1;rw[OZ,dS,zdf,bn,OY];cases h2:inB f.Num (-1000000) 1000000 with
  | false=>rfl
  | true =>
   have h2:=dqS h2;rw[OZ,dS,OY,show aO (0-f.Num) = -f.Num by rw[bf omY omY];omega,zf3,<- Y0];refine TL (X:=λn a b=>zDL E n a b k) (k:=λa=>k (a==1)) (λn a b ha hb=>?_) 61 _ _ _ omY omY omY (by have:=N;omega);rw[z2d];by_cases h:b=0
   ·subst h;rfl
   ·rw[dZ (show b>0 by omega),ed,bG h,fB h]
theorem ZdX{E:zYB}:Q56 (zYC E):=λa b=>ae.ext λk=>by rw[ZdS,bn];rfl
theorem ZdY{E:zYD}(h86:BX E.c86)(h71:IV E.Uy):zLi (zYE E):=λf=>ae.ext λk=>by
 rw[ZdU,h86,bn,bn];unfold frB;cases h1:inB f.bT 1 1000 with
 | false=>rfl
 | true =>
  have h1:=dqS h1;rw[ed,h86,bn,OY];cases h2:inB f.Num (-1000000) 1000000 with
  | false=>rfl
  | true =>
   have h2:=dqS h2;rw[ed,OY,h71 _ _ omY omY omY omY,bn];congr 1;have pd:0<f.bT:=by omega
   have a1:=oM (num:=f.Num) pd;have a2:=mG (num:=f.Num) pd;have pr:=jf (num:=f.Num) pd;by_cases hg:(Int.gcd f.Num f.bT:Int)=1
   ·rw [hg,qjU]at a1 a2;rw[a1,a2,hg];simp
   ·have:(red f.Num f.bT).bT≠f.bT:=λe=>by
     rw[e]at a2;refine hg (qjV (show f.bT≠0 by omega) ?_);rw[qjU];exact a2
    rw[show((red f.Num f.bT).bT==f.bT)=false by simpa using this,show((Int.gcd f.Num f.bT:Int)==1)=false by simpa using hg];cases(red f.Num f.bT).Num==f.Num<;>rfl
def zlO(b:Bin):Bool:=vwB b.View&&(frB b.Low&&(frB b.High&&leB b.Low b.High))
abbrev Q43(C:Bin->ae Bool):Prop:=∀b,C b=.ok (zlO b)
theorem s43{E:E43}(h34:QVw E.c34)(zYF:zLi E.zW6)(h56:Q56 E.YB):Q43 (F43 E):=λb=>ae.ext λk=>by
 rw[e43,h34,bn,zYF,bn,zYF,bn,h56,bn,bn];unfold zlO;cases vwB b.View<;>cases frB b.Low<;>cases frB b.High<;>rfl
theorem zr8 : ∀ {c d : jv}, c.Pairwise (fun p q => p.1 < q.1) → d.Pairwise (fun p q => p.1 < q.1) → (∀ p ∈ c, p ∈ d) → c.length ≤ d.length ∧ (c.length = d.length → c = d)
  | [],d,_,_,_=>⟨Cf _,λh=>(qjC.1 h.symm).symm⟩
  | p::c,[],_,_,m=>by cases m p lq
  | p::c,q::d,hc,hd,m=>by
    have hc:=qdy.1 hc;have hd:=qdy.1 hd;have hp:=kR.1 (m p lq);have m':∀r∈c,r∈d:=λr hr=>by
      rcases kR.1 (m r (jU _ hr))with e|h
      · have a := hc.1 r hr;rw[e] at a;rcases hp with e | h
        · rw[e]at a;omega
        · have:=hd.1 p h;omega
      · exact h
    obtain⟨a,b⟩:=zr8 hc.2 hd.2 m';refine⟨by rw[Cc,Cc];omega,λh=>?_⟩;rw[Cc,Cc]at h;have e:=b omY;rcases hp with f|h
    · rw[e,f]
    · rw[<- e]at h;have:=hc.1 p h;omega
theorem zB3{s:au}{l:Sl bF}{c:jv}{i:Nat}(hi:i<c.length):(qx s l c).get i=(yC s (l.get (c[i]).1.toNat)).get (c[i]).2.toNat:=by
 unfold qx;rw[Ph hi,BR hi];rfl
/-! Floors and ceilings. -/
theorem zOm{a b:Int}(h1 : -100000000000000000≤a∧a≤100000000000000000)(h2:0<b)(h3:b≤100000000000000000) :
  aO (a.tdiv b)=a.tdiv b/\aO (a.tdiv b*b)=a.tdiv b*b/\(a.tdiv b*b>a->aO (a.tdiv b-1)=a/b)/\(¬a.tdiv b*b>a->a.tdiv b=a/b)/\(a.tdiv b*b<a->aO (a.tdiv b+1) = -(-a/b))/\(¬a.tdiv b*b<a->a.tdiv b = -(-a/b)):=by
 have q:=zcZ h1 h2;have q':=zcZ (a:=-a) omY h2;rcases qdX a 0 with hn|hn
 ·have e:a.tdiv b = -(-a/b):=by
   rw[show a = -(-a)by omega,Int.neg_tdiv,qdC omY,Int.neg_neg]
  have m1:=qjL (-a) b;have m2:=jqj (-a) (show b≠0 by omega);have m3:=qj0 (-a) h2;have pr : -(-a/b)*b = -(b*(-a/b)):=by rw[jqs,qjX]
  rw[e,pr];refine⟨bf omY omY,bf omY omY,λh=>?_,λh=>?_,λh=>by omega,λ_=>rfl⟩
  ·have:a/b = -(-a/b)-1:=by
    refine((qdD (r:=b - -a%b) h2).2 ⟨?_,omY,omY⟩).1;rw[qjG,qjl];omega
   rw[this,bf omY omY]
  ·refine((qdD (r:=0) h2).2 ⟨?_,by omega,by omega⟩).1.symm;rw[qjl];omega
 ·have e : a.tdiv b = a / b := qdC hn;have m1:=qjL a b;have m2:=jqj a (show b ≠ 0 by omega);have m3:=qj0 a h2;have pr:a / b * b=b * (a / b):=qjX _ _;rw[e,pr];refine⟨bf omY omY,bf omY omY,λ h=>by omega,λ _=>rfl,λ h=>?_,λ h=>?_⟩
  ·have : -a/b = -(a/b)-1:=by
    refine((qdD (r:=b-a%b) h2).2 ⟨?_,omY,omY⟩).1;rw[qjG,qjl];omega
   rw[this,bf omY omY];omega
  ·have : -a/b = -(a/b):=by
    refine((qdD (r:=0) h2).2 ⟨?_,omY,omY⟩).1;rw[qjl];omega
   rw[this];omega
theorem zHt{α:Type}[bH α][sQ α](v:Sl α)(a:Nat)(h:a<=v.len)(x:α):ls (⟨(((a:Int)-0).toNat+1)+((v.len:Int)-(a:Int)).toNat,jL (((a:Int)-0).toNat+1) (jL ((a:Int)-0).toNat (EM v.get 0) (λ_=>x)) (EM v.get (a:Int).toNat)⟩:Sl α)=(ls v).take a++x::(ls v).drop a:=by
 have e1:((a:Int)-0).toNat=a:=by omega
 have e2:((v.len:Int)-(a:Int)).toNat=v.len-a:=by omega
 rw[e1,e2,gU];refine(XR (⟨a+1,jL a (EM v.get 0) λ_=>x⟩:Sl α) (⟨v.len-a,EM v.get a⟩:Sl α)).trans ?_;rw[show(⟨a+1,jL a (EM v.get 0) λ_=>x⟩:Sl α)=oO ⟨a,EM v.get 0⟩ x from rfl,O9,qjF];have t:ls (⟨a,EM v.get 0⟩:Sl α)=(ls v).take a:=by
  refine jqL (by rw[iQ,qdH,iQ];show a=_;omega) λi h1 h2=>?_;simp[ls,EM]
 have d:ls (⟨v.len-a,EM v.get a⟩:Sl α)=(ls v).drop a:=by
  refine jqL (by rw[iQ,Y8,iQ]) λi h1 h2=>?_;simp[ls,EM,jqf]
 rw[t,d];rfl
theorem zMZ{α:Type}{L:List α}{a:Nat}{x y:α}:y∈L.take a++x::L.drop a↔y=x\/y∈L:=by
 rw[dU,kR];have q:y∈L↔y∈L.take a\/y∈L.drop a:=by rw[<- dU,qjI]
 rw[q];constructor
 ·rintro (h | h | h)
  ·exact .inr (.inl h)
  ·exact .inl h
  ·exact .inr (.inr h)
 ·rintro (h | h | h)
  ·exact .inr (.inl h)
  ·exact .inl h
  ·exact .inr (.inr h)
def eqL(x y:Line):Bool:=cond (cond (x.dM.Num==y.dM.Num) (cond (x.dM.bT==y.dM.bT) true false) false) (cond (cond (x.Start.Num==y.Start.Num) (cond (x.Start.bT==y.Start.bT) true false) false) true false) false
theorem zWd{x y:Line}(h:eqL x y=true):x=y:=by
 unfold eqL at h;cases h1:x.dM.Num==y.dM.Num with
 | false=>rw[h1]at h;cases h
 | true =>
 cases h2:x.dM.bT==y.dM.bT with
 | false=>rw[h1,h2]at h;cases h
 | true =>
 cases h3:x.Start.Num==y.Start.Num with
 | false=>rw[h1,h2,h3]at h;cases h
 | true =>
 cases h4:x.Start.bT==y.Start.bT with
 | false=>rw[h1,h2,h3,h4]at h;cases h
 | true =>
  have a:=eq_of_beq h1;have b:=eq_of_beq h2;have c:=eq_of_beq h3;have d:=eq_of_beq h4;obtain⟨⟨x1,x2⟩,⟨x3,x4⟩⟩:=x;obtain⟨⟨y1,y2⟩,⟨y3,y4⟩⟩:=y;simp only at a b c d;rw[a,b,c,d]
abbrev zDT(C:Sl ay->ae (Sl Line)):Prop:=∀g,dw g->∃L:Sl Line,C g=.ok L/\L.len<=2304/\(∀x∈ls L,∃t,wB g t/\x=fC t)/\∀t,wB g t->fC t∈ls L
theorem z0H{E:Qy}(N:Big E.N)(zqH:zuy E.zmk)(h57:Q57 E.c57)(zqI:zuz E.c226):zDT (zmd E):=λg G=>by
 have hg:=G.2;have hN:=N;have hc:=Og G;have hcd:=zgB g;have pos:∀n0 (i:Nat),i<(cst g).length->∀(v:Sl Line),(∀x∈ls v,∃t,wB g t/\x=fC t)->v.len<=2304->∃a,a<=v.len/\∀(A:Type)(k:Sl Line->Option A),sV E n0 E.N g v (xU g) (i:Int) 0 k=qg E n0 g v (xU g) (i:Int) (a:Int) k:=by
  intro n0 i hi v hv hl;have key:∀(m j n1:Nat),j+m=v.len->m<n1->∃a,a<=v.len/\∀(A:Type)(k:Sl Line->Option A),sV E n0 n1 g v (xU g) (i:Int) (j:Int) k=qg E n0 g v (xU g) (i:Int) (a:Int) k:=by
   intro m
   induction m with
   | zero =>
    intro j n1 hj hn;obtain⟨n1,rfl⟩:∃n',n1=n'+1:=⟨n1-1,omY⟩;exact⟨j,omY,λA k=>by rw[zaJ,eU omY];rfl⟩
   | succ m ih =>
    intro j n1 hj hn;obtain⟨n1,rfl⟩:∃n',n1=n'+1:=⟨n1-1,omY⟩;obtain⟨s,hs,es⟩:=hv (v.get j) (jA.2 ⟨j,omY,rfl⟩);obtain⟨b,hb⟩:=zqI s (cst g)[i] g (mi G hs) (rE G (YY hi)) G;have st:∀(A:Type)(k:Sl Line->Option A),sV E n0 (n1+1) g v (xU g) (i:Int) (j:Int) k=cond b (sV E n0 n1 g v (xU g) (i:Int) ((j+1:Nat):Int) k) (qg E n0 g v (xU g) (i:Int) (j:Int) k):=λA k=>by
     rw[zaJ,dZ omY,ed,bG omY,bG omY,gU,gU,es,GX g hi,hb,bn,bP omY]
    cases b with
    | true =>
     obtain⟨a,h1,h2⟩:=ih (j+1) n1 omY omY;exact⟨a,h1,λA k=>by rw[st];exact h2 A k⟩
    | false=>exact⟨j,omY,λA k=>by rw[st];rfl⟩
  exact key v.len 0 E.N omY omY
 have key:∀(m i n:Nat)(v:Sl Line),i+m=(cst g).length->m<n->(∀x∈ls v,∃t,wB g t/\x=fC t)->v.len<=i->∃L:Sl Line,(∀(A:Type)(k:Sl Line->Option A),lG E n g v (xU g) (i:Int) k=k L)/\L.len<=(cst g).length/\(∀x∈ls L,∃t,wB g t/\x=fC t)/\(∀x∈ls v,x∈ls L)/\∀j (h:j<(cst g).length),i<=j->zx g (cst g)[j]->fC (cst g)[j]∈ls L:=by
  intro m
  induction m with
  | zero =>
   intro i n v hi hn hv hl;obtain⟨n,rfl⟩:∃n',n=n'+1:=⟨n-1,omY⟩;exact⟨v,λA k=>by rw[zaI,eU omY];rfl,omY,hv,λx h=>h,λj h O5=>by omega⟩
  | succ m ih =>
   intro i n v hi hn hv hl;obtain⟨n,rfl⟩:∃n',n=n'+1:=⟨n-1,omY⟩;have kN:i<(cst g).length:=by omega
   have S:=rE G (YY kN);have pl:=ES (cst g)[i] g g.len;have st:∀(A:Type)(k:Sl Line->Option A),lG E (n+1) g v (xU g) (i:Int) k=cond (decide (((ug (cst g)[i] g g.len).len:Int)<(g.len:Int))) (lG E n g v (xU g) ((i+1:Nat):Int) k) (sV E n E.N g v (xU g) (i:Int) 0 k):=λA k=>by
    rw[zaI,dZ omY,ed,bG omY,gU,GX g kN,h57 _ g S omY G.1,bn,bP omY]
   by_cases ha:zx g (cst g)[i]
   ·have e : (ug (cst g)[i] g g.len).len = g.len := pl.2.1.2 ha;obtain⟨a,a1,a2⟩:=pos n i kN v hv omY;have st2:∀ (A:Type) (k:Sl Line->Option A),lG E (n+1) g v (xU g) (i:Int) k=qg E n g v (xU g) (i:Int) (a:Int) k:=λ A k=>by rw[st,eU omY,dS,a2]
    let v':Sl Line:=⟨(((a:Int)-0).toNat+1)+((v.len:Int)-(a:Int)).toNat,jL (((a:Int)-0).toNat+1) (jL ((a:Int)-0).toNat (EM v.get 0) (λ_=>(xU g).get (i:Int).toNat)) (EM v.get (a:Int).toNat)⟩;have i1:∀(A:Type)(k:Sl Line->Option A),Gv E n g v (xU g) (i:Int) (a:Int) k=lG E n g v' (xU g) ((i+1:Nat):Int) k:=λA k=>by
     rw[zqG,bG omY,jQ omY omY,bG omY,jQ omY omY,bG omY,jQ omY omY,bP omY]
    have i2:v'.len=v.len+1:=by show((((a:Int)-0).toNat+1)+((v.len:Int)-(a:Int)).toNat)=_;omega
    have lg:(xU g).get (i:Int).toNat=fC (cst g)[i]:=by rw[gU,GX g kN]
    have i3:∀x,x∈ls v'↔x=fC (cst g)[i]\/x∈ls v:=λx=>by
     rw[show ls v'=(ls v).take a++(xU g).get (i:Int).toNat::(ls v).drop a from zHt v a a1 _,zMZ,lg]
    have i4:∀x∈ls v',∃t,wB g t/\x=fC t:=λx hx=>by
     rcases(i3 x).1 hx with h|h
     ·exact⟨_,⟨YY kN,ha⟩,h⟩
     ·exact hv x h
    have fin:∃v'':Sl Line,(∀(A:Type)(k:Sl Line->Option A),qg E n g v (xU g) (i:Int) (a:Int) k=lG E n g v'' (xU g) ((i+1:Nat):Int) k)/\v''.len<=i+1/\(∀x∈ls v'',∃t,wB g t/\x=fC t)/\(∀x∈ls v,x∈ls v'')/\fC (cst g)[i]∈ls v'':=by
     by_cases h1:(a:Int)<(v.len:Int)
     ·have e3:∀(A:Type)(k:Sl Line->Option A),qg E n g v (xU g) (i:Int) (a:Int) k=cond (eqL (v.get a) ((xU g).get (i:Int).toNat)) (lG E n g v (xU g) ((i+1:Nat):Int) k) (Gv E n g v (xU g) (i:Int) (a:Int) k):=λA k=>by
       rw[zaK,dZ h1,ed,bG omY,bG omY,bP omY,gU,gU];rfl
      cases hB:eqL (v.get a) ((xU g).get (i:Int).toNat)with
      | true =>
       rw[hB]at e3;have:=zWd hB;rw[lg]at this;exact⟨v,λA k=>e3 A k,omY,hv,λx h=>h,by rw[<- this];exact jA.2 ⟨a,omY,rfl⟩⟩
      | false =>
       rw[hB]at e3;exact⟨v',λA k=>(e3 A k).trans (i1 A k),omY,i4,λx h=>(i3 x).2 (.inr h),(i3 _).2 (.inl rfl)⟩
     ·exact⟨v',λA k=>by rw[zaK,eU h1];exact i1 A k,omY,i4,λx h=>(i3 x).2 (.inr h),(i3 _).2 (.inl rfl)⟩
    obtain⟨v'',f1,f2,f3,f4,f5⟩:=fin;obtain⟨L,l1,l2,l3,l4,l5⟩:=ih (i+1) n v'' omY omY f3 f2;refine⟨L,λA k=>by rw[st2,f1,l1],l2,l3,λx h=>l4 x (f4 x h),λj h O5 hj=>?_⟩;by_cases e:j=i
    ·subst e;exact l4 _ f5
    ·exact l5 j h omY hj
   ·have e:(ug (cst g)[i] g g.len).len<g.len:=by
     rcases qd4 (ug (cst g)[i] g g.len).len g.len with h|h
     ·exact h
     ·exact absurd (pl.2.1.1 omY) ha
    obtain⟨L,l1,l2,l3,l4,l5⟩:=ih (i+1) n v omY omY hv omY;refine⟨L,λA k=>by rw[st,dZ omY,ed,l1],l2,l3,l4,λj h O5 hj=>?_⟩;have:j≠i:=λe=>ha (by subst e;exact hj);exact l5 j h omY hj
 obtain⟨L,l1,l2,l3,_,l5⟩:=key (cst g).length 0 E.N eL omY omY (λx hx=>by cases hx) (kC _);refine⟨L,ae.ext λk=>by rw[zMU,zqH g G,bn,bn];exact l1 _ k,omY,l3,λt ht=>?_⟩;obtain⟨j,h1,rfl⟩:=qdA ht.1;exact l5 j h1 (Cf _) ht.2
theorem zzX{α:Type}{a b:α}(h:(ae.ok a:ae α)=.ok b):a=b:=YR (jX (λc=>ae.o c) h)
theorem zgE{a b:aP}(h1:QE a)(h2:QE b):leB a b=true↔yz a b:=by
 unfold leB;rw[XL h1 h2,XL h2 h1,pJ];rfl
def PlC(g:Sl ay)(z:Int)(f:aP):Prop:=∃t,wB g t/\f=red (iL t z) t.den
theorem zzY{t:straight}(S:yw t){z:Int}(hz:N7 z):QE (red (iL t z) t.den):=by
 have h:=UN S hz;have a : -600000000000<=iL t z/\iL t z<=600000000000:=h.1;have b:0<t.den/\t.den<=100000:=h.2;have r1:=zU (num:=iL t z) b.1;have r2:=GG (num:=iL t z) b.1;have r3:=jf (num:=iL t z) b.1;exact⟨omY,r3,omY⟩
abbrev zHu(C:Sl ay×Int->ae (aP×aP)):Prop:=∀g z,dw g->N7 z->fQ g=false->iG g=true->∃a b,C (g,z)=.ok (a,b)/\(PlC g z a/\∀t,wB g t->IA a (red (iL t z) t.den))/\PlC g z b/\∀t,wB g t->IA (red (iL t z) t.den) b
theorem z0I{E:zaB}(N:Big E.N)(IE:zgH E.BU)(YM:zDT E.c194)(h76:Q76 E.c76)(h56:Q56 E.YB):zHu (zpP E):=λg z G hz hf hs=>by
 have hg:=G.2;have hN:=N;obtain⟨L,l1,l2,l3,l4⟩:=YM g G;obtain⟨t0,t01,t02⟩:=(IW G hf).1 hs;have l0:0<L.len:=by
  have:=qjh (l4 t0 ⟨t01,t02⟩);rw[iQ]at this;exact this
 have pc:∀i,i<L.len->∃t,wB g t/\L.get i=fC t/\E.c76 (L.get i,z)=.ok (red (iL t z) t.den):=λi hi=>by
  obtain⟨t,ht,e⟩:=l3 _ (jA.2 ⟨i,hi,rfl⟩);exact⟨t,ht,e,by rw[e];exact h76 t z (mi G ht) hz⟩
 have pok:∀f,PlC g z f->QE f:=λf ⟨t,ht,e⟩=>by rw[e];exact zzY (mi G ht) hz
 have key:∀(m i n:Nat)(x y:aP),i+m=L.len->m<n->PlC g z x->PlC g z y->(∀j,j<i->∀f,E.c76 (L.get j,z)=.ok f->IA x f/\IA f y) ->
   ∃a b,(∀(A:Type)(k:aP×aP->Option A),BI E n z L (i:Int) x y k=k (a,b))/\PlC g z a/\PlC g z b/\∀j,j<L.len->∀f,E.c76 (L.get j,z)=.ok f->IA a f/\IA f b:=by
  intro m
  induction m with
  | zero =>
   intro i n x y hi hn hx hy hb;obtain⟨n,rfl⟩:∃n',n=n'+1:=⟨n-1,omY⟩;exact⟨x,y,λA k=>by rw[zjJ,eU omY];rfl,hx,hy,λj hj=>hb j omY⟩
  | succ m ih =>
   intro i n x y hi hn hx hy hb;obtain⟨n,rfl⟩:∃n',n=n'+1:=⟨n-1,omY⟩;obtain⟨t,ht,et,ef⟩:=pc i omY;have hf':PlC g z (red (iL t z) t.den):=⟨t,ht,rfl⟩;generalize red (iL t z) t.den=f at ef hf';have px:=pok x hx;have py:=pok y hy;have pf:=pok f hf';have st:∀(A:Type)(k:aP×aP->Option A),BI E (n+1) z L (i:Int) x y k=BI E n z L ((i+1:Nat):Int) (cond (leB f x) f x) (cond (leB y f) f y) k:=λA k=>by
    rw[zjJ,dZ omY,ed,bG omY,gU,ef,bn,h56,bn];cases leB f x<;>simp only[ed,dS]<;>rw[zyk,h56,bn,bP omY]<;>cases leB y f<;>rfl
   have zHv:IA f f:=qd8 _;obtain⟨a,b,h1,h2,h3,h4⟩:=ih (i+1) n (cond (leB f x) f x) (cond (leB y f) f y) omY omY (by cases leB f x<;>assumption) (by cases leB y f<;>assumption) (λj hj q hq=>by
    have qf:j=i->q=f:=λe=>by subst e;exact zzX (hq.symm.trans ef)
    have qo:PlC g z q:=by
     obtain⟨t',ht',_,e'⟩:=pc j omY;exact⟨t',ht',zzX (hq.symm.trans e')⟩
    have pq:=pok q qo;constructor
    ·cases hl:leB f x with
     | true =>
      have lt:=(zgE pf px).1 hl;rw[ed];by_cases e:j=i
      ·rw[qf e];exact zHv
      ·exact oN pf.2.1 px.2.1 pq.2.1 (yt lt) (hb j omY q hq).1
     | false =>
      rw[dS];by_cases e:j=i
      ·rw[qf e];exact YN λh=>by rw[(zgE pf px).2 h]at hl;cases hl
      ·exact(hb j omY q hq).1
    ·cases hl:leB y f with
     | true =>
      have lt:=(zgE py pf).1 hl;rw[ed];by_cases e:j=i
      ·rw[qf e];exact zHv
      ·exact oN pq.2.1 py.2.1 pf.2.1 (hb j omY q hq).2 (yt lt)
     | false =>
      rw[dS];by_cases e:j=i
      ·rw[qf e];exact YN λh=>by rw[(zgE py pf).2 h]at hl;cases hl
      ·exact(hb j omY q hq).2)
   exact⟨a,b,λA k=>by rw[st];exact h1 A k,h2,h3,h4⟩
 obtain⟨t,ht,et,ef⟩:=pc 0 l0;obtain⟨a,b,h1,h2,h3,h4⟩:=key (L.len-1) 1 E.N (red (iL t z) t.den) (red (iL t z) t.den) omY omY ⟨t,ht,rfl⟩ ⟨t,ht,rfl⟩ (λj hj q hq=>by
  rw[show j=0 by omega]at hq;have:=zzX (hq.symm.trans ef);rw[this];exact⟨qd8 _,qd8 _⟩)
 have al:∀u,wB g u->IA a (red (iL u z) u.den)/\IA (red (iL u z) u.den) b:=λu hu=>by
  obtain⟨j,hj,e⟩:=jA.1 (l4 u hu);exact h4 j hj _ (by rw[e];exact h76 u z (mi G hu) hz)
 refine⟨a,b,ae.ext λk=>?_,⟨h2,λu hu=>(al u hu).1⟩,h3,λu hu=>(al u hu).2⟩;rw[zMT,IE g omY omY,bn,hf,dS,l1,bn,bG omY,ef,bn,bG omY,bn,bn];exact h1 _ k
abbrev zHw(C:aP->ae Int):Prop:=∀f:aP,FlK f->C f=.ok (f.Num/f.bT)
theorem z0J{E:zpQ}:zHw (zpR E):=λf ⟨h1,h2,h3⟩=>ae.ext λk=>by
 obtain⟨x1,x2,x3,x4,_,_⟩:=zOm h1 h2 h3;rw[zTg,bG omY,x1,x2,bn];by_cases c:f.Num.tdiv f.bT*f.bT>f.Num
 ·rw[dZ c,ed,x3 c]
 ·rw[eU c,dS,x4 c]
theorem zzZ:∀{r:List (Int×bZ)}{n:Int},(∀t∈r,-2000000000≤t.2.High∧t.2.High≤2000000000)→n≤nxt r n
  | [],n,_=>qd8 _
  | y::r,n,h=>by
    have hy:=h y lq;have hr:∀t∈r,-2000000000<=t.2.High/\t.2.High<=2000000000:=λt ht=>h t (jU _ ht);rw[nxt];by_cases c:y.2.Low<=n/\n<=y.2.High
    · rw [dZ c.1,dZ c.2,qjQ,ed,bf omY omY];have:=zzZ (n:=y.2.High+1) hr;omega
    · have e:(decide (y.2.Low<=n)&&decide (n<=y.2.High))=false:=by
        by_cases h1:y.2.Low<=n
        · rw[eU (show ¬n<=y.2.High from λh2=>c ⟨h1,h2⟩),qds]
        · rw[eU h1,qdf]
      rw[e,dS];exact zzZ hr
theorem zM1{p:ak}(hp:YD p){x:bZ}(hx:Y7 x=true):EY p x=XU p x:=by
 have hx:=dqS hx;cases hm:XU p x with
 | false =>
  cases hb:EY p x with
  | false=>rfl
  | true =>
   have:=zzW hp hb ⟨hx.1,hx.2.2⟩ (qd8 _) hx.2.1 (qd8 _);rw[this]at hm;cases hm
 | true =>
  have hh:=zgD hp;have hp':=hp;obtain⟨_,_,_,hf,hpi,Fb,hsp,ho,_⟩:=hp;unfold XU at hm;rw[bf (x:=x.Low-p.bC.High) omY omY,bf (x:=x.High-p.bC.Low) omY omY,bf (x:=p.bM-1) omY omY]at hm;simp only[gG,pJ,dI,NR]at hm;obtain⟨⟨m1,m2⟩,m3⟩:=hm;rw[(JA hp' (c:=0) omY omY).1]at m1;rw[(JA hp' (c:=p.bM-1) omY omY).1]at m2;have ge:∀q:Nat,(q:Int)<p.bM->qh p (q:Int)=⟨p.First+q*p.aS-jT p,p.First+q*p.aS-jT p+p.aS-1⟩/\0<=(q:Int)*p.aS/\(q:Int)*p.aS<=1000000000:=λq hq=>JA hp' (c:=(q:Int)) omY omY;have hb:∀m c:Nat,c+m=p.bM.toNat->∀t∈Oe p m c,-2000000000<=t.2.High/\t.2.High<=2000000000:=λm c hc t ht=>by
   obtain⟨q,_,q2,_,e⟩:=N8 ht;obtain⟨e2,e3,e4⟩:=ge q omY;rw[e,e2];show _<=p.First+q*p.aS-jT p+p.aS-1/\p.First+q*p.aS-jT p+p.aS-1<=_;omega
  generalize hlo:x.Low-p.bC.High=lo at *;generalize hhi:x.High-p.bC.Low=hi at *;have m1:lo>=p.First+0*p.aS-jT p:=m1;have m2:hi<=p.First+(p.bM-1)*p.aS-jT p+p.aS-1:=m2;have key:∀(m c:Nat)(n:Int),c+m=p.bM.toNat->lo<=n->(n<=hi->p.First+c*p.aS-jT p<=n)->hi<nxt (Oe p m c) n:=by
   intro m
   induction m with
   | zero =>
    intro c n hc hn h;show hi<n;rcases qdX hi n with h1|h1
    ·exact h1
    ·have h2 := h h1;have e:(c:Int)=p.bM:=by omega
     rw[e]at h2;have:(p.bM-1)*p.aS=p.bM*p.aS-p.aS:=by rw[jqu,qjU]
     omega
   | succ m ih =>
    intro c n hc hn h;obtain⟨e2,e3,e4⟩:=ge c omY;have nx:((c+1:Nat):Int)*p.aS=c*p.aS+p.aS:=by rw[show((c+1:Nat):Int)=(c:Int)+1 by omega,qjx,qjU]
    rcases qdX hi n with h1|h1
    ·exact Int.lt_of_lt_of_le h1 (zzZ (hb (m+1) c hc))
    have h2:=h h1;simp only[Oe];cases hd:hasB p.Dead (c:Int)with
    | true =>
     rw[ed];refine ih (c+1) n omY hn λ_=>?_;have d:=m3 c omY;simp only[IB,hd,OY]at d;rw[e2]at d;have d:(decide (p.First+c*p.aS-jT p<=hi)&&decide (p.First+c*p.aS-jT p+p.aS-1>=lo))=false:=d;rw[dZ (show p.First+c*p.aS-jT p<=hi by omega),OY,dq2]at d;rw[nx];omega
    | false =>
     rw[dS,nxt];have te:zMW p c=qh p (c:Int):=rfl;rw[te,e2];show hi<nxt (Oe p m (c+1)) (cond (decide (p.First+c*p.aS-jT p<=n)&&decide (n<=p.First+c*p.aS-jT p+p.aS-1)) (aO (p.First+c*p.aS-jT p+p.aS-1+1)) n);rw[dZ h2,OY];by_cases c1:n<=p.First+c*p.aS-jT p+p.aS-1
     ·rw [dZ c1,ed,bf omY omY];exact ih (c+1) _ omY omY λ_=>by rw[nx];omega
     ·rw [eU c1,dS];exact ih (c+1) n omY hn λ_=>by rw[nx];omega
  unfold EY;rw[pJ,bf (x:=x.Low-p.bC.High) omY omY,bf (x:=x.High-p.bC.Low) omY omY,hlo,hhi];exact key p.bM.toNat 0 lo omY (qd8 _) λ_=>by show p.First+0*p.aS-jT p<=lo;omega
theorem z0K{p:ak}{h:bF}:∀i,i<(gaP p h).len->((gaP p h).get i).Z=p.Z:=by
 have key:∀(a b c:Bool)(x y z w:Sl ay),(∀i,i<x.len->(x.get i).Z=p.Z)->(∀i,i<y.len->(y.get i).Z=p.Z)->(∀i,i<z.len->(z.get i).Z=p.Z)->(∀i,i<w.len->(w.get i).Z=p.Z) ->
   ∀i,i<(cond a (cond b x y) (cond c z w)).len->((cond a (cond b x y) (cond c z w)).get i).Z=p.Z:=by
  intro a b c x y z w h1 h2 h3 h4;cases a<;>cases b<;>cases c<;>assumption
 unfold gaP;exact key _ _ _ _ _ _ _ (λi hi=>absurd hi (UW i)) (λ_ _=>rfl) (λ_ _=>rfl) (λi hi=>by
  match i,hi with
  | 0,_=>exact(rfl:(gate p _ _).Z=p.Z)
  | 1,_=>exact(rfl:(gate p _ _).Z=p.Z))
theorem z0L{s:au}(h:fH s=true):∀j,j<s.aj.len->∀i,i<j->(s.aj.get i).Z<(s.aj.get j).Z:=by
 simp only[fH,gG,dI]at h;have step:∀j,j+1<s.aj.len->(s.aj.get j).Z<(s.aj.get (j+1)).Z:=λj hj=>by
  have:=h.2 (j+1) hj;simp only[seB,gG,Zb,pJ,qjj]at this;exact this.2.resolve_left omY
 intro j
 induction j with
 | zero=>intro _ i hi;omega
 | succ j ih =>
  intro hj i hi;have:=step j hj;by_cases e:i=j
  ·rw[e];exact this
  ·have:=ih omY i omY;omega
theorem zM2{s:au}{l:Sl bF}{x:Int}{c:jv}{j i:Nat}(he:Evt s l)(h24:l.len<=24)(hv:Val s l x c j)(ne:c≠[])(so:iG (qx s l c)=true)(hf:fQ (qx s l c)=true)(hi:i<s.aj.len)(hu:usP l c i=false):atB (qx s l c) (s.aj.get i)=false:=by
 have G:=EX he h24 hv ne;have hl:=qdR.2 ne;have m:=hv.mem c[0] (YY hl);have hle:=hv.le;have pl:=he.pl (i:=(c[0]).1.toNat) omY;have z0':((qx s l c).get 0).Z=(s.aj.get (l.get (c[0]).1.toNat).ak.toNat).Z:=by
  rw[zB3 hl];exact z0K _ (by have:=m.2.2;unfold yD at this;show _<(yC s (l.get (c[0]).1.toNat)).len;omega)
 have nz:((qx s l c).get 0).Z≠(s.aj.get i).Z:=λe=>by
  rw[z0']at e;unfold usP at hu;rw[qdK]at hu;have ne:=hu c[0] (YY hl);have ne:(l.get (c[0]).1.toNat).ak≠(i:Int):=by simpa using ne
  rcases qdB (l.get (c[0]).1.toNat).ak.toNat i with h|h|h
  ·have:=z0L he.se i hi _ h;omega
  ·omega
  ·have:=z0L he.se _ omY i h;omega
 have o:(Ad (qx s l c) (((qx s l c).get 0).Z==(s.aj.get i).Z)).2=6:=by
  unfold Ad;rw[kU.2 G,so,hf,show(((qx s l c).get 0).Z==(s.aj.get i).Z)=false by simpa using nz];rfl
 unfold atB atB.opn';rw[o];rfl
abbrev zWe(C:au×Sl bF×af->ae (Sl Int)):Prop:=∀s l t,qH s l t->∃w:Sl Int,C (s,l,t)=.ok w/\ls w=zmE s l t.View (fA t)
theorem z7S{E:E91}(N:Big E.N)(h65:Q65 E.c65)(h87:Q87 E.c87)(IE:zgH E.BU)(zxV:zHu E.zso)(zpb:zHw E.YW)(h86:BX E.c86)(h77:Q77 E.c77):zWe (F91 E):=λs l t ha=>by
 obtain⟨j,hv⟩:=ha.vl;have he:=ha.ev;have hl:=qR rfl hv;have h24:=he.l24;have G:=EX he.toEvt he.l24 hv ha.ne;have hG:=G.2;have hp:=tu he.se;have so:iG (qx s l (fA t))=true:=by
  have:=ha.ag;unfold ET at this;rw[gG]at this;exact this.2
 have key:∀(m i n:Nat)(w:Sl Int),i+m=s.aj.len->m<n->w.len<=i->∃w':Sl Int,(∀(A:Type)(k:Sl Int->Option A),sS E n s l t (qx s l (fA t)) (i:Int) w k=k w')/\ls w'=ls w++((List.range' i m).filter (UO s l t.View (fA t))).map Int.ofNat:=by
  intro m
  induction m with
  | zero =>
   intro i n w hi hn hw;obtain⟨n,rfl⟩:∃n',n=n'+1:=⟨n-1,omY⟩;exact⟨w,λA k=>by rw[zun,eU omY];rfl,by simp⟩
  | succ m ih =>
   intro i n w hi hn hw;obtain⟨n,rfl⟩:∃n',n=n'+1:=⟨n-1,omY⟩;have Ob:=xE he.se (i:=i) omY;have hz:=zr5 Ob;rw[YA];have us:(!usB l t.Hits t.Hits.len (i:Int))=usP l (fA t) i:=by
    have:=zf0 (l:=l) (t:=t) (c:=fA t) rfl λh=>(l.get h.toNat).ak==(i:Int);unfold usP;rw[<- this];unfold usB;congr 1
   have st:∀(A:Type)(k:Sl Int->Option A),sS E (n+1) s l t (qx s l (fA t)) (i:Int) w k=cond (UO s l t.View (fA t) i) (sS E n s l t (qx s l (fA t)) ((i+1:Nat):Int) (oO w (i:Int)) k) (sS E n s l t (qx s l (fA t)) ((i+1:Nat):Int) w k):=λA k=>by
    rw[zun,dZ omY,ed,bG omY,gU,bP omY];unfold UO;cases(s.aj.get i).View != t.View with
    | true=>rfl
    | false =>
     simp only[dS];rw[h87 l t.Hits _ omY (EQ rfl hv),bn,us];cases hu:usP l (fA t) i with
     | true=>rfl
     | false =>
      simp only[dS];rw[IE _ omY omY,bn];cases hf:fQ (qx s l (fA t))with
      | true=>rw[zM2 he.toEvt he.l24 hv ha.ne so hf omY hu];rfl
      | false =>
       simp only[dS];have hco:0<(jB (qx s l (fA t))).length:=by
        have:=so;unfold iG at this;rw[hf,dS,pJ]at this;omega
       have ho:(Ad (qx s l (fA t)) (((qx s l (fA t)).get 0).Z==(s.aj.get i).Z)).2=0:=by
        unfold Ad;rw[kU.2 G,so,hf];rfl
       obtain⟨a,b,e1,⟨⟨ta,ca,ea⟩,ma⟩,⟨tb,cb,eb⟩,mb⟩:=zxV _ _ G hz hf so;have pa:QE a:=by rw[ea];exact zzY (mi G ca) hz
       have pb:QE b:=by rw[eb];exact zzY (mi G cb) hz
       obtain⟨⟨u,cu,eu⟩,_⟩:=zkQ G (Oc (s.aj.get i).Z) (λs hs=>by have:=(mi G hs).2.2;show 0<s.den;omega) hco;obtain⟨⟨v,cv,ev⟩,_⟩:=zkR G (Oc (s.aj.get i).Z) (λs hs=>by have:=(mi G hs).2.2;show 0<s.den;omega) hco;have bl:(xB (qx s l (fA t)) (s.aj.get i).Z).1=red (iL u (s.aj.get i).Z) u.den:=by
        unfold xB;rw[hf,dS];show red (loG _ _).Num (loG _ _).bT=_;rw[eu];rfl
       have bh:(xB (qx s l (fA t)) (s.aj.get i).Z).2=red (iL v (s.aj.get i).Z) v.den:=by
        unfold xB;rw[hf,dS];show red (hiG _ _).Num (hiG _ _).bT=_;rw[ev];rfl
       obtain⟨x1,_,x3,x4⟩:=zCf G (mi G ca) ca.2 ho;obtain⟨_,y2,_,_⟩:=zCf G (mi G cb) cb.2 ho;have da:0<ta.den:=by have:=(mi G ca).2.2;omega
       have db:0<tb.den:=by have:=(mi G cb).2.2;omega
       have l1:IA (xB (qx s l (fA t)) (s.aj.get i).Z).1 a:=by
        rw[ea];exact oN x3 (b:=Oc (s.aj.get i).Z ta) da (jf da) x1 (zX da).2
       have l2:IA a (xB (qx s l (fA t)) (s.aj.get i).Z).1:=by rw[bl];exact ma u cu
       have l3:IA b (xB (qx s l (fA t)) (s.aj.get i).Z).2:=by
        rw[eb];exact oN (jf db) (b:=Oc (s.aj.get i).Z tb) db x4 (zX db).1 y2
       have l4:IA (xB (qx s l (fA t)) (s.aj.get i).Z).2 b:=by rw[bh];exact mb v cv
       have fl:a.Num/a.bT=(xB (qx s l (fA t)) (s.aj.get i).Z).1.Num/(xB (qx s l (fA t)) (s.aj.get i).Z).1.bT:=jqi (XW pa.2.1 x3 l2) (XW x3 pa.2.1 l1);have ce : -(-b.Num/b.bT) = -(-(xB (qx s l (fA t)) (s.aj.get i).Z).2.Num/(xB (qx s l (fA t)) (s.aj.get i).Z).2.bT):=jqi (zmg pb.2.1 x4 l3) (zmg x4 pb.2.1 l4);have lh:a.Num/a.bT<=-(-b.Num/b.bT):=by
        refine qjK (XW pa.2.1 (b:=red (iL tb (s.aj.get i).Z) tb.den) (jf db) (ma tb cb)) ?_;rw[<- eb];exact zDF pb.2.1
       have nb:aO (0-b.Num) = -b.Num:=by have:=pb.1;rw[bf omY omY];omega
       have qb:=zcZ (a:=-b.Num) (b:=b.bT) (by have:=pb.1;omega) pb.2.1;have wb:aO (0 - -b.Num/b.bT) = -(-b.Num/b.bT):=by rw[bf omY omY];omega
       have fka:FlK a:=⟨by have:=pa.1;omega,pa.2.1,by have:=pa.2.2;omega⟩;have fkb:FlK ⟨-b.Num,b.bT⟩:=⟨by have:=pb.1;show _<=-b.Num/\-b.Num<=_;omega,pb.2.1,by have:=pb.2.2;show b.bT<=_;omega⟩;have zWf:=zpb ⟨-b.Num,b.bT⟩ fkb;have zWf:E.YW ⟨-b.Num,b.bT⟩=.ok (-b.Num/b.bT):=zWf;rw[bG omY,e1,bn];show(E.YW a).T (λr4=>(E.YW ⟨aO (0-b.Num),b.bT⟩).T _)=_;rw[zpb a fka,bn,nb,zWf,bn];unfold atB atB.opn';rw[ho,<- fl,<- ce,h86,bn,wb,h86,bn,bG omY];generalize a.Num/a.bT=lo at lh ⊢;generalize -(-b.Num/b.bT)=hi at lh ⊢;obtain⟨q,hq⟩:=h77 (s.aj.get i) ⟨lo,hi⟩ Ob (he.sh.2 i omY)
       show cond (!inB lo (-1000000) 1000000) _ (cond (!inB hi (-1000000) 1000000) _ ((E.c77 (s.aj.get i, ⟨lo, hi⟩)).T fun r8 => cond r8.1 (aV (room (w.len + 1) 8) (sS E n s l t (qx s l (fA t)) ((i + 1 : Nat) : Int) (oO w (i : Int)) k)) (sS E n s l t (qx s l (fA t)) ((i + 1 : Nat) : Int) w k))) =
        cond (cond (decide (lo < -1000000)) false (cond (decide (hi>1000000)) false (Y7 ⟨lo,hi⟩&&EY (s.aj.get i) ⟨lo,hi⟩))) (sS E n s l t (qx s l (fA t)) ((i+1:Nat):Int) (oO w (i:Int)) k) (sS E n s l t (qx s l (fA t)) ((i+1:Nat):Int) w k)
       rw[hq,bn,jQ omY omY];by_cases c1:lo < -1000000
       ·have : inB lo (-1000000) 1000000 = false := by unfold inB; exact eU omY
        rw[this,dZ c1];rfl
       ·rw [eU c1, dS];by_cases c2:hi > 1000000
        ·have a1 : inB hi (-1000000) 1000000 = false := by unfold inB; exact eU omY
         rw[a1,dZ c2];cases inB lo (-1000000) 1000000<;>rfl
        ·have a1 : inB lo (-1000000) 1000000 = true := by unfold inB; exact dZ omY
         have a2:inB hi (-1000000) 1000000=true:=by unfold inB;exact dZ omY
         have sp:Y7 ⟨lo,hi⟩=true:=by unfold Y7;exact dZ (by show -1000000<=lo/\lo<=hi/\hi<=1000000;omega)
         rw[a1,a2,eU c2,sp,zM1 Ob sp];rfl
   rw[dq7];cases hm:UO s l t.View (fA t) i with
   | true =>
    rw[hm]at st;obtain⟨w',a,b⟩:=ih (i+1) n (oO w (i:Int)) omY omY (by show w.len+1<=i+1;omega);refine⟨w',λA k=>(st A k).trans (a A k),?_⟩;rw[b,O9,eX rfl,oU];simp
   | false =>
    rw[hm]at st;obtain⟨w',a,b⟩:=ih (i+1) n w omY omY omY;exact⟨w',λA k=>(st A k).trans (a A k),by rw[b,fB (by simp)]⟩
 obtain⟨w',h,e⟩:=key s.aj.len 0 E.N ⟨0,λ_=>0⟩ omY (by have:=N;omega) (kC _);refine⟨w',ae.ext λk=>?_,e⟩;rw[e91,h65 s l t he.toEvt omY (Fa he.vw ha.tv rfl hv ha.ne),bn,IY rfl];exact h _ k
abbrev zHx(C:au×bJ×Sl bF×af->ae Bool):Prop:=∀s r l t,qH s l t->C (s,r,l,t)=.ok (qG s l t.View r (fA t))
theorem z0M{E:zpV}(zaD:zrW E.c196)(h91:zWe E.c91):zHx (zpW E):=λs r l t ha=>ae.ext λk=>by
 obtain⟨j,hv⟩:=ha.vl;obtain⟨w,hw,e⟩:=h91 s l t ha;rw[e154,zaD s l _ t _ j ha.ev ha.tv rfl hv ha.ne,bn,ha.ag,ed,hw,bn,bn];unfold qG;rw[<- e,iQ,kz];cases decide ((t.Hits.len:Int)>=r.uS)<;>rfl
structure zNS (s : au) (r : bJ) (l : Sl bF) (x : Int) (w : Sl af) : Prop where
  le:w.len<=2001
  tv:∀t∈ls w,Ol x t/\qH s l t
  ch:(ls w).map fA=(kF s l x).filter (qG s l x r)
abbrev zOI(C:au×bJ×Sl bF×Int->ae (Sl af×Bool)):Prop:=∀s r l x,Ev s l x->∃w:Sl af,C (s,r,l,x)=.ok (w,xC s l x)/\(xC s l x=true->zNS s r l x w)
theorem z7T{E:E94}(N:Big E.N)(zxX:zzz E.zsp)(zxY:zHx E.c154):zOI (F94 E):=λs r l x he=>by
 obtain⟨v,h1,h2,h3,h4⟩:=zxX s l x he;have ha:∀i,i<v.len->qH s l (v.get i):=λi hi=>XV he (h3 i hi) (by rw[<- h2];exact JB (zr0 hi));cases hb:xC s l x with
 | false=>exact⟨⟨0,λ_=>default⟩,ae.ext λk=>by rw[e94,h1,bn];show cond (!xC s l x) _ _=_;rw[hb];rfl,λh=>by cases h⟩
 | true =>
  have key:∀(m i n:Nat)(w:Sl af),i+m=v.len->m<n->w.len<=i->(∀t∈ls w,Ol x t/\qH s l t)->∃w':Sl af,(∀(A:Type)(k:Sl af×Bool->Option A),Ik E n s r l v (i:Int) w k=k (w',true))/\w'.len<=v.len/\(∀t∈ls w',Ol x t/\qH s l t)/\(ls w').map fA=(ls w).map fA++((List.range' i m).map λj=>fA (v.get j)).filter (qG s l x r):=by
   intro m
   induction m with
   | zero =>
    intro i n w hi hn hw hq;obtain⟨n,rfl⟩:∃n',n=n'+1:=⟨n-1,omY⟩;exact⟨w,λA k=>by rw[zur,eU omY];rfl,omY,hq,by simp⟩
   | succ m ih =>
    intro i n w hi hn hw hq;obtain⟨n,rfl⟩:∃n',n=n'+1:=⟨n-1,omY⟩;have tv:=h3 i omY;have st:∀(A:Type)(k:Sl af×Bool->Option A),Ik E (n+1) s r l v (i:Int) w k=cond (qG s l x r (fA (v.get i))) (Ik E n s r l v ((i+1:Nat):Int) (oO w (v.get i)) k) (Ik E n s r l v ((i+1:Nat):Int) w k):=λA k=>by
     rw[zur,dZ omY,ed,bG omY,gU,zxY s r l _ (ha i omY),bn,bP omY,bG omY,jQ omY omY,tv.1];rfl
    rw[YA,oU,dq7];cases hf:qG s l x r (fA (v.get i))with
    | true =>
     rw[hf]at st;obtain⟨w',a,c,d,e⟩:=ih (i+1) n (oO w (v.get i)) omY omY (by show w.len+1<=i+1;omega) (zzU hq ⟨tv,ha i omY⟩);refine⟨w',λA k=>(st A k).trans (a A k),c,d,?_⟩;rw[e,O9,QQ,eX rfl];simp
    | false =>
     rw[hf]at st;obtain⟨w',a,c,d,e⟩:=ih (i+1) n w omY omY omY hq;exact⟨w',λA k=>(st A k).trans (a A k),c,d,by rw[e,fB (by simp)]⟩
  obtain⟨w',a,c,d,e⟩:=key v.len 0 E.N ⟨0,UE⟩ omY (by have:=N;omega) (kC _) (λt h=>by cases h);have few:=dqS hb;refine⟨w',ae.ext λk=>?_,λ_=>⟨omY,d,?_⟩⟩
  ·rw [e94,h1,bn];show cond (!xC s l x) _ _=_;rw[hb];exact a _ k
  ·rw[e,<- zcY few,<- h2,<- dqQ];rfl
abbrev zHy(C:af×af->ae Bool):Prop:=∀a b,One a->One b->∃r,C (a,b)=.ok r/\(r=true↔OI a b)
theorem z0N{E:zpI}(h38:zc0 E.c38):zHy (zpJ E):=λa b ha hb=>by
 have a1:=ha.le;have a2:=ha.sd;have b1:=hb.le;have b2:=hb.sd;refine⟨_,ae.ext λk=>by rw[zS5,h38 _ _ omY omY,bn,h38 _ _ omY omY,bn,kc k,kc k,bn],?_⟩;unfold OI;by_cases v:a.View=b.View
 ·rw [show (a.View != b.View) = false by simpa using v, dS];by_cases h:cmpL (pI a.Hits) (pI b.Hits)=0
  ·rw [h, show ((0 : Int) != 0) = false from rfl, dS, pJ];have e:=BM.1 h;constructor
   ·intro q;exact .inr ⟨v,.inr ⟨e,q⟩⟩
   ·rintro (q | ⟨_, q | ⟨_, q⟩⟩)
    ·omega
    ·omega
    ·exact q
  ·rw [show (cmpL (pI a.Hits) (pI b.Hits) != 0) = true by simpa using h, ed, pJ];constructor
   ·intro q;exact .inr ⟨v,.inl q⟩
   ·rintro (q | ⟨_, q | ⟨q, _⟩⟩)
    ·omega
    ·exact q
    ·exact absurd (BM.2 q) h
 ·rw [show (a.View != b.View) = true by simpa using v, ed, pJ];constructor
  ·intro q;exact .inl q
  ·rintro (q | ⟨q, _⟩)
   ·exact q
   ·exact absurd q v
structure z0O (s : au) (r : bJ) (l : Sl bF) (x : Int) (v w : Sl af) : Prop where
  fit:zNS s r l x v
  le:w.len<=2001
  pm:(ls w).Perm ((ls v).filter λt=>!(ls v).any λx=>Jt x t)
  st:(ls w).Pairwise OI
abbrev zWg(C:au×bJ×Sl bF×Int->ae (Sl af×Bool)):Prop:=∀s r l x,Ev s l x->∃v w:Sl af,C (s,r,l,x)=.ok (w,xC s l x)/\w.len<=2001/\(xC s l x=true->z0O s r l x v w)
theorem z7U{E:E88}(N:Big E.N)(h94:zOI E.c94)(h53:Q53 E.c53)(zxS:zHy E.zsm):zWg (F88 E):=λs r l x he=>by
 have hN:=N;obtain⟨v,h1,h2⟩:=h94 s r l x he;cases hb:xC s l x with
 | false=>exact⟨v,_,ae.ext λk=>by rw[e88,h1,bn];show cond (!xC s l x) _ _=_;rw[hb];rfl,Cf _,λh=>by cases h⟩
 | true =>
  have F:=h2 hb;have vl:=F.le;have ha:∀i,i<v.len->qH s l (v.get i):=λi hi=>(F.tv _ (jA.2 ⟨i,hi,rfl⟩)).2;have hx:∀i,i<v.len->Ol x (v.get i):=λi hi=>(F.tv _ (jA.2 ⟨i,hi,rfl⟩)).1;have dif:∀i j,i<v.len->j<v.len->i≠j->fA (v.get i)≠fA (v.get j):=by
   have nd:((ls v).map fA).Nodup:=by rw[F.ch];exact(Ir (Jw s l x) _ _ _).filter _
   have P:=qdk.1 nd;have ge:∀i (hi:i<v.len),((ls v).map fA)[i]'(by rw[dqU,iQ];exact hi)=fA (v.get i):=λi hi=>by
    rw[List.getElem_map];have:=NU (w:=v) hi;rw[BR (by rw[iQ];exact hi)]at this;rw[YR this]
   intro i j hi hj O5;rcases qd4 i j with h|h
   ·have:=P i j (by rw [dqU,iQ];exact hi) (by rw [dqU,iQ];exact hj) h;rwa[ge i hi,ge j hj]at this
   ·have:=P j i (by rw [dqU,iQ];exact hj) (by rw [dqU,iQ];exact hi) omY;rw[ge i hi,ge j hj]at this;exact λe=>this e.symm
  let P:Nat->Bool:=λi=>(List.range' 0 v.len).all λq=>(i==q) || !yE (v.get q) (v.get i)
  have mo:∀n0 (i:Nat),i<v.len->∀(m j n1:Nat)(w:Sl af)(f:Bool),j+m=v.len->m<n1->∀(A:Type)(k:Sl af×Bool->Option A),ML E n0 n1 v (i:Int) f (j:Int) w k=cond (f&&(List.range' j m).all λq=>(i==q) || !yE (v.get q) (v.get i)) (IX E n0 E.N v w (i:Int) 0 k) (BV E n0 v ((i+1:Nat):Int) w k):=by
   intro n0 i hi m
   induction m with
   | zero =>
    intro j n1 w f hj hn A k;obtain⟨n1,rfl⟩:∃n',n1=n'+1:=⟨n1-1,omY⟩;rw[zjo,eU omY,dS,bP omY];cases f<;>rfl
   | succ m ih =>
    intro j n1 w f hj hn A k;obtain⟨n1,rfl⟩:∃n',n1=n'+1:=⟨n1-1,omY⟩;rw[zjo,dZ omY,ed,bP omY,YA,qdS];cases f with
    | false=>rw[dS,ih (j+1) n1 w false omY omY];rfl
    | true =>
     rw[ed];by_cases e:i=j
     ·rw[show((i:Int)==(j:Int))=true by rw[qdO];omega,ed,ih (j+1) n1 w true omY omY,show(i==j)=true by rw[qdO];exact e];rfl
     ·rw[show((i:Int)==(j:Int))=false by rw[qdz];omega,dS,bG omY,bG omY,gU,gU,h53 _ _ (ha j omY).inc (ha i hi).inc,bn,ih (j+1) n1 w _ omY omY,show(i==j)=false by rw[qdz];exact e,qjo,OY]
  have pos:∀n0 (i:Nat),i<v.len->∀(w:Sl af),(∀t∈ls w,One t)->∀(m j n1:Nat),j+m=w.len->w.len<=2001->m<n1->∃a,a<=w.len/\(∀q,j<=q->q<a->OI (w.get q) (v.get i))/\(a<w.len->¬OI (w.get a) (v.get i))/\∀(A:Type)(k:Sl af×Bool->Option A),IX E n0 n1 v w (i:Int) (j:Int) k=Qx E n0 v w (i:Int) (a:Int) k:=by
   intro n0 i hi w hw m
   induction m with
   | zero =>
    intro j n1 hj hl hn;obtain⟨n1,rfl⟩:∃n',n1=n'+1:=⟨n1-1,omY⟩;exact⟨j,omY,λq a b=>by omega,λa=>by omega,λA k=>by rw[zum,eU omY];rfl⟩
   | succ m ih =>
    intro j n1 hj hl hn;obtain⟨n1,rfl⟩:∃n',n1=n'+1:=⟨n1-1,omY⟩;obtain⟨b,eb,bi⟩:=zxS (w.get j) (v.get i) (hw _ (jA.2 ⟨j,omY,rfl⟩)) (ha i hi).one;have st:∀(A:Type)(k:Sl af×Bool->Option A),IX E n0 (n1+1) v w (i:Int) (j:Int) k=cond b (IX E n0 n1 v w (i:Int) ((j+1:Nat):Int) k) (Qx E n0 v w (i:Int) (j:Int) k):=λA k=>by
     rw[zum,dZ omY,ed,bG omY,bG omY,gU,gU,eb,bn,bP omY]
    cases b with
    | true =>
     obtain⟨a,a1,a2,a3,a4⟩:=ih (j+1) n1 omY hl omY;refine⟨a,a1,λq h1 h2=>?_,a3,λA k=>(st A k).trans (a4 A k)⟩;by_cases e:q=j
     ·rw[e];exact bi.1 rfl
     ·exact a2 q omY h2
    | false=>exact⟨j,omY,λq a b=>by omega,λ_ h=>(by cases bi.2 h),λA k=>st A k⟩
  have key:∀(m i n:Nat)(w:Sl af),i+m=v.len->m<n->w.len<=i->(ls w).Pairwise OI->(ls w).Perm (((List.range i).filter P).map v.get)->∃w':Sl af,(∀(A:Type)(k:Sl af×Bool->Option A),BV E n v (i:Int) w k=k (w',true))/\w'.len<=v.len/\(ls w').Pairwise OI/\(ls w').Perm (((List.range v.len).filter P).map v.get):=by
   intro m
   induction m with
   | zero =>
    intro i n w hi hn hw hs hp;obtain⟨n,rfl⟩:∃n',n=n'+1:=⟨n-1,omY⟩;rw[show i=v.len by omega]at hp;exact⟨w,λA k=>by rw[zul,eU omY];rfl,omY,hs,hp⟩
   | succ m ih =>
    intro i n w hi hn hw hs hp;obtain⟨n,rfl⟩:∃n',n=n'+1:=⟨n-1,omY⟩;have kN:i<v.len:=by omega
    have inw:∀t∈ls w,∃j,j<i/\t=v.get j:=λt ht=>by
     obtain⟨j,hj,e⟩:=xR.1 (hp.mem_iff.1 ht);exact⟨j,by have:=(UL.1 hj).1;simpa using this,e.symm⟩
    have one:∀t∈ls w,One t:=λt ht=>by
     obtain⟨j,hj,e⟩:=inw t ht;rw[e];exact(ha j omY).one
    have sp:List.range (i+1)=List.range i++[i]:=qjm;have st:∀(A:Type)(k:Sl af×Bool->Option A),BV E (n+1) v (i:Int) w k=cond (P i) (IX E n E.N v w (i:Int) 0 k) (BV E n v ((i+1:Nat):Int) w k):=λA k=>by
     rw[zul,dZ omY,ed];exact mo n i kN v.len 0 E.N w true omY omY A k
    cases hP:P i with
    | false =>
     rw[hP]at st;obtain⟨w',a,b,c,d⟩:=ih (i+1) n w omY omY omY hs (by rw[sp,qjB,dq7,fB (by rw[hP];simp)];simpa using hp);exact⟨w',λA k=>(st A k).trans (a A k),b,c,d⟩
    | true =>
     rw[hP]at st;obtain⟨a,a1,a2,a3,a4⟩:=pos n i kN w one w.len 0 E.N omY omY omY;let w1:Sl af:=⟨(((a:Int)-0).toNat+1)+((w.len:Int)-(a:Int)).toNat,jL (((a:Int)-0).toNat+1) (jL ((a:Int)-0).toNat (EM w.get 0) (λ_=>v.get (i:Int).toNat)) (EM w.get (a:Int).toNat)⟩;have i1:∀(A:Type)(k:Sl af×Bool->Option A),Qx E n v w (i:Int) (a:Int) k=BV E n v ((i+1:Nat):Int) w1 k:=λA k=>by
      rw[zGu,bG omY,jQ omY omY,bG omY,jQ omY omY,bG omY,jQ omY omY,bP omY]
     have i2:w1.len=w.len+1:=by show((((a:Int)-0).toNat+1)+((w.len:Int)-(a:Int)).toNat)=_;omega
     have i3:ls w1=(ls w).take a++v.get i::(ls w).drop a:=by
      have:=zHt w a a1 (v.get (i:Int).toNat);rw[show v.get (i:Int).toNat=v.get i by rw[gU]]at this;exact this
     have gw':∀q (hq:q<(ls w).length),(ls w)[q]=w.get q:=λq hq=>by
      have:=NU (w:=w) (i:=q) (by rw[iQ]at hq;exact hq);rw[BR hq]at this;exact YR this
     have tk:∀y∈(ls w).take a,OI y (v.get i):=λy hy=>by
      obtain⟨q,hq,e⟩:=qdA hy;rw[List.getElem_take,gw']at e;rw[qdH,iQ]at hq;rw[<- e];exact a2 q (Cf _) omY
     have dr:∀y∈(ls w).drop a,OI (v.get i) y:=λy hy=>by
      obtain⟨q,hq,e⟩:=qdA hy;rw[List.getElem_drop,gw']at e;rw[Y8,iQ]at hq;have first:OI (v.get i) (w.get a):=by
       have na:=a3 omY;obtain⟨j,hj,ej⟩:=inw (w.get a) (jA.2 ⟨a,omY,rfl⟩);have nd:¬((v.get i).View=(w.get a).View/\pI (v.get i).Hits=pI (w.get a).Hits/\pI (v.get i).bz=pI (w.get a).bz):=λh=>by
        rw[ej]at h;exact dif i j kN omY omY (zrU h.2.1 h.2.2 (hx i kN).2 (hx j omY).2)
       exact(zgA nd).resolve_right na
      rw[<- e];by_cases e0:q=0
      ·subst e0;exact first
      ·have:=qdk.1 hs a (a+q) (by rw [iQ];omega) (by rw [iQ];omega) omY;rw[gw',gw']at this;exact zeX first this
     have s1:(ls w1).Pairwise OI:=by
      rw[i3,qdx,qdy];have qJ:=hs;rw[<- qjI a (ls w),qdx]at qJ;refine⟨qJ.1,⟨dr,qJ.2.1⟩,λy hy z hz=>?_⟩;rcases kR.1 hz with e|h
      ·rw[e];exact tk y hy
      ·exact qJ.2.2 y hy z h
     have p1:(ls w1).Perm (((List.range (i+1)).filter P).map v.get):=by
      rw[i3,sp,qjB,dq7,eX hP,QQ];refine List.perm_middle.trans ?_;rw[qjI];exact(List.Perm.cons _ hp).trans (List.perm_append_comm (l₁:=[v.get i]))
     obtain⟨w',b1,b2,b3,b4⟩:=ih (i+1) n w1 omY omY omY s1 p1;exact⟨w',λA k=>(st A k).trans ((a4 A k).trans ((i1 A k).trans (b1 A k))),b2,b3,b4⟩
  obtain⟨w',a,b,c,d⟩:=key v.len 0 E.N ⟨0,UE⟩ omY omY (kC _) List.Pairwise.nil (List.Perm.refl _);refine⟨v,w',ae.ext λk=>?_,omY,λ_=>⟨F,omY,?_,c⟩⟩
  ·rw [e88,h1,bn];show cond (!xC s l x) _ _=_;rw[hb];exact a _ k
  ·refine d.trans (qjD ?_);unfold ls;rw[List.filter_map];congr 1;refine qja λ i hi=>?_;have hi:i < v.len:=by simpa using hi
   show P i = !((List.range v.len).map v.get).any λx=>Jt x (v.get i);rw[Ut,Aa,NR,qdK];constructor
   ·intro h y hy hg;obtain⟨q,hq,rfl⟩:=xR.1 hy;have hq:q < v.len:=by simpa using hq
    have:=h q (by simp;omega);unfold Jt at hg;rw[gG,pJ]at hg;rw[Zb,qdO,hg.2]at this;rcases this with e|e
    ·rw[e]at hg;omega
    ·cases e
   ·intro h q hq;have hq:q < v.len:=by simp at hq;omega
    rw[Zb,qdO];by_cases e:i=q
    ·exact .inl e
    ·refine .inr ?_;rw[NR];cases hc:yE (v.get q) (v.get i)with
     | false=>rfl
     | true =>
      have hc':=zaW.1 hc;obtain⟨jq,vq⟩:=(ha q hq).vl;obtain⟨ji,vi⟩:=(ha i hi).vl;obtain⟨le,eq⟩:=zr8 (vi.pw.imp λh=>h.1) (vq.pw.imp λh=>h.1) hc'.1;rw[kz,kz]at le eq;have ng:=h (v.get q) (qdJ (JC.2 hq));have lt:(v.get q).Hits.len>(v.get i).Hits.len:=by
       rcases qd4 (v.get i).Hits.len (v.get q).Hits.len with h|h
       ·exact h
       ·exact absurd (eq omY) (dif i q hi hq e)
      exact absurd (show Jt (v.get q) (v.get i)=true by unfold Jt;rw[hc,dZ omY];rfl) ng
abbrev zOJ(C:au×bJ×Sl bF->ae (Sl af×Bool)):Prop:=∀s r l,Ev s l 1->Ev s l 2->∃w:Sl af,C (s,r,l)=.ok (w,xC s l 1&&xC s l 2)/\((xC s l 1&&xC s l 2)=true->∃f:found,NW s r l f/\f.aW=w)
theorem z7V{E:E28}(h88:zWg E.v88):zOJ (F28 E):=λs r l h1 h2=>by
 obtain⟨x,a,a1,a2,a3⟩:=h88 s r l 1 h1;obtain⟨y,b,b1,b2,b3⟩:=h88 s r l 2 h2;refine⟨⟨a.len+b.len,jL a.len a.get b.get⟩,ae.ext λk=>?_,λh=>?_⟩
 ·rw [e28,a1,bn,b1,bn,jQ (show a.len+b.len≤1000000 by omega) omY];show cond (xC s l 1) _ _=_;cases xC s l 1<;>rfl
 rw[gG]at h;have K1:=a3 h.1;have K2:=b3 h.2;have v1:∀t∈ls x,t.View=1:=λt ht=>(K1.fit.tv t ht).1.1;have v2:∀t∈ls y,t.View=2:=λt ht=>(K2.fit.tv t ht).1.1;have w1:∀t∈ls a,t.View=1:=λt ht=>v1 t (UL.1 (K1.pm.mem_iff.1 ht)).1;have w2:∀t∈ls b,t.View=2:=λt ht=>v2 t (UL.1 (K2.pm.mem_iff.1 ht)).1;have nv:∀p q:af,p.View≠q.View->Jt p q=false:=λp q hpq=>by
  unfold Jt yE;rw[show(q.View==p.View)=false by rw[qdz];exact λe=>hpq e.symm,qds,qds]
 refine⟨⟨iY s r l,⟨x.len+y.len,jL x.len x.get y.get⟩,⟨a.len+b.len,jL a.len a.get b.get⟩⟩,⟨rfl,⟨ls x,ls y,XR x y,λt ht=>(K1.fit.tv t ht).1,λt ht=>(K2.fit.tv t ht).1,K1.fit.ch,K2.fit.ch⟩,?_,?_⟩,rfl⟩
 ·show (ls (⟨a.len + b.len, jL a.len a.get b.get⟩ : Sl af)).Perm ((ls (⟨x.len + y.len, jL x.len x.get y.get⟩ : Sl af)).filter fun t => !(ls (⟨x.len + y.len, jL x.len x.get y.get⟩ : Sl af)).any fun x => Jt x t);rw[XR,XR,qjB];refine List.Perm.append (K1.pm.trans (qjD ?_)) (K2.pm.trans (qjD ?_))
  ·refine qja fun t ht => ?_;rw[List.any_append];have:(ls y).any (λx=>Jt x t)=false:=by
    rw[qdK];intro q hq;rw[nv q t (by rw[v2 q hq,v1 t ht];omega)];simp
   rw[this,Bool.or_false]
  ·refine qja fun t ht => ?_;rw[List.any_append];have:(ls x).any (λx=>Jt x t)=false:=by
    rw[qdK];intro q hq;rw[nv q t (by rw[v1 q hq,v2 t ht];omega)];simp
   rw[this,qjo]
 ·show(ls (⟨a.len+b.len,jL a.len a.get b.get⟩:Sl af)).Pairwise OI;rw[XR,qdx];refine⟨K1.st,K2.st,λp hp q hq=>.inl ?_⟩;rw[w1 p hp,w2 q hq];omega
theorem Chosen.l24{s:au}{l:Sl bF}{t:af}(h:Chosen s l t):t.Hits.len<=24/\0<t.Hits.len/\InH l t.Hits:=by
 obtain⟨j,hv⟩:=h.vl;have:=hv.le;have:=h.ev.l24;have:=qdR.2 h.ne;rw[kz]at this;refine⟨by rw[<- kz];omega,this,λi hi=>?_⟩;have:=(hv.mem (t.Hits.get i,t.bz.get i) (lJ.2 ⟨i,hi,rfl,rfl⟩)).1;constructor<;>omega
theorem z16{C:au×bJ×Sl bF×Sl Bool->ae (Int ⊕ (Pt found×Int))}(h:zMX C):Q72 C:=λs r l w hs hl h0 n1 n2 hw hb=>by
 have e:YV s r l ((ls w).all id)=0:=by
  have a:(ls w).all id=true:=Aa.2 λb hm=>hb b hm;unfold YV;rw[a,h0,QP,QP,dZ n1,dZ n2];rfl
 rcases h s r l w hs hl hw with⟨a,_⟩|⟨_,f⟩
 ·exact absurd e a
 ·exact f
theorem z1a(i:Nat)(g:Nat->Tally)(x:Int)(j:Nat):stG i 1 g [.int .i64 x] j=if j=i then⟨(g i).zgk,x⟩else g j:=by
 refine UR ?_;unfold yu;cases hb:Nat.beq j i with
 | true=>rw[eX (kL hb),kL hb];rfl
 | false=>rw[fB (qde hb)]
theorem z1b(i:Nat)(g:Nat->Tally)(x:Int)(j:Nat):stG i 0 g [.int .i64 x] j=if j=i then⟨x,(g i).sO⟩else g j:=by
 refine UR ?_;unfold yu;cases hb:Nat.beq j i with
 | true=>rw[eX (kL hb),kL hb];rfl
 | false=>rw[fB (qde hb)]
def Pj(s:au)(l:Sl bF)(k:Int×jv):aP×aP×Int:=cond ((Ad (qx s l k.2) false).2 != 0) (⟨0,0⟩,⟨0,0⟩,(Ad (qx s l k.2) false).2) ((slV (qx s l k.2)).1,(slV (qx s l k.2)).2,0)
def Oj(s:au)(l:Sl bF)(b:Bin)(k:Int×jv):Bool:=cond (b.View != k.1) false (cond ((Pj s l k).2.2 != 0) true (leB (Pj s l k).1 b.High && !leB (Pj s l k).2.1 b.Low))
def N9(s:au)(l:Sl bF)(b:Bin)(k:Int×jv):Bool:=cond (b.View != k.1) false (cond ((Pj s l k).2.2 != 0) false (leB (Pj s l k).1 b.High && !leB (Pj s l k).2.1 b.Low&&(!leB (Pj s l k).1 b.Low&&leB (Pj s l k).2.1 b.High)))
def zmj(s:au)(l:Sl bF)(b:Bin)(L:List (Int×jv)):Tally:=⟨(L.countP (N9 s l b):Int),(L.countP (Oj s l b):Int)⟩
abbrev Q42(C:au×bJ×Sl bF×Sl Bin->ae (Sl Tally×Int)):Prop:=∀s r l (bs:Sl Bin),sN s->l.len<=24->lV s r l=0->(kF s l 1).length<=2000->(kF s l 2).length<=2000->bs.len<=100->(∀i,i<bs.len->zlO (bs.get i)=true)->∃f:found,NW s r l f/\∃w:Sl Tally,C (s,r,l,bs)=.ok (w,0)/\w.len=bs.len/\∀i,i<bs.len->w.get i=zmj s l (bs.get i) ((ls f.aW).map fZ)
theorem s42{E:E42}(N:Big E.N)(h96:QVw E.c96)(zLh:zLi E.zOe)(zDl:Q56 E.zDN)(h72:Q72 E.c72)(NT:zjk E.c105)(h58:Q58 E.c58):Q42 (F42 E):=λs r l bs hs hl h0 n1 n2 hb zWS=>by
  have hN:=N;obtain⟨he,_,h24⟩:=E8 hs h0;obtain⟨f,c1,hf⟩:=h72 s r l ⟨1,λ_=>true⟩ hs omY h0 n1 n2 (by show 1<=10;omega) (λb hb=>by
    obtain⟨i,_,rfl⟩:=jA.1 hb;rfl)
  have fl:=hf.len n1 n2;have ok1:∀(n i:Nat),i+n=bs.len->∀m,n<m->∀(A:Type)(k:Sl Tally×Int->Option A),zlr E m s r l bs true (i:Int) k=zlr E 1 s r l bs true (bs.len:Int) k:=by
    intro n
    induction n with
    | zero =>
      intro i hi m hm A k;obtain⟨m,rfl⟩:∃m',m=m'+1:=⟨m-1,omY⟩;rw[show i=bs.len by omega,zDk,zDk (n0:=0),eU omY];rfl
    | succ n ih =>
      intro i hi m hm A k;obtain⟨m,rfl⟩:∃m',m=m'+1:=⟨m-1,omY⟩;have h:=zWS i omY;unfold zlO at h;simp only[gG]at h;rw[zDk,dZ omY,ed,bG omY,gU,h96,bn,zLh,bn,zLh,bn,zDl,bn,h.1,h.2.1,h.2.2.1,h.2.2.2,bP omY];exact ih (i+1) omY m omY A k
  -- one track
  have one:∀(n:Nat)(q:Nat),q<f.v.aW.len->∀(L:List (Int×jv))(hL:L.length<=4000)(m i n1:Nat)(w:Sl Tally),i+m=bs.len->m<n1->w.len=bs.len->(∀j,j<bs.len->w.get j=zmj s l (bs.get j) (if j<i then L++[fZ (f.v.aW.get q)]else L)) ->
      ∃w':Sl Tally,(∀(A:Type)(k:Sl Tally×Int->Option A),OJ E n n1 bs f (Pj s l (fZ (f.v.aW.get q))).2.2 f.v.aW (f.v.aW.len:Int) (q:Int) (i:Int) w (f.v.aW.get q) (Pj s l (fZ (f.v.aW.get q))).1 (Pj s l (fZ (f.v.aW.get q))).2.1 k=zJ2 E n bs f f.v.aW (f.v.aW.len:Int) ((q+1:Nat):Int) w' k)/\w'.len=bs.len/\∀j,j<bs.len->w'.get j=zmj s l (bs.get j) (L++[fZ (f.v.aW.get q)]):=by
    intro n q hq L hL m
    induction m with
    | zero =>
      intro i n1 w hi hn hw hg;obtain⟨n1,rfl⟩:∃n',n1=n'+1:=⟨n1-1,omY⟩;exact⟨w,λA k=>by rw[z09,eU omY,dS,bP omY],hw,λj hj=>by rw[hg j hj,eX omY]⟩
    | succ m ih =>
      intro i n1 w hi hn hw hg;obtain⟨n1,rfl⟩:∃n',n1=n'+1:=⟨n1-1,omY⟩;have gi:=hg i omY;rw[fB omY]at gi;have cs:(L.countP (N9 s l (bs.get i)):Nat)<=4000:=EW qdL hL;have cp:(L.countP (Oj s l (bs.get i)):Nat)<=4000:=EW qdL hL
      -- zDQ stands in the row of the bin afterwards
      have st:∃w1:Sl Tally,(∀(A:Type)(k:Sl Tally×Int->Option A),OJ E n (n1+1) bs f (Pj s l (fZ (f.v.aW.get q))).2.2 f.v.aW (f.v.aW.len:Int) (q:Int) (i:Int) w (f.v.aW.get q) (Pj s l (fZ (f.v.aW.get q))).1 (Pj s l (fZ (f.v.aW.get q))).2.1 k=OJ E n n1 bs f (Pj s l (fZ (f.v.aW.get q))).2.2 f.v.aW (f.v.aW.len:Int) (q:Int) ((i+1:Nat):Int) w1 (f.v.aW.get q) (Pj s l (fZ (f.v.aW.get q))).1 (Pj s l (fZ (f.v.aW.get q))).2.1 k)/\w1.len=bs.len/\(∀j,j≠i->w1.get j=w.get j)/\w1.get i=zmj s l (bs.get i) (L++[fZ (f.v.aW.get q)]):=by
        have tk:zmj s l (bs.get i) (L++[fZ (f.v.aW.get q)])=⟨(L.countP (N9 s l (bs.get i)):Int)+cond (N9 s l (bs.get i) (fZ (f.v.aW.get q))) 1 0,(L.countP (Oj s l (bs.get i)):Int)+cond (Oj s l (bs.get i) (fZ (f.v.aW.get q))) 1 0⟩:=by
          unfold zmj;rw[qjk,qjk,jqk,jqk];cases N9 s l (bs.get i) (fZ (f.v.aW.get q))<;>cases Oj s l (bs.get i) (fZ (f.v.aW.get q))<;>simp
        rw[tk];have w0:w.get i=⟨(L.countP (N9 s l (bs.get i)):Int),(L.countP (Oj s l (bs.get i)):Int)⟩:=gi;have none:Oj s l (bs.get i) (fZ (f.v.aW.get q))=false->N9 s l (bs.get i) (fZ (f.v.aW.get q))=false->w.get i=⟨(L.countP (N9 s l (bs.get i)):Int)+cond (N9 s l (bs.get i) (fZ (f.v.aW.get q))) 1 0,(L.countP (Oj s l (bs.get i)):Int)+cond (Oj s l (bs.get i) (fZ (f.v.aW.get q))) 1 0⟩:=λh1 h2=>by rw[h1,h2,w0];simp
        let w1:Sl Tally:=⟨w.len,stG i 1 w.get [.int .i64 (aO ((w.get i).sO+1))]⟩;have w1i:w1.get i=⟨(L.countP (N9 s l (bs.get i)):Int),(L.countP (Oj s l (bs.get i)):Int)+1⟩:=by
          show stG i 1 w.get [.int .i64 (aO ((w.get i).sO+1))] i=_;rw[z1a,eX rfl,w0];show(⟨_,aO ((L.countP (Oj s l (bs.get i)):Int)+1)⟩:Tally)=_;rw[bf omY omY]
        have w1j:∀j,j≠i->w1.get j=w.get j:=λj hj=>by
          show stG i 1 w.get [.int .i64 (aO ((w.get i).sO+1))] j=_;rw[z1a,fB hj]
        let w2:Sl Tally:=⟨w.len,stG i 0 w1.get [.int .i64 (aO ((w1.get i).zgk+1))]⟩;have w2i:w2.get i=⟨(L.countP (N9 s l (bs.get i)):Int)+1,(L.countP (Oj s l (bs.get i)):Int)+1⟩:=by
          show stG i 0 w1.get [.int .i64 (aO ((w1.get i).zgk+1))] i=_;rw[z1b,eX rfl,w1i];show(⟨aO ((L.countP (N9 s l (bs.get i)):Int)+1),_⟩:Tally)=_;rw[bf omY omY]
        have w2j:∀j,j≠i->w2.get j=w.get j:=λj hj=>by
          show stG i 0 w1.get [.int .i64 (aO ((w1.get i).zgk+1))] j=_;rw[z1b,fB hj,w1j j hj]
        have c1:0<=(i:Int)/\(i:Int)<(w.len:Int):=by omega
        have c2:(i:Int).toNat<w.len:=by omega
        have hd:∀(A:Type)(k:Sl Tally×Int→Option A),OJ E n (n1+1) bs f (Pj s l (fZ (f.v.aW.get q))).2.2 f.v.aW (f.v.aW.len:Int) (q:Int) (i:Int) w (f.v.aW.get q) (Pj s l (fZ (f.v.aW.get q))).1 (Pj s l (fZ (f.v.aW.get q))).2.1 k =
            cond ((bs.get i).View != (f.v.aW.get q).View) (OJ E n n1 bs f (Pj s l (fZ (f.v.aW.get q))).2.2 f.v.aW (f.v.aW.len:Int) (q:Int) ((i+1:Nat):Int) w (f.v.aW.get q) (Pj s l (fZ (f.v.aW.get q))).1 (Pj s l (fZ (f.v.aW.get q))).2.1 k)
            (cond ((Pj s l (fZ (f.v.aW.get q))).2.2 != 0) (OJ E n n1 bs f (Pj s l (fZ (f.v.aW.get q))).2.2 f.v.aW (f.v.aW.len:Int) (q:Int) ((i+1:Nat):Int) w1 (f.v.aW.get q) (Pj s l (fZ (f.v.aW.get q))).1 (Pj s l (fZ (f.v.aW.get q))).2.1 k)
            (cond (leB (Pj s l (fZ (f.v.aW.get q))).1 (bs.get i).High) (cond (!leB (Pj s l (fZ (f.v.aW.get q))).2.1 (bs.get i).Low) (cond (!leB (Pj s l (fZ (f.v.aW.get q))).1 (bs.get i).Low) (cond (leB (Pj s l (fZ (f.v.aW.get q))).2.1 (bs.get i).High)
              (OJ E n n1 bs f (Pj s l (fZ (f.v.aW.get q))).2.2 f.v.aW (f.v.aW.len:Int) (q:Int) ((i+1:Nat):Int) w2 (f.v.aW.get q) (Pj s l (fZ (f.v.aW.get q))).1 (Pj s l (fZ (f.v.aW.get q))).2.1 k)
              (OJ E n n1 bs f (Pj s l (fZ (f.v.aW.get q))).2.2 f.v.aW (f.v.aW.len:Int) (q:Int) ((i+1:Nat):Int) w1 (f.v.aW.get q) (Pj s l (fZ (f.v.aW.get q))).1 (Pj s l (fZ (f.v.aW.get q))).2.1 k))
              (OJ E n n1 bs f (Pj s l (fZ (f.v.aW.get q))).2.2 f.v.aW (f.v.aW.len:Int) (q:Int) ((i+1:Nat):Int) w1 (f.v.aW.get q) (Pj s l (fZ (f.v.aW.get q))).1 (Pj s l (fZ (f.v.aW.get q))).2.1 k))
              (OJ E n n1 bs f (Pj s l (fZ (f.v.aW.get q))).2.2 f.v.aW (f.v.aW.len:Int) (q:Int) ((i+1:Nat):Int) w (f.v.aW.get q) (Pj s l (fZ (f.v.aW.get q))).1 (Pj s l (fZ (f.v.aW.get q))).2.1 k))
              (OJ E n n1 bs f (Pj s l (fZ (f.v.aW.get q))).2.2 f.v.aW (f.v.aW.len:Int) (q:Int) ((i+1:Nat):Int) w (f.v.aW.get q) (Pj s l (fZ (f.v.aW.get q))).1 (Pj s l (fZ (f.v.aW.get q))).2.1 k))):=λA k=>by
          rw[z09,dZ omY,ed,bG omY,gU,zDl,bn,zDl,bn,zDl,bn,zDl,bn,bP omY];have c3:i<w.len:=by omega
          simp only[bG c1,bG c3];rfl
        generalize hX:OJ E n n1 bs f (Pj s l (fZ (f.v.aW.get q))).2.2 f.v.aW (f.v.aW.len:Int) (q:Int) ((i+1:Nat):Int)=X at hd ⊢;have vw:((bs.get i).View != (fZ (f.v.aW.get q)).1)=((bs.get i).View != (f.v.aW.get q).View):=rfl;by_cases d1:((bs.get i).View != (f.v.aW.get q).View)=true
        · exact⟨w,λA k=>by rw[hd,d1];rfl,hw,λj _=>rfl,none (by unfold Oj;rw[d1];rfl) (by unfold N9;rw[d1];rfl)⟩
        have d1:((bs.get i).View != (f.v.aW.get q).View)=false:=by simpa using d1
        cases d2:(Pj s l (fZ (f.v.aW.get q))).2.2 != 0 with
        | true=>exact⟨w1,λA k=>by rw[hd,d1,d2];rfl,hw,w1j,by rw[w1i];unfold Oj N9;rw[d1,d2];simp⟩
        | false =>
          cases d3:leB (Pj s l (fZ (f.v.aW.get q))).1 (bs.get i).High with
          | false=>exact⟨w,λA k=>by rw[hd,d1,d2,d3];rfl,hw,λj _=>rfl,none (by unfold Oj;rw[d1,d2,d3];rfl) (by unfold N9;rw[d1,d2,d3];rfl)⟩
          | true =>
            cases d4:leB (Pj s l (fZ (f.v.aW.get q))).2.1 (bs.get i).Low with
            | true=>exact⟨w,λA k=>by rw[hd,d1,d2,d3,d4];rfl,hw,λj _=>rfl,none (by unfold Oj;rw[d1,d2,d3,d4];rfl) (by unfold N9;rw[d1,d2,d3,d4];rfl)⟩
            | false =>
              cases d5:leB (Pj s l (fZ (f.v.aW.get q))).1 (bs.get i).Low with
              | true=>exact⟨w1,λA k=>by rw[hd,d1,d2,d3,d4,d5];rfl,hw,w1j,by rw[w1i];unfold Oj N9;rw[d1,d2,d3,d4,d5];simp⟩
              | false =>
                cases d6:leB (Pj s l (fZ (f.v.aW.get q))).2.1 (bs.get i).High with
                | false=>exact⟨w1,λA k=>by rw[hd,d1,d2,d3,d4,d5,d6];rfl,hw,w1j,by rw[w1i];unfold Oj N9;rw[d1,d2,d3,d4,d5,d6];simp⟩
                | true=>exact⟨w2,λA k=>by rw[hd,d1,d2,d3,d4,d5,d6];rfl,hw,w2j,by rw[w2i];unfold Oj N9;rw[d1,d2,d3,d4,d5,d6];simp⟩
      obtain⟨w1,s1,s2,s3,s4⟩:=st;obtain⟨w',a1,a2,a3⟩:=ih (i+1) n1 w1 omY omY s2 (λj hj=>by
        by_cases e:j=i
        · subst e;rw[s4,eX omY]
        · rw [s3 j e, hg j hj];by_cases h:j < i
          · rw[eX h,eX omY]
          · rw[fB h,fB omY])
      exact⟨w',λA k=>by rw[s1];exact a1 A k,a2,a3⟩
  have ch:∀q,q<f.v.aW.len->Chosen s l (f.v.aW.get q):=λq hq=>hf.chosen he h24 (hf.sub (jA.2 ⟨q,hq,rfl⟩))
  have all:∀(m q n:Nat)(w:Sl Tally),q+m=f.v.aW.len->m<n->w.len=bs.len->(∀j,j<bs.len->w.get j=zmj s l (bs.get j) ((List.range q).map λi=>fZ (f.v.aW.get i))) ->
      ∃w':Sl Tally,(∀(A:Type)(k:Sl Tally×Int->Option A),zJ2 E n bs f f.v.aW (f.v.aW.len:Int) (q:Int) w k=k (w',0))/\w'.len=bs.len/\∀j,j<bs.len->w'.get j=zmj s l (bs.get j) ((List.range f.v.aW.len).map λi=>fZ (f.v.aW.get i)):=by
    intro m
    induction m with
    | zero =>
      intro q n w hq hn hw hg;obtain⟨n,rfl⟩:∃n',n=n'+1:=⟨n-1,omY⟩;exact⟨w,λA k=>by rw[z08,eU omY];rfl,hw,λj hj=>by rw[hg j hj,show q=f.v.aW.len by omega]⟩
    | succ m ih =>
      intro q n w hq hn hw hg;obtain⟨n,rfl⟩:∃n',n=n'+1:=⟨n-1,omY⟩;have hc:=ch q omY;obtain⟨j,hj⟩:=hc.vl;have G:=EX he h24 hj hc.ne;obtain⟨w1,o1,o2,o3⟩:=one n q omY ((List.range q).map λi=>fZ (f.v.aW.get i)) (by simp;omega) bs.len 0 E.N w omY omY hw (λj hj=>by rw[fB omY];exact hg j hj);have e0:(List.range q).map (λi=>fZ (f.v.aW.get i))++[fZ (f.v.aW.get q)]=(List.range (q+1)).map λi=>fZ (f.v.aW.get i):=by rw[qjm,QQ];rfl
      rw[e0]at o3;obtain⟨w',a1,a2,a3⟩:=ih (q+1) n w1 omY omY o2 o3;refine⟨w',λA k=>?_,a2,a3⟩;rw[z08,dZ omY,ed,bG omY,gU,hf.ev,NT s l r _ he (by have:=hc.one.le;omega) (Fa hc.ev.vw hc.tv rfl hj hc.ne),bn,IY rfl,h58 _ G,bn];have o1:=o1 A k;rw[a1]at o1;exact o1
  obtain⟨w,a1,a2,a3⟩:=all f.v.aW.len 0 E.N ⟨(bs.len:Int).toNat,λ_=>⟨0,0⟩⟩ omY omY (by show(bs.len:Int).toNat=_;omega) (λj hj=>rfl);refine⟨f.v,hf,w,ae.ext λk=>?_,a2,λi hi=>?_⟩
  · rw [e42,eU omY,dS,eU omY,dS,bn];rw[show(0:Int)=((0:Nat):Int)from rfl,ok1 bs.len 0 omY E.N omY,zDk,eU omY,dS,c1,bn];show aV (decide ((0:Int)<=(bs.len:Int)/\((bs.len:Int):Int)=(bs.len:Int)/\(bs.len:Int)<=1000000)) _=_;rw[bG omY];exact a1 _ k
  · rw [a3 i hi];unfold ls;rw[qdW];rfl
def SmF(f:aP):Prop:=(-2000000<=f.Num/\f.Num<=2000000)/\0<f.bT/\f.bT<=100000
theorem YF{a b:aP}(ha:SmF a)(hb:SmF b):leB a b=true↔yz a b:=by
 have m:∀{a b:aP},SmF a->SmF b->aO (a.Num*b.bT)=a.Num*b.bT:=fun {a b} h1 h2=>by
  have:=qy h1.1.1 h1.1.2 (yt h2.2.1) h2.2.2;exact bf omY omY
 unfold leB yz;rw[pJ,m ha hb,m hb ha]
theorem zf6{a b:aP}(ha:SmF a)(hb:SmF b):leB a b=false↔IA b a:=by
 rw[<- qjt,YF ha hb];unfold yz IA;omega
theorem zOa{f:aP}(h:frB f=true):SmF f:=by
 unfold frB inB at h;simp only[gG,pJ]at h;exact⟨omY,omY,omY⟩
theorem zNb{a b c:aP}(ha:0<a.bT)(hb:0<b.bT)(hc:0<c.bT)(h1:IA a b)(h2:yz b c):yz a c:=by
 by_cases h:yz a c
 ·exact h
 ·have h3:=oN hc ha hb (YN h) h1;unfold yz at h2;unfold IA at h3;omega
theorem zLj{a b:Int}(h1 : -2000000<=a/\a<=2000000)(h2:0<b/\b<=100000):SmF (red a b):=by
 have r1:=zU (num:=a) h2.1;have r2:=GG (num:=a) h2.1;have r3:=jf (num:=a) h2.1;exact⟨omY,r3,omY⟩
theorem zWT{g:Sl ay}(G:dw g)(h0:(Ad g false).2=0):SmF (slV g).1/\SmF (slV g).2/\IA (slV g).1 (slV g).2/\∀s,yw s->zx g s->IA (slV g).1 (red s.bI s.den)/\IA (red s.bI s.den) (slV g).2:=by
 have hg:=G.2;have hf:fQ g=false:=by
  unfold Ad at h0;rw[kU.2 G]at h0;cases hs:iG g with
  | false=>rw[hs]at h0;cases h0
  | true =>
   cases hf:fQ g with
   | false=>rfl
   | true=>rw[hs,hf]at h0;cases h0
 have hc:=(zr6 G h0).2 hf;have nf:¬XI g:=λh=>by rw[Om.2 h]at hf;cases hf
 have dn:∀s,wB g s->0<(zbf s).bT:=λs h=>by have:=(mi G h).2.2;show 0<s.den;omega
 obtain⟨⟨u,u1,u2⟩,u3⟩:=zkQ G zbf dn hc;obtain⟨⟨v,v1,v2⟩,v3⟩:=zkR G zbf dn hc;have U:=mi G u1;have V:=mi G v1;have pu:0<u.den:=by have:=U.2.2;omega
 have pv:0<v.den:=by have:=V.2.2;omega
 have e1:(slV g).1=red u.bI u.den:=by unfold slV;rw[u2];rfl
 have e2:(slV g).2=red v.bI v.den:=by unfold slV;rw[v2];rfl
 have r1:=zX (a:=u.bI) pu;have r2:=zX (a:=v.bI) pv;have p1:=jf (num:=u.bI) pu;have p2:=jf (num:=v.bI) pv;have inn:∀{c:straight},wB g c->∃x∈jB g,fC x=fC c:=fun {c} hc=>(TN hf).2.1 c hc.1 ((Es G (rE G hc.1)).2 hc.2);have eqs:∀{x y:straight},0<x.den->0<y.den->fC x=fC y->IA (zbf x) (zbf y):=fun {x y} px py h=>by
  have h:red x.bI x.den=red y.bI y.den:=jX Line.dM h;have a:=zX (a:=x.bI) px;have b:=zX (a:=y.bI) py;rw[h]at a;exact oN px (jf (num:=y.bI) py) py a.2 b.1
 have mid:∀s,yw s->zx g s->IA (red u.bI u.den) (red s.bI s.den)/\IA (red s.bI s.den) (red v.bI v.den):=λs S ha=>by
  have hd:0<s.den:=by have:=S.2.2;omega
  have r3:=zX (a:=s.bI) hd;have p3:=jf (num:=s.bI) hd;obtain⟨_,⟨c,c1,c2⟩,e,d1,d2⟩:=lp omY nf hd ha;obtain⟨x,x1,x2⟩:=inn c1;obtain⟨y,y1,y2⟩:=inn d1;have pc:0<c.den:=by have:=(mi G c1).2.2;omega
  have pe:0<e.den:=by have:=(mi G d1).2.2;omega
  have px:0<x.den:=by have:=(mi G (Jr G x1)).2.2;omega
  have py:0<y.den:=by have:=(mi G (Jr G y1)).2.2;omega
  have a:=YN (u3 x x1);have b:=YN (v3 y y1);rw[u2]at a;rw[v2]at b;constructor
  ·exact oN p1 pu p3 r1.1 (oN pu (b:=zbf x) px p3 a (oN px (b:=zbf c) pc p3 (eqs px pc x2) (oN pc (b:=⟨s.bI,s.den⟩) hd p3 c2 r3.2)))
  ·exact oN p3 hd p2 r3.1 (oN hd (b:=zbf e) pe p2 d2 (oN pe (b:=zbf y) py p2 (eqs pe py y2.symm) (oN py pv p2 b r2.2)))
 rw[e1,e2];refine⟨zLj U.1 ⟨pu,U.2.2.2⟩,zLj V.1 ⟨pv,V.2.2.2⟩,?_,mid⟩;obtain⟨a,b⟩:=mid u U u1.2;exact b
structure z2e where
  N:Nat
  c194:(Sl ay)->ae ((Sl Line))
  YB:aP×aP->ae Bool
abbrev ZdZ(E:z2e):bU:=gY ((Tabs.nil.addF 194 (ae.un E.c194)).addF 56 (ae.un E.YB)) []
def Zd0:dK:=bY aH 155 [] {cut:=[8]}
def Zby(E:z2e):(Sl ay)->ae (aP×aP):=ae.ty (aF aH E.N (ZdZ E) Zd0 155)
section
variable(E:z2e){A:Type}(k:(aP×aP)->Option A)
def zLk(E:z2e)(n:Nat)(v4:Sl Line)(v7:Int)(x5 x6:aP){A:Type}(k:(aP×aP)->Option A):Option A :=
  iP aH (ZdZ E) E.N Zd0 155 [1,1,1,0,1,0] [.n n] (iO k)
    ⟨[(2,.cl (.ptr 2 0)),(3,.cl (.ptr 3 0)),(4,eP v4),(5,.cl (.ptr 5 0)),(6,.cl (.ptr 6 0)),(7,.int v7)],[(2,.box 85 [.p (.int .i64 0),.p (.int .i64 0)]),(3,.box 85 [.p (.int .i64 0),.p (.int .i64 0)]),(5,eB 85 x5),(6,eB 85 x6)],[]⟩
def z2f(E:z2e)(n0:Nat)(v4:Sl Line)(v7:Int)(x5 x6:aP){A:Type}(k:(aP×aP)->Option A):Option A :=
  iP aH (ZdZ E) E.N Zd0 155 [1,1,1,0,1,0,0,1,0,0,1] [.n n0] (iO k)
    ⟨[(2,.cl (.ptr 2 0)),(3,.cl (.ptr 3 0)),(4,eP v4),(5,.cl (.ptr 5 0)),(6,.cl (.ptr 6 0)),(7,.int v7)],[(2,.box 85 [.p (.int .i64 0),.p (.int .i64 0)]),(3,.box 85 [.p (.int .i64 0),.p (.int .i64 0)]),(5,eB 85 x5),(6,eB 85 x6)],[]⟩
theorem Zii(a0:Sl ay):(Zby E (a0)).T k =
  (E.c194 a0).T λr1 =>
  aV (decide ((0:Int)<=0/\0<(r1.len:Int))) (aV (decide ((0:Int)<=0/\0<(r1.len:Int))) (zLk E E.N r1 1 (r1.get 0).dM (r1.get 0).dM k)):=dV
theorem z8G(n0:Nat)(v4:Sl Line)(v7:Int)(x5 x6:aP):zLk E (n0+1) v4 v7 x5 x6 k =
  cond (decide (v7<(v4.len:Int)))
  (aV (decide (0<=v7/\v7<(v4.len:Int))) ((E.YB ((v4.get v7.toNat).dM,x5)).T λr1 =>
 cond r1
 (aV (decide (0<=v7/\v7<(v4.len:Int))) (z2f E n0 v4 v7 (v4.get v7.toNat).dM x6 k))
 (z2f E n0 v4 v7 x5 x6 k)))
  (k (x5,x6)):=krY
theorem Zd1(n0:Nat)(v4:Sl Line)(v7:Int)(x5 x6:aP):z2f E n0 v4 v7 x5 x6 k =
  aV (decide (0<=v7/\v7<(v4.len:Int))) ((E.YB (x6,(v4.get v7.toNat).dM)).T λr1 =>
 cond r1
 (aV (decide (0<=v7/\v7<(v4.len:Int))) (zLk E n0 v4 (aO (v7+1)) x5 (v4.get v7.toNat).dM k))
 (zLk E n0 v4 (aO (v7+1)) x5 x6 k)):=krY
end
theorem Zij [aJ](E:z2e)(YM:Ok aH 194 (ae.un E.c194))(h56:Ok aH 56 (ae.un E.YB)):Ok aH 155 (ae.un (Zby E)):=dW ((ax.nil.addF YM).addF h56)
structure Zbz where
  N:Nat
  c65:au×(Sl bF)×af->ae ((Sl ay))
  BU:(Sl ay)->ae Bool
  z9s:(Sl ay)->ae (aP×aP)
  YB:aP×aP->ae Bool
def ZbA(E:Zbz):au×(Sl bF)×af×Bin->ae (Bool×Bool):=iK E.N ((((Tabs.nil.addF 65 (ae.un E.c65)).addF 149 (ae.un E.BU)).addF 155 (ae.un E.z9s)).addF 56 (ae.un E.YB)) 107
theorem Zik(E:Zbz){A:Type}(k:(Bool×Bool)→Option A)(a0:au)(a1:Sl bF)(a2:af)(a3:Bin):(ZbA E (a0,a1,a2,a3)).T k =
  (E.c65 (a0,a1,a2)).T λr1 =>
  cond (a2.View != a3.View)
  (k (false,false))
  ((E.BU r1).T λr2 =>
 cond r2
 (k (false,true))
 ((E.z9s r1).T λr3 =>
 (E.YB (r3.1,a3.Low)).T λr4 =>
 cond (!r4)
 ((E.YB (r3.2,a3.High)).T λr5 =>
 (E.YB (r3.1,a3.High)).T λr6 =>
 cond r6
 ((E.YB (r3.2,a3.Low)).T λr7 =>
 k (r5,!r7))
 (k (r5,false)))
 ((E.YB (r3.1,a3.High)).T λr8 =>
 cond r8
 ((E.YB (r3.2,a3.Low)).T λr9 =>
 k (false,!r9))
 (k (false,false))))):=dV
theorem Zil [aJ](E:Zbz)(h65:Ok aH 65 (ae.un E.c65))(IE:Ok aH 149 (ae.un E.BU))(Zd2:Ok aH 155 (ae.un E.z9s))(h56:Ok aH 56 (ae.un E.YB)):Ok aH 107 (ae.un (ZbA E)):=dW ((((ax.nil.addF h65).addF IE).addF Zd2).addF h56)
structure E45 where
  N:Nat
  c107:au×(Sl bF)×af×Bin->ae (Bool×Bool)
abbrev G45(E:E45):bU:=gY (Tabs.nil.addF 107 (ae.un E.c107)) []
def A45:dK:=bY aH 45 [] {ks:=[(1,3,⟨[],[(9,54,112)],[],[],[],[],[]⟩)],cut:=[12]}
def F45(E:E45):au×(Sl bF)×(Sl af)×(Sl Bin)->ae ((Sl Tally)):=ae.ty (aF aH E.N (G45 E) A45 45)
section
variable(E:E45){A:Type}(k:(Sl Tally)->Option A)
def z1c(E:E45)(n:Nat)(a0:au)(a1:Sl bF)(a2:Sl af)(a3:Sl Bin)(v10:Int)(w54:Sl Tally){A:Type}(k:(Sl Tally)->Option A):Option A :=
  iP aH (G45 E) E.N A45 45 [1,1,0,1,0] [.n n] (iO k)
    ⟨[(1,eP a1),(2,eP a2),(3,eP a3),(4,.cl (.ptr 4 0)),(9,.cl (.vec 54)),(10,.int v10)],[(4,eB 24 a0),(54,eV 112 2 16 w54)],[]⟩
def z1d(E:E45)(n0 n:Nat)(a0:au)(a1:Sl bF)(a2:Sl af)(a3:Sl Bin)(v10 v12:Int)(w54:Sl Tally)(NS:Tally){A:Type}(k:(Sl Tally)->Option A):Option A :=
  iP aH (G45 E) E.N A45 45 [1,1,0,1,0,0,1,0,0,1,0,1,0] [.n n0,.n n] (iO k)
    ⟨[(1,eP a1),(2,eP a2),(3,eP a3),(4,.cl (.ptr 4 0)),(9,.cl (.vec 54)),(10,.int v10),(11,.cl (.ptr 11 0)),(12,.int v12)],[(4,eB 24 a0),(54,eV 112 2 16 w54),(11,eB 112 NS)],[]⟩
def z8H(E:E45)(n0 n1:Nat)(a0:au)(a1:Sl bF)(a2:Sl af)(a3:Sl Bin)(v10 v12:Int)(gQ:Bool)(w54:Sl Tally)(NS:Tally){A:Type}(k:(Sl Tally)->Option A):Option A :=
  iP aH (G45 E) E.N A45 45 [1,1,0,1,0,0,1,0,0,1,0,1,0,0,1,0,0,1,1] [.n n0,.n n1] (iO k)
    ⟨[(1,eP a1),(2,eP a2),(3,eP a3),(4,.cl (.ptr 4 0)),(9,.cl (.vec 54)),(10,.int v10),(11,.cl (.ptr 11 0)),(12,.int v12),(14,.bool gQ)],[(4,eB 24 a0),(54,eV 112 2 16 w54),(11,eB 112 NS)],[]⟩
theorem e45(a0:au)(a1:Sl bF)(a2:Sl af)(a3:Sl Bin):(F45 E (a0,a1,a2,a3)).T k =
  z1c E E.N a0 a1 a2 a3 0 (⟨0,(λ_=>(⟨0,0⟩:Tally))⟩:(Sl Tally)) k:=dV
theorem ZcA(n0:Nat)(a0:au)(a1:Sl bF)(a2:Sl af)(a3:Sl Bin)(v10:Int)(w54:Sl Tally):z1c E (n0+1) a0 a1 a2 a3 v10 w54 k =
  cond (decide (v10<(a3.len:Int)))
  (z1d E n0 E.N a0 a1 a2 a3 v10 0 w54 (⟨0,0⟩:Tally) k)
  (k w54):=krY
theorem ZcB(n0 n1:Nat)(a0:au)(a1:Sl bF)(a2:Sl af)(a3:Sl Bin)(v10 v12:Int)(w54:Sl Tally)(NS:Tally):z1d E n0 (n1+1) a0 a1 a2 a3 v10 v12 w54 NS k =
  cond (decide (v12<(a2.len:Int)))
  (aV (decide (0<=v12/\v12<(a2.len:Int))) (aV (decide (0<=v10/\v10<(a3.len:Int))) ((E.c107 (a0,a1,(a2.get v12.toNat),(a3.get v10.toNat))).T λr1 =>
 cond r1.1
 (z8H E n0 n1 a0 a1 a2 a3 v10 v12 r1.2 w54 (⟨(aO (NS.zgk+1)),NS.sO⟩:Tally) k)
 (z8H E n0 n1 a0 a1 a2 a3 v10 v12 r1.2 w54 NS k))))
  (aV (room (w54.len+1) 16) (z1c E n0 a0 a1 a2 a3 (aO (v10+1)) (⟨(w54.len+1),(jL w54.len w54.get (λ_=>NS))⟩:(Sl Tally)) k)):=krY
theorem Zfw(n0 n1:Nat)(a0:au)(a1:Sl bF)(a2:Sl af)(a3:Sl Bin)(v10 v12:Int)(gQ:Bool)(w54:Sl Tally)(NS:Tally):z8H E n0 n1 a0 a1 a2 a3 v10 v12 gQ w54 NS k =
  cond gQ
  (z1d E n0 n1 a0 a1 a2 a3 v10 (aO (v12+1)) w54 (⟨NS.zgk,(aO (NS.sO+1))⟩:Tally) k)
  (z1d E n0 n1 a0 a1 a2 a3 v10 (aO (v12+1)) w54 NS k):=krY
end
theorem o45 [aJ](E:E45)(Zd3:Ok aH 107 (ae.un E.c107)):Ok aH 45 (ae.un (F45 E)):=dW (ax.nil.addF Zd3)
structure E44 where
  N:Nat
abbrev G44(E:E44):bU:=gY Tabs.nil []
def A44:dK:=bY aH 44 [] {}
def F44(E:E44):(Sl Tally)×(Sl Tally)->ae Bool:=ae.ty (aF aH E.N (G44 E) A44 44)
section
variable(E:E44){A:Type}(k:Bool->Option A)
def z2G(E:E44)(n:Nat)(a0 a1:Sl Tally)(v5:Int){A:Type}(k:Bool->Option A):Option A :=
  iP aH (G44 E) E.N A44 44 [1,1,0,1,0] [.n n] (iO k)
    ⟨[(0,eP a0),(1,eP a1),(5,.int v5)],[],[]⟩
theorem e44(a0 a1:Sl Tally):(F44 E (a0,a1)).T k =
  cond ((a0.len:Int) != (a1.len:Int))
  (k false)
  (z2G E E.N a0 a1 0 k):=dV
theorem ZcC(n0:Nat)(a0 a1:Sl Tally)(v5:Int):z2G E (n0+1) a0 a1 v5 k =
  cond (decide (v5<(a0.len:Int)))
  (aV (decide (0<=v5/\v5<(a0.len:Int))) (aV (decide (0<=v5/\v5<(a1.len:Int))) (cond (!(cond ((a0.get v5.toNat).zgk==(a1.get v5.toNat).zgk) (cond ((a0.get v5.toNat).sO==(a1.get v5.toNat).sO) true false) false))
 (k false)
 (z2G E n0 a0 a1 (aO (v5+1)) k))))
  (k true):=krY
end
theorem o44 [aJ](E:E44):Ok aH 44 (ae.un (F44 E)):=dW ax.nil
def SlC(g:Sl ay)(f:aP):Prop:=∃t,wB g t/\f=red t.bI t.den
theorem zYI{g:Sl ay}(G:dw g){f:aP}(h:SlC g f):SmF f:=by
 obtain⟨t,ht,e⟩:=h;have S:=mi G ht;rw[e];exact zLj S.1 ⟨by have:=S.2.2;omega,S.2.2.2⟩
abbrev z8I(C:Sl ay->ae (aP×aP)):Prop:=∀g,dw g->fQ g=false->iG g=true->∃a b,C g=.ok (a,b)/\(SlC g a/\∀t,wB g t->IA a (red t.bI t.den))/\SlC g b/\∀t,wB g t->IA (red t.bI t.den) b
theorem Zfx{E:z2e}(N:Big E.N)(YM:zDT E.c194)(h56:Q56 E.YB):z8I (Zby E):=λg G hf hs=>by
 have hg:=G.2;have hN:=N;obtain⟨L,l1,l2,l3,l4⟩:=YM g G;obtain⟨t0,t01,t02⟩:=(IW G hf).1 hs;have l0:0<L.len:=by
  have:=qjh (l4 t0 ⟨t01,t02⟩);rw[iQ]at this;exact this
 have pc:∀i,i<L.len->SlC g (L.get i).dM:=λi hi=>by
  obtain⟨t,ht,e⟩:=l3 _ (jA.2 ⟨i,hi,rfl⟩);exact⟨t,ht,by rw[e];rfl⟩
 have key:∀(m i n:Nat)(x y:aP),i+m=L.len->m<n->SlC g x->SlC g y->(∀j,j<i->IA x (L.get j).dM/\IA (L.get j).dM y) ->
   ∃a b,(∀(A:Type)(k:aP×aP->Option A),zLk E n L (i:Int) x y k=k (a,b))/\SlC g a/\SlC g b/\∀j,j<L.len->IA a (L.get j).dM/\IA (L.get j).dM b:=by
  intro m
  induction m with
  | zero =>
   intro i n x y hi hn hx hy hb;obtain⟨n,rfl⟩:∃n',n=n'+1:=⟨n-1,omY⟩;exact⟨x,y,λA k=>by rw[z8G,eU omY];rfl,hx,hy,λj hj=>hb j omY⟩
  | succ m ih =>
   intro i n x y hi hn hx hy hb;obtain⟨n,rfl⟩:∃n',n=n'+1:=⟨n-1,omY⟩;have hf':=pc i omY;have px:=zYI G hx;have py:=zYI G hy;have pf:=zYI G hf';have st:∀(A:Type)(k:aP×aP->Option A),zLk E (n+1) L (i:Int) x y k=zLk E n L ((i+1:Nat):Int) (cond (leB (L.get i).dM x) (L.get i).dM x) (cond (leB y (L.get i).dM) (L.get i).dM y) k:=λA k=>by
    rw[z8G,dZ omY,ed,bG omY,gU,h56,bn,bG omY];cases leB (L.get i).dM x<;>simp only[ed,dS]<;>rw[Zd1,bG omY,gU,h56,bn,bG omY,bP omY]<;>cases leB y (L.get i).dM<;>rfl
   generalize hfe:(L.get i).dM=f at hf' pf st;have zHv:IA f f:=qd8 _;obtain⟨a,b,h1,h2,h3,h4⟩:=ih (i+1) n (cond (leB f x) f x) (cond (leB y f) f y) omY omY (by cases leB f x<;>assumption) (by cases leB y f<;>assumption) (λj hj=>by
    have pq:=zYI G (pc j omY);have qf:j=i->(L.get j).dM=f:=λe=>by subst e;exact hfe
    constructor
    ·cases hl:leB f x with
     | true =>
      have lt:=(YF pf px).1 hl;rw[ed];by_cases e:j=i
      ·rw[qf e];exact zHv
      ·exact oN pf.2.1 px.2.1 pq.2.1 (yt lt) (hb j omY).1
     | false =>
      rw[dS];by_cases e:j=i
      ·rw[qf e];exact(zf6 pf px).1 hl
      ·exact(hb j omY).1
    ·cases hl:leB y f with
     | true =>
      have lt:=(YF py pf).1 hl;rw[ed];by_cases e:j=i
      ·rw[qf e];exact zHv
      ·exact oN pq.2.1 py.2.1 pf.2.1 (hb j omY).2 (yt lt)
     | false =>
      rw[dS];by_cases e:j=i
      ·rw[qf e];exact(zf6 py pf).1 hl
      ·exact(hb j omY).2)
   exact⟨a,b,λA k=>by rw[st];exact h1 A k,h2,h3,h4⟩
 obtain⟨a,b,h1,h2,h3,h4⟩:=key (L.len-1) 1 E.N (L.get 0).dM (L.get 0).dM omY omY (pc 0 l0) (pc 0 l0) (λj hj=>by
  rw[show j=0 by omega];exact⟨qd8 _,qd8 _⟩)
 have al:∀u,wB g u->IA a (red u.bI u.den)/\IA (red u.bI u.den) b:=λu hu=>by
  obtain⟨j,hj,e⟩:=jA.1 (l4 u hu);have:=h4 j hj;rw[e]at this;exact this
 refine⟨a,b,ae.ext λk=>?_,⟨h2,λu hu=>(al u hu).1⟩,h3,λu hu=>(al u hu).2⟩;rw[Zii,l1,bn,bG omY,bG omY];exact h1 _ k
theorem z1e{a b c d:Int}(hb:0<b)(hd:0<d)(h1:IA (red a b) (red c d))(h2:IA (red c d) (red a b)):red a b=red c d:=by
 refine(Y4 hb hd).2 ?_;have p1:=jf (num:=a) hb;have p2:=jf (num:=c) hd;have k1:IA ⟨a,b⟩ ⟨c,d⟩:=oN (b:=red c d) hb p2 hd (oN (b:=red a b) hb p1 p2 (zX hb).2 h1) (zX hd).1;have k2:IA ⟨c,d⟩ ⟨a,b⟩:=oN (b:=red a b) hd p1 hb (oN (b:=red c d) hd p2 p1 (zX hd).2 h2) (zX hb).1;exact jqi k1 k2
theorem ZbB{g:Sl ay}(G:dw g)(h0:(Ad g false).2=0){a b:aP}(ha:SlC g a/\∀t,wB g t->IA a (red t.bI t.den))(hb:SlC g b/\∀t,wB g t->IA (red t.bI t.den) b):slV g=(a,b):=by
 have hf:fQ g=false:=by
  unfold Ad at h0;rw[kU.2 G]at h0;cases hs:iG g with
  | false=>rw[hs]at h0;cases h0
  | true =>
   cases hf:fQ g with
   | false=>rfl
   | true=>rw[hs,hf]at h0;cases h0
 have hc:=(zr6 G h0).2 hf;have dn:∀s,wB g s->0<(zbf s).bT:=λs h=>by have:=(mi G h).2.2;show 0<s.den;omega
 obtain⟨⟨u,u1,u2⟩,_⟩:=zkQ G zbf dn hc;obtain⟨⟨v,v1,v2⟩,_⟩:=zkR G zbf dn hc;have U:=mi G u1;have V:=mi G v1;have pu:0<u.den:=by have:=U.2.2;omega
 have pv:0<v.den:=by have:=V.2.2;omega
 have e1:(slV g).1=red u.bI u.den:=by unfold slV;rw[u2];rfl
 have e2:(slV g).2=red v.bI v.den:=by unfold slV;rw[v2];rfl
 obtain⟨_,_,_,bd⟩:=zWT G h0;obtain⟨⟨ta,ca,ea⟩,ma⟩:=ha;obtain⟨⟨tb,cb,eb⟩,mb⟩:=hb;have SA:=mi G ca;have SB:=mi G cb;have pa:0<ta.den:=by have:=SA.2.2;omega
 have pb:0<tb.den:=by have:=SB.2.2;omega
 have A:(slV g).1=a:=by
  have h1:=(bd ta SA ca.2).1;have h2:=ma u u1;rw[e1,ea]at *;exact z1e pu pa h1 h2
 have B:(slV g).2=b:=by
  have h1:=(bd tb SB cb.2).2;have h2:=mb v v1;rw[e2,eb]at *;exact z1e pv pb h2 h1
 rw[<- A,<- B]
theorem qH.some{s:au}{l:Sl bF}{t:af}(h:qH s l t):iG (qx s l (fA t))=true:=by
 have:=h.ag;unfold ET at this;rw[gG]at this;exact this.2
abbrev Zd4(C:au×Sl bF×af×Bin->ae (Bool×Bool)):Prop:=∀s l t b,qH s l t->zlO b=true->C (s,l,t,b)=.ok (N9 s l b (fZ t),Oj s l b (fZ t))
theorem Zim{E:Zbz}(h65:Q65 E.c65)(IE:zgH E.BU)(Zd2:z8I E.z9s)(h56:Q56 E.YB):Zd4 (ZbA E):=λs l t b ha hb=>ae.ext λk=>by
 obtain⟨j,hv⟩:=ha.vl;obtain⟨tl,t0,_⟩:=ha.toChosen.l24;have G:=EX ha.ev.toEvt ha.ev.l24 hv ha.ne;have hG:=G.2;have so:=ha.some;have mf:=hb;unfold zlO at mf;simp only[gG]at mf;have sL:=zOa mf.2.1;have sH:=zOa mf.2.2.1;rw[Zik,h65 s l t ha.ev.toEvt omY (Fa ha.ev.vw ha.tv rfl hv ha.ne),bn,IY rfl];unfold N9 Oj;have vw:(t.View != b.View)=(b.View != t.View):=by
  rw[Ut,jqA,jqA];exact⟨λh e=>h e.symm,λh e=>h e.symm⟩
 rw[vw];show _=k (cond (b.View != t.View) false _,cond (b.View != t.View) false _);cases hvw:b.View != t.View with
 | true=>rfl
 | false =>
 simp only[dS];rw[IE _ omY omY,bn];have op:(Ad (qx s l (fA t)) false).2=cond (fQ (qx s l (fA t))) 6 0:=by
  unfold Ad;rw[kU.2 G,so];cases fQ (qx s l (fA t))<;>rfl
 have sk:Pj s l (fZ t)=cond ((Ad (qx s l (fA t)) false).2 != 0) (⟨0,0⟩,⟨0,0⟩,(Ad (qx s l (fA t)) false).2) ((slV (qx s l (fA t))).1,(slV (qx s l (fA t))).2,0):=rfl;cases hf:fQ (qx s l (fA t))with
 | true =>
  rw[sk,op,hf];rfl
 | false =>
 obtain⟨x,y,h1,h2,h3,h4⟩:=Zd2 _ G hf so;have o0:(Ad (qx s l (fA t)) false).2=0:=by rw[op,hf];rfl
 have sv:=ZbB G o0 h2 ⟨h3,h4⟩;obtain⟨m1,m2,m3,_⟩:=zWT G o0;rw[sv]at m1 m2 m3;have m1:SmF x:=m1;have m2:SmF y:=m2;have m3:IA x y:=m3;rw[sk,o0,sv];show(E.z9s (qx s l (fA t))).T _=k (leB x b.High && !leB y b.Low&&(!leB x b.Low&&leB y b.High),leB x b.High && !leB y b.Low);rw[h1,bn,h56,bn];have c1:leB y b.High=true->leB x b.High=true:=λh=>(YF m1 sH).2 (zNb m1.2.1 m2.2.1 sH.2.1 m3 ((YF m2 sH).1 h));have c2:leB x b.Low=false->leB y b.Low=false:=λh=>(zf6 m2 sL).2 (oN sL.2.1 m1.2.1 m2.2.1 ((zf6 m1 sL).1 h) m3);have e1:=h56 y b.High;have e2:=h56 x b.High;have e3:=h56 y b.Low;cases d1:leB x b.Low with
 | false =>
  have d2:=c2 d1;rw[d2];simp only[qdU,ed,qje,OY];rw[e1,bn,e2,bn];cases d3:leB y b.High with
  | true=>rw[c1 d3,ed,e3,bn,d2];rfl
  | false =>
   cases d4:leB x b.High with
   | true=>rw[ed,e3,bn,d2];rfl
   | false=>rfl
 | true =>
  simp only[OZ,dS,qdf,qds];rw[e2,bn];cases d4:leB x b.High with
  | true=>rw[ed,e3,bn];rfl
  | false=>rfl
abbrev Q45(C:au×Sl bF×Sl af×Sl Bin->ae (Sl Tally)):Prop:=∀s l (w:Sl af) (bs:Sl Bin),w.len<=4000->bs.len<=1000->(∀i,i<w.len->qH s l (w.get i))->(∀i,i<bs.len->zlO (bs.get i)=true) ->
 ∃W:Sl Tally,C (s,l,w,bs)=.ok W/\ls W=(ls bs).map λb=>zmj s l b ((ls w).map fZ)
theorem s45{E:E45}(N:Big E.N)(Zd3:Zd4 E.c107):Q45 (F45 E):=λs l w bs hw hb ha zWS=>by
 have hN:=N
 have inn:∀(n0 i:Nat)(W:Sl Tally),i<bs.len->W.len<=1000->∀(d k n:Nat),k+d=w.len->d<n->∀(A:Type)(K:Sl Tally->Option A),
   z1d E n0 n s l w bs (i:Int) (k:Int) W (zmj s l (bs.get i) (((List.range' 0 k).map w.get).map fZ)) K=z1c E n0 s l w bs ((i+1:Nat):Int) (oO W (zmj s l (bs.get i) ((ls w).map fZ))) K:=by
  intro n0 i W hi hW d
  induction d with
  | zero =>
   intro k n hk hn A K;obtain⟨n,rfl⟩:∃n',n=n'+1:=⟨n-1,omY⟩;have e:k=w.len:=by omega
   subst e;rw[ZcB,eU omY,dS,jQ omY omY,bP omY];rw[show ls w=(List.range' 0 w.len).map w.get by unfold ls;rw[dqQ]];rfl
  | succ d ih =>
   intro k n hk hn A K;obtain⟨n,rfl⟩:∃n',n=n'+1:=⟨n-1,omY⟩;have c1:((((List.range' 0 k).map w.get).map fZ).countP (N9 s l (bs.get i)))<=4000:=EW qdL (by simp;omega);have c2:((((List.range' 0 k).map w.get).map fZ).countP (Oj s l (bs.get i)))<=4000:=EW qdL (by simp;omega);have nx:zmj s l (bs.get i) (((List.range' 0 (k+1)).map w.get).map fZ)=⟨((((List.range' 0 k).map w.get).map fZ).countP (N9 s l (bs.get i)):Int)+cond (N9 s l (bs.get i) (fZ (w.get k))) 1 0,((((List.range' 0 k).map w.get).map fZ).countP (Oj s l (bs.get i)):Int)+cond (Oj s l (bs.get i) (fZ (w.get k))) 1 0⟩:=by
    unfold zmj;rw[qjW];simp only[QQ,oU,qd3,qjk,jqk,NV,Nat.one_mul];cases N9 s l (bs.get i) (fZ (w.get k))<;>cases Oj s l (bs.get i) (fZ (w.get k))<;>simp
   rw[<- ih (k+1) n omY omY,nx,ZcB,dZ omY,ed,bG omY,bG omY,gU,gU,Zd3 s l _ _ (ha k omY) (zWS i hi),bn];unfold zmj;generalize hx:((((List.range' 0 k).map w.get).map fZ).countP (N9 s l (bs.get i)))=x at c1 ⊢;generalize hy:((((List.range' 0 k).map w.get).map fZ).countP (Oj s l (bs.get i)))=y at c2 ⊢;have wx:aO ((x:Int)+1)=(x:Int)+1:=bf omY omY;have wy:aO ((y:Int)+1)=(y:Int)+1:=bf omY omY;have wk:=bP (show k<4611686018427387904 by omega);cases N9 s l (bs.get i) (fZ (w.get k))<;>cases Oj s l (bs.get i) (fZ (w.get k))<;>simp only[ed,dS]<;>rw[Zfw]<;>simp only[ed,dS,wx,wy,wk,Int.add_zero]
 have out:∀(d i n:Nat)(W:Sl Tally),i+d=bs.len->d<n->W.len<=i->∃W':Sl Tally,(∀(A:Type)(K:Sl Tally->Option A),z1c E n s l w bs (i:Int) W K=K W')/\ls W'=ls W++((List.range' i d).map bs.get).map λb=>zmj s l b ((ls w).map fZ):=by
  intro d
  induction d with
  | zero =>
   intro i n W hi hn hW;obtain⟨n,rfl⟩:∃n',n=n'+1:=⟨n-1,omY⟩;exact⟨W,λA K=>by rw[ZcA,eU omY];rfl,by simp⟩
  | succ d ih =>
   intro i n W hi hn hW;obtain⟨n,rfl⟩:∃n',n=n'+1:=⟨n-1,omY⟩;obtain⟨W',a,b⟩:=ih (i+1) n (oO W (zmj s l (bs.get i) ((ls w).map fZ))) omY omY (by show W.len+1<=i+1;omega);refine⟨W',λA K=>?_,?_⟩
   ·rw [ZcA,dZ omY,ed];exact(inn n i W omY omY w.len 0 E.N omY omY A K).trans (a A K)
   ·rw[b,O9,YA,oU,oU,qjF];rfl
 obtain⟨W,a,b⟩:=out bs.len 0 E.N ⟨0,λ_=>⟨0,0⟩⟩ omY omY (Cf _);refine⟨W,ae.ext λK=>?_,?_⟩
 ·rw[e45,bn];exact a _ K
 ·rw[b,show ls bs=(List.range' 0 bs.len).map bs.get by unfold ls;rw[dqQ]];rfl
abbrev Q44(C:Sl Tally×Sl Tally->ae Bool):Prop:=∀v w:Sl Tally,v.len<=1000->ls v=ls w->C (v,w)=.ok true
theorem s44{E:E44}(N:Big E.N):Q44 (F44 E):=λv w hv hk=>ae.ext λk=>by
 have hN:=N;have hl:w.len=v.len:=by have:=jX List.length hk;simp only[iQ]at this;omega
 rw[e44,hl,show((v.len:Int) != (v.len:Int))=false by simp,dS,bn];refine kV (X:=λn i=>z2G E n v w (i:Int) k) (m:=v.len) (λn i hi=>?_) (λn=>?_) E.N omY
 ·have e:v.get i=w.get i:=by
   have h:=jX (λL=>L[i]?) hk;simp only[NU hi,NU (show i<w.len by omega),bW]at h;exact h
  rw[ZcC,dZ omY,ed,bG omY,bG omY,gU,e,bP omY];simp only[qdP,ed,OZ,dS]
 ·rw[ZcC,eU omY];rfl
theorem Zfy{A:Type}(X:Bool->A)(b v f h q z:Bool):cond b (cond v (cond f (cond h (X (q&&z)) (X (false&&z))) (X (false&&z))) (X (false&&z))) (X (false&&z))=X (b&&((v&&(f&&(h&&q)))&&z)):=by
 cases b<;>cases v<;>cases f<;>cases h<;>rfl
theorem s42a{E:E42}(h96:QVw E.c96)(zLh:zLi E.zOe)(zDl:Q56 E.zDN){s:au}{r:bJ}{l:Sl bF}{bs:Sl Bin}(hb:bs.len<=1000):∀(n i:Nat),i+n=bs.len->∀m,n<m->∀(b:Bool)(A:Type)(k:Sl Tally×Int->Option A),zlr E m s r l bs b (i:Int) k=zlr E 1 s r l bs (b&&((List.range' i n).map bs.get).all zlO) (bs.len:Int) k:=by
 intro n
 induction n with
 | zero =>
  intro i hi m hm b A k;obtain⟨m,rfl⟩:∃m',m=m'+1:=⟨m-1,omY⟩;rw[show i=bs.len by omega,zDk,zDk (n0:=0),eU omY];simp only[List.range'_zero,qd3,List.all_nil,qje];rfl
 | succ n ih =>
  intro i hi m hm b A k;obtain⟨m,rfl⟩:∃m',m=m'+1:=⟨m-1,omY⟩;have hr:∀b,zlr E m s r l bs b ((i+1:Nat):Int) k=_:=λb=>ih (i+1) omY m omY b A k;rw[zDk,dZ omY,ed,bG omY,gU,h96,bn,zLh,bn,zLh,bn,zDl,bn,bP omY,YA,oU,qdS,hr,hr];exact Zfy (λb=>zlr E 1 s r l bs b (bs.len:Int) k) b _ _ _ _ _
abbrev ZbC(C:au×bJ×Sl bF×Sl Bin->ae (Sl Tally×Int)):Prop:=∀s r l (bs:Sl Bin),sN s->l.len<=40->bs.len<=1000 ->
 (100<bs.len->C (s,r,l,bs)=.ok (⟨0,λ_=>default⟩,3))/\(bs.len<=100 ->
  (YV s r l ((ls bs).all zlO)≠0/\C (s,r,l,bs)=.ok (⟨0,λ_=>default⟩,YV s r l ((ls bs).all zlO))) \/
  (YV s r l ((ls bs).all zlO)=0/\∃f:found,NW s r l f/\∃w:Sl Tally,C (s,r,l,bs)=.ok (w,0)/\w.len=bs.len/\∀i,i<bs.len->w.get i=zmj s l (bs.get i) ((ls f.aW).map fZ)))
theorem Zin{E:E42}(N:Big E.N)(h96:QVw E.c96)(zLh:zLi E.zOe)(zDl:Q56 E.zDN)(h72:zMX E.c72)(NT:zjk E.c105)(h58:Q58 E.c58):ZbC (F42 E):=λs r l bs hs hl hb=>by
 have hN:=N;refine⟨λh=>ae.ext λk=>?_,λh=>?_⟩
 ·rw [e42,dZ (show(bs.len:Int)>100 by omega),bn];cases decide ((l.len:Int)>24)<;>rfl
 have hd:=eU (show ¬(bs.len:Int)>100 by omega);by_cases h24:l.len>24
 ·have e:YV s r l ((ls bs).all zlO)=3:=by
   unfold YV;rw[show lV s r l=3 by unfold lV;rw[dZ h24];rfl];rfl
  refine .inl ⟨by rw[e];decide,ae.ext λk=>?_⟩;rw[e42,dZ (show(l.len:Int)>24 by omega),bn,e];rfl
 have h2:=eU (show ¬(l.len:Int)>24 by omega);have al:(ls (⟨1,λ_=>(ls bs).all zlO⟩:Sl Bool)).all id=(ls bs).all zlO:=qje _;have c:=h72 s r l ⟨1,λ_=>(ls bs).all zlO⟩ hs hl (by show 1<=10;omega);rw[al]at c;rcases c with⟨h0,h1⟩|⟨h0,_⟩
 ·refine .inl ⟨h0,ae.ext fun k => ?_⟩;have st:=s42a (E:=E) h96 zLh zDl (s:=s) (r:=r) (l:=l) hb bs.len 0 omY E.N omY true _ k;rw[OY,<- dqQ]at st;rw[e42,h2,hd,dS,dS,bn];refine st.trans ?_;rw[zDk,eU omY,dS];show(E.c72 (s,r,l,⟨1,λ_=>(ls bs).all zlO⟩)).T _=_;rw[h1,bn];show cond (YV s r l ((ls bs).all zlO) != 0) _ _=_;rw[show(YV s r l ((ls bs).all zlO) != 0)=true by simpa using h0];rfl
 ·obtain⟨r0,ha,n1,n2⟩:=zOl h0;exact .inr ⟨h0,s42 N h96 zLh zDl (z16 h72) NT h58 s r l bs hs omY r0 n1 n2 h λi hi=>Aa.1 ha _ (jA.2 ⟨i,hi,rfl⟩)⟩
structure E9 where
  N:Nat
  c23:au×(Sl bF)×Int->ae Bool
  c19:Unit->ae Bool
  c42:au×bJ×(Sl bF)×(Sl Bin)->ae ((Sl Tally)×Int)
  c26:au×bJ×(Sl bF)->ae Int
  c43:Bin->ae Bool
  c28:au×bJ×(Sl bF)->ae ((Sl af)×Bool)
  c45:au×(Sl bF)×(Sl af)×(Sl Bin)->ae ((Sl Tally))
  c44:(Sl Tally)×(Sl Tally)->ae Bool
abbrev G9(E:E9):bU:=gY ((((((((Tabs.nil.addF 23 (ae.un E.c23)).addF 19 (ae.un E.c19)).addF 42 (ae.un E.c42)).addF 26 (ae.un E.c26)).addF 43 (ae.un E.c43)).addF 28 (ae.un E.c28)).addF 45 (ae.un E.c45)).addF 44 (ae.un E.c44)) []
def A9:dK:=bY aH 9 [] {ks:=[(2,18,⟨[],[],[],[],[],[],[(0,13,0,43)]⟩),(2,20,⟨[],[],[],[],[],[],[(0,13,0,43)]⟩)],cut:=[3,4,5,18,20]}
def F9(E:E9):au×bJ×(Sl bF)×(Sl Bin)->ae Bool:=ae.ty (aF aH E.N (G9 E) A9 9)
section
variable(E:E9){A:Type}(k:Bool->Option A)
def ZbD(E:E9)(a0:au)(a1:bJ)(a2:Sl bF)(a3:Sl Bin){A:Type}(k:Bool->Option A):Option A :=
  iP aH (G9 E) E.N A9 9 [1,1] [] (iO k)
    ⟨[(2,eP a2),(3,eP a3),(4,.cl (.ptr 4 0)),(5,.cl (.ptr 5 0))],[(4,eB 24 a0),(5,eB 26 a1)],[]⟩
def ZbE(E:E9)(a0:au)(a1:bJ)(a2:Sl bF)(a3:Sl Bin)(v9:Sl Tally)(v10:Int){A:Type}(k:Bool->Option A):Option A :=
  iP aH (G9 E) E.N A9 9 [1,1,1] [] (iO k)
    ⟨[(2,eP a2),(3,eP a3),(4,.cl (.ptr 4 0)),(5,.cl (.ptr 5 0)),(9,eP v9),(10,.int v10)],[(4,eB 24 a0),(5,eB 26 a1)],[]⟩
def Zfz(E:E9)(a0:au)(a1:bJ)(a2:Sl bF)(a3:Sl Bin)(v9:Sl Tally)(v10 v11:Int){A:Type}(k:Bool->Option A):Option A :=
  iP aH (G9 E) E.N A9 9 [1,1,1,1] [] (iO k)
    ⟨[(2,eP a2),(3,eP a3),(4,.cl (.ptr 4 0)),(5,.cl (.ptr 5 0)),(9,eP v9),(10,.int v10),(11,.int v11)],[(4,eB 24 a0),(5,eB 26 a1)],[]⟩
def zLl(E:E9)(n:Nat)(a0:au)(a1:bJ)(a2:Sl bF)(a3:Sl Bin)(v9:Sl Tally)(v10 v11 v12:Int){A:Type}(k:Bool->Option A):Option A :=
  iP aH (G9 E) E.N A9 9 [1,1,1,1,1,0,1,0] [.n n] (iO k)
    ⟨[(2,eP a2),(3,eP a3),(4,.cl (.ptr 4 0)),(5,.cl (.ptr 5 0)),(9,eP v9),(10,.int v10),(11,.int v11),(12,.int v12)],[(4,eB 24 a0),(5,eB 26 a1)],[]⟩
def zYJ(E:E9)(a0:au)(a2:Sl bF)(a3:Sl Bin)(v9:Sl Tally)(v10 v11:Int)(jI:Sl af){A:Type}(k:Bool->Option A):Option A :=
  iP aH (G9 E) E.N A9 9 [1,1,1,1,1,1,1,1] [] (iO k)
    ⟨[(2,eP a2),(3,eP a3),(4,.cl (.ptr 4 0)),(9,eP v9),(10,.int v10),(11,.int v11),(13,eP jI)],[(4,eB 24 a0)],[]⟩
def ZfA(E:E9)(a0:au)(a2:Sl bF)(a3:Sl Bin)(v9:Sl Tally)(v10:Int)(jI:Sl af){A:Type}(k:Bool->Option A):Option A :=
  iP aH (G9 E) E.N A9 9 [1,1,1,1,1,1,1,1,1] [] (iO k)
    ⟨[(2,eP a2),(3,eP a3),(4,.cl (.ptr 4 0)),(9,eP v9),(10,.int v10),(13,eP jI)],[(4,eB 24 a0)],[]⟩
theorem e9(a0:au)(a1:bJ)(a2:Sl bF)(a3:Sl Bin):(F9 E (a0,a1,a2,a3)).T k =
  (E.c23 (a0,a2,8)).T λr1 =>
  cond (!r1)
  ((E.c19 ()).T λr2 =>
 k r2)
  (cond (decide ((a3.len:Int)>10))
 (cond (decide ((a3.len:Int)<=100))
 ((E.c19 ()).T λr3 =>
 k r3)
 (cond (decide ((a3.len:Int)>150))
 ((E.c19 ()).T λr4 =>
 k r4)
 (ZbD E a0 a1 a2 a3 k)))
 (cond (decide ((a3.len:Int)>150))
 ((E.c19 ()).T λr5 =>
 k r5)
 (ZbD E a0 a1 a2 a3 k))):=dV
theorem z8J(a0:au)(a1:bJ)(a2:Sl bF)(a3:Sl Bin):ZbD E a0 a1 a2 a3 k =
  (E.c42 (a0,a1,a2,a3)).T λr1 =>
  ZbE E a0 a1 a2 a3 r1.1 r1.2 k:=krY
theorem ZfB(a0:au)(a1:bJ)(a2:Sl bF)(a3:Sl Bin)(v9:Sl Tally)(v10:Int):ZbE E a0 a1 a2 a3 v9 v10 k =
  (E.c26 (a0,a1,a2)).T λr1 =>
  Zfz E a0 a1 a2 a3 v9 v10 r1 k:=krY
theorem ZfC(a0:au)(a1:bJ)(a2:Sl bF)(a3:Sl Bin)(v9:Sl Tally)(v10 v11:Int):Zfz E a0 a1 a2 a3 v9 v10 v11 k =
  cond (decide ((a3.len:Int)>100))
  (zLl E E.N a0 a1 a2 a3 v9 v10 3 0 k)
  (zLl E E.N a0 a1 a2 a3 v9 v10 v11 0 k):=krY
theorem z8K(n0:Nat)(a0:au)(a1:bJ)(a2:Sl bF)(a3:Sl Bin)(v9:Sl Tally)(v10 v11 v12:Int):zLl E (n0+1) a0 a1 a2 a3 v9 v10 v11 v12 k =
  cond (decide (v12<(a3.len:Int)))
  (cond (v11==0)
 (aV (decide (0<=v12/\v12<(a3.len:Int))) ((E.c43 (a3.get v12.toNat)).T λr1 =>
 cond (!r1)
 (zLl E n0 a0 a1 a2 a3 v9 v10 2 (aO (v12+1)) k)
 (zLl E n0 a0 a1 a2 a3 v9 v10 v11 (aO (v12+1)) k)))
 (zLl E n0 a0 a1 a2 a3 v9 v10 v11 (aO (v12+1)) k))
  (cond (v11==0)
 ((E.c28 (a0,a1,a2)).T λr2 =>
 cond (!r2.2)
 (zYJ E a0 a2 a3 v9 v10 8 r2.1 k)
 (zYJ E a0 a2 a3 v9 v10 v11 r2.1 k))
 (zYJ E a0 a2 a3 v9 v10 v11 (⟨0,(λ_=>(⟨0,(⟨0,(λ_=>0)⟩:(Sl Int)),(⟨0,(λ_=>0)⟩:(Sl Int))⟩:af))⟩:(Sl af)) k)):=krY
theorem ZfD(a0:au)(a2:Sl bF)(a3:Sl Bin)(v9:Sl Tally)(v10 v11:Int)(jI:Sl af):zYJ E a0 a2 a3 v9 v10 v11 jI k =
  cond (v11 != 0)
  (cond (v10==v11)
 (cond ((v9.len:Int)==0)
 ((E.c19 ()).T λr1 =>
 k r1)
 (k false))
 (k false))
  (ZfA E a0 a2 a3 v9 v10 jI k):=krY
theorem Zio(a0:au)(a2:Sl bF)(a3:Sl Bin)(v9:Sl Tally)(v10:Int)(jI:Sl af):ZfA E a0 a2 a3 v9 v10 jI k =
  cond (v10==0)
  ((E.c45 (a0,a2,jI,a3)).T λr1 =>
 (E.c44 (v9,r1)).T λr2 =>
 cond r2
 ((E.c19 ()).T λr3 =>
 k r3)
 (k false))
  (k false):=krY
end
theorem o9 [aJ](E:E9)(h23:Ok aH 23 (ae.un E.c23))(h19:Ok aH 19 (ae.un E.c19))(h42:Ok aH 42 (ae.un E.c42))(h26:Ok aH 26 (ae.un E.c26))(h43:Ok aH 43 (ae.un E.c43))(h28:Ok aH 28 (ae.un E.c28))(h45:Ok aH 45 (ae.un E.c45))(h44:Ok aH 44 (ae.un E.c44)):Ok aH 9 (ae.un (F9 E)):=dW ((((((((ax.nil.addF h23).addF h19).addF h42).addF h26).addF h43).addF h28).addF h45).addF h44)
theorem NW.agreed{s:au}{r:bJ}{l:Sl bF}{f:found}(h:NW s r l f)(he:Evt s l)(h24:l.len<=24){t:af}(ht:t∈ls f.fits):qH s l t:=by
 obtain⟨v,tv,m⟩:=h.fit ht;obtain⟨⟨j,hj⟩,ne⟩:=Nz (UL.1 m).1;exact {toChosen:=h.chosen he h24 ht,ag:=(zB1 hj).resolve_left ne}
theorem ZfF{A:Type}(X:Int->A)(v:Int)(b z:Bool):cond (v==0) (cond (!b) (X (cond ((2:Int)==0) (cond z 0 2) 2)) (X (cond (v==0) (cond z 0 2) v))) (X (cond (v==0) (cond z 0 2) v))=X (cond (v==0) (cond (b&&z) 0 2) v):=by
 by_cases h:v=0
 ·subst h;cases b<;>rfl
 ·rw[show(v==0)=false by simpa using h];rfl
theorem s9a{E:E9}(h43:Q43 E.c43){s:au}{r:bJ}{l:Sl bF}{bs:Sl Bin}(hb:bs.len<=1000){v9:Sl Tally}{v10:Int}{A:Type}{k:Bool->Option A}:∀(n i:Nat),i+n=bs.len->∀m,n<m->∀(v:Int),zLl E m s r l bs v9 v10 v (i:Int) k=zLl E 1 s r l bs v9 v10 (cond (v==0) (cond (((List.range' i n).map bs.get).all zlO) 0 2) v) (bs.len:Int) k:=by
 intro n
 induction n with
 | zero =>
  intro i hi m hm v;obtain⟨m,rfl⟩:∃m',m=m'+1:=⟨m-1,omY⟩;have e:cond (v==0) (cond (((List.range' i 0).map bs.get).all zlO) 0 2) v=v:=by
   by_cases h:v=0
   ·subst h;rfl
   ·rw[show(v==0)=false by simpa using h];rfl
  rw[e,show i=bs.len by omega,z8K,z8K (n0:=0),eU omY];rfl
 | succ n ih =>
  intro i hi m hm v;obtain⟨m,rfl⟩:∃m',m=m'+1:=⟨m-1,omY⟩;have hr:∀v,zLl E m s r l bs v9 v10 v ((i+1:Nat):Int) k=_:=λv=>ih (i+1) omY m omY v;rw[z8K,dZ omY,ed,bG omY,gU,h43,bn,bP omY,YA,oU,qdS,hr,hr];exact ZfF (λv=>zLl E 1 s r l bs v9 v10 v (bs.len:Int) k) v _ _
abbrev Q9(C:au×bJ×Sl bF×Sl Bin->ae Bool):Prop:=∀s r l b,C (s,r,l,b)=.ok true
theorem s9b{E:E9}(N:Big E.N)(h19:Q19 E.c19)(h42:ZbC E.c42)(h26:Q26 E.c26)(h43:Q43 E.c43)(h28:zOJ E.c28)(h45:Q45 E.c45)(h44:Q44 E.c44){s:au}{r:bJ}{l:Sl bF}{bs:Sl Bin}{A:Type}{k:Bool->Option A}(hs:sN s)(hl:l.len<=40)(hb:bs.len<=10\/(100<bs.len/\bs.len<=150)):ZbD E s r l bs k=k true:=by
 have hN:=N;have kn:(E.c19 ()).T (λr=>k r)=k true:=by rw[h19,bn]
 have err:∀e:Int,e≠0->∀w:Sl af,zYJ E s l bs (⟨0,λ_=>default⟩) e e w k=k true:=λe he w=>by
  rw[ZfD,show(e != 0)=true by simpa using he,ed,qdP,ed];exact kn
 obtain⟨p3,p1⟩:=h42 s r l bs hs hl omY;have fin:∀v9 v10 v,zLl E E.N s r l bs v9 v10 v 0 k=zLl E 1 s r l bs v9 v10 (cond (v==0) (cond ((ls bs).all zlO) 0 2) v) (bs.len:Int) k:=λv9 v10 v=>by
  have:=s9a (E:=E) h43 (s:=s) (r:=r) (l:=l) (v9:=v9) (v10:=v10) (k:=k) (show bs.len<=1000 by omega) bs.len 0 omY E.N omY v;rw[<- dqQ]at this;exact this
 have en:∀v9 v10 v,v≠0->zLl E 1 s r l bs v9 v10 v (bs.len:Int) k=zYJ E s l bs v9 v10 v ⟨0,λ_=>⟨0,⟨0,λ_=>0⟩,⟨0,λ_=>0⟩⟩⟩ k:=λv9 v10 v hv=>by
  rw[z8K,eU omY,dS,show(v==0)=false by simpa using hv];rfl
 by_cases h100:100<bs.len
 ·rw [z8J,p3 h100,bn,ZfB,h26 s r l hs hl,bn,ZfC,dZ omY,ed,fin];exact(en _ _ 3 (by decide)).trans (err 3 (by decide) _)
 have p1:=p1 omY;have hd:∀v9 v10,ZbE E s r l bs v9 v10 k=zLl E 1 s r l bs v9 v10 (cond (lV s r l==0) (cond ((ls bs).all zlO) 0 2) (lV s r l)) (bs.len:Int) k:=λv9 v10=>by
  rw[ZfB,h26 s r l hs hl,bn,ZfC,eU omY,dS,fin]
 by_cases h0:lV s r l=0
 case neg =>
  have e:YV s r l ((ls bs).all zlO)=lV s r l:=by unfold YV;rw[show(lV s r l != 0)=true by simpa using h0];rfl
  rcases p1 with⟨_,a⟩|⟨a,_⟩
  case inr=>rw[e]at a;exact absurd a h0
  rw[e]at a;rw[z8J,a,bn,hd,show(lV s r l==0)=false by simpa using h0,dS,en _ _ _ h0];exact err _ h0 _
 cases zWS:(ls bs).all zlO with
 | false =>
  have e:YV s r l false=2:=by unfold YV;rw[h0];rfl
  rw[zWS,e]at p1;rcases p1 with⟨_,a⟩|⟨a,_⟩
  case inr=>cases a
  rw[z8J,a,bn,hd,h0,zWS];exact(en _ _ 2 (by decide)).trans (err 2 (by decide) _)
 | true =>
 rw[zWS]at p1;obtain⟨he,_,h24⟩:=E8 hs h0;have ev1:Ev s l 1:={toEvt:=he,l24:=h24,vw:=rfl};have ev2:Ev s l 2:={toEvt:=he,l24:=h24,vw:=rfl};obtain⟨w,hw,hf⟩:=h28 s r l ev1 ev2;have fx:∀v9 v10,ZbE E s r l bs v9 v10 k=cond (!(xC s l 1&&xC s l 2)) (zYJ E s l bs v9 v10 8 w k) (zYJ E s l bs v9 v10 0 w k):=λv9 v10=>by
  rw[hd,h0,zWS];show zLl E 1 s r l bs v9 v10 0 (bs.len:Int) k=_;rw[z8K,eU omY,dS,hw,bn];rfl
 cases hfew:xC s l 1&&xC s l 2 with
 | false =>
  have e:YV s r l true=8:=by unfold YV;rw[h0,hfew];rfl
  rw[e]at p1;rcases p1 with⟨_,a⟩|⟨a,_⟩
  case inr=>cases a
  rw[z8J,a,bn,fx,hfew,qdU,ed];exact err 8 (by decide) w
 | true =>
 have e:YV s r l true=0:=by unfold YV;rw[h0,hfew];rfl
 rw[e]at p1;rcases p1 with⟨a,_⟩|⟨_,f,F,m,a,ml,me⟩
 ·exact absurd rfl a
 obtain⟨f',F',IU⟩:=hf hfew;subst IU;obtain⟨_,_,n1,n2⟩:=zOl e;have fl:=F'.len n1 n2;obtain⟨W,b,we⟩:=h45 s l f'.aW bs fl omY (λi hi=>F'.agreed he h24 (F'.sub (jA.2 ⟨i,hi,rfl⟩))) (λi hi=>Aa.1 zWS _ (jA.2 ⟨i,hi,rfl⟩));have me':ls m=ls W:=by
  rw[we,<- F.uniq F' he h24];unfold ls;rw[ml,qdW];exact qdg λi hi=>me i (JC.1 hi)
 rw[z8J,a,bn,fx,hfew,OZ,dS];show zYJ E s l bs m 0 0 f'.aW k=_;rw[ZfD,show((0:Int) != 0)=false from rfl,dS,Zio,show((0:Int)==0)=true from rfl,ed,b,bn,h44 m W omY me',bn,ed];exact kn
theorem s9{E:E9}(N:Big E.N)(h23:Q23 E.c23)(h19:Q19 E.c19)(h42:ZbC E.c42)(h26:Q26 E.c26)(h43:Q43 E.c43)(h28:zOJ E.c28)(h45:Q45 E.c45)(h44:Q44 E.c44):Q9 (F9 E):=λs r l bs=>ae.ext λk=>by
 have hN:=N;refine Eq.trans ?_ bn.symm;have kn:(E.c19 ()).T (λr=>k r)=k true:=by rw[h19,bn]
 rw[e9,h23,bn];cases hsh:zew s l 8 with
 | false=>exact kn
 | true =>
 obtain⟨hs,hl,_⟩:=zxQ hsh;rw[OZ,dS];have body:=s9b (A:=_) (k:=k) N h19 h42 h26 h43 h28 h45 h44 (r:=r) hs hl (bs:=bs);by_cases c1:(bs.len:Int)>10
 ·rw [dZ c1, ed];by_cases c2:(bs.len:Int)<=100
  ·rw[dZ c2,ed];exact kn
  rw[eU c2,dS];by_cases c3:(bs.len:Int)>150
  ·rw[dZ c3,ed];exact kn
  rw[eU c3,dS];exact body omY
 ·rw [eU c1,dS,eU (show ¬(bs.len:Int)>150 by omega),dS];exact body omY
end Go.Proofs
