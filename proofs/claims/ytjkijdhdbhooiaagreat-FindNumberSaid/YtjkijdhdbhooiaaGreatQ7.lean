/- Part 7: framework, functions, plain laws. -/
import Derived.Test.YtjkijdhdbhooiaaGreatQ6
set_option linter.all false
noncomputable section
namespace Go.Proofs
open Go Go.Pm
set_option maxRecDepth 100000
theorem zKn{p:aj}{h:bz}:∀i,i<(gaP p h).len->((gaP p h).get i).Z=p.Z:=by
 have key:∀(a b c:Bool)(x y z w:Sl ay),(∀i,i<x.len->(x.get i).Z=p.Z)->(∀i,i<y.len->(y.get i).Z=p.Z)->(∀i,i<z.len->(z.get i).Z=p.Z)->(∀i,i<w.len->(w.get i).Z=p.Z) ->
   ∀i,i<(cond a (cond b x y) (cond c z w)).len->((cond a (cond b x y) (cond c z w)).get i).Z=p.Z:=by
  intro a b c x y z w h1 h2 h3 h4;cases a<;>cases b<;>cases c<;>assumption
 unfold gaP;exact key _ _ _ _ _ _ _ (λi hi=>absurd hi (Wi i)) (λ_ _=>rfl) (λ_ _=>rfl) (λi hi=>by
  match i,hi with|0,_=>exact(rfl:(gate p _ _).Z=p.Z)|1,_=>exact(rfl:(gate p _ _).Z=p.Z))
theorem zKo{s:ak}(h:fD s=true):∀j,j<s.ai.len->∀i,i<j->(s.ai.get i).Z<(s.ai.get j).Z:=by
 simp only[fD,fQ,cZ]at h;have step:∀j,j+1<s.ai.len->(s.ai.get j).Z<(s.ai.get (j+1)).Z:=λj hj=>by
  have:=h.2 (j+1) hj;simp only[seB,fQ,V8,oD,qjF]at this;exact this.2.resolve_left omY
 intro j
 induction j with
 | zero=>intro _ i hi;omega
 | succ j ih =>
  intro hj i hi;have:=step j hj;by_cases e:i=j;rw[e];exact this;have:=ih omY i omY;omega
theorem zuv{s:ak}{l:Sl bz}{x:Int}{c:jT}{j i:Nat}(he:Evt s l)(vz:l.len<=24)(hv:Val s l x c j)(ne:c≠[])(so:jy (oh s l c)=true)(hf:gy (oh s l c)=true)(hi:i<s.ai.len)(hu:usP l c i=false):atB (oh s l c) (s.ai.get i)=false:=by
 have G:=OM he vz hv ne;have hl:=List.length_pos_iff.2 ne;have m:=hv.mem c[0] (VP hl);have hle:=hv.le;have pl:=he.pl (i:=(c[0]).1.toNat) omY;have z0':((oh s l c).get 0).Z=(s.ai.get (l.get (c[0]).1.toNat).aj.toNat).Z:=by
  rw[zuk hl];exact zKn _ (by have:=m.2.2;unfold Bi at this;show _<(Bh s (l.get (c[0]).1.toNat)).len;omega)
 have nz:((oh s l c).get 0).Z≠(s.ai.get i).Z:=λe=>by
  rw[z0']at e;unfold usP at hu;rw[qjc]at hu;have ne:=hu c[0] (VP hl);have ne:(l.get (c[0]).1.toNat).aj≠(i:Int):=by simpa using ne
  rcases qjR (l.get (c[0]).1.toNat).aj.toNat i with h|h|h
  have:=zKo he.se i hi _ h;omega;omega;have:=zKo he.se _ omY i h;omega
 have o:(Dq (oh s l c) (((oh s l c).get 0).Z==(s.ai.get i).Z)).2=6:=by
  unfold Dq;rw[kS.2 G,so,hf,show(((oh s l c).get 0).Z==(s.ai.get i).Z)=false by simpa using nz];rfl
 unfold atB atB.opn';rw[o];rfl
abbrev zCW(C:ak×Sl bz×af->ae (Sl Int)):Prop:=∀s l t,zQ s l t->∃w:Sl Int,C (s,l,t)=.ok w/\ls w=zCw s l t.View (eH t)
theorem zZd{E:E91}(N:Big E.N)(h65:Q65 E.c65)(h87:Q87 E.c87)(Og:zmc E.FW)(zAs:zm6 E.zuT)(zq3:zm7 E.ZU)(h86:Ew E.c86)(h77:Q77 E.c77):zCW (F91 E):=λs l t ha=>by
 obtain⟨j,hv⟩:=ha.vl;have he:=ha.ev;have hl:=uk rfl hv;have vz:=he.l24;have G:=OM he.toEvt he.l24 hv ha.ne;have hG:=G.2;have hp:=vX he.se;have so:jy (oh s l (eH t))=true:=by
  have:=ha.ag;unfold JG at this;rw[fQ]at this;exact this.2
 have key:∀(m i n:Nat)(w:Sl Int),i+m=s.ai.len->m<n->w.len<=i->∃w':Sl Int,(∀(A:Type)(k:Sl Int->Option A),qc E n s l t (oh s l (eH t)) (i:Int) w k=k w')/\ls w'=ls w++((List.range' i m).filter (Vf s l t.View (eH t))).map Int.ofNat:=by
  intro m
  induction m with
  | zero =>
   intro i n w hi hn hw;obtain⟨n,rfl⟩:∃n',n=n'+1:=⟨n-1,omY⟩;exact⟨w,λA k=>by rw[zwI,dY omY];rfl,by simp⟩
  | succ m ih =>
   intro i n w hi hn hw;obtain⟨n,rfl⟩:∃n',n=n'+1:=⟨n-1,omY⟩;have VG:=Aw he.se (i:=i) omY;have hz:=zwX VG;rw[SG];have us:(!usB l t.Hits t.Hits.len (i:Int))=usP l (eH t) i:=by
    have:=zem (l:=l) (t:=t) (c:=eH t) rfl λh=>(l.get h.toNat).aj==(i:Int);unfold usP;rw[<- this];unfold usB;congr 1
   have st:∀(A:Type)(k:Sl Int->Option A),qc E (n+1) s l t (oh s l (eH t)) (i:Int) w k=cond (Vf s l t.View (eH t) i) (qc E n s l t (oh s l (eH t)) ((i+1:Nat):Int) (mM w (i:Int)) k) (qc E n s l t (oh s l (eH t)) ((i+1:Nat):Int) w k):=λA k=>by
    rw[zwI,dP omY,dF,bf omY,fO,bF omY];unfold Vf;cases(s.ai.get i).View != t.View with
    | true=>rfl
    | false =>
     simp only[dL];rw[h87 l t.Hits _ omY (Ih rfl hv),aX,us];cases hu:usP l (eH t) i with
     | true=>rfl
     | false =>
      simp only[dL];rw[Og _ omY omY,aX];cases hf:gy (oh s l (eH t))with
      | true=>rw[zuv he.toEvt he.l24 hv ha.ne so hf omY hu];rfl
      | false =>
       simp only[dL];have hco:0<(jD (oh s l (eH t))).length:=by
        have:=so;unfold jy at this;rw[hf,dL,oD]at this;omega
       have ho:(Dq (oh s l (eH t)) (((oh s l (eH t)).get 0).Z==(s.ai.get i).Z)).2=0:=by
        unfold Dq;rw[kS.2 G,so,hf];rfl
       obtain⟨a,b,e1,⟨⟨ta,ca,ea⟩,ma⟩,⟨tb,cb,eb⟩,mb⟩:=zAs _ _ G hz hf so;have pa:OV a:=by rw[ea];exact zcg (kP G ca) hz
       have pb:OV b:=by rw[eb];exact zcg (kP G cb) hz
       obtain⟨⟨u,cu,eu⟩,_⟩:=zmi G (Jm (s.ai.get i).Z) (λs hs=>by have:=(kP G hs).2.2;show 0<s.den;omega) hco;obtain⟨⟨v,cv,ev⟩,_⟩:=zmj G (Jm (s.ai.get i).Z) (λs hs=>by have:=(kP G hs).2.2;show 0<s.den;omega) hco;have bl:(wM (oh s l (eH t)) (s.ai.get i).Z).1=red (ik u (s.ai.get i).Z) u.den:=by
        unfold wM;rw[hf,dL];show red (loG _ _).Num (loG _ _).bK=_;rw[eu];rfl
       have bh:(wM (oh s l (eH t)) (s.ai.get i).Z).2=red (ik v (s.ai.get i).Z) v.den:=by
        unfold wM;rw[hf,dL];show red (hiG _ _).Num (hiG _ _).bK=_;rw[ev];rfl
       obtain⟨x1,_,x3,x4⟩:=zmK G (kP G ca) ca.2 ho;obtain⟨_,y2,_,_⟩:=zmK G (kP G cb) cb.2 ho;have da:0<ta.den:=by have:=(kP G ca).2.2;omega
       have db:0<tb.den:=by have:=(kP G cb).2.2;omega
       have l1:Dt (wM (oh s l (eH t)) (s.ai.get i).Z).1 a:=by
        rw[ea];exact qH x3 (b:=Jm (s.ai.get i).Z ta) da (jC da) x1 (AQ da).2
       have l2:Dt a (wM (oh s l (eH t)) (s.ai.get i).Z).1:=by rw[bl];exact ma u cu
       have l3:Dt b (wM (oh s l (eH t)) (s.ai.get i).Z).2:=by
        rw[eb];exact qH (jC db) (b:=Jm (s.ai.get i).Z tb) db x4 (AQ db).1 y2
       have l4:Dt (wM (oh s l (eH t)) (s.ai.get i).Z).2 b:=by rw[bh];exact mb v cv
       have fl:a.Num/a.bK=(wM (oh s l (eH t)) (s.ai.get i).Z).1.Num/(wM (oh s l (eH t)) (s.ai.get i).Z).1.bK:=jqA (FO pa.2.1 x3 l2) (FO x3 pa.2.1 l1);have ce : -(-b.Num/b.bK) = -(-(wM (oh s l (eH t)) (s.ai.get i).Z).2.Num/(wM (oh s l (eH t)) (s.ai.get i).Z).2.bK):=jqA (Ze pb.2.1 x4 l3) (Ze x4 pb.2.1 l4);have lh:a.Num/a.bK<=-(-b.Num/b.bK):=by
        refine jq3 (FO pa.2.1 (b:=red (ik tb (s.ai.get i).Z) tb.den) (jC db) (ma tb cb)) ?_;rw[<- eb];exact zuj pb.2.1
       have nb:aJ (0-b.Num) = -b.Num:=by have:=pb.1;rw[aT omY omY];omega
       have qb:=Za (a:=-b.Num) (b:=b.bK) (by have:=pb.1;omega) pb.2.1;have wb:aJ (0 - -b.Num/b.bK) = -(-b.Num/b.bK):=by rw[aT omY omY];omega
       have fka:FlK a:=⟨by have:=pa.1;omega,pa.2.1,by have:=pa.2.2;omega⟩;have fkb:FlK ⟨-b.Num,b.bK⟩:=⟨by have:=pb.1;show _<=-b.Num/\-b.Num<=_;omega,pb.2.1,by have:=pb.2.2;show b.bK<=_;omega⟩;have zCX:=zq3 ⟨-b.Num,b.bK⟩ fkb;have zCX:E.ZU ⟨-b.Num,b.bK⟩=.ok (-b.Num/b.bK):=zCX;rw[bf omY,e1,aX];show(E.ZU a).T (λr4=>(E.ZU ⟨aJ (0-b.Num),b.bK⟩).T _)=_;rw[zq3 a fka,aX,nb,zCX,aX];unfold atB atB.opn';rw[ho,<- fl,<- ce,h86,aX,wb,h86,aX,bf omY];generalize a.Num/a.bK=lo at lh ⊢;generalize -(-b.Num/b.bK)=hi at lh ⊢;obtain⟨q,hq⟩:=h77 (s.ai.get i) ⟨lo,hi⟩ VG (he.sh.2 i omY)
       show cond (!inB lo (-1000000) 1000000) _ (cond (!inB hi (-1000000) 1000000) _ ((E.c77 (s.ai.get i, ⟨lo, hi⟩)).T fun r8 => cond r8.1 (aU (room (w.len + 1) 8) (qc E n s l t (oh s l (eH t)) ((i + 1 : Nat) : Int) (mM w (i : Int)) k)) (qc E n s l t (oh s l (eH t)) ((i + 1 : Nat) : Int) w k))) =
        cond (cond (decide (lo < -1000000)) false (cond (decide (hi>1000000)) false (Vb ⟨lo,hi⟩&&zO (s.ai.get i) ⟨lo,hi⟩))) (qc E n s l t (oh s l (eH t)) ((i+1:Nat):Int) (mM w (i:Int)) k) (qc E n s l t (oh s l (eH t)) ((i+1:Nat):Int) w k)
       rw[hq,aX,ja omY omY];by_cases c1:lo < -1000000;have:inB lo (-1000000) 1000000=false:=by unfold inB;exact dY omY
       rw[this,dP c1];rfl;rw [dY c1,dL];by_cases c2:hi>1000000;have a1:inB hi (-1000000) 1000000=false:=by unfold inB;exact dY omY
       rw[a1,dP c2];cases inB lo (-1000000) 1000000<;>rfl;have a1:inB lo (-1000000) 1000000=true:=by unfold inB;exact dP omY
       have a2:inB hi (-1000000) 1000000=true:=by unfold inB;exact dP omY
       have sp:Vb ⟨lo,hi⟩=true:=by unfold Vb;exact dP (by show -1000000<=lo/\lo<=hi/\hi<=1000000;omega)
       rw[a1,a2,dY c2,sp,zuu VG sp];rfl
   rw[qdk];cases hm:Vf s l t.View (eH t) i with
   | true =>
    rw[hm]at st;obtain⟨w',a,b⟩:=ih (i+1) n (mM w (i:Int)) omY omY (by show w.len+1<=i+1;omega);refine⟨w',λA k=>(st A k).trans (a A k),?_⟩;rw[b,BK,eU rfl,lM];simp
   | false =>
    rw[hm]at st;obtain⟨w',a,b⟩:=ih (i+1) n w omY omY omY;exact⟨w',λA k=>(st A k).trans (a A k),by rw[b,eY (by simp)]⟩
 obtain⟨w',h,e⟩:=key s.ai.len 0 E.N ⟨0,λ_=>0⟩ omY (by have:=N;omega) (jP _);refine⟨w',ae.ext λk=>?_,e⟩;rw[e91,h65 s l t he.toEvt omY (KD he.vw ha.tv rfl hv ha.ne),aX,U0 rfl];exact h _ k
abbrev zm8(C:ak×bQ×Sl bz×af->ae Bool):Prop:=∀s r l t,zQ s l t->C (s,r,l,t)=.ok (qG s l t.View r (eH t))
theorem zKp{E:zrU}(zbN:ztX E.c196)(h91:zCW E.c91):zm8 (zrV E):=λs r l t ha=>ae.ext λk=>by
 obtain⟨j,hv⟩:=ha.vl;obtain⟨w,hw,e⟩:=h91 s l t ha;rw[e154,zbN s l _ t _ j ha.ev ha.tv rfl hv ha.ne,aX,ha.ag,dF,hw,aX,aX];unfold qG;rw[<- e,fP,kG];cases decide ((t.Hits.len:Int)>=r.yI)<;>rfl
structure zKq (s : ak) (r : bQ) (l : Sl bz) (x : Int) (w : Sl af) : Prop where
  le:w.len<=2001
  tv:∀t∈ls w,OL x t/\zQ s l t
  ch:(ls w).map eH=(kw s l x).filter (qG s l x r)
abbrev zCY(C:ak×bQ×Sl bz×Int->ae (Sl af×Bool)):Prop:=∀s r l x,Ev s l x->∃w:Sl af,C (s,r,l,x)=.ok (w,ql s l x)/\(ql s l x=true->zKq s r l x w)
theorem zZe{E:E94}(N:Big E.N)(zAu:zCn E.zuU)(zAv:zm8 E.c154):zCY (F94 E):=λs r l x he=>by
 obtain⟨v,h1,h2,h3,h4⟩:=zAu s l x he;have ha:∀i,i<v.len->zQ s l (v.get i):=λi hi=>Zc he (h3 i hi) (by rw[<- h2];exact KP (zt1 hi));cases hb:ql s l x with
 | false=>exact⟨⟨0,λ_=>default⟩,ae.ext λk=>by rw[e94,h1,aX];show cond (!ql s l x) _ _=_;rw[hb];rfl,λh=>by cases h⟩
 | true =>
  have key:∀(m i n:Nat)(w:Sl af),i+m=v.len->m<n->w.len<=i->(∀t∈ls w,OL x t/\zQ s l t)->∃w':Sl af,(∀(A:Type)(k:Sl af×Bool->Option A),Jj E n s r l v (i:Int) w k=k (w',true))/\w'.len<=v.len/\(∀t∈ls w',OL x t/\zQ s l t)/\(ls w').map eH=(ls w).map eH++((List.range' i m).map λj=>eH (v.get j)).filter (qG s l x r):=by
   intro m
   induction m with
   | zero =>
    intro i n w hi hn hw hq;obtain⟨n,rfl⟩:∃n',n=n'+1:=⟨n-1,omY⟩;exact⟨w,λA k=>by rw[zwM,dY omY];rfl,omY,hq,by simp⟩
   | succ m ih =>
    intro i n w hi hn hw hq;obtain⟨n,rfl⟩:∃n',n=n'+1:=⟨n-1,omY⟩;have tv:=h3 i omY;have st:∀(A:Type)(k:Sl af×Bool->Option A),Jj E (n+1) s r l v (i:Int) w k=cond (qG s l x r (eH (v.get i))) (Jj E n s r l v ((i+1:Nat):Int) (mM w (v.get i)) k) (Jj E n s r l v ((i+1:Nat):Int) w k):=λA k=>by
     rw[zwM,dP omY,dF,bf omY,fO,zAv s r l _ (ha i omY),aX,bF omY,bf omY,ja omY omY,tv.1];rfl
    rw[SG,lM,qdk];cases hf:qG s l x r (eH (v.get i))with
    | true =>
     rw[hf]at st;obtain⟨w',a,c,d,e⟩:=ih (i+1) n (mM w (v.get i)) omY omY (by show w.len+1<=i+1;omega) (zCN hq ⟨tv,ha i omY⟩);refine⟨w',λA k=>(st A k).trans (a A k),c,d,?_⟩;rw[e,BK,Qn,eU rfl];simp
    | false =>
     rw[hf]at st;obtain⟨w',a,c,d,e⟩:=ih (i+1) n w omY omY omY hq;exact⟨w',λA k=>(st A k).trans (a A k),c,d,by rw[e,eY (by simp)]⟩
  obtain⟨w',a,c,d,e⟩:=key v.len 0 E.N ⟨0,Vg⟩ omY (by have:=N;omega) (jP _) (λt h=>by cases h);have few:=qdE hb;refine⟨w',ae.ext λk=>?_,λ_=>⟨omY,d,?_⟩⟩;rw [e94,h1,aX];show cond (!ql s l x) _ _=_;rw[hb];exact a _ k;rw[e,<- Va few,<- h2,<- dq7];rfl
abbrev zm9(C:af×af->ae Bool):Prop:=∀a b,One a->One b->∃r,C (a,b)=.ok r/\(r=true↔Ie a b)
theorem zKr{E:zrG}(h38:Zb E.c38):zm9 (zrH E):=λa b ha hb=>by
 have a1:=ha.le;have a2:=ha.sd;have b1:=hb.le;have b2:=hb.sd;refine⟨_,ae.ext λk=>by rw[zVG,h38 _ _ omY omY,aX,h38 _ _ omY omY,aX,kc k,kc k,aX],?_⟩;unfold Ie;by_cases v:a.View=b.View;rw [show(a.View != b.View)=false by simpa using v,dL];by_cases h:cmpL (fB a.Hits) (fB b.Hits)=0;rw [h,show((0:Int) != 0)=false from rfl,dL,oD];have e:=lZ.1 h;constructor;intro q;exact .inr ⟨v,.inr ⟨e,q⟩⟩;rintro(q|⟨_,q|⟨_,q⟩⟩);omega;omega;exact q;rw [show(cmpL (fB a.Hits) (fB b.Hits) != 0)=true by simpa using h,dF,oD];constructor;intro q;exact .inr ⟨v,.inl q⟩;rintro(q|⟨_,q|⟨q,_⟩⟩);omega;exact q;exact absurd (lZ.2 q) h;rw [show(a.View != b.View)=true by simpa using v,dF,oD];constructor;intro q;exact .inl q;rintro(q|⟨q,_⟩);exact q;exact absurd q v
structure zKs (s : ak) (r : bQ) (l : Sl bz) (x : Int) (v w : Sl af) : Prop where
  fit:zKq s r l x v
  le:w.len<=2001
  pm:(ls w).Perm ((ls v).filter λt=>!(ls v).any λx=>Il x t)
  st:(ls w).Pairwise Ie
abbrev zxe(C:ak×bQ×Sl bz×Int->ae (Sl af×Bool)):Prop:=∀s r l x,Ev s l x->∃v w:Sl af,C (s,r,l,x)=.ok (w,ql s l x)/\w.len<=2001/\(ql s l x=true->zKs s r l x v w)
theorem zZf{E:E88}(N:Big E.N)(h94:zCY E.c94)(h53:Q53 E.c53)(zAp:zm9 E.zuR):zxe (F88 E):=λs r l x he=>by
 have hN:=N;obtain⟨v,h1,h2⟩:=h94 s r l x he;cases hb:ql s l x with
 | false=>exact⟨v,_,ae.ext λk=>by rw[e88,h1,aX];show cond (!ql s l x) _ _=_;rw[hb];rfl,Ad _,λh=>by cases h⟩
 | true =>
  have F:=h2 hb;have vl:=F.le;have ha:∀i,i<v.len->zQ s l (v.get i):=λi hi=>(F.tv _ (iC.2 ⟨i,hi,rfl⟩)).2;have hx:∀i,i<v.len->OL x (v.get i):=λi hi=>(F.tv _ (iC.2 ⟨i,hi,rfl⟩)).1;have dif:∀i j,i<v.len->j<v.len->i≠j->eH (v.get i)≠eH (v.get j):=by
   have nd:((ls v).map eH).Nodup:=by rw[F.ch];exact(Fv (Io s l x) _ _ _).filter _
   have P:=dq9.1 nd;have ge:∀i (hi:i<v.len),((ls v).map eH)[i]'(by rw[VM,fP];exact hi)=eH (v.get i):=λi hi=>by
    rw[List.getElem_map];have:=l7 (w:=v) hi;rw[yC (by rw[fP];exact hi)]at this;rw[SH this]
   intro i j hi hj Ju;rcases qdP i j with h|h
   have:=P i j (by rw [VM,fP];exact hi) (by rw [VM,fP];exact hj) h;rwa[ge i hi,ge j hj]at this;have:=P j i (by rw [VM,fP];exact hj) (by rw [VM,fP];exact hi) omY;rw[ge i hi,ge j hj]at this;exact λe=>this e.symm
  let P:Nat->Bool:=λi=>(List.range' 0 v.len).all λq=>(i==q) || !Ig (v.get q) (v.get i)
  have mo:∀n0 (i:Nat),i<v.len->∀(m j n1:Nat)(w:Sl af)(f:Bool),j+m=v.len->m<n1->∀(A:Type)(k:Sl af×Bool->Option A),RD E n0 n1 v (i:Int) f (j:Int) w k=cond (f&&(List.range' j m).all λq=>(i==q) || !Ig (v.get q) (v.get i)) (Ji E n0 E.N v w (i:Int) 0 k) (ED E n0 v ((i+1:Nat):Int) w k):=by
   intro n0 i hi m
   induction m with
   | zero =>
    intro j n1 w f hj hn A k;obtain⟨n1,rfl⟩:∃n',n1=n'+1:=⟨n1-1,omY⟩;rw[zwG,dY omY,dL,bF omY];cases f<;>rfl
   | succ m ih =>
    intro j n1 w f hj hn A k;obtain⟨n1,rfl⟩:∃n',n1=n'+1:=⟨n1-1,omY⟩;rw[zwG,dP omY,dF,bF omY,SG,qd4];cases f with
    | false=>rw[dL,ih (j+1) n1 w false omY omY];rfl
    | true =>
     rw[dF];by_cases e:i=j;rw[show((i:Int)==(j:Int))=true by rw[KN];omega,dF,ih (j+1) n1 w true omY omY,show(i==j)=true by rw[KN];exact e];rfl;rw[show((i:Int)==(j:Int))=false by rw[qdU];omega,dL,bf omY,bf omY,fO,fO,h53 _ _ (ha j omY).inc (ha i hi).inc,aX,ih (j+1) n1 w _ omY omY,show(i==j)=false by rw[qdU];exact e,qjB,Jv]
  have pos:∀n0 (i:Nat),i<v.len->∀(w:Sl af),(∀t∈ls w,One t)->∀(m j n1:Nat),j+m=w.len->w.len<=2001->m<n1->∃a,a<=w.len/\(∀q,j<=q->q<a->Ie (w.get q) (v.get i))/\(a<w.len->¬Ie (w.get a) (v.get i))/\∀(A:Type)(k:Sl af×Bool->Option A),Ji E n0 n1 v w (i:Int) (j:Int) k=RF E n0 v w (i:Int) (a:Int) k:=by
   intro n0 i hi w hw m
   induction m with
   | zero =>
    intro j n1 hj hl hn;obtain⟨n1,rfl⟩:∃n',n1=n'+1:=⟨n1-1,omY⟩;exact⟨j,omY,λq a b=>by omega,λa=>by omega,λA k=>by rw[zwH,dY omY];rfl⟩
   | succ m ih =>
    intro j n1 hj hl hn;obtain⟨n1,rfl⟩:∃n',n1=n'+1:=⟨n1-1,omY⟩;obtain⟨b,eb,bi⟩:=zAp (w.get j) (v.get i) (hw _ (iC.2 ⟨j,omY,rfl⟩)) (ha i hi).one;have st:∀(A:Type)(k:Sl af×Bool->Option A),Ji E n0 (n1+1) v w (i:Int) (j:Int) k=cond b (Ji E n0 n1 v w (i:Int) ((j+1:Nat):Int) k) (RF E n0 v w (i:Int) (j:Int) k):=λA k=>by
     rw[zwH,dP omY,dF,bf omY,bf omY,fO,fO,eb,aX,bF omY]
    cases b with
    | true =>
     obtain⟨a,a1,a2,a3,a4⟩:=ih (j+1) n1 omY hl omY;refine⟨a,a1,λq h1 h2=>?_,a3,λA k=>(st A k).trans (a4 A k)⟩;by_cases e:q=j;rw[e];exact bi.1 rfl;exact a2 q omY h2
    | false=>exact⟨j,omY,λq a b=>by omega,λ_ h=>(by cases bi.2 h),λA k=>st A k⟩
  have key:∀(m i n:Nat)(w:Sl af),i+m=v.len->m<n->w.len<=i->(ls w).Pairwise Ie->(ls w).Perm (((List.range i).filter P).map v.get)->∃w':Sl af,(∀(A:Type)(k:Sl af×Bool->Option A),ED E n v (i:Int) w k=k (w',true))/\w'.len<=v.len/\(ls w').Pairwise Ie/\(ls w').Perm (((List.range v.len).filter P).map v.get):=by
   intro m
   induction m with
   | zero =>
    intro i n w hi hn hw hs hp;obtain⟨n,rfl⟩:∃n',n=n'+1:=⟨n-1,omY⟩;rw[show i=v.len by omega]at hp;exact⟨w,λA k=>by rw[zwF,dY omY];rfl,omY,hs,hp⟩
   | succ m ih =>
    intro i n w hi hn hw hs hp;obtain⟨n,rfl⟩:∃n',n=n'+1:=⟨n-1,omY⟩;have jY:i<v.len:=by omega
    have inw:∀t∈ls w,∃j,j<i/\t=v.get j:=λt ht=>by
     obtain⟨j,hj,e⟩:=uu.1 (hp.mem_iff.1 ht);exact⟨j,by have:=(Qp.1 hj).1;simpa using this,e.symm⟩
    have one:∀t∈ls w,One t:=λt ht=>by
     obtain⟨j,hj,e⟩:=inw t ht;rw[e];exact(ha j omY).one
    have sp:List.range (i+1)=List.range i++[i]:=qjE;have st:∀(A:Type)(k:Sl af×Bool->Option A),ED E (n+1) v (i:Int) w k=cond (P i) (Ji E n E.N v w (i:Int) 0 k) (ED E n v ((i+1:Nat):Int) w k):=λA k=>by
     rw[zwF,dP omY,dF];exact mo n i jY v.len 0 E.N w true omY omY A k
    cases hP:P i with
    | false =>
     rw[hP]at st;obtain⟨w',a,b,c,d⟩:=ih (i+1) n w omY omY omY hs (by rw[sp,qjn,qdk,eY (by rw[hP];simp)];simpa using hp);exact⟨w',λA k=>(st A k).trans (a A k),b,c,d⟩
    | true =>
     rw[hP]at st;obtain⟨a,a1,a2,a3,a4⟩:=pos n i jY w one w.len 0 E.N omY omY omY;let w1:Sl af:=⟨(((a:Int)-0).toNat+1)+((w.len:Int)-(a:Int)).toNat,iR (((a:Int)-0).toNat+1) (iR ((a:Int)-0).toNat (xZ w.get 0) (λ_=>v.get (i:Int).toNat)) (xZ w.get (a:Int).toNat)⟩;have i1:∀(A:Type)(k:Sl af×Bool->Option A),RF E n v w (i:Int) (a:Int) k=ED E n v ((i+1:Nat):Int) w1 k:=λA k=>by
      rw[zIY,bf omY,ja omY omY,bf omY,ja omY omY,bf omY,ja omY omY,bF omY]
     have i2:w1.len=w.len+1:=by show((((a:Int)-0).toNat+1)+((w.len:Int)-(a:Int)).toNat)=_;omega
     have i3:ls w1=(ls w).take a++v.get i::(ls w).drop a:=by
      have:=zm4 w a a1 (v.get (i:Int).toNat);rw[show v.get (i:Int).toNat=v.get i by rw[fO]]at this;exact this
     have gw':∀q (hq:q<(ls w).length),(ls w)[q]=w.get q:=λq hq=>by
      have:=l7 (w:=w) (i:=q) (by rw[fP]at hq;exact hq);rw[yC hq]at this;exact SH this
     have tk:∀y∈(ls w).take a,Ie y (v.get i):=λy hy=>by
      obtain⟨q,hq,e⟩:=qdV hy;rw[List.getElem_take,gw']at e;rw[qdC,fP]at hq;rw[<- e];exact a2 q (Ad _) omY
     have dr:∀y∈(ls w).drop a,Ie (v.get i) y:=λy hy=>by
      obtain⟨q,hq,e⟩:=qdV hy;rw[List.getElem_drop,gw']at e;rw[VO,fP]at hq;have first:Ie (v.get i) (w.get a):=by
       have na:=a3 omY;obtain⟨j,hj,ej⟩:=inw (w.get a) (iC.2 ⟨a,omY,rfl⟩);have nd:¬((v.get i).View=(w.get a).View/\fB (v.get i).Hits=fB (w.get a).Hits/\fB (v.get i).bu=fB (w.get a).bu):=λh=>by
        rw[ej]at h;exact dif i j jY omY omY (zmn h.2.1 h.2.2 (hx i jY).2 (hx j omY).2)
       exact(zej nd).resolve_right na
      rw[<- e];by_cases e0:q=0;subst e0;exact first
      have:=dq9.1 hs a (a+q) (by rw [fP];omega) (by rw [fP];omega) omY;rw[gw',gw']at this;exact zb4 first this
     have s1:(ls w1).Pairwise Ie:=by
      rw[i3,qdy,qdm];have pM:=hs;rw[<- qjt a (ls w),qdy]at pM;refine⟨pM.1,⟨dr,pM.2.1⟩,λy hy z hz=>?_⟩;rcases jV.1 hz with e|h
      rw[e];exact tk y hy;exact pM.2.2 y hy z h
     have p1:(ls w1).Perm (((List.range (i+1)).filter P).map v.get):=by
      rw[i3,sp,qjn,qdk,eU hP,Qn];refine List.perm_middle.trans ?_;rw[qjt];exact(List.Perm.cons _ hp).trans (List.perm_append_comm (l₁:=[v.get i]))
     obtain⟨w',b1,b2,b3,b4⟩:=ih (i+1) n w1 omY omY omY s1 p1;exact⟨w',λA k=>(st A k).trans ((a4 A k).trans ((i1 A k).trans (b1 A k))),b2,b3,b4⟩
  obtain⟨w',a,b,c,d⟩:=key v.len 0 E.N ⟨0,Vg⟩ omY omY (jP _) List.Pairwise.nil (List.Perm.refl _);refine⟨v,w',ae.ext λk=>?_,omY,λ_=>⟨F,omY,?_,c⟩⟩;rw [e88,h1,aX];show cond (!ql s l x) _ _=_;rw[hb];exact a _ k;refine d.trans (qj3 ?_);unfold ls;rw[List.filter_map];congr 1;refine qjQ λi hi=>?_;have hi:i<v.len:=by simpa using hi
  show P i = !((List.range v.len).map v.get).any λx=>Il x (v.get i);rw[PN,yL,JS,qjc];constructor;intro h y hy hg;obtain⟨q,hq,rfl⟩:=uu.1 hy;have hq:q<v.len:=by simpa using hq
  have:=h q (by simp;omega);unfold Il at hg;rw[fQ,oD]at hg;rw[V8,KN,hg.2]at this;rcases this with e|e
  rw[e]at hg;omega;cases e;intro h q hq;have hq:q<v.len:=by simp at hq;omega
  rw[V8,KN];by_cases e:i=q;exact .inl e
  ·refine .inr ?_;rw[JS];cases hc:Ig (v.get q) (v.get i)with
   | false=>rfl
   | true =>
    have hc':=zmo.1 hc;obtain⟨jq,vq⟩:=(ha q hq).vl;obtain⟨ji,vi⟩:=(ha i hi).vl;obtain⟨le,eq⟩:=zes (vi.pw.imp λh=>h.1) (vq.pw.imp λh=>h.1) hc'.1;rw[kG,kG]at le eq;have ng:=h (v.get q) (qjk (KQ.2 hq));have lt:(v.get q).Hits.len>(v.get i).Hits.len:=by
     rcases qdP (v.get i).Hits.len (v.get q).Hits.len with h|h
     exact h;exact absurd (eq omY) (dif i q hi hq e)
    exact absurd (show Il (v.get q) (v.get i)=true by unfold Il;rw[hc,dP omY];rfl) ng
abbrev zKt(C:ak×bQ×Sl bz->ae (Sl af×Bool)):Prop:=∀s r l,Ev s l 1->Ev s l 2->∃w:Sl af,C (s,r,l)=.ok (w,ql s l 1&&ql s l 2)/\((ql s l 1&&ql s l 2)=true->∃f:found,JH s r l f/\f.bn=w)
theorem zZg{E:E28}(h88:zxe E.v88):zKt (F28 E):=λs r l h1 h2=>by
 obtain⟨x,a,a1,a2,a3⟩:=h88 s r l 1 h1;obtain⟨y,b,b1,b2,b3⟩:=h88 s r l 2 h2;refine⟨⟨a.len+b.len,iR a.len a.get b.get⟩,ae.ext λk=>?_,λh=>?_⟩;rw [e28,a1,aX,b1,aX,ja (show a.len+b.len≤1000000 by omega) omY];show cond (ql s l 1) _ _=_;cases ql s l 1<;>rfl;rw[fQ]at h;have K1:=a3 h.1;have K2:=b3 h.2;have v1:∀t∈ls x,t.View=1:=λt ht=>(K1.fit.tv t ht).1.1;have v2:∀t∈ls y,t.View=2:=λt ht=>(K2.fit.tv t ht).1.1;have w1:∀t∈ls a,t.View=1:=λt ht=>v1 t (Qp.1 (K1.pm.mem_iff.1 ht)).1;have w2:∀t∈ls b,t.View=2:=λt ht=>v2 t (Qp.1 (K2.pm.mem_iff.1 ht)).1;have nv:∀p q:af,p.View≠q.View->Il p q=false:=λp q hpq=>by
  unfold Il Ig;rw[show(q.View==p.View)=false by rw[qdU];exact λe=>hpq e.symm,qd7,qd7]
 refine⟨⟨jf s r l,⟨x.len+y.len,iR x.len x.get y.get⟩,⟨a.len+b.len,iR a.len a.get b.get⟩⟩,⟨rfl,⟨ls x,ls y,Ik x y,λt ht=>(K1.fit.tv t ht).1,λt ht=>(K2.fit.tv t ht).1,K1.fit.ch,K2.fit.ch⟩,?_,?_⟩,rfl⟩;show(ls (⟨a.len+b.len,iR a.len a.get b.get⟩:Sl af)).Perm ((ls (⟨x.len+y.len,iR x.len x.get y.get⟩:Sl af)).filter fun t => !(ls (⟨x.len+y.len,iR x.len x.get y.get⟩:Sl af)).any fun x=>Il x t);rw[Ik,Ik,qjn];refine List.Perm.append (K1.pm.trans (qj3 ?_)) (K2.pm.trans (qj3 ?_));refine qjQ fun t ht => ?_;rw[List.any_append];have:(ls y).any (λx=>Il x t)=false:=by
  rw[qjc];intro q hq;rw[nv q t (by rw[v2 q hq,v1 t ht];omega)];simp
 rw[this,Bool.or_false];refine qjQ fun t ht => ?_;rw[List.any_append];have:(ls x).any (λx=>Il x t)=false:=by
  rw[qjc];intro q hq;rw[nv q t (by rw[v1 q hq,v2 t ht];omega)];simp
 rw[this,qjB];show(ls (⟨a.len+b.len,iR a.len a.get b.get⟩:Sl af)).Pairwise Ie;rw[Ik,qdy];refine⟨K1.st,K2.st,λp hp q hq=>.inl ?_⟩;rw[w1 p hp,w2 q hq];omega
theorem zna{t u:af}(h:fB t.Hits=fB u.Hits):∀i,i≤t.Hits.len→bt t i=bt u i
  | 0,_=>rfl
  | i+1,hi=>by
    have ln:u.Hits.len=t.Hits.len:=by have:=jZ List.length h;rw[fC,fC]at this;exact this.symm
    have e:(fB t.Hits)[i]? = (fB u.Hits)[i]?:=by rw[h]
    rw[show(fB t.Hits)[i]? = some (t.Hits.get i)from l7 (w:=t.Hits) omY,show(fB u.Hits)[i]? = some (u.Hits.get i)from l7 (w:=u.Hits) omY,bM]at e;show bt t i ||| 2^(t.Hits.get i).toNat=bt u i ||| 2^(u.Hits.get i).toNat
    rw[zna h i omY,e]
theorem zCZ{t u:af}(h:eH t=eH u):bt t t.Hits.len=bt u u.Hits.len:=by
 have e:fB t.Hits=fB u.Hits:=by rw[<- zet,<- zet,h]
 have ln:u.Hits.len=t.Hits.len:=by have:=jZ List.length e;rw[fC,fC]at this;exact this.symm
 rw[zna e _ (jP _),ln]
theorem Zq{x:Int}:∀{L M:List af},L.map lQ=M.map lQ→lL L x=lL M x
  | [],[],_=>rfl
  | [],_::_,h=>by cases h
  | _::_,[],h=>by cases h
  | t::L,u::M,h=>by
    rw[lM,lM,Du]at h;have ih:=Zq (x:=x) h.2;have h1:(t.View,eH t)=(u.View,eH u):=h.1;rw[gq]at h1;unfold lL at ih ⊢;rw[qdk,qdk,h1.1];cases u.View==x with|true=>rw[eU rfl,eU rfl,lM,lM,ih,zCZ h1.2]|false=>rw[eY Bool.false_ne_true,eY Bool.false_ne_true,ih]
theorem zuw(T:Sl af)(x:Int):lL (ls T) x=(OZ T x).map (bq T):=by
 unfold lL OZ;rw[JI,List.filter_map,qdF,qdF];rfl
theorem zC0{f g:found}(h:(ls f.bn).map lQ=(ls g.bn).map lQ)(x:Int):fst (λj=>(f.bn.get j).View==x) f.bn.len 0=fst (λj=>(g.bn.get j).View==x) g.bn.len 0:=by
 have e:∀f:found,fst (λj=>(f.bn.get j).View==x) f.bn.len 0=fsV x (((ls f.bn).map lQ).map (·.1)) 0:=λf=>by
  rw[<- zm0 (x:=x) (λj=>(f.bn.get j).View),JI,qdF,qdF];rfl
 rw[e,e,h]
theorem KH:∀{c:Nat}{o:Int},(Dp o c).length=c|0,_=>rfl|c+1,o=>by show(Dp (o+1) c).length+1=_;rw[KH]
structure Num (T : Sl af) (x o : Int) (c : Nat) : Prop where
  tl:T.len<=10000
  hl:∀i,i<T.len->(T.get i).Hits.len<=100
  of:OZ T x=Dp o c
  sm:∀j∈Dp o c,Sm (T.get j.toNat)
theorem JH.num{s:ak}{r:bQ}{l:Sl bz}{f:found}(F:JH s r l f)(he:Evt s l)(vz:l.len<=24)(hl:f.bn.len<=10000)(x:Int):Num f.bn x (fst (λj=>(f.bn.get j).View==x) f.bn.len 0) (lL (ls f.bn) x).length:=by
 have sm:∀i,i<f.bn.len->Sm (f.bn.get i):=λi hi=>zw2 (F.chs he vz hi);refine⟨hl,λi hi=>(sm i hi).1,F.of x,λj hj=>?_⟩;rw[<- F.of x]at hj;unfold OZ at hj;obtain⟨i,hi,rfl⟩:=uu.1 hj;have:=qjS.1 (Qp.1 hi).1;exact sm i omY
abbrev zZh(C:ak×bQ×Sl bz->ae (Sl af×Bool)):Prop:=∀s r l,Ev s l 1->Ev s l 2->∃w:Sl af,C (s,r,l)=.ok (w,ql s l 1&&ql s l 2)/\w.len<=10000/\((ql s l 1&&ql s l 2)=true->∃f:found,JH s r l f/\f.bn=w)
theorem z9h{E:E28}(h88:zxe E.v88):zZh (F28 E):=λs r l h1 h2=>by
 obtain⟨w,hw,hf⟩:=zZg h88 s r l h1 h2;obtain⟨x,a,a1,a2,a3⟩:=h88 s r l 1 h1;obtain⟨y,b,b1,b2,b3⟩:=h88 s r l 2 h2;have e:F28 E (s,r,l)=.ok (⟨a.len+b.len,iR a.len a.get b.get⟩,ql s l 1&&ql s l 2):=ae.ext λk=>by
  rw[e28,a1,aX,b1,aX,ja (show a.len+b.len<=1000000 by omega) omY];show cond (ql s l 1) _ _=_;cases ql s l 1<;>rfl
 have k:=jZ (λc=>ae.T c some) (hw.symm.trans e);simp only[aX,bM,gq]at k;exact⟨w,hw,by rw[k.1];show a.len+b.len<=10000;omega,hf⟩
structure E37 where
 N:Nat
 VE:(Sl af)×Int->ae ((Sl Int))
 znK:(Sl Int)->ae ((Sl (Sl Int)))
 c40:(Sl af)×Int×(Sl Int)->ae Bool
 c38:(Sl Int)×(Sl Int)->ae Int
 c41:(Sl af)×(Sl Int)->ae Bool
abbrev G37(E:E37):bI:=gQ (((((Tabs.nil.addF 35 (ae.un E.VE)).addF 102 (ae.un E.znK)).addF 40 (ae.un E.c40)).addF 38 (ae.un E.c38)).addF 41 (ae.un E.c41)) []
def A37:dG:=bP aB 37 [] {ks:=[(1,14,⟨[],[],[],[],[],[],[(0,8,0,3)]⟩)]}
def F37(E:E37):(Sl af)×Int->ae ((Sl Int)×(Sl Int)):=ae.ty (aF aB E.N (G37 E) A37 37)
section
variable(E:E37){A:Type}(k:((Sl Int)×(Sl Int))->Option A)
def znb(E:E37)(n:Nat)(a0:Sl af)(a1:Int)(v6:(Sl (Sl Int)))(v7:Sl Int)(v9:Int){A:Type}(k:((Sl Int)×(Sl Int))->Option A):Option A:=iK aB (G37 E) E.N A37 37 [1,1,1,0,1,0] [.n n] (iJ k) ⟨[(0,eP a0),(1,.int a1),(6,eP v6),(7,eP v7),(8,.cl (.p (.nils))),(9,.int v9)],[],[]⟩
def zeB(E:E37)(n:Nat)(a0:Sl af)(a1:Int)(v6:(Sl (Sl Int)))(v7:Sl Int)(v10:Int){A:Type}(k:((Sl Int)×(Sl Int))->Option A):Option A:=iK aB (G37 E) E.N A37 37 [1,1,1,1,0,1,0] [.n n] (iJ k) ⟨[(0,eP a0),(1,.int a1),(6,eP v6),(7,eP v7),(8,.cl (.p (.nils))),(10,.int v10)],[],[]⟩
def zai(E:E37)(n:Nat)(a0:Sl af)(v6:(Sl (Sl Int)))(v7 v8:Sl Int)(v11:Int){A:Type}(k:((Sl Int)×(Sl Int))->Option A):Option A:=iK aB (G37 E) E.N A37 37 [1,1,1,1,1,0,1,0] [.n n] (iJ k) ⟨[(0,eP a0),(6,eP v6),(7,eP v7),(8,eP v8),(11,.int v11)],[],[]⟩
theorem e37(a0:Sl af)(a1:Int):(F37 E (a0,a1)).T k=(E.VE (a0,a1)).T λr1=>(E.znK r1).T λr2=>(E.VE (a0,a1)).T λr3=>znb E E.N a0 a1 r2 r3 0 k:=dU
theorem zRj(n0:Nat)(a0:Sl af)(a1:Int)(v6:(Sl (Sl Int)))(v7:Sl Int)(v9:Int):znb E (n0+1) a0 a1 v6 v7 v9 k=cond (decide (v9<(v6.len:Int))) (aU (decide (0<=v9/\v9<(v6.len:Int))) (cond (decide (((v6.get v9.toNat).len:Int)<(v7.len:Int))) (aU (decide (0<=v9/\v9<(v6.len:Int))) ((E.c40 (a0,a1,(v6.get v9.toNat))).T λr1=>cond r1 (aU (decide (0<=v9/\v9<(v6.len:Int))) (znb E n0 a0 a1 v6 (v6.get v9.toNat) (aJ (v9+1)) k)) (znb E n0 a0 a1 v6 v7 (aJ (v9+1)) k))) (znb E n0 a0 a1 v6 v7 (aJ (v9+1)) k))) (zeB E E.N a0 a1 v6 v7 0 k):=krY
theorem zRk(n0:Nat)(a0:Sl af)(a1:Int)(v6:(Sl (Sl Int)))(v7:Sl Int)(v10:Int):zeB E (n0+1) a0 a1 v6 v7 v10 k=cond (decide (v10<(v6.len:Int))) (aU (decide (0<=v10/\v10<(v6.len:Int))) (cond (((v6.get v10.toNat).len:Int)==(v7.len:Int)) (aU (decide (0<=v10/\v10<(v6.len:Int))) ((E.c38 ((v6.get v10.toNat),v7)).T λr1=>cond (decide (r1<0)) (aU (decide (0<=v10/\v10<(v6.len:Int))) ((E.c40 (a0,a1,(v6.get v10.toNat))).T λr2=>cond r2 (aU (decide (0<=v10/\v10<(v6.len:Int))) (zeB E n0 a0 a1 v6 (v6.get v10.toNat) (aJ (v10+1)) k)) (zeB E n0 a0 a1 v6 v7 (aJ (v10+1)) k))) (zeB E n0 a0 a1 v6 v7 (aJ (v10+1)) k))) (zeB E n0 a0 a1 v6 v7 (aJ (v10+1)) k))) (zai E E.N a0 v6 v7 (⟨0,(λ_=>0)⟩:(Sl Int)) 0 k):=krY
theorem zRl(n0:Nat)(a0:Sl af)(v6:(Sl (Sl Int)))(v7 v8:Sl Int)(v11:Int):zai E (n0+1) a0 v6 v7 v8 v11 k=cond (decide (v11<(v6.len:Int))) (aU (decide (0<=v11/\v11<(v6.len:Int))) ((E.c41 (a0,(v6.get v11.toNat))).T λr1=>cond r1 (aU (decide (0<=v11/\v11<(v6.len:Int))) (cond (decide (((v6.get v11.toNat).len:Int)>(v8.len:Int))) (aU (decide (0<=v11/\v11<(v6.len:Int))) (zai E n0 a0 v6 v7 (v6.get v11.toNat) (aJ (v11+1)) k)) (aU (decide (0<=v11/\v11<(v6.len:Int))) (cond (((v6.get v11.toNat).len:Int)==(v8.len:Int)) (aU (decide (0<=v11/\v11<(v6.len:Int))) ((E.c38 ((v6.get v11.toNat),v8)).T λr2=>cond (decide (r2<0)) (aU (decide (0<=v11/\v11<(v6.len:Int))) (zai E n0 a0 v6 v7 (v6.get v11.toNat) (aJ (v11+1)) k)) (zai E n0 a0 v6 v7 v8 (aJ (v11+1)) k))) (zai E n0 a0 v6 v7 v8 (aJ (v11+1)) k))))) (zai E n0 a0 v6 v7 v8 (aJ (v11+1)) k))) (k (v7,v8)):=krY
end
theorem o37 [aH](E:E37)(h35:Ok aB 35 (ae.un E.VE))(zKh:Ok aB 102 (ae.un E.znK))(h40:Ok aB 40 (ae.un E.c40))(h38:Ok aB 38 (ae.un E.c38))(h41:Ok aB 41 (ae.un E.c41)):Ok aB 37 (ae.un (F37 E)):=dV (((((au.nil.addF h35).addF zKh).addF h40).addF h38).addF h41)
def zhP(o:Int)(c:Nat)(v:Sl Int):Prop:=∃s:List Bool,s.length=c/\fB v=ed o s
structure Scn (T : Sl af) (x o : Int) (c : Nat) (all : Sl (Sl Int)) : Prop extends Num T x o c where
  c9:c<=10
  al:(ls all).map fB=subs (Dp o c)
theorem Scn.cand{T:Sl af}{x o:Int}{c:Nat}{all:Sl (Sl Int)}(h:Scn T x o c all){j:Nat}(hj:j<all.len):zhP o c (all.get j):=by
 have:fB (all.get j)∈subs (Dp o c):=by rw[<- h.al];exact uu.2 ⟨_,iC.2 ⟨j,hj,rfl⟩,rfl⟩
 obtain⟨s,a,b⟩:=(Iq c o _).1 this;exact⟨s,a,b⟩
theorem Scn.in{T:Sl af}{x o:Int}{c:Nat}{all:Sl (Sl Int)}(h:Scn T x o c all){v:Sl Int}(hv:zhP o c v):v.len<=10/\∀j,j<v.len->0<=v.get j/\v.get j<(T.len:Int):=by
 obtain⟨s,hs,e⟩:=hv;have hc:=h.c9;refine⟨?_,λj hj=>?_⟩;have:=jZ List.length e;rw[fC,sU]at this;have:s.count true<=s.length:=qjz;omega;have m:v.get j∈OZ T x:=by
  rw[h.of,<- hs];exact zZ (by rw[<- e];exact iC.2 ⟨j,hj,rfl⟩)
 unfold OZ at m;obtain⟨i,hi,e⟩:=uu.1 m;have:=qjS.1 (Qp.1 hi).1;rw[<- e];show 0<=(i:Int)/\(i:Int)<_;omega
theorem zux{v:Sl Int}{s:List Bool}{o:Int}(h:fB v=ed o s):v.len=s.count true:=by rw[<- fC,h,sU]
theorem zKu{ρ:Type}{X:∀A:Type,(ρ→Option A)→Nat→Sl Int→Nat→Option A}{Y:∀A:Type,(ρ→Option A)→Sl Int→Option A}{get:Nat→Sl Int}{len:Nat}{P Q:Sl Int→Prop}{B:Sl Int→Sl Int→Prop}(rf:∀v,B v v)(tr:∀a b c,B a b→B b c→B a c)
    (st:∀n v i,i<len->P v->∃g:Bool,(∀A k,X A k (n+1) v i=cond g (X A k n (get i) (i+1)) (X A k n v (i+1)))/\(g=true->P (get i)/\B (get i) v)/\(g=false->Q (get i)->B v (get i)))
    (en:∀n v A k,X A k (n+1) v len=Y A k v) {N:Nat} (hN:len<N) (v:Sl Int) (hv:P v):∃v',(∀A k,X A k N v 0=Y A k v')/\P v'/\B v' v/\∀j,0<=j->j<len->Q (get j)->B v' (get j):=by
  suffices key:∀m i n v,i+m=len->m<n->P v->∃v',(∀A k,X A k n v i=Y A k v')/\P v'/\B v' v/\∀j,i<=j->j<len->Q (get j)->B v' (get j)from key len 0 N v (PK _) hN hv
  clear hv v;intro m
  induction m with
  | zero =>
    intro i n v hi hn hv;obtain⟨n,rfl⟩:∃n',n=n'+1:=⟨n-1,omY⟩;obtain rfl:i=len:=by omega
    exact⟨v,λA k=>en n v A k,hv,rf v,λj a b=>by omega⟩
  | succ m ih =>
    intro i n v hi hn hv;obtain⟨n,rfl⟩:∃n',n=n'+1:=⟨n-1,omY⟩;obtain⟨g,s,t,f⟩:=st n v i omY hv;cases g with
    | true =>
      obtain⟨p,b⟩:=t rfl;obtain⟨v',a,b1,b2,b3⟩:=ih (i+1) n _ omY omY p;exact⟨v',λA k=>(s A k).trans (a A k),b1,tr _ _ _ b2 b,λj h1 h2 h3=>(Nat.eq_or_lt_of_le h1).elim (λe=>e▸b2) λh=>b3 j h h2 h3⟩
    | false =>
      obtain⟨v',a,b1,b2,b3⟩:=ih (i+1) n v omY omY hv;exact⟨v',λA k=>(s A k).trans (a A k),b1,b2,λj h1 h2 h3=>(Nat.eq_or_lt_of_le h1).elim (λe=>tr _ _ _ b2 (e▸f rfl (e▸h3))) λh=>b3 j h h2 h3⟩
theorem zKv{a b c:List Int}(h1:cmpL a b<=0)(h2:cmpL b c<=0):cmpL a c<=0:=by
 by_cases e1:cmpL a b=0;rw[lZ.1 e1];exact h2;by_cases e2:cmpL b c=0;rw[<- lZ.1 e2];exact h1;exact xY (BO (show cmpL a b<0 by omega) (show cmpL b c<0 by omega))
theorem zKw{a b:List Int}(h:¬cmpL a b<0):cmpL b a<=0:=by
 by_cases e:b=a;rw[lZ.2 e];exact qd5 _;rcases Jn e with h'|h'
 omega;exact absurd h' h
def Bet(a b:Sl Int):Prop:=b.len<a.len\/a.len=b.len/\cmpL (fB a) (fB b)<=0
theorem Bet.tr{a b c:Sl Int}(h1:Bet a b)(h2:Bet b c):Bet a c:=by
 rcases h1 with h1|h1<;>rcases h2 with h2|h2
 exact .inl omY;exact .inl omY;exact .inl omY;exact .inr ⟨omY,zKv h1.2 h2.2⟩
theorem Bet.rf(a:Sl Int):Bet a a:=.inr ⟨rfl,by rw[lZ.2 rfl];exact qd5 _⟩
section
variable{E:E37}(N:Big E.N)(h40:Q40 E.c40)(h38:Zb E.c38)(h41:Q41 E.c41){T:Sl af}{x o:Int}{c:Nat}{all:Sl (Sl Int)}(H:Scn T x o c all)(hal:all.len<=2000)
include N h40 H hal in
theorem z3G:∀v,zhP o c v/\Ir T (OZ T x) (fB v)=true->∃v',(∀A k,znb E E.N T x all v ((0:Nat):Int) (A:=A) k=zeB E E.N T x all v' 0 k)/\(zhP o c v'/\Ir T (OZ T x) (fB v')=true)/\v'.len<=v.len/\∀j,0<=j->j<all.len->Ir T (OZ T x) (fB (all.get j))=true->v'.len<=(all.get j).len :=
 zKu (X:=λA k n v i=>znb E n T x all v (i:Int) k) (get:=all.get) (P:=λv=>zhP o c v/\Ir T (OZ T x) (fB v)=true) (Q:=λw=>Ir T (OZ T x) (fB w)=true) (B:=λa b=>a.len<=b.len) (λ_=>jP _) (λ_ _ _=>Gj) (λn v i hi hv=>by
  have ca:=H.cand hi;obtain⟨l10,lin⟩:=H.in ca;refine⟨decide (((all.get i).len:Int)<(v.len:Int))&&Ir T (OZ T x) (fB (all.get i)),λA k=>?_,λg=>?_,λg q=>?_⟩;rw [zRj,dP omY,dF,bf omY,bf omY,bf omY,fO,h40 T x (all.get i) H.tl H.hl omY lin,aX,bF omY];cases decide (((all.get i).len:Int)<(v.len:Int))<;>rfl;rw [fQ,oD]at g;exact⟨⟨ca,g.2⟩,omY⟩;rw [q,qjT,dqM]at g;omega) (λn v A k=>by rw[zRj,dY omY];rfl) (by have:20000000<E.N:=N;omega)
include N h40 h38 H hal in
theorem z3I(L:Nat):∀v,zhP o c v/\Ir T (OZ T x) (fB v)=true/\v.len=L->∃v',(∀A k,zeB E E.N T x all v ((0:Nat):Int) (A:=A) k=zai E E.N T all v' ⟨0,λ_=>0⟩ 0 k)/\(zhP o c v'/\Ir T (OZ T x) (fB v')=true/\v'.len=L)/\cmpL (fB v') (fB v)<=0/\∀j,0<=j->j<all.len->Ir T (OZ T x) (fB (all.get j))=true/\(all.get j).len=L->cmpL (fB v') (fB (all.get j))<=0 :=
 zKu (X:=λA k n v i=>zeB E n T x all v (i:Int) k) (get:=all.get) (P:=λv=>zhP o c v/\Ir T (OZ T x) (fB v)=true/\v.len=L) (Q:=λw=>Ir T (OZ T x) (fB w)=true/\w.len=L) (B:=λa b=>cmpL (fB a) (fB b)<=0) (λ_=>by rw[lZ.2 rfl];exact qd5 _) (λ_ _ _=>zKv) (λn v i hi hv=>by
  have ca:=H.cand hi;obtain⟨l10,lin⟩:=H.in ca;have lv:=(H.in hv.1).1;refine⟨((all.get i).len:Int)==(v.len:Int)&&(decide (cmpL (fB (all.get i)) (fB v)<0)&&Ir T (OZ T x) (fB (all.get i))),λA k=>?_,λg=>?_,λg q=>?_⟩;rw [zRk,dP omY,dF,bf omY,bf omY,fO,h38 _ _ omY omY,aX,bf omY,h40 T x (all.get i) H.tl H.hl omY lin,aX,bf omY,bF omY];cases((all.get i).len:Int)==(v.len:Int)<;>cases decide (cmpL (fB (all.get i)) (fB v)<0)<;>rfl;rw [fQ,fQ,oD,KN]at g;exact⟨⟨ca,g.2.2,omY⟩,xY g.2.1⟩;rw [q.1,qjT,show(((all.get i).len:Int)==(v.len:Int))=true by rw [KN];omega,Jv,dqM]at g;exact zKw g) (λn v A k=>by rw[zRk,dY omY];rfl) (by have:20000000<E.N:=N;omega)
include N h41 h38 H hal in
theorem z3J(f:Sl Int):∀v,zhP o c v/\Sv T v=true->∃v',(∀A k,zai E E.N T all f v ((0:Nat):Int) (A:=A) k=k (f,v'))/\(zhP o c v'/\Sv T v'=true)/\Bet v' v/\∀j,0<=j->j<all.len->Sv T (all.get j)=true->Bet v' (all.get j) :=
 zKu (X:=λA k n v i=>zai E n T all f v (i:Int) k) (get:=all.get) (P:=λv=>zhP o c v/\Sv T v=true) (Q:=λw=>Sv T w=true) Bet.rf (λ_ _ _=>Bet.tr) (λn v i hi hv=>by
  have ca:=H.cand hi;obtain⟨l10,lin⟩:=H.in ca;have lv:=(H.in hv.1).1;refine⟨Sv T (all.get i)&&(decide (((all.get i).len:Int)>(v.len:Int))||(((all.get i).len:Int)==(v.len:Int)&&decide (cmpL (fB (all.get i)) (fB v)<0))),λA k=>?_,λg=>?_,λg q=>?_⟩;rw [zRl,dP omY,dF,bf omY,fO,h41 T (all.get i) H.tl H.hl omY lin,aX,bf omY,bf omY,bf omY,bf omY,h38 _ _ omY omY,aX,bF omY];cases Sv T (all.get i)<;>cases decide (((all.get i).len:Int)>(v.len:Int))<;>cases((all.get i).len:Int)==(v.len:Int)<;>cases decide (cmpL (fB (all.get i)) (fB v)<0)<;>rfl;rw [fQ,V8,fQ,oD,oD,KN]at g;exact⟨⟨ca,g.1⟩,g.2.elim (λh=>.inl omY) λh=>.inr ⟨omY,xY h.2⟩⟩;rw [q,Jv,qdI,dqM]at g;by_cases e:(all.get i).len=v.len;rw [e,qdj,Jv,dqM]at g;exact .inr ⟨e.symm,zKw g.2⟩;exact .inl omY) (λn v A k=>by rw[zRl,dY omY];rfl) (by have:20000000<E.N:=N;omega)
end
theorem znc : ∀ {α : Type} {L : List α} {o : Int}, ed o (L.map fun _ => true) = Dp o L.length
  | _,[],_=>rfl
  | _,_::L,o=>by
    show o::ed (o+1) (L.map λ_=>true)=o::Dp (o+1) L.length;rw[znc]
abbrev Q37(C:Sl af×Int->ae (Sl Int×Sl Int)):Prop:=∀T x o c,Num T x o c->c<=10->∃a b:Sl Int,C (T,x)=.ok (a,b)/\a.len<=10/\b.len<=10/\fB a=ed o (V9 ((Dp o c).map (bq T)) (jR ((Dp o c).map (bq T))))/\fB b=ed o (We ((Dp o c).map (bq T)) 0)
theorem s37{E:E37}(N:Big E.N)(h35:Q35 E.VE)(zKh:zQv 12 E.znK)(h40:Q40 E.c40)(h38:Zb E.c38)(h41:Q41 E.c41):Q37 (F37 E):=λT x o c H hc9=>by
 have hN:=N;obtain⟨V,VE,hV,_⟩:=h35 T x H.tl;rw[H.of]at hV;have vl:V.len=c:=by have:=jZ List.length hV;rw[fC,KH]at this;exact this
 obtain⟨all,znK,BN⟩:=zKh V omY omY;rw[hV]at BN;have al:all.len<=2000:=by
  have:=jZ List.length BN;rw[VM,fP,zm2,KH]at this;have:2^c<=2^10:=qj7 (by decide) hc9;omega
 have S:Scn T x o c all:=⟨H,hc9,BN⟩;generalize hM:(Dp o c).map (bq T)=M;have ml:M.length=c:=by rw[<- hM,VM,KH]
 have cv:∀{s:List Bool},s.length=c->(Ir T (OZ T x) (ed o s)=true↔Zg M s (jR M)):=fun {s} hl=>by rw[H.of,<- hM];exact zuq H.sm hl
 have ap:∀{s:List Bool}{v:Sl Int},s.length=c->fB v=ed o s->(Sv T v=true↔apt M s 0):=fun {s v} hl hv=>by rw[<- hM];exact zur H.sm hl hv
 have nz:kU (jR M) (jR M)=0:=FT.2 λ_ h=>h
 -- each choice is zN4
 have zN4:∀{s:List Bool},s.length=c->∃j,j<all.len/\fB (all.get j)=ed o s:=fun {s} hl=>by
  have:ed o s∈(ls all).map fB:=by rw[BN];exact(Iq c o _).2 ⟨s,hl,rfl⟩
  obtain⟨v,hv,e⟩:=uu.1 this;obtain⟨j,hj,rfl⟩:=iC.1 hv;exact⟨j,hj,e⟩
 have c0:zhP o c V:=⟨M.map λ_=>true,by rw[VM,ml],by rw[znc,ml];exact hV⟩;have k0:Ir T (OZ T x) (fB V)=true:=by
  rw[hV,show Dp o c=ed o (M.map λ_=>true)by rw[znc,ml]];exact(cv (by rw[VM,ml])).2 (IA nz)
 obtain⟨v1,a1,⟨b1,d1⟩,_,e1⟩:=z3G (E:=E) N h40 S al V ⟨c0,k0⟩;obtain⟨v2,a2,⟨b2,d2,f2⟩,_,e2⟩:=z3I (E:=E) N h40 h38 S al v1.len v1 ⟨b1,d1,rfl⟩;obtain⟨z,z1,z2⟩:=(Iq c o []).1 (by rw[zuo];exact kH);obtain⟨w,a3,⟨b3,d3⟩,_,e3⟩:=z3J (E:=E) N h38 h41 S al v2 ⟨0,λ_=>0⟩ ⟨⟨z,z1,z2⟩,rfl⟩;refine⟨v2,w,ae.ext λk=>?_,(S.in b2).1,(S.in b3).1,?_,?_⟩;rw [e37,VE,aX,znK,aX,aX];exact(a1 _ k).trans ((a2 _ k).trans (a3 _ k));obtain⟨s,hl,hs⟩:=b2;rw[hs]at d2;have cs:=(cv hl).1 d2;obtain⟨g1,g2,g3⟩:=zb9 (B:=M) (left:=jR M) omY nz;have gl:=Vl g1;rw[ml]at gl;obtain⟨j,hj,ej⟩:=zN4 gl;have cj:Ir T (OZ T x) (fB (all.get j))=true:=by rw[ej];exact(cv gl).2 g1
 have l1:=e1 j (Ad _) hj cj;have lj:(all.get j).len=(V9 M (jR M)).count true:=zux ej;have l2:v2.len=s.count true:=zux hs;have l3:=O3 cs;have eqc:s.count true=lst M (jR M):=by omega
 have x1:=g3 s cs eqc;have x2:=e2 j (Ad _) hj ⟨cj,omY⟩;rw[hs,ej]at x2;have x3:=(Jq (s:=s) (t:=V9 M (jR M)) (o:=o) omY omY).2 x2;rw[hs,Dn x3 x1];obtain⟨s,hl,hs⟩:=b3;have cs:=(ap hl hs).1 d3;obtain⟨g1,g2,g3⟩:=zca (B:=M) (used:=0);have gl:=Vo g1;rw[ml]at gl;obtain⟨j,hj,ej⟩:=zN4 gl;have lj:(all.get j).len=(We M 0).count true:=zux ej;have l2:w.len=s.count true:=zux hs;have l3:=Vp cs;rcases e3 j (Ad _) hj ((ap gl ej).2 g1)with h|⟨h1,h2⟩
 omega;have x1:=g3 s cs omY;rw[hs,ej]at h2;have x3:=(Jq (s:=s) (t:=We M 0) (o:=o) omY omY).2 h2;rw[hs,Dn x3 x1]
structure E7 where
 N:Nat
 c23:ak×(Sl bz)×Int->ae Bool
 c19:Unit->ae Bool
 c26:ak×bQ×(Sl bz)->ae Int
 c34:Int->ae Bool
 c28:ak×bQ×(Sl bz)->ae ((Sl af)×Bool)
 VE:(Sl af)×Int->ae ((Sl Int))
 c36:ak×bQ×(Sl bz)×Int->ae ((Sl Int)×(Sl Int)×Int)
 c37:(Sl af)×Int->ae ((Sl Int)×(Sl Int))
 c38:(Sl Int)×(Sl Int)->ae Int
abbrev G7(E:E7):bI:=gQ (((((((((Tabs.nil.addF 23 (ae.un E.c23)).addF 19 (ae.un E.c19)).addF 26 (ae.un E.c26)).addF 34 (ae.un E.c34)).addF 28 (ae.un E.c28)).addF 35 (ae.un E.VE)).addF 36 (ae.un E.c36)).addF 37 (ae.un E.c37)).addF 38 (ae.un E.c38)) []
def A7:dG:=bP aB 7 [] {ks:=[(2,12,⟨[],[],[],[],[],[],[(0,10,0,43)]⟩),(2,15,⟨[],[],[],[],[],[],[(0,10,0,43)]⟩),(2,17,⟨[],[],[],[],[],[],[(0,10,0,43)]⟩)],cut:=[7,12,15,17]}
def F7(E:E7):ak×bQ×(Sl bz)×Int->ae Bool:=ae.ty (aF aB E.N (G7 E) A7 7)
section
variable(E:E7){A:Type}(k:Bool->Option A)
def zKx(E:E7)(a0:ak)(a1:bQ)(a2:Sl bz)(a3 v9:Int){A:Type}(k:Bool->Option A):Option A:=iK aB (G7 E) E.N A7 7 [1,1,1,1,1] [] (iJ k) ⟨[(2,eP a2),(3,.int a3),(4,.cl (.ptr 4 0)),(5,.cl (.ptr 5 0)),(9,.int v9),(10,.cl (.p (.nils)))],[(4,eB 24 a0),(5,eB 26 a1)],[]⟩
def zKz(E:E7)(a0:ak)(a1:bQ)(a2:Sl bz)(a3 v9:Int)(v10:Sl af){A:Type}(k:Bool->Option A):Option A:=iK aB (G7 E) E.N A7 7 [1,1,1,1,1,1] [] (iJ k) ⟨[(2,eP a2),(3,.int a3),(4,.cl (.ptr 4 0)),(5,.cl (.ptr 5 0)),(9,.int v9),(10,eP v10)],[(4,eB 24 a0),(5,eB 26 a1)],[]⟩
def zKA(E:E7)(a0:ak)(a1:bQ)(a2:Sl bz)(a3 v9:Int)(v10:Sl af)(v12:Int){A:Type}(k:Bool->Option A):Option A:=iK aB (G7 E) E.N A7 7 [1,1,1,1,1,1,1,1] [] (iJ k) ⟨[(2,eP a2),(3,.int a3),(4,.cl (.ptr 4 0)),(5,.cl (.ptr 5 0)),(9,.int v9),(10,eP v10),(12,.int v12)],[(4,eB 24 a0),(5,eB 26 a1)],[]⟩
def zZi(E:E7)(a0:ak)(a1:bQ)(a2:Sl bz)(a3 v9:Int)(v10:Sl af){A:Type}(k:Bool->Option A):Option A:=iK aB (G7 E) E.N A7 7 [1,1,1,1,1,1,1,1,1] [] (iJ k) ⟨[(2,eP a2),(3,.int a3),(4,.cl (.ptr 4 0)),(5,.cl (.ptr 5 0)),(9,.int v9),(10,eP v10)],[(4,eB 24 a0),(5,eB 26 a1)],[]⟩
theorem e7(a0:ak)(a1:bQ)(a2:Sl bz)(a3:Int):(F7 E (a0,a1,a2,a3)).T k=(E.c23 (a0,a2,8)).T λr1=>cond (!r1) ((E.c19 ()).T λr2=>k r2) ((E.c26 (a0,a1,a2)).T λr3=>cond (r3==0) ((E.c34 a3).T λr4=>cond (!r4) (zKx E a0 a1 a2 a3 2 k) (zKx E a0 a1 a2 a3 r3 k)) (zKx E a0 a1 a2 a3 r3 k)):=dU
theorem z3K(a0:ak)(a1:bQ)(a2:Sl bz)(a3 v9:Int):zKx E a0 a1 a2 a3 v9 k=cond (v9==0) ((E.c28 (a0,a1,a2)).T λr1=>cond (!r1.2) (zKz E a0 a1 a2 a3 8 r1.1 k) (zKz E a0 a1 a2 a3 v9 r1.1 k)) (zKz E a0 a1 a2 a3 v9 (⟨0,(λ_=>(⟨0,(⟨0,(λ_=>0)⟩:(Sl Int)),(⟨0,(λ_=>0)⟩:(Sl Int))⟩:af))⟩:(Sl af)) k):=krY
theorem z3L(a0:ak)(a1:bQ)(a2:Sl bz)(a3 v9:Int)(v10:Sl af):zKz E a0 a1 a2 a3 v9 v10 k=(E.VE (v10,a3)).T λr1=>cond (v9==0) (cond (decide ((r1.len:Int)>40)) (zKA E a0 a1 a2 a3 8 v10 (r1.len:Int) k) (zKA E a0 a1 a2 a3 v9 v10 (r1.len:Int) k)) (zKA E a0 a1 a2 a3 v9 v10 (r1.len:Int) k):=krY
theorem z3M(a0:ak)(a1:bQ)(a2:Sl bz)(a3 v9:Int)(v10:Sl af)(v12:Int):zKA E a0 a1 a2 a3 v9 v10 v12 k=cond (v9==0) (cond (decide (v12>9)) ((E.c19 ()).T λr1=>k r1) (zZi E a0 a1 a2 a3 v9 v10 k)) (zZi E a0 a1 a2 a3 v9 v10 k):=krY
theorem z3N(a0:ak)(a1:bQ)(a2:Sl bz)(a3 v9:Int)(v10:Sl af):zZi E a0 a1 a2 a3 v9 v10 k=(E.c36 (a0,a1,a2,a3)).T λr1=>cond (v9 != 0) (cond (r1.2.2==v9) (cond ((aJ ((r1.1.len:Int)+(r1.2.1.len:Int)))==0) ((E.c19 ()).T λr2=>k r2) (k false)) (k false)) ((E.c37 (v10,a3)).T λr3=>cond (r1.2.2==0) ((E.c38 (r1.1,r3.1)).T λr4=>cond (r4==0) ((E.c38 (r1.2.1,r3.2)).T λr5=>cond (r5==0) ((E.c19 ()).T λr6=>k r6) (k false)) (k false)) (k false)):=krY
end
theorem o7 [aH](E:E7)(h23:Ok aB 23 (ae.un E.c23))(h19:Ok aB 19 (ae.un E.c19))(h26:Ok aB 26 (ae.un E.c26))(h34:Ok aB 34 (ae.un E.c34))(h28:Ok aB 28 (ae.un E.c28))(h35:Ok aB 35 (ae.un E.VE))(h36:Ok aB 36 (ae.un E.c36))(h37:Ok aB 37 (ae.un E.c37))(h38:Ok aB 38 (ae.un E.c38)):Ok aB 7 (ae.un (F7 E)):=dV (((((((((au.nil.addF h23).addF h19).addF h26).addF h34).addF h28).addF h35).addF h36).addF h37).addF h38)
theorem z00:((0:Int)==0)=true:=rfl
abbrev Q7(C:ak×bQ×Sl bz×Int->ae Bool):Prop:=∀s r l x,C (s,r,l,x)=.ok true
theorem s7{E:E7}(h23:Q23 E.c23)(h19:Q19 E.c19)(h26:Q26 E.c26)(h34:QVw E.c34)(h28:zZh E.c28)(h35:Q35 E.VE)(h36:Q36 E.c36)(h37:Q37 E.c37)(h38:Zb E.c38):Q7 (F7 E):=λs r l x=>ae.ext λk=>by
 rw[e7,h23,aX];cases hsh:zf6 s l 8 with
 | false=>show(E.c19 ()).T _=_;rw[h19,aX]
 | true =>
 obtain⟨hs,hl,_⟩:=zAl hsh;rw[Qo,dL,h26 s r l hs hl,aX]
 -- where there is an error
 have er3:∀(e:Int)(w:Sl af),e≠0->E.c36 (s,r,l,x)=.ok (⟨0,λ_=>default⟩,⟨0,λ_=>default⟩,e)->∀m,zKA E s r l x e w m k=k true:=λe w he a m=>by
  rw[z3M,show(e==0)=false by simpa using he,dL,z3N,a,aX,show(e != 0)=true by simpa using he,dF];show cond (e==e) (cond (aJ (((0:Nat):Int)+((0:Nat):Int))==0) _ _) _=_;rw[qdj,dF,show(aJ (((0:Nat):Int)+((0:Nat):Int))==0)=true by rw[aT omY omY];rfl,dF,h19,aX]
 have er2:∀(e:Int)(w:Sl af),e≠0->w.len<=10000->Jo s r l (VN x)=e->zKz E s r l x e w k=k true:=λe w he hw hk=>by
  obtain⟨V,VE,_⟩:=h35 w x hw;rcases h36 s r l x hs hl with⟨_,a⟩|⟨a,_⟩
  rw [hk]at a;rw[z3L,VE,aX,show(e==0)=false by simpa using he,dL];exact er3 e w he a _;rw[hk]at a;exact absurd a he
 have er1:∀e:Int,e≠0->Jo s r l (VN x)=e->zKx E s r l x e k=k true:=λe he hk=>by
  rw[z3K,show(e==0)=false by simpa using he,dL];exact er2 e _ he (Ad _) hk
 by_cases h0:lJ s r l=0
 case neg =>
  have e:Jo s r l (VN x)=lJ s r l:=by unfold Jo;rw[show(lJ s r l != 0)=true by simpa using h0];rfl
  rw[show(lJ s r l==0)=false by simpa using h0,dL];exact er1 _ h0 e
 rw[h0,z00,dF,h34,aX];cases hv:VN x with
 | false =>
  have e:Jo s r l (VN x)=2:=by unfold Jo;rw[h0,hv];rfl
  rw[qdQ,dF];exact er1 2 (by decide) e
 | true =>
 rw[Qo,dL,z3K,z00,dF];obtain⟨he,_,vz⟩:=Iz hs h0;have ev1:Ev s l 1:={toEvt:=he,l24:=vz,vw:=rfl};have ev2:Ev s l 2:={toEvt:=he,l24:=vz,vw:=rfl};obtain⟨w,hw,wl,hf⟩:=h28 s r l ev1 ev2;rw[hw,aX];cases hfew:ql s l 1&&ql s l 2 with
 | false =>
  have e:Jo s r l (VN x)=8:=by unfold Jo;rw[h0,hv,hfew];rfl
  rw[qdQ,dF];exact er2 8 w (by decide) wl e
 | true =>
 have e:Jo s r l (VN x)=0:=by unfold Jo;rw[h0,hv,hfew];rfl
 rw[Qo,dL];obtain⟨g,G,rfl⟩:=hf hfew;rcases h36 s r l x hs hl with⟨a,_⟩|⟨_,f,F,hr⟩
 exact absurd e a;have uq:=F.uniq G he vz;have um:lL (ls f.bn) x=lL (ls g.bn) x:=Zq uq;rw[um,zC0 uq x]at hr;have H:=G.num he vz wl x;obtain⟨V,VE,hV,vl⟩:=h35 g.bn x wl;have vn:V.len=(lL (ls g.bn) x).length:=by rw[<- fC,hV,G.of x,KH]
 rw[z3L,VE,aX,z00,dF];rcases hr with⟨h40,a⟩|⟨h40,a,b,c36,al,bl,ha,hb⟩
 rw [dP (show(V.len:Int)>40 by omega),dF];exact er3 8 _ (by decide) a _;rw [dY (show ¬(V.len:Int)>40 by omega),dL,z3M,z00,dF];by_cases h9:(V.len:Int)>9;rw[dP h9,dF,h19,aX];rw [dY h9,dL,z3N,c36,aX,show((0:Int) != 0)=false from rfl,dL];obtain⟨y,z,c37,yl,zl,hy,hz⟩:=h37 g.bn x _ _ H omY;rw[c37,aX];show cond ((0:Int)==0) ((E.c38 (a,y)).T _) _=_;have hM:(Dp (fst (λj=>(g.bn.get j).View==x) g.bn.len 0) (lL (ls g.bn) x).length).map (bq g.bn)=lL (ls g.bn) x:=by rw[<- G.of x,zuw]
 rw[hM]at hy hz;rw[z00,dF,h38 _ _ omY omY,aX,ha,hy,lZ.2 rfl,z00,dF];show(E.c38 (b,z)).T _=_;rw[h38 _ _ omY omY,aX,hb,hz,lZ.2 rfl,z00,dF,h19,aX]
def N0:Nat:=1000000000
theorem bH:20000000<N0:=by decide
def D23:=F23 ⟨N0⟩
def zZl:=o23 ⟨N0⟩
def D19:Unit->ae Bool:=λ_=>.ok true
theorem zZn:Q19 D19:=rfl
theorem zZo:Ok aB 19 (ae.un D19):=λargs rs hr w h0 vs jE hw=>by
 obtain⟨h1,h2⟩:=ae.chk_o hr;cases args with
 | nil =>
  cases ae.ok_o h2;exact(zTE.all []).fn 19 [] _ k19 w h0 vs jE hw
 | cons=>cases h1
def D73:=F73 ⟨N0⟩
def zne:=o73 ⟨N0⟩
def zC1:=zqe ⟨N0,D73⟩
def zKB:=zTV ⟨N0,D73⟩ zne
def zC2:=zqf ⟨N0,D73⟩
def zKC:=zTX ⟨N0,D73⟩ zne
def zC3:=zp9 ⟨N0,D73,zC1,zC2⟩
def zKD:=zTP ⟨N0,D73,zC1,zC2⟩ zne zKB zKC
def D61:=F61 ⟨N0,D73,zC3⟩
def zZq:=o61 ⟨N0,D73,zC3⟩ zne zKD
def D86:=F86 ⟨N0⟩
def zKE:=o86 ⟨N0⟩
def D62:=F62 ⟨N0,D86⟩
def zZs:=o62 ⟨N0,D86⟩ zKE
def znf:=zqb ⟨N0⟩
def zxf:=zTS ⟨N0⟩
def zC4:=zqc ⟨N0,D73,znf⟩
def zKF:=zTT ⟨N0,D73,znf⟩ zne zxf
def D85:=F85 ⟨N0,zC4⟩
def zZu:=o85 ⟨N0,zC4⟩ zKF
def D26:=F26 ⟨N0,D61,D62,D85⟩
def zZv:=o26 ⟨N0,D61,D62,D85⟩ zZq zZs zZu
def D34:=F34 ⟨N0⟩
def zZw:=o34 ⟨N0⟩
def D87:=F87 ⟨N0⟩
def zKH:=o87 ⟨N0⟩
def zC5:=zqa ⟨N0⟩
def zKI:=zTR ⟨N0⟩
def D75:=F75 ⟨N0,zC5⟩
def zKJ:=o75 ⟨N0,zC5⟩ zKI
def zuy:=ztc ⟨N0⟩
def zKK:=zW4 ⟨N0⟩
def D65:=F65 ⟨N0,D75⟩
def zKL:=o65 ⟨N0,D75⟩ zKJ
def zgB:=zrM ⟨N0⟩
def zng:=zVP ⟨N0⟩
def znh:=zsD ⟨N0⟩
def zxg:=zWE ⟨N0⟩
def zC6:=ztq ⟨N0⟩
def zKM:=zXf ⟨N0⟩
def zni:=zrm ⟨N0⟩
def zxh:=zVn ⟨N0⟩
def D71:=F71 ⟨N0,zni⟩
def zC8:=o71 ⟨N0,zni⟩ zxh
def D55:=F55 ⟨N0,D71⟩
def zZy:=o55 ⟨N0,D71⟩ zC8
def zC9:=zs6 ⟨N0,zC6,D55⟩
def zKN:=zW1 ⟨N0,zC6,D55⟩ zKM zZy
def znj:=zr9 ⟨N0⟩
def zxi:=zWb ⟨N0⟩
def zDa:=zrh ⟨N0,znj⟩
def zKO:=zVj ⟨N0,znj⟩ zxi
def D57:=F57 ⟨N0,zDa⟩
def zZA:=o57 ⟨N0,zDa⟩ zKO
def zDb:=ztr ⟨N0,znj⟩
def zKP:=zXg ⟨N0,znj⟩ zxi
def D56:=F56 ⟨N0⟩
def zKR:=o56 ⟨N0⟩
def zDc:=zs9 ⟨N0,zDb,D56⟩
def zKS:=zW3 ⟨N0,zDb,D56⟩ zKP zKR
def zgC:=zlm ⟨N0,zC9,D57,zDc⟩
def zxj:=zWF ⟨N0,zC9,D57,zDc⟩ zKN zZA zKS
def zDd:=zrJ ⟨N0,zgB,znh,zgC⟩
def zKT:=zVJ ⟨N0,zgB,znh,zgC⟩ zng zxg zxj
def zDe:=zrL ⟨N0⟩
def zKU:=zVN ⟨N0⟩
def D74:=F74 ⟨N0⟩
def zZC:=o74 ⟨N0⟩
def zDf:=zrK ⟨N0,D74⟩
def zKV:=zVL ⟨N0,D74⟩ zZC
def D90:=F90 ⟨N0,zDe,zDf⟩
def zZE:=o90 ⟨N0,zDe,zDf⟩ zKU zKV
def zgD:=zsG ⟨N0,D65,zDd,D90⟩
def zxk:=zWI ⟨N0,D65,zDd,D90⟩ zKL zKT zZE
def zci:Nat→(ak×(Sl bz)×af×Int)×Sl af→ae (Sl af)
 | 0=>λ_=>.no
 | n+1=>zsE ⟨N0,D87,D75,zuy,zgD,(zci n)⟩
theorem zxl:∀n,gI aB 195 (.grow 43 3 56 (ae.unW (zci n)))
  | 0=>λw h base az vs v n get m lT hh=>by
    obtain⟨_,h2⟩:=ae.chk_o hh;cases h2
  | n+1=>zWG ⟨N0,D87,D75,zuy,zgD,(zci n)⟩ zKH zKJ zKK zxk (zxl n)
def zDg:=zrT ⟨N0,(zci 30)⟩
def zKW:=zVV ⟨N0,(zci 30)⟩ (zxl 30)
def D76:=F76 ⟨N0,zni,D71⟩
def zZG:=o76 ⟨N0,zni,D71⟩ zxh zC8
def zKX:=zrN ⟨N0,zgB,znh,D71,zgC,D76,D56⟩
def zKY:=zVR ⟨N0,zgB,znh,D71,zgC,D76,D56⟩ zng zxg zC8 zxj zZG zKR
def zKZ:=zrQ ⟨N0⟩
def zK1:=zVT ⟨N0⟩
def zDh:=zrE ⟨N0⟩
def zK2:=zVD ⟨N0⟩
def D77:=F77 ⟨N0,zDh,znf⟩
def zZH:=o77 ⟨N0,zDh,znf⟩ zK2 zxf
def D91:=F91 ⟨N0,D65,D87,zgB,zKX,zKZ,D86,D77⟩
theorem zZI:Ok aB 91 (ae.un D91):=o91 _ zKL zKH zng zKY zK1 zKE zZH
def zDi:=zrV ⟨N0,zgD,D91⟩
def zK3:=zVW ⟨N0,zgD,D91⟩ zxk zZI
def D94:=F94 ⟨N0,zDg,zDi⟩
def zZK:=o94 ⟨N0,zDg,zDi⟩ zKW zK3
def D53:=F53 ⟨N0⟩
def zZM:=o53 ⟨N0⟩
def D38:=F38 ⟨N0⟩
def zF3:=o38 ⟨N0⟩
def zDj:=zrH ⟨N0,D38⟩
def zK5:=zVH ⟨N0,D38⟩ zF3
def D88:=F88 ⟨N0,D94,D53,zDj⟩
def zZO:=o88 ⟨N0,D94,D53,zDj⟩ zZK zZM zK5
def D28:=F28 ⟨N0,D88⟩
def zZP:=o28 ⟨N0,D88⟩ zZO
def D35:=F35 ⟨N0⟩
def zF4:=o35 ⟨N0⟩
def D96:=F96 ⟨N0⟩
def zZQ:=o96 ⟨N0⟩
def Dh:=zqu ⟨N0⟩
def O8:=zUf ⟨N0⟩
def znk:=zqx ⟨N0,Dh⟩
def zxm:=zUi ⟨N0,Dh⟩ O8
def zDk:=zqJ ⟨N0,Dh,znk⟩
def zK7:=zUp ⟨N0,Dh,znk⟩ O8 zxm
def zDl:=zqE ⟨N0⟩
def zK8:=zUl ⟨N0⟩
def zDm:=zqF ⟨N0,Dh⟩
def zK9:=zUm ⟨N0,Dh⟩ O8
def zDn:=zqH ⟨N0⟩
def zLa:=zUn ⟨N0⟩
def zDo:=zqy ⟨N0,Dh,zDk,zDl,zDm,zDn⟩
def zLb:=zUk ⟨N0,Dh,zDk,zDl,zDm,zDn⟩ O8 zK7 zK8 zK9 zLa
def Vu:=zqv ⟨N0,zDo,Dh⟩
def zeC:=zUg ⟨N0,zDo,Dh⟩ zLb O8
def zDp:=zqk ⟨N0,Vu⟩
def zLc:=zT7 ⟨N0,Vu⟩ zeC
def zDq:=zqm ⟨N0⟩
def zLd:=zT9 ⟨N0⟩
def D60:=F60 ⟨N0,zDp,zDq⟩
def zZS:=o60 ⟨N0,zDp,zDq⟩ zLc zLd
def Vw:=zqr ⟨N0,Dh⟩
def zeD:=zUe ⟨N0,Dh⟩ O8
def znl:=zqL ⟨N0,Vu,Vw⟩
def zxn:=zUr ⟨N0,Vu,Vw⟩ zeC zeD
def zDr:=zqo ⟨N0,znl⟩
def zLe:=zUa ⟨N0,znl⟩ zxn
def zDs:=zqP ⟨N0⟩
def zLf:=zUt ⟨N0⟩
def zDt:=zz2 ⟨N0⟩
def zLg:=zUw ⟨N0⟩
def zDu:=zqQ ⟨N0,zDt⟩
def zLh:=zUu ⟨N0,zDt⟩ zLg
def zDv:=zqN ⟨N0,zDs,zDu⟩
def zLi:=zUs ⟨N0,zDs,zDu⟩ zLf zLh
def zDw:=zqq ⟨N0,znl,Vw,zDv⟩
def zLj:=zUc ⟨N0,znl,Vw,zDv⟩ zxn zeD zLi
def D78:=F78 ⟨N0,D60,zDr,zDw⟩
def zZU:=o78 ⟨N0,D60,zDr,zDw⟩ zZS zLe zLj
def zDx:=zsk ⟨N0⟩
def zLk:=zWk ⟨N0⟩
def zDy:=zro ⟨N0,zDx⟩
def zLl:=zVo ⟨N0,zDx⟩ zLk
def zDz:=zsp ⟨N0⟩
def zLm:=zWq ⟨N0⟩
def zDA:=zsy ⟨N0⟩
def zLn:=zWy ⟨N0⟩
def Zr:=Fa ⟨N0,zDz⟩
def zgE:=zlA ⟨N0,zDz⟩ zLm
def Zt:=Fb ⟨N0,zDA⟩
def zgF:=zlC ⟨N0,zDA⟩ zLn
def zgG:=ae.two Zr Zt
theorem zxo:Ok aB 210 (ae.un zgG):=uP zgE zgF
def Zu:=ER ⟨N0,zgG⟩
def zgH:=zle ⟨N0,zgG⟩ zxo
def Zv:=ET ⟨N0,zgG⟩
def zgI:=zlg ⟨N0,zgG⟩ zxo
def zgJ:=ae.two Zu Zv
theorem zxp:Ok aB 179 (ae.un zgJ):=uP zgH zgI
def zDB:=zq8 ⟨N0,Vu,Vw⟩
def zLo:=o111 ⟨N0,Vu,Vw⟩ zeC zeD
def zDC:=zra ⟨N0⟩
def zLp:=zVe ⟨N0⟩
def D50:=F50 ⟨N0,zDB,Vw,zDC⟩
def zZW:=o50 ⟨N0,zDB,Vw,zDC⟩ zLo zeD zLp
def D93:=F93 ⟨N0,D50⟩
def zZY:=o93 ⟨N0,D50⟩ zZW
def zuz:=zqg ⟨N0⟩
def zxq:=zT1 ⟨N0⟩
def Vx:=zrZ ⟨N0⟩
def zeE [aH]:=zV2 ⟨N0⟩
def zDD:=zrX ⟨N0,Vx⟩
def zLq:=zVZ ⟨N0,Vx⟩ zeE
def znm:=zq7 ⟨N0,zDD,Vx⟩
def zxr:=zVb ⟨N0,zDD,Vx⟩ zLq zeE
def zDE:=zsS ⟨N0⟩
def zLr [aH]:=zWV ⟨N0⟩
def zDF:=zti ⟨N0,Vx⟩
def zLs [aH]:=zW8 ⟨N0,Vx⟩ zeE
def zDG:=ztg ⟨N0,zDF⟩
def zLt [aH]:=zW7 ⟨N0,zDF⟩ zLs
def zDH:=ztA ⟨N0⟩
def zLu [aH]:=zXo ⟨N0⟩
def Zw:=Fe ⟨N0,zDE⟩
def zgK [aH]:=zlI ⟨N0,zDE⟩ zLr
def Zx:=Ff ⟨N0,zDG⟩
def zgL [aH]:=zlK ⟨N0,zDG⟩ zLt
def Zy:=Fg ⟨N0,zDH⟩
def zgM [aH]:=zlM ⟨N0,zDH⟩ zLu
def Zz:=ae.two Zw (ae.two Zx Zy)
theorem znn [aH]:Ok aB 238 (ae.un Zz):=uP zgK (uP zgL zgM)
def ZA:=EW ⟨N0,Zz⟩
def zgN [aH]:=zlu ⟨N0,Zz⟩ znn
def ZB:=EY ⟨N0,Zz⟩
def zgO [aH]:=zlw ⟨N0,Zz⟩ znn
def ZC:=E5 ⟨N0,Zz⟩
def zgP [aH]:=zly ⟨N0,Zz⟩ znn
def ZE:=ae.two ZA (ae.two ZB ZC)
theorem zno [aH]:Ok aB 206 (ae.un ZE):=uP zgN (uP zgO zgP)
def O9:=zsb ⟨N0,ZE⟩
def ZF:=zWc ⟨N0,ZE⟩ zno
def zDI:=zsW ⟨N0⟩
def zLv [aH]:=zWX ⟨N0⟩
def Pg:=zsj ⟨N0,zDI⟩
def ZG [aH]:=zWi ⟨N0,zDI⟩ zLv
def znp:=zsI ⟨N0,Pg⟩
def zxs:=zWL ⟨N0,Pg⟩ ZG
def zDJ:=zsK ⟨N0,ZE⟩
def zLw:=zWM ⟨N0,ZE⟩ zno
def zDK:=zte ⟨N0⟩
def zLx:=zW6 ⟨N0⟩
def zDL:=zBm ⟨N0,zDK⟩
def zLy:=zW5 ⟨N0,zDK⟩ zLx
def znq:=zr0 ⟨N0,O9,znp,zDJ,zDL⟩
def zxt:=zV4 ⟨N0,O9,znp,zDJ,zDL⟩ ZF zxs zLw zLy
def znr:=zsL ⟨N0⟩
def zxu:=zWO ⟨N0⟩
def zns:=zr3 ⟨N0,znr,O9⟩
def zxv:=zV7 ⟨N0,znr,O9⟩ zxu ZF
def zDM:=zrj ⟨N0⟩
def zLz:=zVk ⟨N0⟩
def zDN:=zr5 ⟨N0⟩
def zLA:=zV8 ⟨N0⟩
def ZH:=EG ⟨N0,znm,znq,zns,O9,zDM⟩
def zgQ:=zkO ⟨N0,znm,znq,zns,O9,zDM⟩ zxr zxt zxv ZF zLz
def ZI:=EI ⟨N0,znm,znq,zns,O9,zDN⟩
def zgR:=zkQ ⟨N0,znm,znq,zns,O9,zDN⟩ zxr zxt zxv ZF zLA
def zgS:=ae.two ZH ZI
theorem zxw:Ok aB 117 (ae.un zgS):=uP zgQ zgR
def zDO:=zty ⟨N0,ZE⟩
def zLB [aH]:=zXn ⟨N0,ZE⟩ zno
def znt:=zto ⟨N0⟩
def zxx [aH]:=zXd ⟨N0⟩
def znu:=zsV ⟨N0,znt⟩
def zxy [aH]:=zWW ⟨N0,znt⟩ zxx
def zcj:=zsf ⟨N0,znu⟩
def znv [aH]:=zWe ⟨N0,znu⟩ zxy
def zDP:=ztv ⟨N0,zDO,Pg,zcj⟩
def zLC [aH]:=zXl ⟨N0,zDO,Pg,zcj⟩ zLB ZG znv
def zDQ:=ztt ⟨N0,zDP⟩
def zLD:=zXh ⟨N0,zDP⟩ zkd zka (@zLC ⟨1⟩)
def zDR:=zlN ⟨N0,zgS,zDQ,znp⟩
def zLE:=zXe ⟨N0,zgS,zDQ,znp⟩ zxw zLD zxs
def zDS:=zsY ⟨N0,zDR⟩
def zLF:=zWY ⟨N0,zDR⟩ zLE
def zuA:=zsr ⟨N0,D93,zuz,zDS⟩
def zLG:=zWs ⟨N0,D93,zuz,zDS⟩ zZY zxq zLF
def zDT:=zqi ⟨N0⟩
def zLH:=zT5 ⟨N0⟩
def zuB:=zzN ⟨N0,zDT⟩
def zLI:=zT3 ⟨N0,zDT⟩ zLH
def zck:Nat→af×Int×Bc 143 (Pt aW)×Bc 38 Int×Bw 30 43 3 56 af×Bs 255 178 2 4×Unit→ae ((Bool×Int)×(Unit×Unit×(Pt aW)×Int×Sl af×Unit×Unit))
 | 0=>λ_=>.no
 | n+1=>zsm ⟨N0,zgJ,zuA,zuB,(zck n)⟩
theorem zxz:∀n,jc aB 178 (ae.unP 254 (zck n))
  | 0=>λxs ys rs h=>by
    obtain⟨_,h2⟩:=ae.chk_o h;cases h2
  | n+1=>zWm ⟨N0,zgJ,zuA,zuB,(zck n)⟩ zxp zLG zLI zkc (zxz n)
def zDU:=zrp ⟨N0,(zck 30)⟩
def zLJ:=zVr ⟨N0,(zck 30)⟩ (zxz 30)
def zDV:=zsP ⟨N0⟩
def zLK:=zWR ⟨N0⟩
def zDW:=zsN ⟨N0,zDV⟩
def zLL:=zWQ ⟨N0,zDV⟩ zLK
def zDX:=zsd ⟨N0,zcj⟩
def zLM:=zWd ⟨N0,zcj⟩ znv
def zDY:=zsh ⟨N0,zcj⟩
def zLN:=zWg ⟨N0,zcj⟩ znv
def ZJ:=EO ⟨N0,zDX⟩
def zgT:=zk8 ⟨N0,zDX⟩ zLM
def ZK:=EP ⟨N0,zDY⟩
def zgU:=zla ⟨N0,zDY⟩ zLN
def zgV:=ae.two ZJ ZK
theorem zxA:Ok aB 168 (ae.un zgV):=uP zgT zgU
def zDZ:=zrl ⟨N0⟩
def zLO:=zVm ⟨N0⟩
def ZL:=EJ ⟨N0,zDW,zgV,Pg⟩
def zgW:=zkS ⟨N0,zDW,zgV,Pg⟩ zLL zxA ZG
def ZM:=EL ⟨N0,zDZ,zgV,Pg⟩
def zgX:=zkU ⟨N0,zDZ,zgV,Pg⟩ zLO zxA ZG
def zuC:=ae.two ZL ZM
theorem zLP:Ok aB 119 (ae.un zuC):=uP zgW zgX
def zD0:=zr7 ⟨N0,O9,znr,Pg,zuC⟩
def zLQ:=zWa ⟨N0,O9,znr,Pg,zuC⟩ ZF zxu ZG zLP
def zLR:=zrd ⟨N0,Vx,zgS,zD0⟩
def zLS:=zVg ⟨N0,Vx,zgS,zD0⟩ zeE zxw zLQ
def zuD:=zsA ⟨N0⟩
def zxB:=zWA ⟨N0⟩
def zLT:=zsC ⟨N0,zuD⟩
def zLU:=zWC ⟨N0,zuD⟩ zxB
def zD1:=ztk ⟨N0,znt⟩
def zLV:=zXa ⟨N0,znt⟩ zxx
def zD2:=ztm ⟨N0⟩
def zLW:=zXb ⟨N0⟩
def zD3:=zsQ ⟨N0,zD1,zD2⟩
def zLX:=zWU ⟨N0,zD1,zD2⟩ zLV zLW
def zD4:=zBc ⟨N0,zD3⟩
def zLY:=zWS ⟨N0,zD3⟩ zLX
def zLZ:=zre ⟨N0,Vu,Dh,znk,zD4⟩
def zL0:=zVh ⟨N0,Vu,Dh,znk,zD4⟩ zeC O8 zxm zLY
def zuE:=zrF ⟨N0,zuz,zgJ,zLR,zuD,zLT,zLZ⟩
theorem zL1:Ok aB 141 (ae.un zuE):=zVF _ zxq zxp zLS zxB zLU zL0
def zD5:=zrr ⟨N0,zuE⟩
def zL2:=zVs ⟨N0,zuE⟩ zL1
def zD6:=zrR ⟨N0⟩
def zL3:=zVU ⟨N0⟩
def D92:=F92 ⟨N0,zD6⟩
def zZ0:=o92 ⟨N0,zD6⟩ zL3
def zD7:=zrz ⟨N0,D92⟩
def zL4:=zVy ⟨N0,D92⟩ zZ0
def D98:=F98 ⟨N0⟩
def zZ2:=o98 ⟨N0⟩
def zeF:=Kw ⟨N0,zD7⟩
def znw:=zq6 ⟨N0,zD7⟩ zL4
def znx:=Ut ⟨N0,D98⟩
def zuF:=zAy ⟨N0,D98⟩ zZ2
def D97:=ae.two zeF znx
theorem zL6:Ok aB 97 (ae.un D97):=uP znw zuF
def zD8:=zrx ⟨N0,D97⟩
def zL7:=zVw ⟨N0,D97⟩ zL6
def zD9:=zru ⟨N0,zD8⟩
def zL8:=zVu ⟨N0,zD8⟩ zL7
def ZN:=EM ⟨N0,zD5⟩
def zgY:=zkX ⟨N0,zD5⟩ zL2
def ZO:=EN ⟨N0,zD9⟩
def zgZ:=zkZ ⟨N0,zD9⟩ zL8
def zuG:=ae.two ZN ZO
theorem zL9:gI aB 128 (.mkv 43 3 56 (ae.unV zuG)):=zp0 zgY zgZ
def zEa:=zs3 ⟨N0⟩
def zMa [aH]:=zWZ ⟨N0⟩
def zEb:=zsu ⟨N0,zEa⟩
def zMb [aH]:=zWw ⟨N0,zEa⟩ zMa
def zEc:=zsw ⟨N0,znu⟩
def zMc [aH]:=zWx ⟨N0,znu⟩ zxy
def zEd:=zss ⟨N0⟩
def zMd [aH]:=zWu ⟨N0⟩
def zEe:=zrB ⟨N0,zEb,zEc,zEd⟩
def zMe [aH]:=zVB ⟨N0,zEb,zEc,zEd⟩ zMb zMc zMd
def D72:=F72 ⟨N0,D78,zDy,zDU,zuG,zEe⟩
def zZ3:=o72 ⟨N0,D78,zDy,zDU,zuG,zEe⟩ zZU zLl zLJ zL9 zkb (@zMe ⟨1⟩)
def D99:=F99 ⟨N0⟩
def zZ4:=o99 ⟨N0⟩
def ZP:Nat→zmQ
 | 0=>λ_=>.no
 | n+1=>Zh ⟨N0,(ZP n)⟩
theorem zny(n:Nat):ZP (n+1)=Zh ⟨N0,(ZP n)⟩:=rfl
theorem zMf(n:Nat):jc aB 100 (ae.unM (ZP n)):=by
 induction n with
 | zero =>
  intro _ xs ys rs h;obtain⟨_,h2⟩:=ae.chk_o h;cases h2
 | succ n ih =>
  rw[zny];exact zY4 ⟨N0,(ZP n)⟩ ih
def ZQ:Nat→zmR
 | 0=>λ_=>.no
 | n+1=>zcb ⟨N0,(ZQ n)⟩
theorem znz(n:Nat):ZQ (n+1)=zcb ⟨N0,(ZQ n)⟩:=rfl
theorem zMg(n:Nat):jc aB 101 (ae.unM (ZQ n)):=by
 induction n with
 | zero =>
  intro _ xs ys rs h;obtain⟨_,h2⟩:=ae.chk_o h;cases h2
 | succ n ih =>
  rw[znz];exact zY5 ⟨N0,(ZQ n)⟩ ih
def D36:=F36 ⟨N0,D96,D72,D97,D99,(ZP 42),(ZQ 42)⟩
theorem zZ6:Ok aB 36 (ae.un D36):=o36 _ zZQ zZ3 zL6 zZ4 (zMf 42) (zMg 42)
def zEf:Nat→(Sl Int)→ae ((Sl (Sl Int)))
 | 0=>λ_=>.no
 | n+1=>zQu ⟨N0,(zEf n)⟩
theorem zRo:∀n,Ok aB 102 (ae.un (zEf n))
  | 0=>λargs rs hr=>by
    obtain⟨_,h2⟩:=ae.chk_o hr;cases h2
  | n+1=>z8Z ⟨N0,(zEf n)⟩ (zRo n)
def D48:=F48 ⟨N0⟩
def zMi:=o48 ⟨N0⟩
def D40:=F40 ⟨N0,D35,D48⟩
def zZ7:=o40 ⟨N0,D35,D48⟩ zF4 zMi
def D41:=F41 ⟨N0,D48⟩
def zZ8:=o41 ⟨N0,D48⟩ zMi
def D37:=F37 ⟨N0,D35,(zEf 12),D40,D38,D41⟩
def z9j:=o37 ⟨N0,D35,(zEf 12),D40,D38,D41⟩ zF4 (zRo 12) zZ7 zF3 zZ8
def D7:=F7 ⟨N0,D23,D19,D26,D34,D28,D35,D36,D37,D38⟩
theorem oD7:Ok aB 7 (ae.un D7):=o7 _ zZl zZo zZv zZw zZP zF4 zZ6 z9j zF3
theorem zZ9:Q23 D23:=s23 bH
theorem znA:Ew D73:=s73
theorem zMj:zz3 zC1:=zUz znA
theorem zMk:zz4 zC2:=zUA bH znA
theorem zMl:zz5 zC3:=zUB bH znA zMj zMk
theorem z0a:QSe D61:=s61 bH znA zMl
theorem zMm:Ew D86:=s86
theorem z0b:Q62 D62:=s62 zMm
theorem zxC:zqU znf:=zUK bH
theorem zMn:zAa zC4:=zUL bH znA zxC
theorem z0c:Q85 D85:=s85 bH zMn
theorem z0d:Q26 D26:=s26 z0a z0b z0c
theorem z0e:QVw D34:=s34
theorem zMo:Q87 D87:=s87 bH
theorem zMp:zAc zC5:=zUP bH
theorem zMq:Q75 D75:=s75 zMp
theorem zMr:zCm zuy:=zYw
theorem zMs:Q65 D65:=s65 bH zMq
theorem znB:zmc zgB:=zXX bH
theorem zMt:zBN znh:=zXY bH
theorem zMu:zBP zC6:=zX2
theorem zxD:zbX zni:=zXq bH
theorem zMv:OG D71:=s71 zxD
theorem z0f:Q55 D55:=s55 zMv
theorem zxE:ztU zC9:=zX4 bH zMu z0f
theorem zxF:ztO znj:=zXZ
theorem zMw:zBO zDa:=zX0 zxF
theorem zMx:Q57 D57:=s57 bH zMw
theorem zMy:zBW zDb:=zX5 bH zxF
theorem zMz:Q56 D56:=s56
theorem zxG:ztV zDc:=zX6 zMy zMz
theorem zMA:zBX zgC:=zX7 bH zxE zMx zxG
theorem zMB:zBY zDd:=zX8 znB zMt zMA
theorem zMC:zCg zDe:=zYo bH
theorem z0g:Q74 D74:=s74
theorem zMD:zCd zDf:=zYk bH z0g
theorem z0h:Q90 D90:=s90 zMC zMD
theorem zxH:ztX zgD:=zYr zMs zMB z0h
theorem zxI:∀n,QW n (zci n)
  | 0=>λs l x t c i w he hv hc ht hf=>absurd hf (by have:=hv.le;omega)
  | n+1=>zYx (E:=⟨N0,D87,D75,zuy,zgD,(zci n)⟩) bH zMo zMq zMr zxH (zxI n)
theorem zME:zCn zDg:=zYy (zxI 30)
theorem zEg:zm5 zgC:=zKk bH zxE zMx zxG
theorem z0i:Q76 D76:=s76 zxD zMv
theorem zEh:zm6 zKX:=zKl bH znB zEg z0i zMz
theorem zEi:zm7 zKZ:=zKm
theorem zMF:zCM zDh:=zYY
theorem z0j:Q77 D77:=s77 bH zMF zxC
theorem zMG:zCW D91:=zZd bH zMs zMo znB zEh zEi zMm z0j
theorem zEj:zm8 zDi:=zKp zxH zMG
theorem zMH:zCY D94:=zZe bH zME zEj
theorem z0k:Q53 D53:=s53 bH
theorem zF5:Zb D38:=s38 bH
theorem zEk:zm9 zDj:=zKr zF5
theorem zMI:zxe D88:=zZf bH zMH z0k zEk
theorem z3T:zZh D28:=z9h zMI
theorem zF6:Q35 D35:=s35 bH
theorem z0l:QVw D96:=s96
theorem Ph:Ew Dh:=zUy
theorem zxJ:zqT znk:=zUC Ph
theorem zMJ:zz6 zDk:=zUD Ph zxJ
theorem zMK:zf3 zDl:=zUE
theorem zML:zz7 zDm:=zUG bH Ph
theorem zMM:zf3 zDn:=zUF
theorem zMN:zz8 zDo:=zUH bH Ph zMJ zMK zML zMM
theorem zeG:QSe Vu:=zUI bH zMN Ph
theorem zMO:zz9 zDp:=zUJ zeG
theorem zMP:Ew zDq:=zUx
theorem z0m:Q60 D60:=s60 zMO zMP
theorem zeH:zf4 Vw:=zUM bH Ph
theorem zxK:zqV znl:=zUN zeG zeH
theorem zMQ:zAb zDr:=zUO zxK
theorem zMR:zAf zDs:=zUT
theorem zMS:zAd zDt:=zUQ bH
theorem zMT:zAe zDu:=zUR bH zMS
theorem zMU:zAg zDv:=zUU zMR zMT
theorem zMV:zAh zDw:=zUV zxK zeH zMU
theorem z0n:Q78 D78:=s78 bH z0m zMQ zMV
theorem zMW:zCI zDx:=zYV bH
theorem zMX:zug zDy:=zYW zMW
theorem zMY:zCi zDz:=zYs
theorem zg0:QUx .inl Zr:=zmw bH zMY
theorem zMZ:zCj zDA:=zYt
theorem zg1:QUx .inr Zt:=zmx bH zMZ
theorem zxL:ztZ zgG:=zYu zg0 zg1
theorem zg2:QUa .inl Zu:=zmy zxL
theorem zg3:QUa .inr Zv:=zmz zxL
theorem zxM:zt0 zgJ:=zYv zg2 zg3
theorem zM0:zCe zDB:=zYl bH zeG zeH
theorem zM1:zCc zDC:=zYi
theorem z0o:Q50 D50:=s50 bH zM0 zeH zM1
theorem z0p:Q93 D93:=s93 bH z0o
theorem zxN:zqZ zuz:=zU0 bH
theorem zeI:Ew Vx:=zXs
theorem zM2:zBu zDD:=zXv zeI
theorem zxO:ztB znm:=zXw bH zM2 zeI
theorem zM3:zBy zDE:=zXA
theorem zg4:QIx .inl Zw:=zlU bH zM3
theorem zM4:zBv zDF:=zXx zeI
theorem zM5:zBw zDG:=zXy zM4
theorem zg5:QIx (λc=>.inr (.inl c)) Zx:=zlV bH zM5
theorem zM6:zBx zDH:=zXz
theorem zg6:QIx (λc=>.inr (.inr c)) Zy:=zlW bH zM6
theorem znC:zlT Zz:=zXB zg4 zg5 zg6
theorem zg7:Qa .inl ZA:=zlX znC
theorem zg8:Qa (λc=>.inr (.inl c)) ZB:=zlY znC
theorem zg9:Qa (λc=>.inr (.inr c)) ZC:=zlZ znC
theorem znD:YN ZE:=zXC zg7 zg8 zg9
theorem ZR:zbY O9:=zXD znD
theorem zM7:zBs zDK:=zXt
theorem zM8:zBt zDL:=zXu bH zM7
theorem zM9:zbX zDI:=zXp bH
theorem ZT:OG Pg:=zXr zM9
theorem zxP:ztE znp:=zXH ZT
theorem zNa:zBz zDJ:=zXE znD
theorem zxQ:ztF znq:=zXI ZR zM8 zxP zNa
theorem zxR:ztD znr:=zXG bH
theorem zxS:ztH zns:=zXJ zxR ZR
theorem zNb:zBC zDM:=zXK
theorem zha:QOp .inl ZH:=zl2 zxO zxQ zxS ZR zNb
theorem zNc:zBD zDN:=zXL
theorem zhb:QOp .inr ZI:=zl3 zxO zxQ zxS ZR zNc
theorem zxT:ztI zgS:=zXN zha zhb
theorem zNd:zBA zDO:=zXF znD
theorem zxU:ztL znt:=zXO
theorem zxV:zb0 znu:=zXP zxU
theorem znE:zl6 zcj:=zXR zxV
theorem zNe:zBI zDP:=zXS zNd ZT znE
theorem zNf:zBJ zDQ:=zXT zNe
theorem zNg:zBK zDR:=zXV bH zxT zNf zxP
theorem zNh:zBL zDS:=zXW zNg
theorem zNi:zCh zuA:=zYq z0p zxN zNh
theorem zNj:zAk zDT:=zUZ
theorem zNk:zAm zuB:=zU3 bH zNj
theorem znF:∀n,QMp n (zck n)
  | 0=>λs l r x t c i w he hv hc ht hf=>absurd hf (by have:=hv.le;omega)
  | n+1=>zJR (E:=⟨N0,zgJ,zuA,zuB,(zck n)⟩) zxM zNi zNk (znF n)
theorem zEl:zmB zDU:=zJS (znF 30)
theorem zNl:zBZ zDV:=zX9
theorem zNm:zB1 zDW:=zYa zNl
theorem zNn:zB2 zDX:=zYb znE
theorem zhc:QEx .inl ZJ:=zmq bH zNn
theorem zNo:zB3 zDY:=zYc znE
theorem zhd:QEx .inr ZK:=zmr bH zNo
theorem zxW:ztW zgV:=zYd zhc zhd
theorem zhe:QBd .inl ZL:=zmt bH zNm zxW ZT
theorem zNp:zB6 zDZ:=zYe
theorem zhf:QBd .inr ZM:=zmu bH zNp zxW ZT
theorem zNq:zB8 zuC:=zYf zhe zhf
theorem zNr:zB9 zD0:=zYg ZR zxR ZT zNq
theorem zNs:zCa zLR:=zYh zeI zxT zNr
theorem zxX:zt5 zuD:=zYE
theorem zNt:zCv zLT:=zYF zxX
theorem zNu:zCp zD1:=zYA zxU
theorem zNv:zCo zD2:=zYz
theorem zNw:zCr zD3:=zYB bH zNu zNv
theorem zNx:zCs zD4:=zYC bH zNw
theorem zNy:zCt zLZ:=zYD zeG Ph zxJ zNx
theorem zNz:zCy zuE:=zYG bH zxN zxM zNs zxX zNt zNy
theorem zNA:zCz zD5:=zYH zNz
theorem zhg:QFi .inl ZN:=zmF bH zNA
theorem zNB:zCA zD6:=zYI bH
theorem z0q:Q92 D92:=s92 bH zNB
theorem zNC:zCB zD7:=zYK z0q
theorem znG:zt7 zeF:=zt8 bH zNC
theorem z0r:Q98 D98:=s98
theorem zuH:zt9 znx:=zCC bH z0r
theorem zND:Q97 D97:=s97 znG zuH
theorem zNE:zCD zD8:=zYM zND
theorem zNF:zCE zD9:=zYN zNE
theorem zhh:QFi .inr ZO:=zmG bH zNF
theorem zNG:zue zuG:=zYO zhg zhh
theorem zNH:zCG zEa:=zYP
theorem zNI:zb0 zEb:=zYQ zNH
theorem zNJ:Zb zEc:=zYR bH zxV
theorem zNK:zCH zEd:=zYT bH
theorem zNL:zuf zEe:=zYU zNI zNJ zNK
theorem zNM:zCP D72:=zY1 z0n zMX zEl zNG zNL
theorem z0s:Q99 D99:=s99 bH
theorem zNN(n:Nat):Zj n (ZP n):=by
 induction n with
 | zero=>exact λB M mb i left p _ hi hn _=>by omega
 | succ n ih =>
  rw[zny];exact zY6 (E:=⟨N0,(ZP n)⟩) bH ih
theorem zNO(n:Nat):Zk n (ZQ n):=by
 induction n with
 | zero=>exact λB M mb i left p _ hi hn _=>by omega
 | succ n ih =>
  rw[znz];exact zY7 (E:=⟨N0,(ZQ n)⟩) bH ih
theorem z0t:Q36 D36:=s36 bH z0l zNM zND z0s (zNN 42) (zNO 42)
theorem zRp:∀n,zQv n (zEf n)
  | 0=>λw hw hn=>by omega
  | n+1=>z81 (E:=⟨N0,(zEf n)⟩) bH (zRp n)
theorem zNP:Q48 D48:=s48 bH
theorem z0u:Q40 D40:=s40 bH zF6 zNP
theorem z0v:Q41 D41:=s41 bH zNP
theorem z9k:Q37 D37:=s37 bH zF6 (zRp 12) z0u zF5 z0v
theorem qD7:Q7 D7:=s7 zZ9 zZn z0d z0e z3T zF6 z0t z9k zF5
theorem z0w{δ ρ:Type}[dA δ][dA ρ]{F:δ->ae ρ}{a:δ}{r:ρ}(hc:dA.ck (α:=δ) (dA.enc a)=true)(hd:dA.dec (dA.enc a)=a)(h:F a=.ok r):(ae.un F (dA.enc a)).o=some (dA.enc r):=by
 unfold ae.un;rw[hc,hd,h];rfl
end Go.Proofs
