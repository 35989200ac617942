/- Part 7 of what the proof rests on: a machine that runs functions of the program on pure values, proved sound; the functions that the law reaches, and what they compute. -/
import Derived.Test.YtedhjaaikeakoaaDoorQ6
set_option linter.all false
namespace Go.Proofs
open Go Go.Pm
set_option maxRecDepth 100000
set_option linter.unusedVariables false
def Rh (N:Nat) (T:Tab) (d:zbX) (B:Int):Prop:=∀ v,v < N->(T (v * 2)=zAx (d v)/\T (v * 2+1)=0)/\∀ x,d v=some x->-B<=x/\x<=B
def okY (node:Int) (y:step):Bool:=decide (node<=y.from_) && decide (node<=y.to)
def hF (w:web) (node:Int):List Ed:=((Ws w).filter (okY node)).map edQ
theorem zIw (x y:Int):nvr x y=decide ((x,y)=((1000000000000:Int),(0:Int))):=zno x y
theorem zBR {N:Nat}{T:Tab}{d:zbX}{B:Int}(h:Rh N T d B) (hB:B<=100000000000){v:Nat}(hv:v < N):nvr (T (v * 2)) (T (v * 2+1))=(d v).isNone:=by
 obtain⟨⟨h1,h2⟩,h3⟩:=h v hv
 rw[zIw,h1,h2]
 cases hd:d v with
 | none=>exact dqT rfl
 | some x =>
  have:=h3 x hd
  exact dqF (λ e=>by have:=(Prod.mk.inj e).1;have e':x=1000000000000:=this;omega)
theorem zyt (w : web) {N : Nat} (hN : N ≤ 40) (node uses : Int) (S3 : Int → Sl Tab → Sl Tab) (P3 : Int → Sl Tab → Bool) (y : step) (hy : StOk y N) (S4 : Int → Sl Tab → Sl Tab) (P4 : Int → Sl Tab → Bool) (k : Nat) (hk : 1 ≤ k) (hk40 : k ≤ 45) (v : Sl Tab) (hkv : k < v.len) (o d : zbX) (B : Int) (hB : 0 ≤ B ∧ B ≤ 90000000000) (ho : Rh N (v.get (k - 1)) o B) (hd : Rh N (v.get k) d (B + 1000000000)) (c : Bool) :
    ∃ v',zja S3 w node uses y S4 (k:Int) v=S4 (k:Int) v'/\zjb P3 w node uses y P4 (k:Int) v=P4 (k:Int) v'/\v'.len=v.len/\(∀ j,j ≠ k->v'.get j=v.get j) /\
      Rh N (v'.get k) (cond (okY node y) (jr o (d,c) (edQ y)) (d,c)).1 (B+1000000000):=by
  have f0:=hy.f0;have f1:=hy.f1;have t0:=hy.t0;have t1:=hy.t1;have l0:=hy.l0;have l1:=hy.l1
  have hw:w64 ((k:Int) - (1:Int))=((k - 1:Nat):Int):=by rw[zbt (by omega) (by omega)];omega
  have e1:0+y.to.toNat * 2+0=y.to.toNat * 2:=by omega
  have e2:0+y.from_.toNat * 2+0=y.from_.toNat * 2:=by omega
  have hS : zja S3 w node uses y S4 (k : Int) v = cond (decide (node ≤ y.from_)) (cond (decide (node ≤ y.to)) (cond (!(nvr (tg 80 (v.get ((w64 ((k : Int) - (1:Int))).toNat)) (0 + y.to.toNat * 2 + 0)) (tg 80 (v.get ((w64 ((k : Int) - (1:Int))).toNat)) (0 + y.to.toNat * 2 + 0 + 1))))
      (S4 (k:Int) (⟨v.len,(setT ((k:Int)).toNat (ts 80 (v.get ((k:Int)).toNat) (0+y.from_.toNat * 2+0) [(zcw (⟨(tg 80 (v.get ((k:Int)).toNat) (0+y.from_.toNat * 2+0)),(tg 80 (v.get ((k:Int)).toNat) (0+y.from_.toNat * 2+0+1))⟩:far) (⟨1,λ _=>(⟨(w64 ((tg 80 (v.get ((w64 ((k:Int) - (1:Int))).toNat)) (0+y.to.toNat * 2+0))+y.length)),(0:Int)⟩:far)⟩:(Sl far))).length,(zcw (⟨(tg 80 (v.get ((k:Int)).toNat) (0+y.from_.toNat * 2+0)),(tg 80 (v.get ((k:Int)).toNat) (0+y.from_.toNat * 2+0+1))⟩:far) (⟨1,λ _=>(⟨(w64 ((tg 80 (v.get ((w64 ((k:Int) - (1:Int))).toNat)) (0+y.to.toNat * 2+0))+y.length)),(0:Int)⟩:far)⟩:(Sl far))).uses]) v.get)⟩:Sl Tab)) (S4 (k:Int) v)) (S4 (k:Int) v)) (S4 (k:Int) v):=rfl
  have hP : zjb P3 w node uses y P4 (k : Int) v = (decide (0 ≤ (w64 ((k : Int) - (1:Int))) ∧ (w64 ((k : Int) - (1:Int))) < (v.len : Int)) && (decide (0 ≤ y.to ∧ y.to < (40 : Int)) && (decide ((w64 ((k : Int) - (1:Int))).toNat < v.len) && cond (decide (node ≤ y.from_)) (cond (decide (node ≤ y.to)) (cond (!(nvr (tg 80 (v.get ((w64 ((k : Int) - (1:Int))).toNat)) (0 + y.to.toNat * 2 + 0)) (tg 80 (v.get ((w64 ((k : Int) - (1:Int))).toNat)) (0 + y.to.toNat * 2 + 0 + 1))))
      (decide (0<=(k:Int)/\(k:Int) < (v.len:Int)) && (decide (0<=y.from_/\y.from_ < (40:Int)) && (decide (((k:Int)).toNat < v.len) && (decide (zyJ (⟨(tg 80 (v.get ((k:Int)).toNat) (0+y.from_.toNat * 2+0)),(tg 80 (v.get ((k:Int)).toNat) (0+y.from_.toNat * 2+0+1))⟩:far) (⟨1,λ _=>(⟨(w64 ((tg 80 (v.get ((w64 ((k:Int) - (1:Int))).toNat)) (0+y.to.toNat * 2+0))+y.length)),(0:Int)⟩:far)⟩:(Sl far))=true) && (decide (0<=(k:Int)/\(k:Int) < (v.len:Int)) && (decide (0<=y.from_/\y.from_ < (40:Int)) && (decide (((k:Int)).toNat < v.len) &&
      P4 (k:Int) (⟨v.len,(setT ((k:Int)).toNat (ts 80 (v.get ((k:Int)).toNat) (0+y.from_.toNat * 2+0) [(zcw (⟨(tg 80 (v.get ((k:Int)).toNat) (0+y.from_.toNat * 2+0)),(tg 80 (v.get ((k:Int)).toNat) (0+y.from_.toNat * 2+0+1))⟩:far) (⟨1,λ _=>(⟨(w64 ((tg 80 (v.get ((w64 ((k:Int) - (1:Int))).toNat)) (0+y.to.toNat * 2+0))+y.length)),(0:Int)⟩:far)⟩:(Sl far))).length,(zcw (⟨(tg 80 (v.get ((k:Int)).toNat) (0+y.from_.toNat * 2+0)),(tg 80 (v.get ((k:Int)).toNat) (0+y.from_.toNat * 2+0+1))⟩:far) (⟨1,λ _=>(⟨(w64 ((tg 80 (v.get ((w64 ((k:Int) - (1:Int))).toNat)) (0+y.to.toNat * 2+0))+y.length)),(0:Int)⟩:far)⟩:(Sl far))).uses]) v.get)⟩:Sl Tab)))))))) (P4 (k:Int) v)) (P4 (k:Int) v)) (P4 (k:Int) v)))):=rfl
  rw[hS,hP]
  clear hS hP
  rw[hw,e1,e2,dqN,dqN]
  rw[zdk (F:=v.get (k - 1)) (by omega),zdk (F:=v.get (k - 1)) (by omega),zdk (F:=v.get k) (by omega),zdk (F:=v.get k) (by omega)]
  rw[zBR ho (by omega) (show y.to.toNat < N by omega),(zgc _ _).1,(zgc _ _).2,zq3]
  rw[dqT (show 0<=((k - 1:Nat):Int)/\((k - 1:Nat):Int) < (v.len:Int) by omega),dqT (show 0<=y.to/\y.to < (40:Int) by omega),dqT (show k - 1 < v.len by omega),dqT (show 0<=(k:Int)/\(k:Int) < (v.len:Int) by omega),dqT (show 0<=y.from_/\y.from_ < (40:Int) by omega),dqT hkv]
  simp only[Bool.true_and,decide_true]
  have same:∃ v',S4 (k:Int) v=S4 (k:Int) v'/\P4 (k:Int) v=P4 (k:Int) v'/\v'.len=v.len/\(∀ j,j ≠ k->v'.get j=v.get j)/\Rh N (v'.get k) d (B+1000000000):=⟨v,rfl,rfl,rfl,λ _ _=>rfl,hd⟩
  unfold okY
  cases decide (node<=y.from_)
  · exact same
  cases decide (node<=y.to)
  · exact same
  simp only[dqA,Bool.and_self]
  obtain⟨⟨o1,o2⟩,o3⟩:=ho y.to.toNat (by omega)
  obtain⟨⟨d1,d2⟩,d3⟩:=hd y.from_.toNat (by omega)
  cases hou:o y.to.toNat with
  | none =>
    have hr:jr o (d,c) (edQ y)=(d,c):=by
      unfold jr edQ
      simp only[hou]
    rw[hr]
    simp only[Option.isNone_none,Bool.not_true,dqB]
    exact same
  | some x =>
    have hx:=o3 x hou
    rw[hou] at o1
    have o1':v.get (k - 1) (y.to.toNat * 2)=x:=o1
    simp only[Option.isNone_some,Bool.not_false,dqA]
    rw[o1',zbt (x:=x+y.length) (by omega) (by omega),d2,d1]
    have hlt:decide ((x+y.length < zAx (d y.from_.toNat))\/(x+y.length=zAx (d y.from_.toNat)/\(0:Int) < 0))=ltO (x+y.length) (d y.from_.toNat):=by
      cases hdv:d y.from_.toNat with
      | none=>exact dqT (.inl (show x+y.length < 1000000000000 by omega))
      | some z =>
        show decide ((x+y.length < z)\/_)=decide (x+y.length < z)
        exact decide_eq_decide.2 ⟨λ h=>h.elim id λ h=>absurd h.2 (by omega),.inl⟩
    have hr:jr o (d,c) (edQ y)=cond (ltO (x+y.length) (d y.from_.toNat)) (zkV d y.from_.toNat (x+y.length),true) (d,c):=by
      unfold jr edQ
      simp only[hou] <;> rfl
    rw[hr]
    refine⟨_,rfl,rfl,rfl,λ j hj=>?_,?_⟩
    · show setT k _ v.get j = v.get j
      rw[zfP,dqG hj]
    · show Rh N (setT k _ v.get k) _ _
      rw[zfP,dqP rfl]
      show Rh N (ts 80 (v.get k) (y.from_.toNat * 2) [(cond (decide ((x+y.length < zAx (d y.from_.toNat))\/(x+y.length=zAx (d y.from_.toNat)/\(0:Int) < 0))) (⟨x+y.length,0⟩:far) (⟨zAx (d y.from_.toNat),0⟩:far)).length,(cond (decide ((x+y.length < zAx (d y.from_.toNat))\/(x+y.length=zAx (d y.from_.toNat)/\(0:Int) < 0))) (⟨x+y.length,0⟩:far) (⟨zAx (d y.from_.toNat),0⟩:far)).uses]) _ _
      rw[hlt]
      cases hl:ltO (x+y.length) (d y.from_.toNat) with
      | false =>
        simp only[dqB]
        intro q hq
        refine⟨?_,(hd q hq).2⟩
        rw[zcd (by omega),zcd (by omega)]
        by_cases hqf:q=y.from_.toNat
        · subst hqf
          rw[dqG (by omega),dqP rfl,dqP rfl];exact⟨rfl,rfl⟩
        · rw[dqG (by omega),dqG (by omega),dqG (by omega),dqG (by omega)];exact (hd q hq).1
      | true =>
        simp only[dqA]
        intro q hq
        rw[zcd (by omega),zcd (by omega)]
        unfold zkV
        by_cases hqf:q=y.from_.toNat
        · subst hqf
          rw[dqG (by omega),dqP rfl,dqP rfl,dqP rfl]
          exact⟨⟨rfl,rfl⟩,λ z hz=>by cases hz;omega⟩
        · rw[dqG (show ¬ q * 2=y.from_.toNat * 2+1 by omega),dqG (show ¬ q * 2=y.from_.toNat * 2 by omega),dqG (show ¬ q * 2+1=y.from_.toNat * 2+1 by omega),dqG (show ¬ q * 2+1=y.from_.toNat * 2 by omega),dqG hqf];exact hd q hq
theorem zyu (w : web) {N : Nat} (hN : N ≤ 40) (node uses : Int) (S3 : Int → Sl Tab → Sl Tab) (P3 : Int → Sl Tab → Bool) (k : Nat) (hk : 1 ≤ k) (hk40 : k ≤ 45) (o : zbX) (B : Int) (hB : 0 ≤ B ∧ B ≤ 90000000000) :
  ∀ (l:List step),(∀ y∈l,StOk y N)->∀ (v:Sl Tab) (d:zbX) (c:Bool),k < v.len->Rh N (v.get (k - 1)) o B->Rh N (v.get k) d (B+1000000000) ->
  ∃ v',zjc S3 w node uses l (k:Int) v=S3 (w64 ((k:Int)+(1:Int))) v'/\zjd P3 w node uses l (k:Int) v=P3 (w64 ((k:Int)+(1:Int))) v'/\v'.len=v.len/\(∀ j,j ≠ k->v'.get j=v.get j) /\
   Rh N (v'.get k) (((l.filter (okY node)).map edQ).foldl (jr o) (d,c)).1 (B+1000000000):=by
 intro l
 induction l with
 | nil=>intro _ v d c _ _ hd;exact⟨v,rfl,rfl,rfl,λ _ _=>rfl,hd⟩
 | cons y l ih =>
  intro hl v d c hkv ho hd
  obtain⟨v1,a1,a2,a3,a4,a5⟩:=zyt w hN node uses S3 P3 y (hl y (dqj ..)) (zjc S3 w node uses l) (zjd P3 w node uses l) k hk hk40 v hkv o d B hB ho hd c
  have ho1:Rh N (v1.get (k - 1)) o B:=by rw[a4 (k - 1) (by omega)];exact ho
  cases hok:okY node y with
  | false =>
   rw[hok] at a5
   obtain⟨v2,b1,b2,b3,b4,b5⟩:=ih (λ z hz=>hl z (dqf _ hz)) v1 d c (by omega) ho1 a5
   refine⟨v2,Eq.trans a1 b1,Eq.trans a2 b2,b3.trans a3,λ j hj=>(b4 j hj).trans (a4 j hj),?_⟩
   rw[List.filter_cons_of_neg (by rw[hok];exact dqk)];exact b5
  | true =>
   rw[hok] at a5
   obtain⟨v2,b1,b2,b3,b4,b5⟩:=ih (λ z hz=>hl z (dqf _ hz)) v1 (jr o (d,c) (edQ y)).1 (jr o (d,c) (edQ y)).2 (by omega) ho1 a5
   refine⟨v2,Eq.trans a1 b1,Eq.trans a2 b2,b3.trans a3,λ j hj=>(b4 j hj).trans (a4 j hj),?_⟩
   rw[List.filter_cons_of_pos hok];exact b5
structure Hm (w : web) (N : Nat) (node : Int) (U k : Nat) (v : Sl Tab) : Prop where
  len:v.len=U+1
  done:∀ j,j < k->j<=U->Rh N (v.get j) (hops (hF w node) node.toNat j) (j * 1000000000)
  rest:∀ j,k<=j->j<=U->Rh N (v.get j) zys 0
theorem Rh.mono {N:Nat}{T:Tab}{d:zbX}{B B':Int}(h:Rh N T d B) (hb:B<=B'):Rh N T d B':=λ v hv=>⟨(h v hv).1,λ x hx=>by have:=(h v hv).2 x hx;omega⟩
theorem zq5 (w:web) (hn:NetOk w.Net) (node:Int) (U:Nat) (hU:U<=40):∀ (m fu k:Nat) (v:Sl Tab),k+m=U+1->1<=k->m < fu->Hm w w.Net.Nodes.toNat node U k v ->
  zdx w node (U:Int) fu (k:Int) v=true/\Hm w w.Net.Nodes.toNat node U (U+1) (zc5 w node (U:Int) fu (k:Int) v):=by
 have hn40:=hn.n40;have hlen:=hn.len
 obtain⟨q1,q2⟩:=zkS w (by omega)
 intro m
 induction m with
 | zero =>
  intro fu k v hk h1 hf hv
  obtain⟨fu,rfl⟩:∃ k',fu=k'+1:=⟨fu - 1,by omega⟩
  have e1:zdx w node (U:Int) (fu+1) (k:Int) v=true:=by
   show zf0 w node (U:Int) (zdx w node (U:Int) fu) (k:Int) v=true
   unfold zf0
   rw[dqF (show ¬ (k:Int)<=(U:Int) by omega),dqB]
  have e2:zc5 w node (U:Int) (fu+1) (k:Int) v=v:=by
   show zfZ w node (U:Int) (zc5 w node (U:Int) fu) (k:Int) v=v
   unfold zfZ
   rw[dqF (show ¬ (k:Int)<=(U:Int) by omega),dqB]
  refine⟨e1,?_⟩
  rw[e2]
  have:k=U+1:=by omega
  subst this;exact hv
 | succ m ih =>
  intro fu k v hk h1 hf hv
  obtain⟨fu,rfl⟩:∃ k',fu=k'+1:=⟨fu - 1,by omega⟩
  have hw:w64 ((k:Int)+(1:Int))=((k+1:Nat):Int):=by rw[zbt (by omega) (by omega)];omega
  have hvl:=hv.len
  obtain⟨v',a1,a2,a3,a4,a5⟩:=zyu w (N:=w.Net.Nodes.toNat) (by omega) node (U:Int) (zc5 w node (U:Int) fu) (zdx w node (U:Int) fu) k h1 (by omega) (hops (hF w node) node.toNat (k - 1)) ((k - 1:Nat) * 1000000000) ⟨by omega,by omega⟩ (Ws w) (λ y hy=>zyO hn hy) v zys false (by omega) (hv.done (k - 1) (by omega) (by omega)) ((hv.rest k (dqt _) (by omega)).mono (by omega))
  rw[hw] at a1 a2
  have hv':Hm w w.Net.Nodes.toNat node U (k+1) v':=by
   refine⟨a3.trans hvl,λ j hj hjU=>?_,λ j hj hjU=>?_⟩
   ·by_cases hjk : j = k
    ·subst hjk
     have e:hops (hF w node) node.toNat j=hop (hF w node) (hops (hF w node) node.toNat (j - 1)):=by
      obtain⟨j,rfl⟩:∃ j',j=j'+1:=⟨j - 1,by omega⟩
      rfl
     rw[e]
     exact Rh.mono a5 (by omega)
    ·rw[a4 j hjk];exact hv.done j (by omega) hjU
   ·rw[a4 j (by omega)];exact hv.rest j (by omega) hjU
  obtain⟨i1,i2⟩:=ih fu (k+1) v' (by omega) (by omega) (by omega) hv'
  have e1:zdx w node (U:Int) (fu+1) (k:Int) v=zdx w node (U:Int) fu ((k+1:Nat):Int) v':=by
   rw[<- a2]
   show zf0 w node (U:Int) (zdx w node (U:Int) fu) (k:Int) v=_
   unfold zf0 zmK
   rw[dqT (show (k:Int)<=(U:Int) by omega),dqA,q1,q2];rfl
  have e2:zc5 w node (U:Int) (fu+1) (k:Int) v=zc5 w node (U:Int) fu ((k+1:Nat):Int) v':=by
   rw[<- a1]
   show zfZ w node (U:Int) (zc5 w node (U:Int) fu) (k:Int) v=_
   unfold zfZ zmJ
   rw[dqT (show (k:Int)<=(U:Int) by omega),dqA,q2]
  exact⟨e1.trans i1,by rw[e2];exact i2⟩
theorem ztq (w:web) (node:Int) (U:Nat) (hU:U<=40) (S0:Int->Sl Tab->Sl Tab) (P0:Int->Sl Tab->Bool) (i:Nat) (hi:i < U+1):∀ (m fu q:Nat) (v:Sl Tab),q+m=40->m < fu->v.len=U+1->(∀ p,p < q->v.get i (p * 2)=1000000000000/\v.get i (p * 2+1)=0) ->
  ∃ v',zhe S0 w node (U:Int) fu (i:Int) (i:Int) (q:Int) v=S0 (w64 ((i:Int)+(1:Int))) v'/\zhf P0 w node (U:Int) fu (i:Int) (i:Int) (q:Int) v=P0 (w64 ((i:Int)+(1:Int))) v'/\v'.len=v.len/\(∀ j,j ≠ i->v'.get j=v.get j)/\∀ p,p < 40->v'.get i (p * 2)=1000000000000/\v'.get i (p * 2+1)=0:=by
 intro m
 induction m with
 | zero =>
  intro fu q v hq hf hv h
  obtain⟨fu,rfl⟩:∃ k',fu=k'+1:=⟨fu - 1,by omega⟩
  refine⟨v,?_,?_,rfl,λ _ _=>rfl,λ p hp=>h p (by omega)⟩
  ·show zf1 S0 w node (U : Int) (zhe S0 w node (U : Int) fu) (i : Int) (i : Int) (q : Int) v = _
   unfold zf1
   rw[dqF (show ¬ (q:Int) < (40:Int) by omega),dqB]
  ·show zf2 P0 w node (U : Int) (zhf P0 w node (U : Int) fu) (i : Int) (i : Int) (q : Int) v = _
   unfold zf2
   rw[dqF (show ¬ (q:Int) < (40:Int) by omega),dqB]
 | succ m ih =>
  intro fu q v hq hf hv h
  obtain⟨fu,rfl⟩:∃ k',fu=k'+1:=⟨fu - 1,by omega⟩
  have hw:w64 ((q:Int)+(1:Int))=((q+1:Nat):Int):=by rw[zbt (by omega) (by omega)];omega
  obtain⟨v',a1,a2,a3,a4,a5⟩:=ih fu (q+1) (⟨v.len,(setT i (ts 80 (v.get i) (q * 2) [(1000000000000:Int),(0:Int)]) v.get)⟩:Sl Tab) (by omega) (by omega) hv (λ p hp=>by
   show setT i _ v.get i (p * 2)=_/\setT i _ v.get i (p * 2+1)=_
   rw[zfP,dqP rfl,zcd (by omega),zcd (by omega)]
   by_cases hpq:p=q
   ·subst hpq
    rw[dqG (by omega),dqP rfl,dqP rfl];exact⟨rfl,rfl⟩
   ·rw[dqG (by omega),dqG (by omega),dqG (by omega),dqG (by omega)];exact h p (by omega))
  refine⟨v',?_,?_,a3,λ j hj=>(a4 j hj).trans (by show setT i _ v.get j=_;rw[zfP,dqG hj]),a5⟩
  ·rw [← a1]
   show zf1 S0 w node (U:Int) (zhe S0 w node (U:Int) fu) (i:Int) (i:Int) (q:Int) v=_
   unfold zf1
   rw[dqT (show (q:Int) < (40:Int) by omega),dqA,hw,dqN,dqN,show 0+q * 2+0=q * 2 by omega]
  ·rw [← a2]
   show zf2 P0 w node (U:Int) (zhf P0 w node (U:Int) fu) (i:Int) (i:Int) (q:Int) v=_
   unfold zf2
   rw[dqT (show (q:Int) < (40:Int) by omega),dqA,hw,dqN,dqN,show 0+q * 2+0=q * 2 by omega,dqT (show 0<=(i:Int)/\(i:Int) < (v.len:Int) by omega),dqT (show 0<=(q:Int)/\(q:Int) < (40:Int) by omega),dqT (show i < v.len by omega)];rfl
theorem zyv (w:web) (node:Int) (U:Nat) (hU:U<=40):∀ (m fu i:Nat) (v:Sl Tab),i+m=U+1->m < fu->v.len=U+1->(∀ j,j < i->∀ p,p < 40->v.get j (p * 2)=1000000000000/\v.get j (p * 2+1)=0) ->
  ∃ v',zf5 w node (U:Int) fu (i:Int) v=zje w node (U:Int) v'/\zf6 w node (U:Int) fu (i:Int) v=zjf w node (U:Int) v'/\v'.len=U+1/\∀ j,j < U+1->∀ p,p < 40->v'.get j (p * 2)=1000000000000/\v'.get j (p * 2+1)=0:=by
 have hu:((w64 ((U:Int)+(1:Int))).toNat:Int)=(U:Int)+1:=by rw[zbt (by omega) (by omega)];omega
 intro m
 induction m with
 | zero =>
  intro fu i v hi hf hv h
  obtain⟨fu,rfl⟩:∃ k',fu=k'+1:=⟨fu - 1,by omega⟩
  refine⟨v,?_,?_,hv,λ j hj=>h j (by omega)⟩
  ·show zf3 w node (U : Int) (zf5 w node (U : Int) fu) (i : Int) v = _
   unfold zf3
   rw[hu,dqF (show ¬ (i:Int) < (U:Int)+1 by omega),dqB]
  ·show zf4 w node (U : Int) (zf6 w node (U : Int) fu) (i : Int) v = _
   unfold zf4
   rw[hu,dqF (show ¬ (i:Int) < (U:Int)+1 by omega),dqB]
 | succ m ih =>
  intro fu i v hi hf hv h
  obtain⟨fu,rfl⟩:∃ k',fu=k'+1:=⟨fu - 1,by omega⟩
  have hw:w64 ((i:Int)+(1:Int))=((i+1:Nat):Int):=by rw[zbt (by omega) (by omega)];omega
  obtain⟨v1,a1,a2,a3,a4,a5⟩:=ztq w node U hU (zf5 w node (U:Int) fu) (zf6 w node (U:Int) fu) i (by omega) 40 Fuel 0 v (by omega) (by simp only[Fuel];omega) hv (λ p hp=>absurd hp (dqW _))
  rw[hw] at a1 a2
  obtain⟨v2,b1,b2,b3,b4⟩:=ih fu (i+1) v1 (by omega) (by omega) (a3.trans hv) (λ j hj=>by
   by_cases hji:j=i
   ·subst hji;exact a5
   ·rw[a4 j hji];exact h j (by omega))
  refine⟨v2,?_,?_,b3,b4⟩
  ·rw [← b1, ← a1]
   show zf3 w node (U:Int) (zf5 w node (U:Int) fu) (i:Int) v=_
   unfold zf3
   rw[hu,dqT (show (i:Int) < (U:Int)+1 by omega),dqA];rfl
  ·rw [← b2, ← a2]
   show zf4 w node (U:Int) (zf6 w node (U:Int) fu) (i:Int) v=_
   unfold zf4
   rw[hu,dqT (show (i:Int) < (U:Int)+1 by omega),dqA];rfl
theorem zFp (w : web) (hn : NetOk w.Net) (node : Nat) (h1 : node < w.Net.Nodes.toNat) (U : Nat) (hU : U ≤ 40) :
  zFE w (node:Int) (U:Int)=true/\(zrR w (node:Int) (U:Int)).len=U+1/\∀ j,j<=U->Rh w.Net.Nodes.toNat ((zrR w (node:Int) (U:Int)).get j) (hops (hF w (node:Int)) node j) (j * 1000000000):=by
 have hn40:=hn.n40
 have hu:w64 ((U:Int)+(1:Int))=(U:Int)+1:=by rw[zbt (by omega) (by omega)]
 have hu':((U:Int)+1).toNat=U+1:=by omega
 obtain⟨v1,a1,a2,a3,a4⟩:=zyv w (node:Int) U hU (U+1) Fuel 0 (⟨U+1,(λ _=>(λ _=>(0:Int)))⟩:Sl Tab) (by omega) (by simp only[Fuel];omega) rfl (λ j hj=>absurd hj (dqW _))
 have hm:Hm w w.Net.Nodes.toNat (node:Int) U 1 (⟨v1.len,(setT 0 (ts 80 (v1.get 0) (node * 2) [(0:Int),(0:Int)]) v1.get)⟩:Sl Tab):=by
  refine⟨a3,λ j hj _=>?_,λ j hj hjU=>?_⟩
  ·have : j = 0 := by omega
   subst this
   intro v hv
   have e0:(⟨v1.len,(setT 0 (ts 80 (v1.get 0) (node * 2) [(0:Int),(0:Int)]) v1.get)⟩:Sl Tab).get 0=ts 80 (v1.get 0) (node * 2) [(0:Int),(0:Int)]:=by
    exact (zfP 0 (ts 80 (v1.get 0) (node * 2) [(0:Int),(0:Int)]) v1.get 0).trans (dqP rfl)
   have eh:hops (hF w (node:Int)) ((node:Nat):Int).toNat 0=zoQ node:=by rw[dqN];rfl
   rw[e0,eh,zcd (by omega),zcd (by omega)]
   unfold zoQ
   by_cases hq:v=node
   ·subst hq
    rw[dqG (show ¬ v * 2=v * 2+1 by omega),dqP (show v * 2=v * 2 from rfl),dqP (show v * 2+1=v * 2+1 from rfl),dqP (show v=v from rfl)]
    exact⟨⟨rfl,rfl⟩,λ x hx=>by cases hx;omega⟩
   ·rw [dqG (show ¬ v * 2 = node * 2 + 1 by omega), dqG (show ¬ v * 2 = node * 2 by omega), dqG (show ¬ v * 2 + 1 = node * 2 + 1 by omega), dqG (show ¬ v * 2 + 1 = node * 2 by omega), dqG hq]
    exact⟨a4 0 (by omega) v (by omega),λ x hx=>by cases hx⟩
  ·intro v hv
   have e0:(⟨v1.len,(setT 0 (ts 80 (v1.get 0) (node * 2) [(0:Int),(0:Int)]) v1.get)⟩:Sl Tab).get j=v1.get j:=by
    exact (zfP 0 (ts 80 (v1.get 0) (node * 2) [(0:Int),(0:Int)]) v1.get j).trans (dqG (by omega))
   rw[e0]
   exact⟨a4 j (by omega) v (by omega),λ x hx=>by cases hx⟩
 obtain⟨b1,b2⟩:=zq5 w hn (node:Int) U hU U Fuel 1 _ (by omega) (dqt _) (by simp only[Fuel];omega) hm
 have e:0+((node:Nat):Int).toNat * 2+0=node * 2:=by rw[dqN];omega
 have es:zrR w (node:Int) (U:Int)=zc5 w (node:Int) (U:Int) Fuel ((1:Nat):Int) (⟨v1.len,(setT 0 (ts 80 (v1.get 0) (node * 2) [(0:Int),(0:Int)]) v1.get)⟩:Sl Tab):=by
  unfold zrR zmN
  rw[hu,hu']
  refine Eq.trans a1 ?_
  unfold zje zmL
  rw[e];rfl
 have ep:zFE w (node:Int) (U:Int)=true:=by
  unfold zFE zmO
  rw[hu,hu',dqT (show 0<=(U:Int)+1/\(U:Int)+1=(U:Int)+1/\(U:Int)+1<=1000000 from ⟨by omega,rfl,by omega⟩),Bool.true_and]
  refine Eq.trans a2 ?_
  unfold zjf zmM
  rw[e,dqT (show 0<=(0:Int)/\(0:Int) < (v1.len:Int) by omega),dqT (show 0<=(node:Int)/\(node:Int) < (40:Int) by omega),dqT (show 0 < v1.len by omega)]
  simp only[Bool.true_and]
  exact b1
 refine⟨ep,by rw[es];exact b2.len,λ j hj=>?_⟩
 rw[es]
 have:=b2.done j (by omega) hj
 rwa[dqN] at this
end Go.Proofs
namespace Go.Proofs
open Go Go.Pm
set_option maxRecDepth 100000
set_option linter.unusedVariables false
attribute [local irreducible] Go.Pm.vcFun Go.Pm.vc Go.Pm.vcIter
end Go.Proofs
namespace Go.Proofs
open Go Go.Pm
set_option maxRecDepth 100000
set_option linter.unusedVariables false
theorem zFq {α:Type}(n:Nat) (g:Nat->α) (x:α) (j:Nat):zfn n g (λ _=>x) j=if n<=j then x else g j:=by
 unfold zfn
 by_cases h:n<=j
 ·rw[dqP h,show Nat.ble n j=true from Nat.ble_eq_true_of_le h]
 ·rw[dqG h,show Nat.ble n j=false from Bool.eq_false_iff.2 λ k=>h (Nat.le_of_ble_eq_true k)]
def turn (t:Tie):Tie:=⟨t.From,t.To,w64 (0 - t.High),w64 (0 - t.Low)⟩
structure IsTurn (n m : Net) : Prop where
  nodes:m.Nodes=n.Nodes
  len:m.Ties.len=n.Ties.len
  tie:∀ j,j < n.Ties.len->m.Ties.get j=turn (n.Ties.get j)
end Go.Proofs
namespace Go.Proofs
open Go Go.Pm
set_option maxRecDepth 100000
set_option linter.unusedVariables false
attribute [local irreducible] Go.Pm.vcFun Go.Pm.vc Go.Pm.vcIter
end Go.Proofs
namespace Go.Proofs
open Go Go.Pm
set_option maxRecDepth 100000
set_option linter.unusedVariables false
end Go.Proofs
namespace Go.Proofs
open Go Go.Pm
set_option maxRecDepth 100000
set_option linter.unusedVariables false
theorem zyw (v:Sl Int) (hv:v.len<=1000):zIS v=true:=by
 have key:∀ (m k i:Nat),i+m=v.len->m < k->zhg v k (i:Int)=true:=by
  intro m
  induction m with
  | zero =>
   intro k i hi hk
   obtain⟨k,rfl⟩:∃ k',k=k'+1:=⟨k - 1,by omega⟩
   show zf7 v (zhg v k) (i:Int)=true
   unfold zf7
   rw[dqF (show ¬ (i:Int) < (v.len:Int) by omega),dqB]
  | succ m ih =>
   intro k i hi hk
   obtain⟨k,rfl⟩:∃ k',k=k'+1:=⟨k - 1,by omega⟩
   show zf7 v (zhg v k) (i:Int)=true
   unfold zf7
   rw[dqT (show (i:Int) < (v.len:Int) by omega),dqA,dqT (show 0<=(i:Int)/\(i:Int) < (v.len:Int) by omega),Bool.true_and,zga (n:=v.len) (by omega) (by omega),ih k (i+1) (by omega) (by omega)]
   cases (v.get ((i:Int)).toNat != (0:Int)) <;> rfl
 exact key v.len Fuel 0 (by omega) (by simp only[Fuel];omega)
theorem zyx (a b:Sl step) (ha:a.len<=1000):zGV a b=true:=by
 have key:∀ (m k i:Nat),i+m=a.len->m < k->zhh k a b a (a.len:Int) (i:Int)=true:=by
  intro m
  induction m with
  | zero =>
   intro k i hi hk
   obtain⟨k,rfl⟩:∃ k',k=k'+1:=⟨k - 1,by omega⟩
   show zf9 (zhh k) a b a (a.len:Int) (i:Int)=true
   unfold zf9
   rw[dqF (show ¬ (i:Int) < (a.len:Int) by omega),dqB]
  | succ m ih =>
   intro k i hi hk
   obtain⟨k,rfl⟩:∃ k',k=k'+1:=⟨k - 1,by omega⟩
   show zf9 (zhh k) a b a (a.len:Int) (i:Int)=true
   unfold zf9
   rw[dqT (show (i:Int) < (a.len:Int) by omega),dqA,dqT (show 0<=(i:Int)/\(i:Int) < (a.len:Int) by omega),Bool.true_and]
   by_cases hb:(i:Int) >= (b.len:Int)
   ·rw[dqT hb,dqA]
   ·rw [dqF hb, dqB]
    unfold zmQ zmP zIT
    rw[dqT (show 0<=(i:Int)/\(i:Int) < (b.len:Int) by omega),zyw _ (by show 2<=1000;omega),zga (n:=a.len) (by omega) (by omega),ih k (i+1) (by omega) (by omega)]
    generalize (zGS _ _ != (0:Int))=t
    cases t <;> rfl
 exact key a.len Fuel 0 (by omega) (by simp only[Fuel];omega)
def IsS (v:Sl step) (L:List step):Prop:=v.len=L.length/\∀ q (h:q < L.length),v.get q=L[q]
theorem zFr {v:Sl step}{L:List step}(h:IsS v L) (y:step):IsS ⟨v.len+1,zfn v.len v.get (λ _=>y)⟩ (L ++ [y]):=by
 refine⟨by show v.len+1=_;rw[dqu,h.1];rfl,λ k hk=>?_⟩
 show zfn v.len v.get (λ _=>y) k=_
 rw[zFq]
 rw[dqu] at hk
 have h1:=h.1
 by_cases hv:v.len<=k
 ·rw [dqP hv]
  have:k=L.length:=by simp only[dqr,dqL] at hk;omega
  subst this
  simp
 ·rw [dqG hv, h.2 k (by omega)]
  rw[List.getElem_append_left (by omega)]
def ChS (S : List step) : Int → List step → Int → Prop
  | a,[],b=>a=b
  | a,y :: l,b=>y∈S/\y.from_=a/\ChS S y.to l b
theorem zFs {S:List step}{L:List step}{y:step} : ∀ {a b:Int},ChS S a L b->y∈S->y.from_=b->ChS S a (L ++ [y]) y.to:=by
 induction L with
 | nil=>intro a b h hy hf;exact⟨hy,hf.trans h.symm,rfl⟩
 | cons z l ih=>rintro a b ⟨h1,h2,h3⟩ hy hf;exact⟨h1,h2,ih h3 hy hf⟩
def wtS : List step → Int
  | []=>0
  | y :: l=>y.length+wtS l
theorem zFt (L:List step) (y:step):wtS (L ++ [y])=wtS L+y.length:=by
 induction L with
 | nil=>show y.length+0=0+y.length;omega
 | cons z l ih=>show z.length+wtS (l ++ [y])=z.length+wtS l+y.length;rw[ih];omega
def zAy (w:web) (v:Sl step):Prop:=∃ (a:Int) (L:List step),(0<=a/\a < w.Net.Nodes)/\IsS v L/\ChS (Ws w) a L a/\wtS L < 0/\L.length<=40
theorem zsB {w:web}{v:Sl step}(h:zAy w v):1<=v.len/\v.len<=40:=by
 obtain⟨a,L,_,h1,_,h2,h3⟩:=h
 cases L with
 | nil=>exact absurd h2 (by show ¬ (0:Int) < 0;omega)
 | cons y l=>have:=h1.1;simp only[dqr] at this h3;omega
theorem zAz {w:web}{node:Int}{d:zbX}{v:Nat}{x:Int}(hn:NetOk w.Net) (h:hop (hF w node) d v=some x):∃ y∈Ws w,node<=y.from_/\node<=y.to/\y.from_.toNat=v/\∃ z,d y.to.toNat=some z/\x=z+y.length:=by
 obtain⟨e,he,h1,z,h2,h3⟩:=zIv h
 obtain⟨y,hy,rfl⟩:=dqz.1 he
 obtain⟨hy1,hy2⟩:=List.mem_filter.1 hy
 unfold okY at hy2
 rw[dqm] at hy2
 exact⟨y,hy1,of_decide_eq_true hy2.1,of_decide_eq_true hy2.2,h1,z,h2,h3⟩
end Go.Proofs
namespace Go.Proofs
open Go Go.Pm
set_option maxRecDepth 100000
set_option linter.unusedVariables false
abbrev PS7:=Int->Bool->Sl step->Int->Int->Sl Tab->Int->Int->Int->Sl (Sl Tab)->Sl step->Sl step
theorem zAA (w : web) {N : Nat} (hN : N ≤ 40) (S5 : Int → Bool → Sl step → Int → Sl (Sl Tab) → Sl step) (P5 : Int → Bool → Sl step → Int → Sl (Sl Tab) → Bool) (S6 : PS7) (P6 : Int → Bool → Sl step → Int → Int → Sl Tab → Int → Int → Int → Sl (Sl Tab) → Sl step → Bool) (v4 : Sl (Sl Tab)) (u : Int) (bb : Bool) (best : Sl step) (t i : Int) (h : Sl Tab) (at_ len : Int) (k : Nat) (hk : k < h.len) (d : zbX) {B : Int} (hB : B ≤ 90000000000) (hd : Rh N (h.get k) d B) (hl0 : -90000000000 ≤ len) (hl1 : len ≤ 90000000000) (v21 : Sl (Sl Tab)) (now : Sl step) (hnow : now.len ≤ 1000) :
  ∀ (l:List step),(∀ y∈l,StOk y N)->(∃ y∈l,y.from_=at_/\i<=y.to/\∃ x,d y.to.toNat=some x/\len+y.length+x < 0) ->
  ∃ y∈l,(y.from_=at_/\i<=y.to/\∃ x,d y.to.toNat=some x/\len+y.length+x < 0) /\
   zcY S5 S6 w v4 l u bb best t i h at_ len (k:Int) v21 now=S6 u bb best t i h y.to (len+y.length) (w64 ((k:Int) - (1:Int))) v21 (⟨(now.len+1),(zfn now.len now.get (λ _=>y))⟩:Sl step) /\
   zcZ P5 P6 w v4 l u bb best t i h at_ len (k:Int) v21 now=P6 u bb best t i h y.to (len+y.length) (w64 ((k:Int) - (1:Int))) v21 (⟨(now.len+1),(zfn now.len now.get (λ _=>y))⟩:Sl step):=by
 intro l
 induction l with
 | nil=>rintro _ ⟨y,hy,_⟩;cases hy
 | cons y l ih =>
  intro hl hex
  have hy:=hl y (dqj ..)
  have f0:=hy.f0;have f1:=hy.f1;have t0:=hy.t0;have t1:=hy.t1;have l0:=hy.l0;have l1:=hy.l1
  obtain⟨⟨d1,d2⟩,d3⟩:=hd y.to.toNat (by omega)
  have e1:0+y.to.toNat * 2+0=y.to.toNat * 2:=by omega
  have hS:zcY S5 S6 w v4 (y :: l) u bb best t i h at_ len (k:Int) v21 now=cond (y.from_ == at_) (cond (decide (i<=y.to)) (cond (!(nvr (tg 80 (h.get ((k:Int)).toNat) (0+y.to.toNat * 2+0)) (tg 80 (h.get ((k:Int)).toNat) (0+y.to.toNat * 2+0+1)))) (cond (decide (w64 (w64 (len+y.length)+tg 80 (h.get ((k:Int)).toNat) (0+y.to.toNat * 2+0)) < (0:Int))) (S6 u bb best t i h y.to (w64 (len+y.length)) (w64 ((k:Int) - (1:Int))) v21 (⟨(now.len+1),(zfn now.len now.get (λ _=>y))⟩:Sl step)) (zcY S5 S6 w v4 l u bb best t i h at_ len (k:Int) v21 now)) (zcY S5 S6 w v4 l u bb best t i h at_ len (k:Int) v21 now)) (zcY S5 S6 w v4 l u bb best t i h at_ len (k:Int) v21 now)) (zcY S5 S6 w v4 l u bb best t i h at_ len (k:Int) v21 now):=by
   show zpQ S5 S6 w v4 y (zcY S5 S6 w v4 l) u bb best t i h at_ len (k:Int) v21 now=_
   generalize zcY S5 S6 w v4 l=S
   rfl
  have hP:zcZ P5 P6 w v4 (y :: l) u bb best t i h at_ len (k:Int) v21 now=cond (y.from_ == at_) (cond (decide (i<=y.to)) (decide (0<=(k:Int)/\(k:Int) < (h.len:Int)) && (decide (0<=y.to/\y.to < (40:Int)) && cond (!(nvr (tg 80 (h.get ((k:Int)).toNat) (0+y.to.toNat * 2+0)) (tg 80 (h.get ((k:Int)).toNat) (0+y.to.toNat * 2+0+1)))) (decide (0<=(k:Int)/\(k:Int) < (h.len:Int)) && (decide (0<=y.to/\y.to < (40:Int)) && cond (decide (w64 (w64 (len+y.length)+tg 80 (h.get ((k:Int)).toNat) (0+y.to.toNat * 2+0)) < (0:Int))) (decide ((now.len+1) * 40<=140737488355328/\now.len+1<=9223372036854775807) && P6 u bb best t i h y.to (w64 (len+y.length)) (w64 ((k:Int) - (1:Int))) v21 (⟨(now.len+1),(zfn now.len now.get (λ _=>y))⟩:Sl step)) (zcZ P5 P6 w v4 l u bb best t i h at_ len (k:Int) v21 now))) (zcZ P5 P6 w v4 l u bb best t i h at_ len (k:Int) v21 now))) (zcZ P5 P6 w v4 l u bb best t i h at_ len (k:Int) v21 now)) (zcZ P5 P6 w v4 l u bb best t i h at_ len (k:Int) v21 now):=by
   show zpR P5 P6 w v4 y (zcZ P5 P6 w v4 l) u bb best t i h at_ len (k:Int) v21 now=_
   generalize zcZ P5 P6 w v4 l=S
   rfl
  rw[dqN,e1,zdk (by omega),zdk (by omega),zBR hd (by omega) (show y.to.toNat < N by omega),zbt (x:=len+y.length) (by omega) (by omega)] at hS hP
  rw[dqT (show 0<=(k:Int)/\(k:Int) < (h.len:Int) by omega),dqT (show 0<=y.to/\y.to < (40:Int) by omega),dqT (show (now.len+1) * 40<=140737488355328/\now.len+1<=9223372036854775807 by omega)] at hP
  simp only[Bool.true_and] at hP
  have next : ¬ (y.from_=at_/\i<=y.to/\∃ x,d y.to.toNat=some x/\len+y.length+x < 0) ->
    zcY S5 S6 w v4 (y :: l) u bb best t i h at_ len (k:Int) v21 now=zcY S5 S6 w v4 l u bb best t i h at_ len (k:Int) v21 now->zcZ P5 P6 w v4 (y :: l) u bb best t i h at_ len (k:Int) v21 now=zcZ P5 P6 w v4 l u bb best t i h at_ len (k:Int) v21 now->∃ y'∈y :: l,(y'.from_=at_/\i<=y'.to/\∃ x,d y'.to.toNat=some x/\len+y'.length+x < 0) /\
   zcY S5 S6 w v4 (y :: l) u bb best t i h at_ len (k:Int) v21 now=S6 u bb best t i h y'.to (len+y'.length) (w64 ((k:Int) - (1:Int))) v21 (⟨(now.len+1),(zfn now.len now.get (λ _=>y'))⟩:Sl step) /\
   zcZ P5 P6 w v4 (y :: l) u bb best t i h at_ len (k:Int) v21 now=P6 u bb best t i h y'.to (len+y'.length) (w64 ((k:Int) - (1:Int))) v21 (⟨(now.len+1),(zfn now.len now.get (λ _=>y'))⟩:Sl step):=λ hno hs hp=>by
   obtain⟨z,hz,hc⟩:=hex
   have hzl:z∈l:=(dqq.1 hz).resolve_left (λ e=>hno (e ▸ hc))
   obtain⟨y',a1,a2,a3,a4⟩:=ih (λ q hq=>hl q (dqf _ hq)) ⟨z,hzl,hc⟩
   exact⟨y',dqf _ a1,a2,hs.trans a3,hp.trans a4⟩
  by_cases c1:y.from_=at_
  ·rw [show (y.from_ == at_) = true from beq_iff_eq.2 c1] at hS hP
   by_cases c2:i<=y.to
   ·rw [dqT c2] at hS hP
    cases hdu:d y.to.toNat with
    | none =>
     rw[hdu] at hS hP
     exact next (λ ⟨_,_,x,hx,_⟩=>by rw[hdu] at hx;cases hx) hS hP
    | some x =>
     have hbx:=d3 x hdu
     rw[hdu] at hS hP d1
     have d1':h.get k (y.to.toNat * 2)=x:=d1
     rw[d1',zbt (x:=len+y.length+x) (by omega) (by omega)] at hS hP
     by_cases c3:len+y.length+x < 0
     ·rw [dqT c3] at hS hP
      exact⟨y,dqj ..,⟨c1,c2,x,hdu,c3⟩,hS,hP⟩
     ·rw [dqF c3] at hS hP
      exact next (λ ⟨_,_,x',hx',hx''⟩=>by rw[hdu] at hx';cases hx';exact c3 hx'') hS hP
   ·rw [dqF c2] at hS hP
    exact next (λ hh=>c2 hh.2.1) hS hP
  ·rw [show (y.from_ == at_) = false from dqU.2 c1] at hS hP
   exact next (λ hh=>c1 hh.1) hS hP
end Go.Proofs
namespace Go.Proofs
open Go Go.Pm
set_option maxRecDepth 100000
set_option linter.unusedVariables false
structure HsOk (w : web) (hs : Sl (Sl Tab)) : Prop where
  len:hs.len=w.Net.Nodes.toNat
  at_:∀ i,i < w.Net.Nodes.toNat->(hs.get i).len=w.Net.Nodes.toNat+1/\∀ j,j<=w.Net.Nodes.toNat->Rh w.Net.Nodes.toNat ((hs.get i).get j) (hops (hF w (i:Int)) i j) (j * 1000000000)
def zK7 (S5:Int->Bool->Sl step->Int->Sl (Sl Tab)->Sl step) (w:web) (v4:Sl (Sl Tab)) (u:Int) (bb:Bool) (best:Sl step) (t:Int) (v21:Sl (Sl Tab)) (now:Sl step):Sl step :=
 cond bb (zhL S5 w v4 u bb best t true v21 now) (zhL S5 w v4 u bb best t (decide ((zC5 now best) < (0:Int))) v21 now)
def zBG (P5:Int->Bool->Sl step->Int->Sl (Sl Tab)->Bool) (w:web) (v4:Sl (Sl Tab)) (u:Int) (bb:Bool) (best:Sl step) (t:Int) (v21:Sl (Sl Tab)) (now:Sl step):Bool :=
 decide (bb=true\/best.len ≠ 0) && cond bb (zhM P5 w v4 u bb best t true v21 now) (decide (zGV now best=true) && zhM P5 w v4 u bb best t (decide ((zC5 now best) < (0:Int))) v21 now)
theorem walk (w : web) (hn : NetOk w.Net) (hs : Sl (Sl Tab)) (hh : HsOk w hs) (S5 : Int → Bool → Sl step → Int → Sl (Sl Tab) → Sl step) (P5 : Int → Bool → Sl step → Int → Sl (Sl Tab) → Bool) (v4 : Sl (Sl Tab)) (u : Int) (bb : Bool) (best : Sl step) (t : Int) (i : Nat) (hi : i < w.Net.Nodes.toNat) (v21 : Sl (Sl Tab)) :
  ∀ (m fu:Nat) (a len:Int) (now:Sl step) (L:List step),m < fu->(0<=a/\a < w.Net.Nodes)->L.length+m<=40->m<=w.Net.Nodes.toNat->-1000000000 * (L.length:Int)<=len->len<=1000000000 * (L.length:Int) ->
   (∃ x,hops (hF w (i:Int)) i m a.toNat=some x/\len+x < 0)->IsS now L->ChS (Ws w) (i:Int) L a->wtS L=len ->
   ∃ now' L',zgC S5 w v4 fu u bb best t (i:Int) (hs.get i) a len ((m:Int) - 1) v21 now=zK7 S5 w v4 u bb best t v21 now'/\zgD P5 w v4 fu u bb best t (i:Int) (hs.get i) a len ((m:Int) - 1) v21 now=zBG P5 w v4 u bb best t v21 now' /\
    IsS now' L'/\ChS (Ws w) (i:Int) L' (i:Int)/\wtS L' < 0/\L'.length=L.length+m:=by
 have hn40:=hn.n40;have hlen:=hn.len
 obtain⟨q1,q2⟩:=zkS w (by omega)
 obtain⟨hl1,hat⟩:=hh.at_ i hi
 intro m
 induction m with
 | zero =>
  intro fu a len now L hf ha hL hm hl0 hl1' hx hnow hch hwt
  obtain⟨fu,rfl⟩:∃ k',fu=k'+1:=⟨fu - 1,by omega⟩
  obtain⟨x,hx1,hx2⟩:=hx
  have hx1':zoQ i a.toNat=some x:=hx1
  unfold zoQ at hx1'
  have hai:a.toNat=i:=by
   by_cases hq:a.toNat=i
   ·exact hq
   ·rw[dqG hq] at hx1';cases hx1'
  rw[dqP hai] at hx1'
  have hx0:(0:Int)=x:=Option.some.inj hx1'
  have hae:a=(i:Int):=by omega
  subst hae
  refine⟨now,L,?_,?_,hnow,hch,by omega,rfl⟩
  ·show zhN S5 w v4 (zgC S5 w v4 fu) u bb best t (i : Int) (hs.get i) (i : Int) len (((0 : Nat) : Int) - 1) v21 now = _
   unfold zhN
   rw[dqF (show ¬ ((0:Nat):Int) - 1 >= 0 by omega),dqB];rfl
  ·show zhO P5 w v4 (zgD P5 w v4 fu) u bb best t (i : Int) (hs.get i) (i : Int) len (((0 : Nat) : Int) - 1) v21 now = _
   unfold zhO
   rw[dqF (show ¬ ((0:Nat):Int) - 1 >= 0 by omega),dqB];rfl
 | succ m ih =>
  intro fu a len now L hf ha hL hm hl0 hl1' hx hnow hch hwt
  obtain⟨fu,rfl⟩:∃ k',fu=k'+1:=⟨fu - 1,by omega⟩
  obtain⟨x,hx1,hx2⟩:=hx
  obtain⟨y,hy,hy1,hy2,hy3,z,hz1,hz2⟩:=zAz hn (show hop (hF w (i:Int)) (hops (hF w (i:Int)) i m) a.toNat=some x from hx1)
  have hyo:=zyO hn hy
  have f0:=hyo.f0
  have hya:y.from_=a:=by omega
  have hnl:=hnow.1
  obtain⟨y',b1,⟨b2,b3,x',b4,b5⟩,b6,b7⟩:=zAA w (N:=w.Net.Nodes.toNat) (by omega) S5 P5 (zgC S5 w v4 fu) (zgD P5 w v4 fu) v4 u bb best t (i:Int) (hs.get i) a len m (by omega) (hops (hF w (i:Int)) i m) (B:=m * 1000000000) (by omega) (hat m (by omega)) (by omega) (by omega) v21 now (by omega) (Ws w) (λ y hy=>zyO hn hy) ⟨y,hy,hya,hy2,z,hz1,by omega⟩
  have hyo':=zyO hn b1
  have t0:=hyo'.t0;have t1:=hyo'.t1;have l0:=hyo'.l0;have l1:=hyo'.l1
  have hw:w64 ((m:Int) - (1:Int))=(m:Int) - 1:=zbt (by omega) (by omega)
  rw[hw] at b6 b7
  obtain⟨now',L',c1,c2,c3,c4,c5,c6⟩:=ih fu y'.to (len+y'.length) (⟨(now.len+1),(zfn now.len now.get (λ _=>y'))⟩:Sl step) (L ++ [y']) (by omega) ⟨t0,by omega⟩ (by simp only[dqu,dqr,dqL];omega) (by omega) (by simp only[dqu,dqr,dqL];omega) (by simp only[dqu,dqr,dqL];omega) ⟨x',b4,b5⟩ (zFr hnow y') (zFs hch b1 b2) (by rw[zFt,hwt])
  refine⟨now',L',?_,?_,c3,c4,c5,by rw[c6];simp only[dqu,dqr,dqL];omega⟩
  ·rw [← c1, ← b6]
   show zhN S5 w v4 (zgC S5 w v4 fu) u bb best t (i:Int) (hs.get i) a len (((m+1:Nat):Int) - 1) v21 now=_
   rw[show ((m+1:Nat):Int) - 1=(m:Int) by omega]
   unfold zhN zpS
   rw[dqT (show (m:Int) >= 0 by omega),dqA,q2]
  ·rw [← c2, ← b7]
   show zhO P5 w v4 (zgD P5 w v4 fu) u bb best t (i:Int) (hs.get i) a len (((m+1:Nat):Int) - 1) v21 now=_
   rw[show ((m+1:Nat):Int) - 1=(m:Int) by omega]
   unfold zhO zpT
   rw[dqT (show (m:Int) >= 0 by omega),dqA,q1,q2];rfl
def neg (hs:Sl (Sl Tab)) (u i:Nat):Prop:=((hs.get i).get u) (i * 2) < 0
theorem zyy (w:web) (hn:NetOk w.Net) (hs:Sl (Sl Tab)) (hh:HsOk w hs) (u:Nat) (hu1:1<=u) (hu:u<=w.Net.Nodes.toNat):∀ (m k i:Nat) (bb:Bool) (best:Sl step),i+m=w.Net.Nodes.toNat->m < k->(bb=true\/(bb=false/\zAy w best)) ->
  zdP w hs k (u:Int) bb best (i:Int) hs=true/\((bb=false\/∃ j,i<=j/\j < w.Net.Nodes.toNat/\neg hs u j)->zAy w (zdO w hs k (u:Int) bb best (i:Int) hs)):=by
 have hn40:=hn.n40
 have hhl:=hh.len
 intro m
 induction m with
 | zero =>
  intro k i bb best hi hk hb
  obtain⟨k,rfl⟩:∃ k',k=k'+1:=⟨k - 1,by omega⟩
  have e1:zdP w hs (k+1) (u:Int) bb best (i:Int) hs=true:=by
   show zhQ w hs (zdP w hs k) (u:Int) bb best (i:Int) hs=true
   unfold zhQ
   rw[dqF (show ¬ (i:Int) < (hs.len:Int) by omega),dqB]
  have e2:zdO w hs (k+1) (u:Int) bb best (i:Int) hs=best:=by
   show zhP w hs (zdO w hs k) (u:Int) bb best (i:Int) hs=best
   unfold zhP
   rw[dqF (show ¬ (i:Int) < (hs.len:Int) by omega),dqB]
  refine⟨e1,λ h=>?_⟩
  rw[e2]
  rcases h with h | ⟨j,h1,h2,_⟩
  ·rcases hb with hb | hb
   ·rw[hb] at h;cases h
   ·exact hb.2
  ·omega
 | succ m ih =>
  intro k i bb best hi hk hb
  obtain⟨k,rfl⟩:∃ k',k=k'+1:=⟨k - 1,by omega⟩
  have hw:w64 ((i:Int)+(1:Int))=((i+1:Nat):Int):=by rw[zbt (by omega) (by omega)];omega
  have hwu:w64 ((u:Int) - (1:Int))=(u:Int) - 1:=zbt (by omega) (by omega)
  obtain⟨hl1,hat⟩:=hh.at_ i (by omega)
  have eL:tL ((hs.get i).get u) (i:Int)=((hs.get i).get u) (i * 2):=by
   show tg 80 _ (0+((i:Int)).toNat * 2+0)=_
   rw[dqN,show 0+i * 2+0=i * 2 by omega,zdk (by omega)]
  have hS:zdO w hs (k+1) (u:Int) bb best (i:Int) hs=cond (decide (((hs.get i).get u) (i * 2) >= 0)) (zdO w hs k (u:Int) bb best ((i+1:Nat):Int) hs) (zpU (zdO w hs k) w hs (u:Int) bb best (i:Int) (i:Int) (hs.get i) (i:Int) (0:Int) ((u:Int) - 1) hs (⟨0,(λ _=>default)⟩:Sl step)):=by
   rw[<- hw,<- eL,<- hwu]
   show zhP w hs (zdO w hs k) (u:Int) bb best (i:Int) hs=_
   unfold zhP
   rw[dqT (show (i:Int) < (hs.len:Int) by omega),dqA,dqN,dqN]
  have hP:zdP w hs (k+1) (u:Int) bb best (i:Int) hs=cond (decide (((hs.get i).get u) (i * 2) >= 0)) (zdP w hs k (u:Int) bb best ((i+1:Nat):Int) hs) (zpV (zdP w hs k) w hs (u:Int) bb best (i:Int) (i:Int) (hs.get i) (i:Int) (0:Int) ((u:Int) - 1) hs (⟨0,(λ _=>default)⟩:Sl step)):=by
   rw[<- hw,<- eL,<- hwu]
   show zhQ w hs (zdP w hs k) (u:Int) bb best (i:Int) hs=_
   unfold zhQ
   rw[dqT (show (i:Int) < (hs.len:Int) by omega),dqA,dqN,dqN,dqT (show 0<=(i:Int)/\(i:Int) < (hs.len:Int) by omega),dqT (show i < hs.len by omega),dqT (show 0<=(u:Int)/\(u:Int) < ((hs.get i).len:Int) by omega),dqT (show 0<=(i:Int)/\(i:Int) < (40:Int) by omega)];rfl
  by_cases hneg:((hs.get i).get u) (i * 2) >= 0
  ·rw [dqT hneg, dqA] at hS hP
   obtain⟨k1,k2⟩:=ih k (i+1) bb best (by omega) (by omega) hb
   rw[hS,hP]
   refine⟨k1,λ h=>k2 ?_⟩
   rcases h with h | ⟨j,h1,h2,h3⟩
   ·exact .inl h
   ·by_cases hji : j = i
    ·subst hji;exact absurd h3 (Int.not_lt.2 hneg)
    ·exact .inr ⟨j,by omega,h2,h3⟩
  ·rw [dqF hneg, dqB] at hS hP
   obtain⟨⟨g1,_⟩,_⟩:=hat u hu i (by omega)
   have hx:∃ x,hops (hF w (i:Int)) i u ((i:Int)).toNat=some x/\(0:Int)+x < 0:=by
    rw[dqN]
    cases hd:hops (hF w (i:Int)) i u i with
    | none=>rw[hd] at g1;have g1':((hs.get i).get u) (i * 2)=1000000000000:=g1;omega
    | some x=>rw[hd] at g1;have g1':((hs.get i).get u) (i * 2)=x:=g1;exact⟨x,rfl,by omega⟩
   obtain⟨now,L,c1,c2,c3,c4,c5,c6⟩:=walk w hn hs hh (zdO w hs k) (zdP w hs k) hs (u:Int) bb best (i:Int) i (by omega) hs u Fuel (i:Int) 0 (⟨0,(λ _=>default)⟩:Sl step) [] (by simp only[Fuel];omega) ⟨by omega,by omega⟩ (by show 0+u<=40;omega) hu (by show -1000000000 * ((0:Nat):Int)<=0;omega) (by show (0:Int)<=1000000000 * ((0:Nat):Int);omega) hx ⟨rfl,λ q hq=>absurd hq (dqW _)⟩ rfl rfl
   have c6':L.length=u:=by rw[c6];show 0+u=u;omega
   have hT:zAy w now:=⟨(i:Int),L,⟨by omega,by omega⟩,c3,c4,c5,by omega⟩
   have hnl:=zsB hT
   rw[hS,hP]
   show zgD (zdP w hs k) w hs Fuel (u:Int) bb best (i:Int) (i:Int) (hs.get i) (i:Int) (0:Int) ((u:Int) - 1) hs (⟨0,(λ _=>default)⟩:Sl step)=true/\(_->zAy w (zgC (zdO w hs k) w hs Fuel (u:Int) bb best (i:Int) (i:Int) (hs.get i) (i:Int) (0:Int) ((u:Int) - 1) hs (⟨0,(λ _=>default)⟩:Sl step)))
   rw[c1,c2]
   unfold zK7 zBG zhL zhM
   rw[hw]
   obtain⟨k1,k2⟩:=ih k (i+1) false now (by omega) (by omega) (.inr ⟨rfl,hT⟩)
   rcases hb with rfl | ⟨rfl,hbt⟩
   ·rw [dqT (show (true = true ∨ best.len ≠ 0) from .inl rfl)]
    simp only[dqA,Bool.true_and]
    exact⟨k1,λ _=>k2 (.inl rfl)⟩
   ·have hbl := zsB hbt
    obtain⟨j1,j2⟩:=ih k (i+1) false best (by omega) (by omega) (.inr ⟨rfl,hbt⟩)
    rw[dqT (show (false=true\/best.len ≠ 0) from .inr (by omega)),zyx now best (by omega)]
    simp only[dqB,Bool.true_and,decide_true]
    cases decide (zC5 now best < 0)
    ·simp only[dqB];exact⟨j1,λ _=>j2 (.inl rfl)⟩
    ·simp only[dqA];exact⟨k1,λ _=>k2 (.inl rfl)⟩
theorem zBS (w:web) (hn:NetOk w.Net) (hs:Sl (Sl Tab)) (hh:HsOk w hs) (u:Nat) (hu1:1<=u) (hu:u<=w.Net.Nodes.toNat):zhS w (u:Int) hs=true/\((∃ j,j < w.Net.Nodes.toNat/\neg hs u j)->zAy w (zhR w (u:Int) hs)):=by
 obtain⟨a,b⟩:=zyy w hn hs hh u hu1 hu w.Net.Nodes.toNat Fuel 0 true (⟨0,(λ _=>default)⟩:Sl step) (by omega) (by have:=hn.n40;simp only[Fuel];omega) (.inl rfl)
 exact⟨a,λ ⟨j,h1,h2⟩=>b (.inr ⟨j,Nat.zero_le _,h1,h2⟩)⟩
theorem zyz (w:web) (hn:NetOk w.Net) (hs:Sl (Sl Tab)) (hh:HsOk w hs) (S2:Int->Sl step) (P2:Int->Bool) (u:Nat) (hu1:1<=u) (hu:u<=w.Net.Nodes.toNat):∀ (m k i:Nat),i+m=w.Net.Nodes.toNat->m < k ->
  (ze2 P2 w hs k (u:Int) (i:Int)=true/\zAy w (ze1 S2 w hs k (u:Int) (i:Int))) \/
  ((¬ ∃ j,i<=j/\j < w.Net.Nodes.toNat/\neg hs u j)/\ze2 P2 w hs k (u:Int) (i:Int)=P2 (w64 ((u:Int)+(1:Int)))/\ze1 S2 w hs k (u:Int) (i:Int)=S2 (w64 ((u:Int)+(1:Int)))):=by
 have hn40:=hn.n40
 have hhl:=hh.len
 intro m
 induction m with
 | zero =>
  intro k i hi hk
  obtain⟨k,rfl⟩:∃ k',k=k'+1:=⟨k - 1,by omega⟩
  refine .inr ⟨λ ⟨j,h1,h2,_⟩=>by omega,?_,?_⟩
  ·show zhU P2 w hs (ze2 P2 w hs k) (u : Int) (i : Int) = _
   unfold zhU
   rw[dqF (show ¬ (i:Int) < (hs.len:Int) by omega),dqB]
  ·show zhT S2 w hs (ze1 S2 w hs k) (u : Int) (i : Int) = _
   unfold zhT
   rw[dqF (show ¬ (i:Int) < (hs.len:Int) by omega),dqB]
 | succ m ih =>
  intro k i hi hk
  obtain⟨k,rfl⟩:∃ k',k=k'+1:=⟨k - 1,by omega⟩
  have hw:w64 ((i:Int)+(1:Int))=((i+1:Nat):Int):=by rw[zbt (by omega) (by omega)];omega
  obtain⟨hl1,hat⟩:=hh.at_ i (by omega)
  have eL:tL ((hs.get i).get u) (i:Int)=((hs.get i).get u) (i * 2):=by
   show tg 80 _ (0+((i:Int)).toNat * 2+0)=_
   rw[dqN,show 0+i * 2+0=i * 2 by omega,zdk (by omega)]
  have hS:ze1 S2 w hs (k+1) (u:Int) (i:Int)=cond (decide (((hs.get i).get u) (i * 2) < 0)) (zhR w (u:Int) hs) (ze1 S2 w hs k (u:Int) ((i+1:Nat):Int)):=by
   rw[<- hw,<- eL]
   show zhT S2 w hs (ze1 S2 w hs k) (u:Int) (i:Int)=_
   unfold zhT
   rw[dqT (show (i:Int) < (hs.len:Int) by omega),dqA,dqN,dqN]
  have hP:ze2 P2 w hs (k+1) (u:Int) (i:Int)=cond (decide (((hs.get i).get u) (i * 2) < 0)) (zhS w (u:Int) hs) (ze2 P2 w hs k (u:Int) ((i+1:Nat):Int)):=by
   rw[<- hw,<- eL]
   show zhU P2 w hs (ze2 P2 w hs k) (u:Int) (i:Int)=_
   unfold zhU
   rw[dqT (show (i:Int) < (hs.len:Int) by omega),dqA,dqN,dqN,dqT (show 0<=(i:Int)/\(i:Int) < (hs.len:Int) by omega),dqT (show i < hs.len by omega),dqT (show 0<=(u:Int)/\(u:Int) < ((hs.get i).len:Int) by omega),dqT (show 0<=(i:Int)/\(i:Int) < (40:Int) by omega)];rfl
  rw[hS,hP]
  by_cases hneg:((hs.get i).get u) (i * 2) < 0
  ·rw [dqT hneg, dqA, dqA]
   obtain⟨a,b⟩:=zBS w hn hs hh u hu1 hu
   exact .inl ⟨a,b ⟨i,by omega,hneg⟩⟩
  ·rw [dqF hneg, dqB, dqB]
   rcases ih k (i+1) (by omega) (by omega) with h | ⟨h1,h2,h3⟩
   ·exact .inl h
   ·refine .inr ⟨fun ⟨j, g1, g2, g3⟩ => h1 ?_, h2, h3⟩
    by_cases hji:j=i
    ·subst hji;exact absurd g3 hneg
    ·exact⟨j,by omega,g2,g3⟩
theorem ztr (w:web) (hn:NetOk w.Net) (hs:Sl (Sl Tab)) (hh:HsOk w hs):∀ (m k u:Nat),u+m=w.Net.Nodes.toNat->1<=u->m < k->(∃ u' j,u<=u'/\u'<=w.Net.Nodes.toNat/\j < w.Net.Nodes.toNat/\neg hs u' j) ->
  zem w hs k (u:Int)=true/\zAy w (zel w hs k (u:Int)):=by
 have hn40:=hn.n40
 intro m
 induction m with
 | zero =>
  intro k u hu h1 hk hex
  obtain⟨k,rfl⟩:∃ k',k=k'+1:=⟨k - 1,by omega⟩
  obtain⟨u',j,g1,g2,g3,g4⟩:=hex
  have:u'=u:=by omega
  subst this
  obtain⟨a,b⟩:=zBS w hn hs hh u' h1 g2
  have e1:zem w hs (k+1) (u':Int)=zhS w (u':Int) hs:=by
   show zhW w hs (zem w hs k) (u':Int)=_
   unfold zhW
   rw[dqF (show ¬ (u':Int) < w.Net.Nodes by omega),dqB]
  have e2:zel w hs (k+1) (u':Int)=zhR w (u':Int) hs:=by
   show zhV w hs (zel w hs k) (u':Int)=_
   unfold zhV
   rw[dqF (show ¬ (u':Int) < w.Net.Nodes by omega),dqB]
  rw[e1,e2]
  exact⟨a,b ⟨j,g3,g4⟩⟩
 | succ m ih =>
  intro k u hu h1 hk hex
  obtain⟨k,rfl⟩:∃ k',k=k'+1:=⟨k - 1,by omega⟩
  have hw:w64 ((u:Int)+(1:Int))=((u+1:Nat):Int):=by rw[zbt (by omega) (by omega)];omega
  have e1:zem w hs (k+1) (u:Int)=ze2 (zem w hs k) w hs Fuel (u:Int) ((0:Nat):Int):=by
   show zhW w hs (zem w hs k) (u:Int)=_
   unfold zhW
   rw[dqT (show (u:Int) < w.Net.Nodes by omega),dqA];rfl
  have e2:zel w hs (k+1) (u:Int)=ze1 (zel w hs k) w hs Fuel (u:Int) ((0:Nat):Int):=by
   show zhV w hs (zel w hs k) (u:Int)=_
   unfold zhV
   rw[dqT (show (u:Int) < w.Net.Nodes by omega),dqA];rfl
  rw[e1,e2]
  rcases zyz w hn hs hh (zel w hs k) (zem w hs k) u h1 (by omega) w.Net.Nodes.toNat Fuel 0 (by omega) (by simp only[Fuel];omega) with h | ⟨g1,g2,g3⟩
  ·exact h
  ·rw [g2, g3, hw]
   refine ih k (u+1) (by omega) (by omega) (by omega) ?_
   obtain⟨u',j,x1,x2,x3,x4⟩:=hex
   by_cases huu:u'=u
   ·subst huu;exact absurd ⟨j,Nat.zero_le _,x3,x4⟩ g1
   ·exact⟨u',j,by omega,x2,x3,x4⟩
theorem zIx {w:web}(hn:NetOk w.Net){hs:Sl (Sl Tab)}(hh:HsOk w hs) (h : ¬ zbu (We w)):∃ u j,1<=u/\u<=w.Net.Nodes.toNat/\j < w.Net.Nodes.toNat/\neg hs u j:=by
 obtain⟨a,c,h1,h2,h3,h4,h5⟩:=zyo (zBP hn).lt h
 have hF':∀ {c:List Ed} {x y:Nat},zeq (We w) x c y->(∀ e∈c,a<=e.u/\a<=e.v)->zeq ((hF w (a:Int)).map edR) x c y:=by
  intro c
  induction c with
  | nil=>intro x y h _;exact h
  | cons e l ih =>
   rintro x y ⟨g1,g2,g3⟩ g
   refine⟨?_,g2,ih g3 (λ e he=>g e (dqf _ he))⟩
   obtain⟨y,hy,rfl⟩:=dqz.1 g1
   have hyo:=zyO hn hy
   have hg:=g (edS y) (dqj ..)
   have f0:=hyo.f0;have t0:=hyo.t0
   have hg1:a<=y.from_.toNat:=hg.1
   have hg2:a<=y.to.toNat:=hg.2
   exact dqz.2 ⟨edQ y,List.mem_map_of_mem (List.mem_filter.2 ⟨hy,by unfold okY;rw[dqT (show (a:Int)<=y.from_ by omega),dqT (show (a:Int)<=y.to by omega)];rfl⟩),rfl⟩
 obtain⟨c0,k1,k2,k3⟩:=zFf (hF' h2 h5)
 have hc:c.length ≠ 0:=λ e=>by
  have:c=[]:=List.length_eq_zero_iff.1 e
  subst this;exact absurd h3 (by show ¬ (0:Int) < 0;omega)
 obtain⟨x,m1,m2⟩:=zFo (k:=c.length) k1 k3
 refine⟨c.length,a,by omega,h4,h1,?_⟩
 obtain⟨⟨g1,_⟩,_⟩:=(hh.at_ a h1).2 c.length h4 a h1
 rw[m1] at g1
 have g1':((hs.get a).get c.length) (a * 2)=x:=g1
 show ((hs.get a).get c.length) (a * 2) < 0
 omega
def stH (w:web) (i:Nat) (v:Sl (Sl Tab)):Sl (Sl Tab):=⟨v.len,setT i (zrR w (i:Int) w.Net.Nodes) v.get⟩
theorem zIy (w:web):∀ (m i:Nat) (v:Sl (Sl Tab)),(∀ j,j < i->v.get j=zrR w (j:Int) w.Net.Nodes)->(ziZ (stH w) m i v).len=v.len/\∀ j,j < i+m->(ziZ (stH w) m i v).get j=zrR w (j:Int) w.Net.Nodes:=by
 intro m
 induction m with
 | zero=>intro i v h;exact⟨rfl,λ j hj=>h j (by omega)⟩
 | succ m ih =>
  intro i v h
  obtain⟨k1,k2⟩:=ih (i+1) (stH w i v) (λ j hj=>by
   show setT i _ v.get j=_
   rw[zfP]
   by_cases hji:j=i
   ·rw[dqP hji,hji]
   ·rw[dqG hji];exact h j (by omega))
  exact⟨k1,λ j hj=>k2 j (by omega)⟩
theorem zIz (w:web) (hn:NetOk w.Net) (h : ¬ zbu (We w)):p89 w=true/\zAy w (s89 w):=by
  have hn1:=hn.n1;have hn40:=hn.n40
  have hNN:((w.Net.Nodes.toNat:Nat):Int)=w.Net.Nodes:=by omega
  have hm:=λ (i:Nat) (hi:i < w.Net.Nodes.toNat)=>zFp w hn i hi w.Net.Nodes.toNat (by omega)
  rw[hNN] at hm
  have hl := zkK (step := stH w) (E := fun v => zmV w v) (EP := fun v => zmW w v) (Inv := fun _ (v : Sl (Sl Tab)) => v.len = w.Net.Nodes.toNat) (a := 0) (n := w.Net.Nodes.toNat) (lpS := fun k v i => zgE w k i v) (lpP := fun k v i => zgF w k i v)
    (λ k i v _ hi hv=>by
      show zhX w (zgE w k) (i:Int) v=zgE w k (w64 ((i:Int)+(1:Int))) (stH w i v)
      generalize zgE w k=S
      unfold zhX stH
      rw[dqT (show (i:Int) < (w.Net.Nodes.toNat:Int) by omega),dqA,dqN])
    (λ k v=>by
      show zhX w (zgE w k) (w.Net.Nodes.toNat:Int) v=_
      unfold zhX
      rw[dqF (show ¬ (w.Net.Nodes.toNat:Int) < (w.Net.Nodes.toNat:Int) by omega),dqB])
    (λ k i v _ hi hv=>by
      show zhY w (zgF w k) (i:Int) v=zgF w k (w64 ((i:Int)+(1:Int))) (stH w i v)
      generalize zgF w k=S
      have hv':v.len=w.Net.Nodes.toNat:=hv
      unfold zhY stH
      rw[dqT (show (i:Int) < (w.Net.Nodes.toNat:Int) by omega),dqA,(hm i hi).1,dqN,dqT (show 0<=(i:Int)/\(i:Int) < (v.len:Int) by omega),dqT (show i < v.len by omega)];rfl)
    (λ k v=>by
      show zhY w (zgF w k) (w.Net.Nodes.toNat:Int) v=_
      unfold zhY
      rw[dqF (show ¬ (w.Net.Nodes.toNat:Int) < (w.Net.Nodes.toNat:Int) by omega),dqB])
    (λ i v _ _ h=>h) (Nat.zero_le _) (by omega) (⟨w.Net.Nodes.toNat,(λ _=>(⟨0,λ _=>(λ _=>(0:Int))⟩:(Sl Tab)))⟩:Sl (Sl Tab)) rfl
  obtain⟨k1,k2⟩:=zIy w (w.Net.Nodes.toNat - 0) 0 (⟨w.Net.Nodes.toNat,(λ _=>(⟨0,λ _=>(λ _=>(0:Int))⟩:(Sl Tab)))⟩:Sl (Sl Tab)) (λ j hj=>absurd hj (dqW _))
  generalize hhs:ziZ (stH w) (w.Net.Nodes.toNat - 0) 0 (⟨w.Net.Nodes.toNat,(λ _=>(⟨0,λ _=>(λ _=>(0:Int))⟩:(Sl Tab)))⟩:Sl (Sl Tab))=hs at *
  have hh:HsOk w hs:=⟨k1,λ i hi=>by rw[k2 i (by omega)];exact⟨(hm i hi).2.1,(hm i hi).2.2⟩⟩
  obtain⟨u,j,x1,x2,x3,x4⟩:=zIx hn hh h
  obtain⟨r1,r2⟩:=ztr w hn hs hh (w.Net.Nodes.toNat - 1) Fuel 1 (by omega) (dqt _) (by simp only[Fuel];omega) ⟨u,j,x1,x2,x3,x4⟩
  have e2:s89 w=zel w hs Fuel ((1:Nat):Int):=by
    have e:s89 w=zmV w hs:=hl.2
    rw[e];rfl
  have e1:zmX w (0:Int) (⟨w.Net.Nodes.toNat,(λ _=>(⟨0,λ _=>(λ _=>(0:Int))⟩:(Sl Tab)))⟩:Sl (Sl Tab))=zem w hs Fuel ((1:Nat):Int):=by
    have e:zmX w (0:Int) (⟨w.Net.Nodes.toNat,(λ _=>(⟨0,λ _=>(λ _=>(0:Int))⟩:(Sl Tab)))⟩:Sl (Sl Tab))=zmW w hs:=hl.1
    rw[e];rfl
  refine⟨?_,by rw[e2];exact r2⟩
  unfold p89
  rw[e1,r1,dqT (show 0<=w.Net.Nodes/\w.Net.Nodes=w.Net.Nodes/\w.Net.Nodes<=1000000 from ⟨by omega,rfl,by omega⟩)];rfl
end Go.Proofs
namespace Go.Pm
end Go.Pm
namespace Go.Proofs
open Go Go.Pm
set_option maxRecDepth 100000
set_option linter.unusedVariables false
def fa (a:web) (i j:Nat):Int:=zsx (dst (We a) a.Net.Nodes.toNat i j)
def Fo (f:Nat->Nat->Int) (t:Tie):Prop:=(t.Low = -1000000000000\/f t.To.toNat t.From.toNat<=-t.Low)/\(t.High=1000000000000\/f t.From.toNat t.To.toNat<=t.High)
theorem Fo.mono {f f':Nat->Nat->Int}{t:Tie}{N:Nat}(hf:t.From.toNat < N) (ht:t.To.toNat < N) (h:∀ i j,i < N->f i j<=f' i j) (h':Fo f' t):Fo f t :=
 ⟨h'.1.imp id λ k=>Int.le_trans (h _ _ ht) k,h'.2.imp id λ k=>Int.le_trans (h _ _ hf) k⟩
def wg (n:Net) (g:Nat->Bool):web:=⟨n,⟨0,λ l=>cond (g (l.getD 0 0).toNat) (some [1]) none⟩⟩
theorem zlK (n:Net) (g:Nat->Bool) (j:Nat):zns (wg n g) j=g j:=by
 show ((zoW (cond (g (((j:Int) :: []).getD 0 0).toNat) (some [1]) none) 0) != 0)=g j
 rw[show (((j:Int) :: []).getD 0 0).toNat=j from rfl]
 cases g j <;> rfl
theorem zyA {a b:web}(ha:NetOk a.Net) (hab:b.Net=a.Net) (h:∀ j,j < a.Net.Ties.len->zns b j=true->zns a j=true):∀ e∈We a,e∈We b:=λ e he=>by
 obtain⟨j,h1,h2,h3⟩:=(zsy ha).1 he
 refine (zsy (a:=b) (by rw[hab];exact ha)).2 ⟨j,by rw[hab];exact h1,?_,by rw[hab];exact h3⟩
 cases hb:zns b j
 ·rfl
 ·rw[h j h1 hb] at h2;cases h2
section
variable {n:Net}(hn:NetOk n) (hN:zbu (En n))
include hn in
theorem zIA (g:Nat->Bool):∀ e∈We (wg n g),e∈En n:=zyA (a:=wg n g) (b:=W n) hn rfl λ j _ h=>by
 have:zns (W n) j=false:=rfl
 rw[this] at h;cases h
include hn hN in
theorem zFu (g:Nat->Bool):zbu (We (wg n g)):=zdT (zIA hn g) hN
include hn hN in
end
end Go.Proofs
namespace Go.Proofs
open Go Go.Pm
set_option maxRecDepth 100000
set_option linter.unusedVariables false
def IsP {α:Type}(v:Sl α) (L:List α):Prop:=v.len=L.length/\∀ k (h:k < L.length),v.get k=L[k]
theorem zIB {α:Type}(n:Nat) (g:Nat->α) (x:α) (j:Nat):zfn n g (λ _=>x) j=if n<=j then x else g j:=by
 show (match Nat.ble n j with | true=>x | false=>g j)=_
 by_cases h:n<=j
 ·rw[dqP h,show Nat.ble n j=true from Nat.ble_eq_true_of_le h]
 ·rw[dqG h,show Nat.ble n j=false from Bool.eq_false_iff.2 λ e=>h (Nat.le_of_ble_eq_true e)]
theorem zFv {α:Type}{v:Sl α}{L:List α}(h:IsP v L) (y:α):IsP ⟨v.len+1,zfn v.len v.get (λ _=>y)⟩ (L ++ [y]):=by
 obtain⟨h1,h2⟩:=h
 refine⟨by show v.len+1=_;simp[h1],λ k hk=>?_⟩
 show zfn v.len v.get (λ _=>y) k=_
 rw[zIB,List.getElem_append]
 simp at hk
 by_cases hq:k < L.length
 ·rw[dqG (by omega),dif_pos hq,h2 k hq]
 ·rw[dqP (by omega),dif_neg hq];simp
def stP {α:Type}(f:Nat->α) (b:Nat->Bool) (i:Nat) (v:Sl α):Sl α:=cond (b i) ⟨v.len+1,zfn v.len v.get (λ _=>f i)⟩ v
theorem zyB {α : Type} (f : Nat → α) (b : Nat → Bool) : ∀ (m i : Nat) (v : Sl α) (L : List α), IsP v L → IsP (ziZ (stP f b) m i v) (L ++ ((List.range' i m).filter b).map f)
  | 0,i,v,L,h=>by
    show IsP v _
    simpa using h
  | m+1,i,v,L,h=>by
    rw[List.range'_succ]
    show IsP (ziZ (stP f b) m (i+1) (stP f b i v)) _
    cases hb:b i
    · rw [List.filter_cons_of_neg (by simp [hb]), show stP f b i v = v by unfold stP; rw [hb]; rfl]
      exact zyB f b m (i+1) v L h
    · rw [List.filter_cons_of_pos hb, show stP f b i v = ⟨v.len + 1, zfn v.len v.get (fun _ => f i)⟩ by unfold stP; rw [hb]; rfl]
      have:=zyB f b m (i+1) _ _ (zFv h (f i))
      simpa using this
theorem zFw {α:Type}(f:Nat->α) (b:Nat->Bool){i:Nat}{v:Sl α}(h:v.len<=i):(stP f b i v).len<=i+1:=by
 unfold stP;cases b i
 ·exact Nat.le_succ_of_le h
 ·exact Nat.succ_le_succ h
theorem zoK {α β : Type} [Inhabited α] (f : Nat → α) (b : Nat → Bool) {n : Nat} {E : Sl α → β} {EP : Sl α → Bool} {lpS : Nat → Sl α → Int → β} {lpP : Nat → Sl α → Int → Bool}
    (hS:∀ (k i:Nat) (v:Sl α),i < n->v.len<=i->lpS (k+1) v (i:Int)=lpS k (stP f b i v) (w64 ((i:Int)+(1:Int))))
    (hE:∀ k v,lpS (k+1) v (n:Int)=E v)
    (hP:∀ (k i:Nat) (v:Sl α),i < n->v.len<=i->lpP (k+1) v (i:Int)=lpP k (stP f b i v) (w64 ((i:Int)+(1:Int))))
    (hPE:∀ k v,lpP (k+1) v (n:Int)=EP v) (hn:n<=1000000) :
    ∃ v,IsP v (((List.range n).filter b).map f)/\lpP Fuel ⟨0,λ _=>default⟩ (0:Int)=EP v/\lpS Fuel ⟨0,λ _=>default⟩ (0:Int)=E v:=by
  have h := zkK (step := stP f b) (E := E) (EP := EP) (Inv := fun i v => v.len ≤ i) (a := 0) (n := n) (lpS := lpS) (lpP := lpP)
    (λ k i v _ hi hv=>hS k i v hi hv) hE (λ k i v _ hi hv=>hP k i v hi hv) hPE (λ i v _ _ hv=>zFw f b hv) (Nat.zero_le _) (by omega) ⟨0,λ _=>default⟩ (dqt 0)
  refine⟨_,?_,h.1,h.2⟩
  have:=zyB f b n 0 ⟨0,λ _=>default⟩ [] ⟨rfl,λ k hk=>absurd hk (dqW _)⟩
  rw[List.range_eq_range']
  simpa using this
theorem zyC {l:Sl Int}{L:List Int}(h:IsP l L) (hl:L.length<=1000000) (x:Int):p60 l x=true/\s60 l x=decide (x∈L):=by
  have hl':l.len<=1000000:=by rw[h.1];exact hl
  have key := zyb (good := fun i => !(l.get i == x)) (bad := true) (fin := false) (zBG := true) (n := l.len) (lpS := ziu l x) (lpP := ziv l x)
    (λ k i hi=>by
      show zis l x (ziu l x k) (i:Int)=_
      generalize ziu l x k=S
      unfold zis
      rw[dqT (show (i:Int) < (l.len:Int) by omega),dqA,dqN]
      cases (l.get i == x) <;> rfl)
    (λ k=>by
      show zis l x (ziu l x k) (l.len:Int)=_
      unfold zis
      rw[dqF (show ¬ (l.len:Int) < (l.len:Int) by omega),dqB])
    (λ k i hi=>by
      show zit l x (ziv l x k) (i:Int)=_
      generalize ziv l x k=S
      unfold zit
      rw[dqT (show (i:Int) < (l.len:Int) by omega),dqA,dqN,dqT (show 0<=(i:Int)/\(i:Int) < (l.len:Int) by omega),Bool.true_and]
      cases (l.get i == x) <;> rfl)
    (λ k=>by
      show zit l x (ziv l x k) (l.len:Int)=_
      unfold zit
      rw[dqF (show ¬ (l.len:Int) < (l.len:Int) by omega),dqB])
    (by omega)
  by_cases hx:x∈L
  · obtain ⟨k, hk, e⟩ := List.getElem_of_mem hx
    have hno : ¬ ∀ i,i < l.len->(!(l.get i == x))=true:=λ hq=>by
      have:=hq k (by rw[h.1];exact hk)
      rw[h.2 k hk,e] at this;simp at this
    rw[dqT hx]
    exact key.2 hno
  · have hyes:∀ i,i < l.len->(!(l.get i == x))=true:=λ i hi=>by
      have hi':i < L.length:=by rw[<- h.1];exact hi
      rw[h.2 i hi']
      have : ¬ L[i]=x:=λ e=>hx (e ▸ List.getElem_mem hi')
      simp[this]
    rw[dqF hx]
    exact key.1 hyes
structure Pick (n m : Net) (g : Nat → Bool) : Prop where
  nodes:m.Nodes=n.Nodes
  ties:IsP m.Ties (((List.range n.Ties.len).filter λ j=>!g j).map n.Ties.get)
theorem zIC (n:Net) (hn:n.Ties.len<=210){l:Sl Int}{L:List Int}(hl:IsP l L) (hL:L.length<=1000000):p27 n l=true/\Pick n (s27 n l) (λ j=>decide ((j:Int)∈L)):=by
  obtain ⟨v, hv, h1, h2⟩ := zoK (α := Tie) (β := Net) n.Ties.get (fun j => !decide ((j : Int) ∈ L)) (n := n.Ties.len) (E := fun v => (⟨n.Nodes, v⟩ : Net)) (EP := fun _ => true) (lpS := fun k v i => zgK n l k i v) (lpP := fun k v i => zgL n l k i v)
    (λ k i v hi hv=>by
      show ziw n l (zgK n l k) (i:Int) v=zgK n l k (w64 ((i:Int)+(1:Int))) _
      generalize zgK n l k=S
      unfold ziw zqQ stP
      rw[dqT (show (i:Int) < (n.Ties.len:Int) by omega),dqA,dqN,(zyC hl hL (i:Int)).2]
      show cond (!decide ((i:Int)∈L)) _ _=S _ (cond (!decide ((i:Int)∈L)) _ _)
      cases (!decide ((i:Int)∈L)) <;> rfl)
    (λ k v=>by
      show ziw n l (zgK n l k) (n.Ties.len:Int) v=_
      unfold ziw
      rw[dqF (show ¬ (n.Ties.len:Int) < (n.Ties.len:Int) by omega),dqB])
    (λ k i v hi hv=>by
      show zix n l (zgL n l k) (i:Int) v=zgL n l k (w64 ((i:Int)+(1:Int))) _
      generalize zgL n l k=S
      unfold zix zqR stP
      rw[dqT (show (i:Int) < (n.Ties.len:Int) by omega),dqA,(zyC hl hL (i:Int)).1,(zyC hl hL (i:Int)).2,dqT (show 0<=(i:Int)/\(i:Int) < (n.Ties.len:Int) by omega),dqT (show (v.len+1) * 32<=140737488355328/\v.len+1<=9223372036854775807 by omega),dqN]
      show (_ && cond (!decide ((i:Int)∈L)) _ _)=S _ (cond (!decide ((i:Int)∈L)) _ _)
      cases (!decide ((i:Int)∈L)) <;> rfl)
    (λ k v=>by
      show zix n l (zgL n l k) (n.Ties.len:Int) v=_
      unfold zix
      rw[dqF (show ¬ (n.Ties.len:Int) < (n.Ties.len:Int) by omega),dqB])
    (by omega)
  have e:s27 n l=⟨n.Nodes,v⟩:=h2
  rw[e]
  exact⟨h1,rfl,hv⟩
section
variable {n m:Net}{g:Nat->Bool}(h:Pick n m g)
include h in
theorem Pick.at {q:Nat}(hq:q < m.Ties.len):∃ hk:q < ((List.range n.Ties.len).filter λ j=>!g j).length,m.Ties.get q=n.Ties.get ((List.range n.Ties.len).filter λ j=>!g j)[q]/\((List.range n.Ties.len).filter λ j=>!g j)[q] < n.Ties.len/\g ((List.range n.Ties.len).filter λ j=>!g j)[q]=false:=by
 have hk:q < ((List.range n.Ties.len).filter λ j=>!g j).length:=by have:=h.ties.1;rw[List.length_map] at this;omega
 have hm:=List.getElem_mem hk
 rw[List.mem_filter,List.mem_range] at hm
 refine⟨hk,?_,hm.1,by simpa using hm.2⟩
 rw[h.ties.2 q (by rw[List.length_map];exact hk),List.getElem_map]
include h in
theorem Pick.of {j:Nat}(hj:j < n.Ties.len) (hg:g j=false):∃ q,q < m.Ties.len/\∃ hk:q < ((List.range n.Ties.len).filter λ j=>!g j).length,((List.range n.Ties.len).filter λ j=>!g j)[q]=j:=by
 have hm:j∈(List.range n.Ties.len).filter λ j=>!g j:=List.mem_filter.2 ⟨List.mem_range.2 hj,by simp[hg]⟩
 obtain⟨q,hq,e⟩:=List.getElem_of_mem hm
 exact⟨q,by rw[h.ties.1,List.length_map];exact hq,hq,e⟩
include h in
theorem Pick.net (hn:NetOk n):NetOk m:=by
 have hlen:m.Ties.len<=n.Ties.len:=by
  have:=h.ties.1
  rw[List.length_map] at this
  have h2:=List.length_filter_le (λ j=>!g j) (List.range n.Ties.len)
  rw[List.length_range] at h2
  omega
 have h1:=hn.n1;have h2:=hn.n40;have h3:=hn.len
 refine⟨by rw[h.nodes];exact h1,by rw[h.nodes];exact h2,by omega,λ q hq=>?_⟩
 obtain⟨hk,e,h4,_⟩:=h.at hq
 rw[e,h.nodes];exact hn.tie _ h4
include h in
theorem Pick.edges (hn:NetOk n) (e:Ed):e∈En m↔e∈We (wg n g):=by
 have hm:=h.net hn
 rw[zsy (a:=W m) hm,zsy (a:=wg n g) hn]
 constructor
 ·rintro ⟨q, h1, _, h3⟩
  obtain⟨hk,e1,h4,h5⟩:=h.at h1
  refine⟨_,h4,by rw[zlK];exact h5,?_⟩
  have h3:((m.Ties.get q).High ≠ 1000000000000/\e=⟨(m.Ties.get q).From.toNat,(m.Ties.get q).To.toNat,(m.Ties.get q).High⟩)\/((m.Ties.get q).Low ≠ -1000000000000/\e=⟨(m.Ties.get q).To.toNat,(m.Ties.get q).From.toNat,-(m.Ties.get q).Low⟩):=h3
  rw[e1] at h3;exact h3
 ·rintro ⟨j, h1, h2, h3⟩
  rw[zlK] at h2
  obtain⟨q,h4,hk,e1⟩:=h.of h1 h2
  obtain⟨_,e2,_⟩:=h.at h4
  refine⟨q,h4,rfl,?_⟩
  show ((m.Ties.get q).High ≠ 1000000000000/\e=⟨(m.Ties.get q).From.toNat,(m.Ties.get q).To.toNat,(m.Ties.get q).High⟩)\/((m.Ties.get q).Low ≠ -1000000000000/\e=⟨(m.Ties.get q).To.toNat,(m.Ties.get q).From.toNat,-(m.Ties.get q).Low⟩)
  rw[e2,e1];exact h3
include h in
theorem Pick.noNeg (hn:NetOk n) (hN:zbu (En n)):zbu (En m):=zdT (λ e he=>(h.edges hn e).1 he) (zFu hn hN g)
include h in
theorem Pick.fr (hn:NetOk n) (hN:zbu (En n)) {i:Nat}(hi:i < n.Nodes.toNat) (j:Nat):fr m i j=fa (wg n g) i j:=by
 have hE:EdOk (En m) n.Nodes.toNat:=by have:=zBP (a:=W m) (h.net hn);rw[show (W m).Net.Nodes=n.Nodes from h.nodes] at this;exact this
 show zsx (dst (En m) m.Nodes.toNat i j)=zsx (dst (We (wg n g)) n.Nodes.toNat i j)
 rw[h.nodes]
 exact zyn (zBP (a:=wg n g) hn) hE (h.noNeg hn hN) hi (λ e he=>(h.edges hn e).2 he) (λ e he=>(h.edges hn e).1 he)
end
end Go.Proofs
namespace Go.Proofs
open Go Go.Pm
set_option maxRecDepth 100000
set_option linter.unusedVariables false
theorem zq6 {S : List step} : ∀ {L : List step} {a b : Int}, ChS S a L b → ∀ y ∈ L, y ∈ S
  | [],_,_,_,y,hy=>by cases hy
  | z :: L,a,b,⟨h1,_,h3⟩,y,hy=>by
    rcases dqq.1 hy with rfl | hy
    · exact h1
    · exact zq6 h3 y hy
theorem zBT {S S' : List step} : ∀ {L : List step} {a b : Int}, (∀ y ∈ L, y ∈ S') → ChS S a L b → ChS S' a L b
  | [],_,_,_,h=>h
  | z :: L,a,b,hs,⟨_,h2,h3⟩=>⟨hs z dqj,h2,zBT (λ y hy=>hs y (dqf _ hy)) h3⟩
theorem zBU {w : web} : ∀ {L : List step} {a b : Int}, ChS (Ws w) a L b → zeq (We w) a.toNat (L.map edS) b.toNat ∧ wt (L.map edS) = wtS L
  | [],a,b,h=>by
    have h:a=b:=h
    subst h;exact⟨rfl,rfl⟩
  | y :: L,a,b,⟨h1,h2,h3⟩=>by
    obtain⟨h4,h5⟩:=zBU h3
    subst h2
    exact⟨⟨dqz.2 ⟨y,h1,rfl⟩,rfl,h4⟩,by show y.length+wt (L.map edS)=y.length+wtS L;rw[h5]⟩
theorem zoL {a b : web} (hab : b.Net = a.Net) : ∀ (m i : Nat), (∀ j, i ≤ j → j < i + m → zns b j = zns a j) → stL b m i = stL a m i
  | 0,_,_=>rfl
  | m+1,i,h=>by
    show stK b i ++ stL b m (i+1)=stK a i ++ stL a m (i+1)
    rw[zoL hab m (i+1) λ j h1 h2=>h j (by omega) (by omega)]
    unfold stK
    rw[h i (dqt _) (by omega),hab]
theorem zAB {a b:web}(hab:b.Net=a.Net) (h:∀ j,j < a.Net.Ties.len->zns b j=zns a j):Ws b=Ws a:=by
 show stL b b.Net.Ties.len 0=stL a a.Net.Ties.len 0
 rw[hab]
 exact zoL hab _ _ λ j _ h2=>h j (by omega)
def sdF (n:Net) (g:Nat->Bool):Bool:=!(s88 (wg n g))
section
variable {n:Net}(hn:NetOk n)
include hn
theorem zlL (g:Nat->Bool):sdF n g=true↔zbu (We (wg n g)):=by
 rw[<- znn (wg n g) hn];unfold sdF;cases s88 (wg n g) <;> simp
theorem zyD {g:Nat->Bool}(h:sdF n g=false) : ¬ zbu (We (wg n g)):=λ h'=>by rw[(zlL hn g).2 h'] at h;cases h
theorem tie_of {g:Nat->Bool}{y:step}(h:y∈Ws (wg n g)):∃ j,j < n.Ties.len/\g j=false/\y.Use.Tie=(j:Int)/\∀ X:Nat->Bool,X j=false->y∈Ws (wg n X):=by
 obtain⟨j,_,h2,h3⟩:=ziA.1 h
 have h2:j < 0+n.Ties.len:=h2
 obtain⟨h4,h5⟩:=ziB.1 h3
 rw[zlK] at h4
 refine⟨j,by omega,h4,?_,λ X hX=>ziA.2 ⟨j,Nat.zero_le _,h2,ziB.2 ⟨by rw[zlK];exact hX,h5⟩⟩⟩
 rcases h5 with ⟨_,rfl⟩ | ⟨_,rfl⟩ <;> rfl
theorem zsC (g g':Nat->Bool) (h:∀ j,j < n.Ties.len->g j=g' j):sdF n g=sdF n g':=by
 have key:∀ g g':Nat->Bool,(∀ j,j < n.Ties.len->g j=g' j)->zbu (We (wg n g))->zbu (We (wg n g')):=λ g g' h hN =>
  zdT (zyA (a:=wg n g') (b:=wg n g) hn rfl λ j hj e=>by rw[zlK] at e ⊢;rw[<- h j hj];exact e) hN
 cases h1:sdF n g <;> cases h2:sdF n g'
 ·rfl
 ·exact absurd (key g' g (λ j hj=>(h j hj).symm) ((zlL hn g').1 h2)) (zyD hn h1)
 ·exact absurd (key g g' h ((zlL hn g).1 h1)) (zyD hn h2)
 ·rfl
theorem hit {g X:Nat->Bool}{L:List step}{a:Int}(h2:ChS (Ws (wg n g)) a L a) (h3:wtS L < 0) (hsX:sdF n X=true):∃ y∈L,X y.Use.Tie.toNat=true:=by
 refine Classical.byContradiction λ hno=>?_
 have hall:∀ y∈L,y∈Ws (wg n X):=λ y hy=>by
  obtain⟨j,_,_,h5,h6⟩:=tie_of hn (zq6 h2 y hy)
  exact h6 X (Bool.eq_false_iff.2 λ hj=>hno ⟨y,hy,by rw[h5];exact hj⟩)
 obtain⟨h4,h5⟩:=zBU (zBT hall h2)
 have:=(zlL hn X).1 hsX _ _ h4
 omega
end
end Go.Proofs
namespace Go.Proofs
open Go Go.Pm
set_option maxRecDepth 100000
set_option linter.unusedVariables false
structure MpOk (n : Net) (g : Nat → Bool) (w : web) : Prop where
  net:w.Net=n
  key:∀ j:Nat,w.out.F [(j:Int)]=if j < n.Ties.len/\g j=true then some [1] else none
  num:w.out.n=(keysB n.Ties.len g).length
theorem MpOk.out {n:Net}{g:Nat->Bool}{w:web}(h:MpOk n g w) (j:Nat) (hj:j < n.Ties.len):zns w j=zns (wg n g) j:=by
 rw[zlK]
 unfold zns
 rw[h.key]
 cases hg:g j
 ·rw[dqG (by simp)];rfl
 ·rw[dqP ⟨hj,rfl⟩];rfl
theorem MpOk.ws {n:Net}{g:Nat->Bool}{w:web}(h:MpOk n g w):Ws w=Ws (wg n g):=zAB (a:=wg n g) (b:=w) h.net h.out
theorem MpOk.sd {n:Net}{g:Nat->Bool}{w:web}(h:MpOk n g w) (hn:NetOk n):p88 w=true/\s88 w = !sdF n g:=by
 have hw:NetOk w.Net:=by rw[h.net];exact hn
 refine⟨(zq2 w hw).1,?_⟩
 have h1:=znn w hw
 have h2:=zlL hn g
 have e:We w=We (wg n g):=by unfold We;rw[h.ws]
 rw[e] at h1
 cases hs:s88 w <;> cases hd:sdF n g
 ·rw[hd] at h2;exact absurd (h2.2 (h1.1 hs)) dqk
 ·rfl
 ·rfl
 ·rw[hs] at h1;exact absurd (h1.2 (h2.1 hd)) (λ e=>by cases e)
theorem zyE {F : List Int → Option (List Int)} {g : Nat → Bool} {N : Nat} (hF : ∀ j : Nat, F [(j : Int)] = if j < N ∧ g j = true then some [1] else none) :
  ∀ (m i f:Nat),i+m=N->m<=f->zlS F f (i:Int) ((List.range' i m).filter g).length=some (((List.range' i m).filter g).map λ (j:Nat)=>(j:Int))
 | 0,i,f,_,_=>by cases f <;> rfl
 | m+1,i,0,_,h=>by omega
 | m+1,i,f+1,hi,h=>by
  have ih:=zyE hF m (i+1) f (by omega) (by omega)
  rw[show ((i+1:Nat):Int)=(i:Int)+1 from rfl] at ih
  rw[List.range'_succ,List.filter_cons]
  cases hg:g i
  ·rw [dqG (by simp)]
   cases hr:(List.filter g (List.range' (i+1) m)) with
   | nil=>rfl
   | cons x r =>
    rw[hr] at ih
    show zlS F (f+1) (i:Int) (r.length+1)=_
    have e:F [(i:Int)]=none:=by rw[hF,dqG (by rw[hg];simp)]
    simp only[zlS,e]
    exact ih
  ·rw [dqP rfl]
   show zlS F (f+1) (i:Int) ((List.filter g (List.range' (i+1) m)).length+1)=_
   have e:F [(i:Int)]=some [1]:=by rw[hF,dqP ⟨by omega,hg⟩]
   simp only[zlS,e,ih]
   rfl
theorem MpOk.keys {n:Net}{g:Nat->Bool}{w:web}(h:MpOk n g w) (hn:n.Ties.len<=1000000):w.out.n<=1000000/\zlS w.out.F 9223372036854775808 0 w.out.n=some ((keysB n.Ties.len g).map λ (j:Nat)=>(j:Int)):=by
 have hl:(keysB n.Ties.len g).length<=n.Ties.len:=by
  have:=List.length_filter_le g (List.range n.Ties.len)
  rw[List.length_range] at this;exact this
 refine⟨by rw[h.num];omega,?_⟩
 have:=zyE (F:=w.out.F) h.key n.Ties.len 0 9223372036854775808 (by omega) (by omega)
 rw[h.num]
 unfold keysB
 rw[List.range_eq_range']
 exact this
def ztv (v:Sl (Sl Int)) (A:List (List Nat)):Prop:=v.len=A.length/\∀ i (h:i < A.length),IsP (v.get i) (A[i].map λ (j:Nat)=>(j:Int))
theorem zAC {v s:Sl (Sl Int)}{A B:List (List Nat)}(h:ztv v A) (h':ztv s B):ztv ⟨v.len+s.len,zfn v.len v.get s.get⟩ (A ++ B):=by
 obtain⟨h1,h2⟩:=h
 obtain⟨h3,h4⟩:=h'
 refine⟨by show v.len+s.len=_;simp[h1,h3],λ k hk=>?_⟩
 show IsP (match Nat.ble v.len k with | true=>s.get (k - v.len) | false=>v.get k) _
 rw[dqu] at hk
 by_cases hq:k < A.length
 ·rw [show Nat.ble v.len k = false from Bool.eq_false_iff.2 fun e => by have := Nat.le_of_ble_eq_true e; omega]
  have:=h2 k hq
  rw[List.getElem_append_left hq];exact this
 ·rw [show Nat.ble v.len k = true from Nat.ble_eq_true_of_le (by omega)]
  have:=h4 (k - v.len) (by omega)
  rw[List.getElem_append_right (by omega)]
  simp only[h1] at this ⊢
  exact this
theorem zID {n:Net}{g:Nat->Bool}{w:web}(h:MpOk n g w){j:Nat}(hj:j < n.Ties.len) (hg:g j=false):MpOk n (zyL g j) ⟨⟨w.Net.Nodes,w.Net.Ties⟩,⟨w.out.n+1,zc1 [(j:Int)] [1] w.out.F⟩⟩:=by
 refine⟨h.net,λ q=>?_,?_⟩
 ·show (match decide ([(q : Int)] = [(j : Int)]) with | true => some [1] | false => w.out.F [(q : Int)]) = _
  by_cases hq:q=j
  ·subst hq
   rw[show decide ([(q:Int)]=[(q:Int)])=true by simp,dqP ⟨hj,by simp[zyL]⟩]
  ·rw [show decide ([(q : Int)] = [(j : Int)]) = false by simp; omega]
   show w.out.F [(q:Int)]=_
   rw[h.key]
   have e:zyL g j q=g q:=by simp[zyL,hq]
   rw[e]
 ·show w.out.n + 1 = _
  rw[h.num,zoG hj hg]
theorem del_eq {F:List Int->Option (List Int)}{x:Int}(h:F [x]=none):zyG [x] (zc1 [x] [1] F)=F:=by
 funext l
 show (match decide (l=[x]) with | true=>none | false=>(match decide (l=[x]) with | true=>some [1] | false=>F l))=F l
 by_cases e:l=[x]
 ·rw[dqT e,e,h]
 ·rw[dqF e]
structure Fnd (n : Net) (k : Nat) (g : Nat → Bool) (A : List (List Nat)) : Prop where
  len:A.length<=40 ^ k
  sub:∀ L∈A,∃ X:Nat->Bool,sdF n X=true/\L=keysB n.Ties.len X/\L.length<=(keysB n.Ties.len g).length+k
  all:∀ X:Nat->Bool,(∀ j,j < n.Ties.len->g j=true->X j=true)->sdF n X=true->(keysB n.Ties.len X).length<=(keysB n.Ties.len g).length+k->∃ Y:Nat->Bool,(∀ j,j < n.Ties.len->Y j=true->X j=true)/\keysB n.Ties.len Y∈A
structure Fnp (n : Net) (k : Nat) (g : Nat → Bool) (L : List step) (i : Nat) (A : List (List Nat)) : Prop where
  len:A.length<=i * 40 ^ k
  sub:∀ M∈A,∃ X:Nat->Bool,sdF n X=true/\M=keysB n.Ties.len X/\M.length<=(keysB n.Ties.len g).length+(k+1)
  all:∀ X:Nat->Bool,(∀ j,j < n.Ties.len->g j=true->X j=true)->sdF n X=true->(keysB n.Ties.len X).length<=(keysB n.Ties.len g).length+(k+1)->(∃ q,∃ h:q < L.length,q < i/\X L[q].Use.Tie.toNat=true)->∃ Y:Nat->Bool,(∀ j,j < n.Ties.len->Y j=true->X j=true)/\keysB n.Ties.len Y∈A
section
variable [Slf69] {n:Net}
theorem zBV {k : Nat} (hk : k ≤ 3) (ih : ∀ (g : Nat → Bool) (w : web), MpOk n g w → Slf69.r.P w (k : Int) = true ∧ (Slf69.r.S w (k : Int)).2 = w ∧ ∃ B, ztv (Slf69.r.S w (k : Int)).1 B ∧ Fnd n k g B)
    {g:Nat->Bool} {w:web} (hw:MpOk n g w) {L:List step} (hL:IsS (s89 w) L) (hLt:∀ y∈L,∃ j,j < n.Ties.len/\g j=false/\y.Use.Tie=(j:Int)) (hLn:L.length<=40) :
    ∀ (m i fu:Nat) (v:Sl (Sl Int)) (A:List (List Nat)),i+m=L.length->m < fu->ztv v A->Fnp n k g L i A ->
      zc9 w ((k+1:Nat):Int) fu (i:Int) w.Net.Nodes w.Net.Ties v w.out.n w.out.F=true/\(zcp w ((k+1:Nat):Int) fu (i:Int) w.Net.Nodes w.Net.Ties v w.out.n w.out.F).2=w /\
      ∃ B,ztv (zcp w ((k+1:Nat):Int) fu (i:Int) w.Net.Nodes w.Net.Ties v w.out.n w.out.F).1 B/\Fnp n k g L L.length B
  | _,_,0,_,_,_,h,_,_=>absurd h (dqW _)
  | 0,i,fu+1,v,A,hi,_,hv,hA=>by
    have hl:=hL.1
    have hd:decide ((i:Int) < ((s89 w).len:Int))=false:=dqF (by omega)
    show ze3 w _ (zc9 w _ fu) (i:Int) w.Net.Nodes w.Net.Ties v w.out.n w.out.F=true/\(zdz w _ (zcp w _ fu) (i:Int) w.Net.Nodes w.Net.Ties v w.out.n w.out.F).2=w/\∃ B,ztv (zdz w _ (zcp w _ fu) (i:Int) w.Net.Nodes w.Net.Ties v w.out.n w.out.F).1 B/\_
    generalize zcp w ((k+1:Nat):Int) fu=S0
    generalize zc9 w ((k+1:Nat):Int) fu=P0
    unfold ze3 zdz
    rw[hd]
    simp only[dqB]
    have:i=L.length:=by omega
    rw[<- this]
    exact⟨trivial,trivial,A,hv,hA⟩
  | m+1,i,fu+1,v,A,hi,hm,hv,hA=>by
    have hl:=hL.1
    have hil:i < L.length:=by omega
    have hd:decide ((i:Int) < ((s89 w).len:Int))=true:=dqT (by omega)
    obtain⟨j,hj,hg,ht⟩:=hLt L[i] (List.getElem_mem hil)
    have et:((s89 w).get ((i:Int)).toNat).Use.Tie=(j:Int):=by
      rw[show ((i:Int)).toNat=i from rfl,hL.2 i hil,ht]
    have hF:w.out.F [(j:Int)]=none:=by rw[hw.key,dqG (by rw[hg];simp)]
    have ek:w64 (((k+1:Nat):Int) - (1:Int))=(k:Int):=by rw[zbt (by omega) (by omega)];omega
    have ei:w64 ((i:Int)+(1:Int))=((i+1:Nat):Int):=by rw[zbt (by omega) (by omega)];omega
    obtain⟨a1,a2,B,a3,a4⟩:=ih _ _ (zID hw hj hg)
    have hadd:=zoG (N:=n.Ties.len) hj hg
    have h40:(40:Nat) ^ k<=64000:=dqE (Nat.pow_le_pow_right (by omega) hk) (by decide)
    have hsl:=a3.1
    have hvl:=hv.1
    have hA1:A.length<=40 * 40 ^ k:=dqE hA.len (dqw _ (by omega))
    have nxt:=zBV hk ih hw hL hLt hLn m (i+1) fu _ (A ++ B) (by omega) (by omega) (zAC hv a3) ⟨by
        have:=hA.len;have:=a4.len
        rw[dqu,dqV];omega,λ M hM=>by
        rcases dqg.1 hM with hM | hM
        · exact hA.sub M hM
        · obtain ⟨X, h2, h3, h4⟩ := a4.sub M hM
          exact⟨X,h2,h3,by omega⟩,λ X hX hs hXl ⟨q,hq,hqi,hqX⟩=>by
        by_cases e:q=i
        · subst e
          rw[ht] at hqX
          obtain⟨Y,h1,h2⟩:=a4.all X (λ z hz h=>by
            simp only[zyL,Bool.or_eq_true,beq_iff_eq] at h
            rcases h with rfl | h
            · exact hqX
            · exact hX z hz h) hs (by omega)
          exact⟨Y,h1,List.mem_append_right _ h2⟩
        · obtain ⟨Y, h1, h2⟩ := hA.all X hX hs hXl ⟨q, hq, by omega, hqX⟩
          exact⟨Y,h1,List.mem_append_left _ h2⟩⟩
    show ze3 w _ (zc9 w _ fu) (i:Int) w.Net.Nodes w.Net.Ties v w.out.n w.out.F=true/\(zdz w _ (zcp w _ fu) (i:Int) w.Net.Nodes w.Net.Ties v w.out.n w.out.F).2=w/\∃ B,ztv (zdz w _ (zcp w _ fu) (i:Int) w.Net.Nodes w.Net.Ties v w.out.n w.out.F).1 B/\_
    generalize zcp w ((k+1:Nat):Int) fu=S0 at nxt ⊢
    generalize zc9 w ((k+1:Nat):Int) fu=P0 at nxt ⊢
    unfold ze3 zdz
    simp only[hd,et,hF,ek,ei,dqA]
    have e0:((zoW none 0) != (0:Int))=false:=rfl
    have e1:addN none w.out.n=w.out.n+1:=rfl
    have e2:zyR (zc1 [(j:Int)] [1] w.out.F [(j:Int)]) (w.out.n+1)=w.out.n:=by
      have:zc1 [(j:Int)] [1] w.out.F [(j:Int)]=some [1]:=by
        show (match decide ([(j:Int)]=[(j:Int)]) with | true=>some [1] | false=>w.out.F [(j:Int)])=_
        rw[show decide ([(j:Int)]=[(j:Int)])=true by simp]
      rw[this];rfl
    simp only[e0,e1,dqB,a2,e2,del_eq hF]
    have b1:decide ((0:Int)<=(i:Int)/\(i:Int) < ((s89 w).len:Int))=true:=dqT ⟨by omega,by omega⟩
    have b2:decide (Slf69.r.P (⟨⟨w.Net.Nodes,w.Net.Ties⟩,⟨w.out.n+1,zc1 [(j:Int)] [1] w.out.F⟩⟩:web) (k:Int)=true)=true:=dqT a1
    have hBl:=a4.len
    generalize hR:(Slf69.r.S (⟨⟨w.Net.Nodes,w.Net.Ties⟩,⟨w.out.n+1,zc1 [(j:Int)] [1] w.out.F⟩⟩:web) (k:Int)).1=R at a3 nxt hsl ⊢
    have b3:decide ((v.len+R.len) * 24<=140737488355328/\v.len+R.len<=9223372036854775807)=true:=dqT (by omega)
    rw[b1,b2,b3]
    simp only[Bool.true_and]
    exact nxt
end
theorem zBW {n:Net}(hn:NetOk n):∀ (k d:Nat) (g:Nat->Bool) (w:web),k < d->k<=3->MpOk n g w ->
    (zhZ d).P w (k:Int)=true/\((zhZ d).S w (k:Int)).2=w/\∃ B,ztv ((zhZ d).S w (k:Int)).1 B/\Fnd n k g B
  | _,0,_,_,h,_,_=>absurd h (dqW _)
  | k,d+1,g,w,hd,hk,hw=>by
    show @zFF ⟨zhZ d⟩ w (k:Int)=true/\(@ztm ⟨zhZ d⟩ w (k:Int)).2=w/\∃ B,ztv (@ztm ⟨zhZ d⟩ w (k:Int)).1 B/\_
    obtain⟨c1,c2⟩:=hw.sd hn
    have hlen:n.Ties.len<=1000000:=by have:=hn.len;omega
    obtain⟨c3,c4⟩:=hw.keys hlen
    have c5:decide (w.out.n<=1000000/\(zlS w.out.F 9223372036854775808 0 w.out.n).isSome=true)=true:=dqT ⟨c3,by rw[c4];rfl⟩
    have hkl:zoZ w.out.F w.out.n=(keysB n.Ties.len g).map λ (j:Nat)=>(j:Int):=by unfold zoZ;rw[c4];rfl
    unfold zFF ztm
    rw[c1,c2,dqT (show true=true from rfl),Bool.true_and]
    cases hs:sdF n g
    · simp only [Bool.not_false, Bool.not_true, dqB]
      cases k with
      | zero =>
        have hz:(((0:Nat):Int) == (0:Int))=true:=rfl
        rw[hz]
        simp only[dqA]
        refine⟨trivial,trivial,[],⟨rfl,λ i h=>absurd h (dqW _)⟩,Nat.zero_le _,λ L hL=>(by cases hL),λ X hX hsX hl=>?_⟩
        have e:keysB n.Ties.len g=keysB n.Ties.len X:=(zoF hX).eq_of_length_le hl
        rw[zsC hn g X λ j hj=>by
          have h1:j∈keysB n.Ties.len g↔j∈keysB n.Ties.len X:=by rw[e]
          rw[zfN,zfN] at h1
          cases hx:X j <;> cases hg:g j <;> simp[hj,hx,hg] at h1 ⊢] at hs
        rw[hs] at hsX;cases hsX
      | succ k =>
        have hz:(((k+1:Nat):Int) == (0:Int))=false:=by simp;omega
        rw[hz]
        simp only[dqB]
        have hwn:NetOk w.Net:=by rw[hw.net];exact hn
        have hno : ¬ zbu (We w):=by
          have e:We w=We (wg n g):=by unfold We;rw[hw.ws]
          rw[e];exact zyD hn hs
        obtain⟨d1,a,L,_,d3,d4,d5,d6⟩:=zIz w hwn hno
        rw[hw.ws] at d4
        have hLt:∀ y∈L,∃ j,j < n.Ties.len/\g j=false/\y.Use.Tie=(j:Int):=λ y hy=>by
          obtain⟨j,h1,h2,h3,_⟩:=tie_of hn (zq6 d4 y hy)
          exact⟨j,h1,h2,h3⟩
        have key := @zBV ⟨zhZ d⟩ n k (by omega) (fun g' w' hw' => zBW hn k d g' w' (by omega) (by omega) hw') g w hw L d3 hLt d6 L.length 0 Fuel ⟨0, fun _ => default⟩ [] (by omega) (by unfold Fuel; omega) ⟨rfl, fun i h => absurd h (dqW _)⟩
          ⟨by simp,λ M hM=>(by cases hM),λ X _ _ _ ⟨q,_,h,_⟩=>(by omega)⟩
        rw[d1,dqT (show true=true from rfl),Bool.true_and]
        obtain⟨B,k1,k2⟩:=key.2.2
        refine⟨key.1,key.2.1,B,k1,?_,k2.sub,λ X hX hsX hl=>?_⟩
        · rw [Nat.pow_succ, Nat.mul_comm]
          exact dqE k2.len (dqw _ d6)
        · obtain ⟨y, hy, hyX⟩ := hit hn d4 d5 hsX
          obtain⟨q,hq,rfl⟩:=List.getElem_of_mem hy
          exact k2.all X hX hsX hl ⟨q,hq,hq,hyX⟩
    · simp only [Bool.not_false, Bool.not_true, dqA]
      rw[c5]
      refine⟨rfl,trivial,[keysB n.Ties.len g],⟨rfl,λ i h=>?_⟩,by simpa using Nat.one_le_pow k 40 (by omega),λ L hL=>?_,λ X hX _ _=>⟨g,hX,List.mem_singleton_self _⟩⟩
      · have hi : i = 0 := by have : i < 1 := h; omega
        subst hi
        show IsP (⟨w.out.n,λ i=>(zoZ w.out.F w.out.n).getD i 0⟩:Sl Int) _
        rw[hkl]
        refine⟨by show w.out.n=_;rw[hw.num,List.length_map];rfl,λ q hq=>?_⟩
        show (((keysB n.Ties.len g).map λ (j:Nat)=>(j:Int)).getD q 0)=_
        have hq':q < ((keysB n.Ties.len g).map λ (j:Nat)=>(j:Int)).length:=hq
        rw[List.getD_eq_getElem?_getD,dqD hq'];rfl
      · rw [dqi] at hL; subst hL
        exact⟨g,hs,rfl,Nat.le_add_right _ _⟩
end Go.Proofs
namespace Go.Proofs
open Go Go.Pm
set_option maxRecDepth 100000
set_option linter.unusedVariables false
theorem zFx (x y:Int):ztu x y=if x < y then -1 else if y < x then 1 else 0:=by
 have e1:zzZ x=false:=by unfold zzZ;exact bne_self_eq_false _
 have e2:zzZ y=false:=by unfold zzZ;exact bne_self_eq_false _
 unfold ztu
 rw[e1,e2]
 simp only[dqB]
 by_cases h:x < y
 ·rw[dqT h,dqP h,dqA]
 ·rw [dqF h, dqG h, dqB]
  by_cases h2:y < x
  ·rw[dqT (show x > y from h2),dqP h2,dqA]
  ·rw[dqF (show ¬ x > y from h2),dqG h2,dqB]
end Go.Proofs
namespace Go.Proofs
open Go Go.Pm
set_option maxRecDepth 100000
set_option linter.unusedVariables false
theorem zoM : ∀ {A B C : List Nat}, ltL A B → ltL B C → ltL A C
  | a :: A,b :: B,c :: C,h,h'=>by
    simp only[ltL] at h h' ⊢
    rcases h with h | ⟨rfl,h⟩
    · rcases h' with h' | ⟨rfl, h'⟩
      · exact .inl (by omega)
      · exact .inl h
    · rcases h' with h' | ⟨rfl, h'⟩
      · exact .inl h'
      · exact .inr ⟨rfl,zoM h h'⟩
  | [],_,_,h,_=>by simp[ltL] at h
  | _ :: _,[],_,h,_=>by simp[ltL] at h
  | _ :: _,_ :: _,[],_,h'=>by simp[ltL] at h'
abbrev toI (L:List Nat):List Int:=L.map λ (j:Nat)=>(j:Int)
theorem znp {v:Sl Int}{L:List Nat}(h:IsP v (toI L)) {q:Nat}(hq:q < L.length):v.get q=(L[q]:Int):=by
 rw[h.2 q (by simpa using hq)];simp
theorem zIE {a b:Sl Int}{A L:List Nat}(ha:IsP a (toI A)) (hb:IsP b (toI L)) (hAL:A.length=L.length) (hl:L.length<=1000000):p71 a b=true/\(s71 a b < 0↔ltL A L):=by
 have h1:a.len=A.length:=by rw[ha.1];simp
 have h2:b.len=L.length:=by rw[hb.1];simp
 have key:∀ (m i fu:Nat),i+m=A.length->m < fu->zh3 fu a b a (a.len:Int) (i:Int)=true/\(zh2 fu a b a (a.len:Int) (i:Int) < 0↔ltL (A.drop i) (L.drop i)):=by
  intro m
  induction m with
  | zero =>
   intro i fu hi hf
   cases fu with
   | zero=>omega
   | succ fu =>
    have hd:decide ((i:Int) < (a.len:Int))=false:=dqF (by omega)
    have hd2:decide ((a.len:Int) < (b.len:Int))=false:=dqF (by omega)
    show zh1 (zh3 fu) a b a (a.len:Int) (i:Int)=true/\(zh0 (zh2 fu) a b a (a.len:Int) (i:Int) < 0↔_)
    unfold zh1 zh0
    rw[hd,hd2]
    simp only[dqB]
    rw[List.drop_of_length_le (by omega),List.drop_of_length_le (by omega)]
    simp[ltL]
  | succ m ih =>
   intro i fu hi hf
   cases fu with
   | zero=>omega
   | succ fu =>
    obtain⟨c1,c2⟩:=ih (i+1) fu (by omega) (by omega)
    have hd:decide ((i:Int) < (a.len:Int))=true:=dqT (by omega)
    have hd2:decide ((i:Int) >= (b.len:Int))=false:=dqF (by omega)
    have b1:decide ((0:Int)<=(i:Int)/\(i:Int) < (a.len:Int))=true:=dqT ⟨by omega,by omega⟩
    have b2:decide ((0:Int)<=(i:Int)/\(i:Int) < (b.len:Int))=true:=dqT ⟨by omega,by omega⟩
    have ei:w64 ((i:Int)+(1:Int))=((i+1:Nat):Int):=by rw[zbt (by omega) (by omega)];omega
    have ga:a.get ((i:Int)).toNat=(A[i]'(by omega):Int):=znp ha (by omega)
    have gb:b.get ((i:Int)).toNat=(L[i]'(by omega):Int):=znp hb (by omega)
    show zh1 (zh3 fu) a b a (a.len:Int) (i:Int)=true/\(zh0 (zh2 fu) a b a (a.len:Int) (i:Int) < 0↔_)
    generalize zh2 fu=S0 at c2 ⊢
    generalize zh3 fu=P0 at c1 ⊢
    unfold zh1 zh0 zp4 zp3 zp2 zp1
    rw[hd,hd2,b1,b2,ga,gb,ei,zFx]
    simp only[dqA,dqB,Bool.true_and]
    rw[dqR (show i < A.length by omega),dqR (show i < L.length by omega)]
    simp only[ltL]
    by_cases h3:(A[i]'(by omega)) < (L[i]'(by omega))
    ·rw [dqP (by omega)]
     refine⟨rfl,⟨λ _=>.inl h3,λ _=>show (-1:Int) < 0 by decide⟩⟩
    ·rw [dqG (by omega)]
     by_cases h4:(L[i]'(by omega)) < (A[i]'(by omega))
     ·rw [dqP (by omega)]
      refine⟨rfl,⟨λ h=>absurd (show (1:Int) < 0 from h) (by decide),λ h=>?_⟩⟩
      rcases h with h | ⟨h,_⟩ <;> omega
     ·rw [dqG (by omega)]
      refine⟨c1,?_⟩
      show S0 a b a (a.len:Int) ((i+1:Nat):Int) < 0↔_
      rw[c2]
      exact⟨λ h=>.inr ⟨by omega,h⟩,λ h=>by rcases h with h | ⟨_,h⟩;omega;exact h⟩
 have:=key A.length 0 Fuel (by omega) (by unfold Fuel;omega)
 rw[List.drop_zero,List.drop_zero] at this
 exact this
theorem zIF {v : Sl (Sl Int)} {A : List (List Nat)} {c : Nat} (hv : ztv v A) (hne : A ≠ []) (hc : ∀ L ∈ A, L.length = c) (hc1 : c ≤ 1000000) (hA : A.length ≤ 1000000) :
  p70 v=true/\∃ R∈A,IsP (s70 v) (toI R)/\∀ M∈A,¬ ltL M R:=by
 have hl:=hv.1
 have hpos:0 < A.length:=List.length_pos_iff.2 hne
 have key:∀ (m i fu:Nat) (x:Sl Int) (R:List Nat),i+m=A.length->m < fu->R∈A->IsP x (toI R)->(∀ q (h:q < A.length),q < i->¬ ltL A[q] R) ->
   zh7 v fu x (i:Int)=true/\∃ R∈A,IsP (zh6 v fu x (i:Int)) (toI R)/\∀ M∈A,¬ ltL M R:=by
  intro m
  induction m with
  | zero =>
   intro i fu x R hi hf hR hx hq
   cases fu with
   | zero=>omega
   | succ fu =>
    have hd:decide ((i:Int) < (v.len:Int))=false:=dqF (by omega)
    show zh5 v (zh7 v fu) x (i:Int)=true/\∃ R∈A,IsP (zh4 v (zh6 v fu) x (i:Int)) (toI R)/\_
    unfold zh5 zh4
    rw[hd]
    refine⟨rfl,R,hR,hx,λ M hM=>?_⟩
    obtain⟨q,hq1,rfl⟩:=List.getElem_of_mem hM
    exact hq q hq1 (by omega)
  | succ m ih =>
   intro i fu x R hi hf hR hx hq
   cases fu with
   | zero=>omega
   | succ fu =>
    have hil:i < A.length:=by omega
    have hd:decide ((i:Int) < (v.len:Int))=true:=dqT (by omega)
    have b1:decide ((0:Int)<=(i:Int)/\(i:Int) < (v.len:Int))=true:=dqT ⟨by omega,by omega⟩
    have ei:w64 ((i:Int)+(1:Int))=((i+1:Nat):Int):=by rw[zbt (by omega) (by omega)];omega
    have hg:=hv.2 i hil
    obtain⟨c1,c2⟩:=zIE hg hx (by rw[hc _ (List.getElem_mem hil),hc _ hR]) (by rw[hc _ hR];exact hc1)
    have ih0:=ih (i+1) fu x R (by omega) (by omega) hR hx
    have ih1:=ih (i+1) fu (v.get i) A[i] (by omega) (by omega) (List.getElem_mem hil) hg
    show zh5 v (zh7 v fu) x (i:Int)=true/\∃ R∈A,IsP (zh4 v (zh6 v fu) x (i:Int)) (toI R)/\_
    generalize zh6 v fu=S0 at ih0 ih1 ⊢
    generalize zh7 v fu=P0 at ih0 ih1 ⊢
    unfold zh5 zh4 zp7 zp6
    rw[show ((i:Int)).toNat=i from rfl,hd,b1,ei,c1]
    simp only[dqA,Bool.true_and,decide_true]
    by_cases h:ltL A[i] R
    ·rw [dqT (c2.2 h)]
     refine ih1 λ q h1 h2 h3=>?_
     by_cases e:q=i
     ·subst e;exact zkL h3 h3
     ·exact hq q h1 (by omega) (zoM h3 h)
    ·rw [dqF (fun e => h (c2.1 e))]
     refine ih0 λ q h1 h2=>?_
     by_cases e:q=i
     ·subst e;exact h
     ·exact hq q h1 (by omega)
 have hd:decide ((v.len:Int) < (1:Int))=false:=dqF (by omega)
 have b0:decide ((0:Int)<=(0:Int)/\(0:Int) < (v.len:Int))=true:=dqT ⟨by omega,by omega⟩
 have k0:=key (A.length - 1) 1 Fuel (v.get 0) A[0] (by omega) (by unfold Fuel;omega) (List.getElem_mem hpos) (hv.2 0 hpos) λ q h1 h2 h3=>by
  have:q=0:=by omega
  subst this;exact zkL h3 h3
 unfold p70 s70 zp9 zp8
 rw[hd,b0]
 exact k0
end Go.Proofs
namespace Go.Proofs
open Go Go.Pm
set_option maxRecDepth 100000
set_option linter.unusedVariables false
structure Snd' (n : Net) (M : List Nat) : Prop where
  inc:M.Pairwise (· < ·)
  lt:∀ x∈M,x < n.Ties.len
  sd:sdF n (λ j=>decide (j∈M))=true
structure Lst (n : Net) (R : List Nat) : Prop where
  snd:Snd' n R
  len:R.length<=3
  min:∀ M,Snd' n M->R.length < M.length\/R.length=M.length/\¬ ltL M R
section
variable {n:Net}(hn:NetOk n)
include hn
theorem ziC:keysB n.Ties.len (λ _=>false)=[]:=by simp[keysB]
theorem zIG {X:Nat->Bool}(h:sdF n X=true):Snd' n (keysB n.Ties.len X) :=
 ⟨ziy X,λ x hx=>(zfN.1 hx).1,by
  rw[zsC hn _ X λ j hj=>?_]
  ·exact h
  ·have : j ∈ keysB n.Ties.len X ↔ X j = true := by rw [zfN]; exact ⟨fun h => h.2, fun h => ⟨hj, h⟩⟩
   cases hX:X j
   ·exact dqF λ h=>by rw[this,hX] at h;cases h
   ·exact dqT (this.2 hX)⟩
theorem zkT {t:Nat}{A:List (List Nat)}(hA:Fnd n t (λ _=>false) A) (hno:∀ M,Snd' n M->t<=M.length){L:List Nat}(hL:L∈A):Snd' n L/\L.length=t:=by
 obtain⟨X,h2,rfl,h4⟩:=hA.sub L hL
 have hs:=zIG hn h2
 have:=hno _ hs
 rw[ziC hn] at h4
 simp only[dqL] at h4
 exact⟨hs,by omega⟩
theorem zyF {t:Nat}{A:List (List Nat)}(hA:Fnd n t (λ _=>false) A){M:List Nat}(hM:Snd' n M) (hl:M.length<=t):∃ L∈A,L.Sublist M:=by
 have e:=zAo (N:=n.Ties.len) hM.inc hM.lt
 obtain⟨Y,h1,h2⟩:=hA.all (λ j=>decide (j∈M)) (λ j _ h=>by cases h) hM.sd (by rw[e,ziC hn];simpa using hl)
 have:=zoF (N:=n.Ties.len) h1
 rw[e] at this
 exact⟨_,h2,this⟩
theorem zIH:MpOk n (λ _=>false) (⟨⟨n.Nodes,n.Ties⟩,⟨0,λ _=>none⟩⟩:web):=⟨rfl,λ j=>by simp,by rw[ziC hn];rfl⟩
theorem zsD:∀ (m t fu:Nat),t+m=4->m < fu->(∀ M,Snd' n M->t<=M.length) ->
    zkA fu (t:Int) n.Nodes n.Ties 0 (λ _=>none)=true /\
    ((∃ R, IsP (zdQ fu (t : Int) n.Nodes n.Ties 0 (fun _ => none)).1 (toI R) ∧ (zdQ fu (t : Int) n.Nodes n.Ties 0 (fun _ => none)).2 = 0 ∧ Lst n R) ∨
     ((zdQ fu (t:Int) n.Nodes n.Ties 0 (λ _=>none)).1.len=0/\(zdQ fu (t:Int) n.Nodes n.Ties 0 (λ _=>none)).2=8/\∀ M,Snd' n M->3 < M.length))
  | _,_,0,_,h,_=>absurd h (dqW _)
  | 0,t,fu+1,ht,_,hno=>by
    have ht:t=4:=by omega
    subst ht
    exact⟨rfl,.inr ⟨rfl,rfl,λ M hM=>hno M hM⟩⟩
  | m+1,t,fu+1,ht,hf,hno=>by
    obtain⟨c1,c2,A,c3,hA⟩:=zBW hn t 64 (λ _=>false) _ (by omega) (by omega) (zIH hn)
    have hlen:=hA.len
    have h40:(40:Nat) ^ t<=64000:=dqE (Nat.pow_le_pow_right (by omega) (by omega:t<=3)) (by decide)
    have hd:decide ((t:Int) < (4:Int))=true:=dqT (by omega)
    have et:w64 ((t:Int)+(1:Int))=((t+1:Nat):Int):=by rw[zbt (by omega) (by omega)];omega
    have nxt:=zsD m (t+1) fu (by omega) (by omega)
    show zmZ (zkA fu) (t:Int) n.Nodes n.Ties 0 (λ _=>none)=true /\
      ((∃ R, IsP (zgG (zdQ fu) (t : Int) n.Nodes n.Ties 0 (fun _ => none)).1 (toI R) ∧ (zgG (zdQ fu) (t : Int) n.Nodes n.Ties 0 (fun _ => none)).2 = 0 ∧ Lst n R) ∨
       ((zgG (zdQ fu) (t:Int) n.Nodes n.Ties 0 (λ _=>none)).1.len=0/\(zgG (zdQ fu) (t:Int) n.Nodes n.Ties 0 (λ _=>none)).2=8/\∀ M,Snd' n M->3 < M.length))
    generalize zdQ fu=S0 at nxt ⊢
    generalize zkA fu=P0 at nxt ⊢
    unfold zmZ zgG
    have c1:p69 (⟨⟨n.Nodes,n.Ties⟩,⟨0,λ _=>none⟩⟩:web) (t:Int)=true:=c1
    have c2:(s69 (⟨⟨n.Nodes,n.Ties⟩,⟨0,λ _=>none⟩⟩:web) (t:Int)).2=⟨⟨n.Nodes,n.Ties⟩,⟨0,λ _=>none⟩⟩:=c2
    have c3:ztv (s69 (⟨⟨n.Nodes,n.Ties⟩,⟨0,λ _=>none⟩⟩:web) (t:Int)).1 A:=c3
    rw[c1,c2,hd,et]
    generalize (s69 (⟨⟨n.Nodes,n.Ties⟩,⟨0,λ _=>none⟩⟩:web) (t:Int)).1=v at c3 ⊢
    simp only[dqA,decide_true,Bool.true_and]
    have hvl:=c3.1
    by_cases hz:A=[]
    · rw [hz] at hvl
      have hd2:decide ((v.len:Int) > (0:Int))=false:=dqF (by rw[hvl];simp)
      rw[hd2]
      simp only[dqB]
      refine nxt λ M hM=>?_
      have h1:=hno M hM
      refine Nat.lt_of_le_of_ne h1 λ e=>?_
      obtain⟨L,hL,_⟩:=zyF hn hA hM (Nat.le_of_eq e.symm)
      rw[hz] at hL;cases hL
    · have hpos := List.length_pos_iff.2 hz
      have hd2:decide ((v.len:Int) > (0:Int))=true:=dqT (by omega)
      obtain⟨d1,R,hR,hi,hmin⟩:=zIF c3 hz (λ L hL=>(zkT hn hA hno hL).2) (by omega) (by omega)
      rw[hd2,d1]
      refine⟨rfl,.inl ⟨R,hi,rfl,(zkT hn hA hno hR).1,by have:=(zkT hn hA hno hR).2;omega,λ M hM=>?_⟩⟩
      have hRt:=(zkT hn hA hno hR).2
      by_cases h:M.length<=t
      · have h1 := hno M hM
        obtain⟨L,hL,hsub⟩:=zyF hn hA hM h
        have:L=M:=hsub.eq_of_length_le (by rw[(zkT hn hA hno hL).2];exact h)
        subst this
        exact .inr ⟨by omega,hmin L hL⟩
      · exact .inl (by omega)
theorem zII (hc:s67 n=true):p22 n=true/\((∃ R,IsP (s22 n).1 (toI R)/\(s22 n).2=0/\Lst n R)\/((s22 n).1.len=0/\(s22 n).2=8/\∀ M,Snd' n M->3 < M.length)):=by
 have hl:=hn.len
 have h:=(zqW n (by omega)).1
 have key:=zsD hn 4 0 Fuel (by omega) (by unfold Fuel;omega) λ M _=>Nat.zero_le _
 unfold p22 s22
 rw[h,hc]
 exact key
end
end Go.Proofs
namespace Go.Proofs
open Go Go.Pm
set_option maxRecDepth 100000
set_option linter.unusedVariables false
attribute [local irreducible] Go.Pm.vcFun Go.Pm.vc Go.Pm.vcIter
end Go.Proofs
namespace Go.Proofs
open Go Go.Pm
set_option maxRecDepth 100000
set_option linter.unusedVariables false
end Go.Proofs
namespace Go.Proofs
open Go Go.Pm
set_option maxRecDepth 100000
set_option linter.unusedVariables false
attribute [local irreducible] Go.Pm.vcFun Go.Pm.vc Go.Pm.vcIter
end Go.Proofs
namespace Go.Proofs
open Go Go.Pm
set_option maxRecDepth 100000
set_option linter.unusedVariables false
structure Rv (N : Nat) (v : Sl Int) (d : zbX) (B : Int) : Prop where
  len:v.len=N
  at_:∀ i,i < N->d i=some (v.get i)
  b:∀ i,i < N->-B<=v.get i/\v.get i<=0
end Go.Proofs
namespace Go.Proofs
open Go Go.Pm
set_option maxRecDepth 100000
set_option linter.unusedVariables false
attribute [local irreducible] Go.Pm.vcFun Go.Pm.vc Go.Pm.vcIter
end Go.Proofs
namespace Go.Proofs
open Go Go.Pm
set_option maxRecDepth 100000
set_option linter.unusedVariables false
section
variable (N many:Nat) (hN:N<=210)
include hN
end
section
variable {n:Net}(hn:NetOk n)
include hn
theorem zFy {m:Net}{M:List Nat}(h:Pick n m (λ j=>decide ((j:Int)∈toI M))):NetOk m/\(zbu (En m)↔sdF n (λ j=>decide (j∈M))=true):=by
  have e:(λ j:Nat=>decide ((j:Int)∈toI M))=λ j=>decide (j∈M):=by
    funext j
    have h:(j:Int)∈toI M↔j∈M:=by
      rw[dqz]
      exact ⟨fun ⟨a, ha, e⟩ => by have : a = j := by omega
                                  subst this;exact ha,λ h=>⟨j,h,rfl⟩⟩
    rw[decide_eq_decide];exact h
  rw[e] at h
  refine⟨Pick.net h hn,?_⟩
  rw[zlL hn]
  exact⟨λ hN=>zdT (λ e he=>(h.edges hn e).2 he) hN,λ hN=>zdT (λ e he=>(h.edges hn e).1 he) hN⟩
end
end Go.Proofs
namespace Go.Proofs
open Go Go.Pm
set_option maxRecDepth 100000
set_option linter.unusedVariables false
section
variable {n:Net}(hn:NetOk n) (hl:n.Ties.len<=210)
include hn hl
theorem zBX {l:Sl Int}{M:List Nat}(h:IsP l (toI M)) (hM:M.length<=1000000):p27 n l=true/\p26 (s27 n l)=true/\(((s26 (s27 n l)).2=0/\sdF n (λ j=>decide (j∈M))=true)\/((s26 (s27 n l)).2=5/\sdF n (λ j=>decide (j∈M))=false)):=by
 obtain⟨a1,a2⟩:=zIC n hl h (by simpa using hM)
 obtain⟨b1,b2⟩:=zFy hn a2
 have hml:(s27 n l).Ties.len<=210:=by have:=b1.len;omega
 refine⟨a1,?_⟩
 by_cases hN:zbu (En (s27 n l))
 ·obtain ⟨c1, v, c2, _⟩ := zyr hml b1 hN
  rw[c1,c2]
  exact⟨rfl,.inl ⟨rfl,b2.1 hN⟩⟩
 ·obtain ⟨c1, c2⟩ := zq4 hml b1 hN
  rw[c1,c2]
  exact⟨rfl,.inr ⟨rfl,Bool.eq_false_iff.2 λ e=>hN (b2.2 e)⟩⟩
theorem zsE {R M:List Nat}{l o:Sl Int}(hR:Lst n R) (hlR:IsP l (toI R)) (hoM:IsP o (toI M)) (f:Int) (hf:(f=0/\Snd' n M)\/f=5):∀ (m i fu:Nat),i+m=R.length->m < fu ->
  zsm n l o f fu (i:Int)=true/\zsl n l o f fu (i:Int)=true
 | _,_,0,_,h=>absurd h (dqW _)
 | 0,i,fu+1,hi,_=>by
  have hll:l.len=R.length:=by rw[hlR.1];simp
  have hol:o.len=M.length:=by rw[hoM.1];simp
  have hd:decide ((i:Int) < (l.len:Int))=false:=dqF (by omega)
  have h3:=hR.len
  obtain⟨a1,a2,a3⟩:=zBX hn hl hlR (by omega)
  have a3:(s26 (s27 n l)).2=0:=by
   rcases a3 with a3 | a3
   ·exact a3.1
   ·rw[hR.snd.sd] at a3;cases a3.2
  show zlH n l o f _ (i:Int)=true/\zlG n l o f _ (i:Int)=true
  unfold zlH zlG zxY zxX zqU
  rw[hd,a1,a2,a3]
  refine⟨rfl,?_⟩
  rcases hf with ⟨rfl,hM⟩ | rfl
  ·have : R.length ≤ M.length := by rcases hR.min _ hM with h | h <;> omega
   rw[dqT (show (o.len:Int) >= (l.len:Int) by omega)]
   rfl
  ·rfl
 | m+1,i,fu+1,hi,hf2=>by
  have hll:l.len=R.length:=by rw[hlR.1];simp
  have hil:i < R.length:=by omega
  have h3:=hR.len
  have hd:decide ((i:Int) < (l.len:Int))=true:=dqT (by omega)
  have b1:decide ((0:Int)<=(i:Int)/\(i:Int) < (l.len:Int))=true:=dqT ⟨by omega,by omega⟩
  have ei:w64 ((i:Int)+(1:Int))=((i+1:Nat):Int):=by rw[zbt (by omega) (by omega)];omega
  have g:=znp hlR hil
  have hlt:=hR.snd.lt _ (List.getElem_mem hil)
  have nxt:=zsE hR hlR hoM f hf m (i+1) fu (by omega) (by omega)
  show zlH n l o f (zsm n l o f fu) (i:Int)=true/\zlG n l o f (zsl n l o f fu) (i:Int)=true
  unfold zlH zlG
  rw[hd,b1,show ((i:Int)).toNat=i from rfl,g,ei,dqF (show ¬ ((R[i]:Nat):Int) < 0 by omega),dqF (show ¬ ((R[i]:Nat):Int) >= (n.Ties.len:Int) by omega)]
  by_cases h0:i=0
  ·rw [dqF (show ¬ (i : Int) > (0 : Int) by omega)]
   exact nxt
  ·have e1 : w64 ((i : Int) - (1 : Int)) = ((i - 1 : Nat) : Int) := by rw [zbt (by omega) (by omega)]; omega
   have g2:=znp hlR (show i - 1 < R.length by omega)
   have hinc:=List.pairwise_iff_getElem.1 hR.snd.inc (i - 1) i (by omega) hil (by omega)
   rw[dqT (show (i:Int) > (0:Int) by omega),e1,show (((i - 1:Nat):Int)).toNat=i - 1 from rfl,g2,
    dqT (show (0:Int)<=((i - 1:Nat):Int)/\((i - 1:Nat):Int) < (l.len:Int) by omega),dqF (show ¬ ((R[i]:Nat):Int)<=((R[i - 1]'(by omega):Nat):Int) by omega)]
   exact nxt
theorem zIJ (bits:Int) (hs:s67 n=true):zsq n bits=true/\zsp n bits=true:=by
  obtain⟨c1,c2⟩:=zII hn hs
  unfold zsq zsp zya zx9 zx8 zx7
  rw[c1]
  generalize s22 n=x at c2 ⊢
  obtain ⟨o, ho, h1, h2⟩ := zoK (α := Int) (β := Bool) (fun j => (j : Int)) (fun i : Nat => ztx .i64 (ztw .i64 bits (i : Int)) (1:Int) == (1:Int)) (n := n.Ties.len) (E := fun v => zsn n x.1 x.2 v) (EP := fun v => zso n x.1 x.2 v)
    (lpS:=λ k v i=>zkG n bits x.1 x.2 k i v) (lpP:=λ k v i=>zkH n bits x.1 x.2 k i v)
    (λ k i v hi hv=>by
      show zlI n bits x.1 x.2 (zkG n bits x.1 x.2 k) (i:Int) v=zkG n bits x.1 x.2 k (w64 ((i:Int)+(1:Int))) (cond (ztx .i64 (ztw .i64 bits (i:Int)) (1:Int) == (1:Int)) ⟨v.len+1,zfn v.len v.get (λ _=>(i:Int))⟩ v)
      generalize zkG n bits x.1 x.2 k=S3
      unfold zlI
      rw[dqT (show (i:Int) < (n.Ties.len:Int) by omega),dqA]
      generalize (ztx .i64 (ztw .i64 bits (i:Int)) (1:Int) == (1:Int))=b
      cases b <;> rfl)
    (λ k v=>by
      show zlI n bits x.1 x.2 _ (n.Ties.len:Int) v=_
      unfold zlI
      rw[dqF (show ¬ (n.Ties.len:Int) < (n.Ties.len:Int) by omega),dqB])
    (λ k i v hi hv=>by
      show zlJ n bits x.1 x.2 (zkH n bits x.1 x.2 k) (i:Int) v=zkH n bits x.1 x.2 k (w64 ((i:Int)+(1:Int))) (cond (ztx .i64 (ztw .i64 bits (i:Int)) (1:Int) == (1:Int)) ⟨v.len+1,zfn v.len v.get (λ _=>(i:Int))⟩ v)
      generalize zkH n bits x.1 x.2 k=P3
      unfold zlJ
      rw[dqT (show (i:Int) < (n.Ties.len:Int) by omega),dqA,dqT (show (0:Int)<=(i:Int) by omega),dqT (show (v.len+1) * 8<=140737488355328/\v.len+1<=9223372036854775807 by omega)]
      generalize (ztx .i64 (ztw .i64 bits (i:Int)) (1:Int) == (1:Int))=b
      cases b <;> rfl)
    (λ k v=>by
      show zlJ n bits x.1 x.2 _ (n.Ties.len:Int) v=_
      unfold zlJ
      rw[dqF (show ¬ (n.Ties.len:Int) < (n.Ties.len:Int) by omega),dqB]) (by omega)
  have h1:zkH n bits x.1 x.2 Fuel 0 ⟨0,λ _=>default⟩=_:=h1
  have h2:zkG n bits x.1 x.2 Fuel 0 ⟨0,λ _=>default⟩=_:=h2
  rw[h1,h2]
  generalize hMd:(List.range n.Ties.len).filter (λ i:Nat=>ztx .i64 (ztw .i64 bits (i:Int)) (1:Int) == (1:Int))=M at ho
  have hMi:M.Pairwise (· < ·):=by rw[<- hMd];exact List.Pairwise.filter _ List.pairwise_lt_range
  have hMlt:∀ x∈M,x < n.Ties.len:=λ x hx=>by rw[<- hMd] at hx;exact List.mem_range.1 (List.mem_filter.1 hx).1
  have hMl:M.length<=210:=by
    have:=List.length_filter_le (λ i:Nat=>ztx .i64 (ztw .i64 bits (i:Int)) (1:Int) == (1:Int)) (List.range n.Ties.len)
    rw[hMd,List.length_range] at this;omega
  have ho:IsP o (toI M):=ho
  have hol:o.len=M.length:=by rw[ho.1];simp
  obtain⟨a1,a2,a3⟩:=zBX hn hl ho (by omega)
  unfold zso zsn zx6 zx5
  rw[a1,a2]
  generalize (s26 (s27 n o)).2=f at a3 ⊢
  rcases c2 with ⟨R,e1,e2,e3⟩ | ⟨e1,e2,e3⟩
  · have hxl : x.1.len = R.length := by rw [e1.1]; simp
    have h3:=e3.len
    have key:=zsE hn hl e3 e1 ho f (by
      rcases a3 with ⟨a,b⟩ | ⟨a,b⟩
      · exact .inl ⟨a,hMi,hMlt,b⟩
      · exact .inr a) R.length 0 Fuel (by omega) (by unfold Fuel;omega)
    unfold zx4 zx3 zx2 zx1 zx0 zxZ
    rw[e2,dqF (show ¬ (x.1.len:Int) > (3:Int) by omega)]
    exact key
  · rw [e2]
    rcases a3 with ⟨rfl,b⟩ | ⟨rfl,b⟩
    · have := e3 M ⟨hMi, hMlt, b⟩
      rw[dqT (show (o.len:Int) > (3:Int) by omega)]
      exact⟨rfl,rfl⟩
    · exact⟨rfl,rfl⟩
end
theorem fewest_true (n:Net) (bits:Int):p4 n bits=true/\s4 n bits=true:=by
 unfold p4 s4
 by_cases h:s20 n 14=true
 ·have hl := zyd h (by omega)
  rw[h]
  obtain⟨b1,b2⟩:=zIg n (by omega)
  rw[show (!true)=false from rfl,dqB,dqB,b1,b2,dqT (show (0:Int)<=(n.Ties.len:Int) by omega)]
  cases hs:s67 n
  ·exact⟨rfl,rfl⟩
  ·have hn := (zqW n (by omega)).2.1 hs
   obtain⟨k1,k2⟩:=zIJ hn hl bits hs
   have key:∀ t:Bool,zkJ n bits t=true/\zkI n bits t=true:=λ t=>by
    unfold zkJ zkI
    cases t
    ·exact⟨k1,k2⟩
    ·exact⟨rfl,rfl⟩
   cases decide (bits < (0:Int))
   ·exact key (decide (bits >= (zFJ .i64 (1:Int) (n.Ties.len:Int))))
   ·exact key true
 ·rw [Bool.eq_false_iff.2 h]
  exact⟨rfl,rfl⟩
end Go.Proofs
