/- Part 7 of what the proof rests on: a machine that runs functions of the program on pure values, proved sound; the functions that the law reaches, and what they compute. -/
import Derived.Test.YtedhjaaikeakoaaDoorQ6
set_option linter.all false
namespace Go.Proofs
open Go Go.Pm
set_option maxRecDepth 100000
set_option linter.unusedVariables false
def Rh (N:Nat) (T:Tab) (d:zbG) (B:Int):Prop:=∀ v,v < N->(T (v * 2)=zB6 (d v)/\T (v * 2+1)=0)/\∀ x,d v=some x->-B<=x/\x<=B
def okY (node:Int) (y:step):Bool:=decide (node<=y.from_) && decide (node<=y.to)
def hF (w:web) (node:Int):List Ed:=((Ws w).filter (okY node)).map edQ
theorem zKO (x y:Int):nvr x y=decide ((x,y)=((1000000000000:Int),(0:Int))):=zB3 x y
theorem zDD {N:Nat}{T:Tab}{d:zbG}{B:Int}(h:Rh N T d B) (hB:B<=100000000000){v:Nat}(hv:v < N):nvr (T (v * 2)) (T (v * 2+1))=(d v).isNone:=by
 obtain⟨⟨h1,h2⟩,h3⟩:=h v hv
 rw[zKO,h1,h2]
 cases hd:d v with
 | none=>exact dqT rfl
 | some x =>
  have:=h3 x hd
  exact dqF (λ e=>by have:=(Prod.mk.inj e).1;have e':x=1000000000000:=this;omega)
theorem zzV (w : web) {N : Nat} (hN : N ≤ 40) (node uses : Int) (S3 : Int → Sl Tab → Sl Tab) (P3 : Int → Sl Tab → Bool) (y : step) (hy : StOk y N) (S4 : Int → Sl Tab → Sl Tab) (P4 : Int → Sl Tab → Bool) (k : Nat) (hk : 1 ≤ k) (hk40 : k ≤ 45) (v : Sl Tab) (hkv : k < v.len) (o d : zbG) (B : Int) (hB : 0 ≤ B ∧ B ≤ 90000000000) (ho : Rh N (v.get (k - 1)) o B) (hd : Rh N (v.get k) d (B + 1000000000)) (c : Bool) :
    ∃ v',zjM S3 w node uses y S4 (k:Int) v=S4 (k:Int) v'/\zjN P3 w node uses y P4 (k:Int) v=P4 (k:Int) v'/\v'.len=v.len/\(∀ j,j ≠ k->v'.get j=v.get j) /\
      Rh N (v'.get k) (cond (okY node y) (jr o (d,c) (edQ y)) (d,c)).1 (B+1000000000):=by
  have f0:=hy.f0;have f1:=hy.f1;have t0:=hy.t0;have t1:=hy.t1;have l0:=hy.l0;have l1:=hy.l1
  have hw:w64 ((k:Int) - (1:Int))=((k - 1:Nat):Int):=by rw[zbo (by omega) (by omega)];omega
  have e1:0+y.to.toNat * 2+0=y.to.toNat * 2:=by omega
  have e2:0+y.from_.toNat * 2+0=y.from_.toNat * 2:=by omega
  have hS : zjM S3 w node uses y S4 (k : Int) v = cond (decide (node ≤ y.from_)) (cond (decide (node ≤ y.to)) (cond (!(nvr (tg 80 (v.get ((w64 ((k : Int) - (1:Int))).toNat)) (0 + y.to.toNat * 2 + 0)) (tg 80 (v.get ((w64 ((k : Int) - (1:Int))).toNat)) (0 + y.to.toNat * 2 + 0 + 1))))
      (S4 (k:Int) (⟨v.len,(setT ((k:Int)).toNat (ts 80 (v.get ((k:Int)).toNat) (0+y.from_.toNat * 2+0) [(zeP (⟨(tg 80 (v.get ((k:Int)).toNat) (0+y.from_.toNat * 2+0)),(tg 80 (v.get ((k:Int)).toNat) (0+y.from_.toNat * 2+0+1))⟩:far) (⟨1,λ _=>(⟨(w64 ((tg 80 (v.get ((w64 ((k:Int) - (1:Int))).toNat)) (0+y.to.toNat * 2+0))+y.length)),(0:Int)⟩:far)⟩:(Sl far))).length,(zeP (⟨(tg 80 (v.get ((k:Int)).toNat) (0+y.from_.toNat * 2+0)),(tg 80 (v.get ((k:Int)).toNat) (0+y.from_.toNat * 2+0+1))⟩:far) (⟨1,λ _=>(⟨(w64 ((tg 80 (v.get ((w64 ((k:Int) - (1:Int))).toNat)) (0+y.to.toNat * 2+0))+y.length)),(0:Int)⟩:far)⟩:(Sl far))).uses]) v.get)⟩:Sl Tab)) (S4 (k:Int) v)) (S4 (k:Int) v)) (S4 (k:Int) v):=rfl
  have hP : zjN P3 w node uses y P4 (k : Int) v = (decide (0 ≤ (w64 ((k : Int) - (1:Int))) ∧ (w64 ((k : Int) - (1:Int))) < (v.len : Int)) && (decide (0 ≤ y.to ∧ y.to < (40 : Int)) && (decide ((w64 ((k : Int) - (1:Int))).toNat < v.len) && cond (decide (node ≤ y.from_)) (cond (decide (node ≤ y.to)) (cond (!(nvr (tg 80 (v.get ((w64 ((k : Int) - (1:Int))).toNat)) (0 + y.to.toNat * 2 + 0)) (tg 80 (v.get ((w64 ((k : Int) - (1:Int))).toNat)) (0 + y.to.toNat * 2 + 0 + 1))))
      (decide (0<=(k:Int)/\(k:Int) < (v.len:Int)) && (decide (0<=y.from_/\y.from_ < (40:Int)) && (decide (((k:Int)).toNat < v.len) && (decide (zCF (⟨(tg 80 (v.get ((k:Int)).toNat) (0+y.from_.toNat * 2+0)),(tg 80 (v.get ((k:Int)).toNat) (0+y.from_.toNat * 2+0+1))⟩:far) (⟨1,λ _=>(⟨(w64 ((tg 80 (v.get ((w64 ((k:Int) - (1:Int))).toNat)) (0+y.to.toNat * 2+0))+y.length)),(0:Int)⟩:far)⟩:(Sl far))=true) && (decide (0<=(k:Int)/\(k:Int) < (v.len:Int)) && (decide (0<=y.from_/\y.from_ < (40:Int)) && (decide (((k:Int)).toNat < v.len) &&
      P4 (k:Int) (⟨v.len,(setT ((k:Int)).toNat (ts 80 (v.get ((k:Int)).toNat) (0+y.from_.toNat * 2+0) [(zeP (⟨(tg 80 (v.get ((k:Int)).toNat) (0+y.from_.toNat * 2+0)),(tg 80 (v.get ((k:Int)).toNat) (0+y.from_.toNat * 2+0+1))⟩:far) (⟨1,λ _=>(⟨(w64 ((tg 80 (v.get ((w64 ((k:Int) - (1:Int))).toNat)) (0+y.to.toNat * 2+0))+y.length)),(0:Int)⟩:far)⟩:(Sl far))).length,(zeP (⟨(tg 80 (v.get ((k:Int)).toNat) (0+y.from_.toNat * 2+0)),(tg 80 (v.get ((k:Int)).toNat) (0+y.from_.toNat * 2+0+1))⟩:far) (⟨1,λ _=>(⟨(w64 ((tg 80 (v.get ((w64 ((k:Int) - (1:Int))).toNat)) (0+y.to.toNat * 2+0))+y.length)),(0:Int)⟩:far)⟩:(Sl far))).uses]) v.get)⟩:Sl Tab)))))))) (P4 (k:Int) v)) (P4 (k:Int) v)) (P4 (k:Int) v)))):=rfl
  rw[hS,hP]
  clear hS hP
  rw[hw,e1,e2,dqN,dqN]
  rw[zhU (F:=v.get (k - 1)) (by omega),zhU (F:=v.get (k - 1)) (by omega),zhU (F:=v.get k) (by omega),zhU (F:=v.get k) (by omega)]
  rw[zDD ho (by omega) (show y.to.toNat < N by omega),(zsR _ _).1,(zsR _ _).2,zHu]
  rw[dqT (show 0<=((k - 1:Nat):Int)/\((k - 1:Nat):Int) < (v.len:Int) by omega),dqT (show 0<=y.to/\y.to < (40:Int) by omega),dqT (show k - 1 < v.len by omega),dqT (show 0<=(k:Int)/\(k:Int) < (v.len:Int) by omega),dqT (show 0<=y.from_/\y.from_ < (40:Int) by omega),dqT hkv]
  simp only[Bool.true_and,decide_true]
  have same:∃ v',S4 (k:Int) v=S4 (k:Int) v'/\P4 (k:Int) v=P4 (k:Int) v'/\v'.len=v.len/\(∀ j,j ≠ k->v'.get j=v.get j)/\Rh N (v'.get k) d (B+1000000000):=⟨v,rfl,rfl,rfl,λ _ _=>rfl,hd⟩
  unfold okY
  cases decide (node<=y.from_)
  · exact same
  cases decide (node<=y.to)
  · exact same
  simp only[dqA,Bool.and_self]
  obtain⟨⟨o1,o2⟩,o3⟩:=ho y.to.toNat (by omega)
  obtain⟨⟨d1,d2⟩,d3⟩:=hd y.from_.toNat (by omega)
  cases hou:o y.to.toNat with
  | none =>
    have hr:jr o (d,c) (edQ y)=(d,c):=by
      unfold jr edQ
      simp only[hou]
    rw[hr]
    simp only[Option.isNone_none,Bool.not_true,dqB]
    exact same
  | some x =>
    have hx:=o3 x hou
    rw[hou] at o1
    have o1':v.get (k - 1) (y.to.toNat * 2)=x:=o1
    simp only[Option.isNone_some,Bool.not_false,dqA]
    rw[o1',zbo (x:=x+y.length) (by omega) (by omega),d2,d1]
    have hlt:decide ((x+y.length < zB6 (d y.from_.toNat))\/(x+y.length=zB6 (d y.from_.toNat)/\(0:Int) < 0))=ltO (x+y.length) (d y.from_.toNat):=by
      cases hdv:d y.from_.toNat with
      | none=>exact dqT (.inl (show x+y.length < 1000000000000 by omega))
      | some z =>
        show decide ((x+y.length < z)\/_)=decide (x+y.length < z)
        exact decide_eq_decide.2 ⟨λ h=>h.elim id λ h=>absurd h.2 (by omega),.inl⟩
    have hr:jr o (d,c) (edQ y)=cond (ltO (x+y.length) (d y.from_.toNat)) (zlg d y.from_.toNat (x+y.length),true) (d,c):=by
      unfold jr edQ
      simp only[hou] <;> rfl
    rw[hr]
    refine⟨_,rfl,rfl,rfl,λ j hj=>?_,?_⟩
    · show setT k _ v.get j = v.get j
      rw[zfm,dqG hj]
    · show Rh N (setT k _ v.get k) _ _
      rw[zfm,dqP rfl]
      show Rh N (ts 80 (v.get k) (y.from_.toNat * 2) [(cond (decide ((x+y.length < zB6 (d y.from_.toNat))\/(x+y.length=zB6 (d y.from_.toNat)/\(0:Int) < 0))) (⟨x+y.length,0⟩:far) (⟨zB6 (d y.from_.toNat),0⟩:far)).length,(cond (decide ((x+y.length < zB6 (d y.from_.toNat))\/(x+y.length=zB6 (d y.from_.toNat)/\(0:Int) < 0))) (⟨x+y.length,0⟩:far) (⟨zB6 (d y.from_.toNat),0⟩:far)).uses]) _ _
      rw[hlt]
      cases hl:ltO (x+y.length) (d y.from_.toNat) with
      | false =>
        simp only[dqB]
        intro q hq
        refine⟨?_,(hd q hq).2⟩
        rw[zju (by omega),zju (by omega)]
        by_cases hqf:q=y.from_.toNat
        · subst hqf
          rw[dqG (by omega),dqP rfl,dqP rfl];exact⟨rfl,rfl⟩
        · rw[dqG (by omega),dqG (by omega),dqG (by omega),dqG (by omega)];exact (hd q hq).1
      | true =>
        simp only[dqA]
        intro q hq
        rw[zju (by omega),zju (by omega)]
        unfold zlg
        by_cases hqf:q=y.from_.toNat
        · subst hqf
          rw[dqG (by omega),dqP rfl,dqP rfl,dqP rfl]
          exact⟨⟨rfl,rfl⟩,λ z hz=>by cases hz;omega⟩
        · rw[dqG (show ¬ q * 2=y.from_.toNat * 2+1 by omega),dqG (show ¬ q * 2=y.from_.toNat * 2 by omega),dqG (show ¬ q * 2+1=y.from_.toNat * 2+1 by omega),dqG (show ¬ q * 2+1=y.from_.toNat * 2 by omega),dqG hqf];exact hd q hq
theorem zzW (w : web) {N : Nat} (hN : N ≤ 40) (node uses : Int) (S3 : Int → Sl Tab → Sl Tab) (P3 : Int → Sl Tab → Bool) (k : Nat) (hk : 1 ≤ k) (hk40 : k ≤ 45) (o : zbG) (B : Int) (hB : 0 ≤ B ∧ B ≤ 90000000000) :
  ∀ (l:List step),(∀ y∈l,StOk y N)->∀ (v:Sl Tab) (d:zbG) (c:Bool),k < v.len->Rh N (v.get (k - 1)) o B->Rh N (v.get k) d (B+1000000000) ->
  ∃ v',zjO S3 w node uses l (k:Int) v=S3 (w64 ((k:Int)+(1:Int))) v'/\zjP P3 w node uses l (k:Int) v=P3 (w64 ((k:Int)+(1:Int))) v'/\v'.len=v.len/\(∀ j,j ≠ k->v'.get j=v.get j) /\
   Rh N (v'.get k) (((l.filter (okY node)).map edQ).foldl (jr o) (d,c)).1 (B+1000000000):=by
 intro l
 induction l with
 | nil=>intro _ v d c _ _ hd;exact⟨v,rfl,rfl,rfl,λ _ _=>rfl,hd⟩
 | cons y l ih =>
  intro hl v d c hkv ho hd
  obtain⟨v1,a1,a2,a3,a4,a5⟩:=zzV w hN node uses S3 P3 y (hl y (dqj ..)) (zjO S3 w node uses l) (zjP P3 w node uses l) k hk hk40 v hkv o d B hB ho hd c
  have ho1:Rh N (v1.get (k - 1)) o B:=by rw[a4 (k - 1) (by omega)];exact ho
  cases hok:okY node y with
  | false =>
   rw[hok] at a5
   obtain⟨v2,b1,b2,b3,b4,b5⟩:=ih (λ z hz=>hl z (dqf _ hz)) v1 d c (by omega) ho1 a5
   refine⟨v2,Eq.trans a1 b1,Eq.trans a2 b2,b3.trans a3,λ j hj=>(b4 j hj).trans (a4 j hj),?_⟩
   rw[List.filter_cons_of_neg (by rw[hok];exact dqk)];exact b5
  | true =>
   rw[hok] at a5
   obtain⟨v2,b1,b2,b3,b4,b5⟩:=ih (λ z hz=>hl z (dqf _ hz)) v1 (jr o (d,c) (edQ y)).1 (jr o (d,c) (edQ y)).2 (by omega) ho1 a5
   refine⟨v2,Eq.trans a1 b1,Eq.trans a2 b2,b3.trans a3,λ j hj=>(b4 j hj).trans (a4 j hj),?_⟩
   rw[List.filter_cons_of_pos hok];exact b5
structure Hm (w : web) (N : Nat) (node : Int) (U k : Nat) (v : Sl Tab) : Prop where
  len:v.len=U+1
  done:∀ j,j < k->j<=U->Rh N (v.get j) (hops (hF w node) node.toNat j) (j * 1000000000)
  rest:∀ j,k<=j->j<=U->Rh N (v.get j) zzU 0
theorem Rh.mono {N:Nat}{T:Tab}{d:zbG}{B B':Int}(h:Rh N T d B) (hb:B<=B'):Rh N T d B':=λ v hv=>⟨(h v hv).1,λ x hx=>by have:=(h v hv).2 x hx;omega⟩
theorem zrr (w:web) (hn:NetOk w.Net) (node:Int) (U:Nat) (hU:U<=40):∀ (m fu k:Nat) (v:Sl Tab),k+m=U+1->1<=k->m < fu->Hm w w.Net.Nodes.toNat node U k v ->
  zdG w node (U:Int) fu (k:Int) v=true/\Hm w w.Net.Nodes.toNat node U (U+1) (zdc w node (U:Int) fu (k:Int) v):=by
 have hn40:=hn.n40;have hlen:=hn.len
 obtain⟨q1,q2⟩:=zrp w (by omega)
 intro m
 induction m with
 | zero =>
  intro fu k v hk h1 hf hv
  obtain⟨fu,rfl⟩:∃ k',fu=k'+1:=⟨fu - 1,by omega⟩
  have e1:zdG w node (U:Int) (fu+1) (k:Int) v=true:=by
   show zgq w node (U:Int) (zdG w node (U:Int) fu) (k:Int) v=true
   unfold zgq
   rw[dqF (show ¬ (k:Int)<=(U:Int) by omega),dqB]
  have e2:zdc w node (U:Int) (fu+1) (k:Int) v=v:=by
   show zgp w node (U:Int) (zdc w node (U:Int) fu) (k:Int) v=v
   unfold zgp
   rw[dqF (show ¬ (k:Int)<=(U:Int) by omega),dqB]
  refine⟨e1,?_⟩
  rw[e2]
  have:k=U+1:=by omega
  subst this;exact hv
 | succ m ih =>
  intro fu k v hk h1 hf hv
  obtain⟨fu,rfl⟩:∃ k',fu=k'+1:=⟨fu - 1,by omega⟩
  have hw:w64 ((k:Int)+(1:Int))=((k+1:Nat):Int):=by rw[zbo (by omega) (by omega)];omega
  have hvl:=hv.len
  obtain⟨v',a1,a2,a3,a4,a5⟩:=zzW w (N:=w.Net.Nodes.toNat) (by omega) node (U:Int) (zdc w node (U:Int) fu) (zdG w node (U:Int) fu) k h1 (by omega) (hops (hF w node) node.toNat (k - 1)) ((k - 1:Nat) * 1000000000) ⟨by omega,by omega⟩ (Ws w) (λ y hy=>zB2 hn hy) v zzU false (by omega) (hv.done (k - 1) (by omega) (by omega)) ((hv.rest k (dqt _) (by omega)).mono (by omega))
  rw[hw] at a1 a2
  have hv':Hm w w.Net.Nodes.toNat node U (k+1) v':=by
   refine⟨a3.trans hvl,λ j hj hjU=>?_,λ j hj hjU=>?_⟩
   ·by_cases hjk : j = k
    ·subst hjk
     have e:hops (hF w node) node.toNat j=hop (hF w node) (hops (hF w node) node.toNat (j - 1)):=by
      obtain⟨j,rfl⟩:∃ j',j=j'+1:=⟨j - 1,by omega⟩
      rfl
     rw[e]
     exact Rh.mono a5 (by omega)
    ·rw[a4 j hjk];exact hv.done j (by omega) hjU
   ·rw[a4 j (by omega)];exact hv.rest j (by omega) hjU
  obtain⟨i1,i2⟩:=ih fu (k+1) v' (by omega) (by omega) (by omega) hv'
  have e1:zdG w node (U:Int) (fu+1) (k:Int) v=zdG w node (U:Int) fu ((k+1:Nat):Int) v':=by
   rw[<- a2]
   show zgq w node (U:Int) (zdG w node (U:Int) fu) (k:Int) v=_
   unfold zgq znd
   rw[dqT (show (k:Int)<=(U:Int) by omega),dqA,q1,q2];rfl
  have e2:zdc w node (U:Int) (fu+1) (k:Int) v=zdc w node (U:Int) fu ((k+1:Nat):Int) v':=by
   rw[<- a1]
   show zgp w node (U:Int) (zdc w node (U:Int) fu) (k:Int) v=_
   unfold zgp znc
   rw[dqT (show (k:Int)<=(U:Int) by omega),dqA,q2]
  exact⟨e1.trans i1,by rw[e2];exact i2⟩
theorem ztM (w:web) (node:Int) (U:Nat) (hU:U<=40) (S0:Int->Sl Tab->Sl Tab) (P0:Int->Sl Tab->Bool) (i:Nat) (hi:i < U+1):∀ (m fu q:Nat) (v:Sl Tab),q+m=40->m < fu->v.len=U+1->(∀ p,p < q->v.get i (p * 2)=1000000000000/\v.get i (p * 2+1)=0) ->
  ∃ v',zhH S0 w node (U:Int) fu (i:Int) (i:Int) (q:Int) v=S0 (w64 ((i:Int)+(1:Int))) v'/\zhI P0 w node (U:Int) fu (i:Int) (i:Int) (q:Int) v=P0 (w64 ((i:Int)+(1:Int))) v'/\v'.len=v.len/\(∀ j,j ≠ i->v'.get j=v.get j)/\∀ p,p < 40->v'.get i (p * 2)=1000000000000/\v'.get i (p * 2+1)=0:=by
 intro m
 induction m with
 | zero =>
  intro fu q v hq hf hv h
  obtain⟨fu,rfl⟩:∃ k',fu=k'+1:=⟨fu - 1,by omega⟩
  refine⟨v,?_,?_,rfl,λ _ _=>rfl,λ p hp=>h p (by omega)⟩
  ·show zgr S0 w node (U : Int) (zhH S0 w node (U : Int) fu) (i : Int) (i : Int) (q : Int) v = _
   unfold zgr
   rw[dqF (show ¬ (q:Int) < (40:Int) by omega),dqB]
  ·show zgs P0 w node (U : Int) (zhI P0 w node (U : Int) fu) (i : Int) (i : Int) (q : Int) v = _
   unfold zgs
   rw[dqF (show ¬ (q:Int) < (40:Int) by omega),dqB]
 | succ m ih =>
  intro fu q v hq hf hv h
  obtain⟨fu,rfl⟩:∃ k',fu=k'+1:=⟨fu - 1,by omega⟩
  have hw:w64 ((q:Int)+(1:Int))=((q+1:Nat):Int):=by rw[zbo (by omega) (by omega)];omega
  obtain⟨v',a1,a2,a3,a4,a5⟩:=ih fu (q+1) (⟨v.len,(setT i (ts 80 (v.get i) (q * 2) [(1000000000000:Int),(0:Int)]) v.get)⟩:Sl Tab) (by omega) (by omega) hv (λ p hp=>by
   show setT i _ v.get i (p * 2)=_/\setT i _ v.get i (p * 2+1)=_
   rw[zfm,dqP rfl,zju (by omega),zju (by omega)]
   by_cases hpq:p=q
   ·subst hpq
    rw[dqG (by omega),dqP rfl,dqP rfl];exact⟨rfl,rfl⟩
   ·rw[dqG (by omega),dqG (by omega),dqG (by omega),dqG (by omega)];exact h p (by omega))
  refine⟨v',?_,?_,a3,λ j hj=>(a4 j hj).trans (by show setT i _ v.get j=_;rw[zfm,dqG hj]),a5⟩
  ·rw [← a1]
   show zgr S0 w node (U:Int) (zhH S0 w node (U:Int) fu) (i:Int) (i:Int) (q:Int) v=_
   unfold zgr
   rw[dqT (show (q:Int) < (40:Int) by omega),dqA,hw,dqN,dqN,show 0+q * 2+0=q * 2 by omega]
  ·rw [← a2]
   show zgs P0 w node (U:Int) (zhI P0 w node (U:Int) fu) (i:Int) (i:Int) (q:Int) v=_
   unfold zgs
   rw[dqT (show (q:Int) < (40:Int) by omega),dqA,hw,dqN,dqN,show 0+q * 2+0=q * 2 by omega,dqT (show 0<=(i:Int)/\(i:Int) < (v.len:Int) by omega),dqT (show 0<=(q:Int)/\(q:Int) < (40:Int) by omega),dqT (show i < v.len by omega)];rfl
theorem zzX (w:web) (node:Int) (U:Nat) (hU:U<=40):∀ (m fu i:Nat) (v:Sl Tab),i+m=U+1->m < fu->v.len=U+1->(∀ j,j < i->∀ p,p < 40->v.get j (p * 2)=1000000000000/\v.get j (p * 2+1)=0) ->
  ∃ v',zgv w node (U:Int) fu (i:Int) v=zjQ w node (U:Int) v'/\zgw w node (U:Int) fu (i:Int) v=zjR w node (U:Int) v'/\v'.len=U+1/\∀ j,j < U+1->∀ p,p < 40->v'.get j (p * 2)=1000000000000/\v'.get j (p * 2+1)=0:=by
 have hu:((w64 ((U:Int)+(1:Int))).toNat:Int)=(U:Int)+1:=by rw[zbo (by omega) (by omega)];omega
 intro m
 induction m with
 | zero =>
  intro fu i v hi hf hv h
  obtain⟨fu,rfl⟩:∃ k',fu=k'+1:=⟨fu - 1,by omega⟩
  refine⟨v,?_,?_,hv,λ j hj=>h j (by omega)⟩
  ·show zgt w node (U : Int) (zgv w node (U : Int) fu) (i : Int) v = _
   unfold zgt
   rw[hu,dqF (show ¬ (i:Int) < (U:Int)+1 by omega),dqB]
  ·show zgu w node (U : Int) (zgw w node (U : Int) fu) (i : Int) v = _
   unfold zgu
   rw[hu,dqF (show ¬ (i:Int) < (U:Int)+1 by omega),dqB]
 | succ m ih =>
  intro fu i v hi hf hv h
  obtain⟨fu,rfl⟩:∃ k',fu=k'+1:=⟨fu - 1,by omega⟩
  have hw:w64 ((i:Int)+(1:Int))=((i+1:Nat):Int):=by rw[zbo (by omega) (by omega)];omega
  obtain⟨v1,a1,a2,a3,a4,a5⟩:=ztM w node U hU (zgv w node (U:Int) fu) (zgw w node (U:Int) fu) i (by omega) 40 Fuel 0 v (by omega) (by simp only[Fuel];omega) hv (λ p hp=>absurd hp (dqW _))
  rw[hw] at a1 a2
  obtain⟨v2,b1,b2,b3,b4⟩:=ih fu (i+1) v1 (by omega) (by omega) (a3.trans hv) (λ j hj=>by
   by_cases hji:j=i
   ·subst hji;exact a5
   ·rw[a4 j hji];exact h j (by omega))
  refine⟨v2,?_,?_,b3,b4⟩
  ·rw [← b1, ← a1]
   show zgt w node (U:Int) (zgv w node (U:Int) fu) (i:Int) v=_
   unfold zgt
   rw[hu,dqT (show (i:Int) < (U:Int)+1 by omega),dqA];rfl
  ·rw [← b2, ← a2]
   show zgu w node (U:Int) (zgw w node (U:Int) fu) (i:Int) v=_
   unfold zgu
   rw[hu,dqT (show (i:Int) < (U:Int)+1 by omega),dqA];rfl
theorem zHA (w : web) (hn : NetOk w.Net) (node : Nat) (h1 : node < w.Net.Nodes.toNat) (U : Nat) (hU : U ≤ 40) :
  zHS w (node:Int) (U:Int)=true/\(zsc w (node:Int) (U:Int)).len=U+1/\∀ j,j<=U->Rh w.Net.Nodes.toNat ((zsc w (node:Int) (U:Int)).get j) (hops (hF w (node:Int)) node j) (j * 1000000000):=by
 have hn40:=hn.n40
 have hu:w64 ((U:Int)+(1:Int))=(U:Int)+1:=by rw[zbo (by omega) (by omega)]
 have hu':((U:Int)+1).toNat=U+1:=by omega
 obtain⟨v1,a1,a2,a3,a4⟩:=zzX w (node:Int) U hU (U+1) Fuel 0 (⟨U+1,(λ _=>(λ _=>(0:Int)))⟩:Sl Tab) (by omega) (by simp only[Fuel];omega) rfl (λ j hj=>absurd hj (dqW _))
 have hm:Hm w w.Net.Nodes.toNat (node:Int) U 1 (⟨v1.len,(setT 0 (ts 80 (v1.get 0) (node * 2) [(0:Int),(0:Int)]) v1.get)⟩:Sl Tab):=by
  refine⟨a3,λ j hj _=>?_,λ j hj hjU=>?_⟩
  ·have : j = 0 := by omega
   subst this
   intro v hv
   have e0:(⟨v1.len,(setT 0 (ts 80 (v1.get 0) (node * 2) [(0:Int),(0:Int)]) v1.get)⟩:Sl Tab).get 0=ts 80 (v1.get 0) (node * 2) [(0:Int),(0:Int)]:=by
    exact (zfm 0 (ts 80 (v1.get 0) (node * 2) [(0:Int),(0:Int)]) v1.get 0).trans (dqP rfl)
   have eh:hops (hF w (node:Int)) ((node:Nat):Int).toNat 0=zAh node:=by rw[dqN];rfl
   rw[e0,eh,zju (by omega),zju (by omega)]
   unfold zAh
   by_cases hq:v=node
   ·subst hq
    rw[dqG (show ¬ v * 2=v * 2+1 by omega),dqP (show v * 2=v * 2 from rfl),dqP (show v * 2+1=v * 2+1 from rfl),dqP (show v=v from rfl)]
    exact⟨⟨rfl,rfl⟩,λ x hx=>by cases hx;omega⟩
   ·rw [dqG (show ¬ v * 2 = node * 2 + 1 by omega), dqG (show ¬ v * 2 = node * 2 by omega), dqG (show ¬ v * 2 + 1 = node * 2 + 1 by omega), dqG (show ¬ v * 2 + 1 = node * 2 by omega), dqG hq]
    exact⟨a4 0 (by omega) v (by omega),λ x hx=>by cases hx⟩
  ·intro v hv
   have e0:(⟨v1.len,(setT 0 (ts 80 (v1.get 0) (node * 2) [(0:Int),(0:Int)]) v1.get)⟩:Sl Tab).get j=v1.get j:=by
    exact (zfm 0 (ts 80 (v1.get 0) (node * 2) [(0:Int),(0:Int)]) v1.get j).trans (dqG (by omega))
   rw[e0]
   exact⟨a4 j (by omega) v (by omega),λ x hx=>by cases hx⟩
 obtain⟨b1,b2⟩:=zrr w hn (node:Int) U hU U Fuel 1 _ (by omega) (dqt _) (by simp only[Fuel];omega) hm
 have e:0+((node:Nat):Int).toNat * 2+0=node * 2:=by rw[dqN];omega
 have es:zsc w (node:Int) (U:Int)=zdc w (node:Int) (U:Int) Fuel ((1:Nat):Int) (⟨v1.len,(setT 0 (ts 80 (v1.get 0) (node * 2) [(0:Int),(0:Int)]) v1.get)⟩:Sl Tab):=by
  unfold zsc zng
  rw[hu,hu']
  refine Eq.trans a1 ?_
  unfold zjQ zne
  rw[e];rfl
 have ep:zHS w (node:Int) (U:Int)=true:=by
  unfold zHS znh
  rw[hu,hu',dqT (show 0<=(U:Int)+1/\(U:Int)+1=(U:Int)+1/\(U:Int)+1<=1000000 from ⟨by omega,rfl,by omega⟩),Bool.true_and]
  refine Eq.trans a2 ?_
  unfold zjR znf
  rw[e,dqT (show 0<=(0:Int)/\(0:Int) < (v1.len:Int) by omega),dqT (show 0<=(node:Int)/\(node:Int) < (40:Int) by omega),dqT (show 0 < v1.len by omega)]
  simp only[Bool.true_and]
  exact b1
 refine⟨ep,by rw[es];exact b2.len,λ j hj=>?_⟩
 rw[es]
 have:=b2.done j (by omega) hj
 rwa[dqN] at this
end Go.Proofs
namespace Go.Proofs
open Go Go.Pm
set_option maxRecDepth 100000
set_option linter.unusedVariables false
attribute [local irreducible] Go.Pm.vcFun Go.Pm.vc Go.Pm.vcIter
end Go.Proofs
namespace Go.Proofs
open Go Go.Pm
set_option maxRecDepth 100000
set_option linter.unusedVariables false
theorem zzY {α:Type}(n:Nat) (g:Nat->α) (x:α) (j:Nat):zc2 n g (λ _=>x) j=if n<=j then x else g j:=by
 unfold zc2
 by_cases h:n<=j
 ·rw[dqP h,show Nat.ble n j=true from Nat.ble_eq_true_of_le h]
 ·rw[dqG h,show Nat.ble n j=false from Bool.eq_false_iff.2 λ k=>h (Nat.le_of_ble_eq_true k)]
def turn (t:Tie):Tie:=⟨t.From,t.To,w64 (0 - t.High),w64 (0 - t.Low)⟩
structure IsTurn (n m : Net) : Prop where
  nodes:m.Nodes=n.Nodes
  len:m.Ties.len=n.Ties.len
  tie:∀ j,j < n.Ties.len->m.Ties.get j=turn (n.Ties.get j)
end Go.Proofs
namespace Go.Proofs
open Go Go.Pm
set_option maxRecDepth 100000
set_option linter.unusedVariables false
attribute [local irreducible] Go.Pm.vcFun Go.Pm.vc Go.Pm.vcIter
end Go.Proofs
namespace Go.Proofs
open Go Go.Pm
set_option maxRecDepth 100000
set_option linter.unusedVariables false
end Go.Proofs
namespace Go.Proofs
open Go Go.Pm
set_option maxRecDepth 100000
set_option linter.unusedVariables false
theorem zzZ (v:Sl Int) (hv:v.len<=1000):zLf v=true:=by
 have key:∀ (m k i:Nat),i+m=v.len->m < k->zhJ v k (i:Int)=true:=by
  intro m
  induction m with
  | zero =>
   intro k i hi hk
   obtain⟨k,rfl⟩:∃ k',k=k'+1:=⟨k - 1,by omega⟩
   show zgx v (zhJ v k) (i:Int)=true
   unfold zgx
   rw[dqF (show ¬ (i:Int) < (v.len:Int) by omega),dqB]
  | succ m ih =>
   intro k i hi hk
   obtain⟨k,rfl⟩:∃ k',k=k'+1:=⟨k - 1,by omega⟩
   show zgx v (zhJ v k) (i:Int)=true
   unfold zgx
   rw[dqT (show (i:Int) < (v.len:Int) by omega),dqA,dqT (show 0<=(i:Int)/\(i:Int) < (v.len:Int) by omega),Bool.true_and,zgA (n:=v.len) (by omega) (by omega),ih k (i+1) (by omega) (by omega)]
   cases (v.get ((i:Int)).toNat != (0:Int)) <;> rfl
 exact key v.len Fuel 0 (by omega) (by simp only[Fuel];omega)
theorem zz0 (a b:Sl step) (ha:a.len<=1000):zI9 a b=true:=by
 have key:∀ (m k i:Nat),i+m=a.len->m < k->zhK k a b a (a.len:Int) (i:Int)=true:=by
  intro m
  induction m with
  | zero =>
   intro k i hi hk
   obtain⟨k,rfl⟩:∃ k',k=k'+1:=⟨k - 1,by omega⟩
   show zgz (zhK k) a b a (a.len:Int) (i:Int)=true
   unfold zgz
   rw[dqF (show ¬ (i:Int) < (a.len:Int) by omega),dqB]
  | succ m ih =>
   intro k i hi hk
   obtain⟨k,rfl⟩:∃ k',k=k'+1:=⟨k - 1,by omega⟩
   show zgz (zhK k) a b a (a.len:Int) (i:Int)=true
   unfold zgz
   rw[dqT (show (i:Int) < (a.len:Int) by omega),dqA,dqT (show 0<=(i:Int)/\(i:Int) < (a.len:Int) by omega),Bool.true_and]
   by_cases hb:(i:Int) >= (b.len:Int)
   ·rw[dqT hb,dqA]
   ·rw [dqF hb, dqB]
    unfold znj zni zLg
    rw[dqT (show 0<=(i:Int)/\(i:Int) < (b.len:Int) by omega),zzZ _ (by show 2<=1000;omega),zgA (n:=a.len) (by omega) (by omega),ih k (i+1) (by omega) (by omega)]
    generalize (zI6 _ _ != (0:Int))=t
    cases t <;> rfl
 exact key a.len Fuel 0 (by omega) (by simp only[Fuel];omega)
def IsS (v:Sl step) (L:List step):Prop:=v.len=L.length/\∀ q (h:q < L.length),v.get q=L[q]
theorem zHB {v:Sl step}{L:List step}(h:IsS v L) (y:step):IsS ⟨v.len+1,zc2 v.len v.get (λ _=>y)⟩ (L ++ [y]):=by
 refine⟨by show v.len+1=_;rw[dqu,h.1];rfl,λ k hk=>?_⟩
 show zc2 v.len v.get (λ _=>y) k=_
 rw[zzY]
 rw[dqu] at hk
 have h1:=h.1
 by_cases hv:v.len<=k
 ·rw [dqP hv]
  have:k=L.length:=by simp only[dqr,dqL] at hk;omega
  subst this
  simp
 ·rw [dqG hv, h.2 k (by omega)]
  rw[List.getElem_append_left (by omega)]
def ChS (S : List step) : Int → List step → Int → Prop
  | a,[],b=>a=b
  | a,y :: l,b=>y∈S/\y.from_=a/\ChS S y.to l b
theorem zHC {S:List step}{L:List step}{y:step} : ∀ {a b:Int},ChS S a L b->y∈S->y.from_=b->ChS S a (L ++ [y]) y.to:=by
 induction L with
 | nil=>intro a b h hy hf;exact⟨hy,hf.trans h.symm,rfl⟩
 | cons z l ih=>rintro a b ⟨h1,h2,h3⟩ hy hf;exact⟨h1,h2,ih h3 hy hf⟩
def wtS : List step → Int
  | []=>0
  | y :: l=>y.length+wtS l
theorem zHD (L:List step) (y:step):wtS (L ++ [y])=wtS L+y.length:=by
 induction L with
 | nil=>show y.length+0=0+y.length;omega
 | cons z l ih=>show z.length+wtS (l ++ [y])=z.length+wtS l+y.length;rw[ih];omega
def zB7 (w:web) (v:Sl step):Prop:=∃ (a:Int) (L:List step),(0<=a/\a < w.Net.Nodes)/\IsS v L/\ChS (Ws w) a L a/\wtS L < 0/\L.length<=40
theorem zsU {w:web}{v:Sl step}(h:zB7 w v):1<=v.len/\v.len<=40:=by
 obtain⟨a,L,_,h1,_,h2,h3⟩:=h
 cases L with
 | nil=>exact absurd h2 (by show ¬ (0:Int) < 0;omega)
 | cons y l=>have:=h1.1;simp only[dqr] at this h3;omega
theorem zB8 {w:web}{node:Int}{d:zbG}{v:Nat}{x:Int}(hn:NetOk w.Net) (h:hop (hF w node) d v=some x):∃ y∈Ws w,node<=y.from_/\node<=y.to/\y.from_.toNat=v/\∃ z,d y.to.toNat=some z/\x=z+y.length:=by
 obtain⟨e,he,h1,z,h2,h3⟩:=zKN h
 obtain⟨y,hy,rfl⟩:=dqz.1 he
 obtain⟨hy1,hy2⟩:=List.mem_filter.1 hy
 unfold okY at hy2
 rw[dqm] at hy2
 exact⟨y,hy1,of_decide_eq_true hy2.1,of_decide_eq_true hy2.2,h1,z,h2,h3⟩
end Go.Proofs
namespace Go.Proofs
open Go Go.Pm
set_option maxRecDepth 100000
set_option linter.unusedVariables false
abbrev PS7:=Int->Bool->Sl step->Int->Int->Sl Tab->Int->Int->Int->Sl (Sl Tab)->Sl step->Sl step
theorem zB9 (w : web) {N : Nat} (hN : N ≤ 40) (S5 : Int → Bool → Sl step → Int → Sl (Sl Tab) → Sl step) (P5 : Int → Bool → Sl step → Int → Sl (Sl Tab) → Bool) (S6 : PS7) (P6 : Int → Bool → Sl step → Int → Int → Sl Tab → Int → Int → Int → Sl (Sl Tab) → Sl step → Bool) (v4 : Sl (Sl Tab)) (u : Int) (bb : Bool) (best : Sl step) (t i : Int) (h : Sl Tab) (at_ len : Int) (k : Nat) (hk : k < h.len) (d : zbG) {B : Int} (hB : B ≤ 90000000000) (hd : Rh N (h.get k) d B) (hl0 : -90000000000 ≤ len) (hl1 : len ≤ 90000000000) (v21 : Sl (Sl Tab)) (now : Sl step) (hnow : now.len ≤ 1000) :
  ∀ (l:List step),(∀ y∈l,StOk y N)->(∃ y∈l,y.from_=at_/\i<=y.to/\∃ x,d y.to.toNat=some x/\len+y.length+x < 0) ->
  ∃ y∈l,(y.from_=at_/\i<=y.to/\∃ x,d y.to.toNat=some x/\len+y.length+x < 0) /\
   zc6 S5 S6 w v4 l u bb best t i h at_ len (k:Int) v21 now=S6 u bb best t i h y.to (len+y.length) (w64 ((k:Int) - (1:Int))) v21 (⟨(now.len+1),(zc2 now.len now.get (λ _=>y))⟩:Sl step) /\
   zc7 P5 P6 w v4 l u bb best t i h at_ len (k:Int) v21 now=P6 u bb best t i h y.to (len+y.length) (w64 ((k:Int) - (1:Int))) v21 (⟨(now.len+1),(zc2 now.len now.get (λ _=>y))⟩:Sl step):=by
 intro l
 induction l with
 | nil=>rintro _ ⟨y,hy,_⟩;cases hy
 | cons y l ih =>
  intro hl hex
  have hy:=hl y (dqj ..)
  have f0:=hy.f0;have f1:=hy.f1;have t0:=hy.t0;have t1:=hy.t1;have l0:=hy.l0;have l1:=hy.l1
  obtain⟨⟨d1,d2⟩,d3⟩:=hd y.to.toNat (by omega)
  have e1:0+y.to.toNat * 2+0=y.to.toNat * 2:=by omega
  have hS:zc6 S5 S6 w v4 (y :: l) u bb best t i h at_ len (k:Int) v21 now=cond (y.from_ == at_) (cond (decide (i<=y.to)) (cond (!(nvr (tg 80 (h.get ((k:Int)).toNat) (0+y.to.toNat * 2+0)) (tg 80 (h.get ((k:Int)).toNat) (0+y.to.toNat * 2+0+1)))) (cond (decide (w64 (w64 (len+y.length)+tg 80 (h.get ((k:Int)).toNat) (0+y.to.toNat * 2+0)) < (0:Int))) (S6 u bb best t i h y.to (w64 (len+y.length)) (w64 ((k:Int) - (1:Int))) v21 (⟨(now.len+1),(zc2 now.len now.get (λ _=>y))⟩:Sl step)) (zc6 S5 S6 w v4 l u bb best t i h at_ len (k:Int) v21 now)) (zc6 S5 S6 w v4 l u bb best t i h at_ len (k:Int) v21 now)) (zc6 S5 S6 w v4 l u bb best t i h at_ len (k:Int) v21 now)) (zc6 S5 S6 w v4 l u bb best t i h at_ len (k:Int) v21 now):=by
   show zqf S5 S6 w v4 y (zc6 S5 S6 w v4 l) u bb best t i h at_ len (k:Int) v21 now=_
   generalize zc6 S5 S6 w v4 l=S
   rfl
  have hP:zc7 P5 P6 w v4 (y :: l) u bb best t i h at_ len (k:Int) v21 now=cond (y.from_ == at_) (cond (decide (i<=y.to)) (decide (0<=(k:Int)/\(k:Int) < (h.len:Int)) && (decide (0<=y.to/\y.to < (40:Int)) && cond (!(nvr (tg 80 (h.get ((k:Int)).toNat) (0+y.to.toNat * 2+0)) (tg 80 (h.get ((k:Int)).toNat) (0+y.to.toNat * 2+0+1)))) (decide (0<=(k:Int)/\(k:Int) < (h.len:Int)) && (decide (0<=y.to/\y.to < (40:Int)) && cond (decide (w64 (w64 (len+y.length)+tg 80 (h.get ((k:Int)).toNat) (0+y.to.toNat * 2+0)) < (0:Int))) (decide ((now.len+1) * 40<=140737488355328/\now.len+1<=9223372036854775807) && P6 u bb best t i h y.to (w64 (len+y.length)) (w64 ((k:Int) - (1:Int))) v21 (⟨(now.len+1),(zc2 now.len now.get (λ _=>y))⟩:Sl step)) (zc7 P5 P6 w v4 l u bb best t i h at_ len (k:Int) v21 now))) (zc7 P5 P6 w v4 l u bb best t i h at_ len (k:Int) v21 now))) (zc7 P5 P6 w v4 l u bb best t i h at_ len (k:Int) v21 now)) (zc7 P5 P6 w v4 l u bb best t i h at_ len (k:Int) v21 now):=by
   show zqg P5 P6 w v4 y (zc7 P5 P6 w v4 l) u bb best t i h at_ len (k:Int) v21 now=_
   generalize zc7 P5 P6 w v4 l=S
   rfl
  rw[dqN,e1,zhU (by omega),zhU (by omega),zDD hd (by omega) (show y.to.toNat < N by omega),zbo (x:=len+y.length) (by omega) (by omega)] at hS hP
  rw[dqT (show 0<=(k:Int)/\(k:Int) < (h.len:Int) by omega),dqT (show 0<=y.to/\y.to < (40:Int) by omega),dqT (show (now.len+1) * 40<=140737488355328/\now.len+1<=9223372036854775807 by omega)] at hP
  simp only[Bool.true_and] at hP
  have next : ¬ (y.from_=at_/\i<=y.to/\∃ x,d y.to.toNat=some x/\len+y.length+x < 0) ->
    zc6 S5 S6 w v4 (y :: l) u bb best t i h at_ len (k:Int) v21 now=zc6 S5 S6 w v4 l u bb best t i h at_ len (k:Int) v21 now->zc7 P5 P6 w v4 (y :: l) u bb best t i h at_ len (k:Int) v21 now=zc7 P5 P6 w v4 l u bb best t i h at_ len (k:Int) v21 now->∃ y'∈y :: l,(y'.from_=at_/\i<=y'.to/\∃ x,d y'.to.toNat=some x/\len+y'.length+x < 0) /\
   zc6 S5 S6 w v4 (y :: l) u bb best t i h at_ len (k:Int) v21 now=S6 u bb best t i h y'.to (len+y'.length) (w64 ((k:Int) - (1:Int))) v21 (⟨(now.len+1),(zc2 now.len now.get (λ _=>y'))⟩:Sl step) /\
   zc7 P5 P6 w v4 (y :: l) u bb best t i h at_ len (k:Int) v21 now=P6 u bb best t i h y'.to (len+y'.length) (w64 ((k:Int) - (1:Int))) v21 (⟨(now.len+1),(zc2 now.len now.get (λ _=>y'))⟩:Sl step):=λ hno hs hp=>by
   obtain⟨z,hz,hc⟩:=hex
   have hzl:z∈l:=(dqq.1 hz).resolve_left (λ e=>hno (e ▸ hc))
   obtain⟨y',a1,a2,a3,a4⟩:=ih (λ q hq=>hl q (dqf _ hq)) ⟨z,hzl,hc⟩
   exact⟨y',dqf _ a1,a2,hs.trans a3,hp.trans a4⟩
  by_cases c1:y.from_=at_
  ·rw [show (y.from_ == at_) = true from beq_iff_eq.2 c1] at hS hP
   by_cases c2:i<=y.to
   ·rw [dqT c2] at hS hP
    cases hdu:d y.to.toNat with
    | none =>
     rw[hdu] at hS hP
     exact next (λ ⟨_,_,x,hx,_⟩=>by rw[hdu] at hx;cases hx) hS hP
    | some x =>
     have hbx:=d3 x hdu
     rw[hdu] at hS hP d1
     have d1':h.get k (y.to.toNat * 2)=x:=d1
     rw[d1',zbo (x:=len+y.length+x) (by omega) (by omega)] at hS hP
     by_cases c3:len+y.length+x < 0
     ·rw [dqT c3] at hS hP
      exact⟨y,dqj ..,⟨c1,c2,x,hdu,c3⟩,hS,hP⟩
     ·rw [dqF c3] at hS hP
      exact next (λ ⟨_,_,x',hx',hx''⟩=>by rw[hdu] at hx';cases hx';exact c3 hx'') hS hP
   ·rw [dqF c2] at hS hP
    exact next (λ hh=>c2 hh.2.1) hS hP
  ·rw [show (y.from_ == at_) = false from dqU.2 c1] at hS hP
   exact next (λ hh=>c1 hh.1) hS hP
end Go.Proofs
namespace Go.Proofs
open Go Go.Pm
set_option maxRecDepth 100000
set_option linter.unusedVariables false
structure HsOk (w : web) (hs : Sl (Sl Tab)) : Prop where
  len:hs.len=w.Net.Nodes.toNat
  at_:∀ i,i < w.Net.Nodes.toNat->(hs.get i).len=w.Net.Nodes.toNat+1/\∀ j,j<=w.Net.Nodes.toNat->Rh w.Net.Nodes.toNat ((hs.get i).get j) (hops (hF w (i:Int)) i j) (j * 1000000000)
def zNt (S5:Int->Bool->Sl step->Int->Sl (Sl Tab)->Sl step) (w:web) (v4:Sl (Sl Tab)) (u:Int) (bb:Bool) (best:Sl step) (t:Int) (v21:Sl (Sl Tab)) (now:Sl step):Sl step :=
 cond bb (zih S5 w v4 u bb best t true v21 now) (zih S5 w v4 u bb best t (decide ((zER now best) < (0:Int))) v21 now)
def zDr (P5:Int->Bool->Sl step->Int->Sl (Sl Tab)->Bool) (w:web) (v4:Sl (Sl Tab)) (u:Int) (bb:Bool) (best:Sl step) (t:Int) (v21:Sl (Sl Tab)) (now:Sl step):Bool :=
 decide (bb=true\/best.len ≠ 0) && cond bb (zii P5 w v4 u bb best t true v21 now) (decide (zI9 now best=true) && zii P5 w v4 u bb best t (decide ((zER now best) < (0:Int))) v21 now)
theorem walk (w : web) (hn : NetOk w.Net) (hs : Sl (Sl Tab)) (hh : HsOk w hs) (S5 : Int → Bool → Sl step → Int → Sl (Sl Tab) → Sl step) (P5 : Int → Bool → Sl step → Int → Sl (Sl Tab) → Bool) (v4 : Sl (Sl Tab)) (u : Int) (bb : Bool) (best : Sl step) (t : Int) (i : Nat) (hi : i < w.Net.Nodes.toNat) (v21 : Sl (Sl Tab)) :
  ∀ (m fu:Nat) (a len:Int) (now:Sl step) (L:List step),m < fu->(0<=a/\a < w.Net.Nodes)->L.length+m<=40->m<=w.Net.Nodes.toNat->-1000000000 * (L.length:Int)<=len->len<=1000000000 * (L.length:Int) ->
   (∃ x,hops (hF w (i:Int)) i m a.toNat=some x/\len+x < 0)->IsS now L->ChS (Ws w) (i:Int) L a->wtS L=len ->
   ∃ now' L',zg3 S5 w v4 fu u bb best t (i:Int) (hs.get i) a len ((m:Int) - 1) v21 now=zNt S5 w v4 u bb best t v21 now'/\zg4 P5 w v4 fu u bb best t (i:Int) (hs.get i) a len ((m:Int) - 1) v21 now=zDr P5 w v4 u bb best t v21 now' /\
    IsS now' L'/\ChS (Ws w) (i:Int) L' (i:Int)/\wtS L' < 0/\L'.length=L.length+m:=by
 have hn40:=hn.n40;have hlen:=hn.len
 obtain⟨q1,q2⟩:=zrp w (by omega)
 obtain⟨hl1,hat⟩:=hh.at_ i hi
 intro m
 induction m with
 | zero =>
  intro fu a len now L hf ha hL hm hl0 hl1' hx hnow hch hwt
  obtain⟨fu,rfl⟩:∃ k',fu=k'+1:=⟨fu - 1,by omega⟩
  obtain⟨x,hx1,hx2⟩:=hx
  have hx1':zAh i a.toNat=some x:=hx1
  unfold zAh at hx1'
  have hai:a.toNat=i:=by
   by_cases hq:a.toNat=i
   ·exact hq
   ·rw[dqG hq] at hx1';cases hx1'
  rw[dqP hai] at hx1'
  have hx0:(0:Int)=x:=Option.some.inj hx1'
  have hae:a=(i:Int):=by omega
  subst hae
  refine⟨now,L,?_,?_,hnow,hch,by omega,rfl⟩
  ·show zij S5 w v4 (zg3 S5 w v4 fu) u bb best t (i : Int) (hs.get i) (i : Int) len (((0 : Nat) : Int) - 1) v21 now = _
   unfold zij
   rw[dqF (show ¬ ((0:Nat):Int) - 1 >= 0 by omega),dqB];rfl
  ·show zik P5 w v4 (zg4 P5 w v4 fu) u bb best t (i : Int) (hs.get i) (i : Int) len (((0 : Nat) : Int) - 1) v21 now = _
   unfold zik
   rw[dqF (show ¬ ((0:Nat):Int) - 1 >= 0 by omega),dqB];rfl
 | succ m ih =>
  intro fu a len now L hf ha hL hm hl0 hl1' hx hnow hch hwt
  obtain⟨fu,rfl⟩:∃ k',fu=k'+1:=⟨fu - 1,by omega⟩
  obtain⟨x,hx1,hx2⟩:=hx
  obtain⟨y,hy,hy1,hy2,hy3,z,hz1,hz2⟩:=zB8 hn (show hop (hF w (i:Int)) (hops (hF w (i:Int)) i m) a.toNat=some x from hx1)
  have hyo:=zB2 hn hy
  have f0:=hyo.f0
  have hya:y.from_=a:=by omega
  have hnl:=hnow.1
  obtain⟨y',b1,⟨b2,b3,x',b4,b5⟩,b6,b7⟩:=zB9 w (N:=w.Net.Nodes.toNat) (by omega) S5 P5 (zg3 S5 w v4 fu) (zg4 P5 w v4 fu) v4 u bb best t (i:Int) (hs.get i) a len m (by omega) (hops (hF w (i:Int)) i m) (B:=m * 1000000000) (by omega) (hat m (by omega)) (by omega) (by omega) v21 now (by omega) (Ws w) (λ y hy=>zB2 hn hy) ⟨y,hy,hya,hy2,z,hz1,by omega⟩
  have hyo':=zB2 hn b1
  have t0:=hyo'.t0;have t1:=hyo'.t1;have l0:=hyo'.l0;have l1:=hyo'.l1
  have hw:w64 ((m:Int) - (1:Int))=(m:Int) - 1:=zbo (by omega) (by omega)
  rw[hw] at b6 b7
  obtain⟨now',L',c1,c2,c3,c4,c5,c6⟩:=ih fu y'.to (len+y'.length) (⟨(now.len+1),(zc2 now.len now.get (λ _=>y'))⟩:Sl step) (L ++ [y']) (by omega) ⟨t0,by omega⟩ (by simp only[dqu,dqr,dqL];omega) (by omega) (by simp only[dqu,dqr,dqL];omega) (by simp only[dqu,dqr,dqL];omega) ⟨x',b4,b5⟩ (zHB hnow y') (zHC hch b1 b2) (by rw[zHD,hwt])
  refine⟨now',L',?_,?_,c3,c4,c5,by rw[c6];simp only[dqu,dqr,dqL];omega⟩
  ·rw [← c1, ← b6]
   show zij S5 w v4 (zg3 S5 w v4 fu) u bb best t (i:Int) (hs.get i) a len (((m+1:Nat):Int) - 1) v21 now=_
   rw[show ((m+1:Nat):Int) - 1=(m:Int) by omega]
   unfold zij zqh
   rw[dqT (show (m:Int) >= 0 by omega),dqA,q2]
  ·rw [← c2, ← b7]
   show zik P5 w v4 (zg4 P5 w v4 fu) u bb best t (i:Int) (hs.get i) a len (((m+1:Nat):Int) - 1) v21 now=_
   rw[show ((m+1:Nat):Int) - 1=(m:Int) by omega]
   unfold zik zqi
   rw[dqT (show (m:Int) >= 0 by omega),dqA,q1,q2];rfl
def neg (hs:Sl (Sl Tab)) (u i:Nat):Prop:=((hs.get i).get u) (i * 2) < 0
theorem zz1 (w:web) (hn:NetOk w.Net) (hs:Sl (Sl Tab)) (hh:HsOk w hs) (u:Nat) (hu1:1<=u) (hu:u<=w.Net.Nodes.toNat):∀ (m k i:Nat) (bb:Bool) (best:Sl step),i+m=w.Net.Nodes.toNat->m < k->(bb=true\/(bb=false/\zB7 w best)) ->
  zd0 w hs k (u:Int) bb best (i:Int) hs=true/\((bb=false\/∃ j,i<=j/\j < w.Net.Nodes.toNat/\neg hs u j)->zB7 w (zdZ w hs k (u:Int) bb best (i:Int) hs)):=by
 have hn40:=hn.n40
 have hhl:=hh.len
 intro m
 induction m with
 | zero =>
  intro k i bb best hi hk hb
  obtain⟨k,rfl⟩:∃ k',k=k'+1:=⟨k - 1,by omega⟩
  have e1:zd0 w hs (k+1) (u:Int) bb best (i:Int) hs=true:=by
   show zim w hs (zd0 w hs k) (u:Int) bb best (i:Int) hs=true
   unfold zim
   rw[dqF (show ¬ (i:Int) < (hs.len:Int) by omega),dqB]
  have e2:zdZ w hs (k+1) (u:Int) bb best (i:Int) hs=best:=by
   show zil w hs (zdZ w hs k) (u:Int) bb best (i:Int) hs=best
   unfold zil
   rw[dqF (show ¬ (i:Int) < (hs.len:Int) by omega),dqB]
  refine⟨e1,λ h=>?_⟩
  rw[e2]
  rcases h with h | ⟨j,h1,h2,_⟩
  ·rcases hb with hb | hb
   ·rw[hb] at h;cases h
   ·exact hb.2
  ·omega
 | succ m ih =>
  intro k i bb best hi hk hb
  obtain⟨k,rfl⟩:∃ k',k=k'+1:=⟨k - 1,by omega⟩
  have hw:w64 ((i:Int)+(1:Int))=((i+1:Nat):Int):=by rw[zbo (by omega) (by omega)];omega
  have hwu:w64 ((u:Int) - (1:Int))=(u:Int) - 1:=zbo (by omega) (by omega)
  obtain⟨hl1,hat⟩:=hh.at_ i (by omega)
  have eL:tL ((hs.get i).get u) (i:Int)=((hs.get i).get u) (i * 2):=by
   show tg 80 _ (0+((i:Int)).toNat * 2+0)=_
   rw[dqN,show 0+i * 2+0=i * 2 by omega,zhU (by omega)]
  have hS:zdZ w hs (k+1) (u:Int) bb best (i:Int) hs=cond (decide (((hs.get i).get u) (i * 2) >= 0)) (zdZ w hs k (u:Int) bb best ((i+1:Nat):Int) hs) (zqj (zdZ w hs k) w hs (u:Int) bb best (i:Int) (i:Int) (hs.get i) (i:Int) (0:Int) ((u:Int) - 1) hs (⟨0,(λ _=>default)⟩:Sl step)):=by
   rw[<- hw,<- eL,<- hwu]
   show zil w hs (zdZ w hs k) (u:Int) bb best (i:Int) hs=_
   unfold zil
   rw[dqT (show (i:Int) < (hs.len:Int) by omega),dqA,dqN,dqN]
  have hP:zd0 w hs (k+1) (u:Int) bb best (i:Int) hs=cond (decide (((hs.get i).get u) (i * 2) >= 0)) (zd0 w hs k (u:Int) bb best ((i+1:Nat):Int) hs) (zqk (zd0 w hs k) w hs (u:Int) bb best (i:Int) (i:Int) (hs.get i) (i:Int) (0:Int) ((u:Int) - 1) hs (⟨0,(λ _=>default)⟩:Sl step)):=by
   rw[<- hw,<- eL,<- hwu]
   show zim w hs (zd0 w hs k) (u:Int) bb best (i:Int) hs=_
   unfold zim
   rw[dqT (show (i:Int) < (hs.len:Int) by omega),dqA,dqN,dqN,dqT (show 0<=(i:Int)/\(i:Int) < (hs.len:Int) by omega),dqT (show i < hs.len by omega),dqT (show 0<=(u:Int)/\(u:Int) < ((hs.get i).len:Int) by omega),dqT (show 0<=(i:Int)/\(i:Int) < (40:Int) by omega)];rfl
  by_cases hneg:((hs.get i).get u) (i * 2) >= 0
  ·rw [dqT hneg, dqA] at hS hP
   obtain⟨k1,k2⟩:=ih k (i+1) bb best (by omega) (by omega) hb
   rw[hS,hP]
   refine⟨k1,λ h=>k2 ?_⟩
   rcases h with h | ⟨j,h1,h2,h3⟩
   ·exact .inl h
   ·by_cases hji : j = i
    ·subst hji;exact absurd h3 (Int.not_lt.2 hneg)
    ·exact .inr ⟨j,by omega,h2,h3⟩
  ·rw [dqF hneg, dqB] at hS hP
   obtain⟨⟨g1,_⟩,_⟩:=hat u hu i (by omega)
   have hx:∃ x,hops (hF w (i:Int)) i u ((i:Int)).toNat=some x/\(0:Int)+x < 0:=by
    rw[dqN]
    cases hd:hops (hF w (i:Int)) i u i with
    | none=>rw[hd] at g1;have g1':((hs.get i).get u) (i * 2)=1000000000000:=g1;omega
    | some x=>rw[hd] at g1;have g1':((hs.get i).get u) (i * 2)=x:=g1;exact⟨x,rfl,by omega⟩
   obtain⟨now,L,c1,c2,c3,c4,c5,c6⟩:=walk w hn hs hh (zdZ w hs k) (zd0 w hs k) hs (u:Int) bb best (i:Int) i (by omega) hs u Fuel (i:Int) 0 (⟨0,(λ _=>default)⟩:Sl step) [] (by simp only[Fuel];omega) ⟨by omega,by omega⟩ (by show 0+u<=40;omega) hu (by show -1000000000 * ((0:Nat):Int)<=0;omega) (by show (0:Int)<=1000000000 * ((0:Nat):Int);omega) hx ⟨rfl,λ q hq=>absurd hq (dqW _)⟩ rfl rfl
   have c6':L.length=u:=by rw[c6];show 0+u=u;omega
   have hT:zB7 w now:=⟨(i:Int),L,⟨by omega,by omega⟩,c3,c4,c5,by omega⟩
   have hnl:=zsU hT
   rw[hS,hP]
   show zg4 (zd0 w hs k) w hs Fuel (u:Int) bb best (i:Int) (i:Int) (hs.get i) (i:Int) (0:Int) ((u:Int) - 1) hs (⟨0,(λ _=>default)⟩:Sl step)=true/\(_->zB7 w (zg3 (zdZ w hs k) w hs Fuel (u:Int) bb best (i:Int) (i:Int) (hs.get i) (i:Int) (0:Int) ((u:Int) - 1) hs (⟨0,(λ _=>default)⟩:Sl step)))
   rw[c1,c2]
   unfold zNt zDr zih zii
   rw[hw]
   obtain⟨k1,k2⟩:=ih k (i+1) false now (by omega) (by omega) (.inr ⟨rfl,hT⟩)
   rcases hb with rfl | ⟨rfl,hbt⟩
   ·rw [dqT (show (true = true ∨ best.len ≠ 0) from .inl rfl)]
    simp only[dqA,Bool.true_and]
    exact⟨k1,λ _=>k2 (.inl rfl)⟩
   ·have hbl := zsU hbt
    obtain⟨j1,j2⟩:=ih k (i+1) false best (by omega) (by omega) (.inr ⟨rfl,hbt⟩)
    rw[dqT (show (false=true\/best.len ≠ 0) from .inr (by omega)),zz0 now best (by omega)]
    simp only[dqB,Bool.true_and,decide_true]
    cases decide (zER now best < 0)
    ·simp only[dqB];exact⟨j1,λ _=>j2 (.inl rfl)⟩
    ·simp only[dqA];exact⟨k1,λ _=>k2 (.inl rfl)⟩
theorem zDE (w:web) (hn:NetOk w.Net) (hs:Sl (Sl Tab)) (hh:HsOk w hs) (u:Nat) (hu1:1<=u) (hu:u<=w.Net.Nodes.toNat):zio w (u:Int) hs=true/\((∃ j,j < w.Net.Nodes.toNat/\neg hs u j)->zB7 w (zin w (u:Int) hs)):=by
 obtain⟨a,b⟩:=zz1 w hn hs hh u hu1 hu w.Net.Nodes.toNat Fuel 0 true (⟨0,(λ _=>default)⟩:Sl step) (by omega) (by have:=hn.n40;simp only[Fuel];omega) (.inl rfl)
 exact⟨a,λ ⟨j,h1,h2⟩=>b (.inr ⟨j,Nat.zero_le _,h1,h2⟩)⟩
theorem zz2 (w:web) (hn:NetOk w.Net) (hs:Sl (Sl Tab)) (hh:HsOk w hs) (S2:Int->Sl step) (P2:Int->Bool) (u:Nat) (hu1:1<=u) (hu:u<=w.Net.Nodes.toNat):∀ (m k i:Nat),i+m=w.Net.Nodes.toNat->m < k ->
  (zfh P2 w hs k (u:Int) (i:Int)=true/\zB7 w (zfg S2 w hs k (u:Int) (i:Int))) \/
  ((¬ ∃ j,i<=j/\j < w.Net.Nodes.toNat/\neg hs u j)/\zfh P2 w hs k (u:Int) (i:Int)=P2 (w64 ((u:Int)+(1:Int)))/\zfg S2 w hs k (u:Int) (i:Int)=S2 (w64 ((u:Int)+(1:Int)))):=by
 have hn40:=hn.n40
 have hhl:=hh.len
 intro m
 induction m with
 | zero =>
  intro k i hi hk
  obtain⟨k,rfl⟩:∃ k',k=k'+1:=⟨k - 1,by omega⟩
  refine .inr ⟨λ ⟨j,h1,h2,_⟩=>by omega,?_,?_⟩
  ·show zir P2 w hs (zfh P2 w hs k) (u : Int) (i : Int) = _
   unfold zir
   rw[dqF (show ¬ (i:Int) < (hs.len:Int) by omega),dqB]
  ·show ziq S2 w hs (zfg S2 w hs k) (u : Int) (i : Int) = _
   unfold ziq
   rw[dqF (show ¬ (i:Int) < (hs.len:Int) by omega),dqB]
 | succ m ih =>
  intro k i hi hk
  obtain⟨k,rfl⟩:∃ k',k=k'+1:=⟨k - 1,by omega⟩
  have hw:w64 ((i:Int)+(1:Int))=((i+1:Nat):Int):=by rw[zbo (by omega) (by omega)];omega
  obtain⟨hl1,hat⟩:=hh.at_ i (by omega)
  have eL:tL ((hs.get i).get u) (i:Int)=((hs.get i).get u) (i * 2):=by
   show tg 80 _ (0+((i:Int)).toNat * 2+0)=_
   rw[dqN,show 0+i * 2+0=i * 2 by omega,zhU (by omega)]
  have hS:zfg S2 w hs (k+1) (u:Int) (i:Int)=cond (decide (((hs.get i).get u) (i * 2) < 0)) (zin w (u:Int) hs) (zfg S2 w hs k (u:Int) ((i+1:Nat):Int)):=by
   rw[<- hw,<- eL]
   show ziq S2 w hs (zfg S2 w hs k) (u:Int) (i:Int)=_
   unfold ziq
   rw[dqT (show (i:Int) < (hs.len:Int) by omega),dqA,dqN,dqN]
  have hP:zfh P2 w hs (k+1) (u:Int) (i:Int)=cond (decide (((hs.get i).get u) (i * 2) < 0)) (zio w (u:Int) hs) (zfh P2 w hs k (u:Int) ((i+1:Nat):Int)):=by
   rw[<- hw,<- eL]
   show zir P2 w hs (zfh P2 w hs k) (u:Int) (i:Int)=_
   unfold zir
   rw[dqT (show (i:Int) < (hs.len:Int) by omega),dqA,dqN,dqN,dqT (show 0<=(i:Int)/\(i:Int) < (hs.len:Int) by omega),dqT (show i < hs.len by omega),dqT (show 0<=(u:Int)/\(u:Int) < ((hs.get i).len:Int) by omega),dqT (show 0<=(i:Int)/\(i:Int) < (40:Int) by omega)];rfl
  rw[hS,hP]
  by_cases hneg:((hs.get i).get u) (i * 2) < 0
  ·rw [dqT hneg, dqA, dqA]
   obtain⟨a,b⟩:=zDE w hn hs hh u hu1 hu
   exact .inl ⟨a,b ⟨i,by omega,hneg⟩⟩
  ·rw [dqF hneg, dqB, dqB]
   rcases ih k (i+1) (by omega) (by omega) with h | ⟨h1,h2,h3⟩
   ·exact .inl h
   ·refine .inr ⟨fun ⟨j, g1, g2, g3⟩ => h1 ?_, h2, h3⟩
    by_cases hji:j=i
    ·subst hji;exact absurd g3 hneg
    ·exact⟨j,by omega,g2,g3⟩
theorem ztN (w:web) (hn:NetOk w.Net) (hs:Sl (Sl Tab)) (hh:HsOk w hs):∀ (m k u:Nat),u+m=w.Net.Nodes.toNat->1<=u->m < k->(∃ u' j,u<=u'/\u'<=w.Net.Nodes.toNat/\j < w.Net.Nodes.toNat/\neg hs u' j) ->
  zeA w hs k (u:Int)=true/\zB7 w (zez w hs k (u:Int)):=by
 have hn40:=hn.n40
 intro m
 induction m with
 | zero =>
  intro k u hu h1 hk hex
  obtain⟨k,rfl⟩:∃ k',k=k'+1:=⟨k - 1,by omega⟩
  obtain⟨u',j,g1,g2,g3,g4⟩:=hex
  have:u'=u:=by omega
  subst this
  obtain⟨a,b⟩:=zDE w hn hs hh u' h1 g2
  have e1:zeA w hs (k+1) (u':Int)=zio w (u':Int) hs:=by
   show zit w hs (zeA w hs k) (u':Int)=_
   unfold zit
   rw[dqF (show ¬ (u':Int) < w.Net.Nodes by omega),dqB]
  have e2:zez w hs (k+1) (u':Int)=zin w (u':Int) hs:=by
   show zis w hs (zez w hs k) (u':Int)=_
   unfold zis
   rw[dqF (show ¬ (u':Int) < w.Net.Nodes by omega),dqB]
  rw[e1,e2]
  exact⟨a,b ⟨j,g3,g4⟩⟩
 | succ m ih =>
  intro k u hu h1 hk hex
  obtain⟨k,rfl⟩:∃ k',k=k'+1:=⟨k - 1,by omega⟩
  have hw:w64 ((u:Int)+(1:Int))=((u+1:Nat):Int):=by rw[zbo (by omega) (by omega)];omega
  have e1:zeA w hs (k+1) (u:Int)=zfh (zeA w hs k) w hs Fuel (u:Int) ((0:Nat):Int):=by
   show zit w hs (zeA w hs k) (u:Int)=_
   unfold zit
   rw[dqT (show (u:Int) < w.Net.Nodes by omega),dqA];rfl
  have e2:zez w hs (k+1) (u:Int)=zfg (zez w hs k) w hs Fuel (u:Int) ((0:Nat):Int):=by
   show zis w hs (zez w hs k) (u:Int)=_
   unfold zis
   rw[dqT (show (u:Int) < w.Net.Nodes by omega),dqA];rfl
  rw[e1,e2]
  rcases zz2 w hn hs hh (zez w hs k) (zeA w hs k) u h1 (by omega) w.Net.Nodes.toNat Fuel 0 (by omega) (by simp only[Fuel];omega) with h | ⟨g1,g2,g3⟩
  ·exact h
  ·rw [g2, g3, hw]
   refine ih k (u+1) (by omega) (by omega) (by omega) ?_
   obtain⟨u',j,x1,x2,x3,x4⟩:=hex
   by_cases huu:u'=u
   ·subst huu;exact absurd ⟨j,Nat.zero_le _,x3,x4⟩ g1
   ·exact⟨u',j,by omega,x2,x3,x4⟩
theorem zKP {w:web}(hn:NetOk w.Net){hs:Sl (Sl Tab)}(hh:HsOk w hs) (h : ¬ zbS (We w)):∃ u j,1<=u/\u<=w.Net.Nodes.toNat/\j < w.Net.Nodes.toNat/\neg hs u j:=by
 obtain⟨a,c,h1,h2,h3,h4,h5⟩:=zzL (zKG hn).lt h
 have hF':∀ {c:List Ed} {x y:Nat},zd9 (We w) x c y->(∀ e∈c,a<=e.u/\a<=e.v)->zd9 ((hF w (a:Int)).map edR) x c y:=by
  intro c
  induction c with
  | nil=>intro x y h _;exact h
  | cons e l ih =>
   rintro x y ⟨g1,g2,g3⟩ g
   refine⟨?_,g2,ih g3 (λ e he=>g e (dqf _ he))⟩
   obtain⟨y,hy,rfl⟩:=dqz.1 g1
   have hyo:=zB2 hn hy
   have hg:=g (edS y) (dqj ..)
   have f0:=hyo.f0;have t0:=hyo.t0
   have hg1:a<=y.from_.toNat:=hg.1
   have hg2:a<=y.to.toNat:=hg.2
   exact dqz.2 ⟨edQ y,List.mem_map_of_mem (List.mem_filter.2 ⟨hy,by unfold okY;rw[dqT (show (a:Int)<=y.from_ by omega),dqT (show (a:Int)<=y.to by omega)];rfl⟩),rfl⟩
 obtain⟨c0,k1,k2,k3⟩:=zMN (hF' h2 h5)
 have hc:c.length ≠ 0:=λ e=>by
  have:c=[]:=List.length_eq_zero_iff.1 e
  subst this;exact absurd h3 (by show ¬ (0:Int) < 0;omega)
 obtain⟨x,m1,m2⟩:=zHz (k:=c.length) k1 k3
 refine⟨c.length,a,by omega,h4,h1,?_⟩
 obtain⟨⟨g1,_⟩,_⟩:=(hh.at_ a h1).2 c.length h4 a h1
 rw[m1] at g1
 have g1':((hs.get a).get c.length) (a * 2)=x:=g1
 show ((hs.get a).get c.length) (a * 2) < 0
 omega
def stH (w:web) (i:Nat) (v:Sl (Sl Tab)):Sl (Sl Tab):=⟨v.len,setT i (zsc w (i:Int) w.Net.Nodes) v.get⟩
theorem zKQ (w:web):∀ (m i:Nat) (v:Sl (Sl Tab)),(∀ j,j < i->v.get j=zsc w (j:Int) w.Net.Nodes)->(zlA (stH w) m i v).len=v.len/\∀ j,j < i+m->(zlA (stH w) m i v).get j=zsc w (j:Int) w.Net.Nodes:=by
 intro m
 induction m with
 | zero=>intro i v h;exact⟨rfl,λ j hj=>h j (by omega)⟩
 | succ m ih =>
  intro i v h
  obtain⟨k1,k2⟩:=ih (i+1) (stH w i v) (λ j hj=>by
   show setT i _ v.get j=_
   rw[zfm]
   by_cases hji:j=i
   ·rw[dqP hji,hji]
   ·rw[dqG hji];exact h j (by omega))
  exact⟨k1,λ j hj=>k2 j (by omega)⟩
theorem zKR (w:web) (hn:NetOk w.Net) (h : ¬ zbS (We w)):p89 w=true/\zB7 w (s89 w):=by
  have hn1:=hn.n1;have hn40:=hn.n40
  have hNN:((w.Net.Nodes.toNat:Nat):Int)=w.Net.Nodes:=by omega
  have hm:=λ (i:Nat) (hi:i < w.Net.Nodes.toNat)=>zHA w hn i hi w.Net.Nodes.toNat (by omega)
  rw[hNN] at hm
  have hl := zo1 (step := stH w) (E := fun v => zno w v) (EP := fun v => znp w v) (Inv := fun _ (v : Sl (Sl Tab)) => v.len = w.Net.Nodes.toNat) (a := 0) (n := w.Net.Nodes.toNat) (lpS := fun k v i => zg5 w k i v) (lpP := fun k v i => zg6 w k i v)
    (λ k i v _ hi hv=>by
      show ziu w (zg5 w k) (i:Int) v=zg5 w k (w64 ((i:Int)+(1:Int))) (stH w i v)
      generalize zg5 w k=S
      unfold ziu stH
      rw[dqT (show (i:Int) < (w.Net.Nodes.toNat:Int) by omega),dqA,dqN])
    (λ k v=>by
      show ziu w (zg5 w k) (w.Net.Nodes.toNat:Int) v=_
      unfold ziu
      rw[dqF (show ¬ (w.Net.Nodes.toNat:Int) < (w.Net.Nodes.toNat:Int) by omega),dqB])
    (λ k i v _ hi hv=>by
      show ziv w (zg6 w k) (i:Int) v=zg6 w k (w64 ((i:Int)+(1:Int))) (stH w i v)
      generalize zg6 w k=S
      have hv':v.len=w.Net.Nodes.toNat:=hv
      unfold ziv stH
      rw[dqT (show (i:Int) < (w.Net.Nodes.toNat:Int) by omega),dqA,(hm i hi).1,dqN,dqT (show 0<=(i:Int)/\(i:Int) < (v.len:Int) by omega),dqT (show i < v.len by omega)];rfl)
    (λ k v=>by
      show ziv w (zg6 w k) (w.Net.Nodes.toNat:Int) v=_
      unfold ziv
      rw[dqF (show ¬ (w.Net.Nodes.toNat:Int) < (w.Net.Nodes.toNat:Int) by omega),dqB])
    (λ i v _ _ h=>h) (Nat.zero_le _) (by omega) (⟨w.Net.Nodes.toNat,(λ _=>(⟨0,λ _=>(λ _=>(0:Int))⟩:(Sl Tab)))⟩:Sl (Sl Tab)) rfl
  obtain⟨k1,k2⟩:=zKQ w (w.Net.Nodes.toNat - 0) 0 (⟨w.Net.Nodes.toNat,(λ _=>(⟨0,λ _=>(λ _=>(0:Int))⟩:(Sl Tab)))⟩:Sl (Sl Tab)) (λ j hj=>absurd hj (dqW _))
  generalize hhs:zlA (stH w) (w.Net.Nodes.toNat - 0) 0 (⟨w.Net.Nodes.toNat,(λ _=>(⟨0,λ _=>(λ _=>(0:Int))⟩:(Sl Tab)))⟩:Sl (Sl Tab))=hs at *
  have hh:HsOk w hs:=⟨k1,λ i hi=>by rw[k2 i (by omega)];exact⟨(hm i hi).2.1,(hm i hi).2.2⟩⟩
  obtain⟨u,j,x1,x2,x3,x4⟩:=zKP hn hh h
  obtain⟨r1,r2⟩:=ztN w hn hs hh (w.Net.Nodes.toNat - 1) Fuel 1 (by omega) (dqt _) (by simp only[Fuel];omega) ⟨u,j,x1,x2,x3,x4⟩
  have e2:s89 w=zez w hs Fuel ((1:Nat):Int):=by
    have e:s89 w=zno w hs:=hl.2
    rw[e];rfl
  have e1:znq w (0:Int) (⟨w.Net.Nodes.toNat,(λ _=>(⟨0,λ _=>(λ _=>(0:Int))⟩:(Sl Tab)))⟩:Sl (Sl Tab))=zeA w hs Fuel ((1:Nat):Int):=by
    have e:znq w (0:Int) (⟨w.Net.Nodes.toNat,(λ _=>(⟨0,λ _=>(λ _=>(0:Int))⟩:(Sl Tab)))⟩:Sl (Sl Tab))=znp w hs:=hl.1
    rw[e];rfl
  refine⟨?_,by rw[e2];exact r2⟩
  unfold p89
  rw[e1,r1,dqT (show 0<=w.Net.Nodes/\w.Net.Nodes=w.Net.Nodes/\w.Net.Nodes<=1000000 from ⟨by omega,rfl,by omega⟩)];rfl
end Go.Proofs
namespace Go.Pm
end Go.Pm
namespace Go.Proofs
open Go Go.Pm
set_option maxRecDepth 100000
set_option linter.unusedVariables false
def fa (a:web) (i j:Nat):Int:=ztR (dst (We a) a.Net.Nodes.toNat i j)
def Fo (f:Nat->Nat->Int) (t:Tie):Prop:=(t.Low = -1000000000000\/f t.To.toNat t.From.toNat<=-t.Low)/\(t.High=1000000000000\/f t.From.toNat t.To.toNat<=t.High)
theorem Fo.mono {f f':Nat->Nat->Int}{t:Tie}{N:Nat}(hf:t.From.toNat < N) (ht:t.To.toNat < N) (h:∀ i j,i < N->f i j<=f' i j) (h':Fo f' t):Fo f t :=
 ⟨h'.1.imp id λ k=>Int.le_trans (h _ _ ht) k,h'.2.imp id λ k=>Int.le_trans (h _ _ hf) k⟩
def wg (n:Net) (g:Nat->Bool):web:=⟨n,⟨0,λ l=>cond (g (l.getD 0 0).toNat) (some [1]) none⟩⟩
theorem zmc (n:Net) (g:Nat->Bool) (j:Nat):znK (wg n g) j=g j:=by
 show ((zpl (cond (g (((j:Int) :: []).getD 0 0).toNat) (some [1]) none) 0) != 0)=g j
 rw[show (((j:Int) :: []).getD 0 0).toNat=j from rfl]
 cases g j <;> rfl
theorem zz3 {a b:web}(ha:NetOk a.Net) (hab:b.Net=a.Net) (h:∀ j,j < a.Net.Ties.len->znK b j=true->znK a j=true):∀ e∈We a,e∈We b:=λ e he=>by
 obtain⟨j,h1,h2,h3⟩:=(zsQ ha).1 he
 refine (zsQ (a:=b) (by rw[hab];exact ha)).2 ⟨j,by rw[hab];exact h1,?_,by rw[hab];exact h3⟩
 cases hb:znK b j
 ·rfl
 ·rw[h j h1 hb] at h2;cases h2
section
variable {n:Net}(hn:NetOk n) (hN:zbS (En n))
include hn in
theorem zKS (g:Nat->Bool):∀ e∈We (wg n g),e∈En n:=zz3 (a:=wg n g) (b:=W n) hn rfl λ j _ h=>by
 have:znK (W n) j=false:=rfl
 rw[this] at h;cases h
include hn hN in
theorem zHE (g:Nat->Bool):zbS (We (wg n g)):=zd3 (zKS hn g) hN
include hn hN in
end
end Go.Proofs
namespace Go.Proofs
open Go Go.Pm
set_option maxRecDepth 100000
set_option linter.unusedVariables false
def IsP {α:Type}(v:Sl α) (L:List α):Prop:=v.len=L.length/\∀ k (h:k < L.length),v.get k=L[k]
theorem zKT {α:Type}(n:Nat) (g:Nat->α) (x:α) (j:Nat):zc2 n g (λ _=>x) j=if n<=j then x else g j:=by
 show (match Nat.ble n j with | true=>x | false=>g j)=_
 by_cases h:n<=j
 ·rw[dqP h,show Nat.ble n j=true from Nat.ble_eq_true_of_le h]
 ·rw[dqG h,show Nat.ble n j=false from Bool.eq_false_iff.2 λ e=>h (Nat.le_of_ble_eq_true e)]
theorem zz4 {α:Type}{v:Sl α}{L:List α}(h:IsP v L) (y:α):IsP ⟨v.len+1,zc2 v.len v.get (λ _=>y)⟩ (L ++ [y]):=by
 obtain⟨h1,h2⟩:=h
 refine⟨by show v.len+1=_;simp[h1],λ k hk=>?_⟩
 show zc2 v.len v.get (λ _=>y) k=_
 rw[zKT,List.getElem_append]
 simp at hk
 by_cases hq:k < L.length
 ·rw[dqG (by omega),dif_pos hq,h2 k hq]
 ·rw[dqP (by omega),dif_neg hq];simp
def stP {α:Type}(f:Nat->α) (b:Nat->Bool) (i:Nat) (v:Sl α):Sl α:=cond (b i) ⟨v.len+1,zc2 v.len v.get (λ _=>f i)⟩ v
theorem zz5 {α : Type} (f : Nat → α) (b : Nat → Bool) : ∀ (m i : Nat) (v : Sl α) (L : List α), IsP v L → IsP (zlA (stP f b) m i v) (L ++ ((List.range' i m).filter b).map f)
  | 0,i,v,L,h=>by
    show IsP v _
    simpa using h
  | m+1,i,v,L,h=>by
    rw[List.range'_succ]
    show IsP (zlA (stP f b) m (i+1) (stP f b i v)) _
    cases hb:b i
    · rw [List.filter_cons_of_neg (by simp [hb]), show stP f b i v = v by unfold stP; rw [hb]; rfl]
      exact zz5 f b m (i+1) v L h
    · rw [List.filter_cons_of_pos hb, show stP f b i v = ⟨v.len + 1, zc2 v.len v.get (fun _ => f i)⟩ by unfold stP; rw [hb]; rfl]
      have:=zz5 f b m (i+1) _ _ (zz4 h (f i))
      simpa using this
theorem zHF {α:Type}(f:Nat->α) (b:Nat->Bool){i:Nat}{v:Sl α}(h:v.len<=i):(stP f b i v).len<=i+1:=by
 unfold stP;cases b i
 ·exact Nat.le_succ_of_le h
 ·exact Nat.succ_le_succ h
theorem zz6 {α β : Type} [Inhabited α] (f : Nat → α) (b : Nat → Bool) {n : Nat} {E : Sl α → β} {EP : Sl α → Bool} {lpS : Nat → Sl α → Int → β} {lpP : Nat → Sl α → Int → Bool}
    (hS:∀ (k i:Nat) (v:Sl α),i < n->v.len<=i->lpS (k+1) v (i:Int)=lpS k (stP f b i v) (w64 ((i:Int)+(1:Int))))
    (hE:∀ k v,lpS (k+1) v (n:Int)=E v)
    (hP:∀ (k i:Nat) (v:Sl α),i < n->v.len<=i->lpP (k+1) v (i:Int)=lpP k (stP f b i v) (w64 ((i:Int)+(1:Int))))
    (hPE:∀ k v,lpP (k+1) v (n:Int)=EP v) (hn:n<=1000000) :
    ∃ v,IsP v (((List.range n).filter b).map f)/\lpP Fuel ⟨0,λ _=>default⟩ (0:Int)=EP v/\lpS Fuel ⟨0,λ _=>default⟩ (0:Int)=E v:=by
  have h := zo1 (step := stP f b) (E := E) (EP := EP) (Inv := fun i v => v.len ≤ i) (a := 0) (n := n) (lpS := lpS) (lpP := lpP)
    (λ k i v _ hi hv=>hS k i v hi hv) hE (λ k i v _ hi hv=>hP k i v hi hv) hPE (λ i v _ _ hv=>zHF f b hv) (Nat.zero_le _) (by omega) ⟨0,λ _=>default⟩ (dqt 0)
  refine⟨_,?_,h.1,h.2⟩
  have:=zz5 f b n 0 ⟨0,λ _=>default⟩ [] ⟨rfl,λ k hk=>absurd hk (dqW _)⟩
  rw[List.range_eq_range']
  simpa using this
theorem zz7 {l:Sl Int}{L:List Int}(h:IsP l L) (hl:L.length<=1000000) (x:Int):p60 l x=true/\s60 l x=decide (x∈L):=by
  have hl':l.len<=1000000:=by rw[h.1];exact hl
  have key := zzy (good := fun i => !(l.get i == x)) (bad := true) (fin := false) (zDr := true) (n := l.len) (lpS := ziP l x) (lpP := ziQ l x)
    (λ k i hi=>by
      show ziN l x (ziP l x k) (i:Int)=_
      generalize ziP l x k=S
      unfold ziN
      rw[dqT (show (i:Int) < (l.len:Int) by omega),dqA,dqN]
      cases (l.get i == x) <;> rfl)
    (λ k=>by
      show ziN l x (ziP l x k) (l.len:Int)=_
      unfold ziN
      rw[dqF (show ¬ (l.len:Int) < (l.len:Int) by omega),dqB])
    (λ k i hi=>by
      show ziO l x (ziQ l x k) (i:Int)=_
      generalize ziQ l x k=S
      unfold ziO
      rw[dqT (show (i:Int) < (l.len:Int) by omega),dqA,dqN,dqT (show 0<=(i:Int)/\(i:Int) < (l.len:Int) by omega),Bool.true_and]
      cases (l.get i == x) <;> rfl)
    (λ k=>by
      show ziO l x (ziQ l x k) (l.len:Int)=_
      unfold ziO
      rw[dqF (show ¬ (l.len:Int) < (l.len:Int) by omega),dqB])
    (by omega)
  by_cases hx:x∈L
  · obtain ⟨k, hk, e⟩ := List.getElem_of_mem hx
    have hno : ¬ ∀ i,i < l.len->(!(l.get i == x))=true:=λ hq=>by
      have:=hq k (by rw[h.1];exact hk)
      rw[h.2 k hk,e] at this;simp at this
    rw[dqT hx]
    exact key.2 hno
  · have hyes:∀ i,i < l.len->(!(l.get i == x))=true:=λ i hi=>by
      have hi':i < L.length:=by rw[<- h.1];exact hi
      rw[h.2 i hi']
      have : ¬ L[i]=x:=λ e=>hx (e ▸ List.getElem_mem hi')
      simp[this]
    rw[dqF hx]
    exact key.1 hyes
theorem zKU {a b:Sl Int}{L:List Int}(ha:IsP a L) (hb:IsP b L) (hl:L.length<=1000000):p25 a b=true/\s25 a b=true:=by
  have hl':a.len<=1000000:=by rw[ha.1];exact hl
  have e:a.len=b.len:=ha.1.trans hb.1.symm
  unfold p25 s25
  rw[show ((a.len:Int) != (b.len:Int))=false by rw[e];simp]
  have key := zzy (good := fun i => !(a.get i != b.get i)) (bad := false) (fin := true) (zDr := true) (n := a.len) (lpS := ziH a b) (lpP := ziI a b)
    (λ k i hi=>by
      show ziF a b (ziH a b k) (i:Int)=_
      generalize ziH a b k=S
      unfold ziF
      rw[dqT (show (i:Int) < (a.len:Int) by omega),dqA,dqN]
      cases (a.get i != b.get i) <;> rfl)
    (λ k=>by
      show ziF a b (ziH a b k) (a.len:Int)=_
      unfold ziF
      rw[dqF (show ¬ (a.len:Int) < (a.len:Int) by omega),dqB])
    (λ k i hi=>by
      show ziG a b (ziI a b k) (i:Int)=_
      generalize ziI a b k=S
      unfold ziG
      rw[dqT (show (i:Int) < (a.len:Int) by omega),dqA,dqN,dqT (show 0<=(i:Int)/\(i:Int) < (a.len:Int) by omega),Bool.true_and,dqT (show 0<=(i:Int)/\(i:Int) < (b.len:Int) by omega),Bool.true_and]
      cases (a.get i != b.get i) <;> rfl)
    (λ k=>by
      show ziG a b (ziI a b k) (a.len:Int)=_
      unfold ziG
      rw[dqF (show ¬ (a.len:Int) < (a.len:Int) by omega),dqB])
    (by omega)
  exact key.1 λ i hi=>by
    have hi':i < L.length:=by rw[<- ha.1];exact hi
    rw[ha.2 i hi',hb.2 i hi'];simp
structure Pick (n m : Net) (g : Nat → Bool) : Prop where
  nodes:m.Nodes=n.Nodes
  ties:IsP m.Ties (((List.range n.Ties.len).filter λ j=>!g j).map n.Ties.get)
theorem zKV (n:Net) (hn:n.Ties.len<=210){l:Sl Int}{L:List Int}(hl:IsP l L) (hL:L.length<=1000000):p27 n l=true/\Pick n (s27 n l) (λ j=>decide ((j:Int)∈L)):=by
  obtain ⟨v, hv, h1, h2⟩ := zz6 (α := Tie) (β := Net) n.Ties.get (fun j => !decide ((j : Int) ∈ L)) (n := n.Ties.len) (E := fun v => (⟨n.Nodes, v⟩ : Net)) (EP := fun _ => true) (lpS := fun k v i => zha n l k i v) (lpP := fun k v i => zhb n l k i v)
    (λ k i v hi hv=>by
      show ziR n l (zha n l k) (i:Int) v=zha n l k (w64 ((i:Int)+(1:Int))) _
      generalize zha n l k=S
      unfold ziR zqX stP
      rw[dqT (show (i:Int) < (n.Ties.len:Int) by omega),dqA,dqN,(zz7 hl hL (i:Int)).2]
      show cond (!decide ((i:Int)∈L)) _ _=S _ (cond (!decide ((i:Int)∈L)) _ _)
      cases (!decide ((i:Int)∈L)) <;> rfl)
    (λ k v=>by
      show ziR n l (zha n l k) (n.Ties.len:Int) v=_
      unfold ziR
      rw[dqF (show ¬ (n.Ties.len:Int) < (n.Ties.len:Int) by omega),dqB])
    (λ k i v hi hv=>by
      show ziS n l (zhb n l k) (i:Int) v=zhb n l k (w64 ((i:Int)+(1:Int))) _
      generalize zhb n l k=S
      unfold ziS zqY stP
      rw[dqT (show (i:Int) < (n.Ties.len:Int) by omega),dqA,(zz7 hl hL (i:Int)).1,(zz7 hl hL (i:Int)).2,dqT (show 0<=(i:Int)/\(i:Int) < (n.Ties.len:Int) by omega),dqT (show (v.len+1) * 32<=140737488355328/\v.len+1<=9223372036854775807 by omega),dqN]
      show (_ && cond (!decide ((i:Int)∈L)) _ _)=S _ (cond (!decide ((i:Int)∈L)) _ _)
      cases (!decide ((i:Int)∈L)) <;> rfl)
    (λ k v=>by
      show ziS n l (zhb n l k) (n.Ties.len:Int) v=_
      unfold ziS
      rw[dqF (show ¬ (n.Ties.len:Int) < (n.Ties.len:Int) by omega),dqB])
    (by omega)
  have e:s27 n l=⟨n.Nodes,v⟩:=h2
  rw[e]
  exact⟨h1,rfl,hv⟩
section
variable {n m:Net}{g:Nat->Bool}(h:Pick n m g)
include h in
theorem Pick.at {q:Nat}(hq:q < m.Ties.len):∃ hk:q < ((List.range n.Ties.len).filter λ j=>!g j).length,m.Ties.get q=n.Ties.get ((List.range n.Ties.len).filter λ j=>!g j)[q]/\((List.range n.Ties.len).filter λ j=>!g j)[q] < n.Ties.len/\g ((List.range n.Ties.len).filter λ j=>!g j)[q]=false:=by
 have hk:q < ((List.range n.Ties.len).filter λ j=>!g j).length:=by have:=h.ties.1;rw[List.length_map] at this;omega
 have hm:=List.getElem_mem hk
 rw[List.mem_filter,List.mem_range] at hm
 refine⟨hk,?_,hm.1,by simpa using hm.2⟩
 rw[h.ties.2 q (by rw[List.length_map];exact hk),List.getElem_map]
include h in
theorem Pick.of {j:Nat}(hj:j < n.Ties.len) (hg:g j=false):∃ q,q < m.Ties.len/\∃ hk:q < ((List.range n.Ties.len).filter λ j=>!g j).length,((List.range n.Ties.len).filter λ j=>!g j)[q]=j:=by
 have hm:j∈(List.range n.Ties.len).filter λ j=>!g j:=List.mem_filter.2 ⟨List.mem_range.2 hj,by simp[hg]⟩
 obtain⟨q,hq,e⟩:=List.getElem_of_mem hm
 exact⟨q,by rw[h.ties.1,List.length_map];exact hq,hq,e⟩
include h in
theorem Pick.net (hn:NetOk n):NetOk m:=by
 have hlen:m.Ties.len<=n.Ties.len:=by
  have:=h.ties.1
  rw[List.length_map] at this
  have h2:=List.length_filter_le (λ j=>!g j) (List.range n.Ties.len)
  rw[List.length_range] at h2
  omega
 have h1:=hn.n1;have h2:=hn.n40;have h3:=hn.len
 refine⟨by rw[h.nodes];exact h1,by rw[h.nodes];exact h2,by omega,λ q hq=>?_⟩
 obtain⟨hk,e,h4,_⟩:=h.at hq
 rw[e,h.nodes];exact hn.tie _ h4
include h in
theorem Pick.edges (hn:NetOk n) (e:Ed):e∈En m↔e∈We (wg n g):=by
 have hm:=h.net hn
 rw[zsQ (a:=W m) hm,zsQ (a:=wg n g) hn]
 constructor
 ·rintro ⟨q, h1, _, h3⟩
  obtain⟨hk,e1,h4,h5⟩:=h.at h1
  refine⟨_,h4,by rw[zmc];exact h5,?_⟩
  have h3:((m.Ties.get q).High ≠ 1000000000000/\e=⟨(m.Ties.get q).From.toNat,(m.Ties.get q).To.toNat,(m.Ties.get q).High⟩)\/((m.Ties.get q).Low ≠ -1000000000000/\e=⟨(m.Ties.get q).To.toNat,(m.Ties.get q).From.toNat,-(m.Ties.get q).Low⟩):=h3
  rw[e1] at h3;exact h3
 ·rintro ⟨j, h1, h2, h3⟩
  rw[zmc] at h2
  obtain⟨q,h4,hk,e1⟩:=h.of h1 h2
  obtain⟨_,e2,_⟩:=h.at h4
  refine⟨q,h4,rfl,?_⟩
  show ((m.Ties.get q).High ≠ 1000000000000/\e=⟨(m.Ties.get q).From.toNat,(m.Ties.get q).To.toNat,(m.Ties.get q).High⟩)\/((m.Ties.get q).Low ≠ -1000000000000/\e=⟨(m.Ties.get q).To.toNat,(m.Ties.get q).From.toNat,-(m.Ties.get q).Low⟩)
  rw[e2,e1];exact h3
include h in
theorem Pick.noNeg (hn:NetOk n) (hN:zbS (En n)):zbS (En m):=zd3 (λ e he=>(h.edges hn e).1 he) (zHE hn hN g)
include h in
theorem Pick.fr (hn:NetOk n) (hN:zbS (En n)) {i:Nat}(hi:i < n.Nodes.toNat) (j:Nat):fr m i j=fa (wg n g) i j:=by
 have hE:EdOk (En m) n.Nodes.toNat:=by have:=zKG (a:=W m) (h.net hn);rw[show (W m).Net.Nodes=n.Nodes from h.nodes] at this;exact this
 show ztR (dst (En m) m.Nodes.toNat i j)=ztR (dst (We (wg n g)) n.Nodes.toNat i j)
 rw[h.nodes]
 exact zzK (zKG (a:=wg n g) hn) hE (h.noNeg hn hN) hi (λ e he=>(h.edges hn e).2 he) (λ e he=>(h.edges hn e).1 he)
end
end Go.Proofs
namespace Go.Proofs
open Go Go.Pm
set_option maxRecDepth 100000
set_option linter.unusedVariables false
theorem zrt {S : List step} : ∀ {L : List step} {a b : Int}, ChS S a L b → ∀ y ∈ L, y ∈ S
  | [],_,_,_,y,hy=>by cases hy
  | z :: L,a,b,⟨h1,_,h3⟩,y,hy=>by
    rcases dqq.1 hy with rfl | hy
    · exact h1
    · exact zrt h3 y hy
theorem zDF {S S' : List step} : ∀ {L : List step} {a b : Int}, (∀ y ∈ L, y ∈ S') → ChS S a L b → ChS S' a L b
  | [],_,_,_,h=>h
  | z :: L,a,b,hs,⟨_,h2,h3⟩=>⟨hs z dqj,h2,zDF (λ y hy=>hs y (dqf _ hy)) h3⟩
theorem zDG {w : web} : ∀ {L : List step} {a b : Int}, ChS (Ws w) a L b → zd9 (We w) a.toNat (L.map edS) b.toNat ∧ wt (L.map edS) = wtS L
  | [],a,b,h=>by
    have h:a=b:=h
    subst h;exact⟨rfl,rfl⟩
  | y :: L,a,b,⟨h1,h2,h3⟩=>by
    obtain⟨h4,h5⟩:=zDG h3
    subst h2
    exact⟨⟨dqz.2 ⟨y,h1,rfl⟩,rfl,h4⟩,by show y.length+wt (L.map edS)=y.length+wtS L;rw[h5]⟩
theorem zo8 {a b : web} (hab : b.Net = a.Net) : ∀ (m i : Nat), (∀ j, i ≤ j → j < i + m → znK b j = znK a j) → stL b m i = stL a m i
  | 0,_,_=>rfl
  | m+1,i,h=>by
    show stK b i ++ stL b m (i+1)=stK a i ++ stL a m (i+1)
    rw[zo8 hab m (i+1) λ j h1 h2=>h j (by omega) (by omega)]
    unfold stK
    rw[h i (dqt _) (by omega),hab]
theorem zCa {a b:web}(hab:b.Net=a.Net) (h:∀ j,j < a.Net.Ties.len->znK b j=znK a j):Ws b=Ws a:=by
 show stL b b.Net.Ties.len 0=stL a a.Net.Ties.len 0
 rw[hab]
 exact zo8 hab _ _ λ j _ h2=>h j (by omega)
def sdF (n:Net) (g:Nat->Bool):Bool:=!(s88 (wg n g))
section
variable {n:Net}(hn:NetOk n)
include hn
theorem zmd (g:Nat->Bool):sdF n g=true↔zbS (We (wg n g)):=by
 rw[<- zzP (wg n g) hn];unfold sdF;cases s88 (wg n g) <;> simp
theorem zz8 {g:Nat->Bool}(h:sdF n g=false) : ¬ zbS (We (wg n g)):=λ h'=>by rw[(zmd hn g).2 h'] at h;cases h
theorem tie_of {g:Nat->Bool}{y:step}(h:y∈Ws (wg n g)):∃ j,j < n.Ties.len/\g j=false/\y.Use.Tie=(j:Int)/\∀ X:Nat->Bool,X j=false->y∈Ws (wg n X):=by
 obtain⟨j,_,h2,h3⟩:=zja.1 h
 have h2:j < 0+n.Ties.len:=h2
 obtain⟨h4,h5⟩:=zjb.1 h3
 rw[zmc] at h4
 refine⟨j,by omega,h4,?_,λ X hX=>zja.2 ⟨j,Nat.zero_le _,h2,zjb.2 ⟨by rw[zmc];exact hX,h5⟩⟩⟩
 rcases h5 with ⟨_,rfl⟩ | ⟨_,rfl⟩ <;> rfl
theorem zsV (g g':Nat->Bool) (h:∀ j,j < n.Ties.len->g j=g' j):sdF n g=sdF n g':=by
 have key:∀ g g':Nat->Bool,(∀ j,j < n.Ties.len->g j=g' j)->zbS (We (wg n g))->zbS (We (wg n g')):=λ g g' h hN =>
  zd3 (zz3 (a:=wg n g') (b:=wg n g) hn rfl λ j hj e=>by rw[zmc] at e ⊢;rw[<- h j hj];exact e) hN
 cases h1:sdF n g <;> cases h2:sdF n g'
 ·rfl
 ·exact absurd (key g' g (λ j hj=>(h j hj).symm) ((zmd hn g').1 h2)) (zz8 hn h1)
 ·exact absurd (key g g' h ((zmd hn g).1 h1)) (zz8 hn h2)
 ·rfl
theorem hit {g X:Nat->Bool}{L:List step}{a:Int}(h2:ChS (Ws (wg n g)) a L a) (h3:wtS L < 0) (hsX:sdF n X=true):∃ y∈L,X y.Use.Tie.toNat=true:=by
 refine Classical.byContradiction λ hno=>?_
 have hall:∀ y∈L,y∈Ws (wg n X):=λ y hy=>by
  obtain⟨j,_,_,h5,h6⟩:=tie_of hn (zrt h2 y hy)
  exact h6 X (Bool.eq_false_iff.2 λ hj=>hno ⟨y,hy,by rw[h5];exact hj⟩)
 obtain⟨h4,h5⟩:=zDG (zDF hall h2)
 have:=(zmd hn X).1 hsX _ _ h4
 omega
end
end Go.Proofs
namespace Go.Proofs
open Go Go.Pm
set_option maxRecDepth 100000
set_option linter.unusedVariables false
structure MpOk (n : Net) (g : Nat → Bool) (w : web) : Prop where
  net:w.Net=n
  key:∀ j:Nat,w.out.F [(j:Int)]=if j < n.Ties.len/\g j=true then some [1] else none
  num:w.out.n=(keysB n.Ties.len g).length
theorem MpOk.out {n:Net}{g:Nat->Bool}{w:web}(h:MpOk n g w) (j:Nat) (hj:j < n.Ties.len):znK w j=znK (wg n g) j:=by
 rw[zmc]
 unfold znK
 rw[h.key]
 cases hg:g j
 ·rw[dqG (by simp)];rfl
 ·rw[dqP ⟨hj,rfl⟩];rfl
theorem MpOk.ws {n:Net}{g:Nat->Bool}{w:web}(h:MpOk n g w):Ws w=Ws (wg n g):=zCa (a:=wg n g) (b:=w) h.net h.out
theorem MpOk.sd {n:Net}{g:Nat->Bool}{w:web}(h:MpOk n g w) (hn:NetOk n):p88 w=true/\s88 w = !sdF n g:=by
 have hw:NetOk w.Net:=by rw[h.net];exact hn
 refine⟨(zzO w hw).1,?_⟩
 have h1:=zzP w hw
 have h2:=zmd hn g
 have e:We w=We (wg n g):=by unfold We;rw[h.ws]
 rw[e] at h1
 cases hs:s88 w <;> cases hd:sdF n g
 ·rw[hd] at h2;exact absurd (h2.2 (h1.1 hs)) dqk
 ·rfl
 ·rfl
 ·rw[hs] at h1;exact absurd (h1.2 (h2.1 hd)) (λ e=>by cases e)
theorem zz9 {F : List Int → Option (List Int)} {g : Nat → Bool} {N : Nat} (hF : ∀ j : Nat, F [(j : Int)] = if j < N ∧ g j = true then some [1] else none) :
  ∀ (m i f:Nat),i+m=N->m<=f->zmk F f (i:Int) ((List.range' i m).filter g).length=some (((List.range' i m).filter g).map λ (j:Nat)=>(j:Int))
 | 0,i,f,_,_=>by cases f <;> rfl
 | m+1,i,0,_,h=>by omega
 | m+1,i,f+1,hi,h=>by
  have ih:=zz9 hF m (i+1) f (by omega) (by omega)
  rw[show ((i+1:Nat):Int)=(i:Int)+1 from rfl] at ih
  rw[List.range'_succ,List.filter_cons]
  cases hg:g i
  ·rw [dqG (by simp)]
   cases hr:(List.filter g (List.range' (i+1) m)) with
   | nil=>rfl
   | cons x r =>
    rw[hr] at ih
    show zmk F (f+1) (i:Int) (r.length+1)=_
    have e:F [(i:Int)]=none:=by rw[hF,dqG (by rw[hg];simp)]
    simp only[zmk,e]
    exact ih
  ·rw [dqP rfl]
   show zmk F (f+1) (i:Int) ((List.filter g (List.range' (i+1) m)).length+1)=_
   have e:F [(i:Int)]=some [1]:=by rw[hF,dqP ⟨by omega,hg⟩]
   simp only[zmk,e,ih]
   rfl
theorem MpOk.keys {n:Net}{g:Nat->Bool}{w:web}(h:MpOk n g w) (hn:n.Ties.len<=1000000):w.out.n<=1000000/\zmk w.out.F 9223372036854775808 0 w.out.n=some ((keysB n.Ties.len g).map λ (j:Nat)=>(j:Int)):=by
 have hl:(keysB n.Ties.len g).length<=n.Ties.len:=by
  have:=List.length_filter_le g (List.range n.Ties.len)
  rw[List.length_range] at this;exact this
 refine⟨by rw[h.num];omega,?_⟩
 have:=zz9 (F:=w.out.F) h.key n.Ties.len 0 9223372036854775808 (by omega) (by omega)
 rw[h.num]
 unfold keysB
 rw[List.range_eq_range']
 exact this
def zjB (v:Sl (Sl Int)) (A:List (List Nat)):Prop:=v.len=A.length/\∀ i (h:i < A.length),IsP (v.get i) (A[i].map λ (j:Nat)=>(j:Int))
theorem zsW {v s:Sl (Sl Int)}{A B:List (List Nat)}(h:zjB v A) (h':zjB s B):zjB ⟨v.len+s.len,zc2 v.len v.get s.get⟩ (A ++ B):=by
 obtain⟨h1,h2⟩:=h
 obtain⟨h3,h4⟩:=h'
 refine⟨by show v.len+s.len=_;simp[h1,h3],λ k hk=>?_⟩
 show IsP (match Nat.ble v.len k with | true=>s.get (k - v.len) | false=>v.get k) _
 rw[dqu] at hk
 by_cases hq:k < A.length
 ·rw [show Nat.ble v.len k = false from Bool.eq_false_iff.2 fun e => by have := Nat.le_of_ble_eq_true e; omega]
  have:=h2 k hq
  rw[List.getElem_append_left hq];exact this
 ·rw [show Nat.ble v.len k = true from Nat.ble_eq_true_of_le (by omega)]
  have:=h4 (k - v.len) (by omega)
  rw[List.getElem_append_right (by omega)]
  simp only[h1] at this ⊢
  exact this
theorem zKW {n:Net}{g:Nat->Bool}{w:web}(h:MpOk n g w){j:Nat}(hj:j < n.Ties.len) (hg:g j=false):MpOk n (zAg g j) ⟨⟨w.Net.Nodes,w.Net.Ties⟩,⟨w.out.n+1,zc8 [(j:Int)] [1] w.out.F⟩⟩:=by
 refine⟨h.net,λ q=>?_,?_⟩
 ·show (match decide ([(q : Int)] = [(j : Int)]) with | true => some [1] | false => w.out.F [(q : Int)]) = _
  by_cases hq:q=j
  ·subst hq
   rw[show decide ([(q:Int)]=[(q:Int)])=true by simp,dqP ⟨hj,by simp[zAg]⟩]
  ·rw [show decide ([(q : Int)] = [(j : Int)]) = false by simp; omega]
   show w.out.F [(q:Int)]=_
   rw[h.key]
   have e:zAg g j q=g q:=by simp[zAg,hq]
   rw[e]
 ·show w.out.n + 1 = _
  rw[h.num,zo4 hj hg]
theorem del_eq {F:List Int->Option (List Int)}{x:Int}(h:F [x]=none):zAc [x] (zc8 [x] [1] F)=F:=by
 funext l
 show (match decide (l=[x]) with | true=>none | false=>(match decide (l=[x]) with | true=>some [1] | false=>F l))=F l
 by_cases e:l=[x]
 ·rw[dqT e,e,h]
 ·rw[dqF e]
structure Fnd (n : Net) (k : Nat) (g : Nat → Bool) (A : List (List Nat)) : Prop where
  len:A.length<=40 ^ k
  sub:∀ L∈A,∃ X:Nat->Bool,sdF n X=true/\L=keysB n.Ties.len X/\L.length<=(keysB n.Ties.len g).length+k
  all:∀ X:Nat->Bool,(∀ j,j < n.Ties.len->g j=true->X j=true)->sdF n X=true->(keysB n.Ties.len X).length<=(keysB n.Ties.len g).length+k->∃ Y:Nat->Bool,(∀ j,j < n.Ties.len->Y j=true->X j=true)/\keysB n.Ties.len Y∈A
structure Fnp (n : Net) (k : Nat) (g : Nat → Bool) (L : List step) (i : Nat) (A : List (List Nat)) : Prop where
  len:A.length<=i * 40 ^ k
  sub:∀ M∈A,∃ X:Nat->Bool,sdF n X=true/\M=keysB n.Ties.len X/\M.length<=(keysB n.Ties.len g).length+(k+1)
  all:∀ X:Nat->Bool,(∀ j,j < n.Ties.len->g j=true->X j=true)->sdF n X=true->(keysB n.Ties.len X).length<=(keysB n.Ties.len g).length+(k+1)->(∃ q,∃ h:q < L.length,q < i/\X L[q].Use.Tie.toNat=true)->∃ Y:Nat->Bool,(∀ j,j < n.Ties.len->Y j=true->X j=true)/\keysB n.Ties.len Y∈A
section
variable [Slf69] {n:Net}
theorem zDH {k : Nat} (hk : k ≤ 3) (ih : ∀ (g : Nat → Bool) (w : web), MpOk n g w → Slf69.r.P w (k : Int) = true ∧ (Slf69.r.S w (k : Int)).2 = w ∧ ∃ B, zjB (Slf69.r.S w (k : Int)).1 B ∧ Fnd n k g B)
    {g:Nat->Bool} {w:web} (hw:MpOk n g w) {L:List step} (hL:IsS (s89 w) L) (hLt:∀ y∈L,∃ j,j < n.Ties.len/\g j=false/\y.Use.Tie=(j:Int)) (hLn:L.length<=40) :
    ∀ (m i fu:Nat) (v:Sl (Sl Int)) (A:List (List Nat)),i+m=L.length->m < fu->zjB v A->Fnp n k g L i A ->
      zdg w ((k+1:Nat):Int) fu (i:Int) w.Net.Nodes w.Net.Ties v w.out.n w.out.F=true/\(zct w ((k+1:Nat):Int) fu (i:Int) w.Net.Nodes w.Net.Ties v w.out.n w.out.F).2=w /\
      ∃ B,zjB (zct w ((k+1:Nat):Int) fu (i:Int) w.Net.Nodes w.Net.Ties v w.out.n w.out.F).1 B/\Fnp n k g L L.length B
  | _,_,0,_,_,_,h,_,_=>absurd h (dqW _)
  | 0,i,fu+1,v,A,hi,_,hv,hA=>by
    have hl:=hL.1
    have hd:decide ((i:Int) < ((s89 w).len:Int))=false:=dqF (by omega)
    show zfi w _ (zdg w _ fu) (i:Int) w.Net.Nodes w.Net.Ties v w.out.n w.out.F=true/\(zdI w _ (zct w _ fu) (i:Int) w.Net.Nodes w.Net.Ties v w.out.n w.out.F).2=w/\∃ B,zjB (zdI w _ (zct w _ fu) (i:Int) w.Net.Nodes w.Net.Ties v w.out.n w.out.F).1 B/\_
    generalize zct w ((k+1:Nat):Int) fu=S0
    generalize zdg w ((k+1:Nat):Int) fu=P0
    unfold zfi zdI
    rw[hd]
    simp only[dqB]
    have:i=L.length:=by omega
    rw[<- this]
    exact⟨trivial,trivial,A,hv,hA⟩
  | m+1,i,fu+1,v,A,hi,hm,hv,hA=>by
    have hl:=hL.1
    have hil:i < L.length:=by omega
    have hd:decide ((i:Int) < ((s89 w).len:Int))=true:=dqT (by omega)
    obtain⟨j,hj,hg,ht⟩:=hLt L[i] (List.getElem_mem hil)
    have et:((s89 w).get ((i:Int)).toNat).Use.Tie=(j:Int):=by
      rw[show ((i:Int)).toNat=i from rfl,hL.2 i hil,ht]
    have hF:w.out.F [(j:Int)]=none:=by rw[hw.key,dqG (by rw[hg];simp)]
    have ek:w64 (((k+1:Nat):Int) - (1:Int))=(k:Int):=by rw[zbo (by omega) (by omega)];omega
    have ei:w64 ((i:Int)+(1:Int))=((i+1:Nat):Int):=by rw[zbo (by omega) (by omega)];omega
    obtain⟨a1,a2,B,a3,a4⟩:=ih _ _ (zKW hw hj hg)
    have hadd:=zo4 (N:=n.Ties.len) hj hg
    have h40:(40:Nat) ^ k<=64000:=dqE (Nat.pow_le_pow_right (by omega) hk) (by decide)
    have hsl:=a3.1
    have hvl:=hv.1
    have hA1:A.length<=40 * 40 ^ k:=dqE hA.len (dqw _ (by omega))
    have nxt:=zDH hk ih hw hL hLt hLn m (i+1) fu _ (A ++ B) (by omega) (by omega) (zsW hv a3) ⟨by
        have:=hA.len;have:=a4.len
        rw[dqu,dqV];omega,λ M hM=>by
        rcases dqg.1 hM with hM | hM
        · exact hA.sub M hM
        · obtain ⟨X, h2, h3, h4⟩ := a4.sub M hM
          exact⟨X,h2,h3,by omega⟩,λ X hX hs hXl ⟨q,hq,hqi,hqX⟩=>by
        by_cases e:q=i
        · subst e
          rw[ht] at hqX
          obtain⟨Y,h1,h2⟩:=a4.all X (λ z hz h=>by
            simp only[zAg,Bool.or_eq_true,beq_iff_eq] at h
            rcases h with rfl | h
            · exact hqX
            · exact hX z hz h) hs (by omega)
          exact⟨Y,h1,List.mem_append_right _ h2⟩
        · obtain ⟨Y, h1, h2⟩ := hA.all X hX hs hXl ⟨q, hq, by omega, hqX⟩
          exact⟨Y,h1,List.mem_append_left _ h2⟩⟩
    show zfi w _ (zdg w _ fu) (i:Int) w.Net.Nodes w.Net.Ties v w.out.n w.out.F=true/\(zdI w _ (zct w _ fu) (i:Int) w.Net.Nodes w.Net.Ties v w.out.n w.out.F).2=w/\∃ B,zjB (zdI w _ (zct w _ fu) (i:Int) w.Net.Nodes w.Net.Ties v w.out.n w.out.F).1 B/\_
    generalize zct w ((k+1:Nat):Int) fu=S0 at nxt ⊢
    generalize zdg w ((k+1:Nat):Int) fu=P0 at nxt ⊢
    unfold zfi zdI
    simp only[hd,et,hF,ek,ei,dqA]
    have e0:((zpl none 0) != (0:Int))=false:=rfl
    have e1:addN none w.out.n=w.out.n+1:=rfl
    have e2:zAk (zc8 [(j:Int)] [1] w.out.F [(j:Int)]) (w.out.n+1)=w.out.n:=by
      have:zc8 [(j:Int)] [1] w.out.F [(j:Int)]=some [1]:=by
        show (match decide ([(j:Int)]=[(j:Int)]) with | true=>some [1] | false=>w.out.F [(j:Int)])=_
        rw[show decide ([(j:Int)]=[(j:Int)])=true by simp]
      rw[this];rfl
    simp only[e0,e1,dqB,a2,e2,del_eq hF]
    have b1:decide ((0:Int)<=(i:Int)/\(i:Int) < ((s89 w).len:Int))=true:=dqT ⟨by omega,by omega⟩
    have b2:decide (Slf69.r.P (⟨⟨w.Net.Nodes,w.Net.Ties⟩,⟨w.out.n+1,zc8 [(j:Int)] [1] w.out.F⟩⟩:web) (k:Int)=true)=true:=dqT a1
    have hBl:=a4.len
    generalize hR:(Slf69.r.S (⟨⟨w.Net.Nodes,w.Net.Ties⟩,⟨w.out.n+1,zc8 [(j:Int)] [1] w.out.F⟩⟩:web) (k:Int)).1=R at a3 nxt hsl ⊢
    have b3:decide ((v.len+R.len) * 24<=140737488355328/\v.len+R.len<=9223372036854775807)=true:=dqT (by omega)
    rw[b1,b2,b3]
    simp only[Bool.true_and]
    exact nxt
end
theorem zDI {n:Net}(hn:NetOk n):∀ (k d:Nat) (g:Nat->Bool) (w:web),k < d->k<=3->MpOk n g w ->
    (ziw d).P w (k:Int)=true/\((ziw d).S w (k:Int)).2=w/\∃ B,zjB ((ziw d).S w (k:Int)).1 B/\Fnd n k g B
  | _,0,_,_,h,_,_=>absurd h (dqW _)
  | k,d+1,g,w,hd,hk,hw=>by
    show @zHT ⟨ziw d⟩ w (k:Int)=true/\(@ztH ⟨ziw d⟩ w (k:Int)).2=w/\∃ B,zjB (@ztH ⟨ziw d⟩ w (k:Int)).1 B/\_
    obtain⟨c1,c2⟩:=hw.sd hn
    have hlen:n.Ties.len<=1000000:=by have:=hn.len;omega
    obtain⟨c3,c4⟩:=hw.keys hlen
    have c5:decide (w.out.n<=1000000/\(zmk w.out.F 9223372036854775808 0 w.out.n).isSome=true)=true:=dqT ⟨c3,by rw[c4];rfl⟩
    have hkl:zpo w.out.F w.out.n=(keysB n.Ties.len g).map λ (j:Nat)=>(j:Int):=by unfold zpo;rw[c4];rfl
    unfold zHT ztH
    rw[c1,c2,dqT (show true=true from rfl),Bool.true_and]
    cases hs:sdF n g
    · simp only [Bool.not_false, Bool.not_true, dqB]
      cases k with
      | zero =>
        have hz:(((0:Nat):Int) == (0:Int))=true:=rfl
        rw[hz]
        simp only[dqA]
        refine⟨trivial,trivial,[],⟨rfl,λ i h=>absurd h (dqW _)⟩,Nat.zero_le _,λ L hL=>(by cases hL),λ X hX hsX hl=>?_⟩
        have e:keysB n.Ties.len g=keysB n.Ties.len X:=(zo3 hX).eq_of_length_le hl
        rw[zsV hn g X λ j hj=>by
          have h1:j∈keysB n.Ties.len g↔j∈keysB n.Ties.len X:=by rw[e]
          rw[zge,zge] at h1
          cases hx:X j <;> cases hg:g j <;> simp[hj,hx,hg] at h1 ⊢] at hs
        rw[hs] at hsX;cases hsX
      | succ k =>
        have hz:(((k+1:Nat):Int) == (0:Int))=false:=by simp;omega
        rw[hz]
        simp only[dqB]
        have hwn:NetOk w.Net:=by rw[hw.net];exact hn
        have hno : ¬ zbS (We w):=by
          have e:We w=We (wg n g):=by unfold We;rw[hw.ws]
          rw[e];exact zz8 hn hs
        obtain⟨d1,a,L,_,d3,d4,d5,d6⟩:=zKR w hwn hno
        rw[hw.ws] at d4
        have hLt:∀ y∈L,∃ j,j < n.Ties.len/\g j=false/\y.Use.Tie=(j:Int):=λ y hy=>by
          obtain⟨j,h1,h2,h3,_⟩:=tie_of hn (zrt d4 y hy)
          exact⟨j,h1,h2,h3⟩
        have key := @zDH ⟨ziw d⟩ n k (by omega) (fun g' w' hw' => zDI hn k d g' w' (by omega) (by omega) hw') g w hw L d3 hLt d6 L.length 0 Fuel ⟨0, fun _ => default⟩ [] (by omega) (by unfold Fuel; omega) ⟨rfl, fun i h => absurd h (dqW _)⟩
          ⟨by simp,λ M hM=>(by cases hM),λ X _ _ _ ⟨q,_,h,_⟩=>(by omega)⟩
        rw[d1,dqT (show true=true from rfl),Bool.true_and]
        obtain⟨B,k1,k2⟩:=key.2.2
        refine⟨key.1,key.2.1,B,k1,?_,k2.sub,λ X hX hsX hl=>?_⟩
        · rw [Nat.pow_succ, Nat.mul_comm]
          exact dqE k2.len (dqw _ d6)
        · obtain ⟨y, hy, hyX⟩ := hit hn d4 d5 hsX
          obtain⟨q,hq,rfl⟩:=List.getElem_of_mem hy
          exact k2.all X hX hsX hl ⟨q,hq,hq,hyX⟩
    · simp only [Bool.not_false, Bool.not_true, dqA]
      rw[c5]
      refine⟨rfl,trivial,[keysB n.Ties.len g],⟨rfl,λ i h=>?_⟩,by simpa using Nat.one_le_pow k 40 (by omega),λ L hL=>?_,λ X hX _ _=>⟨g,hX,List.mem_singleton_self _⟩⟩
      · have hi : i = 0 := by have : i < 1 := h; omega
        subst hi
        show IsP (⟨w.out.n,λ i=>(zpo w.out.F w.out.n).getD i 0⟩:Sl Int) _
        rw[hkl]
        refine⟨by show w.out.n=_;rw[hw.num,List.length_map];rfl,λ q hq=>?_⟩
        show (((keysB n.Ties.len g).map λ (j:Nat)=>(j:Int)).getD q 0)=_
        have hq':q < ((keysB n.Ties.len g).map λ (j:Nat)=>(j:Int)).length:=hq
        rw[List.getD_eq_getElem?_getD,dqD hq'];rfl
      · rw [dqi] at hL; subst hL
        exact⟨g,hs,rfl,Nat.le_add_right _ _⟩
end Go.Proofs
namespace Go.Proofs
open Go Go.Pm
set_option maxRecDepth 100000
set_option linter.unusedVariables false
theorem zHG (x y:Int):ztQ x y=if x < y then -1 else if y < x then 1 else 0:=by
 have e1:zBs x=false:=by unfold zBs;exact bne_self_eq_false _
 have e2:zBs y=false:=by unfold zBs;exact bne_self_eq_false _
 unfold ztQ
 rw[e1,e2]
 simp only[dqB]
 by_cases h:x < y
 ·rw[dqT h,dqP h,dqA]
 ·rw [dqF h, dqG h, dqB]
  by_cases h2:y < x
  ·rw[dqT (show x > y from h2),dqP h2,dqA]
  ·rw[dqF (show ¬ x > y from h2),dqG h2,dqB]
end Go.Proofs
namespace Go.Proofs
open Go Go.Pm
set_option maxRecDepth 100000
set_option linter.unusedVariables false
theorem zo9 : ∀ {A B C : List Nat}, ltL A B → ltL B C → ltL A C
  | a :: A,b :: B,c :: C,h,h'=>by
    simp only[ltL] at h h' ⊢
    rcases h with h | ⟨rfl,h⟩
    · rcases h' with h' | ⟨rfl, h'⟩
      · exact .inl (by omega)
      · exact .inl h
    · rcases h' with h' | ⟨rfl, h'⟩
      · exact .inl h'
      · exact .inr ⟨rfl,zo9 h h'⟩
  | [],_,_,h,_=>by simp[ltL] at h
  | _ :: _,[],_,h,_=>by simp[ltL] at h
  | _ :: _,_ :: _,[],_,h'=>by simp[ltL] at h'
abbrev toI (L:List Nat):List Int:=L.map λ (j:Nat)=>(j:Int)
theorem znG {v:Sl Int}{L:List Nat}(h:IsP v (toI L)) {q:Nat}(hq:q < L.length):v.get q=(L[q]:Int):=by
 rw[h.2 q (by simpa using hq)];simp
theorem zKX {a b:Sl Int}{A L:List Nat}(ha:IsP a (toI A)) (hb:IsP b (toI L)) (hAL:A.length=L.length) (hl:L.length<=1000000):p71 a b=true/\(s71 a b < 0↔ltL A L):=by
 have h1:a.len=A.length:=by rw[ha.1];simp
 have h2:b.len=L.length:=by rw[hb.1];simp
 have key:∀ (m i fu:Nat),i+m=A.length->m < fu->ziA fu a b a (a.len:Int) (i:Int)=true/\(ziz fu a b a (a.len:Int) (i:Int) < 0↔ltL (A.drop i) (L.drop i)):=by
  intro m
  induction m with
  | zero =>
   intro i fu hi hf
   cases fu with
   | zero=>omega
   | succ fu =>
    have hd:decide ((i:Int) < (a.len:Int))=false:=dqF (by omega)
    have hd2:decide ((a.len:Int) < (b.len:Int))=false:=dqF (by omega)
    show ziy (ziA fu) a b a (a.len:Int) (i:Int)=true/\(zix (ziz fu) a b a (a.len:Int) (i:Int) < 0↔_)
    unfold ziy zix
    rw[hd,hd2]
    simp only[dqB]
    rw[List.drop_of_length_le (by omega),List.drop_of_length_le (by omega)]
    simp[ltL]
  | succ m ih =>
   intro i fu hi hf
   cases fu with
   | zero=>omega
   | succ fu =>
    obtain⟨c1,c2⟩:=ih (i+1) fu (by omega) (by omega)
    have hd:decide ((i:Int) < (a.len:Int))=true:=dqT (by omega)
    have hd2:decide ((i:Int) >= (b.len:Int))=false:=dqF (by omega)
    have b1:decide ((0:Int)<=(i:Int)/\(i:Int) < (a.len:Int))=true:=dqT ⟨by omega,by omega⟩
    have b2:decide ((0:Int)<=(i:Int)/\(i:Int) < (b.len:Int))=true:=dqT ⟨by omega,by omega⟩
    have ei:w64 ((i:Int)+(1:Int))=((i+1:Nat):Int):=by rw[zbo (by omega) (by omega)];omega
    have ga:a.get ((i:Int)).toNat=(A[i]'(by omega):Int):=znG ha (by omega)
    have gb:b.get ((i:Int)).toNat=(L[i]'(by omega):Int):=znG hb (by omega)
    show ziy (ziA fu) a b a (a.len:Int) (i:Int)=true/\(zix (ziz fu) a b a (a.len:Int) (i:Int) < 0↔_)
    generalize ziz fu=S0 at c2 ⊢
    generalize ziA fu=P0 at c1 ⊢
    unfold ziy zix zqu zqs zqr zqq
    rw[hd,hd2,b1,b2,ga,gb,ei,zHG]
    simp only[dqA,dqB,Bool.true_and]
    rw[dqR (show i < A.length by omega),dqR (show i < L.length by omega)]
    simp only[ltL]
    by_cases h3:(A[i]'(by omega)) < (L[i]'(by omega))
    ·rw [dqP (by omega)]
     refine⟨rfl,⟨λ _=>.inl h3,λ _=>show (-1:Int) < 0 by decide⟩⟩
    ·rw [dqG (by omega)]
     by_cases h4:(L[i]'(by omega)) < (A[i]'(by omega))
     ·rw [dqP (by omega)]
      refine⟨rfl,⟨λ h=>absurd (show (1:Int) < 0 from h) (by decide),λ h=>?_⟩⟩
      rcases h with h | ⟨h,_⟩ <;> omega
     ·rw [dqG (by omega)]
      refine⟨c1,?_⟩
      show S0 a b a (a.len:Int) ((i+1:Nat):Int) < 0↔_
      rw[c2]
      exact⟨λ h=>.inr ⟨by omega,h⟩,λ h=>by rcases h with h | ⟨_,h⟩;omega;exact h⟩
 have:=key A.length 0 Fuel (by omega) (by unfold Fuel;omega)
 rw[List.drop_zero,List.drop_zero] at this
 exact this
theorem zKY {v : Sl (Sl Int)} {A : List (List Nat)} {c : Nat} (hv : zjB v A) (hne : A ≠ []) (hc : ∀ L ∈ A, L.length = c) (hc1 : c ≤ 1000000) (hA : A.length ≤ 1000000) :
  p70 v=true/\∃ R∈A,IsP (s70 v) (toI R)/\∀ M∈A,¬ ltL M R:=by
 have hl:=hv.1
 have hpos:0 < A.length:=List.length_pos_iff.2 hne
 have key:∀ (m i fu:Nat) (x:Sl Int) (R:List Nat),i+m=A.length->m < fu->R∈A->IsP x (toI R)->(∀ q (h:q < A.length),q < i->¬ ltL A[q] R) ->
   ziE v fu x (i:Int)=true/\∃ R∈A,IsP (ziD v fu x (i:Int)) (toI R)/\∀ M∈A,¬ ltL M R:=by
  intro m
  induction m with
  | zero =>
   intro i fu x R hi hf hR hx hq
   cases fu with
   | zero=>omega
   | succ fu =>
    have hd:decide ((i:Int) < (v.len:Int))=false:=dqF (by omega)
    show ziC v (ziE v fu) x (i:Int)=true/\∃ R∈A,IsP (ziB v (ziD v fu) x (i:Int)) (toI R)/\_
    unfold ziC ziB
    rw[hd]
    refine⟨rfl,R,hR,hx,λ M hM=>?_⟩
    obtain⟨q,hq1,rfl⟩:=List.getElem_of_mem hM
    exact hq q hq1 (by omega)
  | succ m ih =>
   intro i fu x R hi hf hR hx hq
   cases fu with
   | zero=>omega
   | succ fu =>
    have hil:i < A.length:=by omega
    have hd:decide ((i:Int) < (v.len:Int))=true:=dqT (by omega)
    have b1:decide ((0:Int)<=(i:Int)/\(i:Int) < (v.len:Int))=true:=dqT ⟨by omega,by omega⟩
    have ei:w64 ((i:Int)+(1:Int))=((i+1:Nat):Int):=by rw[zbo (by omega) (by omega)];omega
    have hg:=hv.2 i hil
    obtain⟨c1,c2⟩:=zKX hg hx (by rw[hc _ (List.getElem_mem hil),hc _ hR]) (by rw[hc _ hR];exact hc1)
    have ih0:=ih (i+1) fu x R (by omega) (by omega) hR hx
    have ih1:=ih (i+1) fu (v.get i) A[i] (by omega) (by omega) (List.getElem_mem hil) hg
    show ziC v (ziE v fu) x (i:Int)=true/\∃ R∈A,IsP (ziB v (ziD v fu) x (i:Int)) (toI R)/\_
    generalize ziD v fu=S0 at ih0 ih1 ⊢
    generalize ziE v fu=P0 at ih0 ih1 ⊢
    unfold ziC ziB zqx zqw
    rw[show ((i:Int)).toNat=i from rfl,hd,b1,ei,c1]
    simp only[dqA,Bool.true_and,decide_true]
    by_cases h:ltL A[i] R
    ·rw [dqT (c2.2 h)]
     refine ih1 λ q h1 h2 h3=>?_
     by_cases e:q=i
     ·subst e;exact zgd h3 h3
     ·exact hq q h1 (by omega) (zo9 h3 h)
    ·rw [dqF (fun e => h (c2.1 e))]
     refine ih0 λ q h1 h2=>?_
     by_cases e:q=i
     ·subst e;exact h
     ·exact hq q h1 (by omega)
 have hd:decide ((v.len:Int) < (1:Int))=false:=dqF (by omega)
 have b0:decide ((0:Int)<=(0:Int)/\(0:Int) < (v.len:Int))=true:=dqT ⟨by omega,by omega⟩
 have k0:=key (A.length - 1) 1 Fuel (v.get 0) A[0] (by omega) (by unfold Fuel;omega) (List.getElem_mem hpos) (hv.2 0 hpos) λ q h1 h2 h3=>by
  have:q=0:=by omega
  subst this;exact zgd h3 h3
 unfold p70 s70 zqz zqy
 rw[hd,b0]
 exact k0
end Go.Proofs
namespace Go.Proofs
open Go Go.Pm
set_option maxRecDepth 100000
set_option linter.unusedVariables false
structure Snd' (n : Net) (M : List Nat) : Prop where
  inc:M.Pairwise (· < ·)
  lt:∀ x∈M,x < n.Ties.len
  sd:sdF n (λ j=>decide (j∈M))=true
structure Lst (n : Net) (R : List Nat) : Prop where
  snd:Snd' n R
  len:R.length<=3
  min:∀ M,Snd' n M->R.length < M.length\/R.length=M.length/\¬ ltL M R
section
variable {n:Net}(hn:NetOk n)
include hn
theorem zjc:keysB n.Ties.len (λ _=>false)=[]:=by simp[keysB]
theorem zKZ {X:Nat->Bool}(h:sdF n X=true):Snd' n (keysB n.Ties.len X) :=
 ⟨zi9 X,λ x hx=>(zge.1 hx).1,by
  rw[zsV hn _ X λ j hj=>?_]
  ·exact h
  ·have : j ∈ keysB n.Ties.len X ↔ X j = true := by rw [zge]; exact ⟨fun h => h.2, fun h => ⟨hj, h⟩⟩
   cases hX:X j
   ·exact dqF λ h=>by rw[this,hX] at h;cases h
   ·exact dqT (this.2 hX)⟩
theorem zll {t:Nat}{A:List (List Nat)}(hA:Fnd n t (λ _=>false) A) (hno:∀ M,Snd' n M->t<=M.length){L:List Nat}(hL:L∈A):Snd' n L/\L.length=t:=by
 obtain⟨X,h2,rfl,h4⟩:=hA.sub L hL
 have hs:=zKZ hn h2
 have:=hno _ hs
 rw[zjc hn] at h4
 simp only[dqL] at h4
 exact⟨hs,by omega⟩
theorem zAa {t:Nat}{A:List (List Nat)}(hA:Fnd n t (λ _=>false) A){M:List Nat}(hM:Snd' n M) (hl:M.length<=t):∃ L∈A,L.Sublist M:=by
 have e:=zBT (N:=n.Ties.len) hM.inc hM.lt
 obtain⟨Y,h1,h2⟩:=hA.all (λ j=>decide (j∈M)) (λ j _ h=>by cases h) hM.sd (by rw[e,zjc hn];simpa using hl)
 have:=zo3 (N:=n.Ties.len) h1
 rw[e] at this
 exact⟨_,h2,this⟩
theorem zK1:MpOk n (λ _=>false) (⟨⟨n.Nodes,n.Ties⟩,⟨0,λ _=>none⟩⟩:web):=⟨rfl,λ j=>by simp,by rw[zjc hn];rfl⟩
theorem zsX:∀ (m t fu:Nat),t+m=4->m < fu->(∀ M,Snd' n M->t<=M.length) ->
    zk7 fu (t:Int) n.Nodes n.Ties 0 (λ _=>none)=true /\
    ((∃ R, IsP (zd1 fu (t : Int) n.Nodes n.Ties 0 (fun _ => none)).1 (toI R) ∧ (zd1 fu (t : Int) n.Nodes n.Ties 0 (fun _ => none)).2 = 0 ∧ Lst n R) ∨
     ((zd1 fu (t:Int) n.Nodes n.Ties 0 (λ _=>none)).1.len=0/\(zd1 fu (t:Int) n.Nodes n.Ties 0 (λ _=>none)).2=8/\∀ M,Snd' n M->3 < M.length))
  | _,_,0,_,h,_=>absurd h (dqW _)
  | 0,t,fu+1,ht,_,hno=>by
    have ht:t=4:=by omega
    subst ht
    exact⟨rfl,.inr ⟨rfl,rfl,λ M hM=>hno M hM⟩⟩
  | m+1,t,fu+1,ht,hf,hno=>by
    obtain⟨c1,c2,A,c3,hA⟩:=zDI hn t 64 (λ _=>false) _ (by omega) (by omega) (zK1 hn)
    have hlen:=hA.len
    have h40:(40:Nat) ^ t<=64000:=dqE (Nat.pow_le_pow_right (by omega) (by omega:t<=3)) (by decide)
    have hd:decide ((t:Int) < (4:Int))=true:=dqT (by omega)
    have et:w64 ((t:Int)+(1:Int))=((t+1:Nat):Int):=by rw[zbo (by omega) (by omega)];omega
    have nxt:=zsX m (t+1) fu (by omega) (by omega)
    show zns (zk7 fu) (t:Int) n.Nodes n.Ties 0 (λ _=>none)=true /\
      ((∃ R, IsP (zg8 (zd1 fu) (t : Int) n.Nodes n.Ties 0 (fun _ => none)).1 (toI R) ∧ (zg8 (zd1 fu) (t : Int) n.Nodes n.Ties 0 (fun _ => none)).2 = 0 ∧ Lst n R) ∨
       ((zg8 (zd1 fu) (t:Int) n.Nodes n.Ties 0 (λ _=>none)).1.len=0/\(zg8 (zd1 fu) (t:Int) n.Nodes n.Ties 0 (λ _=>none)).2=8/\∀ M,Snd' n M->3 < M.length))
    generalize zd1 fu=S0 at nxt ⊢
    generalize zk7 fu=P0 at nxt ⊢
    unfold zns zg8
    have c1:p69 (⟨⟨n.Nodes,n.Ties⟩,⟨0,λ _=>none⟩⟩:web) (t:Int)=true:=c1
    have c2:(s69 (⟨⟨n.Nodes,n.Ties⟩,⟨0,λ _=>none⟩⟩:web) (t:Int)).2=⟨⟨n.Nodes,n.Ties⟩,⟨0,λ _=>none⟩⟩:=c2
    have c3:zjB (s69 (⟨⟨n.Nodes,n.Ties⟩,⟨0,λ _=>none⟩⟩:web) (t:Int)).1 A:=c3
    rw[c1,c2,hd,et]
    generalize (s69 (⟨⟨n.Nodes,n.Ties⟩,⟨0,λ _=>none⟩⟩:web) (t:Int)).1=v at c3 ⊢
    simp only[dqA,decide_true,Bool.true_and]
    have hvl:=c3.1
    by_cases hz:A=[]
    · rw [hz] at hvl
      have hd2:decide ((v.len:Int) > (0:Int))=false:=dqF (by rw[hvl];simp)
      rw[hd2]
      simp only[dqB]
      refine nxt λ M hM=>?_
      have h1:=hno M hM
      refine Nat.lt_of_le_of_ne h1 λ e=>?_
      obtain⟨L,hL,_⟩:=zAa hn hA hM (Nat.le_of_eq e.symm)
      rw[hz] at hL;cases hL
    · have hpos := List.length_pos_iff.2 hz
      have hd2:decide ((v.len:Int) > (0:Int))=true:=dqT (by omega)
      obtain⟨d1,R,hR,hi,hmin⟩:=zKY c3 hz (λ L hL=>(zll hn hA hno hL).2) (by omega) (by omega)
      rw[hd2,d1]
      refine⟨rfl,.inl ⟨R,hi,rfl,(zll hn hA hno hR).1,by have:=(zll hn hA hno hR).2;omega,λ M hM=>?_⟩⟩
      have hRt:=(zll hn hA hno hR).2
      by_cases h:M.length<=t
      · have h1 := hno M hM
        obtain⟨L,hL,hsub⟩:=zAa hn hA hM h
        have:L=M:=hsub.eq_of_length_le (by rw[(zll hn hA hno hL).2];exact h)
        subst this
        exact .inr ⟨by omega,hmin L hL⟩
      · exact .inl (by omega)
theorem zK2 (hc:s67 n=true):p22 n=true/\((∃ R,IsP (s22 n).1 (toI R)/\(s22 n).2=0/\Lst n R)\/((s22 n).1.len=0/\(s22 n).2=8/\∀ M,Snd' n M->3 < M.length)):=by
 have hl:=hn.len
 have h:=(zrm n (by omega)).1
 have key:=zsX hn 4 0 Fuel (by omega) (by unfold Fuel;omega) λ M _=>Nat.zero_le _
 unfold p22 s22
 rw[h,hc]
 exact key
end
theorem zHH {n:Net}(hl:n.Ties.len<=9223372036854775807) (hc:s67 n=false):p22 n=true/\(s22 n).1.len=0/\(s22 n).2=2:=by
 have h:=(zrm n hl).1
 unfold p22 s22
 rw[h,hc]
 exact⟨rfl,rfl,rfl⟩
end Go.Proofs
namespace Go.Proofs
open Go Go.Pm
set_option maxRecDepth 100000
set_option linter.unusedVariables false
attribute [local irreducible] Go.Pm.vcFun Go.Pm.vc Go.Pm.vcIter
end Go.Proofs
namespace Go.Proofs
open Go Go.Pm
set_option maxRecDepth 100000
set_option linter.unusedVariables false
def zgf (y:step):Step:=⟨y.from_,y.to,y.length,y.Use⟩
def IsL (v:Sl Step) (L:List step):Prop:=v.len=L.length/\∀ k (h:k < L.length),v.get k=zgf L[k]
theorem zru {v:Sl Step}{L:List step}(h:IsL v L) (y:step):IsL ⟨v.len+1,zc2 v.len v.get (λ _=>zgf y)⟩ (L ++ [y]):=by
 refine⟨by show v.len+1=_;rw[dqu,h.1];rfl,λ k hk=>?_⟩
 show zc2 v.len v.get (λ _=>zgf y) k=_
 rw[zzY]
 rw[dqu] at hk
 have h1:=h.1
 by_cases hv:v.len<=k
 ·rw [dqP hv]
  have:k=L.length:=by simp only[dqr,dqL] at hk;omega
  subst this
  simp
 ·rw [dqG hv, h.2 k (by omega)]
  rw[List.getElem_append_left (by omega)]
theorem zK3 (n:Net) (hn:n.Ties.len<=210):∀ (m k i:Nat) (v:Sl Step) (L:List step),i+m=n.Ties.len->m < k->IsL v L->L.length<=2 * i->zdx n k (i:Int) v=true/\IsL (zdw n k (i:Int) v) (L ++ stL (W n) m i):=by
  intro m
  induction m with
  | zero =>
    intro k i v L hi hk hv hL
    obtain⟨k,rfl⟩:∃ k',k=k'+1:=⟨k - 1,by omega⟩
    have e1:zdx n (k+1) (i:Int) v=true:=by
      show ziU n (zdx n k) (i:Int) v=true
      unfold ziU
      rw[dqF (show ¬ (i:Int) < (n.Ties.len:Int) by omega),dqB]
    have e2:zdw n (k+1) (i:Int) v=v:=by
      show ziT n (zdw n k) (i:Int) v=v
      unfold ziT
      rw[dqF (show ¬ (i:Int) < (n.Ties.len:Int) by omega),dqB]
    refine⟨e1,?_⟩
    rw[e2]
    show IsL v (L ++ [])
    rw[List.append_nil];exact hv
  | succ m ih =>
    intro k i v L hi hk hv hL
    obtain⟨k,rfl⟩:∃ k',k=k'+1:=⟨k - 1,by omega⟩
    have hw:w64 ((i:Int)+(1:Int))=((i+1:Nat):Int):=by rw[zbo (by omega) (by omega)];omega
    have hvl:=hv.1
    have hS : zdw n (k + 1) (i : Int) v = cond ((n.Ties.get i).High != (1000000000000:Int))
        (cond ((n.Ties.get i).Low != (-1000000000000:Int))
          (zdw n k ((i+1:Nat):Int) (⟨v.len+1+1,zc2 (v.len+1) (zc2 v.len v.get (λ _=>zgf (fwS (n.Ties.get i) i))) (λ _=>zgf (bwS (n.Ties.get i) i))⟩:Sl Step))
          (zdw n k ((i+1:Nat):Int) (⟨v.len+1,zc2 v.len v.get (λ _=>zgf (fwS (n.Ties.get i) i))⟩:Sl Step)))
        (cond ((n.Ties.get i).Low != (-1000000000000:Int))
          (zdw n k ((i+1:Nat):Int) (⟨v.len+1,zc2 v.len v.get (λ _=>zgf (bwS (n.Ties.get i) i))⟩:Sl Step))
          (zdw n k ((i+1:Nat):Int) v)):=by
      rw[<- hw]
      show ziT n (zdw n k) (i:Int) v=_
      generalize zdw n k=S
      unfold ziT znw
      rw[dqT (show (i:Int) < (n.Ties.len:Int) by omega),dqA,dqN]
      rfl
    have hP : zdx n (k + 1) (i : Int) v = cond ((n.Ties.get i).High != (1000000000000:Int))
        (cond ((n.Ties.get i).Low != (-1000000000000:Int))
          (zdx n k ((i+1:Nat):Int) (⟨v.len+1+1,zc2 (v.len+1) (zc2 v.len v.get (λ _=>zgf (fwS (n.Ties.get i) i))) (λ _=>zgf (bwS (n.Ties.get i) i))⟩:Sl Step))
          (zdx n k ((i+1:Nat):Int) (⟨v.len+1,zc2 v.len v.get (λ _=>zgf (fwS (n.Ties.get i) i))⟩:Sl Step)))
        (cond ((n.Ties.get i).Low != (-1000000000000:Int))
          (zdx n k ((i+1:Nat):Int) (⟨v.len+1,zc2 v.len v.get (λ _=>zgf (bwS (n.Ties.get i) i))⟩:Sl Step))
          (zdx n k ((i+1:Nat):Int) v)):=by
      rw[<- hw]
      show ziU n (zdx n k) (i:Int) v=_
      generalize zdx n k=S
      unfold ziU znx
      rw[dqT (show (i:Int) < (n.Ties.len:Int) by omega),dqA,dqN,dqT (show 0<=(i:Int)/\(i:Int) < (n.Ties.len:Int) by omega),dqT (show (v.len+1) * 40<=140737488355328/\v.len+1<=9223372036854775807 by omega),dqT (show ((⟨v.len+1,zc2 v.len v.get (λ _=>(⟨(n.Ties.get i).From,(n.Ties.get i).To,(n.Ties.get i).High,(⟨(i:Int),false⟩:Use)⟩:Step))⟩:Sl Step).len+1) * 40<=140737488355328/\(⟨v.len+1,zc2 v.len v.get (λ _=>(⟨(n.Ties.get i).From,(n.Ties.get i).To,(n.Ties.get i).High,(⟨(i:Int),false⟩:Use)⟩:Step))⟩:Sl Step).len+1<=9223372036854775807 from by show (v.len+1+1) * 40<=_/\v.len+1+1<=_;omega)]
      rfl
    rw[hS,hP]
    have hK:stL (W n) (m+1) i=((cond ((n.Ties.get i).High != (1000000000000:Int)) [fwS (n.Ties.get i) i] []) ++ (cond ((n.Ties.get i).Low != (-1000000000000:Int)) [bwS (n.Ties.get i) i] [])) ++ stL (W n) m (i+1):=rfl
    rw[hK]
    have hF:=zru hv (fwS (n.Ties.get i) i)
    have hB:=zru hv (bwS (n.Ties.get i) i)
    have hFB:=zru hF (bwS (n.Ties.get i) i)
    cases ((n.Ties.get i).High != (1000000000000:Int)) <;> cases ((n.Ties.get i).Low != (-1000000000000:Int))
    · have := ih k (i + 1) v L (by omega) (by omega) hv (by omega)
      simpa using this
    · have := ih k (i + 1) _ _ (by omega) (by omega) hB (by simp only [dqu, dqr, dqL]; omega)
      simpa [List.append_assoc] using this
    · have := ih k (i + 1) _ _ (by omega) (by omega) hF (by simp only [dqu, dqr, dqL]; omega)
      simpa [List.append_assoc] using this
    · have := ih k (i + 1) _ _ (by omega) (by omega) hFB (by simp only [dqu, dqr, dqL]; omega)
      simpa [List.append_assoc] using this
theorem zDJ (n:Net) (hn:n.Ties.len<=210):p77 n=true/\IsL (s77 n) (Ws (W n)):=by
 have:=zK3 n hn n.Ties.len Fuel 0 (⟨0,(λ _=>default)⟩:Sl Step) [] (by omega) (by simp only[Fuel];omega) ⟨rfl,λ k h=>absurd h (dqW _)⟩ (Nat.zero_le _)
 exact this
end Go.Proofs
namespace Go.Proofs
open Go Go.Pm
set_option maxRecDepth 100000
set_option linter.unusedVariables false
attribute [local irreducible] Go.Pm.vcFun Go.Pm.vc Go.Pm.vcIter
end Go.Proofs
namespace Go.Proofs
open Go Go.Pm
set_option maxRecDepth 100000
set_option linter.unusedVariables false
theorem zHI {l:Sl Step}{L:List step}(hl:IsL l L){q:Nat}(hq:q < L.length){N:Nat}(hL:∀ y∈L,StOk y N):(l.get q).From=L[q].from_/\(l.get q).To=L[q].to/\(l.get q).Length=L[q].length/\StOk L[q] N:=by
 rw[hl.2 q hq];exact⟨rfl,rfl,rfl,hL _ (List.getElem_mem hq)⟩
structure Rv (N : Nat) (v : Sl Int) (d : zbG) (B : Int) : Prop where
  len:v.len=N
  at_:∀ i,i < N->d i=some (v.get i)
  b:∀ i,i < N->-B<=v.get i/\v.get i<=0
theorem zCb (n : Net) (l : Sl Step) (L : List step) (hl : IsL l L) {N : Nat} (hLN : ∀ y ∈ L, StOk y N) (hL : L.length ≤ 1000) (S1 : Sl Int → Bool → Int → Bool) (P1 : Sl Int → Bool → Int → Bool) (best : Sl Int) (o : zbG) (B : Int) (hB : 0 ≤ B ∧ B ≤ 100000000000000) (ho : Rv N best o B) (r : Int) :
  ∀ (m k q:Nat) (c:Bool) (v:Sl Int) (d:zbG),q+m=L.length->m < k->Rv N v d (B+1000000000) ->
  ∃ v',zfj S1 n l k best c r (q:Int) v=S1 v' (((L.drop q).map edS).foldl (jr o) (d,c)).2 (w64 (r+(1:Int)))/\zfk P1 n l k best c r (q:Int) v=P1 v' (((L.drop q).map edS).foldl (jr o) (d,c)).2 (w64 (r+(1:Int)))/\Rv N v' (((L.drop q).map edS).foldl (jr o) (d,c)).1 (B+1000000000):=by
 have hll:=hl.1
 intro m
 induction m with
 | zero =>
  intro k q c v d hq hk hv
  obtain⟨k,rfl⟩:∃ k',k=k'+1:=⟨k - 1,by omega⟩
  rw[dqO (by omega)]
  refine⟨v,?_,?_,hv⟩
  ·show ziV S1 n l (zfj S1 n l k) best c r (q : Int) v = _
   unfold ziV
   rw[dqF (show ¬ (q:Int) < (l.len:Int) by omega),dqB];rfl
  ·show ziW P1 n l (zfk P1 n l k) best c r (q : Int) v = _
   unfold ziW
   rw[dqF (show ¬ (q:Int) < (l.len:Int) by omega),dqB];rfl
 | succ m ih =>
  intro k q c v d hq hk hv
  obtain⟨k,rfl⟩:∃ k',k=k'+1:=⟨k - 1,by omega⟩
  have hw:w64 ((q:Int)+(1:Int))=((q+1:Nat):Int):=by rw[zbo (by omega) (by omega)];omega
  obtain⟨e1,e2,e3,hy⟩:=zHI hl (show q < L.length by omega) hLN
  rw[dqR (by omega:q < L.length)]
  generalize L[q]=y at *
  have f0:=hy.f0;have f1:=hy.f1;have t0:=hy.t0;have t1:=hy.t1;have l0:=hy.l0;have l1:=hy.l1
  have hbl:=ho.len;have hvl:=hv.len
  have bf:=ho.b y.from_.toNat (by omega)
  have af:=ho.at_ y.from_.toNat (by omega)
  have at_:=hv.at_ y.to.toNat (by omega)
  have hr:jr o (d,c) (edS y)=cond (decide (best.get y.from_.toNat+y.length < v.get y.to.toNat)) (zlg d y.to.toNat (best.get y.from_.toNat+y.length),true) (d,c):=by
   unfold jr edS
   simp only[af,at_] <;> rfl
  have hS:zfj S1 n l (k+1) best c r (q:Int) v=cond (decide (best.get y.from_.toNat+y.length < v.get y.to.toNat)) (zfj S1 n l k best true r ((q+1:Nat):Int) (⟨v.len,setT y.to.toNat (best.get y.from_.toNat+y.length) v.get⟩:Sl Int)) (zfj S1 n l k best c r ((q+1:Nat):Int) v):=by
   rw[<- hw]
   show ziV S1 n l (zfj S1 n l k) best c r (q:Int) v=_
   generalize zfj S1 n l k=S
   unfold ziV
   rw[dqT (show (q:Int) < (l.len:Int) by omega),dqA,dqN,e1,e2,e3,zbo (x:=best.get y.from_.toNat+y.length) (by omega) (by omega)]
  have hP:zfk P1 n l (k+1) best c r (q:Int) v=cond (decide (best.get y.from_.toNat+y.length < v.get y.to.toNat)) (zfk P1 n l k best true r ((q+1:Nat):Int) (⟨v.len,setT y.to.toNat (best.get y.from_.toNat+y.length) v.get⟩:Sl Int)) (zfk P1 n l k best c r ((q+1:Nat):Int) v):=by
   rw[<- hw]
   show ziW P1 n l (zfk P1 n l k) best c r (q:Int) v=_
   generalize zfk P1 n l k=S
   unfold ziW
   simp only[dqN,e1,e2,e3]
   rw[dqT (show (q:Int) < (l.len:Int) by omega),dqA,zbo (x:=best.get y.from_.toNat+y.length) (by omega) (by omega),dqT (show 0<=(q:Int)/\(q:Int) < (l.len:Int) by omega),dqT (show 0<=y.from_/\y.from_ < (best.len:Int) by omega),dqT (show 0<=y.to/\y.to < (v.len:Int) by omega),dqT (show y.to.toNat < v.len by omega)]
   cases decide (best.get y.from_.toNat+y.length < v.get y.to.toNat) <;> rfl
  rw[hS,hP]
  show ∃ v',_=S1 v' (((L.drop (q+1)).map edS).foldl (jr o) (jr o (d,c) (edS y))).2 _/\_=P1 v' (((L.drop (q+1)).map edS).foldl (jr o) (jr o (d,c) (edS y))).2 _/\Rv N v' (((L.drop (q+1)).map edS).foldl (jr o) (jr o (d,c) (edS y))).1 _
  rw[hr]
  by_cases hlt:best.get y.from_.toNat+y.length < v.get y.to.toNat
  ·rw [dqT hlt]
   simp only[dqA]
   have vb:=hv.b y.to.toNat (by omega)
   refine ih k (q+1) true _ _ (by omega) (by omega) ⟨hvl,λ i hi=>?_,λ i hi=>?_⟩
   ·show zlg d y.to.toNat (best.get y.from_.toNat + y.length) i = some (setT y.to.toNat (best.get y.from_.toNat + y.length) v.get i)
    rw[zfm]
    unfold zlg
    by_cases h:i=y.to.toNat
    ·rw[dqP h,dqP h]
    ·rw[dqG h,dqG h];exact hv.at_ i hi
   ·show -(B + 1000000000) ≤ setT y.to.toNat (best.get y.from_.toNat + y.length) v.get i ∧ setT y.to.toNat (best.get y.from_.toNat + y.length) v.get i ≤ 0
    rw[zfm]
    by_cases h:i=y.to.toNat
    ·rw[dqP h];omega
    ·rw[dqG h];exact hv.b i hi
  ·rw [dqF hlt]
   simp only[dqB]
   exact ih k (q+1) c v d (by omega) (by omega) hv
theorem zpa (n:Net) (hn:NetOk n):∀ (m k r:Nat) (c:Bool) (v:Sl Int) (d:zbG) (B:Int),(r:Int)+m=n.Nodes->m < k->Rv n.Nodes.toNat v d B->0<=B->B+m * 1000000000<=100000000000000 ->
  zhd n (s77 n) k v c (r:Int)=true/\zhc n (s77 n) k v c (r:Int)=zgO (En n) m c d:=by
 have hlen:=hn.len;have hn40:=hn.n40
 obtain⟨_,hl⟩:=zDJ n (by omega)
 have hL:(Ws (W n)).length<=400:=zDA (a:=W n) hn
 intro m
 induction m with
 | zero =>
  intro k r c v d B hr hk _ _ _
  obtain⟨k,rfl⟩:∃ k',k=k'+1:=⟨k - 1,by omega⟩
  constructor
  ·show zf5 n (s77 n) (zhd n (s77 n) k) v c (r : Int) = true
   unfold zf5
   rw[dqF (show ¬ (r:Int) < n.Nodes by omega),dqB]
  ·show zf4 n (s77 n) (zhc n (s77 n) k) v c (r : Int) = _
   unfold zf4
   rw[dqF (show ¬ (r:Int) < n.Nodes by omega),dqB];rfl
 | succ m ih =>
  intro k r c v d B hr hk hv hB0 hB1
  obtain⟨k,rfl⟩:∃ k',k=k'+1:=⟨k - 1,by omega⟩
  cases c with
  | false =>
   constructor
   ·show zf5 n (s77 n) (zhd n (s77 n) k) v false (r : Int) = true
    unfold zf5
    cases decide ((r:Int) < n.Nodes) <;> rfl
   ·show zf4 n (s77 n) (zhc n (s77 n) k) v false (r : Int) = _
    unfold zf4
    cases decide ((r:Int) < n.Nodes) <;> rfl
  | true =>
   have hw:w64 ((r:Int)+(1:Int))=((r+1:Nat):Int):=by rw[zbo (by omega) (by omega)];omega
   obtain⟨v',k1,k2,k3⟩:=zCb n (s77 n) (Ws (W n)) hl (λ y hy=>zB2 (a:=W n) hn hy) (by omega) (zhc n (s77 n) k) (zhd n (s77 n) k) v d B ⟨hB0,by omega⟩ hv (r:Int) (Ws (W n)).length Fuel 0 false v d (by omega) (by simp only[Fuel];omega) ⟨hv.len,hv.at_,λ i hi=>by have:=hv.b i hi;omega⟩
   rw[List.drop_zero,hw] at k1 k2
   rw[List.drop_zero] at k3
   obtain⟨i1,i2⟩:=ih k (r+1) (((Ws (W n)).map edS).foldl (jr d) (d,false)).2 v' _ (B+1000000000) (by omega) (by omega) k3 (by omega) (by omega)
   constructor
   ·refine Eq.trans ?_ i1
    refine Eq.trans ?_ k2
    show zf5 n (s77 n) (zhd n (s77 n) k) v true (r:Int)=_
    unfold zf5
    have hvl:=hv.len
    rw[dqT (show (r:Int) < n.Nodes by omega)]
    first
     | rfl
     | (simp only[dqA];rw[dqT (show v.len * 8<=140737488355328/\v.len<=9223372036854775807 by omega)];rfl)
   ·refine Eq.trans ?_ i2
    refine Eq.trans ?_ k1
    show zf4 n (s77 n) (zhc n (s77 n) k) v true (r:Int)=_
    unfold zf4
    rw[dqT (show (r:Int) < n.Nodes by omega)];rfl
theorem zK4 (n:Net) (hn:NetOk n):p31 n=true/\(s31 n=true↔zbS (En n)):=by
 have hlen:=hn.len;have hn1:=hn.n1;have hn40:=hn.n40
 obtain⟨a,b⟩:=zpa n hn n.Nodes.toNat Fuel 0 true (⟨n.Nodes.toNat,(λ _=>(0:Int))⟩:Sl Int) (znJ n.Nodes.toNat) 0 (by omega) (by simp only[Fuel];omega) ⟨rfl,λ i hi=>dqP hi,λ i hi=>⟨by show -(0:Int)<=(0:Int);omega,Int.le_refl _⟩⟩ (by omega) (by omega)
 have hq:=(zDJ n (by omega)).1
 constructor
 ·unfold p31 zq2
  rw[hq]
  first
   | exact a
   | (rw[dqT (show 0<=n.Nodes/\n.Nodes=n.Nodes/\n.Nodes<=1000000 from ⟨by omega,rfl,by omega⟩)];exact a)
 ·have : s31 n = zgO (En n) n.Nodes.toNat true (znJ n.Nodes.toNat) := b
  rw[this]
  exact zzT (zKG (a:=W n) hn)
end Go.Proofs
namespace Go.Proofs
open Go Go.Pm
set_option maxRecDepth 100000
set_option linter.unusedVariables false
theorem zHJ (M:List Nat) (x:Nat):toI (M ++ [x])=toI M ++ [(x:Int)]:=by simp
theorem zHK {v:Sl Int}{M:List Nat}(h:IsP v (toI M)) (x:Nat):IsP ⟨v.len+1,zc2 v.len v.get (λ _=>(x:Int))⟩ (toI (M ++ [x])):=by
 rw[zHJ];exact zz4 h _
theorem zCc {v:Sl (Sl Int)}{A:List (List Nat)}(h:zjB v A){s:Sl Int}{M:List Nat}(hs:IsP s (toI M)):zjB ⟨v.len+1,zc2 v.len v.get (λ _=>s)⟩ (A ++ [M]) :=
 zsW (s:=⟨1,λ _=>s⟩) h ⟨rfl,λ i hi=>by
  have:i=0:=by have:i < 1:=hi;omega
  subst this;exact hs⟩
theorem zAb {M:List Nat}{i:Nat}(h:M.length=i+1):loL M=M[i]'(by omega)+1:=by
 unfold loL
 rw[List.getLast?_eq_getElem?,dqD (show M.length - 1 < M.length by omega)]
 simp only[show M.length - 1=i by omega]
abbrev zLh (N:Nat) (M:List Nat):List (List Nat):=(List.range' (loL M) (N - loL M)).map λ x=>M ++ [x]
section
variable (N many:Nat) (hN:N<=210)
include hN
theorem zsY (S0 : Sl (Sl Int) → Int → Sl (Sl Int)) (S1 : Sl (Sl Int) → Int → Int → Sl (Sl Int) → Sl (Sl Int)) (P0 : Sl (Sl Int) → Int → Bool) (P1 : Sl (Sl Int) → Int → Int → Sl (Sl Int) → Bool)
    (out:Sl (Sl Int)) (i:Int) (k:Nat) (hk:k < out.len) (hk6:k<=20000000) {M:List Nat} (hM:IsP (out.get k) (toI M)) (hMl:M.length<=1000) :
    ∀ (m x fu:Nat) (v:Sl (Sl Int)) (A:List (List Nat)),(x+m=N\/m=0/\N<=x)->x<=1000->m < fu->zjB v A->A.length+m<=30000000 ->
      ∃ v',zjB v' (A ++ (List.range' x m).map λ y=>M ++ [y])/\znB P0 P1 (N:Int) (many:Int) fu out i (k:Int) (x:Int) v=P1 out i ((k+1:Nat):Int) v'/\znA S0 S1 (N:Int) (many:Int) fu out i (k:Int) (x:Int) v=S1 out i ((k+1:Nat):Int) v'
  | _,_,0,_,_,_,_,h,_,_=>absurd h (dqW _)
  | 0,x,fu+1,v,A,hx,hx2,_,hv,_=>by
    have hd:decide ((x:Int) < (N:Int))=false:=dqF (by omega)
    have ek:w64 ((k:Int)+(1:Int))=((k+1:Nat):Int):=by rw[zbo (by omega) (by omega)];omega
    refine⟨v,by simpa using hv,?_,?_⟩
    · show ziY P0 P1 (N : Int) (many : Int) _ out i (k : Int) (x : Int) v = _
      unfold ziY;rw[hd,ek];rfl
    · show ziX S0 S1 (N : Int) (many : Int) _ out i (k : Int) (x : Int) v = _
      unfold ziX;rw[hd,ek];rfl
  | m+1,x,fu+1,v,A,hx,hx2,hf,hv,hA=>by
    have hxN:x < N:=by omega
    have hd:decide ((x:Int) < (N:Int))=true:=dqT (by omega)
    have ex:w64 ((x:Int)+(1:Int))=((x+1:Nat):Int):=by rw[zbo (by omega) (by omega)];omega
    have hl:(out.get k).len=M.length:=by rw[hM.1];simp
    have hvl:=hv.1
    obtain⟨v',h1,h2,h3⟩:=zsY S0 S1 P0 P1 out i k hk hk6 hM hMl m (x+1) fu _ _ (by omega) (by omega) (by omega) (zCc hv (zHK hM x)) (by rw[dqu,List.length_singleton];omega)
    refine⟨v',?_,?_,?_⟩
    · rw [List.range'_succ, dqK, List.append_cons]
      exact h1
    · show ziY P0 P1 (N : Int) (many : Int) (znB P0 P1 (N : Int) (many : Int) fu) out i (k : Int) (x : Int) v = _
      unfold ziY
      rw[hd,ex,show ((k:Int)).toNat=k from rfl,dqT (show (0:Int)<=(k:Int)/\(k:Int) < (out.len:Int) by omega),dqT (show (out.get k).len * 8<=140737488355328/\(out.get k).len<=9223372036854775807 by omega),
        dqT (show ((out.get k).len+1) * 8<=140737488355328/\(out.get k).len+1<=9223372036854775807 by omega),dqT (show (v.len+1) * 24<=140737488355328/\v.len+1<=9223372036854775807 by omega)]
      exact h2
    · show ziX S0 S1 (N : Int) (many : Int) (znA S0 S1 (N : Int) (many : Int) fu) out i (k : Int) (x : Int) v = _
      unfold ziX
      rw[hd,ex,show ((k:Int)).toNat=k from rfl]
      exact h3
theorem zpb (S0 : Sl (Sl Int) → Int → Sl (Sl Int)) (P0 : Sl (Sl Int) → Int → Bool) (out : Sl (Sl Int)) (i : Nat) (hi : i ≤ 3) {R : List (List Nat)} (hR : zjB out R) (hRi : ∀ M ∈ R, M.length = i ∧ loL M ≤ N) (hRl : R.length ≤ 100000) :
  ∀ (m k fu:Nat) (v:Sl (Sl Int)) (A:List (List Nat)),k+m=R.length->m < fu->zjB v A->A.length<=k * 210 ->
   ∃ v',zjB v' (A ++ (R.drop k).flatMap (zLh N))/\zi2 P0 (N:Int) (many:Int) fu out (i:Int) (k:Int) v=P0 v' ((i+1:Nat):Int)/\zi1 S0 (N:Int) (many:Int) fu out (i:Int) (k:Int) v=S0 v' ((i+1:Nat):Int)
 | _,_,0,_,_,_,h,_,_=>absurd h (dqW _)
 | 0,k,fu+1,v,A,hk,_,hv,_=>by
  have hl:=hR.1
  have hd:decide ((k:Int) < (out.len:Int))=false:=dqF (by omega)
  have ei:w64 ((i:Int)+(1:Int))=((i+1:Nat):Int):=by rw[zbo (by omega) (by omega)];omega
  refine⟨v,by rw[List.drop_of_length_le (by omega)];simpa using hv,?_,?_⟩
  ·show zi0 P0 (N : Int) (many : Int) _ out (i : Int) (k : Int) v = _
   unfold zi0;rw[hd,ei];rfl
  ·show ziZ S0 (N : Int) (many : Int) _ out (i : Int) (k : Int) v = _
   unfold ziZ;rw[hd,ei];rfl
 | m+1,k,fu+1,v,A,hk,hf,hv,hA=>by
  have hl:=hR.1
  have hkl:k < R.length:=by omega
  have hd:decide ((k:Int) < (out.len:Int))=true:=dqT (by omega)
  obtain⟨hMi,hMN⟩:=hRi _ (List.getElem_mem hkl)
  have hM:=hR.2 k hkl
  have hxl:((List.range' (loL R[k]) (N - loL R[k])).map λ y=>R[k] ++ [y]).length<=210:=by simp;omega
  obtain⟨v1,h1,h2,h3⟩:=zsY N many hN S0 (zi1 S0 (N:Int) (many:Int) fu) P0 (zi2 P0 (N:Int) (many:Int) fu) out (i:Int) k (by omega) (by omega) hM (by omega) (N - loL R[k]) (loL R[k]) Fuel v A (by omega) (by omega) (by unfold Fuel;omega) hv (by omega)
  obtain⟨v',h4,h5,h6⟩:=zpb S0 P0 out i hi hR hRi hRl m (k+1) fu v1 _ (by omega) (by omega) h1 (by rw[dqu];omega)
  refine⟨v',?_,?_,?_⟩
  ·rw [dqR hkl, dqJ, ← List.append_assoc]
   exact h4
  ·show zi0 P0 (N : Int) (many : Int) (zi2 P0 (N : Int) (many : Int) fu) out (i : Int) (k : Int) v = _
   unfold zi0 znD zq4
   rw[hd,<- h5,<- h2]
   by_cases hi0:i=0
   ·subst hi0
    have:R[k]=[]:=List.eq_nil_of_length_eq_zero hMi
    rw[this];rfl
   ·have hlast := zAb (M := R[k]) (i := i - 1) (by omega)
    have e1:w64 ((i:Int) - (1:Int))=((i - 1:Nat):Int):=by rw[zbo (by omega) (by omega)];omega
    have hll:(out.get k).len=i:=by rw[hM.1];simp[hMi]
    have e2:(out.get k).get (i - 1)=(R[k][i - 1]'(by omega):Int):=znG hM (by omega)
    have e3:w64 (((R[k][i - 1]'(by omega):Nat):Int)+(1:Int))=((loL R[k]:Nat):Int):=by rw[zbo (by omega) (by omega)];omega
    rw[dqT (show (i:Int) > (0:Int) by omega),show ((k:Int)).toNat=k from rfl,e1,show (((i - 1:Nat):Int)).toNat=i - 1 from rfl,e2,e3,
     dqT (show (0:Int)<=(k:Int)/\(k:Int) < (out.len:Int) by omega),dqT (show (0:Int)<=((i - 1:Nat):Int)/\((i - 1:Nat):Int) < ((out.get k).len:Int) by omega)]
    rfl
  ·show ziZ S0 (N : Int) (many : Int) (zi1 S0 (N : Int) (many : Int) fu) out (i : Int) (k : Int) v = _
   unfold ziZ znC zq3
   rw[hd,<- h6,<- h3]
   by_cases hi0:i=0
   ·subst hi0
    have:R[k]=[]:=List.eq_nil_of_length_eq_zero hMi
    rw[this];rfl
   ·have hlast := zAb (M := R[k]) (i := i - 1) (by omega)
    have e1:w64 ((i:Int) - (1:Int))=((i - 1:Nat):Int):=by rw[zbo (by omega) (by omega)];omega
    have e2:(out.get k).get (i - 1)=(R[k][i - 1]'(by omega):Int):=znG hM (by omega)
    have e3:w64 (((R[k][i - 1]'(by omega):Nat):Int)+(1:Int))=((loL R[k]:Nat):Int):=by rw[zbo (by omega) (by omega)];omega
    rw[dqT (show (i:Int) > (0:Int) by omega),show ((k:Int)).toNat=k from rfl,e1,show (((i - 1:Nat):Int)).toNat=i - 1 from rfl,e2,e3]
    rfl
theorem znH : ∀ k, (zjA N k).length ≤ 210 ^ k
  | 0=>dqt _
  | k+1=>by
    have key:∀ l:List (List Nat),(l.flatMap (zLh N)).length<=l.length * 210:=by
      intro l
      induction l with
      | nil=>simp
      | cons t l ih =>
        rw[dqJ,dqu,dqr,dqV]
        have:(zLh N t).length<=210:=by simp[zLh];omega
        omega
    rw[Nat.pow_succ]
    exact dqE (key _) (dqw _ (znH k))
theorem zsZ (hm:many<=3):∀ (m i fu:Nat) (out:Sl (Sl Int)),i+m=many->m < fu->zjB out (zjA N i) ->
  zi6 (N:Int) (many:Int) fu out (i:Int)=true/\zjB (zi5 (N:Int) (many:Int) fu out (i:Int)) (zjA N many)
 | _,_,0,_,_,h,_=>absurd h (dqW _)
 | 0,i,fu+1,out,hi,_,ho=>by
  have hd:decide ((i:Int) < (many:Int))=false:=dqF (by omega)
  show zi4 (N:Int) (many:Int) _ out (i:Int)=true/\zjB (zi3 (N:Int) (many:Int) _ out (i:Int)) _
  unfold zi4 zi3
  rw[hd]
  have:i=many:=by omega
  rw[<- this]
  exact⟨rfl,ho⟩
 | m+1,i,fu+1,out,hi,hf,ho=>by
  have hd:decide ((i:Int) < (many:Int))=true:=dqT (by omega)
  have hll:=znH N hN i
  have h210:(210:Nat) ^ i<=44100:=dqE (Nat.pow_le_pow_right (by omega) (by omega:i<=2)) (by decide)
  obtain⟨v',h1,h2,h3⟩:=zpb N many hN (zi5 (N:Int) (many:Int) fu) (zi6 (N:Int) (many:Int) fu) out i (by omega) ho (λ M hM=>by
   obtain⟨a,b,c⟩:=zfl.1 hM
   refine⟨a,?_⟩
   cases i with
   | zero=>have:M=[]:=List.eq_nil_of_length_eq_zero a;subst this;simp[loL]
   | succ i=>rw[zAb a];exact c _ (List.getElem_mem _)) (by omega) (zjA N i).length 0 Fuel ⟨0,λ _=>default⟩ [] (by omega) (by unfold Fuel;omega) ⟨rfl,λ i h=>absurd h (dqW _)⟩ (by simp)
  have nxt:=zsZ hm m (i+1) fu v' (by omega) (by omega) h1
  show zi4 (N:Int) (many:Int) (zi6 (N:Int) (many:Int) fu) out (i:Int)=true/\zjB (zi3 (N:Int) (many:Int) (zi5 (N:Int) (many:Int) fu) out (i:Int)) _
  unfold zi4 zi3 zq8 zq7
  rw[hd]
  have h2:zi2 (zi6 (N:Int) (many:Int) fu) (N:Int) (many:Int) Fuel out (i:Int) (0:Int) ⟨0,λ _=>default⟩=_:=h2
  have h3:zi1 (zi5 (N:Int) (many:Int) fu) (N:Int) (many:Int) Fuel out (i:Int) (0:Int) ⟨0,λ _=>default⟩=_:=h3
  rw[h2,h3]
  exact nxt
theorem zK5 (hm:many<=3):p73 (N:Int) (many:Int)=true/\zjB (s73 (N:Int) (many:Int)) (zjA N many) :=
 zsZ N many hN hm many 0 Fuel _ (by omega) (by unfold Fuel;omega) ⟨rfl,λ i hi=>by
  have:i=0:=by have:i < 1:=hi;omega
  subst this;exact⟨rfl,λ k hk=>absurd hk (dqW _)⟩⟩
end
section
variable {n:Net}(hn:NetOk n)
include hn
theorem zHL {m:Net}{M:List Nat}(h:Pick n m (λ j=>decide ((j:Int)∈toI M))):NetOk m/\(zbS (En m)↔sdF n (λ j=>decide (j∈M))=true):=by
  have e:(λ j:Nat=>decide ((j:Int)∈toI M))=λ j=>decide (j∈M):=by
    funext j
    have h:(j:Int)∈toI M↔j∈M:=by
      rw[dqz]
      exact ⟨fun ⟨a, ha, e⟩ => by have : a = j := by omega
                                  subst this;exact ha,λ h=>⟨j,h,rfl⟩⟩
    rw[decide_eq_decide];exact h
  rw[e] at h
  refine⟨Pick.net h hn,?_⟩
  rw[zmd hn]
  exact⟨λ hN=>zd3 (λ e he=>(h.edges hn e).2 he) hN,λ hN=>zd3 (λ e he=>(h.edges hn e).1 he) hN⟩
theorem zCd (hl:n.Ties.len<=210){l:Sl Int}{M:List Nat}(h:IsP l (toI M)) (hM:M.length<=1000000):p27 n l=true/\p31 (s27 n l)=true/\s31 (s27 n l)=sdF n (λ j=>decide (j∈M)):=by
 obtain⟨a1,a2⟩:=zKV n hl h (by simpa using hM)
 obtain⟨b1,b2⟩:=zHL hn a2
 obtain⟨c1,c2⟩:=zK4 _ b1
 refine⟨a1,c1,?_⟩
 rw[Bool.eq_iff_iff,c2,b2]
theorem zpc (hl : n.Ties.len ≤ 210) (S0 : Int → Sl Int × Bool) (P0 : Int → Bool) {v : Sl (Sl Int)} {A : List (List Nat)} (hv : zjB v A) (hA : A.length ≤ 20000000) (hA3 : ∀ M ∈ A, M.length ≤ 3) (t : Nat) (ht : t ≤ 3) :
  ∀ (m i fu:Nat),i+m=A.length->m < fu ->
   (∃ R,(A.drop i).find? (λ M=>sdF n (λ j=>decide (j∈M)))=some R/\zgc P0 n v fu (t:Int) (i:Int)=true/\IsP (zeE S0 n v fu (t:Int) (i:Int)).1 (toI R)/\(zeE S0 n v fu (t:Int) (i:Int)).2=true) \/
   ((A.drop i).find? (λ M=>sdF n (λ j=>decide (j∈M)))=none/\zgc P0 n v fu (t:Int) (i:Int)=P0 ((t+1:Nat):Int)/\zeE S0 n v fu (t:Int) (i:Int)=S0 ((t+1:Nat):Int))
 | _,_,0,_,h=>absurd h (dqW _)
 | 0,i,fu+1,hi,_=>by
  have hvl:=hv.1
  have hd:decide ((i:Int) < (v.len:Int))=false:=dqF (by omega)
  have et:w64 ((t:Int)+(1:Int))=((t+1:Nat):Int):=by rw[zbo (by omega) (by omega)];omega
  refine .inr ⟨by rw[List.drop_of_length_le (by omega)];rfl,?_,?_⟩
  ·show zhe P0 n v _ (t : Int) (i : Int) = _
   unfold zhe;rw[hd,et];rfl
  ·show zgb S0 n v _ (t : Int) (i : Int) = _
   unfold zgb;rw[hd,et];rfl
 | m+1,i,fu+1,hi,hf=>by
  have hvl:=hv.1
  have hil:i < A.length:=by omega
  have hd:decide ((i:Int) < (v.len:Int))=true:=dqT (by omega)
  have b1:decide ((0:Int)<=(i:Int)/\(i:Int) < (v.len:Int))=true:=dqT ⟨by omega,by omega⟩
  have ei:w64 ((i:Int)+(1:Int))=((i+1:Nat):Int):=by rw[zbo (by omega) (by omega)];omega
  obtain⟨c1,c2,c3⟩:=zCd hn hl (hv.2 i hil) (by have:=hA3 _ (List.getElem_mem hil);omega)
  have nxt:=zpc hl S0 P0 hv hA hA3 t ht m (i+1) fu (by omega) (by omega)
  rw[dqR hil,List.find?_cons]
  show (∃ R, _ = some R ∧ zhe P0 n v (zgc P0 n v fu) (t : Int) (i : Int) = true ∧ IsP (zgb S0 n v (zeE S0 n v fu) (t : Int) (i : Int)).1 (toI R) ∧ (zgb S0 n v (zeE S0 n v fu) (t : Int) (i : Int)).2 = true) ∨
   (_=none/\zhe P0 n v (zgc P0 n v fu) (t:Int) (i:Int)=_/\zgb S0 n v (zeE S0 n v fu) (t:Int) (i:Int)=_)
  generalize zeE S0 n v fu=S2 at nxt ⊢
  generalize zgc P0 n v fu=P2 at nxt ⊢
  unfold zhe zgb zrf zre
  rw[hd,b1,show ((i:Int)).toNat=i from rfl,c1,c2,c3,ei]
  cases hs:sdF n (λ j=>decide (j∈A[i]))
  ·exact nxt
  ·exact .inl ⟨_,rfl,rfl,hv.2 i hil,rfl⟩
theorem zs3 (hl:n.Ties.len<=210):∀ (m t fu:Nat),t+m=4->m < fu->(∀ M,Snd' n M->t<=M.length) ->
  zi8 n fu (t:Int)=true/\((∃ R,IsP (zeF n fu (t:Int)).1 (toI R)/\(zeF n fu (t:Int)).2=true/\Lst n R)\/((zeF n fu (t:Int)).2=false/\∀ M,Snd' n M->3 < M.length))
 | _,_,0,_,h,_=>absurd h (dqW _)
 | 0,t,fu+1,ht,_,hno=>by
  have ht:t=4:=by omega
  subst ht
  exact⟨rfl,.inr ⟨rfl,λ M hM=>hno M hM⟩⟩
 | m+1,t,fu+1,ht,hf,hno=>by
  obtain⟨c1,c2⟩:=zK5 n.Ties.len t hl (by omega)
  have hll:=znH n.Ties.len hl t
  have h210:(210:Nat) ^ t<=9261000:=dqE (Nat.pow_le_pow_right (by omega) (by omega:t<=3)) (by decide)
  have hd:decide ((t:Int)<=(3:Int))=true:=dqT (by omega)
  have nxt:=zs3 hl m (t+1) fu (by omega) (by omega)
  have key:=zpc hn hl (zeF n fu) (zi8 n fu) c2 (by omega) (λ M hM=>by have:=(zfl.1 hM).1;omega) t (by omega) (zjA n.Ties.len t).length 0 Fuel (by omega) (by unfold Fuel;omega)
  rw[List.drop_zero] at key
  show znE n (zi8 n fu) (t:Int)=true/\((∃ R,IsP (zi7 n (zeF n fu) (t:Int)).1 (toI R)/\(zi7 n (zeF n fu) (t:Int)).2=true/\Lst n R)\/((zi7 n (zeF n fu) (t:Int)).2=false/\_))
  generalize zeF n fu=S0 at nxt key ⊢
  generalize zi8 n fu=P0 at nxt key ⊢
  unfold znE zi7 zrk zrj zrh zrg
  rw[hd,c1]
  rcases key with ⟨R,k1,k2,k3,k4⟩ | ⟨k1,k2,k3⟩
  ·obtain ⟨hR, hRs, hRm⟩ := ztJ (zsL t) k1
   obtain⟨r1,r2,r3⟩:=zfl.1 hR
   refine⟨k2,.inl ⟨R,k3,k4,⟨r2,r3,hRs⟩,by omega,λ M hM=>?_⟩⟩
   have h1:=hno M hM
   by_cases e:M.length=t
   ·refine .inr ⟨by omega, ?_⟩
    rcases hRm M (zfl.2 ⟨e,hM.inc,hM.lt⟩) hM.sd with rfl | h
    ·exact λ h=>zgd h h
    ·exact λ h'=>zgd h h'
   ·exact .inl (by omega)
  ·have h2 : zgc P0 n (s73 (n.Ties.len : Int) (t : Int)) Fuel (t : Int) (0 : Int) = _ := k2
   have h3:zeE S0 n (s73 (n.Ties.len:Int) (t:Int)) Fuel (t:Int) (0:Int)=_:=k3
   rw[h2,h3]
   refine nxt λ M hM=>?_
   have h1:=hno M hM
   refine Nat.lt_of_le_of_ne h1 λ e=>?_
   have:=List.find?_eq_none.1 k1 M (zfl.2 ⟨e.symm,hM.inc,hM.lt⟩)
   exact this hM.sd
theorem zK6 (hl:n.Ties.len<=210):p24 n=true/\((∃ R,IsP (s24 n).1 (toI R)/\(s24 n).2=true/\Lst n R)\/((s24 n).2=false/\∀ M,Snd' n M->3 < M.length)) :=
 zs3 hn hl 4 0 Fuel (by omega) (by unfold Fuel;omega) λ M _=>Nat.zero_le _
end
end Go.Proofs
namespace Go.Proofs
open Go Go.Pm
set_option maxRecDepth 100000
set_option linter.unusedVariables false
theorem zCe {n:Net}{R R':List Nat}(h:Lst n R) (h':Lst n R'):R=R':=by
 have a:=h.min _ h'.snd
 have b:=h'.min _ h.snd
 rcases a with a | ⟨a,a'⟩
 ·rcases b with b | ⟨b,_⟩ <;> omega
 ·rcases b with b | ⟨b, b'⟩
  ·omega
  ·by_cases e : R = R'
   ·exact e
   ·rcases zo2 a e with h1 | h1
    ·exact absurd h1 b'
    ·exact absurd h1 a'
theorem blames_true (n:Net):p3 n=true/\s3 n=true:=by
 unfold p3 s3
 by_cases h:s20 n 9=true
 ·have hl := zzB h (by omega)
  rw[h]
  obtain⟨b1,b2⟩:=zKz n (by omega)
  unfold zzx zzw
  rw[show (!true)=false from rfl,dqB,dqB]
  unfold zzv zzu zzt zzs
  rw[b1,b2]
  cases hs:s67 n
  ·obtain ⟨c1, c2, c3⟩ := zHH (by omega) hs
   unfold zsI zsH
   rw[c1,c2,c3]
   exact⟨rfl,rfl⟩
  ·have hn := (zrm n (by omega)).2.1 hs
   obtain⟨c1,c2⟩:=zK2 hn hs
   obtain⟨d1,d2⟩:=zK6 hn hl
   unfold zsI zsH zzr zzq zzp zzo
   rw[c1,d1]
   generalize s22 n=x at c2 ⊢
   generalize s24 n=y at d2 ⊢
   rcases c2 with ⟨R,e1,e2,e3⟩ | ⟨e1,e2,e3⟩
   ·rcases d2 with ⟨R', f1, f2, f3⟩ | ⟨f2, f3⟩
    ·have := zCe e3 f3
     subst this
     obtain⟨g1,g2⟩:=zKU e1 f1 (by have:=e3.len;rw[List.length_map];omega)
     rw[e2,f2,g1,g2]
     exact⟨rfl,rfl⟩
    ·exact absurd (f3 _ e3.snd) (by have:=e3.len;omega)
   ·rcases d2 with ⟨R', f1, f2, f3⟩ | ⟨f2, f3⟩
    ·exact absurd (e3 _ f3.snd) (by have:=f3.len;omega)
    ·rw [e1, e2, f2]
     exact⟨rfl,rfl⟩
 ·rw [Bool.eq_false_iff.2 h]
  exact⟨rfl,rfl⟩
end Go.Proofs
