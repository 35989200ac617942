/- Part 6 of what the proof rests on: a machine that runs functions of the program on pure values, proved sound; the functions that the law reaches, and what they compute. -/
import Derived.Test.YtedhjaaikeakoaaDoorQ5
set_option linter.all false
namespace Go.Proofs
open Go Go.Pm
set_option maxRecDepth 100000
set_option linter.unusedVariables false
def Rh (N:Nat) (T:Tab) (d:zcA) (B:Int):Prop:=∀ v,v < N->(T (v * 2)=zur (d v)/\T (v * 2+1)=0)/\∀ x,d v=some x->-B≤x/\x≤B
def okY (node:Int) (y:step):Bool:=decide (node≤y.from_) && decide (node≤y.to)
def hF (w:web) (node:Int):List Ed:=((Ws w).filter (okY node)).map edQ
theorem zLb (x y:Int):nvr x y=decide ((x,y)=((1000000000000:Int),(0:Int))):=zCG x y
theorem zAC {N:Nat}{T:Tab}{d:zcA}{B:Int}(h:Rh N T d B) (hB:B≤100000000000){v:Nat}(hv:v < N):nvr (T (v * 2)) (T (v * 2+1))=(d v).isNone:=by
 obtain⟨⟨h1,h2⟩,h3⟩:=h v hv
 rw[zLb,h1,h2]
 cases hd:d v with
 | none=>exact dqT rfl
 | some x =>
  have:=h3 x hd
  exact dqF (λ e=>by have:=(Prod.mk.inj e).1;have e':x=1000000000000:=this;omega)
theorem zAD (w : web) {N : Nat} (hN : N ≤ 40) (node uses : Int) (S3 : Int → Sl Tab → Sl Tab) (P3 : Int → Sl Tab → Bool) (y : step) (hy : StOk y N) (S4 : Int → Sl Tab → Sl Tab) (P4 : Int → Sl Tab → Bool) (k : Nat) (hk : 1 ≤ k) (hk40 : k ≤ 45) (v : Sl Tab) (hkv : k < v.len) (o d : zcA) (B : Int) (hB : 0 ≤ B ∧ B ≤ 90000000000) (ho : Rh N (v.get (k - 1)) o B) (hd : Rh N (v.get k) d (B + 1000000000)) (c : Bool) :
    ∃ v',zkf S3 w node uses y S4 (k:Int) v=S4 (k:Int) v'/\zkg P3 w node uses y P4 (k:Int) v=P4 (k:Int) v'/\v'.len=v.len/\(∀ j,j ≠ k->v'.get j=v.get j) /\
      Rh N (v'.get k) (cond (okY node y) (jr o (d,c) (edQ y)) (d,c)).1 (B+1000000000):=by
  have f0:=hy.f0;have f1:=hy.f1;have t0:=hy.t0;have t1:=hy.t1;have l0:=hy.l0;have l1:=hy.l1
  have hw:w64 ((k:Int) - (1:Int))=((k - 1:Nat):Int):=by rw[za9 (by omega) (by omega)];omega
  have e1:0+y.to.toNat * 2+0=y.to.toNat * 2:=by omega
  have e2:0+y.from_.toNat * 2+0=y.from_.toNat * 2:=by omega
  have hS : zkf S3 w node uses y S4 (k : Int) v = cond (decide (node ≤ y.from_)) (cond (decide (node ≤ y.to)) (cond (!(nvr (tg 80 (v.get ((w64 ((k : Int) - (1:Int))).toNat)) (0 + y.to.toNat * 2 + 0)) (tg 80 (v.get ((w64 ((k : Int) - (1:Int))).toNat)) (0 + y.to.toNat * 2 + 0 + 1))))
      (S4 (k:Int) (⟨v.len,(setT ((k:Int)).toNat (ts 80 (v.get ((k:Int)).toNat) (0+y.from_.toNat * 2+0) [(zfi (⟨(tg 80 (v.get ((k:Int)).toNat) (0+y.from_.toNat * 2+0)),(tg 80 (v.get ((k:Int)).toNat) (0+y.from_.toNat * 2+0+1))⟩:far) (⟨1,λ _=>(⟨(w64 ((tg 80 (v.get ((w64 ((k:Int) - (1:Int))).toNat)) (0+y.to.toNat * 2+0))+y.length)),(0:Int)⟩:far)⟩:(Sl far))).length,(zfi (⟨(tg 80 (v.get ((k:Int)).toNat) (0+y.from_.toNat * 2+0)),(tg 80 (v.get ((k:Int)).toNat) (0+y.from_.toNat * 2+0+1))⟩:far) (⟨1,λ _=>(⟨(w64 ((tg 80 (v.get ((w64 ((k:Int) - (1:Int))).toNat)) (0+y.to.toNat * 2+0))+y.length)),(0:Int)⟩:far)⟩:(Sl far))).uses]) v.get)⟩:Sl Tab)) (S4 (k:Int) v)) (S4 (k:Int) v)) (S4 (k:Int) v):=rfl
  have hP : zkg P3 w node uses y P4 (k : Int) v = (decide (0 ≤ (w64 ((k : Int) - (1:Int))) ∧ (w64 ((k : Int) - (1:Int))) < (v.len : Int)) && (decide (0 ≤ y.to ∧ y.to < (40 : Int)) && (decide ((w64 ((k : Int) - (1:Int))).toNat < v.len) && cond (decide (node ≤ y.from_)) (cond (decide (node ≤ y.to)) (cond (!(nvr (tg 80 (v.get ((w64 ((k : Int) - (1:Int))).toNat)) (0 + y.to.toNat * 2 + 0)) (tg 80 (v.get ((w64 ((k : Int) - (1:Int))).toNat)) (0 + y.to.toNat * 2 + 0 + 1))))
      (decide (0≤(k:Int)/\(k:Int) < (v.len:Int)) && (decide (0≤y.from_/\y.from_ < (40:Int)) && (decide (((k:Int)).toNat < v.len) && (decide (zDi (⟨(tg 80 (v.get ((k:Int)).toNat) (0+y.from_.toNat * 2+0)),(tg 80 (v.get ((k:Int)).toNat) (0+y.from_.toNat * 2+0+1))⟩:far) (⟨1,λ _=>(⟨(w64 ((tg 80 (v.get ((w64 ((k:Int) - (1:Int))).toNat)) (0+y.to.toNat * 2+0))+y.length)),(0:Int)⟩:far)⟩:(Sl far))=true) && (decide (0≤(k:Int)/\(k:Int) < (v.len:Int)) && (decide (0≤y.from_/\y.from_ < (40:Int)) && (decide (((k:Int)).toNat < v.len) &&
      P4 (k:Int) (⟨v.len,(setT ((k:Int)).toNat (ts 80 (v.get ((k:Int)).toNat) (0+y.from_.toNat * 2+0) [(zfi (⟨(tg 80 (v.get ((k:Int)).toNat) (0+y.from_.toNat * 2+0)),(tg 80 (v.get ((k:Int)).toNat) (0+y.from_.toNat * 2+0+1))⟩:far) (⟨1,λ _=>(⟨(w64 ((tg 80 (v.get ((w64 ((k:Int) - (1:Int))).toNat)) (0+y.to.toNat * 2+0))+y.length)),(0:Int)⟩:far)⟩:(Sl far))).length,(zfi (⟨(tg 80 (v.get ((k:Int)).toNat) (0+y.from_.toNat * 2+0)),(tg 80 (v.get ((k:Int)).toNat) (0+y.from_.toNat * 2+0+1))⟩:far) (⟨1,λ _=>(⟨(w64 ((tg 80 (v.get ((w64 ((k:Int) - (1:Int))).toNat)) (0+y.to.toNat * 2+0))+y.length)),(0:Int)⟩:far)⟩:(Sl far))).uses]) v.get)⟩:Sl Tab)))))))) (P4 (k:Int) v)) (P4 (k:Int) v)) (P4 (k:Int) v)))):=rfl
  rw[hS,hP]
  clear hS hP
  rw[hw,e1,e2,dqN,dqN]
  rw[zhj (F:=v.get (k - 1)) (by omega),zhj (F:=v.get (k - 1)) (by omega),zhj (F:=v.get k) (by omega),zhj (F:=v.get k) (by omega)]
  rw[zAC ho (by omega) (show y.to.toNat < N by omega),(ztz _ _).1,(ztz _ _).2,zH3]
  rw[dqT (show 0≤((k - 1:Nat):Int)/\((k - 1:Nat):Int) < (v.len:Int) by omega),dqT (show 0≤y.to/\y.to < (40:Int) by omega),dqT (show k - 1 < v.len by omega),dqT (show 0≤(k:Int)/\(k:Int) < (v.len:Int) by omega),dqT (show 0≤y.from_/\y.from_ < (40:Int) by omega),dqT hkv]
  simp only[Bool.true_and,decide_true]
  have same:∃ v',S4 (k:Int) v=S4 (k:Int) v'/\P4 (k:Int) v=P4 (k:Int) v'/\v'.len=v.len/\(∀ j,j ≠ k->v'.get j=v.get j)/\Rh N (v'.get k) d (B+1000000000):=⟨v,rfl,rfl,rfl,λ _ _=>rfl,hd⟩
  unfold okY
  cases decide (node≤y.from_)
  · exact same
  cases decide (node≤y.to)
  · exact same
  simp only[dqA,Bool.and_self]
  obtain⟨⟨o1,o2⟩,o3⟩:=ho y.to.toNat (by omega)
  obtain⟨⟨d1,d2⟩,d3⟩:=hd y.from_.toNat (by omega)
  cases hou:o y.to.toNat with
  | none =>
    have hr:jr o (d,c) (edQ y)=(d,c):=by
      unfold jr edQ
      simp only[hou]
    rw[hr]
    simp only[Option.isNone_none,Bool.not_true,dqB]
    exact same
  | some x =>
    have hx:=o3 x hou
    rw[hou] at o1
    have o1':v.get (k - 1) (y.to.toNat * 2)=x:=o1
    simp only[Option.isNone_some,Bool.not_false,dqA]
    rw[o1',za9 (x:=x+y.length) (by omega) (by omega),d2,d1]
    have hlt:decide ((x+y.length < zur (d y.from_.toNat))∨(x+y.length=zur (d y.from_.toNat)/\(0:Int) < 0))=ltO (x+y.length) (d y.from_.toNat):=by
      cases hdv:d y.from_.toNat with
      | none=>exact dqT (.inl (show x+y.length < 1000000000000 by omega))
      | some z =>
        show decide ((x+y.length < z)∨_)=decide (x+y.length < z)
        exact decide_eq_decide.2 ⟨λ h=>h.elim id λ h=>absurd h.2 (by omega),.inl⟩
    have hr:jr o (d,c) (edQ y)=cond (ltO (x+y.length) (d y.from_.toNat)) (zmH d y.from_.toNat (x+y.length),true) (d,c):=by
      unfold jr edQ
      simp only[hou] <;> rfl
    rw[hr]
    refine⟨_,rfl,rfl,rfl,λ j hj=>?_,?_⟩
    · show setT k _ v.get j = v.get j
      rw[zdV,dqG hj]
    · show Rh N (setT k _ v.get k) _ _
      rw[zdV,dqP rfl]
      show Rh N (ts 80 (v.get k) (y.from_.toNat * 2) [(cond (decide ((x+y.length < zur (d y.from_.toNat))∨(x+y.length=zur (d y.from_.toNat)/\(0:Int) < 0))) (⟨x+y.length,0⟩:far) (⟨zur (d y.from_.toNat),0⟩:far)).length,(cond (decide ((x+y.length < zur (d y.from_.toNat))∨(x+y.length=zur (d y.from_.toNat)/\(0:Int) < 0))) (⟨x+y.length,0⟩:far) (⟨zur (d y.from_.toNat),0⟩:far)).uses]) _ _
      rw[hlt]
      cases hl:ltO (x+y.length) (d y.from_.toNat) with
      | false =>
        simp only[dqB]
        intro q hq
        refine⟨?_,(hd q hq).2⟩
        rw[zjX (by omega),zjX (by omega)]
        by_cases hqf:q=y.from_.toNat
        · subst hqf
          rw[dqG (by omega),dqP rfl,dqP rfl];exact⟨rfl,rfl⟩
        · rw[dqG (by omega),dqG (by omega),dqG (by omega),dqG (by omega)];exact (hd q hq).1
      | true =>
        simp only[dqA]
        intro q hq
        rw[zjX (by omega),zjX (by omega)]
        unfold zmH
        by_cases hqf:q=y.from_.toNat
        · subst hqf
          rw[dqG (by omega),dqP rfl,dqP rfl,dqP rfl]
          exact⟨⟨rfl,rfl⟩,λ z hz=>by cases hz;omega⟩
        · rw[dqG (show ¬ q * 2=y.from_.toNat * 2+1 by omega),dqG (show ¬ q * 2=y.from_.toNat * 2 by omega),dqG (show ¬ q * 2+1=y.from_.toNat * 2+1 by omega),dqG (show ¬ q * 2+1=y.from_.toNat * 2 by omega),dqG hqf];exact hd q hq
theorem zAE (w : web) {N : Nat} (hN : N ≤ 40) (node uses : Int) (S3 : Int → Sl Tab → Sl Tab) (P3 : Int → Sl Tab → Bool) (k : Nat) (hk : 1 ≤ k) (hk40 : k ≤ 45) (o : zcA) (B : Int) (hB : 0 ≤ B ∧ B ≤ 90000000000) :
  ∀ (l:List step),(∀ y∈l,StOk y N)->∀ (v:Sl Tab) (d:zcA) (c:Bool),k < v.len->Rh N (v.get (k - 1)) o B->Rh N (v.get k) d (B+1000000000) ->
  ∃ v',zkh S3 w node uses l (k:Int) v=S3 (w64 ((k:Int)+(1:Int))) v'/\zki P3 w node uses l (k:Int) v=P3 (w64 ((k:Int)+(1:Int))) v'/\v'.len=v.len/\(∀ j,j ≠ k->v'.get j=v.get j) /\
   Rh N (v'.get k) (((l.filter (okY node)).map edQ).foldl (jr o) (d,c)).1 (B+1000000000):=by
 intro l
 induction l with
 | nil=>intro _ v d c _ _ hd;exact⟨v,rfl,rfl,rfl,λ _ _=>rfl,hd⟩
 | cons y l ih =>
  intro hl v d c hkv ho hd
  obtain⟨v1,a1,a2,a3,a4,a5⟩:=zAD w hN node uses S3 P3 y (hl y (dqj ..)) (zkh S3 w node uses l) (zki P3 w node uses l) k hk hk40 v hkv o d B hB ho hd c
  have ho1:Rh N (v1.get (k - 1)) o B:=by rw[a4 (k - 1) (by omega)];exact ho
  cases hok:okY node y with
  | false =>
   rw[hok] at a5
   obtain⟨v2,b1,b2,b3,b4,b5⟩:=ih (λ z hz=>hl z (dqf _ hz)) v1 d c (by omega) ho1 a5
   refine⟨v2,Eq.trans a1 b1,Eq.trans a2 b2,b3.trans a3,λ j hj=>(b4 j hj).trans (a4 j hj),?_⟩
   rw[List.filter_cons_of_neg (by rw[hok];exact dqk)];exact b5
  | true =>
   rw[hok] at a5
   obtain⟨v2,b1,b2,b3,b4,b5⟩:=ih (λ z hz=>hl z (dqf _ hz)) v1 (jr o (d,c) (edQ y)).1 (jr o (d,c) (edQ y)).2 (by omega) ho1 a5
   refine⟨v2,Eq.trans a1 b1,Eq.trans a2 b2,b3.trans a3,λ j hj=>(b4 j hj).trans (a4 j hj),?_⟩
   rw[List.filter_cons_of_pos hok];exact b5
structure Hm (w : web) (N : Nat) (node : Int) (U k : Nat) (v : Sl Tab) : Prop where
  len:v.len=U+1
  done:∀ j,j < k->j≤U->Rh N (v.get j) (hops (hF w node) node.toNat j) (j * 1000000000)
  rest:∀ j,k≤j->j≤U->Rh N (v.get j) zus 0
theorem Rh.mono {N:Nat}{T:Tab}{d:zcA}{B B':Int}(h:Rh N T d B) (hb:B≤B'):Rh N T d B':=λ v hv=>⟨(h v hv).1,λ x hx=>by have:=(h v hv).2 x hx;omega⟩
theorem zss (w:web) (hn:NetOk w.Net) (node:Int) (U:Nat) (hU:U≤40):∀ (m fu k:Nat) (v:Sl Tab),k+m=U+1->1≤k->m < fu->Hm w w.Net.Nodes.toNat node U k v ->
  zd3 w node (U:Int) fu (k:Int) v=true/\Hm w w.Net.Nodes.toNat node U (U+1) (zdu w node (U:Int) fu (k:Int) v):=by
 have hn40:=hn.n40;have hlen:=hn.len
 obtain⟨q1,q2⟩:=zor w (by omega)
 intro m
 induction m with
 | zero =>
  intro fu k v hk h1 hf hv
  obtain⟨fu,rfl⟩:∃ k',fu=k'+1:=⟨fu - 1,by omega⟩
  have e1:zd3 w node (U:Int) (fu+1) (k:Int) v=true:=by
   show zg3 w node (U:Int) (zd3 w node (U:Int) fu) (k:Int) v=true
   unfold zg3
   rw[dqF (show ¬ (k:Int)≤(U:Int) by omega),dqB]
  have e2:zdu w node (U:Int) (fu+1) (k:Int) v=v:=by
   show zg2 w node (U:Int) (zdu w node (U:Int) fu) (k:Int) v=v
   unfold zg2
   rw[dqF (show ¬ (k:Int)≤(U:Int) by omega),dqB]
  refine⟨e1,?_⟩
  rw[e2]
  have:k=U+1:=by omega
  subst this;exact hv
 | succ m ih =>
  intro fu k v hk h1 hf hv
  obtain⟨fu,rfl⟩:∃ k',fu=k'+1:=⟨fu - 1,by omega⟩
  have hw:w64 ((k:Int)+(1:Int))=((k+1:Nat):Int):=by rw[za9 (by omega) (by omega)];omega
  have hvl:=hv.len
  obtain⟨v',a1,a2,a3,a4,a5⟩:=zAE w (N:=w.Net.Nodes.toNat) (by omega) node (U:Int) (zdu w node (U:Int) fu) (zd3 w node (U:Int) fu) k h1 (by omega) (hops (hF w node) node.toNat (k - 1)) ((k - 1:Nat) * 1000000000) ⟨by omega,by omega⟩ (Ws w) (λ y hy=>zpI hn hy) v zus false (by omega) (hv.done (k - 1) (by omega) (by omega)) ((hv.rest k (dqt _) (by omega)).mono (by omega))
  rw[hw] at a1 a2
  have hv':Hm w w.Net.Nodes.toNat node U (k+1) v':=by
   refine⟨a3.trans hvl,λ j hj hjU=>?_,λ j hj hjU=>?_⟩
   ·by_cases hjk : j = k
    ·subst hjk
     have e:hops (hF w node) node.toNat j=hop (hF w node) (hops (hF w node) node.toNat (j - 1)):=by
      obtain⟨j,rfl⟩:∃ j',j=j'+1:=⟨j - 1,by omega⟩
      rfl
     rw[e]
     exact Rh.mono a5 (by omega)
    ·rw[a4 j hjk];exact hv.done j (by omega) hjU
   ·rw[a4 j (by omega)];exact hv.rest j (by omega) hjU
  obtain⟨i1,i2⟩:=ih fu (k+1) v' (by omega) (by omega) (by omega) hv'
  have e1:zd3 w node (U:Int) (fu+1) (k:Int) v=zd3 w node (U:Int) fu ((k+1:Nat):Int) v':=by
   rw[← a2]
   show zg3 w node (U:Int) (zd3 w node (U:Int) fu) (k:Int) v=_
   unfold zg3 znH
   rw[dqT (show (k:Int)≤(U:Int) by omega),dqA,q1,q2];rfl
  have e2:zdu w node (U:Int) (fu+1) (k:Int) v=zdu w node (U:Int) fu ((k+1:Nat):Int) v':=by
   rw[← a1]
   show zg2 w node (U:Int) (zdu w node (U:Int) fu) (k:Int) v=_
   unfold zg2 znG
   rw[dqT (show (k:Int)≤(U:Int) by omega),dqA,q2]
  exact⟨e1.trans i1,by rw[e2];exact i2⟩
theorem zut (w:web) (node:Int) (U:Nat) (hU:U≤40) (S0:Int->Sl Tab->Sl Tab) (P0:Int->Sl Tab->Bool) (i:Nat) (hi:i < U+1):∀ (m fu q:Nat) (v:Sl Tab),q+m=40->m < fu->v.len=U+1->(∀ p,p < q->v.get i (p * 2)=1000000000000/\v.get i (p * 2+1)=0) ->
  ∃ v',zik S0 w node (U:Int) fu (i:Int) (i:Int) (q:Int) v=S0 (w64 ((i:Int)+(1:Int))) v'/\zil P0 w node (U:Int) fu (i:Int) (i:Int) (q:Int) v=P0 (w64 ((i:Int)+(1:Int))) v'/\v'.len=v.len/\(∀ j,j ≠ i->v'.get j=v.get j)/\∀ p,p < 40->v'.get i (p * 2)=1000000000000/\v'.get i (p * 2+1)=0:=by
 intro m
 induction m with
 | zero =>
  intro fu q v hq hf hv h
  obtain⟨fu,rfl⟩:∃ k',fu=k'+1:=⟨fu - 1,by omega⟩
  refine⟨v,?_,?_,rfl,λ _ _=>rfl,λ p hp=>h p (by omega)⟩
  ·show zg4 S0 w node (U : Int) (zik S0 w node (U : Int) fu) (i : Int) (i : Int) (q : Int) v = _
   unfold zg4
   rw[dqF (show ¬ (q:Int) < (40:Int) by omega),dqB]
  ·show zg5 P0 w node (U : Int) (zil P0 w node (U : Int) fu) (i : Int) (i : Int) (q : Int) v = _
   unfold zg5
   rw[dqF (show ¬ (q:Int) < (40:Int) by omega),dqB]
 | succ m ih =>
  intro fu q v hq hf hv h
  obtain⟨fu,rfl⟩:∃ k',fu=k'+1:=⟨fu - 1,by omega⟩
  have hw:w64 ((q:Int)+(1:Int))=((q+1:Nat):Int):=by rw[za9 (by omega) (by omega)];omega
  obtain⟨v',a1,a2,a3,a4,a5⟩:=ih fu (q+1) (⟨v.len,(setT i (ts 80 (v.get i) (q * 2) [(1000000000000:Int),(0:Int)]) v.get)⟩:Sl Tab) (by omega) (by omega) hv (λ p hp=>by
   show setT i _ v.get i (p * 2)=_/\setT i _ v.get i (p * 2+1)=_
   rw[zdV,dqP rfl,zjX (by omega),zjX (by omega)]
   by_cases hpq:p=q
   ·subst hpq
    rw[dqG (by omega),dqP rfl,dqP rfl];exact⟨rfl,rfl⟩
   ·rw[dqG (by omega),dqG (by omega),dqG (by omega),dqG (by omega)];exact h p (by omega))
  refine⟨v',?_,?_,a3,λ j hj=>(a4 j hj).trans (by show setT i _ v.get j=_;rw[zdV,dqG hj]),a5⟩
  ·rw [← a1]
   show zg4 S0 w node (U:Int) (zik S0 w node (U:Int) fu) (i:Int) (i:Int) (q:Int) v=_
   unfold zg4
   rw[dqT (show (q:Int) < (40:Int) by omega),dqA,hw,dqN,dqN,show 0+q * 2+0=q * 2 by omega]
  ·rw [← a2]
   show zg5 P0 w node (U:Int) (zil P0 w node (U:Int) fu) (i:Int) (i:Int) (q:Int) v=_
   unfold zg5
   rw[dqT (show (q:Int) < (40:Int) by omega),dqA,hw,dqN,dqN,show 0+q * 2+0=q * 2 by omega,dqT (show 0≤(i:Int)/\(i:Int) < (v.len:Int) by omega),dqT (show 0≤(q:Int)/\(q:Int) < (40:Int) by omega),dqT (show i < v.len by omega)];rfl
theorem zAF (w:web) (node:Int) (U:Nat) (hU:U≤40):∀ (m fu i:Nat) (v:Sl Tab),i+m=U+1->m < fu->v.len=U+1->(∀ j,j < i->∀ p,p < 40->v.get j (p * 2)=1000000000000/\v.get j (p * 2+1)=0) ->
  ∃ v',zg8 w node (U:Int) fu (i:Int) v=zkj w node (U:Int) v'/\zg9 w node (U:Int) fu (i:Int) v=zkk w node (U:Int) v'/\v'.len=U+1/\∀ j,j < U+1->∀ p,p < 40->v'.get j (p * 2)=1000000000000/\v'.get j (p * 2+1)=0:=by
 have hu:((w64 ((U:Int)+(1:Int))).toNat:Int)=(U:Int)+1:=by rw[za9 (by omega) (by omega)];omega
 intro m
 induction m with
 | zero =>
  intro fu i v hi hf hv h
  obtain⟨fu,rfl⟩:∃ k',fu=k'+1:=⟨fu - 1,by omega⟩
  refine⟨v,?_,?_,hv,λ j hj=>h j (by omega)⟩
  ·show zg6 w node (U : Int) (zg8 w node (U : Int) fu) (i : Int) v = _
   unfold zg6
   rw[hu,dqF (show ¬ (i:Int) < (U:Int)+1 by omega),dqB]
  ·show zg7 w node (U : Int) (zg9 w node (U : Int) fu) (i : Int) v = _
   unfold zg7
   rw[hu,dqF (show ¬ (i:Int) < (U:Int)+1 by omega),dqB]
 | succ m ih =>
  intro fu i v hi hf hv h
  obtain⟨fu,rfl⟩:∃ k',fu=k'+1:=⟨fu - 1,by omega⟩
  have hw:w64 ((i:Int)+(1:Int))=((i+1:Nat):Int):=by rw[za9 (by omega) (by omega)];omega
  obtain⟨v1,a1,a2,a3,a4,a5⟩:=zut w node U hU (zg8 w node (U:Int) fu) (zg9 w node (U:Int) fu) i (by omega) 40 Fuel 0 v (by omega) (by simp only[Fuel];omega) hv (λ p hp=>absurd hp (Nat.not_lt_zero _))
  rw[hw] at a1 a2
  obtain⟨v2,b1,b2,b3,b4⟩:=ih fu (i+1) v1 (by omega) (by omega) (a3.trans hv) (λ j hj=>by
   by_cases hji:j=i
   ·subst hji;exact a5
   ·rw[a4 j hji];exact h j (by omega))
  refine⟨v2,?_,?_,b3,b4⟩
  ·rw [← b1, ← a1]
   show zg6 w node (U:Int) (zg8 w node (U:Int) fu) (i:Int) v=_
   unfold zg6
   rw[hu,dqT (show (i:Int) < (U:Int)+1 by omega),dqA];rfl
  ·rw [← b2, ← a2]
   show zg7 w node (U:Int) (zg9 w node (U:Int) fu) (i:Int) v=_
   unfold zg7
   rw[hu,dqT (show (i:Int) < (U:Int)+1 by omega),dqA];rfl
theorem zH6 (w : web) (hn : NetOk w.Net) (node : Nat) (h1 : node < w.Net.Nodes.toNat) (U : Nat) (hU : U ≤ 40) :
  zIp w (node:Int) (U:Int)=true/\(zte w (node:Int) (U:Int)).len=U+1/\∀ j,j≤U->Rh w.Net.Nodes.toNat ((zte w (node:Int) (U:Int)).get j) (hops (hF w (node:Int)) node j) (j * 1000000000):=by
 have hn40:=hn.n40
 have hu:w64 ((U:Int)+(1:Int))=(U:Int)+1:=by rw[za9 (by omega) (by omega)]
 have hu':((U:Int)+1).toNat=U+1:=by omega
 obtain⟨v1,a1,a2,a3,a4⟩:=zAF w (node:Int) U hU (U+1) Fuel 0 (⟨U+1,(λ _=>(λ _=>(0:Int)))⟩:Sl Tab) (by omega) (by simp only[Fuel];omega) rfl (λ j hj=>absurd hj (Nat.not_lt_zero _))
 have hm:Hm w w.Net.Nodes.toNat (node:Int) U 1 (⟨v1.len,(setT 0 (ts 80 (v1.get 0) (node * 2) [(0:Int),(0:Int)]) v1.get)⟩:Sl Tab):=by
  refine⟨a3,λ j hj _=>?_,λ j hj hjU=>?_⟩
  ·have : j = 0 := by omega
   subst this
   intro v hv
   have e0:(⟨v1.len,(setT 0 (ts 80 (v1.get 0) (node * 2) [(0:Int),(0:Int)]) v1.get)⟩:Sl Tab).get 0=ts 80 (v1.get 0) (node * 2) [(0:Int),(0:Int)]:=by
    exact (zdV 0 (ts 80 (v1.get 0) (node * 2) [(0:Int),(0:Int)]) v1.get 0).trans (dqP rfl)
   have eh:hops (hF w (node:Int)) ((node:Nat):Int).toNat 0=zuC node:=by rw[dqN];rfl
   rw[e0,eh,zjX (by omega),zjX (by omega)]
   unfold zuC
   by_cases hq:v=node
   ·subst hq
    rw[dqG (show ¬ v * 2=v * 2+1 by omega),dqP (show v * 2=v * 2 from rfl),dqP (show v * 2+1=v * 2+1 from rfl),dqP (show v=v from rfl)]
    exact⟨⟨rfl,rfl⟩,λ x hx=>by cases hx;omega⟩
   ·rw [dqG (show ¬ v * 2 = node * 2 + 1 by omega), dqG (show ¬ v * 2 = node * 2 by omega), dqG (show ¬ v * 2 + 1 = node * 2 + 1 by omega), dqG (show ¬ v * 2 + 1 = node * 2 by omega), dqG hq]
    exact⟨a4 0 (by omega) v (by omega),λ x hx=>by cases hx⟩
  ·intro v hv
   have e0:(⟨v1.len,(setT 0 (ts 80 (v1.get 0) (node * 2) [(0:Int),(0:Int)]) v1.get)⟩:Sl Tab).get j=v1.get j:=by
    exact (zdV 0 (ts 80 (v1.get 0) (node * 2) [(0:Int),(0:Int)]) v1.get j).trans (dqG (by omega))
   rw[e0]
   exact⟨a4 j (by omega) v (by omega),λ x hx=>by cases hx⟩
 obtain⟨b1,b2⟩:=zss w hn (node:Int) U hU U Fuel 1 _ (by omega) (dqt _) (by simp only[Fuel];omega) hm
 have e:0+((node:Nat):Int).toNat * 2+0=node * 2:=by rw[dqN];omega
 have es:zte w (node:Int) (U:Int)=zdu w (node:Int) (U:Int) Fuel ((1:Nat):Int) (⟨v1.len,(setT 0 (ts 80 (v1.get 0) (node * 2) [(0:Int),(0:Int)]) v1.get)⟩:Sl Tab):=by
  unfold zte znK
  rw[hu,hu']
  refine Eq.trans a1 ?_
  unfold zkj znI
  rw[e];rfl
 have ep:zIp w (node:Int) (U:Int)=true:=by
  unfold zIp znL
  rw[hu,hu',dqT (show 0≤(U:Int)+1/\(U:Int)+1=(U:Int)+1/\(U:Int)+1≤1000000 from ⟨by omega,rfl,by omega⟩),Bool.true_and]
  refine Eq.trans a2 ?_
  unfold zkk znJ
  rw[e,dqT (show 0≤(0:Int)/\(0:Int) < (v1.len:Int) by omega),dqT (show 0≤(node:Int)/\(node:Int) < (40:Int) by omega),dqT (show 0 < v1.len by omega)]
  simp only[Bool.true_and]
  exact b1
 refine⟨ep,by rw[es];exact b2.len,λ j hj=>?_⟩
 rw[es]
 have:=b2.done j (by omega) hj
 rwa[dqN] at this
end Go.Proofs
namespace Go.Proofs
open Go Go.Pm
set_option maxRecDepth 100000
set_option linter.unusedVariables false
attribute [local irreducible] Go.Pm.vcFun Go.Pm.vc Go.Pm.vcIter
end Go.Proofs
namespace Go.Proofs
open Go Go.Pm
set_option maxRecDepth 100000
set_option linter.unusedVariables false
theorem zos {α:Type}(n:Nat) (g:Nat->α) (x:α) (j:Nat):zdb n g (λ _=>x) j=if n≤j then x else g j:=by
 unfold zdb
 by_cases h:n≤j
 ·rw[dqP h,show Nat.ble n j=true from Nat.ble_eq_true_of_le h]
 ·rw[dqG h,show Nat.ble n j=false from Bool.eq_false_iff.2 λ k=>h (Nat.le_of_ble_eq_true k)]
def turn (t:Tie):Tie:=⟨t.From,t.To,w64 (0 - t.High),w64 (0 - t.Low)⟩
structure IsTurn (n m : Net) : Prop where
  nodes:m.Nodes=n.Nodes
  len:m.Ties.len=n.Ties.len
  tie:∀ j,j < n.Ties.len->m.Ties.get j=turn (n.Ties.get j)
end Go.Proofs
namespace Go.Proofs
open Go Go.Pm
set_option maxRecDepth 100000
set_option linter.unusedVariables false
def zpJ (n:Net) (u:Use) (a:Int):Option (Int×Int) :=
  if 0≤u.Tie/\u.Tie < n.Ties.len then
    (cond u.Back
      (if (n.Ties.get u.Tie.toNat).Low ≠ -1000000000000/\(n.Ties.get u.Tie.toNat).To=a then some ((n.Ties.get u.Tie.toNat).From,w64 (0 - (n.Ties.get u.Tie.toNat).Low)) else none)
      (if (n.Ties.get u.Tie.toNat).High ≠ 1000000000000/\(n.Ties.get u.Tie.toNat).From=a then some ((n.Ties.get u.Tie.toNat).To,(n.Ties.get u.Tie.toNat).High) else none))
  else none
def pvR (n : Net) (c : Sl Use) : Nat → Nat → Int → Int → Int × Int × Bool
  | 0,_,a,l=>(a,l,true)
  | m+1,i,a,l=>match zpJ n (c.get i) a with
    | none=>(0,0,false)
    | some (b,w)=>pvR n c m (i+1) b (w64 (l+w))
theorem zLc (n:Net) (hn:NetOk n) (c:Sl Use) (hc:c.len≤50):∀ (m k i:Nat) (a l:Int),i+m=c.len->m < k->zjf n c k a l (i:Int)=true/\zhO n c k a l (i:Int)=pvR n c m i a l:=by
  have hlen:=hn.len
  intro m
  induction m with
  | zero =>
    intro k i a l hi hk
    obtain⟨k,rfl⟩:∃ k',k=k'+1:=⟨k - 1,by omega⟩
    constructor
    · show zje n c (zjf n c k) a l (i : Int) = true
      unfold zje
      rw[dqF (show ¬ (i:Int) < (c.len:Int) by omega),dqB]
    · show zjd n c (zhO n c k) a l (i : Int) = _
      unfold zjd
      rw[dqF (show ¬ (i:Int) < (c.len:Int) by omega),dqB];rfl
  | succ m ih =>
    intro k i a l hi hk
    obtain⟨k,rfl⟩:∃ k',k=k'+1:=⟨k - 1,by omega⟩
    have hw:w64 ((i:Int)+(1:Int))=((i+1:Nat):Int):=by rw[za9 (by omega) (by omega)];omega
    have ih':=λ b w=>ih k (i+1) b w (by omega) (by omega)
    have hr:s81 (c.get i).Tie (0:Int) (w64 ((n.Ties.len:Int) - (1:Int)))=decide (0≤(c.get i).Tie/\(c.get i).Tie < n.Ties.len):=by
      rw[zmG,za9 (by omega) (by omega)]
      exact decide_eq_decide.2 (by omega)
    have hS : zhO n c (k + 1) a l (i : Int) = cond (!(decide (0 ≤ (c.get i).Tie ∧ (c.get i).Tie < n.Ties.len))) ((0:Int), (0:Int), false) (cond (c.get i).Back
        (cond (!((n.Ties.get (c.get i).Tie.toNat).Low != (-1000000000000:Int))) ((0:Int),(0:Int),false) (cond ((n.Ties.get (c.get i).Tie.toNat).To != a) ((0:Int),(0:Int),false) (pvR n c m (i+1) (n.Ties.get (c.get i).Tie.toNat).From (w64 (l+w64 (0 - (n.Ties.get (c.get i).Tie.toNat).Low))))))
        (cond (!((n.Ties.get (c.get i).Tie.toNat).High != (1000000000000:Int))) ((0:Int),(0:Int),false) (cond ((n.Ties.get (c.get i).Tie.toNat).From != a) ((0:Int),(0:Int),false) (pvR n c m (i+1) (n.Ties.get (c.get i).Tie.toNat).To (w64 (l+(n.Ties.get (c.get i).Tie.toNat).High)))))):=by
      rw[← (ih' _ _).2,← (ih' _ _).2,← hw]
      show zjd n c (zhO n c k) a l (i:Int)=_
      generalize zhO n c k=S
      unfold zjd zrP zrN zrL zn6 s94 s95
      rw[dqT (show (i:Int) < (c.len:Int) by omega),dqA,dqN,hr]
    have hP:zjf n c (k+1) a l (i:Int)=true:=by
      show zje n c (zjf n c k) a l (i:Int)=true
      unfold zje zrQ zrO zrM zn7
      rw[dqT (show (i:Int) < (c.len:Int) by omega),dqA,dqN,hr,dqT (show 0≤(i:Int)/\(i:Int) < (c.len:Int) by omega),Bool.true_and,hw]
      simp only[(ih' _ _).1]
      by_cases hin:0≤(c.get i).Tie/\(c.get i).Tie < n.Ties.len
      · rw [dqT hin]
        generalize (c.get i).Back=b0
        simp only[Bool.not_true,dqB,Bool.true_and]
        cases b0
        · simp only [dqB]
          generalize (!((s94 (⟨(n.Ties.get (c.get i).Tie.toNat),(c.get i).Tie⟩:tie)).2))=b1
          generalize ((((s94 (⟨(n.Ties.get (c.get i).Tie.toNat),(c.get i).Tie⟩:tie)).1).from_) != a)=b2
          cases b1 <;> cases b2 <;> rfl
        · simp only [dqA]
          generalize (!((s95 _).2))=b1
          generalize ((((s95 _).1).from_) != a)=b2
          cases b1 <;> cases b2 <;> rfl
      · rw[dqF hin];rfl
    refine⟨hP,hS.trans ?_⟩
    show _=(match zpJ n (c.get i) a with | none=>(0,0,false) | some (b,w)=>pvR n c m (i+1) b (w64 (l+w)))
    unfold zpJ
    by_cases hin:0≤(c.get i).Tie/\(c.get i).Tie < n.Ties.len
    · rw [dqT hin, dqP hin, Bool.not_true, dqB]
      cases hb:(c.get i).Back
      · rw [dqB, dqB]
        by_cases h1:(n.Ties.get (c.get i).Tie.toNat).High=1000000000000
        · rw[show ((n.Ties.get (c.get i).Tie.toNat).High != (1000000000000:Int))=false by rw[h1];rfl,dqG (λ h=>h.1 h1)];rfl
        · rw [bne_iff_ne.2 h1]
          by_cases h2:(n.Ties.get (c.get i).Tie.toNat).From=a
          · rw[show ((n.Ties.get (c.get i).Tie.toNat).From != a)=false by rw[h2];exact bne_self_eq_false _,dqP ⟨h1,h2⟩];rfl
          · rw[bne_iff_ne.2 h2,dqG (λ h=>h2 h.2)];rfl
      · rw [dqA, dqA]
        by_cases h1:(n.Ties.get (c.get i).Tie.toNat).Low = -1000000000000
        · rw[show ((n.Ties.get (c.get i).Tie.toNat).Low != (-1000000000000:Int))=false by rw[h1];rfl,dqG (λ h=>h.1 h1)];rfl
        · rw [bne_iff_ne.2 h1]
          by_cases h2:(n.Ties.get (c.get i).Tie.toNat).To=a
          · rw[show ((n.Ties.get (c.get i).Tie.toNat).To != a)=false by rw[h2];exact bne_self_eq_false _,dqP ⟨h1,h2⟩];rfl
          · rw[bne_iff_ne.2 h2,dqG (λ h=>h2 h.2)];rfl
    · rw[dqF hin,dqG hin];rfl
def pv (n:Net) (a:Int) (c:Sl Use):Int×Int×Bool:=if (0≤a/\a < n.Nodes)/\c.len≤40 then pvR n c c.len 0 a 0 else (0,0,false)
theorem zH7 {n:Net}(hn:n.Ties.len≤210) (hs:s67 n=false) (a:Int) (c:Sl Use):p56 n a c=true/\s56 n a c=(0,0,false):=by
 unfold p56 s56
 rw[(ztv n (by omega)).1,hs]
 exact⟨rfl,rfl⟩
theorem zD8 {n:Net}(hn:NetOk n) (hs:s67 n=true) (a:Int) (c:Sl Use):p56 n a c=true/\s56 n a c=pv n a c:=by
 have hlen:=hn.len;have hn1:=hn.n1;have hn40:=hn.n40
 unfold p56 s56 pv
 rw[(ztv n (by omega)).1,hs,zmG,za9 (x:=n.Nodes - (1:Int)) (by omega) (by omega),decide_eq_decide.2 (show (0≤a/\a≤n.Nodes - 1)↔(0≤a/\a < n.Nodes) by omega)]
 by_cases ha:0≤a/\a < n.Nodes
 ·rw [dqT ha]
  by_cases hc:c.len≤40
  ·rw [dqF (show ¬ (c.len : Int) > (40:Int) by omega), dqP ⟨ha, hc⟩]
   obtain⟨k1,k2⟩:=zLc n hn c (by omega) c.len Fuel 0 a 0 (by omega) (by simp only[Fuel];omega)
   exact⟨k1,k2⟩
  ·rw [dqT (show (c.len : Int) > (40:Int) by omega), dqG (fun h => hc h.2)]
   exact⟨rfl,rfl⟩
 ·rw [dqF ha, dqG (fun h => ha h.1)]
  exact⟨rfl,rfl⟩
end Go.Proofs
namespace Go.Proofs
open Go Go.Pm
set_option maxRecDepth 100000
set_option linter.unusedVariables false
def zdl (y:step):Step:=⟨y.from_,y.to,y.length,y.Use⟩
def IsL (v:Sl Step) (L:List step):Prop:=v.len=L.length/\∀ k (h:k < L.length),v.get k=zdl L[k]
theorem zst {v:Sl Step}{L:List step}(h:IsL v L) (y:step):IsL ⟨v.len+1,zdb v.len v.get (λ _=>zdl y)⟩ (L ++ [y]):=by
 refine⟨by show v.len+1=_;rw[dqu,h.1];rfl,λ k hk=>?_⟩
 show zdb v.len v.get (λ _=>zdl y) k=_
 rw[zos]
 rw[dqu] at hk
 have h1:=h.1
 by_cases hv:v.len≤k
 ·rw [dqP hv]
  have:k=L.length:=by simp only[dqr,List.length_nil] at hk;omega
  subst this
  simp
 ·rw [dqG hv, h.2 k (by omega)]
  rw[List.getElem_append_left (by omega)]
theorem zLd (n:Net) (hn:n.Ties.len≤210):∀ (m k i:Nat) (v:Sl Step) (L:List step),i+m=n.Ties.len->m < k->IsL v L->L.length≤2 * i->zdS n k (i:Int) v=true/\IsL (zdR n k (i:Int) v) (L ++ stL (W n) m i):=by
  intro m
  induction m with
  | zero =>
    intro k i v L hi hk hv hL
    obtain⟨k,rfl⟩:∃ k',k=k'+1:=⟨k - 1,by omega⟩
    have e1:zdS n (k+1) (i:Int) v=true:=by
      show zjh n (zdS n k) (i:Int) v=true
      unfold zjh
      rw[dqF (show ¬ (i:Int) < (n.Ties.len:Int) by omega),dqB]
    have e2:zdR n (k+1) (i:Int) v=v:=by
      show zjg n (zdR n k) (i:Int) v=v
      unfold zjg
      rw[dqF (show ¬ (i:Int) < (n.Ties.len:Int) by omega),dqB]
    refine⟨e1,?_⟩
    rw[e2]
    show IsL v (L ++ [])
    rw[List.append_nil];exact hv
  | succ m ih =>
    intro k i v L hi hk hv hL
    obtain⟨k,rfl⟩:∃ k',k=k'+1:=⟨k - 1,by omega⟩
    have hw:w64 ((i:Int)+(1:Int))=((i+1:Nat):Int):=by rw[za9 (by omega) (by omega)];omega
    have hvl:=hv.1
    have hS : zdR n (k + 1) (i : Int) v = cond ((n.Ties.get i).High != (1000000000000:Int))
        (cond ((n.Ties.get i).Low != (-1000000000000:Int))
          (zdR n k ((i+1:Nat):Int) (⟨v.len+1+1,zdb (v.len+1) (zdb v.len v.get (λ _=>zdl (fwS (n.Ties.get i) i))) (λ _=>zdl (bwS (n.Ties.get i) i))⟩:Sl Step))
          (zdR n k ((i+1:Nat):Int) (⟨v.len+1,zdb v.len v.get (λ _=>zdl (fwS (n.Ties.get i) i))⟩:Sl Step)))
        (cond ((n.Ties.get i).Low != (-1000000000000:Int))
          (zdR n k ((i+1:Nat):Int) (⟨v.len+1,zdb v.len v.get (λ _=>zdl (bwS (n.Ties.get i) i))⟩:Sl Step))
          (zdR n k ((i+1:Nat):Int) v)):=by
      rw[← hw]
      show zjg n (zdR n k) (i:Int) v=_
      generalize zdR n k=S
      unfold zjg zoa
      rw[dqT (show (i:Int) < (n.Ties.len:Int) by omega),dqA,dqN]
      rfl
    have hP : zdS n (k + 1) (i : Int) v = cond ((n.Ties.get i).High != (1000000000000:Int))
        (cond ((n.Ties.get i).Low != (-1000000000000:Int))
          (zdS n k ((i+1:Nat):Int) (⟨v.len+1+1,zdb (v.len+1) (zdb v.len v.get (λ _=>zdl (fwS (n.Ties.get i) i))) (λ _=>zdl (bwS (n.Ties.get i) i))⟩:Sl Step))
          (zdS n k ((i+1:Nat):Int) (⟨v.len+1,zdb v.len v.get (λ _=>zdl (fwS (n.Ties.get i) i))⟩:Sl Step)))
        (cond ((n.Ties.get i).Low != (-1000000000000:Int))
          (zdS n k ((i+1:Nat):Int) (⟨v.len+1,zdb v.len v.get (λ _=>zdl (bwS (n.Ties.get i) i))⟩:Sl Step))
          (zdS n k ((i+1:Nat):Int) v)):=by
      rw[← hw]
      show zjh n (zdS n k) (i:Int) v=_
      generalize zdS n k=S
      unfold zjh zob
      rw[dqT (show (i:Int) < (n.Ties.len:Int) by omega),dqA,dqN,dqT (show 0≤(i:Int)/\(i:Int) < (n.Ties.len:Int) by omega),dqT (show (v.len+1) * 40≤140737488355328/\v.len+1≤9223372036854775807 by omega),dqT (show ((⟨v.len+1,zdb v.len v.get (λ _=>(⟨(n.Ties.get i).From,(n.Ties.get i).To,(n.Ties.get i).High,(⟨(i:Int),false⟩:Use)⟩:Step))⟩:Sl Step).len+1) * 40≤140737488355328/\(⟨v.len+1,zdb v.len v.get (λ _=>(⟨(n.Ties.get i).From,(n.Ties.get i).To,(n.Ties.get i).High,(⟨(i:Int),false⟩:Use)⟩:Step))⟩:Sl Step).len+1≤9223372036854775807 from by show (v.len+1+1) * 40≤_/\v.len+1+1≤_;omega)]
      rfl
    rw[hS,hP]
    have hK:stL (W n) (m+1) i=((cond ((n.Ties.get i).High != (1000000000000:Int)) [fwS (n.Ties.get i) i] []) ++ (cond ((n.Ties.get i).Low != (-1000000000000:Int)) [bwS (n.Ties.get i) i] [])) ++ stL (W n) m (i+1):=rfl
    rw[hK]
    have hF:=zst hv (fwS (n.Ties.get i) i)
    have hB:=zst hv (bwS (n.Ties.get i) i)
    have hFB:=zst hF (bwS (n.Ties.get i) i)
    cases ((n.Ties.get i).High != (1000000000000:Int)) <;> cases ((n.Ties.get i).Low != (-1000000000000:Int))
    · have := ih k (i + 1) v L (by omega) (by omega) hv (by omega)
      simpa using this
    · have := ih k (i + 1) _ _ (by omega) (by omega) hB (by simp only [dqu, dqr, List.length_nil]; omega)
      simpa [List.append_assoc] using this
    · have := ih k (i + 1) _ _ (by omega) (by omega) hF (by simp only [dqu, dqr, List.length_nil]; omega)
      simpa [List.append_assoc] using this
    · have := ih k (i + 1) _ _ (by omega) (by omega) hFB (by simp only [dqu, dqr, List.length_nil]; omega)
      simpa [List.append_assoc] using this
theorem ztA (n:Net) (hn:n.Ties.len≤210):p77 n=true/\IsL (s77 n) (Ws (W n)):=by
 have:=zLd n hn n.Ties.len Fuel 0 (⟨0,(λ _=>default)⟩:Sl Step) [] (by omega) (by simp only[Fuel];omega) ⟨rfl,λ k h=>absurd h (Nat.not_lt_zero _)⟩ (Nat.zero_le _)
 exact this
def isU (u:Use) (a:Int) (y:step):Bool:=(y.Use.Tie == u.Tie) && ((y.Use.Back == u.Back) && (y.from_ == a))
theorem zCH {n:Net}(hn:NetOk n) (u:Use) (a:Int):zpJ n u a=((Ws (W n)).find? (isU u a)).map λ y=>(y.to,y.length):=by
 have hlen:=hn.len
 cases hf:(Ws (W n)).find? (isU u a) with
 | some y =>
  have hy:=List.mem_of_find?_eq_some hf
  have hp:=List.find?_some hf
  simp only[isU,dqm,beq_iff_eq] at hp
  obtain⟨h1,h2,h3⟩:=hp
  obtain⟨j,_,h5,h6⟩:=zlQ.1 hy
  have hj:j < n.Ties.len:=by have:j < 0+n.Ties.len:=h5;omega
  show _=some (y.to,y.length)
  unfold zpJ
  rcases (zlR.1 h6).2 with ⟨h7,rfl⟩ | ⟨h7,rfl⟩
  ·have e1 : u.Tie = (j : Int) := h1.symm
   have e2:u.Back=false:=h2.symm
   rw[e1,e2,dqP (by omega),dqB,dqN,dqP ⟨h7,h3⟩];rfl
  ·have e1 : u.Tie = (j : Int) := h1.symm
   have e2:u.Back=true:=h2.symm
   rw[e1,e2,dqP (by omega),dqA,dqN,dqP ⟨h7,h3⟩];rfl
 | none =>
  rw[List.find?_eq_none] at hf
  show _=none
  unfold zpJ
  by_cases hin:0≤u.Tie/\u.Tie < n.Ties.len
  ·rw [dqP hin]
   have e:((u.Tie.toNat:Nat):Int)=u.Tie:=by omega
   cases hb:u.Back
   ·rw [dqB]
    by_cases h1:(n.Ties.get u.Tie.toNat).High ≠ 1000000000000/\(n.Ties.get u.Tie.toNat).From=a
    ·have := hf (fwS (n.Ties.get u.Tie.toNat) u.Tie.toNat) (zlQ.2 ⟨u.Tie.toNat, by omega, by show u.Tie.toNat < 0 + n.Ties.len; omega, zlR.2 ⟨rfl, .inl ⟨h1.1, rfl⟩⟩⟩)
     simp[isU,fwS,e,hb,h1.2] at this
    ·rw[dqG h1]
   ·rw [dqA]
    by_cases h1:(n.Ties.get u.Tie.toNat).Low ≠ -1000000000000/\(n.Ties.get u.Tie.toNat).To=a
    ·have := hf (bwS (n.Ties.get u.Tie.toNat) u.Tie.toNat) (zlQ.2 ⟨u.Tie.toNat, by omega, by show u.Tie.toNat < 0 + n.Ties.len; omega, zlR.2 ⟨rfl, .inr ⟨h1.1, rfl⟩⟩⟩)
     simp[isU,bwS,e,hb,h1.2] at this
    ·rw[dqG h1]
  ·rw[dqG hin]
def sb (x:Use) (y:Use):Bool:=match (x.Tie == y.Tie) with | true=>(match (x.Back == y.Back) with | true=>true | false=>false) | false=>false
theorem zH8 (x y:Use):sb x y=((x.Tie == y.Tie) && (x.Back == y.Back)):=by
 unfold sb
 cases (x.Tie == y.Tie) <;> cases (x.Back == y.Back) <;> rfl
theorem zLe (c:Sl Use) (l:Sl Step) (L:List step) (hl:IsL l L) (hL:L.length≤1000) (S3:Int->Int->Int->(Int×Int×Bool)) (P3:Int->Int->Int->Bool) (i:Nat) (hi:i < c.len) (a len:Int):∀ (m k q:Nat),q+m=L.length->m+1 < k ->
  zde S3 c l k a len (i:Int) false (q:Int)=(match (L.drop q).find? (isU (c.get i) a) with | none=>((0:Int),(0:Int),false) | some y=>S3 y.to (w64 (len+y.length)) (w64 ((i:Int)+(1:Int)))) /\
  zdf P3 c l k a len (i:Int) false (q:Int)=(match (L.drop q).find? (isU (c.get i) a) with | none=>true | some y=>P3 y.to (w64 (len+y.length)) (w64 ((i:Int)+(1:Int)))):=by
 have hll:=hl.1
 intro m
 induction m with
 | zero =>
  intro k q hq hk
  obtain⟨k,rfl⟩:∃ k',k=k'+1:=⟨k - 1,by omega⟩
  rw[List.drop_eq_nil_of_le (by omega)]
  constructor
  ·show zgE S3 c l (zde S3 c l k) a len (i : Int) false (q : Int) = _
   unfold zgE
   rw[dqF (show ¬ (q:Int) < (l.len:Int) by omega),dqB];rfl
  ·show zgF P3 c l (zdf P3 c l k) a len (i : Int) false (q : Int) = _
   unfold zgF
   rw[dqF (show ¬ (q:Int) < (l.len:Int) by omega),dqB];rfl
 | succ m ih =>
  intro k q hq hk
  obtain⟨k,rfl⟩:∃ k',k=k'+1:=⟨k - 1,by omega⟩
  have hw:w64 ((q:Int)+(1:Int))=((q+1:Nat):Int):=by rw[za9 (by omega) (by omega)];omega
  obtain⟨ih1,ih2⟩:=ih k (q+1) (by omega) (by omega)
  have hg:=hl.2 q (by omega)
  -- after the find, the next round leaves
  have out1:∀ (b w:Int),zde S3 c l k b w (i:Int) true ((q+1:Nat):Int)=S3 b w (w64 ((i:Int)+(1:Int))):=λ b w=>by
   obtain⟨k,rfl⟩:∃ k',k=k'+1:=⟨k - 1,by omega⟩
   show zgE S3 c l (zde S3 c l k) b w (i:Int) true ((q+1:Nat):Int)=_
   unfold zgE
   cases decide (((q+1:Nat):Int) < (l.len:Int)) <;> rfl
  have out2:∀ (b w:Int),zdf P3 c l k b w (i:Int) true ((q+1:Nat):Int)=P3 b w (w64 ((i:Int)+(1:Int))):=λ b w=>by
   obtain⟨k,rfl⟩:∃ k',k=k'+1:=⟨k - 1,by omega⟩
   show zgF P3 c l (zdf P3 c l k) b w (i:Int) true ((q+1:Nat):Int)=_
   unfold zgF
   cases decide (((q+1:Nat):Int) < (l.len:Int)) <;> rfl
  have hS:zde S3 c l (k+1) a len (i:Int) false (q:Int)=cond (sb (l.get q).Use (c.get i)) (cond ((l.get q).From == a) (zde S3 c l k (l.get q).To (w64 (len+(l.get q).Length)) (i:Int) true ((q+1:Nat):Int)) (zde S3 c l k a len (i:Int) false ((q+1:Nat):Int))) (zde S3 c l k a len (i:Int) false ((q+1:Nat):Int)):=by
   rw[← hw]
   show zgE S3 c l (zde S3 c l k) a len (i:Int) false (q:Int)=_
   generalize zde S3 c l k=S
   unfold zgE
   rw[dqT (show (q:Int) < (l.len:Int) by omega),dqA,dqN,dqN];rfl
  have hP:zdf P3 c l (k+1) a len (i:Int) false (q:Int)=cond (sb (l.get q).Use (c.get i)) (cond ((l.get q).From == a) (zdf P3 c l k (l.get q).To (w64 (len+(l.get q).Length)) (i:Int) true ((q+1:Nat):Int)) (zdf P3 c l k a len (i:Int) false ((q+1:Nat):Int))) (zdf P3 c l k a len (i:Int) false ((q+1:Nat):Int)):=by
   rw[← hw]
   show zgF P3 c l (zdf P3 c l k) a len (i:Int) false (q:Int)=_
   generalize zdf P3 c l k=S
   unfold zgF
   rw[dqT (show (q:Int) < (l.len:Int) by omega),dqA,dqN,dqN,dqT (show 0≤(q:Int)/\(q:Int) < (l.len:Int) by omega),dqT (show 0≤(i:Int)/\(i:Int) < (c.len:Int) by omega)];rfl
  rw[hS,hP,out1,out2,ih1,ih2,hg,zH8,List.drop_eq_getElem_cons (by omega:q < L.length),List.find?_cons]
  generalize hy:L[q]=y
  have hu:isU (c.get i) a y=(((zdl y).Use.Tie == (c.get i).Tie) && ((zdl y).Use.Back == (c.get i).Back) && ((zdl y).From == a)):=by
   unfold isU
   rw[Bool.and_assoc];rfl
  rw[hu]
  generalize (((zdl y).Use.Tie == (c.get i).Tie) && ((zdl y).Use.Back == (c.get i).Back))=b1
  generalize ((zdl y).From == a)=b2
  cases b1 <;> cases b2 <;> exact⟨rfl,rfl⟩
theorem zLf (n:Net) (hn:NetOk n) (c:Sl Use) (hc:c.len≤50):∀ (m k i:Nat) (a len:Int),i+m=c.len->m < k->zfL c (s77 n) k a len (i:Int)=true/\zfK c (s77 n) k a len (i:Int)=pvR n c m i a len:=by
 have hlen:=hn.len
 obtain⟨_,hl⟩:=ztA n (by omega)
 have hL:(Ws (W n)).length≤400:=zty (a:=W n) hn
 intro m
 induction m with
 | zero =>
  intro k i a l hi hk
  obtain⟨k,rfl⟩:∃ k',k=k'+1:=⟨k - 1,by omega⟩
  constructor
  ·show zjj c (s77 n) (zfL c (s77 n) k) a l (i : Int) = true
   unfold zjj
   rw[dqF (show ¬ (i:Int) < (c.len:Int) by omega),dqB]
  ·show zji c (s77 n) (zfK c (s77 n) k) a l (i : Int) = _
   unfold zji
   rw[dqF (show ¬ (i:Int) < (c.len:Int) by omega),dqB];rfl
 | succ m ih =>
  intro k i a l hi hk
  obtain⟨k,rfl⟩:∃ k',k=k'+1:=⟨k - 1,by omega⟩
  have hw:w64 ((i:Int)+(1:Int))=((i+1:Nat):Int):=by rw[za9 (by omega) (by omega)];omega
  obtain⟨k1,k2⟩:=zLe c (s77 n) (Ws (W n)) hl (by omega) (zfK c (s77 n) k) (zfL c (s77 n) k) i (by omega) a l (Ws (W n)).length Fuel 0 (by omega) (by simp only[Fuel];omega)
  rw[List.drop_zero,hw] at k1 k2
  have hf:=zCH hn (c.get i) a
  have e1:zfL c (s77 n) (k+1) a l (i:Int)=zdf (zfL c (s77 n) k) c (s77 n) Fuel a l (i:Int) false 0:=by
   show zjj c (s77 n) (zfL c (s77 n) k) a l (i:Int)=_
   unfold zjj
   rw[dqT (show (i:Int) < (c.len:Int) by omega),dqA];rfl
  have e2:zfK c (s77 n) (k+1) a l (i:Int)=zde (zfK c (s77 n) k) c (s77 n) Fuel a l (i:Int) false 0:=by
   show zji c (s77 n) (zfK c (s77 n) k) a l (i:Int)=_
   unfold zji
   rw[dqT (show (i:Int) < (c.len:Int) by omega),dqA];rfl
  have e3:pvR n c (m+1) i a l=(match zpJ n (c.get i) a with | none=>(0,0,false) | some (b,w)=>pvR n c m (i+1) b (w64 (l+w))):=rfl
  have k1':zde (zfK c (s77 n) k) c (s77 n) Fuel a l (i:Int) false 0=_:=k1
  have k2':zdf (zfL c (s77 n) k) c (s77 n) Fuel a l (i:Int) false 0=_:=k2
  rw[e1,e2,e3,k1',k2',hf]
  cases (Ws (W n)).find? (isU (c.get i) a) with
  | none=>exact⟨rfl,rfl⟩
  | some y=>exact ih k (i+1) y.to (w64 (l+y.length)) (by omega) (by omega)
theorem zLg {n:Net}(hn:NetOk n) (hs:s67 n=true) (a:Int) (c:Sl Use):p57 n a c=true/\s57 n a c=pv n a c:=by
 have hlen:=hn.len;have hn1:=hn.n1;have hn40:=hn.n40
 obtain⟨b1,b2⟩:=zAq n (by omega)
 unfold p57 s57 pv
 rw[b1,b2,hs,zAn,za9 (x:=n.Nodes - (1:Int)) (by omega) (by omega),decide_eq_decide.2 (show (0≤a/\a≤n.Nodes - 1)↔(0≤a/\a < n.Nodes) by omega)]
 by_cases ha:0≤a/\a < n.Nodes
 ·rw [dqT ha]
  by_cases hc:c.len≤40
  ·rw [dqF (show ¬ (c.len : Int) > (40:Int) by omega), dqP ⟨ha, hc⟩]
   obtain⟨k1,k2⟩:=zLf n hn c (by omega) c.len Fuel 0 a 0 (by omega) (by simp only[Fuel];omega)
   unfold zlM zlL zrZ zrY zrX zrW zrV zrU
   rw[(ztA n (by omega)).1]
   exact⟨k1,k2⟩
  ·rw [dqT (show (c.len : Int) > (40:Int) by omega), dqG (fun h => hc h.2)]
   exact⟨rfl,rfl⟩
 ·rw [dqF ha, dqG (fun h => ha h.1)]
  exact⟨rfl,rfl⟩
end Go.Proofs
namespace Go.Proofs
open Go Go.Pm
set_option maxRecDepth 100000
set_option linter.unusedVariables false
def Rr (N:Nat) (T:Sl Int) (d:zcA) (B:Int):Prop:=T.len=N/\∀ v,v < N->T.get v=zur (d v)/\∀ x,d v=some x->-B≤x/\x≤B
theorem zhR {α:Type}(i j:Nat) (v:α) (f:Nat->Sl α) (q:Nat):zlm i j v f q=if q=i then ⟨(f q).len,setT j v (f q).get⟩ else f q:=by
 unfold zlm
 by_cases h:q=i
 ·subst h;rw[dqP rfl,Nat.beq_refl]
 ·rw [dqG h]
  cases hb:Nat.beq q i with
  | true=>exact absurd (dqc hb) h
  | false=>rfl
theorem zCI (n : Net) (e U lst : Int) (l : Sl Step) {N : Nat} (hN : N ≤ 40) (S1 : Int → Sl (Sl Int) → Sl (Sl Int)) (P1 : Int → Sl (Sl Int) → Bool) (S4 : Int → Int → Sl (Sl Int) → Sl (Sl Int)) (P4 : Int → Int → Sl (Sl Int) → Bool)
    (i r:Nat) (hr:1≤r) (hr45:r≤45) (hi:i < l.len) (y:step) (hly:l.get i=zdl y) (hy:StOk y N) (v:Sl (Sl Int)) (hrv:r < v.len) (o d:zcA) (B:Int) (hB:0≤B/\B≤90000000000) (ho:Rr N (v.get (r - 1)) o B) (hd:Rr N (v.get r) d (B+1000000000)) (c:Bool) :
    ∃ v',zgM S1 n e U lst l S4 (r:Int) (i:Int) v=S4 (r:Int) (w64 ((i:Int)+(1:Int))) v'/\zgN P1 n e U lst l P4 (r:Int) (i:Int) v=P4 (r:Int) (w64 ((i:Int)+(1:Int))) v'/\v'.len=v.len/\(∀ j,j ≠ r->v'.get j=v.get j) /\
      Rr N (v'.get r) (cond (okY lst y) (jr o (d,c) (edQ y)) (d,c)).1 (B+1000000000):=by
  have f0:=hy.f0;have f1:=hy.f1;have t0:=hy.t0;have t1:=hy.t1;have l0:=hy.l0;have l1:=hy.l1
  have hw:w64 ((r:Int) - (1:Int))=((r - 1:Nat):Int):=by rw[za9 (by omega) (by omega)];omega
  obtain⟨ol,ho⟩:=ho
  obtain⟨dl,hd⟩:=hd
  unfold zgM zgN
  rw[dqT (show (i:Int) < (l.len:Int) by omega),dqT (show (r:Int) > 0 by omega)]
  simp only[dqA]
  have g1:(l.get i).From=y.from_:=by rw[hly];rfl
  have g2:(l.get i).To=y.to:=by rw[hly];rfl
  have g3:(l.get i).Length=y.length:=by rw[hly];rfl
  rw[hw,dqN,dqN,dqN,g1,g2,g3]
  rw[dqT (show 0≤(i:Int)/\(i:Int) < (l.len:Int) by omega),dqT (show 0≤((r - 1:Nat):Int)/\((r - 1:Nat):Int) < (v.len:Int) by omega),dqT (show r - 1 < v.len/\0 < (v.get (r - 1)).len by omega),dqT (show r - 1 < v.len/\0≤y.to/\y.to < ((v.get (r - 1)).len:Int) by omega),dqT (show r - 1 < v.len/\y.to.toNat < (v.get (r - 1)).len by omega),
    dqT (show 0≤(r:Int)/\(r:Int) < (v.len:Int) by omega),dqT (show r < v.len/\0 < (v.get r).len by omega),dqT (show r < v.len/\0≤y.from_/\y.from_ < ((v.get r).len:Int) by omega),dqT (show r < v.len/\y.from_.toNat < (v.get r).len by omega)]
  simp only[Bool.true_and]
  have same:∃ v',S4 (r:Int) (w64 ((i:Int)+(1:Int))) v=S4 (r:Int) (w64 ((i:Int)+(1:Int))) v'/\P4 (r:Int) (w64 ((i:Int)+(1:Int))) v=P4 (r:Int) (w64 ((i:Int)+(1:Int))) v'/\v'.len=v.len/\(∀ j,j ≠ r->v'.get j=v.get j)/\Rr N (v'.get r) d (B+1000000000):=⟨v,rfl,rfl,rfl,λ _ _=>rfl,dl,hd⟩
  unfold okY
  by_cases c1:y.from_ < lst
  · rw [dqT c1, dqF (show ¬ lst ≤ y.from_ by omega)]
    exact same
  by_cases c2:y.to < lst
  · rw [dqF c1, dqT c2, dqF (show ¬ lst ≤ y.to by omega), Bool.and_false]
    exact same
  rw[dqF c1,dqF c2,dqT (show lst≤y.from_ by omega),dqT (show lst≤y.to by omega)]
  simp only[dqA,dqB,Bool.and_self]
  obtain⟨o1,o3⟩:=ho y.to.toNat (by omega)
  obtain⟨d1,d3⟩:=hd y.from_.toNat (by omega)
  cases hou:o y.to.toNat with
  | none =>
    have hr:jr o (d,c) (edQ y)=(d,c):=by
      unfold jr edQ
      simp only[hou]
    rw[hr]
    rw[hou] at o1
    have o1':(v.get (r - 1)).get y.to.toNat=1000000000000:=o1
    rw[o1']
    exact same
  | some x =>
    have hx:=o3 x hou
    rw[hou] at o1
    have o1':(v.get (r - 1)).get y.to.toNat=x:=o1
    rw[o1',show (x == (1000000000000:Int))=false from beq_eq_false_iff_ne.2 (by omega),za9 (x:=y.length+x) (by omega) (by omega),d1]
    simp only[dqB]
    have hlt:ltO (x+y.length) (d y.from_.toNat)=decide (y.length+x < zur (d y.from_.toNat)):=by
      cases hdv:d y.from_.toNat with
      | none=>exact (dqT (show y.length+x < 1000000000000 by omega)).symm
      | some z =>
        show decide (x+y.length < z)=decide (y.length+x < z)
        exact decide_eq_decide.2 ⟨λ h=>by omega,λ h=>by omega⟩
    have hr:jr o (d,c) (edQ y)=cond (decide (y.length+x < zur (d y.from_.toNat))) (zmH d y.from_.toNat (x+y.length),true) (d,c):=by
      rw[← hlt]
      unfold jr edQ
      simp only[hou] <;> rfl
    rw[hr]
    refine⟨_,rfl,rfl,rfl,λ j hj=>?_,?_⟩
    · show zlm r _ _ v.get j = v.get j
      rw[zhR,dqG hj]
    · show Rr N (zlm r _ _ v.get r) _ _
      rw[zhR,dqP rfl]
      refine⟨dl,λ q hq=>?_⟩
      show setT y.from_.toNat _ (v.get r).get q=_/\_
      rw[zdV]
      by_cases hlt2:y.length+x < zur (d y.from_.toNat)
      · rw [dqP hlt2, dqT hlt2]
        simp only[dqA]
        unfold zmH
        by_cases hqf:q=y.from_.toNat
        · rw [dqP hqf, dqP hqf]
          exact⟨by show y.length+x=x+y.length;omega,λ z hz=>by cases hz;omega⟩
        · rw[dqG hqf,dqG hqf];exact hd q hq
      · rw [dqG hlt2, dqF hlt2]
        simp only[dqB]
        by_cases hqf:q=y.from_.toNat
        · rw[dqP hqf,hqf];exact⟨rfl,d3⟩
        · rw[dqG hqf];exact hd q hq
theorem zCJ (n : Net) (e U lst : Int) (l : Sl Step) (L : List step) (hl : IsL l L) (hL : L.length ≤ 1000) {N : Nat} (hN : N ≤ 40) (hst : ∀ y ∈ L, StOk y N) (S1 : Int → Sl (Sl Int) → Sl (Sl Int)) (P1 : Int → Sl (Sl Int) → Bool) (r : Nat) (hr : 1 ≤ r) (hr45 : r ≤ 45) (o : zcA) (B : Int) (hB : 0 ≤ B ∧ B ≤ 90000000000) :
  ∀ (m k i:Nat) (v:Sl (Sl Int)) (d:zcA) (c:Bool),i+m=L.length->m < k->r < v.len->Rr N (v.get (r - 1)) o B->Rr N (v.get r) d (B+1000000000) ->
  ∃ v',zeo S1 n e U lst l k (r:Int) (i:Int) v=S1 (w64 ((r:Int)+(1:Int))) v'/\zep P1 n e U lst l k (r:Int) (i:Int) v=P1 (w64 ((r:Int)+(1:Int))) v'/\v'.len=v.len/\(∀ j,j ≠ r->v'.get j=v.get j) /\
   Rr N (v'.get r) ((((L.drop i).filter (okY lst)).map edQ).foldl (jr o) (d,c)).1 (B+1000000000):=by
 have hll:=hl.1
 have hr0:((r:Int) == (0:Int))=false:=beq_eq_false_iff_ne.2 (by omega)
 intro m
 induction m with
 | zero =>
  intro k i v d c hi hk hrv ho hd
  obtain⟨k,rfl⟩:∃ k',k=k'+1:=⟨k - 1,by omega⟩
  refine⟨v,?_,?_,rfl,λ _ _=>rfl,?_⟩
  ·show zgM S1 n e U lst l (zeo S1 n e U lst l k) (r : Int) (i : Int) v = _
   generalize zeo S1 n e U lst l k=S
   unfold zgM
   rw[dqF (show ¬ (i:Int) < (l.len:Int) by omega),dqB,hr0,dqB]
  ·show zgN P1 n e U lst l (zep P1 n e U lst l k) (r : Int) (i : Int) v = _
   generalize zep P1 n e U lst l k=S
   unfold zgN
   rw[dqF (show ¬ (i:Int) < (l.len:Int) by omega),dqB,hr0,dqB]
  ·rw[List.drop_eq_nil_of_le (by omega)];exact hd
 | succ m ih =>
  intro k i v d c hi hk hrv ho hd
  obtain⟨k,rfl⟩:∃ k',k=k'+1:=⟨k - 1,by omega⟩
  have hiL:i < L.length:=by omega
  obtain⟨v1,a1,a2,a3,a4,a5⟩:=zCI n e U lst l hN S1 P1 (zeo S1 n e U lst l k) (zep P1 n e U lst l k) i r hr hr45 (by omega) L[i] (hl.2 i hiL) (hst _ (List.getElem_mem ..)) v hrv o d B hB ho hd c
  have ho1:Rr N (v1.get (r - 1)) o B:=by rw[a4 (r - 1) (by omega)];exact ho
  have hw:w64 ((i:Int)+(1:Int))=((i+1:Nat):Int):=by rw[za9 (by omega) (by omega)];omega
  rw[hw] at a1 a2
  rw[List.drop_eq_getElem_cons hiL]
  cases hok:okY lst L[i] with
  | false =>
   rw[hok] at a5
   obtain⟨v2,b1,b2,b3,b4,b5⟩:=ih k (i+1) v1 d c (by omega) (by omega) (by omega) ho1 a5
   refine⟨v2,Eq.trans a1 b1,Eq.trans a2 b2,b3.trans a3,λ j hj=>(b4 j hj).trans (a4 j hj),?_⟩
   rw[List.filter_cons_of_neg (by rw[hok];exact dqk)];exact b5
  | true =>
   rw[hok] at a5
   obtain⟨v2,b1,b2,b3,b4,b5⟩:=ih k (i+1) v1 (jr o (d,c) (edQ L[i])).1 (jr o (d,c) (edQ L[i])).2 (by omega) (by omega) (by omega) ho1 a5
   refine⟨v2,Eq.trans a1 b1,Eq.trans a2 b2,b3.trans a3,λ j hj=>(b4 j hj).trans (a4 j hj),?_⟩
   rw[List.filter_cons_of_pos hok];exact b5
theorem zCK (n : Net) (e U lst : Int) (l : Sl Step) {N : Nat} (hN : N ≤ 40) (hNN : (N : Int) = n.Nodes) (S1 : Int → Sl (Sl Int) → Sl (Sl Int)) (P1 : Int → Sl (Sl Int) → Bool) (r : Nat) (hr45 : r ≤ 45) :
  ∀ (m k i:Nat) (v:Sl (Sl Int)),i+m=N->m < k->r < v.len->(v.get r).len=N->(∀ q,q < i->(v.get r).get q=1000000000000) ->
  ∃ v',zhP S1 n e U lst l k (r:Int) (i:Int) v=zjk S1 n e U lst l (r:Int) v'/\zhQ P1 n e U lst l k (r:Int) (i:Int) v=zjl P1 n e U lst l (r:Int) v'/\v'.len=v.len/\(∀ j,j ≠ r->v'.get j=v.get j) /\
   (v'.get r).len=N/\∀ q,q < N->(v'.get r).get q=1000000000000:=by
 intro m
 induction m with
 | zero =>
  intro k i v hi hk hrv hl hq
  obtain⟨k,rfl⟩:∃ k',k=k'+1:=⟨k - 1,by omega⟩
  refine⟨v,?_,?_,rfl,λ _ _=>rfl,hl,λ q h=>hq q (by omega)⟩
  ·show zjm S1 n e U lst l (zhP S1 n e U lst l k) (r : Int) (i : Int) v = _
   generalize zhP S1 n e U lst l k=S
   unfold zjm
   rw[dqF (show ¬ (i:Int) < n.Nodes by omega),dqB]
  ·show zjn P1 n e U lst l (zhQ P1 n e U lst l k) (r : Int) (i : Int) v = _
   generalize zhQ P1 n e U lst l k=S
   unfold zjn
   rw[dqF (show ¬ (i:Int) < n.Nodes by omega),dqB]
 | succ m ih =>
  intro k i v hi hk hrv hl hq
  obtain⟨k,rfl⟩:∃ k',k=k'+1:=⟨k - 1,by omega⟩
  have hw:w64 ((i:Int)+(1:Int))=((i+1:Nat):Int):=by rw[za9 (by omega) (by omega)];omega
  obtain⟨v',b1,b2,b3,b4,b5,b6⟩:=ih k (i+1) (⟨v.len,zlm r i (1000000000000:Int) v.get⟩:Sl (Sl Int)) (by omega) (by omega) hrv (by show (zlm r i _ v.get r).len=N;rw[zhR,dqP rfl];exact hl) (λ q h=>by
   show (zlm r i _ v.get r).get q=_
   rw[zhR,dqP rfl]
   show setT i _ (v.get r).get q=_
   rw[zdV]
   by_cases hqi:q=i
   ·rw[dqP hqi]
   ·rw[dqG hqi];exact hq q (by omega))
  refine⟨v',?_,?_,b3,λ j hj=>?_,b5,b6⟩
  ·rw [← b1]
   show zjm S1 n e U lst l (zhP S1 n e U lst l k) (r:Int) (i:Int) v=_
   generalize zhP S1 n e U lst l k=S
   unfold zjm
   rw[dqT (show (i:Int) < n.Nodes by omega),dqA,hw,dqN,dqN]
  ·rw [← b2]
   show zjn P1 n e U lst l (zhQ P1 n e U lst l k) (r:Int) (i:Int) v=_
   generalize zhQ P1 n e U lst l k=S
   unfold zjn
   rw[dqT (show (i:Int) < n.Nodes by omega),dqA,hw,dqN,dqN]
   rw[dqT (show 0≤(r:Int)/\(r:Int) < (v.len:Int) by omega),dqT (show r < v.len/\0 < (v.get r).len by omega),dqT (show r < v.len/\0≤(i:Int)/\(i:Int) < ((v.get r).len:Int) by omega),dqT (show r < v.len/\i < (v.get r).len by omega)]
   rfl
  ·rw [b4 j hj]
   show zlm r i _ v.get j=_
   rw[zhR,dqG hj]
structure Ln (w : web) (N : Nat) (e lst : Int) (U k : Nat) (v : Sl (Sl Int)) : Prop where
  len:v.len=U+1
  lo:∀ j,j < k->Rr N (v.get j) (hops (hF w lst) e.toNat j) (j * 1000000000)
  hi:∀ j,k≤j->j≤U->(v.get j).len=0
theorem Rr.mono {N:Nat}{T:Sl Int}{d:zcA}{B B':Int}(h:Rr N T d B) (hb:B≤B'):Rr N T d B':=⟨h.1,λ v hv=>⟨(h.2 v hv).1,λ x hx=>by have:=(h.2 v hv).2 x hx;omega⟩⟩
theorem zuu (n:Net) (hn:NetOk n) (e lst:Int) (he:0≤e/\e < n.Nodes) (U:Nat) (hU:U≤40) (l:Sl Step) (hl:IsL l (Ws (W n))):∀ (m fu k:Nat) (v:Sl (Sl Int)),k+m=U+1->m < fu->Ln (W n) n.Nodes.toNat e lst U k v ->
  zca n e (U:Int) lst l fu (k:Int) v=true/\Ln (W n) n.Nodes.toNat e lst U (U+1) (zb9 n e (U:Int) lst l fu (k:Int) v):=by
 have hn1:=hn.n1;have hn40:=hn.n40
 have hNN:((n.Nodes.toNat:Nat):Int)=n.Nodes:=by omega
 have hwl:=zty (a:=W n) hn
 have hll:=hl.1
 intro m
 induction m with
 | zero =>
  intro fu k v hk hf hv
  obtain⟨fu,rfl⟩:∃ k',fu=k'+1:=⟨fu - 1,by omega⟩
  have e1:zca n e (U:Int) lst l (fu+1) (k:Int) v=true:=by
   show zjq n e (U:Int) lst l (zca n e (U:Int) lst l fu) (k:Int) v=true
   unfold zjq
   rw[dqF (show ¬ (k:Int)≤(U:Int) by omega),dqB]
  have e2:zb9 n e (U:Int) lst l (fu+1) (k:Int) v=v:=by
   show zjo n e (U:Int) lst l (zb9 n e (U:Int) lst l fu) (k:Int) v=v
   unfold zjo
   rw[dqF (show ¬ (k:Int)≤(U:Int) by omega),dqB]
  rw[e1,e2]
  have:k=U+1:=by omega
  subst this
  exact⟨rfl,hv⟩
 | succ m ih =>
  intro fu k v hk hf hv
  obtain⟨fu,rfl⟩:∃ k',fu=k'+1:=⟨fu - 1,by omega⟩
  have hvl:=hv.len
  have hk0:=hv.hi k (dqt k) (by omega)
  have hw:w64 ((k:Int)+(1:Int))=((k+1:Nat):Int):=by rw[za9 (by omega) (by omega)];omega
  obtain⟨v1,b1,b2,b3,b4,b5,b6⟩:=zCK n e (U:Int) lst l (N:=n.Nodes.toNat) (by omega) hNN (zb9 n e (U:Int) lst l fu) (zca n e (U:Int) lst l fu) k (by omega) n.Nodes.toNat Fuel 0 (⟨v.len,setT k (⟨n.Nodes.toNat,(λ _=>(0:Int))⟩:Sl Int) v.get⟩:Sl (Sl Int)) (by omega) (by simp only[Fuel];omega) (by show k < v.len;omega) (by show (setT k _ v.get k).len=_;rw[zdV,dqP rfl]) (λ q h=>absurd h (Nat.not_lt_zero _))
  have b3':v1.len=v.len:=b3
  have b4':∀ j,j ≠ k->v1.get j=v.get j:=λ j hj=>by
   rw[b4 j hj]
   show setT k _ v.get j=_
   rw[zdV,dqG hj]
  have hS:zb9 n e (U:Int) lst l (fu+1) (k:Int) v=zjk (zb9 n e (U:Int) lst l fu) n e (U:Int) lst l (k:Int) v1:=by
   rw[← b1]
   show zjo n e (U:Int) lst l (zb9 n e (U:Int) lst l fu) (k:Int) v=_
   generalize zb9 n e (U:Int) lst l fu=S
   unfold zjo
   rw[dqT (show (k:Int)≤(U:Int) by omega),dqA,dqN];rfl
  have hP:zca n e (U:Int) lst l (fu+1) (k:Int) v=zjl (zca n e (U:Int) lst l fu) n e (U:Int) lst l (k:Int) v1:=by
   rw[← b2]
   show zjq n e (U:Int) lst l (zca n e (U:Int) lst l fu) (k:Int) v=_
   generalize zca n e (U:Int) lst l fu=S
   unfold zjq
   rw[dqT (show (k:Int)≤(U:Int) by omega),dqA,dqN]
   dsimp only
   rw[dqT (show 0≤n.Nodes/\n.Nodes=n.Nodes/\n.Nodes≤1000000 from ⟨by omega,rfl,by omega⟩),dqT (show 0≤(k:Int)/\(k:Int) < (v.len:Int) by omega),dqT (show k < v.len/\(v.get k).len=0/\0 < n.Nodes.toNat by omega)]
   rfl
  rw[hS,hP]
  by_cases hk1:k=0
  ·subst hk1
   have nx:∀ (fu':Nat),zeo (zb9 n e (U:Int) lst l fu) n e (U:Int) lst l (fu'+1) ((0:Nat):Int) (0:Int) v1=zb9 n e (U:Int) lst l fu ((0+1:Nat):Int) (⟨v1.len,(zlm 0 e.toNat (0:Int) v1.get)⟩:Sl (Sl Int)) /\
     zep (zca n e (U:Int) lst l fu) n e (U:Int) lst l (fu'+1) ((0:Nat):Int) (0:Int) v1=zca n e (U:Int) lst l fu ((0+1:Nat):Int) (⟨v1.len,(zlm 0 e.toNat (0:Int) v1.get)⟩:Sl (Sl Int)):=λ fu'=>by
    constructor
    ·show zgM (zb9 n e (U : Int) lst l fu) n e (U : Int) lst l (zeo (zb9 n e (U : Int) lst l fu) n e (U : Int) lst l fu') ((0 : Nat) : Int) (0:Int) v1 = _
     rw[← hw]
     generalize zeo (zb9 n e (U:Int) lst l fu) n e (U:Int) lst l fu'=S
     generalize zb9 n e (U:Int) lst l fu=S'
     unfold zgM
     rw[dqF (show ¬ (((0:Nat):Int) > 0) by omega),show ((((0:Nat):Int)) == (0:Int))=true from rfl]
     cases decide ((0:Int) < (l.len:Int)) <;> rfl
    ·show zgN (zca n e (U : Int) lst l fu) n e (U : Int) lst l (zep (zca n e (U : Int) lst l fu) n e (U : Int) lst l fu') ((0 : Nat) : Int) (0:Int) v1 = _
     rw[← hw]
     generalize zep (zca n e (U:Int) lst l fu) n e (U:Int) lst l fu'=S
     generalize zca n e (U:Int) lst l fu=S'
     unfold zgN
     rw[dqF (show ¬ (((0:Nat):Int) > 0) by omega),show ((((0:Nat):Int)) == (0:Int))=true from rfl]
     dsimp only
     rw[dqT (show 0≤(0:Int)/\(0:Int) < (v1.len:Int) by omega),dqT (show 0 < v1.len/\0 < (v1.get 0).len by omega),dqT (show 0 < v1.len/\0≤e/\e < ((v1.get 0).len:Int) by omega),dqT (show 0 < v1.len/\e.toNat < (v1.get 0).len by omega)]
     cases decide ((0:Int) < (l.len:Int)) <;> rfl
   obtain⟨fu',hfu'⟩:∃ q,Fuel=q+1:=⟨Fuel - 1,by simp only[Fuel]⟩
   have n1:zjk (zb9 n e (U:Int) lst l fu) n e (U:Int) lst l ((0:Nat):Int) v1=zeo (zb9 n e (U:Int) lst l fu) n e (U:Int) lst l Fuel ((0:Nat):Int) (0:Int) v1:=rfl
   have n2:zjl (zca n e (U:Int) lst l fu) n e (U:Int) lst l ((0:Nat):Int) v1=zep (zca n e (U:Int) lst l fu) n e (U:Int) lst l Fuel ((0:Nat):Int) (0:Int) v1:=rfl
   rw[n1,n2,hfu',(nx fu').1,(nx fu').2]
   refine ih fu (0+1) _ (by omega) (by omega) ⟨by show v1.len=_;omega,λ j hj=>?_,λ j h1 h2=>?_⟩
   ·have : j = 0 := by omega
    subst this
    show Rr _ (zlm 0 e.toNat (0:Int) v1.get 0) (zuC e.toNat) _
    rw[zhR,dqP rfl]
    refine⟨b5,λ q hq=>?_⟩
    show setT e.toNat (0:Int) (v1.get 0).get q=_/\_
    rw[zdV]
    unfold zuC
    by_cases hqe:q=e.toNat
    ·rw[dqP hqe,dqP hqe];exact⟨rfl,λ x hx=>by cases hx;omega⟩
    ·rw[dqG hqe,dqG hqe];exact⟨b6 q hq,λ x hx=>by cases hx⟩
   ·show (zlm 0 e.toNat (0:Int) v1.get j).len = 0
    rw[zhR,dqG (by omega),b4' j (by omega)]
    exact hv.hi j (by omega) h2
  ·have hprev := hv.lo (k - 1) (by omega)
   rw[← b4' (k - 1) (by omega)] at hprev
   obtain⟨v2,c1,c2,c3,c4,c5⟩:=zCJ n e (U:Int) lst l (Ws (W n)) hl (by omega) (N:=n.Nodes.toNat) (by omega) (λ y hy=>zpI (a:=W n) hn hy) (zb9 n e (U:Int) lst l fu) (zca n e (U:Int) lst l fu) k (by omega) (by omega) (hops (hF (W n) lst) e.toNat (k - 1)) (((k - 1:Nat):Int) * 1000000000) (by omega) (Ws (W n)).length Fuel 0 v1 zus false (by omega) (by simp only[Fuel];omega) (by omega) hprev ⟨b5,λ q hq=>⟨b6 q hq,λ x hx=>by cases hx⟩⟩
   have n1:zjk (zb9 n e (U:Int) lst l fu) n e (U:Int) lst l (k:Int) v1=zeo (zb9 n e (U:Int) lst l fu) n e (U:Int) lst l Fuel (k:Int) ((0:Nat):Int) v1:=rfl
   have n2:zjl (zca n e (U:Int) lst l fu) n e (U:Int) lst l (k:Int) v1=zep (zca n e (U:Int) lst l fu) n e (U:Int) lst l Fuel (k:Int) ((0:Nat):Int) v1:=rfl
   rw[n1,n2,c1,c2,hw]
   refine ih fu (k+1) v2 (by omega) (by omega) ⟨by omega,λ j hj=>?_,λ j h1 h2=>?_⟩
   ·by_cases hjk : j = k
    ·subst hjk
     obtain⟨j,rfl⟩:∃ j',j=j'+1:=⟨j - 1,by omega⟩
     have c5':Rr n.Nodes.toNat (v2.get (j+1)) (hops (hF (W n) lst) e.toNat (j+1)) (((j+1 - 1:Nat):Int) * 1000000000+1000000000):=c5
     exact c5'.mono (by omega)
    ·rw[c4 j hjk,b4' j hjk];exact hv.lo j (by omega)
   ·rw[c4 j (by omega),b4' j (by omega)];exact hv.hi j (by omega) h2
theorem zLh {n:Net}(hn:NetOk n) (e lst:Int) (he:0≤e/\e < n.Nodes) (U:Nat) (hU:U≤40):p90 n e (U:Int) lst=true/\Ln (W n) n.Nodes.toNat e lst U (U+1) (s90 n e (U:Int) lst):=by
 have hlen:=hn.len
 obtain⟨q1,q2⟩:=ztA n (by omega)
 have hw:w64 ((U:Int)+(1:Int))=((U+1:Nat):Int):=by rw[za9 (by omega) (by omega)];omega
 obtain⟨k1,k2⟩:=zuu n hn e lst he U hU (s77 n) q2 (U+1) Fuel 0 (⟨U+1,(λ _=>⟨0,λ _=>default⟩)⟩:Sl (Sl Int)) (by omega) (by simp only[Fuel];omega) ⟨rfl,λ j hj=>absurd hj (Nat.not_lt_zero _),λ _ _ _=>rfl⟩
 unfold p90 s90 zr5 zr4
 rw[q1,hw,dqN,dqT (show 0≤((U+1:Nat):Int)/\((U+1:Nat):Int)=((U+1:Nat):Int)/\((U+1:Nat):Int)≤1000000 from ⟨by omega,rfl,by omega⟩)]
 simp only[decide_true,Bool.true_and]
 exact⟨k1,k2⟩
end Go.Proofs
namespace Go.Proofs
open Go Go.Pm
set_option maxRecDepth 100000
set_option linter.unusedVariables false
theorem zAG (v:Sl Int) (hv:v.len≤1000):zLA v=true:=by
 have key:∀ (m k i:Nat),i+m=v.len->m < k->zim v k (i:Int)=true:=by
  intro m
  induction m with
  | zero =>
   intro k i hi hk
   obtain⟨k,rfl⟩:∃ k',k=k'+1:=⟨k - 1,by omega⟩
   show zha v (zim v k) (i:Int)=true
   unfold zha
   rw[dqF (show ¬ (i:Int) < (v.len:Int) by omega),dqB]
  | succ m ih =>
   intro k i hi hk
   obtain⟨k,rfl⟩:∃ k',k=k'+1:=⟨k - 1,by omega⟩
   show zha v (zim v k) (i:Int)=true
   unfold zha
   rw[dqT (show (i:Int) < (v.len:Int) by omega),dqA,dqT (show 0≤(i:Int)/\(i:Int) < (v.len:Int) by omega),Bool.true_and,zfQ (n:=v.len) (by omega) (by omega),ih k (i+1) (by omega) (by omega)]
   cases (v.get ((i:Int)).toNat != (0:Int)) <;> rfl
 exact key v.len Fuel 0 (by omega) (by simp only[Fuel];omega)
theorem zAH (a b:Sl step) (ha:a.len≤1000):zJD a b=true:=by
 have key:∀ (m k i:Nat),i+m=a.len->m < k->zin k a b a (a.len:Int) (i:Int)=true:=by
  intro m
  induction m with
  | zero =>
   intro k i hi hk
   obtain⟨k,rfl⟩:∃ k',k=k'+1:=⟨k - 1,by omega⟩
   show zhe (zin k) a b a (a.len:Int) (i:Int)=true
   unfold zhe
   rw[dqF (show ¬ (i:Int) < (a.len:Int) by omega),dqB]
  | succ m ih =>
   intro k i hi hk
   obtain⟨k,rfl⟩:∃ k',k=k'+1:=⟨k - 1,by omega⟩
   show zhe (zin k) a b a (a.len:Int) (i:Int)=true
   unfold zhe
   rw[dqT (show (i:Int) < (a.len:Int) by omega),dqA,dqT (show 0≤(i:Int)/\(i:Int) < (a.len:Int) by omega),Bool.true_and]
   by_cases hb:(i:Int) ≥ (b.len:Int)
   ·rw[dqT hb,dqA]
   ·rw [dqF hb, dqB]
    unfold znP znN zLB
    rw[dqT (show 0≤(i:Int)/\(i:Int) < (b.len:Int) by omega),zAG _ (by show 2≤1000;omega),zfQ (n:=a.len) (by omega) (by omega),ih k (i+1) (by omega) (by omega)]
    generalize (zB7 _ _ != (0:Int))=t
    cases t <;> rfl
 exact key a.len Fuel 0 (by omega) (by simp only[Fuel];omega)
def IsS (v:Sl step) (L:List step):Prop:=v.len=L.length/\∀ q (h:q < L.length),v.get q=L[q]
theorem zAI {v:Sl step}{L:List step}(h:IsS v L) (y:step):IsS ⟨v.len+1,zdb v.len v.get (λ _=>y)⟩ (L ++ [y]):=by
 refine⟨by show v.len+1=_;rw[dqu,h.1];rfl,λ k hk=>?_⟩
 show zdb v.len v.get (λ _=>y) k=_
 rw[zos]
 rw[dqu] at hk
 have h1:=h.1
 by_cases hv:v.len≤k
 ·rw [dqP hv]
  have:k=L.length:=by simp only[dqr,List.length_nil] at hk;omega
  subst this
  simp
 ·rw [dqG hv, h.2 k (by omega)]
  rw[List.getElem_append_left (by omega)]
def ChS (S : List step) : Int → List step → Int → Prop
  | a,[],b=>a=b
  | a,y :: l,b=>y∈S/\y.from_=a/\ChS S y.to l b
theorem zH9 {S:List step}{L:List step}{y:step} : ∀ {a b:Int},ChS S a L b->y∈S->y.from_=b->ChS S a (L ++ [y]) y.to:=by
 induction L with
 | nil=>intro a b h hy hf;exact⟨hy,hf.trans h.symm,rfl⟩
 | cons z l ih=>rintro a b ⟨h1,h2,h3⟩ hy hf;exact⟨h1,h2,ih h3 hy hf⟩
def wtS : List step → Int
  | []=>0
  | y :: l=>y.length+wtS l
theorem zIa (L:List step) (y:step):wtS (L ++ [y])=wtS L+y.length:=by
 induction L with
 | nil=>show y.length+0=0+y.length;omega
 | cons z l ih=>show z.length+wtS (l ++ [y])=z.length+wtS l+y.length;rw[ih];omega
theorem zko {w:web}{node:Int}{d:zcA}{v:Nat}{x:Int}(hn:NetOk w.Net) (h:hop (hF w node) d v=some x):∃ y∈Ws w,node≤y.from_/\node≤y.to/\y.from_.toNat=v/\∃ z,d y.to.toNat=some z/\x=z+y.length:=by
 obtain⟨e,he,h1,z,h2,h3⟩:=zD7 h
 obtain⟨y,hy,rfl⟩:=dqz.1 he
 obtain⟨hy1,hy2⟩:=List.mem_filter.1 hy
 unfold okY at hy2
 rw[dqm] at hy2
 exact⟨y,hy1,of_decide_eq_true hy2.1,of_decide_eq_true hy2.2,h1,z,h2,h3⟩
end Go.Proofs
namespace Go.Proofs
open Go Go.Pm
set_option maxRecDepth 100000
set_option linter.unusedVariables false
abbrev PS7:=Int->Bool->Sl step->Int->Int->Sl Tab->Int->Int->Int->Sl (Sl Tab)->Sl step->Sl step
theorem zCL (w : web) {N : Nat} (hN : N ≤ 40) (S5 : Int → Bool → Sl step → Int → Sl (Sl Tab) → Sl step) (P5 : Int → Bool → Sl step → Int → Sl (Sl Tab) → Bool) (S6 : PS7) (P6 : Int → Bool → Sl step → Int → Int → Sl Tab → Int → Int → Int → Sl (Sl Tab) → Sl step → Bool) (v4 : Sl (Sl Tab)) (u : Int) (bb : Bool) (best : Sl step) (t i : Int) (h : Sl Tab) (at_ len : Int) (k : Nat) (hk : k < h.len) (d : zcA) {B : Int} (hB : B ≤ 90000000000) (hd : Rh N (h.get k) d B) (hl0 : -90000000000 ≤ len) (hl1 : len ≤ 90000000000) (v21 : Sl (Sl Tab)) (now : Sl step) (hnow : now.len ≤ 1000) :
  ∀ (l:List step),(∀ y∈l,StOk y N)->(∃ y∈l,y.from_=at_/\i≤y.to/\∃ x,d y.to.toNat=some x/\len+y.length+x < 0) ->
  ∃ y∈l,(y.from_=at_/\i≤y.to/\∃ x,d y.to.toNat=some x/\len+y.length+x < 0) /\
   zbQ S5 S6 w v4 l u bb best t i h at_ len (k:Int) v21 now=S6 u bb best t i h y.to (len+y.length) (w64 ((k:Int) - (1:Int))) v21 (⟨(now.len+1),(zdb now.len now.get (λ _=>y))⟩:Sl step) /\
   zbR P5 P6 w v4 l u bb best t i h at_ len (k:Int) v21 now=P6 u bb best t i h y.to (len+y.length) (w64 ((k:Int) - (1:Int))) v21 (⟨(now.len+1),(zdb now.len now.get (λ _=>y))⟩:Sl step):=by
 intro l
 induction l with
 | nil=>rintro _ ⟨y,hy,_⟩;cases hy
 | cons y l ih =>
  intro hl hex
  have hy:=hl y (dqj ..)
  have f0:=hy.f0;have f1:=hy.f1;have t0:=hy.t0;have t1:=hy.t1;have l0:=hy.l0;have l1:=hy.l1
  obtain⟨⟨d1,d2⟩,d3⟩:=hd y.to.toNat (by omega)
  have e1:0+y.to.toNat * 2+0=y.to.toNat * 2:=by omega
  have hS:zbQ S5 S6 w v4 (y :: l) u bb best t i h at_ len (k:Int) v21 now=cond (y.from_ == at_) (cond (decide (i≤y.to)) (cond (!(nvr (tg 80 (h.get ((k:Int)).toNat) (0+y.to.toNat * 2+0)) (tg 80 (h.get ((k:Int)).toNat) (0+y.to.toNat * 2+0+1)))) (cond (decide (w64 (w64 (len+y.length)+tg 80 (h.get ((k:Int)).toNat) (0+y.to.toNat * 2+0)) < (0:Int))) (S6 u bb best t i h y.to (w64 (len+y.length)) (w64 ((k:Int) - (1:Int))) v21 (⟨(now.len+1),(zdb now.len now.get (λ _=>y))⟩:Sl step)) (zbQ S5 S6 w v4 l u bb best t i h at_ len (k:Int) v21 now)) (zbQ S5 S6 w v4 l u bb best t i h at_ len (k:Int) v21 now)) (zbQ S5 S6 w v4 l u bb best t i h at_ len (k:Int) v21 now)) (zbQ S5 S6 w v4 l u bb best t i h at_ len (k:Int) v21 now):=by
   show znR S5 S6 w v4 y (zbQ S5 S6 w v4 l) u bb best t i h at_ len (k:Int) v21 now=_
   generalize zbQ S5 S6 w v4 l=S
   rfl
  have hP:zbR P5 P6 w v4 (y :: l) u bb best t i h at_ len (k:Int) v21 now=cond (y.from_ == at_) (cond (decide (i≤y.to)) (decide (0≤(k:Int)/\(k:Int) < (h.len:Int)) && (decide (0≤y.to/\y.to < (40:Int)) && cond (!(nvr (tg 80 (h.get ((k:Int)).toNat) (0+y.to.toNat * 2+0)) (tg 80 (h.get ((k:Int)).toNat) (0+y.to.toNat * 2+0+1)))) (decide (0≤(k:Int)/\(k:Int) < (h.len:Int)) && (decide (0≤y.to/\y.to < (40:Int)) && cond (decide (w64 (w64 (len+y.length)+tg 80 (h.get ((k:Int)).toNat) (0+y.to.toNat * 2+0)) < (0:Int))) (decide ((now.len+1) * 40≤140737488355328/\now.len+1≤9223372036854775807) && P6 u bb best t i h y.to (w64 (len+y.length)) (w64 ((k:Int) - (1:Int))) v21 (⟨(now.len+1),(zdb now.len now.get (λ _=>y))⟩:Sl step)) (zbR P5 P6 w v4 l u bb best t i h at_ len (k:Int) v21 now))) (zbR P5 P6 w v4 l u bb best t i h at_ len (k:Int) v21 now))) (zbR P5 P6 w v4 l u bb best t i h at_ len (k:Int) v21 now)) (zbR P5 P6 w v4 l u bb best t i h at_ len (k:Int) v21 now):=by
   show znS P5 P6 w v4 y (zbR P5 P6 w v4 l) u bb best t i h at_ len (k:Int) v21 now=_
   generalize zbR P5 P6 w v4 l=S
   rfl
  rw[dqN,e1,zhj (by omega),zhj (by omega),zAC hd (by omega) (show y.to.toNat < N by omega),za9 (x:=len+y.length) (by omega) (by omega)] at hS hP
  rw[dqT (show 0≤(k:Int)/\(k:Int) < (h.len:Int) by omega),dqT (show 0≤y.to/\y.to < (40:Int) by omega),dqT (show (now.len+1) * 40≤140737488355328/\now.len+1≤9223372036854775807 by omega)] at hP
  simp only[Bool.true_and] at hP
  have next : ¬ (y.from_=at_/\i≤y.to/\∃ x,d y.to.toNat=some x/\len+y.length+x < 0) ->
    zbQ S5 S6 w v4 (y :: l) u bb best t i h at_ len (k:Int) v21 now=zbQ S5 S6 w v4 l u bb best t i h at_ len (k:Int) v21 now->zbR P5 P6 w v4 (y :: l) u bb best t i h at_ len (k:Int) v21 now=zbR P5 P6 w v4 l u bb best t i h at_ len (k:Int) v21 now->∃ y'∈y :: l,(y'.from_=at_/\i≤y'.to/\∃ x,d y'.to.toNat=some x/\len+y'.length+x < 0) /\
   zbQ S5 S6 w v4 (y :: l) u bb best t i h at_ len (k:Int) v21 now=S6 u bb best t i h y'.to (len+y'.length) (w64 ((k:Int) - (1:Int))) v21 (⟨(now.len+1),(zdb now.len now.get (λ _=>y'))⟩:Sl step) /\
   zbR P5 P6 w v4 (y :: l) u bb best t i h at_ len (k:Int) v21 now=P6 u bb best t i h y'.to (len+y'.length) (w64 ((k:Int) - (1:Int))) v21 (⟨(now.len+1),(zdb now.len now.get (λ _=>y'))⟩:Sl step):=λ hno hs hp=>by
   obtain⟨z,hz,hc⟩:=hex
   have hzl:z∈l:=(dqq.1 hz).resolve_left (λ e=>hno (e ▸ hc))
   obtain⟨y',a1,a2,a3,a4⟩:=ih (λ q hq=>hl q (dqf _ hq)) ⟨z,hzl,hc⟩
   exact⟨y',dqf _ a1,a2,hs.trans a3,hp.trans a4⟩
  by_cases c1:y.from_=at_
  ·rw [show (y.from_ == at_) = true from beq_iff_eq.2 c1] at hS hP
   by_cases c2:i≤y.to
   ·rw [dqT c2] at hS hP
    cases hdu:d y.to.toNat with
    | none =>
     rw[hdu] at hS hP
     exact next (λ ⟨_,_,x,hx,_⟩=>by rw[hdu] at hx;cases hx) hS hP
    | some x =>
     have hbx:=d3 x hdu
     rw[hdu] at hS hP d1
     have d1':h.get k (y.to.toNat * 2)=x:=d1
     rw[d1',za9 (x:=len+y.length+x) (by omega) (by omega)] at hS hP
     by_cases c3:len+y.length+x < 0
     ·rw [dqT c3] at hS hP
      exact⟨y,dqj ..,⟨c1,c2,x,hdu,c3⟩,hS,hP⟩
     ·rw [dqF c3] at hS hP
      exact next (λ ⟨_,_,x',hx',hx''⟩=>by rw[hdu] at hx';cases hx';exact c3 hx'') hS hP
   ·rw [dqF c2] at hS hP
    exact next (λ hh=>c2 hh.2.1) hS hP
  ·rw [show (y.from_ == at_) = false from beq_eq_false_iff_ne.2 c1] at hS hP
   exact next (λ hh=>c1 hh.1) hS hP
end Go.Proofs
namespace Go.Proofs
open Go Go.Pm
set_option maxRecDepth 100000
set_option linter.unusedVariables false
structure HsOk (w : web) (hs : Sl (Sl Tab)) : Prop where
  len:hs.len=w.Net.Nodes.toNat
  at_:∀ i,i < w.Net.Nodes.toNat->(hs.get i).len=w.Net.Nodes.toNat+1/\∀ j,j≤w.Net.Nodes.toNat->Rh w.Net.Nodes.toNat ((hs.get i).get j) (hops (hF w (i:Int)) i j) (j * 1000000000)
def zM6 (S5:Int->Bool->Sl step->Int->Sl (Sl Tab)->Sl step) (w:web) (v4:Sl (Sl Tab)) (u:Int) (bb:Bool) (best:Sl step) (t:Int) (v21:Sl (Sl Tab)) (now:Sl step):Sl step :=
 cond bb (ziU S5 w v4 u bb best t true v21 now) (ziU S5 w v4 u bb best t (decide ((zFg now best) < (0:Int))) v21 now)
def zM7 (P5:Int->Bool->Sl step->Int->Sl (Sl Tab)->Bool) (w:web) (v4:Sl (Sl Tab)) (u:Int) (bb:Bool) (best:Sl step) (t:Int) (v21:Sl (Sl Tab)) (now:Sl step):Bool :=
 decide (bb=true∨best.len ≠ 0) && cond bb (ziV P5 w v4 u bb best t true v21 now) (decide (zJD now best=true) && ziV P5 w v4 u bb best t (decide ((zFg now best) < (0:Int))) v21 now)
theorem walk (w : web) (hn : NetOk w.Net) (hs : Sl (Sl Tab)) (hh : HsOk w hs) (S5 : Int → Bool → Sl step → Int → Sl (Sl Tab) → Sl step) (P5 : Int → Bool → Sl step → Int → Sl (Sl Tab) → Bool) (v4 : Sl (Sl Tab)) (u : Int) (bb : Bool) (best : Sl step) (t : Int) (i : Nat) (hi : i < w.Net.Nodes.toNat) (v21 : Sl (Sl Tab)) :
  ∀ (m fu:Nat) (a len:Int) (now:Sl step) (L:List step),m < fu->(0≤a/\a < w.Net.Nodes)->L.length+m≤40->m≤w.Net.Nodes.toNat->-1000000000 * (L.length:Int)≤len->len≤1000000000 * (L.length:Int) ->
   (∃ x,hops (hF w (i:Int)) i m a.toNat=some x/\len+x < 0)->IsS now L->ChS (Ws w) (i:Int) L a->wtS L=len ->
   ∃ now' L',zek S5 w v4 fu u bb best t (i:Int) (hs.get i) a len ((m:Int) - 1) v21 now=zM6 S5 w v4 u bb best t v21 now'/\zel P5 w v4 fu u bb best t (i:Int) (hs.get i) a len ((m:Int) - 1) v21 now=zM7 P5 w v4 u bb best t v21 now' /\
    IsS now' L'/\ChS (Ws w) (i:Int) L' (i:Int)/\wtS L' < 0/\L'.length=L.length+m:=by
 have hn40:=hn.n40;have hlen:=hn.len
 obtain⟨q1,q2⟩:=zor w (by omega)
 obtain⟨hl1,hat⟩:=hh.at_ i hi
 intro m
 induction m with
 | zero =>
  intro fu a len now L hf ha hL hm hl0 hl1' hx hnow hch hwt
  obtain⟨fu,rfl⟩:∃ k',fu=k'+1:=⟨fu - 1,by omega⟩
  obtain⟨x,hx1,hx2⟩:=hx
  have hx1':zuC i a.toNat=some x:=hx1
  unfold zuC at hx1'
  have hai:a.toNat=i:=by
   by_cases hq:a.toNat=i
   ·exact hq
   ·rw[dqG hq] at hx1';cases hx1'
  rw[dqP hai] at hx1'
  have hx0:(0:Int)=x:=Option.some.inj hx1'
  have hae:a=(i:Int):=by omega
  subst hae
  refine⟨now,L,?_,?_,hnow,hch,by omega,rfl⟩
  ·show ze0 S5 w v4 (zek S5 w v4 fu) u bb best t (i : Int) (hs.get i) (i : Int) len (((0 : Nat) : Int) - 1) v21 now = _
   unfold ze0
   rw[dqF (show ¬ ((0:Nat):Int) - 1 ≥ 0 by omega),dqB];rfl
  ·show ze1 P5 w v4 (zel P5 w v4 fu) u bb best t (i : Int) (hs.get i) (i : Int) len (((0 : Nat) : Int) - 1) v21 now = _
   unfold ze1
   rw[dqF (show ¬ ((0:Nat):Int) - 1 ≥ 0 by omega),dqB];rfl
 | succ m ih =>
  intro fu a len now L hf ha hL hm hl0 hl1' hx hnow hch hwt
  obtain⟨fu,rfl⟩:∃ k',fu=k'+1:=⟨fu - 1,by omega⟩
  obtain⟨x,hx1,hx2⟩:=hx
  obtain⟨y,hy,hy1,hy2,hy3,z,hz1,hz2⟩:=zko hn (show hop (hF w (i:Int)) (hops (hF w (i:Int)) i m) a.toNat=some x from hx1)
  have hyo:=zpI hn hy
  have f0:=hyo.f0
  have hya:y.from_=a:=by omega
  have hnl:=hnow.1
  obtain⟨y',b1,⟨b2,b3,x',b4,b5⟩,b6,b7⟩:=zCL w (N:=w.Net.Nodes.toNat) (by omega) S5 P5 (zek S5 w v4 fu) (zel P5 w v4 fu) v4 u bb best t (i:Int) (hs.get i) a len m (by omega) (hops (hF w (i:Int)) i m) (B:=m * 1000000000) (by omega) (hat m (by omega)) (by omega) (by omega) v21 now (by omega) (Ws w) (λ y hy=>zpI hn hy) ⟨y,hy,hya,hy2,z,hz1,by omega⟩
  have hyo':=zpI hn b1
  have t0:=hyo'.t0;have t1:=hyo'.t1;have l0:=hyo'.l0;have l1:=hyo'.l1
  have hw:w64 ((m:Int) - (1:Int))=(m:Int) - 1:=za9 (by omega) (by omega)
  rw[hw] at b6 b7
  obtain⟨now',L',c1,c2,c3,c4,c5,c6⟩:=ih fu y'.to (len+y'.length) (⟨(now.len+1),(zdb now.len now.get (λ _=>y'))⟩:Sl step) (L ++ [y']) (by omega) ⟨t0,by omega⟩ (by simp only[dqu,dqr,List.length_nil];omega) (by omega) (by simp only[dqu,dqr,List.length_nil];omega) (by simp only[dqu,dqr,List.length_nil];omega) ⟨x',b4,b5⟩ (zAI hnow y') (zH9 hch b1 b2) (by rw[zIa,hwt])
  refine⟨now',L',?_,?_,c3,c4,c5,by rw[c6];simp only[dqu,dqr,List.length_nil];omega⟩
  ·rw [← c1, ← b6]
   show ze0 S5 w v4 (zek S5 w v4 fu) u bb best t (i:Int) (hs.get i) a len (((m+1:Nat):Int) - 1) v21 now=_
   rw[show ((m+1:Nat):Int) - 1=(m:Int) by omega]
   unfold ze0 znT
   rw[dqT (show (m:Int) ≥ 0 by omega),dqA,q2]
  ·rw [← c2, ← b7]
   show ze1 P5 w v4 (zel P5 w v4 fu) u bb best t (i:Int) (hs.get i) a len (((m+1:Nat):Int) - 1) v21 now=_
   rw[show ((m+1:Nat):Int) - 1=(m:Int) by omega]
   unfold ze1 znU
   rw[dqT (show (m:Int) ≥ 0 by omega),dqA,q1,q2];rfl
def neg (hs:Sl (Sl Tab)) (u i:Nat):Prop:=((hs.get i).get u) (i * 2) < 0
theorem zLi {w:web}(hn:NetOk w.Net){hs:Sl (Sl Tab)}(hh:HsOk w hs) (h : ¬ zfj (We w)):∃ u j,1≤u/\u≤w.Net.Nodes.toNat/\j < w.Net.Nodes.toNat/\neg hs u j:=by
 obtain⟨a,c,h1,h2,h3,h4,h5⟩:=zAz (zNG hn).lt h
 have hF':∀ {c:List Ed} {x y:Nat},zgQ (We w) x c y->(∀ e∈c,a≤e.u/\a≤e.v)->zgQ ((hF w (a:Int)).map edR) x c y:=by
  intro c
  induction c with
  | nil=>intro x y h _;exact h
  | cons e l ih =>
   rintro x y ⟨g1,g2,g3⟩ g
   refine⟨?_,g2,ih g3 (λ e he=>g e (dqf _ he))⟩
   obtain⟨y,hy,rfl⟩:=dqz.1 g1
   have hyo:=zpI hn hy
   have hg:=g (edS y) (dqj ..)
   have f0:=hyo.f0;have t0:=hyo.t0
   have hg1:a≤y.from_.toNat:=hg.1
   have hg2:a≤y.to.toNat:=hg.2
   exact dqz.2 ⟨edQ y,List.mem_map_of_mem (List.mem_filter.2 ⟨hy,by unfold okY;rw[dqT (show (a:Int)≤y.from_ by omega),dqT (show (a:Int)≤y.to by omega)];rfl⟩),rfl⟩
 obtain⟨c0,k1,k2,k3⟩:=zK7 (hF' h2 h5)
 have hc:c.length ≠ 0:=λ e=>by
  have:c=[]:=List.length_eq_zero_iff.1 e
  subst this;exact absurd h3 (by show ¬ (0:Int) < 0;omega)
 obtain⟨x,m1,m2⟩:=zH5 (k:=c.length) k1 k3
 refine⟨c.length,a,by omega,h4,h1,?_⟩
 obtain⟨⟨g1,_⟩,_⟩:=(hh.at_ a h1).2 c.length h4 a h1
 rw[m1] at g1
 have g1':((hs.get a).get c.length) (a * 2)=x:=g1
 show ((hs.get a).get c.length) (a * 2) < 0
 omega
def stH (w:web) (i:Nat) (v:Sl (Sl Tab)):Sl (Sl Tab):=⟨v.len,setT i (zte w (i:Int) w.Net.Nodes) v.get⟩
theorem zLj (w:web):∀ (m i:Nat) (v:Sl (Sl Tab)),(∀ j,j < i->v.get j=zte w (j:Int) w.Net.Nodes)->(zpG (stH w) m i v).len=v.len/\∀ j,j < i+m->(zpG (stH w) m i v).get j=zte w (j:Int) w.Net.Nodes:=by
 intro m
 induction m with
 | zero=>intro i v h;exact⟨rfl,λ j hj=>h j (by omega)⟩
 | succ m ih =>
  intro i v h
  obtain⟨k1,k2⟩:=ih (i+1) (stH w i v) (λ j hj=>by
   show setT i _ v.get j=_
   rw[zdV]
   by_cases hji:j=i
   ·rw[dqP hji,hji]
   ·rw[dqG hji];exact h j (by omega))
  exact⟨k1,λ j hj=>k2 j (by omega)⟩
end Go.Proofs
namespace Go.Proofs
open Go Go.Pm
set_option maxRecDepth 100000
set_option linter.unusedVariables false
def rk (u:Use):Int:=2 * u.Tie+cond u.Back 1 0
def ltU : List step → List step → Bool
  | x :: a,y :: b=>if rk x.Use < rk y.Use then true else if rk y.Use < rk x.Use then false else ltU a b
  | _,_=>false
theorem zAJ (x y:Int):zuB x y=if x < y then -1 else if y < x then 1 else 0:=by
 have e1:zB5 x=false:=by unfold zB5;exact bne_self_eq_false _
 have e2:zB5 y=false:=by unfold zB5;exact bne_self_eq_false _
 unfold zuB
 rw[e1,e2]
 simp only[dqB]
 by_cases h:x < y
 ·rw[dqT h,dqP h,dqA]
 ·rw [dqF h, dqG h, dqB]
  by_cases h2:y < x
  ·rw[dqT (show x > y from h2),dqP h2,dqA]
  ·rw[dqF (show ¬ x > y from h2),dqG h2,dqB]
theorem zCM (a b:Int):zJv (⟨2,zax (zbI [(zah a),(zah b)])⟩:Sl Int)=if a ≠ 0 then a else b:=by
 have key:∀ (v:Sl Int),v.len=2->v.get 0=a->v.get 1=b->zJv v=if a ≠ 0 then a else b:=by
  intro v h1 h2 h3
  obtain⟨k,hk⟩:∃ k,Fuel=k+3:=⟨Fuel - 3,by simp only[Fuel]⟩
  show zhb v Fuel (0:Int)=_
  rw[hk]
  show zeJ v (zhb v (k+2)) (0:Int)=_
  unfold zeJ
  rw[dqT (show (0:Int) < (v.len:Int) by omega),dqA,show ((0:Int)).toNat=0 from rfl,h2]
  by_cases ha:a ≠ 0
  ·rw[show (a != (0:Int))=true from bne_iff_ne.2 ha,dqA,dqP ha]
  ·rw [show (a != (0:Int)) = false by simpa using ha, dqB, dqG ha, show w64 ((0:Int) + (1:Int)) = ((1 : Nat) : Int) from rfl]
   show zeJ v (zhb v (k+1)) ((1:Nat):Int)=_
   unfold zeJ
   rw[dqT (show ((1:Nat):Int) < (v.len:Int) by omega),dqA,dqN,h3]
   by_cases hb:b ≠ 0
   ·rw[show (b != (0:Int))=true from bne_iff_ne.2 hb,dqA]
   ·have hb0 : b = 0 := Classical.not_not.1 hb
    rw[show (b != (0:Int))=false by simpa using hb0,dqB,show w64 (((1:Nat):Int)+(1:Int))=((2:Nat):Int) from rfl]
    show zeJ v (zhb v k) ((2:Nat):Int)=_
    unfold zeJ
    rw[dqF (show ¬ ((2:Nat):Int) < (v.len:Int) by omega),dqB,hb0]
 exact key _ rfl rfl rfl
theorem zIb (x y:step):zB7 x y=if rk x.Use < rk y.Use then -1 else if rk y.Use < rk x.Use then 1 else 0:=by
 unfold zB7
 rw[zCM,zAJ,zAJ]
 unfold zB6 rk
 cases x.Use.Back <;> cases y.Use.Back <;> simp only[dqA,dqB] <;> (repeat' split) <;> omega
theorem zIc (a b:Sl step){A L:List step}(ha:IsS a A) (hb:IsS b L) (hAL:A.length=L.length) (hL:L.length≤1000):decide (zFg a b < 0)=ltU A L:=by
 have h1:=ha.1;have h2:=hb.1
 have key:∀ (m k i:Nat),i+m=A.length->m < k->decide (zd4 k a b a (a.len:Int) (i:Int) < 0)=ltU (A.drop i) (L.drop i):=by
  intro m
  induction m with
  | zero =>
   intro k i hi hk
   obtain⟨k,rfl⟩:∃ k',k=k'+1:=⟨k - 1,by omega⟩
   have e:zd4 (k+1) a b a (a.len:Int) (i:Int)=0:=by
    show zhd (zd4 k) a b a (a.len:Int) (i:Int)=0
    unfold zhd
    rw[dqF (show ¬ (i:Int) < (a.len:Int) by omega),dqB,dqF (show ¬ (a.len:Int) < (b.len:Int) by omega),dqB]
   rw[e,List.drop_eq_nil_of_le (by omega)];rfl
  | succ m ih =>
   intro k i hi hk
   obtain⟨k,rfl⟩:∃ k',k=k'+1:=⟨k - 1,by omega⟩
   have hw:w64 ((i:Int)+(1:Int))=((i+1:Nat):Int):=by rw[za9 (by omega) (by omega)];omega
   have e:zd4 (k+1) a b a (a.len:Int) (i:Int)=cond (zB7 (a.get i) (b.get i) != 0) (zB7 (a.get i) (b.get i)) (zd4 k a b a (a.len:Int) ((i+1:Nat):Int)):=by
    rw[← hw]
    show zhd (zd4 k) a b a (a.len:Int) (i:Int)=_
    generalize zd4 k=S
    unfold zhd
    rw[dqT (show (i:Int) < (a.len:Int) by omega),dqA,dqF (show ¬ (i:Int) ≥ (b.len:Int) by omega),dqB,dqN]
    unfold znO znM
    rw[dqN]
   rw[e,ha.2 i (by omega),hb.2 i (by omega),zIb,List.drop_eq_getElem_cons (by omega:i < A.length),List.drop_eq_getElem_cons (by omega:i < L.length)]
   show _=(if rk (A[i]).Use < rk (L[i]).Use then true else if rk (L[i]).Use < rk (A[i]).Use then false else ltU (A.drop (i+1)) (L.drop (i+1)))
   by_cases c1:rk (A[i]).Use < rk (L[i]).Use
   ·rw[dqP c1,dqP c1];rfl
   ·rw [dqG c1, dqG c1]
    by_cases c2:rk (L[i]).Use < rk (A[i]).Use
    ·rw[dqP c2,dqP c2];rfl
    ·rw [dqG c2, dqG c2]
     exact ih k (i+1) (by omega) (by omega)
 exact key A.length Fuel 0 (by omega) (by simp only[Fuel];omega)
def gB (i:Int) (d:zcA) (a len:Int) (y:step):Bool:=decide (y.from_=a) && (decide (i≤y.to) && (match d y.to.toNat with | none=>false | some x=>decide (len+y.length+x < 0)))
theorem zhu {i:Int}{d:zcA}{a len:Int}{y:step} : gB i d a len y=true↔(y.from_=a/\i≤y.to/\∃ x,d y.to.toNat=some x/\len+y.length+x < 0):=by
 unfold gB
 rw[dqm,dqm,decide_eq_true_iff,decide_eq_true_iff]
 cases h:d y.to.toNat with
 | none=>exact⟨λ ⟨_,_,h⟩=>(by cases h),λ ⟨_,_,x,h,_⟩=>(by cases h)⟩
 | some x=>exact⟨λ ⟨h1,h2,h3⟩=>⟨h1,h2,x,rfl,of_decide_eq_true h3⟩,λ ⟨h1,h2,x',h3,h4⟩=>⟨h1,h2,by cases h3;exact dqT h4⟩⟩
def zcJ (w : web) (i : Nat) : Nat → Int → Int → List step
  | 0,_,_=>[]
  | m+1,a,len=>match (Ws w).find? (gB (i:Int) (hops (hF w (i:Int)) i m) a len) with
    | some y=>y :: zcJ w i m y.to (len+y.length)
    | none=>[]
def ziz (w:web) (u i:Nat):Bool:=match hops (hF w (i:Int)) i u i with | some x=>decide (x < 0) | none=>false
def zci (w : web) (u : Nat) : Nat → Nat → Option (List step) → Option (List step)
  | 0,_,b=>b
  | m+1,i,b=>zci w u m (i+1) (cond (ziz w u i) (match b with | none=>some (zcJ w i u (i:Int) 0) | some L=>cond (ltU (zcJ w i u (i:Int) 0) L) (some (zcJ w i u (i:Int) 0)) (some L)) b)
def zpK (w : web) : Nat → Nat → Option (List step)
  | 0,_=>none
  | m+1,u=>match zci w u w.Net.Nodes.toNat 0 none with | some L=>some L | none=>zpK w m (u+1)
theorem zuv (w:web) (u:Nat):∀ (m i:Nat) (L:List step),∃ L',zci w u m i (some L)=some L':=by
 intro m
 induction m with
 | zero=>intro i L;exact⟨L,rfl⟩
 | succ m ih =>
  intro i L
  show ∃ L',zci w u m (i+1) (cond (ziz w u i) (cond (ltU (zcJ w i u (i:Int) 0) L) (some (zcJ w i u (i:Int) 0)) (some L)) (some L))=some L'
  cases ziz w u i
  ·exact ih _ _
  ·cases ltU (zcJ w i u (i:Int) 0) L <;> exact ih _ _
theorem zhg {w:web}{u:Nat} : ∀ {m i:Nat},zci w u m i none=none↔∀ j,i≤j->j < i+m->ziz w u j=false:=by
 intro m
 induction m with
 | zero=>intro i;exact⟨λ _ j h1 h2=>by omega,λ _=>rfl⟩
 | succ m ih =>
  intro i
  have e:zci w u (m+1) i none=zci w u m (i+1) (cond (ziz w u i) (some (zcJ w i u (i:Int) 0)) none):=rfl
  rw[e]
  cases hb:ziz w u i with
  | true =>
   obtain⟨L',h⟩:=zuv w u m (i+1) (zcJ w i u (i:Int) 0)
   refine⟨λ h'=>?_,λ h'=>?_⟩
   ·have h2 : zci w u m (i + 1) (some (zcJ w i u (i : Int) 0)) = none := h'
    rw[h] at h2;cases h2
   ·have:=h' i (dqt _) (by omega);rw[hb] at this;cases this
  | false =>
   show zci w u m (i+1) none=none↔_
   rw[ih]
   exact⟨λ h j h1 h2=>by
    by_cases hji:j=i
    ·rw[hji];exact hb
    ·exact h j (by omega) (by omega),λ h j h1 h2=>h j (by omega) (by omega)⟩
theorem zCN {w:web}(hn:NetOk w.Net) (i:Nat):∀ (m:Nat) (a len:Int),(0≤a/\a < w.Net.Nodes)->(∃ x,hops (hF w (i:Int)) i m a.toNat=some x/\len+x < 0)->(zcJ w i m a len).length=m:=by
 intro m
 induction m with
 | zero=>intro a len _ _;rfl
 | succ m ih =>
  intro a len ha hx
  obtain⟨x,hx1,hx2⟩:=hx
  obtain⟨y,hy,hy1,hy2,hy3,z,hz1,hz2⟩:=zko hn (show hop (hF w (i:Int)) (hops (hF w (i:Int)) i m) a.toNat=some x from hx1)
  have hyo:=zpI hn hy
  have f0:=hyo.f0
  have hg:gB (i:Int) (hops (hF w (i:Int)) i m) a len y=true:=zhu.2 ⟨by omega,hy2,z,hz1,by omega⟩
  show (match (Ws w).find? (gB (i:Int) (hops (hF w (i:Int)) i m) a len) with | some y=>y :: zcJ w i m y.to (len+y.length) | none=>[]).length=m+1
  cases hf:(Ws w).find? (gB (i:Int) (hops (hF w (i:Int)) i m) a len) with
  | none=>exact absurd hg (List.find?_eq_none.1 hf y hy)
  | some y' =>
   obtain⟨_,_,x',h3,h4⟩:=zhu.1 (List.find?_some hf)
   have hy':=zpI hn (List.mem_of_find?_eq_some hf)
   have t0:=hy'.t0;have t1:=hy'.t1
   show (zcJ w i m y'.to (len+y'.length)).length+1=m+1
   rw[ih y'.to (len+y'.length) ⟨t0,by omega⟩ ⟨x',h3,h4⟩]
theorem ziy {w:web}{u i:Nat} : ziz w u i=true↔∃ x,hops (hF w (i:Int)) i u i=some x/\x < 0:=by
 unfold ziz
 cases h:hops (hF w (i:Int)) i u i with
 | none=>exact⟨λ h=>(by cases h),λ ⟨x,h,_⟩=>(by cases h)⟩
 | some x=>exact⟨λ h=>⟨x,rfl,of_decide_eq_true h⟩,λ ⟨x',h,h'⟩=>by cases h;exact dqT h'⟩
theorem zpL {w:web}(hn:NetOk w.Net){u i:Nat}(hi:i < w.Net.Nodes.toNat) (h:ziz w u i=true):(zcJ w i u (i:Int) 0).length=u:=by
 obtain⟨x,h1,h2⟩:=ziy.1 h
 exact zCN hn i u (i:Int) 0 ⟨by omega,by omega⟩ ⟨x,by rw[dqN];exact h1,by omega⟩
theorem zId {w:web}(hn:NetOk w.Net) (h:zfj (We w)) (u i:Nat):ziz w u i=false:=by
 cases hb:ziz w u i with
 | false=>rfl
 | true =>
  obtain⟨x,h1,h2⟩:=ziy.1 hb
  obtain⟨c,k1,_,k3⟩:=zH4 h1
  have hsub:∀ e∈hF w (i:Int),e∈(We w).map edR:=λ e he=>by
   obtain⟨y,hy,rfl⟩:=dqz.1 he
   exact dqz.2 ⟨edS y,List.mem_map_of_mem (List.mem_filter.1 hy).1,rfl⟩
  have:=zH0 h i c (zK8 hsub k1)
  omega
theorem zAK {w:web}(hn:NetOk w.Net) (h:zfj (We w)):∀ (m u:Nat),zpK w m u=none:=by
 intro m
 induction m with
 | zero=>intro u;rfl
 | succ m ih =>
  intro u
  have e:zci w u w.Net.Nodes.toNat 0 none=none:=zhg.2 λ j _ _=>zId hn h u j
  show (match zci w u w.Net.Nodes.toNat 0 none with | some L=>some L | none=>zpK w m (u+1))=none
  rw[e];exact ih (u+1)
theorem zAL (w : web) {N : Nat} (hN : N ≤ 40) (S5 : Int → Bool → Sl step → Int → Sl (Sl Tab) → Sl step) (P5 : Int → Bool → Sl step → Int → Sl (Sl Tab) → Bool) (S6 : PS7) (P6 : Int → Bool → Sl step → Int → Int → Sl Tab → Int → Int → Int → Sl (Sl Tab) → Sl step → Bool) (v4 : Sl (Sl Tab)) (u : Int) (bb : Bool) (best : Sl step) (t i : Int) (h : Sl Tab) (at_ len : Int) (k : Nat) (hk : k < h.len) (d : zcA) {B : Int} (hB : B ≤ 90000000000) (hd : Rh N (h.get k) d B) (hl0 : -90000000000 ≤ len) (hl1 : len ≤ 90000000000) (v21 : Sl (Sl Tab)) (now : Sl step) (hnow : now.len ≤ 1000) :
  ∀ (l:List step),(∀ y∈l,StOk y N)->∀ y,l.find? (gB i d at_ len)=some y ->
   zbQ S5 S6 w v4 l u bb best t i h at_ len (k:Int) v21 now=S6 u bb best t i h y.to (len+y.length) (w64 ((k:Int) - (1:Int))) v21 (⟨(now.len+1),(zdb now.len now.get (λ _=>y))⟩:Sl step) /\
   zbR P5 P6 w v4 l u bb best t i h at_ len (k:Int) v21 now=P6 u bb best t i h y.to (len+y.length) (w64 ((k:Int) - (1:Int))) v21 (⟨(now.len+1),(zdb now.len now.get (λ _=>y))⟩:Sl step):=by
 intro l
 induction l with
 | nil=>intro _ y hf;cases hf
 | cons y l ih =>
  intro hl z hf
  have hy:=hl y (dqj ..)
  have f0:=hy.f0;have f1:=hy.f1;have t0:=hy.t0;have t1:=hy.t1;have l0:=hy.l0;have l1:=hy.l1
  obtain⟨⟨d1,d2⟩,d3⟩:=hd y.to.toNat (by omega)
  have e1:0+y.to.toNat * 2+0=y.to.toNat * 2:=by omega
  have hS:zbQ S5 S6 w v4 (y :: l) u bb best t i h at_ len (k:Int) v21 now=cond (y.from_ == at_) (cond (decide (i≤y.to)) (cond (!(nvr (tg 80 (h.get ((k:Int)).toNat) (0+y.to.toNat * 2+0)) (tg 80 (h.get ((k:Int)).toNat) (0+y.to.toNat * 2+0+1)))) (cond (decide (w64 (w64 (len+y.length)+tg 80 (h.get ((k:Int)).toNat) (0+y.to.toNat * 2+0)) < (0:Int))) (S6 u bb best t i h y.to (w64 (len+y.length)) (w64 ((k:Int) - (1:Int))) v21 (⟨(now.len+1),(zdb now.len now.get (λ _=>y))⟩:Sl step)) (zbQ S5 S6 w v4 l u bb best t i h at_ len (k:Int) v21 now)) (zbQ S5 S6 w v4 l u bb best t i h at_ len (k:Int) v21 now)) (zbQ S5 S6 w v4 l u bb best t i h at_ len (k:Int) v21 now)) (zbQ S5 S6 w v4 l u bb best t i h at_ len (k:Int) v21 now):=by
   show znR S5 S6 w v4 y (zbQ S5 S6 w v4 l) u bb best t i h at_ len (k:Int) v21 now=_
   generalize zbQ S5 S6 w v4 l=S
   rfl
  have hP:zbR P5 P6 w v4 (y :: l) u bb best t i h at_ len (k:Int) v21 now=cond (y.from_ == at_) (cond (decide (i≤y.to)) (decide (0≤(k:Int)/\(k:Int) < (h.len:Int)) && (decide (0≤y.to/\y.to < (40:Int)) && cond (!(nvr (tg 80 (h.get ((k:Int)).toNat) (0+y.to.toNat * 2+0)) (tg 80 (h.get ((k:Int)).toNat) (0+y.to.toNat * 2+0+1)))) (decide (0≤(k:Int)/\(k:Int) < (h.len:Int)) && (decide (0≤y.to/\y.to < (40:Int)) && cond (decide (w64 (w64 (len+y.length)+tg 80 (h.get ((k:Int)).toNat) (0+y.to.toNat * 2+0)) < (0:Int))) (decide ((now.len+1) * 40≤140737488355328/\now.len+1≤9223372036854775807) && P6 u bb best t i h y.to (w64 (len+y.length)) (w64 ((k:Int) - (1:Int))) v21 (⟨(now.len+1),(zdb now.len now.get (λ _=>y))⟩:Sl step)) (zbR P5 P6 w v4 l u bb best t i h at_ len (k:Int) v21 now))) (zbR P5 P6 w v4 l u bb best t i h at_ len (k:Int) v21 now))) (zbR P5 P6 w v4 l u bb best t i h at_ len (k:Int) v21 now)) (zbR P5 P6 w v4 l u bb best t i h at_ len (k:Int) v21 now):=by
   show znS P5 P6 w v4 y (zbR P5 P6 w v4 l) u bb best t i h at_ len (k:Int) v21 now=_
   generalize zbR P5 P6 w v4 l=S
   rfl
  rw[dqN,e1,zhj (by omega),zhj (by omega),zAC hd (by omega) (show y.to.toNat < N by omega),za9 (x:=len+y.length) (by omega) (by omega)] at hS hP
  rw[dqT (show 0≤(k:Int)/\(k:Int) < (h.len:Int) by omega),dqT (show 0≤y.to/\y.to < (40:Int) by omega),dqT (show (now.len+1) * 40≤140737488355328/\now.len+1≤9223372036854775807 by omega)] at hP
  simp only[Bool.true_and] at hP
  have next : ¬ (y.from_=at_/\i≤y.to/\∃ x,d y.to.toNat=some x/\len+y.length+x < 0) ->
    zbQ S5 S6 w v4 (y :: l) u bb best t i h at_ len (k:Int) v21 now=zbQ S5 S6 w v4 l u bb best t i h at_ len (k:Int) v21 now->zbR P5 P6 w v4 (y :: l) u bb best t i h at_ len (k:Int) v21 now=zbR P5 P6 w v4 l u bb best t i h at_ len (k:Int) v21 now ->
   zbQ S5 S6 w v4 (y :: l) u bb best t i h at_ len (k:Int) v21 now=S6 u bb best t i h z.to (len+z.length) (w64 ((k:Int) - (1:Int))) v21 (⟨(now.len+1),(zdb now.len now.get (λ _=>z))⟩:Sl step) /\
   zbR P5 P6 w v4 (y :: l) u bb best t i h at_ len (k:Int) v21 now=P6 u bb best t i h z.to (len+z.length) (w64 ((k:Int) - (1:Int))) v21 (⟨(now.len+1),(zdb now.len now.get (λ _=>z))⟩:Sl step):=λ hno hs hp=>by
   rw[List.find?_cons_of_neg (λ h=>hno (zhu.1 h))] at hf
   obtain⟨a3,a4⟩:=ih (λ q hq=>hl q (dqf _ hq)) z hf
   exact⟨hs.trans a3,hp.trans a4⟩
  by_cases c1:y.from_=at_
  ·rw [show (y.from_ == at_) = true from beq_iff_eq.2 c1] at hS hP
   by_cases c2:i≤y.to
   ·rw [dqT c2] at hS hP
    cases hdu:d y.to.toNat with
    | none =>
     rw[hdu] at hS hP
     exact next (λ ⟨_,_,x,hx,_⟩=>by rw[hdu] at hx;cases hx) hS hP
    | some x =>
     have hbx:=d3 x hdu
     rw[hdu] at hS hP d1
     have d1':h.get k (y.to.toNat * 2)=x:=d1
     rw[d1',za9 (x:=len+y.length+x) (by omega) (by omega)] at hS hP
     by_cases c3:len+y.length+x < 0
     ·rw [dqT c3] at hS hP
      rw[List.find?_cons_of_pos (zhu.2 ⟨c1,c2,x,hdu,c3⟩)] at hf
      cases hf
      exact⟨hS,hP⟩
     ·rw [dqF c3] at hS hP
      exact next (λ ⟨_,_,x',hx',hx''⟩=>by rw[hdu] at hx';cases hx';exact c3 hx'') hS hP
   ·rw [dqF c2] at hS hP
    exact next (λ hh=>c2 hh.2.1) hS hP
  ·rw [show (y.from_ == at_) = false from beq_eq_false_iff_ne.2 c1] at hS hP
   exact next (λ hh=>c1 hh.1) hS hP
theorem walk' (w : web) (hn : NetOk w.Net) (hs : Sl (Sl Tab)) (hh : HsOk w hs) (S5 : Int → Bool → Sl step → Int → Sl (Sl Tab) → Sl step) (P5 : Int → Bool → Sl step → Int → Sl (Sl Tab) → Bool) (v4 : Sl (Sl Tab)) (u : Int) (bb : Bool) (best : Sl step) (t : Int) (i : Nat) (hi : i < w.Net.Nodes.toNat) (v21 : Sl (Sl Tab)) :
  ∀ (m fu:Nat) (a len:Int) (now:Sl step) (L:List step),m < fu->(0≤a/\a < w.Net.Nodes)->L.length+m≤40->m≤w.Net.Nodes.toNat->-1000000000 * (L.length:Int)≤len->len≤1000000000 * (L.length:Int) ->
   (∃ x,hops (hF w (i:Int)) i m a.toNat=some x/\len+x < 0)->IsS now L ->
   ∃ now',zek S5 w v4 fu u bb best t (i:Int) (hs.get i) a len ((m:Int) - 1) v21 now=zM6 S5 w v4 u bb best t v21 now'/\zel P5 w v4 fu u bb best t (i:Int) (hs.get i) a len ((m:Int) - 1) v21 now=zM7 P5 w v4 u bb best t v21 now' /\
    IsS now' (L ++ zcJ w i m a len):=by
 have hn40:=hn.n40;have hlen:=hn.len
 obtain⟨q1,q2⟩:=zor w (by omega)
 obtain⟨hl1,hat⟩:=hh.at_ i hi
 intro m
 induction m with
 | zero =>
  intro fu a len now L hf ha hL hm hl0 hl1' hx hnow
  obtain⟨fu,rfl⟩:∃ k',fu=k'+1:=⟨fu - 1,by omega⟩
  obtain⟨x,hx1,hx2⟩:=hx
  have hx1':zuC i a.toNat=some x:=hx1
  unfold zuC at hx1'
  have hai:a.toNat=i:=by
   by_cases hq:a.toNat=i
   ·exact hq
   ·rw[dqG hq] at hx1';cases hx1'
  rw[dqP hai] at hx1'
  have hx0:(0:Int)=x:=Option.some.inj hx1'
  have hae:a=(i:Int):=by omega
  subst hae
  refine⟨now,?_,?_,by show IsS now (L ++ []);rw[List.append_nil];exact hnow⟩
  ·show ze0 S5 w v4 (zek S5 w v4 fu) u bb best t (i : Int) (hs.get i) (i : Int) len (((0 : Nat) : Int) - 1) v21 now = _
   unfold ze0
   rw[dqF (show ¬ ((0:Nat):Int) - 1 ≥ 0 by omega),dqB];rfl
  ·show ze1 P5 w v4 (zel P5 w v4 fu) u bb best t (i : Int) (hs.get i) (i : Int) len (((0 : Nat) : Int) - 1) v21 now = _
   unfold ze1
   rw[dqF (show ¬ ((0:Nat):Int) - 1 ≥ 0 by omega),dqB];rfl
 | succ m ih =>
  intro fu a len now L hf ha hL hm hl0 hl1' hx hnow
  obtain⟨fu,rfl⟩:∃ k',fu=k'+1:=⟨fu - 1,by omega⟩
  obtain⟨x,hx1,hx2⟩:=hx
  obtain⟨y,hy,hy1,hy2,hy3,z,hz1,hz2⟩:=zko hn (show hop (hF w (i:Int)) (hops (hF w (i:Int)) i m) a.toNat=some x from hx1)
  have hyo:=zpI hn hy
  have f0:=hyo.f0
  have hya:y.from_=a:=by omega
  have hnl:=hnow.1
  have hg:gB (i:Int) (hops (hF w (i:Int)) i m) a len y=true:=zhu.2 ⟨hya,hy2,z,hz1,by omega⟩
  obtain⟨y',hf'⟩:∃ y',(Ws w).find? (gB (i:Int) (hops (hF w (i:Int)) i m) a len)=some y':=by
   cases hf:(Ws w).find? (gB (i:Int) (hops (hF w (i:Int)) i m) a len) with
   | none=>exact absurd hg (List.find?_eq_none.1 hf y hy)
   | some y'=>exact⟨y',rfl⟩
  have b1:=List.mem_of_find?_eq_some hf'
  obtain⟨b2,b3,x',b4,b5⟩:=zhu.1 (List.find?_some hf')
  obtain⟨b6,b7⟩:=zAL w (N:=w.Net.Nodes.toNat) (by omega) S5 P5 (zek S5 w v4 fu) (zel P5 w v4 fu) v4 u bb best t (i:Int) (hs.get i) a len m (by omega) (hops (hF w (i:Int)) i m) (B:=m * 1000000000) (by omega) (hat m (by omega)) (by omega) (by omega) v21 now (by omega) (Ws w) (λ y hy=>zpI hn hy) y' hf'
  have hyo':=zpI hn b1
  have t0:=hyo'.t0;have t1:=hyo'.t1;have l0:=hyo'.l0;have l1:=hyo'.l1
  have hw:w64 ((m:Int) - (1:Int))=(m:Int) - 1:=za9 (by omega) (by omega)
  rw[hw] at b6 b7
  obtain⟨now',c1,c2,c3⟩:=ih fu y'.to (len+y'.length) (⟨(now.len+1),(zdb now.len now.get (λ _=>y'))⟩:Sl step) (L ++ [y']) (by omega) ⟨t0,by omega⟩ (by simp only[dqu,dqr,List.length_nil];omega) (by omega) (by simp only[dqu,dqr,List.length_nil];omega) (by simp only[dqu,dqr,List.length_nil];omega) ⟨x',b4,b5⟩ (zAI hnow y')
  have eW:zcJ w i (m+1) a len=y' :: zcJ w i m y'.to (len+y'.length):=by
   show (match (Ws w).find? (gB (i:Int) (hops (hF w (i:Int)) i m) a len) with | some y=>y :: zcJ w i m y.to (len+y.length) | none=>[])=_
   rw[hf']
  refine⟨now',?_,?_,by rw[eW];rw[List.append_assoc] at c3;exact c3⟩
  ·rw [← c1, ← b6]
   show ze0 S5 w v4 (zek S5 w v4 fu) u bb best t (i:Int) (hs.get i) a len (((m+1:Nat):Int) - 1) v21 now=_
   rw[show ((m+1:Nat):Int) - 1=(m:Int) by omega]
   unfold ze0 znT
   rw[dqT (show (m:Int) ≥ 0 by omega),dqA,q2]
  ·rw [← c2, ← b7]
   show ze1 P5 w v4 (zel P5 w v4 fu) u bb best t (i:Int) (hs.get i) a len (((m+1:Nat):Int) - 1) v21 now=_
   rw[show ((m+1:Nat):Int) - 1=(m:Int) by omega]
   unfold ze1 znU
   rw[dqT (show (m:Int) ≥ 0 by omega),dqA,q1,q2];rfl
def Rb (u:Nat) (bb:Bool) (best:Sl step) (b:Option (List step)):Prop:=(bb=true/\b=none)∨(bb=false/\∃ L,b=some L/\IsS best L/\L.length=u)
theorem zlS {w:web}{hs:Sl (Sl Tab)}(hh:HsOk w hs){u i:Nat}(hu:u≤w.Net.Nodes.toNat) (hi:i < w.Net.Nodes.toNat):neg hs u i↔ziz w u i=true:=by
 obtain⟨⟨g1,_⟩,_⟩:=(hh.at_ i hi).2 u hu i hi
 unfold neg
 rw[g1,ziy]
 cases hops (hF w (i:Int)) i u i with
 | none=>exact⟨λ h=>absurd h (by show ¬ (1000000000000:Int) < 0;omega),λ ⟨x,h,_⟩=>by cases h⟩
 | some x=>exact⟨λ h=>⟨x,rfl,h⟩,λ ⟨x',h,h'⟩=>by cases h;exact h'⟩
theorem zuw (w:web) (hn:NetOk w.Net) (hs:Sl (Sl Tab)) (hh:HsOk w hs) (u:Nat) (hu1:1≤u) (hu:u≤w.Net.Nodes.toNat):∀ (m k i:Nat) (bb:Bool) (best:Sl step) (b:Option (List step)),i+m=w.Net.Nodes.toNat->m < k->Rb u bb best b ->
  zen w hs k (u:Int) bb best (i:Int) hs=true/\∀ L,zci w u m i b=some L->IsS (zem w hs k (u:Int) bb best (i:Int) hs) L/\L.length=u:=by
 have hn40:=hn.n40
 have hhl:=hh.len
 intro m
 induction m with
 | zero =>
  intro k i bb best b hi hk hb
  obtain⟨k,rfl⟩:∃ k',k=k'+1:=⟨k - 1,by omega⟩
  have e1:zen w hs (k+1) (u:Int) bb best (i:Int) hs=true:=by
   show ziX w hs (zen w hs k) (u:Int) bb best (i:Int) hs=true
   unfold ziX
   rw[dqF (show ¬ (i:Int) < (hs.len:Int) by omega),dqB]
  have e2:zem w hs (k+1) (u:Int) bb best (i:Int) hs=best:=by
   show ziW w hs (zem w hs k) (u:Int) bb best (i:Int) hs=best
   unfold ziW
   rw[dqF (show ¬ (i:Int) < (hs.len:Int) by omega),dqB]
  refine⟨e1,λ L h=>?_⟩
  rw[e2]
  have h':b=some L:=h
  rcases hb with hb | ⟨_,L',h1,h2⟩
  ·rw[hb.2] at h';cases h'
  ·rw[h1] at h';cases h';exact h2
 | succ m ih =>
  intro k i bb best b hi hk hb
  obtain⟨k,rfl⟩:∃ k',k=k'+1:=⟨k - 1,by omega⟩
  have hw:w64 ((i:Int)+(1:Int))=((i+1:Nat):Int):=by rw[za9 (by omega) (by omega)];omega
  have hwu:w64 ((u:Int) - (1:Int))=(u:Int) - 1:=za9 (by omega) (by omega)
  obtain⟨hl1,hat⟩:=hh.at_ i (by omega)
  have eL:tL ((hs.get i).get u) (i:Int)=((hs.get i).get u) (i * 2):=by
   show tg 80 _ (0+((i:Int)).toNat * 2+0)=_
   rw[dqN,show 0+i * 2+0=i * 2 by omega,zhj (by omega)]
  have hS:zem w hs (k+1) (u:Int) bb best (i:Int) hs=cond (decide (((hs.get i).get u) (i * 2) ≥ 0)) (zem w hs k (u:Int) bb best ((i+1:Nat):Int) hs) (zqO (zem w hs k) w hs (u:Int) bb best (i:Int) (i:Int) (hs.get i) (i:Int) (0:Int) ((u:Int) - 1) hs (⟨0,(λ _=>default)⟩:Sl step)):=by
   rw[← hw,← eL,← hwu]
   show ziW w hs (zem w hs k) (u:Int) bb best (i:Int) hs=_
   unfold ziW
   rw[dqT (show (i:Int) < (hs.len:Int) by omega),dqA,dqN,dqN]
  have hP:zen w hs (k+1) (u:Int) bb best (i:Int) hs=cond (decide (((hs.get i).get u) (i * 2) ≥ 0)) (zen w hs k (u:Int) bb best ((i+1:Nat):Int) hs) (zqP (zen w hs k) w hs (u:Int) bb best (i:Int) (i:Int) (hs.get i) (i:Int) (0:Int) ((u:Int) - 1) hs (⟨0,(λ _=>default)⟩:Sl step)):=by
   rw[← hw,← eL,← hwu]
   show ziX w hs (zen w hs k) (u:Int) bb best (i:Int) hs=_
   unfold ziX
   rw[dqT (show (i:Int) < (hs.len:Int) by omega),dqA,dqN,dqN,dqT (show 0≤(i:Int)/\(i:Int) < (hs.len:Int) by omega),dqT (show i < hs.len by omega),dqT (show 0≤(u:Int)/\(u:Int) < ((hs.get i).len:Int) by omega),dqT (show 0≤(i:Int)/\(i:Int) < (40:Int) by omega)];rfl
  by_cases hneg:((hs.get i).get u) (i * 2) ≥ 0
  ·rw [dqT hneg, dqA] at hS hP
   have hnb:ziz w u i=false:=by
    cases hq:ziz w u i with
    | false=>rfl
    | true=>exact absurd ((zlS hh hu (by omega)).2 hq) (Int.not_lt.2 hneg)
   have e:zci w u (m+1) i b=zci w u m (i+1) b:=by
    show zci w u m (i+1) (cond (ziz w u i) _ b)=_
    rw[hnb];rfl
   rw[hS,hP,e]
   exact ih k (i+1) bb best b (by omega) (by omega) hb
  ·rw [dqF hneg, dqB] at hS hP
   have hnb:ziz w u i=true:=(zlS hh hu (by omega)).1 (Int.not_le.1 hneg)
   obtain⟨x,hx1,hx2⟩:=ziy.1 hnb
   obtain⟨now,c1,c2,c3⟩:=walk' w hn hs hh (zem w hs k) (zen w hs k) hs (u:Int) bb best (i:Int) i (by omega) hs u Fuel (i:Int) 0 (⟨0,(λ _=>default)⟩:Sl step) [] (by simp only[Fuel];omega) ⟨by omega,by omega⟩ (by show 0+u≤40;omega) hu (by show -1000000000 * ((0:Nat):Int)≤0;omega) (by show (0:Int)≤1000000000 * ((0:Nat):Int);omega) ⟨x,by rw[dqN];exact hx1,by omega⟩ ⟨rfl,λ q hq=>absurd hq (Nat.not_lt_zero _)⟩
   have c3':IsS now (zcJ w i u (i:Int) 0):=c3
   have hwl:=zpL hn (u:=u) (show i < w.Net.Nodes.toNat by omega) hnb
   generalize hW:zcJ w i u (i:Int) 0=X at *
   have hnl:=c3'.1
   have e1:zci w u (m+1) i none=zci w u m (i+1) (some X):=by
    show zci w u m (i+1) (cond (ziz w u i) (some (zcJ w i u (i:Int) 0)) none)=_
    rw[hnb,dqA,hW]
   have e2:∀ L0,zci w u (m+1) i (some L0)=zci w u m (i+1) (cond (ltU X L0) (some X) (some L0)):=λ L0=>by
    show zci w u m (i+1) (cond (ziz w u i) (cond (ltU (zcJ w i u (i:Int) 0) L0) (some (zcJ w i u (i:Int) 0)) (some L0)) (some L0))=_
    rw[hnb,dqA,hW]
   rw[hS,hP]
   show zel (zen w hs k) w hs Fuel (u:Int) bb best (i:Int) (i:Int) (hs.get i) (i:Int) (0:Int) ((u:Int) - 1) hs (⟨0,(λ _=>default)⟩:Sl step)=true/\∀ L,_->IsS (zek (zem w hs k) w hs Fuel (u:Int) bb best (i:Int) (i:Int) (hs.get i) (i:Int) (0:Int) ((u:Int) - 1) hs (⟨0,(λ _=>default)⟩:Sl step)) L/\L.length=u
   rw[c1,c2]
   unfold zM6 zM7 ziU ziV
   rw[hw]
   have k0:=ih k (i+1) false now (some X) (by omega) (by omega) (.inr ⟨rfl,X,rfl,c3',hwl⟩)
   rcases hb with ⟨rfl,rfl⟩ | ⟨rfl,L0,rfl,h2,h3⟩
   ·rw [dqT (show (true = true ∨ best.len ≠ 0) from .inl rfl)]
    simp only[dqA,Bool.true_and]
    rw[e1]
    exact k0
   ·have hbl := h2.1
    rw[dqT (show (false=true∨best.len ≠ 0) from .inr (by omega)),zAH now best (by omega),zIc now best c3' h2 (by omega) (by omega)]
    simp only[dqB,Bool.true_and,decide_true]
    rw[e2]
    cases hlt:ltU X L0
    ·simp only[dqB];exact ih k (i+1) false best (some L0) (by omega) (by omega) (.inr ⟨rfl,L0,rfl,h2,h3⟩)
    ·simp only[dqA];exact k0
theorem zAM (w:web) (hn:NetOk w.Net) (hs:Sl (Sl Tab)) (hh:HsOk w hs) (u:Nat) (hu1:1≤u) (hu:u≤w.Net.Nodes.toNat):zhK w (u:Int) hs=true/\∀ L,zci w u w.Net.Nodes.toNat 0 none=some L->IsS (zhJ w (u:Int) hs) L/\L.length=u :=
 zuw w hn hs hh u hu1 hu w.Net.Nodes.toNat Fuel 0 true (⟨0,(λ _=>default)⟩:Sl step) none (by omega) (by have:=hn.n40;simp only[Fuel];omega) (.inl ⟨rfl,rfl⟩)
theorem zux (w:web) (hn:NetOk w.Net) (hs:Sl (Sl Tab)) (hh:HsOk w hs) (S2:Int->Sl step) (P2:Int->Bool) (u:Nat) (hu1:1≤u) (hu:u≤w.Net.Nodes.toNat):∀ (m k i:Nat),i+m=w.Net.Nodes.toNat->m < k ->
  ((∃ j,i≤j/\j < w.Net.Nodes.toNat/\neg hs u j)/\zfJ P2 w hs k (u:Int) (i:Int)=zhK w (u:Int) hs/\zfI S2 w hs k (u:Int) (i:Int)=zhJ w (u:Int) hs) ∨
  ((¬ ∃ j,i≤j/\j < w.Net.Nodes.toNat/\neg hs u j)/\zfJ P2 w hs k (u:Int) (i:Int)=P2 (w64 ((u:Int)+(1:Int)))/\zfI S2 w hs k (u:Int) (i:Int)=S2 (w64 ((u:Int)+(1:Int)))):=by
 have hn40:=hn.n40
 have hhl:=hh.len
 intro m
 induction m with
 | zero =>
  intro k i hi hk
  obtain⟨k,rfl⟩:∃ k',k=k'+1:=⟨k - 1,by omega⟩
  refine .inr ⟨λ ⟨j,h1,h2,_⟩=>by omega,?_,?_⟩
  ·show ziZ P2 w hs (zfJ P2 w hs k) (u : Int) (i : Int) = _
   unfold ziZ
   rw[dqF (show ¬ (i:Int) < (hs.len:Int) by omega),dqB]
  ·show ziY S2 w hs (zfI S2 w hs k) (u : Int) (i : Int) = _
   unfold ziY
   rw[dqF (show ¬ (i:Int) < (hs.len:Int) by omega),dqB]
 | succ m ih =>
  intro k i hi hk
  obtain⟨k,rfl⟩:∃ k',k=k'+1:=⟨k - 1,by omega⟩
  have hw:w64 ((i:Int)+(1:Int))=((i+1:Nat):Int):=by rw[za9 (by omega) (by omega)];omega
  obtain⟨hl1,hat⟩:=hh.at_ i (by omega)
  have eL:tL ((hs.get i).get u) (i:Int)=((hs.get i).get u) (i * 2):=by
   show tg 80 _ (0+((i:Int)).toNat * 2+0)=_
   rw[dqN,show 0+i * 2+0=i * 2 by omega,zhj (by omega)]
  have hS:zfI S2 w hs (k+1) (u:Int) (i:Int)=cond (decide (((hs.get i).get u) (i * 2) < 0)) (zhJ w (u:Int) hs) (zfI S2 w hs k (u:Int) ((i+1:Nat):Int)):=by
   rw[← hw,← eL]
   show ziY S2 w hs (zfI S2 w hs k) (u:Int) (i:Int)=_
   unfold ziY
   rw[dqT (show (i:Int) < (hs.len:Int) by omega),dqA,dqN,dqN]
  have hP:zfJ P2 w hs (k+1) (u:Int) (i:Int)=cond (decide (((hs.get i).get u) (i * 2) < 0)) (zhK w (u:Int) hs) (zfJ P2 w hs k (u:Int) ((i+1:Nat):Int)):=by
   rw[← hw,← eL]
   show ziZ P2 w hs (zfJ P2 w hs k) (u:Int) (i:Int)=_
   unfold ziZ
   rw[dqT (show (i:Int) < (hs.len:Int) by omega),dqA,dqN,dqN,dqT (show 0≤(i:Int)/\(i:Int) < (hs.len:Int) by omega),dqT (show i < hs.len by omega),dqT (show 0≤(u:Int)/\(u:Int) < ((hs.get i).len:Int) by omega),dqT (show 0≤(i:Int)/\(i:Int) < (40:Int) by omega)];rfl
  rw[hS,hP]
  by_cases hneg:((hs.get i).get u) (i * 2) < 0
  ·rw [dqT hneg, dqA, dqA]
   exact .inl ⟨⟨i,dqt _,by omega,hneg⟩,rfl,rfl⟩
  ·rw [dqF hneg, dqB, dqB]
   rcases ih k (i+1) (by omega) (by omega) with ⟨⟨j,h1,h2,h3⟩,h⟩ | ⟨h1,h2,h3⟩
   ·exact .inl ⟨⟨j,by omega,h2,h3⟩,h⟩
   ·refine .inr ⟨fun ⟨j, g1, g2, g3⟩ => h1 ?_, h2, h3⟩
    by_cases hji:j=i
    ·subst hji;exact absurd g3 hneg
    ·exact⟨j,by omega,g2,g3⟩
theorem zsu (w:web) (hn:NetOk w.Net) (hs:Sl (Sl Tab)) (hh:HsOk w hs):∀ (m k u:Nat),u+m=w.Net.Nodes.toNat->1≤u->m < k->∀ L,zpK w (m+1) u=some L ->
  ze3 w hs k (u:Int)=true/\IsS (ze2 w hs k (u:Int)) L/\1≤L.length/\L.length≤w.Net.Nodes.toNat:=by
 have hn40:=hn.n40
 intro m
 induction m with
 | zero =>
  intro k u hu h1 hk L hL
  obtain⟨k,rfl⟩:∃ k',k=k'+1:=⟨k - 1,by omega⟩
  have hb:zci w u w.Net.Nodes.toNat 0 none=some L:=by
   have hL':(match zci w u w.Net.Nodes.toNat 0 none with | some L=>some L | none=>zpK w 0 (u+1))=some L:=hL
   cases hq:zci w u w.Net.Nodes.toNat 0 none with
   | none=>rw[hq] at hL';cases hL'
   | some L2=>rw[hq] at hL';exact hL'
  obtain⟨a,b⟩:=zAM w hn hs hh u h1 (by omega)
  obtain⟨b1,b2⟩:=b L hb
  have e1:ze3 w hs (k+1) (u:Int)=zhK w (u:Int) hs:=by
   show zi1 w hs (ze3 w hs k) (u:Int)=_
   unfold zi1
   rw[dqF (show ¬ (u:Int) < w.Net.Nodes by omega),dqB]
  have e2:ze2 w hs (k+1) (u:Int)=zhJ w (u:Int) hs:=by
   show zi0 w hs (ze2 w hs k) (u:Int)=_
   unfold zi0
   rw[dqF (show ¬ (u:Int) < w.Net.Nodes by omega),dqB]
  rw[e1,e2]
  exact⟨a,b1,by omega,by omega⟩
 | succ m ih =>
  intro k u hu h1 hk L hL
  obtain⟨k,rfl⟩:∃ k',k=k'+1:=⟨k - 1,by omega⟩
  have hw:w64 ((u:Int)+(1:Int))=((u+1:Nat):Int):=by rw[za9 (by omega) (by omega)];omega
  have e1:ze3 w hs (k+1) (u:Int)=zfJ (ze3 w hs k) w hs Fuel (u:Int) ((0:Nat):Int):=by
   show zi1 w hs (ze3 w hs k) (u:Int)=_
   unfold zi1
   rw[dqT (show (u:Int) < w.Net.Nodes by omega),dqA];rfl
  have e2:ze2 w hs (k+1) (u:Int)=zfI (ze2 w hs k) w hs Fuel (u:Int) ((0:Nat):Int):=by
   show zi0 w hs (ze2 w hs k) (u:Int)=_
   unfold zi0
   rw[dqT (show (u:Int) < w.Net.Nodes by omega),dqA];rfl
  rw[e1,e2]
  have hL':(match zci w u w.Net.Nodes.toNat 0 none with | some L=>some L | none=>zpK w (m+1) (u+1))=some L:=hL
  rcases zux w hn hs hh (ze2 w hs k) (ze3 w hs k) u h1 (by omega) w.Net.Nodes.toNat Fuel 0 (by omega) (by simp only[Fuel];omega) with ⟨⟨j,_,g0,g1⟩,g2,g3⟩ | ⟨g1,g2,g3⟩
  ·rw [g2, g3]
   obtain⟨a,b⟩:=zAM w hn hs hh u h1 (by omega)
   cases hq:zci w u w.Net.Nodes.toNat 0 none with
   | none =>
    have:=zhg.1 hq j (Nat.zero_le _) (by omega)
    rw[(zlS hh (by omega) g0).1 g1] at this;cases this
   | some L2 =>
    rw[hq] at hL'
    have:L2=L:=Option.some.inj hL'
    subst this
    obtain⟨b1,b2⟩:=b L2 hq
    exact⟨a,b1,by omega,by omega⟩
  ·have hq:zci w u w.Net.Nodes.toNat 0 none=none:=zhg.2 λ j _ hj=>by
    cases hb:ziz w u j with
    | false=>rfl
    | true=>exact absurd ⟨j,Nat.zero_le _,by omega,(zlS hh (by omega) (by omega)).2 hb⟩ g1
   rw[hq] at hL'
   rw[g2,g3,hw]
   exact ih k (u+1) (by omega) (by omega) (by omega) L hL'
theorem zAN {w:web} : ∀ {m u u' j:Nat},u≤u'->u' < u+m->j < w.Net.Nodes.toNat->ziz w u' j=true->∃ L,zpK w m u=some L:=by
 intro m
 induction m with
 | zero=>intro u u' j h1 h2;omega
 | succ m ih =>
  intro u u' j h1 h2 h3 h4
  show ∃ L,(match zci w u w.Net.Nodes.toNat 0 none with | some L=>some L | none=>zpK w m (u+1))=some L
  cases hq:zci w u w.Net.Nodes.toNat 0 none with
  | some L=>exact⟨L,rfl⟩
  | none =>
   have huu:u' ≠ u:=λ e=>by
    have:=zhg.1 hq j (Nat.zero_le _) (by omega)
    rw[← e,h4] at this;cases this
   exact ih (u:=u+1) (u':=u') (by omega) (by omega) h3 h4
theorem zIe (w:web) (hn:NetOk w.Net) (h : ¬ zfj (We w)):p89 w=true/\∃ L,zpK w w.Net.Nodes.toNat 1=some L/\IsS (s89 w) L/\1≤L.length/\L.length≤w.Net.Nodes.toNat:=by
  have hn1:=hn.n1;have hn40:=hn.n40
  have hNN:((w.Net.Nodes.toNat:Nat):Int)=w.Net.Nodes:=by omega
  have hm:=λ (i:Nat) (hi:i < w.Net.Nodes.toNat)=>zH6 w hn i hi w.Net.Nodes.toNat (by omega)
  rw[hNN] at hm
  have hl := zAm (step := stH w) (E := fun v => znW w v) (EP := fun v => znX w v) (Inv := fun _ (v : Sl (Sl Tab)) => v.len = w.Net.Nodes.toNat) (a := 0) (n := w.Net.Nodes.toNat) (lpS := fun k v i => zhL w k i v) (lpP := fun k v i => zhM w k i v)
    (λ k i v _ hi hv=>by
      show zi2 w (zhL w k) (i:Int) v=zhL w k (w64 ((i:Int)+(1:Int))) (stH w i v)
      generalize zhL w k=S
      unfold zi2 stH
      rw[dqT (show (i:Int) < (w.Net.Nodes.toNat:Int) by omega),dqA,dqN])
    (λ k v=>by
      show zi2 w (zhL w k) (w.Net.Nodes.toNat:Int) v=_
      unfold zi2
      rw[dqF (show ¬ (w.Net.Nodes.toNat:Int) < (w.Net.Nodes.toNat:Int) by omega),dqB])
    (λ k i v _ hi hv=>by
      show zi3 w (zhM w k) (i:Int) v=zhM w k (w64 ((i:Int)+(1:Int))) (stH w i v)
      generalize zhM w k=S
      have hv':v.len=w.Net.Nodes.toNat:=hv
      unfold zi3 stH
      rw[dqT (show (i:Int) < (w.Net.Nodes.toNat:Int) by omega),dqA,(hm i hi).1,dqN,dqT (show 0≤(i:Int)/\(i:Int) < (v.len:Int) by omega),dqT (show i < v.len by omega)];rfl)
    (λ k v=>by
      show zi3 w (zhM w k) (w.Net.Nodes.toNat:Int) v=_
      unfold zi3
      rw[dqF (show ¬ (w.Net.Nodes.toNat:Int) < (w.Net.Nodes.toNat:Int) by omega),dqB])
    (λ i v _ _ h=>h) (Nat.zero_le _) (by omega) (⟨w.Net.Nodes.toNat,(λ _=>(⟨0,λ _=>(λ _=>(0:Int))⟩:(Sl Tab)))⟩:Sl (Sl Tab)) rfl
  obtain⟨k1,k2⟩:=zLj w (w.Net.Nodes.toNat - 0) 0 (⟨w.Net.Nodes.toNat,(λ _=>(⟨0,λ _=>(λ _=>(0:Int))⟩:(Sl Tab)))⟩:Sl (Sl Tab)) (λ j hj=>absurd hj (Nat.not_lt_zero _))
  generalize hhs:zpG (stH w) (w.Net.Nodes.toNat - 0) 0 (⟨w.Net.Nodes.toNat,(λ _=>(⟨0,λ _=>(λ _=>(0:Int))⟩:(Sl Tab)))⟩:Sl (Sl Tab))=hs at *
  have hh:HsOk w hs:=⟨k1,λ i hi=>by rw[k2 i (by omega)];exact⟨(hm i hi).2.1,(hm i hi).2.2⟩⟩
  obtain⟨u,j,x1,x2,x3,x4⟩:=zLi hn hh h
  obtain⟨L,hL⟩:=zAN (w:=w) (m:=w.Net.Nodes.toNat) x1 (by omega) x3 ((zlS hh x2 x3).1 x4)
  obtain⟨r1,r2⟩:=zsu w hn hs hh (w.Net.Nodes.toNat - 1) Fuel 1 (by omega) (dqt _) (by simp only[Fuel];omega) L (by rw[show w.Net.Nodes.toNat - 1+1=w.Net.Nodes.toNat by omega];exact hL)
  have e2:s89 w=ze2 w hs Fuel ((1:Nat):Int):=by
    have e:s89 w=znW w hs:=hl.2
    rw[e];rfl
  have e1:znY w (0:Int) (⟨w.Net.Nodes.toNat,(λ _=>(⟨0,λ _=>(λ _=>(0:Int))⟩:(Sl Tab)))⟩:Sl (Sl Tab))=ze3 w hs Fuel ((1:Nat):Int):=by
    have e:znY w (0:Int) (⟨w.Net.Nodes.toNat,(λ _=>(⟨0,λ _=>(λ _=>(0:Int))⟩:(Sl Tab)))⟩:Sl (Sl Tab))=znX w hs:=hl.1
    rw[e];rfl
  refine⟨?_,L,hL,by rw[e2];exact r2⟩
  unfold p89
  rw[e1,r1,dqT (show 0≤w.Net.Nodes/\w.Net.Nodes=w.Net.Nodes/\w.Net.Nodes≤1000000 from ⟨by omega,rfl,by omega⟩)];rfl
end Go.Proofs
namespace Go.Proofs
open Go Go.Pm
set_option maxRecDepth 100000
set_option linter.unusedVariables false
attribute [local irreducible] Go.Pm.vcFun Go.Pm.vc Go.Pm.vcIter
end Go.Proofs
namespace Go.Proofs
open Go Go.Pm
set_option maxRecDepth 100000
set_option linter.unusedVariables false
theorem zLk (v:Sl step) (hv:v.len≤40):∀ (m k i:Nat) (c:Sl Use),i+m=v.len->m < k->c.len=i->(∀ q,q < i->c.get q=(v.get q).Use)->zlA v (v.len:Int) k (i:Int) c=true /\
  ∃ c',zlz v (v.len:Int) k (i:Int) c=(c',0)/\c'.len=v.len/\∀ q,q < v.len->c'.get q=(v.get q).Use:=by
 intro m
 induction m with
 | zero =>
  intro k i c hi hk hc hq
  obtain⟨k,rfl⟩:∃ k',k=k'+1:=⟨k - 1,by omega⟩
  constructor
  ·show zi5 v (v.len : Int) (zlA v (v.len : Int) k) (i : Int) c = true
   unfold zi5
   rw[dqF (show ¬ (i:Int) < (v.len:Int) by omega),dqB]
  ·refine ⟨c, ?_, by omega, fun q h => hq q (by omega)⟩
   show zi4 v (v.len:Int) (zlz v (v.len:Int) k) (i:Int) c=(c,0)
   unfold zi4
   rw[dqF (show ¬ (i:Int) < (v.len:Int) by omega),dqB]
 | succ m ih =>
  intro k i c hi hk hc hq
  obtain⟨k,rfl⟩:∃ k',k=k'+1:=⟨k - 1,by omega⟩
  obtain⟨h1,h2⟩:=ih k (i+1) (⟨c.len+1,zdb c.len c.get (λ _=>(v.get i).Use)⟩:Sl Use) (by omega) (by omega) (by show c.len+1=i+1;omega) (λ q h=>by
   show zdb c.len c.get (λ _=>(v.get i).Use) q=_
   rw[zos]
   by_cases hci:c.len≤q
   ·rw[dqP hci,show q=i by omega]
   ·rw[dqG hci];exact hq q (by omega))
  constructor
  ·show zi5 v (v.len : Int) (zlA v (v.len : Int) k) (i : Int) c = true
   unfold zi5
   rw[dqT (show (i:Int) < (v.len:Int) by omega),dqA,dqN,dqT (show 0≤(i:Int)/\(i:Int) < (v.len:Int) by omega),Bool.true_and,dqT (show (c.len+1) * 16≤140737488355328/\c.len+1≤9223372036854775807 by omega),Bool.true_and,zfQ (n:=v.len) (by omega) (by omega)]
   exact h1
  ·show ∃ c', zi4 v (v.len : Int) (zlz v (v.len : Int) k) (i : Int) c = (c', 0) ∧ _
   unfold zi4
   rw[dqT (show (i:Int) < (v.len:Int) by omega),dqA,dqN,zfQ (n:=v.len) (by omega) (by omega)]
   exact h2
theorem ztB {n:Net}{y:step}(hy:y∈Ws (W n)):zpJ n y.Use y.from_=some (y.to,y.length)/\0≤y.Use.Tie/\y.Use.Tie < n.Ties.len/\y.from_=cond y.Use.Back (n.Ties.get y.Use.Tie.toNat).To (n.Ties.get y.Use.Tie.toNat).From:=by
 obtain⟨j,_,h2,h3⟩:=zlQ.1 hy
 have h2':j < n.Ties.len:=by rw[Nat.zero_add] at h2;exact h2
 rcases (zlR.1 h3).2 with ⟨h4,rfl⟩ | ⟨h4,rfl⟩
 ·refine ⟨?_, by show 0 ≤ (j : Int); omega, by show (j : Int) < _; omega, rfl⟩
  show (if 0≤(j:Int)/\(j:Int) < n.Ties.len then (if (n.Ties.get ((j:Int)).toNat).High ≠ 1000000000000/\(n.Ties.get ((j:Int)).toNat).From=(n.Ties.get j).From then some ((n.Ties.get ((j:Int)).toNat).To,(n.Ties.get ((j:Int)).toNat).High) else none) else none)=_
  rw[dqP ⟨by omega,by omega⟩,dqN,dqP ⟨h4,rfl⟩];rfl
 ·refine ⟨?_, by show 0 ≤ (j : Int); omega, by show (j : Int) < _; omega, rfl⟩
  show (if 0≤(j:Int)/\(j:Int) < n.Ties.len then (if (n.Ties.get ((j:Int)).toNat).Low ≠ -1000000000000/\(n.Ties.get ((j:Int)).toNat).To=(n.Ties.get j).To then some ((n.Ties.get ((j:Int)).toNat).From,w64 (0 - (n.Ties.get ((j:Int)).toNat).Low)) else none) else none)=_
  rw[dqP ⟨by omega,by omega⟩,dqN,dqP ⟨h4,rfl⟩];rfl
theorem zLl {n:Net}(hn:NetOk n) (hs:s67 n=true) (a:Int) (c:Sl Use):p50 n a c=true/\s50 n a c=((pv n a c).2.2 && (((pv n a c).1 == a) && decide ((pv n a c).2.1 < 0))):=by
 obtain⟨b1,b2⟩:=zD8 hn hs a c
 unfold p50 s50
 rw[b1,b2]
 generalize pv n a c=p
 obtain⟨x,l,t⟩:=p
 refine⟨rfl,?_⟩
 cases t
 ·rfl
 ·show cond (x == a) (decide (l < 0)) false = (true && ((x == a) && decide (l < 0)))
  cases (x == a) <;> rfl
end Go.Proofs
namespace Go.Proofs
open Go Go.Pm
set_option maxRecDepth 100000
set_option linter.unusedVariables false
def IsU (v:Sl Use) (L:List step):Prop:=v.len=L.length/\∀ q (h:q < L.length),v.get q=(L[q]).Use
theorem zIf {v:Sl Use}{L:List step}(h:IsU v L) (y:step):IsU ⟨v.len+1,zdb v.len v.get (λ _=>y.Use)⟩ (L ++ [y]):=by
 refine⟨by show v.len+1=_;rw[dqu,h.1];rfl,λ k hk=>?_⟩
 show zdb v.len v.get (λ _=>y.Use) k=_
 rw[zos]
 rw[dqu] at hk
 have h1:=h.1
 by_cases hv:v.len≤k
 ·rw [dqP hv]
  have:k=L.length:=by simp only[dqr,List.length_nil] at hk;omega
  subst this
  simp
 ·rw [dqG hv, h.2 k (by omega)]
  rw[List.getElem_append_left (by omega)]
theorem zAO (w:web) (i:Nat):∀ (m:Nat) (a len:Int),∀ y∈zcJ w i m a len,y∈Ws w:=by
 intro m
 induction m with
 | zero=>intro a len y hy;cases hy
 | succ m ih =>
  intro a len y hy
  have e:zcJ w i (m+1) a len=(match (Ws w).find? (gB (i:Int) (hops (hF w (i:Int)) i m) a len) with | some y=>y :: zcJ w i m y.to (len+y.length) | none=>[]):=rfl
  rw[e] at hy
  cases hf:(Ws w).find? (gB (i:Int) (hops (hF w (i:Int)) i m) a len) with
  | none=>rw[hf] at hy;cases hy
  | some z =>
   rw[hf] at hy
   rcases dqq.1 hy with rfl | hy
   ·exact List.mem_of_find?_eq_some hf
   ·exact ih _ _ y hy
theorem zLm {n:Net}(hn:NetOk n) (a b:Sl Use){A L:List step}(ha:IsU a A) (hb:IsU b L) (hA:∀ y∈A,y∈Ws (W n)) (hB:∀ y∈L,y∈Ws (W n)) (hAL:A.length=L.length) (hL:L.length≤1000):p91 a b=true/\s91 a b=ltU A L:=by
 have h1:=ha.1;have h2:=hb.1;have hlen:=hn.len
 have key:∀ (m k i:Nat),i+m=A.length->m < k->zgP a b k (i:Int)=true/\zgO a b k (i:Int)=ltU (A.drop i) (L.drop i):=by
  intro m
  induction m with
  | zero =>
   intro k i hi hk
   obtain⟨k,rfl⟩:∃ k',k=k'+1:=⟨k - 1,by omega⟩
   constructor
   ·show zjs a b (zgP a b k) (i : Int) = true
    unfold zjs
    rw[dqF (show ¬ (i:Int) < (a.len:Int) by omega),dqB]
   ·show zjr a b (zgO a b k) (i : Int) = _
    unfold zjr
    rw[dqF (show ¬ (i:Int) < (a.len:Int) by omega),dqB,List.drop_eq_nil_of_le (by omega)];rfl
  | succ m ih =>
   intro k i hi hk
   obtain⟨k,rfl⟩:∃ k',k=k'+1:=⟨k - 1,by omega⟩
   have hw:w64 ((i:Int)+(1:Int))=((i+1:Nat):Int):=by rw[za9 (by omega) (by omega)];omega
   obtain⟨k1,k2⟩:=ih k (i+1) (by omega) (by omega)
   rw[← hw] at k1 k2
   have hiA:i < A.length:=by omega
   have hiL:i < L.length:=by omega
   obtain⟨_,t0,t1,_⟩:=ztB (hA _ (List.getElem_mem hiA))
   obtain⟨_,u0,u1,_⟩:=ztB (hB _ (List.getElem_mem hiL))
   rw[List.drop_eq_getElem_cons hiA,List.drop_eq_getElem_cons hiL]
   have hs9:∀ u:Use,0≤u.Tie->u.Tie < n.Ties.len->zIq u=rk u:=λ u h0 h1=>by
    unfold zIq rk
    rw[za9 (x:=2 * u.Tie) (by omega) (by omega)]
    cases u.Back
    ·simp only[dqB];omega
    ·simp only[dqA];rw[za9 (by omega) (by omega)]
   have hne:sb (A[i]).Use (L[i]).Use=decide (rk (A[i]).Use=rk (L[i]).Use):=by
    rw[zH8]
    unfold rk
    by_cases ht:(A[i]).Use.Tie=(L[i]).Use.Tie
    ·rw [show ((A[i]).Use.Tie == (L[i]).Use.Tie) = true from beq_iff_eq.2 ht, ht]
     cases (A[i]).Use.Back <;> cases (L[i]).Use.Back <;> simp <;> omega
    ·rw [show ((A[i]).Use.Tie == (L[i]).Use.Tie) = false from beq_eq_false_iff_ne.2 ht]
     refine (dqF ?_).symm
     cases (A[i]).Use.Back <;> cases (L[i]).Use.Back <;> simp only[dqA,dqB] <;> omega
   have hS:zgO a b (k+1) (i:Int)=cond (!(decide (rk (A[i]).Use=rk (L[i]).Use))) (decide (rk (A[i]).Use < rk (L[i]).Use)) (zgO a b k (w64 ((i:Int)+(1:Int)))):=by
    show zjr a b (zgO a b k) (i:Int)=_
    generalize zgO a b k=S
    unfold zjr
    rw[dqT (show (i:Int) < (a.len:Int) by omega),dqA,dqT (show (i:Int) < (b.len:Int) by omega),dqA,dqN,ha.2 i hiA,hb.2 i hiL,hs9 _ t0 t1,hs9 _ u0 u1,← hne];rfl
   have hP:zgP a b (k+1) (i:Int)=cond (!(decide (rk (A[i]).Use=rk (L[i]).Use))) true (zgP a b k (w64 ((i:Int)+(1:Int)))):=by
    show zjs a b (zgP a b k) (i:Int)=_
    generalize zgP a b k=S
    unfold zjs
    rw[dqT (show (i:Int) < (a.len:Int) by omega),dqA,dqT (show (i:Int) < (b.len:Int) by omega),dqA,dqN,ha.2 i hiA,hb.2 i hiL,← hne,dqT (show 0≤(i:Int)/\(i:Int) < (a.len:Int) by omega),dqT (show 0≤(i:Int)/\(i:Int) < (b.len:Int) by omega)];rfl
   rw[hS,hP,k1,k2]
   show _/\_=(if rk (A[i]).Use < rk (L[i]).Use then true else if rk (L[i]).Use < rk (A[i]).Use then false else ltU (A.drop (i+1)) (L.drop (i+1)))
   by_cases c0:rk (A[i]).Use=rk (L[i]).Use
   ·rw[dqT c0,dqG (by omega),dqG (by omega)];exact⟨rfl,rfl⟩
   ·rw [dqF c0]
    by_cases c1:rk (A[i]).Use < rk (L[i]).Use
    ·rw[dqT c1,dqP c1];exact⟨rfl,rfl⟩
    ·rw[dqF c1,dqG c1,dqP (by omega)];exact⟨rfl,rfl⟩
 exact key A.length Fuel 0 (by omega) (by simp only[Fuel];omega)
abbrev S26:=Int->Sl Use->Int->Sl Use×Bool
abbrev P26:=Int->Sl Use->Int->Bool
abbrev S27:=Int->Sl Use->Int->Int->Int->Int->Sl Use->Sl Use×Bool
abbrev P27:=Int->Sl Use->Int->Int->Int->Int->Sl Use->Bool
theorem zIg (n : Net) (l : Sl Step) (L : List step) (hl : IsL l L) (hL : L.length ≤ 1000) {N : Nat} (hN : N ≤ 40) (hst : ∀ y ∈ L, StOk y N) (S1 : Int → Sl Use × Bool) (P1 : Int → Bool) (S2 : S26) (P2 : P26) (S4 : S27) (P4 : P27) (tab : Sl (Sl Int)) (u : Int) (best : Sl Use) (start at_ len : Int) (left : Nat) (hleft : 1 ≤ left) (hl45 : left ≤ 45) (d : zcA) {B : Int} (hB : B ≤ 90000000000) (ht : left - 1 < tab.len) (hd : Rr N (tab.get (left - 1)) d B) (hl0 : -90000000000 ≤ len) (hl1 : len ≤ 90000000000) (out : Sl Use) (hout : out.len ≤ 1000) :
  ∀ (m k i:Nat),i+m=L.length->m < k->∀ y,(L.drop i).find? (gB start d at_ len)=some y ->
   zdp S1 S2 S4 n l tab k u best start len at_ (left:Int) (i:Int) out=S4 u best start (len+y.length) y.to (w64 ((left:Int) - (1:Int))) (⟨(out.len+1),(zdb out.len out.get (λ _=>y.Use))⟩:Sl Use) /\
   zdq P1 P2 P4 n l tab k u best start len at_ (left:Int) (i:Int) out=P4 u best start (len+y.length) y.to (w64 ((left:Int) - (1:Int))) (⟨(out.len+1),(zdb out.len out.get (λ _=>y.Use))⟩:Sl Use):=by
 have hll:=hl.1
 obtain⟨hdl,hd⟩:=hd
 have hwl:w64 ((left:Int) - (1:Int))=((left - 1:Nat):Int):=by rw[za9 (by omega) (by omega)];omega
 intro m
 induction m with
 | zero=>intro k i hi hk y hf;rw[List.drop_eq_nil_of_le (by omega)] at hf;cases hf
 | succ m ih =>
  intro k i hi hk z hf
  obtain⟨k,rfl⟩:∃ k',k=k'+1:=⟨k - 1,by omega⟩
  have hw:w64 ((i:Int)+(1:Int))=((i+1:Nat):Int):=by rw[za9 (by omega) (by omega)];omega
  have hiL:i < L.length:=by omega
  rw[List.drop_eq_getElem_cons hiL] at hf
  have hly:=hl.2 i hiL
  have hy:=hst _ (List.getElem_mem hiL)
  generalize L[i]=y at *
  have f0:=hy.f0;have f1:=hy.f1;have t0:=hy.t0;have t1:=hy.t1;have l0:=hy.l0;have l1:=hy.l1
  obtain⟨d1,d3⟩:=hd y.to.toNat (by omega)
  have g1:(l.get i).From=y.from_:=by rw[hly];rfl
  have g2:(l.get i).To=y.to:=by rw[hly];rfl
  have g3:(l.get i).Length=y.length:=by rw[hly];rfl
  have g4:(l.get i).Use=y.Use:=by rw[hly];rfl
  have hS:zdp S1 S2 S4 n l tab (k+1) u best start len at_ (left:Int) (i:Int) out=cond (y.from_ == at_) (cond (decide (y.to ≥ start)) (cond ((tab.get (left - 1)).get y.to.toNat != (1000000000000:Int)) (cond (decide (w64 (len+y.length+(tab.get (left - 1)).get y.to.toNat) < (0:Int))) (S4 u best start (len+y.length) y.to (w64 ((left:Int) - (1:Int))) (⟨(out.len+1),(zdb out.len out.get (λ _=>y.Use))⟩:Sl Use)) (zdp S1 S2 S4 n l tab k u best start len at_ (left:Int) ((i+1:Nat):Int) out)) (zdp S1 S2 S4 n l tab k u best start len at_ (left:Int) ((i+1:Nat):Int) out)) (zdp S1 S2 S4 n l tab k u best start len at_ (left:Int) ((i+1:Nat):Int) out)) (zdp S1 S2 S4 n l tab k u best start len at_ (left:Int) ((i+1:Nat):Int) out):=by
   show zoc S1 S2 S4 n l tab (zdp S1 S2 S4 n l tab k) u best start len at_ (left:Int) (i:Int) out=_
   generalize zdp S1 S2 S4 n l tab k=S
   unfold zoc
   rw[dqT (show (i:Int) < (l.len:Int) by omega),dqA,dqN,g1,g2,g3,g4,hw,hwl,dqN,za9 (x:=len+y.length) (by omega) (by omega)]
  have hP:zdq P1 P2 P4 n l tab (k+1) u best start len at_ (left:Int) (i:Int) out=cond (y.from_ == at_) (cond (decide (y.to ≥ start)) (cond ((tab.get (left - 1)).get y.to.toNat != (1000000000000:Int)) (cond (decide (w64 (len+y.length+(tab.get (left - 1)).get y.to.toNat) < (0:Int))) (P4 u best start (len+y.length) y.to (w64 ((left:Int) - (1:Int))) (⟨(out.len+1),(zdb out.len out.get (λ _=>y.Use))⟩:Sl Use)) (zdq P1 P2 P4 n l tab k u best start len at_ (left:Int) ((i+1:Nat):Int) out)) (zdq P1 P2 P4 n l tab k u best start len at_ (left:Int) ((i+1:Nat):Int) out)) (zdq P1 P2 P4 n l tab k u best start len at_ (left:Int) ((i+1:Nat):Int) out)) (zdq P1 P2 P4 n l tab k u best start len at_ (left:Int) ((i+1:Nat):Int) out):=by
   show zod P1 P2 P4 n l tab (zdq P1 P2 P4 n l tab k) u best start len at_ (left:Int) (i:Int) out=_
   generalize zdq P1 P2 P4 n l tab k=S
   unfold zod
   rw[dqT (show (i:Int) < (l.len:Int) by omega),dqA,dqN,g1,g2,g3,g4,hw,hwl,dqN,za9 (x:=len+y.length) (by omega) (by omega),dqT (show 0≤(i:Int)/\(i:Int) < (l.len:Int) by omega),dqT (show 0≤((left - 1:Nat):Int)/\((left - 1:Nat):Int) < (tab.len:Int) by omega),dqT (show 0≤y.to/\y.to < ((tab.get (left - 1)).len:Int) by omega),dqT (show (out.len+1) * 16≤140737488355328/\out.len+1≤9223372036854775807 by omega)]
   simp only[Bool.true_and]
  have next : ¬ (y.from_=at_/\start≤y.to/\∃ x,d y.to.toNat=some x/\len+y.length+x < 0) ->
    zdp S1 S2 S4 n l tab (k+1) u best start len at_ (left:Int) (i:Int) out=zdp S1 S2 S4 n l tab k u best start len at_ (left:Int) ((i+1:Nat):Int) out->zdq P1 P2 P4 n l tab (k+1) u best start len at_ (left:Int) (i:Int) out=zdq P1 P2 P4 n l tab k u best start len at_ (left:Int) ((i+1:Nat):Int) out ->
   zdp S1 S2 S4 n l tab (k+1) u best start len at_ (left:Int) (i:Int) out=S4 u best start (len+z.length) z.to (w64 ((left:Int) - (1:Int))) (⟨(out.len+1),(zdb out.len out.get (λ _=>z.Use))⟩:Sl Use) /\
   zdq P1 P2 P4 n l tab (k+1) u best start len at_ (left:Int) (i:Int) out=P4 u best start (len+z.length) z.to (w64 ((left:Int) - (1:Int))) (⟨(out.len+1),(zdb out.len out.get (λ _=>z.Use))⟩:Sl Use):=λ hno hs hp=>by
   rw[List.find?_cons_of_neg (λ h=>hno (zhu.1 h))] at hf
   obtain⟨a3,a4⟩:=ih k (i+1) (by omega) (by omega) z hf
   exact⟨hs.trans a3,hp.trans a4⟩
  by_cases c1:y.from_=at_
  ·rw [show (y.from_ == at_) = true from beq_iff_eq.2 c1] at hS hP
   by_cases c2:start≤y.to
   ·rw [dqT (show y.to ≥ start from c2)] at hS hP
    cases hdu:d y.to.toNat with
    | none =>
     rw[hdu] at d1
     have d1':(tab.get (left - 1)).get y.to.toNat=1000000000000:=d1
     rw[d1'] at hS hP
     exact next (λ ⟨_,_,x,hx,_⟩=>by rw[hdu] at hx;cases hx) hS hP
    | some x =>
     have hbx:=d3 x hdu
     rw[hdu] at d1
     have d1':(tab.get (left - 1)).get y.to.toNat=x:=d1
     rw[d1',show (x != (1000000000000:Int))=true from bne_iff_ne.2 (by omega),za9 (x:=len+y.length+x) (by omega) (by omega)] at hS hP
     by_cases c3:len+y.length+x < 0
     ·rw [dqT c3] at hS hP
      rw[List.find?_cons_of_pos (zhu.2 ⟨c1,c2,x,hdu,c3⟩)] at hf
      cases hf
      exact⟨hS,hP⟩
     ·rw [dqF c3] at hS hP
      exact next (λ ⟨_,_,x',hx',hx''⟩=>by rw[hdu] at hx';cases hx';exact c3 hx'') hS hP
   ·rw [dqF (show ¬ y.to ≥ start from c2)] at hS hP
    exact next (λ hh=>c2 hh.2.1) hS hP
  ·rw [show (y.from_ == at_) = false from beq_eq_false_iff_ne.2 c1] at hS hP
   exact next (λ hh=>c1 hh.1) hS hP
def zNH (S1:Int->Sl Use×Bool) (S2:S26) (n:Net) (l:Sl Step) (u:Int) (best:Sl Use) (start:Int) (out:Sl Use):Sl Use×Bool:=cond ((best.len:Int) == (0:Int)) (zjt S1 S2 n l u best start true out) (zjt S1 S2 n l u best start (s91 out best) out)
def zNI (P1:Int->Bool) (P2:P26) (n:Net) (l:Sl Step) (u:Int) (best:Sl Use) (start:Int) (out:Sl Use):Bool:=cond ((best.len:Int) == (0:Int)) (zju P1 P2 n l u best start true out) (decide (p91 out best=true) && zju P1 P2 n l u best start (s91 out best) out)
theorem zCO (n : Net) (hn : NetOk n) (l : Sl Step) (hl : IsL l (Ws (W n))) (S1 : Int → Sl Use × Bool) (P1 : Int → Bool) (S2 : S26) (P2 : P26) (tab : Sl (Sl Int)) (u : Int) (best : Sl Use) (i : Nat) (hi : i < n.Nodes.toNat) (U : Nat) (hU : U ≤ 40) (ht : Ln (W n) n.Nodes.toNat (i : Int) (i : Int) U (U + 1) tab) :
  ∀ (m fu:Nat) (a len:Int) (out:Sl Use) (L:List step),m < fu->(0≤a/\a < n.Nodes)->L.length+m≤40->m≤U->-1000000000 * (L.length:Int)≤len->len≤1000000000 * (L.length:Int) ->
   (∃ x,hops (hF (W n) (i:Int)) i m a.toNat=some x/\len+x < 0)->IsU out L ->
   ∃ out',zfN S1 S2 n l tab fu u best (i:Int) len a (m:Int) out=zNH S1 S2 n l u best (i:Int) out'/\zfO P1 P2 n l tab fu u best (i:Int) len a (m:Int) out=zNI P1 P2 n l u best (i:Int) out' /\
    IsU out' (L ++ zcJ (W n) i m a len):=by
 have hn40:=hn.n40
 have hwl:=zty (a:=W n) hn
 have htl:=ht.len
 intro m
 induction m with
 | zero =>
  intro fu a len out L hf ha hL hm hl0 hl1' hx hout
  obtain⟨fu,rfl⟩:∃ k',fu=k'+1:=⟨fu - 1,by omega⟩
  refine⟨out,?_,?_,by show IsU out (L ++ []);rw[List.append_nil];exact hout⟩
  ·show zjv S1 S2 n l tab (zfN S1 S2 n l tab fu) u best (i : Int) len a ((0 : Nat) : Int) out = _
   generalize zfN S1 S2 n l tab fu=S
   unfold zjv
   rw[dqF (show ¬ ((0:Nat):Int) > 0 by omega),dqB];rfl
  ·show zjw P1 P2 n l tab (zfO P1 P2 n l tab fu) u best (i : Int) len a ((0 : Nat) : Int) out = _
   generalize zfO P1 P2 n l tab fu=S
   unfold zjw
   rw[dqF (show ¬ ((0:Nat):Int) > 0 by omega),dqB];rfl
 | succ m ih =>
  intro fu a len out L hf ha hL hm hl0 hl1' hx hout
  obtain⟨fu,rfl⟩:∃ k',fu=k'+1:=⟨fu - 1,by omega⟩
  obtain⟨x,hx1,hx2⟩:=hx
  obtain⟨y,hy,hy1,hy2,hy3,z,hz1,hz2⟩:=zko (w:=W n) hn (show hop (hF (W n) (i:Int)) (hops (hF (W n) (i:Int)) i m) a.toNat=some x from hx1)
  have hyo:=zpI (a:=W n) hn hy
  have f0:=hyo.f0
  have hya:y.from_=a:=by omega
  have hol:=hout.1
  have hg:gB (i:Int) (hops (hF (W n) (i:Int)) i m) a len y=true:=zhu.2 ⟨hya,hy2,z,hz1,by omega⟩
  obtain⟨y',hf'⟩:∃ y',(Ws (W n)).find? (gB (i:Int) (hops (hF (W n) (i:Int)) i m) a len)=some y':=by
   cases hf:(Ws (W n)).find? (gB (i:Int) (hops (hF (W n) (i:Int)) i m) a len) with
   | none=>exact absurd hg (List.find?_eq_none.1 hf y hy)
   | some y'=>exact⟨y',rfl⟩
  have b1:=List.mem_of_find?_eq_some hf'
  obtain⟨b2,b3,x',b4,b5⟩:=zhu.1 (List.find?_some hf')
  have hrow:=ht.lo m (by omega)
  rw[dqN] at hrow
  obtain⟨b6,b7⟩:=zIg n l (Ws (W n)) hl (by omega) (N:=n.Nodes.toNat) (by omega) (λ y hy=>zpI (a:=W n) hn hy) S1 P1 S2 P2 (zfN S1 S2 n l tab fu) (zfO P1 P2 n l tab fu) tab u best (i:Int) a len (m+1) (by omega) (by omega) (hops (hF (W n) (i:Int)) i m) (B:=m * 1000000000) (by omega) (by omega) hrow (by omega) (by omega) out (by omega) (Ws (W n)).length Fuel 0 (by omega) (by simp only[Fuel];omega) y' (by rw[List.drop_zero];exact hf')
  have hyo':=zpI (a:=W n) hn b1
  have t0:=hyo'.t0;have t1:=hyo'.t1;have l0:=hyo'.l0;have l1:=hyo'.l1
  have t1':y'.to < n.Nodes:=by have:y'.to < ((n.Nodes.toNat:Nat):Int):=t1;omega
  have hw:w64 (((m+1:Nat):Int) - (1:Int))=(m:Int):=by rw[za9 (by omega) (by omega)];omega
  rw[hw] at b6 b7
  obtain⟨out',c1,c2,c3⟩:=ih fu y'.to (len+y'.length) (⟨(out.len+1),(zdb out.len out.get (λ _=>y'.Use))⟩:Sl Use) (L ++ [y']) (by omega) ⟨t0,t1'⟩ (by simp only[dqu,dqr,List.length_nil];omega) (by omega) (by simp only[dqu,dqr,List.length_nil];omega) (by simp only[dqu,dqr,List.length_nil];omega) ⟨x',b4,b5⟩ (zIf hout y')
  have eW:zcJ (W n) i (m+1) a len=y' :: zcJ (W n) i m y'.to (len+y'.length):=by
   show (match (Ws (W n)).find? (gB (i:Int) (hops (hF (W n) (i:Int)) i m) a len) with | some y=>y :: zcJ (W n) i m y.to (len+y.length) | none=>[])=_
   rw[hf']
  refine⟨out',?_,?_,by rw[eW];rw[List.append_assoc] at c3;exact c3⟩
  ·rw [← c1, ← b6]
   show zjv S1 S2 n l tab (zfN S1 S2 n l tab fu) u best (i:Int) len a ((m+1:Nat):Int) out=_
   generalize zfN S1 S2 n l tab fu=S
   unfold zjv
   rw[dqT (show ((m+1:Nat):Int) > 0 by omega),dqA];rfl
  ·rw [← c2, ← b7]
   show zjw P1 P2 n l tab (zfO P1 P2 n l tab fu) u best (i:Int) len a ((m+1:Nat):Int) out=_
   generalize zfO P1 P2 n l tab fu=S
   unfold zjw
   rw[dqT (show ((m+1:Nat):Int) > 0 by omega),dqA];rfl
def Ru (n:Net) (u:Nat) (best:Sl Use) (b:Option (List step)):Prop:=(best.len=0/\b=none)∨∃ L,b=some L/\IsU best L/\L.length=u/\∀ y∈L,y∈Ws (W n)
theorem zCP (n:Net) (hn:NetOk n) (l:Sl Step) (hl:IsL l (Ws (W n))) (S1:Int->Sl Use×Bool) (P1:Int->Bool) (u:Nat) (hu1:1≤u) (hu:u≤n.Nodes.toNat):∀ (m k i:Nat) (best:Sl Use) (b:Option (List step)),i+m=n.Nodes.toNat->m < k->Ru n u best b ->
  ∃ best',zdT S1 n l k (u:Int) best (i:Int)=cond (decide ((best'.len:Int) > (0:Int))) (best',true) (S1 (w64 ((u:Int)+(1:Int))))/\zdU P1 n l k (u:Int) best (i:Int)=cond (decide ((best'.len:Int) > (0:Int))) true (P1 (w64 ((u:Int)+(1:Int))))/\Ru n u best' (zci (W n) u m i b):=by
 have hn40:=hn.n40
 intro m
 induction m with
 | zero =>
  intro k i best b hi hk hb
  obtain⟨k,rfl⟩:∃ k',k=k'+1:=⟨k - 1,by omega⟩
  refine⟨best,?_,?_,hb⟩
  ·show zjx S1 n l (zdT S1 n l k) (u : Int) best (i : Int) = _
   generalize zdT S1 n l k=S
   unfold zjx
   rw[dqF (show ¬ (i:Int) < n.Nodes by omega),dqB]
  ·show zjy P1 n l (zdU P1 n l k) (u : Int) best (i : Int) = _
   generalize zdU P1 n l k=S
   unfold zjy
   rw[dqF (show ¬ (i:Int) < n.Nodes by omega),dqB]
 | succ m ih =>
  intro k i best b hi hk hb
  obtain⟨k,rfl⟩:∃ k',k=k'+1:=⟨k - 1,by omega⟩
  have hw:w64 ((i:Int)+(1:Int))=((i+1:Nat):Int):=by rw[za9 (by omega) (by omega)];omega
  obtain⟨q1,hT⟩:=zLh hn (i:Int) (i:Int) ⟨by omega,by omega⟩ u (by omega)
  have htl:=hT.len
  have hrow:=hT.lo u (by omega)
  rw[dqN] at hrow
  obtain⟨hrl,hrow⟩:=hrow
  obtain⟨r1,r2⟩:=hrow i (by omega)
  have hneg:ziz (W n) u i=decide (((s90 n (i:Int) (u:Int) (i:Int)).get u).get i < 0):=by
   unfold ziz
   rw[r1]
   cases hops (hF (W n) (i:Int)) i u i with
   | none=>exact (dqF (show ¬ (1000000000000:Int) < 0 by omega)).symm
   | some x=>rfl
  have hS:zdT S1 n l (k+1) (u:Int) best (i:Int)=cond (ziz (W n) u i) (zfN S1 (zdT S1 n l k) n l (s90 n (i:Int) (u:Int) (i:Int)) Fuel (u:Int) best (i:Int) 0 (i:Int) (u:Int) (⟨0,(λ _=>default)⟩:Sl Use)) (zdT S1 n l k (u:Int) best ((i+1:Nat):Int)):=by
   rw[← hw]
   show zjx S1 n l (zdT S1 n l k) (u:Int) best (i:Int)=_
   generalize zdT S1 n l k=S
   unfold zjx zsa zr8
   rw[dqT (show (i:Int) < n.Nodes by omega),dqA,dqN,dqN,hneg]
   by_cases h:((s90 n (i:Int) (u:Int) (i:Int)).get u).get i < 0
   ·rw[dqT h,dqF (show ¬ ((s90 n (i:Int) (u:Int) (i:Int)).get u).get i ≥ 0 by omega)];rfl
   ·rw[dqF h,dqT (show ((s90 n (i:Int) (u:Int) (i:Int)).get u).get i ≥ 0 by omega)];rfl
  have hP:zdU P1 n l (k+1) (u:Int) best (i:Int)=cond (ziz (W n) u i) (zfO P1 (zdU P1 n l k) n l (s90 n (i:Int) (u:Int) (i:Int)) Fuel (u:Int) best (i:Int) 0 (i:Int) (u:Int) (⟨0,(λ _=>default)⟩:Sl Use)) (zdU P1 n l k (u:Int) best ((i+1:Nat):Int)):=by
   rw[← hw]
   show zjy P1 n l (zdU P1 n l k) (u:Int) best (i:Int)=_
   generalize zdU P1 n l k=S
   unfold zjy zsb zr9
   rw[dqT (show (i:Int) < n.Nodes by omega),dqA,q1,dqN,dqN,hneg,dqT (show 0≤(u:Int)/\(u:Int) < ((s90 n (i:Int) (u:Int) (i:Int)).len:Int) by omega),dqT (show 0≤(i:Int)/\(i:Int) < (((s90 n (i:Int) (u:Int) (i:Int)).get u).len:Int) by omega)]
   by_cases h:((s90 n (i:Int) (u:Int) (i:Int)).get u).get i < 0
   ·rw[dqT h,dqF (show ¬ ((s90 n (i:Int) (u:Int) (i:Int)).get u).get i ≥ 0 by omega)];rfl
   ·rw[dqF h,dqT (show ((s90 n (i:Int) (u:Int) (i:Int)).get u).get i ≥ 0 by omega)];rfl
  cases hnb:ziz (W n) u i with
  | false =>
   rw[hnb] at hS hP
   have e:zci (W n) u (m+1) i b=zci (W n) u m (i+1) b:=by
    show zci (W n) u m (i+1) (cond (ziz (W n) u i) _ b)=_
    rw[hnb];rfl
   rw[hS,hP,e]
   exact ih k (i+1) best b (by omega) (by omega) hb
  | true =>
   rw[hnb] at hS hP
   obtain⟨x,hx1,hx2⟩:=ziy.1 hnb
   obtain⟨out,c1,c2,c3⟩:=zCO n hn l hl S1 P1 (zdT S1 n l k) (zdU P1 n l k) (s90 n (i:Int) (u:Int) (i:Int)) (u:Int) best i (by omega) u (by omega) hT u Fuel (i:Int) 0 (⟨0,(λ _=>default)⟩:Sl Use) [] (by simp only[Fuel];omega) ⟨by omega,by omega⟩ (by show 0+u≤40;omega) (dqt u) (by show -1000000000 * ((0:Nat):Int)≤0;omega) (by show (0:Int)≤1000000000 * ((0:Nat):Int);omega) ⟨x,by rw[dqN];exact hx1,by omega⟩ ⟨rfl,λ q hq=>absurd hq (Nat.not_lt_zero _)⟩
   have c3':IsU out (zcJ (W n) i u (i:Int) 0):=c3
   have hwl:=zpL (w:=W n) hn (u:=u) (show i < n.Nodes.toNat by omega) hnb
   have hwm:=zAO (W n) i u (i:Int) 0
   generalize hW:zcJ (W n) i u (i:Int) 0=X at *
   have hnl:=c3'.1
   have e1:zci (W n) u (m+1) i none=zci (W n) u m (i+1) (some X):=by
    show zci (W n) u m (i+1) (cond (ziz (W n) u i) (some (zcJ (W n) i u (i:Int) 0)) none)=_
    rw[hnb,dqA,hW]
   have e2:∀ L0,zci (W n) u (m+1) i (some L0)=zci (W n) u m (i+1) (cond (ltU X L0) (some X) (some L0)):=λ L0=>by
    show zci (W n) u m (i+1) (cond (ziz (W n) u i) (cond (ltU (zcJ (W n) i u (i:Int) 0) L0) (some (zcJ (W n) i u (i:Int) 0)) (some L0)) (some L0))=_
    rw[hnb,dqA,hW]
   rw[hS,hP,dqA,dqA,c1,c2]
   unfold zNH zNI zjt zju
   rw[hw]
   have k0:=ih k (i+1) out (some X) (by omega) (by omega) (.inr ⟨X,rfl,c3',hwl,hwm⟩)
   rcases hb with ⟨h0,rfl⟩ | ⟨L0,rfl,h2,h3,h4⟩
   ·rw [show ((best.len : Int) == (0:Int)) = true from beq_iff_eq.2 (by omega), e1]
    exact k0
   ·have hbl := h2.1
    obtain⟨p1,p2⟩:=zLm hn out best c3' h2 hwm h4 (by omega) (by omega)
    rw[show ((best.len:Int) == (0:Int))=false from beq_eq_false_iff_ne.2 (by omega),p1,p2,e2]
    simp only[dqB,Bool.true_and,decide_true]
    cases hlt:ltU X L0
    ·simp only[dqB];exact ih k (i+1) best (some L0) (by omega) (by omega) (.inr ⟨L0,rfl,h2,h3,h4⟩)
    ·simp only[dqA];exact k0
theorem zIh (n:Net) (hn:NetOk n) (l:Sl Step) (hl:IsL l (Ws (W n))):∀ (m k u:Nat),u+m=n.Nodes.toNat+1->1≤u->m < k ->
  zfP n l k (u:Int)=true/\(zpK (W n) m u=none->ze6 n l k (u:Int)=((⟨0,λ _=>default⟩:Sl Use),false))/\∀ L,zpK (W n) m u=some L->∃ c,ze6 n l k (u:Int)=(c,true)/\IsU c L:=by
 have hn40:=hn.n40
 intro m
 induction m with
 | zero =>
  intro k u hu h1 hk
  obtain⟨k,rfl⟩:∃ k',k=k'+1:=⟨k - 1,by omega⟩
  refine⟨?_,λ _=>?_,λ L h=>by cases h⟩
  ·show zjA n l (zfP n l k) (u : Int) = true
   unfold zjA
   rw[dqF (show ¬ (u:Int)≤n.Nodes by omega),dqB]
  ·show zjz n l (ze6 n l k) (u : Int) = _
   unfold zjz
   rw[dqF (show ¬ (u:Int)≤n.Nodes by omega),dqB]
 | succ m ih =>
  intro k u hu h1 hk
  obtain⟨k,rfl⟩:∃ k',k=k'+1:=⟨k - 1,by omega⟩
  have hw:w64 ((u:Int)+(1:Int))=((u+1:Nat):Int):=by rw[za9 (by omega) (by omega)];omega
  have hS:ze6 n l (k+1) (u:Int)=zdT (ze6 n l k) n l Fuel (u:Int) (⟨0,(λ _=>default)⟩:Sl Use) ((0:Nat):Int):=by
   show zjz n l (ze6 n l k) (u:Int)=_
   generalize ze6 n l k=S
   unfold zjz
   rw[dqT (show (u:Int)≤n.Nodes by omega),dqA];rfl
  have hP:zfP n l (k+1) (u:Int)=zdU (zfP n l k) n l Fuel (u:Int) (⟨0,(λ _=>default)⟩:Sl Use) ((0:Nat):Int):=by
   show zjA n l (zfP n l k) (u:Int)=_
   generalize zfP n l k=S
   unfold zjA
   rw[dqT (show (u:Int)≤n.Nodes by omega),dqA];rfl
  obtain⟨best,a1,a2,a3⟩:=zCP n hn l hl (ze6 n l k) (zfP n l k) u h1 (by omega) n.Nodes.toNat Fuel 0 (⟨0,(λ _=>default)⟩:Sl Use) none (by omega) (by simp only[Fuel];omega) (.inl ⟨rfl,rfl⟩)
  rw[hw] at a1 a2
  obtain⟨k1,k2,k3⟩:=ih k (u+1) (by omega) (by omega) (by omega)
  have e:zpK (W n) (m+1) u=(match zci (W n) u n.Nodes.toNat 0 none with | some L=>some L | none=>zpK (W n) m (u+1)):=rfl
  rw[hS,hP,a1,a2,e]
  rcases a3 with ⟨h0,hb⟩ | ⟨L,hb,h2,h3,h4⟩
  ·rw [hb, dqF (show ¬ (best.len : Int) > 0 by omega)]
   exact⟨k1,k2,k3⟩
  ·have hbl := h2.1
   rw[hb,dqT (show (best.len:Int) > 0 by omega)]
   exact⟨rfl,λ h=>(by cases h),λ L' h=>(by cases h;exact⟨best,rfl,h2⟩)⟩
theorem zLn {n:Net}(hn:NetOk n):p52 n=true/\(zpK (W n) n.Nodes.toNat 1=none->s52 n=((⟨0,λ _=>default⟩:Sl Use),false))/\∀ L,zpK (W n) n.Nodes.toNat 1=some L->∃ c,s52 n=(c,true)/\IsU c L:=by
 have hlen:=hn.len;have hn40:=hn.n40
 obtain⟨q1,q2⟩:=ztA n (by omega)
 unfold p52 s52
 rw[q1]
 exact zIh n hn (s77 n) q2 n.Nodes.toNat Fuel 1 (by omega) (dqt _) (by simp only[Fuel];omega)
end Go.Proofs
namespace Go.Proofs
open Go Go.Pm
set_option maxRecDepth 100000
set_option linter.unusedVariables false
theorem zCQ (a b:Sl Use){L:List step}(ha:IsU a L) (hb:IsU b L) (hL:L.length≤1000):p53 a b=true/\s53 a b=true:=by
 have h1:=ha.1;have h2:=hb.1
 have key:∀ (m k i:Nat),i+m=L.length->m < k->zgq a b k (i:Int)=true/\zgp a b k (i:Int)=true:=by
  intro m
  induction m with
  | zero =>
   intro k i hi hk
   obtain⟨k,rfl⟩:∃ k',k=k'+1:=⟨k - 1,by omega⟩
   constructor
   ·show zi7 a b (zgq a b k) (i : Int) = true
    unfold zi7
    rw[dqF (show ¬ (i:Int) < (a.len:Int) by omega),dqB]
   ·show zi6 a b (zgp a b k) (i : Int) = _
    unfold zi6
    rw[dqF (show ¬ (i:Int) < (a.len:Int) by omega),dqB]
  | succ m ih =>
   intro k i hi hk
   obtain⟨k,rfl⟩:∃ k',k=k'+1:=⟨k - 1,by omega⟩
   have hw:w64 ((i:Int)+(1:Int))=((i+1:Nat):Int):=by rw[za9 (by omega) (by omega)];omega
   obtain⟨k1,k2⟩:=ih k (i+1) (by omega) (by omega)
   have hiL:i < L.length:=by omega
   have hab:b.get i=a.get i:=by rw[ha.2 i hiL,hb.2 i hiL]
   have hsb:sb (a.get i) (a.get i)=true:=by rw[zH8,beq_self_eq_true,beq_self_eq_true];rfl
   have hS:zgp a b (k+1) (i:Int)=cond (!(sb (a.get i) (a.get i))) false (zgp a b k ((i+1:Nat):Int)):=by
    rw[← hw]
    show zi6 a b (zgp a b k) (i:Int)=_
    generalize zgp a b k=S
    unfold zi6
    rw[dqT (show (i:Int) < (a.len:Int) by omega),dqA,dqN,hab];rfl
   have hP:zgq a b (k+1) (i:Int)=cond (!(sb (a.get i) (a.get i))) true (zgq a b k ((i+1:Nat):Int)):=by
    rw[← hw]
    show zi7 a b (zgq a b k) (i:Int)=_
    generalize zgq a b k=S
    unfold zi7
    rw[dqT (show (i:Int) < (a.len:Int) by omega),dqA,dqN,hab,dqT (show 0≤(i:Int)/\(i:Int) < (a.len:Int) by omega),dqT (show 0≤(i:Int)/\(i:Int) < (b.len:Int) by omega)];rfl
   rw[hS,hP,hsb]
   exact⟨k1,k2⟩
 obtain⟨k1,k2⟩:=key L.length Fuel 0 (by omega) (by simp only[Fuel];omega)
 unfold p53 s53
 rw[show ((a.len:Int) != (b.len:Int))=false by rw[h1,h2];exact bne_self_eq_false _]
 exact⟨k1,k2⟩
theorem zIi {n:Net}(hn:NetOk n) (hs:s67 n=true) (hp:p67 n=true):p49 n=true /\
  (zfj (En n)->s49 n=((⟨0,λ _=>default⟩:Sl Use),6)) /\
  (¬ zfj (En n)->∃ c L,s49 n=(c,0)/\zpK (W n) n.Nodes.toNat 1=some L/\IsU c L/\L.length≤40):=by
 have hn40:=hn.n40
 obtain⟨t1,_⟩:=zAB (W n) hn
 have t2:=zH2 (W n) hn
 have t1':p88 (⟨n,(⟨0,(λ _=>none)⟩:Mp)⟩:web)=true:=t1
 have t2':s88 (⟨n,(⟨0,(λ _=>none)⟩:Mp)⟩:web)=false↔zfj (En n):=t2
 unfold p49 s49
 rw[hp,hs]
 unfold zq2 zq1 zq0 zqZ
 simp only[decide_true,Bool.true_and,Bool.not_true,dqB]
 rw[t1']
 simp only[decide_true,Bool.true_and]
 by_cases hN:zfj (En n)
 ·rw [t2'.2 hN]
  exact⟨rfl,λ _=>rfl,λ h=>absurd hN h⟩
 ·have t3:s88 (⟨n,(⟨0,(λ _=>none)⟩:Mp)⟩:web)=true:=by
   cases h:s88 (⟨n,(⟨0,(λ _=>none)⟩:Mp)⟩:web)
   ·exact absurd (t2'.1 h) hN
   ·rfl
  rw[t3]
  obtain⟨u1,L,u2,u3,u4,u5⟩:=zIe (W n) hn hN
  have u1':p89 (⟨n,(⟨0,(λ _=>none)⟩:Mp)⟩:web)=true:=u1
  have u2':zpK (W n) n.Nodes.toNat 1=some L:=u2
  have u3':IsS (s89 (⟨n,(⟨0,(λ _=>none)⟩:Mp)⟩:web)) L:=u3
  have u5':L.length≤n.Nodes.toNat:=u5
  unfold zqY zqX zqW zqV
  simp only[Bool.not_true,dqB]
  rw[u1']
  simp only[decide_true,Bool.true_and]
  generalize s89 (⟨n,(⟨0,(λ _=>none)⟩:Mp)⟩:web)=v at *
  have hvl:=u3'.1
  obtain⟨l1,c,l2,l3,l4⟩:=zLk v (by omega) v.len Fuel 0 (⟨0,(λ _=>default)⟩:Sl Use) (by omega) (by simp only[Fuel];omega) rfl (λ q h=>absurd h (Nat.not_lt_zero _))
  exact⟨l1,λ h=>absurd h hN,λ _=>⟨c,L,l2,u2',⟨by omega,λ q h=>by rw[l4 q (by omega),u3'.2 q h]⟩,by omega⟩⟩
theorem zLo {n:Net}(hn:NetOk n) (hs:s67 n=true) (a:Int) (c:Sl Use):p51 n a c=true/\s51 n a c=s50 n a c:=by
 obtain⟨b1,b2⟩:=zD8 hn hs a c
 obtain⟨c1,c2⟩:=zLg hn hs a c
 unfold p51 s51 s50
 rw[b2,c1,c2]
 exact⟨rfl,rfl⟩
theorem zj4 (n:Net) (a:Int) (ch:Sl Use) (ht:n.Ties.len≤210) (hs:s67 n=true):zjC n a ch=true/\zjB n a ch=true:=by
 obtain⟨a1,a2⟩:=zAp n (by omega)
 obtain⟨b1,b2⟩:=zAq n (by omega)
 have hn:=a2.1 hs
 obtain⟨d1,d2,d3⟩:=zIi hn hs a1
 obtain⟨r1,_⟩:=zLl hn hs a ch
 obtain⟨q1,q2⟩:=zLo hn hs a ch
 obtain⟨e1,e2,e3⟩:=zLn hn
 unfold zjC zjB zol zok zoj zoi
 rw[d1,r1,b1,b2,hs]
 unfold zsp zso zsn zsm
 rw[q1,q2,bne_self_eq_false]
 unfold zsl zsk zsj zsi
 rw[e1]
 simp only[decide_true,Bool.true_and,Bool.not_true,dqB]
 by_cases hN:zfj (En n)
 ·rw [d2 hN, e2 (zAK (w := W n) hn hN _ _)]
  exact⟨rfl,rfl⟩
 ·obtain ⟨c, L, k1, k2, k3, k4⟩ := d3 hN
  obtain⟨want,m1,m2⟩:=e3 L k2
  obtain⟨f1,f2⟩:=zCQ c want k3 m2 (by omega)
  rw[k1,m1]
  unfold zsh zsg
  rw[f1,f2]
  exact⟨rfl,rfl⟩
theorem zlT (n:Net) (a:Int) (ch:Sl Use) (ht:n.Ties.len≤210) (hs:s67 n=false):zjC n a ch=true/\zjB n a ch=true:=by
 obtain⟨a1,a2⟩:=zAp n (by omega)
 obtain⟨b1,b2⟩:=zAq n (by omega)
 obtain⟨c1,c2⟩:=zH7 ht hs a ch
 have r:p50 n a ch=true/\s50 n a ch=false:=by
  unfold p50 s50
  rw[c1,c2]
  exact⟨rfl,rfl⟩
 have d:p49 n=true/\s49 n=((⟨0,λ _=>default⟩:Sl Use),2):=by
  unfold p49 s49
  rw[a1,hs]
  exact⟨rfl,rfl⟩
 unfold zjC zjB zol zok zoj zoi
 rw[d.1,d.2,r.1,r.2,b1,b2,hs]
 exact⟨rfl,rfl⟩
theorem contradicts_true (n:Net) (a:Int) (c:Sl Use):p11 n a c=true/\s11 n a c=true:=by
 unfold p11 s11
 by_cases h:s20 n 14=true
 ·rw [h]
  have hl:=zAr h (by omega)
  unfold zon zom
  simp only[Bool.not_true,dqB]
  by_cases hc:(c.len:Int) > 50
  ·rw[dqT hc];exact⟨rfl,rfl⟩
  ·rw [dqF hc]
   simp only[dqB]
   cases hs:s67 n
   ·exact zlT n a c hl hs
   ·exact zj4 n a c hl hs
 ·rw[Bool.eq_false_iff.2 h];exact⟨rfl,rfl⟩
end Go.Proofs
