/- Part 7 of what the proof rests on: a machine that runs functions of the program on pure values, proved sound; the functions that the law reaches, and what they compute. -/
import Derived.Test.YtedhjaaikeakoaaDoorQ6
set_option linter.all false
namespace Go.Proofs
open Go Go.Pm
set_option maxRecDepth 100000
set_option linter.unusedVariables false
def Rh (N:Nat) (T:Tab) (d:zb2) (B:Int):Prop:=∀ v,v < N->(T (v * 2)=zAx (d v)/\T (v * 2+1)=0)/\∀ x,d v=some x->-B≤x/\x≤B
def okY (node:Int) (y:step):Bool:=decide (node≤y.from_) && decide (node≤y.to)
def hF (w:web) (node:Int):List Ed:=((Ws w).filter (okY node)).map edQ
theorem zIn (x y:Int):nvr x y=decide ((x,y)=((1000000000000:Int),(0:Int))):=znt x y
theorem zBI {N:Nat}{T:Tab}{d:zb2}{B:Int}(h:Rh N T d B) (hB:B≤100000000000){v:Nat}(hv:v < N):nvr (T (v * 2)) (T (v * 2+1))=(d v).isNone:=by
 obtain⟨⟨h1,h2⟩,h3⟩:=h v hv
 rw[zIn,h1,h2]
 cases hd:d v with
 | none=>exact dqT rfl
 | some x =>
  have:=h3 x hd
  exact dqF (λ e=>by have:=(Prod.mk.inj e).1;have e':x=1000000000000:=this;omega)
theorem zyC (w : web) {N : Nat} (hN : N ≤ 40) (node uses : Int) (S3 : Int → Sl Tab → Sl Tab) (P3 : Int → Sl Tab → Bool) (y : step) (hy : StOk y N) (S4 : Int → Sl Tab → Sl Tab) (P4 : Int → Sl Tab → Bool) (k : Nat) (hk : 1 ≤ k) (hk40 : k ≤ 45) (v : Sl Tab) (hkv : k < v.len) (o d : zb2) (B : Int) (hB : 0 ≤ B ∧ B ≤ 90000000000) (ho : Rh N (v.get (k - 1)) o B) (hd : Rh N (v.get k) d (B + 1000000000)) (c : Bool) :
    ∃ v',zjb S3 w node uses y S4 (k:Int) v=S4 (k:Int) v'/\zjc P3 w node uses y P4 (k:Int) v=P4 (k:Int) v'/\v'.len=v.len/\(∀ j,j ≠ k->v'.get j=v.get j) /\
      Rh N (v'.get k) (cond (okY node y) (jr o (d,c) (edQ y)) (d,c)).1 (B+1000000000):=by
  have f0:=hy.f0;have f1:=hy.f1;have t0:=hy.t0;have t1:=hy.t1;have l0:=hy.l0;have l1:=hy.l1
  have hw:w64 ((k:Int) - (1:Int))=((k - 1:Nat):Int):=by rw[zbr (by omega) (by omega)];omega
  have e1:0+y.to.toNat * 2+0=y.to.toNat * 2:=by omega
  have e2:0+y.from_.toNat * 2+0=y.from_.toNat * 2:=by omega
  have hS : zjb S3 w node uses y S4 (k : Int) v = cond (decide (node ≤ y.from_)) (cond (decide (node ≤ y.to)) (cond (!(nvr (tg 80 (v.get ((w64 ((k : Int) - (1:Int))).toNat)) (0 + y.to.toNat * 2 + 0)) (tg 80 (v.get ((w64 ((k : Int) - (1:Int))).toNat)) (0 + y.to.toNat * 2 + 0 + 1))))
      (S4 (k:Int) (⟨v.len,(setT ((k:Int)).toNat (ts 80 (v.get ((k:Int)).toNat) (0+y.from_.toNat * 2+0) [(zct (⟨(tg 80 (v.get ((k:Int)).toNat) (0+y.from_.toNat * 2+0)),(tg 80 (v.get ((k:Int)).toNat) (0+y.from_.toNat * 2+0+1))⟩:far) (⟨1,λ _=>(⟨(w64 ((tg 80 (v.get ((w64 ((k:Int) - (1:Int))).toNat)) (0+y.to.toNat * 2+0))+y.length)),(0:Int)⟩:far)⟩:(Sl far))).length,(zct (⟨(tg 80 (v.get ((k:Int)).toNat) (0+y.from_.toNat * 2+0)),(tg 80 (v.get ((k:Int)).toNat) (0+y.from_.toNat * 2+0+1))⟩:far) (⟨1,λ _=>(⟨(w64 ((tg 80 (v.get ((w64 ((k:Int) - (1:Int))).toNat)) (0+y.to.toNat * 2+0))+y.length)),(0:Int)⟩:far)⟩:(Sl far))).uses]) v.get)⟩:Sl Tab)) (S4 (k:Int) v)) (S4 (k:Int) v)) (S4 (k:Int) v):=rfl
  have hP : zjc P3 w node uses y P4 (k : Int) v = (decide (0 ≤ (w64 ((k : Int) - (1:Int))) ∧ (w64 ((k : Int) - (1:Int))) < (v.len : Int)) && (decide (0 ≤ y.to ∧ y.to < (40 : Int)) && (decide ((w64 ((k : Int) - (1:Int))).toNat < v.len) && cond (decide (node ≤ y.from_)) (cond (decide (node ≤ y.to)) (cond (!(nvr (tg 80 (v.get ((w64 ((k : Int) - (1:Int))).toNat)) (0 + y.to.toNat * 2 + 0)) (tg 80 (v.get ((w64 ((k : Int) - (1:Int))).toNat)) (0 + y.to.toNat * 2 + 0 + 1))))
      (decide (0≤(k:Int)/\(k:Int) < (v.len:Int)) && (decide (0≤y.from_/\y.from_ < (40:Int)) && (decide (((k:Int)).toNat < v.len) && (decide (zyL (⟨(tg 80 (v.get ((k:Int)).toNat) (0+y.from_.toNat * 2+0)),(tg 80 (v.get ((k:Int)).toNat) (0+y.from_.toNat * 2+0+1))⟩:far) (⟨1,λ _=>(⟨(w64 ((tg 80 (v.get ((w64 ((k:Int) - (1:Int))).toNat)) (0+y.to.toNat * 2+0))+y.length)),(0:Int)⟩:far)⟩:(Sl far))=true) && (decide (0≤(k:Int)/\(k:Int) < (v.len:Int)) && (decide (0≤y.from_/\y.from_ < (40:Int)) && (decide (((k:Int)).toNat < v.len) &&
      P4 (k:Int) (⟨v.len,(setT ((k:Int)).toNat (ts 80 (v.get ((k:Int)).toNat) (0+y.from_.toNat * 2+0) [(zct (⟨(tg 80 (v.get ((k:Int)).toNat) (0+y.from_.toNat * 2+0)),(tg 80 (v.get ((k:Int)).toNat) (0+y.from_.toNat * 2+0+1))⟩:far) (⟨1,λ _=>(⟨(w64 ((tg 80 (v.get ((w64 ((k:Int) - (1:Int))).toNat)) (0+y.to.toNat * 2+0))+y.length)),(0:Int)⟩:far)⟩:(Sl far))).length,(zct (⟨(tg 80 (v.get ((k:Int)).toNat) (0+y.from_.toNat * 2+0)),(tg 80 (v.get ((k:Int)).toNat) (0+y.from_.toNat * 2+0+1))⟩:far) (⟨1,λ _=>(⟨(w64 ((tg 80 (v.get ((w64 ((k:Int) - (1:Int))).toNat)) (0+y.to.toNat * 2+0))+y.length)),(0:Int)⟩:far)⟩:(Sl far))).uses]) v.get)⟩:Sl Tab)))))))) (P4 (k:Int) v)) (P4 (k:Int) v)) (P4 (k:Int) v)))):=rfl
  rw[hS,hP]
  clear hS hP
  rw[hw,e1,e2,dqN,dqN]
  rw[zdc (F:=v.get (k - 1)) (by omega),zdc (F:=v.get (k - 1)) (by omega),zdc (F:=v.get k) (by omega),zdc (F:=v.get k) (by omega)]
  rw[zBI ho (by omega) (show y.to.toNat < N by omega),(zgd _ _).1,(zgd _ _).2,zrO]
  rw[dqT (show 0≤((k - 1:Nat):Int)/\((k - 1:Nat):Int) < (v.len:Int) by omega),dqT (show 0≤y.to/\y.to < (40:Int) by omega),dqT (show k - 1 < v.len by omega),dqT (show 0≤(k:Int)/\(k:Int) < (v.len:Int) by omega),dqT (show 0≤y.from_/\y.from_ < (40:Int) by omega),dqT hkv]
  simp only[Bool.true_and,decide_true]
  have same:∃ v',S4 (k:Int) v=S4 (k:Int) v'/\P4 (k:Int) v=P4 (k:Int) v'/\v'.len=v.len/\(∀ j,j ≠ k->v'.get j=v.get j)/\Rh N (v'.get k) d (B+1000000000):=⟨v,rfl,rfl,rfl,λ _ _=>rfl,hd⟩
  unfold okY
  cases decide (node≤y.from_)
  · exact same
  cases decide (node≤y.to)
  · exact same
  simp only[dqA,Bool.and_self]
  obtain⟨⟨o1,o2⟩,o3⟩:=ho y.to.toNat (by omega)
  obtain⟨⟨d1,d2⟩,d3⟩:=hd y.from_.toNat (by omega)
  cases hou:o y.to.toNat with
  | none =>
    have hr:jr o (d,c) (edQ y)=(d,c):=by
      unfold jr edQ
      simp only[hou]
    rw[hr]
    simp only[Option.isNone_none,Bool.not_true,dqB]
    exact same
  | some x =>
    have hx:=o3 x hou
    rw[hou] at o1
    have o1':v.get (k - 1) (y.to.toNat * 2)=x:=o1
    simp only[Option.isNone_some,Bool.not_false,dqA]
    rw[o1',zbr (x:=x+y.length) (by omega) (by omega),d2,d1]
    have hlt:decide ((x+y.length < zAx (d y.from_.toNat))∨(x+y.length=zAx (d y.from_.toNat)/\(0:Int) < 0))=ltO (x+y.length) (d y.from_.toNat):=by
      cases hdv:d y.from_.toNat with
      | none=>exact dqT (.inl (show x+y.length < 1000000000000 by omega))
      | some z =>
        show decide ((x+y.length < z)∨_)=decide (x+y.length < z)
        exact decide_eq_decide.2 ⟨λ h=>h.elim id λ h=>absurd h.2 (by omega),.inl⟩
    have hr:jr o (d,c) (edQ y)=cond (ltO (x+y.length) (d y.from_.toNat)) (zkS d y.from_.toNat (x+y.length),true) (d,c):=by
      unfold jr edQ
      simp only[hou] <;> rfl
    rw[hr]
    refine⟨_,rfl,rfl,rfl,λ j hj=>?_,?_⟩
    · show setT k _ v.get j = v.get j
      rw[zfP,dqG hj]
    · show Rh N (setT k _ v.get k) _ _
      rw[zfP,dqP rfl]
      show Rh N (ts 80 (v.get k) (y.from_.toNat * 2) [(cond (decide ((x+y.length < zAx (d y.from_.toNat))∨(x+y.length=zAx (d y.from_.toNat)/\(0:Int) < 0))) (⟨x+y.length,0⟩:far) (⟨zAx (d y.from_.toNat),0⟩:far)).length,(cond (decide ((x+y.length < zAx (d y.from_.toNat))∨(x+y.length=zAx (d y.from_.toNat)/\(0:Int) < 0))) (⟨x+y.length,0⟩:far) (⟨zAx (d y.from_.toNat),0⟩:far)).uses]) _ _
      rw[hlt]
      cases hl:ltO (x+y.length) (d y.from_.toNat) with
      | false =>
        simp only[dqB]
        intro q hq
        refine⟨?_,(hd q hq).2⟩
        rw[zce (by omega),zce (by omega)]
        by_cases hqf:q=y.from_.toNat
        · subst hqf
          rw[dqG (by omega),dqP rfl,dqP rfl];exact⟨rfl,rfl⟩
        · rw[dqG (by omega),dqG (by omega),dqG (by omega),dqG (by omega)];exact (hd q hq).1
      | true =>
        simp only[dqA]
        intro q hq
        rw[zce (by omega),zce (by omega)]
        unfold zkS
        by_cases hqf:q=y.from_.toNat
        · subst hqf
          rw[dqG (by omega),dqP rfl,dqP rfl,dqP rfl]
          exact⟨⟨rfl,rfl⟩,λ z hz=>by cases hz;omega⟩
        · rw[dqG (show ¬ q * 2=y.from_.toNat * 2+1 by omega),dqG (show ¬ q * 2=y.from_.toNat * 2 by omega),dqG (show ¬ q * 2+1=y.from_.toNat * 2+1 by omega),dqG (show ¬ q * 2+1=y.from_.toNat * 2 by omega),dqG hqf];exact hd q hq
theorem zyD (w : web) {N : Nat} (hN : N ≤ 40) (node uses : Int) (S3 : Int → Sl Tab → Sl Tab) (P3 : Int → Sl Tab → Bool) (k : Nat) (hk : 1 ≤ k) (hk40 : k ≤ 45) (o : zb2) (B : Int) (hB : 0 ≤ B ∧ B ≤ 90000000000) :
  ∀ (l:List step),(∀ y∈l,StOk y N)->∀ (v:Sl Tab) (d:zb2) (c:Bool),k < v.len->Rh N (v.get (k - 1)) o B->Rh N (v.get k) d (B+1000000000) ->
  ∃ v',zjd S3 w node uses l (k:Int) v=S3 (w64 ((k:Int)+(1:Int))) v'/\zje P3 w node uses l (k:Int) v=P3 (w64 ((k:Int)+(1:Int))) v'/\v'.len=v.len/\(∀ j,j ≠ k->v'.get j=v.get j) /\
   Rh N (v'.get k) (((l.filter (okY node)).map edQ).foldl (jr o) (d,c)).1 (B+1000000000):=by
 intro l
 induction l with
 | nil=>intro _ v d c _ _ hd;exact⟨v,rfl,rfl,rfl,λ _ _=>rfl,hd⟩
 | cons y l ih =>
  intro hl v d c hkv ho hd
  obtain⟨v1,a1,a2,a3,a4,a5⟩:=zyC w hN node uses S3 P3 y (hl y (List.mem_cons_self ..)) (zjd S3 w node uses l) (zje P3 w node uses l) k hk hk40 v hkv o d B hB ho hd c
  have ho1:Rh N (v1.get (k - 1)) o B:=by rw[a4 (k - 1) (by omega)];exact ho
  cases hok:okY node y with
  | false =>
   rw[hok] at a5
   obtain⟨v2,b1,b2,b3,b4,b5⟩:=ih (λ z hz=>hl z (List.mem_cons_of_mem _ hz)) v1 d c (by omega) ho1 a5
   refine⟨v2,Eq.trans a1 b1,Eq.trans a2 b2,b3.trans a3,λ j hj=>(b4 j hj).trans (a4 j hj),?_⟩
   rw[List.filter_cons_of_neg (by rw[hok];exact Bool.false_ne_true)];exact b5
  | true =>
   rw[hok] at a5
   obtain⟨v2,b1,b2,b3,b4,b5⟩:=ih (λ z hz=>hl z (List.mem_cons_of_mem _ hz)) v1 (jr o (d,c) (edQ y)).1 (jr o (d,c) (edQ y)).2 (by omega) ho1 a5
   refine⟨v2,Eq.trans a1 b1,Eq.trans a2 b2,b3.trans a3,λ j hj=>(b4 j hj).trans (a4 j hj),?_⟩
   rw[List.filter_cons_of_pos hok];exact b5
structure Hm (w : web) (N : Nat) (node : Int) (U k : Nat) (v : Sl Tab) : Prop where
  len:v.len=U+1
  done:∀ j,j < k->j≤U->Rh N (v.get j) (hops (hF w node) node.toNat j) (j * 1000000000)
  rest:∀ j,k≤j->j≤U->Rh N (v.get j) zyB 0
theorem Rh.mono {N:Nat}{T:Tab}{d:zb2}{B B':Int}(h:Rh N T d B) (hb:B≤B'):Rh N T d B':=λ v hv=>⟨(h v hv).1,λ x hx=>by have:=(h v hv).2 x hx;omega⟩
theorem zrQ (w:web) (hn:NetOk w.Net) (node:Int) (U:Nat) (hU:U≤40):∀ (m fu k:Nat) (v:Sl Tab),k+m=U+1->1≤k->m < fu->Hm w w.Net.Nodes.toNat node U k v ->
  zds w node (U:Int) fu (k:Int) v=true/\Hm w w.Net.Nodes.toNat node U (U+1) (zcY w node (U:Int) fu (k:Int) v):=by
 have hn40:=hn.n40;have hlen:=hn.len
 obtain⟨q1,q2⟩:=zkM w (by omega)
 intro m
 induction m with
 | zero =>
  intro fu k v hk h1 hf hv
  obtain⟨fu,rfl⟩:∃ k',fu=k'+1:=⟨fu - 1,by omega⟩
  have e1:zds w node (U:Int) (fu+1) (k:Int) v=true:=by
   show zf2 w node (U:Int) (zds w node (U:Int) fu) (k:Int) v=true
   unfold zf2
   rw[dqF (show ¬ (k:Int)≤(U:Int) by omega),dqB]
  have e2:zcY w node (U:Int) (fu+1) (k:Int) v=v:=by
   show zf1 w node (U:Int) (zcY w node (U:Int) fu) (k:Int) v=v
   unfold zf1
   rw[dqF (show ¬ (k:Int)≤(U:Int) by omega),dqB]
  refine⟨e1,?_⟩
  rw[e2]
  have:k=U+1:=by omega
  subst this;exact hv
 | succ m ih =>
  intro fu k v hk h1 hf hv
  obtain⟨fu,rfl⟩:∃ k',fu=k'+1:=⟨fu - 1,by omega⟩
  have hw:w64 ((k:Int)+(1:Int))=((k+1:Nat):Int):=by rw[zbr (by omega) (by omega)];omega
  have hvl:=hv.len
  obtain⟨v',a1,a2,a3,a4,a5⟩:=zyD w (N:=w.Net.Nodes.toNat) (by omega) node (U:Int) (zcY w node (U:Int) fu) (zds w node (U:Int) fu) k h1 (by omega) (hops (hF w node) node.toNat (k - 1)) ((k - 1:Nat) * 1000000000) ⟨by omega,by omega⟩ (Ws w) (λ y hy=>zyx hn hy) v zyB false (by omega) (hv.done (k - 1) (by omega) (by omega)) ((hv.rest k (Nat.le_refl _) (by omega)).mono (by omega))
  rw[hw] at a1 a2
  have hv':Hm w w.Net.Nodes.toNat node U (k+1) v':=by
   refine⟨a3.trans hvl,λ j hj hjU=>?_,λ j hj hjU=>?_⟩
   ·by_cases hjk : j = k
    ·subst hjk
     have e:hops (hF w node) node.toNat j=hop (hF w node) (hops (hF w node) node.toNat (j - 1)):=by
      obtain⟨j,rfl⟩:∃ j',j=j'+1:=⟨j - 1,by omega⟩
      rfl
     rw[e]
     exact Rh.mono a5 (by omega)
    ·rw[a4 j hjk];exact hv.done j (by omega) hjU
   ·rw[a4 j (by omega)];exact hv.rest j (by omega) hjU
  obtain⟨i1,i2⟩:=ih fu (k+1) v' (by omega) (by omega) (by omega) hv'
  have e1:zds w node (U:Int) (fu+1) (k:Int) v=zds w node (U:Int) fu ((k+1:Nat):Int) v':=by
   rw[← a2]
   show zf2 w node (U:Int) (zds w node (U:Int) fu) (k:Int) v=_
   unfold zf2 zmR
   rw[dqT (show (k:Int)≤(U:Int) by omega),dqA,q1,q2];rfl
  have e2:zcY w node (U:Int) (fu+1) (k:Int) v=zcY w node (U:Int) fu ((k+1:Nat):Int) v':=by
   rw[← a1]
   show zf1 w node (U:Int) (zcY w node (U:Int) fu) (k:Int) v=_
   unfold zf1 zmQ
   rw[dqT (show (k:Int)≤(U:Int) by omega),dqA,q2]
  exact⟨e1.trans i1,by rw[e2];exact i2⟩
theorem ztP (w:web) (node:Int) (U:Nat) (hU:U≤40) (S0:Int->Sl Tab->Sl Tab) (P0:Int->Sl Tab->Bool) (i:Nat) (hi:i < U+1):∀ (m fu q:Nat) (v:Sl Tab),q+m=40->m < fu->v.len=U+1->(∀ p,p < q->v.get i (p * 2)=1000000000000/\v.get i (p * 2+1)=0) ->
  ∃ v',zhc S0 w node (U:Int) fu (i:Int) (i:Int) (q:Int) v=S0 (w64 ((i:Int)+(1:Int))) v'/\zhd P0 w node (U:Int) fu (i:Int) (i:Int) (q:Int) v=P0 (w64 ((i:Int)+(1:Int))) v'/\v'.len=v.len/\(∀ j,j ≠ i->v'.get j=v.get j)/\∀ p,p < 40->v'.get i (p * 2)=1000000000000/\v'.get i (p * 2+1)=0:=by
 intro m
 induction m with
 | zero =>
  intro fu q v hq hf hv h
  obtain⟨fu,rfl⟩:∃ k',fu=k'+1:=⟨fu - 1,by omega⟩
  refine⟨v,?_,?_,rfl,λ _ _=>rfl,λ p hp=>h p (by omega)⟩
  ·show zf3 S0 w node (U : Int) (zhc S0 w node (U : Int) fu) (i : Int) (i : Int) (q : Int) v = _
   unfold zf3
   rw[dqF (show ¬ (q:Int) < (40:Int) by omega),dqB]
  ·show zf4 P0 w node (U : Int) (zhd P0 w node (U : Int) fu) (i : Int) (i : Int) (q : Int) v = _
   unfold zf4
   rw[dqF (show ¬ (q:Int) < (40:Int) by omega),dqB]
 | succ m ih =>
  intro fu q v hq hf hv h
  obtain⟨fu,rfl⟩:∃ k',fu=k'+1:=⟨fu - 1,by omega⟩
  have hw:w64 ((q:Int)+(1:Int))=((q+1:Nat):Int):=by rw[zbr (by omega) (by omega)];omega
  obtain⟨v',a1,a2,a3,a4,a5⟩:=ih fu (q+1) (⟨v.len,(setT i (ts 80 (v.get i) (q * 2) [(1000000000000:Int),(0:Int)]) v.get)⟩:Sl Tab) (by omega) (by omega) hv (λ p hp=>by
   show setT i _ v.get i (p * 2)=_/\setT i _ v.get i (p * 2+1)=_
   rw[zfP,dqP rfl,zce (by omega),zce (by omega)]
   by_cases hpq:p=q
   ·subst hpq
    rw[dqG (by omega),dqP rfl,dqP rfl];exact⟨rfl,rfl⟩
   ·rw[dqG (by omega),dqG (by omega),dqG (by omega),dqG (by omega)];exact h p (by omega))
  refine⟨v',?_,?_,a3,λ j hj=>(a4 j hj).trans (by show setT i _ v.get j=_;rw[zfP,dqG hj]),a5⟩
  ·rw [← a1]
   show zf3 S0 w node (U:Int) (zhc S0 w node (U:Int) fu) (i:Int) (i:Int) (q:Int) v=_
   unfold zf3
   rw[dqT (show (q:Int) < (40:Int) by omega),dqA,hw,dqN,dqN,show 0+q * 2+0=q * 2 by omega]
  ·rw [← a2]
   show zf4 P0 w node (U:Int) (zhd P0 w node (U:Int) fu) (i:Int) (i:Int) (q:Int) v=_
   unfold zf4
   rw[dqT (show (q:Int) < (40:Int) by omega),dqA,hw,dqN,dqN,show 0+q * 2+0=q * 2 by omega,dqT (show 0≤(i:Int)/\(i:Int) < (v.len:Int) by omega),dqT (show 0≤(q:Int)/\(q:Int) < (40:Int) by omega),dqT (show i < v.len by omega)];rfl
theorem zyE (w:web) (node:Int) (U:Nat) (hU:U≤40):∀ (m fu i:Nat) (v:Sl Tab),i+m=U+1->m < fu->v.len=U+1->(∀ j,j < i->∀ p,p < 40->v.get j (p * 2)=1000000000000/\v.get j (p * 2+1)=0) ->
  ∃ v',zf7 w node (U:Int) fu (i:Int) v=zjf w node (U:Int) v'/\zf8 w node (U:Int) fu (i:Int) v=zjg w node (U:Int) v'/\v'.len=U+1/\∀ j,j < U+1->∀ p,p < 40->v'.get j (p * 2)=1000000000000/\v'.get j (p * 2+1)=0:=by
 have hu:((w64 ((U:Int)+(1:Int))).toNat:Int)=(U:Int)+1:=by rw[zbr (by omega) (by omega)];omega
 intro m
 induction m with
 | zero =>
  intro fu i v hi hf hv h
  obtain⟨fu,rfl⟩:∃ k',fu=k'+1:=⟨fu - 1,by omega⟩
  refine⟨v,?_,?_,hv,λ j hj=>h j (by omega)⟩
  ·show zf5 w node (U : Int) (zf7 w node (U : Int) fu) (i : Int) v = _
   unfold zf5
   rw[hu,dqF (show ¬ (i:Int) < (U:Int)+1 by omega),dqB]
  ·show zf6 w node (U : Int) (zf8 w node (U : Int) fu) (i : Int) v = _
   unfold zf6
   rw[hu,dqF (show ¬ (i:Int) < (U:Int)+1 by omega),dqB]
 | succ m ih =>
  intro fu i v hi hf hv h
  obtain⟨fu,rfl⟩:∃ k',fu=k'+1:=⟨fu - 1,by omega⟩
  have hw:w64 ((i:Int)+(1:Int))=((i+1:Nat):Int):=by rw[zbr (by omega) (by omega)];omega
  obtain⟨v1,a1,a2,a3,a4,a5⟩:=ztP w node U hU (zf7 w node (U:Int) fu) (zf8 w node (U:Int) fu) i (by omega) 40 Fuel 0 v (by omega) (by simp only[Fuel];omega) hv (λ p hp=>absurd hp (Nat.not_lt_zero _))
  rw[hw] at a1 a2
  obtain⟨v2,b1,b2,b3,b4⟩:=ih fu (i+1) v1 (by omega) (by omega) (a3.trans hv) (λ j hj=>by
   by_cases hji:j=i
   ·subst hji;exact a5
   ·rw[a4 j hji];exact h j (by omega))
  refine⟨v2,?_,?_,b3,b4⟩
  ·rw [← b1, ← a1]
   show zf5 w node (U:Int) (zf7 w node (U:Int) fu) (i:Int) v=_
   unfold zf5
   rw[hu,dqT (show (i:Int) < (U:Int)+1 by omega),dqA];rfl
  ·rw [← b2, ← a2]
   show zf6 w node (U:Int) (zf8 w node (U:Int) fu) (i:Int) v=_
   unfold zf6
   rw[hu,dqT (show (i:Int) < (U:Int)+1 by omega),dqA];rfl
theorem zFv (w : web) (hn : NetOk w.Net) (node : Nat) (h1 : node < w.Net.Nodes.toNat) (U : Nat) (hU : U ≤ 40) :
  zFF w (node:Int) (U:Int)=true/\(zsy w (node:Int) (U:Int)).len=U+1/\∀ j,j≤U->Rh w.Net.Nodes.toNat ((zsy w (node:Int) (U:Int)).get j) (hops (hF w (node:Int)) node j) (j * 1000000000):=by
 have hn40:=hn.n40
 have hu:w64 ((U:Int)+(1:Int))=(U:Int)+1:=by rw[zbr (by omega) (by omega)]
 have hu':((U:Int)+1).toNat=U+1:=by omega
 obtain⟨v1,a1,a2,a3,a4⟩:=zyE w (node:Int) U hU (U+1) Fuel 0 (⟨U+1,(λ _=>(λ _=>(0:Int)))⟩:Sl Tab) (by omega) (by simp only[Fuel];omega) rfl (λ j hj=>absurd hj (Nat.not_lt_zero _))
 have hm:Hm w w.Net.Nodes.toNat (node:Int) U 1 (⟨v1.len,(setT 0 (ts 80 (v1.get 0) (node * 2) [(0:Int),(0:Int)]) v1.get)⟩:Sl Tab):=by
  refine⟨a3,λ j hj _=>?_,λ j hj hjU=>?_⟩
  ·have : j = 0 := by omega
   subst this
   intro v hv
   have e0:(⟨v1.len,(setT 0 (ts 80 (v1.get 0) (node * 2) [(0:Int),(0:Int)]) v1.get)⟩:Sl Tab).get 0=ts 80 (v1.get 0) (node * 2) [(0:Int),(0:Int)]:=by
    exact (zfP 0 (ts 80 (v1.get 0) (node * 2) [(0:Int),(0:Int)]) v1.get 0).trans (dqP rfl)
   have eh:hops (hF w (node:Int)) ((node:Nat):Int).toNat 0=zoR node:=by rw[dqN];rfl
   rw[e0,eh,zce (by omega),zce (by omega)]
   unfold zoR
   by_cases hq:v=node
   ·subst hq
    rw[dqG (show ¬ v * 2=v * 2+1 by omega),dqP (show v * 2=v * 2 from rfl),dqP (show v * 2+1=v * 2+1 from rfl),dqP (show v=v from rfl)]
    exact⟨⟨rfl,rfl⟩,λ x hx=>by cases hx;omega⟩
   ·rw [dqG (show ¬ v * 2 = node * 2 + 1 by omega), dqG (show ¬ v * 2 = node * 2 by omega), dqG (show ¬ v * 2 + 1 = node * 2 + 1 by omega), dqG (show ¬ v * 2 + 1 = node * 2 by omega), dqG hq]
    exact⟨a4 0 (by omega) v (by omega),λ x hx=>by cases hx⟩
  ·intro v hv
   have e0:(⟨v1.len,(setT 0 (ts 80 (v1.get 0) (node * 2) [(0:Int),(0:Int)]) v1.get)⟩:Sl Tab).get j=v1.get j:=by
    exact (zfP 0 (ts 80 (v1.get 0) (node * 2) [(0:Int),(0:Int)]) v1.get j).trans (dqG (by omega))
   rw[e0]
   exact⟨a4 j (by omega) v (by omega),λ x hx=>by cases hx⟩
 obtain⟨b1,b2⟩:=zrQ w hn (node:Int) U hU U Fuel 1 _ (by omega) (Nat.le_refl _) (by simp only[Fuel];omega) hm
 have e:0+((node:Nat):Int).toNat * 2+0=node * 2:=by rw[dqN];omega
 have es:zsy w (node:Int) (U:Int)=zcY w (node:Int) (U:Int) Fuel ((1:Nat):Int) (⟨v1.len,(setT 0 (ts 80 (v1.get 0) (node * 2) [(0:Int),(0:Int)]) v1.get)⟩:Sl Tab):=by
  unfold zsy zmU
  rw[hu,hu']
  refine Eq.trans a1 ?_
  unfold zjf zmS
  rw[e];rfl
 have ep:zFF w (node:Int) (U:Int)=true:=by
  unfold zFF zmV
  rw[hu,hu',dqT (show 0≤(U:Int)+1/\(U:Int)+1=(U:Int)+1/\(U:Int)+1≤1000000 from ⟨by omega,rfl,by omega⟩),Bool.true_and]
  refine Eq.trans a2 ?_
  unfold zjg zmT
  rw[e,dqT (show 0≤(0:Int)/\(0:Int) < (v1.len:Int) by omega),dqT (show 0≤(node:Int)/\(node:Int) < (40:Int) by omega),dqT (show 0 < v1.len by omega)]
  simp only[Bool.true_and]
  exact b1
 refine⟨ep,by rw[es];exact b2.len,λ j hj=>?_⟩
 rw[es]
 have:=b2.done j (by omega) hj
 rwa[dqN] at this
end Go.Proofs
namespace Go.Proofs
open Go Go.Pm
set_option maxRecDepth 100000
set_option linter.unusedVariables false
attribute [local irreducible] Go.Pm.vcFun Go.Pm.vc Go.Pm.vcIter
section
variable {K:List PA->Prop}{n:Net}{iv0:Int}{zLQ:(Sl Tie)}{zKe:Nat->List PV}{X0:St->Prop}{P0:Int->(Sl Tie)->Bool}{S0:Int->(Sl Tie)->Net}
end
end Go.Proofs
namespace Go.Proofs
open Go Go.Pm
set_option maxRecDepth 100000
set_option linter.unusedVariables false
theorem zyF {α:Type}(n:Nat) (g:Nat->α) (x:α) (j:Nat):ziY n g (λ _=>x) j=if n≤j then x else g j:=by
 unfold ziY
 by_cases h:n≤j
 ·rw[dqP h,show Nat.ble n j=true from Nat.ble_eq_true_of_le h]
 ·rw[dqG h,show Nat.ble n j=false from Bool.eq_false_iff.2 λ k=>h (Nat.le_of_ble_eq_true k)]
def turn (t:Tie):Tie:=⟨t.From,t.To,w64 (0 - t.High),w64 (0 - t.Low)⟩
structure IsTurn (n m : Net) : Prop where
  nodes:m.Nodes=n.Nodes
  len:m.Ties.len=n.Ties.len
  tie:∀ j,j < n.Ties.len->m.Ties.get j=turn (n.Ties.get j)
end Go.Proofs
namespace Go.Proofs
open Go Go.Pm
set_option maxRecDepth 100000
set_option linter.unusedVariables false
def znu (n:Net) (u:Use) (a:Int):Option (Int×Int) :=
  if 0≤u.Tie/\u.Tie < n.Ties.len then
    (cond u.Back
      (if (n.Ties.get u.Tie.toNat).Low ≠ -1000000000000/\(n.Ties.get u.Tie.toNat).To=a then some ((n.Ties.get u.Tie.toNat).From,w64 (0 - (n.Ties.get u.Tie.toNat).Low)) else none)
      (if (n.Ties.get u.Tie.toNat).High ≠ 1000000000000/\(n.Ties.get u.Tie.toNat).From=a then some ((n.Ties.get u.Tie.toNat).To,(n.Ties.get u.Tie.toNat).High) else none))
  else none
def pvR (n : Net) (c : Sl Use) : Nat → Nat → Int → Int → Int × Int × Bool
  | 0,_,a,l=>(a,l,true)
  | m+1,i,a,l=>match znu n (c.get i) a with
    | none=>(0,0,false)
    | some (b,w)=>pvR n c m (i+1) b (w64 (l+w))
theorem zIo (n:Net) (hn:NetOk n) (c:Sl Use) (hc:c.len≤50):∀ (m k i:Nat) (a l:Int),i+m=c.len->m < k->ziw n c k a l (i:Int)=true/\zgL n c k a l (i:Int)=pvR n c m i a l:=by
  have hlen:=hn.len
  intro m
  induction m with
  | zero =>
    intro k i a l hi hk
    obtain⟨k,rfl⟩:∃ k',k=k'+1:=⟨k - 1,by omega⟩
    constructor
    · show ziv n c (ziw n c k) a l (i : Int) = true
      unfold ziv
      rw[dqF (show ¬ (i:Int) < (c.len:Int) by omega),dqB]
    · show ziu n c (zgL n c k) a l (i : Int) = _
      unfold ziu
      rw[dqF (show ¬ (i:Int) < (c.len:Int) by omega),dqB];rfl
  | succ m ih =>
    intro k i a l hi hk
    obtain⟨k,rfl⟩:∃ k',k=k'+1:=⟨k - 1,by omega⟩
    have hw:w64 ((i:Int)+(1:Int))=((i+1:Nat):Int):=by rw[zbr (by omega) (by omega)];omega
    have ih':=λ b w=>ih k (i+1) b w (by omega) (by omega)
    have hr:s81 (c.get i).Tie (0:Int) (w64 ((n.Ties.len:Int) - (1:Int)))=decide (0≤(c.get i).Tie/\(c.get i).Tie < n.Ties.len):=by
      rw[zkF,zbr (by omega) (by omega)]
      exact decide_eq_decide.2 (by omega)
    have hS : zgL n c (k + 1) a l (i : Int) = cond (!(decide (0 ≤ (c.get i).Tie ∧ (c.get i).Tie < n.Ties.len))) ((0:Int), (0:Int), false) (cond (c.get i).Back
        (cond (!((n.Ties.get (c.get i).Tie.toNat).Low != (-1000000000000:Int))) ((0:Int),(0:Int),false) (cond ((n.Ties.get (c.get i).Tie.toNat).To != a) ((0:Int),(0:Int),false) (pvR n c m (i+1) (n.Ties.get (c.get i).Tie.toNat).From (w64 (l+w64 (0 - (n.Ties.get (c.get i).Tie.toNat).Low))))))
        (cond (!((n.Ties.get (c.get i).Tie.toNat).High != (1000000000000:Int))) ((0:Int),(0:Int),false) (cond ((n.Ties.get (c.get i).Tie.toNat).From != a) ((0:Int),(0:Int),false) (pvR n c m (i+1) (n.Ties.get (c.get i).Tie.toNat).To (w64 (l+(n.Ties.get (c.get i).Tie.toNat).High)))))):=by
      rw[← (ih' _ _).2,← (ih' _ _).2,← hw]
      show ziu n c (zgL n c k) a l (i:Int)=_
      generalize zgL n c k=S
      unfold ziu zru zrr zrp znc s94 s95
      rw[dqT (show (i:Int) < (c.len:Int) by omega),dqA,dqN,hr]
    have hP:ziw n c (k+1) a l (i:Int)=true:=by
      show ziv n c (ziw n c k) a l (i:Int)=true
      unfold ziv zrv zrt zrq znd
      rw[dqT (show (i:Int) < (c.len:Int) by omega),dqA,dqN,hr,dqT (show 0≤(i:Int)/\(i:Int) < (c.len:Int) by omega),Bool.true_and,hw]
      simp only[(ih' _ _).1]
      by_cases hin:0≤(c.get i).Tie/\(c.get i).Tie < n.Ties.len
      · rw [dqT hin]
        generalize (c.get i).Back=b0
        simp only[Bool.not_true,dqB,Bool.true_and]
        cases b0
        · simp only [dqB]
          generalize (!((s94 (⟨(n.Ties.get (c.get i).Tie.toNat),(c.get i).Tie⟩:tie)).2))=b1
          generalize ((((s94 (⟨(n.Ties.get (c.get i).Tie.toNat),(c.get i).Tie⟩:tie)).1).from_) != a)=b2
          cases b1 <;> cases b2 <;> rfl
        · simp only [dqA]
          generalize (!((s95 _).2))=b1
          generalize ((((s95 _).1).from_) != a)=b2
          cases b1 <;> cases b2 <;> rfl
      · rw[dqF hin];rfl
    refine⟨hP,hS.trans ?_⟩
    show _=(match znu n (c.get i) a with | none=>(0,0,false) | some (b,w)=>pvR n c m (i+1) b (w64 (l+w)))
    unfold znu
    by_cases hin:0≤(c.get i).Tie/\(c.get i).Tie < n.Ties.len
    · rw [dqT hin, dqP hin, Bool.not_true, dqB]
      cases hb:(c.get i).Back
      · rw [dqB, dqB]
        by_cases h1:(n.Ties.get (c.get i).Tie.toNat).High=1000000000000
        · rw[show ((n.Ties.get (c.get i).Tie.toNat).High != (1000000000000:Int))=false by rw[h1];rfl,dqG (λ h=>h.1 h1)];rfl
        · rw [bne_iff_ne.2 h1]
          by_cases h2:(n.Ties.get (c.get i).Tie.toNat).From=a
          · rw[show ((n.Ties.get (c.get i).Tie.toNat).From != a)=false by rw[h2];exact bne_self_eq_false _,dqP ⟨h1,h2⟩];rfl
          · rw[bne_iff_ne.2 h2,dqG (λ h=>h2 h.2)];rfl
      · rw [dqA, dqA]
        by_cases h1:(n.Ties.get (c.get i).Tie.toNat).Low = -1000000000000
        · rw[show ((n.Ties.get (c.get i).Tie.toNat).Low != (-1000000000000:Int))=false by rw[h1];rfl,dqG (λ h=>h.1 h1)];rfl
        · rw [bne_iff_ne.2 h1]
          by_cases h2:(n.Ties.get (c.get i).Tie.toNat).To=a
          · rw[show ((n.Ties.get (c.get i).Tie.toNat).To != a)=false by rw[h2];exact bne_self_eq_false _,dqP ⟨h1,h2⟩];rfl
          · rw[bne_iff_ne.2 h2,dqG (λ h=>h2 h.2)];rfl
    · rw[dqF hin,dqG hin];rfl
def pv (n:Net) (a:Int) (c:Sl Use):Int×Int×Bool:=if (0≤a/\a < n.Nodes)/\c.len≤40 then pvR n c c.len 0 a 0 else (0,0,false)
theorem zIp {n:Net}(hn:NetOk n) (hs:s67 n=true) (a:Int) (c:Sl Use):p56 n a c=true/\s56 n a c=pv n a c:=by
 have hlen:=hn.len;have hn1:=hn.n1;have hn40:=hn.n40
 unfold p56 s56 pv
 rw[(zyj n (by omega)).1,hs,zkF,zbr (x:=n.Nodes - (1:Int)) (by omega) (by omega),decide_eq_decide.2 (show (0≤a/\a≤n.Nodes - 1)↔(0≤a/\a < n.Nodes) by omega)]
 by_cases ha:0≤a/\a < n.Nodes
 ·rw [dqT ha]
  by_cases hc:c.len≤40
  ·rw [dqF (show ¬ (c.len : Int) > (40:Int) by omega), dqP ⟨ha, hc⟩]
   obtain⟨k1,k2⟩:=zIo n hn c (by omega) c.len Fuel 0 a 0 (by omega) (by simp only[Fuel];omega)
   exact⟨k1,k2⟩
  ·rw [dqT (show (c.len : Int) > (40:Int) by omega), dqG (fun h => hc h.2)]
   exact⟨rfl,rfl⟩
 ·rw [dqF ha, dqG (fun h => ha h.1)]
  exact⟨rfl,rfl⟩
theorem ztQ {n:Net}(hn:NetOk n){u:Use}{a b w:Int}(h:znu n u a=some (b,w)):(0≤b/\b < n.Nodes)/\∃ e∈En n,e.u=a.toNat/\e.v=b.toNat/\e.w=w:=by
 unfold znu at h
 by_cases hin:0≤u.Tie/\u.Tie < n.Ties.len
 ·rw [dqP hin] at h
  have ht:=hn.tie u.Tie.toNat (by omega)
  cases hb:u.Back
  ·rw [hb, dqB] at h
   by_cases h1:(n.Ties.get u.Tie.toNat).High ≠ 1000000000000/\(n.Ties.get u.Tie.toNat).From=a
   ·rw [dqP h1] at h
    obtain⟨rfl,rfl⟩:=Prod.mk.inj (Option.some.inj h)
    exact⟨⟨ht.t0,ht.t1⟩,⟨(n.Ties.get u.Tie.toNat).From.toNat,(n.Ties.get u.Tie.toNat).To.toNat,(n.Ties.get u.Tie.toNat).High⟩,(zyy (a:=W n) hn).2 ⟨u.Tie.toNat,by show u.Tie.toNat < n.Ties.len;omega,rfl,.inl ⟨h1.1,rfl⟩⟩,by show (n.Ties.get u.Tie.toNat).From.toNat=_;rw[h1.2],rfl,rfl⟩
   ·rw[dqG h1] at h;cases h
  ·rw [hb, dqA] at h
   by_cases h1:(n.Ties.get u.Tie.toNat).Low ≠ -1000000000000/\(n.Ties.get u.Tie.toNat).To=a
   ·rw [dqP h1] at h
    obtain⟨rfl,rfl⟩:=Prod.mk.inj (Option.some.inj h)
    exact⟨⟨ht.f0,ht.f1⟩,⟨(n.Ties.get u.Tie.toNat).To.toNat,(n.Ties.get u.Tie.toNat).From.toNat,-(n.Ties.get u.Tie.toNat).Low⟩,(zyy (a:=W n) hn).2 ⟨u.Tie.toNat,by show u.Tie.toNat < n.Ties.len;omega,rfl,.inr ⟨h1.1,rfl⟩⟩,by show (n.Ties.get u.Tie.toNat).To.toNat=_;rw[h1.2],rfl,(zsX ht h1.1).symm⟩
   ·rw[dqG h1] at h;cases h
 ·rw[dqG hin] at h;cases h
theorem zIq {n:Net}(hn:NetOk n):∀ e∈En n,-1000000000≤e.w/\e.w≤1000000000:=(zFo (a:=W n) hn).w
theorem zIr {n:Net}(hn:NetOk n) (c:Sl Use):∀ (m i:Nat) (a l:Int),(0≤a/\a < n.Nodes)->-1000000000 * (i:Int)≤l->l≤1000000000 * (i:Int)->i+m≤50->(pvR n c m i a l).2.2=true ->
  (0≤(pvR n c m i a l).1/\(pvR n c m i a l).1 < n.Nodes)/\∃ d,zem (En n) a.toNat d (pvR n c m i a l).1.toNat/\(pvR n c m i a l).2.1=l+wt d:=by
 intro m
 induction m with
 | zero=>intro i a l ha _ _ _ _;exact⟨ha,[],rfl,(Int.add_zero l).symm⟩
 | succ m ih =>
  intro i a l ha h1 h2 h3 h4
  have e:pvR n c (m+1) i a l=(match znu n (c.get i) a with | none=>(0,0,false) | some (b,w)=>pvR n c m (i+1) b (w64 (l+w))):=rfl
  cases hu:znu n (c.get i) a with
  | none=>rw[e,hu] at h4;cases h4
  | some p =>
   obtain⟨b,w⟩:=p
   rw[e,hu] at h4
   rw[e,hu]
   obtain⟨hb,f,hf,f1,f2,f3⟩:=ztQ hn hu
   have hfw:=zIq hn f hf
   have hlw:w64 (l+w)=l+w:=zbr (by omega) (by omega)
   have h4':(pvR n c m (i+1) b (w64 (l+w))).2.2=true:=h4
   obtain⟨k1,d,k2,k3⟩:=ih (i+1) b (w64 (l+w)) hb (by rw[hlw];omega) (by rw[hlw];omega) (by omega) h4'
   refine⟨k1,f :: d,⟨hf,f1,by rw[f2];exact k2⟩,?_⟩
   show (pvR n c m (i+1) b (w64 (l+w))).2.1=l+(f.w+wt d)
   rw[k3,hlw,f3];omega
theorem zKf {n:Net}(hn:NetOk n){a:Int}{c:Sl Use}(h:(pv n a c).2.2=true):(0≤a/\a < n.Nodes)/\(0≤(pv n a c).1/\(pv n a c).1 < n.Nodes)/\∃ d,zem (En n) a.toNat d (pv n a c).1.toNat/\(pv n a c).2.1=wt d:=by
 unfold pv at h ⊢
 by_cases hc:(0≤a/\a < n.Nodes)/\c.len≤40
 ·rw [dqP hc] at h ⊢
  obtain⟨k1,d,k2,k3⟩:=zIr hn c c.len 0 a 0 hc.1 (by omega) (by omega) (by omega) h
  exact⟨hc.1,k1,d,k2,by rw[k3];omega⟩
 ·rw[dqG hc] at h;cases h
end Go.Proofs
namespace Go.Proofs
open Go Go.Pm
set_option maxRecDepth 100000
set_option linter.unusedVariables false
theorem zyG (v:Sl Int) (hv:v.len≤1000):zIJ v=true:=by
 have key:∀ (m k i:Nat),i+m=v.len->m < k->zhe v k (i:Int)=true:=by
  intro m
  induction m with
  | zero =>
   intro k i hi hk
   obtain⟨k,rfl⟩:∃ k',k=k'+1:=⟨k - 1,by omega⟩
   show zf9 v (zhe v k) (i:Int)=true
   unfold zf9
   rw[dqF (show ¬ (i:Int) < (v.len:Int) by omega),dqB]
  | succ m ih =>
   intro k i hi hk
   obtain⟨k,rfl⟩:∃ k',k=k'+1:=⟨k - 1,by omega⟩
   show zf9 v (zhe v k) (i:Int)=true
   unfold zf9
   rw[dqT (show (i:Int) < (v.len:Int) by omega),dqA,dqT (show 0≤(i:Int)/\(i:Int) < (v.len:Int) by omega),Bool.true_and,zea (n:=v.len) (by omega) (by omega),ih k (i+1) (by omega) (by omega)]
   cases (v.get ((i:Int)).toNat != (0:Int)) <;> rfl
 exact key v.len Fuel 0 (by omega) (by simp only[Fuel];omega)
theorem zyH (a b:Sl step) (ha:a.len≤1000):zG5 a b=true:=by
 have key:∀ (m k i:Nat),i+m=a.len->m < k->zhf k a b a (a.len:Int) (i:Int)=true:=by
  intro m
  induction m with
  | zero =>
   intro k i hi hk
   obtain⟨k,rfl⟩:∃ k',k=k'+1:=⟨k - 1,by omega⟩
   show zgb (zhf k) a b a (a.len:Int) (i:Int)=true
   unfold zgb
   rw[dqF (show ¬ (i:Int) < (a.len:Int) by omega),dqB]
  | succ m ih =>
   intro k i hi hk
   obtain⟨k,rfl⟩:∃ k',k=k'+1:=⟨k - 1,by omega⟩
   show zgb (zhf k) a b a (a.len:Int) (i:Int)=true
   unfold zgb
   rw[dqT (show (i:Int) < (a.len:Int) by omega),dqA,dqT (show 0≤(i:Int)/\(i:Int) < (a.len:Int) by omega),Bool.true_and]
   by_cases hb:(i:Int) ≥ (b.len:Int)
   ·rw[dqT hb,dqA]
   ·rw [dqF hb, dqB]
    unfold zmX zmW zIK
    rw[dqT (show 0≤(i:Int)/\(i:Int) < (b.len:Int) by omega),zyG _ (by show 2≤1000;omega),zea (n:=a.len) (by omega) (by omega),ih k (i+1) (by omega) (by omega)]
    generalize (zG2 _ _ != (0:Int))=t
    cases t <;> rfl
 exact key a.len Fuel 0 (by omega) (by simp only[Fuel];omega)
def IsS (v:Sl step) (L:List step):Prop:=v.len=L.length/\∀ q (h:q < L.length),v.get q=L[q]
theorem zFw {v:Sl step}{L:List step}(h:IsS v L) (y:step):IsS ⟨v.len+1,ziY v.len v.get (λ _=>y)⟩ (L ++ [y]):=by
 refine⟨by show v.len+1=_;rw[List.length_append,h.1];rfl,λ k hk=>?_⟩
 show ziY v.len v.get (λ _=>y) k=_
 rw[zyF]
 rw[List.length_append] at hk
 have h1:=h.1
 by_cases hv:v.len≤k
 ·rw [dqP hv]
  have:k=L.length:=by simp only[List.length_cons,List.length_nil] at hk;omega
  subst this
  simp
 ·rw [dqG hv, h.2 k (by omega)]
  rw[List.getElem_append_left (by omega)]
def ChS (S : List step) : Int → List step → Int → Prop
  | a,[],b=>a=b
  | a,y :: l,b=>y∈S/\y.from_=a/\ChS S y.to l b
theorem zFx {S:List step}{L:List step}{y:step} : ∀ {a b:Int},ChS S a L b->y∈S->y.from_=b->ChS S a (L ++ [y]) y.to:=by
 induction L with
 | nil=>intro a b h hy hf;exact⟨hy,hf.trans h.symm,rfl⟩
 | cons z l ih=>rintro a b ⟨h1,h2,h3⟩ hy hf;exact⟨h1,h2,ih h3 hy hf⟩
def wtS : List step → Int
  | []=>0
  | y :: l=>y.length+wtS l
theorem zFy (L:List step) (y:step):wtS (L ++ [y])=wtS L+y.length:=by
 induction L with
 | nil=>show y.length+0=0+y.length;omega
 | cons z l ih=>show z.length+wtS (l ++ [y])=z.length+wtS l+y.length;rw[ih];omega
def zyQ (w:web) (v:Sl step):Prop:=∃ (a:Int) (L:List step),(0≤a/\a < w.Net.Nodes)/\IsS v L/\ChS (Ws w) a L a/\wtS L < 0/\L.length≤40
theorem znv {w:web}{v:Sl step}(h:zyQ w v):1≤v.len/\v.len≤40:=by
 obtain⟨a,L,_,h1,_,h2,h3⟩:=h
 cases L with
 | nil=>exact absurd h2 (by show ¬ (0:Int) < 0;omega)
 | cons y l=>have:=h1.1;simp only[List.length_cons] at this h3;omega
theorem zAy {w:web}{node:Int}{d:zb2}{v:Nat}{x:Int}(hn:NetOk w.Net) (h:hop (hF w node) d v=some x):∃ y∈Ws w,node≤y.from_/\node≤y.to/\y.from_.toNat=v/\∃ z,d y.to.toNat=some z/\x=z+y.length:=by
 obtain⟨e,he,h1,z,h2,h3⟩:=zIm h
 obtain⟨y,hy,rfl⟩:=List.mem_map.1 he
 obtain⟨hy1,hy2⟩:=List.mem_filter.1 hy
 unfold okY at hy2
 rw[Bool.and_eq_true] at hy2
 exact⟨y,hy1,of_decide_eq_true hy2.1,of_decide_eq_true hy2.2,h1,z,h2,h3⟩
end Go.Proofs
namespace Go.Proofs
open Go Go.Pm
set_option maxRecDepth 100000
set_option linter.unusedVariables false
abbrev PS7:=Int->Bool->Sl step->Int->Int->Sl Tab->Int->Int->Int->Sl (Sl Tab)->Sl step->Sl step
theorem zAz (w : web) {N : Nat} (hN : N ≤ 40) (S5 : Int → Bool → Sl step → Int → Sl (Sl Tab) → Sl step) (P5 : Int → Bool → Sl step → Int → Sl (Sl Tab) → Bool) (S6 : PS7) (P6 : Int → Bool → Sl step → Int → Int → Sl Tab → Int → Int → Int → Sl (Sl Tab) → Sl step → Bool) (v4 : Sl (Sl Tab)) (u : Int) (bb : Bool) (best : Sl step) (t i : Int) (h : Sl Tab) (at_ len : Int) (k : Nat) (hk : k < h.len) (d : zb2) {B : Int} (hB : B ≤ 90000000000) (hd : Rh N (h.get k) d B) (hl0 : -90000000000 ≤ len) (hl1 : len ≤ 90000000000) (v21 : Sl (Sl Tab)) (now : Sl step) (hnow : now.len ≤ 1000) :
  ∀ (l:List step),(∀ y∈l,StOk y N)->(∃ y∈l,y.from_=at_/\i≤y.to/\∃ x,d y.to.toNat=some x/\len+y.length+x < 0) ->
  ∃ y∈l,(y.from_=at_/\i≤y.to/\∃ x,d y.to.toNat=some x/\len+y.length+x < 0) /\
   zcU S5 S6 w v4 l u bb best t i h at_ len (k:Int) v21 now=S6 u bb best t i h y.to (len+y.length) (w64 ((k:Int) - (1:Int))) v21 (⟨(now.len+1),(ziY now.len now.get (λ _=>y))⟩:Sl step) /\
   zcV P5 P6 w v4 l u bb best t i h at_ len (k:Int) v21 now=P6 u bb best t i h y.to (len+y.length) (w64 ((k:Int) - (1:Int))) v21 (⟨(now.len+1),(ziY now.len now.get (λ _=>y))⟩:Sl step):=by
 intro l
 induction l with
 | nil=>rintro _ ⟨y,hy,_⟩;cases hy
 | cons y l ih =>
  intro hl hex
  have hy:=hl y (List.mem_cons_self ..)
  have f0:=hy.f0;have f1:=hy.f1;have t0:=hy.t0;have t1:=hy.t1;have l0:=hy.l0;have l1:=hy.l1
  obtain⟨⟨d1,d2⟩,d3⟩:=hd y.to.toNat (by omega)
  have e1:0+y.to.toNat * 2+0=y.to.toNat * 2:=by omega
  have hS:zcU S5 S6 w v4 (y :: l) u bb best t i h at_ len (k:Int) v21 now=cond (y.from_ == at_) (cond (decide (i≤y.to)) (cond (!(nvr (tg 80 (h.get ((k:Int)).toNat) (0+y.to.toNat * 2+0)) (tg 80 (h.get ((k:Int)).toNat) (0+y.to.toNat * 2+0+1)))) (cond (decide (w64 (w64 (len+y.length)+tg 80 (h.get ((k:Int)).toNat) (0+y.to.toNat * 2+0)) < (0:Int))) (S6 u bb best t i h y.to (w64 (len+y.length)) (w64 ((k:Int) - (1:Int))) v21 (⟨(now.len+1),(ziY now.len now.get (λ _=>y))⟩:Sl step)) (zcU S5 S6 w v4 l u bb best t i h at_ len (k:Int) v21 now)) (zcU S5 S6 w v4 l u bb best t i h at_ len (k:Int) v21 now)) (zcU S5 S6 w v4 l u bb best t i h at_ len (k:Int) v21 now)) (zcU S5 S6 w v4 l u bb best t i h at_ len (k:Int) v21 now):=by
   show zqc S5 S6 w v4 y (zcU S5 S6 w v4 l) u bb best t i h at_ len (k:Int) v21 now=_
   generalize zcU S5 S6 w v4 l=S
   rfl
  have hP:zcV P5 P6 w v4 (y :: l) u bb best t i h at_ len (k:Int) v21 now=cond (y.from_ == at_) (cond (decide (i≤y.to)) (decide (0≤(k:Int)/\(k:Int) < (h.len:Int)) && (decide (0≤y.to/\y.to < (40:Int)) && cond (!(nvr (tg 80 (h.get ((k:Int)).toNat) (0+y.to.toNat * 2+0)) (tg 80 (h.get ((k:Int)).toNat) (0+y.to.toNat * 2+0+1)))) (decide (0≤(k:Int)/\(k:Int) < (h.len:Int)) && (decide (0≤y.to/\y.to < (40:Int)) && cond (decide (w64 (w64 (len+y.length)+tg 80 (h.get ((k:Int)).toNat) (0+y.to.toNat * 2+0)) < (0:Int))) (decide ((now.len+1) * 40≤140737488355328/\now.len+1≤9223372036854775807) && P6 u bb best t i h y.to (w64 (len+y.length)) (w64 ((k:Int) - (1:Int))) v21 (⟨(now.len+1),(ziY now.len now.get (λ _=>y))⟩:Sl step)) (zcV P5 P6 w v4 l u bb best t i h at_ len (k:Int) v21 now))) (zcV P5 P6 w v4 l u bb best t i h at_ len (k:Int) v21 now))) (zcV P5 P6 w v4 l u bb best t i h at_ len (k:Int) v21 now)) (zcV P5 P6 w v4 l u bb best t i h at_ len (k:Int) v21 now):=by
   show zqd P5 P6 w v4 y (zcV P5 P6 w v4 l) u bb best t i h at_ len (k:Int) v21 now=_
   generalize zcV P5 P6 w v4 l=S
   rfl
  rw[dqN,e1,zdc (by omega),zdc (by omega),zBI hd (by omega) (show y.to.toNat < N by omega),zbr (x:=len+y.length) (by omega) (by omega)] at hS hP
  rw[dqT (show 0≤(k:Int)/\(k:Int) < (h.len:Int) by omega),dqT (show 0≤y.to/\y.to < (40:Int) by omega),dqT (show (now.len+1) * 40≤140737488355328/\now.len+1≤9223372036854775807 by omega)] at hP
  simp only[Bool.true_and] at hP
  have next : ¬ (y.from_=at_/\i≤y.to/\∃ x,d y.to.toNat=some x/\len+y.length+x < 0) ->
    zcU S5 S6 w v4 (y :: l) u bb best t i h at_ len (k:Int) v21 now=zcU S5 S6 w v4 l u bb best t i h at_ len (k:Int) v21 now->zcV P5 P6 w v4 (y :: l) u bb best t i h at_ len (k:Int) v21 now=zcV P5 P6 w v4 l u bb best t i h at_ len (k:Int) v21 now->∃ y'∈y :: l,(y'.from_=at_/\i≤y'.to/\∃ x,d y'.to.toNat=some x/\len+y'.length+x < 0) /\
   zcU S5 S6 w v4 (y :: l) u bb best t i h at_ len (k:Int) v21 now=S6 u bb best t i h y'.to (len+y'.length) (w64 ((k:Int) - (1:Int))) v21 (⟨(now.len+1),(ziY now.len now.get (λ _=>y'))⟩:Sl step) /\
   zcV P5 P6 w v4 (y :: l) u bb best t i h at_ len (k:Int) v21 now=P6 u bb best t i h y'.to (len+y'.length) (w64 ((k:Int) - (1:Int))) v21 (⟨(now.len+1),(ziY now.len now.get (λ _=>y'))⟩:Sl step):=λ hno hs hp=>by
   obtain⟨z,hz,hc⟩:=hex
   have hzl:z∈l:=(List.mem_cons.1 hz).resolve_left (λ e=>hno (e ▸ hc))
   obtain⟨y',a1,a2,a3,a4⟩:=ih (λ q hq=>hl q (List.mem_cons_of_mem _ hq)) ⟨z,hzl,hc⟩
   exact⟨y',List.mem_cons_of_mem _ a1,a2,hs.trans a3,hp.trans a4⟩
  by_cases c1:y.from_=at_
  ·rw [show (y.from_ == at_) = true from beq_iff_eq.2 c1] at hS hP
   by_cases c2:i≤y.to
   ·rw [dqT c2] at hS hP
    cases hdu:d y.to.toNat with
    | none =>
     rw[hdu] at hS hP
     exact next (λ ⟨_,_,x,hx,_⟩=>by rw[hdu] at hx;cases hx) hS hP
    | some x =>
     have hbx:=d3 x hdu
     rw[hdu] at hS hP d1
     have d1':h.get k (y.to.toNat * 2)=x:=d1
     rw[d1',zbr (x:=len+y.length+x) (by omega) (by omega)] at hS hP
     by_cases c3:len+y.length+x < 0
     ·rw [dqT c3] at hS hP
      exact⟨y,List.mem_cons_self ..,⟨c1,c2,x,hdu,c3⟩,hS,hP⟩
     ·rw [dqF c3] at hS hP
      exact next (λ ⟨_,_,x',hx',hx''⟩=>by rw[hdu] at hx';cases hx';exact c3 hx'') hS hP
   ·rw [dqF c2] at hS hP
    exact next (λ hh=>c2 hh.2.1) hS hP
  ·rw [show (y.from_ == at_) = false from beq_eq_false_iff_ne.2 c1] at hS hP
   exact next (λ hh=>c1 hh.1) hS hP
end Go.Proofs
namespace Go.Proofs
open Go Go.Pm
set_option maxRecDepth 100000
set_option linter.unusedVariables false
structure HsOk (w : web) (hs : Sl (Sl Tab)) : Prop where
  len:hs.len=w.Net.Nodes.toNat
  at_:∀ i,i < w.Net.Nodes.toNat->(hs.get i).len=w.Net.Nodes.toNat+1/\∀ j,j≤w.Net.Nodes.toNat->Rh w.Net.Nodes.toNat ((hs.get i).get j) (hops (hF w (i:Int)) i j) (j * 1000000000)
def zKR (S5:Int->Bool->Sl step->Int->Sl (Sl Tab)->Sl step) (w:web) (v4:Sl (Sl Tab)) (u:Int) (bb:Bool) (best:Sl step) (t:Int) (v21:Sl (Sl Tab)) (now:Sl step):Sl step :=
 cond bb (zh1 S5 w v4 u bb best t true v21 now) (zh1 S5 w v4 u bb best t (decide ((zDa now best) < (0:Int))) v21 now)
def zFe (P5:Int->Bool->Sl step->Int->Sl (Sl Tab)->Bool) (w:web) (v4:Sl (Sl Tab)) (u:Int) (bb:Bool) (best:Sl step) (t:Int) (v21:Sl (Sl Tab)) (now:Sl step):Bool :=
 decide (bb=true∨best.len ≠ 0) && cond bb (zh2 P5 w v4 u bb best t true v21 now) (decide (zG5 now best=true) && zh2 P5 w v4 u bb best t (decide ((zDa now best) < (0:Int))) v21 now)
theorem walk (w : web) (hn : NetOk w.Net) (hs : Sl (Sl Tab)) (hh : HsOk w hs) (S5 : Int → Bool → Sl step → Int → Sl (Sl Tab) → Sl step) (P5 : Int → Bool → Sl step → Int → Sl (Sl Tab) → Bool) (v4 : Sl (Sl Tab)) (u : Int) (bb : Bool) (best : Sl step) (t : Int) (i : Nat) (hi : i < w.Net.Nodes.toNat) (v21 : Sl (Sl Tab)) :
  ∀ (m fu:Nat) (a len:Int) (now:Sl step) (L:List step),m < fu->(0≤a/\a < w.Net.Nodes)->L.length+m≤40->m≤w.Net.Nodes.toNat->-1000000000 * (L.length:Int)≤len->len≤1000000000 * (L.length:Int) ->
   (∃ x,hops (hF w (i:Int)) i m a.toNat=some x/\len+x < 0)->IsS now L->ChS (Ws w) (i:Int) L a->wtS L=len ->
   ∃ now' L',zgE S5 w v4 fu u bb best t (i:Int) (hs.get i) a len ((m:Int) - 1) v21 now=zKR S5 w v4 u bb best t v21 now'/\zgF P5 w v4 fu u bb best t (i:Int) (hs.get i) a len ((m:Int) - 1) v21 now=zFe P5 w v4 u bb best t v21 now' /\
    IsS now' L'/\ChS (Ws w) (i:Int) L' (i:Int)/\wtS L' < 0/\L'.length=L.length+m:=by
 have hn40:=hn.n40;have hlen:=hn.len
 obtain⟨q1,q2⟩:=zkM w (by omega)
 obtain⟨hl1,hat⟩:=hh.at_ i hi
 intro m
 induction m with
 | zero =>
  intro fu a len now L hf ha hL hm hl0 hl1' hx hnow hch hwt
  obtain⟨fu,rfl⟩:∃ k',fu=k'+1:=⟨fu - 1,by omega⟩
  obtain⟨x,hx1,hx2⟩:=hx
  have hx1':zoR i a.toNat=some x:=hx1
  unfold zoR at hx1'
  have hai:a.toNat=i:=by
   by_cases hq:a.toNat=i
   ·exact hq
   ·rw[dqG hq] at hx1';cases hx1'
  rw[dqP hai] at hx1'
  have hx0:(0:Int)=x:=Option.some.inj hx1'
  have hae:a=(i:Int):=by omega
  subst hae
  refine⟨now,L,?_,?_,hnow,hch,by omega,rfl⟩
  ·show zh3 S5 w v4 (zgE S5 w v4 fu) u bb best t (i : Int) (hs.get i) (i : Int) len (((0 : Nat) : Int) - 1) v21 now = _
   unfold zh3
   rw[dqF (show ¬ ((0:Nat):Int) - 1 ≥ 0 by omega),dqB];rfl
  ·show zh4 P5 w v4 (zgF P5 w v4 fu) u bb best t (i : Int) (hs.get i) (i : Int) len (((0 : Nat) : Int) - 1) v21 now = _
   unfold zh4
   rw[dqF (show ¬ ((0:Nat):Int) - 1 ≥ 0 by omega),dqB];rfl
 | succ m ih =>
  intro fu a len now L hf ha hL hm hl0 hl1' hx hnow hch hwt
  obtain⟨fu,rfl⟩:∃ k',fu=k'+1:=⟨fu - 1,by omega⟩
  obtain⟨x,hx1,hx2⟩:=hx
  obtain⟨y,hy,hy1,hy2,hy3,z,hz1,hz2⟩:=zAy hn (show hop (hF w (i:Int)) (hops (hF w (i:Int)) i m) a.toNat=some x from hx1)
  have hyo:=zyx hn hy
  have f0:=hyo.f0
  have hya:y.from_=a:=by omega
  have hnl:=hnow.1
  obtain⟨y',b1,⟨b2,b3,x',b4,b5⟩,b6,b7⟩:=zAz w (N:=w.Net.Nodes.toNat) (by omega) S5 P5 (zgE S5 w v4 fu) (zgF P5 w v4 fu) v4 u bb best t (i:Int) (hs.get i) a len m (by omega) (hops (hF w (i:Int)) i m) (B:=m * 1000000000) (by omega) (hat m (by omega)) (by omega) (by omega) v21 now (by omega) (Ws w) (λ y hy=>zyx hn hy) ⟨y,hy,hya,hy2,z,hz1,by omega⟩
  have hyo':=zyx hn b1
  have t0:=hyo'.t0;have t1:=hyo'.t1;have l0:=hyo'.l0;have l1:=hyo'.l1
  have hw:w64 ((m:Int) - (1:Int))=(m:Int) - 1:=zbr (by omega) (by omega)
  rw[hw] at b6 b7
  obtain⟨now',L',c1,c2,c3,c4,c5,c6⟩:=ih fu y'.to (len+y'.length) (⟨(now.len+1),(ziY now.len now.get (λ _=>y'))⟩:Sl step) (L ++ [y']) (by omega) ⟨t0,by omega⟩ (by simp only[List.length_append,List.length_cons,List.length_nil];omega) (by omega) (by simp only[List.length_append,List.length_cons,List.length_nil];omega) (by simp only[List.length_append,List.length_cons,List.length_nil];omega) ⟨x',b4,b5⟩ (zFw hnow y') (zFx hch b1 b2) (by rw[zFy,hwt])
  refine⟨now',L',?_,?_,c3,c4,c5,by rw[c6];simp only[List.length_append,List.length_cons,List.length_nil];omega⟩
  ·rw [← c1, ← b6]
   show zh3 S5 w v4 (zgE S5 w v4 fu) u bb best t (i:Int) (hs.get i) a len (((m+1:Nat):Int) - 1) v21 now=_
   rw[show ((m+1:Nat):Int) - 1=(m:Int) by omega]
   unfold zh3 zqe
   rw[dqT (show (m:Int) ≥ 0 by omega),dqA,q2]
  ·rw [← c2, ← b7]
   show zh4 P5 w v4 (zgF P5 w v4 fu) u bb best t (i:Int) (hs.get i) a len (((m+1:Nat):Int) - 1) v21 now=_
   rw[show ((m+1:Nat):Int) - 1=(m:Int) by omega]
   unfold zh4 zqf
   rw[dqT (show (m:Int) ≥ 0 by omega),dqA,q1,q2];rfl
def neg (hs:Sl (Sl Tab)) (u i:Nat):Prop:=((hs.get i).get u) (i * 2) < 0
theorem zyI (w:web) (hn:NetOk w.Net) (hs:Sl (Sl Tab)) (hh:HsOk w hs) (u:Nat) (hu1:1≤u) (hu:u≤w.Net.Nodes.toNat):∀ (m k i:Nat) (bb:Bool) (best:Sl step),i+m=w.Net.Nodes.toNat->m < k->(bb=true∨(bb=false/\zyQ w best)) ->
  zdM w hs k (u:Int) bb best (i:Int) hs=true/\((bb=false∨∃ j,i≤j/\j < w.Net.Nodes.toNat/\neg hs u j)->zyQ w (zdL w hs k (u:Int) bb best (i:Int) hs)):=by
 have hn40:=hn.n40
 have hhl:=hh.len
 intro m
 induction m with
 | zero =>
  intro k i bb best hi hk hb
  obtain⟨k,rfl⟩:∃ k',k=k'+1:=⟨k - 1,by omega⟩
  have e1:zdM w hs (k+1) (u:Int) bb best (i:Int) hs=true:=by
   show zh6 w hs (zdM w hs k) (u:Int) bb best (i:Int) hs=true
   unfold zh6
   rw[dqF (show ¬ (i:Int) < (hs.len:Int) by omega),dqB]
  have e2:zdL w hs (k+1) (u:Int) bb best (i:Int) hs=best:=by
   show zh5 w hs (zdL w hs k) (u:Int) bb best (i:Int) hs=best
   unfold zh5
   rw[dqF (show ¬ (i:Int) < (hs.len:Int) by omega),dqB]
  refine⟨e1,λ h=>?_⟩
  rw[e2]
  rcases h with h | ⟨j,h1,h2,_⟩
  ·rcases hb with hb | hb
   ·rw[hb] at h;cases h
   ·exact hb.2
  ·omega
 | succ m ih =>
  intro k i bb best hi hk hb
  obtain⟨k,rfl⟩:∃ k',k=k'+1:=⟨k - 1,by omega⟩
  have hw:w64 ((i:Int)+(1:Int))=((i+1:Nat):Int):=by rw[zbr (by omega) (by omega)];omega
  have hwu:w64 ((u:Int) - (1:Int))=(u:Int) - 1:=zbr (by omega) (by omega)
  obtain⟨hl1,hat⟩:=hh.at_ i (by omega)
  have eL:tL ((hs.get i).get u) (i:Int)=((hs.get i).get u) (i * 2):=by
   show tg 80 _ (0+((i:Int)).toNat * 2+0)=_
   rw[dqN,show 0+i * 2+0=i * 2 by omega,zdc (by omega)]
  have hS:zdL w hs (k+1) (u:Int) bb best (i:Int) hs=cond (decide (((hs.get i).get u) (i * 2) ≥ 0)) (zdL w hs k (u:Int) bb best ((i+1:Nat):Int) hs) (zqg (zdL w hs k) w hs (u:Int) bb best (i:Int) (i:Int) (hs.get i) (i:Int) (0:Int) ((u:Int) - 1) hs (⟨0,(λ _=>default)⟩:Sl step)):=by
   rw[← hw,← eL,← hwu]
   show zh5 w hs (zdL w hs k) (u:Int) bb best (i:Int) hs=_
   unfold zh5
   rw[dqT (show (i:Int) < (hs.len:Int) by omega),dqA,dqN,dqN]
  have hP:zdM w hs (k+1) (u:Int) bb best (i:Int) hs=cond (decide (((hs.get i).get u) (i * 2) ≥ 0)) (zdM w hs k (u:Int) bb best ((i+1:Nat):Int) hs) (zqh (zdM w hs k) w hs (u:Int) bb best (i:Int) (i:Int) (hs.get i) (i:Int) (0:Int) ((u:Int) - 1) hs (⟨0,(λ _=>default)⟩:Sl step)):=by
   rw[← hw,← eL,← hwu]
   show zh6 w hs (zdM w hs k) (u:Int) bb best (i:Int) hs=_
   unfold zh6
   rw[dqT (show (i:Int) < (hs.len:Int) by omega),dqA,dqN,dqN,dqT (show 0≤(i:Int)/\(i:Int) < (hs.len:Int) by omega),dqT (show i < hs.len by omega),dqT (show 0≤(u:Int)/\(u:Int) < ((hs.get i).len:Int) by omega),dqT (show 0≤(i:Int)/\(i:Int) < (40:Int) by omega)];rfl
  by_cases hneg:((hs.get i).get u) (i * 2) ≥ 0
  ·rw [dqT hneg, dqA] at hS hP
   obtain⟨k1,k2⟩:=ih k (i+1) bb best (by omega) (by omega) hb
   rw[hS,hP]
   refine⟨k1,λ h=>k2 ?_⟩
   rcases h with h | ⟨j,h1,h2,h3⟩
   ·exact .inl h
   ·by_cases hji : j = i
    ·subst hji;exact absurd h3 (Int.not_lt.2 hneg)
    ·exact .inr ⟨j,by omega,h2,h3⟩
  ·rw [dqF hneg, dqB] at hS hP
   obtain⟨⟨g1,_⟩,_⟩:=hat u hu i (by omega)
   have hx:∃ x,hops (hF w (i:Int)) i u ((i:Int)).toNat=some x/\(0:Int)+x < 0:=by
    rw[dqN]
    cases hd:hops (hF w (i:Int)) i u i with
    | none=>rw[hd] at g1;have g1':((hs.get i).get u) (i * 2)=1000000000000:=g1;omega
    | some x=>rw[hd] at g1;have g1':((hs.get i).get u) (i * 2)=x:=g1;exact⟨x,rfl,by omega⟩
   obtain⟨now,L,c1,c2,c3,c4,c5,c6⟩:=walk w hn hs hh (zdL w hs k) (zdM w hs k) hs (u:Int) bb best (i:Int) i (by omega) hs u Fuel (i:Int) 0 (⟨0,(λ _=>default)⟩:Sl step) [] (by simp only[Fuel];omega) ⟨by omega,by omega⟩ (by show 0+u≤40;omega) hu (by show -1000000000 * ((0:Nat):Int)≤0;omega) (by show (0:Int)≤1000000000 * ((0:Nat):Int);omega) hx ⟨rfl,λ q hq=>absurd hq (Nat.not_lt_zero _)⟩ rfl rfl
   have c6':L.length=u:=by rw[c6];show 0+u=u;omega
   have hT:zyQ w now:=⟨(i:Int),L,⟨by omega,by omega⟩,c3,c4,c5,by omega⟩
   have hnl:=znv hT
   rw[hS,hP]
   show zgF (zdM w hs k) w hs Fuel (u:Int) bb best (i:Int) (i:Int) (hs.get i) (i:Int) (0:Int) ((u:Int) - 1) hs (⟨0,(λ _=>default)⟩:Sl step)=true/\(_->zyQ w (zgE (zdL w hs k) w hs Fuel (u:Int) bb best (i:Int) (i:Int) (hs.get i) (i:Int) (0:Int) ((u:Int) - 1) hs (⟨0,(λ _=>default)⟩:Sl step)))
   rw[c1,c2]
   unfold zKR zFe zh1 zh2
   rw[hw]
   obtain⟨k1,k2⟩:=ih k (i+1) false now (by omega) (by omega) (.inr ⟨rfl,hT⟩)
   rcases hb with rfl | ⟨rfl,hbt⟩
   ·rw [dqT (show (true = true ∨ best.len ≠ 0) from .inl rfl)]
    simp only[dqA,Bool.true_and]
    exact⟨k1,λ _=>k2 (.inl rfl)⟩
   ·have hbl := znv hbt
    obtain⟨j1,j2⟩:=ih k (i+1) false best (by omega) (by omega) (.inr ⟨rfl,hbt⟩)
    rw[dqT (show (false=true∨best.len ≠ 0) from .inr (by omega)),zyH now best (by omega)]
    simp only[dqB,Bool.true_and,decide_true]
    cases decide (zDa now best < 0)
    ·simp only[dqB];exact⟨j1,λ _=>j2 (.inl rfl)⟩
    ·simp only[dqA];exact⟨k1,λ _=>k2 (.inl rfl)⟩
theorem zBJ (w:web) (hn:NetOk w.Net) (hs:Sl (Sl Tab)) (hh:HsOk w hs) (u:Nat) (hu1:1≤u) (hu:u≤w.Net.Nodes.toNat):zh8 w (u:Int) hs=true/\((∃ j,j < w.Net.Nodes.toNat/\neg hs u j)->zyQ w (zh7 w (u:Int) hs)):=by
 obtain⟨a,b⟩:=zyI w hn hs hh u hu1 hu w.Net.Nodes.toNat Fuel 0 true (⟨0,(λ _=>default)⟩:Sl step) (by omega) (by have:=hn.n40;simp only[Fuel];omega) (.inl rfl)
 exact⟨a,λ ⟨j,h1,h2⟩=>b (.inr ⟨j,Nat.zero_le _,h1,h2⟩)⟩
theorem zyJ (w:web) (hn:NetOk w.Net) (hs:Sl (Sl Tab)) (hh:HsOk w hs) (S2:Int->Sl step) (P2:Int->Bool) (u:Nat) (hu1:1≤u) (hu:u≤w.Net.Nodes.toNat):∀ (m k i:Nat),i+m=w.Net.Nodes.toNat->m < k ->
  (zeS P2 w hs k (u:Int) (i:Int)=true/\zyQ w (zeR S2 w hs k (u:Int) (i:Int))) ∨
  ((¬ ∃ j,i≤j/\j < w.Net.Nodes.toNat/\neg hs u j)/\zeS P2 w hs k (u:Int) (i:Int)=P2 (w64 ((u:Int)+(1:Int)))/\zeR S2 w hs k (u:Int) (i:Int)=S2 (w64 ((u:Int)+(1:Int)))):=by
 have hn40:=hn.n40
 have hhl:=hh.len
 intro m
 induction m with
 | zero =>
  intro k i hi hk
  obtain⟨k,rfl⟩:∃ k',k=k'+1:=⟨k - 1,by omega⟩
  refine .inr ⟨λ ⟨j,h1,h2,_⟩=>by omega,?_,?_⟩
  ·show zia P2 w hs (zeS P2 w hs k) (u : Int) (i : Int) = _
   unfold zia
   rw[dqF (show ¬ (i:Int) < (hs.len:Int) by omega),dqB]
  ·show zh9 S2 w hs (zeR S2 w hs k) (u : Int) (i : Int) = _
   unfold zh9
   rw[dqF (show ¬ (i:Int) < (hs.len:Int) by omega),dqB]
 | succ m ih =>
  intro k i hi hk
  obtain⟨k,rfl⟩:∃ k',k=k'+1:=⟨k - 1,by omega⟩
  have hw:w64 ((i:Int)+(1:Int))=((i+1:Nat):Int):=by rw[zbr (by omega) (by omega)];omega
  obtain⟨hl1,hat⟩:=hh.at_ i (by omega)
  have eL:tL ((hs.get i).get u) (i:Int)=((hs.get i).get u) (i * 2):=by
   show tg 80 _ (0+((i:Int)).toNat * 2+0)=_
   rw[dqN,show 0+i * 2+0=i * 2 by omega,zdc (by omega)]
  have hS:zeR S2 w hs (k+1) (u:Int) (i:Int)=cond (decide (((hs.get i).get u) (i * 2) < 0)) (zh7 w (u:Int) hs) (zeR S2 w hs k (u:Int) ((i+1:Nat):Int)):=by
   rw[← hw,← eL]
   show zh9 S2 w hs (zeR S2 w hs k) (u:Int) (i:Int)=_
   unfold zh9
   rw[dqT (show (i:Int) < (hs.len:Int) by omega),dqA,dqN,dqN]
  have hP:zeS P2 w hs (k+1) (u:Int) (i:Int)=cond (decide (((hs.get i).get u) (i * 2) < 0)) (zh8 w (u:Int) hs) (zeS P2 w hs k (u:Int) ((i+1:Nat):Int)):=by
   rw[← hw,← eL]
   show zia P2 w hs (zeS P2 w hs k) (u:Int) (i:Int)=_
   unfold zia
   rw[dqT (show (i:Int) < (hs.len:Int) by omega),dqA,dqN,dqN,dqT (show 0≤(i:Int)/\(i:Int) < (hs.len:Int) by omega),dqT (show i < hs.len by omega),dqT (show 0≤(u:Int)/\(u:Int) < ((hs.get i).len:Int) by omega),dqT (show 0≤(i:Int)/\(i:Int) < (40:Int) by omega)];rfl
  rw[hS,hP]
  by_cases hneg:((hs.get i).get u) (i * 2) < 0
  ·rw [dqT hneg, dqA, dqA]
   obtain⟨a,b⟩:=zBJ w hn hs hh u hu1 hu
   exact .inl ⟨a,b ⟨i,by omega,hneg⟩⟩
  ·rw [dqF hneg, dqB, dqB]
   rcases ih k (i+1) (by omega) (by omega) with h | ⟨h1,h2,h3⟩
   ·exact .inl h
   ·refine .inr ⟨fun ⟨j, g1, g2, g3⟩ => h1 ?_, h2, h3⟩
    by_cases hji:j=i
    ·subst hji;exact absurd g3 hneg
    ·exact⟨j,by omega,g2,g3⟩
theorem ztR (w:web) (hn:NetOk w.Net) (hs:Sl (Sl Tab)) (hh:HsOk w hs):∀ (m k u:Nat),u+m=w.Net.Nodes.toNat->1≤u->m < k->(∃ u' j,u≤u'/\u'≤w.Net.Nodes.toNat/\j < w.Net.Nodes.toNat/\neg hs u' j) ->
  zeh w hs k (u:Int)=true/\zyQ w (zeg w hs k (u:Int)):=by
 have hn40:=hn.n40
 intro m
 induction m with
 | zero =>
  intro k u hu h1 hk hex
  obtain⟨k,rfl⟩:∃ k',k=k'+1:=⟨k - 1,by omega⟩
  obtain⟨u',j,g1,g2,g3,g4⟩:=hex
  have:u'=u:=by omega
  subst this
  obtain⟨a,b⟩:=zBJ w hn hs hh u' h1 g2
  have e1:zeh w hs (k+1) (u':Int)=zh8 w (u':Int) hs:=by
   show zic w hs (zeh w hs k) (u':Int)=_
   unfold zic
   rw[dqF (show ¬ (u':Int) < w.Net.Nodes by omega),dqB]
  have e2:zeg w hs (k+1) (u':Int)=zh7 w (u':Int) hs:=by
   show zib w hs (zeg w hs k) (u':Int)=_
   unfold zib
   rw[dqF (show ¬ (u':Int) < w.Net.Nodes by omega),dqB]
  rw[e1,e2]
  exact⟨a,b ⟨j,g3,g4⟩⟩
 | succ m ih =>
  intro k u hu h1 hk hex
  obtain⟨k,rfl⟩:∃ k',k=k'+1:=⟨k - 1,by omega⟩
  have hw:w64 ((u:Int)+(1:Int))=((u+1:Nat):Int):=by rw[zbr (by omega) (by omega)];omega
  have e1:zeh w hs (k+1) (u:Int)=zeS (zeh w hs k) w hs Fuel (u:Int) ((0:Nat):Int):=by
   show zic w hs (zeh w hs k) (u:Int)=_
   unfold zic
   rw[dqT (show (u:Int) < w.Net.Nodes by omega),dqA];rfl
  have e2:zeg w hs (k+1) (u:Int)=zeR (zeg w hs k) w hs Fuel (u:Int) ((0:Nat):Int):=by
   show zib w hs (zeg w hs k) (u:Int)=_
   unfold zib
   rw[dqT (show (u:Int) < w.Net.Nodes by omega),dqA];rfl
  rw[e1,e2]
  rcases zyJ w hn hs hh (zeg w hs k) (zeh w hs k) u h1 (by omega) w.Net.Nodes.toNat Fuel 0 (by omega) (by simp only[Fuel];omega) with h | ⟨g1,g2,g3⟩
  ·exact h
  ·rw [g2, g3, hw]
   refine ih k (u+1) (by omega) (by omega) (by omega) ?_
   obtain⟨u',j,x1,x2,x3,x4⟩:=hex
   by_cases huu:u'=u
   ·subst huu;exact absurd ⟨j,Nat.zero_le _,x3,x4⟩ g1
   ·exact⟨u',j,by omega,x2,x3,x4⟩
theorem zIs {w:web}(hn:NetOk w.Net){hs:Sl (Sl Tab)}(hh:HsOk w hs) (h : ¬ zbE (We w)):∃ u j,1≤u/\u≤w.Net.Nodes.toNat/\j < w.Net.Nodes.toNat/\neg hs u j:=by
 obtain⟨a,c,h1,h2,h3,h4,h5⟩:=zyw (zFo hn).lt h
 have hF':∀ {c:List Ed} {x y:Nat},zem (We w) x c y->(∀ e∈c,a≤e.u/\a≤e.v)->zem ((hF w (a:Int)).map edR) x c y:=by
  intro c
  induction c with
  | nil=>intro x y h _;exact h
  | cons e l ih =>
   rintro x y ⟨g1,g2,g3⟩ g
   refine⟨?_,g2,ih g3 (λ e he=>g e (List.mem_cons_of_mem _ he))⟩
   obtain⟨y,hy,rfl⟩:=List.mem_map.1 g1
   have hyo:=zyx hn hy
   have hg:=g (edS y) (List.mem_cons_self ..)
   have f0:=hyo.f0;have t0:=hyo.t0
   have hg1:a≤y.from_.toNat:=hg.1
   have hg2:a≤y.to.toNat:=hg.2
   exact List.mem_map.2 ⟨edQ y,List.mem_map_of_mem (List.mem_filter.2 ⟨hy,by unfold okY;rw[dqT (show (a:Int)≤y.from_ by omega),dqT (show (a:Int)≤y.to by omega)];rfl⟩),rfl⟩
 obtain⟨c0,k1,k2,k3⟩:=zFj (hF' h2 h5)
 have hc:c.length ≠ 0:=λ e=>by
  have:c=[]:=List.length_eq_zero_iff.1 e
  subst this;exact absurd h3 (by show ¬ (0:Int) < 0;omega)
 obtain⟨x,m1,m2⟩:=zFu (k:=c.length) k1 k3
 refine⟨c.length,a,by omega,h4,h1,?_⟩
 obtain⟨⟨g1,_⟩,_⟩:=(hh.at_ a h1).2 c.length h4 a h1
 rw[m1] at g1
 have g1':((hs.get a).get c.length) (a * 2)=x:=g1
 show ((hs.get a).get c.length) (a * 2) < 0
 omega
def stH (w:web) (i:Nat) (v:Sl (Sl Tab)):Sl (Sl Tab):=⟨v.len,setT i (zsy w (i:Int) w.Net.Nodes) v.get⟩
theorem zIt (w:web):∀ (m i:Nat) (v:Sl (Sl Tab)),(∀ j,j < i->v.get j=zsy w (j:Int) w.Net.Nodes)->(zk3 (stH w) m i v).len=v.len/\∀ j,j < i+m->(zk3 (stH w) m i v).get j=zsy w (j:Int) w.Net.Nodes:=by
 intro m
 induction m with
 | zero=>intro i v h;exact⟨rfl,λ j hj=>h j (by omega)⟩
 | succ m ih =>
  intro i v h
  obtain⟨k1,k2⟩:=ih (i+1) (stH w i v) (λ j hj=>by
   show setT i _ v.get j=_
   rw[zfP]
   by_cases hji:j=i
   ·rw[dqP hji,hji]
   ·rw[dqG hji];exact h j (by omega))
  exact⟨k1,λ j hj=>k2 j (by omega)⟩
theorem zIu (w:web) (hn:NetOk w.Net) (h : ¬ zbE (We w)):p89 w=true/\zyQ w (s89 w):=by
  have hn1:=hn.n1;have hn40:=hn.n40
  have hNN:((w.Net.Nodes.toNat:Nat):Int)=w.Net.Nodes:=by omega
  have hm:=λ (i:Nat) (hi:i < w.Net.Nodes.toNat)=>zFv w hn i hi w.Net.Nodes.toNat (by omega)
  rw[hNN] at hm
  have hl := zoJ (step := stH w) (E := fun v => zm2 w v) (EP := fun v => zm3 w v) (Inv := fun _ (v : Sl (Sl Tab)) => v.len = w.Net.Nodes.toNat) (a := 0) (n := w.Net.Nodes.toNat) (lpS := fun k v i => zgG w k i v) (lpP := fun k v i => zgH w k i v)
    (λ k i v _ hi hv=>by
      show zid w (zgG w k) (i:Int) v=zgG w k (w64 ((i:Int)+(1:Int))) (stH w i v)
      generalize zgG w k=S
      unfold zid stH
      rw[dqT (show (i:Int) < (w.Net.Nodes.toNat:Int) by omega),dqA,dqN])
    (λ k v=>by
      show zid w (zgG w k) (w.Net.Nodes.toNat:Int) v=_
      unfold zid
      rw[dqF (show ¬ (w.Net.Nodes.toNat:Int) < (w.Net.Nodes.toNat:Int) by omega),dqB])
    (λ k i v _ hi hv=>by
      show zie w (zgH w k) (i:Int) v=zgH w k (w64 ((i:Int)+(1:Int))) (stH w i v)
      generalize zgH w k=S
      have hv':v.len=w.Net.Nodes.toNat:=hv
      unfold zie stH
      rw[dqT (show (i:Int) < (w.Net.Nodes.toNat:Int) by omega),dqA,(hm i hi).1,dqN,dqT (show 0≤(i:Int)/\(i:Int) < (v.len:Int) by omega),dqT (show i < v.len by omega)];rfl)
    (λ k v=>by
      show zie w (zgH w k) (w.Net.Nodes.toNat:Int) v=_
      unfold zie
      rw[dqF (show ¬ (w.Net.Nodes.toNat:Int) < (w.Net.Nodes.toNat:Int) by omega),dqB])
    (λ i v _ _ h=>h) (Nat.zero_le _) (by omega) (⟨w.Net.Nodes.toNat,(λ _=>(⟨0,λ _=>(λ _=>(0:Int))⟩:(Sl Tab)))⟩:Sl (Sl Tab)) rfl
  obtain⟨k1,k2⟩:=zIt w (w.Net.Nodes.toNat - 0) 0 (⟨w.Net.Nodes.toNat,(λ _=>(⟨0,λ _=>(λ _=>(0:Int))⟩:(Sl Tab)))⟩:Sl (Sl Tab)) (λ j hj=>absurd hj (Nat.not_lt_zero _))
  generalize hhs:zk3 (stH w) (w.Net.Nodes.toNat - 0) 0 (⟨w.Net.Nodes.toNat,(λ _=>(⟨0,λ _=>(λ _=>(0:Int))⟩:(Sl Tab)))⟩:Sl (Sl Tab))=hs at *
  have hh:HsOk w hs:=⟨k1,λ i hi=>by rw[k2 i (by omega)];exact⟨(hm i hi).2.1,(hm i hi).2.2⟩⟩
  obtain⟨u,j,x1,x2,x3,x4⟩:=zIs hn hh h
  obtain⟨r1,r2⟩:=ztR w hn hs hh (w.Net.Nodes.toNat - 1) Fuel 1 (by omega) (Nat.le_refl _) (by simp only[Fuel];omega) ⟨u,j,x1,x2,x3,x4⟩
  have e2:s89 w=zeg w hs Fuel ((1:Nat):Int):=by
    have e:s89 w=zm2 w hs:=hl.2
    rw[e];rfl
  have e1:zm4 w (0:Int) (⟨w.Net.Nodes.toNat,(λ _=>(⟨0,λ _=>(λ _=>(0:Int))⟩:(Sl Tab)))⟩:Sl (Sl Tab))=zeh w hs Fuel ((1:Nat):Int):=by
    have e:zm4 w (0:Int) (⟨w.Net.Nodes.toNat,(λ _=>(⟨0,λ _=>(λ _=>(0:Int))⟩:(Sl Tab)))⟩:Sl (Sl Tab))=zm3 w hs:=hl.1
    rw[e];rfl
  refine⟨?_,by rw[e2];exact r2⟩
  unfold p89
  rw[e1,r1,dqT (show 0≤w.Net.Nodes/\w.Net.Nodes=w.Net.Nodes/\w.Net.Nodes≤1000000 from ⟨by omega,rfl,by omega⟩)];rfl
end Go.Proofs
namespace Go.Proofs
open Go Go.Pm
set_option maxRecDepth 100000
set_option linter.unusedVariables false
theorem zIv (v:Sl step) (hv:v.len≤40):∀ (m k i:Nat) (c:Sl Use),i+m=v.len->m < k->c.len=i->(∀ q,q < i->c.get q=(v.get q).Use)->zkv v (v.len:Int) k (i:Int) c=true /\
  ∃ c',zku v (v.len:Int) k (i:Int) c=(c',0)/\c'.len=v.len/\∀ q,q < v.len->c'.get q=(v.get q).Use:=by
 intro m
 induction m with
 | zero =>
  intro k i c hi hk hc hq
  obtain⟨k,rfl⟩:∃ k',k=k'+1:=⟨k - 1,by omega⟩
  constructor
  ·show zih v (v.len : Int) (zkv v (v.len : Int) k) (i : Int) c = true
   unfold zih
   rw[dqF (show ¬ (i:Int) < (v.len:Int) by omega),dqB]
  ·refine ⟨c, ?_, by omega, fun q h => hq q (by omega)⟩
   show zif v (v.len:Int) (zku v (v.len:Int) k) (i:Int) c=(c,0)
   unfold zif
   rw[dqF (show ¬ (i:Int) < (v.len:Int) by omega),dqB]
 | succ m ih =>
  intro k i c hi hk hc hq
  obtain⟨k,rfl⟩:∃ k',k=k'+1:=⟨k - 1,by omega⟩
  obtain⟨h1,h2⟩:=ih k (i+1) (⟨c.len+1,ziY c.len c.get (λ _=>(v.get i).Use)⟩:Sl Use) (by omega) (by omega) (by show c.len+1=i+1;omega) (λ q h=>by
   show ziY c.len c.get (λ _=>(v.get i).Use) q=_
   rw[zyF]
   by_cases hci:c.len≤q
   ·rw[dqP hci,show q=i by omega]
   ·rw[dqG hci];exact hq q (by omega))
  constructor
  ·show zih v (v.len : Int) (zkv v (v.len : Int) k) (i : Int) c = true
   unfold zih
   rw[dqT (show (i:Int) < (v.len:Int) by omega),dqA,dqN,dqT (show 0≤(i:Int)/\(i:Int) < (v.len:Int) by omega),Bool.true_and,dqT (show (c.len+1) * 16≤140737488355328/\c.len+1≤9223372036854775807 by omega),Bool.true_and,zea (n:=v.len) (by omega) (by omega)]
   exact h1
  ·show ∃ c', zif v (v.len : Int) (zku v (v.len : Int) k) (i : Int) c = (c', 0) ∧ _
   unfold zif
   rw[dqT (show (i:Int) < (v.len:Int) by omega),dqA,dqN,zea (n:=v.len) (by omega) (by omega)]
   exact h2
theorem zs3 {n:Net}{y:step}(hy:y∈Ws (W n)):znu n y.Use y.from_=some (y.to,y.length)/\0≤y.Use.Tie/\y.Use.Tie < n.Ties.len/\y.from_=cond y.Use.Back (n.Ties.get y.Use.Tie.toNat).To (n.Ties.get y.Use.Tie.toNat).From:=by
 obtain⟨j,_,h2,h3⟩:=zkN.1 hy
 have h2':j < n.Ties.len:=by rw[Nat.zero_add] at h2;exact h2
 rcases (zkO.1 h3).2 with ⟨h4,rfl⟩ | ⟨h4,rfl⟩
 ·refine ⟨?_, by show 0 ≤ (j : Int); omega, by show (j : Int) < _; omega, rfl⟩
  show (if 0≤(j:Int)/\(j:Int) < n.Ties.len then (if (n.Ties.get ((j:Int)).toNat).High ≠ 1000000000000/\(n.Ties.get ((j:Int)).toNat).From=(n.Ties.get j).From then some ((n.Ties.get ((j:Int)).toNat).To,(n.Ties.get ((j:Int)).toNat).High) else none) else none)=_
  rw[dqP ⟨by omega,by omega⟩,dqN,dqP ⟨h4,rfl⟩];rfl
 ·refine ⟨?_, by show 0 ≤ (j : Int); omega, by show (j : Int) < _; omega, rfl⟩
  show (if 0≤(j:Int)/\(j:Int) < n.Ties.len then (if (n.Ties.get ((j:Int)).toNat).Low ≠ -1000000000000/\(n.Ties.get ((j:Int)).toNat).To=(n.Ties.get j).To then some ((n.Ties.get ((j:Int)).toNat).From,w64 (0 - (n.Ties.get ((j:Int)).toNat).Low)) else none) else none)=_
  rw[dqP ⟨by omega,by omega⟩,dqN,dqP ⟨h4,rfl⟩];rfl
theorem zIw {n:Net}(hn:NetOk n) (c:Sl Use):∀ (L:List step) (i:Nat) (a b l:Int),ChS (Ws (W n)) a L b->(∀ q (h:q < L.length),c.get (i+q)=L[q].Use)->-1000000000 * (i:Int)≤l->l≤1000000000 * (i:Int)->i+L.length≤50 ->
  pvR n c L.length i a l=(b,l+wtS L,true):=by
 intro L
 induction L with
 | nil=>intro i a b l h _ _ _ _;cases h;show (a,l,true)=(a,l+0,true);rw[Int.add_zero]
 | cons y L ih =>
  rintro i a b l ⟨hy,rfl,h⟩ hq h1 h2 h3
  have e0:=hq 0 (by simp only[List.length_cons];omega)
  have e0':c.get i=y.Use:=e0
  have hs:=zyx (a:=W n) hn hy
  have s0:=hs.l0;have s1:=hs.l1
  simp only[List.length_cons] at h3
  show (match znu n (c.get i) y.from_ with | none=>(0,0,false) | some (b,w)=>pvR n c L.length (i+1) b (w64 (l+w)))=(b,l+(y.length+wtS L),true)
  rw[e0',(zs3 hy).1]
  show pvR n c L.length (i+1) y.to (w64 (l+y.length))=(b,l+(y.length+wtS L),true)
  rw[zbr (by omega) (by omega),ih (i+1) y.to b (l+y.length) h (λ q hq'=>by
   have:=hq (q+1) (by simp only[List.length_cons];omega)
   rw[show i+1+q=i+(q+1) by omega,this];rfl) (by omega) (by omega) (by omega),show l+(y.length+wtS L)=l+y.length+wtS L by omega]
theorem zoN {n:Net}(hn:NetOk n) (hs:s67 n=true) (a:Int) (c:Sl Use):p50 n a c=true/\s50 n a c=((pv n a c).2.2 && (((pv n a c).1 == a) && decide ((pv n a c).2.1 < 0))):=by
 obtain⟨b1,b2⟩:=zIp hn hs a c
 unfold p50 s50
 rw[b1,b2]
 generalize pv n a c=p
 obtain⟨x,l,t⟩:=p
 refine⟨rfl,?_⟩
 cases t
 ·rfl
 ·show cond (x == a) (decide (l < 0)) false = (true && ((x == a) && decide (l < 0)))
  cases (x == a) <;> rfl
theorem zrR {n:Net}(hn:NetOk n) (hs:s67 n=true){a:Int}{c:Sl Use}(h:s50 n a c=true) : ¬ zbE (En n):=by
 rw[(zoN hn hs a c).2,Bool.and_eq_true,Bool.and_eq_true,beq_iff_eq,decide_eq_true_iff] at h
 obtain⟨h1,h2,h3⟩:=h
 obtain⟨_,_,d,k1,k2⟩:=zKf hn h1
 rw[h2] at k1
 intro hN
 have:=hN a.toNat d k1
 omega
theorem zIx {n:Net}(hn:NetOk n) (hs:s67 n=true) (hp:p67 n=true):p49 n=true /\
  (zbE (En n)->s49 n=((⟨0,λ _=>default⟩:Sl Use),6)) /\
  (¬ zbE (En n)->∃ c,s49 n=(c,0)/\1≤c.len/\0≤(c.get 0).Tie/\(c.get 0).Tie < n.Ties.len/\s50 n (cond (c.get 0).Back (n.Ties.get (c.get 0).Tie.toNat).To (n.Ties.get (c.get 0).Tie.toNat).From) c=true):=by
 obtain⟨t1,_⟩:=zrM (W n) hn
 have t2:=zrN (W n) hn
 have t1':p88 (⟨n,(⟨0,(λ _=>none)⟩:Mp)⟩:web)=true:=t1
 have t2':s88 (⟨n,(⟨0,(λ _=>none)⟩:Mp)⟩:web)=false↔zbE (En n):=t2
 unfold p49 s49
 rw[hp,hs]
 unfold zqx zqw zqv zqu
 simp only[decide_true,Bool.true_and,Bool.not_true,dqB]
 rw[t1']
 simp only[decide_true,Bool.true_and]
 by_cases hN:zbE (En n)
 ·rw [t2'.2 hN]
  exact⟨rfl,λ _=>rfl,λ h=>absurd hN h⟩
 ·have t3:s88 (⟨n,(⟨0,(λ _=>none)⟩:Mp)⟩:web)=true:=by
   cases h:s88 (⟨n,(⟨0,(λ _=>none)⟩:Mp)⟩:web)
   ·exact absurd (t2'.1 h) hN
   ·rfl
  rw[t3]
  obtain⟨u1,u2⟩:=zIu (W n) hn hN
  have u1':p89 (⟨n,(⟨0,(λ _=>none)⟩:Mp)⟩:web)=true:=u1
  have ul:=znv u2
  have u2':zyQ (W n) (s89 (⟨n,(⟨0,(λ _=>none)⟩:Mp)⟩:web)):=u2
  have ul':1≤(s89 (⟨n,(⟨0,(λ _=>none)⟩:Mp)⟩:web)).len/\(s89 (⟨n,(⟨0,(λ _=>none)⟩:Mp)⟩:web)).len≤40:=ul
  unfold zqs zqr zqq zqp
  simp only[Bool.not_true,dqB]
  rw[u1']
  simp only[decide_true,Bool.true_and]
  generalize s89 (⟨n,(⟨0,(λ _=>none)⟩:Mp)⟩:web)=v at *
  obtain⟨l1,c,l2,l3,l4⟩:=zIv v ul'.2 v.len Fuel 0 (⟨0,(λ _=>default)⟩:Sl Use) (by omega) (by simp only[Fuel];omega) rfl (λ q h=>absurd h (Nat.not_lt_zero _))
  have l1':zqo v (v.len:Int)=true:=l1
  have l2':zqn v (v.len:Int)=(c,0):=l2
  refine⟨l1',λ h=>absurd h hN,λ _=>⟨c,l2',by omega,?_⟩⟩
  obtain⟨a,L,ha,hv,hc,hw,hL⟩:=u2'
  have hvl:=hv.1
  have hg:∀ q (h:q < L.length),c.get q=L[q].Use:=λ q h=>by rw[l4 q (by omega),hv.2 q h]
  cases L with
  | nil=>exact absurd hw (by show ¬ (0:Int) < 0;omega)
  | cons y L =>
   obtain⟨hy,hya,hc'⟩:=hc
   obtain⟨_,g1,g2,g3⟩:=zs3 hy
   have e0:c.get 0=y.Use:=hg 0 (by simp only[List.length_cons];omega)
   rw[e0]
   refine⟨g1,g2,?_⟩
   rw[← g3,(zoN hn hs _ _).2]
   have hpv:pv n y.from_ c=(y.from_,wtS (y :: L),true):=by
    unfold pv
    have ha':0≤a/\a < n.Nodes:=ha
    rw[dqP ⟨by rw[hya];exact ha',by omega⟩]
    have:=zIw hn c (y :: L) 0 y.from_ y.from_ 0 ⟨hy,rfl,by rw[hya];exact hc'⟩ (λ q h=>by rw[Nat.zero_add];exact hg q h) (by omega) (by omega) (by omega)
    rw[l3,hvl,this,Int.zero_add]
   rw[hpv]
   show (true && ((y.from_ == y.from_) && decide (wtS (y :: L) < 0)))=true
   rw[dqT hw,beq_self_eq_true];rfl
theorem zrS (n:Net) (a:Int) (ch:Sl Use) (v:Sl Int) (ht:n.Ties.len≤210) (hv:v.len≤50) (hs:s67 n=true):znn n a ch v=true/\znm n a ch v=true:=by
 obtain⟨a1,a2⟩:=zyl n (by omega)
 have hn:=a2.1 hs
 obtain⟨c1,c2⟩:=zFg n v hn (by omega)
 obtain⟨d1,d2,d3⟩:=zIx hn hs a1
 obtain⟨r1,_⟩:=zoN hn hs a ch
 unfold znn znm zrG zrF
 by_cases hN:zbE (En n)
 ·obtain ⟨b1, l, b2, _⟩ := zyA ht hn hN
  have hr:s50 n a ch=false:=by
   cases h:s50 n a ch
   ·rfl
   ·exact absurd hN (zrR hn hs h)
  rw[b1,b2,d1,d2 hN]
  unfold znl znk
  rw[r1,hr]
  exact⟨rfl,rfl⟩
 ·obtain ⟨b1, b2⟩ := zrP ht hn hN
  obtain⟨c,k1,k2,k3,k4,k5⟩:=d3 hN
  have hA:s38 n v=false:=by
   cases h:s38 n v
   ·rfl
   ·exact absurd (zoM hn (c2.1 h)) hN
  rw[b1,b2,d1,k1]
  have key:znh n v 5 c 0=true/\zng n v 5 c 0=true:=by
   have x1:((c.len:Int) == (0:Int))=false:=beq_eq_false_iff_ne.2 (by omega)
   unfold znh zng zrD zrC
   rw[show ((5:Int) == 0)=false from rfl,dqB,dqB,show ((5:Int) != 5)=false from rfl,dqB,dqB,show ((0:Int) != 0)=false from rfl,dqB,dqB,c1,hA,x1,dqF (show ¬ (c.get 0).Tie < 0 by omega),dqT (show 0≤(0:Int)/\(0:Int) < (c.len:Int) by omega),dqF (show ¬ (c.get 0).Tie ≥ (n.Ties.len:Int) by omega)]
   simp only[decide_true,Bool.true_and,dqB]
   unfold zfN zfM zrB zrA
   rw[dqB,dqB,dqT (show 0≤(0:Int)/\(0:Int) < (c.len:Int) by omega),dqT (show 0≤(c.get 0).Tie/\(c.get 0).Tie < (n.Ties.len:Int) by omega)]
   simp only[Bool.true_and]
   cases hb:(c.get 0).Back
   ·rw [hb, dqB] at k5
    rw[dqB,dqB,(zoN hn hs _ c).1,k5];exact⟨rfl,rfl⟩
   ·rw [hb, dqA] at k5
    rw[dqA,dqA,(zoN hn hs _ c).1,k5];exact⟨rfl,rfl⟩
  unfold znl znk
  rw[r1,c1,hA]
  simp only[decide_true,Bool.true_and,bne_self_eq_false,dqB]
  cases s50 n a ch
  ·exact key
  ·exact key
theorem either_true (n:Net) (a:Int) (c:Sl Use) (v:Sl Int):p12 n a c v=true/\s12 n a c v=true:=by
 unfold p12 s12
 by_cases h:s20 n 20=true
 ·rw [h]
  have hl:=zym h (by omega)
  obtain⟨b1,b2⟩:=zH7 n (by omega)
  rw[b1,b2]
  unfold ziz ziy
  simp only[Bool.not_true,dqB,decide_true,Bool.true_and]
  cases hs:s67 n
  ·exact⟨rfl,rfl⟩
  ·simp only [Bool.not_true, dqB]
   by_cases hc:(c.len:Int) > 50
   ·rw[dqT hc];exact⟨rfl,rfl⟩
   ·rw [dqF hc]
    by_cases hv:(v.len:Int) > 50
    ·rw[dqT hv];exact⟨rfl,rfl⟩
    ·rw [dqF hv]
     exact zrS n a c v hl (by omega) hs
 ·rw[Bool.eq_false_iff.2 h];exact⟨rfl,rfl⟩
end Go.Proofs
