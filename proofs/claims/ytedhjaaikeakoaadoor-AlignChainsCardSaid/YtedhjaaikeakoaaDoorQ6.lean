/- Part 6 of what the proof rests on: a machine that runs functions of the program on pure values, proved sound; the functions that the law reaches, and what they compute. -/
import Derived.Test.YtedhjaaikeakoaaDoorQ5
set_option linter.all false
namespace Go.Proofs
open Go Go.Pm
set_option maxRecDepth 100000
set_option linter.unusedVariables false
theorem zLN (a : web) {N s : Nat} (E : List Ed) (hE : EdOk E N) (hn : zbt E) (hs : s < N) (S2 : Bool → Tab → Tab → Tab) (P2 : Bool → Tab → Tab → Bool) (y : step) (hy : StOk y N) (hm : edS y ∈ E) (S3 : Bool → Tab → Tab → Tab) (P3 : Bool → Tab → Tab → Bool) (c : Bool) (T4 T : Tab) (d : zby) (h1 : Rp N T d) (hi : Inv (E.map edM) (fun v => v = s) d) :
  ∃ T',znF S2 a y S3 c T4 T=S3 (rlF (d,c) (edM (edS y))).2 T4 T'/\znG P2 a y P3 c T4 T=P3 (rlF (d,c) (edM (edS y))).2 T4 T'/\Rp N T' (rlF (d,c) (edM (edS y))).1:=by
 have hN:=hE.n40
 have f0:=hy.f0;have f1:=hy.f1;have t0:=hy.t0;have t1:=hy.t1;have l0:=hy.l0;have l1:=hy.l1
 have hu:=h1 y.from_.toNat (by omega)
 have hv:=h1 y.to.toNat (by omega)
 have e1:0+y.from_.toNat * 2+0=y.from_.toNat * 2:=by omega
 have e2:0+y.to.toNat * 2+0=y.to.toNat * 2:=by omega
 have e3:0+y.from_.toNat * 2+1=y.from_.toNat * 2+1:=by omega
 have hin:=zjq (Src:=λ v=>v=s) (zgK hn) (s:=(d,c)) (e:=edM (edS y)) (List.mem_map_of_mem hm) hi
 have hS:znF S2 a y S3 c T4 T=cond (nv (tg 80 T (0+y.from_.toNat * 2+0)) (tg 80 T (0+y.from_.toNat * 2+0+1))) (S3 c T4 T) (cond c (S3 true T4 (ts 80 T (0+y.to.toNat * 2+0) [(zc4 (⟨(tg 80 T (0+y.to.toNat * 2+0)),(tg 80 T (0+y.to.toNat * 2+0+1))⟩:far) (⟨1,λ _=>(⟨(w64 ((tg 80 T (0+y.from_.toNat * 2+0))+y.length)),(w64 ((tg 80 T (0+y.from_.toNat * 2+1))+(1:Int)))⟩:far)⟩:(Sl far))).length,(zc4 (⟨(tg 80 T (0+y.to.toNat * 2+0)),(tg 80 T (0+y.to.toNat * 2+0+1))⟩:far) (⟨1,λ _=>(⟨(w64 ((tg 80 T (0+y.from_.toNat * 2+0))+y.length)),(w64 ((tg 80 T (0+y.from_.toNat * 2+1))+(1:Int)))⟩:far)⟩:(Sl far))).uses])) (S3 (!(sm (zc4 (⟨(tg 80 T (0+y.to.toNat * 2+0)),(tg 80 T (0+y.to.toNat * 2+0+1))⟩:far) (⟨1,λ _=>(⟨(w64 ((tg 80 T (0+y.from_.toNat * 2+0))+y.length)),(w64 ((tg 80 T (0+y.from_.toNat * 2+1))+(1:Int)))⟩:far)⟩:(Sl far))).length (zc4 (⟨(tg 80 T (0+y.to.toNat * 2+0)),(tg 80 T (0+y.to.toNat * 2+0+1))⟩:far) (⟨1,λ _=>(⟨(w64 ((tg 80 T (0+y.from_.toNat * 2+0))+y.length)),(w64 ((tg 80 T (0+y.from_.toNat * 2+1))+(1:Int)))⟩:far)⟩:(Sl far))).uses (tg 80 T (0+y.to.toNat * 2+0)) (tg 80 T (0+y.to.toNat * 2+0+1)))) T4 (ts 80 T (0+y.to.toNat * 2+0) [(zc4 (⟨(tg 80 T (0+y.to.toNat * 2+0)),(tg 80 T (0+y.to.toNat * 2+0+1))⟩:far) (⟨1,λ _=>(⟨(w64 ((tg 80 T (0+y.from_.toNat * 2+0))+y.length)),(w64 ((tg 80 T (0+y.from_.toNat * 2+1))+(1:Int)))⟩:far)⟩:(Sl far))).length,(zc4 (⟨(tg 80 T (0+y.to.toNat * 2+0)),(tg 80 T (0+y.to.toNat * 2+0+1))⟩:far) (⟨1,λ _=>(⟨(w64 ((tg 80 T (0+y.from_.toNat * 2+0))+y.length)),(w64 ((tg 80 T (0+y.from_.toNat * 2+1))+(1:Int)))⟩:far)⟩:(Sl far))).uses]))):=rfl
 have hP:znG P2 a y P3 c T4 T=(decide (0<=y.from_/\y.from_ < (40:Int)) && cond (nv (tg 80 T (0+y.from_.toNat * 2+0)) (tg 80 T (0+y.from_.toNat * 2+0+1))) (P3 c T4 T) (decide (0<=y.to/\y.to < (40:Int)) && (decide (0<=y.from_/\y.from_ < (40:Int)) && (decide (0<=y.from_/\y.from_ < (40:Int)) && (decide (zCk (⟨(tg 80 T (0+y.to.toNat * 2+0)),(tg 80 T (0+y.to.toNat * 2+0+1))⟩:far) (⟨1,λ _=>(⟨(w64 ((tg 80 T (0+y.from_.toNat * 2+0))+y.length)),(w64 ((tg 80 T (0+y.from_.toNat * 2+1))+(1:Int)))⟩:far)⟩:(Sl far))=true) && cond c (decide (0<=y.to/\y.to < (40:Int)) && P3 true T4 (ts 80 T (0+y.to.toNat * 2+0) [(zc4 (⟨(tg 80 T (0+y.to.toNat * 2+0)),(tg 80 T (0+y.to.toNat * 2+0+1))⟩:far) (⟨1,λ _=>(⟨(w64 ((tg 80 T (0+y.from_.toNat * 2+0))+y.length)),(w64 ((tg 80 T (0+y.from_.toNat * 2+1))+(1:Int)))⟩:far)⟩:(Sl far))).length,(zc4 (⟨(tg 80 T (0+y.to.toNat * 2+0)),(tg 80 T (0+y.to.toNat * 2+0+1))⟩:far) (⟨1,λ _=>(⟨(w64 ((tg 80 T (0+y.from_.toNat * 2+0))+y.length)),(w64 ((tg 80 T (0+y.from_.toNat * 2+1))+(1:Int)))⟩:far)⟩:(Sl far))).uses])) (decide (0<=y.to/\y.to < (40:Int)) && (decide (0<=y.to/\y.to < (40:Int)) && P3 (!(sm (zc4 (⟨(tg 80 T (0+y.to.toNat * 2+0)),(tg 80 T (0+y.to.toNat * 2+0+1))⟩:far) (⟨1,λ _=>(⟨(w64 ((tg 80 T (0+y.from_.toNat * 2+0))+y.length)),(w64 ((tg 80 T (0+y.from_.toNat * 2+1))+(1:Int)))⟩:far)⟩:(Sl far))).length (zc4 (⟨(tg 80 T (0+y.to.toNat * 2+0)),(tg 80 T (0+y.to.toNat * 2+0+1))⟩:far) (⟨1,λ _=>(⟨(w64 ((tg 80 T (0+y.from_.toNat * 2+0))+y.length)),(w64 ((tg 80 T (0+y.from_.toNat * 2+1))+(1:Int)))⟩:far)⟩:(Sl far))).uses (tg 80 T (0+y.to.toNat * 2+0)) (tg 80 T (0+y.to.toNat * 2+0+1)))) T4 (ts 80 T (0+y.to.toNat * 2+0) [(zc4 (⟨(tg 80 T (0+y.to.toNat * 2+0)),(tg 80 T (0+y.to.toNat * 2+0+1))⟩:far) (⟨1,λ _=>(⟨(w64 ((tg 80 T (0+y.from_.toNat * 2+0))+y.length)),(w64 ((tg 80 T (0+y.from_.toNat * 2+1))+(1:Int)))⟩:far)⟩:(Sl far))).length,(zc4 (⟨(tg 80 T (0+y.to.toNat * 2+0)),(tg 80 T (0+y.to.toNat * 2+0+1))⟩:far) (⟨1,λ _=>(⟨(w64 ((tg 80 T (0+y.from_.toNat * 2+0))+y.length)),(w64 ((tg 80 T (0+y.from_.toNat * 2+1))+(1:Int)))⟩:far)⟩:(Sl far))).uses])))))))):=rfl
 rw[hS,hP]
 clear hS hP
 rw[e1,e2,e3,zdM (k:=y.from_.toNat * 2) (by omega),zdM (k:=y.from_.toNat * 2+1) (by omega),zdM (k:=y.to.toNat * 2) (by omega),zdM (k:=y.to.toNat * 2+1) (by omega)]
 rw[dqT (show 0<=y.from_/\y.from_ < (40:Int) by omega),dqT (show 0<=y.to/\y.to < (40:Int) by omega)]
 simp only[zie,same_eq]
 cases hdu:d y.from_.toNat with
 | none =>
  rw[hdu] at hu
  have hr:rlF (d,c) (edM (edS y))=(d,c):=by
   unfold rlF edM edS
   simp only[hdu]
  rw[hr,dqT (show (T (y.from_.toNat * 2),T (y.from_.toNat * 2+1))=((1000000000000:Int),(0:Int)) from hu)]
  exact⟨T,rfl,rfl,h1⟩
 | some x =>
  obtain⟨L,U,k1,k2,k3,k4,k5,k6⟩:=zj5 hE hs hi hdu
  rw[hdu] at hu k1
  rw[k1] at hu
  have hL:T (y.from_.toNat * 2)=L:=(Prod.mk.inj hu).1
  have hU:T (y.from_.toNat * 2+1)=U:=(Prod.mk.inj hu).2
  rw[hL,hU,dqF (show ¬ (L,U)=((1000000000000:Int),(0:Int)) from λ h=>by have:=(Prod.mk.inj h).1;omega),zbf (x:=L+y.length) (by omega) (by omega),zbf (x:=U+(1:Int)) (by omega) (by omega)]
  rw[(zj4 _ _).1,(zj4 _ _).2,zAQ]
  have hw:x+(edM (edS y)).w=(L+y.length) * 1048576+(U+1):=by
   show x+(y.length * 1048576+1)=_
   omega
  have hr:rlF (d,c) (edM (edS y))=cond (ltO ((L+y.length) * 1048576+(U+1)) (d y.to.toNat)) (zhD d y.to.toNat ((L+y.length) * 1048576+(U+1)),true) (d,c):=by
   rw[<- hw]
   unfold rlF edM edS
   simp only[hdu] <;> rfl
  have hlt:decide ((L+y.length < T (y.to.toNat * 2))\/(L+y.length=T (y.to.toNat * 2)/\U+1 < T (y.to.toNat * 2+1)))=ltO ((L+y.length) * 1048576+(U+1)) (d y.to.toNat):=by
   cases hdv:d y.to.toNat with
   | none =>
    rw[hdv] at hv
    have hv1:T (y.to.toNat * 2)=1000000000000:=(Prod.mk.inj hv).1
    rw[hv1]
    exact dqT (.inl (by omega))
   | some z =>
    obtain⟨L',U',m1,m2,m3,m4,m5,m6⟩:=zj5 hE hs hi hdv
    rw[hdv] at hv m1
    rw[m1] at hv
    rw[(Prod.mk.inj hv).1,(Prod.mk.inj hv).2,m2]
    exact decide_eq_decide.2 (by omega)
  simp only[hlt]
  rw[hr] at hin ⊢
  have hrw:∀ T'',Rp N T d->T''=ts 80 T (y.to.toNat * 2) [T (y.to.toNat * 2),T (y.to.toNat * 2+1)]->Rp N T'' d:=λ T'' h e v hv'=>by
   rw[e,zdY (by omega),zdY (by omega),<- h v hv']
   by_cases hq:v=y.to.toNat
   ·subst hq
    rw[dqG (by omega),dqP rfl,dqP rfl]
   ·rw[dqG (by omega),dqG (by omega),dqG (by omega),dqG (by omega)]
  cases hlo:ltO ((L+y.length) * 1048576+(U+1)) (d y.to.toNat) with
  | false =>
   refine⟨ts 80 T (y.to.toNat * 2) [T (y.to.toNat * 2),T (y.to.toNat * 2+1)],?_,?_,hrw _ h1 rfl⟩
   ·simp only [dqB, decide_true]
    cases c <;> rfl
   ·simp only [dqB, Bool.true_and, decide_true]
    cases c <;> rfl
  | true =>
   rw[hlo] at hin
   simp only[dqA,dqB,Bool.true_and,decide_true] at hin ⊢
   refine⟨ts 80 T (y.to.toNat * 2) [L+y.length,U+1],?_,?_,?_⟩
   ·cases c
    ·rw [dqF]
     ·rfl
     ·intro h
      rw[<- hlt] at hlo
      have:=of_decide_eq_true hlo
      have h1':=(Prod.mk.inj h).1
      have h2':=(Prod.mk.inj h).2
      omega
    ·rfl
   ·cases c
    ·rw [dqF]
     ·rfl
     ·intro h
      rw[<- hlt] at hlo
      have:=of_decide_eq_true hlo
      have h1':=(Prod.mk.inj h).1
      have h2':=(Prod.mk.inj h).2
      omega
    ·rfl
   ·intro v hv'
    rw[zdY (by omega),zdY (by omega)]
    unfold zhD
    by_cases hq:v=y.to.toNat
    ·subst hq
     rw[dqG (by omega),dqP rfl,dqP rfl,dqP rfl]
     exact (zsC (by omega) (by omega)).symm
    ·rw [dqG (by omega), dqG (by omega), dqG (by omega), dqG (by omega), dqG hq]
     exact h1 v hv'
theorem zLO (a:web){N s:Nat}(E:List Ed) (hE:EdOk E N) (hn:zbt E) (hs:s < N) (S2:Bool->Tab->Tab->Tab) (P2:Bool->Tab->Tab->Bool):∀ (l:List step),(∀ y∈l,StOk y N/\edS y∈E)->∀ (c:Bool) (T4 T:Tab) (d:zby),Rp N T d->Inv (E.map edM) (λ v=>v=s) d ->
  ∃ T',znH S2 a l c T4 T=S2 (((l.map edS).map edM).foldl rlF (d,c)).2 T4 T'/\znI P2 a l c T4 T=P2 (((l.map edS).map edM).foldl rlF (d,c)).2 T4 T'/\Rp N T' (((l.map edS).map edM).foldl rlF (d,c)).1:=by
 intro l
 induction l with
 | nil=>intro _ c T4 T d h1 _;exact⟨T,rfl,rfl,h1⟩
 | cons y l ih =>
  intro hl c T4 T d h1 h2
  obtain⟨hy,hm⟩:=hl y (dqj ..)
  obtain⟨T',k1,k2,k3⟩:=zLN a E hE hn hs S2 P2 y hy hm (znH S2 a l) (znI P2 a l) c T4 T d h1 h2
  have h3:=zjq (Src:=λ v=>v=s) (zgK hn) (s:=(d,c)) (e:=edM (edS y)) (List.mem_map_of_mem hm) h2
  obtain⟨T'',m1,m2,m3⟩:=ih (λ z hz=>hl z (dqf _ hz)) (rlF (d,c) (edM (edS y))).2 T4 T' (rlF (d,c) (edM (edS y))).1 k3 h3
  exact⟨T'',Eq.trans k1 m1,Eq.trans k2 m2,m3⟩
theorem zCZ (a:web) (hnet:NetOk a.Net) (E:List Ed) (hEe:E=(Ws a).map edS){s:Nat}(hE:EdOk E a.Net.Nodes.toNat) (hn:zbt E) (hs:s < a.Net.Nodes.toNat):∀ (m k:Nat) (T4 T:Tab) (d:zby),Rp a.Net.Nodes.toNat T d->Inv (E.map edM) (λ v=>v=s) d->Fix (E.map edM) (rds (E.map edM) m d)->m+1 < k ->
  ∃ T',zgg a k true T4 T=true/\zgf a k true T4 T=T'/\Rp a.Net.Nodes.toNat T' (rds (E.map edM) m d):=by
 have hlen:=hnet.len
 obtain⟨q1,q2⟩:=zlx a (by omega)
 have hst:∀ y∈Ws a,StOk y a.Net.Nodes.toNat/\edS y∈E:=λ y hy=>⟨zoi hnet hy,by rw[hEe];exact List.mem_map_of_mem hy⟩
 have one:∀ (k:Nat) (T4 T:Tab) (d:zby),Rp a.Net.Nodes.toNat T d->Inv (E.map edM) (λ v=>v=s) d ->
   ∃ T',zgf a (k+1) true T4 T=zgf a k ((E.map edM).foldl rlF (d,false)).2 T4 T'/\zgg a (k+1) true T4 T=zgg a k ((E.map edM).foldl rlF (d,false)).2 T4 T'/\Rp a.Net.Nodes.toNat T' (rnd (E.map edM) d):=by
  intro k T4 T d h1 h2
  obtain⟨T',k1,k2,k3⟩:=zLO a E hE hn hs (zgf a k) (zgg a k) (Ws a) hst false T4 T d h1 h2
  rw[<- hEe] at k1 k2 k3
  refine⟨T',?_,?_,k3⟩
  ·show znJ a (zgf a k) true T4 T = _
   unfold znJ zrg
   rw[dqA,q2];exact k1
  ·show znK a (zgg a k) true T4 T = _
   unfold znK zrh
   rw[dqA,q1,q2,dqT rfl,Bool.true_and];exact k2
 have stop:∀ (k:Nat) (T4 T:Tab),zgf a (k+1) false T4 T=T/\zgg a (k+1) false T4 T=true:=λ k T4 T=>⟨rfl,rfl⟩
 intro m
 induction m with
 | zero =>
  intro k T4 T d h1 h2 h3 hk
  obtain⟨k,rfl⟩:∃ k',k=k'+1+1:=⟨k - 2,by omega⟩
  obtain⟨T',k1,k2,k3⟩:=one (k+1) T4 T d h1 h2
  have h3':Fix (E.map edM) d:=h3
  rw[zib h3'] at k1 k2
  rw[zhy h3'] at k3
  obtain⟨j1,j2⟩:=stop k T4 T'
  exact⟨T',k2.trans j2,k1.trans j1,k3⟩
 | succ m ih =>
  intro k T4 T d h1 h2 h3 hk
  obtain⟨k,rfl⟩:∃ k',k=k'+1+1:=⟨k - 2,by omega⟩
  obtain⟨T',k1,k2,k3⟩:=one (k+1) T4 T d h1 h2
  cases hf:((E.map edM).foldl rlF (d,false)).2 with
  | false =>
   rw[hf] at k1 k2
   have hx:Fix (E.map edM) d:=zgX hf
   obtain⟨j1,j2⟩:=stop k T4 T'
   refine⟨T',k2.trans j2,k1.trans j1,?_⟩
   rw[zhy hx] at k3
   rw[zsA hx];exact k3
  | true =>
   rw[hf] at k1 k2
   obtain⟨T'',m1,m2,m3⟩:=ih (k+1) T4 T' (rnd (E.map edM) d) k3 (zj3 (zgK hn) (λ _ h=>h) (s:=(d,false)) h2) h3 (by omega)
   exact⟨T'',k2.trans m1,k1.trans m2,m3⟩
theorem zIK (a:web) (node:Int):∀ (m k i:Nat) (T4 T:Tab),(∀ v,v < i->T (v * 2)=1000000000000/\T (v * 2+1)=0)->i+m=40->m < k ->
  ∃ T',ziW a node k (i:Int) T4 T=znL a node T4 T'/\ziX a node k (i:Int) T4 T=znM a node T4 T'/\∀ v,v < 40->T' (v * 2)=1000000000000/\T' (v * 2+1)=0:=by
 intro m
 induction m with
 | zero =>
  intro k i T4 T h hi hk
  obtain⟨k,rfl⟩:∃ k',k=k'+1:=⟨k - 1,by omega⟩
  refine⟨T,?_,?_,λ v hv=>h v (by omega)⟩
  ·show ziU a node (ziW a node k) (i : Int) T4 T = _
   unfold ziU
   rw[dqF (show ¬ (i:Int) < (40:Int) by omega),dqB]
  ·show ziV a node (ziX a node k) (i : Int) T4 T = _
   unfold ziV
   rw[dqF (show ¬ (i:Int) < (40:Int) by omega),dqB]
 | succ m ih =>
  intro k i T4 T h hi hk
  obtain⟨k,rfl⟩:∃ k',k=k'+1:=⟨k - 1,by omega⟩
  have hw:w64 ((i:Int)+(1:Int))=((i+1:Nat):Int):=by rw[zbf (by omega) (by omega)];omega
  obtain⟨T',k1,k2,k3⟩:=ih k (i+1) T4 (ts 80 T (i * 2) [(1000000000000:Int),(0:Int)]) (λ v hv=>by
   rw[zdY (by omega),zdY (by omega)]
   by_cases hq:v=i
   ·subst hq
    rw[dqG (by omega),dqP rfl,dqP rfl];exact⟨rfl,rfl⟩
   ·rw[dqG (by omega),dqG (by omega),dqG (by omega),dqG (by omega)];exact h v (by omega)) (by omega) (by omega)
  refine⟨T',?_,?_,k3⟩
  ·rw [← k1]
   show ziU a node (ziW a node k) (i:Int) T4 T=_
   unfold ziU
   rw[dqT (show (i:Int) < (40:Int) by omega),dqA,hw,dqN,show 0+i * 2+0=i * 2 by omega]
  ·rw [← k2]
   show ziV a node (ziX a node k) (i:Int) T4 T=_
   unfold ziV
   rw[dqT (show (i:Int) < (40:Int) by omega),dqA,dqT (show 0<=(i:Int)/\(i:Int) < (40:Int) by omega),Bool.true_and,hw,dqN,show 0+i * 2+0=i * 2 by omega]
theorem zLP (a : web) (hnet : NetOk a.Net) (hn : zbt (We a)) (node : Int) (h0 : 0 ≤ node) (h1 : node < a.Net.Nodes) :
  p76 a node=true/\Rp a.Net.Nodes.toNat (s76 a node) (dst (We a) a.Net.Nodes.toNat node.toNat):=by
 have hn40:=hnet.n40
 have hEe:We a=(Ws a).map edS:=rfl
 have hE:EdOk (We a) a.Net.Nodes.toNat:=zu9 hnet
 have hN:zbt (We a):=hn
 have hs:node.toNat < a.Net.Nodes.toNat:=by omega
 obtain⟨T1,a1,a2,a3⟩:=zIK a node 40 Fuel 0 (λ _=>(0:Int)) (λ _=>(0:Int)) (λ v hv=>absurd hv (dqW _)) rfl (by simp only[Fuel];omega)
 have hr:Rp a.Net.Nodes.toNat (ts 80 T1 (node.toNat * 2) [(0:Int),(0:Int)]) (zjP node.toNat):=λ v hv=>by
  rw[zdY (by omega),zdY (by omega)]
  unfold zjP
  by_cases hq:v=node.toNat
  ·subst hq
   rw[dqG (by omega),dqP rfl,dqP rfl,dqP rfl];rfl
  ·rw[dqG (by omega),dqG (by omega),dqG (by omega),dqG (by omega),dqG hq,(a3 v (by omega)).1,(a3 v (by omega)).2];rfl
 obtain⟨T2,b1,b2,b3⟩:=zCZ a hnet (We a) hEe hE hN hs (a.Net.Nodes.toNat - 1) Fuel (λ _=>(0:Int)) (ts 80 T1 (node.toNat * 2) [(0:Int),(0:Int)]) (zjP node.toNat) hr (zes (zdr node.toNat)) (zlw hE hN hs) (by simp only[Fuel];omega)
 have e:0+node.toNat * 2+0=node.toNat * 2:=by omega
 constructor
 ·show ziX a node Fuel 0 (fun _ => (0:Int)) (fun _ => (0:Int)) = true
  refine Eq.trans a2 ?_
  unfold znM zrk
  rw[dqT (show 0<=node/\node < (40:Int) by omega),Bool.true_and,e];exact b1
 ·have:s76 a node=T2:=by
   show ziW a node Fuel 0 (λ _=>(0:Int)) (λ _=>(0:Int))=T2
   refine Eq.trans a1 ?_
   unfold znL zrj
   rw[e];exact b2
  rw[this];exact b3
end Go.Proofs
namespace Go.Proofs
open Go Go.Pm
set_option maxRecDepth 100000
set_option linter.unusedVariables false
def edQ (y:step):Ed:=⟨y.to.toNat,y.from_.toNat,y.length⟩
theorem zAR (l:List step):l.map edQ=(l.map edS).map edR:=by rw[List.map_map];rfl

theorem zLQ (a : web) {N s : Nat} (E : List Ed) (hE : EdOk E N) (hn : zbt E) (hs : s < N) (S2 : Bool → Tab → Tab → Tab) (P2 : Bool → Tab → Tab → Bool) (y : step) (hy : StOk y N) (hm : edQ y ∈ E) (S3 : Bool → Tab → Tab → Tab) (P3 : Bool → Tab → Tab → Bool) (c : Bool) (T4 T : Tab) (d : zby) (h1 : Rp N T d) (hi : Inv (E.map edM) (fun v => v = s) d) :
  ∃ T',zno S2 a y S3 c T4 T=S3 (rlF (d,c) (edM (edQ y))).2 T4 T'/\znp P2 a y P3 c T4 T=P3 (rlF (d,c) (edM (edQ y))).2 T4 T'/\Rp N T' (rlF (d,c) (edM (edQ y))).1:=by
 have hN:=hE.n40
 have f0:=hy.f0;have f1:=hy.f1;have t0:=hy.t0;have t1:=hy.t1;have l0:=hy.l0;have l1:=hy.l1
 have hu:=h1 y.to.toNat (by omega)
 have hv:=h1 y.from_.toNat (by omega)
 have e1:0+y.to.toNat * 2+0=y.to.toNat * 2:=by omega
 have e2:0+y.from_.toNat * 2+0=y.from_.toNat * 2:=by omega
 have e3:0+y.to.toNat * 2+1=y.to.toNat * 2+1:=by omega
 have hin:=zjq (Src:=λ v=>v=s) (zgK hn) (s:=(d,c)) (e:=edM (edQ y)) (List.mem_map_of_mem hm) hi
 have hS:zno S2 a y S3 c T4 T=cond (nv (tg 80 T (0+y.to.toNat * 2+0)) (tg 80 T (0+y.to.toNat * 2+0+1))) (S3 c T4 T) (cond c (S3 true T4 (ts 80 T (0+y.from_.toNat * 2+0) [(zc4 (⟨(tg 80 T (0+y.from_.toNat * 2+0)),(tg 80 T (0+y.from_.toNat * 2+0+1))⟩:far) (⟨1,λ _=>(⟨(w64 ((tg 80 T (0+y.to.toNat * 2+0))+y.length)),(w64 ((tg 80 T (0+y.to.toNat * 2+1))+(1:Int)))⟩:far)⟩:(Sl far))).length,(zc4 (⟨(tg 80 T (0+y.from_.toNat * 2+0)),(tg 80 T (0+y.from_.toNat * 2+0+1))⟩:far) (⟨1,λ _=>(⟨(w64 ((tg 80 T (0+y.to.toNat * 2+0))+y.length)),(w64 ((tg 80 T (0+y.to.toNat * 2+1))+(1:Int)))⟩:far)⟩:(Sl far))).uses])) (S3 (!(sm (zc4 (⟨(tg 80 T (0+y.from_.toNat * 2+0)),(tg 80 T (0+y.from_.toNat * 2+0+1))⟩:far) (⟨1,λ _=>(⟨(w64 ((tg 80 T (0+y.to.toNat * 2+0))+y.length)),(w64 ((tg 80 T (0+y.to.toNat * 2+1))+(1:Int)))⟩:far)⟩:(Sl far))).length (zc4 (⟨(tg 80 T (0+y.from_.toNat * 2+0)),(tg 80 T (0+y.from_.toNat * 2+0+1))⟩:far) (⟨1,λ _=>(⟨(w64 ((tg 80 T (0+y.to.toNat * 2+0))+y.length)),(w64 ((tg 80 T (0+y.to.toNat * 2+1))+(1:Int)))⟩:far)⟩:(Sl far))).uses (tg 80 T (0+y.from_.toNat * 2+0)) (tg 80 T (0+y.from_.toNat * 2+0+1)))) T4 (ts 80 T (0+y.from_.toNat * 2+0) [(zc4 (⟨(tg 80 T (0+y.from_.toNat * 2+0)),(tg 80 T (0+y.from_.toNat * 2+0+1))⟩:far) (⟨1,λ _=>(⟨(w64 ((tg 80 T (0+y.to.toNat * 2+0))+y.length)),(w64 ((tg 80 T (0+y.to.toNat * 2+1))+(1:Int)))⟩:far)⟩:(Sl far))).length,(zc4 (⟨(tg 80 T (0+y.from_.toNat * 2+0)),(tg 80 T (0+y.from_.toNat * 2+0+1))⟩:far) (⟨1,λ _=>(⟨(w64 ((tg 80 T (0+y.to.toNat * 2+0))+y.length)),(w64 ((tg 80 T (0+y.to.toNat * 2+1))+(1:Int)))⟩:far)⟩:(Sl far))).uses]))):=rfl
 have hP:znp P2 a y P3 c T4 T=(decide (0<=y.to/\y.to < (40:Int)) && cond (nv (tg 80 T (0+y.to.toNat * 2+0)) (tg 80 T (0+y.to.toNat * 2+0+1))) (P3 c T4 T) (decide (0<=y.from_/\y.from_ < (40:Int)) && (decide (0<=y.to/\y.to < (40:Int)) && (decide (0<=y.to/\y.to < (40:Int)) && (decide (zCk (⟨(tg 80 T (0+y.from_.toNat * 2+0)),(tg 80 T (0+y.from_.toNat * 2+0+1))⟩:far) (⟨1,λ _=>(⟨(w64 ((tg 80 T (0+y.to.toNat * 2+0))+y.length)),(w64 ((tg 80 T (0+y.to.toNat * 2+1))+(1:Int)))⟩:far)⟩:(Sl far))=true) && cond c (decide (0<=y.from_/\y.from_ < (40:Int)) && P3 true T4 (ts 80 T (0+y.from_.toNat * 2+0) [(zc4 (⟨(tg 80 T (0+y.from_.toNat * 2+0)),(tg 80 T (0+y.from_.toNat * 2+0+1))⟩:far) (⟨1,λ _=>(⟨(w64 ((tg 80 T (0+y.to.toNat * 2+0))+y.length)),(w64 ((tg 80 T (0+y.to.toNat * 2+1))+(1:Int)))⟩:far)⟩:(Sl far))).length,(zc4 (⟨(tg 80 T (0+y.from_.toNat * 2+0)),(tg 80 T (0+y.from_.toNat * 2+0+1))⟩:far) (⟨1,λ _=>(⟨(w64 ((tg 80 T (0+y.to.toNat * 2+0))+y.length)),(w64 ((tg 80 T (0+y.to.toNat * 2+1))+(1:Int)))⟩:far)⟩:(Sl far))).uses])) (decide (0<=y.from_/\y.from_ < (40:Int)) && (decide (0<=y.from_/\y.from_ < (40:Int)) && P3 (!(sm (zc4 (⟨(tg 80 T (0+y.from_.toNat * 2+0)),(tg 80 T (0+y.from_.toNat * 2+0+1))⟩:far) (⟨1,λ _=>(⟨(w64 ((tg 80 T (0+y.to.toNat * 2+0))+y.length)),(w64 ((tg 80 T (0+y.to.toNat * 2+1))+(1:Int)))⟩:far)⟩:(Sl far))).length (zc4 (⟨(tg 80 T (0+y.from_.toNat * 2+0)),(tg 80 T (0+y.from_.toNat * 2+0+1))⟩:far) (⟨1,λ _=>(⟨(w64 ((tg 80 T (0+y.to.toNat * 2+0))+y.length)),(w64 ((tg 80 T (0+y.to.toNat * 2+1))+(1:Int)))⟩:far)⟩:(Sl far))).uses (tg 80 T (0+y.from_.toNat * 2+0)) (tg 80 T (0+y.from_.toNat * 2+0+1)))) T4 (ts 80 T (0+y.from_.toNat * 2+0) [(zc4 (⟨(tg 80 T (0+y.from_.toNat * 2+0)),(tg 80 T (0+y.from_.toNat * 2+0+1))⟩:far) (⟨1,λ _=>(⟨(w64 ((tg 80 T (0+y.to.toNat * 2+0))+y.length)),(w64 ((tg 80 T (0+y.to.toNat * 2+1))+(1:Int)))⟩:far)⟩:(Sl far))).length,(zc4 (⟨(tg 80 T (0+y.from_.toNat * 2+0)),(tg 80 T (0+y.from_.toNat * 2+0+1))⟩:far) (⟨1,λ _=>(⟨(w64 ((tg 80 T (0+y.to.toNat * 2+0))+y.length)),(w64 ((tg 80 T (0+y.to.toNat * 2+1))+(1:Int)))⟩:far)⟩:(Sl far))).uses])))))))):=rfl
 rw[hS,hP]
 clear hS hP
 rw[e1,e2,e3,zdM (k:=y.to.toNat * 2) (by omega),zdM (k:=y.to.toNat * 2+1) (by omega),zdM (k:=y.from_.toNat * 2) (by omega),zdM (k:=y.from_.toNat * 2+1) (by omega)]
 rw[dqT (show 0<=y.to/\y.to < (40:Int) by omega),dqT (show 0<=y.from_/\y.from_ < (40:Int) by omega)]
 simp only[zie,same_eq]
 cases hdu:d y.to.toNat with
 | none =>
  rw[hdu] at hu
  have hr:rlF (d,c) (edM (edQ y))=(d,c):=by
   unfold rlF edM edQ
   simp only[hdu]
  rw[hr,dqT (show (T (y.to.toNat * 2),T (y.to.toNat * 2+1))=((1000000000000:Int),(0:Int)) from hu)]
  exact⟨T,rfl,rfl,h1⟩
 | some x =>
  obtain⟨L,U,k1,k2,k3,k4,k5,k6⟩:=zj5 hE hs hi hdu
  rw[hdu] at hu k1
  rw[k1] at hu
  have hL:T (y.to.toNat * 2)=L:=(Prod.mk.inj hu).1
  have hU:T (y.to.toNat * 2+1)=U:=(Prod.mk.inj hu).2
  rw[hL,hU,dqF (show ¬ (L,U)=((1000000000000:Int),(0:Int)) from λ h=>by have:=(Prod.mk.inj h).1;omega),zbf (x:=L+y.length) (by omega) (by omega),zbf (x:=U+(1:Int)) (by omega) (by omega)]
  rw[(zj4 _ _).1,(zj4 _ _).2,zAQ]
  have hw:x+(edM (edQ y)).w=(L+y.length) * 1048576+(U+1):=by
   show x+(y.length * 1048576+1)=_
   omega
  have hr:rlF (d,c) (edM (edQ y))=cond (ltO ((L+y.length) * 1048576+(U+1)) (d y.from_.toNat)) (zhD d y.from_.toNat ((L+y.length) * 1048576+(U+1)),true) (d,c):=by
   rw[<- hw]
   unfold rlF edM edQ
   simp only[hdu] <;> rfl
  have hlt:decide ((L+y.length < T (y.from_.toNat * 2))\/(L+y.length=T (y.from_.toNat * 2)/\U+1 < T (y.from_.toNat * 2+1)))=ltO ((L+y.length) * 1048576+(U+1)) (d y.from_.toNat):=by
   cases hdv:d y.from_.toNat with
   | none =>
    rw[hdv] at hv
    have hv1:T (y.from_.toNat * 2)=1000000000000:=(Prod.mk.inj hv).1
    rw[hv1]
    exact dqT (.inl (by omega))
   | some z =>
    obtain⟨L',U',m1,m2,m3,m4,m5,m6⟩:=zj5 hE hs hi hdv
    rw[hdv] at hv m1
    rw[m1] at hv
    rw[(Prod.mk.inj hv).1,(Prod.mk.inj hv).2,m2]
    exact decide_eq_decide.2 (by omega)
  simp only[hlt]
  rw[hr] at hin ⊢
  have hrw:∀ T'',Rp N T d->T''=ts 80 T (y.from_.toNat * 2) [T (y.from_.toNat * 2),T (y.from_.toNat * 2+1)]->Rp N T'' d:=λ T'' h e v hv'=>by
   rw[e,zdY (by omega),zdY (by omega),<- h v hv']
   by_cases hq:v=y.from_.toNat
   ·subst hq
    rw[dqG (by omega),dqP rfl,dqP rfl]
   ·rw[dqG (by omega),dqG (by omega),dqG (by omega),dqG (by omega)]
  cases hlo:ltO ((L+y.length) * 1048576+(U+1)) (d y.from_.toNat) with
  | false =>
   refine⟨ts 80 T (y.from_.toNat * 2) [T (y.from_.toNat * 2),T (y.from_.toNat * 2+1)],?_,?_,hrw _ h1 rfl⟩
   ·simp only [dqB, decide_true]
    cases c <;> rfl
   ·simp only [dqB, Bool.true_and, decide_true]
    cases c <;> rfl
  | true =>
   rw[hlo] at hin
   simp only[dqA,dqB,Bool.true_and,decide_true] at hin ⊢
   refine⟨ts 80 T (y.from_.toNat * 2) [L+y.length,U+1],?_,?_,?_⟩
   ·cases c
    ·rw [dqF]
     ·rfl
     ·intro h
      rw[<- hlt] at hlo
      have:=of_decide_eq_true hlo
      have h1':=(Prod.mk.inj h).1
      have h2':=(Prod.mk.inj h).2
      omega
    ·rfl
   ·cases c
    ·rw [dqF]
     ·rfl
     ·intro h
      rw[<- hlt] at hlo
      have:=of_decide_eq_true hlo
      have h1':=(Prod.mk.inj h).1
      have h2':=(Prod.mk.inj h).2
      omega
    ·rfl
   ·intro v hv'
    rw[zdY (by omega),zdY (by omega)]
    unfold zhD
    by_cases hq:v=y.from_.toNat
    ·subst hq
     rw[dqG (by omega),dqP rfl,dqP rfl,dqP rfl]
     exact (zsC (by omega) (by omega)).symm
    ·rw [dqG (by omega), dqG (by omega), dqG (by omega), dqG (by omega), dqG hq]
     exact h1 v hv'
theorem zLR (a:web){N s:Nat}(E:List Ed) (hE:EdOk E N) (hn:zbt E) (hs:s < N) (S2:Bool->Tab->Tab->Tab) (P2:Bool->Tab->Tab->Bool):∀ (l:List step),(∀ y∈l,StOk y N/\edQ y∈E)->∀ (c:Bool) (T4 T:Tab) (d:zby),Rp N T d->Inv (E.map edM) (λ v=>v=s) d ->
  ∃ T',znq S2 a l c T4 T=S2 (((l.map edQ).map edM).foldl rlF (d,c)).2 T4 T'/\znr P2 a l c T4 T=P2 (((l.map edQ).map edM).foldl rlF (d,c)).2 T4 T'/\Rp N T' (((l.map edQ).map edM).foldl rlF (d,c)).1:=by
 intro l
 induction l with
 | nil=>intro _ c T4 T d h1 _;exact⟨T,rfl,rfl,h1⟩
 | cons y l ih =>
  intro hl c T4 T d h1 h2
  obtain⟨hy,hm⟩:=hl y (dqj ..)
  obtain⟨T',k1,k2,k3⟩:=zLQ a E hE hn hs S2 P2 y hy hm (znq S2 a l) (znr P2 a l) c T4 T d h1 h2
  have h3:=zjq (Src:=λ v=>v=s) (zgK hn) (s:=(d,c)) (e:=edM (edQ y)) (List.mem_map_of_mem hm) h2
  obtain⟨T'',m1,m2,m3⟩:=ih (λ z hz=>hl z (dqf _ hz)) (rlF (d,c) (edM (edQ y))).2 T4 T' (rlF (d,c) (edM (edQ y))).1 k3 h3
  exact⟨T'',Eq.trans k1 m1,Eq.trans k2 m2,m3⟩
theorem zC0 (a:web) (hnet:NetOk a.Net) (E:List Ed) (hEe:E=(Ws a).map edQ){s:Nat}(hE:EdOk E a.Net.Nodes.toNat) (hn:zbt E) (hs:s < a.Net.Nodes.toNat):∀ (m k:Nat) (T4 T:Tab) (d:zby),Rp a.Net.Nodes.toNat T d->Inv (E.map edM) (λ v=>v=s) d->Fix (E.map edM) (rds (E.map edM) m d)->m+1 < k ->
  ∃ T',zf5 a k true T4 T=true/\zf4 a k true T4 T=T'/\Rp a.Net.Nodes.toNat T' (rds (E.map edM) m d):=by
 have hlen:=hnet.len
 obtain⟨q1,q2⟩:=zlx a (by omega)
 have hst:∀ y∈Ws a,StOk y a.Net.Nodes.toNat/\edQ y∈E:=λ y hy=>⟨zoi hnet hy,by rw[hEe];exact List.mem_map_of_mem hy⟩
 have one:∀ (k:Nat) (T4 T:Tab) (d:zby),Rp a.Net.Nodes.toNat T d->Inv (E.map edM) (λ v=>v=s) d ->
   ∃ T',zf4 a (k+1) true T4 T=zf4 a k ((E.map edM).foldl rlF (d,false)).2 T4 T'/\zf5 a (k+1) true T4 T=zf5 a k ((E.map edM).foldl rlF (d,false)).2 T4 T'/\Rp a.Net.Nodes.toNat T' (rnd (E.map edM) d):=by
  intro k T4 T d h1 h2
  obtain⟨T',k1,k2,k3⟩:=zLR a E hE hn hs (zf4 a k) (zf5 a k) (Ws a) hst false T4 T d h1 h2
  rw[<- hEe] at k1 k2 k3
  refine⟨T',?_,?_,k3⟩
  ·show zns a (zf4 a k) true T4 T = _
   unfold zns zqM
   rw[dqA,q2];exact k1
  ·show znt a (zf5 a k) true T4 T = _
   unfold znt zqN
   rw[dqA,q1,q2,dqT rfl,Bool.true_and];exact k2
 have stop:∀ (k:Nat) (T4 T:Tab),zf4 a (k+1) false T4 T=T/\zf5 a (k+1) false T4 T=true:=λ k T4 T=>⟨rfl,rfl⟩
 intro m
 induction m with
 | zero =>
  intro k T4 T d h1 h2 h3 hk
  obtain⟨k,rfl⟩:∃ k',k=k'+1+1:=⟨k - 2,by omega⟩
  obtain⟨T',k1,k2,k3⟩:=one (k+1) T4 T d h1 h2
  have h3':Fix (E.map edM) d:=h3
  rw[zib h3'] at k1 k2
  rw[zhy h3'] at k3
  obtain⟨j1,j2⟩:=stop k T4 T'
  exact⟨T',k2.trans j2,k1.trans j1,k3⟩
 | succ m ih =>
  intro k T4 T d h1 h2 h3 hk
  obtain⟨k,rfl⟩:∃ k',k=k'+1+1:=⟨k - 2,by omega⟩
  obtain⟨T',k1,k2,k3⟩:=one (k+1) T4 T d h1 h2
  cases hf:((E.map edM).foldl rlF (d,false)).2 with
  | false =>
   rw[hf] at k1 k2
   have hx:Fix (E.map edM) d:=zgX hf
   obtain⟨j1,j2⟩:=stop k T4 T'
   refine⟨T',k2.trans j2,k1.trans j1,?_⟩
   rw[zhy hx] at k3
   rw[zsA hx];exact k3
  | true =>
   rw[hf] at k1 k2
   obtain⟨T'',m1,m2,m3⟩:=ih (k+1) T4 T' (rnd (E.map edM) d) k3 (zj3 (zgK hn) (λ _ h=>h) (s:=(d,false)) h2) h3 (by omega)
   exact⟨T'',k2.trans m1,k1.trans m2,m3⟩
theorem zIL (a:web) (node:Int):∀ (m k i:Nat) (T4 T:Tab),(∀ v,v < i->T (v * 2)=1000000000000/\T (v * 2+1)=0)->i+m=40->m < k ->
  ∃ T',ziM a node k (i:Int) T4 T=znu a node T4 T'/\ziN a node k (i:Int) T4 T=znv a node T4 T'/\∀ v,v < 40->T' (v * 2)=1000000000000/\T' (v * 2+1)=0:=by
 intro m
 induction m with
 | zero =>
  intro k i T4 T h hi hk
  obtain⟨k,rfl⟩:∃ k',k=k'+1:=⟨k - 1,by omega⟩
  refine⟨T,?_,?_,λ v hv=>h v (by omega)⟩
  ·show ziK a node (ziM a node k) (i : Int) T4 T = _
   unfold ziK
   rw[dqF (show ¬ (i:Int) < (40:Int) by omega),dqB]
  ·show ziL a node (ziN a node k) (i : Int) T4 T = _
   unfold ziL
   rw[dqF (show ¬ (i:Int) < (40:Int) by omega),dqB]
 | succ m ih =>
  intro k i T4 T h hi hk
  obtain⟨k,rfl⟩:∃ k',k=k'+1:=⟨k - 1,by omega⟩
  have hw:w64 ((i:Int)+(1:Int))=((i+1:Nat):Int):=by rw[zbf (by omega) (by omega)];omega
  obtain⟨T',k1,k2,k3⟩:=ih k (i+1) T4 (ts 80 T (i * 2) [(1000000000000:Int),(0:Int)]) (λ v hv=>by
   rw[zdY (by omega),zdY (by omega)]
   by_cases hq:v=i
   ·subst hq
    rw[dqG (by omega),dqP rfl,dqP rfl];exact⟨rfl,rfl⟩
   ·rw[dqG (by omega),dqG (by omega),dqG (by omega),dqG (by omega)];exact h v (by omega)) (by omega) (by omega)
  refine⟨T',?_,?_,k3⟩
  ·rw [← k1]
   show ziK a node (ziM a node k) (i:Int) T4 T=_
   unfold ziK
   rw[dqT (show (i:Int) < (40:Int) by omega),dqA,hw,dqN,show 0+i * 2+0=i * 2 by omega]
  ·rw [← k2]
   show ziL a node (ziN a node k) (i:Int) T4 T=_
   unfold ziL
   rw[dqT (show (i:Int) < (40:Int) by omega),dqA,dqT (show 0<=(i:Int)/\(i:Int) < (40:Int) by omega),Bool.true_and,hw,dqN,show 0+i * 2+0=i * 2 by omega]
theorem zEA (a : web) (hnet : NetOk a.Net) (hn : zbt (We a)) (node : Int) (h0 : 0 ≤ node) (h1 : node < a.Net.Nodes) :
  p75 a node=true/\Rp a.Net.Nodes.toNat (s75 a node) (dst ((We a).map edR) a.Net.Nodes.toNat node.toNat):=by
 have hn40:=hnet.n40
 have hEe:((We a).map edR)=(Ws a).map edQ:=(zAR (Ws a)).symm
 have hE:EdOk ((We a).map edR) a.Net.Nodes.toNat:=(zu9 hnet).R
 have hN:zbt ((We a).map edR):=zgJ hn
 have hs:node.toNat < a.Net.Nodes.toNat:=by omega
 obtain⟨T1,a1,a2,a3⟩:=zIL a node 40 Fuel 0 (λ _=>(0:Int)) (λ _=>(0:Int)) (λ v hv=>absurd hv (dqW _)) rfl (by simp only[Fuel];omega)
 have hr:Rp a.Net.Nodes.toNat (ts 80 T1 (node.toNat * 2) [(0:Int),(0:Int)]) (zjP node.toNat):=λ v hv=>by
  rw[zdY (by omega),zdY (by omega)]
  unfold zjP
  by_cases hq:v=node.toNat
  ·subst hq
   rw[dqG (by omega),dqP rfl,dqP rfl,dqP rfl];rfl
  ·rw[dqG (by omega),dqG (by omega),dqG (by omega),dqG (by omega),dqG hq,(a3 v (by omega)).1,(a3 v (by omega)).2];rfl
 obtain⟨T2,b1,b2,b3⟩:=zC0 a hnet ((We a).map edR) hEe hE hN hs (a.Net.Nodes.toNat - 1) Fuel (λ _=>(0:Int)) (ts 80 T1 (node.toNat * 2) [(0:Int),(0:Int)]) (zjP node.toNat) hr (zes (zdr node.toNat)) (zlw hE hN hs) (by simp only[Fuel];omega)
 have e:0+node.toNat * 2+0=node.toNat * 2:=by omega
 constructor
 ·show ziN a node Fuel 0 (fun _ => (0:Int)) (fun _ => (0:Int)) = true
  refine Eq.trans a2 ?_
  unfold znv zqP
  rw[dqT (show 0<=node/\node < (40:Int) by omega),Bool.true_and,e];exact b1
 ·have:s75 a node=T2:=by
   show ziM a node Fuel 0 (λ _=>(0:Int)) (λ _=>(0:Int))=T2
   refine Eq.trans a1 ?_
   unfold znu zqO
   rw[e];exact b2
  rw[this];exact b3
end Go.Proofs
namespace Go.Proofs
open Go Go.Pm
set_option maxRecDepth 100000
set_option linter.unusedVariables false
def W (n:Net):web:=⟨n,⟨0,λ _=>none⟩⟩
abbrev En (n:Net):List Ed:=We (W n)
def fr (n:Net) (i j:Nat):Int:=zCW (dst (En n) n.Nodes.toNat i j)
theorem zEB {E:List Ed}{n s v:Nat}(hE:EdOk E n) (hn:zbt E) (hs:s < n) (hv:v < n):zCW (dst (E.map edR) n s v)=zCW (dst E n v s):=by
 refine Int.le_antisymm ?_ ?_
 ·rcases zec (v := s) hE hn hv with ⟨_, h⟩ | ⟨c, _, h1, h2, _⟩
  ·rw [h]
   rcases zec (v:=v) hE.R (zgJ hn) hs with ⟨_,h⟩ | ⟨c,_,_,h2,_,_,_⟩ <;> omega
  ·rw[h2,<- zOl c];exact zog hE.R (zgJ hn) hs (zOm h1)
 ·rcases zec (v := v) hE.R (zgJ hn) hs with ⟨_, h⟩ | ⟨c, _, h1, h2, _⟩
  ·rw [h]
   rcases zec (v:=s) hE hn hv with ⟨_,h⟩ | ⟨c,_,_,h2,_,_,_⟩ <;> omega
  ·obtain ⟨c0, k1, k2, _⟩ := zLK h1
   rw[h2,<- k2];exact zog hE hn hv k1
theorem zC1 {n:Net}(hn:NetOk n) (hN:zbt (En n)) {i j:Nat}(hi:i < n.Nodes.toNat) : -1000000000000<=fr n i j/\fr n i j<=1000000000000:=by
 have hE:EdOk (En n) n.Nodes.toNat:=zu9 (a:=W n) hn
 unfold fr
 rcases zec (v:=j) hE hN hi with ⟨_,h⟩ | ⟨c,_,_,h2,_,h3,h4⟩
 ·rw[h];omega
 ·rw[h2];omega
theorem zif (n:Net) (nodes:Sl Int) (hl:nodes.len<=1000) (ht:n.Ties.len<=210):p74 n nodes=true /\
    (s67 n=false->s74 n nodes=(default,2)) /\
    (NetOk n->(¬ ∀ i,i < nodes.len->0<=nodes.get i/\nodes.get i < n.Nodes)->s74 n nodes=(default,2)) /\
    (NetOk n->(∀ i,i < nodes.len->0<=nodes.get i/\nodes.get i < n.Nodes)->¬ zbt (En n)->s74 n nodes=(default,5)) /\
    (NetOk n->(∀ i,i < nodes.len->0<=nodes.get i/\nodes.get i < n.Nodes)->zbt (En n)->s74 n nodes=(W n,0)):=by
  obtain⟨a1,a2⟩:=zAA n (by omega)
  unfold p74 s74
  rw[a1,dqT (show true=true from rfl),Bool.true_and]
  by_cases hs:s67 n=true
  · have hn := a2.1 hs
    have hn1:=hn.n1;have hn40:=hn.n40
    obtain⟨t1,_⟩:=zAO (W n) hn
    rw[hs]
    have hg:∀ i,i < nodes.len->(s81 (nodes.get i) (0:Int) (w64 (n.Nodes - (1:Int)))=true↔0<=nodes.get i/\nodes.get i < n.Nodes):=λ i _=>by
      rw[zls,decide_eq_true_eq,zbf (by omega) (by omega)];omega
    have hloop := zIE (good := fun i => s81 (nodes.get i) (0:Int) (w64 (n.Nodes - (1:Int)))) (bad := ((default : web), (2:Int))) (fin := zqA n (s88 (W n))) (zI8 := true) (n := nodes.len) (lpS := ziI n nodes) (lpP := ziJ n nodes)
      (λ k i hi=>by
        show ziG n nodes (ziI n nodes k) (i:Int)=_
        generalize ziI n nodes k=S
        unfold ziG zqB
        rw[dqT (show (i:Int) < (nodes.len:Int) by omega),dqA,dqN]
        cases s81 (nodes.get i) (0:Int) (w64 (n.Nodes - (1:Int))) <;> rfl)
      (λ k=>by
        show ziG n nodes (ziI n nodes k) (nodes.len:Int)=_
        unfold ziG
        rw[dqF (show ¬ (nodes.len:Int) < (nodes.len:Int) by omega),dqB];rfl)
      (λ k i hi=>by
        show ziH n nodes (ziJ n nodes k) (i:Int)=_
        generalize ziJ n nodes k=S
        unfold ziH zqC
        rw[dqT (show (i:Int) < (nodes.len:Int) by omega),dqA,dqN,dqT (show 0<=(i:Int)/\(i:Int) < (nodes.len:Int) by omega),Bool.true_and]
        cases s81 (nodes.get i) (0:Int) (w64 (n.Nodes - (1:Int))) <;> rfl)
      (λ k=>by
        show ziH n nodes (ziJ n nodes k) (nodes.len:Int)=_
        unfold ziH
        rw[dqF (show ¬ (nodes.len:Int) < (nodes.len:Int) by omega),dqB,show p88 (⟨n,(⟨0,(λ _=>none)⟩:Mp)⟩:web)=true from t1];rfl)
      (by omega)
    unfold zqI zqH zqG zqF zqE zqD
    by_cases hr:∀ i,i < nodes.len->0<=nodes.get i/\nodes.get i < n.Nodes
    · obtain ⟨l1, l2⟩ := hloop.1 (fun i hi => (hg i hi).2 (hr i hi))
      rw[l1,l2]
      refine⟨rfl,λ h=>(by cases h),λ _ h=>absurd hr h,λ _ _ h=>?_,λ _ _ h=>?_⟩
      · have:s88 (W n)=true:=by
          cases ht:s88 (W n)
          · exact absurd ((zAP (W n) hn).1 ht) h
          · rfl
        rw[this];rfl
      · rw[(zAP (W n) hn).2 h];rfl
    · obtain ⟨l1, l2⟩ := hloop.2 (fun h => hr fun i hi => (hg i hi).1 (h i hi))
      rw[l1,l2]
      exact⟨rfl,λ h=>(by cases h),λ _ _=>rfl,λ _ h=>absurd h hr,λ _ h=>absurd h hr⟩
  · rw [Bool.eq_false_iff.2 hs]
    have hno:NetOk n->False:=λ h=>hs (a2.2 h)
    exact⟨rfl,λ _=>rfl,λ h=>(hno h).elim,λ h=>(hno h).elim,λ h=>(hno h).elim⟩
theorem zNM {n:Net}(hn:NetOk n) (hN:zbt (En n)) {i:Int}(h0:0<=i) (h1:i < n.Nodes){j:Nat}(hj:j < n.Nodes.toNat):p75 (W n) i=true/\s75 (W n) i (j * 2)=fr n j i.toNat:=by
 have h40:=hn.n40
 obtain⟨a,b⟩:=zEA (W n) hn hN i h0 h1
 refine⟨a,?_⟩
 have:=(Prod.mk.inj (b j hj)).1
 rw[this]
 exact zEB (zu9 (a:=W n) hn) hN (show i.toNat < n.Nodes.toNat by omega) hj
theorem zIM {n:Net}(hn:NetOk n) (hN:zbt (En n)) {i:Int}(h0:0<=i) (h1:i < n.Nodes){j:Nat}(hj:j < n.Nodes.toNat):p76 (W n) i=true/\s76 (W n) i (j * 2)=fr n i.toNat j:=by
 obtain⟨a,b⟩:=zLP (W n) hn hN i h0 h1
 exact⟨a,(Prod.mk.inj (b j hj)).1⟩
theorem zeX {α:Type}(i:Nat) (v:α) (g:Nat->α) (j:Nat):setT i v g j=if j=i then v else g j:=by
 show (match Nat.beq j i with | true=>v | false=>g j)=_
 by_cases h:j=i
 ·rw[dqP h,show Nat.beq j i=true from by rw[h];exact Nat.beq_refl _]
 ·rw[dqG h,show Nat.beq j i=false from Bool.eq_false_iff.2 λ e=>h (dqc e)]
theorem in2 {n:Net}{i j:Int}(hi:0<=i/\i < n.Nodes) (hj:0<=j/\j < n.Nodes):∀ k,k < (⟨2,zaq (za9 [(zad i),(zad j)])⟩:Sl Int).len->0<=(⟨2,zaq (za9 [(zad i),(zad j)])⟩:Sl Int).get k/\(⟨2,zaq (za9 [(zad i),(zad j)])⟩:Sl Int).get k < n.Nodes:=by
 intro k hk
 match k,hk with
 | 0,_=>exact hi
 | 1,_=>exact hj
theorem zva {n:Net}(ht:n.Ties.len<=210) (hn:NetOk n){i j:Int}(hi:0<=i/\i < n.Nodes) (hj:0<=j/\j < n.Nodes) (hN:zbt (En n)):p30 n i j=true/\s30 n i j=((⟨-fr n j.toNat i.toNat,fr n i.toNat j.toNat⟩:Span),(0:Int)):=by
 have hn40:=hn.n40
 obtain⟨w0,_,_,_,w4⟩:=zif n (⟨2,zaq (za9 [(zad i),(zad j)])⟩:Sl Int) (by show 2<=1000;omega) ht
 have w4':=w4 hn (in2 hi hj) hN
 obtain⟨p1,hT⟩:=zNM hn hN hi.1 hi.2 (j:=j.toNat) (by omega)
 obtain⟨p2,hF⟩:=zIM hn hN hi.1 hi.2 (j:=j.toNat) (by omega)
 have hb:=zC1 hn hN (i:=j.toNat) (j:=i.toNat) (by omega)
 unfold p30 s30
 rw[w0,w4']
 constructor
 ·show (cond ((0:Int) == 0) (decide (true = true) && cond ((0:Int) != (0:Int)) true (decide (p75 (W n) i = true) && (decide (0 ≤ j ∧ j < (40 : Int)) && (decide (p76 (W n) i = true) && (decide (0 ≤ j ∧ j < (40 : Int)) && true))))) _) = true
  rw[p1,p2,dqT (show 0<=j/\j < (40:Int) by omega)];rfl
 ·show ((⟨(w64 (0 - (tg 80 (s75 (W n) i) (0 + j.toNat * 2 + 0)))), (tg 80 (s76 (W n) i) (0 + j.toNat * 2 + 0))⟩ : Span), (0:Int)) = _
  rw[show 0+j.toNat * 2+0=j.toNat * 2 by omega,zdM (by omega),zdM (by omega),hT,hF,zbf (by omega) (by omega),show (0:Int) - fr n j.toNat i.toNat = -fr n j.toNat i.toNat by omega]
end Go.Proofs
namespace Go.Pm
def jr (o:zby) (s:zby×Bool) (e:Ed):zby×Bool :=
 match o e.u with
 | none=>s
 | some x=>cond (ltO (x+e.w) (s.1 e.v)) (zhD s.1 e.v (x+e.w),true) s
theorem zIN (o:zby) (s:zby×Bool) (e:Ed) (v:Nat):leO ((jr o s e).1 v) (s.1 v):=by
 unfold jr
 cases hu:o e.u with
 | none=>exact zcU _
 | some x =>
  simp only[]
  cases hl:ltO (x+e.w) (s.1 e.v)
  ·exact zcU _
  ·show leO (zhD s.1 e.v (x + e.w) v) _
   unfold zhD
   by_cases hv:v=e.v
   ·rw [dqP hv]
    intro y hy
    refine⟨_,rfl,?_⟩
    rw[hv] at hy
    rw[hy] at hl
    exact Int.le_of_lt (of_decide_eq_true hl)
   ·rw[dqG hv];exact zcU _
theorem zLS (o:zby) (E:List Ed) (s:zby×Bool) (v:Nat):leO ((E.foldl (jr o) s).1 v) (s.1 v):=by
 induction E generalizing s with
 | nil=>exact zcU _
 | cons e l ih=>exact zcn (ih (jr o s e)) (zIN o s e v)
theorem zNN {o:zby}{s:zby×Bool}{e:Ed}{x:Int}(h:o e.u=some x):leO ((jr o s e).1 e.v) (some (x+e.w)):=by
 unfold jr
 simp only[h]
 cases hl:ltO (x+e.w) (s.1 e.v)
 ·obtain ⟨y, h1, h2⟩ := zlt hl
  intro z hz;cases hz
  exact⟨y,h1,h2⟩
 ·intro z hz; cases hz
  exact⟨x+e.w,by show zhD s.1 e.v (x+e.w) e.v=_;unfold zhD;rw[dqP rfl],Int.le_refl _⟩
theorem zLT {o:zby}{E:List Ed}{s:zby×Bool}{e:Ed}{x:Int}(he:e∈E) (h:o e.u=some x):leO ((E.foldl (jr o) s).1 e.v) (some (x+e.w)):=by
 induction E generalizing s with
 | nil=>cases he
 | cons f l ih =>
  rcases dqq.1 he with rfl | hm
  ·exact zcn (zLS o l (jr o s e) e.v) (zNN h)
  ·exact ih hm
theorem zIO {o:zby}{s:zby×Bool}{e:Ed}(h:s.2=true):(jr o s e).2=true:=by
 unfold jr
 cases o e.u with
 | none=>exact h
 | some x=>simp only[];cases ltO (x+e.w) (s.1 e.v) <;> first | exact h | rfl
theorem zIP {o:zby}{E:List Ed}{s:zby×Bool}(h:s.2=true):(E.foldl (jr o) s).2=true:=by
 induction E generalizing s with
 | nil=>exact h
 | cons e l ih=>exact ih (zIO h)
theorem zEC {d:zby}{c:Bool}{e:Ed}(h:Sat d e):jr d (d,c) e=(d,c):=zsz h
theorem zLU {E:List Ed}{d:zby}{c:Bool}(h:∀ e∈E,Sat d e):E.foldl (jr d) (d,c)=(d,c):=by
 induction E with
 | nil=>rfl
 | cons e l ih =>
  show l.foldl (jr d) (jr d (d,c) e)=_
  rw[zEC (h e (dqj ..))]
  exact ih λ e he=>h e (dqf _ he)
theorem zC2 {E:List Ed}{d:zby}{c:Bool}(h:(E.foldl (jr d) (d,c)).2=false):∀ e∈E,Sat d e:=by
 induction E with
 | nil=>intro e he;cases he
 | cons e l ih =>
  have h':(l.foldl (jr d) (jr d (d,c) e)).2=false:=h
  have hs:Sat d e:=Classical.byContradiction λ hn=>by
   have:(jr d (d,c) e).2=true:=zAC hn
   rw[zIP this] at h';cases h'
  rw[zEC hs] at h'
  intro e' he'
  rcases dqq.1 he' with rfl | hm
  ·exact hs
  ·exact ih h' e' hm
def zED (E:List Ed) (d:zby):zby:=(E.foldl (jr d) (d,false)).1
def zAS (E : List Ed) : Nat → zby → zby
  | 0,d=>d
  | k+1,d=>zAS E k (zED E d)
theorem zAT (E:List Ed) (k:Nat) (d:zby) (v:Nat):leO (zAS E k d v) (d v):=by
 induction k generalizing d with
 | zero=>exact zcU _
 | succ k ih=>exact zcn (ih (zED E d)) (zLS d E (d,false) v)
theorem zIQ {E:List Ed}{c:List Ed} : ∀ {a b k:Nat}{d:zby}{y:Int},zeZ E a c b->d a=some y->c.length<=k->leO (zAS E k d b) (some (y+wt c)):=by
 induction c with
 | nil =>
  intro a b k d y h hd _
  cases h
  intro z hz;cases hz
  obtain⟨x,h1,h2⟩:=zAT E k d a y hd
  exact⟨x,h1,by show x<=y+0;omega⟩
 | cons e l ih =>
  intro a b k d y h hd hk
  obtain⟨k,rfl⟩:∃ k',k=k'+1:=⟨k - 1,by simp only[dqr] at hk;omega⟩
  obtain⟨h1,h2,h3⟩:=h
  subst h2
  obtain⟨x,k1,k2⟩:=zLT (o:=d) (s:=(d,false)) h1 hd _ rfl
  intro z hz;cases hz
  obtain⟨z,m1,m2⟩:=ih (k:=k) (d:=zED E d) h3 k1 (by simp only[dqr] at hk;omega) _ rfl
  exact⟨z,m1,by show z<=y+(e.w+wt l);omega⟩
theorem zLV {E:List Ed}{Src:Nat->Prop}(hn:zbt E){o:zby}(ho:Inv E Src o){s:zby×Bool}{e:Ed}(he:e∈E) (hs:∀ m,leO (s.1 m) (o m)) (h:Inv E Src s.1):Inv E Src (jr o s e).1:=by
 intro v x hx
 have hle:=zIN o s e
 unfold jr at hx hle ⊢
 cases hu:o e.u with
 | none =>
  simp only[hu] at hx ⊢
  obtain⟨a,c,hc⟩:=h v x hx
  exact⟨a,c,hc⟩
 | some y =>
  simp only[hu] at hx hle ⊢
  cases hl:ltO (y+e.w) (s.1 e.v) with
  | false =>
   simp only[hl,dqB] at hx ⊢
   exact h v x hx
  | true =>
   simp only[hl,dqA] at hx hle ⊢
   by_cases hv:v=e.v
   ·subst hv
    have hx':y+e.w=x:=by
     unfold zhD at hx;rw[dqP rfl] at hx;exact Option.some.inj hx
    obtain⟨a,c,hc⟩:=ho e.u y hu
    have hnot:e.v ∉ nodes a c:=λ hm=>by
     obtain⟨z,h1,h2⟩:=zcn (hs e.v) (zj2 hn he hc hm) _ rfl
     rw[h1] at hl
     have:=of_decide_eq_true hl
     omega
    refine⟨a,c ++ [e],hc.src,zcI.2 ⟨e.u,hc.ch,zdz he⟩,by rw[zfD,zgI,<- hc.wt];omega,?_,?_⟩
    ·show (a :: (c ++ [e]).map Ed.v).Nodup
     rw[List.map_append,<- List.cons_append]
     refine List.nodup_append.2 ⟨hc.nd,by simp,λ p hp q hq=>?_⟩
     have:q=e.v:=by simpa using hq
     subst this
     exact λ e'=>hnot (e' ▸ hp)
    ·intro c1 c2 m h1 h2
     rcases zic h1 with rfl | ⟨c3,h3⟩
     ·have : m = e.v := zuj h2 (zcI.2 ⟨e.u, hc.ch, zdz he⟩)
      subst this
      intro z hz;cases hz
      refine⟨x,hx,?_⟩
      rw[zfD,zgI,<- hc.wt];omega
     ·exact zcn (zcn (hle m) (hs m)) (hc.pre c1 c3 m h3 h2)
   ·have hx':s.1 v=some x:=by
     unfold zhD at hx;rw[dqG hv] at hx;exact hx
    obtain⟨a,c,hc⟩:=h v x hx'
    exact⟨a,c,zEw hc hle⟩
theorem zLW {E F:List Ed}{Src:Nat->Prop}(hn:zbt E) (hF:∀ e∈F,e∈E){o:zby}(ho:Inv E Src o){s:zby×Bool}(hs:∀ m,leO (s.1 m) (o m)) (h:Inv E Src s.1):Inv E Src (F.foldl (jr o) s).1:=by
 induction F generalizing s with
 | nil=>exact h
 | cons e l ih=>exact ih (λ e he=>hF e (dqf _ he)) (λ m=>zcn (zIN o s e m) (hs m)) (zLV hn ho (hF e (dqj ..)) hs h)
theorem zC3 {E:List Ed}{Src:Nat->Prop}(hn:zbt E) (k:Nat){d:zby}(h:Inv E Src d):Inv E Src (zAS E k d):=by
 induction k generalizing d with
 | zero=>exact h
 | succ k ih=>exact ih (zLW hn (λ _ h=>h) h (s:=(d,false)) (λ _=>zcU _) h)
theorem zLX {E:List Ed}{n:Nat}{Src:Nat->Prop}(hn:zbt E) (hE:∀ e∈E,e.u < n/\e.v < n) (hS:∀ a,Src a->a < n){d:zby}(h0:Start Src d):Fix E (zAS E (n - 1) d):=by
 intro e he x hx
 obtain⟨a,c,hc⟩:=zC3 hn (n - 1) (zes (E:=E) h0) e.u x hx
 by_cases hm:e.v∈nodes a c
 ·exact zj2 hn he hc hm _ rfl
 ·have hlen:(c ++ [e]).length<=n - 1:=by
   have hnd:(nodes a (c ++ [e])).Nodup:=by
    show (a :: (c ++ [e]).map Ed.v).Nodup
    rw[List.map_append,<- List.cons_append]
    refine List.nodup_append.2 ⟨hc.nd,by simp,λ p hp q hq=>?_⟩
    have:q=e.v:=by simpa using hq
    subst this
    exact λ e'=>hm (e' ▸ hp)
   have hch:zeZ E a (c ++ [e]) e.v:=zcI.2 ⟨e.u,hc.ch,zdz he⟩
   have:=zlu n hnd (zof hE (hS a hc.src) hch)
   rw[zlv] at this
   omega
  have:=zIQ (zcI.2 ⟨e.u,hc.ch,zdz he⟩) (h0.src a hc.src) hlen _ rfl
  rw[zfD,zgI,<- hc.wt] at this
  obtain⟨z,h1,h2⟩:=this
  exact⟨z,h1,by omega⟩
def zg8 (E : List Ed) : Nat → Bool → zby → Bool
  | 0,c,_=>!c
  | m+1,c,d=>cond c (zg8 E m (E.foldl (jr d) (d,false)).2 (zED E d)) (!c)
theorem zuk (E:List Ed) (m:Nat) (d:zby):zg8 E m false d=true:=by cases m <;> rfl
theorem zpC {E:List Ed}{k:Nat} : ∀ {m:Nat}{d:zby},Fix E (zAS E k d)->k < m->zg8 E m true d=true:=by
 induction k with
 | zero =>
  intro m d h hm
  obtain⟨m,rfl⟩:∃ m',m=m'+1:=⟨m - 1,by omega⟩
  show zg8 E m (E.foldl (jr d) (d,false)).2 (zED E d)=true
  rw[zLU (show ∀ e∈E,Sat d e from h)]
  exact zuk E m _
 | succ k ih =>
  intro m d h hm
  obtain⟨m,rfl⟩:∃ m',m=m'+1:=⟨m - 1,by omega⟩
  show zg8 E m (E.foldl (jr d) (d,false)).2 (zED E d)=true
  cases (E.foldl (jr d) (d,false)).2
  ·exact zuk E m _
  ·exact ih (m:=m) (d:=zED E d) h (by omega)
theorem zAU {E:List Ed}{m:Nat} : ∀ {d:zby},zg8 E m true d=true->∃ k,Fix E (zAS E k d):=by
 induction m with
 | zero=>intro d h;cases h
 | succ m ih =>
  intro d h
  have h':zg8 E m (E.foldl (jr d) (d,false)).2 (zED E d)=true:=h
  cases hc:(E.foldl (jr d) (d,false)).2
  ·exact⟨0,zC2 hc⟩
  ·rw [hc] at h'
   obtain⟨k,hk⟩:=ih h'
   exact⟨k+1,hk⟩
theorem zAV {E:List Ed}{n:Nat}(hE:EdOk E n):zg8 E n true (zon n)=true↔zbt E:=by
 constructor
 ·intro h
  obtain⟨k,hk⟩:=zAU h
  have hsome:∀ v,v < n->∃ x,zAS E k (zon n) v=some x:=λ v hv=>by
   obtain⟨x,hx,_⟩:=zAT E k (zon n) v 0 (dqP hv)
   exact⟨x,hx⟩
  refine zpB (f:=λ v=>(zAS E k (zon n) v).getD 0) λ e he=>?_
  obtain⟨x,hx⟩:=hsome e.u (hE.lt e he).1
  obtain⟨y,hy,hxy⟩:=hk e he x hx
  show (zAS E k (zon n) e.v).getD 0<=(zAS E k (zon n) e.u).getD 0+e.w
  rw[hx,hy];exact hxy
 ·intro h
  have:=hE.n1
  exact zpC (zLX h hE.lt (λ a ha=>ha) (zmm n)) (by omega)
def dsP (E:List Ed) (n s:Nat):zby:=rds E (n - 1) (zjP s)
def zBb : Option Int → Int
  | none=>1000000000000
  | some x=>x
theorem zAW {E:List Ed}{n s:Nat}(hn:zbt E):Inv E (λ v=>v=s) (dsP E n s):=zsB hn _ (zes (zdr s))
theorem zAX {E:List Ed}{n s:Nat}(hE:EdOk E n) (hn:zbt E) (hs:s < n):Fix E (dsP E n s):=zAH hn hE.lt (λ a ha=>Nat.lt_of_le_of_lt (Nat.le_of_eq ha) hs) (zdr s)
theorem zNO {E:List Ed}{n:Nat}(hE:EdOk E n){s:Nat}(hs:s < n){d:zby}(hd:Inv E (λ v=>v=s) d){v:Nat}{x:Int}(hx:d v=some x):∃ c,zeZ E s c v/\x=wt c/\c.length < n:=by
 obtain⟨a,c,hc⟩:=hd v x hx
 have hl:=zAG hE.lt (λ a ha=>Nat.lt_of_le_of_lt (Nat.le_of_eq ha) hs) hc
 obtain rfl:a=s:=hc.src
 exact⟨c,hc.ch,hc.wt,by omega⟩
theorem zEE {E:List Ed}{n:Nat}(hE:EdOk E n){s:Nat}(hs:s < n){d:zby}(hd:Inv E (λ v=>v=s) d){v:Nat}{x:Int}(hx:d v=some x) : -40000000000<=x/\x<=40000000000:=by
 obtain⟨c,h1,h2,h3⟩:=zNO hE hs hd hx
 have:=zid hE h1
 have:=hE.n40
 omega
theorem zIR {E:List Ed}{n s v:Nat}(hE:EdOk E n) (hn:zbt E) (hs:s < n):zBb (dsP E n s v)=zCW (dst E n s v):=by
 obtain⟨y0,k1,k2⟩:=zml E (n - 1) (zjP s) s 0 (dqP rfl)
 have up:∀ c,zeZ E s c v->∃ y,dsP E n s v=some y/\y<=wt c:=λ c hc=>by
  obtain⟨y,m1,m2⟩:=zEv (zAX hE hn hs) hc k1
  exact⟨y,m1,by omega⟩
 rcases zec (v:=v) hE hn hs with ⟨_,h2⟩ | ⟨c,_,h1,h2,_⟩
 ·rw [h2]
  cases hd:dsP E n s v with
  | none=>rfl
  | some x =>
   obtain⟨c,m1,m2,m3⟩:=zNO hE hs (zAW hn) hd
   have:=zog hE hn hs m1
   have:=zid hE m1
   have:=hE.n40
   omega
 ·obtain ⟨y, m1, m2⟩ := up c h1
  obtain⟨c',q1,q2,_⟩:=zNO hE hs (zAW hn) m1
  have:=zog hE hn hs q1
  rw[m1,h2]
  show y=wt c
  omega
end Go.Pm
namespace Go.Pm
def zAY:zby:=λ _=>none
def hop (F:List Ed) (o:zby):zby:=(F.foldl (jr o) (zAY,false)).1
def hops (F : List Ed) (s : Nat) : Nat → zby
  | 0=>zjP s
  | k+1=>hop F (hops F s k)
theorem zEF {F:List Ed}{o:zby}{v:Nat}{x:Int}(h:hop F o v=some x):∃ e∈F,e.v=v/\∃ y,o e.u=some y/\x=y+e.w:=by
 have key:∀ (l:List Ed) (s:zby×Bool),(∀ e∈l,e∈F)->(∀ v x,s.1 v=some x->∃ e∈F,e.v=v/\∃ y,o e.u=some y/\x=y+e.w)->∀ v x,(l.foldl (jr o) s).1 v=some x->∃ e∈F,e.v=v/\∃ y,o e.u=some y/\x=y+e.w:=by
  intro l
  induction l with
  | nil=>intro s _ h;exact h
  | cons e l ih =>
   intro s hl h
   refine ih (jr o s e) (λ e he=>hl e (dqf _ he)) ?_
   intro v x hx
   unfold jr at hx
   cases hu:o e.u with
   | none=>simp only[hu] at hx;exact h v x hx
   | some y =>
    simp only[hu] at hx
    cases hlt:ltO (y+e.w) (s.1 e.v) with
    | false=>simp only[hlt,dqB] at hx;exact h v x hx
    | true =>
     simp only[hlt,dqA] at hx
     unfold zhD at hx
     by_cases hv:v=e.v
     ·rw [dqP hv] at hx
      exact⟨e,hl e (dqj ..),hv.symm,y,hu,(Option.some.inj hx).symm⟩
     ·rw[dqG hv] at hx;exact h v x hx
 exact key F (zAY,false) (λ _ h=>h) (λ v x h=>by cases h) v x h
theorem zoj {F:List Ed}{s:Nat} : ∀ {k v:Nat}{x:Int},hops F s k v=some x->∃ c,zeZ F s c v/\c.length=k/\x=wt c:=by
 intro k
 induction k with
 | zero =>
  intro v x h
  have h':zjP s v=some x:=h
  unfold zjP at h'
  by_cases hv:v=s
  ·rw[dqP hv] at h';exact⟨[],hv.symm,rfl,(Option.some.inj h').symm⟩
  ·rw[dqG hv] at h';cases h'
 | succ k ih =>
  intro v x h
  obtain⟨e,he,rfl,y,hy,rfl⟩:=zEF h
  obtain⟨c,h1,h2,h3⟩:=ih hy
  exact⟨c ++ [e],zcI.2 ⟨e.u,h1,zdz he⟩,by simp[h2],by rw[zfD,zgI,h3]⟩
theorem zAZ {F:List Ed}{s:Nat} : ∀ {k v:Nat}{c:List Ed},zeZ F s c v->c.length=k->∃ x,hops F s k v=some x/\x<=wt c:=by
 intro k
 induction k with
 | zero =>
  intro v c h hl
  have:c=[]:=List.length_eq_zero_iff.1 hl
  subst this
  cases h
  exact⟨0,dqP rfl,Int.le_refl _⟩
 | succ k ih =>
  intro v c h hl
  obtain⟨c',e,rfl⟩:∃ c' e,c=c' ++ [e]:=⟨c.dropLast,c.getLast (λ e=>by rw[e] at hl;cases hl),(List.dropLast_concat_getLast _).symm⟩
  obtain⟨m,h1,h2,h3,h4⟩:=zcI.1 h
  subst h3
  obtain⟨x,k1,k2⟩:=ih h1 (by simpa using hl)
  obtain⟨y,m1,m2⟩:=zLT (o:=hops F s k) (s:=(zAY,false)) h2 k1 _ rfl
  have h4':e.v=v:=h4
  rw[h4'] at m1
  exact⟨y,m1,by rw[zfD,zgI];omega⟩
end Go.Pm
namespace Go.Proofs
open Go Go.Pm
set_option maxRecDepth 100000
set_option linter.unusedVariables false
def Rh (N:Nat) (T:Tab) (d:zby) (B:Int):Prop:=∀ v,v < N->(T (v * 2)=zBb (d v)/\T (v * 2+1)=0)/\∀ x,d v=some x->-B<=x/\x<=B
def okY (node:Int) (y:step):Bool:=decide (node<=y.from_) && decide (node<=y.to)
def hF (w:web) (node:Int):List Ed:=((Ws w).filter (okY node)).map edQ
theorem zLY (x y:Int):nvr x y=decide ((x,y)=((1000000000000:Int),(0:Int))):=zie x y
theorem zLZ {N:Nat}{T:Tab}{d:zby}{B:Int}(h:Rh N T d B) (hB:B<=100000000000){v:Nat}(hv:v < N):nvr (T (v * 2)) (T (v * 2+1))=(d v).isNone:=by
 obtain⟨⟨h1,h2⟩,h3⟩:=h v hv
 rw[zLY,h1,h2]
 cases hd:d v with
 | none=>exact dqT rfl
 | some x =>
  have:=h3 x hd
  exact dqF (λ e=>by have:=(Prod.mk.inj e).1;have e':x=1000000000000:=this;omega)
structure Hm (w : web) (N : Nat) (node : Int) (U k : Nat) (v : Sl Tab) : Prop where
  len:v.len=U+1
  done:∀ j,j < k->j<=U->Rh N (v.get j) (hops (hF w node) node.toNat j) (j * 1000000000)
  rest:∀ j,k<=j->j<=U->Rh N (v.get j) zAY 0
theorem Rh.mono {N:Nat}{T:Tab}{d:zby}{B B':Int}(h:Rh N T d B) (hb:B<=B'):Rh N T d B':=λ v hv=>⟨(h v hv).1,λ x hx=>by have:=(h v hv).2 x hx;omega⟩
end Go.Proofs
namespace Go.Proofs
open Go Go.Pm
set_option maxRecDepth 100000
set_option linter.unusedVariables false
attribute [local irreducible] Go.Pm.vcFun Go.Pm.vc Go.Pm.vcIter
end Go.Proofs
namespace Go.Proofs
open Go Go.Pm
set_option maxRecDepth 100000
set_option linter.unusedVariables false
theorem zsF {α:Type}(n:Nat) (g:Nat->α) (x:α) (j:Nat):zdm n g (λ _=>x) j=if n<=j then x else g j:=by
 unfold zdm
 by_cases h:n<=j
 ·rw[dqP h,show Nat.ble n j=true from Nat.ble_eq_true_of_le h]
 ·rw[dqG h,show Nat.ble n j=false from Bool.eq_false_iff.2 λ k=>h (Nat.le_of_ble_eq_true k)]
def turn (t:Tie):Tie:=⟨t.From,t.To,w64 (0 - t.High),w64 (0 - t.Low)⟩
structure IsTurn (n m : Net) : Prop where
  nodes:m.Nodes=n.Nodes
  len:m.Ties.len=n.Ties.len
  tie:∀ j,j < n.Ties.len->m.Ties.get j=turn (n.Ties.get j)
end Go.Proofs
namespace Go.Proofs
open Go Go.Pm
set_option maxRecDepth 100000
set_option linter.unusedVariables false
def zA0 (n:Net) (u:Use) (a:Int):Option (Int×Int) :=
  if 0<=u.Tie/\u.Tie < n.Ties.len then
    (cond u.Back
      (if (n.Ties.get u.Tie.toNat).Low ≠ -1000000000000/\(n.Ties.get u.Tie.toNat).To=a then some ((n.Ties.get u.Tie.toNat).From,w64 (0 - (n.Ties.get u.Tie.toNat).Low)) else none)
      (if (n.Ties.get u.Tie.toNat).High ≠ 1000000000000/\(n.Ties.get u.Tie.toNat).From=a then some ((n.Ties.get u.Tie.toNat).To,(n.Ties.get u.Tie.toNat).High) else none))
  else none
def pvR (n : Net) (c : Sl Use) : Nat → Nat → Int → Int → Int × Int × Bool
  | 0,_,a,l=>(a,l,true)
  | m+1,i,a,l=>match zA0 n (c.get i) a with
    | none=>(0,0,false)
    | some (b,w)=>pvR n c m (i+1) b (w64 (l+w))
theorem zL0 (n:Net) (hn:NetOk n) (c:Sl Use) (hc:c.len<=50):∀ (m k i:Nat) (a l:Int),i+m=c.len->m < k->zi4 n c k a l (i:Int)=true/\zhr n c k a l (i:Int)=pvR n c m i a l:=by
  have hlen:=hn.len
  intro m
  induction m with
  | zero =>
    intro k i a l hi hk
    obtain⟨k,rfl⟩:∃ k',k=k'+1:=⟨k - 1,by omega⟩
    constructor
    · show zi3 n c (zi4 n c k) a l (i : Int) = true
      unfold zi3
      rw[dqF (show ¬ (i:Int) < (c.len:Int) by omega),dqB]
    · show zi2 n c (zhr n c k) a l (i : Int) = _
      unfold zi2
      rw[dqF (show ¬ (i:Int) < (c.len:Int) by omega),dqB];rfl
  | succ m ih =>
    intro k i a l hi hk
    obtain⟨k,rfl⟩:∃ k',k=k'+1:=⟨k - 1,by omega⟩
    have hw:w64 ((i:Int)+(1:Int))=((i+1:Nat):Int):=by rw[zbf (by omega) (by omega)];omega
    have ih':=λ b w=>ih k (i+1) b w (by omega) (by omega)
    have hr:s81 (c.get i).Tie (0:Int) (w64 ((n.Ties.len:Int) - (1:Int)))=decide (0<=(c.get i).Tie/\(c.get i).Tie < n.Ties.len):=by
      rw[zls,zbf (by omega) (by omega)]
      exact decide_eq_decide.2 (by omega)
    have hS : zhr n c (k + 1) a l (i : Int) = cond (!(decide (0 ≤ (c.get i).Tie ∧ (c.get i).Tie < n.Ties.len))) ((0:Int), (0:Int), false) (cond (c.get i).Back
        (cond (!((n.Ties.get (c.get i).Tie.toNat).Low != (-1000000000000:Int))) ((0:Int),(0:Int),false) (cond ((n.Ties.get (c.get i).Tie.toNat).To != a) ((0:Int),(0:Int),false) (pvR n c m (i+1) (n.Ties.get (c.get i).Tie.toNat).From (w64 (l+w64 (0 - (n.Ties.get (c.get i).Tie.toNat).Low))))))
        (cond (!((n.Ties.get (c.get i).Tie.toNat).High != (1000000000000:Int))) ((0:Int),(0:Int),false) (cond ((n.Ties.get (c.get i).Tie.toNat).From != a) ((0:Int),(0:Int),false) (pvR n c m (i+1) (n.Ties.get (c.get i).Tie.toNat).To (w64 (l+(n.Ties.get (c.get i).Tie.toNat).High)))))):=by
      rw[<- (ih' _ _).2,<- (ih' _ _).2,<- hw]
      show zi2 n c (zhr n c k) a l (i:Int)=_
      generalize zhr n c k=S
      unfold zi2 zrU zrS zrQ znS s94 s95
      rw[dqT (show (i:Int) < (c.len:Int) by omega),dqA,dqN,hr]
    have hP:zi4 n c (k+1) a l (i:Int)=true:=by
      show zi3 n c (zi4 n c k) a l (i:Int)=true
      unfold zi3 zrV zrT zrR znT
      rw[dqT (show (i:Int) < (c.len:Int) by omega),dqA,dqN,hr,dqT (show 0<=(i:Int)/\(i:Int) < (c.len:Int) by omega),Bool.true_and,hw]
      simp only[(ih' _ _).1]
      by_cases hin:0<=(c.get i).Tie/\(c.get i).Tie < n.Ties.len
      · rw [dqT hin]
        generalize (c.get i).Back=b0
        simp only[Bool.not_true,dqB,Bool.true_and]
        cases b0
        · simp only [dqB]
          generalize (!((s94 (⟨(n.Ties.get (c.get i).Tie.toNat),(c.get i).Tie⟩:tie)).2))=b1
          generalize ((((s94 (⟨(n.Ties.get (c.get i).Tie.toNat),(c.get i).Tie⟩:tie)).1).from_) != a)=b2
          cases b1 <;> cases b2 <;> rfl
        · simp only [dqA]
          generalize (!((s95 _).2))=b1
          generalize ((((s95 _).1).from_) != a)=b2
          cases b1 <;> cases b2 <;> rfl
      · rw[dqF hin];rfl
    refine⟨hP,hS.trans ?_⟩
    show _=(match zA0 n (c.get i) a with | none=>(0,0,false) | some (b,w)=>pvR n c m (i+1) b (w64 (l+w)))
    unfold zA0
    by_cases hin:0<=(c.get i).Tie/\(c.get i).Tie < n.Ties.len
    · rw [dqT hin, dqP hin, Bool.not_true, dqB]
      cases hb:(c.get i).Back
      · rw [dqB, dqB]
        by_cases h1:(n.Ties.get (c.get i).Tie.toNat).High=1000000000000
        · rw[show ((n.Ties.get (c.get i).Tie.toNat).High != (1000000000000:Int))=false by rw[h1];rfl,dqG (λ h=>h.1 h1)];rfl
        · rw [bne_iff_ne.2 h1]
          by_cases h2:(n.Ties.get (c.get i).Tie.toNat).From=a
          · rw[show ((n.Ties.get (c.get i).Tie.toNat).From != a)=false by rw[h2];exact bne_self_eq_false _,dqP ⟨h1,h2⟩];rfl
          · rw[bne_iff_ne.2 h2,dqG (λ h=>h2 h.2)];rfl
      · rw [dqA, dqA]
        by_cases h1:(n.Ties.get (c.get i).Tie.toNat).Low = -1000000000000
        · rw[show ((n.Ties.get (c.get i).Tie.toNat).Low != (-1000000000000:Int))=false by rw[h1];rfl,dqG (λ h=>h.1 h1)];rfl
        · rw [bne_iff_ne.2 h1]
          by_cases h2:(n.Ties.get (c.get i).Tie.toNat).To=a
          · rw[show ((n.Ties.get (c.get i).Tie.toNat).To != a)=false by rw[h2];exact bne_self_eq_false _,dqP ⟨h1,h2⟩];rfl
          · rw[bne_iff_ne.2 h2,dqG (λ h=>h2 h.2)];rfl
    · rw[dqF hin,dqG hin];rfl
def pv (n:Net) (a:Int) (c:Sl Use):Int×Int×Bool:=if (0<=a/\a < n.Nodes)/\c.len<=40 then pvR n c c.len 0 a 0 else (0,0,false)
theorem zL1 {n:Net}(hn:NetOk n) (hs:s67 n=true) (a:Int) (c:Sl Use):p56 n a c=true/\s56 n a c=pv n a c:=by
 have hlen:=hn.len;have hn1:=hn.n1;have hn40:=hn.n40
 unfold p56 s56 pv
 rw[(zAy n (by omega)).1,hs,zls,zbf (x:=n.Nodes - (1:Int)) (by omega) (by omega),decide_eq_decide.2 (show (0<=a/\a<=n.Nodes - 1)↔(0<=a/\a < n.Nodes) by omega)]
 by_cases ha:0<=a/\a < n.Nodes
 ·rw [dqT ha]
  by_cases hc:c.len<=40
  ·rw [dqF (show ¬ (c.len : Int) > (40:Int) by omega), dqP ⟨ha, hc⟩]
   obtain⟨k1,k2⟩:=zL0 n hn c (by omega) c.len Fuel 0 a 0 (by omega) (by simp only[Fuel];omega)
   exact⟨k1,k2⟩
  ·rw [dqT (show (c.len : Int) > (40:Int) by omega), dqG (fun h => hc h.2)]
   exact⟨rfl,rfl⟩
 ·rw [dqF ha, dqG (fun h => ha h.1)]
  exact⟨rfl,rfl⟩
end Go.Proofs
namespace Go.Proofs
open Go Go.Pm
set_option maxRecDepth 100000
set_option linter.unusedVariables false
attribute [local irreducible] Go.Pm.vcFun Go.Pm.vc Go.Pm.vcIter
end Go.Proofs
namespace Go.Proofs
open Go Go.Pm
set_option maxRecDepth 100000
set_option linter.unusedVariables false
def zfE (y:step):Step:=⟨y.from_,y.to,y.length,y.Use⟩
def IsL (v:Sl Step) (L:List step):Prop:=v.len=L.length/\∀ k (h:k < L.length),v.get k=zfE L[k]
theorem zsG {v:Sl Step}{L:List step}(h:IsL v L) (y:step):IsL ⟨v.len+1,zdm v.len v.get (λ _=>zfE y)⟩ (L ++ [y]):=by
 refine⟨by show v.len+1=_;rw[dqu,h.1];rfl,λ k hk=>?_⟩
 show zdm v.len v.get (λ _=>zfE y) k=_
 rw[zsF]
 rw[dqu] at hk
 have h1:=h.1
 by_cases hv:v.len<=k
 ·rw [dqP hv]
  have:k=L.length:=by simp only[dqr,dqL] at hk;omega
  subst this
  simp
 ·rw [dqG hv, h.2 k (by omega)]
  rw[List.getElem_append_left (by omega)]
theorem zL2 (n:Net) (hn:n.Ties.len<=210):∀ (m k i:Nat) (v:Sl Step) (L:List step),i+m=n.Ties.len->m < k->IsL v L->L.length<=2 * i->zdT n k (i:Int) v=true/\IsL (zdS n k (i:Int) v) (L ++ stL (W n) m i):=by
  intro m
  induction m with
  | zero =>
    intro k i v L hi hk hv hL
    obtain⟨k,rfl⟩:∃ k',k=k'+1:=⟨k - 1,by omega⟩
    have e1:zdT n (k+1) (i:Int) v=true:=by
      show zi6 n (zdT n k) (i:Int) v=true
      unfold zi6
      rw[dqF (show ¬ (i:Int) < (n.Ties.len:Int) by omega),dqB]
    have e2:zdS n (k+1) (i:Int) v=v:=by
      show zi5 n (zdS n k) (i:Int) v=v
      unfold zi5
      rw[dqF (show ¬ (i:Int) < (n.Ties.len:Int) by omega),dqB]
    refine⟨e1,?_⟩
    rw[e2]
    show IsL v (L ++ [])
    rw[List.append_nil];exact hv
  | succ m ih =>
    intro k i v L hi hk hv hL
    obtain⟨k,rfl⟩:∃ k',k=k'+1:=⟨k - 1,by omega⟩
    have hw:w64 ((i:Int)+(1:Int))=((i+1:Nat):Int):=by rw[zbf (by omega) (by omega)];omega
    have hvl:=hv.1
    have hS : zdS n (k + 1) (i : Int) v = cond ((n.Ties.get i).High != (1000000000000:Int))
        (cond ((n.Ties.get i).Low != (-1000000000000:Int))
          (zdS n k ((i+1:Nat):Int) (⟨v.len+1+1,zdm (v.len+1) (zdm v.len v.get (λ _=>zfE (fwS (n.Ties.get i) i))) (λ _=>zfE (bwS (n.Ties.get i) i))⟩:Sl Step))
          (zdS n k ((i+1:Nat):Int) (⟨v.len+1,zdm v.len v.get (λ _=>zfE (fwS (n.Ties.get i) i))⟩:Sl Step)))
        (cond ((n.Ties.get i).Low != (-1000000000000:Int))
          (zdS n k ((i+1:Nat):Int) (⟨v.len+1,zdm v.len v.get (λ _=>zfE (bwS (n.Ties.get i) i))⟩:Sl Step))
          (zdS n k ((i+1:Nat):Int) v)):=by
      rw[<- hw]
      show zi5 n (zdS n k) (i:Int) v=_
      generalize zdS n k=S
      unfold zi5 znW
      rw[dqT (show (i:Int) < (n.Ties.len:Int) by omega),dqA,dqN]
      rfl
    have hP : zdT n (k + 1) (i : Int) v = cond ((n.Ties.get i).High != (1000000000000:Int))
        (cond ((n.Ties.get i).Low != (-1000000000000:Int))
          (zdT n k ((i+1:Nat):Int) (⟨v.len+1+1,zdm (v.len+1) (zdm v.len v.get (λ _=>zfE (fwS (n.Ties.get i) i))) (λ _=>zfE (bwS (n.Ties.get i) i))⟩:Sl Step))
          (zdT n k ((i+1:Nat):Int) (⟨v.len+1,zdm v.len v.get (λ _=>zfE (fwS (n.Ties.get i) i))⟩:Sl Step)))
        (cond ((n.Ties.get i).Low != (-1000000000000:Int))
          (zdT n k ((i+1:Nat):Int) (⟨v.len+1,zdm v.len v.get (λ _=>zfE (bwS (n.Ties.get i) i))⟩:Sl Step))
          (zdT n k ((i+1:Nat):Int) v)):=by
      rw[<- hw]
      show zi6 n (zdT n k) (i:Int) v=_
      generalize zdT n k=S
      unfold zi6 znX
      rw[dqT (show (i:Int) < (n.Ties.len:Int) by omega),dqA,dqN,dqT (show 0<=(i:Int)/\(i:Int) < (n.Ties.len:Int) by omega),dqT (show (v.len+1) * 40<=140737488355328/\v.len+1<=9223372036854775807 by omega),dqT (show ((⟨v.len+1,zdm v.len v.get (λ _=>(⟨(n.Ties.get i).From,(n.Ties.get i).To,(n.Ties.get i).High,(⟨(i:Int),false⟩:Use)⟩:Step))⟩:Sl Step).len+1) * 40<=140737488355328/\(⟨v.len+1,zdm v.len v.get (λ _=>(⟨(n.Ties.get i).From,(n.Ties.get i).To,(n.Ties.get i).High,(⟨(i:Int),false⟩:Use)⟩:Step))⟩:Sl Step).len+1<=9223372036854775807 from by show (v.len+1+1) * 40<=_/\v.len+1+1<=_;omega)]
      rfl
    rw[hS,hP]
    have hK:stL (W n) (m+1) i=((cond ((n.Ties.get i).High != (1000000000000:Int)) [fwS (n.Ties.get i) i] []) ++ (cond ((n.Ties.get i).Low != (-1000000000000:Int)) [bwS (n.Ties.get i) i] [])) ++ stL (W n) m (i+1):=rfl
    rw[hK]
    have hF:=zsG hv (fwS (n.Ties.get i) i)
    have hB:=zsG hv (bwS (n.Ties.get i) i)
    have hFB:=zsG hF (bwS (n.Ties.get i) i)
    cases ((n.Ties.get i).High != (1000000000000:Int)) <;> cases ((n.Ties.get i).Low != (-1000000000000:Int))
    · have := ih k (i + 1) v L (by omega) (by omega) hv (by omega)
      simpa using this
    · have := ih k (i + 1) _ _ (by omega) (by omega) hB (by simp only [dqu, dqr, dqL]; omega)
      simpa [List.append_assoc] using this
    · have := ih k (i + 1) _ _ (by omega) (by omega) hF (by simp only [dqu, dqr, dqL]; omega)
      simpa [List.append_assoc] using this
    · have := ih k (i + 1) _ _ (by omega) (by omega) hFB (by simp only [dqu, dqr, dqL]; omega)
      simpa [List.append_assoc] using this
theorem zmo (n:Net) (hn:n.Ties.len<=210):p77 n=true/\IsL (s77 n) (Ws (W n)):=by
 have:=zL2 n hn n.Ties.len Fuel 0 (⟨0,(λ _=>default)⟩:Sl Step) [] (by omega) (by simp only[Fuel];omega) ⟨rfl,λ k h=>absurd h (dqW _)⟩ (Nat.zero_le _)
 exact this
def sb (x:Use) (y:Use):Bool:=match (x.Tie == y.Tie) with | true=>(match (x.Back == y.Back) with | true=>true | false=>false) | false=>false
theorem zNP (x y:Use):sb x y=((x.Tie == y.Tie) && (x.Back == y.Back)):=by
 unfold sb
 cases (x.Tie == y.Tie) <;> cases (x.Back == y.Back) <;> rfl
end Go.Proofs
namespace Go.Proofs
open Go Go.Pm
set_option maxRecDepth 100000
set_option linter.unusedVariables false
def Rr (N:Nat) (T:Sl Int) (d:zby) (B:Int):Prop:=T.len=N/\∀ v,v < N->T.get v=zBb (d v)/\∀ x,d v=some x->-B<=x/\x<=B
theorem zhz {α:Type}(i j:Nat) (v:α) (f:Nat->Sl α) (q:Nat):zk2 i j v f q=if q=i then ⟨(f q).len,setT j v (f q).get⟩ else f q:=by
 unfold zk2
 by_cases h:q=i
 ·subst h;rw[dqP rfl,Nat.beq_refl]
 ·rw [dqG h]
  cases hb:Nat.beq q i with
  | true=>exact absurd (dqc hb) h
  | false=>rfl
theorem zC4 (n : Net) (e U lst : Int) (l : Sl Step) {N : Nat} (hN : N ≤ 40) (S1 : Int → Sl (Sl Int) → Sl (Sl Int)) (P1 : Int → Sl (Sl Int) → Bool) (S4 : Int → Int → Sl (Sl Int) → Sl (Sl Int)) (P4 : Int → Int → Sl (Sl Int) → Bool)
    (i r:Nat) (hr:1<=r) (hr45:r<=45) (hi:i < l.len) (y:step) (hly:l.get i=zfE y) (hy:StOk y N) (v:Sl (Sl Int)) (hrv:r < v.len) (o d:zby) (B:Int) (hB:0<=B/\B<=90000000000) (ho:Rr N (v.get (r - 1)) o B) (hd:Rr N (v.get r) d (B+1000000000)) (c:Bool) :
    ∃ v',zgA S1 n e U lst l S4 (r:Int) (i:Int) v=S4 (r:Int) (w64 ((i:Int)+(1:Int))) v'/\zgB P1 n e U lst l P4 (r:Int) (i:Int) v=P4 (r:Int) (w64 ((i:Int)+(1:Int))) v'/\v'.len=v.len/\(∀ j,j ≠ r->v'.get j=v.get j) /\
      Rr N (v'.get r) (cond (okY lst y) (jr o (d,c) (edQ y)) (d,c)).1 (B+1000000000):=by
  have f0:=hy.f0;have f1:=hy.f1;have t0:=hy.t0;have t1:=hy.t1;have l0:=hy.l0;have l1:=hy.l1
  have hw:w64 ((r:Int) - (1:Int))=((r - 1:Nat):Int):=by rw[zbf (by omega) (by omega)];omega
  obtain⟨ol,ho⟩:=ho
  obtain⟨dl,hd⟩:=hd
  unfold zgA zgB
  rw[dqT (show (i:Int) < (l.len:Int) by omega),dqT (show (r:Int) > 0 by omega)]
  simp only[dqA]
  have g1:(l.get i).From=y.from_:=by rw[hly];rfl
  have g2:(l.get i).To=y.to:=by rw[hly];rfl
  have g3:(l.get i).Length=y.length:=by rw[hly];rfl
  rw[hw,dqN,dqN,dqN,g1,g2,g3]
  rw[dqT (show 0<=(i:Int)/\(i:Int) < (l.len:Int) by omega),dqT (show 0<=((r - 1:Nat):Int)/\((r - 1:Nat):Int) < (v.len:Int) by omega),dqT (show r - 1 < v.len/\0 < (v.get (r - 1)).len by omega),dqT (show r - 1 < v.len/\0<=y.to/\y.to < ((v.get (r - 1)).len:Int) by omega),dqT (show r - 1 < v.len/\y.to.toNat < (v.get (r - 1)).len by omega),
    dqT (show 0<=(r:Int)/\(r:Int) < (v.len:Int) by omega),dqT (show r < v.len/\0 < (v.get r).len by omega),dqT (show r < v.len/\0<=y.from_/\y.from_ < ((v.get r).len:Int) by omega),dqT (show r < v.len/\y.from_.toNat < (v.get r).len by omega)]
  simp only[Bool.true_and]
  have same:∃ v',S4 (r:Int) (w64 ((i:Int)+(1:Int))) v=S4 (r:Int) (w64 ((i:Int)+(1:Int))) v'/\P4 (r:Int) (w64 ((i:Int)+(1:Int))) v=P4 (r:Int) (w64 ((i:Int)+(1:Int))) v'/\v'.len=v.len/\(∀ j,j ≠ r->v'.get j=v.get j)/\Rr N (v'.get r) d (B+1000000000):=⟨v,rfl,rfl,rfl,λ _ _=>rfl,dl,hd⟩
  unfold okY
  by_cases c1:y.from_ < lst
  · rw [dqT c1, dqF (show ¬ lst ≤ y.from_ by omega)]
    exact same
  by_cases c2:y.to < lst
  · rw [dqF c1, dqT c2, dqF (show ¬ lst ≤ y.to by omega), Bool.and_false]
    exact same
  rw[dqF c1,dqF c2,dqT (show lst<=y.from_ by omega),dqT (show lst<=y.to by omega)]
  simp only[dqA,dqB,Bool.and_self]
  obtain⟨o1,o3⟩:=ho y.to.toNat (by omega)
  obtain⟨d1,d3⟩:=hd y.from_.toNat (by omega)
  cases hou:o y.to.toNat with
  | none =>
    have hr:jr o (d,c) (edQ y)=(d,c):=by
      unfold jr edQ
      simp only[hou]
    rw[hr]
    rw[hou] at o1
    have o1':(v.get (r - 1)).get y.to.toNat=1000000000000:=o1
    rw[o1']
    exact same
  | some x =>
    have hx:=o3 x hou
    rw[hou] at o1
    have o1':(v.get (r - 1)).get y.to.toNat=x:=o1
    rw[o1',show (x == (1000000000000:Int))=false from dqU.2 (by omega),zbf (x:=y.length+x) (by omega) (by omega),d1]
    simp only[dqB]
    have hlt:ltO (x+y.length) (d y.from_.toNat)=decide (y.length+x < zBb (d y.from_.toNat)):=by
      cases hdv:d y.from_.toNat with
      | none=>exact (dqT (show y.length+x < 1000000000000 by omega)).symm
      | some z =>
        show decide (x+y.length < z)=decide (y.length+x < z)
        exact decide_eq_decide.2 ⟨λ h=>by omega,λ h=>by omega⟩
    have hr:jr o (d,c) (edQ y)=cond (decide (y.length+x < zBb (d y.from_.toNat))) (zhD d y.from_.toNat (x+y.length),true) (d,c):=by
      rw[<- hlt]
      unfold jr edQ
      simp only[hou] <;> rfl
    rw[hr]
    refine⟨_,rfl,rfl,rfl,λ j hj=>?_,?_⟩
    · show zk2 r _ _ v.get j = v.get j
      rw[zhz,dqG hj]
    · show Rr N (zk2 r _ _ v.get r) _ _
      rw[zhz,dqP rfl]
      refine⟨dl,λ q hq=>?_⟩
      show setT y.from_.toNat _ (v.get r).get q=_/\_
      rw[zeX]
      by_cases hlt2:y.length+x < zBb (d y.from_.toNat)
      · rw [dqP hlt2, dqT hlt2]
        simp only[dqA]
        unfold zhD
        by_cases hqf:q=y.from_.toNat
        · rw [dqP hqf, dqP hqf]
          exact⟨by show y.length+x=x+y.length;omega,λ z hz=>by cases hz;omega⟩
        · rw[dqG hqf,dqG hqf];exact hd q hq
      · rw [dqG hlt2, dqF hlt2]
        simp only[dqB]
        by_cases hqf:q=y.from_.toNat
        · rw[dqP hqf,hqf];exact⟨rfl,d3⟩
        · rw[dqG hqf];exact hd q hq
theorem zC5 (n : Net) (e U lst : Int) (l : Sl Step) (L : List step) (hl : IsL l L) (hL : L.length ≤ 1000) {N : Nat} (hN : N ≤ 40) (hst : ∀ y ∈ L, StOk y N) (S1 : Int → Sl (Sl Int) → Sl (Sl Int)) (P1 : Int → Sl (Sl Int) → Bool) (r : Nat) (hr : 1 ≤ r) (hr45 : r ≤ 45) (o : zby) (B : Int) (hB : 0 ≤ B ∧ B ≤ 90000000000) :
  ∀ (m k i:Nat) (v:Sl (Sl Int)) (d:zby) (c:Bool),i+m=L.length->m < k->r < v.len->Rr N (v.get (r - 1)) o B->Rr N (v.get r) d (B+1000000000) ->
  ∃ v',zen S1 n e U lst l k (r:Int) (i:Int) v=S1 (w64 ((r:Int)+(1:Int))) v'/\zeo P1 n e U lst l k (r:Int) (i:Int) v=P1 (w64 ((r:Int)+(1:Int))) v'/\v'.len=v.len/\(∀ j,j ≠ r->v'.get j=v.get j) /\
   Rr N (v'.get r) ((((L.drop i).filter (okY lst)).map edQ).foldl (jr o) (d,c)).1 (B+1000000000):=by
 have hll:=hl.1
 have hr0:((r:Int) == (0:Int))=false:=dqU.2 (by omega)
 intro m
 induction m with
 | zero =>
  intro k i v d c hi hk hrv ho hd
  obtain⟨k,rfl⟩:∃ k',k=k'+1:=⟨k - 1,by omega⟩
  refine⟨v,?_,?_,rfl,λ _ _=>rfl,?_⟩
  ·show zgA S1 n e U lst l (zen S1 n e U lst l k) (r : Int) (i : Int) v = _
   generalize zen S1 n e U lst l k=S
   unfold zgA
   rw[dqF (show ¬ (i:Int) < (l.len:Int) by omega),dqB,hr0,dqB]
  ·show zgB P1 n e U lst l (zeo P1 n e U lst l k) (r : Int) (i : Int) v = _
   generalize zeo P1 n e U lst l k=S
   unfold zgB
   rw[dqF (show ¬ (i:Int) < (l.len:Int) by omega),dqB,hr0,dqB]
  ·rw[dqO (by omega)];exact hd
 | succ m ih =>
  intro k i v d c hi hk hrv ho hd
  obtain⟨k,rfl⟩:∃ k',k=k'+1:=⟨k - 1,by omega⟩
  have hiL:i < L.length:=by omega
  obtain⟨v1,a1,a2,a3,a4,a5⟩:=zC4 n e U lst l hN S1 P1 (zen S1 n e U lst l k) (zeo P1 n e U lst l k) i r hr hr45 (by omega) L[i] (hl.2 i hiL) (hst _ (List.getElem_mem ..)) v hrv o d B hB ho hd c
  have ho1:Rr N (v1.get (r - 1)) o B:=by rw[a4 (r - 1) (by omega)];exact ho
  have hw:w64 ((i:Int)+(1:Int))=((i+1:Nat):Int):=by rw[zbf (by omega) (by omega)];omega
  rw[hw] at a1 a2
  rw[dqR hiL]
  cases hok:okY lst L[i] with
  | false =>
   rw[hok] at a5
   obtain⟨v2,b1,b2,b3,b4,b5⟩:=ih k (i+1) v1 d c (by omega) (by omega) (by omega) ho1 a5
   refine⟨v2,Eq.trans a1 b1,Eq.trans a2 b2,b3.trans a3,λ j hj=>(b4 j hj).trans (a4 j hj),?_⟩
   rw[List.filter_cons_of_neg (by rw[hok];exact dqk)];exact b5
  | true =>
   rw[hok] at a5
   obtain⟨v2,b1,b2,b3,b4,b5⟩:=ih k (i+1) v1 (jr o (d,c) (edQ L[i])).1 (jr o (d,c) (edQ L[i])).2 (by omega) (by omega) (by omega) ho1 a5
   refine⟨v2,Eq.trans a1 b1,Eq.trans a2 b2,b3.trans a3,λ j hj=>(b4 j hj).trans (a4 j hj),?_⟩
   rw[List.filter_cons_of_pos hok];exact b5
theorem zC6 (n : Net) (e U lst : Int) (l : Sl Step) {N : Nat} (hN : N ≤ 40) (hNN : (N : Int) = n.Nodes) (S1 : Int → Sl (Sl Int) → Sl (Sl Int)) (P1 : Int → Sl (Sl Int) → Bool) (r : Nat) (hr45 : r ≤ 45) :
  ∀ (m k i:Nat) (v:Sl (Sl Int)),i+m=N->m < k->r < v.len->(v.get r).len=N->(∀ q,q < i->(v.get r).get q=1000000000000) ->
  ∃ v',zhu S1 n e U lst l k (r:Int) (i:Int) v=zi9 S1 n e U lst l (r:Int) v'/\zhv P1 n e U lst l k (r:Int) (i:Int) v=zja P1 n e U lst l (r:Int) v'/\v'.len=v.len/\(∀ j,j ≠ r->v'.get j=v.get j) /\
   (v'.get r).len=N/\∀ q,q < N->(v'.get r).get q=1000000000000:=by
 intro m
 induction m with
 | zero =>
  intro k i v hi hk hrv hl hq
  obtain⟨k,rfl⟩:∃ k',k=k'+1:=⟨k - 1,by omega⟩
  refine⟨v,?_,?_,rfl,λ _ _=>rfl,hl,λ q h=>hq q (by omega)⟩
  ·show zjb S1 n e U lst l (zhu S1 n e U lst l k) (r : Int) (i : Int) v = _
   generalize zhu S1 n e U lst l k=S
   unfold zjb
   rw[dqF (show ¬ (i:Int) < n.Nodes by omega),dqB]
  ·show zjc P1 n e U lst l (zhv P1 n e U lst l k) (r : Int) (i : Int) v = _
   generalize zhv P1 n e U lst l k=S
   unfold zjc
   rw[dqF (show ¬ (i:Int) < n.Nodes by omega),dqB]
 | succ m ih =>
  intro k i v hi hk hrv hl hq
  obtain⟨k,rfl⟩:∃ k',k=k'+1:=⟨k - 1,by omega⟩
  have hw:w64 ((i:Int)+(1:Int))=((i+1:Nat):Int):=by rw[zbf (by omega) (by omega)];omega
  obtain⟨v',b1,b2,b3,b4,b5,b6⟩:=ih k (i+1) (⟨v.len,zk2 r i (1000000000000:Int) v.get⟩:Sl (Sl Int)) (by omega) (by omega) hrv (by show (zk2 r i _ v.get r).len=N;rw[zhz,dqP rfl];exact hl) (λ q h=>by
   show (zk2 r i _ v.get r).get q=_
   rw[zhz,dqP rfl]
   show setT i _ (v.get r).get q=_
   rw[zeX]
   by_cases hqi:q=i
   ·rw[dqP hqi]
   ·rw[dqG hqi];exact hq q (by omega))
  refine⟨v',?_,?_,b3,λ j hj=>?_,b5,b6⟩
  ·rw [← b1]
   show zjb S1 n e U lst l (zhu S1 n e U lst l k) (r:Int) (i:Int) v=_
   generalize zhu S1 n e U lst l k=S
   unfold zjb
   rw[dqT (show (i:Int) < n.Nodes by omega),dqA,hw,dqN,dqN]
  ·rw [← b2]
   show zjc P1 n e U lst l (zhv P1 n e U lst l k) (r:Int) (i:Int) v=_
   generalize zhv P1 n e U lst l k=S
   unfold zjc
   rw[dqT (show (i:Int) < n.Nodes by omega),dqA,hw,dqN,dqN]
   rw[dqT (show 0<=(r:Int)/\(r:Int) < (v.len:Int) by omega),dqT (show r < v.len/\0 < (v.get r).len by omega),dqT (show r < v.len/\0<=(i:Int)/\(i:Int) < ((v.get r).len:Int) by omega),dqT (show r < v.len/\i < (v.get r).len by omega)]
   rfl
  ·rw [b4 j hj]
   show zk2 r i _ v.get j=_
   rw[zhz,dqG hj]
structure Ln (w : web) (N : Nat) (e lst : Int) (U k : Nat) (v : Sl (Sl Int)) : Prop where
  len:v.len=U+1
  lo:∀ j,j < k->Rr N (v.get j) (hops (hF w lst) e.toNat j) (j * 1000000000)
  hi:∀ j,k<=j->j<=U->(v.get j).len=0
theorem Rr.mono {N:Nat}{T:Sl Int}{d:zby}{B B':Int}(h:Rr N T d B) (hb:B<=B'):Rr N T d B':=⟨h.1,λ v hv=>⟨(h.2 v hv).1,λ x hx=>by have:=(h.2 v hv).2 x hx;omega⟩⟩
theorem zvb (n:Net) (hn:NetOk n) (e lst:Int) (he:0<=e/\e < n.Nodes) (U:Nat) (hU:U<=40) (l:Sl Step) (hl:IsL l (Ws (W n))):∀ (m fu k:Nat) (v:Sl (Sl Int)),k+m=U+1->m < fu->Ln (W n) n.Nodes.toNat e lst U k v ->
  zb1 n e (U:Int) lst l fu (k:Int) v=true/\Ln (W n) n.Nodes.toNat e lst U (U+1) (zb0 n e (U:Int) lst l fu (k:Int) v):=by
 have hn1:=hn.n1;have hn40:=hn.n40
 have hNN:((n.Nodes.toNat:Nat):Int)=n.Nodes:=by omega
 have hwl:=zmn (a:=W n) hn
 have hll:=hl.1
 intro m
 induction m with
 | zero =>
  intro fu k v hk hf hv
  obtain⟨fu,rfl⟩:∃ k',fu=k'+1:=⟨fu - 1,by omega⟩
  have e1:zb1 n e (U:Int) lst l (fu+1) (k:Int) v=true:=by
   show zje n e (U:Int) lst l (zb1 n e (U:Int) lst l fu) (k:Int) v=true
   unfold zje
   rw[dqF (show ¬ (k:Int)<=(U:Int) by omega),dqB]
  have e2:zb0 n e (U:Int) lst l (fu+1) (k:Int) v=v:=by
   show zjd n e (U:Int) lst l (zb0 n e (U:Int) lst l fu) (k:Int) v=v
   unfold zjd
   rw[dqF (show ¬ (k:Int)<=(U:Int) by omega),dqB]
  rw[e1,e2]
  have:k=U+1:=by omega
  subst this
  exact⟨rfl,hv⟩
 | succ m ih =>
  intro fu k v hk hf hv
  obtain⟨fu,rfl⟩:∃ k',fu=k'+1:=⟨fu - 1,by omega⟩
  have hvl:=hv.len
  have hk0:=hv.hi k (dqt k) (by omega)
  have hw:w64 ((k:Int)+(1:Int))=((k+1:Nat):Int):=by rw[zbf (by omega) (by omega)];omega
  obtain⟨v1,b1,b2,b3,b4,b5,b6⟩:=zC6 n e (U:Int) lst l (N:=n.Nodes.toNat) (by omega) hNN (zb0 n e (U:Int) lst l fu) (zb1 n e (U:Int) lst l fu) k (by omega) n.Nodes.toNat Fuel 0 (⟨v.len,setT k (⟨n.Nodes.toNat,(λ _=>(0:Int))⟩:Sl Int) v.get⟩:Sl (Sl Int)) (by omega) (by simp only[Fuel];omega) (by show k < v.len;omega) (by show (setT k _ v.get k).len=_;rw[zeX,dqP rfl]) (λ q h=>absurd h (dqW _))
  have b3':v1.len=v.len:=b3
  have b4':∀ j,j ≠ k->v1.get j=v.get j:=λ j hj=>by
   rw[b4 j hj]
   show setT k _ v.get j=_
   rw[zeX,dqG hj]
  have hS:zb0 n e (U:Int) lst l (fu+1) (k:Int) v=zi9 (zb0 n e (U:Int) lst l fu) n e (U:Int) lst l (k:Int) v1:=by
   rw[<- b1]
   show zjd n e (U:Int) lst l (zb0 n e (U:Int) lst l fu) (k:Int) v=_
   generalize zb0 n e (U:Int) lst l fu=S
   unfold zjd
   rw[dqT (show (k:Int)<=(U:Int) by omega),dqA,dqN];rfl
  have hP:zb1 n e (U:Int) lst l (fu+1) (k:Int) v=zja (zb1 n e (U:Int) lst l fu) n e (U:Int) lst l (k:Int) v1:=by
   rw[<- b2]
   show zje n e (U:Int) lst l (zb1 n e (U:Int) lst l fu) (k:Int) v=_
   generalize zb1 n e (U:Int) lst l fu=S
   unfold zje
   rw[dqT (show (k:Int)<=(U:Int) by omega),dqA,dqN]
   dsimp only
   rw[dqT (show 0<=n.Nodes/\n.Nodes=n.Nodes/\n.Nodes<=1000000 from ⟨by omega,rfl,by omega⟩),dqT (show 0<=(k:Int)/\(k:Int) < (v.len:Int) by omega),dqT (show k < v.len/\(v.get k).len=0/\0 < n.Nodes.toNat by omega)]
   rfl
  rw[hS,hP]
  by_cases hk1:k=0
  ·subst hk1
   have nx:∀ (fu':Nat),zen (zb0 n e (U:Int) lst l fu) n e (U:Int) lst l (fu'+1) ((0:Nat):Int) (0:Int) v1=zb0 n e (U:Int) lst l fu ((0+1:Nat):Int) (⟨v1.len,(zk2 0 e.toNat (0:Int) v1.get)⟩:Sl (Sl Int)) /\
     zeo (zb1 n e (U:Int) lst l fu) n e (U:Int) lst l (fu'+1) ((0:Nat):Int) (0:Int) v1=zb1 n e (U:Int) lst l fu ((0+1:Nat):Int) (⟨v1.len,(zk2 0 e.toNat (0:Int) v1.get)⟩:Sl (Sl Int)):=λ fu'=>by
    constructor
    ·show zgA (zb0 n e (U : Int) lst l fu) n e (U : Int) lst l (zen (zb0 n e (U : Int) lst l fu) n e (U : Int) lst l fu') ((0 : Nat) : Int) (0:Int) v1 = _
     rw[<- hw]
     generalize zen (zb0 n e (U:Int) lst l fu) n e (U:Int) lst l fu'=S
     generalize zb0 n e (U:Int) lst l fu=S'
     unfold zgA
     rw[dqF (show ¬ (((0:Nat):Int) > 0) by omega),show ((((0:Nat):Int)) == (0:Int))=true from rfl]
     cases decide ((0:Int) < (l.len:Int)) <;> rfl
    ·show zgB (zb1 n e (U : Int) lst l fu) n e (U : Int) lst l (zeo (zb1 n e (U : Int) lst l fu) n e (U : Int) lst l fu') ((0 : Nat) : Int) (0:Int) v1 = _
     rw[<- hw]
     generalize zeo (zb1 n e (U:Int) lst l fu) n e (U:Int) lst l fu'=S
     generalize zb1 n e (U:Int) lst l fu=S'
     unfold zgB
     rw[dqF (show ¬ (((0:Nat):Int) > 0) by omega),show ((((0:Nat):Int)) == (0:Int))=true from rfl]
     dsimp only
     rw[dqT (show 0<=(0:Int)/\(0:Int) < (v1.len:Int) by omega),dqT (show 0 < v1.len/\0 < (v1.get 0).len by omega),dqT (show 0 < v1.len/\0<=e/\e < ((v1.get 0).len:Int) by omega),dqT (show 0 < v1.len/\e.toNat < (v1.get 0).len by omega)]
     cases decide ((0:Int) < (l.len:Int)) <;> rfl
   obtain⟨fu',hfu'⟩:∃ q,Fuel=q+1:=⟨Fuel - 1,by simp only[Fuel]⟩
   have n1:zi9 (zb0 n e (U:Int) lst l fu) n e (U:Int) lst l ((0:Nat):Int) v1=zen (zb0 n e (U:Int) lst l fu) n e (U:Int) lst l Fuel ((0:Nat):Int) (0:Int) v1:=rfl
   have n2:zja (zb1 n e (U:Int) lst l fu) n e (U:Int) lst l ((0:Nat):Int) v1=zeo (zb1 n e (U:Int) lst l fu) n e (U:Int) lst l Fuel ((0:Nat):Int) (0:Int) v1:=rfl
   rw[n1,n2,hfu',(nx fu').1,(nx fu').2]
   refine ih fu (0+1) _ (by omega) (by omega) ⟨by show v1.len=_;omega,λ j hj=>?_,λ j h1 h2=>?_⟩
   ·have : j = 0 := by omega
    subst this
    show Rr _ (zk2 0 e.toNat (0:Int) v1.get 0) (zjP e.toNat) _
    rw[zhz,dqP rfl]
    refine⟨b5,λ q hq=>?_⟩
    show setT e.toNat (0:Int) (v1.get 0).get q=_/\_
    rw[zeX]
    unfold zjP
    by_cases hqe:q=e.toNat
    ·rw[dqP hqe,dqP hqe];exact⟨rfl,λ x hx=>by cases hx;omega⟩
    ·rw[dqG hqe,dqG hqe];exact⟨b6 q hq,λ x hx=>by cases hx⟩
   ·show (zk2 0 e.toNat (0:Int) v1.get j).len = 0
    rw[zhz,dqG (by omega),b4' j (by omega)]
    exact hv.hi j (by omega) h2
  ·have hprev := hv.lo (k - 1) (by omega)
   rw[<- b4' (k - 1) (by omega)] at hprev
   obtain⟨v2,c1,c2,c3,c4,c5⟩:=zC5 n e (U:Int) lst l (Ws (W n)) hl (by omega) (N:=n.Nodes.toNat) (by omega) (λ y hy=>zoi (a:=W n) hn hy) (zb0 n e (U:Int) lst l fu) (zb1 n e (U:Int) lst l fu) k (by omega) (by omega) (hops (hF (W n) lst) e.toNat (k - 1)) (((k - 1:Nat):Int) * 1000000000) (by omega) (Ws (W n)).length Fuel 0 v1 zAY false (by omega) (by simp only[Fuel];omega) (by omega) hprev ⟨b5,λ q hq=>⟨b6 q hq,λ x hx=>by cases hx⟩⟩
   have n1:zi9 (zb0 n e (U:Int) lst l fu) n e (U:Int) lst l (k:Int) v1=zen (zb0 n e (U:Int) lst l fu) n e (U:Int) lst l Fuel (k:Int) ((0:Nat):Int) v1:=rfl
   have n2:zja (zb1 n e (U:Int) lst l fu) n e (U:Int) lst l (k:Int) v1=zeo (zb1 n e (U:Int) lst l fu) n e (U:Int) lst l Fuel (k:Int) ((0:Nat):Int) v1:=rfl
   rw[n1,n2,c1,c2,hw]
   refine ih fu (k+1) v2 (by omega) (by omega) ⟨by omega,λ j hj=>?_,λ j h1 h2=>?_⟩
   ·by_cases hjk : j = k
    ·subst hjk
     obtain⟨j,rfl⟩:∃ j',j=j'+1:=⟨j - 1,by omega⟩
     have c5':Rr n.Nodes.toNat (v2.get (j+1)) (hops (hF (W n) lst) e.toNat (j+1)) (((j+1 - 1:Nat):Int) * 1000000000+1000000000):=c5
     exact c5'.mono (by omega)
    ·rw[c4 j hjk,b4' j hjk];exact hv.lo j (by omega)
   ·rw[c4 j (by omega),b4' j (by omega)];exact hv.hi j (by omega) h2
theorem zL3 {n:Net}(hn:NetOk n) (e lst:Int) (he:0<=e/\e < n.Nodes) (U:Nat) (hU:U<=40):p90 n e (U:Int) lst=true/\Ln (W n) n.Nodes.toNat e lst U (U+1) (s90 n e (U:Int) lst):=by
 have hlen:=hn.len
 obtain⟨q1,q2⟩:=zmo n (by omega)
 have hw:w64 ((U:Int)+(1:Int))=((U+1:Nat):Int):=by rw[zbf (by omega) (by omega)];omega
 obtain⟨k1,k2⟩:=zvb n hn e lst he U hU (s77 n) q2 (U+1) Fuel 0 (⟨U+1,(λ _=>⟨0,λ _=>default⟩)⟩:Sl (Sl Int)) (by omega) (by simp only[Fuel];omega) ⟨rfl,λ j hj=>absurd hj (dqW _),λ _ _ _=>rfl⟩
 unfold p90 s90 zr4 zr3
 rw[q1,hw,dqN,dqT (show 0<=((U+1:Nat):Int)/\((U+1:Nat):Int)=((U+1:Nat):Int)/\((U+1:Nat):Int)<=1000000 from ⟨by omega,rfl,by omega⟩)]
 simp only[decide_true,Bool.true_and]
 exact⟨k1,k2⟩
end Go.Proofs
namespace Go.Proofs
open Go Go.Pm
set_option maxRecDepth 100000
set_option linter.unusedVariables false
def IsS (v:Sl step) (L:List step):Prop:=v.len=L.length/\∀ q (h:q < L.length),v.get q=L[q]
theorem zIS {v:Sl step}{L:List step}(h:IsS v L) (y:step):IsS ⟨v.len+1,zdm v.len v.get (λ _=>y)⟩ (L ++ [y]):=by
 refine⟨by show v.len+1=_;rw[dqu,h.1];rfl,λ k hk=>?_⟩
 show zdm v.len v.get (λ _=>y) k=_
 rw[zsF]
 rw[dqu] at hk
 have h1:=h.1
 by_cases hv:v.len<=k
 ·rw [dqP hv]
  have:k=L.length:=by simp only[dqr,dqL] at hk;omega
  subst this
  simp
 ·rw [dqG hv, h.2 k (by omega)]
  rw[List.getElem_append_left (by omega)]
def ChS (S : List step) : Int → List step → Int → Prop
  | a,[],b=>a=b
  | a,y :: l,b=>y∈S/\y.from_=a/\ChS S y.to l b
theorem zIT {S:List step}{L:List step}{y:step} : ∀ {a b:Int},ChS S a L b->y∈S->y.from_=b->ChS S a (L ++ [y]) y.to:=by
 induction L with
 | nil=>intro a b h hy hf;exact⟨hy,hf.trans h.symm,rfl⟩
 | cons z l ih=>rintro a b ⟨h1,h2,h3⟩ hy hf;exact⟨h1,h2,ih h3 hy hf⟩
def wtS : List step → Int
  | []=>0
  | y :: l=>y.length+wtS l
theorem zIU (L:List step) (y:step):wtS (L ++ [y])=wtS L+y.length:=by
 induction L with
 | nil=>show y.length+0=0+y.length;omega
 | cons z l ih=>show z.length+wtS (l ++ [y])=z.length+wtS l+y.length;rw[ih];omega
theorem zC7 {w:web}{node:Int}{d:zby}{v:Nat}{x:Int}(hn:NetOk w.Net) (h:hop (hF w node) d v=some x):∃ y∈Ws w,node<=y.from_/\node<=y.to/\y.from_.toNat=v/\∃ z,d y.to.toNat=some z/\x=z+y.length:=by
 obtain⟨e,he,h1,z,h2,h3⟩:=zEF h
 obtain⟨y,hy,rfl⟩:=dqz.1 he
 obtain⟨hy1,hy2⟩:=List.mem_filter.1 hy
 unfold okY at hy2
 rw[dqm] at hy2
 exact⟨y,hy1,of_decide_eq_true hy2.1,of_decide_eq_true hy2.2,h1,z,h2,h3⟩
end Go.Proofs
namespace Go.Proofs
open Go Go.Pm
set_option maxRecDepth 100000
set_option linter.unusedVariables false
abbrev PS7:=Int->Bool->Sl step->Int->Int->Sl Tab->Int->Int->Int->Sl (Sl Tab)->Sl step->Sl step
theorem zC8 (w : web) {N : Nat} (hN : N ≤ 40) (S5 : Int → Bool → Sl step → Int → Sl (Sl Tab) → Sl step) (P5 : Int → Bool → Sl step → Int → Sl (Sl Tab) → Bool) (S6 : PS7) (P6 : Int → Bool → Sl step → Int → Int → Sl Tab → Int → Int → Int → Sl (Sl Tab) → Sl step → Bool) (v4 : Sl (Sl Tab)) (u : Int) (bb : Bool) (best : Sl step) (t i : Int) (h : Sl Tab) (at_ len : Int) (k : Nat) (hk : k < h.len) (d : zby) {B : Int} (hB : B ≤ 90000000000) (hd : Rh N (h.get k) d B) (hl0 : -90000000000 ≤ len) (hl1 : len ≤ 90000000000) (v21 : Sl (Sl Tab)) (now : Sl step) (hnow : now.len ≤ 1000) :
  ∀ (l:List step),(∀ y∈l,StOk y N)->(∃ y∈l,y.from_=at_/\i<=y.to/\∃ x,d y.to.toNat=some x/\len+y.length+x < 0) ->
  ∃ y∈l,(y.from_=at_/\i<=y.to/\∃ x,d y.to.toNat=some x/\len+y.length+x < 0) /\
   zdo S5 S6 w v4 l u bb best t i h at_ len (k:Int) v21 now=S6 u bb best t i h y.to (len+y.length) (w64 ((k:Int) - (1:Int))) v21 (⟨(now.len+1),(zdm now.len now.get (λ _=>y))⟩:Sl step) /\
   zdp P5 P6 w v4 l u bb best t i h at_ len (k:Int) v21 now=P6 u bb best t i h y.to (len+y.length) (w64 ((k:Int) - (1:Int))) v21 (⟨(now.len+1),(zdm now.len now.get (λ _=>y))⟩:Sl step):=by
 intro l
 induction l with
 | nil=>rintro _ ⟨y,hy,_⟩;cases hy
 | cons y l ih =>
  intro hl hex
  have hy:=hl y (dqj ..)
  have f0:=hy.f0;have f1:=hy.f1;have t0:=hy.t0;have t1:=hy.t1;have l0:=hy.l0;have l1:=hy.l1
  obtain⟨⟨d1,d2⟩,d3⟩:=hd y.to.toNat (by omega)
  have e1:0+y.to.toNat * 2+0=y.to.toNat * 2:=by omega
  have hS:zdo S5 S6 w v4 (y :: l) u bb best t i h at_ len (k:Int) v21 now=cond (y.from_ == at_) (cond (decide (i<=y.to)) (cond (!(nvr (tg 80 (h.get ((k:Int)).toNat) (0+y.to.toNat * 2+0)) (tg 80 (h.get ((k:Int)).toNat) (0+y.to.toNat * 2+0+1)))) (cond (decide (w64 (w64 (len+y.length)+tg 80 (h.get ((k:Int)).toNat) (0+y.to.toNat * 2+0)) < (0:Int))) (S6 u bb best t i h y.to (w64 (len+y.length)) (w64 ((k:Int) - (1:Int))) v21 (⟨(now.len+1),(zdm now.len now.get (λ _=>y))⟩:Sl step)) (zdo S5 S6 w v4 l u bb best t i h at_ len (k:Int) v21 now)) (zdo S5 S6 w v4 l u bb best t i h at_ len (k:Int) v21 now)) (zdo S5 S6 w v4 l u bb best t i h at_ len (k:Int) v21 now)) (zdo S5 S6 w v4 l u bb best t i h at_ len (k:Int) v21 now):=by
   show zq3 S5 S6 w v4 y (zdo S5 S6 w v4 l) u bb best t i h at_ len (k:Int) v21 now=_
   generalize zdo S5 S6 w v4 l=S
   rfl
  have hP:zdp P5 P6 w v4 (y :: l) u bb best t i h at_ len (k:Int) v21 now=cond (y.from_ == at_) (cond (decide (i<=y.to)) (decide (0<=(k:Int)/\(k:Int) < (h.len:Int)) && (decide (0<=y.to/\y.to < (40:Int)) && cond (!(nvr (tg 80 (h.get ((k:Int)).toNat) (0+y.to.toNat * 2+0)) (tg 80 (h.get ((k:Int)).toNat) (0+y.to.toNat * 2+0+1)))) (decide (0<=(k:Int)/\(k:Int) < (h.len:Int)) && (decide (0<=y.to/\y.to < (40:Int)) && cond (decide (w64 (w64 (len+y.length)+tg 80 (h.get ((k:Int)).toNat) (0+y.to.toNat * 2+0)) < (0:Int))) (decide ((now.len+1) * 40<=140737488355328/\now.len+1<=9223372036854775807) && P6 u bb best t i h y.to (w64 (len+y.length)) (w64 ((k:Int) - (1:Int))) v21 (⟨(now.len+1),(zdm now.len now.get (λ _=>y))⟩:Sl step)) (zdp P5 P6 w v4 l u bb best t i h at_ len (k:Int) v21 now))) (zdp P5 P6 w v4 l u bb best t i h at_ len (k:Int) v21 now))) (zdp P5 P6 w v4 l u bb best t i h at_ len (k:Int) v21 now)) (zdp P5 P6 w v4 l u bb best t i h at_ len (k:Int) v21 now):=by
   show zq4 P5 P6 w v4 y (zdp P5 P6 w v4 l) u bb best t i h at_ len (k:Int) v21 now=_
   generalize zdp P5 P6 w v4 l=S
   rfl
  rw[dqN,e1,zdM (by omega),zdM (by omega),zLZ hd (by omega) (show y.to.toNat < N by omega),zbf (x:=len+y.length) (by omega) (by omega)] at hS hP
  rw[dqT (show 0<=(k:Int)/\(k:Int) < (h.len:Int) by omega),dqT (show 0<=y.to/\y.to < (40:Int) by omega),dqT (show (now.len+1) * 40<=140737488355328/\now.len+1<=9223372036854775807 by omega)] at hP
  simp only[Bool.true_and] at hP
  have next : ¬ (y.from_=at_/\i<=y.to/\∃ x,d y.to.toNat=some x/\len+y.length+x < 0) ->
    zdo S5 S6 w v4 (y :: l) u bb best t i h at_ len (k:Int) v21 now=zdo S5 S6 w v4 l u bb best t i h at_ len (k:Int) v21 now->zdp P5 P6 w v4 (y :: l) u bb best t i h at_ len (k:Int) v21 now=zdp P5 P6 w v4 l u bb best t i h at_ len (k:Int) v21 now->∃ y'∈y :: l,(y'.from_=at_/\i<=y'.to/\∃ x,d y'.to.toNat=some x/\len+y'.length+x < 0) /\
   zdo S5 S6 w v4 (y :: l) u bb best t i h at_ len (k:Int) v21 now=S6 u bb best t i h y'.to (len+y'.length) (w64 ((k:Int) - (1:Int))) v21 (⟨(now.len+1),(zdm now.len now.get (λ _=>y'))⟩:Sl step) /\
   zdp P5 P6 w v4 (y :: l) u bb best t i h at_ len (k:Int) v21 now=P6 u bb best t i h y'.to (len+y'.length) (w64 ((k:Int) - (1:Int))) v21 (⟨(now.len+1),(zdm now.len now.get (λ _=>y'))⟩:Sl step):=λ hno hs hp=>by
   obtain⟨z,hz,hc⟩:=hex
   have hzl:z∈l:=(dqq.1 hz).resolve_left (λ e=>hno (e ▸ hc))
   obtain⟨y',a1,a2,a3,a4⟩:=ih (λ q hq=>hl q (dqf _ hq)) ⟨z,hzl,hc⟩
   exact⟨y',dqf _ a1,a2,hs.trans a3,hp.trans a4⟩
  by_cases c1:y.from_=at_
  ·rw [show (y.from_ == at_) = true from beq_iff_eq.2 c1] at hS hP
   by_cases c2:i<=y.to
   ·rw [dqT c2] at hS hP
    cases hdu:d y.to.toNat with
    | none =>
     rw[hdu] at hS hP
     exact next (λ ⟨_,_,x,hx,_⟩=>by rw[hdu] at hx;cases hx) hS hP
    | some x =>
     have hbx:=d3 x hdu
     rw[hdu] at hS hP d1
     have d1':h.get k (y.to.toNat * 2)=x:=d1
     rw[d1',zbf (x:=len+y.length+x) (by omega) (by omega)] at hS hP
     by_cases c3:len+y.length+x < 0
     ·rw [dqT c3] at hS hP
      exact⟨y,dqj ..,⟨c1,c2,x,hdu,c3⟩,hS,hP⟩
     ·rw [dqF c3] at hS hP
      exact next (λ ⟨_,_,x',hx',hx''⟩=>by rw[hdu] at hx';cases hx';exact c3 hx'') hS hP
   ·rw [dqF c2] at hS hP
    exact next (λ hh=>c2 hh.2.1) hS hP
  ·rw [show (y.from_ == at_) = false from dqU.2 c1] at hS hP
   exact next (λ hh=>c1 hh.1) hS hP
end Go.Proofs
namespace Go.Proofs
open Go Go.Pm
set_option maxRecDepth 100000
set_option linter.unusedVariables false
structure HsOk (w : web) (hs : Sl (Sl Tab)) : Prop where
  len:hs.len=w.Net.Nodes.toNat
  at_:∀ i,i < w.Net.Nodes.toNat->(hs.get i).len=w.Net.Nodes.toNat+1/\∀ j,j<=w.Net.Nodes.toNat->Rh w.Net.Nodes.toNat ((hs.get i).get j) (hops (hF w (i:Int)) i j) (j * 1000000000)
def zPj (S5:Int->Bool->Sl step->Int->Sl (Sl Tab)->Sl step) (w:web) (v4:Sl (Sl Tab)) (u:Int) (bb:Bool) (best:Sl step) (t:Int) (v21:Sl (Sl Tab)) (now:Sl step):Sl step :=
 cond bb (zle S5 w v4 u bb best t true v21 now) (zle S5 w v4 u bb best t (decide ((zI7 now best) < (0:Int))) v21 now)
def zI8 (P5:Int->Bool->Sl step->Int->Sl (Sl Tab)->Bool) (w:web) (v4:Sl (Sl Tab)) (u:Int) (bb:Bool) (best:Sl step) (t:Int) (v21:Sl (Sl Tab)) (now:Sl step):Bool :=
 decide (bb=true\/best.len ≠ 0) && cond bb (zlf P5 w v4 u bb best t true v21 now) (decide (zMo now best=true) && zlf P5 w v4 u bb best t (decide ((zI7 now best) < (0:Int))) v21 now)
theorem walk (w : web) (hn : NetOk w.Net) (hs : Sl (Sl Tab)) (hh : HsOk w hs) (S5 : Int → Bool → Sl step → Int → Sl (Sl Tab) → Sl step) (P5 : Int → Bool → Sl step → Int → Sl (Sl Tab) → Bool) (v4 : Sl (Sl Tab)) (u : Int) (bb : Bool) (best : Sl step) (t : Int) (i : Nat) (hi : i < w.Net.Nodes.toNat) (v21 : Sl (Sl Tab)) :
  ∀ (m fu:Nat) (a len:Int) (now:Sl step) (L:List step),m < fu->(0<=a/\a < w.Net.Nodes)->L.length+m<=40->m<=w.Net.Nodes.toNat->-1000000000 * (L.length:Int)<=len->len<=1000000000 * (L.length:Int) ->
   (∃ x,hops (hF w (i:Int)) i m a.toNat=some x/\len+x < 0)->IsS now L->ChS (Ws w) (i:Int) L a->wtS L=len ->
   ∃ now' L',ziS S5 w v4 fu u bb best t (i:Int) (hs.get i) a len ((m:Int) - 1) v21 now=zPj S5 w v4 u bb best t v21 now'/\ziT P5 w v4 fu u bb best t (i:Int) (hs.get i) a len ((m:Int) - 1) v21 now=zI8 P5 w v4 u bb best t v21 now' /\
    IsS now' L'/\ChS (Ws w) (i:Int) L' (i:Int)/\wtS L' < 0/\L'.length=L.length+m:=by
 have hn40:=hn.n40;have hlen:=hn.len
 obtain⟨q1,q2⟩:=zlx w (by omega)
 obtain⟨hl1,hat⟩:=hh.at_ i hi
 intro m
 induction m with
 | zero =>
  intro fu a len now L hf ha hL hm hl0 hl1' hx hnow hch hwt
  obtain⟨fu,rfl⟩:∃ k',fu=k'+1:=⟨fu - 1,by omega⟩
  obtain⟨x,hx1,hx2⟩:=hx
  have hx1':zjP i a.toNat=some x:=hx1
  unfold zjP at hx1'
  have hai:a.toNat=i:=by
   by_cases hq:a.toNat=i
   ·exact hq
   ·rw[dqG hq] at hx1';cases hx1'
  rw[dqP hai] at hx1'
  have hx0:(0:Int)=x:=Option.some.inj hx1'
  have hae:a=(i:Int):=by omega
  subst hae
  refine⟨now,L,?_,?_,hnow,hch,by omega,rfl⟩
  ·show ziQ S5 w v4 (ziS S5 w v4 fu) u bb best t (i : Int) (hs.get i) (i : Int) len (((0 : Nat) : Int) - 1) v21 now = _
   unfold ziQ
   rw[dqF (show ¬ ((0:Nat):Int) - 1 >= 0 by omega),dqB];rfl
  ·show ziR P5 w v4 (ziT P5 w v4 fu) u bb best t (i : Int) (hs.get i) (i : Int) len (((0 : Nat) : Int) - 1) v21 now = _
   unfold ziR
   rw[dqF (show ¬ ((0:Nat):Int) - 1 >= 0 by omega),dqB];rfl
 | succ m ih =>
  intro fu a len now L hf ha hL hm hl0 hl1' hx hnow hch hwt
  obtain⟨fu,rfl⟩:∃ k',fu=k'+1:=⟨fu - 1,by omega⟩
  obtain⟨x,hx1,hx2⟩:=hx
  obtain⟨y,hy,hy1,hy2,hy3,z,hz1,hz2⟩:=zC7 hn (show hop (hF w (i:Int)) (hops (hF w (i:Int)) i m) a.toNat=some x from hx1)
  have hyo:=zoi hn hy
  have f0:=hyo.f0
  have hya:y.from_=a:=by omega
  have hnl:=hnow.1
  obtain⟨y',b1,⟨b2,b3,x',b4,b5⟩,b6,b7⟩:=zC8 w (N:=w.Net.Nodes.toNat) (by omega) S5 P5 (ziS S5 w v4 fu) (ziT P5 w v4 fu) v4 u bb best t (i:Int) (hs.get i) a len m (by omega) (hops (hF w (i:Int)) i m) (B:=m * 1000000000) (by omega) (hat m (by omega)) (by omega) (by omega) v21 now (by omega) (Ws w) (λ y hy=>zoi hn hy) ⟨y,hy,hya,hy2,z,hz1,by omega⟩
  have hyo':=zoi hn b1
  have t0:=hyo'.t0;have t1:=hyo'.t1;have l0:=hyo'.l0;have l1:=hyo'.l1
  have hw:w64 ((m:Int) - (1:Int))=(m:Int) - 1:=zbf (by omega) (by omega)
  rw[hw] at b6 b7
  obtain⟨now',L',c1,c2,c3,c4,c5,c6⟩:=ih fu y'.to (len+y'.length) (⟨(now.len+1),(zdm now.len now.get (λ _=>y'))⟩:Sl step) (L ++ [y']) (by omega) ⟨t0,by omega⟩ (by simp only[dqu,dqr,dqL];omega) (by omega) (by simp only[dqu,dqr,dqL];omega) (by simp only[dqu,dqr,dqL];omega) ⟨x',b4,b5⟩ (zIS hnow y') (zIT hch b1 b2) (by rw[zIU,hwt])
  refine⟨now',L',?_,?_,c3,c4,c5,by rw[c6];simp only[dqu,dqr,dqL];omega⟩
  ·rw [← c1, ← b6]
   show ziQ S5 w v4 (ziS S5 w v4 fu) u bb best t (i:Int) (hs.get i) a len (((m+1:Nat):Int) - 1) v21 now=_
   rw[show ((m+1:Nat):Int) - 1=(m:Int) by omega]
   unfold ziQ zq5
   rw[dqT (show (m:Int) >= 0 by omega),dqA,q2]
  ·rw [← c2, ← b7]
   show ziR P5 w v4 (ziT P5 w v4 fu) u bb best t (i:Int) (hs.get i) a len (((m+1:Nat):Int) - 1) v21 now=_
   rw[show ((m+1:Nat):Int) - 1=(m:Int) by omega]
   unfold ziR zq6
   rw[dqT (show (m:Int) >= 0 by omega),dqA,q1,q2];rfl
end Go.Proofs
namespace Go.Proofs
open Go Go.Pm
set_option maxRecDepth 100000
set_option linter.unusedVariables false
end Go.Proofs
namespace Go.Proofs
open Go Go.Pm
set_option maxRecDepth 100000
set_option linter.unusedVariables false
attribute [local irreducible] Go.Pm.vcFun Go.Pm.vc Go.Pm.vcIter
end Go.Proofs
namespace Go.Proofs
open Go Go.Pm
set_option maxRecDepth 100000
set_option linter.unusedVariables false
theorem zC9 {n:Net}{y:step}(hy:y∈Ws (W n)):zA0 n y.Use y.from_=some (y.to,y.length)/\0<=y.Use.Tie/\y.Use.Tie < n.Ties.len/\y.from_=cond y.Use.Back (n.Ties.get y.Use.Tie.toNat).To (n.Ties.get y.Use.Tie.toNat).From:=by
 obtain⟨j,_,h2,h3⟩:=zAL.1 hy
 have h2':j < n.Ties.len:=by rw[Nat.zero_add] at h2;exact h2
 rcases (zAM.1 h3).2 with ⟨h4,rfl⟩ | ⟨h4,rfl⟩
 ·refine ⟨?_, by show 0 ≤ (j : Int); omega, by show (j : Int) < _; omega, rfl⟩
  show (if 0<=(j:Int)/\(j:Int) < n.Ties.len then (if (n.Ties.get ((j:Int)).toNat).High ≠ 1000000000000/\(n.Ties.get ((j:Int)).toNat).From=(n.Ties.get j).From then some ((n.Ties.get ((j:Int)).toNat).To,(n.Ties.get ((j:Int)).toNat).High) else none) else none)=_
  rw[dqP ⟨by omega,by omega⟩,dqN,dqP ⟨h4,rfl⟩];rfl
 ·refine ⟨?_, by show 0 ≤ (j : Int); omega, by show (j : Int) < _; omega, rfl⟩
  show (if 0<=(j:Int)/\(j:Int) < n.Ties.len then (if (n.Ties.get ((j:Int)).toNat).Low ≠ -1000000000000/\(n.Ties.get ((j:Int)).toNat).To=(n.Ties.get j).To then some ((n.Ties.get ((j:Int)).toNat).From,w64 (0 - (n.Ties.get ((j:Int)).toNat).Low)) else none) else none)=_
  rw[dqP ⟨by omega,by omega⟩,dqN,dqP ⟨h4,rfl⟩];rfl
theorem zL4 {n:Net}(hn:NetOk n) (c:Sl Use):∀ (L:List step) (i:Nat) (a b l:Int),ChS (Ws (W n)) a L b->(∀ q (h:q < L.length),c.get (i+q)=L[q].Use)->-1000000000 * (i:Int)<=l->l<=1000000000 * (i:Int)->i+L.length<=50 ->
  pvR n c L.length i a l=(b,l+wtS L,true):=by
 intro L
 induction L with
 | nil=>intro i a b l h _ _ _ _;cases h;show (a,l,true)=(a,l+0,true);rw[Int.add_zero]
 | cons y L ih =>
  rintro i a b l ⟨hy,rfl,h⟩ hq h1 h2 h3
  have e0:=hq 0 (by simp only[dqr];omega)
  have e0':c.get i=y.Use:=e0
  have hs:=zoi (a:=W n) hn hy
  have s0:=hs.l0;have s1:=hs.l1
  simp only[dqr] at h3
  show (match zA0 n (c.get i) y.from_ with | none=>(0,0,false) | some (b,w)=>pvR n c L.length (i+1) b (w64 (l+w)))=(b,l+(y.length+wtS L),true)
  rw[e0',(zC9 hy).1]
  show pvR n c L.length (i+1) y.to (w64 (l+y.length))=(b,l+(y.length+wtS L),true)
  rw[zbf (by omega) (by omega),ih (i+1) y.to b (l+y.length) h (λ q hq'=>by
   have:=hq (q+1) (by simp only[dqr];omega)
   rw[show i+1+q=i+(q+1) by omega,this];rfl) (by omega) (by omega) (by omega),show l+(y.length+wtS L)=l+y.length+wtS L by omega]
end Go.Proofs
namespace Go.Proofs
open Go Go.Pm
set_option maxRecDepth 100000
set_option linter.unusedVariables false
attribute [local irreducible] Go.Pm.vcFun Go.Pm.vc Go.Pm.vcIter
end Go.Proofs
namespace Go.Proofs
open Go Go.Pm
set_option maxRecDepth 100000
set_option linter.unusedVariables false
def IsU (v:Sl Use) (L:List step):Prop:=v.len=L.length/\∀ q (h:q < L.length),v.get q=(L[q]).Use
theorem zA1 {v:Sl Use}{L:List step}(h:IsU v L) (y:step):IsU ⟨v.len+1,zdm v.len v.get (λ _=>y.Use)⟩ (L ++ [y]):=by
 refine⟨by show v.len+1=_;rw[dqu,h.1];rfl,λ k hk=>?_⟩
 show zdm v.len v.get (λ _=>y.Use) k=_
 rw[zsF]
 rw[dqu] at hk
 have h1:=h.1
 by_cases hv:v.len<=k
 ·rw [dqP hv]
  have:k=L.length:=by simp only[dqr,dqL] at hk;omega
  subst this
  simp
 ·rw [dqG hv, h.2 k (by omega)]
  rw[List.getElem_append_left (by omega)]
end Go.Proofs
namespace Go.Proofs
open Go Go.Pm
set_option maxRecDepth 100000
set_option linter.unusedVariables false
abbrev toD (n:Net) (t:Nat):zby:=dst ((En n).map edR) n.Nodes.toNat t
def gC (D:zby) (a X:Int) (y:step):Bool:=decide (y.from_=a) && (match D y.to.toNat with | none=>false | some x=>decide (x+y.length * 1048576+1=X))
theorem zih {D:zby}{a X:Int}{y:step} : gC D a X y=true↔(y.from_=a/\∃ x,D y.to.toNat=some x/\x+y.length * 1048576+1=X):=by
 unfold gC
 rw[dqm,decide_eq_true_iff]
 cases h:D y.to.toNat with
 | none=>exact⟨λ ⟨_,h⟩=>(by cases h),λ ⟨_,x,h,_⟩=>(by cases h)⟩
 | some x=>exact⟨λ ⟨h1,h3⟩=>⟨h1,x,rfl,of_decide_eq_true h3⟩,λ ⟨h1,x',h3,h4⟩=>⟨h1,by cases h3;exact dqT h4⟩⟩
def zhA (w : web) (D : zby) : Nat → Int → Int → List step
  | 0,_,_=>[]
  | k+1,a,X=>match (Ws w).find? (gC D a X) with
    | some y=>y :: zhA w D k y.to (X - y.length * 1048576 - 1)
    | none=>[]
section
variable {n:Net}(hn:NetOk n) (hN:zbt (En n)) {t:Nat}(ht:t < n.Nodes.toNat)
include hn hN ht
theorem zjI {v:Nat}{X:Int}(hX:toD n t v=some X):∃ c,zeZ ((En n).map edR) t c v/\X=wt c * 1048576+c.length/\c.length < 40/\-40000000000<=wt c/\wt c<=40000000000:=by
 have hE:=(zu9 (a:=W n) hn).R
 obtain⟨c,hc⟩:=dst_at hE (zgJ hN) ht hX
 have h1:=zid hE hc.ch
 have h2:=hc.len;have h3:=hE.n40
 exact⟨c,hc.ch,hc.x,by omega,by omega,by omega⟩
theorem zgL {v:Nat}{c:List Ed}(hc:zeZ ((En n).map edR) t c v):∃ x,toD n t v=some x/\x<=wt c * 1048576+c.length:=zAI (zu9 (a:=W n) hn).R (zgJ hN) ht hc
theorem zul {y:step}(hy:y∈Ws (W n)) {x:Int}(hx:toD n t y.to.toNat=some x):∃ z,toD n t y.from_.toNat=some z/\z<=x+(y.length * 1048576+1) :=
 zlw (zu9 (a:=W n) hn).R (zgJ hN) ht (edM (edR (edS y))) (List.mem_map_of_mem (List.mem_map_of_mem (List.mem_map_of_mem hy))) x hx
theorem exC {a:Int}(ha:0<=a){X left:Int}{k:Nat}(hX:toD n t a.toNat=some X) (hk:X=left * 1048576+((k:Int)+1)) (hk40:k<=40):∃ y∈Ws (W n),gC (toD n t) a X y=true:=by
 obtain⟨c,h1,h2,h3,h4,h5⟩:=zjI hn hN ht hX
 have hl:c.length=k+1:=by omega
 obtain⟨c',e,rfl⟩:∃ c' e,c=c' ++ [e]:=⟨c.dropLast,c.getLast (λ e=>by rw[e] at hl;cases hl),(List.dropLast_concat_getLast _).symm⟩
 obtain⟨m,g1,g2,g3,g4⟩:=zcI.1 h1
 subst g3
 obtain⟨f,hf,rfl⟩:=dqz.1 g2
 obtain⟨y,hy,rfl⟩:=dqz.1 hf
 have hyo:=zoi (a:=W n) hn hy
 have f0:=hyo.f0
 have g4':y.from_.toNat=a.toNat:=g4
 obtain⟨x',k1,k2⟩:=zgL hn hN ht g1
 have k1':toD n t y.to.toNat=some x':=k1
 obtain⟨z,m1,m2⟩:=zul hn hN ht hy k1'
 rw[g4',hX] at m1
 have:X=z:=Option.some.inj m1
 rw[zfD,zgI] at h2
 have hw:(edR (edS y)).w=y.length:=rfl
 rw[hw] at h2
 rw[dqu] at h2 hl
 simp only[dqr,dqL] at h2 hl
 exact⟨y,hy,zih.2 ⟨by omega,x',k1',by omega⟩⟩
theorem zL5 {a : Int} {X left : Int} {k : Nat} (hX : toD n t a.toNat = some X) (hk : X = left * 1048576 + ((k : Int) + 1)) (hk40 : k ≤ 40) {y : step} (hy : y ∈ Ws (W n)) (hya : y.from_ = a) :
  (∃ x,toD n t y.to.toNat=some x/\x+y.length * 1048576+1=X)↔∃ x,hops ((En n).map edR) t k y.to.toNat=some x/\y.length+x=left:=by
 constructor
 ·rintro ⟨x', h1, h2⟩
  obtain⟨c,g1,g2,g3,g4,g5⟩:=zjI hn hN ht h1
  have hl:c.length=k:=by omega
  obtain⟨x,k1,k2⟩:=zAZ g1 hl
  obtain⟨c2,m1,m2,m3⟩:=zoj k1
  obtain⟨x2,p1,p2⟩:=zgL hn hN ht m1
  rw[h1] at p1
  have:x'=x2:=Option.some.inj p1
  exact⟨x,k1,by omega⟩
 ·rintro ⟨x, h1, h2⟩
  obtain⟨c,m1,m2,m3⟩:=zoj h1
  obtain⟨x',p1,p2⟩:=zgL hn hN ht m1
  obtain⟨z,q1,q2⟩:=zul hn hN ht hy p1
  rw[hya,hX] at q1
  have:X=z:=Option.some.inj q1
  exact⟨x',p1,by omega⟩
theorem zA2 {v:Nat}{X left:Int}{U:Nat}(hX:toD n t v=some X) (hk:X=left * 1048576+(U:Int)) (hU:U<=40):hops ((En n).map edR) t U v=some left/\∀ j,j < U->hops ((En n).map edR) t j v ≠ some left:=by
 obtain⟨c,g1,g2,g3,g4,g5⟩:=zjI hn hN ht hX
 have hl:c.length=U:=by omega
 constructor
 ·obtain ⟨x, k1, k2⟩ := zAZ g1 hl
  obtain⟨c2,m1,m2,m3⟩:=zoj k1
  obtain⟨x2,p1,p2⟩:=zgL hn hN ht m1
  rw[hX] at p1
  have:X=x2:=Option.some.inj p1
  rw[k1,show x=left by omega]
 ·intro j hj h
  obtain⟨c2,m1,m2,m3⟩:=zoj h
  obtain⟨x2,p1,p2⟩:=zgL hn hN ht m1
  rw[hX] at p1
  have:X=x2:=Option.some.inj p1
  omega
theorem zDa:∀ (k:Nat) (a X left:Int),(0<=a/\a < n.Nodes)->toD n t a.toNat=some X->X=left * 1048576+(k:Int)->k<=40->ChS (Ws (W n)) a (zhA (W n) (toD n t) k a X) (t:Int)/\wtS (zhA (W n) (toD n t) k a X)=left/\(zhA (W n) (toD n t) k a X).length=k:=by
 intro k
 induction k with
 | zero =>
  intro a X left ha hX hk _
  obtain⟨c,g1,g2,g3,g4,g5⟩:=zjI hn hN ht hX
  have hl:c.length=0:=by omega
  have:c=[]:=List.length_eq_zero_iff.1 hl
  subst this
  have h1:t=a.toNat:=g1
  have h2:X=(0:Int) * 1048576+((0:Nat):Int):=g2
  refine⟨by show a=(t:Int);omega,by show (0:Int)=left;omega,rfl⟩
 | succ k ih =>
  intro a X left ha hX hk hk40
  obtain⟨y0,hy0,hg0⟩:=exC hn hN ht (left:=left) (k:=k) ha.1 hX (by rw[hk];omega) (by omega:k<=40)
  have e:zhA (W n) (toD n t) (k+1) a X=(match (Ws (W n)).find? (gC (toD n t) a X) with | some y=>y :: zhA (W n) (toD n t) k y.to (X - y.length * 1048576 - 1) | none=>[]):=rfl
  cases hf:(Ws (W n)).find? (gC (toD n t) a X) with
  | none=>exact absurd hg0 (List.find?_eq_none.1 hf y0 hy0)
  | some y =>
   have hy:=List.mem_of_find?_eq_some hf
   obtain⟨h1,x,h2,h3⟩:=zih.1 (List.find?_some hf)
   have hyo:=zoi (a:=W n) hn hy
   have t0:=hyo.t0;have t1:=hyo.t1
   have t1':y.to < ((n.Nodes.toNat:Nat):Int):=t1
   rw[e,hf]
   obtain⟨k1,k2,k3⟩:=ih y.to (X - y.length * 1048576 - 1) (left - y.length) ⟨t0,by omega⟩ (by rw[h2];congr 1;omega) (by omega) (by omega)
   exact⟨⟨hy,h1,k1⟩,by show y.length+wtS _=left;omega,by show List.length _+1=k+1;omega⟩
end
theorem zmp {n : Net} (hn : NetOk n) (hN : zbt (En n)) {t : Nat} (ht : t < n.Nodes.toNat) {a X left : Int} {k : Nat} (ha : 0 ≤ a) (hX : toD n t a.toNat = some X) (hk : X = left * 1048576 + ((k : Int) + 1)) (hk40 : k ≤ 40) :
  ∃ y,(Ws (W n)).find? (gC (toD n t) a X)=some y/\y∈Ws (W n)/\toD n t y.to.toNat=some (X - y.length * 1048576 - 1)/\zhA (W n) (toD n t) (k+1) a X=y :: zhA (W n) (toD n t) k y.to (X - y.length * 1048576 - 1):=by
 obtain⟨y0,hy0,hg0⟩:=exC hn hN ht ha hX hk hk40
 have e:zhA (W n) (toD n t) (k+1) a X=(match (Ws (W n)).find? (gC (toD n t) a X) with | some y=>y :: zhA (W n) (toD n t) k y.to (X - y.length * 1048576 - 1) | none=>[]):=rfl
 cases hf:(Ws (W n)).find? (gC (toD n t) a X) with
 | none=>exact absurd hg0 (List.find?_eq_none.1 hf y0 hy0)
 | some y =>
  obtain⟨h1,x,h2,h3⟩:=zih.1 (List.find?_some hf)
  rw[hf] at e
  exact⟨y,rfl,List.mem_of_find?_eq_some hf,by rw[h2];congr 1;omega,e⟩
theorem zL6 (T:Tab){k:Nat}(hk:k < 80):tg 80 (za0 (unX (xcm (zar T)))) k=T k:=by
 rw[zdM hk,zqn]
 show tg 80 T k=T k
 exact zdM hk
theorem zIV {n : Net} (hn : NetOk n) (hN : zbt (En n)) {t : Nat} (ht : t < n.Nodes.toNat) (T T2 : Tab) (hT : Rp n.Nodes.toNat T (toD n t)) (hT2 : ∀ k, k < 80 → tg 80 T2 k = T k) (a : Int) (ha : 0 ≤ a ∧ a < n.Nodes) (X : Int) (hX : toD n t a.toNat = some X) (out : Sl Use) (hout : out.len ≤ 1000) :
  ∀ (l:List step),(∀ y∈l,y∈Ws (W n))->∀ y,l.find? (gC (toD n t) a X)=some y ->
   zcY (W n) a T2 out l=(true,y.to,(⟨(out.len+1),(zdm out.len out.get (λ _=>y.Use))⟩:Sl Use))/\zcZ (W n) a T2 out l=true:=by
 have hn40:=hn.n40
 have dec:∀ {v:Nat} {x:Int},v < n.Nodes.toNat->toD n t v=some x->T (v * 2)=x / 1048576/\T (v * 2+1)=x % 1048576/\0<=x % 1048576/\x % 1048576 < 40/\-40000000000<=x / 1048576/\x / 1048576<=40000000000:=fun {v x} hv hx=>by
  have h1:=hT v hv
  rw[hx] at h1
  obtain⟨c,_,g2,g3,g4,g5⟩:=zjI hn hN ht hx
  obtain⟨e1,e2⟩:=Prod.mk.inj h1
  exact⟨e1,e2,by omega,by omega,by omega,by omega⟩
 obtain⟨x1,x2,x3,x4,x5,x6⟩:=dec (by omega) hX
 intro l
 induction l with
 | nil=>intro _ y h;cases h
 | cons y l ih =>
  intro hl z hf
  have hy:=hl y (dqj ..)
  have hyo:=zoi (a:=W n) hn hy
  have f0:=hyo.f0;have t0:=hyo.t0;have l0:=hyo.l0;have l1:=hyo.l1
  have t1:y.to < ((n.Nodes.toNat:Nat):Int):=hyo.t1
  have hS:zcY (W n) a T2 out (y :: l)=cond (y.from_ == a) (cond (!(nv (tg 80 T2 (0+y.to.toNat * 2+0)) (tg 80 T2 (0+y.to.toNat * 2+0+1)))) (cond (sm (w64 (tg 80 T2 (0+y.to.toNat * 2+0)+y.length)) (w64 (tg 80 T2 (0+y.to.toNat * 2+1)+(1:Int))) (tg 80 T2 (0+a.toNat * 2+0)) (tg 80 T2 (0+a.toNat * 2+0+1))) (true,y.to,(⟨(out.len+1),(zdm out.len out.get (λ _=>y.Use))⟩:Sl Use)) (zcY (W n) a T2 out l)) (zcY (W n) a T2 out l)) (zcY (W n) a T2 out l):=by
   show znw (W n) a T2 out y (zcY (W n) a T2 out l)=_
   generalize zcY (W n) a T2 out l=S
   rfl
  have hP:zcZ (W n) a T2 out (y :: l)=cond (y.from_ == a) (decide (0<=y.to/\y.to < (40:Int)) && cond (!(nv (tg 80 T2 (0+y.to.toNat * 2+0)) (tg 80 T2 (0+y.to.toNat * 2+0+1)))) (decide (0<=y.to/\y.to < (40:Int)) && (decide (0<=y.to/\y.to < (40:Int)) && (decide (0<=a/\a < (40:Int)) && cond (sm (w64 (tg 80 T2 (0+y.to.toNat * 2+0)+y.length)) (w64 (tg 80 T2 (0+y.to.toNat * 2+1)+(1:Int))) (tg 80 T2 (0+a.toNat * 2+0)) (tg 80 T2 (0+a.toNat * 2+0+1))) (decide ((out.len+1) * 16<=140737488355328/\out.len+1<=9223372036854775807) && true) (zcZ (W n) a T2 out l)))) (zcZ (W n) a T2 out l)) (zcZ (W n) a T2 out l):=by
   show znx (W n) a T2 out y (zcZ (W n) a T2 out l)=_
   generalize zcZ (W n) a T2 out l=S
   rfl
  rw[show 0+y.to.toNat * 2+0+1=y.to.toNat * 2+1 by omega,show 0+y.to.toNat * 2+0=y.to.toNat * 2 by omega,show 0+a.toNat * 2+0+1=a.toNat * 2+1 by omega,show 0+a.toNat * 2+0=a.toNat * 2 by omega,hT2 _ (by omega),hT2 _ (by omega),hT2 _ (by omega),hT2 _ (by omega),x1,x2,zie,same_eq] at hS hP
  rw[dqT (show 0<=y.to/\y.to < (40:Int) by omega),dqT (show 0<=a/\a < (40:Int) by omega),dqT (show (out.len+1) * 16<=140737488355328/\out.len+1<=9223372036854775807 by omega)] at hP
  simp only[Bool.true_and] at hP
  have next : ¬ (y.from_=a/\∃ x,toD n t y.to.toNat=some x/\x+y.length * 1048576+1=X)->zcY (W n) a T2 out (y :: l)=zcY (W n) a T2 out l->zcZ (W n) a T2 out (y :: l)=zcZ (W n) a T2 out l ->
    zcY (W n) a T2 out (y :: l)=(true,z.to,(⟨(out.len+1),(zdm out.len out.get (λ _=>z.Use))⟩:Sl Use))/\zcZ (W n) a T2 out (y :: l)=true:=λ hno hs hp=>by
   rw[List.find?_cons_of_neg (λ h=>hno (zih.1 h))] at hf
   obtain⟨a3,a4⟩:=ih (λ q hq=>hl q (dqf _ hq)) z hf
   exact⟨hs.trans a3,hp.trans a4⟩
  by_cases c1:y.from_=a
  ·rw [show (y.from_ == a) = true from beq_iff_eq.2 c1] at hS hP
   cases hdu:toD n t y.to.toNat with
   | none =>
    have h1:=hT y.to.toNat (by omega)
    rw[hdu] at h1
    rw[h1,dqT (show zIG none=((1000000000000:Int),(0:Int)) from rfl)] at hS hP
    exact next (λ ⟨_,x,hx,_⟩=>by rw[hdu] at hx;cases hx) hS hP
   | some x =>
    obtain⟨y1,y2,y3,y4,y5,y6⟩:=dec (by omega) hdu
    rw[y1,y2,dqF (show ¬ ((x / 1048576,x % 1048576)=((1000000000000:Int),(0:Int))) from λ e=>by have:=(Prod.mk.inj e).1;omega),zbf (x:=x / 1048576+y.length) (by omega) (by omega),zbf (x:=x % 1048576+1) (by omega) (by omega)] at hS hP
    by_cases c3:x+y.length * 1048576+1=X
    ·rw [dqT (show (x / 1048576 + y.length, x % 1048576 + 1) = (X / 1048576, X % 1048576) by rw [← c3]; congr 1 <;> omega)] at hS hP
     rw[List.find?_cons_of_pos (zih.2 ⟨c1,x,hdu,c3⟩)] at hf
     cases hf
     exact⟨hS,hP⟩
    ·rw [dqF (show ¬ ((x / 1048576 + y.length, x % 1048576 + 1) = (X / 1048576, X % 1048576)) from fun e => c3 (by have e1 := (Prod.mk.inj e).1; have e2 := (Prod.mk.inj e).2; omega))] at hS hP
     exact next (λ ⟨_,x',hx',hx''⟩=>by rw[hdu] at hx';cases hx';exact c3 hx'') hS hP
  ·rw [show (y.from_ == a) = false from dqU.2 c1] at hS hP
   exact next (λ hh=>c1 hh.1) hS hP
theorem zDb {n : Net} (hn : NetOk n) (hN : zbt (En n)) (from_ to_ : Int) {t : Nat} (ht : t < n.Nodes.toNat) (T : Tab) (hT : Rp n.Nodes.toNat T (toD n t)) (hw : s74 n (⟨2, zaq (za9 [(zad from_), (zad to_)])⟩ : Sl Int) = (W n, 0)) :
  ∀ (k fu:Nat) (a X left:Int) (out:Sl Use) (L:List step),k < fu->(0<=a/\a < n.Nodes)->toD n t a.toNat=some X->X=left * 1048576+(k:Int)->L.length+k<=40->IsU out L ->
   zhn n from_ to_ fu a out T=true/\∃ c,zhm n from_ to_ fu a out T=(c,0)/\IsU c (L ++ zhA (W n) (toD n t) k a X):=by
 have hn40:=hn.n40;have hlen:=hn.len
 obtain⟨q1,q2⟩:=zlx (W n) (show n.Ties.len<=_ by omega)
 have eW:(⟨(s74 n (⟨2,zaq (za9 [(zad from_),(zad to_)])⟩:Sl Int)).1.Net,(s74 n (⟨2,zaq (za9 [(zad from_),(zad to_)])⟩:Sl Int)).1.out⟩:web)=W n:=by rw[hw]
 intro k
 induction k with
 | zero =>
  intro fu a X left out L hf ha hX hk hL hout
  obtain⟨fu,rfl⟩:∃ k',fu=k'+1:=⟨fu - 1,by omega⟩
  have h1:=hT a.toNat (by omega)
  rw[hX] at h1
  have h2:T (a.toNat * 2+1)=X % 1048576:=(Prod.mk.inj h1).2
  have e0:decide (tg 80 T (0+a.toNat * 2+1) > 0)=false:=by
   rw[show 0+a.toNat * 2+1=a.toNat * 2+1 by omega,zdM (by omega),h2]
   exact dqF (by omega)
  constructor
  ·show ziP n from_ to_ (zhn n from_ to_ fu) a out T = true
   generalize zhn n from_ to_ fu=S
   unfold ziP
   rw[e0,dqT (show 0<=a/\a < (40:Int) by omega)];rfl
  ·refine ⟨out, ?_, by show IsU out (L ++ []); rw [List.append_nil]; exact hout⟩
   show ziO n from_ to_ (zhm n from_ to_ fu) a out T=_
   generalize zhm n from_ to_ fu=S
   unfold ziO
   rw[e0];rfl
 | succ k ih =>
  intro fu a X left out L hf ha hX hk hL hout
  obtain⟨fu,rfl⟩:∃ k',fu=k'+1:=⟨fu - 1,by omega⟩
  have hol:=hout.1
  obtain⟨y,hf1,hy,hX2,hwk⟩:=zmp hn hN ht (k:=k) (left:=left) ha.1 hX (by rw[hk];omega) (by omega)
  have hyo:=zoi (a:=W n) hn hy
  have t0:=hyo.t0
  have t1:y.to < ((n.Nodes.toNat:Nat):Int):=hyo.t1
  have h1:=hT a.toNat (by omega)
  rw[hX] at h1
  have h2:T (a.toNat * 2+1)=X % 1048576:=(Prod.mk.inj h1).2
  have e0:decide (tg 80 T (0+a.toNat * 2+1) > 0)=true:=by
   rw[show 0+a.toNat * 2+1=a.toNat * 2+1 by omega,zdM (by omega),h2]
   exact dqT (by omega)
  obtain⟨r1,r2⟩:=zIV hn hN ht T (za0 (unX (xcm (zar T)))) hT (λ _ h=>zL6 T h) a ha X hX (⟨out.len,out.get⟩:Sl Use) (by show out.len<=1000;omega) (Ws (W n)) (λ _ h=>h) y hf1
  have r1':s92 (W n) a (za0 (unX (xcm (zar T)))) (⟨out.len,out.get⟩:Sl Use)=(true,y.to,(⟨(out.len+1),(zdm out.len out.get (λ _=>y.Use))⟩:Sl Use)):=by
   unfold s92 zqU;rw[q2];exact r1
  have r2':p92 (W n) a (za0 (unX (xcm (zar T)))) (⟨out.len,out.get⟩:Sl Use)=true:=by
   unfold p92 zny;rw[q1,q2,dqT rfl,Bool.true_and];exact r2
  obtain⟨k1,c,k2,k3⟩:=ih fu y.to (X - y.length * 1048576 - 1) (left - y.length) (⟨(out.len+1),(zdm out.len out.get (λ _=>y.Use))⟩:Sl Use) (L ++ [y]) (by omega) ⟨t0,by omega⟩ hX2 (by omega) (by simp only[dqu,dqr,dqL];omega) (zA1 hout y)
  constructor
  ·rw [← k1]
   show ziP n from_ to_ (zhn n from_ to_ fu) a out T=_
   generalize zhn n from_ to_ fu=S
   unfold ziP
   rw[eW,e0,r1',r2',dqT (show 0<=a/\a < (40:Int) by omega)];rfl
  ·refine ⟨c, ?_, by rw [hwk]; rw [List.append_assoc] at k3; exact k3⟩
   rw[<- k2]
   show ziO n from_ to_ (zhm n from_ to_ fu) a out T=_
   generalize zhm n from_ to_ fu=S
   unfold ziO
   rw[eW,e0,r1'];rfl
end Go.Proofs
namespace Go.Proofs
open Go Go.Pm
set_option maxRecDepth 100000
set_option linter.unusedVariables false
theorem zA3 {l:Sl Step}{L:List step}(hl:IsL l L){q:Nat}(hq:q < L.length){N:Nat}(hL:∀ y∈L,StOk y N):(l.get q).From=L[q].from_/\(l.get q).To=L[q].to/\(l.get q).Length=L[q].length/\StOk L[q] N:=by
 rw[hl.2 q hq];exact⟨rfl,rfl,rfl,hL _ (List.getElem_mem hq)⟩
structure Rv (N : Nat) (v : Sl Int) (d : zby) (B : Int) : Prop where
  len:v.len=N
  at_:∀ i,i < N->d i=some (v.get i)
  b:∀ i,i < N->-B<=v.get i/\v.get i<=0
theorem zDc (n : Net) (l : Sl Step) (L : List step) (hl : IsL l L) {N : Nat} (hLN : ∀ y ∈ L, StOk y N) (hL : L.length ≤ 1000) (S1 : Sl Int → Bool → Int → Bool) (P1 : Sl Int → Bool → Int → Bool) (best : Sl Int) (o : zby) (B : Int) (hB : 0 ≤ B ∧ B ≤ 100000000000000) (ho : Rv N best o B) (r : Int) :
  ∀ (m k q:Nat) (c:Bool) (v:Sl Int) (d:zby),q+m=L.length->m < k->Rv N v d (B+1000000000) ->
  ∃ v',zfv S1 n l k best c r (q:Int) v=S1 v' (((L.drop q).map edS).foldl (jr o) (d,c)).2 (w64 (r+(1:Int)))/\zfw P1 n l k best c r (q:Int) v=P1 v' (((L.drop q).map edS).foldl (jr o) (d,c)).2 (w64 (r+(1:Int)))/\Rv N v' (((L.drop q).map edS).foldl (jr o) (d,c)).1 (B+1000000000):=by
 have hll:=hl.1
 intro m
 induction m with
 | zero =>
  intro k q c v d hq hk hv
  obtain⟨k,rfl⟩:∃ k',k=k'+1:=⟨k - 1,by omega⟩
  rw[dqO (by omega)]
  refine⟨v,?_,?_,hv⟩
  ·show zi7 S1 n l (zfv S1 n l k) best c r (q : Int) v = _
   unfold zi7
   rw[dqF (show ¬ (q:Int) < (l.len:Int) by omega),dqB];rfl
  ·show zi8 P1 n l (zfw P1 n l k) best c r (q : Int) v = _
   unfold zi8
   rw[dqF (show ¬ (q:Int) < (l.len:Int) by omega),dqB];rfl
 | succ m ih =>
  intro k q c v d hq hk hv
  obtain⟨k,rfl⟩:∃ k',k=k'+1:=⟨k - 1,by omega⟩
  have hw:w64 ((q:Int)+(1:Int))=((q+1:Nat):Int):=by rw[zbf (by omega) (by omega)];omega
  obtain⟨e1,e2,e3,hy⟩:=zA3 hl (show q < L.length by omega) hLN
  rw[dqR (by omega:q < L.length)]
  generalize L[q]=y at *
  have f0:=hy.f0;have f1:=hy.f1;have t0:=hy.t0;have t1:=hy.t1;have l0:=hy.l0;have l1:=hy.l1
  have hbl:=ho.len;have hvl:=hv.len
  have bf:=ho.b y.from_.toNat (by omega)
  have af:=ho.at_ y.from_.toNat (by omega)
  have at_:=hv.at_ y.to.toNat (by omega)
  have hr:jr o (d,c) (edS y)=cond (decide (best.get y.from_.toNat+y.length < v.get y.to.toNat)) (zhD d y.to.toNat (best.get y.from_.toNat+y.length),true) (d,c):=by
   unfold jr edS
   simp only[af,at_] <;> rfl
  have hS:zfv S1 n l (k+1) best c r (q:Int) v=cond (decide (best.get y.from_.toNat+y.length < v.get y.to.toNat)) (zfv S1 n l k best true r ((q+1:Nat):Int) (⟨v.len,setT y.to.toNat (best.get y.from_.toNat+y.length) v.get⟩:Sl Int)) (zfv S1 n l k best c r ((q+1:Nat):Int) v):=by
   rw[<- hw]
   show zi7 S1 n l (zfv S1 n l k) best c r (q:Int) v=_
   generalize zfv S1 n l k=S
   unfold zi7
   rw[dqT (show (q:Int) < (l.len:Int) by omega),dqA,dqN,e1,e2,e3,zbf (x:=best.get y.from_.toNat+y.length) (by omega) (by omega)]
  have hP:zfw P1 n l (k+1) best c r (q:Int) v=cond (decide (best.get y.from_.toNat+y.length < v.get y.to.toNat)) (zfw P1 n l k best true r ((q+1:Nat):Int) (⟨v.len,setT y.to.toNat (best.get y.from_.toNat+y.length) v.get⟩:Sl Int)) (zfw P1 n l k best c r ((q+1:Nat):Int) v):=by
   rw[<- hw]
   show zi8 P1 n l (zfw P1 n l k) best c r (q:Int) v=_
   generalize zfw P1 n l k=S
   unfold zi8
   simp only[dqN,e1,e2,e3]
   rw[dqT (show (q:Int) < (l.len:Int) by omega),dqA,zbf (x:=best.get y.from_.toNat+y.length) (by omega) (by omega),dqT (show 0<=(q:Int)/\(q:Int) < (l.len:Int) by omega),dqT (show 0<=y.from_/\y.from_ < (best.len:Int) by omega),dqT (show 0<=y.to/\y.to < (v.len:Int) by omega),dqT (show y.to.toNat < v.len by omega)]
   cases decide (best.get y.from_.toNat+y.length < v.get y.to.toNat) <;> rfl
  rw[hS,hP]
  show ∃ v',_=S1 v' (((L.drop (q+1)).map edS).foldl (jr o) (jr o (d,c) (edS y))).2 _/\_=P1 v' (((L.drop (q+1)).map edS).foldl (jr o) (jr o (d,c) (edS y))).2 _/\Rv N v' (((L.drop (q+1)).map edS).foldl (jr o) (jr o (d,c) (edS y))).1 _
  rw[hr]
  by_cases hlt:best.get y.from_.toNat+y.length < v.get y.to.toNat
  ·rw [dqT hlt]
   simp only[dqA]
   have vb:=hv.b y.to.toNat (by omega)
   refine ih k (q+1) true _ _ (by omega) (by omega) ⟨hvl,λ i hi=>?_,λ i hi=>?_⟩
   ·show zhD d y.to.toNat (best.get y.from_.toNat + y.length) i = some (setT y.to.toNat (best.get y.from_.toNat + y.length) v.get i)
    rw[zeX]
    unfold zhD
    by_cases h:i=y.to.toNat
    ·rw[dqP h,dqP h]
    ·rw[dqG h,dqG h];exact hv.at_ i hi
   ·show -(B + 1000000000) ≤ setT y.to.toNat (best.get y.from_.toNat + y.length) v.get i ∧ setT y.to.toNat (best.get y.from_.toNat + y.length) v.get i ≤ 0
    rw[zeX]
    by_cases h:i=y.to.toNat
    ·rw[dqP h];omega
    ·rw[dqG h];exact hv.b i hi
  ·rw [dqF hlt]
   simp only[dqB]
   exact ih k (q+1) c v d (by omega) (by omega) hv
theorem zpD (n:Net) (hn:NetOk n):∀ (m k r:Nat) (c:Bool) (v:Sl Int) (d:zby) (B:Int),(r:Int)+m=n.Nodes->m < k->Rv n.Nodes.toNat v d B->0<=B->B+m * 1000000000<=100000000000000 ->
  zht n (s77 n) k v c (r:Int)=true/\zhs n (s77 n) k v c (r:Int)=zg8 (En n) m c d:=by
 have hlen:=hn.len;have hn40:=hn.n40
 obtain⟨_,hl⟩:=zmo n (by omega)
 have hL:(Ws (W n)).length<=400:=zmn (a:=W n) hn
 intro m
 induction m with
 | zero =>
  intro k r c v d B hr hk _ _ _
  obtain⟨k,rfl⟩:∃ k',k=k'+1:=⟨k - 1,by omega⟩
  constructor
  ·show zgt n (s77 n) (zht n (s77 n) k) v c (r : Int) = true
   unfold zgt
   rw[dqF (show ¬ (r:Int) < n.Nodes by omega),dqB]
  ·show zgs n (s77 n) (zhs n (s77 n) k) v c (r : Int) = _
   unfold zgs
   rw[dqF (show ¬ (r:Int) < n.Nodes by omega),dqB];rfl
 | succ m ih =>
  intro k r c v d B hr hk hv hB0 hB1
  obtain⟨k,rfl⟩:∃ k',k=k'+1:=⟨k - 1,by omega⟩
  cases c with
  | false =>
   constructor
   ·show zgt n (s77 n) (zht n (s77 n) k) v false (r : Int) = true
    unfold zgt
    cases decide ((r:Int) < n.Nodes) <;> rfl
   ·show zgs n (s77 n) (zhs n (s77 n) k) v false (r : Int) = _
    unfold zgs
    cases decide ((r:Int) < n.Nodes) <;> rfl
  | true =>
   have hw:w64 ((r:Int)+(1:Int))=((r+1:Nat):Int):=by rw[zbf (by omega) (by omega)];omega
   obtain⟨v',k1,k2,k3⟩:=zDc n (s77 n) (Ws (W n)) hl (λ y hy=>zoi (a:=W n) hn hy) (by omega) (zhs n (s77 n) k) (zht n (s77 n) k) v d B ⟨hB0,by omega⟩ hv (r:Int) (Ws (W n)).length Fuel 0 false v d (by omega) (by simp only[Fuel];omega) ⟨hv.len,hv.at_,λ i hi=>by have:=hv.b i hi;omega⟩
   rw[List.drop_zero,hw] at k1 k2
   rw[List.drop_zero] at k3
   obtain⟨i1,i2⟩:=ih k (r+1) (((Ws (W n)).map edS).foldl (jr d) (d,false)).2 v' _ (B+1000000000) (by omega) (by omega) k3 (by omega) (by omega)
   constructor
   ·refine Eq.trans ?_ i1
    refine Eq.trans ?_ k2
    show zgt n (s77 n) (zht n (s77 n) k) v true (r:Int)=_
    unfold zgt
    have hvl:=hv.len
    rw[dqT (show (r:Int) < n.Nodes by omega)]
    first
     | rfl
     | (simp only[dqA];rw[dqT (show v.len * 8<=140737488355328/\v.len<=9223372036854775807 by omega)];rfl)
   ·refine Eq.trans ?_ i2
    refine Eq.trans ?_ k1
    show zgs n (s77 n) (zhs n (s77 n) k) v true (r:Int)=_
    unfold zgs
    rw[dqT (show (r:Int) < n.Nodes by omega)];rfl
theorem zL7 (n:Net) (hn:NetOk n):p31 n=true/\(s31 n=true↔zbt (En n)):=by
 have hlen:=hn.len;have hn1:=hn.n1;have hn40:=hn.n40
 obtain⟨a,b⟩:=zpD n hn n.Nodes.toNat Fuel 0 true (⟨n.Nodes.toNat,(λ _=>(0:Int))⟩:Sl Int) (zon n.Nodes.toNat) 0 (by omega) (by simp only[Fuel];omega) ⟨rfl,λ i hi=>dqP hi,λ i hi=>⟨by show -(0:Int)<=(0:Int);omega,Int.le_refl _⟩⟩ (by omega) (by omega)
 have hq:=(zmo n (by omega)).1
 constructor
 ·unfold p31 zrZ
  rw[hq]
  first
   | exact a
   | (rw[dqT (show 0<=n.Nodes/\n.Nodes=n.Nodes/\n.Nodes<=1000000 from ⟨by omega,rfl,by omega⟩)];exact a)
 ·have : s31 n = zg8 (En n) n.Nodes.toNat true (zon n.Nodes.toNat) := b
  rw[this]
  exact zAV (zu9 (a:=W n) hn)
end Go.Proofs
namespace Go.Proofs
open Go Go.Pm
set_option maxRecDepth 100000
set_option linter.unusedVariables false
structure Rq (N : Nat) (v : Sl Int) (d : zby) : Prop where
  len:v.len=N
  at_:∀ i,i < N->v.get i=zBb (d i)
theorem zIW (n : Net) {E : List Ed} {N s : Nat} (hE : EdOk E N) (hn : zbt E) (hs : s < N) (l : Sl Step) (L : List step) (hl : IsL l L) (hLN : ∀ y ∈ L, StOk y N ∧ edS y ∈ E) (hL : L.length ≤ 1000) (S3 : Bool → Sl Int → Sl Int) (P3 : Bool → Sl Int → Bool) :
  ∀ (m k q:Nat) (c:Bool) (v:Sl Int) (d:zby),q+m=L.length->m < k->Rq N v d->Inv E (λ v=>v=s) d ->
  ∃ v',zep S3 l k c (q:Int) v=S3 (((L.drop q).map edS).foldl rlF (d,c)).2 v'/\zeq P3 l k c (q:Int) v=P3 (((L.drop q).map edS).foldl rlF (d,c)).2 v'/\Rq N v' (((L.drop q).map edS).foldl rlF (d,c)).1:=by
 have hll:=hl.1
 have hN40:=hE.n40
 intro m
 induction m with
 | zero =>
  intro k q c v d hq hk hv _
  obtain⟨k,rfl⟩:∃ k',k=k'+1:=⟨k - 1,by omega⟩
  rw[dqO (by omega)]
  refine⟨v,?_,?_,hv⟩
  ·show zjf S3 l (zep S3 l k) c (q : Int) v = _
   unfold zjf
   rw[dqF (show ¬ (q:Int) < (l.len:Int) by omega),dqB];rfl
  ·show zjg P3 l (zeq P3 l k) c (q : Int) v = _
   unfold zjg
   rw[dqF (show ¬ (q:Int) < (l.len:Int) by omega),dqB];rfl
 | succ m ih =>
  intro k q c v d hq hk hv hi
  obtain⟨k,rfl⟩:∃ k',k=k'+1:=⟨k - 1,by omega⟩
  have hw:w64 ((q:Int)+(1:Int))=((q+1:Nat):Int):=by rw[zbf (by omega) (by omega)];omega
  obtain⟨e1,e2,e3,hy⟩:=zA3 hl (show q < L.length by omega) (λ y hy=>(hLN y hy).1)
  have hmE:=(hLN L[q] (List.getElem_mem (by omega))).2
  rw[dqR (by omega:q < L.length)]
  generalize L[q]=y at *
  have f0:=hy.f0;have f1:=hy.f1;have t0:=hy.t0;have t1:=hy.t1;have l0:=hy.l0;have l1:=hy.l1
  have hvl:=hv.len
  have af:=hv.at_ y.from_.toNat (by omega)
  have at_:=hv.at_ y.to.toNat (by omega)
  have hin:=zjq (Src:=λ v=>v=s) hn (s:=(d,c)) (e:=edS y) hmE hi
  have hbT:∀ x,d y.to.toNat=some x->-40000000000<=x/\x<=40000000000:=λ x hx=>zEE hE hs hi hx
  have hS:zep S3 l (k+1) c (q:Int) v=cond (v.get y.from_.toNat != (1000000000000:Int)) (cond (decide (w64 (v.get y.from_.toNat+y.length) < v.get y.to.toNat)) (zep S3 l k true ((q+1:Nat):Int) (⟨v.len,setT y.to.toNat (w64 (v.get y.from_.toNat+y.length)) v.get⟩:Sl Int)) (zep S3 l k c ((q+1:Nat):Int) v)) (zep S3 l k c ((q+1:Nat):Int) v):=by
   rw[<- hw]
   show zjf S3 l (zep S3 l k) c (q:Int) v=_
   generalize zep S3 l k=S
   unfold zjf
   rw[dqT (show (q:Int) < (l.len:Int) by omega),dqA,dqN,e1,e2,e3]
  have hP:zeq P3 l (k+1) c (q:Int) v=cond (v.get y.from_.toNat != (1000000000000:Int)) (cond (decide (w64 (v.get y.from_.toNat+y.length) < v.get y.to.toNat)) (zeq P3 l k true ((q+1:Nat):Int) (⟨v.len,setT y.to.toNat (w64 (v.get y.from_.toNat+y.length)) v.get⟩:Sl Int)) (zeq P3 l k c ((q+1:Nat):Int) v)) (zeq P3 l k c ((q+1:Nat):Int) v):=by
   rw[<- hw]
   show zjg P3 l (zeq P3 l k) c (q:Int) v=_
   generalize zeq P3 l k=S
   unfold zjg
   simp only[dqN,e1,e2,e3]
   rw[dqT (show (q:Int) < (l.len:Int) by omega),dqA,dqT (show 0<=(q:Int)/\(q:Int) < (l.len:Int) by omega),dqT (show 0<=y.from_/\y.from_ < (v.len:Int) by omega),dqT (show y.from_.toNat < v.len by omega),dqT (show 0<=y.to/\y.to < (v.len:Int) by omega),dqT (show y.to.toNat < v.len by omega)]
   cases (v.get y.from_.toNat != (1000000000000:Int)) <;> cases decide (w64 (v.get y.from_.toNat+y.length) < v.get y.to.toNat) <;> rfl
  rw[hS,hP]
  show ∃ v',_=S3 (((L.drop (q+1)).map edS).foldl rlF (rlF (d,c) (edS y))).2 v'/\_=P3 (((L.drop (q+1)).map edS).foldl rlF (rlF (d,c) (edS y))).2 v'/\Rq N v' (((L.drop (q+1)).map edS).foldl rlF (rlF (d,c) (edS y))).1
  cases hdu:d y.from_.toNat with
  | none =>
   rw[hdu] at af
   have hr:rlF (d,c) (edS y)=(d,c):=by
    unfold rlF edS
    simp only[hdu]
   rw[hr,show (v.get y.from_.toNat != (1000000000000:Int))=false by rw[af];rfl]
   simp only[dqB]
   exact ih k (q+1) c v d (by omega) (by omega) hv hi
  | some x =>
   have hbx:=zEE hE hs hi hdu
   rw[hdu] at af
   have af':v.get y.from_.toNat=x:=af
   have hne:x ≠ 1000000000000:=by omega
   have hr:rlF (d,c) (edS y)=cond (ltO (x+y.length) (d y.to.toNat)) (zhD d y.to.toNat (x+y.length),true) (d,c):=by
    unfold rlF edS
    simp only[hdu] <;> rfl
   have hlt:decide (x+y.length < v.get y.to.toNat)=ltO (x+y.length) (d y.to.toNat):=by
    rw[at_]
    cases hdv:d y.to.toNat with
    | none=>exact dqT (show x+y.length < 1000000000000 by omega)
    | some z=>rfl
   rw[af',bne_iff_ne.2 hne,zbf (x:=x+y.length) (by omega) (by omega),hlt]
   simp only[dqA]
   rw[hr] at hin ⊢
   cases hlo:ltO (x+y.length) (d y.to.toNat) with
   | false =>
    simp only[dqB]
    exact ih k (q+1) c v d (by omega) (by omega) hv hi
   | true =>
    rw[hlo] at hin
    simp only[dqA] at hin ⊢
    refine ih k (q+1) true _ _ (by omega) (by omega) ⟨hvl,λ i hi'=>?_⟩ hin
    show setT y.to.toNat (x+y.length) v.get i=zBb (zhD d y.to.toNat (x+y.length) i)
    rw[zeX]
    unfold zhD
    by_cases h:i=y.to.toNat
    ·rw[dqP h,dqP h];rfl
    ·rw[dqG h,dqG h];exact hv.at_ i hi'
end Go.Proofs
namespace Go.Proofs
open Go Go.Pm
set_option maxRecDepth 100000
set_option linter.unusedVariables false
theorem zsH (n:Net) (l:Sl Step) (hl:IsL l (Ws (W n))) (hnet:NetOk n) (hn:zbt (En n)) {s:Nat}(hs:s < n.Nodes.toNat):∀ (m k:Nat) (v:Sl Int) (d:zby),Rq n.Nodes.toNat v d->Inv (En n) (λ v=>v=s) d->Fix (En n) (rds (En n) m d)->m+1 < k ->
  zdq l k true v=true/\Rq n.Nodes.toNat (zdd l k true v) (rds (En n) m d):=by
 have hlen:=hnet.len
 have hE:EdOk (En n) n.Nodes.toNat:=zu9 (a:=W n) hnet
 have hL:(Ws (W n)).length<=400:=zmn (a:=W n) hnet
 have one:∀ (k:Nat) (v:Sl Int) (d:zby),Rq n.Nodes.toNat v d->Inv (En n) (λ v=>v=s) d ->
   ∃ v',zdd l (k+1) true v=zdd l k ((En n).foldl rlF (d,false)).2 v'/\zdq l (k+1) true v=zdq l k ((En n).foldl rlF (d,false)).2 v'/\Rq n.Nodes.toNat v' (rnd (En n) d):=by
  intro k v d h1 h2
  obtain⟨v',k1,k2,k3⟩:=zIW n hE hn hs l (Ws (W n)) hl (λ y hy=>⟨zoi (a:=W n) hnet hy,List.mem_map_of_mem hy⟩) (by omega) (zdd l k) (zdq l k) (Ws (W n)).length Fuel 0 false v d (by omega) (by simp only[Fuel];omega) h1 h2
  rw[List.drop_zero] at k1 k2 k3
  have e1:zdd l (k+1) true v=zep (zdd l k) l Fuel false ((0:Nat):Int) v:=by
   show zln l (zdd l k) true v=_
   generalize zdd l k=S
   unfold zln zr5
   rw[dqA];rfl
  have e2:zdq l (k+1) true v=zeq (zdq l k) l Fuel false ((0:Nat):Int) v:=by
   show zlo l (zdq l k) true v=_
   generalize zdq l k=S
   unfold zlo zr6
   rw[dqA];rfl
  exact⟨v',e1.trans k1,e2.trans k2,k3⟩
 have stop:∀ (k:Nat) (v:Sl Int),zdd l (k+1) false v=v/\zdq l (k+1) false v=true:=λ k v=>by
  constructor
  ·show zln l (zdd l k) false v = v
   generalize zdd l k=S
   rfl
  ·show zlo l (zdq l k) false v = true
   generalize zdq l k=S
   rfl
 intro m
 induction m with
 | zero =>
  intro k v d h1 h2 h3 hk
  obtain⟨k,rfl⟩:∃ k',k=k'+1+1:=⟨k - 2,by omega⟩
  obtain⟨v',k1,k2,k3⟩:=one (k+1) v d h1 h2
  have h3':Fix (En n) d:=h3
  rw[zib h3'] at k1 k2
  rw[zhy h3'] at k3
  obtain⟨j1,j2⟩:=stop k v'
  refine⟨k2.trans j2,?_⟩
  rw[k1.trans j1];exact k3
 | succ m ih =>
  intro k v d h1 h2 h3 hk
  obtain⟨k,rfl⟩:∃ k',k=k'+1+1:=⟨k - 2,by omega⟩
  obtain⟨v',k1,k2,k3⟩:=one (k+1) v d h1 h2
  cases hf:((En n).foldl rlF (d,false)).2 with
  | false =>
   rw[hf] at k1 k2
   have hx:Fix (En n) d:=zgX hf
   obtain⟨j1,j2⟩:=stop k v'
   refine⟨k2.trans j2,?_⟩
   rw[k1.trans j1,zsA hx]
   rw[zhy hx] at k3;exact k3
  | true =>
   rw[hf] at k1 k2
   obtain⟨m1,m2⟩:=ih (k+1) v' (rnd (En n) d) k3 (zj3 hn (λ _ h=>h) (s:=(d,false)) h2) h3 (by omega)
   refine⟨k2.trans m1,?_⟩
   rw[k1];exact m2
theorem zA4 (n:Net) (a:Int) (l:Sl Step):∀ (m k i:Nat) (v:Sl Int),(v.len:Int)=n.Nodes->n.Nodes<=40->(∀ j,j < i->v.get j=1000000000000)->(i:Int)+m=n.Nodes->m < k ->
  ∃ v',zjj n a l k (i:Int) v=zr8 a l v'/\zjk n a l k (i:Int) v=zn0 a l v'/\v'.len=v.len/\∀ j,j < v.len->v'.get j=1000000000000:=by
 intro m
 induction m with
 | zero =>
  intro k i v hv h40 h hi hk
  obtain⟨k,rfl⟩:∃ k',k=k'+1:=⟨k - 1,by omega⟩
  refine⟨v,?_,?_,rfl,λ j hj=>h j (by omega)⟩
  ·show zjh n a l (zjj n a l k) (i : Int) v = _
   unfold zjh
   rw[dqF (show ¬ (i:Int) < n.Nodes by omega),dqB]
  ·show zji n a l (zjk n a l k) (i : Int) v = _
   unfold zji
   rw[dqF (show ¬ (i:Int) < n.Nodes by omega),dqB]
 | succ m ih =>
  intro k i v hv h40 h hi hk
  obtain⟨k,rfl⟩:∃ k',k=k'+1:=⟨k - 1,by omega⟩
  have hw:w64 ((i:Int)+(1:Int))=((i+1:Nat):Int):=by rw[zbf (by omega) (by omega)];omega
  obtain⟨v',k1,k2,k3,k4⟩:=ih k (i+1) (⟨v.len,setT i (1000000000000:Int) v.get⟩:Sl Int) hv h40 (λ j hj=>by
   show setT i (1000000000000:Int) v.get j=_
   rw[zeX]
   by_cases hq:j=i
   ·rw[dqP hq]
   ·rw[dqG hq];exact h j (by omega)) (by omega) (by omega)
  refine⟨v',?_,?_,k3,k4⟩
  ·rw [← k1]
   show zjh n a l (zjj n a l k) (i:Int) v=_
   unfold zjh
   rw[dqT (show (i:Int) < n.Nodes by omega),dqA,dqN,hw]
  ·rw [← k2]
   show zji n a l (zjk n a l k) (i:Int) v=_
   unfold zji
   rw[dqT (show (i:Int) < n.Nodes by omega),dqA,dqN,hw,dqT (show 0<=(i:Int)/\(i:Int) < (v.len:Int) by omega),dqT (show i < v.len by omega)];rfl
theorem zEG {n:Net}(hn:NetOk n) (hN:zbt (En n)) {a:Int}(h0:0<=a) (h1:a < n.Nodes):p46 n a=true/\(s46 n a).len=n.Nodes.toNat/\∀ j,j < n.Nodes.toNat->(s46 n a).get j=fr n a.toNat j:=by
 have hlen:=hn.len;have hn1:=hn.n1;have hn40:=hn.n40
 have hE:EdOk (En n) n.Nodes.toNat:=zu9 (a:=W n) hn
 have hs:a.toNat < n.Nodes.toNat:=by omega
 have hq:=(zmo n (by omega)).1
 obtain⟨v1,a1,a2,a3,a4⟩:=zA4 n a (s77 n) n.Nodes.toNat Fuel 0 (⟨n.Nodes.toNat,(λ _=>(0:Int))⟩:Sl Int) (by show ((n.Nodes.toNat:Nat):Int)=_;omega) hn40 (λ j hj=>absurd hj (dqW _)) (by omega) (by simp only[Fuel];omega)
 have a3':v1.len=n.Nodes.toNat:=a3
 have hr:Rq n.Nodes.toNat (⟨v1.len,setT a.toNat (0:Int) v1.get⟩:Sl Int) (zjP a.toNat):=⟨a3',λ i hi=>by
  show setT a.toNat (0:Int) v1.get i=zBb (zjP a.toNat i)
  rw[zeX]
  unfold zjP
  by_cases h:i=a.toNat
  ·rw[dqP h,dqP h];rfl
  ·rw[dqG h,dqG h];exact a4 i hi⟩
 obtain⟨b1,b2⟩:=zsH n (s77 n) (zmo n (by omega)).2 hn hN hs (n.Nodes.toNat - 1) Fuel (⟨v1.len,setT a.toNat (0:Int) v1.get⟩:Sl Int) (zjP a.toNat) hr (zes (zdr a.toNat)) (zAX hE hN hs) (by simp only[Fuel];omega)
 have e:s46 n a=zdd (s77 n) Fuel true (⟨v1.len,setT a.toNat (0:Int) v1.get⟩:Sl Int):=by
  show zjj n a (s77 n) Fuel 0 (⟨n.Nodes.toNat,(λ _=>(0:Int))⟩:Sl Int)=_
  exact Eq.trans a1 rfl
 refine⟨?_,?_,λ j hj=>?_⟩
 ·unfold p46 zr9
  rw[hq,dqT (show 0<=n.Nodes/\n.Nodes=n.Nodes/\n.Nodes<=1000000 from ⟨by omega,rfl,by omega⟩)]
  show zjk n a (s77 n) Fuel 0 (⟨n.Nodes.toNat,(λ _=>(0:Int))⟩:Sl Int)=true
  refine Eq.trans a2 ?_
  unfold zn0 zr7
  rw[dqT (show 0<=a/\a < (v1.len:Int) by omega),dqT (show a.toNat < v1.len by omega),Bool.true_and,Bool.true_and]
  exact b1
 ·rw[e];exact b2.len
 ·rw [e, b2.at_ j hj]
  exact zIR hE hN hs
end Go.Proofs
namespace Go.Proofs
open Go Go.Pm
set_option maxRecDepth 100000
set_option linter.unusedVariables false
attribute [local irreducible] Go.Pm.vcFun Go.Pm.vc Go.Pm.vcIter
end Go.Proofs
namespace Go.Proofs
open Go Go.Pm
set_option maxRecDepth 100000
set_option linter.unusedVariables false
theorem zDd (a b:Sl Use){L:List step}(ha:IsU a L) (hb:IsU b L) (hL:L.length<=1000):p53 a b=true/\s53 a b=true:=by
 have h1:=ha.1;have h2:=hb.1
 have key:∀ (m k i:Nat),i+m=L.length->m < k->zfZ a b k (i:Int)=true/\zfY a b k (i:Int)=true:=by
  intro m
  induction m with
  | zero =>
   intro k i hi hk
   obtain⟨k,rfl⟩:∃ k',k=k'+1:=⟨k - 1,by omega⟩
   constructor
   ·show ziw a b (zfZ a b k) (i : Int) = true
    unfold ziw
    rw[dqF (show ¬ (i:Int) < (a.len:Int) by omega),dqB]
   ·show ziv a b (zfY a b k) (i : Int) = _
    unfold ziv
    rw[dqF (show ¬ (i:Int) < (a.len:Int) by omega),dqB]
  | succ m ih =>
   intro k i hi hk
   obtain⟨k,rfl⟩:∃ k',k=k'+1:=⟨k - 1,by omega⟩
   have hw:w64 ((i:Int)+(1:Int))=((i+1:Nat):Int):=by rw[zbf (by omega) (by omega)];omega
   obtain⟨k1,k2⟩:=ih k (i+1) (by omega) (by omega)
   have hiL:i < L.length:=by omega
   have hab:b.get i=a.get i:=by rw[ha.2 i hiL,hb.2 i hiL]
   have hsb:sb (a.get i) (a.get i)=true:=by rw[zNP,beq_self_eq_true,beq_self_eq_true];rfl
   have hS:zfY a b (k+1) (i:Int)=cond (!(sb (a.get i) (a.get i))) false (zfY a b k ((i+1:Nat):Int)):=by
    rw[<- hw]
    show ziv a b (zfY a b k) (i:Int)=_
    generalize zfY a b k=S
    unfold ziv
    rw[dqT (show (i:Int) < (a.len:Int) by omega),dqA,dqN,hab];rfl
   have hP:zfZ a b (k+1) (i:Int)=cond (!(sb (a.get i) (a.get i))) true (zfZ a b k ((i+1:Nat):Int)):=by
    rw[<- hw]
    show ziw a b (zfZ a b k) (i:Int)=_
    generalize zfZ a b k=S
    unfold ziw
    rw[dqT (show (i:Int) < (a.len:Int) by omega),dqA,dqN,hab,dqT (show 0<=(i:Int)/\(i:Int) < (a.len:Int) by omega),dqT (show 0<=(i:Int)/\(i:Int) < (b.len:Int) by omega)];rfl
   rw[hS,hP,hsb]
   exact⟨k1,k2⟩
 obtain⟨k1,k2⟩:=key L.length Fuel 0 (by omega) (by simp only[Fuel];omega)
 unfold p53 s53
 rw[show ((a.len:Int) != (b.len:Int))=false by rw[h1,h2];exact bne_self_eq_false _]
 exact⟨k1,k2⟩
end Go.Proofs
namespace Go.Proofs
open Go Go.Pm
set_option maxRecDepth 100000
set_option linter.unusedVariables false
theorem zIX {n:Net}(hn:NetOk n):hF (W n) 0=(En n).map edR:=by
 unfold hF
 rw[List.filter_eq_self.2 (λ y hy=>by
  have h:=zoi (a:=W n) hn hy
  have:=h.f0;have:=h.t0
  unfold okY
  rw[dqT (show (0:Int)<=y.from_ by omega),dqT (show (0:Int)<=y.to by omega)];rfl)]
 exact zAR _
abbrev S36:=Int->Int->Int->Sl Use->Sl Use×Bool
abbrev P36:=Int->Int->Int->Sl Use->Bool
theorem zIY {n : Net} (hn : NetOk n) (hN : zbt (En n)) {t : Nat} (ht : t < n.Nodes.toNat) (l : Sl Step) (hl : IsL l (Ws (W n))) (S6 : S36) (P6 : P36) (tab : Sl (Sl Int)) (k : Nat) (hk40 : k ≤ 40) (htl : k < tab.len) (hrow : Rr n.Nodes.toNat (tab.get k) (hops ((En n).map edR) t k) (k * 1000000000)) (a X left : Int) (hX : toD n t a.toNat = some X) (hXk : X = left * 1048576 + ((k : Int) + 1)) (hlb : -100000000000 ≤ left ∧ left ≤ 100000000000) (out : Sl Use) (hout : out.len ≤ 1000) :
  ∀ (m fu i:Nat),i+m=(Ws (W n)).length->m < fu->∀ y,((Ws (W n)).drop i).find? (gC (toD n t) a X)=some y ->
   zdU S6 tab l fu left ((k+1:Nat):Int) a (i:Int) out=S6 (left - y.length) (k:Int) y.to (⟨(out.len+1),(zdm out.len out.get (λ _=>y.Use))⟩:Sl Use) /\
   zdV P6 tab l fu left ((k+1:Nat):Int) a (i:Int) out=P6 (left - y.length) (k:Int) y.to (⟨(out.len+1),(zdm out.len out.get (λ _=>y.Use))⟩:Sl Use):=by
 have hn40:=hn.n40
 have hll:=hl.1
 have hwl:=zmn (a:=W n) hn
 obtain⟨hdl,hd⟩:=hrow
 have hwk:w64 (((k+1:Nat):Int) - (1:Int))=(k:Int):=by rw[zbf (by omega) (by omega)];omega
 intro m
 induction m with
 | zero=>intro fu i hi hf y hy;rw[dqO (by omega)] at hy;cases hy
 | succ m ih =>
  intro fu i hi hfu z hf
  obtain⟨fu,rfl⟩:∃ k',fu=k'+1:=⟨fu - 1,by omega⟩
  have hw:w64 ((i:Int)+(1:Int))=((i+1:Nat):Int):=by rw[zbf (by omega) (by omega)];omega
  have hiL:i < (Ws (W n)).length:=by omega
  rw[dqR hiL] at hf
  have hly:=hl.2 i hiL
  have hyW:=List.getElem_mem hiL
  generalize (Ws (W n))[i]=y at *
  have hy:=zoi (a:=W n) hn hyW
  have t0:=hy.t0;have l0:=hy.l0;have l1:=hy.l1
  have t1:y.to < ((n.Nodes.toNat:Nat):Int):=hy.t1
  obtain⟨d1,d3⟩:=hd y.to.toNat (by omega)
  have g1:(l.get i).From=y.from_:=by rw[hly];rfl
  have g2:(l.get i).To=y.to:=by rw[hly];rfl
  have g3:(l.get i).Length=y.length:=by rw[hly];rfl
  have g4:(l.get i).Use=y.Use:=by rw[hly];rfl
  have hS:zdU S6 tab l (fu+1) left ((k+1:Nat):Int) a (i:Int) out=cond (y.from_ == a) (cond ((tab.get k).get y.to.toNat != (1000000000000:Int)) (cond (w64 (y.length+(tab.get k).get y.to.toNat) == left) (S6 (left - y.length) (k:Int) y.to (⟨(out.len+1),(zdm out.len out.get (λ _=>y.Use))⟩:Sl Use)) (zdU S6 tab l fu left ((k+1:Nat):Int) a ((i+1:Nat):Int) out)) (zdU S6 tab l fu left ((k+1:Nat):Int) a ((i+1:Nat):Int) out)) (zdU S6 tab l fu left ((k+1:Nat):Int) a ((i+1:Nat):Int) out):=by
   show zn1 S6 tab l (zdU S6 tab l fu) left ((k+1:Nat):Int) a (i:Int) out=_
   generalize zdU S6 tab l fu=S
   unfold zn1
   rw[dqT (show (i:Int) < (l.len:Int) by omega),dqA,dqN,g1,g2,g3,g4,hw,hwk,dqN,zbf (x:=left - y.length) (by omega) (by omega)]
  have hP:zdV P6 tab l (fu+1) left ((k+1:Nat):Int) a (i:Int) out=cond (y.from_ == a) (cond ((tab.get k).get y.to.toNat != (1000000000000:Int)) (cond (w64 (y.length+(tab.get k).get y.to.toNat) == left) (P6 (left - y.length) (k:Int) y.to (⟨(out.len+1),(zdm out.len out.get (λ _=>y.Use))⟩:Sl Use)) (zdV P6 tab l fu left ((k+1:Nat):Int) a ((i+1:Nat):Int) out)) (zdV P6 tab l fu left ((k+1:Nat):Int) a ((i+1:Nat):Int) out)) (zdV P6 tab l fu left ((k+1:Nat):Int) a ((i+1:Nat):Int) out):=by
   show zn2 P6 tab l (zdV P6 tab l fu) left ((k+1:Nat):Int) a (i:Int) out=_
   generalize zdV P6 tab l fu=S
   unfold zn2
   rw[dqT (show (i:Int) < (l.len:Int) by omega),dqA,dqN,g1,g2,g3,g4,hw,hwk,dqN,zbf (x:=left - y.length) (by omega) (by omega),dqT (show 0<=(i:Int)/\(i:Int) < (l.len:Int) by omega),dqT (show 0<=(k:Int)/\(k:Int) < (tab.len:Int) by omega),dqT (show 0<=y.to/\y.to < ((tab.get k).len:Int) by omega),dqT (show (out.len+1) * 16<=140737488355328/\out.len+1<=9223372036854775807 by omega)]
   simp only[Bool.true_and]
  have next:gC (toD n t) a X y=false ->
    zdU S6 tab l (fu+1) left ((k+1:Nat):Int) a (i:Int) out=zdU S6 tab l fu left ((k+1:Nat):Int) a ((i+1:Nat):Int) out->zdV P6 tab l (fu+1) left ((k+1:Nat):Int) a (i:Int) out=zdV P6 tab l fu left ((k+1:Nat):Int) a ((i+1:Nat):Int) out ->
   zdU S6 tab l (fu+1) left ((k+1:Nat):Int) a (i:Int) out=S6 (left - z.length) (k:Int) z.to (⟨(out.len+1),(zdm out.len out.get (λ _=>z.Use))⟩:Sl Use) /\
   zdV P6 tab l (fu+1) left ((k+1:Nat):Int) a (i:Int) out=P6 (left - z.length) (k:Int) z.to (⟨(out.len+1),(zdm out.len out.get (λ _=>z.Use))⟩:Sl Use):=λ hno hs hp=>by
   rw[List.find?_cons_of_neg (by rw[hno];exact dqk)] at hf
   obtain⟨a3,a4⟩:=ih fu (i+1) (by omega) (by omega) z hf
   exact⟨hs.trans a3,hp.trans a4⟩
  by_cases c1:y.from_=a
  ·have hiff := zL5 hn hN ht hX hXk hk40 hyW c1
   rw[show (y.from_ == a)=true from beq_iff_eq.2 c1] at hS hP
   cases hdu:hops ((En n).map edR) t k y.to.toNat with
   | none =>
    rw[hdu] at d1
    have d1':(tab.get k).get y.to.toNat=1000000000000:=d1
    rw[d1'] at hS hP
    refine next ?_ hS hP
    cases hg:gC (toD n t) a X y with
    | false=>rfl
    | true =>
     obtain⟨_,hg2⟩:=zih.1 hg
     obtain⟨x,hx,_⟩:=hiff.1 hg2
     rw[hdu] at hx;cases hx
   | some x =>
    have hbx:=d3 x hdu
    rw[hdu] at d1
    have d1':(tab.get k).get y.to.toNat=x:=d1
    rw[d1',show (x != (1000000000000:Int))=true from bne_iff_ne.2 (by omega),zbf (x:=y.length+x) (by omega) (by omega)] at hS hP
    by_cases c3:y.length+x=left
    ·rw [show (y.length + x == left) = true from beq_iff_eq.2 c3] at hS hP
     rw[List.find?_cons_of_pos (zih.2 ⟨c1,hiff.2 ⟨x,hdu,c3⟩⟩)] at hf
     cases hf
     exact⟨hS,hP⟩
    ·rw [show (y.length + x == left) = false from dqU.2 c3] at hS hP
     refine next ?_ hS hP
     cases hg:gC (toD n t) a X y with
     | false=>rfl
     | true =>
      obtain⟨_,hg2⟩:=zih.1 hg
      obtain⟨x',hx,hx'⟩:=hiff.1 hg2
      rw[hdu] at hx;cases hx;exact absurd hx' c3
  ·rw [show (y.from_ == a) = false from dqU.2 c1] at hS hP
   refine next ?_ hS hP
   cases hg:gC (toD n t) a X y with
   | false=>rfl
   | true=>exact absurd (zih.1 hg).1 c1
theorem zA5 {n : Net} (hn : NetOk n) (hN : zbt (En n)) {t : Nat} (ht : t < n.Nodes.toNat) (l : Sl Step) (hl : IsL l (Ws (W n))) (tab : Sl (Sl Int)) (htl : tab.len = n.Nodes.toNat + 1) (hrow : ∀ j, j < n.Nodes.toNat + 1 → Rr n.Nodes.toNat (tab.get j) (hops ((En n).map edR) t j) (j * 1000000000)) :
  ∀ (k fu:Nat) (a X left:Int) (out:Sl Use) (L:List step),k < fu->(0<=a/\a < n.Nodes)->toD n t a.toNat=some X->X=left * 1048576+(k:Int)->L.length+k<=40->k<=n.Nodes.toNat->IsU out L ->
   zgF tab l fu left (k:Int) a out=true/\∃ c,zgE tab l fu left (k:Int) a out=(c,true)/\IsU c (L ++ zhA (W n) (toD n t) k a X):=by
 have hn40:=hn.n40
 intro k
 induction k with
 | zero =>
  intro fu a X left out L hf ha hX hk hL _ hout
  obtain⟨fu,rfl⟩:∃ k',fu=k'+1:=⟨fu - 1,by omega⟩
  constructor
  ·show zjm tab l (zgF tab l fu) left ((0 : Nat) : Int) a out = true
   generalize zgF tab l fu=S
   unfold zjm
   rw[dqF (show ¬ ((0:Nat):Int) > 0 by omega),dqB]
  ·refine ⟨out, ?_, by show IsU out (L ++ []); rw [List.append_nil]; exact hout⟩
   show zjl tab l (zgE tab l fu) left ((0:Nat):Int) a out=_
   generalize zgE tab l fu=S
   unfold zjl
   rw[dqF (show ¬ ((0:Nat):Int) > 0 by omega),dqB]
 | succ k ih =>
  intro fu a X left out L hf ha hX hk hL hkN hout
  obtain⟨fu,rfl⟩:∃ k',fu=k'+1:=⟨fu - 1,by omega⟩
  have hol:=hout.1
  have hXk:X=left * 1048576+((k:Int)+1):=by omega
  obtain⟨c0,_,b2,b3,b4,b5⟩:=zjI hn hN ht hX
  obtain⟨y,hf1,hy,hX2,hwk⟩:=zmp hn hN ht (k:=k) (left:=left) ha.1 hX hXk (by omega)
  have hyo:=zoi (a:=W n) hn hy
  have t0:=hyo.t0
  have t1:y.to < ((n.Nodes.toNat:Nat):Int):=hyo.t1
  obtain⟨r1,r2⟩:=zIY hn hN ht l hl (zgE tab l fu) (zgF tab l fu) tab k (by omega) (by omega) (hrow k (by omega)) a X left hX hXk (by omega) out (by omega) (Ws (W n)).length Fuel 0 (by omega) (by have:=zmn (a:=W n) hn;simp only[Fuel];omega) y (by rw[List.drop_zero];exact hf1)
  obtain⟨k1,c,k2,k3⟩:=ih fu y.to (X - y.length * 1048576 - 1) (left - y.length) (⟨(out.len+1),(zdm out.len out.get (λ _=>y.Use))⟩:Sl Use) (L ++ [y]) (by omega) ⟨t0,by omega⟩ hX2 (by omega) (by simp only[dqu,dqr,dqL];omega) (by omega) (zA1 hout y)
  constructor
  ·rw [← k1, ← r2]
   show zjm tab l (zgF tab l fu) left ((k+1:Nat):Int) a out=_
   generalize zgF tab l fu=S
   unfold zjm
   rw[dqT (show ((k+1:Nat):Int) > 0 by omega),dqA];rfl
  ·refine ⟨c, ?_, by rw [hwk]; rw [List.append_assoc] at k3; exact k3⟩
   rw[<- k2,<- r1]
   show zjl tab l (zgE tab l fu) left ((k+1:Nat):Int) a out=_
   generalize zgE tab l fu=S
   unfold zjl
   rw[dqT (show ((k+1:Nat):Int) > 0 by omega),dqA];rfl
theorem zDe {n : Net} (from_ left : Int) (tab : Sl (Sl Int)) (U : Nat) (htl : U < tab.len) (hU : U ≤ 40) (hf : 0 ≤ from_) (hlen : ∀ j, j ≤ U → from_ < ((tab.get j).len : Int)) (h1 : ∀ j, j < U → (tab.get j).get from_.toNat ≠ left) (h2 : (tab.get U).get from_.toNat = left) :
  ∀ (m fu j:Nat),j+m=U->m < fu->zhx n from_ left tab fu (j:Int)=zlq n from_ left tab (U:Int)/\zhw n from_ left tab fu (j:Int)=zlp n from_ left tab (U:Int):=by
 intro m
 induction m with
 | zero =>
  intro fu j hj hfu
  obtain⟨fu,rfl⟩:∃ k',fu=k'+1:=⟨fu - 1,by omega⟩
  have:j=U:=by omega
  subst this
  have hl:=hlen j (dqt _)
  constructor
  ·show zjo n from_ left tab (zhx n from_ left tab fu) (j : Int) = _
   generalize zhx n from_ left tab fu=S
   unfold zjo
   rw[dqN,h2,bne_self_eq_false,dqT (show 0<=(j:Int)/\(j:Int) < (tab.len:Int) by omega),dqT (show 0<=from_/\from_ < ((tab.get j).len:Int) from ⟨hf,hl⟩)];rfl
  ·show zjn n from_ left tab (zhw n from_ left tab fu) (j : Int) = _
   generalize zhw n from_ left tab fu=S
   unfold zjn
   rw[dqN,h2,bne_self_eq_false];rfl
 | succ m ih =>
  intro fu j hj hfu
  obtain⟨fu,rfl⟩:∃ k',fu=k'+1:=⟨fu - 1,by omega⟩
  have hw:w64 ((j:Int)+(1:Int))=((j+1:Nat):Int):=by rw[zbf (by omega) (by omega)];omega
  have hl:=hlen j (by omega)
  have hb:((tab.get j).get from_.toNat != left)=true:=bne_iff_ne.2 (h1 j (by omega))
  obtain⟨k1,k2⟩:=ih fu (j+1) (by omega) (by omega)
  constructor
  ·rw [← k1, ← hw]
   show zjo n from_ left tab (zhx n from_ left tab fu) (j:Int)=_
   generalize zhx n from_ left tab fu=S
   unfold zjo
   rw[dqN,hb,dqT (show 0<=(j:Int)/\(j:Int) < (tab.len:Int) by omega),dqT (show 0<=from_/\from_ < ((tab.get j).len:Int) from ⟨hf,hl⟩)];rfl
  ·rw [← k2, ← hw]
   show zjn n from_ left tab (zhw n from_ left tab fu) (j:Int)=_
   generalize zhw n from_ left tab fu=S
   unfold zjn
   rw[dqN,hb];rfl
theorem zA6 {n:Net}(hn:NetOk n) (hN:zbt (En n)) {i j:Nat}(hi:i < n.Nodes.toNat) (hj:j < n.Nodes.toNat):fr n i j=zCW (toD n j i):=(zEB (zu9 (a:=W n) hn) hN hj hi).symm
theorem zL8 {n:Net}(hn:NetOk n) (hN:zbt (En n)) {i j:Int}(hi:0<=i/\i < n.Nodes) (hj:0<=j/\j < n.Nodes) (h:fr n i.toNat j.toNat=1000000000000):p55 n i j=true/\s55 n i j=((⟨0,λ _=>default⟩:Sl Use),false):=by
 obtain⟨a1,a2,a3⟩:=zEG hn hN hi.1 hi.2
 unfold p55 s55
 rw[a1,a3 j.toNat (by omega),h,dqT (show 0<=j/\j < ((s46 n i).len:Int) by omega)]
 exact⟨rfl,rfl⟩
theorem zL9 {n : Net} (hn : NetOk n) (hN : zbt (En n)) {i j : Int} (hi : 0 ≤ i ∧ i < n.Nodes) (hj : 0 ≤ j ∧ j < n.Nodes) {X left : Int} {U : Nat} (hX : toD n j.toNat i.toNat = some X) (hk : X = left * 1048576 + (U : Int)) (hU : U < n.Nodes.toNat) (hlb : -40000000000 ≤ left ∧ left ≤ 40000000000) :
  p55 n i j=true/\∃ c,s55 n i j=(c,true)/\IsU c (zhA (W n) (toD n j.toNat) U i X):=by
 have hn40:=hn.n40;have hlen:=hn.len
 have hNN:((n.Nodes.toNat:Nat):Int)=n.Nodes:=by omega
 have ht:j.toNat < n.Nodes.toNat:=by omega
 obtain⟨a1,a2,a3⟩:=zEG hn hN hi.1 hi.2
 obtain⟨q1,q2⟩:=zmo n (by omega)
 have hfr:fr n i.toNat j.toNat=left:=by
  rw[zA6 hn hN (by omega) ht,hX]
  show X / 1048576=left
  omega
 obtain⟨b1,b2⟩:=zL3 hn j 0 hj n.Nodes.toNat (by omega)
 rw[hNN] at b1 b2
 have htl:=b2.len
 have hrow:=b2.lo
 rw[zIX hn] at hrow
 obtain⟨f1,f2⟩:=zA2 hn hN ht hX hk (by omega)
 have hval:∀ q,q < n.Nodes.toNat+1->((s90 n j n.Nodes 0).get q).get i.toNat=zBb (hops ((En n).map edR) j.toNat q i.toNat):=λ q hq=>((hrow q hq).2 i.toNat (by omega)).1
 have g2:((s90 n j n.Nodes 0).get U).get i.toNat=left:=by rw[hval U (by omega),f1];rfl
 have g1:∀ q,q < U->((s90 n j n.Nodes 0).get q).get i.toNat ≠ left:=λ q hq h=>by
  rw[hval q (by omega)] at h
  have h2:=f2 q hq
  cases hh:hops ((En n).map edR) j.toNat q i.toNat with
  | none=>rw[hh] at h;have h':(1000000000000:Int)=left:=h;omega
  | some x=>rw[hh] at h h2;have h':x=left:=h;rw[h'] at h2;exact h2 rfl
 obtain⟨u1,u2⟩:=zDe (n:=n) i left (s90 n j n.Nodes 0) U (by omega) (by omega) hi.1 (λ q hq=>by rw[(hrow q (by omega)).1];omega) g1 g2 U Fuel 0 (by omega) (by simp only[Fuel];omega)
 obtain⟨v1,c,v2,v3⟩:=zA5 hn hN ht (s77 n) q2 (s90 n j n.Nodes 0) htl hrow U Fuel i X left (⟨0,(λ _=>default)⟩:Sl Use) [] (by simp only[Fuel];omega) hi hX hk (by show 0+U<=40;omega) (by omega) ⟨rfl,λ q hq=>absurd hq (dqW _)⟩
 have hP:zlq n i left (s90 n j n.Nodes 0) (U:Int)=true:=by
  unfold zlq zsd
  rw[q1,dqT rfl,Bool.true_and];exact v1
 have hS:zlp n i left (s90 n j n.Nodes 0) (U:Int)=(c,true):=by
  unfold zlp zsc;exact v2
 have u1':zsf n i left (s90 n j n.Nodes 0)=true:=Eq.trans u1 hP
 have u2':zse n i left (s90 n j n.Nodes 0)=(c,true):=Eq.trans u2 hS
 unfold p55 s55 zsj zsi zsh zsg
 rw[a1,a3 j.toNat (by omega),hfr,dqT (show 0<=j/\j < ((s46 n i).len:Int) by omega),show (left == (1000000000000:Int))=false from dqU.2 (by omega),b1,u1',u2']
 exact⟨rfl,c,rfl,v3⟩
theorem zIZ {n:Net}(ht:n.Ties.len<=210) (i j:Int) (h:s67 n=false):p54 n i j=true/\s54 n i j=((⟨0,λ _=>default⟩:Sl Use),2):=by
 obtain⟨w0,w1,_⟩:=zif n (⟨2,zaq (za9 [(zad i),(zad j)])⟩:Sl Int) (by show 2<=1000;omega) ht
 unfold p54 s54
 rw[w0,w1 h]
 exact⟨rfl,rfl⟩
theorem zI0 {n:Net}(ht:n.Ties.len<=210) (hn:NetOk n){i j:Int}(h : ¬ ((0<=i/\i < n.Nodes)/\(0<=j/\j < n.Nodes))):p54 n i j=true/\s54 n i j=((⟨0,λ _=>default⟩:Sl Use),2):=by
 obtain⟨w0,_,w2,_⟩:=zif n (⟨2,zaq (za9 [(zad i),(zad j)])⟩:Sl Int) (by show 2<=1000;omega) ht
 have w2':=w2 hn (λ hk=>h ⟨hk 0 (show 0 < 2 by decide),hk 1 (show 1 < 2 by decide)⟩)
 unfold p54 s54
 rw[w0,w2']
 exact⟨rfl,rfl⟩
theorem zDf {n:Net}(ht:n.Ties.len<=210) (hn:NetOk n){i j:Int}(hi:0<=i/\i < n.Nodes) (hj:0<=j/\j < n.Nodes) (h : ¬ zbt (En n)):p54 n i j=true/\s54 n i j=((⟨0,λ _=>default⟩:Sl Use),5):=by
 obtain⟨w0,_,_,w3,_⟩:=zif n (⟨2,zaq (za9 [(zad i),(zad j)])⟩:Sl Int) (by show 2<=1000;omega) ht
 have w3':=w3 hn (in2 hi hj) h
 unfold p54 s54
 rw[w0,w3']
 exact⟨rfl,rfl⟩
theorem zEH {n:Net}(ht:n.Ties.len<=210) (hn:NetOk n) (hN:zbt (En n)) {i j:Int}(hi:0<=i/\i < n.Nodes) (hj:0<=j/\j < n.Nodes):p54 n i j=true /\
  (toD n j.toNat i.toNat=none->s54 n i j=((⟨0,λ _=>default⟩:Sl Use),6)) /\
  ∀ X left U,toD n j.toNat i.toNat=some X->X=left * 1048576+((U:Nat):Int)->U<=40->∃ c,s54 n i j=(c,0)/\IsU c (zhA (W n) (toD n j.toNat) U i X):=by
 have hn40:=hn.n40
 obtain⟨w0,_,_,_,w4⟩:=zif n (⟨2,zaq (za9 [(zad i),(zad j)])⟩:Sl Int) (by show 2<=1000;omega) ht
 have w4':=w4 hn (in2 hi hj) hN
 have htj:j.toNat < n.Nodes.toNat:=by omega
 obtain⟨p1,hT⟩:=zEA (W n) hn hN j hj.1 hj.2
 have hTi:=hT i.toNat (show i.toNat < n.Nodes.toNat by omega)
 have eW:(⟨(s74 n (⟨2,zaq (za9 [(zad i),(zad j)])⟩:Sl Int)).1.Net,(s74 n (⟨2,zaq (za9 [(zad i),(zad j)])⟩:Sl Int)).1.out⟩:web)=W n:=by rw[w4']
 have e0:((s74 n (⟨2,zaq (za9 [(zad i),(zad j)])⟩:Sl Int)).2 == 0)=true:=by rw[w4'];rfl
 have hS:s54 n i j=cond (nv (s75 (W n) j (i.toNat * 2)) (s75 (W n) j (i.toNat * 2+1))) ((⟨0,λ _=>default⟩:Sl Use),6) (zqV n i j i (⟨0,(λ _=>default)⟩:Sl Use) (s75 (W n) j)):=by
  unfold s54
  rw[e0,eW,dqA,show 0+i.toNat * 2+0+1=i.toNat * 2+1 by omega,show 0+i.toNat * 2+0=i.toNat * 2 by omega,zdM (by omega),zdM (by omega)];rfl
 have hP:p54 n i j=cond (nv (s75 (W n) j (i.toNat * 2)) (s75 (W n) j (i.toNat * 2+1))) true (zqW n i j i (⟨0,(λ _=>default)⟩:Sl Use) (s75 (W n) j)):=by
  unfold p54
  rw[e0,eW,w0,p1,dqA,show 0+i.toNat * 2+0+1=i.toNat * 2+1 by omega,show 0+i.toNat * 2+0=i.toNat * 2 by omega,zdM (by omega),zdM (by omega),dqT (show 0<=i/\i < (40:Int) by omega)];rfl
 rw[zie,hTi] at hS hP
 cases hX:toD n j.toNat i.toNat with
 | none =>
  have hX':dst ((We (W n)).map edR) (W n).Net.Nodes.toNat j.toNat i.toNat=none:=hX
  rw[hX',dqT (show zIG none=((1000000000000:Int),(0:Int)) from rfl),dqA] at hS hP
  exact⟨hP,λ _=>hS,λ X left U h=>by cases h⟩
 | some X =>
  have hX':dst ((We (W n)).map edR) (W n).Net.Nodes.toNat j.toNat i.toNat=some X:=hX
  obtain⟨c0,_,b2,b3,b4,b5⟩:=zjI hn hN htj hX
  rw[hX',dqF (show ¬ (zIG (some X)=((1000000000000:Int),(0:Int))) from λ e=>by have e1:X / 1048576=1000000000000:=(Prod.mk.inj e).1;omega),dqB] at hS hP
  have run:=λ (left:Int) (U:Nat) (hk:X=left * 1048576+(U:Int)) (hU:U<=40)=>zDb hn hN i j htj (s75 (W n) j) hT w4' U Fuel i X left (⟨0,(λ _=>default)⟩:Sl Use) [] (by simp only[Fuel];omega) hi hX hk (by show 0+U<=40;omega) ⟨rfl,λ q hq=>absurd hq (dqW _)⟩
  obtain⟨r1,_⟩:=run (X / 1048576) c0.length (by omega) (by omega)
  refine⟨hP.trans r1,λ h=>(by cases h),λ X2 left U h hk hU=>?_⟩
  cases h
  obtain⟨_,c,r2,r3⟩:=run left U hk hU
  exact⟨c,hS.trans r2,r3⟩
theorem zsI (n:Net) (i j:Int) (ht:n.Ties.len<=210) (hn:NetOk n) (hN:zbt (En n)) (hs:s67 n=true) (hi:0<=i/\i < n.Nodes) (hj:0<=j/\j < n.Nodes) (c:Sl Use) (e:Int) (hc:s54 n i j=(c,e)):zob n i j c e=true/\zoa n i j c e=true:=by
 have hn40:=hn.n40
 have htj:j.toNat < n.Nodes.toNat:=by omega
 obtain⟨c1,c2,c3⟩:=zEH ht hn hN hi hj
 obtain⟨m1,m2⟩:=zva ht hn hi hj hN
 unfold zob zoa
 cases hX:toD n j.toNat i.toNat with
 | none =>
  have hfr:fr n i.toNat j.toNat=1000000000000:=by rw[zA6 hn hN (by omega) htj,hX];rfl
  obtain⟨d1,d2⟩:=zL8 hn hN hi hj hfr
  rw[c2 hX] at hc
  cases hc
  rw[d1,d2]
  exact⟨rfl,rfl⟩
 | some X =>
  obtain⟨c0,g1,g2,g3,g4,g5⟩:=zjI hn hN htj hX
  have hcl:c0.length < n.Nodes.toNat:=by
   obtain⟨c9,hc9⟩:=dst_at (zu9 (a:=W n) hn).R (zgJ hN) htj hX
   have h1:=hc9.len
   have h2:=hc9.x
   have h3:c9.length < n.Nodes.toNat:=h1
   omega
  obtain⟨d1,want,d2,d3⟩:=zL9 hn hN hi hj hX g2 hcl ⟨g4,g5⟩
  obtain⟨c',k1,k2⟩:=c3 X (wt c0) c0.length hX g2 (by omega)
  rw[hc] at k1
  cases k1
  obtain⟨w1,w2,w3⟩:=zDa hn hN htj c0.length i X (wt c0) hi hX g2 (by omega)
  obtain⟨f1,f2⟩:=zDd c want k2 d3 (by omega)
  obtain⟨b1,b2⟩:=zL1 hn hs i c
  have hcl2:=k2.1
  have hpv:pv n i c=(j,wt c0,true):=by
   unfold pv
   rw[dqP ⟨hi,by omega⟩]
   have h0:=zL4 hn c (zhA (W n) (toD n j.toNat) c0.length i X) 0 i (j.toNat:Int) 0 w1 (λ q h=>by rw[Nat.zero_add];exact k2.2 q h) (by omega) (by omega) (by omega)
   rw[hcl2,h0,w2,Int.zero_add,show ((j.toNat:Nat):Int)=j by omega]
  have hfr:fr n i.toNat j.toNat=wt c0:=by
   rw[zA6 hn hN (by omega) htj,hX]
   show X / 1048576=wt c0
   omega
  rw[d1,d2]
  unfold zsq zsp zso zsn
  rw[f1,f2]
  simp only[decide_true,Bool.true_and,Bool.not_true,dqB,bne_self_eq_false]
  unfold zn9 zn8 zn7 zn6 zn5 zn4
  rw[b1,b2,hpv,m1,m2]
  unfold zn3
  rw[hfr]
  simp only[dqB,dqA,decide_true,Bool.true_and,beq_self_eq_true,and_self]
theorem zvc (n:Net) (i j:Int) (ht:n.Ties.len<=210):zod n i j=true/\zoc n i j=true:=by
 obtain⟨a1,a2⟩:=zAA n (by omega)
 obtain⟨b1,b2⟩:=zLE n (by omega)
 unfold zod zoc zsw zsv
 rw[b1,b2]
 cases hs:s67 n with
 | false =>
  obtain⟨d1,d2⟩:=zIZ ht i j hs
  rw[d1,d2]
  exact⟨rfl,rfl⟩
 | true =>
  have hn:=a2.1 hs
  simp only[Bool.not_true,dqB]
  by_cases hij:(0<=i/\i < n.Nodes)/\(0<=j/\j < n.Nodes)
  ·rw [dqF (show ¬ i < 0 by omega), dqF (show ¬ i ≥ n.Nodes by omega), dqF (show ¬ j < 0 by omega), dqF (show ¬ j ≥ n.Nodes by omega)]
   simp only[dqB]
   unfold zgH zgG zsu zst
   obtain⟨s1,s2⟩:=zL7 n hn
   rw[s1]
   by_cases hN:zbt (En n)
   ·have e1 : s31 n = true := s2.2 hN
    obtain⟨c1,_,_⟩:=zEH ht hn hN hij.1 hij.2
    rw[c1,e1]
    unfold zss zsr
    simp only[decide_true,Bool.true_and,Bool.not_true,dqB]
    exact zsI n i j ht hn hN hs hij.1 hij.2 (s54 n i j).1 (s54 n i j).2 rfl
   ·have e1:s31 n=false:=by
     cases h:s31 n
     ·rfl
     ·exact absurd (s2.1 h) hN
    obtain⟨d1,d2⟩:=zDf ht hn hij.1 hij.2 hN
    rw[d1,d2,e1]
    exact⟨rfl,rfl⟩
  ·obtain ⟨d1, d2⟩ := zI0 ht hn hij
   rw[d1,d2]
   have fin:zgH n i j (⟨0,λ _=>default⟩:Sl Use) 2 true=true/\zgG n i j (⟨0,λ _=>default⟩:Sl Use) 2 true=true:=⟨rfl,rfl⟩
   by_cases q1:i < 0
   ·rw[dqT q1];exact fin
   ·rw [dqF q1]
    by_cases q2:i >= n.Nodes
    ·rw[dqT q2];exact fin
    ·rw [dqF q2]
     by_cases q3:j < 0
     ·rw[dqT q3];exact fin
     ·rw[dqF q3,dqT (show j >= n.Nodes from Int.not_lt.1 λ h=>hij ⟨⟨by omega,by omega⟩,⟨by omega,h⟩⟩)];exact fin
theorem chains_true (n:Net) (i j:Int):p13 n i j=true/\s13 n i j=true:=by
 unfold p13 s13
 by_cases h:s20 n 14=true
 ·rw [h]
  unfold zsy zsx
  simp only[Bool.not_true,dqB]
  exact zvc n i j (zAB h (by omega))
 ·rw[Bool.eq_false_iff.2 h];exact⟨rfl,rfl⟩
end Go.Proofs
