/- Part 7 of what the proof rests on: a machine that runs functions of the program on pure values, proved sound; the functions that the law reaches, and what they compute. -/
import Derived.Test.YtedhjaaikeakoaaDoorQ6
set_option linter.all false
namespace Go.Proofs
open Go Go.Pm
set_option maxRecDepth 100000
set_option linter.unusedVariables false
theorem zKX (a : web) {N s : Nat} (E : List Ed) (hE : EdOk E N) (hn : za8 E) (hs : s < N) (S2 : Bool → Tab → Tab → Tab) (P2 : Bool → Tab → Tab → Bool) (y : step) (hy : StOk y N) (hm : edS y ∈ E) (S3 : Bool → Tab → Tab → Tab) (P3 : Bool → Tab → Tab → Bool) (c : Bool) (T4 T : Tab) (d : zby) (h1 : Rp N T d) (hi : Inv (E.map edM) (fun v => v = s) d) :
  ∃ T',zmW S2 a y S3 c T4 T=S3 (rlF (d,c) (edM (edS y))).2 T4 T'/\zmX P2 a y P3 c T4 T=P3 (rlF (d,c) (edM (edS y))).2 T4 T'/\Rp N T' (rlF (d,c) (edM (edS y))).1:=by
 have hN:=hE.n40
 have f0:=hy.f0;have f1:=hy.f1;have t0:=hy.t0;have t1:=hy.t1;have l0:=hy.l0;have l1:=hy.l1
 have hu:=h1 y.from_.toNat (by omega)
 have hv:=h1 y.to.toNat (by omega)
 have e1:0+y.from_.toNat * 2+0=y.from_.toNat * 2:=by omega
 have e2:0+y.to.toNat * 2+0=y.to.toNat * 2:=by omega
 have e3:0+y.from_.toNat * 2+1=y.from_.toNat * 2+1:=by omega
 have hin:=zi2 (Src:=λ v=>v=s) (zga hn) (s:=(d,c)) (e:=edM (edS y)) (List.mem_map_of_mem hm) hi
 have hS:zmW S2 a y S3 c T4 T=cond (nv (tg 80 T (0+y.from_.toNat * 2+0)) (tg 80 T (0+y.from_.toNat * 2+0+1))) (S3 c T4 T) (cond c (S3 true T4 (ts 80 T (0+y.to.toNat * 2+0) [(zcJ (⟨(tg 80 T (0+y.to.toNat * 2+0)),(tg 80 T (0+y.to.toNat * 2+0+1))⟩:far) (⟨1,λ _=>(⟨(w64 ((tg 80 T (0+y.from_.toNat * 2+0))+y.length)),(w64 ((tg 80 T (0+y.from_.toNat * 2+1))+(1:Int)))⟩:far)⟩:(Sl far))).length,(zcJ (⟨(tg 80 T (0+y.to.toNat * 2+0)),(tg 80 T (0+y.to.toNat * 2+0+1))⟩:far) (⟨1,λ _=>(⟨(w64 ((tg 80 T (0+y.from_.toNat * 2+0))+y.length)),(w64 ((tg 80 T (0+y.from_.toNat * 2+1))+(1:Int)))⟩:far)⟩:(Sl far))).uses])) (S3 (!(sm (zcJ (⟨(tg 80 T (0+y.to.toNat * 2+0)),(tg 80 T (0+y.to.toNat * 2+0+1))⟩:far) (⟨1,λ _=>(⟨(w64 ((tg 80 T (0+y.from_.toNat * 2+0))+y.length)),(w64 ((tg 80 T (0+y.from_.toNat * 2+1))+(1:Int)))⟩:far)⟩:(Sl far))).length (zcJ (⟨(tg 80 T (0+y.to.toNat * 2+0)),(tg 80 T (0+y.to.toNat * 2+0+1))⟩:far) (⟨1,λ _=>(⟨(w64 ((tg 80 T (0+y.from_.toNat * 2+0))+y.length)),(w64 ((tg 80 T (0+y.from_.toNat * 2+1))+(1:Int)))⟩:far)⟩:(Sl far))).uses (tg 80 T (0+y.to.toNat * 2+0)) (tg 80 T (0+y.to.toNat * 2+0+1)))) T4 (ts 80 T (0+y.to.toNat * 2+0) [(zcJ (⟨(tg 80 T (0+y.to.toNat * 2+0)),(tg 80 T (0+y.to.toNat * 2+0+1))⟩:far) (⟨1,λ _=>(⟨(w64 ((tg 80 T (0+y.from_.toNat * 2+0))+y.length)),(w64 ((tg 80 T (0+y.from_.toNat * 2+1))+(1:Int)))⟩:far)⟩:(Sl far))).length,(zcJ (⟨(tg 80 T (0+y.to.toNat * 2+0)),(tg 80 T (0+y.to.toNat * 2+0+1))⟩:far) (⟨1,λ _=>(⟨(w64 ((tg 80 T (0+y.from_.toNat * 2+0))+y.length)),(w64 ((tg 80 T (0+y.from_.toNat * 2+1))+(1:Int)))⟩:far)⟩:(Sl far))).uses]))):=rfl
 have hP:zmX P2 a y P3 c T4 T=(decide (0≤y.from_/\y.from_ < (40:Int)) && cond (nv (tg 80 T (0+y.from_.toNat * 2+0)) (tg 80 T (0+y.from_.toNat * 2+0+1))) (P3 c T4 T) (decide (0≤y.to/\y.to < (40:Int)) && (decide (0≤y.from_/\y.from_ < (40:Int)) && (decide (0≤y.from_/\y.from_ < (40:Int)) && (decide (zBo (⟨(tg 80 T (0+y.to.toNat * 2+0)),(tg 80 T (0+y.to.toNat * 2+0+1))⟩:far) (⟨1,λ _=>(⟨(w64 ((tg 80 T (0+y.from_.toNat * 2+0))+y.length)),(w64 ((tg 80 T (0+y.from_.toNat * 2+1))+(1:Int)))⟩:far)⟩:(Sl far))=true) && cond c (decide (0≤y.to/\y.to < (40:Int)) && P3 true T4 (ts 80 T (0+y.to.toNat * 2+0) [(zcJ (⟨(tg 80 T (0+y.to.toNat * 2+0)),(tg 80 T (0+y.to.toNat * 2+0+1))⟩:far) (⟨1,λ _=>(⟨(w64 ((tg 80 T (0+y.from_.toNat * 2+0))+y.length)),(w64 ((tg 80 T (0+y.from_.toNat * 2+1))+(1:Int)))⟩:far)⟩:(Sl far))).length,(zcJ (⟨(tg 80 T (0+y.to.toNat * 2+0)),(tg 80 T (0+y.to.toNat * 2+0+1))⟩:far) (⟨1,λ _=>(⟨(w64 ((tg 80 T (0+y.from_.toNat * 2+0))+y.length)),(w64 ((tg 80 T (0+y.from_.toNat * 2+1))+(1:Int)))⟩:far)⟩:(Sl far))).uses])) (decide (0≤y.to/\y.to < (40:Int)) && (decide (0≤y.to/\y.to < (40:Int)) && P3 (!(sm (zcJ (⟨(tg 80 T (0+y.to.toNat * 2+0)),(tg 80 T (0+y.to.toNat * 2+0+1))⟩:far) (⟨1,λ _=>(⟨(w64 ((tg 80 T (0+y.from_.toNat * 2+0))+y.length)),(w64 ((tg 80 T (0+y.from_.toNat * 2+1))+(1:Int)))⟩:far)⟩:(Sl far))).length (zcJ (⟨(tg 80 T (0+y.to.toNat * 2+0)),(tg 80 T (0+y.to.toNat * 2+0+1))⟩:far) (⟨1,λ _=>(⟨(w64 ((tg 80 T (0+y.from_.toNat * 2+0))+y.length)),(w64 ((tg 80 T (0+y.from_.toNat * 2+1))+(1:Int)))⟩:far)⟩:(Sl far))).uses (tg 80 T (0+y.to.toNat * 2+0)) (tg 80 T (0+y.to.toNat * 2+0+1)))) T4 (ts 80 T (0+y.to.toNat * 2+0) [(zcJ (⟨(tg 80 T (0+y.to.toNat * 2+0)),(tg 80 T (0+y.to.toNat * 2+0+1))⟩:far) (⟨1,λ _=>(⟨(w64 ((tg 80 T (0+y.from_.toNat * 2+0))+y.length)),(w64 ((tg 80 T (0+y.from_.toNat * 2+1))+(1:Int)))⟩:far)⟩:(Sl far))).length,(zcJ (⟨(tg 80 T (0+y.to.toNat * 2+0)),(tg 80 T (0+y.to.toNat * 2+0+1))⟩:far) (⟨1,λ _=>(⟨(w64 ((tg 80 T (0+y.from_.toNat * 2+0))+y.length)),(w64 ((tg 80 T (0+y.from_.toNat * 2+1))+(1:Int)))⟩:far)⟩:(Sl far))).uses])))))))):=rfl
 rw[hS,hP]
 clear hS hP
 rw[e1,e2,e3,zc3 (k:=y.from_.toNat * 2) (by omega),zc3 (k:=y.from_.toNat * 2+1) (by omega),zc3 (k:=y.to.toNat * 2) (by omega),zc3 (k:=y.to.toNat * 2+1) (by omega)]
 rw[decide_eq_true (show 0≤y.from_/\y.from_ < (40:Int) by omega),decide_eq_true (show 0≤y.to/\y.to < (40:Int) by omega)]
 simp only[znD,same_eq]
 cases hdu:d y.from_.toNat with
 | none =>
  rw[hdu] at hu
  have hr:rlF (d,c) (edM (edS y))=(d,c):=by
   unfold rlF edM edS
   simp only[hdu]
  rw[hr,decide_eq_true (show (T (y.from_.toNat * 2),T (y.from_.toNat * 2+1))=((1000000000000:Int),(0:Int)) from hu)]
  exact⟨T,rfl,rfl,h1⟩
 | some x =>
  obtain⟨L,U,k1,k2,k3,k4,k5,k6⟩:=zjN hE hs hi hdu
  rw[hdu] at hu k1
  rw[k1] at hu
  have hL:T (y.from_.toNat * 2)=L:=(Prod.mk.inj hu).1
  have hU:T (y.from_.toNat * 2+1)=U:=(Prod.mk.inj hu).2
  rw[hL,hU,decide_eq_false (show ¬ (L,U)=((1000000000000:Int),(0:Int)) from λ h=>by have:=(Prod.mk.inj h).1;omega),zbx (x:=L+y.length) (by omega) (by omega),zbx (x:=U+(1:Int)) (by omega) (by omega)]
  rw[(zjM _ _).1,(zjM _ _).2,zzX]
  have hw:x+(edM (edS y)).w=(L+y.length) * 1048576+(U+1):=by
   show x+(y.length * 1048576+1)=_
   omega
  have hr:rlF (d,c) (edM (edS y))=cond (ltO ((L+y.length) * 1048576+(U+1)) (d y.to.toNat)) (zi1 d y.to.toNat ((L+y.length) * 1048576+(U+1)),true) (d,c):=by
   rw[← hw]
   unfold rlF edM edS
   simp only[hdu] <;> rfl
  have hlt:decide ((L+y.length < T (y.to.toNat * 2))∨(L+y.length=T (y.to.toNat * 2)/\U+1 < T (y.to.toNat * 2+1)))=ltO ((L+y.length) * 1048576+(U+1)) (d y.to.toNat):=by
   cases hdv:d y.to.toNat with
   | none =>
    rw[hdv] at hv
    have hv1:T (y.to.toNat * 2)=1000000000000:=(Prod.mk.inj hv).1
    rw[hv1]
    exact decide_eq_true (.inl (by omega))
   | some z =>
    obtain⟨L',U',m1,m2,m3,m4,m5,m6⟩:=zjN hE hs hi hdv
    rw[hdv] at hv m1
    rw[m1] at hv
    rw[(Prod.mk.inj hv).1,(Prod.mk.inj hv).2,m2]
    exact decide_eq_decide.2 (by omega)
  simp only[hlt]
  rw[hr] at hin ⊢
  have hrw:∀ T'',Rp N T d->T''=ts 80 T (y.to.toNat * 2) [T (y.to.toNat * 2),T (y.to.toNat * 2+1)]->Rp N T'' d:=λ T'' h e v hv'=>by
   rw[e,zdt (by omega),zdt (by omega),← h v hv']
   by_cases hq:v=y.to.toNat
   ·subst hq
    rw[if_neg (by omega),if_pos rfl,if_pos rfl]
   ·rw[if_neg (by omega),if_neg (by omega),if_neg (by omega),if_neg (by omega)]
  cases hlo:ltO ((L+y.length) * 1048576+(U+1)) (d y.to.toNat) with
  | false =>
   refine⟨ts 80 T (y.to.toNat * 2) [T (y.to.toNat * 2),T (y.to.toNat * 2+1)],?_,?_,hrw _ h1 rfl⟩
   ·simp only [cond_false, decide_true]
    cases c <;> rfl
   ·simp only [cond_false, Bool.true_and, decide_true]
    cases c <;> rfl
  | true =>
   rw[hlo] at hin
   simp only[cond_true,cond_false,Bool.true_and,decide_true] at hin ⊢
   refine⟨ts 80 T (y.to.toNat * 2) [L+y.length,U+1],?_,?_,?_⟩
   ·cases c
    ·rw [decide_eq_false]
     ·rfl
     ·intro h
      rw[← hlt] at hlo
      have:=of_decide_eq_true hlo
      have h1':=(Prod.mk.inj h).1
      have h2':=(Prod.mk.inj h).2
      omega
    ·rfl
   ·cases c
    ·rw [decide_eq_false]
     ·rfl
     ·intro h
      rw[← hlt] at hlo
      have:=of_decide_eq_true hlo
      have h1':=(Prod.mk.inj h).1
      have h2':=(Prod.mk.inj h).2
      omega
    ·rfl
   ·intro v hv'
    rw[zdt (by omega),zdt (by omega)]
    unfold zi1
    by_cases hq:v=y.to.toNat
    ·subst hq
     rw[if_neg (by omega),if_pos rfl,if_pos rfl,if_pos rfl]
     exact (zrG (by omega) (by omega)).symm
    ·rw [if_neg (by omega), if_neg (by omega), if_neg (by omega), if_neg (by omega), if_neg hq]
     exact h1 v hv'
theorem zKY (a:web){N s:Nat}(E:List Ed) (hE:EdOk E N) (hn:za8 E) (hs:s < N) (S2:Bool->Tab->Tab->Tab) (P2:Bool->Tab->Tab->Bool):∀ (l:List step),(∀ y∈l,StOk y N/\edS y∈E)->∀ (c:Bool) (T4 T:Tab) (d:zby),Rp N T d->Inv (E.map edM) (λ v=>v=s) d ->
  ∃ T',zmY S2 a l c T4 T=S2 (((l.map edS).map edM).foldl rlF (d,c)).2 T4 T'/\zmZ P2 a l c T4 T=P2 (((l.map edS).map edM).foldl rlF (d,c)).2 T4 T'/\Rp N T' (((l.map edS).map edM).foldl rlF (d,c)).1:=by
 intro l
 induction l with
 | nil=>intro _ c T4 T d h1 _;exact⟨T,rfl,rfl,h1⟩
 | cons y l ih =>
  intro hl c T4 T d h1 h2
  obtain⟨hy,hm⟩:=hl y (List.mem_cons_self ..)
  obtain⟨T',k1,k2,k3⟩:=zKX a E hE hn hs S2 P2 y hy hm (zmY S2 a l) (zmZ P2 a l) c T4 T d h1 h2
  have h3:=zi2 (Src:=λ v=>v=s) (zga hn) (s:=(d,c)) (e:=edM (edS y)) (List.mem_map_of_mem hm) h2
  obtain⟨T'',m1,m2,m3⟩:=ih (λ z hz=>hl z (List.mem_cons_of_mem _ hz)) (rlF (d,c) (edM (edS y))).2 T4 T' (rlF (d,c) (edM (edS y))).1 k3 h3
  exact⟨T'',Eq.trans k1 m1,Eq.trans k2 m2,m3⟩
theorem zB2 (a:web) (hnet:NetOk a.Net) (E:List Ed) (hEe:E=(Ws a).map edS){s:Nat}(hE:EdOk E a.Net.Nodes.toNat) (hn:za8 E) (hs:s < a.Net.Nodes.toNat):∀ (m k:Nat) (T4 T:Tab) (d:zby),Rp a.Net.Nodes.toNat T d->Inv (E.map edM) (λ v=>v=s) d->Fix (E.map edM) (rds (E.map edM) m d)->m+1 < k ->
  ∃ T',zfN a k true T4 T=true/\zfM a k true T4 T=T'/\Rp a.Net.Nodes.toNat T' (rds (E.map edM) m d):=by
 have hlen:=hnet.len
 obtain⟨q1,q2⟩:=zrJ a (by omega)
 have hst:∀ y∈Ws a,StOk y a.Net.Nodes.toNat/\edS y∈E:=λ y hy=>⟨zHy hnet hy,by rw[hEe];exact List.mem_map_of_mem hy⟩
 have one:∀ (k:Nat) (T4 T:Tab) (d:zby),Rp a.Net.Nodes.toNat T d->Inv (E.map edM) (λ v=>v=s) d ->
   ∃ T',zfM a (k+1) true T4 T=zfM a k ((E.map edM).foldl rlF (d,false)).2 T4 T'/\zfN a (k+1) true T4 T=zfN a k ((E.map edM).foldl rlF (d,false)).2 T4 T'/\Rp a.Net.Nodes.toNat T' (rnd (E.map edM) d):=by
  intro k T4 T d h1 h2
  obtain⟨T',k1,k2,k3⟩:=zKY a E hE hn hs (zfM a k) (zfN a k) (Ws a) hst false T4 T d h1 h2
  rw[← hEe] at k1 k2 k3
  refine⟨T',?_,?_,k3⟩
  ·show zm0 a (zfM a k) true T4 T = _
   unfold zm0 zp9
   rw[cond_true,q2];exact k1
  ·show zm1 a (zfN a k) true T4 T = _
   unfold zm1 zqa
   rw[cond_true,q1,q2,decide_eq_true rfl,Bool.true_and];exact k2
 have stop:∀ (k:Nat) (T4 T:Tab),zfM a (k+1) false T4 T=T/\zfN a (k+1) false T4 T=true:=λ k T4 T=>⟨rfl,rfl⟩
 intro m
 induction m with
 | zero =>
  intro k T4 T d h1 h2 h3 hk
  obtain⟨k,rfl⟩:∃ k',k=k'+1+1:=⟨k - 2,by omega⟩
  obtain⟨T',k1,k2,k3⟩:=one (k+1) T4 T d h1 h2
  have h3':Fix (E.map edM) d:=h3
  rw[zhL h3'] at k1 k2
  rw[zha h3'] at k3
  obtain⟨j1,j2⟩:=stop k T4 T'
  exact⟨T',k2.trans j2,k1.trans j1,k3⟩
 | succ m ih =>
  intro k T4 T d h1 h2 h3 hk
  obtain⟨k,rfl⟩:∃ k',k=k'+1+1:=⟨k - 2,by omega⟩
  obtain⟨T',k1,k2,k3⟩:=one (k+1) T4 T d h1 h2
  cases hf:((E.map edM).foldl rlF (d,false)).2 with
  | false =>
   rw[hf] at k1 k2
   have hx:Fix (E.map edM) d:=zgs hf
   obtain⟨j1,j2⟩:=stop k T4 T'
   refine⟨T',k2.trans j2,k1.trans j1,?_⟩
   rw[zha hx] at k3
   rw[zrE hx];exact k3
  | true =>
   rw[hf] at k1 k2
   obtain⟨T'',m1,m2,m3⟩:=ih (k+1) T4 T' (rnd (E.map edM) d) k3 (zjK (zga hn) (λ _ h=>h) (s:=(d,false)) h2) h3 (by omega)
   exact⟨T'',k2.trans m1,k1.trans m2,m3⟩
theorem zHz (a:web) (node:Int):∀ (m k i:Nat) (T4 T:Tab),(∀ v,v < i->T (v * 2)=1000000000000/\T (v * 2+1)=0)->i+m=40->m < k ->
  ∃ T',zii a node k (i:Int) T4 T=zm2 a node T4 T'/\zij a node k (i:Int) T4 T=zm3 a node T4 T'/\∀ v,v < 40->T' (v * 2)=1000000000000/\T' (v * 2+1)=0:=by
 intro m
 induction m with
 | zero =>
  intro k i T4 T h hi hk
  obtain⟨k,rfl⟩:∃ k',k=k'+1:=⟨k - 1,by omega⟩
  refine⟨T,?_,?_,λ v hv=>h v (by omega)⟩
  ·show zif a node (zii a node k) (i : Int) T4 T = _
   unfold zif
   rw[decide_eq_false (show ¬ (i:Int) < (40:Int) by omega),cond_false]
  ·show zih a node (zij a node k) (i : Int) T4 T = _
   unfold zih
   rw[decide_eq_false (show ¬ (i:Int) < (40:Int) by omega),cond_false]
 | succ m ih =>
  intro k i T4 T h hi hk
  obtain⟨k,rfl⟩:∃ k',k=k'+1:=⟨k - 1,by omega⟩
  have hw:w64 ((i:Int)+(1:Int))=((i+1:Nat):Int):=by rw[zbx (by omega) (by omega)];omega
  obtain⟨T',k1,k2,k3⟩:=ih k (i+1) T4 (ts 80 T (i * 2) [(1000000000000:Int),(0:Int)]) (λ v hv=>by
   rw[zdt (by omega),zdt (by omega)]
   by_cases hq:v=i
   ·subst hq
    rw[if_neg (by omega),if_pos rfl,if_pos rfl];exact⟨rfl,rfl⟩
   ·rw[if_neg (by omega),if_neg (by omega),if_neg (by omega),if_neg (by omega)];exact h v (by omega)) (by omega) (by omega)
  refine⟨T',?_,?_,k3⟩
  ·rw [← k1]
   show zif a node (zii a node k) (i:Int) T4 T=_
   unfold zif
   rw[decide_eq_true (show (i:Int) < (40:Int) by omega),cond_true,hw,Int.toNat_natCast,show 0+i * 2+0=i * 2 by omega]
  ·rw [← k2]
   show zih a node (zij a node k) (i:Int) T4 T=_
   unfold zih
   rw[decide_eq_true (show (i:Int) < (40:Int) by omega),cond_true,decide_eq_true (show 0≤(i:Int)/\(i:Int) < (40:Int) by omega),Bool.true_and,hw,Int.toNat_natCast,show 0+i * 2+0=i * 2 by omega]
theorem zDE (a : web) (hnet : NetOk a.Net) (hn : za8 (We a)) (node : Int) (h0 : 0 ≤ node) (h1 : node < a.Net.Nodes) :
  p76 a node=true/\Rp a.Net.Nodes.toNat (s76 a node) (dst (We a) a.Net.Nodes.toNat node.toNat):=by
 have hn40:=hnet.n40
 have hEe:We a=(Ws a).map edS:=rfl
 have hE:EdOk (We a) a.Net.Nodes.toNat:=ztr hnet
 have hN:za8 (We a):=hn
 have hs:node.toNat < a.Net.Nodes.toNat:=by omega
 obtain⟨T1,a1,a2,a3⟩:=zHz a node 40 Fuel 0 (λ _=>(0:Int)) (λ _=>(0:Int)) (λ v hv=>absurd hv (Nat.not_lt_zero _)) rfl (by simp only[Fuel];omega)
 have hr:Rp a.Net.Nodes.toNat (ts 80 T1 (node.toNat * 2) [(0:Int),(0:Int)]) (zoY node.toNat):=λ v hv=>by
  rw[zdt (by omega),zdt (by omega)]
  unfold zoY
  by_cases hq:v=node.toNat
  ·subst hq
   rw[if_neg (by omega),if_pos rfl,if_pos rfl,if_pos rfl];rfl
  ·rw[if_neg (by omega),if_neg (by omega),if_neg (by omega),if_neg (by omega),if_neg hq,(a3 v (by omega)).1,(a3 v (by omega)).2];rfl
 obtain⟨T2,b1,b2,b3⟩:=zB2 a hnet (We a) hEe hE hN hs (a.Net.Nodes.toNat - 1) Fuel (λ _=>(0:Int)) (ts 80 T1 (node.toNat * 2) [(0:Int),(0:Int)]) (zoY node.toNat) hr (zdY (zc2 node.toNat)) (zrH hE hN hs) (by simp only[Fuel];omega)
 have e:0+node.toNat * 2+0=node.toNat * 2:=by omega
 constructor
 ·show zij a node Fuel 0 (fun _ => (0:Int)) (fun _ => (0:Int)) = true
  refine Eq.trans a2 ?_
  unfold zm3 zqc
  rw[decide_eq_true (show 0≤node/\node < (40:Int) by omega),Bool.true_and,e];exact b1
 ·have:s76 a node=T2:=by
   show zii a node Fuel 0 (λ _=>(0:Int)) (λ _=>(0:Int))=T2
   refine Eq.trans a1 ?_
   unfold zm2 zqb
   rw[e];exact b2
  rw[this];exact b3
end Go.Proofs
namespace Go.Proofs
open Go Go.Pm
set_option maxRecDepth 100000
set_option linter.unusedVariables false
def edQ (y:step):Ed:=⟨y.to.toNat,y.from_.toNat,y.length⟩
theorem zHA (l:List step):l.map edQ=(l.map edS).map edR:=by rw[List.map_map];rfl

theorem zKZ (a : web) {N s : Nat} (E : List Ed) (hE : EdOk E N) (hn : za8 E) (hs : s < N) (S2 : Bool → Tab → Tab → Tab) (P2 : Bool → Tab → Tab → Bool) (y : step) (hy : StOk y N) (hm : edQ y ∈ E) (S3 : Bool → Tab → Tab → Tab) (P3 : Bool → Tab → Tab → Bool) (c : Bool) (T4 T : Tab) (d : zby) (h1 : Rp N T d) (hi : Inv (E.map edM) (fun v => v = s) d) :
  ∃ T',zm4 S2 a y S3 c T4 T=S3 (rlF (d,c) (edM (edQ y))).2 T4 T'/\zm5 P2 a y P3 c T4 T=P3 (rlF (d,c) (edM (edQ y))).2 T4 T'/\Rp N T' (rlF (d,c) (edM (edQ y))).1:=by
 have hN:=hE.n40
 have f0:=hy.f0;have f1:=hy.f1;have t0:=hy.t0;have t1:=hy.t1;have l0:=hy.l0;have l1:=hy.l1
 have hu:=h1 y.to.toNat (by omega)
 have hv:=h1 y.from_.toNat (by omega)
 have e1:0+y.to.toNat * 2+0=y.to.toNat * 2:=by omega
 have e2:0+y.from_.toNat * 2+0=y.from_.toNat * 2:=by omega
 have e3:0+y.to.toNat * 2+1=y.to.toNat * 2+1:=by omega
 have hin:=zi2 (Src:=λ v=>v=s) (zga hn) (s:=(d,c)) (e:=edM (edQ y)) (List.mem_map_of_mem hm) hi
 have hS:zm4 S2 a y S3 c T4 T=cond (nv (tg 80 T (0+y.to.toNat * 2+0)) (tg 80 T (0+y.to.toNat * 2+0+1))) (S3 c T4 T) (cond c (S3 true T4 (ts 80 T (0+y.from_.toNat * 2+0) [(zcJ (⟨(tg 80 T (0+y.from_.toNat * 2+0)),(tg 80 T (0+y.from_.toNat * 2+0+1))⟩:far) (⟨1,λ _=>(⟨(w64 ((tg 80 T (0+y.to.toNat * 2+0))+y.length)),(w64 ((tg 80 T (0+y.to.toNat * 2+1))+(1:Int)))⟩:far)⟩:(Sl far))).length,(zcJ (⟨(tg 80 T (0+y.from_.toNat * 2+0)),(tg 80 T (0+y.from_.toNat * 2+0+1))⟩:far) (⟨1,λ _=>(⟨(w64 ((tg 80 T (0+y.to.toNat * 2+0))+y.length)),(w64 ((tg 80 T (0+y.to.toNat * 2+1))+(1:Int)))⟩:far)⟩:(Sl far))).uses])) (S3 (!(sm (zcJ (⟨(tg 80 T (0+y.from_.toNat * 2+0)),(tg 80 T (0+y.from_.toNat * 2+0+1))⟩:far) (⟨1,λ _=>(⟨(w64 ((tg 80 T (0+y.to.toNat * 2+0))+y.length)),(w64 ((tg 80 T (0+y.to.toNat * 2+1))+(1:Int)))⟩:far)⟩:(Sl far))).length (zcJ (⟨(tg 80 T (0+y.from_.toNat * 2+0)),(tg 80 T (0+y.from_.toNat * 2+0+1))⟩:far) (⟨1,λ _=>(⟨(w64 ((tg 80 T (0+y.to.toNat * 2+0))+y.length)),(w64 ((tg 80 T (0+y.to.toNat * 2+1))+(1:Int)))⟩:far)⟩:(Sl far))).uses (tg 80 T (0+y.from_.toNat * 2+0)) (tg 80 T (0+y.from_.toNat * 2+0+1)))) T4 (ts 80 T (0+y.from_.toNat * 2+0) [(zcJ (⟨(tg 80 T (0+y.from_.toNat * 2+0)),(tg 80 T (0+y.from_.toNat * 2+0+1))⟩:far) (⟨1,λ _=>(⟨(w64 ((tg 80 T (0+y.to.toNat * 2+0))+y.length)),(w64 ((tg 80 T (0+y.to.toNat * 2+1))+(1:Int)))⟩:far)⟩:(Sl far))).length,(zcJ (⟨(tg 80 T (0+y.from_.toNat * 2+0)),(tg 80 T (0+y.from_.toNat * 2+0+1))⟩:far) (⟨1,λ _=>(⟨(w64 ((tg 80 T (0+y.to.toNat * 2+0))+y.length)),(w64 ((tg 80 T (0+y.to.toNat * 2+1))+(1:Int)))⟩:far)⟩:(Sl far))).uses]))):=rfl
 have hP:zm5 P2 a y P3 c T4 T=(decide (0≤y.to/\y.to < (40:Int)) && cond (nv (tg 80 T (0+y.to.toNat * 2+0)) (tg 80 T (0+y.to.toNat * 2+0+1))) (P3 c T4 T) (decide (0≤y.from_/\y.from_ < (40:Int)) && (decide (0≤y.to/\y.to < (40:Int)) && (decide (0≤y.to/\y.to < (40:Int)) && (decide (zBo (⟨(tg 80 T (0+y.from_.toNat * 2+0)),(tg 80 T (0+y.from_.toNat * 2+0+1))⟩:far) (⟨1,λ _=>(⟨(w64 ((tg 80 T (0+y.to.toNat * 2+0))+y.length)),(w64 ((tg 80 T (0+y.to.toNat * 2+1))+(1:Int)))⟩:far)⟩:(Sl far))=true) && cond c (decide (0≤y.from_/\y.from_ < (40:Int)) && P3 true T4 (ts 80 T (0+y.from_.toNat * 2+0) [(zcJ (⟨(tg 80 T (0+y.from_.toNat * 2+0)),(tg 80 T (0+y.from_.toNat * 2+0+1))⟩:far) (⟨1,λ _=>(⟨(w64 ((tg 80 T (0+y.to.toNat * 2+0))+y.length)),(w64 ((tg 80 T (0+y.to.toNat * 2+1))+(1:Int)))⟩:far)⟩:(Sl far))).length,(zcJ (⟨(tg 80 T (0+y.from_.toNat * 2+0)),(tg 80 T (0+y.from_.toNat * 2+0+1))⟩:far) (⟨1,λ _=>(⟨(w64 ((tg 80 T (0+y.to.toNat * 2+0))+y.length)),(w64 ((tg 80 T (0+y.to.toNat * 2+1))+(1:Int)))⟩:far)⟩:(Sl far))).uses])) (decide (0≤y.from_/\y.from_ < (40:Int)) && (decide (0≤y.from_/\y.from_ < (40:Int)) && P3 (!(sm (zcJ (⟨(tg 80 T (0+y.from_.toNat * 2+0)),(tg 80 T (0+y.from_.toNat * 2+0+1))⟩:far) (⟨1,λ _=>(⟨(w64 ((tg 80 T (0+y.to.toNat * 2+0))+y.length)),(w64 ((tg 80 T (0+y.to.toNat * 2+1))+(1:Int)))⟩:far)⟩:(Sl far))).length (zcJ (⟨(tg 80 T (0+y.from_.toNat * 2+0)),(tg 80 T (0+y.from_.toNat * 2+0+1))⟩:far) (⟨1,λ _=>(⟨(w64 ((tg 80 T (0+y.to.toNat * 2+0))+y.length)),(w64 ((tg 80 T (0+y.to.toNat * 2+1))+(1:Int)))⟩:far)⟩:(Sl far))).uses (tg 80 T (0+y.from_.toNat * 2+0)) (tg 80 T (0+y.from_.toNat * 2+0+1)))) T4 (ts 80 T (0+y.from_.toNat * 2+0) [(zcJ (⟨(tg 80 T (0+y.from_.toNat * 2+0)),(tg 80 T (0+y.from_.toNat * 2+0+1))⟩:far) (⟨1,λ _=>(⟨(w64 ((tg 80 T (0+y.to.toNat * 2+0))+y.length)),(w64 ((tg 80 T (0+y.to.toNat * 2+1))+(1:Int)))⟩:far)⟩:(Sl far))).length,(zcJ (⟨(tg 80 T (0+y.from_.toNat * 2+0)),(tg 80 T (0+y.from_.toNat * 2+0+1))⟩:far) (⟨1,λ _=>(⟨(w64 ((tg 80 T (0+y.to.toNat * 2+0))+y.length)),(w64 ((tg 80 T (0+y.to.toNat * 2+1))+(1:Int)))⟩:far)⟩:(Sl far))).uses])))))))):=rfl
 rw[hS,hP]
 clear hS hP
 rw[e1,e2,e3,zc3 (k:=y.to.toNat * 2) (by omega),zc3 (k:=y.to.toNat * 2+1) (by omega),zc3 (k:=y.from_.toNat * 2) (by omega),zc3 (k:=y.from_.toNat * 2+1) (by omega)]
 rw[decide_eq_true (show 0≤y.to/\y.to < (40:Int) by omega),decide_eq_true (show 0≤y.from_/\y.from_ < (40:Int) by omega)]
 simp only[znD,same_eq]
 cases hdu:d y.to.toNat with
 | none =>
  rw[hdu] at hu
  have hr:rlF (d,c) (edM (edQ y))=(d,c):=by
   unfold rlF edM edQ
   simp only[hdu]
  rw[hr,decide_eq_true (show (T (y.to.toNat * 2),T (y.to.toNat * 2+1))=((1000000000000:Int),(0:Int)) from hu)]
  exact⟨T,rfl,rfl,h1⟩
 | some x =>
  obtain⟨L,U,k1,k2,k3,k4,k5,k6⟩:=zjN hE hs hi hdu
  rw[hdu] at hu k1
  rw[k1] at hu
  have hL:T (y.to.toNat * 2)=L:=(Prod.mk.inj hu).1
  have hU:T (y.to.toNat * 2+1)=U:=(Prod.mk.inj hu).2
  rw[hL,hU,decide_eq_false (show ¬ (L,U)=((1000000000000:Int),(0:Int)) from λ h=>by have:=(Prod.mk.inj h).1;omega),zbx (x:=L+y.length) (by omega) (by omega),zbx (x:=U+(1:Int)) (by omega) (by omega)]
  rw[(zjM _ _).1,(zjM _ _).2,zzX]
  have hw:x+(edM (edQ y)).w=(L+y.length) * 1048576+(U+1):=by
   show x+(y.length * 1048576+1)=_
   omega
  have hr:rlF (d,c) (edM (edQ y))=cond (ltO ((L+y.length) * 1048576+(U+1)) (d y.from_.toNat)) (zi1 d y.from_.toNat ((L+y.length) * 1048576+(U+1)),true) (d,c):=by
   rw[← hw]
   unfold rlF edM edQ
   simp only[hdu] <;> rfl
  have hlt:decide ((L+y.length < T (y.from_.toNat * 2))∨(L+y.length=T (y.from_.toNat * 2)/\U+1 < T (y.from_.toNat * 2+1)))=ltO ((L+y.length) * 1048576+(U+1)) (d y.from_.toNat):=by
   cases hdv:d y.from_.toNat with
   | none =>
    rw[hdv] at hv
    have hv1:T (y.from_.toNat * 2)=1000000000000:=(Prod.mk.inj hv).1
    rw[hv1]
    exact decide_eq_true (.inl (by omega))
   | some z =>
    obtain⟨L',U',m1,m2,m3,m4,m5,m6⟩:=zjN hE hs hi hdv
    rw[hdv] at hv m1
    rw[m1] at hv
    rw[(Prod.mk.inj hv).1,(Prod.mk.inj hv).2,m2]
    exact decide_eq_decide.2 (by omega)
  simp only[hlt]
  rw[hr] at hin ⊢
  have hrw:∀ T'',Rp N T d->T''=ts 80 T (y.from_.toNat * 2) [T (y.from_.toNat * 2),T (y.from_.toNat * 2+1)]->Rp N T'' d:=λ T'' h e v hv'=>by
   rw[e,zdt (by omega),zdt (by omega),← h v hv']
   by_cases hq:v=y.from_.toNat
   ·subst hq
    rw[if_neg (by omega),if_pos rfl,if_pos rfl]
   ·rw[if_neg (by omega),if_neg (by omega),if_neg (by omega),if_neg (by omega)]
  cases hlo:ltO ((L+y.length) * 1048576+(U+1)) (d y.from_.toNat) with
  | false =>
   refine⟨ts 80 T (y.from_.toNat * 2) [T (y.from_.toNat * 2),T (y.from_.toNat * 2+1)],?_,?_,hrw _ h1 rfl⟩
   ·simp only [cond_false, decide_true]
    cases c <;> rfl
   ·simp only [cond_false, Bool.true_and, decide_true]
    cases c <;> rfl
  | true =>
   rw[hlo] at hin
   simp only[cond_true,cond_false,Bool.true_and,decide_true] at hin ⊢
   refine⟨ts 80 T (y.from_.toNat * 2) [L+y.length,U+1],?_,?_,?_⟩
   ·cases c
    ·rw [decide_eq_false]
     ·rfl
     ·intro h
      rw[← hlt] at hlo
      have:=of_decide_eq_true hlo
      have h1':=(Prod.mk.inj h).1
      have h2':=(Prod.mk.inj h).2
      omega
    ·rfl
   ·cases c
    ·rw [decide_eq_false]
     ·rfl
     ·intro h
      rw[← hlt] at hlo
      have:=of_decide_eq_true hlo
      have h1':=(Prod.mk.inj h).1
      have h2':=(Prod.mk.inj h).2
      omega
    ·rfl
   ·intro v hv'
    rw[zdt (by omega),zdt (by omega)]
    unfold zi1
    by_cases hq:v=y.from_.toNat
    ·subst hq
     rw[if_neg (by omega),if_pos rfl,if_pos rfl,if_pos rfl]
     exact (zrG (by omega) (by omega)).symm
    ·rw [if_neg (by omega), if_neg (by omega), if_neg (by omega), if_neg (by omega), if_neg hq]
     exact h1 v hv'
theorem zK1 (a:web){N s:Nat}(E:List Ed) (hE:EdOk E N) (hn:za8 E) (hs:s < N) (S2:Bool->Tab->Tab->Tab) (P2:Bool->Tab->Tab->Bool):∀ (l:List step),(∀ y∈l,StOk y N/\edQ y∈E)->∀ (c:Bool) (T4 T:Tab) (d:zby),Rp N T d->Inv (E.map edM) (λ v=>v=s) d ->
  ∃ T',zm6 S2 a l c T4 T=S2 (((l.map edQ).map edM).foldl rlF (d,c)).2 T4 T'/\zm7 P2 a l c T4 T=P2 (((l.map edQ).map edM).foldl rlF (d,c)).2 T4 T'/\Rp N T' (((l.map edQ).map edM).foldl rlF (d,c)).1:=by
 intro l
 induction l with
 | nil=>intro _ c T4 T d h1 _;exact⟨T,rfl,rfl,h1⟩
 | cons y l ih =>
  intro hl c T4 T d h1 h2
  obtain⟨hy,hm⟩:=hl y (List.mem_cons_self ..)
  obtain⟨T',k1,k2,k3⟩:=zKZ a E hE hn hs S2 P2 y hy hm (zm6 S2 a l) (zm7 P2 a l) c T4 T d h1 h2
  have h3:=zi2 (Src:=λ v=>v=s) (zga hn) (s:=(d,c)) (e:=edM (edQ y)) (List.mem_map_of_mem hm) h2
  obtain⟨T'',m1,m2,m3⟩:=ih (λ z hz=>hl z (List.mem_cons_of_mem _ hz)) (rlF (d,c) (edM (edQ y))).2 T4 T' (rlF (d,c) (edM (edQ y))).1 k3 h3
  exact⟨T'',Eq.trans k1 m1,Eq.trans k2 m2,m3⟩
theorem zB3 (a:web) (hnet:NetOk a.Net) (E:List Ed) (hEe:E=(Ws a).map edQ){s:Nat}(hE:EdOk E a.Net.Nodes.toNat) (hn:za8 E) (hs:s < a.Net.Nodes.toNat):∀ (m k:Nat) (T4 T:Tab) (d:zby),Rp a.Net.Nodes.toNat T d->Inv (E.map edM) (λ v=>v=s) d->Fix (E.map edM) (rds (E.map edM) m d)->m+1 < k ->
  ∃ T',zfP a k true T4 T=true/\zfO a k true T4 T=T'/\Rp a.Net.Nodes.toNat T' (rds (E.map edM) m d):=by
 have hlen:=hnet.len
 obtain⟨q1,q2⟩:=zrJ a (by omega)
 have hst:∀ y∈Ws a,StOk y a.Net.Nodes.toNat/\edQ y∈E:=λ y hy=>⟨zHy hnet hy,by rw[hEe];exact List.mem_map_of_mem hy⟩
 have one:∀ (k:Nat) (T4 T:Tab) (d:zby),Rp a.Net.Nodes.toNat T d->Inv (E.map edM) (λ v=>v=s) d ->
   ∃ T',zfO a (k+1) true T4 T=zfO a k ((E.map edM).foldl rlF (d,false)).2 T4 T'/\zfP a (k+1) true T4 T=zfP a k ((E.map edM).foldl rlF (d,false)).2 T4 T'/\Rp a.Net.Nodes.toNat T' (rnd (E.map edM) d):=by
  intro k T4 T d h1 h2
  obtain⟨T',k1,k2,k3⟩:=zK1 a E hE hn hs (zfO a k) (zfP a k) (Ws a) hst false T4 T d h1 h2
  rw[← hEe] at k1 k2 k3
  refine⟨T',?_,?_,k3⟩
  ·show zm8 a (zfO a k) true T4 T = _
   unfold zm8 zqd
   rw[cond_true,q2];exact k1
  ·show zm9 a (zfP a k) true T4 T = _
   unfold zm9 zqe
   rw[cond_true,q1,q2,decide_eq_true rfl,Bool.true_and];exact k2
 have stop:∀ (k:Nat) (T4 T:Tab),zfO a (k+1) false T4 T=T/\zfP a (k+1) false T4 T=true:=λ k T4 T=>⟨rfl,rfl⟩
 intro m
 induction m with
 | zero =>
  intro k T4 T d h1 h2 h3 hk
  obtain⟨k,rfl⟩:∃ k',k=k'+1+1:=⟨k - 2,by omega⟩
  obtain⟨T',k1,k2,k3⟩:=one (k+1) T4 T d h1 h2
  have h3':Fix (E.map edM) d:=h3
  rw[zhL h3'] at k1 k2
  rw[zha h3'] at k3
  obtain⟨j1,j2⟩:=stop k T4 T'
  exact⟨T',k2.trans j2,k1.trans j1,k3⟩
 | succ m ih =>
  intro k T4 T d h1 h2 h3 hk
  obtain⟨k,rfl⟩:∃ k',k=k'+1+1:=⟨k - 2,by omega⟩
  obtain⟨T',k1,k2,k3⟩:=one (k+1) T4 T d h1 h2
  cases hf:((E.map edM).foldl rlF (d,false)).2 with
  | false =>
   rw[hf] at k1 k2
   have hx:Fix (E.map edM) d:=zgs hf
   obtain⟨j1,j2⟩:=stop k T4 T'
   refine⟨T',k2.trans j2,k1.trans j1,?_⟩
   rw[zha hx] at k3
   rw[zrE hx];exact k3
  | true =>
   rw[hf] at k1 k2
   obtain⟨T'',m1,m2,m3⟩:=ih (k+1) T4 T' (rnd (E.map edM) d) k3 (zjK (zga hn) (λ _ h=>h) (s:=(d,false)) h2) h3 (by omega)
   exact⟨T'',k2.trans m1,k1.trans m2,m3⟩
theorem zHB (a:web) (node:Int):∀ (m k i:Nat) (T4 T:Tab),(∀ v,v < i->T (v * 2)=1000000000000/\T (v * 2+1)=0)->i+m=40->m < k ->
  ∃ T',zim a node k (i:Int) T4 T=zna a node T4 T'/\zin a node k (i:Int) T4 T=znb a node T4 T'/\∀ v,v < 40->T' (v * 2)=1000000000000/\T' (v * 2+1)=0:=by
 intro m
 induction m with
 | zero =>
  intro k i T4 T h hi hk
  obtain⟨k,rfl⟩:∃ k',k=k'+1:=⟨k - 1,by omega⟩
  refine⟨T,?_,?_,λ v hv=>h v (by omega)⟩
  ·show zik a node (zim a node k) (i : Int) T4 T = _
   unfold zik
   rw[decide_eq_false (show ¬ (i:Int) < (40:Int) by omega),cond_false]
  ·show zil a node (zin a node k) (i : Int) T4 T = _
   unfold zil
   rw[decide_eq_false (show ¬ (i:Int) < (40:Int) by omega),cond_false]
 | succ m ih =>
  intro k i T4 T h hi hk
  obtain⟨k,rfl⟩:∃ k',k=k'+1:=⟨k - 1,by omega⟩
  have hw:w64 ((i:Int)+(1:Int))=((i+1:Nat):Int):=by rw[zbx (by omega) (by omega)];omega
  obtain⟨T',k1,k2,k3⟩:=ih k (i+1) T4 (ts 80 T (i * 2) [(1000000000000:Int),(0:Int)]) (λ v hv=>by
   rw[zdt (by omega),zdt (by omega)]
   by_cases hq:v=i
   ·subst hq
    rw[if_neg (by omega),if_pos rfl,if_pos rfl];exact⟨rfl,rfl⟩
   ·rw[if_neg (by omega),if_neg (by omega),if_neg (by omega),if_neg (by omega)];exact h v (by omega)) (by omega) (by omega)
  refine⟨T',?_,?_,k3⟩
  ·rw [← k1]
   show zik a node (zim a node k) (i:Int) T4 T=_
   unfold zik
   rw[decide_eq_true (show (i:Int) < (40:Int) by omega),cond_true,hw,Int.toNat_natCast,show 0+i * 2+0=i * 2 by omega]
  ·rw [← k2]
   show zil a node (zin a node k) (i:Int) T4 T=_
   unfold zil
   rw[decide_eq_true (show (i:Int) < (40:Int) by omega),cond_true,decide_eq_true (show 0≤(i:Int)/\(i:Int) < (40:Int) by omega),Bool.true_and,hw,Int.toNat_natCast,show 0+i * 2+0=i * 2 by omega]
theorem zDF (a : web) (hnet : NetOk a.Net) (hn : za8 (We a)) (node : Int) (h0 : 0 ≤ node) (h1 : node < a.Net.Nodes) :
  p75 a node=true/\Rp a.Net.Nodes.toNat (s75 a node) (dst ((We a).map edR) a.Net.Nodes.toNat node.toNat):=by
 have hn40:=hnet.n40
 have hEe:((We a).map edR)=(Ws a).map edQ:=(zHA (Ws a)).symm
 have hE:EdOk ((We a).map edR) a.Net.Nodes.toNat:=(ztr hnet).R
 have hN:za8 ((We a).map edR):=zlc hn
 have hs:node.toNat < a.Net.Nodes.toNat:=by omega
 obtain⟨T1,a1,a2,a3⟩:=zHB a node 40 Fuel 0 (λ _=>(0:Int)) (λ _=>(0:Int)) (λ v hv=>absurd hv (Nat.not_lt_zero _)) rfl (by simp only[Fuel];omega)
 have hr:Rp a.Net.Nodes.toNat (ts 80 T1 (node.toNat * 2) [(0:Int),(0:Int)]) (zoY node.toNat):=λ v hv=>by
  rw[zdt (by omega),zdt (by omega)]
  unfold zoY
  by_cases hq:v=node.toNat
  ·subst hq
   rw[if_neg (by omega),if_pos rfl,if_pos rfl,if_pos rfl];rfl
  ·rw[if_neg (by omega),if_neg (by omega),if_neg (by omega),if_neg (by omega),if_neg hq,(a3 v (by omega)).1,(a3 v (by omega)).2];rfl
 obtain⟨T2,b1,b2,b3⟩:=zB3 a hnet ((We a).map edR) hEe hE hN hs (a.Net.Nodes.toNat - 1) Fuel (λ _=>(0:Int)) (ts 80 T1 (node.toNat * 2) [(0:Int),(0:Int)]) (zoY node.toNat) hr (zdY (zc2 node.toNat)) (zrH hE hN hs) (by simp only[Fuel];omega)
 have e:0+node.toNat * 2+0=node.toNat * 2:=by omega
 constructor
 ·show zin a node Fuel 0 (fun _ => (0:Int)) (fun _ => (0:Int)) = true
  refine Eq.trans a2 ?_
  unfold znb zqg
  rw[decide_eq_true (show 0≤node/\node < (40:Int) by omega),Bool.true_and,e];exact b1
 ·have:s75 a node=T2:=by
   show zim a node Fuel 0 (λ _=>(0:Int)) (λ _=>(0:Int))=T2
   refine Eq.trans a1 ?_
   unfold zna zqf
   rw[e];exact b2
  rw[this];exact b3
end Go.Proofs
namespace Go.Proofs
open Go Go.Pm
set_option maxRecDepth 100000
set_option linter.unusedVariables false
attribute [local irreducible] Go.Pm.vcFun Go.Pm.vc Go.Pm.vcIter
section
variable {K:List PA->Prop}{n:Net}{from_a1:Int}{to:Int}
end
end Go.Proofs
namespace Go.Proofs
open Go Go.Pm
set_option maxRecDepth 100000
set_option linter.unusedVariables false
def W (n:Net):web:=⟨n,⟨0,λ _=>none⟩⟩
abbrev En (n:Net):List Ed:=We (W n)
def fr (n:Net) (i j:Nat):Int:=zBZ (dst (En n) n.Nodes.toNat i j)
theorem zDG {E:List Ed}{n s v:Nat}(hE:EdOk E n) (hn:za8 E) (hs:s < n) (hv:v < n):zBZ (dst (E.map edR) n s v)=zBZ (dst E n v s):=by
 refine Int.le_antisymm ?_ ?_
 ·rcases zcp (v := s) hE hn hv with ⟨_, h⟩ | ⟨c, _, h1, h2, _⟩
  ·rw [h]
   rcases zcp (v:=v) hE.R (zlc hn) hs with ⟨_,h⟩ | ⟨c,_,_,h2,_,_,_⟩ <;> omega
  ·rw[h2,← zNG c];exact zld hE.R (zlc hn) hs (zNH h1)
 ·rcases zcp (v := v) hE.R (zlc hn) hs with ⟨_, h⟩ | ⟨c, _, h1, h2, _⟩
  ·rw [h]
   rcases zcp (v:=s) hE hn hv with ⟨_,h⟩ | ⟨c,_,_,h2,_,_,_⟩ <;> omega
  ·obtain ⟨c0, k1, k2, _⟩ := zKV h1
   rw[h2,← k2];exact zld hE hn hv k1
theorem zjO {n:Net}(hn:NetOk n) (hN:za8 (En n)) {i j:Nat}(hi:i < n.Nodes.toNat) : -1000000000000≤fr n i j/\fr n i j≤1000000000000:=by
 have hE:EdOk (En n) n.Nodes.toNat:=ztr (a:=W n) hn
 unfold fr
 rcases zcp (v:=j) hE hN hi with ⟨_,h⟩ | ⟨c,_,_,h2,_,h3,h4⟩
 ·rw[h];omega
 ·rw[h2];omega
theorem zhN (n:Net) (nodes:Sl Int) (hl:nodes.len≤1000) (ht:n.Ties.len≤210):p74 n nodes=true /\
    (s67 n=false->s74 n nodes=(default,2)) /\
    (NetOk n->(¬ ∀ i,i < nodes.len->0≤nodes.get i/\nodes.get i < n.Nodes)->s74 n nodes=(default,2)) /\
    (NetOk n->(∀ i,i < nodes.len->0≤nodes.get i/\nodes.get i < n.Nodes)->¬ za8 (En n)->s74 n nodes=(default,5)) /\
    (NetOk n->(∀ i,i < nodes.len->0≤nodes.get i/\nodes.get i < n.Nodes)->za8 (En n)->s74 n nodes=(W n,0)):=by
  obtain⟨a1,a2⟩:=zzH n (by omega)
  unfold p74 s74
  rw[a1,decide_eq_true (show true=true from rfl),Bool.true_and]
  by_cases hs:s67 n=true
  · have hn := a2.1 hs
    have hn1:=hn.n1;have hn40:=hn.n40
    obtain⟨t1,_⟩:=zzV (W n) hn
    rw[hs]
    have hg:∀ i,i < nodes.len->(s81 (nodes.get i) (0:Int) (w64 (n.Nodes - (1:Int)))=true↔0≤nodes.get i/\nodes.get i < n.Nodes):=λ i _=>by
      rw[zoV,decide_eq_true_eq,zbx (by omega) (by omega)];omega
    have hloop := zHu (good := fun i => s81 (nodes.get i) (0:Int) (w64 (n.Nodes - (1:Int)))) (bad := ((default : web), (2:Int))) (fin := zpW n (s88 (W n))) (finP := true) (n := nodes.len) (lpS := zic n nodes) (lpP := zid n nodes)
      (λ k i hi=>by
        show zia n nodes (zic n nodes k) (i:Int)=_
        generalize zic n nodes k=S
        unfold zia zpX
        rw[decide_eq_true (show (i:Int) < (nodes.len:Int) by omega),cond_true,Int.toNat_natCast]
        cases s81 (nodes.get i) (0:Int) (w64 (n.Nodes - (1:Int))) <;> rfl)
      (λ k=>by
        show zia n nodes (zic n nodes k) (nodes.len:Int)=_
        unfold zia
        rw[decide_eq_false (show ¬ (nodes.len:Int) < (nodes.len:Int) by omega),cond_false];rfl)
      (λ k i hi=>by
        show zib n nodes (zid n nodes k) (i:Int)=_
        generalize zid n nodes k=S
        unfold zib zpY
        rw[decide_eq_true (show (i:Int) < (nodes.len:Int) by omega),cond_true,Int.toNat_natCast,decide_eq_true (show 0≤(i:Int)/\(i:Int) < (nodes.len:Int) by omega),Bool.true_and]
        cases s81 (nodes.get i) (0:Int) (w64 (n.Nodes - (1:Int))) <;> rfl)
      (λ k=>by
        show zib n nodes (zid n nodes k) (nodes.len:Int)=_
        unfold zib
        rw[decide_eq_false (show ¬ (nodes.len:Int) < (nodes.len:Int) by omega),cond_false,show p88 (⟨n,(⟨0,(λ _=>none)⟩:Mp)⟩:web)=true from t1];rfl)
      (by omega)
    unfold zp4 zp3 zp2 zp1 zp0 zpZ
    by_cases hr:∀ i,i < nodes.len->0≤nodes.get i/\nodes.get i < n.Nodes
    · obtain ⟨l1, l2⟩ := hloop.1 (fun i hi => (hg i hi).2 (hr i hi))
      rw[l1,l2]
      refine⟨rfl,λ h=>(by cases h),λ _ h=>absurd hr h,λ _ _ h=>?_,λ _ _ h=>?_⟩
      · have:s88 (W n)=true:=by
          cases ht:s88 (W n)
          · exact absurd ((zzW (W n) hn).1 ht) h
          · rfl
        rw[this];rfl
      · rw[(zzW (W n) hn).2 h];rfl
    · obtain ⟨l1, l2⟩ := hloop.2 (fun h => hr fun i hi => (hg i hi).1 (h i hi))
      rw[l1,l2]
      exact⟨rfl,λ h=>(by cases h),λ _ _=>rfl,λ _ h=>absurd h hr,λ _ h=>absurd h hr⟩
  · rw [Bool.eq_false_iff.2 hs]
    have hno:NetOk n->False:=λ h=>hs (a2.2 h)
    exact⟨rfl,λ _=>rfl,λ h=>(hno h).elim,λ h=>(hno h).elim,λ h=>(hno h).elim⟩
theorem zM1 {n:Net}(hn:NetOk n) (hN:za8 (En n)) {i:Int}(h0:0≤i) (h1:i < n.Nodes){j:Nat}(hj:j < n.Nodes.toNat):p75 (W n) i=true/\s75 (W n) i (j * 2)=fr n j i.toNat:=by
 have h40:=hn.n40
 obtain⟨a,b⟩:=zDF (W n) hn hN i h0 h1
 refine⟨a,?_⟩
 have:=(Prod.mk.inj (b j hj)).1
 rw[this]
 exact zDG (ztr (a:=W n) hn) hN (show i.toNat < n.Nodes.toNat by omega) hj
theorem zzY {n:Net}(hn:NetOk n) (hN:za8 (En n)) {i:Int}(h0:0≤i) (h1:i < n.Nodes){j:Nat}(hj:j < n.Nodes.toNat):p76 (W n) i=true/\s76 (W n) i (j * 2)=fr n i.toNat j:=by
 obtain⟨a,b⟩:=zDE (W n) hn hN i h0 h1
 exact⟨a,(Prod.mk.inj (b j hj)).1⟩
theorem zi3 {α:Type}(i:Nat) (v:α) (g:Nat->α) (j:Nat):setT i v g j=if j=i then v else g j:=by
 show (match Nat.beq j i with | true=>v | false=>g j)=_
 by_cases h:j=i
 ·rw[if_pos h,show Nat.beq j i=true from by rw[h];exact Nat.beq_refl _]
 ·rw[if_neg h,show Nat.beq j i=false from Bool.eq_false_iff.2 λ e=>h (Nat.eq_of_beq_eq_true e)]
theorem in2 {n:Net}{i j:Int}(hi:0≤i/\i < n.Nodes) (hj:0≤j/\j < n.Nodes):∀ k,k < (⟨2,zav (zbo [(zad i),(zad j)])⟩:Sl Int).len->0≤(⟨2,zav (zbo [(zad i),(zad j)])⟩:Sl Int).get k/\(⟨2,zav (zbo [(zad i),(zad j)])⟩:Sl Int).get k < n.Nodes:=by
 intro k hk
 match k,hk with
 | 0,_=>exact hi
 | 1,_=>exact hj
end Go.Proofs
namespace Go.Proofs
open Go Go.Pm
set_option maxRecDepth 100000
set_option linter.unusedVariables false
attribute [local irreducible] Go.Pm.vcFun Go.Pm.vc Go.Pm.vcIter
section
variable {K:List PA->Prop}{n:Net}{iv0:Int}{zOO:(Sl Tie)}{zM2:Nat->List PV}{X0:St->Prop}{P0:Int->(Sl Tie)->Bool}{S0:Int->(Sl Tie)->Net}
end
end Go.Proofs
namespace Go.Proofs
open Go Go.Pm
set_option maxRecDepth 100000
set_option linter.unusedVariables false
theorem zzZ {α:Type}(n:Nat) (g:Nat->α) (x:α) (j:Nat):zgi n g (λ _=>x) j=if n≤j then x else g j:=by
 unfold zgi
 by_cases h:n≤j
 ·rw[if_pos h,show Nat.ble n j=true from Nat.ble_eq_true_of_le h]
 ·rw[if_neg h,show Nat.ble n j=false from Bool.eq_false_iff.2 λ k=>h (Nat.le_of_ble_eq_true k)]
def turn (t:Tie):Tie:=⟨t.From,t.To,w64 (0 - t.High),w64 (0 - t.Low)⟩
structure IsTurn (n m : Net) : Prop where
  nodes:m.Nodes=n.Nodes
  len:m.Ties.len=n.Ties.len
  tie:∀ j,j < n.Ties.len->m.Ties.get j=turn (n.Ties.get j)
end Go.Proofs
namespace Go.Proofs
open Go Go.Pm
set_option maxRecDepth 100000
set_option linter.unusedVariables false
attribute [local irreducible] Go.Pm.vcFun Go.Pm.vc Go.Pm.vcIter
section
variable {K:List PA->Prop}{n:Net}{from_a1:Int}{chain:(Sl Use)}{zOP:Bool}{zPm:Int}{zLq:Int}{zOQ:Int}{X2:St->Prop}{P2:Int->Int->Int->Bool}{S2:Int->Int->Int->(Int×Int×Bool)}{zOR:Int}{zB4:Int}{zOS:Int}{zOT:Bool}{zOU:Int}{zOV:Bool}{zOW:Int}{zB5:Int}{zOX:Int}{zOY:Int}{zOZ:Bool}{zPn:Int}{zLr:Int}{zPo:Bool}{zO0:Int}{zO1:Int}{zO2:Bool}{zO3:Int}{zO4:Int}{zO5:Int}{zO6:Int}{zO7:Int}{zO8:Int}{zO9:Bool}{zPa:Int}{zPb:Int}{zPc:Int}{znc:Int}{zbz:Int}{zPp:Bool}{zPd:Int}{zPe:Int}{zPf:Bool}{zPg:Int}{zPh:Int}{zPi:Int}
end
end Go.Proofs
namespace Go.Proofs
open Go Go.Pm
set_option maxRecDepth 100000
set_option linter.unusedVariables false
def zM3 (n:Net) (u:Use) (a:Int):Option (Int×Int) :=
  if 0≤u.Tie/\u.Tie < n.Ties.len then
    (cond u.Back
      (if (n.Ties.get u.Tie.toNat).Low ≠ -1000000000000/\(n.Ties.get u.Tie.toNat).To=a then some ((n.Ties.get u.Tie.toNat).From,w64 (0 - (n.Ties.get u.Tie.toNat).Low)) else none)
      (if (n.Ties.get u.Tie.toNat).High ≠ 1000000000000/\(n.Ties.get u.Tie.toNat).From=a then some ((n.Ties.get u.Tie.toNat).To,(n.Ties.get u.Tie.toNat).High) else none))
  else none
def pvR (n : Net) (c : Sl Use) : Nat → Nat → Int → Int → Int × Int × Bool
  | 0,_,a,l=>(a,l,true)
  | m+1,i,a,l=>match zM3 n (c.get i) a with
    | none=>(0,0,false)
    | some (b,w)=>pvR n c m (i+1) b (w64 (l+w))
def pv (n:Net) (a:Int) (c:Sl Use):Int×Int×Bool:=if (0≤a/\a < n.Nodes)/\c.len≤40 then pvR n c c.len 0 a 0 else (0,0,false)
end Go.Proofs
namespace Go.Proofs
open Go Go.Pm
set_option maxRecDepth 100000
set_option linter.unusedVariables false
attribute [local irreducible] Go.Pm.vcFun Go.Pm.vc Go.Pm.vcIter
section
variable {K:List PA->Prop}{n:Net}{from_a1:Int}{chain:(Sl Use)}{zPj:Bool}{lv2:(Sl Step)}{zPk:Nat->List PV}{zOR:Int}{zB4:Int}{iv3:Int}{X3:St->Prop}{P3:Int->Int->Int->Bool}{S3:Int->Int->Int->(Int×Int×Bool)}{zOW:Int}{zB5:Int}{iv4:Int}{zPl:Bool}{kv4:Int}{X4:St->Prop}{P4:Int->Int->Int->Bool->Int->Bool}{S4:Int->Int->Int->Bool->Int->(Int×Int×Bool)}
end
end Go.Proofs
namespace Go.Proofs
open Go Go.Pm
set_option maxRecDepth 100000
set_option linter.unusedVariables false
def zgb (y:step):Step:=⟨y.from_,y.to,y.length,y.Use⟩
def IsL (v:Sl Step) (L:List step):Prop:=v.len=L.length/\∀ k (h:k < L.length),v.get k=zgb L[k]
theorem zrL {v:Sl Step}{L:List step}(h:IsL v L) (y:step):IsL ⟨v.len+1,zgi v.len v.get (λ _=>zgb y)⟩ (L ++ [y]):=by
 refine⟨by show v.len+1=_;rw[List.length_append,h.1];rfl,λ k hk=>?_⟩
 show zgi v.len v.get (λ _=>zgb y) k=_
 rw[zzZ]
 rw[List.length_append] at hk
 have h1:=h.1
 by_cases hv:v.len≤k
 ·rw [if_pos hv]
  have:k=L.length:=by simp only[List.length_cons,List.length_nil] at hk;omega
  subst this
  simp
 ·rw [if_neg hv, h.2 k (by omega)]
  rw[List.getElem_append_left (by omega)]
theorem zK2 (n:Net) (hn:n.Ties.len≤210):∀ (m k i:Nat) (v:Sl Step) (L:List step),i+m=n.Ties.len->m < k->IsL v L->L.length≤2 * i->zdp n k (i:Int) v=true/\IsL (zdo n k (i:Int) v) (L ++ stL (W n) m i):=by
  intro m
  induction m with
  | zero =>
    intro k i v L hi hk hv hL
    obtain⟨k,rfl⟩:∃ k',k=k'+1:=⟨k - 1,by omega⟩
    have e1:zdp n (k+1) (i:Int) v=true:=by
      show ziz n (zdp n k) (i:Int) v=true
      unfold ziz
      rw[decide_eq_false (show ¬ (i:Int) < (n.Ties.len:Int) by omega),cond_false]
    have e2:zdo n (k+1) (i:Int) v=v:=by
      show ziy n (zdo n k) (i:Int) v=v
      unfold ziy
      rw[decide_eq_false (show ¬ (i:Int) < (n.Ties.len:Int) by omega),cond_false]
    refine⟨e1,?_⟩
    rw[e2]
    show IsL v (L ++ [])
    rw[List.append_nil];exact hv
  | succ m ih =>
    intro k i v L hi hk hv hL
    obtain⟨k,rfl⟩:∃ k',k=k'+1:=⟨k - 1,by omega⟩
    have hw:w64 ((i:Int)+(1:Int))=((i+1:Nat):Int):=by rw[zbx (by omega) (by omega)];omega
    have hvl:=hv.1
    have hS : zdo n (k + 1) (i : Int) v = cond ((n.Ties.get i).High != (1000000000000:Int))
        (cond ((n.Ties.get i).Low != (-1000000000000:Int))
          (zdo n k ((i+1:Nat):Int) (⟨v.len+1+1,zgi (v.len+1) (zgi v.len v.get (λ _=>zgb (fwS (n.Ties.get i) i))) (λ _=>zgb (bwS (n.Ties.get i) i))⟩:Sl Step))
          (zdo n k ((i+1:Nat):Int) (⟨v.len+1,zgi v.len v.get (λ _=>zgb (fwS (n.Ties.get i) i))⟩:Sl Step)))
        (cond ((n.Ties.get i).Low != (-1000000000000:Int))
          (zdo n k ((i+1:Nat):Int) (⟨v.len+1,zgi v.len v.get (λ _=>zgb (bwS (n.Ties.get i) i))⟩:Sl Step))
          (zdo n k ((i+1:Nat):Int) v)):=by
      rw[← hw]
      show ziy n (zdo n k) (i:Int) v=_
      generalize zdo n k=S
      unfold ziy znm
      rw[decide_eq_true (show (i:Int) < (n.Ties.len:Int) by omega),cond_true,Int.toNat_natCast]
      rfl
    have hP : zdp n (k + 1) (i : Int) v = cond ((n.Ties.get i).High != (1000000000000:Int))
        (cond ((n.Ties.get i).Low != (-1000000000000:Int))
          (zdp n k ((i+1:Nat):Int) (⟨v.len+1+1,zgi (v.len+1) (zgi v.len v.get (λ _=>zgb (fwS (n.Ties.get i) i))) (λ _=>zgb (bwS (n.Ties.get i) i))⟩:Sl Step))
          (zdp n k ((i+1:Nat):Int) (⟨v.len+1,zgi v.len v.get (λ _=>zgb (fwS (n.Ties.get i) i))⟩:Sl Step)))
        (cond ((n.Ties.get i).Low != (-1000000000000:Int))
          (zdp n k ((i+1:Nat):Int) (⟨v.len+1,zgi v.len v.get (λ _=>zgb (bwS (n.Ties.get i) i))⟩:Sl Step))
          (zdp n k ((i+1:Nat):Int) v)):=by
      rw[← hw]
      show ziz n (zdp n k) (i:Int) v=_
      generalize zdp n k=S
      unfold ziz znn
      rw[decide_eq_true (show (i:Int) < (n.Ties.len:Int) by omega),cond_true,Int.toNat_natCast,decide_eq_true (show 0≤(i:Int)/\(i:Int) < (n.Ties.len:Int) by omega),decide_eq_true (show (v.len+1) * 40≤140737488355328/\v.len+1≤9223372036854775807 by omega),decide_eq_true (show ((⟨v.len+1,zgi v.len v.get (λ _=>(⟨(n.Ties.get i).From,(n.Ties.get i).To,(n.Ties.get i).High,(⟨(i:Int),false⟩:Use)⟩:Step))⟩:Sl Step).len+1) * 40≤140737488355328/\(⟨v.len+1,zgi v.len v.get (λ _=>(⟨(n.Ties.get i).From,(n.Ties.get i).To,(n.Ties.get i).High,(⟨(i:Int),false⟩:Use)⟩:Step))⟩:Sl Step).len+1≤9223372036854775807 from by show (v.len+1+1) * 40≤_/\v.len+1+1≤_;omega)]
      rfl
    rw[hS,hP]
    have hK:stL (W n) (m+1) i=((cond ((n.Ties.get i).High != (1000000000000:Int)) [fwS (n.Ties.get i) i] []) ++ (cond ((n.Ties.get i).Low != (-1000000000000:Int)) [bwS (n.Ties.get i) i] [])) ++ stL (W n) m (i+1):=rfl
    rw[hK]
    have hF:=zrL hv (fwS (n.Ties.get i) i)
    have hB:=zrL hv (bwS (n.Ties.get i) i)
    have hFB:=zrL hF (bwS (n.Ties.get i) i)
    cases ((n.Ties.get i).High != (1000000000000:Int)) <;> cases ((n.Ties.get i).Low != (-1000000000000:Int))
    · have := ih k (i + 1) v L (by omega) (by omega) hv (by omega)
      simpa using this
    · have := ih k (i + 1) _ _ (by omega) (by omega) hB (by simp only [List.length_append, List.length_cons, List.length_nil]; omega)
      simpa [List.append_assoc] using this
    · have := ih k (i + 1) _ _ (by omega) (by omega) hF (by simp only [List.length_append, List.length_cons, List.length_nil]; omega)
      simpa [List.append_assoc] using this
    · have := ih k (i + 1) _ _ (by omega) (by omega) hFB (by simp only [List.length_append, List.length_cons, List.length_nil]; omega)
      simpa [List.append_assoc] using this
theorem zts (n:Net) (hn:n.Ties.len≤210):p77 n=true/\IsL (s77 n) (Ws (W n)):=by
 have:=zK2 n hn n.Ties.len Fuel 0 (⟨0,(λ _=>default)⟩:Sl Step) [] (by omega) (by simp only[Fuel];omega) ⟨rfl,λ k h=>absurd h (Nat.not_lt_zero _)⟩ (Nat.zero_le _)
 exact this
def sb (x:Use) (y:Use):Bool:=match (x.Tie == y.Tie) with | true=>(match (x.Back == y.Back) with | true=>true | false=>false) | false=>false
end Go.Proofs
namespace Go.Pm
def jr (o:zby) (s:zby×Bool) (e:Ed):zby×Bool :=
 match o e.u with
 | none=>s
 | some x=>cond (ltO (x+e.w) (s.1 e.v)) (zi1 s.1 e.v (x+e.w),true) s
theorem zHC (o:zby) (s:zby×Bool) (e:Ed) (v:Nat):leO ((jr o s e).1 v) (s.1 v):=by
 unfold jr
 cases hu:o e.u with
 | none=>exact zcz _
 | some x =>
  simp only[]
  cases hl:ltO (x+e.w) (s.1 e.v)
  ·exact zcz _
  ·show leO (zi1 s.1 e.v (x + e.w) v) _
   unfold zi1
   by_cases hv:v=e.v
   ·rw [if_pos hv]
    intro y hy
    refine⟨_,rfl,?_⟩
    rw[hv] at hy
    rw[hy] at hl
    exact Int.le_of_lt (of_decide_eq_true hl)
   ·rw[if_neg hv];exact zcz _
theorem zK3 (o:zby) (E:List Ed) (s:zby×Bool) (v:Nat):leO ((E.foldl (jr o) s).1 v) (s.1 v):=by
 induction E generalizing s with
 | nil=>exact zcz _
 | cons e l ih=>exact zb8 (ih (jr o s e)) (zHC o s e v)
theorem zM4 {o:zby}{s:zby×Bool}{e:Ed}{x:Int}(h:o e.u=some x):leO ((jr o s e).1 e.v) (some (x+e.w)):=by
 unfold jr
 simp only[h]
 cases hl:ltO (x+e.w) (s.1 e.v)
 ·obtain ⟨y, h1, h2⟩ := zk9 hl
  intro z hz;cases hz
  exact⟨y,h1,h2⟩
 ·intro z hz; cases hz
  exact⟨x+e.w,by show zi1 s.1 e.v (x+e.w) e.v=_;unfold zi1;rw[if_pos rfl],Int.le_refl _⟩
theorem zM5 {o:zby}{E:List Ed}{s:zby×Bool}{e:Ed}{x:Int}(he:e∈E) (h:o e.u=some x):leO ((E.foldl (jr o) s).1 e.v) (some (x+e.w)):=by
 induction E generalizing s with
 | nil=>cases he
 | cons f l ih =>
  rcases List.mem_cons.1 he with rfl | hm
  ·exact zb8 (zK3 o l (jr o s e) e.v) (zM4 h)
  ·exact ih hm
theorem zHD {o:zby}{s:zby×Bool}{e:Ed}(h:s.2=true):(jr o s e).2=true:=by
 unfold jr
 cases o e.u with
 | none=>exact h
 | some x=>simp only[];cases ltO (x+e.w) (s.1 e.v) <;> first | exact h | rfl
theorem zHE {o:zby}{E:List Ed}{s:zby×Bool}(h:s.2=true):(E.foldl (jr o) s).2=true:=by
 induction E generalizing s with
 | nil=>exact h
 | cons e l ih=>exact ih (zHD h)
theorem zDH {d:zby}{c:Bool}{e:Ed}(h:Sat d e):jr d (d,c) e=(d,c):=zrD h
theorem zK4 {E:List Ed}{d:zby}{c:Bool}(h:∀ e∈E,Sat d e):E.foldl (jr d) (d,c)=(d,c):=by
 induction E with
 | nil=>rfl
 | cons e l ih =>
  show l.foldl (jr d) (jr d (d,c) e)=_
  rw[zDH (h e (List.mem_cons_self ..))]
  exact ih λ e he=>h e (List.mem_cons_of_mem _ he)
theorem zB6 {E:List Ed}{d:zby}{c:Bool}(h:(E.foldl (jr d) (d,c)).2=false):∀ e∈E,Sat d e:=by
 induction E with
 | nil=>intro e he;cases he
 | cons e l ih =>
  have h':(l.foldl (jr d) (jr d (d,c) e)).2=false:=h
  have hs:Sat d e:=Classical.byContradiction λ hn=>by
   have:(jr d (d,c) e).2=true:=zzJ hn
   rw[zHE this] at h';cases h'
  rw[zDH hs] at h'
  intro e' he'
  rcases List.mem_cons.1 he' with rfl | hm
  ·exact hs
  ·exact ih h' e' hm
def zDI (E:List Ed) (d:zby):zby:=(E.foldl (jr d) (d,false)).1
def zz0 (E : List Ed) : Nat → zby → zby
  | 0,d=>d
  | k+1,d=>zz0 E k (zDI E d)
theorem zz1 (E:List Ed) (k:Nat) (d:zby) (v:Nat):leO (zz0 E k d v) (d v):=by
 induction k generalizing d with
 | zero=>exact zcz _
 | succ k ih=>exact zb8 (ih (zDI E d)) (zK3 d E (d,false) v)
theorem zHF {E:List Ed}{c:List Ed} : ∀ {a b k:Nat}{d:zby}{y:Int},zft E a c b->d a=some y->c.length≤k->leO (zz0 E k d b) (some (y+wt c)):=by
 induction c with
 | nil =>
  intro a b k d y h hd _
  cases h
  intro z hz;cases hz
  obtain⟨x,h1,h2⟩:=zz1 E k d a y hd
  exact⟨x,h1,by show x≤y+0;omega⟩
 | cons e l ih =>
  intro a b k d y h hd hk
  obtain⟨k,rfl⟩:∃ k',k=k'+1:=⟨k - 1,by simp only[List.length_cons] at hk;omega⟩
  obtain⟨h1,h2,h3⟩:=h
  subst h2
  obtain⟨x,k1,k2⟩:=zM5 (o:=d) (s:=(d,false)) h1 hd _ rfl
  intro z hz;cases hz
  obtain⟨z,m1,m2⟩:=ih (k:=k) (d:=zDI E d) h3 k1 (by simp only[List.length_cons] at hk;omega) _ rfl
  exact⟨z,m1,by show z≤y+(e.w+wt l);omega⟩
theorem zK5 {E:List Ed}{Src:Nat->Prop}(hn:za8 E){o:zby}(ho:Inv E Src o){s:zby×Bool}{e:Ed}(he:e∈E) (hs:∀ m,leO (s.1 m) (o m)) (h:Inv E Src s.1):Inv E Src (jr o s e).1:=by
 intro v x hx
 have hle:=zHC o s e
 unfold jr at hx hle ⊢
 cases hu:o e.u with
 | none =>
  simp only[hu] at hx ⊢
  obtain⟨a,c,hc⟩:=h v x hx
  exact⟨a,c,hc⟩
 | some y =>
  simp only[hu] at hx hle ⊢
  cases hl:ltO (y+e.w) (s.1 e.v) with
  | false =>
   simp only[hl,cond_false] at hx ⊢
   exact h v x hx
  | true =>
   simp only[hl,cond_true] at hx hle ⊢
   by_cases hv:v=e.v
   ·subst hv
    have hx':y+e.w=x:=by
     unfold zi1 at hx;rw[if_pos rfl] at hx;exact Option.some.inj hx
    obtain⟨a,c,hc⟩:=ho e.u y hu
    have hnot:e.v ∉ nodes a c:=λ hm=>by
     obtain⟨z,h1,h2⟩:=zb8 (hs e.v) (zjJ hn he hc hm) _ rfl
     rw[h1] at hl
     have:=of_decide_eq_true hl
     omega
    refine⟨a,c ++ [e],hc.src,zcQ.2 ⟨e.u,hc.ch,zc8 he⟩,by rw[zgE,zhK,← hc.wt];omega,?_,?_⟩
    ·show (a :: (c ++ [e]).map Ed.v).Nodup
     rw[List.map_append,← List.cons_append]
     refine List.nodup_append.2 ⟨hc.nd,by simp,λ p hp q hq=>?_⟩
     have:q=e.v:=by simpa using hq
     subst this
     exact λ e'=>hnot (e' ▸ hp)
    ·intro c1 c2 m h1 h2
     rcases zhM h1 with rfl | ⟨c3,h3⟩
     ·have : m = e.v := ztq h2 (zcQ.2 ⟨e.u, hc.ch, zc8 he⟩)
      subst this
      intro z hz;cases hz
      refine⟨x,hx,?_⟩
      rw[zgE,zhK,← hc.wt];omega
     ·exact zb8 (zb8 (hle m) (hs m)) (hc.pre c1 c3 m h3 h2)
   ·have hx':s.1 v=some x:=by
     unfold zi1 at hx;rw[if_neg hv] at hx;exact hx
    obtain⟨a,c,hc⟩:=h v x hx'
    exact⟨a,c,zDz hc hle⟩
theorem zK6 {E F:List Ed}{Src:Nat->Prop}(hn:za8 E) (hF:∀ e∈F,e∈E){o:zby}(ho:Inv E Src o){s:zby×Bool}(hs:∀ m,leO (s.1 m) (o m)) (h:Inv E Src s.1):Inv E Src (F.foldl (jr o) s).1:=by
 induction F generalizing s with
 | nil=>exact h
 | cons e l ih=>exact ih (λ e he=>hF e (List.mem_cons_of_mem _ he)) (λ m=>zb8 (zHC o s e m) (hs m)) (zK5 hn ho (hF e (List.mem_cons_self ..)) hs h)
theorem zB7 {E:List Ed}{Src:Nat->Prop}(hn:za8 E) (k:Nat){d:zby}(h:Inv E Src d):Inv E Src (zz0 E k d):=by
 induction k generalizing d with
 | zero=>exact h
 | succ k ih=>exact ih (zK6 hn (λ _ h=>h) h (s:=(d,false)) (λ _=>zcz _) h)
theorem zK7 {E:List Ed}{n:Nat}{Src:Nat->Prop}(hn:za8 E) (hE:∀ e∈E,e.u < n/\e.v < n) (hS:∀ a,Src a->a < n){d:zby}(h0:Start Src d):Fix E (zz0 E (n - 1) d):=by
 intro e he x hx
 obtain⟨a,c,hc⟩:=zB7 hn (n - 1) (zdY (E:=E) h0) e.u x hx
 by_cases hm:e.v∈nodes a c
 ·exact zjJ hn he hc hm _ rfl
 ·have hlen:(c ++ [e]).length≤n - 1:=by
   have hnd:(nodes a (c ++ [e])).Nodup:=by
    show (a :: (c ++ [e]).map Ed.v).Nodup
    rw[List.map_append,← List.cons_append]
    refine List.nodup_append.2 ⟨hc.nd,by simp,λ p hp q hq=>?_⟩
    have:q=e.v:=by simpa using hq
    subst this
    exact λ e'=>hm (e' ▸ hp)
   have hch:zft E a (c ++ [e]) e.v:=zcQ.2 ⟨e.u,hc.ch,zc8 he⟩
   have:=zla n hnd (znz hE (hS a hc.src) hch)
   rw[zlb] at this
   omega
  have:=zHF (zcQ.2 ⟨e.u,hc.ch,zc8 he⟩) (h0.src a hc.src) hlen _ rfl
  rw[zgE,zhK,← hc.wt] at this
  obtain⟨z,h1,h2⟩:=this
  exact⟨z,h1,by omega⟩
def zgF (E : List Ed) : Nat → Bool → zby → Bool
  | 0,c,_=>!c
  | m+1,c,d=>cond c (zgF E m (E.foldl (jr d) (d,false)).2 (zDI E d)) (!c)
theorem ztt (E:List Ed) (m:Nat) (d:zby):zgF E m false d=true:=by cases m <;> rfl
theorem zoZ {E:List Ed}{k:Nat} : ∀ {m:Nat}{d:zby},Fix E (zz0 E k d)->k < m->zgF E m true d=true:=by
 induction k with
 | zero =>
  intro m d h hm
  obtain⟨m,rfl⟩:∃ m',m=m'+1:=⟨m - 1,by omega⟩
  show zgF E m (E.foldl (jr d) (d,false)).2 (zDI E d)=true
  rw[zK4 (show ∀ e∈E,Sat d e from h)]
  exact ztt E m _
 | succ k ih =>
  intro m d h hm
  obtain⟨m,rfl⟩:∃ m',m=m'+1:=⟨m - 1,by omega⟩
  show zgF E m (E.foldl (jr d) (d,false)).2 (zDI E d)=true
  cases (E.foldl (jr d) (d,false)).2
  ·exact ztt E m _
  ·exact ih (m:=m) (d:=zDI E d) h (by omega)
theorem zz2 {E:List Ed}{m:Nat} : ∀ {d:zby},zgF E m true d=true->∃ k,Fix E (zz0 E k d):=by
 induction m with
 | zero=>intro d h;cases h
 | succ m ih =>
  intro d h
  have h':zgF E m (E.foldl (jr d) (d,false)).2 (zDI E d)=true:=h
  cases hc:(E.foldl (jr d) (d,false)).2
  ·exact⟨0,zB6 hc⟩
  ·rw [hc] at h'
   obtain⟨k,hk⟩:=ih h'
   exact⟨k+1,hk⟩
theorem zz3 {E:List Ed}{n:Nat}(hE:EdOk E n):zgF E n true (znG n)=true↔za8 E:=by
 constructor
 ·intro h
  obtain⟨k,hk⟩:=zz2 h
  have hsome:∀ v,v < n->∃ x,zz0 E k (znG n) v=some x:=λ v hv=>by
   obtain⟨x,hx,_⟩:=zz1 E k (znG n) v 0 (if_pos hv)
   exact⟨x,hx⟩
  refine zoX (f:=λ v=>(zz0 E k (znG n) v).getD 0) λ e he=>?_
  obtain⟨x,hx⟩:=hsome e.u (hE.lt e he).1
  obtain⟨y,hy,hxy⟩:=hk e he x hx
  show (zz0 E k (znG n) e.v).getD 0≤(zz0 E k (znG n) e.u).getD 0+e.w
  rw[hx,hy];exact hxy
 ·intro h
  have:=hE.n1
  exact zoZ (zK7 h hE.lt (λ a ha=>ha) (zl0 n)) (by omega)
def dsP (E:List Ed) (n s:Nat):zby:=rds E (n - 1) (zoY s)
def zLs : Option Int → Int
  | none=>1000000000000
  | some x=>x
theorem zz4 {E:List Ed}{n s:Nat}(hn:za8 E):Inv E (λ v=>v=s) (dsP E n s):=zrF hn _ (zdY (zc2 s))
theorem zz5 {E:List Ed}{n s:Nat}(hE:EdOk E n) (hn:za8 E) (hs:s < n):Fix E (dsP E n s):=zzO hn hE.lt (λ a ha=>Nat.lt_of_le_of_lt (Nat.le_of_eq ha) hs) (zc2 s)
theorem zM6 {E:List Ed}{n:Nat}(hE:EdOk E n){s:Nat}(hs:s < n){d:zby}(hd:Inv E (λ v=>v=s) d){v:Nat}{x:Int}(hx:d v=some x):∃ c,zft E s c v/\x=wt c/\c.length < n:=by
 obtain⟨a,c,hc⟩:=hd v x hx
 have hl:=zzN hE.lt (λ a ha=>Nat.lt_of_le_of_lt (Nat.le_of_eq ha) hs) hc
 obtain rfl:a=s:=hc.src
 exact⟨c,hc.ch,hc.wt,by omega⟩
theorem zDJ {E:List Ed}{n:Nat}(hE:EdOk E n){s:Nat}(hs:s < n){d:zby}(hd:Inv E (λ v=>v=s) d){v:Nat}{x:Int}(hx:d v=some x) : -40000000000≤x/\x≤40000000000:=by
 obtain⟨c,h1,h2,h3⟩:=zM6 hE hs hd hx
 have:=zjL hE h1
 have:=hE.n40
 omega
theorem zHG {E:List Ed}{n s v:Nat}(hE:EdOk E n) (hn:za8 E) (hs:s < n):zLs (dsP E n s v)=zBZ (dst E n s v):=by
 obtain⟨y0,k1,k2⟩:=zoW E (n - 1) (zoY s) s 0 (if_pos rfl)
 have up:∀ c,zft E s c v->∃ y,dsP E n s v=some y/\y≤wt c:=λ c hc=>by
  obtain⟨y,m1,m2⟩:=zKS (zz5 hE hn hs) hc k1
  exact⟨y,m1,by omega⟩
 rcases zcp (v:=v) hE hn hs with ⟨_,h2⟩ | ⟨c,_,h1,h2,_⟩
 ·rw [h2]
  cases hd:dsP E n s v with
  | none=>rfl
  | some x =>
   obtain⟨c,m1,m2,m3⟩:=zM6 hE hs (zz4 hn) hd
   have:=zld hE hn hs m1
   have:=zjL hE m1
   have:=hE.n40
   omega
 ·obtain ⟨y, m1, m2⟩ := up c h1
  obtain⟨c',q1,q2,_⟩:=zM6 hE hs (zz4 hn) m1
  have:=zld hE hn hs q1
  rw[m1,h2]
  show y=wt c
  omega
end Go.Pm
namespace Go.Proofs
open Go Go.Pm
set_option maxRecDepth 100000
set_option linter.unusedVariables false
theorem zz6 {l:Sl Step}{L:List step}(hl:IsL l L){q:Nat}(hq:q < L.length){N:Nat}(hL:∀ y∈L,StOk y N):(l.get q).From=L[q].from_/\(l.get q).To=L[q].to/\(l.get q).Length=L[q].length/\StOk L[q] N:=by
 rw[hl.2 q hq];exact⟨rfl,rfl,rfl,hL _ (List.getElem_mem hq)⟩
structure Rv (N : Nat) (v : Sl Int) (d : zby) (B : Int) : Prop where
  len:v.len=N
  at_:∀ i,i < N->d i=some (v.get i)
  b:∀ i,i < N->-B≤v.get i/\v.get i≤0
theorem zB8 (n : Net) (l : Sl Step) (L : List step) (hl : IsL l L) {N : Nat} (hLN : ∀ y ∈ L, StOk y N) (hL : L.length ≤ 1000) (S1 : Sl Int → Bool → Int → Bool) (P1 : Sl Int → Bool → Int → Bool) (best : Sl Int) (o : zby) (B : Int) (hB : 0 ≤ B ∧ B ≤ 100000000000000) (ho : Rv N best o B) (r : Int) :
  ∀ (m k q:Nat) (c:Bool) (v:Sl Int) (d:zby),q+m=L.length->m < k->Rv N v d (B+1000000000) ->
  ∃ v',ze7 S1 n l k best c r (q:Int) v=S1 v' (((L.drop q).map edS).foldl (jr o) (d,c)).2 (w64 (r+(1:Int)))/\ze8 P1 n l k best c r (q:Int) v=P1 v' (((L.drop q).map edS).foldl (jr o) (d,c)).2 (w64 (r+(1:Int)))/\Rv N v' (((L.drop q).map edS).foldl (jr o) (d,c)).1 (B+1000000000):=by
 have hll:=hl.1
 intro m
 induction m with
 | zero =>
  intro k q c v d hq hk hv
  obtain⟨k,rfl⟩:∃ k',k=k'+1:=⟨k - 1,by omega⟩
  rw[List.drop_eq_nil_of_le (by omega)]
  refine⟨v,?_,?_,hv⟩
  ·show ziA S1 n l (ze7 S1 n l k) best c r (q : Int) v = _
   unfold ziA
   rw[decide_eq_false (show ¬ (q:Int) < (l.len:Int) by omega),cond_false];rfl
  ·show ziB P1 n l (ze8 P1 n l k) best c r (q : Int) v = _
   unfold ziB
   rw[decide_eq_false (show ¬ (q:Int) < (l.len:Int) by omega),cond_false];rfl
 | succ m ih =>
  intro k q c v d hq hk hv
  obtain⟨k,rfl⟩:∃ k',k=k'+1:=⟨k - 1,by omega⟩
  have hw:w64 ((q:Int)+(1:Int))=((q+1:Nat):Int):=by rw[zbx (by omega) (by omega)];omega
  obtain⟨e1,e2,e3,hy⟩:=zz6 hl (show q < L.length by omega) hLN
  rw[List.drop_eq_getElem_cons (by omega:q < L.length)]
  generalize L[q]=y at *
  have f0:=hy.f0;have f1:=hy.f1;have t0:=hy.t0;have t1:=hy.t1;have l0:=hy.l0;have l1:=hy.l1
  have hbl:=ho.len;have hvl:=hv.len
  have bf:=ho.b y.from_.toNat (by omega)
  have af:=ho.at_ y.from_.toNat (by omega)
  have at_:=hv.at_ y.to.toNat (by omega)
  have hr:jr o (d,c) (edS y)=cond (decide (best.get y.from_.toNat+y.length < v.get y.to.toNat)) (zi1 d y.to.toNat (best.get y.from_.toNat+y.length),true) (d,c):=by
   unfold jr edS
   simp only[af,at_] <;> rfl
  have hS:ze7 S1 n l (k+1) best c r (q:Int) v=cond (decide (best.get y.from_.toNat+y.length < v.get y.to.toNat)) (ze7 S1 n l k best true r ((q+1:Nat):Int) (⟨v.len,setT y.to.toNat (best.get y.from_.toNat+y.length) v.get⟩:Sl Int)) (ze7 S1 n l k best c r ((q+1:Nat):Int) v):=by
   rw[← hw]
   show ziA S1 n l (ze7 S1 n l k) best c r (q:Int) v=_
   generalize ze7 S1 n l k=S
   unfold ziA
   rw[decide_eq_true (show (q:Int) < (l.len:Int) by omega),cond_true,Int.toNat_natCast,e1,e2,e3,zbx (x:=best.get y.from_.toNat+y.length) (by omega) (by omega)]
  have hP:ze8 P1 n l (k+1) best c r (q:Int) v=cond (decide (best.get y.from_.toNat+y.length < v.get y.to.toNat)) (ze8 P1 n l k best true r ((q+1:Nat):Int) (⟨v.len,setT y.to.toNat (best.get y.from_.toNat+y.length) v.get⟩:Sl Int)) (ze8 P1 n l k best c r ((q+1:Nat):Int) v):=by
   rw[← hw]
   show ziB P1 n l (ze8 P1 n l k) best c r (q:Int) v=_
   generalize ze8 P1 n l k=S
   unfold ziB
   simp only[Int.toNat_natCast,e1,e2,e3]
   rw[decide_eq_true (show (q:Int) < (l.len:Int) by omega),cond_true,zbx (x:=best.get y.from_.toNat+y.length) (by omega) (by omega),decide_eq_true (show 0≤(q:Int)/\(q:Int) < (l.len:Int) by omega),decide_eq_true (show 0≤y.from_/\y.from_ < (best.len:Int) by omega),decide_eq_true (show 0≤y.to/\y.to < (v.len:Int) by omega),decide_eq_true (show y.to.toNat < v.len by omega)]
   cases decide (best.get y.from_.toNat+y.length < v.get y.to.toNat) <;> rfl
  rw[hS,hP]
  show ∃ v',_=S1 v' (((L.drop (q+1)).map edS).foldl (jr o) (jr o (d,c) (edS y))).2 _/\_=P1 v' (((L.drop (q+1)).map edS).foldl (jr o) (jr o (d,c) (edS y))).2 _/\Rv N v' (((L.drop (q+1)).map edS).foldl (jr o) (jr o (d,c) (edS y))).1 _
  rw[hr]
  by_cases hlt:best.get y.from_.toNat+y.length < v.get y.to.toNat
  ·rw [decide_eq_true hlt]
   simp only[cond_true]
   have vb:=hv.b y.to.toNat (by omega)
   refine ih k (q+1) true _ _ (by omega) (by omega) ⟨hvl,λ i hi=>?_,λ i hi=>?_⟩
   ·show zi1 d y.to.toNat (best.get y.from_.toNat + y.length) i = some (setT y.to.toNat (best.get y.from_.toNat + y.length) v.get i)
    rw[zi3]
    unfold zi1
    by_cases h:i=y.to.toNat
    ·rw[if_pos h,if_pos h]
    ·rw[if_neg h,if_neg h];exact hv.at_ i hi
   ·show -(B + 1000000000) ≤ setT y.to.toNat (best.get y.from_.toNat + y.length) v.get i ∧ setT y.to.toNat (best.get y.from_.toNat + y.length) v.get i ≤ 0
    rw[zi3]
    by_cases h:i=y.to.toNat
    ·rw[if_pos h];omega
    ·rw[if_neg h];exact hv.b i hi
  ·rw [decide_eq_false hlt]
   simp only[cond_false]
   exact ih k (q+1) c v d (by omega) (by omega) hv
theorem zo0 (n:Net) (hn:NetOk n):∀ (m k r:Nat) (c:Bool) (v:Sl Int) (d:zby) (B:Int),(r:Int)+m=n.Nodes->m < k->Rv n.Nodes.toNat v d B->0≤B->B+m * 1000000000≤100000000000000 ->
  zg1 n (s77 n) k v c (r:Int)=true/\zg0 n (s77 n) k v c (r:Int)=zgF (En n) m c d:=by
 have hlen:=hn.len;have hn40:=hn.n40
 obtain⟨_,hl⟩:=zts n (by omega)
 have hL:(Ws (W n)).length≤400:=zzT (a:=W n) hn
 intro m
 induction m with
 | zero =>
  intro k r c v d B hr hk _ _ _
  obtain⟨k,rfl⟩:∃ k',k=k'+1:=⟨k - 1,by omega⟩
  constructor
  ·show zf7 n (s77 n) (zg1 n (s77 n) k) v c (r : Int) = true
   unfold zf7
   rw[decide_eq_false (show ¬ (r:Int) < n.Nodes by omega),cond_false]
  ·show zf6 n (s77 n) (zg0 n (s77 n) k) v c (r : Int) = _
   unfold zf6
   rw[decide_eq_false (show ¬ (r:Int) < n.Nodes by omega),cond_false];rfl
 | succ m ih =>
  intro k r c v d B hr hk hv hB0 hB1
  obtain⟨k,rfl⟩:∃ k',k=k'+1:=⟨k - 1,by omega⟩
  cases c with
  | false =>
   constructor
   ·show zf7 n (s77 n) (zg1 n (s77 n) k) v false (r : Int) = true
    unfold zf7
    cases decide ((r:Int) < n.Nodes) <;> rfl
   ·show zf6 n (s77 n) (zg0 n (s77 n) k) v false (r : Int) = _
    unfold zf6
    cases decide ((r:Int) < n.Nodes) <;> rfl
  | true =>
   have hw:w64 ((r:Int)+(1:Int))=((r+1:Nat):Int):=by rw[zbx (by omega) (by omega)];omega
   obtain⟨v',k1,k2,k3⟩:=zB8 n (s77 n) (Ws (W n)) hl (λ y hy=>zHy (a:=W n) hn hy) (by omega) (zg0 n (s77 n) k) (zg1 n (s77 n) k) v d B ⟨hB0,by omega⟩ hv (r:Int) (Ws (W n)).length Fuel 0 false v d (by omega) (by simp only[Fuel];omega) ⟨hv.len,hv.at_,λ i hi=>by have:=hv.b i hi;omega⟩
   rw[List.drop_zero,hw] at k1 k2
   rw[List.drop_zero] at k3
   obtain⟨i1,i2⟩:=ih k (r+1) (((Ws (W n)).map edS).foldl (jr d) (d,false)).2 v' _ (B+1000000000) (by omega) (by omega) k3 (by omega) (by omega)
   constructor
   ·refine Eq.trans ?_ i1
    refine Eq.trans ?_ k2
    show zf7 n (s77 n) (zg1 n (s77 n) k) v true (r:Int)=_
    unfold zf7
    have hvl:=hv.len
    rw[decide_eq_true (show (r:Int) < n.Nodes by omega)]
    first
     | rfl
     | (simp only[cond_true];rw[decide_eq_true (show v.len * 8≤140737488355328/\v.len≤9223372036854775807 by omega)];rfl)
   ·refine Eq.trans ?_ i2
    refine Eq.trans ?_ k1
    show zf6 n (s77 n) (zg0 n (s77 n) k) v true (r:Int)=_
    unfold zf6
    rw[decide_eq_true (show (r:Int) < n.Nodes by omega)];rfl
theorem zK8 (n:Net) (hn:NetOk n):p31 n=true/\(s31 n=true↔za8 (En n)):=by
 have hlen:=hn.len;have hn1:=hn.n1;have hn40:=hn.n40
 obtain⟨a,b⟩:=zo0 n hn n.Nodes.toNat Fuel 0 true (⟨n.Nodes.toNat,(λ _=>(0:Int))⟩:Sl Int) (znG n.Nodes.toNat) 0 (by omega) (by simp only[Fuel];omega) ⟨rfl,λ i hi=>if_pos hi,λ i hi=>⟨by show -(0:Int)≤(0:Int);omega,Int.le_refl _⟩⟩ (by omega) (by omega)
 have hq:=(zts n (by omega)).1
 constructor
 ·unfold p31 zqW
  rw[hq]
  first
   | exact a
   | (rw[decide_eq_true (show 0≤n.Nodes/\n.Nodes=n.Nodes/\n.Nodes≤1000000 from ⟨by omega,rfl,by omega⟩)];exact a)
 ·have : s31 n = zgF (En n) n.Nodes.toNat true (znG n.Nodes.toNat) := b
  rw[this]
  exact zz3 (ztr (a:=W n) hn)
end Go.Proofs
namespace Go.Proofs
open Go Go.Pm
set_option maxRecDepth 100000
set_option linter.unusedVariables false
structure Rq (N : Nat) (v : Sl Int) (d : zby) : Prop where
  len:v.len=N
  at_:∀ i,i < N->v.get i=zLs (d i)
theorem zHH (n : Net) {E : List Ed} {N s : Nat} (hE : EdOk E N) (hn : za8 E) (hs : s < N) (l : Sl Step) (L : List step) (hl : IsL l L) (hLN : ∀ y ∈ L, StOk y N ∧ edS y ∈ E) (hL : L.length ≤ 1000) (S3 : Bool → Sl Int → Sl Int) (P3 : Bool → Sl Int → Bool) :
  ∀ (m k q:Nat) (c:Bool) (v:Sl Int) (d:zby),q+m=L.length->m < k->Rq N v d->Inv E (λ v=>v=s) d ->
  ∃ v',zdV S3 l k c (q:Int) v=S3 (((L.drop q).map edS).foldl rlF (d,c)).2 v'/\zdW P3 l k c (q:Int) v=P3 (((L.drop q).map edS).foldl rlF (d,c)).2 v'/\Rq N v' (((L.drop q).map edS).foldl rlF (d,c)).1:=by
 have hll:=hl.1
 have hN40:=hE.n40
 intro m
 induction m with
 | zero =>
  intro k q c v d hq hk hv _
  obtain⟨k,rfl⟩:∃ k',k=k'+1:=⟨k - 1,by omega⟩
  rw[List.drop_eq_nil_of_le (by omega)]
  refine⟨v,?_,?_,hv⟩
  ·show ziC S3 l (zdV S3 l k) c (q : Int) v = _
   unfold ziC
   rw[decide_eq_false (show ¬ (q:Int) < (l.len:Int) by omega),cond_false];rfl
  ·show ziD P3 l (zdW P3 l k) c (q : Int) v = _
   unfold ziD
   rw[decide_eq_false (show ¬ (q:Int) < (l.len:Int) by omega),cond_false];rfl
 | succ m ih =>
  intro k q c v d hq hk hv hi
  obtain⟨k,rfl⟩:∃ k',k=k'+1:=⟨k - 1,by omega⟩
  have hw:w64 ((q:Int)+(1:Int))=((q+1:Nat):Int):=by rw[zbx (by omega) (by omega)];omega
  obtain⟨e1,e2,e3,hy⟩:=zz6 hl (show q < L.length by omega) (λ y hy=>(hLN y hy).1)
  have hmE:=(hLN L[q] (List.getElem_mem (by omega))).2
  rw[List.drop_eq_getElem_cons (by omega:q < L.length)]
  generalize L[q]=y at *
  have f0:=hy.f0;have f1:=hy.f1;have t0:=hy.t0;have t1:=hy.t1;have l0:=hy.l0;have l1:=hy.l1
  have hvl:=hv.len
  have af:=hv.at_ y.from_.toNat (by omega)
  have at_:=hv.at_ y.to.toNat (by omega)
  have hin:=zi2 (Src:=λ v=>v=s) hn (s:=(d,c)) (e:=edS y) hmE hi
  have hbT:∀ x,d y.to.toNat=some x->-40000000000≤x/\x≤40000000000:=λ x hx=>zDJ hE hs hi hx
  have hS:zdV S3 l (k+1) c (q:Int) v=cond (v.get y.from_.toNat != (1000000000000:Int)) (cond (decide (w64 (v.get y.from_.toNat+y.length) < v.get y.to.toNat)) (zdV S3 l k true ((q+1:Nat):Int) (⟨v.len,setT y.to.toNat (w64 (v.get y.from_.toNat+y.length)) v.get⟩:Sl Int)) (zdV S3 l k c ((q+1:Nat):Int) v)) (zdV S3 l k c ((q+1:Nat):Int) v):=by
   rw[← hw]
   show ziC S3 l (zdV S3 l k) c (q:Int) v=_
   generalize zdV S3 l k=S
   unfold ziC
   rw[decide_eq_true (show (q:Int) < (l.len:Int) by omega),cond_true,Int.toNat_natCast,e1,e2,e3]
  have hP:zdW P3 l (k+1) c (q:Int) v=cond (v.get y.from_.toNat != (1000000000000:Int)) (cond (decide (w64 (v.get y.from_.toNat+y.length) < v.get y.to.toNat)) (zdW P3 l k true ((q+1:Nat):Int) (⟨v.len,setT y.to.toNat (w64 (v.get y.from_.toNat+y.length)) v.get⟩:Sl Int)) (zdW P3 l k c ((q+1:Nat):Int) v)) (zdW P3 l k c ((q+1:Nat):Int) v):=by
   rw[← hw]
   show ziD P3 l (zdW P3 l k) c (q:Int) v=_
   generalize zdW P3 l k=S
   unfold ziD
   simp only[Int.toNat_natCast,e1,e2,e3]
   rw[decide_eq_true (show (q:Int) < (l.len:Int) by omega),cond_true,decide_eq_true (show 0≤(q:Int)/\(q:Int) < (l.len:Int) by omega),decide_eq_true (show 0≤y.from_/\y.from_ < (v.len:Int) by omega),decide_eq_true (show y.from_.toNat < v.len by omega),decide_eq_true (show 0≤y.to/\y.to < (v.len:Int) by omega),decide_eq_true (show y.to.toNat < v.len by omega)]
   cases (v.get y.from_.toNat != (1000000000000:Int)) <;> cases decide (w64 (v.get y.from_.toNat+y.length) < v.get y.to.toNat) <;> rfl
  rw[hS,hP]
  show ∃ v',_=S3 (((L.drop (q+1)).map edS).foldl rlF (rlF (d,c) (edS y))).2 v'/\_=P3 (((L.drop (q+1)).map edS).foldl rlF (rlF (d,c) (edS y))).2 v'/\Rq N v' (((L.drop (q+1)).map edS).foldl rlF (rlF (d,c) (edS y))).1
  cases hdu:d y.from_.toNat with
  | none =>
   rw[hdu] at af
   have hr:rlF (d,c) (edS y)=(d,c):=by
    unfold rlF edS
    simp only[hdu]
   rw[hr,show (v.get y.from_.toNat != (1000000000000:Int))=false by rw[af];rfl]
   simp only[cond_false]
   exact ih k (q+1) c v d (by omega) (by omega) hv hi
  | some x =>
   have hbx:=zDJ hE hs hi hdu
   rw[hdu] at af
   have af':v.get y.from_.toNat=x:=af
   have hne:x ≠ 1000000000000:=by omega
   have hr:rlF (d,c) (edS y)=cond (ltO (x+y.length) (d y.to.toNat)) (zi1 d y.to.toNat (x+y.length),true) (d,c):=by
    unfold rlF edS
    simp only[hdu] <;> rfl
   have hlt:decide (x+y.length < v.get y.to.toNat)=ltO (x+y.length) (d y.to.toNat):=by
    rw[at_]
    cases hdv:d y.to.toNat with
    | none=>exact decide_eq_true (show x+y.length < 1000000000000 by omega)
    | some z=>rfl
   rw[af',bne_iff_ne.2 hne,zbx (x:=x+y.length) (by omega) (by omega),hlt]
   simp only[cond_true]
   rw[hr] at hin ⊢
   cases hlo:ltO (x+y.length) (d y.to.toNat) with
   | false =>
    simp only[cond_false]
    exact ih k (q+1) c v d (by omega) (by omega) hv hi
   | true =>
    rw[hlo] at hin
    simp only[cond_true] at hin ⊢
    refine ih k (q+1) true _ _ (by omega) (by omega) ⟨hvl,λ i hi'=>?_⟩ hin
    show setT y.to.toNat (x+y.length) v.get i=zLs (zi1 d y.to.toNat (x+y.length) i)
    rw[zi3]
    unfold zi1
    by_cases h:i=y.to.toNat
    ·rw[if_pos h,if_pos h];rfl
    ·rw[if_neg h,if_neg h];exact hv.at_ i hi'
end Go.Proofs
namespace Go.Proofs
open Go Go.Pm
set_option maxRecDepth 100000
set_option linter.unusedVariables false
theorem zrM (n:Net) (l:Sl Step) (hl:IsL l (Ws (W n))) (hnet:NetOk n) (hn:za8 (En n)) {s:Nat}(hs:s < n.Nodes.toNat):∀ (m k:Nat) (v:Sl Int) (d:zby),Rq n.Nodes.toNat v d->Inv (En n) (λ v=>v=s) d->Fix (En n) (rds (En n) m d)->m+1 < k ->
  zc1 l k true v=true/\Rq n.Nodes.toNat (zcP l k true v) (rds (En n) m d):=by
 have hlen:=hnet.len
 have hE:EdOk (En n) n.Nodes.toNat:=ztr (a:=W n) hnet
 have hL:(Ws (W n)).length≤400:=zzT (a:=W n) hnet
 have one:∀ (k:Nat) (v:Sl Int) (d:zby),Rq n.Nodes.toNat v d->Inv (En n) (λ v=>v=s) d ->
   ∃ v',zcP l (k+1) true v=zcP l k ((En n).foldl rlF (d,false)).2 v'/\zc1 l (k+1) true v=zc1 l k ((En n).foldl rlF (d,false)).2 v'/\Rq n.Nodes.toNat v' (rnd (En n) d):=by
  intro k v d h1 h2
  obtain⟨v',k1,k2,k3⟩:=zHH n hE hn hs l (Ws (W n)) hl (λ y hy=>⟨zHy (a:=W n) hnet hy,List.mem_map_of_mem hy⟩) (by omega) (zcP l k) (zc1 l k) (Ws (W n)).length Fuel 0 false v d (by omega) (by simp only[Fuel];omega) h1 h2
  rw[List.drop_zero] at k1 k2 k3
  have e1:zcP l (k+1) true v=zdV (zcP l k) l Fuel false ((0:Nat):Int) v:=by
   show zk4 l (zcP l k) true v=_
   generalize zcP l k=S
   unfold zk4 zqX
   rw[cond_true];rfl
  have e2:zc1 l (k+1) true v=zdW (zc1 l k) l Fuel false ((0:Nat):Int) v:=by
   show zk5 l (zc1 l k) true v=_
   generalize zc1 l k=S
   unfold zk5 zqY
   rw[cond_true];rfl
  exact⟨v',e1.trans k1,e2.trans k2,k3⟩
 have stop:∀ (k:Nat) (v:Sl Int),zcP l (k+1) false v=v/\zc1 l (k+1) false v=true:=λ k v=>by
  constructor
  ·show zk4 l (zcP l k) false v = v
   generalize zcP l k=S
   rfl
  ·show zk5 l (zc1 l k) false v = true
   generalize zc1 l k=S
   rfl
 intro m
 induction m with
 | zero =>
  intro k v d h1 h2 h3 hk
  obtain⟨k,rfl⟩:∃ k',k=k'+1+1:=⟨k - 2,by omega⟩
  obtain⟨v',k1,k2,k3⟩:=one (k+1) v d h1 h2
  have h3':Fix (En n) d:=h3
  rw[zhL h3'] at k1 k2
  rw[zha h3'] at k3
  obtain⟨j1,j2⟩:=stop k v'
  refine⟨k2.trans j2,?_⟩
  rw[k1.trans j1];exact k3
 | succ m ih =>
  intro k v d h1 h2 h3 hk
  obtain⟨k,rfl⟩:∃ k',k=k'+1+1:=⟨k - 2,by omega⟩
  obtain⟨v',k1,k2,k3⟩:=one (k+1) v d h1 h2
  cases hf:((En n).foldl rlF (d,false)).2 with
  | false =>
   rw[hf] at k1 k2
   have hx:Fix (En n) d:=zgs hf
   obtain⟨j1,j2⟩:=stop k v'
   refine⟨k2.trans j2,?_⟩
   rw[k1.trans j1,zrE hx]
   rw[zha hx] at k3;exact k3
  | true =>
   rw[hf] at k1 k2
   obtain⟨m1,m2⟩:=ih (k+1) v' (rnd (En n) d) k3 (zjK hn (λ _ h=>h) (s:=(d,false)) h2) h3 (by omega)
   refine⟨k2.trans m1,?_⟩
   rw[k1];exact m2
theorem zz7 (n:Net) (a:Int) (l:Sl Step):∀ (m k i:Nat) (v:Sl Int),(v.len:Int)=n.Nodes->n.Nodes≤40->(∀ j,j < i->v.get j=1000000000000)->(i:Int)+m=n.Nodes->m < k ->
  ∃ v',ziG n a l k (i:Int) v=zq0 a l v'/\ziH n a l k (i:Int) v=znq a l v'/\v'.len=v.len/\∀ j,j < v.len->v'.get j=1000000000000:=by
 intro m
 induction m with
 | zero =>
  intro k i v hv h40 h hi hk
  obtain⟨k,rfl⟩:∃ k',k=k'+1:=⟨k - 1,by omega⟩
  refine⟨v,?_,?_,rfl,λ j hj=>h j (by omega)⟩
  ·show ziE n a l (ziG n a l k) (i : Int) v = _
   unfold ziE
   rw[decide_eq_false (show ¬ (i:Int) < n.Nodes by omega),cond_false]
  ·show ziF n a l (ziH n a l k) (i : Int) v = _
   unfold ziF
   rw[decide_eq_false (show ¬ (i:Int) < n.Nodes by omega),cond_false]
 | succ m ih =>
  intro k i v hv h40 h hi hk
  obtain⟨k,rfl⟩:∃ k',k=k'+1:=⟨k - 1,by omega⟩
  have hw:w64 ((i:Int)+(1:Int))=((i+1:Nat):Int):=by rw[zbx (by omega) (by omega)];omega
  obtain⟨v',k1,k2,k3,k4⟩:=ih k (i+1) (⟨v.len,setT i (1000000000000:Int) v.get⟩:Sl Int) hv h40 (λ j hj=>by
   show setT i (1000000000000:Int) v.get j=_
   rw[zi3]
   by_cases hq:j=i
   ·rw[if_pos hq]
   ·rw[if_neg hq];exact h j (by omega)) (by omega) (by omega)
  refine⟨v',?_,?_,k3,k4⟩
  ·rw [← k1]
   show ziE n a l (ziG n a l k) (i:Int) v=_
   unfold ziE
   rw[decide_eq_true (show (i:Int) < n.Nodes by omega),cond_true,Int.toNat_natCast,hw]
  ·rw [← k2]
   show ziF n a l (ziH n a l k) (i:Int) v=_
   unfold ziF
   rw[decide_eq_true (show (i:Int) < n.Nodes by omega),cond_true,Int.toNat_natCast,hw,decide_eq_true (show 0≤(i:Int)/\(i:Int) < (v.len:Int) by omega),decide_eq_true (show i < v.len by omega)];rfl
theorem zz8 {n:Net}(hn:NetOk n) (hN:za8 (En n)) {a:Int}(h0:0≤a) (h1:a < n.Nodes):p46 n a=true/\(s46 n a).len=n.Nodes.toNat/\∀ j,j < n.Nodes.toNat->(s46 n a).get j=fr n a.toNat j:=by
 have hlen:=hn.len;have hn1:=hn.n1;have hn40:=hn.n40
 have hE:EdOk (En n) n.Nodes.toNat:=ztr (a:=W n) hn
 have hs:a.toNat < n.Nodes.toNat:=by omega
 have hq:=(zts n (by omega)).1
 obtain⟨v1,a1,a2,a3,a4⟩:=zz7 n a (s77 n) n.Nodes.toNat Fuel 0 (⟨n.Nodes.toNat,(λ _=>(0:Int))⟩:Sl Int) (by show ((n.Nodes.toNat:Nat):Int)=_;omega) hn40 (λ j hj=>absurd hj (Nat.not_lt_zero _)) (by omega) (by simp only[Fuel];omega)
 have a3':v1.len=n.Nodes.toNat:=a3
 have hr:Rq n.Nodes.toNat (⟨v1.len,setT a.toNat (0:Int) v1.get⟩:Sl Int) (zoY a.toNat):=⟨a3',λ i hi=>by
  show setT a.toNat (0:Int) v1.get i=zLs (zoY a.toNat i)
  rw[zi3]
  unfold zoY
  by_cases h:i=a.toNat
  ·rw[if_pos h,if_pos h];rfl
  ·rw[if_neg h,if_neg h];exact a4 i hi⟩
 obtain⟨b1,b2⟩:=zrM n (s77 n) (zts n (by omega)).2 hn hN hs (n.Nodes.toNat - 1) Fuel (⟨v1.len,setT a.toNat (0:Int) v1.get⟩:Sl Int) (zoY a.toNat) hr (zdY (zc2 a.toNat)) (zz5 hE hN hs) (by simp only[Fuel];omega)
 have e:s46 n a=zcP (s77 n) Fuel true (⟨v1.len,setT a.toNat (0:Int) v1.get⟩:Sl Int):=by
  show ziG n a (s77 n) Fuel 0 (⟨n.Nodes.toNat,(λ _=>(0:Int))⟩:Sl Int)=_
  exact Eq.trans a1 rfl
 refine⟨?_,?_,λ j hj=>?_⟩
 ·unfold p46 zq1
  rw[hq,decide_eq_true (show 0≤n.Nodes/\n.Nodes=n.Nodes/\n.Nodes≤1000000 from ⟨by omega,rfl,by omega⟩)]
  show ziH n a (s77 n) Fuel 0 (⟨n.Nodes.toNat,(λ _=>(0:Int))⟩:Sl Int)=true
  refine Eq.trans a2 ?_
  unfold znq zqZ
  rw[decide_eq_true (show 0≤a/\a < (v1.len:Int) by omega),decide_eq_true (show a.toNat < v1.len by omega),Bool.true_and,Bool.true_and]
  exact b1
 ·rw[e];exact b2.len
 ·rw [e, b2.at_ j hj]
  exact zHG hE hN hs
theorem zDK {n:Net}(hn:NetOk n) (hN:za8 (En n)) {i j:Int}(hi:0≤i/\i < n.Nodes) (hj:0≤j/\j < n.Nodes):p34 n i j=true/\s34 n i j=⟨-fr n j.toNat i.toNat,fr n i.toNat j.toNat⟩:=by
 obtain⟨a1,a2,a3⟩:=zz8 hn hN hj.1 hj.2
 obtain⟨b1,b2,b3⟩:=zz8 hn hN hi.1 hi.2
 have hb:=zjO hn hN (i:=j.toNat) (j:=i.toNat) (by omega)
 unfold p34 s34
 rw[a1,b1,a2,b2,a3 i.toNat (by omega),b3 j.toNat (by omega),zbx (by omega) (by omega)]
 constructor
 ·rw[decide_eq_true (show 0≤i/\i < (n.Nodes.toNat:Int) by omega),decide_eq_true (show 0≤j/\j < (n.Nodes.toNat:Int) by omega)];rfl
 ·rw[show (0:Int) - fr n j.toNat i.toNat = -fr n j.toNat i.toNat by omega]
end Go.Proofs
namespace Go.Proofs
open Go Go.Pm
set_option maxRecDepth 100000
set_option linter.unusedVariables false
def apL {α:Type}(l:Nat->α) (i:Nat) (v:Sl α):Sl α:=⟨v.len+1,zgi v.len v.get (λ _=>l i)⟩
theorem zK9 {α:Type}(l:Nat->α):∀ (m i:Nat) (v:Sl α),v.len=i->(∀ j,j < i->v.get j=l j)->(zfe (apL l) m i v).len=i+m/\∀ j,j < i+m->(zfe (apL l) m i v).get j=l j:=by
 intro m
 induction m with
 | zero=>intro i v h1 h2;exact⟨h1,λ j hj=>h2 j (by omega)⟩
 | succ m ih =>
  intro i v h1 h2
  obtain⟨k1,k2⟩:=ih (i+1) (apL l i v) (by show v.len+1=i+1;omega) (λ j hj=>by
   show zgi v.len v.get (λ _=>l i) j=_
   rw[zzZ]
   by_cases h:v.len≤j
   ·rw[if_pos h,show j=i by omega]
   ·rw[if_neg h];exact h2 j (by omega))
  exact⟨k1.trans (by omega),λ j hj=>k2 j (by omega)⟩
end Go.Proofs
namespace Go.Proofs
open Go Go.Pm
set_option maxRecDepth 100000
set_option linter.unusedVariables false
theorem zz9 {n:Net}(hn:NetOk n) (hN:za8 (En n)):p33 n=true/\(s33 n).len=n.Nodes.toNat/\∀ i,i < n.Nodes.toNat->(s33 n).get i=⟨-fr n i 0,fr n 0 i⟩:=by
  have hn1:=hn.n1;have hn40:=hn.n40
  have hs:=λ (i:Nat) (hi:i < n.Nodes.toNat)=>zDK hn hN (i:=0) (j:=(i:Int)) ⟨Int.le_refl _,by omega⟩ ⟨by omega,by omega⟩
  have hl := zf9 (step := (apL fun i => (⟨-fr n i 0, fr n 0 i⟩ : Span))) (E := fun v => v) (EP := fun _ => true) (Inv := fun i (v : Sl Span) => v.len = i) (a := 0) (n := n.Nodes.toNat) (lpS := fun k v i => zg2 n k i v) (lpP := fun k v i => zg3 n k i v)
    (λ k i v hai hi hv=>by
      show ziI n (zg2 n k) (i:Int) v=zg2 n k (w64 ((i:Int)+(1:Int))) ((apL λ i=>(⟨-fr n i 0,fr n 0 i⟩:Span)) i v)
      generalize zg2 n k=S
      have hv':v.len=i:=hv
      unfold ziI
      rw[decide_eq_true (show (i:Int) < n.Nodes by omega),cond_true,(hs i hi).2]
      rfl)
    (λ k v=>by
      show ziI n (zg2 n k) ((n.Nodes.toNat:Nat):Int) v=_
      unfold ziI
      rw[decide_eq_false (show ¬ ((n.Nodes.toNat:Nat):Int) < n.Nodes by omega),cond_false]
      )
    (λ k i v hai hi hv=>by
      show ziJ n (zg3 n k) (i:Int) v=zg3 n k (w64 ((i:Int)+(1:Int))) ((apL λ i=>(⟨-fr n i 0,fr n 0 i⟩:Span)) i v)
      generalize zg3 n k=S
      have hv':v.len=i:=hv
      unfold ziJ
      rw[decide_eq_true (show (i:Int) < n.Nodes by omega),cond_true,(hs i hi).1,(hs i hi).2,decide_eq_true (show (v.len+1) * 16≤140737488355328/\v.len+1≤9223372036854775807 by omega)]
      rfl)
    (λ k v=>by
      show ziJ n (zg3 n k) ((n.Nodes.toNat:Nat):Int) v=_
      unfold ziJ
      rw[decide_eq_false (show ¬ ((n.Nodes.toNat:Nat):Int) < n.Nodes by omega),cond_false]
      )
    (λ i v _ _ hh=>by show v.len+1=i+1;have hh':v.len=i:=hh;omega) (Nat.zero_le _) (by omega) (⟨0,(λ _=>default)⟩:Sl Span) rfl
  obtain⟨k1,k2⟩:=zK9 (λ i=>(⟨-fr n i 0,fr n 0 i⟩:Span)) (n.Nodes.toNat - 0) 0 (⟨0,(λ _=>default)⟩:Sl Span) rfl (λ j hj=>absurd hj (Nat.not_lt_zero _))
  refine⟨hl.1,?_⟩
  have e:s33 n=zfe (apL λ i=>(⟨-fr n i 0,fr n 0 i⟩:Span)) (n.Nodes.toNat - 0) 0 (⟨0,(λ _=>default)⟩:Sl Span):=hl.2
  rw[e]
  exact⟨k1.trans (by omega),λ i hi=>k2 i (by omega)⟩
end Go.Proofs
namespace Go.Proofs
open Go Go.Pm
set_option maxRecDepth 100000
set_option linter.unusedVariables false
theorem zjq {T:Tab}{k:Nat}(hk:k < 80):zas (zaf T) k=T k:=zc3 hk
theorem zB9 {n:Net}(hn:NetOk n) (hN:za8 (En n)) {i j:Nat}(hi:i < n.Nodes.toNat) (h:fr n i j ≠ 1000000000000):∃ c,zft (En n) i c j/\fr n i j=wt c/\c.length < n.Nodes.toNat:=by
 have hE:EdOk (En n) n.Nodes.toNat:=ztr (a:=W n) hn
 rcases zcp (v:=j) hE hN hi with ⟨_,h2⟩ | ⟨c,_,h1,h2,h3,_⟩
 ·exact absurd h2 h
 ·exact⟨c,h1,h2,h3⟩
theorem zCa {n:Net}(hn:NetOk n) (hN:za8 (En n)) {i j:Nat}(hi:i < n.Nodes.toNat){c:List Ed}(hc:zft (En n) i c j):fr n i j≤wt c/\fr n i j ≠ 1000000000000/\-40000000000≤fr n i j/\fr n i j≤40000000000:=by
 have hE:EdOk (En n) n.Nodes.toNat:=ztr (a:=W n) hn
 have h1:fr n i j≤wt c:=zld hE hN hi hc
 obtain⟨x,hx,_⟩:=zzQ hE hN hi hc
 rcases zcp (v:=j) hE hN hi with ⟨h2,_⟩ | ⟨c',_,_,h2,_,h3,h4⟩
 ·rw[h2] at hx;cases hx
 ·have : fr n i j = wt c' := h2
  exact⟨h1,by omega,by omega,by omega⟩
theorem zLt {n:Net}(hn:NetOk n) (hN:za8 (En n)) {i j:Nat}(hi:i < n.Nodes.toNat) (h:fr n i j ≠ 1000000000000) : -40000000000≤fr n i j/\fr n i j≤40000000000:=by
 obtain⟨c,h1,_⟩:=zB9 hn hN hi h
 exact (zCa hn hN hi h1).2.2
theorem zrN {n:Net}(hn:NetOk n) (hN:za8 (En n)) {i:Nat}(hi:i < n.Nodes.toNat):fr n i i=0:=by
 obtain⟨h1,h2,_⟩:=zCa hn hN hi (c:=[]) (j:=i) rfl
 obtain⟨c,h3,h4,_⟩:=zB9 hn hN hi h2
 have h5:=hN i c h3
 have h1':fr n i i≤0:=h1
 omega
theorem ztu {n:Net}(hn:NetOk n) (hN:za8 (En n)) {i j k:Nat}(hi:i < n.Nodes.toNat) (hj:j < n.Nodes.toNat) (h1:fr n i j ≠ 1000000000000) (h2:fr n j k ≠ 1000000000000):fr n i k≤fr n i j+fr n j k/\fr n i k ≠ 1000000000000:=by
 obtain⟨c,a1,a2,_⟩:=zB9 hn hN hi h1
 obtain⟨d,b1,b2,_⟩:=zB9 hn hN hj h2
 obtain⟨e1,e2,_⟩:=zCa hn hN hi (zcQ.2 ⟨j,a1,b1⟩)
 rw[zgE] at e1
 exact⟨by omega,e2⟩
theorem zAa {n:Net}(hn:NetOk n) (hN:za8 (En n)) {e:Ed}(he:e∈En n):fr n e.u e.v≤e.w/\fr n e.u e.v ≠ 1000000000000:=by
 have hE:EdOk (En n) n.Nodes.toNat:=ztr (a:=W n) hn
 obtain⟨h1,h2,_⟩:=zCa hn hN (hE.lt e he).1 (zc8 he)
 rw[zhK] at h1
 exact⟨h1,h2⟩
theorem zl1 {n:Net}(hn:NetOk n){v:Sl Int}(hl:v.len=n.Nodes.toNat) (h0:v.get 0=0) (hb:∀ i,i < v.len->-1000000000000≤v.get i/\v.get i≤1000000000000) (hp:∀ e∈En n,v.get e.v≤v.get e.u+e.w):AgOk n v:=by
 have hn1:=hn.n1
 refine⟨⟨by omega,h0,hb⟩,λ i hi=>⟨?_,?_⟩⟩
 ·by_cases h : (n.Ties.get i).Low = -1000000000000
  ·exact .inl h
  ·have := hp ⟨(n.Ties.get i).To.toNat, (n.Ties.get i).From.toNat, -(n.Ties.get i).Low⟩ ((zDD (a := W n) hn).2 ⟨i, hi, rfl, .inr ⟨h, rfl⟩⟩)
   have this':v.get (n.Ties.get i).From.toNat≤v.get (n.Ties.get i).To.toNat + -(n.Ties.get i).Low:=this
   exact .inr (by omega)
 ·by_cases h : (n.Ties.get i).High = 1000000000000
  ·exact .inl h
  ·have := hp ⟨(n.Ties.get i).From.toNat, (n.Ties.get i).To.toNat, (n.Ties.get i).High⟩ ((zDD (a := W n) hn).2 ⟨i, hi, rfl, .inl ⟨h, rfl⟩⟩)
   have this':v.get (n.Ties.get i).To.toNat≤v.get (n.Ties.get i).From.toNat+(n.Ties.get i).High:=this
   exact .inr (by omega)
def zo1 (n:Net):Prop:=∀ i,i < n.Nodes.toNat->fr n 0 i ≠ 1000000000000/\fr n i 0 ≠ 1000000000000
def nvq (x y:Int):Bool:=match (x == (1000000000000:Int)) with | true=>(match (y == (0:Int)) with | true=>true | false=>false) | false=>false
theorem zDL (x y:Int):nvq x y=decide ((x,y)=((1000000000000:Int),(0:Int))):=znD x y
theorem zo2 {E:List Ed}{n s v:Nat}(hE:EdOk E n) (hN:za8 E) (hs:s < n):(zKW (dst E n s v)=((1000000000000:Int),(0:Int)))↔zBZ (dst E n s v)=1000000000000:=by
 rcases zcp (v:=v) hE hN hs with ⟨h1,h2⟩ | ⟨c,_,_,h2,_,h3,h4⟩
 ·rw[h1];exact⟨λ _=>rfl,λ _=>rfl⟩
 ·exact⟨λ h=>(Prod.mk.inj h).1,λ h=>absurd h (by omega)⟩
theorem zAb {n:Net}(hn:NetOk n) (hN:za8 (En n)):p83 (W n)=true/\(s83 (W n)=true↔zo1 n):=by
  have hn1:=hn.n1;have hn40:=hn.n40
  have hE:EdOk (En n) n.Nodes.toNat:=ztr (a:=W n) hn
  obtain⟨a1,a2⟩:=zDF (W n) hn hN 0 (Int.le_refl _) (show (0:Int) < n.Nodes by omega)
  obtain⟨b1,b2⟩:=zDE (W n) hn hN 0 (Int.le_refl _) (show (0:Int) < n.Nodes by omega)
  have hto:∀ i,i < n.Nodes.toNat->nvq (s75 (W n) 0 (i * 2)) (s75 (W n) 0 (i * 2+1))=decide (fr n i 0=1000000000000):=λ i hi=>by
    rw[zDL]
    refine decide_eq_decide.2 ?_
    rw[a2 i hi]
    exact (zo2 hE.R (zlc hN) (show 0 < n.Nodes.toNat by omega)).trans (by rw[zDG hE hN (show 0 < n.Nodes.toNat by omega) hi];exact Iff.rfl)
  have hfr:∀ i,i < n.Nodes.toNat->nvq (s76 (W n) 0 (i * 2)) (s76 (W n) 0 (i * 2+1))=decide (fr n 0 i=1000000000000):=λ i hi=>by
    rw[zDL]
    refine decide_eq_decide.2 ?_
    rw[b2 i hi]
    exact zo2 hE hN (show 0 < n.Nodes.toNat by omega)
  unfold p83 s83 zqk zqj zqi zqh
  rw[a1,b1]
  clear a1 b1
  generalize s75 (W n) 0=T1 at *
  generalize s76 (W n) 0=T2 at *
  have hl := zfd (good := fun i => !decide (fr n i 0 = 1000000000000) && !decide (fr n 0 i = 1000000000000)) (fin := true) (n := n.Nodes.toNat) (lpS := fun k i => zgS (W n) k i T1 T2) (lpP := fun k i => zgT (W n) k i T1 T2)
    (λ k i hi=>by
      show zio (W n) (zgS (W n) k) (i:Int) T1 T2=_
      show _=cond _ (zgS (W n) k (w64 ((i:Int)+(1:Int))) T1 T2) false
      generalize zgS (W n) k=S
      have e:zio (W n) S (i:Int) T1 T2=cond (decide ((i:Int) < n.Nodes)) (cond (nvq (tg 80 T1 (0+((i:Int)).toNat * 2+0)) (tg 80 T1 (0+((i:Int)).toNat * 2+0+1))) false (cond (nvq (tg 80 T2 (0+((i:Int)).toNat * 2+0)) (tg 80 T2 (0+((i:Int)).toNat * 2+0+1))) false (S (w64 ((i:Int)+(1:Int))) T1 T2))) true:=rfl
      rw[e,Int.toNat_natCast,show 0+i * 2+0=i * 2 by omega,zc3 (by omega),zc3 (by omega),zc3 (by omega),zc3 (by omega),hto i hi,hfr i hi,decide_eq_true (show (i:Int) < n.Nodes by omega)]
      cases decide (fr n i 0=1000000000000) <;> cases decide (fr n 0 i=1000000000000) <;> rfl)
    (λ k=>by
      show zio (W n) (zgS (W n) k) (n.Nodes.toNat:Int) T1 T2=_
      unfold zio
      rw[decide_eq_false (show ¬ (n.Nodes.toNat:Int) < (W n).Net.Nodes by show ¬ (n.Nodes.toNat:Int) < n.Nodes;omega),cond_false])
    (λ k i hi=>by
      show ziq (W n) (zgT (W n) k) (i:Int) T1 T2=_
      show _=cond _ (zgT (W n) k (w64 ((i:Int)+(1:Int))) T1 T2) true
      generalize zgT (W n) k=S
      have e:ziq (W n) S (i:Int) T1 T2=cond (decide ((i:Int) < n.Nodes)) (decide (0≤(i:Int)/\(i:Int) < (40:Int)) && cond (nvq (tg 80 T1 (0+((i:Int)).toNat * 2+0)) (tg 80 T1 (0+((i:Int)).toNat * 2+0+1))) true (decide (0≤(i:Int)/\(i:Int) < (40:Int)) && cond (nvq (tg 80 T2 (0+((i:Int)).toNat * 2+0)) (tg 80 T2 (0+((i:Int)).toNat * 2+0+1))) true (S (w64 ((i:Int)+(1:Int))) T1 T2))) true:=rfl
      rw[e,Int.toNat_natCast,show 0+i * 2+0=i * 2 by omega,zc3 (by omega),zc3 (by omega),zc3 (by omega),zc3 (by omega),hto i hi,hfr i hi,decide_eq_true (show (i:Int) < n.Nodes by omega),decide_eq_true (show 0≤(i:Int)/\(i:Int) < (40:Int) by omega)]
      cases decide (fr n i 0=1000000000000) <;> cases decide (fr n 0 i=1000000000000) <;> rfl)
    (λ k=>by
      show ziq (W n) (zgT (W n) k) (n.Nodes.toNat:Int) T1 T2=_
      unfold ziq
      rw[decide_eq_false (show ¬ (n.Nodes.toNat:Int) < (W n).Net.Nodes by show ¬ (n.Nodes.toNat:Int) < n.Nodes;omega),cond_false])
    (by omega)
  obtain⟨k1,k2⟩:=hl
  refine⟨by simp only[decide_true,Bool.true_and];exact k1,Iff.trans k2 ⟨λ h i hi=>?_,λ h=>⟨λ i hi=>?_,rfl⟩⟩⟩
  · have := h.1 i hi
    simp only[Bool.and_eq_true,Bool.not_eq_true',decide_eq_false_iff_not] at this
    exact⟨this.2,this.1⟩
  · obtain ⟨h1, h2⟩ := h i hi
    simp only[Bool.and_eq_true,Bool.not_eq_true',decide_eq_false_iff_not]
    exact⟨h2,h1⟩
def stV (g:Nat->Int) (i:Nat) (v:Sl Int):Sl Int:=⟨v.len,setT i (g i) v.get⟩
theorem zAc (g:Nat->Int):∀ (m i:Nat) (v:Sl Int),(∀ j,j < i->v.get j=g j)->(zfe (stV g) m i v).len=v.len/\∀ j,j < i+m->(zfe (stV g) m i v).get j=g j:=by
 intro m
 induction m with
 | zero=>intro i v h;exact⟨rfl,λ j hj=>h j (by omega)⟩
 | succ m ih =>
  intro i v h
  obtain⟨k1,k2⟩:=ih (i+1) (stV g i v) (λ j hj=>by
   show setT i _ v.get j=_
   rw[zi3]
   by_cases hji:j=i
   ·rw[if_pos hji,hji]
   ·rw[if_neg hji];exact h j (by omega))
  exact⟨k1,λ j hj=>k2 j (by omega)⟩

theorem zLa {n:Net}(hn:NetOk n) (T:Tab) (g:Nat->Int) (hg:∀ i,i < n.Nodes.toNat->p87 (zas (zaf T)) (i:Int)=true/\s87 (zas (zaf T)) (i:Int)=g i):p84 T (W n)=true/\(s84 T (W n)).len=n.Nodes.toNat/\∀ i,i < n.Nodes.toNat->(s84 T (W n)).get i=g i:=by
  have hn1:=hn.n1;have hn40:=hn.n40
  have hl := zf9 (step := stV g) (E := fun v => v) (EP := fun _ => true) (Inv := fun _ (v : Sl Int) => v.len = n.Nodes.toNat) (a := 0) (n := n.Nodes.toNat) (lpS := fun k v i => zgU T (W n) k i v) (lpP := fun k v i => zgV T (W n) k i v)
    (λ k i v _ hi hv=>by
      show zir T (W n) (zgU T (W n) k) (i:Int) v=zgU T (W n) k (w64 ((i:Int)+(1:Int))) (stV g i v)
      generalize zgU T (W n) k=S
      unfold zir stV
      rw[decide_eq_true (show (i:Int) < ((W n).Net.Nodes.toNat:Int) by show (i:Int) < (n.Nodes.toNat:Int);omega),cond_true,(hg i hi).2,Int.toNat_natCast])
    (λ k v=>by
      show zir T (W n) (zgU T (W n) k) (n.Nodes.toNat:Int) v=_
      unfold zir
      rw[decide_eq_false (show ¬ (n.Nodes.toNat:Int) < ((W n).Net.Nodes.toNat:Int) by show ¬ (n.Nodes.toNat:Int) < (n.Nodes.toNat:Int);omega),cond_false])
    (λ k i v _ hi hv=>by
      show zis T (W n) (zgV T (W n) k) (i:Int) v=zgV T (W n) k (w64 ((i:Int)+(1:Int))) (stV g i v)
      generalize zgV T (W n) k=S
      have hv':v.len=n.Nodes.toNat:=hv
      unfold zis stV
      rw[decide_eq_true (show (i:Int) < ((W n).Net.Nodes.toNat:Int) by show (i:Int) < (n.Nodes.toNat:Int);omega),cond_true,(hg i hi).2,(hg i hi).1,Int.toNat_natCast,decide_eq_true (show 0≤(i:Int)/\(i:Int) < (v.len:Int) by omega),decide_eq_true (show i < v.len by omega)];rfl)
    (λ k v=>by
      show zis T (W n) (zgV T (W n) k) (n.Nodes.toNat:Int) v=_
      unfold zis
      rw[decide_eq_false (show ¬ (n.Nodes.toNat:Int) < ((W n).Net.Nodes.toNat:Int) by show ¬ (n.Nodes.toNat:Int) < (n.Nodes.toNat:Int);omega),cond_false])
    (λ i v _ _ h=>h) (Nat.zero_le _) (by omega) (⟨n.Nodes.toNat,(λ _=>(0:Int))⟩:Sl Int) rfl
  obtain⟨k1,k2⟩:=zAc g (n.Nodes.toNat - 0) 0 (⟨n.Nodes.toNat,(λ _=>(0:Int))⟩:Sl Int) (λ j hj=>absurd hj (Nat.not_lt_zero _))
  have e:s84 T (W n)=zfe (stV g) (n.Nodes.toNat - 0) 0 (⟨n.Nodes.toNat,(λ _=>(0:Int))⟩:Sl Int):=hl.2
  refine⟨?_,by rw[e];exact k1,λ i hi=>by rw[e];exact k2 i (by omega)⟩
  unfold p84
  rw[decide_eq_true (show 0≤(W n).Net.Nodes/\(W n).Net.Nodes=(W n).Net.Nodes/\(W n).Net.Nodes≤1000000 from ⟨by show 0≤n.Nodes;omega,rfl,by show n.Nodes≤1000000;omega⟩)]
  exact hl.1


theorem zHI {n:Net}(hn:NetOk n) (T:Tab) (g:Nat->Int) (hg:∀ i,i < n.Nodes.toNat->p85 (zas (zaf T)) (i:Int)=true/\s85 (zas (zaf T)) (i:Int)=g i):zHR T (W n)=true/\(zwq T (W n)).len=n.Nodes.toNat/\∀ i,i < n.Nodes.toNat->(zwq T (W n)).get i=g i:=by
  have hn1:=hn.n1;have hn40:=hn.n40
  have hl := zf9 (step := stV g) (E := fun v => v) (EP := fun _ => true) (Inv := fun _ (v : Sl Int) => v.len = n.Nodes.toNat) (a := 0) (n := n.Nodes.toNat) (lpS := fun k v i => ze0 T (W n) k i v) (lpP := fun k v i => ze1 T (W n) k i v)
    (λ k i v _ hi hv=>by
      show zgn T (W n) (ze0 T (W n) k) (i:Int) v=ze0 T (W n) k (w64 ((i:Int)+(1:Int))) (stV g i v)
      generalize ze0 T (W n) k=S
      unfold zgn stV
      rw[decide_eq_true (show (i:Int) < ((W n).Net.Nodes.toNat:Int) by show (i:Int) < (n.Nodes.toNat:Int);omega),cond_true,(hg i hi).2,Int.toNat_natCast])
    (λ k v=>by
      show zgn T (W n) (ze0 T (W n) k) (n.Nodes.toNat:Int) v=_
      unfold zgn
      rw[decide_eq_false (show ¬ (n.Nodes.toNat:Int) < ((W n).Net.Nodes.toNat:Int) by show ¬ (n.Nodes.toNat:Int) < (n.Nodes.toNat:Int);omega),cond_false])
    (λ k i v _ hi hv=>by
      show zgo T (W n) (ze1 T (W n) k) (i:Int) v=ze1 T (W n) k (w64 ((i:Int)+(1:Int))) (stV g i v)
      generalize ze1 T (W n) k=S
      have hv':v.len=n.Nodes.toNat:=hv
      unfold zgo stV
      rw[decide_eq_true (show (i:Int) < ((W n).Net.Nodes.toNat:Int) by show (i:Int) < (n.Nodes.toNat:Int);omega),cond_true,(hg i hi).2,(hg i hi).1,Int.toNat_natCast,decide_eq_true (show 0≤(i:Int)/\(i:Int) < (v.len:Int) by omega),decide_eq_true (show i < v.len by omega)];rfl)
    (λ k v=>by
      show zgo T (W n) (ze1 T (W n) k) (n.Nodes.toNat:Int) v=_
      unfold zgo
      rw[decide_eq_false (show ¬ (n.Nodes.toNat:Int) < ((W n).Net.Nodes.toNat:Int) by show ¬ (n.Nodes.toNat:Int) < (n.Nodes.toNat:Int);omega),cond_false])
    (λ i v _ _ h=>h) (Nat.zero_le _) (by omega) (⟨n.Nodes.toNat,(λ _=>(0:Int))⟩:Sl Int) rfl
  obtain⟨k1,k2⟩:=zAc g (n.Nodes.toNat - 0) 0 (⟨n.Nodes.toNat,(λ _=>(0:Int))⟩:Sl Int) (λ j hj=>absurd hj (Nat.not_lt_zero _))
  have e:zwq T (W n)=zfe (stV g) (n.Nodes.toNat - 0) 0 (⟨n.Nodes.toNat,(λ _=>(0:Int))⟩:Sl Int):=hl.2
  refine⟨?_,by rw[e];exact k1,λ i hi=>by rw[e];exact k2 i (by omega)⟩
  unfold zHR
  rw[decide_eq_true (show 0≤(W n).Net.Nodes/\(W n).Net.Nodes=(W n).Net.Nodes/\(W n).Net.Nodes≤1000000 from ⟨by show 0≤n.Nodes;omega,rfl,by show n.Nodes≤1000000;omega⟩)]
  exact hl.1


theorem zHJ {n:Net}(hn:NetOk n) (T:Tab) (g:Nat->Int) (hg:∀ i,i < n.Nodes.toNat->p86 (zas (zaf T)) (i:Int)=true/\s86 (zas (zaf T)) (i:Int)=g i):zHS T (W n)=true/\(zwu T (W n)).len=n.Nodes.toNat/\∀ i,i < n.Nodes.toNat->(zwu T (W n)).get i=g i:=by
  have hn1:=hn.n1;have hn40:=hn.n40
  have hl := zf9 (step := stV g) (E := fun v => v) (EP := fun _ => true) (Inv := fun _ (v : Sl Int) => v.len = n.Nodes.toNat) (a := 0) (n := n.Nodes.toNat) (lpS := fun k v i => ze2 T (W n) k i v) (lpP := fun k v i => ze3 T (W n) k i v)
    (λ k i v _ hi hv=>by
      show zgp T (W n) (ze2 T (W n) k) (i:Int) v=ze2 T (W n) k (w64 ((i:Int)+(1:Int))) (stV g i v)
      generalize ze2 T (W n) k=S
      unfold zgp stV
      rw[decide_eq_true (show (i:Int) < ((W n).Net.Nodes.toNat:Int) by show (i:Int) < (n.Nodes.toNat:Int);omega),cond_true,(hg i hi).2,Int.toNat_natCast])
    (λ k v=>by
      show zgp T (W n) (ze2 T (W n) k) (n.Nodes.toNat:Int) v=_
      unfold zgp
      rw[decide_eq_false (show ¬ (n.Nodes.toNat:Int) < ((W n).Net.Nodes.toNat:Int) by show ¬ (n.Nodes.toNat:Int) < (n.Nodes.toNat:Int);omega),cond_false])
    (λ k i v _ hi hv=>by
      show zgq T (W n) (ze3 T (W n) k) (i:Int) v=ze3 T (W n) k (w64 ((i:Int)+(1:Int))) (stV g i v)
      generalize ze3 T (W n) k=S
      have hv':v.len=n.Nodes.toNat:=hv
      unfold zgq stV
      rw[decide_eq_true (show (i:Int) < ((W n).Net.Nodes.toNat:Int) by show (i:Int) < (n.Nodes.toNat:Int);omega),cond_true,(hg i hi).2,(hg i hi).1,Int.toNat_natCast,decide_eq_true (show 0≤(i:Int)/\(i:Int) < (v.len:Int) by omega),decide_eq_true (show i < v.len by omega)];rfl)
    (λ k v=>by
      show zgq T (W n) (ze3 T (W n) k) (n.Nodes.toNat:Int) v=_
      unfold zgq
      rw[decide_eq_false (show ¬ (n.Nodes.toNat:Int) < ((W n).Net.Nodes.toNat:Int) by show ¬ (n.Nodes.toNat:Int) < (n.Nodes.toNat:Int);omega),cond_false])
    (λ i v _ _ h=>h) (Nat.zero_le _) (by omega) (⟨n.Nodes.toNat,(λ _=>(0:Int))⟩:Sl Int) rfl
  obtain⟨k1,k2⟩:=zAc g (n.Nodes.toNat - 0) 0 (⟨n.Nodes.toNat,(λ _=>(0:Int))⟩:Sl Int) (λ j hj=>absurd hj (Nat.not_lt_zero _))
  have e:zwu T (W n)=zfe (stV g) (n.Nodes.toNat - 0) 0 (⟨n.Nodes.toNat,(λ _=>(0:Int))⟩:Sl Int):=hl.2
  refine⟨?_,by rw[e];exact k1,λ i hi=>by rw[e];exact k2 i (by omega)⟩
  unfold zHS
  rw[decide_eq_true (show 0≤(W n).Net.Nodes/\(W n).Net.Nodes=(W n).Net.Nodes/\(W n).Net.Nodes≤1000000 from ⟨by show 0≤n.Nodes;omega,rfl,by show n.Nodes≤1000000;omega⟩)]
  exact hl.1
end Go.Proofs
namespace Go.Proofs
open Go Go.Pm
set_option maxRecDepth 100000
set_option linter.unusedVariables false
abbrev zdq:Sl Int:=⟨0,λ _=>default⟩
structure IsV (n : Net) (v : Sl Int) (g : Nat → Int) : Prop where
  len:v.len=n.Nodes.toNat
  at_:∀ i,i < n.Nodes.toNat->v.get i=g i
theorem zCb {n:Net}(ht:n.Ties.len≤210) (hn:NetOk n) (hN:za8 (En n)):p43 n=true/\(¬ zo1 n->s43 n=(zdq,6))/\(zo1 n->∃ v,s43 n=(v,0)/\IsV n v (λ i=>fr n 0 i)):=by
 have hn1:=hn.n1;have hn40:=hn.n40
 obtain⟨w0,_,_,_,w4⟩:=zhN n zdq (by decide) ht
 have w4':=w4 hn (λ i hi=>absurd hi (Nat.not_lt_zero _)) hN
 obtain⟨b1,b2⟩:=zAb hn hN
 have hF:=λ (j:Nat) (hj:j < n.Nodes.toNat)=>zzY hn hN (i:=0) (Int.le_refl _) (by omega) hj
 have p1:=(hF 0 (by omega)).1
 obtain⟨v1,v2,v3⟩:=zHI hn (zas (zaf (s76 (W n) 0))) (λ i=>fr n 0 i) (λ i hi=>by
  unfold p85 s85
  rw[Int.toNat_natCast,show 0+i * 2+0=i * 2 by omega,zc3 (by omega),zjq (by omega),zjq (by omega),(hF i hi).2,decide_eq_true (show 0≤(i:Int)/\(i:Int) < (40:Int) by omega)]
  exact⟨rfl,rfl⟩)
 unfold p43 s43
 rw[w0,w4']
 show (cond ((0:Int) == 0) (decide (true=true) && cond ((0:Int) != (0:Int)) true (decide (p83 (W n)=true) && cond (!(s83 (W n))) true (decide (p76 (W n) 0=true) && (decide (zHR (zas (zaf (s76 (W n) 0))) (W n)=true) && true)))) _)=true/\(_->cond ((0:Int) == 0) (cond ((0:Int) != (0:Int)) _ (cond (!(s83 (W n))) (zdq,(6:Int)) (zwq (zas (zaf (s76 (W n) 0))) (W n),(0:Int)))) _=_)/\(_->∃ v,cond ((0:Int) == 0) (cond ((0:Int) != (0:Int)) _ (cond (!(s83 (W n))) (zdq,(6:Int)) (zwq (zas (zaf (s76 (W n) 0))) (W n),(0:Int)))) _=(v,(0:Int))/\_)
 rw[b1,p1,v1]
 simp only[beq_self_eq_true,cond_true,bne_self_eq_false,cond_false,decide_true,Bool.true_and]
 refine⟨by cases s83 (W n) <;> rfl,λ h=>?_,λ h=>?_⟩
 ·rw[Bool.eq_false_iff.2 (λ e=>h (b2.1 e))];rfl
 ·rw[b2.2 h];exact⟨_,rfl,v2,v3⟩
theorem zCc {n:Net}(ht:n.Ties.len≤210) (hn:NetOk n) (hN:za8 (En n)):p44 n=true/\(¬ zo1 n->s44 n=(zdq,6))/\(zo1 n->∃ v,s44 n=(v,0)/\IsV n v (λ i=>-fr n i 0)):=by
 have hn1:=hn.n1;have hn40:=hn.n40
 obtain⟨w0,_,_,_,w4⟩:=zhN n zdq (by decide) ht
 have w4':=w4 hn (λ i hi=>absurd hi (Nat.not_lt_zero _)) hN
 obtain⟨b1,b2⟩:=zAb hn hN
 have hF:=λ (j:Nat) (hj:j < n.Nodes.toNat)=>zM1 hn hN (i:=0) (Int.le_refl _) (by omega) hj
 have p1:=(hF 0 (by omega)).1
 obtain⟨v1,v2,v3⟩:=zHJ hn (zas (zaf (s75 (W n) 0))) (λ i=>-fr n i 0) (λ i hi=>by
  have hb:=zjO hn hN (i:=i) (j:=0) hi
  have e0:=(hF i hi).2
  have e0':s75 (W n) 0 (i * 2)=fr n i 0:=e0
  unfold p86 s86
  rw[Int.toNat_natCast,show 0+i * 2+0=i * 2 by omega,zc3 (by omega),zjq (by omega),zjq (by omega),e0',decide_eq_true (show 0≤(i:Int)/\(i:Int) < (40:Int) by omega),zbx (by omega) (by omega)]
  exact⟨rfl,by omega⟩)
 unfold p44 s44
 rw[w0,w4']
 show (cond ((0:Int) == 0) (decide (true=true) && cond ((0:Int) != (0:Int)) true (decide (p83 (W n)=true) && cond (!(s83 (W n))) true (decide (p75 (W n) 0=true) && (decide (zHS (zas (zaf (s75 (W n) 0))) (W n)=true) && true)))) _)=true/\(_->cond ((0:Int) == 0) (cond ((0:Int) != (0:Int)) _ (cond (!(s83 (W n))) (zdq,(6:Int)) (zwu (zas (zaf (s75 (W n) 0))) (W n),(0:Int)))) _=_)/\(_->∃ v,cond ((0:Int) == 0) (cond ((0:Int) != (0:Int)) _ (cond (!(s83 (W n))) (zdq,(6:Int)) (zwu (zas (zaf (s75 (W n) 0))) (W n),(0:Int)))) _=(v,(0:Int))/\_)
 rw[b1,p1,v1]
 simp only[beq_self_eq_true,cond_true,bne_self_eq_false,cond_false,decide_true,Bool.true_and]
 refine⟨by cases s83 (W n) <;> rfl,λ h=>?_,λ h=>?_⟩
 ·rw[Bool.eq_false_iff.2 (λ e=>h (b2.1 e))];rfl
 ·rw[b2.2 h];exact⟨_,rfl,v2,v3⟩
theorem zLb {n:Net}(ht:n.Ties.len≤210) (hn:NetOk n) (hN:za8 (En n)) {a z:Int}(ha:0≤a/\a < n.Nodes) (hz:0≤z/\z < n.Nodes):p45 n a z=true/\(¬ zo1 n->s45 n a z=(zdq,6))/\(zo1 n->∃ v,s45 n a z=(v,0)/\IsV n v (λ i=>fr n a.toNat i - fr n a.toNat 0)):=by
 have hn1:=hn.n1;have hn40:=hn.n40
 obtain⟨w0,_,_,_,w4⟩:=zhN n (⟨2,zav (zbo [(zad a),(zad z)])⟩:Sl Int) (by show 2≤1000;omega) ht
 have w4':=w4 hn (in2 ha hz) hN
 obtain⟨b1,b2⟩:=zAb hn hN
 have hF:=λ (j:Nat) (hj:j < n.Nodes.toNat)=>zzY hn hN ha.1 ha.2 hj
 have p1:=(hF 0 (by omega)).1
 obtain⟨v1,v2,v3⟩:=zLa hn (zas (zaf (s76 (W n) a))) (λ i=>fr n a.toNat i - fr n a.toNat 0) (λ i hi=>by
  have hb:=zjO hn hN (i:=a.toNat) (j:=i) (by omega)
  have hb0:=zjO hn hN (i:=a.toNat) (j:=0) (by omega)
  have e0:s76 (W n) a (0 * 2)=fr n a.toNat 0:=(hF 0 (by omega)).2
  unfold p87 s87
  rw[Int.toNat_natCast,show 0+i * 2+0=i * 2 by omega,show 0+0 * 2+0=0 * 2 by omega,zc3 (by omega),zc3 (by omega),zjq (by omega),zjq (by omega),zjq (by omega),zjq (by omega),(hF i hi).2,e0,decide_eq_true (show 0≤(i:Int)/\(i:Int) < (40:Int) by omega),decide_eq_true (show 0≤(0:Int)/\(0:Int) < (40:Int) by omega),zbx (by omega) (by omega)]
  exact⟨rfl,rfl⟩)
 unfold p45 s45
 rw[w0,w4']
 show (cond ((0:Int) == 0) (decide (true=true) && cond ((0:Int) != (0:Int)) true (decide (p83 (W n)=true) && cond (!(s83 (W n))) true (decide (p76 (W n) a=true) && (decide (p84 (zas (zaf (s76 (W n) a))) (W n)=true) && true)))) _)=true/\(_->cond ((0:Int) == 0) (cond ((0:Int) != (0:Int)) _ (cond (!(s83 (W n))) (zdq,(6:Int)) (s84 (zas (zaf (s76 (W n) a))) (W n),(0:Int)))) _=_)/\(_->∃ v,cond ((0:Int) == 0) (cond ((0:Int) != (0:Int)) _ (cond (!(s83 (W n))) (zdq,(6:Int)) (s84 (zas (zaf (s76 (W n) a))) (W n),(0:Int)))) _=(v,(0:Int))/\_)
 rw[b1,p1,v1]
 simp only[beq_self_eq_true,cond_true,bne_self_eq_false,cond_false,decide_true,Bool.true_and]
 refine⟨by cases s83 (W n) <;> rfl,λ h=>?_,λ h=>?_⟩
 ·rw[Bool.eq_false_iff.2 (λ e=>h (b2.1 e))];rfl
 ·rw[b2.2 h];exact⟨_,rfl,v2,v3⟩
theorem zDM {n:Net}(ht:n.Ties.len≤210) (e:Int) (he:(s67 n=false/\e=2)∨(NetOk n/\¬ za8 (En n)/\e=5)):(p43 n=true/\s43 n=(zdq,e))/\(p44 n=true/\s44 n=(zdq,e)):=by
 obtain⟨w0,w1,_,w3,_⟩:=zhN n zdq (by decide) ht
 unfold p43 s43 p44 s44
 rcases he with ⟨h,rfl⟩ | ⟨hn,h,rfl⟩
 ·rw[w0,w1 h];exact⟨⟨rfl,rfl⟩,rfl,rfl⟩
 ·rw[w0,w3 hn (λ i hi=>absurd hi (Nat.not_lt_zero _)) h];exact⟨⟨rfl,rfl⟩,rfl,rfl⟩
theorem znE {n:Net}(ht:n.Ties.len≤210){a z:Int}(e:Int) (he:(s67 n=false/\e=2)∨(NetOk n/\¬ ((0≤a/\a < n.Nodes)/\(0≤z/\z < n.Nodes))/\e=2)∨(NetOk n/\(0≤a/\a < n.Nodes)/\(0≤z/\z < n.Nodes)/\¬ za8 (En n)/\e=5)):p45 n a z=true/\s45 n a z=(zdq,e):=by
 obtain⟨w0,w1,w2,w3,_⟩:=zhN n (⟨2,zav (zbo [(zad a),(zad z)])⟩:Sl Int) (by show 2≤1000;omega) ht
 unfold p45 s45
 rcases he with ⟨h,rfl⟩ | ⟨hn,h,rfl⟩ | ⟨hn,h1,h2,h,rfl⟩
 ·rw[w0,w1 h];exact⟨rfl,rfl⟩
 ·have w2' := w2 hn (fun hk => h ⟨hk 0 (show 0 < 2 by decide), hk 1 (show 1 < 2 by decide)⟩)
  rw[w0,w2'];exact⟨rfl,rfl⟩
 ·rw[w0,w3 hn (in2 h1 h2) h];exact⟨rfl,rfl⟩
theorem ztv {n:Net}(hn:NetOk n) (hN:za8 (En n)) (hT:zo1 n){v:Sl Int}{s:Nat}(hs:s < n.Nodes.toNat) (hv:IsV n v (λ i=>fr n s i - fr n s 0)):AgOk n v:=by
 have hn1:=hn.n1
 have h0:∀ i,i < n.Nodes.toNat->fr n s i ≠ 1000000000000:=λ i hi=>(ztu hn hN hs (show 0 < n.Nodes.toNat by omega) (hT s hs).2 (hT i hi).1).2
 refine zl1 hn hv.len ?_ (λ i hi=>?_) (λ e he=>?_)
 ·rw[hv.at_ 0 (by omega)];show fr n s 0 - fr n s 0=0;omega
 ·have hi' : i < n.Nodes.toNat := hv.len ▸ hi
  rw[hv.at_ i hi']
  have h1:=zLt hn hN hs (h0 i hi')
  have h2:=zLt hn hN hs (h0 0 (by omega))
  exact⟨by show -1000000000000≤fr n s i - fr n s 0;omega,by show fr n s i - fr n s 0≤1000000000000;omega⟩
 ·obtain ⟨e1, e2⟩ := (ztr (a := W n) hn).lt e he
  have e1':e.u < n.Nodes.toNat:=e1
  have e2':e.v < n.Nodes.toNat:=e2
  obtain⟨f1,f2⟩:=zAa hn hN he
  have f3:=(ztu hn hN hs e1' (h0 e.u e1') f2).1
  rw[hv.at_ _ e1',hv.at_ _ e2']
  show fr n s e.v - fr n s 0≤fr n s e.u - fr n s 0+e.w
  omega
theorem zCd {n:Net}(hn:NetOk n) (hN:za8 (En n)) (hT:zo1 n){v:Sl Int}(hv:IsV n v (λ i=>-fr n i 0)):AgOk n v:=by
 have hn1:=hn.n1
 refine zl1 hn hv.len ?_ (λ i hi=>?_) (λ e he=>?_)
 ·rw[hv.at_ 0 (by omega)];show -fr n 0 0=0;rw[zrN hn hN (by omega)];rfl
 ·have hi' : i < n.Nodes.toNat := hv.len ▸ hi
  rw[hv.at_ i hi']
  have h1:=zLt hn hN hi' (hT i hi').2
  exact⟨by show -1000000000000≤-fr n i 0;omega,by show -fr n i 0≤1000000000000;omega⟩
 ·obtain ⟨e1, e2⟩ := (ztr (a := W n) hn).lt e he
  have e1':e.u < n.Nodes.toNat:=e1
  have e2':e.v < n.Nodes.toNat:=e2
  obtain⟨f1,f2⟩:=zAa hn hN he
  have f3:=(ztu hn hN e1' e2' f2 (hT e.v e2').2).1
  rw[hv.at_ _ e1',hv.at_ _ e2']
  show -fr n e.v 0≤-fr n e.u 0+e.w
  omega
theorem zHK {n:Net}{i j:Int}(hi:0≤i/\i < n.Nodes) (hj:0≤j/\j < n.Nodes) (a:Sl Int) (e:Int) (b:Sl Int) (f:Int) (c:Sl Int) (g:Int):zlZ n i j a e b f c g=zep n i j a e b f c g true/\zlY n i j a e b f c g=zeo n i j a e b f c g true:=by
 unfold zlZ zlY
 rw[decide_eq_true (show i ≥ 0 from hi.1),decide_eq_true hi.2,decide_eq_true (show j ≥ 0 from hj.1),decide_eq_true hj.2]
 exact⟨rfl,rfl⟩
theorem zAd {n:Net}{i j:Int}(h : ¬ ((0≤i/\i < n.Nodes)/\(0≤j/\j < n.Nodes))) (a:Sl Int) (e:Int) (b:Sl Int) (f:Int):zlZ n i j a e b f zdq 2=zep n i j a e b f zdq 2 false/\zlY n i j a e b f zdq 2=zeo n i j a e b f zdq 2 false:=by
 unfold zlZ zlY
 by_cases h1:0≤i
 ·rw [decide_eq_true (show i ≥ 0 from h1)]
  by_cases h2:i < n.Nodes
  ·rw [decide_eq_true h2]
   by_cases h3:0≤j
   ·rw [decide_eq_true (show j ≥ 0 from h3)]
    have h4 : ¬ j < n.Nodes:=λ h4=>h ⟨⟨h1,h2⟩,h3,h4⟩
    rw[decide_eq_false h4];exact⟨rfl,rfl⟩
   ·rw[decide_eq_false (show ¬ j ≥ 0 from h3)];exact⟨rfl,rfl⟩
  ·rw[decide_eq_false h2];exact⟨rfl,rfl⟩
 ·rw[decide_eq_false (show ¬ i ≥ 0 from h1)];exact⟨rfl,rfl⟩
theorem zhO {n : Net} (hn : NetOk n) (hN : za8 (En n)) (i j : Int) (a : Sl Int) (e : Int) (b : Sl Int) (f : Int) (c : Sl Int) (g : Int) (th : Bool) (hp0 : zo1 n → zdi n i j a e b f c g th 0 = true) (hp6 : ¬ zo1 n → zdi n i j a e b f c g th 6 = true) :
    zny n i j a e b f c g th (s33 n)=true/\(zo1 n->zk8 n i j a e b f c g th (s33 n)=zdh n i j a e b f c g th 0)/\(¬ zo1 n->zk8 n i j a e b f c g th (s33 n)=zdh n i j a e b f c g th 6):=by
  have hn1:=hn.n1;have hn40:=hn.n40
  obtain⟨_,r2,r3⟩:=zz9 hn hN
  generalize s33 n=l at *
  have hb:∀ q,q < n.Nodes.toNat->((l.get q).Low == (-1000000000000:Int))=decide (fr n q 0=1000000000000)/\((l.get q).High == (1000000000000:Int))=decide (fr n 0 q=1000000000000):=λ q hq=>by
    rw[r3 q hq]
    constructor
    · rw [Bool.eq_iff_iff, beq_iff_eq, decide_eq_true_eq]
      show -fr n q 0 = -1000000000000↔_
      omega
    · rw[Bool.eq_iff_iff,beq_iff_eq,decide_eq_true_eq]
  let st:Nat->Int->Int:=λ q w=>cond (decide (fr n q 0=1000000000000) || decide (fr n 0 q=1000000000000)) 6 w
  have hl := zf9 (step := st) (E := fun w => zdh n i j a e b f c g th w) (EP := fun w => zdi n i j a e b f c g th w) (Inv := fun _ _ => True) (a := 0) (n := n.Nodes.toNat) (lpS := fun k w q => zg8 n i j a e b f c g th l k w q) (lpP := fun k w q => zg9 n i j a e b f c g th l k w q)
    (λ k q w _ hq _=>by
      show ziZ n i j a e b f c g th l (zg8 n i j a e b f c g th l k) w (q:Int)=zg8 n i j a e b f c g th l k (st q w) (w64 ((q:Int)+(1:Int)))
      generalize zg8 n i j a e b f c g th l k=S
      unfold ziZ
      rw[decide_eq_true (show (q:Int) < (l.len:Int) by omega),cond_true,Int.toNat_natCast,(hb q hq).1,(hb q hq).2]
      show _=S (cond (decide (fr n q 0=1000000000000) || decide (fr n 0 q=1000000000000)) 6 w) _
      cases decide (fr n q 0=1000000000000) <;> cases decide (fr n 0 q=1000000000000) <;> rfl)
    (λ k w=>by
      show ziZ n i j a e b f c g th l (zg8 n i j a e b f c g th l k) w (n.Nodes.toNat:Int)=_
      unfold ziZ
      rw[decide_eq_false (show ¬ (n.Nodes.toNat:Int) < (l.len:Int) by omega),cond_false])
    (λ k q w _ hq _=>by
      show zi0 n i j a e b f c g th l (zg9 n i j a e b f c g th l k) w (q:Int)=zg9 n i j a e b f c g th l k (st q w) (w64 ((q:Int)+(1:Int)))
      generalize zg9 n i j a e b f c g th l k=S
      unfold zi0
      rw[decide_eq_true (show (q:Int) < (l.len:Int) by omega),cond_true,Int.toNat_natCast,(hb q hq).1,(hb q hq).2,decide_eq_true (show 0≤(q:Int)/\(q:Int) < (l.len:Int) by omega)]
      show _=S (cond (decide (fr n q 0=1000000000000) || decide (fr n 0 q=1000000000000)) 6 w) _
      cases decide (fr n q 0=1000000000000) <;> cases decide (fr n 0 q=1000000000000) <;> rfl)
    (λ k w=>by
      show zi0 n i j a e b f c g th l (zg9 n i j a e b f c g th l k) w (n.Nodes.toNat:Int)=_
      unfold zi0
      rw[decide_eq_false (show ¬ (n.Nodes.toNat:Int) < (l.len:Int) by omega),cond_false])
    (λ _ _ _ _ _=>trivial) (Nat.zero_le _) (by omega) (0:Int) trivial
  have key:∀ (m q:Nat) (w:Int),q+m=n.Nodes.toNat->((∀ p,q≤p->p < n.Nodes.toNat->fr n 0 p ≠ 1000000000000/\fr n p 0 ≠ 1000000000000)->zfe st m q w=w)/\((w=6∨¬ ∀ p,q≤p->p < n.Nodes.toNat->fr n 0 p ≠ 1000000000000/\fr n p 0 ≠ 1000000000000)->zfe st m q w=6):=by
    intro m
    induction m with
    | zero=>intro q w hq;exact⟨λ _=>rfl,λ h=>h.elim id λ h=>absurd (λ p a b=>absurd b (by omega)) h⟩
    | succ m ih =>
      intro q w hq
      show (_->zfe st m (q+1) (st q w)=w)/\(_->zfe st m (q+1) (st q w)=6)
      obtain⟨k1,k2⟩:=ih (q+1) (st q w) (by omega)
      by_cases hh:fr n 0 q ≠ 1000000000000/\fr n q 0 ≠ 1000000000000
      · have e1:st q w=w:=by
          show cond (decide (fr n q 0=1000000000000) || decide (fr n 0 q=1000000000000)) 6 w=w
          rw[decide_eq_false hh.1,decide_eq_false hh.2];rfl
        rw[e1] at k1 k2 ⊢
        refine⟨λ h=>k1 λ p a b=>h p (by omega) b,λ h=>k2 ?_⟩
        rcases h with h | h
        · exact .inl h
        · refine .inr fun h' => h fun p a b => ?_
          by_cases hp:p=q
          · rw[hp];exact hh
          · exact h' p (by omega) b
      · have e1:st q w=6:=by
          show cond (decide (fr n q 0=1000000000000) || decide (fr n 0 q=1000000000000)) 6 w=6
          by_cases h1:fr n 0 q=1000000000000
          · rw[decide_eq_true h1];cases decide (fr n q 0=1000000000000) <;> rfl
          · have h2 : fr n q 0 = 1000000000000 := Classical.byContradiction fun h2 => hh ⟨h1, h2⟩
            rw[decide_eq_true h2];rfl
        rw[e1] at k1 k2 ⊢
        exact⟨λ h=>absurd (h q (Nat.le_refl _) (by omega)) hh,λ _=>k2 (.inl rfl)⟩
  obtain⟨q1,q2⟩:=key n.Nodes.toNat 0 0 (by omega)
  obtain⟨l1,l2⟩:=hl
  have l1':zny n i j a e b f c g th l=zdi n i j a e b f c g th (zfe st n.Nodes.toNat 0 0):=l1
  have l2':zk8 n i j a e b f c g th l=zdh n i j a e b f c g th (zfe st n.Nodes.toNat 0 0):=l2
  rw[l1',l2']
  by_cases hT:zo1 n
  · rw [q1 (fun p _ h => hT p h)]
    exact⟨hp0 hT,λ _=>rfl,λ h=>absurd hT h⟩
  · rw [q2 (.inr fun h => hT fun p hp => h p (Nat.zero_le _) hp)]
    exact⟨hp6 hT,λ h=>absurd h hT,λ _=>rfl⟩
theorem zAe {n : Net} (hn : NetOk n) (hN : za8 (En n)) (hT : zo1 n) {i j : Int} {a b c : Sl Int} (th : Bool) (ha : IsV n a (fun q => fr n 0 q)) (hb : IsV n b (fun q => -fr n q 0)) (hth : th = true → ((0 ≤ i ∧ i < n.Nodes) ∧ (0 ≤ j ∧ j < n.Nodes)) ∧ IsV n c (fun q => fr n i.toNat q - fr n i.toNat 0)) :
    znx n i j a b c th=true/\znw n i j a b c th=true:=by
  have hn1:=hn.n1;have hn40:=hn.n40
  have hal:=ha.len;have hbl:=hb.len
  have f0:=zrN hn hN (show 0 < n.Nodes.toNat by omega)
  have aga:AgOk n a:=ztv hn hN hT (s:=0) (by omega) ⟨ha.len,λ q hq=>by rw[ha.at_ q hq];show fr n 0 q=fr n 0 q - fr n 0 0;omega⟩
  have agb:AgOk n b:=zCd hn hN hT hb
  obtain⟨a1,a2⟩:=zrC n a hn (by omega)
  obtain⟨b1,b2⟩:=zrC n b hn (by omega)
  obtain⟨r1,r2,r3⟩:=zz9 hn hN
  have last:znt n i j c th=true/\zk7 n i j c th=true:=by
    unfold znt zk7
    cases hh:th
    · exact⟨rfl,rfl⟩
    · obtain ⟨⟨hi, hj⟩, hc⟩ := hth hh
      have hcl:=hc.len
      have agc:AgOk n c:=ztv hn hN hT (s:=i.toNat) (by omega) hc
      obtain⟨c1,c2⟩:=zrC n c hn (by omega)
      obtain⟨q1,q2⟩:=zDK hn hN hi hj
      obtain⟨d1,d2,d3⟩:=zz8 hn hN hi.1 hi.2
      have fi:=zrN hn hN (show i.toNat < n.Nodes.toNat by omega)
      have hti:=hT i.toNat (by omega)
      have hne:∀ q,q < n.Nodes.toNat->fr n i.toNat q ≠ 1000000000000:=λ q hq=>(ztu hn hN (show i.toNat < n.Nodes.toNat by omega) (show 0 < n.Nodes.toNat by omega) hti.2 (hT q hq).1).2
      have hbq:∀ q,q < n.Nodes.toNat->-40000000000≤fr n i.toNat q/\fr n i.toNat q≤40000000000:=λ q hq=>zLt hn hN (by omega) (hne q hq)
      have x1:=hc.at_ j.toNat (by omega)
      have x2:=hc.at_ i.toNat (by omega)
      have y1:=hbq j.toNat (by omega)
      have y2:=hbq 0 (by omega)
      have hdiff:w64 (c.get j.toNat - c.get i.toNat)=fr n i.toNat j.toNat:=by
        rw[x1,x2]
        show w64 (fr n i.toNat j.toNat - fr n i.toNat 0 - (fr n i.toNat i.toNat - fr n i.toNat 0))=_
        rw[fi,zbx (by omega) (by omega)];omega
      unfold zrt zrr
      rw[c1,c2.2 agc,q1,q2,hdiff,decide_eq_true (show 0≤j/\j < (c.len:Int) by omega),decide_eq_true (show 0≤i/\i < (c.len:Int) by omega)]
      simp only[Bool.not_true,cond_false,bne_self_eq_false,decide_true,Bool.true_and]
      unfold zns znr zrq zrp
      rw[d1]
      simp only[cond_false,decide_true,Bool.true_and]
      have hg:∀ q,q < c.len->c.get q=w64 ((s46 n i).get q - (s46 n i).get 0):=λ q hq=>by
        have hq':q < n.Nodes.toNat:=by omega
        rw[hc.at_ q hq',d3 q hq',d3 0 (by omega)]
        have:=hbq q hq'
        rw[zbx (by omega) (by omega)]
      generalize s46 n i=dd at *
      have hl := zfd (good := fun _ => true) (fin := true) (n := c.len) (lpS := ziT c dd) (lpP := ziU c dd)
          (λ k i hi=>by
            show ziR c dd (ziT c dd k) (i:Int)=_
            generalize ziT c dd k=S
            unfold ziR
            rw[decide_eq_true (show (i:Int) < (c.len:Int) by omega),cond_true,Int.toNat_natCast,hg i hi,bne_self_eq_false]
            rfl)
          (λ k=>by
            show ziR c dd (ziT c dd k) (c.len:Int)=_
            unfold ziR
            rw[decide_eq_false (show ¬ (c.len:Int) < (c.len:Int) by omega),cond_false])
          (λ k i hi=>by
            show ziS c dd (ziU c dd k) (i:Int)=_
            generalize ziU c dd k=S
            unfold ziS
            rw[decide_eq_true (show (i:Int) < (c.len:Int) by omega),cond_true,Int.toNat_natCast,decide_eq_true (show 0≤(i:Int)/\(i:Int) < (c.len:Int) by omega),Bool.true_and,hg i hi,bne_self_eq_false,decide_eq_true (show 0≤(i:Int)/\(i:Int) < (dd.len:Int) by omega),decide_eq_true (show 0≤(0:Int)/\(0:Int) < (dd.len:Int) by omega)]
            rfl)
          (λ k=>by
            show ziS c dd (ziU c dd k) (c.len:Int)=_
            unfold ziS
            rw[decide_eq_false (show ¬ (c.len:Int) < (c.len:Int) by omega),cond_false])
          (by omega)
      unfold zro zrn zrm zrl
      exact⟨hl.1,hl.2.2 ⟨λ _ _=>rfl,rfl⟩⟩
  unfold znx znw
  rw[a1,a2.2 aga,b1,b2.2 agb]
  unfold znv znu zrA zrz
  rw[r1]
  simp only[Bool.not_true,cond_false,decide_true,Bool.true_and]
  have hg:∀ q,q < (s33 n).len->a.get q=((s33 n).get q).High/\b.get q=((s33 n).get q).Low:=λ q hq=>by
    have hq':q < n.Nodes.toNat:=by omega
    rw[ha.at_ q hq',hb.at_ q hq',r3 q hq'];exact⟨rfl,rfl⟩
  generalize s33 n=l at *
  have hl := zfd (good := fun _ => true) (fin := zk7 n i j c th) (n := l.len) (lpS := ziX n i j a b c th l) (lpP := ziY n i j a b c th l)
    (λ k q hq=>by
      show ziV n i j a b c th l (ziX n i j a b c th l k) (q:Int)=_
      generalize ziX n i j a b c th l k=S
      unfold ziV
      rw[decide_eq_true (show (q:Int) < (l.len:Int) by omega),cond_true,Int.toNat_natCast,(hg q hq).1,(hg q hq).2,bne_self_eq_false,bne_self_eq_false]
      rfl)
    (λ k=>by
      show ziV n i j a b c th l (ziX n i j a b c th l k) (l.len:Int)=_
      unfold ziV
      rw[decide_eq_false (show ¬ (l.len:Int) < (l.len:Int) by omega),cond_false])
    (λ k q hq=>by
      show ziW n i j a b c th l (ziY n i j a b c th l k) (q:Int)=_
      generalize ziY n i j a b c th l k=S
      unfold ziW
      rw[decide_eq_true (show (q:Int) < (l.len:Int) by omega),cond_true,Int.toNat_natCast,decide_eq_true (show 0≤(q:Int)/\(q:Int) < (l.len:Int) by omega),Bool.true_and,(hg q hq).1,(hg q hq).2,bne_self_eq_false,bne_self_eq_false,decide_eq_true (show 0≤(q:Int)/\(q:Int) < (a.len:Int) by omega),decide_eq_true (show 0≤(q:Int)/\(q:Int) < (b.len:Int) by omega)]
      rfl)
    (λ k=>by
      show ziW n i j a b c th l (ziY n i j a b c th l k) (l.len:Int)=_
      unfold ziW
      rw[decide_eq_false (show ¬ (l.len:Int) < (l.len:Int) by omega),cond_false];exact last.1)
    (by omega)
  unfold zry zrx zrv zru
  exact⟨hl.1,hl.2.2 ⟨λ _ _=>rfl,last.2⟩⟩
theorem zo3 (n:Net) (i j:Int) (ht:n.Ties.len≤210):zto n i j=true/\ztn n i j=true:=by
 obtain⟨a1,a2⟩:=zzH n (by omega)
 obtain⟨b1,b2⟩:=zKO n (by omega)
 unfold zto ztn zzF zzE zzD zzC zzB zzA
 rw[b1,b2]
 cases hs:s67 n
 ·obtain ⟨⟨c1, c2⟩, d1, d2⟩ := zDM ht 2 (.inl ⟨hs, rfl⟩)
  obtain⟨e1,e2⟩:=znE (a:=i) (z:=j) ht 2 (.inl ⟨hs,rfl⟩)
  rw[c1,c2,d1,d2,e1,e2]
  unfold zhJ zhI
  show (_=true)/\cond ((2:Int) == 2) (cond ((2:Int) == 2) (cond ((2:Int) == 2) (cond (w64 (w64 (((0:Nat):Int)+((0:Nat):Int))+((0:Nat):Int)) == (0:Int)) true false) false) false) false=true
  rw[show w64 (w64 (((0:Nat):Int)+((0:Nat):Int))+((0:Nat):Int))=0 by rw[zbx (x:=((0:Nat):Int)+((0:Nat):Int)) (by omega) (by omega),zbx (by omega) (by omega)];rfl]
  exact⟨rfl,rfl⟩
 have hn:=a2.1 hs
 obtain⟨g1,g2⟩:=zK8 n hn
 have z0:w64 (w64 (((0:Nat):Int)+((0:Nat):Int))+((0:Nat):Int))=0:=by rw[zbx (x:=((0:Nat):Int)+((0:Nat):Int)) (by omega) (by omega),zbx (by omega) (by omega)];rfl
 by_cases hN:za8 (En n)
 ·obtain ⟨c1, c2, c3⟩ := zCb ht hn hN
  obtain⟨d1,d2,d3⟩:=zCc ht hn hN
  have hso:=g2.2 hN
  obtain⟨r1,_⟩:=zz9 hn hN
  by_cases hr:(0≤i/\i < n.Nodes)/\(0≤j/\j < n.Nodes)
  ·obtain ⟨e1, e2, e3⟩ := zLb ht hn hN hr.1 hr.2
   by_cases hT:zo1 n
   ·obtain ⟨va, x1, x2⟩ := c3 hT
    obtain⟨vb,y1,y2⟩:=d3 hT
    obtain⟨vc,u1,u2⟩:=e3 hT
    obtain⟨m1,m2⟩:=zAe hn hN hT (i:=i) (j:=j) (c:=vc) true x2 y2 (λ _=>⟨hr,u2⟩)
    have m9:zdi n i j va 0 vb 0 vc 0 true 0=true/\zdh n i j va 0 vb 0 vc 0 true 0=true:=by
     unfold zdi zdh zfc zfb
     simp only[bne_self_eq_false,cond_false,cond_true]
     exact⟨m1,m2⟩
    obtain⟨w1,w2,_⟩:=zhO hn hN i j va 0 vb 0 vc 0 true (λ _=>m9.1) (λ h=>absurd hT h)
    rw[c1,x1,d1,y1,e1,u1]
    unfold zhJ zhI
    simp only[decide_true,Bool.true_and,Bool.not_true,cond_false]
    obtain⟨v1,v2⟩:=zHK hr.1 hr.2 va 0 vb 0 vc 0
    rw[v1,v2]
    unfold zep zeo zjo zjn
    rw[g1,hso,r1]
    simp only[decide_true,Bool.true_and,Bool.not_true,cond_false]
    exact⟨w1,(w2 hT).trans m9.2⟩
   ·have m9:zdi n i j zdq 6 zdq 6 zdq 6 true 6=true/\zdh n i j zdq 6 zdq 6 zdq 6 true 6=true:=by
     unfold zdi zdh zfc zfb
     simp only[bne_self_eq_false,cond_false,cond_true]
     show (_=true)/\cond ((6:Int) != 0) (cond (w64 (w64 (((0:Nat):Int)+((0:Nat):Int))+((0:Nat):Int)) == (0:Int)) true false) _=true
     rw[z0];exact⟨rfl,rfl⟩
    obtain⟨w1,_,w2⟩:=zhO hn hN i j zdq 6 zdq 6 zdq 6 true (λ h=>absurd h hT) (λ _=>m9.1)
    rw[c1,c2 hT,d1,d2 hT,e1,e2 hT]
    unfold zhJ zhI
    simp only[decide_true,Bool.true_and,Bool.not_true,cond_false]
    obtain⟨v1,v2⟩:=zHK hr.1 hr.2 zdq 6 zdq 6 zdq 6
    rw[v1,v2]
    unfold zep zeo zjo zjn
    rw[g1,hso,r1]
    simp only[decide_true,Bool.true_and,Bool.not_true,cond_false]
    exact⟨w1,(w2 hT).trans m9.2⟩
  ·obtain ⟨e1, e2⟩ := znE (a := i) (z := j) ht 2 (.inr (.inl ⟨hn, hr, rfl⟩))
   by_cases hT:zo1 n
   ·obtain ⟨va, x1, x2⟩ := c3 hT
    obtain⟨vb,y1,y2⟩:=d3 hT
    obtain⟨m1,m2⟩:=zAe hn hN hT (i:=i) (j:=j) (c:=zdq) false x2 y2 (λ h=>by cases h)
    have m9:zdi n i j va 0 vb 0 zdq 2 false 0=true/\zdh n i j va 0 vb 0 zdq 2 false 0=true:=by
     unfold zdi zdh zfc zfb
     simp only[bne_self_eq_false,cond_false,cond_true]
     exact⟨m1,m2⟩
    obtain⟨w1,w2,_⟩:=zhO hn hN i j va 0 vb 0 zdq 2 false (λ _=>m9.1) (λ h=>absurd hT h)
    rw[c1,x1,d1,y1,e1,e2]
    unfold zhJ zhI
    simp only[decide_true,Bool.true_and,Bool.not_true,cond_false]
    obtain⟨v1,v2⟩:=zAd hr va 0 vb 0
    rw[v1,v2]
    unfold zep zeo zjo zjn
    rw[g1,hso,r1]
    simp only[decide_true,Bool.true_and,Bool.not_true,cond_false]
    exact⟨w1,(w2 hT).trans m9.2⟩
   ·have m9:zdi n i j zdq 6 zdq 6 zdq 2 false 6=true/\zdh n i j zdq 6 zdq 6 zdq 2 false 6=true:=by
     unfold zdi zdh zfc zfb
     simp only[bne_self_eq_false,cond_false,cond_true]
     show (_=true)/\cond ((6:Int) != 0) (cond (w64 (w64 (((0:Nat):Int)+((0:Nat):Int))+((0:Nat):Int)) == (0:Int)) true false) _=true
     rw[z0];exact⟨rfl,rfl⟩
    obtain⟨w1,_,w2⟩:=zhO hn hN i j zdq 6 zdq 6 zdq 2 false (λ h=>absurd h hT) (λ _=>m9.1)
    rw[c1,c2 hT,d1,d2 hT,e1,e2]
    unfold zhJ zhI
    simp only[decide_true,Bool.true_and,Bool.not_true,cond_false]
    obtain⟨v1,v2⟩:=zAd hr zdq 6 zdq 6
    rw[v1,v2]
    unfold zep zeo zjo zjn
    rw[g1,hso,r1]
    simp only[decide_true,Bool.true_and,Bool.not_true,cond_false]
    exact⟨w1,(w2 hT).trans m9.2⟩
 ·obtain ⟨⟨c1, c2⟩, d1, d2⟩ := zDM ht 5 (.inr ⟨hn, hN, rfl⟩)
  have hso:s31 n=false:=Bool.eq_false_iff.2 λ h=>hN (g2.1 h)
  by_cases hr:(0≤i/\i < n.Nodes)/\(0≤j/\j < n.Nodes)
  ·obtain ⟨e1, e2⟩ := znE (a := i) (z := j) ht 5 (.inr (.inr ⟨hn, hr.1, hr.2, hN, rfl⟩))
   rw[c1,c2,d1,d2,e1,e2]
   unfold zhJ zhI
   simp only[decide_true,Bool.true_and,Bool.not_true,cond_false]
   obtain⟨v1,v2⟩:=zHK hr.1 hr.2 zdq 5 zdq 5 zdq 5
   rw[v1,v2]
   unfold zep zeo zjo zjn
   rw[g1,hso]
   unfold zdi zdh zfc zfb
   simp only[decide_true,Bool.true_and,Bool.not_false,bne_self_eq_false,cond_false,cond_true]
   show (_=true)/\cond ((5:Int) != 0) (cond (w64 (w64 (((0:Nat):Int)+((0:Nat):Int))+((0:Nat):Int)) == (0:Int)) true false) _=true
   rw[z0];exact⟨rfl,rfl⟩
  ·obtain ⟨e1, e2⟩ := znE (a := i) (z := j) ht 2 (.inr (.inl ⟨hn, hr, rfl⟩))
   rw[c1,c2,d1,d2,e1,e2]
   unfold zhJ zhI
   simp only[decide_true,Bool.true_and,Bool.not_true,cond_false]
   obtain⟨v1,v2⟩:=zAd hr zdq 5 zdq 5
   rw[v1,v2]
   unfold zep zeo zjo zjn
   rw[g1,hso]
   unfold zdi zdh zfc zfb
   simp only[decide_true,Bool.true_and,Bool.not_false,bne_self_eq_false,cond_false,cond_true]
   show (_=true)/\cond ((5:Int) != 0) (cond (w64 (w64 (((0:Nat):Int)+((0:Nat):Int))+((0:Nat):Int)) == (0:Int)) true false) _=true
   rw[z0];exact⟨rfl,rfl⟩
theorem attains_true (n:Net) (i j:Int):p9 n i j=true/\s9 n i j=true:=by
 unfold p9 s9
 by_cases h:s20 n 14=true
 ·rw[h];exact zo3 n i j (zzI h (by omega))
 ·rw[Bool.eq_false_iff.2 h];exact⟨rfl,rfl⟩
end Go.Proofs
