/- Part 5 of what the proof rests on: a machine that runs functions of the program on pure values, proved sound; the functions that the law reaches, and what they compute. -/
import Derived.Test.YtldchibepobgnaaDoorQ4
set_option linter.all false
namespace Go.Proofs
open Go Go.Pm
set_option maxRecDepth 100000
set_option linter.unusedVariables false
theorem zdL {n:Nat}{F:Tab}{k:Nat}(hk:k < n):tg n F k=F k:=by
 unfold tg zm5
 have h:(zm (znd 0 n F))[k]? = some (.p (.int .i64 (F k))):=by
  rw[zm,dqH,zkk n 0 F k hk,Nat.zero_add];rfl
 rw[h]
theorem zxa {n:Nat}{F:Tab}{k:Nat}{v:Int}{j:Nat}(hj:j < n):ts n F k [v] j=if j=k then v else F j:=by
 show (match Nat.beq j k with | true=>v | false=>tg n F j)=_
 by_cases h:j=k
 ·rw[dqP h,show Nat.beq j k=true from by rw[h];exact Nat.beq_refl _]
 ·rw[dqG h,show Nat.beq j k=false from Bool.eq_false_iff.2 λ e=>h (dqc e)];exact zdL hj
theorem zcA {n:Nat}{F:Tab}{k:Nat}{v w:Int}{j:Nat}(hj:j < n):ts n F k [v,w] j=if j=k+1 then w else if j=k then v else F j:=by
 show (match Nat.beq j (k+1) with | true=>w | false=>(match Nat.beq j k with | true=>v | false=>tg n F j))=_
 by_cases h:j=k+1
 ·rw[dqP h,show Nat.beq j (k+1)=true from by rw[h];exact Nat.beq_refl _]
 ·rw [dqG h, show Nat.beq j (k + 1) = false from Bool.eq_false_iff.2 fun e => h (dqc e)]
  by_cases h':j=k
  ·rw[dqP h',show Nat.beq j k=true from by rw[h'];exact Nat.beq_refl _]
  ·rw[dqG h',show Nat.beq j k=false from Bool.eq_false_iff.2 λ e=>h' (dqc e)];exact zdL hj
def fwS (t:Tie) (i:Nat):step:=⟨⟨(i:Int),false⟩,t.From,t.To,t.High⟩
def bwS (t:Tie) (i:Nat):step:=⟨⟨(i:Int),true⟩,t.To,t.From,w64 (0 - t.Low)⟩
def zzf (a:web) (i:Nat):Bool:=(zus (a.out.F [(i:Int)]) 0) != 0
def stK (a:web) (i:Nat):List step :=
 cond (zzf a i) [] ((cond ((a.Net.Ties.get i).High != (1000000000000:Int)) [fwS (a.Net.Ties.get i) i] []) ++ (cond ((a.Net.Ties.get i).Low != (-1000000000000:Int)) [bwS (a.Net.Ties.get i) i] []))
def stL (a : web) : Nat → Nat → List step
  | 0,_=>[]
  | m+1,i=>stK a i ++ stL a m (i+1)
theorem zoD (a:web) (hn:a.Net.Ties.len<=9223372036854775807):p82 a=true/\s82 a=stL a a.Net.Ties.len 0:=by
 have key:∀ (m k i:Nat),i+m=a.Net.Ties.len->m < k->zih a k (i:Int)=true/\zif a k (i:Int)=stL a m i:=by
  intro m
  induction m with
  | zero =>
   intro k i hi hk
   obtain⟨k,rfl⟩:∃ k',k=k'+1:=⟨k - 1,by omega⟩
   constructor
   ·show zie a (zih a k) (i : Int) = true
    unfold zie
    rw[dqF (show ¬ (i:Int) < (a.Net.Ties.len:Int) by omega),dqB]
   ·show zid a (zif a k) (i : Int) = []
    unfold zid
    rw[dqF (show ¬ (i:Int) < (a.Net.Ties.len:Int) by omega),dqB]
  | succ m ih =>
   intro k i hi hk
   obtain⟨k,rfl⟩:∃ k',k=k'+1:=⟨k - 1,by omega⟩
   obtain⟨h1,h2⟩:=ih k (i+1) (by omega) (by omega)
   constructor
   ·show zie a (zih a k) (i : Int) = true
    unfold zie
    rw[dqT (show (i:Int) < (a.Net.Ties.len:Int) by omega),dqA,dqT (show 0<=(i:Int)/\(i:Int) < (a.Net.Ties.len:Int) by omega),Bool.true_and,zfK (n:=a.Net.Ties.len) (by omega) hn,h1]
    generalize (zus (a.out.F [(i:Int)]) 0 != 0)=b1
    generalize (s83 (⟨(a.Net.Ties.get ((i:Int)).toNat),(i:Int)⟩:tie)).2=b2
    generalize (s84 (⟨(a.Net.Ties.get ((i:Int)).toNat),(i:Int)⟩:tie)).2=b3
    cases b1 <;> cases b2 <;> cases b3 <;> rfl
   ·show zid a (zif a k) (i : Int) = stK a i ++ stL a m (i + 1)
    unfold zid
    rw[dqT (show (i:Int) < (a.Net.Ties.len:Int) by omega),dqA,dqN,zfK (n:=a.Net.Ties.len) (by omega) hn,h2]
    unfold stK zzf s83 s84
    generalize (zus (a.out.F [(i:Int)]) 0 != 0)=b1
    show cond b1 _ (cond ((a.Net.Ties.get i).High != (1000000000000:Int)) (_ :: cond ((a.Net.Ties.get i).Low != (-1000000000000:Int)) (_ :: _) _) (cond ((a.Net.Ties.get i).Low != (-1000000000000:Int)) (_ :: _) _))=_
    generalize ((a.Net.Ties.get i).High != (1000000000000:Int))=b2
    generalize ((a.Net.Ties.get i).Low != (-1000000000000:Int))=b3
    cases b1 <;> cases b2 <;> cases b3 <;> rfl
 exact key a.Net.Ties.len Fuel 0 (by omega) (by simp only[Fuel];omega)
theorem zlo {a:web}{y:step} : ∀ {m i:Nat},y∈stL a m i↔∃ j,i<=j/\j < i+m/\y∈stK a j:=by
 intro m
 induction m with
 | zero=>intro i;exact⟨λ h=>(by cases h),λ ⟨j,h1,h2,_⟩=>(by omega)⟩
 | succ m ih =>
  intro i
  show y∈stK a i ++ stL a m (i+1)↔_
  rw[dqg,ih]
  constructor
  ·rintro (h | ⟨j, h1, h2, h3⟩)
   ·exact⟨i,dqt _,by omega,h⟩
   ·exact⟨j,by omega,by omega,h3⟩
  ·rintro ⟨j, h1, h2, h3⟩
   by_cases h:j=i
   ·subst h;exact .inl h3
   ·exact .inr ⟨j,by omega,by omega,h3⟩
theorem zlp {a:web}{y:step}{j:Nat} : y∈stK a j↔zzf a j=false/\(((a.Net.Ties.get j).High ≠ 1000000000000/\y=fwS (a.Net.Ties.get j) j)\/((a.Net.Ties.get j).Low ≠ -1000000000000/\y=bwS (a.Net.Ties.get j) j)):=by
 unfold stK
 cases h:zzf a j
 ·rw [dqB, dqg]
  by_cases h1:(a.Net.Ties.get j).High=1000000000000
  ·rw [show ((a.Net.Ties.get j).High != (1000000000000:Int)) = false by rw [h1]; rfl, dqB]
   by_cases h2:(a.Net.Ties.get j).Low = -1000000000000
   ·rw [show ((a.Net.Ties.get j).Low != (-1000000000000:Int)) = false by rw [h2]; rfl, dqB]
    simp[h1,h2]
   ·rw [bne_iff_ne.2 h2, dqA]
    simp[h1,h2]
  ·rw [bne_iff_ne.2 h1, dqA]
   by_cases h2:(a.Net.Ties.get j).Low = -1000000000000
   ·rw [show ((a.Net.Ties.get j).Low != (-1000000000000:Int)) = false by rw [h2]; rfl, dqB]
    simp[h1,h2]
   ·rw [bne_iff_ne.2 h2, dqA]
    simp[h1,h2]
 ·rw[dqA];simp
theorem zyT (a:web):∀ m i,(stL a m i).length<=2 * m:=by
 intro m
 induction m with
 | zero=>intro i;exact dqt _
 | succ m ih =>
  intro i
  show (stK a i ++ stL a m (i+1)).length<=_
  rw[dqu]
  have:=ih (i+1)
  have:(stK a i).length<=2:=by
   unfold stK
   cases zzf a i <;> cases ((a.Net.Ties.get i).High != (1000000000000:Int)) <;> cases ((a.Net.Ties.get i).Low != (-1000000000000:Int)) <;> simp
  omega
def edS (y:step):Ed:=⟨y.from_.toNat,y.to.toNat,y.length⟩
structure StOk (y : step) (N : Nat) : Prop where
  f0:0<=y.from_
  f1:y.from_ < N
  t0:0<=y.to
  t1:y.to < N
  l0 : -1000000000<=y.length
  l1:y.length<=1000000000
abbrev Ws (a:web):List step:=stL a a.Net.Ties.len 0
def We (a:web):List Ed:=(Ws a).map edS
theorem zt4 {t:Tie}{N:Int}(h:TieOk t N) (h':t.Low ≠ -1000000000000):w64 (0 - t.Low) = -t.Low:=by
 have:=h.lo.resolve_left h'
 rw[zae (by omega) (by omega)];omega
theorem zA8 {a:web}(hn:NetOk a.Net){y:step}(hy:y∈Ws a):StOk y a.Net.Nodes.toNat:=by
 obtain⟨j,_,h2,h3⟩:=zlo.1 hy
 have h:=hn.tie j (by omega)
 have:=h.f0;have:=h.f1;have:=h.t0;have:=h.t1
 rcases (zlp.1 h3).2 with ⟨h4,rfl⟩ | ⟨h4,rfl⟩
 ·have := h.hi.resolve_left h4
  exact⟨h.f0,by show (a.Net.Ties.get j).From < _;omega,h.t0,by show (a.Net.Ties.get j).To < _;omega,this.1,this.2⟩
 ·have := h.lo.resolve_left h4
  have e:=zt4 h h4
  exact⟨h.t0,by show (a.Net.Ties.get j).To < _;omega,h.f0,by show (a.Net.Ties.get j).From < _;omega,by show _<=w64 (0 - (a.Net.Ties.get j).Low);omega,by show w64 (0 - (a.Net.Ties.get j).Low)<=_;omega⟩
theorem zA9 {a:web}(hn:NetOk a.Net):(Ws a).length<=400:=by
 have h1:=zyT a a.Net.Ties.len 0
 have h2:=hn.len
 show (stL a a.Net.Ties.len 0).length<=400
 omega
theorem zxb {a:web}(hn:NetOk a.Net):EdOk (We a) a.Net.Nodes.toNat:=by
 have:=hn.n1;have:=hn.n40
 refine⟨λ e he=>?_,λ e he=>?_,by omega,by omega⟩
 ·obtain ⟨y, hy, rfl⟩ := dqz.1 he
  have h:=zA8 hn hy
  have:=h.f0;have:=h.f1;have:=h.t0;have:=h.t1
  exact⟨by show y.from_.toNat < _;omega,by show y.to.toNat < _;omega⟩
 ·obtain ⟨y, hy, rfl⟩ := dqz.1 he
  have h:=zA8 hn hy
  exact⟨h.l0,h.l1⟩
theorem zt5 {a:web}(hn:NetOk a.Net){e:Ed} : e∈We a↔∃ j,j < a.Net.Ties.len/\zzf a j=false/\(((a.Net.Ties.get j).High ≠ 1000000000000/\e=⟨(a.Net.Ties.get j).From.toNat,(a.Net.Ties.get j).To.toNat,(a.Net.Ties.get j).High⟩)\/((a.Net.Ties.get j).Low ≠ -1000000000000/\e=⟨(a.Net.Ties.get j).To.toNat,(a.Net.Ties.get j).From.toNat,-(a.Net.Ties.get j).Low⟩)):=by
 constructor
 ·intro he
  obtain⟨y,hy,rfl⟩:=dqz.1 he
  obtain⟨j,_,h2,h3⟩:=zlo.1 hy
  obtain⟨h4,h5⟩:=zlp.1 h3
  refine⟨j,by omega,h4,?_⟩
  rcases h5 with ⟨h6,rfl⟩ | ⟨h6,rfl⟩
  ·exact .inl ⟨h6,rfl⟩
  ·refine .inr ⟨h6, ?_⟩
   rw[<- zt4 (hn.tie j (by omega)) h6];rfl
 ·rintro ⟨j, h1, h2, h3⟩
  rcases h3 with ⟨h6,rfl⟩ | ⟨h6,rfl⟩
  ·exact dqz.2 ⟨fwS (a.Net.Ties.get j) j,zlo.2 ⟨j,by omega,by omega,zlp.2 ⟨h2,.inl ⟨h6,rfl⟩⟩⟩,rfl⟩
  ·exact dqz.2 ⟨bwS (a.Net.Ties.get j) j,zlo.2 ⟨j,by omega,by omega,zlp.2 ⟨h2,.inr ⟨h6,rfl⟩⟩⟩,by rw[<- zt4 (hn.tie j h1) h6];rfl⟩
end Go.Proofs
namespace Go.Proofs
open Go Go.Pm
set_option maxRecDepth 100000
set_option linter.unusedVariables false
def Rt (N:Nat) (T:Tab) (d:zcf):Prop:=∀ v,v < N->d v=some (T v)
def Bd (B:Int) (T:Tab):Prop:=∀ v,v < 40->-B<=T v/\T v<=0
theorem zt6 (a:web){N:Nat}(hN:N<=40) (S0:Int->Tab->Bool) (P0:Int->Tab->Bool):∀ (l:List step),(∀ y∈l,StOk y N)->∀ (t:Int) (c:Bool) (T:Tab) (d:zcf) (B:Int),Rt N T d->Bd B T->0<=B->B+l.length * 1000000000<=100000000000000000 ->
    ∃ T',zeT S0 a l t c T=zkX S0 a t ((l.map edS).foldl rlF (d,c)).2 T'/\zeU P0 a l t c T=zkY P0 a t ((l.map edS).foldl rlF (d,c)).2 T'/\Rt N T' ((l.map edS).foldl rlF (d,c)).1/\Bd (B+l.length * 1000000000) T':=by
  intro l
  induction l with
  | nil=>intro _ t c T d B h1 h2 _ _;exact⟨T,rfl,rfl,h1,by simpa using h2⟩
  | cons y l ih =>
    intro hl t c T d B h1 h2 h3 h4
    have hy:=hl y (dqj ..)
    have hl':∀ y∈l,StOk y N:=λ z hz=>hl z (dqf _ hz)
    rw[dqr] at h4
    have f0:=hy.f0;have f1:=hy.f1;have t0:=hy.t0;have t1:=hy.t1;have l0:=hy.l0;have l1:=hy.l1
    have hf:=h1 y.from_.toNat (by omega)
    have ht:=h1 y.to.toNat (by omega)
    have bf:=h2 y.from_.toNat (by omega)
    have bt:=h2 y.to.toNat (by omega)
    have e1:0+y.from_.toNat * 1+0=y.from_.toNat:=by omega
    have e2:0+y.to.toNat * 1+0=y.to.toNat:=by omega
    have hr:rlF (d,c) (edS y)=cond (decide (T y.from_.toNat+y.length < T y.to.toNat)) (zpK d y.to.toNat (T y.from_.toNat+y.length),true) (d,c):=by
      unfold rlF edS
      simp only[hf,ht]
      rfl
    have hS:zeT S0 a (y :: l) t c T=cond (decide (T y.from_.toNat+y.length < T y.to.toNat)) (zeT S0 a l t true (ts 40 T y.to.toNat [T y.from_.toNat+y.length])) (zeT S0 a l t c T):=by
      show zn0 S0 a y (zeT S0 a l) t c T=_
      generalize zeT S0 a l=S
      unfold zn0
      rw[e1,e2,zdL (by omega),zdL (by omega),zae (by omega) (by omega)]
    have hP:zeU P0 a (y :: l) t c T=cond (decide (T y.from_.toNat+y.length < T y.to.toNat)) (zeU P0 a l t true (ts 40 T y.to.toNat [T y.from_.toNat+y.length])) (zeU P0 a l t c T):=by
      show zn1 P0 a y (zeU P0 a l) t c T=_
      generalize zeU P0 a l=S
      unfold zn1
      rw[e1,e2,zdL (by omega),zdL (by omega),zae (by omega) (by omega),dqT (show 0<=y.from_/\y.from_ < (40:Int) by omega),dqT (show 0<=y.to/\y.to < (40:Int) by omega)]
      cases decide (T y.from_.toNat+y.length < T y.to.toNat) <;> rfl
    show ∃ T',_=zkX S0 a t ((l.map edS).foldl rlF (rlF (d,c) (edS y))).2 T'/\_=zkY P0 a t ((l.map edS).foldl rlF (rlF (d,c) (edS y))).2 T'/\Rt N T' ((l.map edS).foldl rlF (rlF (d,c) (edS y))).1/\_
    rw[hS,hP,hr]
    by_cases hlt:T y.from_.toNat+y.length < T y.to.toNat
    · rw [dqT hlt, dqA, dqA, dqA]
      obtain ⟨T', k1, k2, k3, k4⟩ := ih hl' t true (ts 40 T y.to.toNat [T y.from_.toNat + y.length]) (zpK d y.to.toNat (T y.from_.toNat + y.length)) (B + 1000000000)
        (λ v hv=>by
          rw[zxa (by omega)]
          unfold zpK
          by_cases h:v=y.to.toNat
          · rw[dqP h,dqP h]
          · rw[dqG h,dqG h];exact h1 v hv)
        (λ v hv=>by
          rw[zxa hv]
          by_cases h:v=y.to.toNat
          · rw[dqP h];omega
          · rw[dqG h];have:=h2 v hv;omega) (by omega) (by omega)
      refine⟨T',k1,k2,k3,?_⟩
      rw[dqr,show B+((l.length+1:Nat):Int) * 1000000000=B+1000000000+(l.length:Int) * 1000000000 by omega]
      exact k4
    · rw [dqF hlt, dqB, dqB, dqB]
      obtain⟨T',k1,k2,k3,k4⟩:=ih hl' t c T d B h1 h2 h3 (by omega)
      refine⟨T',k1,k2,k3,λ v hv=>?_⟩
      have:=k4 v hv
      rw[dqr]
      omega
theorem zoE (a:web) (hn:NetOk a.Net):∀ (m k i:Nat) (T:Tab) (d:zcf) (B:Int),Rt a.Net.Nodes.toNat T d->Bd B T->0<=B->B+m * 400000000000<=100000000000000000->(i:Int)+m=a.Net.Nodes->m < k ->
  zil a k (i:Int) T=true/\zik a k (i:Int) T=zln (We a) m d:=by
 have hn1:=hn.n1;have hn40:=hn.n40;have hlen:=hn.len
 obtain⟨q1,q2⟩:=zoD a (by omega)
 intro m
 induction m with
 | zero =>
  intro k i T d B _ _ _ _ hi hk
  obtain⟨k,rfl⟩:∃ k',k=k'+1:=⟨k - 1,by omega⟩
  constructor
  ·show zij a (zil a k) (i : Int) T = true
   unfold zij
   rw[dqF (show ¬ (i:Int) < a.Net.Nodes by omega),dqB]
  ·show zii a (zik a k) (i : Int) T = true
   unfold zii
   rw[dqF (show ¬ (i:Int) < a.Net.Nodes by omega),dqB]
 | succ m ih =>
  intro k i T d B h1 h2 h3 h4 hi hk
  obtain⟨k,rfl⟩:∃ k',k=k'+1:=⟨k - 1,by omega⟩
  have hwl:=zA9 hn
  obtain⟨T',k1,k2,k3,k4⟩:=zt6 a (N:=a.Net.Nodes.toNat) (by omega) (zik a k) (zil a k) (Ws a) (λ y hy=>zA8 hn hy) (i:Int) false T d B h1 h2 h3 (by omega)
  have hB:Bd (B+400000000000) T':=λ v hv=>by have:=k4 v hv;omega
  have hw:w64 ((i:Int)+(1:Int))=((i+1:Nat):Int):=by rw[zae (by omega) (by omega)];omega
  obtain⟨r1,r2⟩:=ih k (i+1) T' (rnd (We a) d) (B+400000000000) k3 hB (by omega) (by omega) (by omega) (by omega)
  constructor
  ·show zij a (zil a k) (i : Int) T = true
   unfold zij zsl
   rw[dqT (show (i:Int) < a.Net.Nodes by omega),dqA,q1,q2,k2]
   unfold zkY
   rw[hw,r1]
   cases ((Ws a).map edS |>.foldl rlF (d,false)).2 <;> rfl
  ·show zii a (zik a k) (i : Int) T = cond ((We a).foldl rlF (d, false)).2 (zln (We a) m (rnd (We a) d)) false
   unfold zii zsk
   rw[dqT (show (i:Int) < a.Net.Nodes by omega),dqA,q2,k1]
   unfold zkX
   rw[hw,r2]
   show cond (!((We a).foldl rlF (d,false)).2) false _=_
   cases ((We a).foldl rlF (d,false)).2 <;> rfl
theorem zt7 (a:web) (hn:NetOk a.Net):p60 a=true/\s60 a=zln (We a) a.Net.Nodes.toNat (zuo a.Net.Nodes.toNat):=by
 have hn1:=hn.n1;have hn40:=hn.n40
 have:=zoE a hn a.Net.Nodes.toNat Fuel 0 (λ _=>(0:Int)) (zuo a.Net.Nodes.toNat) 0 (λ v hv=>dqP hv) (λ v hv=>⟨by show -(0:Int)<=(0:Int);omega,Int.le_refl _⟩) (by omega) (by omega) (by omega) (by simp only[Fuel];omega)
 exact this
theorem zt8 (a:web) (hn:NetOk a.Net):s60 a=false↔za4 (We a):=by
 rw[(zt7 a hn).2];exact zwa (zxb hn)
end Go.Proofs
namespace Go.Proofs
open Go Go.Pm
set_option maxRecDepth 100000
set_option linter.unusedVariables false
theorem zhd (a b:far):p62 a ⟨1,λ _=>b⟩=true/\s62 a ⟨1,λ _=>b⟩=cond (s63 b a) b a:=by
 unfold p62 s62 zsy zsx
 have key:∀ k,ziu (⟨1,λ _=>b⟩:Sl far) (k+2) (0:Int) a.length a.uses=true/\zit (⟨1,λ _=>b⟩:Sl far) (k+2) (0:Int) a.length a.uses=cond (s63 b a) b a:=by
  intro k
  have hw:w64 ((0:Int)+(1:Int))=(1:Int):=by rw[zae (by omega) (by omega)];rfl
  have e1:∀ x y,zit (⟨1,λ _=>b⟩:Sl far) (k+1) (1:Int) x y=(⟨x,y⟩:far):=λ x y=>by
   show zir (⟨1,λ _=>b⟩:Sl far) (zit (⟨1,λ _=>b⟩:Sl far) k) (1:Int) x y=_
   unfold zir
   rw[dqF (show ¬ (1:Int) < ((1:Nat):Int) by omega),dqB]
  have e2:∀ x y,ziu (⟨1,λ _=>b⟩:Sl far) (k+1) (1:Int) x y=true:=λ x y=>by
   show zis (⟨1,λ _=>b⟩:Sl far) (ziu (⟨1,λ _=>b⟩:Sl far) k) (1:Int) x y=_
   unfold zis
   rw[dqF (show ¬ (1:Int) < ((1:Nat):Int) by omega),dqB]
  constructor
  ·show zis (⟨1, fun _ => b⟩ : Sl far) (ziu (⟨1, fun _ => b⟩ : Sl far) (k + 1)) (0:Int) a.length a.uses = _
   unfold zis zsw
   rw[dqT (show (0:Int) < ((1:Nat):Int) by omega),dqA,dqT (show 0<=(0:Int)/\(0:Int) < ((1:Nat):Int) by omega),Bool.true_and,hw,e2,e2]
   cases s63 b (⟨a.length,a.uses⟩:far) <;> rfl
  ·show zir (⟨1, fun _ => b⟩ : Sl far) (zit (⟨1, fun _ => b⟩ : Sl far) (k + 1)) (0:Int) a.length a.uses = _
   unfold zir zsv
   rw[dqT (show (0:Int) < ((1:Nat):Int) by omega),dqA,hw,e1,e1]
 have:=key (Fuel - 2)
 rw[show Fuel - 2+2=Fuel by simp only[Fuel]] at this
 exact this
theorem zt9 (a b:far):s63 a b=decide (a.length < b.length\/(a.length=b.length/\a.uses < b.uses)):=by
 unfold s63
 by_cases h1:a.length < b.length
 ·rw[dqT h1,dqA];exact (dqT (.inl h1)).symm
 ·rw [dqF h1, dqB]
  by_cases h2:a.length=b.length
  ·rw [show (a.length == b.length) = true from beq_iff_eq.2 h2, dqA]
   exact decide_eq_decide.2 ⟨λ h=>.inr ⟨h2,h⟩,λ h=>h.elim (λ h=>absurd h h1) (λ h=>h.2)⟩
  ·rw [show (a.length == b.length) = false from dqU.2 h2, dqB]
   exact (dqF (λ h=>h.elim h1 (λ h=>h2 h.1))).symm
def Rp (N:Nat) (T:Tab) (d:zcf):Prop:=∀ v,v < N->(T (v * 2),T (v * 2+1))=zBB (d v)
def nv (x y:Int):Bool:=match (x == (1000000000000:Int)) with | true=>(match (y == (0:Int)) with | true=>true | false=>false) | false=>false
def sm (x y u v:Int):Bool:=match (x == u) with | true=>(match (y == v) with | true=>true | false=>false) | false=>false
theorem zpP (x y:Int):nv x y=decide ((x,y)=((1000000000000:Int),(0:Int))):=by
 unfold nv
 by_cases h1:x=1000000000000
 ·rw [show (x == (1000000000000:Int)) = true from beq_iff_eq.2 h1]
  by_cases h2:y=0
  ·rw[show (y == (0:Int))=true from beq_iff_eq.2 h2];exact (dqT (by rw[h1,h2])).symm
  ·rw[show (y == (0:Int))=false from dqU.2 h2];exact (dqF (λ h=>h2 (Prod.mk.inj h).2)).symm
 ·rw [show (x == (1000000000000:Int)) = false from dqU.2 h1]
  exact (dqF (λ h=>h1 (Prod.mk.inj h).1)).symm
theorem same_eq (x y u v:Int):sm x y u v=decide ((x,y)=(u,v)):=by
 unfold sm
 by_cases h1:x=u
 ·rw [show (x == u) = true from beq_iff_eq.2 h1]
  by_cases h2:y=v
  ·rw[show (y == v)=true from beq_iff_eq.2 h2];exact (dqT (by rw[h1,h2])).symm
  ·rw[show (y == v)=false from dqU.2 h2];exact (dqF (λ h=>h2 (Prod.mk.inj h).2)).symm
 ·rw [show (x == u) = false from dqU.2 h1]
  exact (dqF (λ h=>h1 (Prod.mk.inj h).1)).symm
theorem zhe {E : List Ed} {n s v : Nat} (hE : EdOk E n) (hs : s < n) {d : zcf} (hd : Inv (E.map edM) (fun v => v = s) d) {x : Int} (hx : d v = some x) :
  ∃ L U,zBB (d v)=(L,U)/\x=L * 1048576+U/\0<=U/\U < 40/\-40000000000<=L/\L<=40000000000:=by
 obtain⟨c,hc⟩:=zw8 hE hs hd hx
 have h1:=zpO hE hc.ch
 have h2:=hc.len
 have h3:=hE.n40
 refine⟨wt c,c.length,?_,hc.x,by omega,by omega,by omega,by omega⟩
 rw[hx,hc.x]
 exact zoA (by omega) (by omega)
end Go.Proofs
namespace Go.Proofs
open Go Go.Pm
set_option maxRecDepth 100000
set_option linter.unusedVariables false
theorem zBa (a : web) {N s : Nat} (E : List Ed) (hE : EdOk E N) (hn : za4 E) (hs : s < N) (S2 : Bool → Tab → Tab → Tab) (P2 : Bool → Tab → Tab → Bool) (y : step) (hy : StOk y N) (hm : edS y ∈ E) (S3 : Bool → Tab → Tab → Tab) (P3 : Bool → Tab → Tab → Bool) (c : Bool) (T4 T : Tab) (d : zcf) (h1 : Rp N T d) (hi : Inv (E.map edM) (fun v => v = s) d) :
  ∃ T',zob S2 a y S3 c T4 T=S3 (rlF (d,c) (edM (edS y))).2 T4 T'/\zoc P2 a y P3 c T4 T=P3 (rlF (d,c) (edM (edS y))).2 T4 T'/\Rp N T' (rlF (d,c) (edM (edS y))).1:=by
 have hN:=hE.n40
 have f0:=hy.f0;have f1:=hy.f1;have t0:=hy.t0;have t1:=hy.t1;have l0:=hy.l0;have l1:=hy.l1
 have hu:=h1 y.from_.toNat (by omega)
 have hv:=h1 y.to.toNat (by omega)
 have e1:0+y.from_.toNat * 2+0=y.from_.toNat * 2:=by omega
 have e2:0+y.to.toNat * 2+0=y.to.toNat * 2:=by omega
 have e3:0+y.from_.toNat * 2+1=y.from_.toNat * 2+1:=by omega
 have hin:=zji (Src:=λ v=>v=s) (zeh hn) (s:=(d,c)) (e:=edM (edS y)) (List.mem_map_of_mem hm) hi
 have hS:zob S2 a y S3 c T4 T=cond (nv (tg 80 T (0+y.from_.toNat * 2+0)) (tg 80 T (0+y.from_.toNat * 2+0+1))) (S3 c T4 T) (cond c (S3 true T4 (ts 80 T (0+y.to.toNat * 2+0) [(s62 (⟨(tg 80 T (0+y.to.toNat * 2+0)),(tg 80 T (0+y.to.toNat * 2+0+1))⟩:far) (⟨1,λ _=>(⟨(w64 ((tg 80 T (0+y.from_.toNat * 2+0))+y.length)),(w64 ((tg 80 T (0+y.from_.toNat * 2+1))+(1:Int)))⟩:far)⟩:(Sl far))).length,(s62 (⟨(tg 80 T (0+y.to.toNat * 2+0)),(tg 80 T (0+y.to.toNat * 2+0+1))⟩:far) (⟨1,λ _=>(⟨(w64 ((tg 80 T (0+y.from_.toNat * 2+0))+y.length)),(w64 ((tg 80 T (0+y.from_.toNat * 2+1))+(1:Int)))⟩:far)⟩:(Sl far))).uses])) (S3 (!(sm (s62 (⟨(tg 80 T (0+y.to.toNat * 2+0)),(tg 80 T (0+y.to.toNat * 2+0+1))⟩:far) (⟨1,λ _=>(⟨(w64 ((tg 80 T (0+y.from_.toNat * 2+0))+y.length)),(w64 ((tg 80 T (0+y.from_.toNat * 2+1))+(1:Int)))⟩:far)⟩:(Sl far))).length (s62 (⟨(tg 80 T (0+y.to.toNat * 2+0)),(tg 80 T (0+y.to.toNat * 2+0+1))⟩:far) (⟨1,λ _=>(⟨(w64 ((tg 80 T (0+y.from_.toNat * 2+0))+y.length)),(w64 ((tg 80 T (0+y.from_.toNat * 2+1))+(1:Int)))⟩:far)⟩:(Sl far))).uses (tg 80 T (0+y.to.toNat * 2+0)) (tg 80 T (0+y.to.toNat * 2+0+1)))) T4 (ts 80 T (0+y.to.toNat * 2+0) [(s62 (⟨(tg 80 T (0+y.to.toNat * 2+0)),(tg 80 T (0+y.to.toNat * 2+0+1))⟩:far) (⟨1,λ _=>(⟨(w64 ((tg 80 T (0+y.from_.toNat * 2+0))+y.length)),(w64 ((tg 80 T (0+y.from_.toNat * 2+1))+(1:Int)))⟩:far)⟩:(Sl far))).length,(s62 (⟨(tg 80 T (0+y.to.toNat * 2+0)),(tg 80 T (0+y.to.toNat * 2+0+1))⟩:far) (⟨1,λ _=>(⟨(w64 ((tg 80 T (0+y.from_.toNat * 2+0))+y.length)),(w64 ((tg 80 T (0+y.from_.toNat * 2+1))+(1:Int)))⟩:far)⟩:(Sl far))).uses]))):=rfl
 have hP:zoc P2 a y P3 c T4 T=(decide (0<=y.from_/\y.from_ < (40:Int)) && cond (nv (tg 80 T (0+y.from_.toNat * 2+0)) (tg 80 T (0+y.from_.toNat * 2+0+1))) (P3 c T4 T) (decide (0<=y.to/\y.to < (40:Int)) && (decide (0<=y.from_/\y.from_ < (40:Int)) && (decide (0<=y.from_/\y.from_ < (40:Int)) && (decide (p62 (⟨(tg 80 T (0+y.to.toNat * 2+0)),(tg 80 T (0+y.to.toNat * 2+0+1))⟩:far) (⟨1,λ _=>(⟨(w64 ((tg 80 T (0+y.from_.toNat * 2+0))+y.length)),(w64 ((tg 80 T (0+y.from_.toNat * 2+1))+(1:Int)))⟩:far)⟩:(Sl far))=true) && cond c (decide (0<=y.to/\y.to < (40:Int)) && P3 true T4 (ts 80 T (0+y.to.toNat * 2+0) [(s62 (⟨(tg 80 T (0+y.to.toNat * 2+0)),(tg 80 T (0+y.to.toNat * 2+0+1))⟩:far) (⟨1,λ _=>(⟨(w64 ((tg 80 T (0+y.from_.toNat * 2+0))+y.length)),(w64 ((tg 80 T (0+y.from_.toNat * 2+1))+(1:Int)))⟩:far)⟩:(Sl far))).length,(s62 (⟨(tg 80 T (0+y.to.toNat * 2+0)),(tg 80 T (0+y.to.toNat * 2+0+1))⟩:far) (⟨1,λ _=>(⟨(w64 ((tg 80 T (0+y.from_.toNat * 2+0))+y.length)),(w64 ((tg 80 T (0+y.from_.toNat * 2+1))+(1:Int)))⟩:far)⟩:(Sl far))).uses])) (decide (0<=y.to/\y.to < (40:Int)) && (decide (0<=y.to/\y.to < (40:Int)) && P3 (!(sm (s62 (⟨(tg 80 T (0+y.to.toNat * 2+0)),(tg 80 T (0+y.to.toNat * 2+0+1))⟩:far) (⟨1,λ _=>(⟨(w64 ((tg 80 T (0+y.from_.toNat * 2+0))+y.length)),(w64 ((tg 80 T (0+y.from_.toNat * 2+1))+(1:Int)))⟩:far)⟩:(Sl far))).length (s62 (⟨(tg 80 T (0+y.to.toNat * 2+0)),(tg 80 T (0+y.to.toNat * 2+0+1))⟩:far) (⟨1,λ _=>(⟨(w64 ((tg 80 T (0+y.from_.toNat * 2+0))+y.length)),(w64 ((tg 80 T (0+y.from_.toNat * 2+1))+(1:Int)))⟩:far)⟩:(Sl far))).uses (tg 80 T (0+y.to.toNat * 2+0)) (tg 80 T (0+y.to.toNat * 2+0+1)))) T4 (ts 80 T (0+y.to.toNat * 2+0) [(s62 (⟨(tg 80 T (0+y.to.toNat * 2+0)),(tg 80 T (0+y.to.toNat * 2+0+1))⟩:far) (⟨1,λ _=>(⟨(w64 ((tg 80 T (0+y.from_.toNat * 2+0))+y.length)),(w64 ((tg 80 T (0+y.from_.toNat * 2+1))+(1:Int)))⟩:far)⟩:(Sl far))).length,(s62 (⟨(tg 80 T (0+y.to.toNat * 2+0)),(tg 80 T (0+y.to.toNat * 2+0+1))⟩:far) (⟨1,λ _=>(⟨(w64 ((tg 80 T (0+y.from_.toNat * 2+0))+y.length)),(w64 ((tg 80 T (0+y.from_.toNat * 2+1))+(1:Int)))⟩:far)⟩:(Sl far))).uses])))))))):=rfl
 rw[hS,hP]
 clear hS hP
 rw[e1,e2,e3,zdL (k:=y.from_.toNat * 2) (by omega),zdL (k:=y.from_.toNat * 2+1) (by omega),zdL (k:=y.to.toNat * 2) (by omega),zdL (k:=y.to.toNat * 2+1) (by omega)]
 rw[dqT (show 0<=y.from_/\y.from_ < (40:Int) by omega),dqT (show 0<=y.to/\y.to < (40:Int) by omega)]
 simp only[zpP,same_eq]
 cases hdu:d y.from_.toNat with
 | none =>
  rw[hdu] at hu
  have hr:rlF (d,c) (edM (edS y))=(d,c):=by
   unfold rlF edM edS
   simp only[hdu]
  rw[hr,dqT (show (T (y.from_.toNat * 2),T (y.from_.toNat * 2+1))=((1000000000000:Int),(0:Int)) from hu)]
  exact⟨T,rfl,rfl,h1⟩
 | some x =>
  obtain⟨L,U,k1,k2,k3,k4,k5,k6⟩:=zhe hE hs hi hdu
  rw[hdu] at hu k1
  rw[k1] at hu
  have hL:T (y.from_.toNat * 2)=L:=(Prod.mk.inj hu).1
  have hU:T (y.from_.toNat * 2+1)=U:=(Prod.mk.inj hu).2
  rw[hL,hU,dqF (show ¬ (L,U)=((1000000000000:Int),(0:Int)) from λ h=>by have:=(Prod.mk.inj h).1;omega),zae (x:=L+y.length) (by omega) (by omega),zae (x:=U+(1:Int)) (by omega) (by omega)]
  rw[(zhd _ _).1,(zhd _ _).2,zt9]
  have hw:x+(edM (edS y)).w=(L+y.length) * 1048576+(U+1):=by
   show x+(y.length * 1048576+1)=_
   omega
  have hr:rlF (d,c) (edM (edS y))=cond (ltO ((L+y.length) * 1048576+(U+1)) (d y.to.toNat)) (zpK d y.to.toNat ((L+y.length) * 1048576+(U+1)),true) (d,c):=by
   rw[<- hw]
   unfold rlF edM edS
   simp only[hdu] <;> rfl
  have hlt:decide ((L+y.length < T (y.to.toNat * 2))\/(L+y.length=T (y.to.toNat * 2)/\U+1 < T (y.to.toNat * 2+1)))=ltO ((L+y.length) * 1048576+(U+1)) (d y.to.toNat):=by
   cases hdv:d y.to.toNat with
   | none =>
    rw[hdv] at hv
    have hv1:T (y.to.toNat * 2)=1000000000000:=(Prod.mk.inj hv).1
    rw[hv1]
    exact dqT (.inl (by omega))
   | some z =>
    obtain⟨L',U',m1,m2,m3,m4,m5,m6⟩:=zhe hE hs hi hdv
    rw[hdv] at hv m1
    rw[m1] at hv
    rw[(Prod.mk.inj hv).1,(Prod.mk.inj hv).2,m2]
    exact decide_eq_decide.2 (by omega)
  simp only[hlt]
  rw[hr] at hin ⊢
  have hrw:∀ T'',Rp N T d->T''=ts 80 T (y.to.toNat * 2) [T (y.to.toNat * 2),T (y.to.toNat * 2+1)]->Rp N T'' d:=λ T'' h e v hv'=>by
   rw[e,zcA (by omega),zcA (by omega),<- h v hv']
   by_cases hq:v=y.to.toNat
   ·subst hq
    rw[dqG (by omega),dqP rfl,dqP rfl]
   ·rw[dqG (by omega),dqG (by omega),dqG (by omega),dqG (by omega)]
  cases hlo:ltO ((L+y.length) * 1048576+(U+1)) (d y.to.toNat) with
  | false =>
   refine⟨ts 80 T (y.to.toNat * 2) [T (y.to.toNat * 2),T (y.to.toNat * 2+1)],?_,?_,hrw _ h1 rfl⟩
   ·simp only [dqB, decide_true]
    cases c <;> rfl
   ·simp only [dqB, Bool.true_and, decide_true]
    cases c <;> rfl
  | true =>
   rw[hlo] at hin
   simp only[dqA,dqB,Bool.true_and,decide_true] at hin ⊢
   refine⟨ts 80 T (y.to.toNat * 2) [L+y.length,U+1],?_,?_,?_⟩
   ·cases c
    ·rw [dqF]
     ·rfl
     ·intro h
      rw[<- hlt] at hlo
      have:=of_decide_eq_true hlo
      have h1':=(Prod.mk.inj h).1
      have h2':=(Prod.mk.inj h).2
      omega
    ·rfl
   ·cases c
    ·rw [dqF]
     ·rfl
     ·intro h
      rw[<- hlt] at hlo
      have:=of_decide_eq_true hlo
      have h1':=(Prod.mk.inj h).1
      have h2':=(Prod.mk.inj h).2
      omega
    ·rfl
   ·intro v hv'
    rw[zcA (by omega),zcA (by omega)]
    unfold zpK
    by_cases hq:v=y.to.toNat
    ·subst hq
     rw[dqG (by omega),dqP rfl,dqP rfl,dqP rfl]
     exact (zoA (by omega) (by omega)).symm
    ·rw [dqG (by omega), dqG (by omega), dqG (by omega), dqG (by omega), dqG hq]
     exact h1 v hv'
theorem zBb (a:web){N s:Nat}(E:List Ed) (hE:EdOk E N) (hn:za4 E) (hs:s < N) (S2:Bool->Tab->Tab->Tab) (P2:Bool->Tab->Tab->Bool):∀ (l:List step),(∀ y∈l,StOk y N/\edS y∈E)->∀ (c:Bool) (T4 T:Tab) (d:zcf),Rp N T d->Inv (E.map edM) (λ v=>v=s) d ->
  ∃ T',zod S2 a l c T4 T=S2 (((l.map edS).map edM).foldl rlF (d,c)).2 T4 T'/\zoe P2 a l c T4 T=P2 (((l.map edS).map edM).foldl rlF (d,c)).2 T4 T'/\Rp N T' (((l.map edS).map edM).foldl rlF (d,c)).1:=by
 intro l
 induction l with
 | nil=>intro _ c T4 T d h1 _;exact⟨T,rfl,rfl,h1⟩
 | cons y l ih =>
  intro hl c T4 T d h1 h2
  obtain⟨hy,hm⟩:=hl y (dqj ..)
  obtain⟨T',k1,k2,k3⟩:=zBa a E hE hn hs S2 P2 y hy hm (zod S2 a l) (zoe P2 a l) c T4 T d h1 h2
  have h3:=zji (Src:=λ v=>v=s) (zeh hn) (s:=(d,c)) (e:=edM (edS y)) (List.mem_map_of_mem hm) h2
  obtain⟨T'',m1,m2,m3⟩:=ih (λ z hz=>hl z (dqf _ hz)) (rlF (d,c) (edM (edS y))).2 T4 T' (rlF (d,c) (edM (edS y))).1 k3 h3
  exact⟨T'',Eq.trans k1 m1,Eq.trans k2 m2,m3⟩
theorem zwb (a:web) (hnet:NetOk a.Net) (E:List Ed) (hEe:E=(Ws a).map edS){s:Nat}(hE:EdOk E a.Net.Nodes.toNat) (hn:za4 E) (hs:s < a.Net.Nodes.toNat):∀ (m k:Nat) (T4 T:Tab) (d:zcf),Rp a.Net.Nodes.toNat T d->Inv (E.map edM) (λ v=>v=s) d->Fix (E.map edM) (rds (E.map edM) m d)->m+1 < k ->
  ∃ T',zeY a k true T4 T=true/\zeX a k true T4 T=T'/\Rp a.Net.Nodes.toNat T' (rds (E.map edM) m d):=by
 have hlen:=hnet.len
 obtain⟨q1,q2⟩:=zoD a (by omega)
 have hst:∀ y∈Ws a,StOk y a.Net.Nodes.toNat/\edS y∈E:=λ y hy=>⟨zA8 hnet hy,by rw[hEe];exact List.mem_map_of_mem hy⟩
 have one:∀ (k:Nat) (T4 T:Tab) (d:zcf),Rp a.Net.Nodes.toNat T d->Inv (E.map edM) (λ v=>v=s) d ->
   ∃ T',zeX a (k+1) true T4 T=zeX a k ((E.map edM).foldl rlF (d,false)).2 T4 T'/\zeY a (k+1) true T4 T=zeY a k ((E.map edM).foldl rlF (d,false)).2 T4 T'/\Rp a.Net.Nodes.toNat T' (rnd (E.map edM) d):=by
  intro k T4 T d h1 h2
  obtain⟨T',k1,k2,k3⟩:=zBb a E hE hn hs (zeX a k) (zeY a k) (Ws a) hst false T4 T d h1 h2
  rw[<- hEe] at k1 k2 k3
  refine⟨T',?_,?_,k3⟩
  ·show zof a (zeX a k) true T4 T = _
   unfold zof zsD
   rw[dqA,q2];exact k1
  ·show zog a (zeY a k) true T4 T = _
   unfold zog zsE
   rw[dqA,q1,q2,dqT rfl,Bool.true_and];exact k2
 have stop:∀ (k:Nat) (T4 T:Tab),zeX a (k+1) false T4 T=T/\zeY a (k+1) false T4 T=true:=λ k T4 T=>⟨rfl,rfl⟩
 intro m
 induction m with
 | zero =>
  intro k T4 T d h1 h2 h3 hk
  obtain⟨k,rfl⟩:∃ k',k=k'+1+1:=⟨k - 2,by omega⟩
  obtain⟨T',k1,k2,k3⟩:=one (k+1) T4 T d h1 h2
  have h3':Fix (E.map edM) d:=h3
  rw[zhc h3'] at k1 k2
  rw[zjh h3'] at k3
  obtain⟨j1,j2⟩:=stop k T4 T'
  exact⟨T',k2.trans j2,k1.trans j1,k3⟩
 | succ m ih =>
  intro k T4 T d h1 h2 h3 hk
  obtain⟨k,rfl⟩:∃ k',k=k'+1+1:=⟨k - 2,by omega⟩
  obtain⟨T',k1,k2,k3⟩:=one (k+1) T4 T d h1 h2
  cases hf:((E.map edM).foldl rlF (d,false)).2 with
  | false =>
   rw[hf] at k1 k2
   have hx:Fix (E.map edM) d:=zgm hf
   obtain⟨j1,j2⟩:=stop k T4 T'
   refine⟨T',k2.trans j2,k1.trans j1,?_⟩
   rw[zjh hx] at k3
   rw[ztZ hx];exact k3
  | true =>
   rw[hf] at k1 k2
   obtain⟨T'',m1,m2,m3⟩:=ih (k+1) T4 T' (rnd (E.map edM) d) k3 (zlk (zeh hn) (λ _ h=>h) (s:=(d,false)) h2) h3 (by omega)
   exact⟨T'',k2.trans m1,k1.trans m2,m3⟩
theorem zyU (a:web) (node:Int):∀ (m k i:Nat) (T4 T:Tab),(∀ v,v < i->T (v * 2)=1000000000000/\T (v * 2+1)=0)->i+m=40->m < k ->
  ∃ T',ziC a node k (i:Int) T4 T=zoh a node T4 T'/\ziD a node k (i:Int) T4 T=zoi a node T4 T'/\∀ v,v < 40->T' (v * 2)=1000000000000/\T' (v * 2+1)=0:=by
 intro m
 induction m with
 | zero =>
  intro k i T4 T h hi hk
  obtain⟨k,rfl⟩:∃ k',k=k'+1:=⟨k - 1,by omega⟩
  refine⟨T,?_,?_,λ v hv=>h v (by omega)⟩
  ·show ziA a node (ziC a node k) (i : Int) T4 T = _
   unfold ziA
   rw[dqF (show ¬ (i:Int) < (40:Int) by omega),dqB]
  ·show ziB a node (ziD a node k) (i : Int) T4 T = _
   unfold ziB
   rw[dqF (show ¬ (i:Int) < (40:Int) by omega),dqB]
 | succ m ih =>
  intro k i T4 T h hi hk
  obtain⟨k,rfl⟩:∃ k',k=k'+1:=⟨k - 1,by omega⟩
  have hw:w64 ((i:Int)+(1:Int))=((i+1:Nat):Int):=by rw[zae (by omega) (by omega)];omega
  obtain⟨T',k1,k2,k3⟩:=ih k (i+1) T4 (ts 80 T (i * 2) [(1000000000000:Int),(0:Int)]) (λ v hv=>by
   rw[zcA (by omega),zcA (by omega)]
   by_cases hq:v=i
   ·subst hq
    rw[dqG (by omega),dqP rfl,dqP rfl];exact⟨rfl,rfl⟩
   ·rw[dqG (by omega),dqG (by omega),dqG (by omega),dqG (by omega)];exact h v (by omega)) (by omega) (by omega)
  refine⟨T',?_,?_,k3⟩
  ·rw [← k1]
   show ziA a node (ziC a node k) (i:Int) T4 T=_
   unfold ziA
   rw[dqT (show (i:Int) < (40:Int) by omega),dqA,hw,dqN,show 0+i * 2+0=i * 2 by omega]
  ·rw [← k2]
   show ziB a node (ziD a node k) (i:Int) T4 T=_
   unfold ziB
   rw[dqT (show (i:Int) < (40:Int) by omega),dqA,dqT (show 0<=(i:Int)/\(i:Int) < (40:Int) by omega),Bool.true_and,hw,dqN,show 0+i * 2+0=i * 2 by omega]
theorem zBc (a : web) (hnet : NetOk a.Net) (hn : za4 (We a)) (node : Int) (h0 : 0 ≤ node) (h1 : node < a.Net.Nodes) :
  p35 a node=true/\Rp a.Net.Nodes.toNat (s35 a node) (dst (We a) a.Net.Nodes.toNat node.toNat):=by
 have hn40:=hnet.n40
 have hEe:We a=(Ws a).map edS:=rfl
 have hE:EdOk (We a) a.Net.Nodes.toNat:=zxb hnet
 have hN:za4 (We a):=hn
 have hs:node.toNat < a.Net.Nodes.toNat:=by omega
 obtain⟨T1,a1,a2,a3⟩:=zyU a node 40 Fuel 0 (λ _=>(0:Int)) (λ _=>(0:Int)) (λ v hv=>absurd hv (dqW _)) rfl (by simp only[Fuel];omega)
 have hr:Rp a.Net.Nodes.toNat (ts 80 T1 (node.toNat * 2) [(0:Int),(0:Int)]) (zt1 node.toNat):=λ v hv=>by
  rw[zcA (by omega),zcA (by omega)]
  unfold zt1
  by_cases hq:v=node.toNat
  ·subst hq
   rw[dqG (by omega),dqP rfl,dqP rfl,dqP rfl];rfl
  ·rw[dqG (by omega),dqG (by omega),dqG (by omega),dqG (by omega),dqG hq,(a3 v (by omega)).1,(a3 v (by omega)).2];rfl
 obtain⟨T2,b1,b2,b3⟩:=zwb a hnet (We a) hEe hE hN hs (a.Net.Nodes.toNat - 1) Fuel (λ _=>(0:Int)) (ts 80 T1 (node.toNat * 2) [(0:Int),(0:Int)]) (zt1 node.toNat) hr (zfP (zet node.toNat)) (zoB hE hN hs) (by simp only[Fuel];omega)
 have e:0+node.toNat * 2+0=node.toNat * 2:=by omega
 constructor
 ·show ziD a node Fuel 0 (fun _ => (0:Int)) (fun _ => (0:Int)) = true
  refine Eq.trans a2 ?_
  unfold zoi zsG
  rw[dqT (show 0<=node/\node < (40:Int) by omega),Bool.true_and,e];exact b1
 ·have:s35 a node=T2:=by
   show ziC a node Fuel 0 (λ _=>(0:Int)) (λ _=>(0:Int))=T2
   refine Eq.trans a1 ?_
   unfold zoh zsF
   rw[e];exact b2
  rw[this];exact b3
end Go.Proofs
namespace Go.Proofs
open Go Go.Pm
set_option maxRecDepth 100000
set_option linter.unusedVariables false
def edQ (y:step):Ed:=⟨y.to.toNat,y.from_.toNat,y.length⟩
theorem zyV (l:List step):l.map edQ=(l.map edS).map edR:=by rw[List.map_map];rfl

theorem zBd (a : web) {N s : Nat} (E : List Ed) (hE : EdOk E N) (hn : za4 E) (hs : s < N) (S2 : Bool → Tab → Tab → Tab) (P2 : Bool → Tab → Tab → Bool) (y : step) (hy : StOk y N) (hm : edQ y ∈ E) (S3 : Bool → Tab → Tab → Tab) (P3 : Bool → Tab → Tab → Bool) (c : Bool) (T4 T : Tab) (d : zcf) (h1 : Rp N T d) (hi : Inv (E.map edM) (fun v => v = s) d) :
  ∃ T',zn3 S2 a y S3 c T4 T=S3 (rlF (d,c) (edM (edQ y))).2 T4 T'/\zn4 P2 a y P3 c T4 T=P3 (rlF (d,c) (edM (edQ y))).2 T4 T'/\Rp N T' (rlF (d,c) (edM (edQ y))).1:=by
 have hN:=hE.n40
 have f0:=hy.f0;have f1:=hy.f1;have t0:=hy.t0;have t1:=hy.t1;have l0:=hy.l0;have l1:=hy.l1
 have hu:=h1 y.to.toNat (by omega)
 have hv:=h1 y.from_.toNat (by omega)
 have e1:0+y.to.toNat * 2+0=y.to.toNat * 2:=by omega
 have e2:0+y.from_.toNat * 2+0=y.from_.toNat * 2:=by omega
 have e3:0+y.to.toNat * 2+1=y.to.toNat * 2+1:=by omega
 have hin:=zji (Src:=λ v=>v=s) (zeh hn) (s:=(d,c)) (e:=edM (edQ y)) (List.mem_map_of_mem hm) hi
 have hS:zn3 S2 a y S3 c T4 T=cond (nv (tg 80 T (0+y.to.toNat * 2+0)) (tg 80 T (0+y.to.toNat * 2+0+1))) (S3 c T4 T) (cond c (S3 true T4 (ts 80 T (0+y.from_.toNat * 2+0) [(s62 (⟨(tg 80 T (0+y.from_.toNat * 2+0)),(tg 80 T (0+y.from_.toNat * 2+0+1))⟩:far) (⟨1,λ _=>(⟨(w64 ((tg 80 T (0+y.to.toNat * 2+0))+y.length)),(w64 ((tg 80 T (0+y.to.toNat * 2+1))+(1:Int)))⟩:far)⟩:(Sl far))).length,(s62 (⟨(tg 80 T (0+y.from_.toNat * 2+0)),(tg 80 T (0+y.from_.toNat * 2+0+1))⟩:far) (⟨1,λ _=>(⟨(w64 ((tg 80 T (0+y.to.toNat * 2+0))+y.length)),(w64 ((tg 80 T (0+y.to.toNat * 2+1))+(1:Int)))⟩:far)⟩:(Sl far))).uses])) (S3 (!(sm (s62 (⟨(tg 80 T (0+y.from_.toNat * 2+0)),(tg 80 T (0+y.from_.toNat * 2+0+1))⟩:far) (⟨1,λ _=>(⟨(w64 ((tg 80 T (0+y.to.toNat * 2+0))+y.length)),(w64 ((tg 80 T (0+y.to.toNat * 2+1))+(1:Int)))⟩:far)⟩:(Sl far))).length (s62 (⟨(tg 80 T (0+y.from_.toNat * 2+0)),(tg 80 T (0+y.from_.toNat * 2+0+1))⟩:far) (⟨1,λ _=>(⟨(w64 ((tg 80 T (0+y.to.toNat * 2+0))+y.length)),(w64 ((tg 80 T (0+y.to.toNat * 2+1))+(1:Int)))⟩:far)⟩:(Sl far))).uses (tg 80 T (0+y.from_.toNat * 2+0)) (tg 80 T (0+y.from_.toNat * 2+0+1)))) T4 (ts 80 T (0+y.from_.toNat * 2+0) [(s62 (⟨(tg 80 T (0+y.from_.toNat * 2+0)),(tg 80 T (0+y.from_.toNat * 2+0+1))⟩:far) (⟨1,λ _=>(⟨(w64 ((tg 80 T (0+y.to.toNat * 2+0))+y.length)),(w64 ((tg 80 T (0+y.to.toNat * 2+1))+(1:Int)))⟩:far)⟩:(Sl far))).length,(s62 (⟨(tg 80 T (0+y.from_.toNat * 2+0)),(tg 80 T (0+y.from_.toNat * 2+0+1))⟩:far) (⟨1,λ _=>(⟨(w64 ((tg 80 T (0+y.to.toNat * 2+0))+y.length)),(w64 ((tg 80 T (0+y.to.toNat * 2+1))+(1:Int)))⟩:far)⟩:(Sl far))).uses]))):=rfl
 have hP:zn4 P2 a y P3 c T4 T=(decide (0<=y.to/\y.to < (40:Int)) && cond (nv (tg 80 T (0+y.to.toNat * 2+0)) (tg 80 T (0+y.to.toNat * 2+0+1))) (P3 c T4 T) (decide (0<=y.from_/\y.from_ < (40:Int)) && (decide (0<=y.to/\y.to < (40:Int)) && (decide (0<=y.to/\y.to < (40:Int)) && (decide (p62 (⟨(tg 80 T (0+y.from_.toNat * 2+0)),(tg 80 T (0+y.from_.toNat * 2+0+1))⟩:far) (⟨1,λ _=>(⟨(w64 ((tg 80 T (0+y.to.toNat * 2+0))+y.length)),(w64 ((tg 80 T (0+y.to.toNat * 2+1))+(1:Int)))⟩:far)⟩:(Sl far))=true) && cond c (decide (0<=y.from_/\y.from_ < (40:Int)) && P3 true T4 (ts 80 T (0+y.from_.toNat * 2+0) [(s62 (⟨(tg 80 T (0+y.from_.toNat * 2+0)),(tg 80 T (0+y.from_.toNat * 2+0+1))⟩:far) (⟨1,λ _=>(⟨(w64 ((tg 80 T (0+y.to.toNat * 2+0))+y.length)),(w64 ((tg 80 T (0+y.to.toNat * 2+1))+(1:Int)))⟩:far)⟩:(Sl far))).length,(s62 (⟨(tg 80 T (0+y.from_.toNat * 2+0)),(tg 80 T (0+y.from_.toNat * 2+0+1))⟩:far) (⟨1,λ _=>(⟨(w64 ((tg 80 T (0+y.to.toNat * 2+0))+y.length)),(w64 ((tg 80 T (0+y.to.toNat * 2+1))+(1:Int)))⟩:far)⟩:(Sl far))).uses])) (decide (0<=y.from_/\y.from_ < (40:Int)) && (decide (0<=y.from_/\y.from_ < (40:Int)) && P3 (!(sm (s62 (⟨(tg 80 T (0+y.from_.toNat * 2+0)),(tg 80 T (0+y.from_.toNat * 2+0+1))⟩:far) (⟨1,λ _=>(⟨(w64 ((tg 80 T (0+y.to.toNat * 2+0))+y.length)),(w64 ((tg 80 T (0+y.to.toNat * 2+1))+(1:Int)))⟩:far)⟩:(Sl far))).length (s62 (⟨(tg 80 T (0+y.from_.toNat * 2+0)),(tg 80 T (0+y.from_.toNat * 2+0+1))⟩:far) (⟨1,λ _=>(⟨(w64 ((tg 80 T (0+y.to.toNat * 2+0))+y.length)),(w64 ((tg 80 T (0+y.to.toNat * 2+1))+(1:Int)))⟩:far)⟩:(Sl far))).uses (tg 80 T (0+y.from_.toNat * 2+0)) (tg 80 T (0+y.from_.toNat * 2+0+1)))) T4 (ts 80 T (0+y.from_.toNat * 2+0) [(s62 (⟨(tg 80 T (0+y.from_.toNat * 2+0)),(tg 80 T (0+y.from_.toNat * 2+0+1))⟩:far) (⟨1,λ _=>(⟨(w64 ((tg 80 T (0+y.to.toNat * 2+0))+y.length)),(w64 ((tg 80 T (0+y.to.toNat * 2+1))+(1:Int)))⟩:far)⟩:(Sl far))).length,(s62 (⟨(tg 80 T (0+y.from_.toNat * 2+0)),(tg 80 T (0+y.from_.toNat * 2+0+1))⟩:far) (⟨1,λ _=>(⟨(w64 ((tg 80 T (0+y.to.toNat * 2+0))+y.length)),(w64 ((tg 80 T (0+y.to.toNat * 2+1))+(1:Int)))⟩:far)⟩:(Sl far))).uses])))))))):=rfl
 rw[hS,hP]
 clear hS hP
 rw[e1,e2,e3,zdL (k:=y.to.toNat * 2) (by omega),zdL (k:=y.to.toNat * 2+1) (by omega),zdL (k:=y.from_.toNat * 2) (by omega),zdL (k:=y.from_.toNat * 2+1) (by omega)]
 rw[dqT (show 0<=y.to/\y.to < (40:Int) by omega),dqT (show 0<=y.from_/\y.from_ < (40:Int) by omega)]
 simp only[zpP,same_eq]
 cases hdu:d y.to.toNat with
 | none =>
  rw[hdu] at hu
  have hr:rlF (d,c) (edM (edQ y))=(d,c):=by
   unfold rlF edM edQ
   simp only[hdu]
  rw[hr,dqT (show (T (y.to.toNat * 2),T (y.to.toNat * 2+1))=((1000000000000:Int),(0:Int)) from hu)]
  exact⟨T,rfl,rfl,h1⟩
 | some x =>
  obtain⟨L,U,k1,k2,k3,k4,k5,k6⟩:=zhe hE hs hi hdu
  rw[hdu] at hu k1
  rw[k1] at hu
  have hL:T (y.to.toNat * 2)=L:=(Prod.mk.inj hu).1
  have hU:T (y.to.toNat * 2+1)=U:=(Prod.mk.inj hu).2
  rw[hL,hU,dqF (show ¬ (L,U)=((1000000000000:Int),(0:Int)) from λ h=>by have:=(Prod.mk.inj h).1;omega),zae (x:=L+y.length) (by omega) (by omega),zae (x:=U+(1:Int)) (by omega) (by omega)]
  rw[(zhd _ _).1,(zhd _ _).2,zt9]
  have hw:x+(edM (edQ y)).w=(L+y.length) * 1048576+(U+1):=by
   show x+(y.length * 1048576+1)=_
   omega
  have hr:rlF (d,c) (edM (edQ y))=cond (ltO ((L+y.length) * 1048576+(U+1)) (d y.from_.toNat)) (zpK d y.from_.toNat ((L+y.length) * 1048576+(U+1)),true) (d,c):=by
   rw[<- hw]
   unfold rlF edM edQ
   simp only[hdu] <;> rfl
  have hlt:decide ((L+y.length < T (y.from_.toNat * 2))\/(L+y.length=T (y.from_.toNat * 2)/\U+1 < T (y.from_.toNat * 2+1)))=ltO ((L+y.length) * 1048576+(U+1)) (d y.from_.toNat):=by
   cases hdv:d y.from_.toNat with
   | none =>
    rw[hdv] at hv
    have hv1:T (y.from_.toNat * 2)=1000000000000:=(Prod.mk.inj hv).1
    rw[hv1]
    exact dqT (.inl (by omega))
   | some z =>
    obtain⟨L',U',m1,m2,m3,m4,m5,m6⟩:=zhe hE hs hi hdv
    rw[hdv] at hv m1
    rw[m1] at hv
    rw[(Prod.mk.inj hv).1,(Prod.mk.inj hv).2,m2]
    exact decide_eq_decide.2 (by omega)
  simp only[hlt]
  rw[hr] at hin ⊢
  have hrw:∀ T'',Rp N T d->T''=ts 80 T (y.from_.toNat * 2) [T (y.from_.toNat * 2),T (y.from_.toNat * 2+1)]->Rp N T'' d:=λ T'' h e v hv'=>by
   rw[e,zcA (by omega),zcA (by omega),<- h v hv']
   by_cases hq:v=y.from_.toNat
   ·subst hq
    rw[dqG (by omega),dqP rfl,dqP rfl]
   ·rw[dqG (by omega),dqG (by omega),dqG (by omega),dqG (by omega)]
  cases hlo:ltO ((L+y.length) * 1048576+(U+1)) (d y.from_.toNat) with
  | false =>
   refine⟨ts 80 T (y.from_.toNat * 2) [T (y.from_.toNat * 2),T (y.from_.toNat * 2+1)],?_,?_,hrw _ h1 rfl⟩
   ·simp only [dqB, decide_true]
    cases c <;> rfl
   ·simp only [dqB, Bool.true_and, decide_true]
    cases c <;> rfl
  | true =>
   rw[hlo] at hin
   simp only[dqA,dqB,Bool.true_and,decide_true] at hin ⊢
   refine⟨ts 80 T (y.from_.toNat * 2) [L+y.length,U+1],?_,?_,?_⟩
   ·cases c
    ·rw [dqF]
     ·rfl
     ·intro h
      rw[<- hlt] at hlo
      have:=of_decide_eq_true hlo
      have h1':=(Prod.mk.inj h).1
      have h2':=(Prod.mk.inj h).2
      omega
    ·rfl
   ·cases c
    ·rw [dqF]
     ·rfl
     ·intro h
      rw[<- hlt] at hlo
      have:=of_decide_eq_true hlo
      have h1':=(Prod.mk.inj h).1
      have h2':=(Prod.mk.inj h).2
      omega
    ·rfl
   ·intro v hv'
    rw[zcA (by omega),zcA (by omega)]
    unfold zpK
    by_cases hq:v=y.from_.toNat
    ·subst hq
     rw[dqG (by omega),dqP rfl,dqP rfl,dqP rfl]
     exact (zoA (by omega) (by omega)).symm
    ·rw [dqG (by omega), dqG (by omega), dqG (by omega), dqG (by omega), dqG hq]
     exact h1 v hv'
theorem zBe (a:web){N s:Nat}(E:List Ed) (hE:EdOk E N) (hn:za4 E) (hs:s < N) (S2:Bool->Tab->Tab->Tab) (P2:Bool->Tab->Tab->Bool):∀ (l:List step),(∀ y∈l,StOk y N/\edQ y∈E)->∀ (c:Bool) (T4 T:Tab) (d:zcf),Rp N T d->Inv (E.map edM) (λ v=>v=s) d ->
  ∃ T',zn5 S2 a l c T4 T=S2 (((l.map edQ).map edM).foldl rlF (d,c)).2 T4 T'/\zn6 P2 a l c T4 T=P2 (((l.map edQ).map edM).foldl rlF (d,c)).2 T4 T'/\Rp N T' (((l.map edQ).map edM).foldl rlF (d,c)).1:=by
 intro l
 induction l with
 | nil=>intro _ c T4 T d h1 _;exact⟨T,rfl,rfl,h1⟩
 | cons y l ih =>
  intro hl c T4 T d h1 h2
  obtain⟨hy,hm⟩:=hl y (dqj ..)
  obtain⟨T',k1,k2,k3⟩:=zBd a E hE hn hs S2 P2 y hy hm (zn5 S2 a l) (zn6 P2 a l) c T4 T d h1 h2
  have h3:=zji (Src:=λ v=>v=s) (zeh hn) (s:=(d,c)) (e:=edM (edQ y)) (List.mem_map_of_mem hm) h2
  obtain⟨T'',m1,m2,m3⟩:=ih (λ z hz=>hl z (dqf _ hz)) (rlF (d,c) (edM (edQ y))).2 T4 T' (rlF (d,c) (edM (edQ y))).1 k3 h3
  exact⟨T'',Eq.trans k1 m1,Eq.trans k2 m2,m3⟩
theorem zwc (a:web) (hnet:NetOk a.Net) (E:List Ed) (hEe:E=(Ws a).map edQ){s:Nat}(hE:EdOk E a.Net.Nodes.toNat) (hn:za4 E) (hs:s < a.Net.Nodes.toNat):∀ (m k:Nat) (T4 T:Tab) (d:zcf),Rp a.Net.Nodes.toNat T d->Inv (E.map edM) (λ v=>v=s) d->Fix (E.map edM) (rds (E.map edM) m d)->m+1 < k ->
  ∃ T',zeW a k true T4 T=true/\zeV a k true T4 T=T'/\Rp a.Net.Nodes.toNat T' (rds (E.map edM) m d):=by
 have hlen:=hnet.len
 obtain⟨q1,q2⟩:=zoD a (by omega)
 have hst:∀ y∈Ws a,StOk y a.Net.Nodes.toNat/\edQ y∈E:=λ y hy=>⟨zA8 hnet hy,by rw[hEe];exact List.mem_map_of_mem hy⟩
 have one:∀ (k:Nat) (T4 T:Tab) (d:zcf),Rp a.Net.Nodes.toNat T d->Inv (E.map edM) (λ v=>v=s) d ->
   ∃ T',zeV a (k+1) true T4 T=zeV a k ((E.map edM).foldl rlF (d,false)).2 T4 T'/\zeW a (k+1) true T4 T=zeW a k ((E.map edM).foldl rlF (d,false)).2 T4 T'/\Rp a.Net.Nodes.toNat T' (rnd (E.map edM) d):=by
  intro k T4 T d h1 h2
  obtain⟨T',k1,k2,k3⟩:=zBe a E hE hn hs (zeV a k) (zeW a k) (Ws a) hst false T4 T d h1 h2
  rw[<- hEe] at k1 k2 k3
  refine⟨T',?_,?_,k3⟩
  ·show zn7 a (zeV a k) true T4 T = _
   unfold zn7 zsz
   rw[dqA,q2];exact k1
  ·show zn8 a (zeW a k) true T4 T = _
   unfold zn8 zsA
   rw[dqA,q1,q2,dqT rfl,Bool.true_and];exact k2
 have stop:∀ (k:Nat) (T4 T:Tab),zeV a (k+1) false T4 T=T/\zeW a (k+1) false T4 T=true:=λ k T4 T=>⟨rfl,rfl⟩
 intro m
 induction m with
 | zero =>
  intro k T4 T d h1 h2 h3 hk
  obtain⟨k,rfl⟩:∃ k',k=k'+1+1:=⟨k - 2,by omega⟩
  obtain⟨T',k1,k2,k3⟩:=one (k+1) T4 T d h1 h2
  have h3':Fix (E.map edM) d:=h3
  rw[zhc h3'] at k1 k2
  rw[zjh h3'] at k3
  obtain⟨j1,j2⟩:=stop k T4 T'
  exact⟨T',k2.trans j2,k1.trans j1,k3⟩
 | succ m ih =>
  intro k T4 T d h1 h2 h3 hk
  obtain⟨k,rfl⟩:∃ k',k=k'+1+1:=⟨k - 2,by omega⟩
  obtain⟨T',k1,k2,k3⟩:=one (k+1) T4 T d h1 h2
  cases hf:((E.map edM).foldl rlF (d,false)).2 with
  | false =>
   rw[hf] at k1 k2
   have hx:Fix (E.map edM) d:=zgm hf
   obtain⟨j1,j2⟩:=stop k T4 T'
   refine⟨T',k2.trans j2,k1.trans j1,?_⟩
   rw[zjh hx] at k3
   rw[ztZ hx];exact k3
  | true =>
   rw[hf] at k1 k2
   obtain⟨T'',m1,m2,m3⟩:=ih (k+1) T4 T' (rnd (E.map edM) d) k3 (zlk (zeh hn) (λ _ h=>h) (s:=(d,false)) h2) h3 (by omega)
   exact⟨T'',k2.trans m1,k1.trans m2,m3⟩
theorem zyW (a:web) (node:Int):∀ (m k i:Nat) (T4 T:Tab),(∀ v,v < i->T (v * 2)=1000000000000/\T (v * 2+1)=0)->i+m=40->m < k ->
  ∃ T',ziy a node k (i:Int) T4 T=zn9 a node T4 T'/\ziz a node k (i:Int) T4 T=zoa a node T4 T'/\∀ v,v < 40->T' (v * 2)=1000000000000/\T' (v * 2+1)=0:=by
 intro m
 induction m with
 | zero =>
  intro k i T4 T h hi hk
  obtain⟨k,rfl⟩:∃ k',k=k'+1:=⟨k - 1,by omega⟩
  refine⟨T,?_,?_,λ v hv=>h v (by omega)⟩
  ·show ziw a node (ziy a node k) (i : Int) T4 T = _
   unfold ziw
   rw[dqF (show ¬ (i:Int) < (40:Int) by omega),dqB]
  ·show zix a node (ziz a node k) (i : Int) T4 T = _
   unfold zix
   rw[dqF (show ¬ (i:Int) < (40:Int) by omega),dqB]
 | succ m ih =>
  intro k i T4 T h hi hk
  obtain⟨k,rfl⟩:∃ k',k=k'+1:=⟨k - 1,by omega⟩
  have hw:w64 ((i:Int)+(1:Int))=((i+1:Nat):Int):=by rw[zae (by omega) (by omega)];omega
  obtain⟨T',k1,k2,k3⟩:=ih k (i+1) T4 (ts 80 T (i * 2) [(1000000000000:Int),(0:Int)]) (λ v hv=>by
   rw[zcA (by omega),zcA (by omega)]
   by_cases hq:v=i
   ·subst hq
    rw[dqG (by omega),dqP rfl,dqP rfl];exact⟨rfl,rfl⟩
   ·rw[dqG (by omega),dqG (by omega),dqG (by omega),dqG (by omega)];exact h v (by omega)) (by omega) (by omega)
  refine⟨T',?_,?_,k3⟩
  ·rw [← k1]
   show ziw a node (ziy a node k) (i:Int) T4 T=_
   unfold ziw
   rw[dqT (show (i:Int) < (40:Int) by omega),dqA,hw,dqN,show 0+i * 2+0=i * 2 by omega]
  ·rw [← k2]
   show zix a node (ziz a node k) (i:Int) T4 T=_
   unfold zix
   rw[dqT (show (i:Int) < (40:Int) by omega),dqA,dqT (show 0<=(i:Int)/\(i:Int) < (40:Int) by omega),Bool.true_and,hw,dqN,show 0+i * 2+0=i * 2 by omega]
theorem zBf (a : web) (hnet : NetOk a.Net) (hn : za4 (We a)) (node : Int) (h0 : 0 ≤ node) (h1 : node < a.Net.Nodes) :
  p34 a node=true/\Rp a.Net.Nodes.toNat (s34 a node) (dst ((We a).map edR) a.Net.Nodes.toNat node.toNat):=by
 have hn40:=hnet.n40
 have hEe:((We a).map edR)=(Ws a).map edQ:=(zyV (Ws a)).symm
 have hE:EdOk ((We a).map edR) a.Net.Nodes.toNat:=(zxb hnet).R
 have hN:za4 ((We a).map edR):=zll hn
 have hs:node.toNat < a.Net.Nodes.toNat:=by omega
 obtain⟨T1,a1,a2,a3⟩:=zyW a node 40 Fuel 0 (λ _=>(0:Int)) (λ _=>(0:Int)) (λ v hv=>absurd hv (dqW _)) rfl (by simp only[Fuel];omega)
 have hr:Rp a.Net.Nodes.toNat (ts 80 T1 (node.toNat * 2) [(0:Int),(0:Int)]) (zt1 node.toNat):=λ v hv=>by
  rw[zcA (by omega),zcA (by omega)]
  unfold zt1
  by_cases hq:v=node.toNat
  ·subst hq
   rw[dqG (by omega),dqP rfl,dqP rfl,dqP rfl];rfl
  ·rw[dqG (by omega),dqG (by omega),dqG (by omega),dqG (by omega),dqG hq,(a3 v (by omega)).1,(a3 v (by omega)).2];rfl
 obtain⟨T2,b1,b2,b3⟩:=zwc a hnet ((We a).map edR) hEe hE hN hs (a.Net.Nodes.toNat - 1) Fuel (λ _=>(0:Int)) (ts 80 T1 (node.toNat * 2) [(0:Int),(0:Int)]) (zt1 node.toNat) hr (zfP (zet node.toNat)) (zoB hE hN hs) (by simp only[Fuel];omega)
 have e:0+node.toNat * 2+0=node.toNat * 2:=by omega
 constructor
 ·show ziz a node Fuel 0 (fun _ => (0:Int)) (fun _ => (0:Int)) = true
  refine Eq.trans a2 ?_
  unfold zoa zsC
  rw[dqT (show 0<=node/\node < (40:Int) by omega),Bool.true_and,e];exact b1
 ·have:s34 a node=T2:=by
   show ziy a node Fuel 0 (λ _=>(0:Int)) (λ _=>(0:Int))=T2
   refine Eq.trans a1 ?_
   unfold zn9 zsB
   rw[e];exact b2
  rw[this];exact b3
end Go.Proofs
namespace Go.Proofs
open Go Go.Pm
set_option maxRecDepth 100000
set_option linter.unusedVariables false
attribute [local irreducible] Go.Pm.vcFun Go.Pm.vc Go.Pm.vcIter
end Go.Proofs
namespace Go.Proofs
open Go Go.Pm
set_option maxRecDepth 100000
set_option linter.unusedVariables false
def W (n:Net):web:=⟨n,⟨0,λ _=>none⟩⟩
abbrev En (n:Net):List Ed:=We (W n)
def fr (n:Net) (i j:Nat):Int:=zw9 (dst (En n) n.Nodes.toNat i j)
theorem zBg {E:List Ed}{n s v:Nat}(hE:EdOk E n) (hn:za4 E) (hs:s < n) (hv:v < n):zw9 (dst (E.map edR) n s v)=zw9 (dst E n v s):=by
 refine Int.le_antisymm ?_ ?_
 ·rcases zcJ (v := s) hE hn hv with ⟨_, h⟩ | ⟨c, _, h1, h2, _⟩
  ·rw [h]
   rcases zcJ (v:=v) hE.R (zll hn) hs with ⟨_,h⟩ | ⟨c,_,_,h2,_,_,_⟩ <;> omega
  ·rw[h2,<- zDc c];exact zlm hE.R (zll hn) hs (zDd h1)
 ·rcases zcJ (v := v) hE.R (zll hn) hs with ⟨_, h⟩ | ⟨c, _, h1, h2, _⟩
  ·rw [h]
   rcases zcJ (v:=s) hE hn hv with ⟨_,h⟩ | ⟨c,_,_,h2,_,_,_⟩ <;> omega
  ·obtain ⟨c0, k1, k2, _⟩ := zA7 h1
   rw[h2,<- k2];exact zlm hE hn hv k1
theorem zpQ {n:Net}(hn:NetOk n) (hN:za4 (En n)) {i j:Nat}(hi:i < n.Nodes.toNat) : -1000000000000<=fr n i j/\fr n i j<=1000000000000:=by
 have hE:EdOk (En n) n.Nodes.toNat:=zxb (a:=W n) hn
 unfold fr
 rcases zcJ (v:=j) hE hN hi with ⟨_,h⟩ | ⟨c,_,_,h2,_,h3,h4⟩
 ·rw[h];omega
 ·rw[h2];omega
theorem zwd (n:Net) (nodes:Sl Int) (hl:nodes.len<=1000) (ht:n.Ties.len<=210):p33 n nodes=true /\
    (s32 n=false->s33 n nodes=(default,2)) /\
    (NetOk n->(¬ ∀ i,i < nodes.len->0<=nodes.get i/\nodes.get i < n.Nodes)->s33 n nodes=(default,2)) /\
    (NetOk n->(∀ i,i < nodes.len->0<=nodes.get i/\nodes.get i < n.Nodes)->¬ za4 (En n)->s33 n nodes=(default,5)) /\
    (NetOk n->(∀ i,i < nodes.len->0<=nodes.get i/\nodes.get i < n.Nodes)->za4 (En n)->s33 n nodes=(W n,0)):=by
  obtain⟨a1,a2⟩:=zoz n (by omega)
  unfold p33 s33
  rw[a1,dqT (show true=true from rfl),Bool.true_and]
  by_cases hs:s32 n=true
  · have hn := a2.1 hs
    have hn1:=hn.n1;have hn40:=hn.n40
    obtain⟨t1,_⟩:=zt7 (W n) hn
    rw[hs]
    have hg:∀ i,i < nodes.len->(s31 (nodes.get i) (0:Int) (w64 (n.Nodes - (1:Int)))=true↔0<=nodes.get i/\nodes.get i < n.Nodes):=λ i _=>by
      rw[zfL,decide_eq_true_eq,zae (by omega) (by omega)];omega
    have hloop := zlh (good := fun i => s31 (nodes.get i) (0:Int) (w64 (n.Nodes - (1:Int)))) (bad := ((default : web), (2:Int))) (fin := zsm n (s60 (W n))) (finP := true) (n := nodes.len) (lpS := zio n nodes) (lpP := ziq n nodes)
      (λ k i hi=>by
        show zim n nodes (zio n nodes k) (i:Int)=_
        generalize zio n nodes k=S
        unfold zim zsn
        rw[dqT (show (i:Int) < (nodes.len:Int) by omega),dqA,dqN]
        cases s31 (nodes.get i) (0:Int) (w64 (n.Nodes - (1:Int))) <;> rfl)
      (λ k=>by
        show zim n nodes (zio n nodes k) (nodes.len:Int)=_
        unfold zim
        rw[dqF (show ¬ (nodes.len:Int) < (nodes.len:Int) by omega),dqB];rfl)
      (λ k i hi=>by
        show zin n nodes (ziq n nodes k) (i:Int)=_
        generalize ziq n nodes k=S
        unfold zin zso
        rw[dqT (show (i:Int) < (nodes.len:Int) by omega),dqA,dqN,dqT (show 0<=(i:Int)/\(i:Int) < (nodes.len:Int) by omega),Bool.true_and]
        cases s31 (nodes.get i) (0:Int) (w64 (n.Nodes - (1:Int))) <;> rfl)
      (λ k=>by
        show zin n nodes (ziq n nodes k) (nodes.len:Int)=_
        unfold zin
        rw[dqF (show ¬ (nodes.len:Int) < (nodes.len:Int) by omega),dqB,show p60 (⟨n,(⟨0,(λ _=>none)⟩:Mp)⟩:web)=true from t1];rfl)
      (by omega)
    unfold zsu zst zss zsr zsq zsp
    by_cases hr:∀ i,i < nodes.len->0<=nodes.get i/\nodes.get i < n.Nodes
    · obtain ⟨l1, l2⟩ := hloop.1 (fun i hi => (hg i hi).2 (hr i hi))
      rw[l1,l2]
      refine⟨rfl,λ h=>(by cases h),λ _ h=>absurd hr h,λ _ _ h=>?_,λ _ _ h=>?_⟩
      · have:s60 (W n)=true:=by
          cases ht:s60 (W n)
          · exact absurd ((zt8 (W n) hn).1 ht) h
          · rfl
        rw[this];rfl
      · rw[(zt8 (W n) hn).2 h];rfl
    · obtain ⟨l1, l2⟩ := hloop.2 (fun h => hr fun i hi => (hg i hi).1 (h i hi))
      rw[l1,l2]
      exact⟨rfl,λ h=>(by cases h),λ _ _=>rfl,λ _ h=>absurd h hr,λ _ h=>absurd h hr⟩
  · rw [Bool.eq_false_iff.2 hs]
    have hno:NetOk n->False:=λ h=>hs (a2.2 h)
    exact⟨rfl,λ _=>rfl,λ h=>(hno h).elim,λ h=>(hno h).elim,λ h=>(hno h).elim⟩
theorem zCF {n:Net}(hn:NetOk n) (hN:za4 (En n)) {i:Int}(h0:0<=i) (h1:i < n.Nodes){j:Nat}(hj:j < n.Nodes.toNat):p34 (W n) i=true/\s34 (W n) i (j * 2)=fr n j i.toNat:=by
 have h40:=hn.n40
 obtain⟨a,b⟩:=zBf (W n) hn hN i h0 h1
 refine⟨a,?_⟩
 have:=(Prod.mk.inj (b j hj)).1
 rw[this]
 exact zBg (zxb (a:=W n) hn) hN (show i.toNat < n.Nodes.toNat by omega) hj
theorem zyX {n:Net}(hn:NetOk n) (hN:za4 (En n)) {i:Int}(h0:0<=i) (h1:i < n.Nodes){j:Nat}(hj:j < n.Nodes.toNat):p35 (W n) i=true/\s35 (W n) i (j * 2)=fr n i.toNat j:=by
 obtain⟨a,b⟩:=zBc (W n) hn hN i h0 h1
 exact⟨a,(Prod.mk.inj (b j hj)).1⟩
theorem zyY {α:Type}(i:Nat) (v:α) (g:Nat->α) (j:Nat):setT i v g j=if j=i then v else g j:=by
 show (match Nat.beq j i with | true=>v | false=>g j)=_
 by_cases h:j=i
 ·rw[dqP h,show Nat.beq j i=true from by rw[h];exact Nat.beq_refl _]
 ·rw[dqG h,show Nat.beq j i=false from Bool.eq_false_iff.2 λ e=>h (dqc e)]
def zxc (n:Net) (i:Nat) (v:Sl Span):Sl Span:=⟨v.len,setT i (⟨-fr n i 0,fr n 0 i⟩:Span) v.get⟩
theorem zyZ (n:Net):∀ (m i:Nat) (v:Sl Span),(∀ j,j < i->v.get j=⟨-fr n j 0,fr n 0 j⟩)->(zef (zxc n) m i v).len=v.len/\∀ j,j < i+m->(zef (zxc n) m i v).get j=⟨-fr n j 0,fr n 0 j⟩:=by
 intro m
 induction m with
 | zero=>intro i v h;exact⟨rfl,λ j hj=>h j (by omega)⟩
 | succ m ih =>
  intro i v h
  obtain⟨k1,k2⟩:=ih (i+1) (zxc n i v) (λ j hj=>by
   show setT i _ v.get j=_
   rw[zyY]
   by_cases hji:j=i
   ·rw[dqP hji,hji]
   ·rw[dqG hji];exact h j (by omega))
  exact⟨k1,λ j hj=>k2 j (by omega)⟩
theorem zua {n:Net}(ht:n.Ties.len<=210) (hn:NetOk n) (hN:za4 (En n)):p11 n=true/\∃ l,s11 n=(l,0)/\l.len=n.Nodes.toNat/\∀ i,i < n.Nodes.toNat->l.get i=⟨-fr n i 0,fr n 0 i⟩:=by
  have hn1:=hn.n1;have hn40:=hn.n40
  obtain⟨w0,_,_,_,w4⟩:=zwd n (⟨0,λ _=>default⟩:Sl Int) (by decide) ht
  have w4':=w4 hn (λ i hi=>absurd hi (dqW _)) hN
  have hT:=λ (j:Nat) (hj:j < n.Nodes.toNat)=>zCF hn hN (i:=0) (Int.le_refl _) (by omega) hj
  have hF:=λ (j:Nat) (hj:j < n.Nodes.toNat)=>zyX hn hN (i:=0) (Int.le_refl _) (by omega) hj
  have p1:=(hT 0 (by omega)).1
  have p2:=(hF 0 (by omega)).1
  have hloop := zjg (step := zxc n) (E := fun v => (v, (0:Int))) (EP := fun _ => true) (Inv := fun _ v => v.len = n.Nodes.toNat) (a := 0) (n := n.Nodes.toNat) (lpS := fun k v i => s11_lp0 n k i v (s34 (W n) 0) (s35 (W n) 0)) (lpP := fun k v i => p11_lp0 n k i v (s34 (W n) 0) (s35 (W n) 0))
    (λ k i v _ hi hv=>by
      show s11_st0 n (s11_lp0 n k) (i:Int) v (s34 (W n) 0) (s35 (W n) 0)=s11_lp0 n k (w64 ((i:Int)+(1:Int))) (zxc n i v) (s34 (W n) 0) (s35 (W n) 0)
      generalize s11_lp0 n k=S
      unfold s11_st0 zxc
      have hb:=zpQ hn hN (i:=i) (j:=0) hi
      rw[dqT (show (i:Int) < (n.Nodes.toNat:Int) by omega),dqA,dqN,show 0+i * 2+0=i * 2 by omega,zdL (by omega),zdL (by omega),(hT i hi).2,(hF i hi).2,show (0:Int).toNat=0 from rfl,zae (x:=0 - fr n i 0) (by omega) (by omega),show (0:Int) - fr n i 0 = -fr n i 0 by omega])
    (λ k v=>by
      show s11_st0 n (s11_lp0 n k) (n.Nodes.toNat:Int) v (s34 (W n) 0) (s35 (W n) 0)=_
      unfold s11_st0
      rw[dqF (show ¬ (n.Nodes.toNat:Int) < (n.Nodes.toNat:Int) by omega),dqB])
    (λ k i v _ hi hv=>by
      show p11_st0 n (p11_lp0 n k) (i:Int) v (s34 (W n) 0) (s35 (W n) 0)=p11_lp0 n k (w64 ((i:Int)+(1:Int))) (zxc n i v) (s34 (W n) 0) (s35 (W n) 0)
      generalize p11_lp0 n k=S
      unfold p11_st0 zxc
      have hb:=zpQ hn hN (i:=i) (j:=0) hi
      have hv':v.len=n.Nodes.toNat:=hv
      rw[dqT (show (i:Int) < (n.Nodes.toNat:Int) by omega),dqA,dqN,show 0+i * 2+0=i * 2 by omega,zdL (by omega),zdL (by omega),(hT i hi).2,(hF i hi).2,show (0:Int).toNat=0 from rfl,zae (x:=0 - fr n i 0) (by omega) (by omega),show (0:Int) - fr n i 0 = -fr n i 0 by omega,
        dqT (show 0<=(i:Int)/\(i:Int) < (40:Int) by omega),dqT (show 0<=(i:Int)/\(i:Int) < (v.len:Int) by omega),dqT (show i < v.len by omega)]
      rfl)
    (λ k v=>by
      show p11_st0 n (p11_lp0 n k) (n.Nodes.toNat:Int) v (s34 (W n) 0) (s35 (W n) 0)=_
      unfold p11_st0
      rw[dqF (show ¬ (n.Nodes.toNat:Int) < (n.Nodes.toNat:Int) by omega),dqB])
    (λ i v _ _ h=>h) (Nat.zero_le _) (by omega) (⟨n.Nodes.toNat,(λ _=>(⟨(0:Int),(0:Int)⟩:Span))⟩:Sl Span) rfl
  obtain⟨l1,l2⟩:=hloop
  obtain⟨f1,f2⟩:=zyZ n (n.Nodes.toNat - 0) 0 (⟨n.Nodes.toNat,(λ _=>(⟨(0:Int),(0:Int)⟩:Span))⟩:Sl Span) (λ j hj=>absurd hj (dqW _))
  constructor
  · unfold p11
    rw[w0,w4']
    show (cond ((0:Int) == 0) (decide (true=true) && cond ((0:Int) != (0:Int)) true (decide (p34 (W n) 0=true) && (decide (p35 (W n) 0=true) && (decide (0<=n.Nodes/\n.Nodes=n.Nodes/\n.Nodes<=1000000) && p11_at0 n (0:Int) (⟨n.Nodes.toNat,(λ _=>(⟨(0:Int),(0:Int)⟩:Span))⟩:Sl Span) (s34 (W n) 0) (s35 (W n) 0))))) _)=true
    rw[p1,p2,dqT (show 0<=n.Nodes/\n.Nodes=n.Nodes/\n.Nodes<=1000000 from ⟨by omega,rfl,by omega⟩)]
    exact l1
  · refine ⟨_, ?_, f1, fun i hi => f2 i (by omega)⟩
    unfold s11
    rw[w4']
    exact l2
theorem zj0 {n:Net}(hn:NetOk n){v:Sl Int}(hv:AgOk n v):∀ e∈En n,v.get e.v<=v.get e.u+e.w:=by
 intro e he
 obtain⟨j,h1,_,h3⟩:=(zt5 (a:=W n) hn).1 he
 have hk:=hv.keep j h1
 rcases h3 with ⟨h4,rfl⟩ | ⟨h4,rfl⟩
 ·have := hk.2.resolve_left h4
  show v.get (n.Ties.get j).To.toNat<=v.get (n.Ties.get j).From.toNat+(n.Ties.get j).High
  omega
 ·have := hk.1.resolve_left h4
  show v.get (n.Ties.get j).From.toNat<=v.get (n.Ties.get j).To.toNat + -(n.Ties.get j).Low
  omega
theorem zgI {n:Net}(hn:NetOk n){v:Sl Int}(hv:AgOk n v):za4 (En n):=zm1 (f:=v.get) (zj0 hn hv)
theorem zm2 {n:Net}(hn:NetOk n){v:Sl Int}(hv:AgOk n v){i j:Nat}(hi:i < n.Nodes.toNat) (hj:fr n i j ≠ 1000000000000):v.get j - v.get i<=fr n i j:=by
 have hE:EdOk (En n) n.Nodes.toNat:=zxb (a:=W n) hn
 have:=zv8 (v:=j) hE (zgI hn hv) hi (zj0 hn hv) (λ h=>hj (by unfold fr;rw[h];rfl))
 unfold fr
 omega
end Go.Proofs
namespace Go.Proofs
open Go Go.Pm
set_option maxRecDepth 100000
set_option linter.unusedVariables false
theorem zy0 {α:Type}(n:Nat) (g:Nat->α) (x:α) (j:Nat):zdx n g (λ _=>x) j=if n<=j then x else g j:=by
 unfold zdx
 by_cases h:n<=j
 ·rw[dqP h,show Nat.ble n j=true from Nat.ble_eq_true_of_le h]
 ·rw[dqG h,show Nat.ble n j=false from Bool.eq_false_iff.2 λ k=>h (Nat.le_of_ble_eq_true k)]
def apL {α:Type}(l:Nat->α) (i:Nat) (v:Sl α):Sl α:=⟨v.len+1,zdx v.len v.get (λ _=>l i)⟩
theorem zBh {α:Type}(l:Nat->α):∀ (m i:Nat) (v:Sl α),v.len=i->(∀ j,j < i->v.get j=l j)->(zef (apL l) m i v).len=i+m/\∀ j,j < i+m->(zef (apL l) m i v).get j=l j:=by
 intro m
 induction m with
 | zero=>intro i v h1 h2;exact⟨h1,λ j hj=>h2 j (by omega)⟩
 | succ m ih =>
  intro i v h1 h2
  obtain⟨k1,k2⟩:=ih (i+1) (apL l i v) (by show v.len+1=i+1;omega) (λ j hj=>by
   show zdx v.len v.get (λ _=>l i) j=_
   rw[zy0]
   by_cases h:v.len<=j
   ·rw[dqP h,show j=i by omega]
   ·rw[dqG h];exact h2 j (by omega))
  exact⟨k1.trans (by omega),λ j hj=>k2 j (by omega)⟩
theorem zue {n:Net}(hn:NetOk n){v:Sl Int}(hv:AgOk n v){i:Nat}(hi:i < n.Nodes.toNat) : -fr n i 0<=v.get i/\v.get i<=fr n 0 i:=by
 have hn1:=hn.n1
 have h0:=hv.val.zero
 have hb:=hv.val.b i (by have:=hv.val.len;omega)
 constructor
 ·by_cases h : fr n i 0 = 1000000000000
  ·omega
  ·have:=zm2 hn hv (i:=i) (j:=0) hi h;omega
 ·by_cases h : fr n 0 i = 1000000000000
  ·omega
  ·have:=zm2 hn hv (i:=0) (j:=i) (by omega) h;omega
end Go.Proofs
namespace Go.Proofs
open Go Go.Pm
set_option maxRecDepth 100000
set_option linter.unusedVariables false
def zG (l:Sl Plane) (i:Nat):Bool:=cond (decide ((i:Int) > (0:Int))) (!decide ((l.get i).Z<=(l.get (w64 ((i:Int) - (1:Int))).toNat).Z)) true
structure SetOk (l : Sl Plane) : Prop where
  n1:1<=l.len
  n16:l.len<=16
  pl:∀ i,i < l.len->PlOk (l.get i)
  z:∀ i,i < l.len->zG l i=true
theorem zCG (s:Setup) (h:s.Planes.len<=9223372036854775807):p5 s=true:=by
  have hl := zbd (good := fun i => !decide (((s.Planes.get i).Drift.len : Int) > (60:Int)) && !decide (((s.Planes.get i).Dead.len : Int) > (110:Int))) (fin := decide ((s.Planes.len : Int) ≤ (20:Int))) (n := s.Planes.len) (lpS := s5_lp0 s) (lpP := p5_lp0 s)
    (λ k i hi=>by
      show s5_st0 s (s5_lp0 s k) (i:Int)=_
      generalize s5_lp0 s k=S
      unfold s5_st0
      rw[dqT (show (i:Int) < (s.Planes.len:Int) by omega),dqA,dqN]
      cases decide (((s.Planes.get i).Drift.len:Int) > (60:Int)) <;> cases decide (((s.Planes.get i).Dead.len:Int) > (110:Int)) <;> rfl)
    (λ k=>by
      show s5_st0 s (s5_lp0 s k) (s.Planes.len:Int)=_
      unfold s5_st0
      rw[dqF (show ¬ (s.Planes.len:Int) < (s.Planes.len:Int) by omega),dqB])
    (λ k i hi=>by
      show p5_st0 s (p5_lp0 s k) (i:Int)=_
      generalize p5_lp0 s k=S
      unfold p5_st0
      rw[dqT (show (i:Int) < (s.Planes.len:Int) by omega),dqA,dqN,dqT (show 0<=(i:Int)/\(i:Int) < (s.Planes.len:Int) by omega)]
      cases decide (((s.Planes.get i).Drift.len:Int) > (60:Int)) <;> cases decide (((s.Planes.get i).Dead.len:Int) > (110:Int)) <;> rfl)
    (λ k=>by
      show p5_st0 s (p5_lp0 s k) (s.Planes.len:Int)=_
      unfold p5_st0
      rw[dqF (show ¬ (s.Planes.len:Int) < (s.Planes.len:Int) by omega),dqB]) h
  exact hl.1
theorem zCH (l:Sl Plane) (hn:l.len<=9223372036854775807) (hw:∀ i,i < l.len->(l.get i).Drift.len<=9223372036854775807/\(l.get i).Dead.len<=9223372036854775807):p6 ⟨l⟩=true/\(s6 ⟨l⟩=true->SetOk l):=by
  have hl := zbd (good := (fun i => s24 (l.get i) && zG l i)) (fin := true) (n := l.len) (lpS := fun k i => s6_lp2  k i l) (lpP := fun k i => p6_lp2  k i l)
    (λ k i hi=>by
      show s6_st2  (s6_lp2  k) (i:Int) l=cond (s24 (l.get i) && zG l i) (s6_lp2  k (w64 ((i:Int)+(1:Int))) l) false
      generalize s6_lp2  k=S
      unfold s6_st2
      rw[dqT (show (i:Int) < (l.len:Int) by omega),dqA,dqN]
      unfold s6_at3 zG
      cases s24 (l.get i) <;> cases decide ((i:Int) > (0:Int)) <;> cases decide ((l.get i).Z<=(l.get (w64 ((i:Int) - (1:Int))).toNat).Z) <;> rfl)
    (λ k=>by
      show s6_st2  (s6_lp2  k) ((l.len:Nat):Int) l=_
      unfold s6_st2
      rw[dqF (show ¬ ((l.len:Nat):Int) < (l.len:Int) by omega),dqB])
    (λ k i hi=>by
      show p6_st2  (p6_lp2  k) (i:Int) l=cond (s24 (l.get i) && zG l i) (p6_lp2  k (w64 ((i:Int)+(1:Int))) l) true
      generalize p6_lp2  k=S
      unfold p6_st2
      rw[dqT (show (i:Int) < (l.len:Int) by omega),dqA,dqN]
      unfold p6_at3 zG
      rw[dqT (show 0<=(i:Int)/\(i:Int) < (l.len:Int) by omega),dqT (show p24 (l.get i)=true from zA0 _ (hw i hi).1 (hw i hi).2)]
      by_cases h0:(i:Int) > 0
      · rw [dqT (show 0 ≤ w64 ((i : Int) - (1:Int)) ∧ w64 ((i : Int) - (1:Int)) < (l.len : Int) by rw [zae (by omega) (by omega)]; omega), dqT h0]
        cases s24 (l.get i) <;> cases decide ((l.get i).Z<=(l.get (w64 ((i:Int) - (1:Int))).toNat).Z) <;> rfl
      · rw [dqF h0]
        cases s24 (l.get i) <;> rfl)
    (λ k=>by
      show p6_st2  (p6_lp2  k) ((l.len:Nat):Int) l=_
      unfold p6_st2
      rw[dqF (show ¬ ((l.len:Nat):Int) < (l.len:Int) by omega),dqB])
    hn
  unfold p6 s6 p6_at0 s6_at0 p6_at1 s6_at1 p6_at2 s6_at2
  show cond (!(s23 (l.len:Int) (1:Int) (16:Int))) true (p6_lp2 Fuel 0 l)=true/\(cond (!(s23 (l.len:Int) (1:Int) (16:Int))) false (s6_lp2 Fuel 0 l)=true->SetOk l)
  rw[hl.1,cT]
  refine⟨by cases s23 (l.len:Int) (1:Int) (16:Int) <;> rfl,λ h=>?_⟩
  rw[dqm,zfM,decide_eq_true_eq] at h
  have hg:=(hl.2.1 h.2).1
  exact⟨by omega,by omega,λ i hi=>zA1 _ (hw i hi).1 (hw i hi).2 (by have:=hg i hi;rw[dqm] at this;exact this.1),λ i hi=>by have:=hg i hi;rw[dqm] at this;exact this.2⟩
theorem zuf {l:Sl Plane}(h:SetOk l):p36 ⟨l⟩=true/\s36 ⟨l⟩=true:=by
  have n1:=h.n1;have n16:=h.n16
  have hl := zbd (good := (fun i => s64 ⟨l.get i, (i : Int)⟩ && zG l i)) (fin := s65 (l.len : Int) (1:Int) (16:Int)) (n := l.len) (lpS := fun k i => zga  k l (l.len : Int) i l) (lpP := fun k i => zgb  k l (l.len : Int) i l)
    (λ k i hi=>by
      show ziH  (zga  k) l (l.len:Int) (i:Int) l=cond (s64 ⟨l.get i,(i:Int)⟩ && zG l i) (zga  k l (l.len:Int) (w64 ((i:Int)+(1:Int))) l) false
      generalize zga  k=S
      unfold ziH
      rw[dqT (show (i:Int) < (l.len:Int) by omega),dqA,dqN]
      unfold zk3 zG
      cases s64 ⟨l.get i,(i:Int)⟩ <;> cases decide ((i:Int) > (0:Int)) <;> cases decide ((l.get i).Z<=(l.get (w64 ((i:Int) - (1:Int))).toNat).Z) <;> rfl)
    (λ k=>by
      show ziH  (zga  k) l (l.len:Int) ((l.len:Nat):Int) l=_
      unfold ziH
      rw[dqF (show ¬ ((l.len:Nat):Int) < (l.len:Int) by omega),dqB])
    (λ k i hi=>by
      show ziI  (zgb  k) l (l.len:Int) (i:Int) l=cond (s64 ⟨l.get i,(i:Int)⟩ && zG l i) (zgb  k l (l.len:Int) (w64 ((i:Int)+(1:Int))) l) true
      generalize zgb  k=S
      unfold ziI
      rw[dqT (show (i:Int) < (l.len:Int) by omega),dqA,dqN]
      unfold zk4 zG
      rw[dqT (show 0<=(i:Int)/\(i:Int) < (l.len:Int) by omega),dqT (show p64 ⟨l.get i,(i:Int)⟩=true from (zw4 (h.pl i hi) _).1)]
      by_cases h0:(i:Int) > 0
      · rw [dqT (show 0 ≤ w64 ((i : Int) - (1:Int)) ∧ w64 ((i : Int) - (1:Int)) < (l.len : Int) by rw [zae (by omega) (by omega)]; omega), dqT h0]
        cases s64 ⟨l.get i,(i:Int)⟩ <;> cases decide ((l.get i).Z<=(l.get (w64 ((i:Int) - (1:Int))).toNat).Z) <;> rfl
      · rw [dqF h0]
        cases s64 ⟨l.get i,(i:Int)⟩ <;> rfl)
    (λ k=>by
      show ziI  (zgb  k) l (l.len:Int) ((l.len:Nat):Int) l=_
      unfold ziI
      rw[dqF (show ¬ ((l.len:Nat):Int) < (l.len:Int) by omega),dqB])
    (by omega)
  exact⟨hl.1,hl.2.2 ⟨λ i hi=>by rw[(zw4 (h.pl i hi) _).2,h.z i hi];rfl,by rw[zfN];exact dqT (by omega)⟩⟩
theorem zxd (p:Plane) (c:Int) (hn:p.Dead.len<=100):p30 p c=true/\(s30 p c=false->∀ i,i < p.Dead.len->p.Dead.get i ≠ c):=by
  have hl := zlh (good := (fun i => !(p.Dead.get i == c))) (bad := true) (fin := false) (finP := true) (n := p.Dead.len) (lpS := fun k i => zeS p c k i) (lpP := fun k i => zf7 p c k i)
    (λ k i hi=>by
      show zib p c (zeS p c k) (i:Int)=cond (!(p.Dead.get i == c)) (zeS p c k (w64 ((i:Int)+(1:Int)))) true
      generalize zeS p c k=S
      unfold zib
      rw[dqT (show (i:Int) < (p.Dead.len:Int) by omega),dqA,dqN]
      cases p.Dead.get i == c <;> rfl)
    (λ k=>by
      show zib p c (zeS p c k) ((p.Dead.len:Nat):Int)=_
      unfold zib
      rw[dqF (show ¬ ((p.Dead.len:Nat):Int) < (p.Dead.len:Int) by omega),dqB])
    (λ k i hi=>by
      show zic p c (zf7 p c k) (i:Int)=cond (!(p.Dead.get i == c)) (zf7 p c k (w64 ((i:Int)+(1:Int)))) true
      generalize zf7 p c k=S
      unfold zic
      rw[dqT (show (i:Int) < (p.Dead.len:Int) by omega),dqA,dqN]
      rw[dqT (show 0<=(i:Int)/\(i:Int) < (p.Dead.len:Int) by omega)]
      cases p.Dead.get i == c <;> rfl)
    (λ k=>by
      show zic p c (zf7 p c k) ((p.Dead.len:Nat):Int)=_
      unfold zic
      rw[dqF (show ¬ ((p.Dead.len:Nat):Int) < (p.Dead.len:Int) by omega),dqB])
    (by omega)
  unfold p30 s30 zsj zsi
  by_cases hg:∀ i,i < p.Dead.len->(!(p.Dead.get i == c))=true
  · exact⟨(hl.1 hg).1,λ _ i hi e=>by have:=hg i hi;rw[e,beq_self_eq_true] at this;cases this⟩
  · exact⟨(hl.2 hg).1,λ k=>by rw[show zeS p c Fuel 0=true from (hl.2 hg).2] at k;cases k⟩
structure HitA (l : Sl Plane) (h : Hit) : Prop where
  p0:0<=h.Plane
  p1:h.Plane < (l.len:Int)
  c:h.Channel=0
  m:h.Many=1
  d:h.Drift=0
  q:h.Charge=(l.get h.Plane.toNat).Least
structure HitB (l : Sl Plane) (h : Hit) : Prop where
  t : -1000000000<=h.Time/\h.Time<=1000000000
  dead:∀ i,i < (l.get h.Plane.toNat).Dead.len->(l.get h.Plane.toNat).Dead.get i ≠ 0
theorem zCI {l:Sl Plane}(hs:SetOk l){h:Hit}(ha:HitA l h) (h3:(l.get h.Plane.toNat).Kind ≠ 3):p9 ⟨l⟩ h=true/\(s9 ⟨l⟩ h=true->HitB l h):=by
  have n1:=hs.n1;have n16:=hs.n16
  obtain⟨a0,a1,ac,am,ad,aq⟩:=ha
  have hp:=hs.pl h.Plane.toNat (by omega)
  have hdl:=hp.dl
  have hst:=hp.st
  have hle:=hp.l
  have hl := zbd (good := (fun i => !(s30 (l.get h.Plane.toNat) (w64 (h.Channel + (i : Int)))))) (fin := s9_at6 h (l.get h.Plane.toNat).Kind (l.get h.Plane.toNat).View (l.get h.Plane.toNat).Z (l.get h.Plane.toNat).First (l.get h.Plane.toNat).Pitch (l.get h.Plane.toNat).Strips (l.get h.Plane.toNat).Spill (l.get h.Plane.toNat).Offset.Low (l.get h.Plane.toNat).Offset.High (l.get h.Plane.toNat).Clock.Low (l.get h.Plane.toNat).Clock.High (l.get h.Plane.toNat).Jitter (l.get h.Plane.toNat).Least (l.get h.Plane.toNat).Drift (l.get h.Plane.toNat).Dead) (n := 1) (lpS := fun k i => s9_lp4 h (l.get h.Plane.toNat).Kind (l.get h.Plane.toNat).View (l.get h.Plane.toNat).Z (l.get h.Plane.toNat).First (l.get h.Plane.toNat).Pitch (l.get h.Plane.toNat).Strips (l.get h.Plane.toNat).Spill (l.get h.Plane.toNat).Offset.Low (l.get h.Plane.toNat).Offset.High (l.get h.Plane.toNat).Clock.Low (l.get h.Plane.toNat).Clock.High (l.get h.Plane.toNat).Jitter (l.get h.Plane.toNat).Least (l.get h.Plane.toNat).Drift (l.get h.Plane.toNat).Dead k i) (lpP := fun k i => p9_lp4 h (l.get h.Plane.toNat).Kind (l.get h.Plane.toNat).View (l.get h.Plane.toNat).Z (l.get h.Plane.toNat).First (l.get h.Plane.toNat).Pitch (l.get h.Plane.toNat).Strips (l.get h.Plane.toNat).Spill (l.get h.Plane.toNat).Offset.Low (l.get h.Plane.toNat).Offset.High (l.get h.Plane.toNat).Clock.Low (l.get h.Plane.toNat).Clock.High (l.get h.Plane.toNat).Jitter (l.get h.Plane.toNat).Least (l.get h.Plane.toNat).Drift (l.get h.Plane.toNat).Dead k i)
    (λ k i hi=>by
      show s9_st4 h (l.get h.Plane.toNat).Kind (l.get h.Plane.toNat).View (l.get h.Plane.toNat).Z (l.get h.Plane.toNat).First (l.get h.Plane.toNat).Pitch (l.get h.Plane.toNat).Strips (l.get h.Plane.toNat).Spill (l.get h.Plane.toNat).Offset.Low (l.get h.Plane.toNat).Offset.High (l.get h.Plane.toNat).Clock.Low (l.get h.Plane.toNat).Clock.High (l.get h.Plane.toNat).Jitter (l.get h.Plane.toNat).Least (l.get h.Plane.toNat).Drift (l.get h.Plane.toNat).Dead (s9_lp4 h (l.get h.Plane.toNat).Kind (l.get h.Plane.toNat).View (l.get h.Plane.toNat).Z (l.get h.Plane.toNat).First (l.get h.Plane.toNat).Pitch (l.get h.Plane.toNat).Strips (l.get h.Plane.toNat).Spill (l.get h.Plane.toNat).Offset.Low (l.get h.Plane.toNat).Offset.High (l.get h.Plane.toNat).Clock.Low (l.get h.Plane.toNat).Clock.High (l.get h.Plane.toNat).Jitter (l.get h.Plane.toNat).Least (l.get h.Plane.toNat).Drift (l.get h.Plane.toNat).Dead k) (i:Int)=cond (!(s30 (l.get h.Plane.toNat) (w64 (h.Channel+(i:Int))))) (s9_lp4 h (l.get h.Plane.toNat).Kind (l.get h.Plane.toNat).View (l.get h.Plane.toNat).Z (l.get h.Plane.toNat).First (l.get h.Plane.toNat).Pitch (l.get h.Plane.toNat).Strips (l.get h.Plane.toNat).Spill (l.get h.Plane.toNat).Offset.Low (l.get h.Plane.toNat).Offset.High (l.get h.Plane.toNat).Clock.Low (l.get h.Plane.toNat).Clock.High (l.get h.Plane.toNat).Jitter (l.get h.Plane.toNat).Least (l.get h.Plane.toNat).Drift (l.get h.Plane.toNat).Dead k (w64 ((i:Int)+(1:Int)))) false
      generalize s9_lp4 h (l.get h.Plane.toNat).Kind (l.get h.Plane.toNat).View (l.get h.Plane.toNat).Z (l.get h.Plane.toNat).First (l.get h.Plane.toNat).Pitch (l.get h.Plane.toNat).Strips (l.get h.Plane.toNat).Spill (l.get h.Plane.toNat).Offset.Low (l.get h.Plane.toNat).Offset.High (l.get h.Plane.toNat).Clock.Low (l.get h.Plane.toNat).Clock.High (l.get h.Plane.toNat).Jitter (l.get h.Plane.toNat).Least (l.get h.Plane.toNat).Drift (l.get h.Plane.toNat).Dead k=S
      unfold s9_st4
      rw[dqT (show (i:Int) < h.Many by omega),dqA]
      unfold s9_at5
      show cond (s30 (l.get h.Plane.toNat) (w64 (h.Channel+(i:Int)))) false _=_
      cases s30 (l.get h.Plane.toNat) (w64 (h.Channel+(i:Int))) <;> rfl)
    (λ k=>by
      show s9_st4 h (l.get h.Plane.toNat).Kind (l.get h.Plane.toNat).View (l.get h.Plane.toNat).Z (l.get h.Plane.toNat).First (l.get h.Plane.toNat).Pitch (l.get h.Plane.toNat).Strips (l.get h.Plane.toNat).Spill (l.get h.Plane.toNat).Offset.Low (l.get h.Plane.toNat).Offset.High (l.get h.Plane.toNat).Clock.Low (l.get h.Plane.toNat).Clock.High (l.get h.Plane.toNat).Jitter (l.get h.Plane.toNat).Least (l.get h.Plane.toNat).Drift (l.get h.Plane.toNat).Dead (s9_lp4 h (l.get h.Plane.toNat).Kind (l.get h.Plane.toNat).View (l.get h.Plane.toNat).Z (l.get h.Plane.toNat).First (l.get h.Plane.toNat).Pitch (l.get h.Plane.toNat).Strips (l.get h.Plane.toNat).Spill (l.get h.Plane.toNat).Offset.Low (l.get h.Plane.toNat).Offset.High (l.get h.Plane.toNat).Clock.Low (l.get h.Plane.toNat).Clock.High (l.get h.Plane.toNat).Jitter (l.get h.Plane.toNat).Least (l.get h.Plane.toNat).Drift (l.get h.Plane.toNat).Dead k) ((1:Nat):Int)=_
      unfold s9_st4
      rw[dqF (show ¬ ((1:Nat):Int) < h.Many by omega),dqB])
    (λ k i hi=>by
      show p9_st4 h (l.get h.Plane.toNat).Kind (l.get h.Plane.toNat).View (l.get h.Plane.toNat).Z (l.get h.Plane.toNat).First (l.get h.Plane.toNat).Pitch (l.get h.Plane.toNat).Strips (l.get h.Plane.toNat).Spill (l.get h.Plane.toNat).Offset.Low (l.get h.Plane.toNat).Offset.High (l.get h.Plane.toNat).Clock.Low (l.get h.Plane.toNat).Clock.High (l.get h.Plane.toNat).Jitter (l.get h.Plane.toNat).Least (l.get h.Plane.toNat).Drift (l.get h.Plane.toNat).Dead (p9_lp4 h (l.get h.Plane.toNat).Kind (l.get h.Plane.toNat).View (l.get h.Plane.toNat).Z (l.get h.Plane.toNat).First (l.get h.Plane.toNat).Pitch (l.get h.Plane.toNat).Strips (l.get h.Plane.toNat).Spill (l.get h.Plane.toNat).Offset.Low (l.get h.Plane.toNat).Offset.High (l.get h.Plane.toNat).Clock.Low (l.get h.Plane.toNat).Clock.High (l.get h.Plane.toNat).Jitter (l.get h.Plane.toNat).Least (l.get h.Plane.toNat).Drift (l.get h.Plane.toNat).Dead k) (i:Int)=cond (!(s30 (l.get h.Plane.toNat) (w64 (h.Channel+(i:Int))))) (p9_lp4 h (l.get h.Plane.toNat).Kind (l.get h.Plane.toNat).View (l.get h.Plane.toNat).Z (l.get h.Plane.toNat).First (l.get h.Plane.toNat).Pitch (l.get h.Plane.toNat).Strips (l.get h.Plane.toNat).Spill (l.get h.Plane.toNat).Offset.Low (l.get h.Plane.toNat).Offset.High (l.get h.Plane.toNat).Clock.Low (l.get h.Plane.toNat).Clock.High (l.get h.Plane.toNat).Jitter (l.get h.Plane.toNat).Least (l.get h.Plane.toNat).Drift (l.get h.Plane.toNat).Dead k (w64 ((i:Int)+(1:Int)))) true
      generalize p9_lp4 h (l.get h.Plane.toNat).Kind (l.get h.Plane.toNat).View (l.get h.Plane.toNat).Z (l.get h.Plane.toNat).First (l.get h.Plane.toNat).Pitch (l.get h.Plane.toNat).Strips (l.get h.Plane.toNat).Spill (l.get h.Plane.toNat).Offset.Low (l.get h.Plane.toNat).Offset.High (l.get h.Plane.toNat).Clock.Low (l.get h.Plane.toNat).Clock.High (l.get h.Plane.toNat).Jitter (l.get h.Plane.toNat).Least (l.get h.Plane.toNat).Drift (l.get h.Plane.toNat).Dead k=S
      unfold p9_st4
      rw[dqT (show (i:Int) < h.Many by omega),dqA]
      unfold p9_at5
      show (decide (p30 (l.get h.Plane.toNat) (w64 (h.Channel+(i:Int)))=true) && cond (s30 (l.get h.Plane.toNat) (w64 (h.Channel+(i:Int)))) true _)=_
      rw[(zxd _ _ hdl).1]
      cases s30 (l.get h.Plane.toNat) (w64 (h.Channel+(i:Int))) <;> rfl)
    (λ k=>by
      show p9_st4 h (l.get h.Plane.toNat).Kind (l.get h.Plane.toNat).View (l.get h.Plane.toNat).Z (l.get h.Plane.toNat).First (l.get h.Plane.toNat).Pitch (l.get h.Plane.toNat).Strips (l.get h.Plane.toNat).Spill (l.get h.Plane.toNat).Offset.Low (l.get h.Plane.toNat).Offset.High (l.get h.Plane.toNat).Clock.Low (l.get h.Plane.toNat).Clock.High (l.get h.Plane.toNat).Jitter (l.get h.Plane.toNat).Least (l.get h.Plane.toNat).Drift (l.get h.Plane.toNat).Dead (p9_lp4 h (l.get h.Plane.toNat).Kind (l.get h.Plane.toNat).View (l.get h.Plane.toNat).Z (l.get h.Plane.toNat).First (l.get h.Plane.toNat).Pitch (l.get h.Plane.toNat).Strips (l.get h.Plane.toNat).Spill (l.get h.Plane.toNat).Offset.Low (l.get h.Plane.toNat).Offset.High (l.get h.Plane.toNat).Clock.Low (l.get h.Plane.toNat).Clock.High (l.get h.Plane.toNat).Jitter (l.get h.Plane.toNat).Least (l.get h.Plane.toNat).Drift (l.get h.Plane.toNat).Dead k) ((1:Nat):Int)=_
      unfold p9_st4
      rw[dqF (show ¬ ((1:Nat):Int) < h.Many by omega),dqB])
    (by omega)
  have r1:s23 h.Plane (0:Int) (w64 ((l.len:Int) - (1:Int)))=true:=by rw[zfM,zae (by omega) (by omega)];exact dqT (by omega)
  have r2:s23 h.Channel (0:Int) (w64 ((l.get h.Plane.toNat).Strips - (1:Int)))=true:=by rw[zfM,zae (by omega) (by omega),ac];exact dqT (by omega)
  have r3:s23 h.Many (1:Int) (w64 ((l.get h.Plane.toNat).Strips - h.Channel))=true:=by rw[zfM,ac,am,zae (by omega) (by omega)];exact dqT (by omega)
  have r4:s23 h.Charge (l.get h.Plane.toNat).Least (1000000:Int)=true:=by rw[zfM,aq];exact dqT (by omega)
  unfold p9 s9 p9_at0 s9_at0 p9_at1 s9_at1
  show cond (!(s23 h.Plane (0:Int) (w64 ((l.len:Int) - (1:Int))))) true _=true/\(cond (!(s23 h.Plane (0:Int) (w64 ((l.len:Int) - (1:Int))))) false _=true->_)
  rw[r1,r2,r3,r4,dqT (show 0<=h.Plane/\h.Plane < (l.len:Int) from ⟨a0,a1⟩)]
  show p9_at2 h (!(s23 h.Time (-1000000000:Int) (1000000000:Int))) (l.get h.Plane.toNat).Kind (l.get h.Plane.toNat).View (l.get h.Plane.toNat).Z (l.get h.Plane.toNat).First (l.get h.Plane.toNat).Pitch (l.get h.Plane.toNat).Strips (l.get h.Plane.toNat).Spill (l.get h.Plane.toNat).Offset.Low (l.get h.Plane.toNat).Offset.High (l.get h.Plane.toNat).Clock.Low (l.get h.Plane.toNat).Clock.High (l.get h.Plane.toNat).Jitter (l.get h.Plane.toNat).Least (l.get h.Plane.toNat).Drift (l.get h.Plane.toNat).Dead=true/\(s9_at2 h (!(s23 h.Time (-1000000000:Int) (1000000000:Int))) (l.get h.Plane.toNat).Kind (l.get h.Plane.toNat).View (l.get h.Plane.toNat).Z (l.get h.Plane.toNat).First (l.get h.Plane.toNat).Pitch (l.get h.Plane.toNat).Strips (l.get h.Plane.toNat).Spill (l.get h.Plane.toNat).Offset.Low (l.get h.Plane.toNat).Offset.High (l.get h.Plane.toNat).Clock.Low (l.get h.Plane.toNat).Clock.High (l.get h.Plane.toNat).Jitter (l.get h.Plane.toNat).Least (l.get h.Plane.toNat).Drift (l.get h.Plane.toNat).Dead=true->_)
  unfold p9_at2 s9_at2 p9_at3 s9_at3 p9_at4 s9_at4
  refine⟨?_,λ k=>?_⟩
  · rw [show p9_lp4 h (l.get h.Plane.toNat).Kind (l.get h.Plane.toNat).View (l.get h.Plane.toNat).Z (l.get h.Plane.toNat).First (l.get h.Plane.toNat).Pitch (l.get h.Plane.toNat).Strips (l.get h.Plane.toNat).Spill (l.get h.Plane.toNat).Offset.Low (l.get h.Plane.toNat).Offset.High (l.get h.Plane.toNat).Clock.Low (l.get h.Plane.toNat).Clock.High (l.get h.Plane.toNat).Jitter (l.get h.Plane.toNat).Least (l.get h.Plane.toNat).Drift (l.get h.Plane.toNat).Dead Fuel 0 = true from hl.1]
    cases s23 h.Time (-1000000000:Int) (1000000000:Int) <;> rfl
  · rw [cT, dqm, zfM, decide_eq_true_eq] at k
    have:=(hl.2.1 k.2).1 0 (by omega)
    rw[Bool.not_eq_true',ac,show w64 ((0:Int)+((0:Nat):Int))=0 from rfl] at this
    exact⟨k.1,(zxd _ _ hdl).2 this⟩
theorem zBi {l:Sl Plane}(hs:SetOk l){h:Hit}(ha:HitA l h) (hb:HitB l h) (h3:(l.get h.Plane.toNat).Kind ≠ 3):p40 ⟨l⟩ h=true/\s40 ⟨l⟩ h=(⟨l.get h.Plane.toNat,h.Plane⟩,true):=by
  have n1:=hs.n1;have n16:=hs.n16
  obtain⟨a0,a1,ac,am,ad,aq⟩:=ha
  have hp:=hs.pl h.Plane.toNat (by omega)
  have hdl:=hp.dl
  have hst:=hp.st
  have hle:=hp.l
  have hg:∀ i,i < (l.get h.Plane.toNat).Dead.len->(!(s65 ((l.get h.Plane.toNat).Dead.get i) h.Channel (w64 ((w64 (h.Channel+h.Many)) - (1:Int)))))=true:=λ i hi=>by
    have:=hb.dead i hi
    rw[ac,am,show w64 (w64 ((0:Int)+1) - 1)=0 from rfl,zfN,dqF (by omega)];rfl
  have hl := zlh (good := (fun i => !(s65 ((l.get h.Plane.toNat).Dead.get i) h.Channel (w64 ((w64 (h.Channel + h.Many)) - (1:Int)))))) (bad := ((⟨l.get h.Plane.toNat, h.Plane⟩ : placed), false)) (fin := zk5 h (l.get h.Plane.toNat).Kind (l.get h.Plane.toNat).View (l.get h.Plane.toNat).Z (l.get h.Plane.toNat).First (l.get h.Plane.toNat).Pitch (l.get h.Plane.toNat).Strips (l.get h.Plane.toNat).Spill (l.get h.Plane.toNat).Offset.Low (l.get h.Plane.toNat).Offset.High (l.get h.Plane.toNat).Clock.Low (l.get h.Plane.toNat).Clock.High (l.get h.Plane.toNat).Jitter (l.get h.Plane.toNat).Least (l.get h.Plane.toNat).Drift (l.get h.Plane.toNat).Dead) (finP := true) (n := (l.get h.Plane.toNat).Dead.len) (lpS := fun k i => zgc h (l.get h.Plane.toNat).Kind (l.get h.Plane.toNat).View (l.get h.Plane.toNat).Z (l.get h.Plane.toNat).First (l.get h.Plane.toNat).Pitch (l.get h.Plane.toNat).Strips (l.get h.Plane.toNat).Spill (l.get h.Plane.toNat).Offset.Low (l.get h.Plane.toNat).Offset.High (l.get h.Plane.toNat).Clock.Low (l.get h.Plane.toNat).Clock.High (l.get h.Plane.toNat).Jitter (l.get h.Plane.toNat).Least (l.get h.Plane.toNat).Drift (l.get h.Plane.toNat).Dead k i) (lpP := fun k i => zgd h (l.get h.Plane.toNat).Kind (l.get h.Plane.toNat).View (l.get h.Plane.toNat).Z (l.get h.Plane.toNat).First (l.get h.Plane.toNat).Pitch (l.get h.Plane.toNat).Strips (l.get h.Plane.toNat).Spill (l.get h.Plane.toNat).Offset.Low (l.get h.Plane.toNat).Offset.High (l.get h.Plane.toNat).Clock.Low (l.get h.Plane.toNat).Clock.High (l.get h.Plane.toNat).Jitter (l.get h.Plane.toNat).Least (l.get h.Plane.toNat).Drift (l.get h.Plane.toNat).Dead k i)
    (λ k i hi=>by
      show ziJ h (l.get h.Plane.toNat).Kind (l.get h.Plane.toNat).View (l.get h.Plane.toNat).Z (l.get h.Plane.toNat).First (l.get h.Plane.toNat).Pitch (l.get h.Plane.toNat).Strips (l.get h.Plane.toNat).Spill (l.get h.Plane.toNat).Offset.Low (l.get h.Plane.toNat).Offset.High (l.get h.Plane.toNat).Clock.Low (l.get h.Plane.toNat).Clock.High (l.get h.Plane.toNat).Jitter (l.get h.Plane.toNat).Least (l.get h.Plane.toNat).Drift (l.get h.Plane.toNat).Dead (zgc h (l.get h.Plane.toNat).Kind (l.get h.Plane.toNat).View (l.get h.Plane.toNat).Z (l.get h.Plane.toNat).First (l.get h.Plane.toNat).Pitch (l.get h.Plane.toNat).Strips (l.get h.Plane.toNat).Spill (l.get h.Plane.toNat).Offset.Low (l.get h.Plane.toNat).Offset.High (l.get h.Plane.toNat).Clock.Low (l.get h.Plane.toNat).Clock.High (l.get h.Plane.toNat).Jitter (l.get h.Plane.toNat).Least (l.get h.Plane.toNat).Drift (l.get h.Plane.toNat).Dead k) (i:Int)=cond (!(s65 ((l.get h.Plane.toNat).Dead.get i) h.Channel (w64 ((w64 (h.Channel+h.Many)) - (1:Int))))) (zgc h (l.get h.Plane.toNat).Kind (l.get h.Plane.toNat).View (l.get h.Plane.toNat).Z (l.get h.Plane.toNat).First (l.get h.Plane.toNat).Pitch (l.get h.Plane.toNat).Strips (l.get h.Plane.toNat).Spill (l.get h.Plane.toNat).Offset.Low (l.get h.Plane.toNat).Offset.High (l.get h.Plane.toNat).Clock.Low (l.get h.Plane.toNat).Clock.High (l.get h.Plane.toNat).Jitter (l.get h.Plane.toNat).Least (l.get h.Plane.toNat).Drift (l.get h.Plane.toNat).Dead k (w64 ((i:Int)+(1:Int)))) ((⟨l.get h.Plane.toNat,h.Plane⟩:placed),false)
      generalize zgc h (l.get h.Plane.toNat).Kind (l.get h.Plane.toNat).View (l.get h.Plane.toNat).Z (l.get h.Plane.toNat).First (l.get h.Plane.toNat).Pitch (l.get h.Plane.toNat).Strips (l.get h.Plane.toNat).Spill (l.get h.Plane.toNat).Offset.Low (l.get h.Plane.toNat).Offset.High (l.get h.Plane.toNat).Clock.Low (l.get h.Plane.toNat).Clock.High (l.get h.Plane.toNat).Jitter (l.get h.Plane.toNat).Least (l.get h.Plane.toNat).Drift (l.get h.Plane.toNat).Dead k=S
      unfold ziJ
      rw[dqT (show (i:Int) < ((l.get h.Plane.toNat).Dead.len:Int) by omega),dqA,dqN]
      unfold zsO
      cases s65 ((l.get h.Plane.toNat).Dead.get i) h.Channel (w64 ((w64 (h.Channel+h.Many)) - (1:Int))) <;> rfl)
    (λ k=>by
      show ziJ h (l.get h.Plane.toNat).Kind (l.get h.Plane.toNat).View (l.get h.Plane.toNat).Z (l.get h.Plane.toNat).First (l.get h.Plane.toNat).Pitch (l.get h.Plane.toNat).Strips (l.get h.Plane.toNat).Spill (l.get h.Plane.toNat).Offset.Low (l.get h.Plane.toNat).Offset.High (l.get h.Plane.toNat).Clock.Low (l.get h.Plane.toNat).Clock.High (l.get h.Plane.toNat).Jitter (l.get h.Plane.toNat).Least (l.get h.Plane.toNat).Drift (l.get h.Plane.toNat).Dead (zgc h (l.get h.Plane.toNat).Kind (l.get h.Plane.toNat).View (l.get h.Plane.toNat).Z (l.get h.Plane.toNat).First (l.get h.Plane.toNat).Pitch (l.get h.Plane.toNat).Strips (l.get h.Plane.toNat).Spill (l.get h.Plane.toNat).Offset.Low (l.get h.Plane.toNat).Offset.High (l.get h.Plane.toNat).Clock.Low (l.get h.Plane.toNat).Clock.High (l.get h.Plane.toNat).Jitter (l.get h.Plane.toNat).Least (l.get h.Plane.toNat).Drift (l.get h.Plane.toNat).Dead k) (((l.get h.Plane.toNat).Dead.len:Nat):Int)=_
      unfold ziJ
      rw[dqF (show ¬ (((l.get h.Plane.toNat).Dead.len:Nat):Int) < ((l.get h.Plane.toNat).Dead.len:Int) by omega),dqB])
    (λ k i hi=>by
      show ziK h (l.get h.Plane.toNat).Kind (l.get h.Plane.toNat).View (l.get h.Plane.toNat).Z (l.get h.Plane.toNat).First (l.get h.Plane.toNat).Pitch (l.get h.Plane.toNat).Strips (l.get h.Plane.toNat).Spill (l.get h.Plane.toNat).Offset.Low (l.get h.Plane.toNat).Offset.High (l.get h.Plane.toNat).Clock.Low (l.get h.Plane.toNat).Clock.High (l.get h.Plane.toNat).Jitter (l.get h.Plane.toNat).Least (l.get h.Plane.toNat).Drift (l.get h.Plane.toNat).Dead (zgd h (l.get h.Plane.toNat).Kind (l.get h.Plane.toNat).View (l.get h.Plane.toNat).Z (l.get h.Plane.toNat).First (l.get h.Plane.toNat).Pitch (l.get h.Plane.toNat).Strips (l.get h.Plane.toNat).Spill (l.get h.Plane.toNat).Offset.Low (l.get h.Plane.toNat).Offset.High (l.get h.Plane.toNat).Clock.Low (l.get h.Plane.toNat).Clock.High (l.get h.Plane.toNat).Jitter (l.get h.Plane.toNat).Least (l.get h.Plane.toNat).Drift (l.get h.Plane.toNat).Dead k) (i:Int)=cond (!(s65 ((l.get h.Plane.toNat).Dead.get i) h.Channel (w64 ((w64 (h.Channel+h.Many)) - (1:Int))))) (zgd h (l.get h.Plane.toNat).Kind (l.get h.Plane.toNat).View (l.get h.Plane.toNat).Z (l.get h.Plane.toNat).First (l.get h.Plane.toNat).Pitch (l.get h.Plane.toNat).Strips (l.get h.Plane.toNat).Spill (l.get h.Plane.toNat).Offset.Low (l.get h.Plane.toNat).Offset.High (l.get h.Plane.toNat).Clock.Low (l.get h.Plane.toNat).Clock.High (l.get h.Plane.toNat).Jitter (l.get h.Plane.toNat).Least (l.get h.Plane.toNat).Drift (l.get h.Plane.toNat).Dead k (w64 ((i:Int)+(1:Int)))) true
      generalize zgd h (l.get h.Plane.toNat).Kind (l.get h.Plane.toNat).View (l.get h.Plane.toNat).Z (l.get h.Plane.toNat).First (l.get h.Plane.toNat).Pitch (l.get h.Plane.toNat).Strips (l.get h.Plane.toNat).Spill (l.get h.Plane.toNat).Offset.Low (l.get h.Plane.toNat).Offset.High (l.get h.Plane.toNat).Clock.Low (l.get h.Plane.toNat).Clock.High (l.get h.Plane.toNat).Jitter (l.get h.Plane.toNat).Least (l.get h.Plane.toNat).Drift (l.get h.Plane.toNat).Dead k=S
      unfold ziK
      rw[dqT (show (i:Int) < ((l.get h.Plane.toNat).Dead.len:Int) by omega),dqA,dqN]
      unfold zsP
      rw[dqT (show 0<=(i:Int)/\(i:Int) < ((l.get h.Plane.toNat).Dead.len:Int) by omega)]
      cases s65 ((l.get h.Plane.toNat).Dead.get i) h.Channel (w64 ((w64 (h.Channel+h.Many)) - (1:Int))) <;> rfl)
    (λ k=>by
      show ziK h (l.get h.Plane.toNat).Kind (l.get h.Plane.toNat).View (l.get h.Plane.toNat).Z (l.get h.Plane.toNat).First (l.get h.Plane.toNat).Pitch (l.get h.Plane.toNat).Strips (l.get h.Plane.toNat).Spill (l.get h.Plane.toNat).Offset.Low (l.get h.Plane.toNat).Offset.High (l.get h.Plane.toNat).Clock.Low (l.get h.Plane.toNat).Clock.High (l.get h.Plane.toNat).Jitter (l.get h.Plane.toNat).Least (l.get h.Plane.toNat).Drift (l.get h.Plane.toNat).Dead (zgd h (l.get h.Plane.toNat).Kind (l.get h.Plane.toNat).View (l.get h.Plane.toNat).Z (l.get h.Plane.toNat).First (l.get h.Plane.toNat).Pitch (l.get h.Plane.toNat).Strips (l.get h.Plane.toNat).Spill (l.get h.Plane.toNat).Offset.Low (l.get h.Plane.toNat).Offset.High (l.get h.Plane.toNat).Clock.Low (l.get h.Plane.toNat).Clock.High (l.get h.Plane.toNat).Jitter (l.get h.Plane.toNat).Least (l.get h.Plane.toNat).Drift (l.get h.Plane.toNat).Dead k) (((l.get h.Plane.toNat).Dead.len:Nat):Int)=_
      unfold ziK
      rw[dqF (show ¬ (((l.get h.Plane.toNat).Dead.len:Nat):Int) < ((l.get h.Plane.toNat).Dead.len:Int) by omega),dqB])
    (by omega)
  obtain⟨l1,l2⟩:=hl.1 hg
  have r1:s65 h.Plane (0:Int) (w64 ((l.len:Int) - (1:Int)))=true:=by rw[zfN,zae (by omega) (by omega)];exact dqT (by omega)
  have r2:s65 h.Channel (0:Int) (w64 ((l.get h.Plane.toNat).Strips - (1:Int)))=true:=by rw[zfN,zae (by omega) (by omega),ac];exact dqT (by omega)
  have r3:s65 h.Many (1:Int) (w64 ((l.get h.Plane.toNat).Strips - h.Channel))=true:=by rw[zfN,ac,am,zae (by omega) (by omega)];exact dqT (by omega)
  have r4:s65 h.Charge (l.get h.Plane.toNat).Least (1000000:Int)=true:=by rw[zfN,aq];exact dqT (by omega)
  have r5:s65 h.Time (-1000000000:Int) (1000000000:Int)=true:=by rw[zfN];exact dqT hb.t
  have r6:zk5 h (l.get h.Plane.toNat).Kind (l.get h.Plane.toNat).View (l.get h.Plane.toNat).Z (l.get h.Plane.toNat).First (l.get h.Plane.toNat).Pitch (l.get h.Plane.toNat).Strips (l.get h.Plane.toNat).Spill (l.get h.Plane.toNat).Offset.Low (l.get h.Plane.toNat).Offset.High (l.get h.Plane.toNat).Clock.Low (l.get h.Plane.toNat).Clock.High (l.get h.Plane.toNat).Jitter (l.get h.Plane.toNat).Least (l.get h.Plane.toNat).Drift (l.get h.Plane.toNat).Dead=(⟨l.get h.Plane.toNat,h.Plane⟩,true):=by
    unfold zk5 zsN
    by_cases k2:(l.get h.Plane.toNat).Kind=2
    · rw[show ((l.get h.Plane.toNat).Kind == (2:Int))=true from beq_iff_eq.2 k2,show (h.Many == (1:Int))=true from beq_iff_eq.2 am,show s65 h.Drift (0:Int) (1000000:Int)=true by rw[ad];rfl];rfl
    · rw[show ((l.get h.Plane.toNat).Kind == (2:Int))=false from dqU.2 k2,show (h.Drift == (0:Int))=true from beq_iff_eq.2 ad,show ((l.get h.Plane.toNat).Kind != (3:Int))=true from bne_iff_ne.2 h3];rfl
  unfold p40 s40 zsY zsX zsW zsV
  show cond (!(s65 h.Plane (0:Int) (w64 ((l.len:Int) - (1:Int))))) true _=true/\cond (!(s65 h.Plane (0:Int) (w64 ((l.len:Int) - (1:Int))))) _ _=_
  rw[r1,r2,r3,r4,r5,dqT (show 0<=h.Plane/\h.Plane < (l.len:Int) from ⟨a0,a1⟩)]
  simp only[Bool.not_true,dqB,Bool.true_and]
  unfold ziM ziL zsU zsS zsR zsQ
  rw[dqB,dqB]
  exact⟨l1,l2.trans r6⟩
theorem zBj {l:Sl Plane}(hs:SetOk l){h:Hit}(ha:HitA l h) (hb:HitB l h) (h3:(l.get h.Plane.toNat).Kind ≠ 3):p14 ⟨l⟩ h=true/\s14 ⟨l⟩ h=(⟨h.Time - (l.get h.Plane.toNat).Clock.High - (l.get h.Plane.toNat).Jitter,h.Time - (l.get h.Plane.toNat).Clock.Low+(l.get h.Plane.toNat).Jitter⟩,0):=by
 obtain⟨a1,a2⟩:=zuf hs
 obtain⟨b1,b2⟩:=zBi hs ha hb h3
 have hp:=hs.pl h.Plane.toNat (by have:=ha.p0;have:=ha.p1;omega)
 have hc:=hp.c;have hj:=hp.j;have ht:=hb.t
 have c1:s39 ⟨l⟩ h=true:=by unfold s39;rw[a2,b2];rfl
 have c2:p39 ⟨l⟩ h=true:=by unfold p39;rw[a1,a2,b1];rfl
 unfold p14 s14 p14_at0 s14_at0
 rw[c1,c2]
 show (true && cond false true (decide (p40 ⟨l⟩ h=true) && true))=true/\cond false _ (s41 (s40 ⟨l⟩ h).1 h,(0:Int))=_
 rw[b1,b2]
 refine⟨rfl,?_⟩
 rw[dqB]
 unfold s41 zsZ
 show (cond ((l.get h.Plane.toNat).Kind == (3:Int)) _ (⟨w64 (w64 (h.Time - (l.get h.Plane.toNat).Clock.High) - (l.get h.Plane.toNat).Jitter),w64 (w64 (h.Time - (l.get h.Plane.toNat).Clock.Low)+(l.get h.Plane.toNat).Jitter)⟩:Span),(0:Int))=_
 rw[show ((l.get h.Plane.toNat).Kind == (3:Int))=false from dqU.2 h3,dqB,zae (x:=h.Time - (l.get h.Plane.toNat).Clock.High) (by omega) (by omega),zae (x:=h.Time - (l.get h.Plane.toNat).Clock.Low) (by omega) (by omega),zae (by omega) (by omega),zae (by omega) (by omega)]
def nwP (l:Sl Plane) (o c:Sl Span) (i:Nat):Plane:=⟨(l.get i).Kind,(l.get i).View,(l.get i).Z,(l.get i).First,(l.get i).Pitch,(l.get i).Strips,(l.get i).Spill,⟨(o.get i).Low,(o.get i).High⟩,⟨(c.get i).Low,(c.get i).High⟩,(l.get i).Jitter,(l.get i).Least,(l.get i).Drift,(l.get i).Dead⟩
structure NarOk (l : Sl Plane) (o c : Sl Span) : Prop where
  ol:o.len=l.len
  cl:c.len=l.len
  o:∀ i,i < l.len->o.get i=(l.get i).Offset
  c:∀ i,i < l.len->(l.get i).Clock.Low<=(c.get i).Low/\(c.get i).Low<=(c.get i).High/\(c.get i).High<=(l.get i).Clock.High
theorem zCJ {l:Sl Plane}(hs:SetOk l){o c:Sl Span}(hn:NarOk l o c){i:Nat}(hi:i < l.len):PlOk (nwP l o c i):=by
 have hp:=hs.pl i hi
 have ho:=hn.o i hi
 have hc:=hn.c i hi
 unfold nwP
 rw[ho]
 have hk:=hp.c
 exact⟨hp.k,hp.v,hp.z,hp.f,hp.pt,hp.st,hp.sp,hp.o,⟨by show -1000000000<=(c.get i).Low;omega,hc.2.1,by show (c.get i).High<=1000000000;omega⟩,hp.j,hp.l,hp.e1,hp.e2,hp.dr,hp.nd,hp.dl,hp.dd⟩
theorem zBk {l:Sl Plane}(hs:SetOk l){o c:Sl Span}(hn:NarOk l o c):p13 ⟨l⟩ o c=true/\∃ x,s13 ⟨l⟩ o c=(⟨x⟩,0)/\SetOk x/\x.len=l.len/\∀ i,i < l.len->x.get i=nwP l o c i:=by
  have n1:=hs.n1;have n16:=hs.n16
  obtain⟨a1,a2⟩:=zuf hs
  have hcnd:∀ i,i < l.len->decide ((o.get i).Low >= (l.get i).Offset.Low)=true/\decide ((o.get i).High<=(l.get i).Offset.High)=true/\decide ((c.get i).Low >= (l.get i).Clock.Low)=true/\decide ((c.get i).High<=(l.get i).Clock.High)=true:=λ i hi=>by
    have:=hn.c i hi
    rw[hn.o i hi]
    exact⟨dqT (Int.le_refl _),dqT (Int.le_refl _),dqT this.1,dqT this.2.2⟩
  have hl := zjg (step := apL fun i => nwP l o c i) (E := fun v => s13_at4 true v) (EP := fun v => p13_at4 true v) (Inv := fun i v => v.len = i) (a := 0) (n := l.len) (lpS := fun k v i => s13_lp2 o c k true l (l.len : Int) i v) (lpP := fun k v i => p13_lp2 o c k true l (l.len : Int) i v)
    (λ k i v _ hi hv=>by
      show s13_st2 o c (s13_lp2 o c k) true l (l.len:Int) (i:Int) v=s13_lp2 o c k true l (l.len:Int) (w64 ((i:Int)+(1:Int))) (apL (λ i=>nwP l o c i) i v)
      generalize s13_lp2 o c k=S
      obtain⟨c1,c2,c3,c4⟩:=hcnd i hi
      unfold s13_st2 s13_at3
      rw[dqT (show (i:Int) < (l.len:Int) by omega),dqA,dqN,c1,c2,c3,c4]
      rfl)
    (λ k v=>by
      show s13_st2 o c (s13_lp2 o c k) true l (l.len:Int) (l.len:Int) v=_
      unfold s13_st2
      rw[dqF (show ¬ (l.len:Int) < (l.len:Int) by omega),dqB])
    (λ k i v _ hi hv=>by
      show p13_st2 o c (p13_lp2 o c k) true l (l.len:Int) (i:Int) v=p13_lp2 o c k true l (l.len:Int) (w64 ((i:Int)+(1:Int))) (apL (λ i=>nwP l o c i) i v)
      generalize p13_lp2 o c k=S
      have hv':v.len=i:=hv
      have ho:=hn.ol;have hc:=hn.cl
      have hp:=hs.pl i hi
      have hdl:=hp.dl
      have hdr:(l.get i).Drift.len<=50:=by
        by_cases k2:(l.get i).Kind=2
        · have := (hp.dr k2).2
          rw[zfM,decide_eq_true_eq] at this;omega
        · have:=hp.nd k2;omega
      obtain⟨c1,c2,c3,c4⟩:=hcnd i hi
      unfold p13_st2 p13_at3
      rw[dqT (show (i:Int) < (l.len:Int) by omega),dqA,dqN,c1,c2,c3,c4,dqT (show 0<=(i:Int)/\(i:Int) < (l.len:Int) by omega),dqT (show 0<=(i:Int)/\(i:Int) < (o.len:Int) by omega),dqT (show 0<=(i:Int)/\(i:Int) < (c.len:Int) by omega),
        dqT (show (l.get i).Drift.len * 24<=140737488355328/\(l.get i).Drift.len<=9223372036854775807 by omega),dqT (show (l.get i).Dead.len * 8<=140737488355328/\(l.get i).Dead.len<=9223372036854775807 by omega),
        dqT (show (v.len+1) * 152<=140737488355328/\v.len+1<=9223372036854775807 by omega)]
      rfl)
    (λ k v=>by
      show p13_st2 o c (p13_lp2 o c k) true l (l.len:Int) (l.len:Int) v=_
      unfold p13_st2
      rw[dqF (show ¬ (l.len:Int) < (l.len:Int) by omega),dqB])
    (λ i v _ _ h=>by show v.len+1=i+1;have h':v.len=i:=h;omega) (Nat.zero_le _) (by omega) (⟨0,λ _=>default⟩:Sl Plane) rfl
  obtain⟨m1,m2⟩:=zBh (λ i=>nwP l o c i) (l.len - 0) 0 (⟨0,λ _=>default⟩:Sl Plane) rfl (λ j hj=>absurd hj (dqW _))
  obtain⟨l1,l2⟩:=hl
  generalize hx:zef (apL λ i=>nwP l o c i) (l.len - 0) 0 (⟨0,λ _=>default⟩:Sl Plane)=x at *
  have xl:x.len=l.len:=by omega
  have xg:∀ i,i < l.len->x.get i=nwP l o c i:=λ i hi=>m2 i (by omega)
  have hX:SetOk x:=⟨by omega,by omega,λ i hi=>by rw[xg i (by omega)];exact zCJ hs hn (by omega),λ i hi=>by
    have:=hs.z i (by omega)
    unfold zG at this ⊢
    by_cases h0:(i:Int) > 0
    · rw[xg i (by omega),xg (w64 ((i:Int) - (1:Int))).toNat (by rw[zae (by omega) (by omega)];omega)];exact this
    · rw[dqF h0];rfl⟩
  obtain⟨x1,x2⟩:=zuf hX
  have e1:((o.len:Int) != (l.len:Int))=false:=by rw[hn.ol];exact bne_self_eq_false _
  have e2:((c.len:Int) != (l.len:Int))=false:=by rw[hn.cl];exact bne_self_eq_false _
  unfold p13 s13 p13_at0 s13_at0 p13_at1 s13_at1 p13_at2 s13_at2
  rw[a1,a2]
  show (true && cond false _ (cond ((o.len:Int) != (l.len:Int)) _ (cond ((c.len:Int) != (l.len:Int)) true (p13_lp2 o c Fuel true l (l.len:Int) 0 ⟨0,λ _=>default⟩))))=true/\∃ x,cond false _ (cond ((o.len:Int) != (l.len:Int)) _ (cond ((c.len:Int) != (l.len:Int)) _ (s13_lp2 o c Fuel true l (l.len:Int) 0 ⟨0,λ _=>default⟩)))=_/\_
  rw[e1,e2]
  refine⟨?_,x,?_,hX,xl,xg⟩
  · refine Eq.trans l1 ?_
    show (decide (p36 ⟨x⟩=true) && true)=true
    rw[x1];rfl
  · refine Eq.trans l2 ?_
    show cond (!(s36 ⟨x⟩)) _ _=_
    rw[x2];rfl
end Go.Proofs
namespace Go.Proofs
open Go Go.Pm
set_option maxRecDepth 100000
def zgN (p:Pulse):Bool:=!(p.A == p.B) && (s31 p.TimeA (-100000000:Int) (100000000:Int) && (s31 p.TimeB (-100000000:Int) (100000000:Int) && (s31 p.Flight.Low (0:Int) p.Flight.High && (!(decide (p.Flight.High > (100000000:Int))) && s31 p.Jitter (0:Int) (100000000:Int)))))
def tieP (p:Pulse):Tie:=⟨p.A,p.B,(w64 ((w64 ((w64 (p.TimeB - p.TimeA)) - p.Flight.High)) - p.Jitter)),(w64 ((w64 ((w64 (p.TimeB - p.TimeA)) - p.Flight.Low))+p.Jitter))⟩
def zy1 (l:Sl Pulse) (i:Nat) (v:Sl Tie):Sl Tie:=⟨v.len+1,zdx v.len v.get (λ _=>tieP (l.get i))⟩
def zey (l:Sl Pulse):Sl Tie:=zef (zy1 l) l.len 0 (⟨0,λ _=>default⟩:Sl Tie)
theorem zwe (l:Sl Pulse) (i:Nat) (v:Sl Tie) (h:v.len<=i):(zy1 l i v).len<=i+1:=Nat.succ_le_succ h
abbrev zCK:Net×Int:=((⟨(0:Int),(⟨0,λ _=>default⟩:(Sl Tie))⟩:Net),(2:Int))
theorem zBl (nodes : Int) (l : Sl Pulse) (hn : l.len ≤ 210) :
    ((∀ i,i < l.len->zgN (l.get i)=true)->p10_at0 nodes l=(decide (p32 (⟨nodes,zey l⟩:Net)=true) && true)/\s10_at0 nodes l=s10_at3 nodes (!(s32 (⟨nodes,zey l⟩:Net))) (zey l)) /\
    ((¬ ∀ i,i < l.len->zgN (l.get i)=true)->p10_at0 nodes l=true/\s10_at0 nodes l=zCK):=by
  have := zli (good := fun i => zgN (l.get i)) (step := zy1 l) (bad := zCK) (E := fun v => s10_at3 nodes (!(s32 (⟨nodes, v⟩ : Net))) v) (EP := fun v => decide (p32 (⟨nodes, v⟩ : Net) = true) && true) (Inv := fun i v => v.len ≤ i) (n := l.len)
    (lpS:=λ k v i=>s10_lp1 nodes l k i v) (lpP:=λ k v i=>p10_lp1 nodes l k i v)
    (λ k i v hi hv=>by
      show s10_st1 nodes l (s10_lp1 nodes l k) (i:Int) v=cond (zgN (l.get i)) (s10_lp1 nodes l k (w64 ((i:Int)+(1:Int))) (zy1 l i v)) zCK
      generalize s10_lp1 nodes l k=S
      unfold s10_st1 s10_at2 s10_at4 zgN zy1 tieP
      rw[dqT (show (i:Int) < (l.len:Int) by omega),dqA,dqN]
      cases (l.get i).A == (l.get i).B <;> cases s31 (l.get i).TimeA (-100000000) 100000000 <;> cases s31 (l.get i).TimeB (-100000000) 100000000 <;> cases s31 (l.get i).Flight.Low 0 (l.get i).Flight.High <;> cases decide ((l.get i).Flight.High > (100000000:Int)) <;> cases s31 (l.get i).Jitter 0 100000000 <;> rfl)
    (λ k v=>by
      show s10_st1 nodes l (s10_lp1 nodes l k) (l.len:Int) v=_
      unfold s10_st1
      rw[dqF (show ¬ (l.len:Int) < (l.len:Int) by omega),dqB])
    (λ k i v hi hv=>by
      show p10_st1 nodes l (p10_lp1 nodes l k) (i:Int) v=cond (zgN (l.get i)) (p10_lp1 nodes l k (w64 ((i:Int)+(1:Int))) (zy1 l i v)) true
      generalize p10_lp1 nodes l k=S
      unfold p10_st1 p10_at2 p10_at4 zgN zy1 tieP
      rw[dqT (show (i:Int) < (l.len:Int) by omega),dqA,dqN,dqT (show 0<=(i:Int)/\(i:Int) < (l.len:Int) by omega),dqT (show (v.len+1) * 32<=140737488355328/\v.len+1<=9223372036854775807 by omega)]
      cases (l.get i).A == (l.get i).B <;> cases s31 (l.get i).TimeA (-100000000) 100000000 <;> cases s31 (l.get i).TimeB (-100000000) 100000000 <;> cases s31 (l.get i).Flight.Low 0 (l.get i).Flight.High <;> cases decide ((l.get i).Flight.High > (100000000:Int)) <;> cases s31 (l.get i).Jitter 0 100000000 <;> rfl)
    (λ k v=>by
      show p10_st1 nodes l (p10_lp1 nodes l k) (l.len:Int) v=_
      unfold p10_st1
      rw[dqF (show ¬ (l.len:Int) < (l.len:Int) by omega),dqB])
    (λ i v _ h=>zwe l i v h) (by omega) (⟨0,λ _=>default⟩:Sl Tie) (dqt _)
  exact this
theorem zug (p:Pulse):zgN p=true↔p.A ≠ p.B/\(-100000000<=p.TimeA/\p.TimeA<=100000000)/\(-100000000<=p.TimeB/\p.TimeB<=100000000)/\(0<=p.Flight.Low/\p.Flight.Low<=p.Flight.High)/\p.Flight.High<=100000000/\(0<=p.Jitter/\p.Jitter<=100000000):=by
 unfold zgN
 simp only[zfL,dqm,decide_eq_true_eq,Bool.not_eq_true',dqU,decide_eq_false_iff_not,Int.not_lt,ne_eq,gt_iff_lt]
theorem zeu {σ : Type} {step : Nat → σ → σ} {Inv : Nat → σ → Prop} {n : Nat} (hI : ∀ i s, i < n → Inv i s → Inv (i + 1) (step i s)) :
    ∀ (m i:Nat) (s:σ),i+m=n->Inv i s->Inv n (zef step m i s):=by
  intro m
  induction m with
  | zero => intro i s h hs; have : i = n := by omega
            subst this;exact hs
  | succ m ih=>intro i s h hs;exact ih (i+1) (step i s) (by omega) (hI i s (by omega) hs)
theorem zwf (l:Sl Pulse):(zey l).len=l.len/\∀ j,j < l.len->(zey l).get j=tieP (l.get j) :=
  zeu (Inv := fun i (v : Sl Tie) => v.len = i ∧ ∀ j, j < i → v.get j = tieP (l.get j)) (n := l.len)
    (λ i v hi h=>⟨by show v.len+1=i+1;rw[h.1],λ j hj=>by
      show zdx v.len v.get (λ _=>tieP (l.get i)) j=_
      unfold zdx
      by_cases hji:j < v.len
      · rw[show Nat.ble v.len j=false from Bool.eq_false_iff.2 λ k=>by have:=Nat.le_of_ble_eq_true k;omega];exact h.2 j (by have:=h.1;omega)
      · rw[show Nat.ble v.len j=true from Nat.ble_eq_true_of_le (by omega)];show tieP (l.get i)=_;have:=h.1;rw[show j=i by omega]⟩) l.len 0 _ (by omega) ⟨rfl,λ j hj=>absurd hj (dqW _)⟩
end Go.Proofs
namespace Go.Proofs
open Go Go.Pm
set_option maxRecDepth 100000
set_option linter.unusedVariables false
theorem zBm {p j:Int}(h1 : -(100 * j)<=p) (h2:p<=100 * j) : -j<=p.tdiv 100/\p.tdiv 100<=j:=by
 by_cases hp:0<=p
 ·rw[Int.tdiv_eq_ediv_of_nonneg hp];omega
 ·have : p = -(-p) := by omega
  rw[this,Int.neg_tdiv,Int.tdiv_eq_ediv_of_nonneg (show 0<=-p by omega)];omega
theorem zy2 {p j:Int}(h1:0<=p) (h2:p<=100 * j):0<=p.tdiv 100/\p.tdiv 100<=j:=by
 rw[Int.tdiv_eq_ediv_of_nonneg h1];omega
def zqr (p:Plane) (c:Int):Int:=w64 (p.Clock.Low+w64 ((w64 ((w64 (p.Clock.High - p.Clock.Low)) * c)).tdiv (100:Int)))
def zm3 (p:Plane) (c:Int):Bool:=!(p.Kind == (3:Int)) && (!decide (c < (0:Int)) && (!decide (c > (100:Int)) && (!decide (p.Clock.Low < (-1000000:Int)) && !decide (p.Clock.High > (1000000:Int)))))
structure ClkOk (sv : Sl Plane) (v : Sl Int) : Prop where
  len:v.len=sv.len+1
  z:v.get 0=0
  k:∀ i,i < sv.len->(sv.get i).Kind ≠ 3
  b:∀ i,i < sv.len->-1000000<=(sv.get i).Clock.Low/\(sv.get i).Clock.Low<=v.get (i+1)/\v.get (i+1)<=(sv.get i).Clock.High/\(sv.get i).Clock.High<=1000000
theorem zuh {p:Plane}{c:Int}(hp:PlOk p) (h:zm3 p c=true):p.Kind ≠ 3/\-1000000<=p.Clock.Low/\p.Clock.Low<=zqr p c/\zqr p c<=p.Clock.High/\p.Clock.High<=1000000:=by
 simp only[zm3,dqm,Bool.not_eq_true',decide_eq_false_iff_not,dqU] at h
 obtain⟨a,b,c1,d,e⟩:=h
 have hc:=hp.c
 have h1:(p.Clock.High - p.Clock.Low) * c<=(p.Clock.High - p.Clock.Low) * 100:=Int.mul_le_mul_of_nonneg_left (by omega) (by omega)
 have h0:0<=(p.Clock.High - p.Clock.Low) * c:=Int.mul_nonneg (by omega) (by omega)
 unfold zqr
 rw[zae (x:=p.Clock.High - p.Clock.Low) (by omega) (by omega)]
 generalize (p.Clock.High - p.Clock.Low) * c=q at *
 have hq:=zy2 (p:=q) (j:=p.Clock.High - p.Clock.Low) h0 (by omega)
 rw[zae (x:=q) (by omega) (by omega)]
 generalize q.tdiv 100=t at *
 rw[zae (x:=t) (by omega) (by omega),zae (by omega) (by omega)]
 exact⟨a,by omega,by omega,by omega,by omega⟩
def hA (sv:Sl Plane) (v:Sl Int) (m:Flown):Hit:=s8 ⟨sv⟩ m.A m.Time (v.get ((w64 (m.A+(1:Int))).toNat)) m.WrongA
def hB (sv:Sl Plane) (v:Sl Int) (m:Flown):Hit:=s8 ⟨sv⟩ m.B (w64 (m.Time+m.Flight)) (v.get ((w64 (m.B+(1:Int))).toNat)) m.WrongB
def puM (sv:Sl Plane) (v:Sl Int) (play:Int) (m:Flown):Pulse:=⟨w64 (m.A+(1:Int)),w64 (m.B+(1:Int)),(hA sv v m).Time,(hB sv v m).Time,(⟨(if (w64 (m.Flight - play)) > (0:Int) then (w64 (m.Flight - play)) else (0:Int)),(w64 (m.Flight+play))⟩:Span),w64 ((sv.get m.A.toNat).Jitter+(sv.get m.B.toNat).Jitter)⟩
abbrev Acc:=Sl Hit×Sl Int×Sl Pulse
def ze8 (sv:Sl Plane) (v:Sl Int) (play:Int) (l:Sl Flown) (i:Nat) (σ:Acc):Acc :=
 (⟨σ.1.len+2,zdx σ.1.len σ.1.get (zgQ (hA sv v (l.get i)) [hA sv v (l.get i),hB sv v (l.get i)])⟩,⟨σ.2.1.len+2,zdx σ.2.1.len σ.2.1.get (zgQ (l.get i).Time [(l.get i).Time,w64 ((l.get i).Time+(l.get i).Flight)])⟩,⟨σ.2.2.len+1,zdx σ.2.2.len σ.2.2.get (λ _=>puM sv v play (l.get i))⟩)
def zlq (n:Nat) (m:Flown):Bool:=!decide (m.A < (0:Int)) && (!decide (m.A >= (n:Int)) && (!decide (m.B < (0:Int)) && (!decide (m.B >= (n:Int)) && (!(m.A == m.B) && (!decide (m.Time < (-1000000:Int)) && (!decide (m.Time > (1000000:Int)) && (!decide (m.Flight < (0:Int)) && (!decide (m.Flight > (1000000:Int)) && (!decide (m.WrongA < (-100:Int)) && (!decide (m.WrongA > (100:Int)) && (!decide (m.WrongB < (-100:Int)) && (!decide (m.WrongB > (100:Int))))))))))))))
structure FlOk (n : Nat) (m : Flown) : Prop where
  a:0<=m.A/\m.A < (n:Int)
  b:0<=m.B/\m.B < (n:Int)
  ne:m.A ≠ m.B
  t : -1000000<=m.Time/\m.Time<=1000000
  f:0<=m.Flight/\m.Flight<=1000000
  wa : -100<=m.WrongA/\m.WrongA<=100
  wb : -100<=m.WrongB/\m.WrongB<=100
theorem zpR {n:Nat}{m:Flown}(h:zlq n m=true):FlOk n m:=by
 simp only[zlq,dqm,Bool.not_eq_true',decide_eq_false_iff_not,dqU,Int.not_lt,ge_iff_le,gt_iff_lt,Int.not_le] at h
 obtain⟨a0,a1,b0,b1,ne,t0,t1,f0,f1,w0,w1,x0,x1⟩:=h
 exact⟨⟨a0,a1⟩,⟨b0,b1⟩,ne,⟨t0,t1⟩,⟨f0,f1⟩,⟨w0,w1⟩,⟨x0,x1⟩⟩
structure HitG (sv : Sl Plane) (v : Sl Int) (h : Hit) (w : Int) : Prop where
  a:HitA sv h
  b:HitB sv h
  l:h.Time - (sv.get h.Plane.toNat).Jitter<=w+v.get (h.Plane.toNat+1)
  u:w+v.get (h.Plane.toNat+1)<=h.Time+(sv.get h.Plane.toNat).Jitter
structure Read (sv : Sl Plane) (v : Sl Int) (h : Hit) (pl w : Int) : Prop where
  p:h.Plane=pl
  a:HitA sv h
  t : -4000000<=h.Time/\h.Time<=4000000
  l:h.Time - (sv.get pl.toNat).Jitter<=w+v.get (pl.toNat+1)
  u:w+v.get (pl.toNat+1)<=h.Time+(sv.get pl.toNat).Jitter
theorem zlr {sv : Sl Plane} (hs : SetOk sv) {v : Sl Int} (hv : ClkOk sv v) {pl t x : Int} (h0 : 0 ≤ pl) (h1 : pl < (sv.len : Int)) (ht : -1000000 ≤ t ∧ t ≤ 2000000) (hx : -100 ≤ x ∧ x ≤ 100) :
  p8 ⟨sv⟩ pl t (v.get ((w64 (pl+(1:Int))).toNat)) x=true/\Read sv v (s8 ⟨sv⟩ pl t (v.get ((w64 (pl+(1:Int))).toNat)) x) pl t:=by
 have n16:=hs.n16
 have hp:=hs.pl pl.toNat (by omega)
 have hb:=hv.b pl.toNat (by omega)
 have hj:=hp.j
 rw[zae (x:=pl+1) (by omega) (by omega),show (pl+1).toNat=pl.toNat+1 by omega]
 have hm1:(sv.get pl.toNat).Jitter * x<=(sv.get pl.toNat).Jitter * 100:=Int.mul_le_mul_of_nonneg_left hx.2 hj.1
 have hm2:(sv.get pl.toNat).Jitter * (-100)<=(sv.get pl.toNat).Jitter * x:=Int.mul_le_mul_of_nonneg_left hx.1 hj.1
 have hT:(s8 ⟨sv⟩ pl t (v.get (pl.toNat+1)) x).Time=t+v.get (pl.toNat+1)+((sv.get pl.toNat).Jitter * x).tdiv 100/\-(sv.get pl.toNat).Jitter<=((sv.get pl.toNat).Jitter * x).tdiv 100/\((sv.get pl.toNat).Jitter * x).tdiv 100<=(sv.get pl.toNat).Jitter:=by
  show w64 ((w64 (t+v.get (pl.toNat+1)))+(w64 ((w64 ((sv.get pl.toNat).Jitter * x)).tdiv (100:Int))))=_/\_
  have hq:=zBm (p:=(sv.get pl.toNat).Jitter * x) (j:=(sv.get pl.toNat).Jitter) (by omega) (by omega)
  generalize (sv.get pl.toNat).Jitter * x=q at *
  rw[zae (x:=q) (by omega) (by omega)]
  generalize q.tdiv 100=r at *
  rw[zae (x:=r) (by omega) (by omega),zae (x:=t+v.get (pl.toNat+1)) (by omega) (by omega),zae (by omega) (by omega)]
  exact⟨rfl,hq⟩
 obtain⟨e,q1,q2⟩:=hT
 refine⟨?_,rfl,⟨h0,h1,rfl,rfl,rfl,rfl⟩,?_,?_,?_⟩
 ·unfold p8
  rw[dqT (show 0<=pl/\pl < (sv.len:Int) by omega)];rfl
 ·rw[e];omega
 ·rw[e];omega
 ·rw[e];omega
theorem zpS {sv:Sl Plane}(hs:SetOk sv){v:Sl Int}(hv:ClkOk sv v){h:Hit}{pl w:Int}(hr:Read sv v h pl w):p9 ⟨sv⟩ h=true/\(s9 ⟨sv⟩ h=true->HitG sv v h w):=by
 obtain⟨p,a,t,l,u⟩:=hr
 subst p
 obtain⟨k1,k2⟩:=zCI hs a (hv.k _ (by have:=a.p0;have:=a.p1;omega))
 exact⟨k1,λ k=>⟨a,k2 k,l,u⟩⟩
theorem zwg {sv : Sl Plane} (hs : SetOk sv) {v : Sl Int} (hv : ClkOk sv v) {m : Flown} (hm : FlOk sv.len m) {play : Int} (hp : 0 ≤ play ∧ play ≤ 1000) (ra : Read sv v (hA sv v m) m.A m.Time) (rb : Read sv v (hB sv v m) m.B (m.Time + m.Flight)) :
  zgN (puM sv v play m)=true/\TieOk (tieP (puM sv v play m)) ((sv.len:Int)+1)/\Keep (tieP (puM sv v play m)) v:=by
 have n16:=hs.n16
 have ha:=hm.a;have hb:=hm.b;have ne:=hm.ne;have ht:=hm.t;have hf:=hm.f
 have ja:=(hs.pl m.A.toNat (by omega)).j
 have jb:=(hs.pl m.B.toNat (by omega)).j
 have ba:=hv.b m.A.toNat (by omega)
 have bb:=hv.b m.B.toNat (by omega)
 have la:=ra.l;have ua:=ra.u;have ta:=ra.t
 have lb:=rb.l;have ub:=rb.u;have tb:=rb.t
 have e5:w64 (m.Flight - play)=m.Flight - play:=zae (by omega) (by omega)
 have e6:w64 (m.Flight+play)=m.Flight+play:=zae (by omega) (by omega)
 have e7:w64 ((sv.get m.A.toNat).Jitter+(sv.get m.B.toNat).Jitter)=(sv.get m.A.toNat).Jitter+(sv.get m.B.toNat).Jitter:=zae (by omega) (by omega)
 have hP:puM sv v play m=⟨m.A+1,m.B+1,(hA sv v m).Time,(hB sv v m).Time,⟨if m.Flight - play > 0 then m.Flight - play else 0,m.Flight+play⟩,(sv.get m.A.toNat).Jitter+(sv.get m.B.toNat).Jitter⟩:=by
  unfold puM
  rw[e5,e6,e7,zae (x:=m.A+1) (by omega) (by omega),zae (x:=m.B+1) (by omega) (by omega)]
 rw[hP]
 have hf2:0<=(if m.Flight - play > 0 then m.Flight - play else 0)/\(if m.Flight - play > 0 then m.Flight - play else 0)<=m.Flight:=by split <;> omega
 generalize (if m.Flight - play > 0 then m.Flight - play else 0)=fl at *
 generalize (hA sv v m).Time=TA at *
 generalize (hB sv v m).Time=TB at *
 have eA:(m.A+1).toNat=m.A.toNat+1:=by omega
 have eB:(m.B+1).toNat=m.B.toNat+1:=by omega
 generalize (sv.get m.A.toNat).Jitter=JA at *
 generalize (sv.get m.B.toNat).Jitter=JB at *
 have hT:tieP ⟨m.A+1,m.B+1,TA,TB,⟨fl,m.Flight+play⟩,JA+JB⟩=⟨m.A+1,m.B+1,TB - TA - (m.Flight+play) - (JA+JB),TB - TA - fl+(JA+JB)⟩:=by
  show (⟨m.A+1,m.B+1,w64 (w64 (w64 (TB - TA) - (m.Flight+play)) - (JA+JB)),w64 (w64 (w64 (TB - TA) - fl)+(JA+JB))⟩:Tie)=_
  rw[zae (x:=TB - TA) (by omega) (by omega),zae (x:=TB - TA - (m.Flight+play)) (by omega) (by omega),zae (x:=TB - TA - fl) (by omega) (by omega),zae (by omega) (by omega),zae (by omega) (by omega)]
 refine⟨(zug _).2 ⟨?_,?_,?_,?_,?_,?_⟩,?_,?_⟩
 ·show m.A+1 ≠ m.B+1;omega
 ·exact⟨by show -100000000<=TA;omega,by show TA<=100000000;omega⟩
 ·exact⟨by show -100000000<=TB;omega,by show TB<=100000000;omega⟩
 ·exact⟨hf2.1,by show fl<=m.Flight+play;omega⟩
 ·show m.Flight+play<=100000000;omega
 ·exact⟨by show 0<=JA+JB;omega,by show JA+JB<=100000000;omega⟩
 ·rw [hT]
  exact⟨by show 0<=m.A+1;omega,by show m.A+1 < (sv.len:Int)+1;omega,by show 0<=m.B+1;omega,by show m.B+1 < (sv.len:Int)+1;omega,by show m.A+1 ≠ m.B+1;omega,.inr ⟨by show -1000000000<=TB - TA - (m.Flight+play) - (JA+JB);omega,by show TB - TA - (m.Flight+play) - (JA+JB)<=1000000000;omega⟩,.inr ⟨by show -1000000000<=TB - TA - fl+(JA+JB);omega,by show TB - TA - fl+(JA+JB)<=1000000000;omega⟩,by show TB - TA - (m.Flight+play) - (JA+JB)<=TB - TA - fl+(JA+JB);omega⟩
 ·rw [hT]
  unfold Keep
  show (_\/TB - TA - (m.Flight+play) - (JA+JB)<=v.get (m.B+1).toNat - v.get (m.A+1).toNat)/\(_\/v.get (m.B+1).toNat - v.get (m.A+1).toNat<=TB - TA - fl+(JA+JB))
  rw[eA,eB]
  exact⟨.inr (by omega),.inr (by omega)⟩
structure AccOk (sv : Sl Plane) (v : Sl Int) (i : Nat) (σ : Acc) : Prop where
  h:σ.1.len=2 * i
  w:σ.2.1.len=2 * i
  p:σ.2.2.len=i
  g:∀ k,k < 2 * i->HitG sv v (σ.1.get k) (σ.2.1.get k)
  q:∀ k,k < i->zgN (σ.2.2.get k)=true/\TieOk (tieP (σ.2.2.get k)) ((sv.len:Int)+1)/\Keep (tieP (σ.2.2.get k)) v
theorem zc5 {α:Type}{n:Nat}{g f:Nat->α}{j:Nat}(h:j < n):zdx n g f j=g j:=by
 show (match Nat.ble n j with | true=>f (j - n) | false=>g j)=_
 rw[show Nat.ble n j=false from Bool.eq_false_iff.2 λ k=>by have:=Nat.le_of_ble_eq_true k;omega]
theorem zev {α:Type}{n:Nat}{g f:Nat->α}{j:Nat}(h:n<=j):zdx n g f j=f (j - n):=by
 show (match Nat.ble n j with | true=>f (j - n) | false=>g j)=_
 rw[show Nat.ble n j=true from Nat.ble_eq_true_of_le h]
theorem zwh {sv:Sl Plane}(hs:SetOk sv){v:Sl Int}(hv:ClkOk sv v){play:Int}(hp:0<=play/\play<=1000){l:Sl Flown}{i:Nat}(hm:FlOk sv.len (l.get i)) (ha:s9 ⟨sv⟩ (hA sv v (l.get i))=true) (hb:s9 ⟨sv⟩ (hB sv v (l.get i))=true){σ:Acc}(h:AccOk sv v i σ):AccOk sv v (i+1) (ze8 sv v play l i σ):=by
 obtain⟨h1,h2,h3,h4,h5⟩:=h
 have e:w64 ((l.get i).Time+(l.get i).Flight)=(l.get i).Time+(l.get i).Flight:=zae (by have:=hm.t;have:=hm.f;omega) (by have:=hm.t;have:=hm.f;omega)
 obtain⟨_,ra⟩:=zlr hs hv hm.a.1 hm.a.2 (t:=(l.get i).Time) (by have:=hm.t;omega) hm.wa
 obtain⟨_,rb⟩:=zlr hs hv hm.b.1 hm.b.2 (t:=w64 ((l.get i).Time+(l.get i).Flight)) (by rw[e];have:=hm.t;have:=hm.f;omega) hm.wb
 have ga:=(zpS hs hv ra).2 ha
 have gb:=(zpS hs hv rb).2 hb
 refine⟨?_,?_,?_,λ k hk=>?_,λ k hk=>?_⟩
 ·show σ.1.len+2=2 * (i+1);omega
 ·show σ.2.1.len+2=2 * (i+1);omega
 ·show σ.2.2.len+1=i+1;omega
 ·show HitG sv v (zdx σ.1.len σ.1.get (zgQ (hA sv v (l.get i)) [hA sv v (l.get i), hB sv v (l.get i)]) k) (zdx σ.2.1.len σ.2.1.get (zgQ (l.get i).Time [(l.get i).Time, w64 ((l.get i).Time + (l.get i).Flight)]) k)
  by_cases ho:k < 2 * i
  ·rw[zc5 (by omega),zc5 (by omega)];exact h4 k ho
  ·rw [zev (by omega), zev (by omega), h1, h2]
   by_cases hz:k=2 * i
   ·rw[hz,Nat.sub_self];exact ga
   ·rw[show k - 2 * i=1 by omega];exact gb
 ·show zgN (zdx σ.2.2.len σ.2.2.get (fun _ => puM sv v play (l.get i)) k) = true ∧ TieOk (tieP (zdx σ.2.2.len σ.2.2.get (fun _ => puM sv v play (l.get i)) k)) ((sv.len : Int) + 1) ∧ Keep (tieP (zdx σ.2.2.len σ.2.2.get (fun _ => puM sv v play (l.get i)) k)) v
  by_cases ho:k < i
  ·rw[zc5 (by omega)];exact h5 k ho
  ·rw [zev (by omega)]
   exact zwg hs hv hm hp ra (by rw[e] at rb;unfold hB;rw[e];exact rb)
def zup (sv:Sl Plane) (i:Nat):Tie:=⟨(0:Int),w64 ((i:Int)+(1:Int)),(sv.get i).Clock.Low,(sv.get i).Clock.High⟩
abbrev Off:=Sl Tie×Sl Span
def zwi (sv:Sl Plane) (i:Nat) (σ:Off):Off:=(⟨σ.1.len+1,zdx σ.1.len σ.1.get (λ _=>zup sv i)⟩,⟨σ.2.len+1,zdx σ.2.len σ.2.get (λ _=>(sv.get i).Offset)⟩)
structure OffOk (sv : Sl Plane) (t : Sl Tie) (i : Nat) (σ : Off) : Prop where
  a:σ.1.len=t.len+i
  b:σ.2.len=i
  c:∀ j,j < t.len->σ.1.get j=t.get j
  d:∀ j,j < i->σ.1.get (t.len+j)=zup sv j
  e:∀ j,j < i->σ.2.get j=(sv.get j).Offset
theorem zwj {sv:Sl Plane}{t:Sl Tie}{i:Nat}{σ:Off}(h:OffOk sv t i σ):OffOk sv t (i+1) (zwi sv i σ):=by
 obtain⟨a,b,c,d,e⟩:=h
 refine⟨by show σ.1.len+1=_;omega,by show σ.2.len+1=_;omega,λ j hj=>?_,λ j hj=>?_,λ j hj=>?_⟩
 ·show zdx σ.1.len σ.1.get (fun _ => zup sv i) j = _
  rw[zc5 (by omega)];exact c j hj
 ·show zdx σ.1.len σ.1.get (fun _ => zup sv i) (t.len + j) = _
  by_cases hi:j < i
  ·rw[zc5 (by omega)];exact d j hi
  ·rw[zev (by omega),show j=i by omega]
 ·show zdx σ.2.len σ.2.get (fun _ => (sv.get i).Offset) j = _
  by_cases hi:j < i
  ·rw[zc5 (by omega)];exact e j hi
  ·rw[zev (by omega),show j=i by omega]
theorem zBn {n:Net}(hn:NetOk n) (hN:za4 (En n)) {j:Nat}(hj:j < n.Ties.len):((n.Ties.get j).High ≠ 1000000000000->fr n (n.Ties.get j).From.toNat (n.Ties.get j).To.toNat<=(n.Ties.get j).High)/\((n.Ties.get j).Low ≠ -1000000000000->fr n (n.Ties.get j).To.toNat (n.Ties.get j).From.toNat<=-(n.Ties.get j).Low):=by
 have ht:=hn.tie j hj
 have:=ht.f0;have:=ht.f1;have:=ht.t0;have:=ht.t1
 constructor
 ·intro h
  have he:(⟨(n.Ties.get j).From.toNat,(n.Ties.get j).To.toNat,(n.Ties.get j).High⟩:Ed)∈En n:=(zt5 (a:=W n) hn).2 ⟨j,hj,rfl,.inl ⟨h,rfl⟩⟩
  have:=zlm (zxb (a:=W n) hn) hN (by show (n.Ties.get j).From.toNat < n.Nodes.toNat;omega) (show zeG (En n) (n.Ties.get j).From.toNat [⟨(n.Ties.get j).From.toNat,(n.Ties.get j).To.toNat,(n.Ties.get j).High⟩] (n.Ties.get j).To.toNat from ⟨he,rfl,rfl⟩)
  refine Int.le_trans this ?_
  show (n.Ties.get j).High+0<=_;omega
 ·intro h
  have he:(⟨(n.Ties.get j).To.toNat,(n.Ties.get j).From.toNat,-(n.Ties.get j).Low⟩:Ed)∈En n:=(zt5 (a:=W n) hn).2 ⟨j,hj,rfl,.inr ⟨h,rfl⟩⟩
  have:=zlm (zxb (a:=W n) hn) hN (by show (n.Ties.get j).To.toNat < n.Nodes.toNat;omega) (show zeG (En n) (n.Ties.get j).To.toNat [⟨(n.Ties.get j).To.toNat,(n.Ties.get j).From.toNat,-(n.Ties.get j).Low⟩] (n.Ties.get j).From.toNat from ⟨he,rfl,rfl⟩)
  refine Int.le_trans this ?_
  show -(n.Ties.get j).Low+0<=_;omega
theorem zCL {sv x:Sl Plane}(hs:SetOk sv) (hx:SetOk x){v:Sl Int}(hv:ClkOk sv v){o c:Sl Span}(hxl:x.len=sv.len) (hxg:∀ i,i < sv.len->x.get i=nwP sv o c i) (hc:∀ i,i < sv.len->(c.get i).Low<=v.get (i+1)/\v.get (i+1)<=(c.get i).High){h:Sl Hit}{w:Sl Int}(hl:h.len<=20) (hw:w.len=h.len) (hg:∀ k,k < h.len->HitG sv v (h.get k) (w.get k)):ziX x 0 h w=true/\ziW x 0 h w=true:=by
  have hgood:∀ i,i < h.len->p14 ⟨x⟩ (h.get i)=true/\∃ a b,s14 ⟨x⟩ (h.get i)=(⟨a,b⟩,0)/\a<=w.get i/\w.get i<=b:=λ i hi=>by
    obtain⟨⟨a0,a1,ac,am,ad,aq⟩,⟨b1,b2⟩,l,u⟩:=hg i hi
    have e:=hxg (h.get i).Plane.toNat (by omega)
    have hk:=hv.k (h.get i).Plane.toNat (by omega)
    have hcc:=hc (h.get i).Plane.toNat (by omega)
    obtain⟨k1,k2⟩:=zBj hx (h:=h.get i) ⟨a0,by omega,ac,am,ad,by rw[e];exact aq⟩ ⟨b1,by rw[e];exact b2⟩ (by rw[e];exact hk)
    refine⟨k1,_,_,k2,?_,?_⟩
    · rw [e]
      show (h.get i).Time - (c.get (h.get i).Plane.toNat).High - (sv.get (h.get i).Plane.toNat).Jitter<=w.get i
      omega
    · rw [e]
      show w.get i<=(h.get i).Time - (c.get (h.get i).Plane.toNat).Low+(sv.get (h.get i).Plane.toNat).Jitter
      omega
  have hl := zbd (good := fun _ => true) (fin := true) (n := h.len) (lpS := fun k i => ze2 x k i h w) (lpP := fun k i => ze3 x k i h w)
    (λ k i hi=>by
      show zge x (ze2 x k) (i:Int) h w=cond true (ze2 x k (w64 ((i:Int)+(1:Int))) h w) false
      generalize ze2 x k=S
      obtain⟨_,a,b,k2,k3,k4⟩:=hgood i hi
      unfold zge zok
      rw[dqT (show (i:Int) < (h.len:Int) by omega),dqA,dqN,k2]
      show cond ((0:Int) != 0) false (cond (decide (w.get i < a)) false (cond (decide (w.get i > b)) false (S (w64 ((i:Int)+(1:Int))) h w)))=_
      rw[dqF (show ¬ w.get i < a by omega),dqF (show ¬ w.get i > b by omega)]
      rfl)
    (λ k=>by
      show zge x (ze2 x k) (h.len:Int) h w=_
      unfold zge
      rw[dqF (show ¬ (h.len:Int) < (h.len:Int) by omega),dqB])
    (λ k i hi=>by
      show zgf x (ze3 x k) (i:Int) h w=cond true (ze3 x k (w64 ((i:Int)+(1:Int))) h w) true
      generalize ze3 x k=S
      obtain⟨k1,a,b,k2,k3,k4⟩:=hgood i hi
      unfold zgf zol
      rw[dqT (show (i:Int) < (h.len:Int) by omega),dqA,dqN,k2,k1,dqT (show 0<=(i:Int)/\(i:Int) < (h.len:Int) by omega),dqT (show 0<=(i:Int)/\(i:Int) < (w.len:Int) by omega),dqT (show i < h.len from hi),dqT (show i < w.len by omega)]
      show (true && (true && (true && cond ((0:Int) != 0) true (true && (true && cond (decide (w.get i < a)) true (true && (true && cond (decide (w.get i > b)) true (S (w64 ((i:Int)+(1:Int))) h w))))))))=_
      rw[dqF (show ¬ w.get i < a by omega),dqF (show ¬ w.get i > b by omega)]
      rfl)
    (λ k=>by
      show zgf x (ze3 x k) (h.len:Int) h w=_
      unfold zgf
      rw[dqF (show ¬ (h.len:Int) < (h.len:Int) by omega),dqB])
    (by omega)
  unfold ziX ziW
  exact⟨hl.1,hl.2.2 ⟨λ _ _=>rfl,rfl⟩⟩
theorem zCM {sv:Sl Plane}(hs:SetOk sv){v:Sl Int}(hv:ClkOk sv v){o b:Sl Span}(ho:o.len=sv.len) (hoo:∀ i,i < sv.len->o.get i=(sv.get i).Offset) (hb:b.len=sv.len+1) (hbb:∀ i,i < sv.len->(sv.get i).Clock.Low<=(b.get (i+1)).Low/\(b.get (i+1)).Low<=v.get (i+1)/\v.get (i+1)<=(b.get (i+1)).High/\(b.get (i+1)).High<=(sv.get i).Clock.High){h:Sl Hit}{w:Sl Int}(hl:h.len<=20) (hw:w.len=h.len) (hg:∀ k,k < h.len->HitG sv v (h.get k) (w.get k)):zi1 b sv h w o=true/\zi0 b sv h w o=true:=by
 have hn:NarOk sv o (⟨((b.len:Int) - (1:Int)).toNat,(λ i=>b.get (i+((1:Int).toNat)))⟩:Sl Span):=⟨ho,by show ((b.len:Int) - (1:Int)).toNat=sv.len;omega,hoo,λ i hi=>by
  have:=hbb i hi
  show (sv.get i).Clock.Low<=(b.get (i+1)).Low/\(b.get (i+1)).Low<=(b.get (i+1)).High/\(b.get (i+1)).High<=(sv.get i).Clock.High
  omega⟩
 obtain⟨k1,x,k2,k3,k4,k5⟩:=zBk hs hn
 obtain⟨m1,m2⟩:=zCL hs k3 hv k4 k5 (λ i hi=>by
  have:=hbb i hi
  show (b.get (i+1)).Low<=v.get (i+1)/\v.get (i+1)<=(b.get (i+1)).High
  omega) hl hw hg
 unfold zi1 zi0
 rw[k1,k2,dqT (show 0<=(1:Int)/\(1:Int)<=(b.len:Int)/\(b.len:Int)<=(b.len:Int) by omega)]
 unfold zop zoo zon zom
 show (true && (true && cond ((0:Int) != 0) true (ziX x 0 h w)))=true/\cond ((0:Int) != 0) false (ziW x 0 h w)=true
 rw[m1,m2]
 exact⟨rfl,rfl⟩
theorem zCN {sv:Sl Plane}{v:Sl Int}{o b:Sl Span}{h:Sl Hit}{w:Sl Int}(hl:b.len=v.len) (hn:b.len<=100) (hb:∀ i,i < b.len->(b.get i).Low<=v.get i/\v.get i<=(b.get i).High) (h19:zi1 b sv h w o=true/\zi0 b sv h w o=true):zld b sv v h w o 0=true/\zlc b sv v h w o 0=true:=by
  have hl := zbd (good := fun _ => true) (fin := true) (n := b.len) (lpS := zgi b sv v h w o) (lpP := zgj b sv v h w o)
    (λ k i hi=>by
      show zgg b sv v h w o (zgi b sv v h w o k) (i:Int)=_
      generalize zgi b sv v h w o k=S
      unfold zgg
      rw[dqT (show (i:Int) < (b.len:Int) by omega),dqA,dqN,dqF (show ¬ v.get i < (b.get i).Low by have:=hb i hi;omega),dqF (show ¬ v.get i > (b.get i).High by have:=hb i hi;omega)]
      rfl)
    (λ k=>by
      show zgg b sv v h w o (zgi b sv v h w o k) (b.len:Int)=_
      unfold zgg
      rw[dqF (show ¬ (b.len:Int) < (b.len:Int) by omega),dqB];exact h19.2)
    (λ k i hi=>by
      show zgh b sv v h w o (zgj b sv v h w o k) (i:Int)=_
      generalize zgj b sv v h w o k=S
      unfold zgh
      rw[dqT (show (i:Int) < (b.len:Int) by omega),dqA,dqN,dqF (show ¬ v.get i < (b.get i).Low by have:=hb i hi;omega),dqF (show ¬ v.get i > (b.get i).High by have:=hb i hi;omega),dqT (show 0<=(i:Int)/\(i:Int) < (b.len:Int) by omega),dqT (show 0<=(i:Int)/\(i:Int) < (v.len:Int) by omega),dqT (show i < v.len by omega)]
      rfl)
    (λ k=>by
      show zgh b sv v h w o (zgj b sv v h w o k) (b.len:Int)=_
      unfold zgh
      rw[dqF (show ¬ (b.len:Int) < (b.len:Int) by omega),dqB];exact h19.1)
    (by omega)
  unfold zld zlc
  exact⟨hl.1,hl.2.2 ⟨λ _ _=>rfl,rfl⟩⟩
theorem zCO {sv:Sl Plane}(hs:SetOk sv){v:Sl Int}(hv:ClkOk sv v){i:Nat}(hi:i<=10){t:Sl Tie}(ht:t.len=i) (hq:∀ k,k < i->TieOk (t.get k) ((sv.len:Int)+1)/\Keep (t.get k) v){σ:Off}(hσ:OffOk sv t sv.len σ){h:Sl Hit}{w:Sl Int}(hl:h.len<=20) (hw:w.len=h.len) (hg:∀ k,k < h.len->HitG sv v (h.get k) (w.get k)):zi5 ((sv.len:Int)+1) sv v h w σ.1 σ.2=true/\zi4 ((sv.len:Int)+1) sv v h w σ.1 σ.2=true:=by
 have n1:=hs.n1;have n16:=hs.n16
 obtain⟨sa,sb,sc,sd,se⟩:=hσ
 have hvl:=hv.len
 have hclk:∀ j,j < sv.len->TieOk (zup sv j) ((sv.len:Int)+1)/\Keep (zup sv j) v:=λ j hj=>by
  have hb:=hv.b j hj
  have hp:=(hs.pl j hj).c
  have e:w64 ((j:Int)+(1:Int))=(j:Int)+1:=zae (by omega) (by omega)
  unfold zup
  rw[e]
  refine⟨⟨by show (0:Int)<=0;omega,by show (0:Int) < (sv.len:Int)+1;omega,by show 0<=(j:Int)+1;omega,by show (j:Int)+1 < (sv.len:Int)+1;omega,by show (0:Int) ≠ (j:Int)+1;omega,.inr ⟨by show -1000000000<=(sv.get j).Clock.Low;omega,by show (sv.get j).Clock.Low<=1000000000;omega⟩,.inr ⟨by show -1000000000<=(sv.get j).Clock.High;omega,by show (sv.get j).Clock.High<=1000000000;omega⟩,hp.2.1⟩,?_⟩
  unfold Keep
  show (_\/(sv.get j).Clock.Low<=v.get ((j:Int)+1).toNat - v.get 0)/\(_\/v.get ((j:Int)+1).toNat - v.get 0<=(sv.get j).Clock.High)
  rw[show ((j:Int)+1).toNat=j+1 by omega,hv.z]
  exact⟨.inr (by omega),.inr (by omega)⟩
 have hall:∀ k,k < σ.1.len->TieOk (σ.1.get k) ((sv.len:Int)+1)/\Keep (σ.1.get k) v:=λ k hk=>by
  by_cases ho:k < t.len
  ·rw[sc k ho];exact hq k (by omega)
  ·have := sd (k - t.len) (by omega)
   rw[show t.len+(k - t.len)=k by omega] at this
   rw[this];exact hclk _ (by omega)
 have hn:NetOk (⟨(sv.len:Int)+1,σ.1⟩:Net):=⟨by show 1<=(sv.len:Int)+1;omega,by show (sv.len:Int)+1<=40;omega,by show σ.1.len<=200;omega,λ k hk=>(hall k hk).1⟩
 have hag:AgOk (⟨(sv.len:Int)+1,σ.1⟩:Net) v:=⟨⟨by show (v.len:Int)=(sv.len:Int)+1;omega,hv.z,λ k hk=>by
  by_cases hz:k=0
  ·rw[hz,hv.z];omega
  ·have := hv.b (k - 1) (by omega)
   rw[show k - 1+1=k by omega] at this
   omega⟩,λ k hk=>(hall k hk).2⟩
 obtain⟨g1,g2⟩:=zoz (⟨(sv.len:Int)+1,σ.1⟩:Net) (by show σ.1.len<=_;omega)
 obtain⟨c1,c2⟩:=zyO _ v hn (g2.2 hn) (by omega)
 have c3:=c2.2 hag
 have hN:=zgI hn hag
 obtain⟨b1,b,b2,b3,b4⟩:=zua (by show σ.1.len<=210;omega) hn hN
 have b3':b.len=sv.len+1:=b3.trans (by show ((sv.len:Int)+1).toNat=sv.len+1;omega)
 have hin:∀ k,k < b.len->(b.get k).Low<=v.get k/\v.get k<=(b.get k).High:=λ k hk=>by
  have:=zue hn hag (i:=k) (by show k < ((sv.len:Int)+1).toNat;omega)
  rw[b4 k (by show k < ((sv.len:Int)+1).toNat;omega)]
  exact this
 have hnar:∀ k,k < sv.len->(sv.get k).Clock.Low<=(b.get (k+1)).Low/\(b.get (k+1)).Low<=v.get (k+1)/\v.get (k+1)<=(b.get (k+1)).High/\(b.get (k+1)).High<=(sv.get k).Clock.High:=λ k hk=>by
  have h1:=hin (k+1) (by omega)
  have hb:=hv.b k hk
  obtain⟨f1,f2⟩:=zBn hn hN (j:=t.len+k) (by show t.len+k < σ.1.len;omega)
  have e:(⟨(sv.len:Int)+1,σ.1⟩:Net).Ties.get (t.len+k)=⟨0,(k:Int)+1,(sv.get k).Clock.Low,(sv.get k).Clock.High⟩:=by
   show σ.1.get (t.len+k)=_
   rw[sd k hk];unfold zup;rw[zae (by omega) (by omega)]
  rw[e] at f1 f2
  have f1':fr (⟨(sv.len:Int)+1,σ.1⟩:Net) 0 ((k:Int)+1).toNat<=(sv.get k).Clock.High:=f1 (by show (sv.get k).Clock.High ≠ 1000000000000;omega)
  have f2':fr (⟨(sv.len:Int)+1,σ.1⟩:Net) ((k:Int)+1).toNat 0<=-(sv.get k).Clock.Low:=f2 (by show (sv.get k).Clock.Low ≠ -1000000000000;omega)
  rw[show ((k:Int)+1).toNat=k+1 by omega] at f1' f2'
  have e4:=b4 (k+1) (by show k+1 < ((sv.len:Int)+1).toNat;omega)
  rw[e4] at h1 ⊢
  exact⟨by show (sv.get k).Clock.Low<=-fr _ (k+1) 0;omega,h1.1,h1.2,f1'⟩
 have h19:=zCM hs hv sb se b3' hnar hl hw hg
 have h18:=zCN (sv:=sv) (o:=σ.2) (h:=h) (w:=w) (by omega) (by omega) hin h19
 have e1:((b.len:Int) != (v.len:Int))=false:=by rw[show (b.len:Int)=(v.len:Int) by omega];exact bne_self_eq_false _
 unfold zi5 zi4
 rw[b1,b2]
 unfold zos zor
 rw[c1,c3]
 show (true && (cond ((0:Int) != 0) _ (true && cond false _ (zi3 b ((b.len:Int) != (v.len:Int)) sv v h w σ.2))))=true/\cond ((0:Int) != 0) _ (cond false _ (zi2 b ((b.len:Int) != (v.len:Int)) sv v h w σ.2))=true
 rw[e1]
 exact h18
theorem zCP {sv:Sl Plane}(hs:SetOk sv){v:Sl Int}(hv:ClkOk sv v){i:Nat}(hi:i<=10){t:Sl Tie}(ht:t.len=i) (hq:∀ k,k < i->TieOk (t.get k) ((sv.len:Int)+1)/\Keep (t.get k) v){h:Sl Hit}{w:Sl Int}(hl:h.len<=20) (hw:w.len=h.len) (hg:∀ k,k < h.len->HitG sv v (h.get k) (w.get k)):zi9 ((sv.len:Int)+1) t sv v h w=true/\zi8 ((sv.len:Int)+1) t sv v h w=true:=by
  have n16:=hs.n16
  have hl2 := zjg (step := zwi sv) (E := fun σ : Off => zi4 ((sv.len : Int) + 1) sv v h w σ.1 σ.2) (EP := fun σ : Off => zi5 ((sv.len : Int) + 1) sv v h w σ.1 σ.2) (Inv := fun i (σ : Off) => σ.1.len = t.len + i ∧ σ.2.len = i) (a := 0) (n := sv.len) (lpS := fun k σ i => ze4 ((sv.len : Int) + 1) sv v h w k i σ.1 σ.2) (lpP := fun k σ i => ze5 ((sv.len : Int) + 1) sv v h w k i σ.1 σ.2)
    (λ k i σ _ hi hσ=>by
      show zgk ((sv.len:Int)+1) sv v h w (ze4 ((sv.len:Int)+1) sv v h w k) (i:Int) σ.1 σ.2=ze4 ((sv.len:Int)+1) sv v h w k (w64 ((i:Int)+(1:Int))) (zwi sv i σ).1 (zwi sv i σ).2
      generalize ze4 ((sv.len:Int)+1) sv v h w k=S
      unfold zgk zwi zup
      rw[dqT (show (i:Int) < (sv.len:Int) by omega),dqA,dqN])
    (λ k σ=>by
      show zgk ((sv.len:Int)+1) sv v h w (ze4 ((sv.len:Int)+1) sv v h w k) (sv.len:Int) σ.1 σ.2=_
      unfold zgk
      rw[dqF (show ¬ (sv.len:Int) < (sv.len:Int) by omega),dqB])
    (λ k i σ _ hi hσ=>by
      show zgl ((sv.len:Int)+1) sv v h w (ze5 ((sv.len:Int)+1) sv v h w k) (i:Int) σ.1 σ.2=ze5 ((sv.len:Int)+1) sv v h w k (w64 ((i:Int)+(1:Int))) (zwi sv i σ).1 (zwi sv i σ).2
      generalize ze5 ((sv.len:Int)+1) sv v h w k=S
      have h1:σ.1.len=t.len+i:=hσ.1
      have h2:σ.2.len=i:=hσ.2
      unfold zgl zwi zup
      rw[dqT (show (i:Int) < (sv.len:Int) by omega),dqA,dqN,dqT (show 0<=(i:Int)/\(i:Int) < (sv.len:Int) by omega),dqT (show (σ.1.len+1) * 32<=140737488355328/\σ.1.len+1<=9223372036854775807 by omega),dqT (show (σ.2.len+1) * 16<=140737488355328/\σ.2.len+1<=9223372036854775807 by omega)]
      rfl)
    (λ k σ=>by
      show zgl ((sv.len:Int)+1) sv v h w (ze5 ((sv.len:Int)+1) sv v h w k) (sv.len:Int) σ.1 σ.2=_
      unfold zgl
      rw[dqF (show ¬ (sv.len:Int) < (sv.len:Int) by omega),dqB])
    (λ i σ _ _ hσ=>⟨by show σ.1.len+1=t.len+(i+1);have h1:σ.1.len=t.len+i:=hσ.1;omega,by show σ.2.len+1=i+1;have h2:σ.2.len=i:=hσ.2;omega⟩) (Nat.zero_le _) (by omega) (t,(⟨0,λ _=>default⟩:Sl Span)) ⟨rfl,rfl⟩
  have hinv:=zeu (step:=zwi sv) (Inv:=OffOk sv t) (n:=sv.len) (λ i σ _ hσ=>zwj hσ) (sv.len - 0) 0 (t,(⟨0,λ _=>default⟩:Sl Span)) (by omega) ⟨rfl,rfl,λ j hj=>rfl,λ j hj=>absurd hj (dqW _),λ j hj=>absurd hj (dqW _)⟩
  obtain⟨l1,l2⟩:=hl2
  obtain⟨m1,m2⟩:=zCO hs hv hi ht hq hinv hl hw hg
  unfold zi9 zi8 zou zot
  rw[dqT (show t.len * 32<=140737488355328/\t.len<=9223372036854775807 by omega)]
  exact⟨Eq.trans (Bool.true_and _) (l1.trans m1),l2.trans m2⟩
theorem zDx {sv:Sl Plane}(hs:SetOk sv){v:Sl Int}(hv:ClkOk sv v){i:Nat}(hi:i<=10){σ:Acc}(h:AccOk sv v i σ):zmS sv v σ.1 σ.2.1 σ.2.2=true/\zmR sv v σ.1 σ.2.1 σ.2.2=true:=by
 have n1:=hs.n1;have n16:=hs.n16
 obtain⟨h1,h2,h3,h4,h5⟩:=h
 obtain⟨t1,t2⟩:=zwf σ.2.2
 obtain⟨a1,_⟩:=zBl ((sv.len:Int)+1) σ.2.2 (by omega)
 obtain⟨a1,a2⟩:=a1 (λ k hk=>(h5 k (by omega)).1)
 have hq:∀ k,k < i->TieOk ((zey σ.2.2).get k) ((sv.len:Int)+1)/\Keep ((zey σ.2.2).get k) v:=λ k hk=>by
  rw[t2 k (by omega)];exact (h5 k hk).2
 have hn:NetOk (⟨(sv.len:Int)+1,zey σ.2.2⟩:Net):=⟨by show 1<=(sv.len:Int)+1;omega,by show (sv.len:Int)+1<=40;omega,by show (zey σ.2.2).len<=200;omega,λ k hk=>(hq k (by have hk':k < (zey σ.2.2).len:=hk;omega)).1⟩
 obtain⟨g1,g2⟩:=zoz (⟨(sv.len:Int)+1,zey σ.2.2⟩:Net) (by show (zey σ.2.2).len<=_;omega)
 have hss:=g2.2 hn
 have e1:p10 ((sv.len:Int)+1) σ.2.2=true:=by
  unfold p10
  rw[dqF (show ¬ (σ.2.2.len:Int) > (200:Int) by omega),dqB,a1,g1];rfl
 have e2:s10 ((sv.len:Int)+1) σ.2.2=((⟨(sv.len:Int)+1,zey σ.2.2⟩:Net),0):=by
  unfold s10
  rw[dqF (show ¬ (σ.2.2.len:Int) > (200:Int) by omega),dqB,a2,hss];rfl
 obtain⟨m1,m2⟩:=zCP hs hv hi (t:=zey σ.2.2) (by omega) hq (h:=σ.1) (w:=σ.2.1) (by omega) (by omega) (λ k hk=>h4 k (by omega))
 unfold zmS zmR
 rw[zae (x:=(sv.len:Int)+1) (by omega) (by omega),e1,e2]
 unfold ztK ztJ
 show (true && cond ((0:Int) != 0) true (zi9 ((sv.len:Int)+1) (zey σ.2.2) sv v σ.1 σ.2.1))=true/\cond ((0:Int) != 0) false (zi8 ((sv.len:Int)+1) (zey σ.2.2) sv v σ.1 σ.2.1)=true
 rw[m1,m2]
 exact⟨rfl,rfl⟩
def zy3 (sv:Sl Plane) (v:Sl Int) (l:Sl Flown) (i:Nat):Bool:=zlq sv.len (l.get i) && (s9 ⟨sv⟩ (hA sv v (l.get i)) && s9 ⟨sv⟩ (hB sv v (l.get i)))
theorem st6 (sv : Sl Plane) (v : Sl Int) (l : Sl Flown) (play : Int) (i : Nat) (σ : Acc) (S : Int → Sl Plane → Sl Int → Sl Hit → Sl Int → Sl Pulse → Bool) :
  zpH S l play (i:Int) sv (l.get i).A (l.get i).B (l.get i).Time (l.get i).Flight (l.get i).WrongA (l.get i).WrongB v σ.1 σ.2.1 σ.2.2=cond (s9 ⟨sv⟩ (hA sv v (l.get i)) && s9 ⟨sv⟩ (hB sv v (l.get i))) (S (w64 ((i:Int)+(1:Int))) sv v (ze8 sv v play l i σ).1 (ze8 sv v play l i σ).2.1 (ze8 sv v play l i σ).2.2) true:=by
 have e:zpH S l play (i:Int) sv (l.get i).A (l.get i).B (l.get i).Time (l.get i).Flight (l.get i).WrongA (l.get i).WrongB v σ.1 σ.2.1 σ.2.2=cond (!(s9 ⟨sv⟩ (hA sv v (l.get i)))) (cond true true (S (w64 ((i:Int)+(1:Int))) sv v (ze8 sv v play l i σ).1 (ze8 sv v play l i σ).2.1 (ze8 sv v play l i σ).2.2)) (cond (!(s9 ⟨sv⟩ (hB sv v (l.get i)))) true (S (w64 ((i:Int)+(1:Int))) sv v (ze8 sv v play l i σ).1 (ze8 sv v play l i σ).2.1 (ze8 sv v play l i σ).2.2)):=rfl
 rw[e]
 cases s9 ⟨sv⟩ (hA sv v (l.get i)) <;> cases s9 ⟨sv⟩ (hB sv v (l.get i)) <;> rfl
theorem pt6 {sv : Sl Plane} (hs : SetOk sv) {v : Sl Int} (hv : ClkOk sv v) {l : Sl Flown} {play : Int} {i : Nat} (hi : i ≤ 10) (hm : FlOk sv.len (l.get i)) {σ : Acc} (hσ : σ.1.len = 2 * i ∧ σ.2.1.len = 2 * i ∧ σ.2.2.len = i) (S : Int → Sl Plane → Sl Int → Sl Hit → Sl Int → Sl Pulse → Bool) :
  zmT S l play (i:Int) sv (l.get i).A (l.get i).B (l.get i).Time (l.get i).Flight (l.get i).WrongA (l.get i).WrongB v σ.1 σ.2.1 σ.2.2=cond (s9 ⟨sv⟩ (hA sv v (l.get i)) && s9 ⟨sv⟩ (hB sv v (l.get i))) (S (w64 ((i:Int)+(1:Int))) sv v (ze8 sv v play l i σ).1 (ze8 sv v play l i σ).2.1 (ze8 sv v play l i σ).2.2) true:=by
 have e:w64 ((l.get i).Time+(l.get i).Flight)=(l.get i).Time+(l.get i).Flight:=zae (by have:=hm.t;have:=hm.f;omega) (by have:=hm.t;have:=hm.f;omega)
 obtain⟨p8a,ra⟩:=zlr hs hv hm.a.1 hm.a.2 (t:=(l.get i).Time) (by have:=hm.t;omega) hm.wa
 obtain⟨p8b,rb⟩:=zlr hs hv hm.b.1 hm.b.2 (t:=w64 ((l.get i).Time+(l.get i).Flight)) (by rw[e];have:=hm.t;have:=hm.f;omega) hm.wb
 have p9a:=(zpS hs hv ra).1
 have p9b:=(zpS hs hv rb).1
 have n16:=hs.n16
 have hvl:=hv.len
 have ha:=hm.a;have hb:=hm.b
 have wa:w64 ((l.get i).A+(1:Int))=(l.get i).A+1:=zae (by omega) (by omega)
 have wb:w64 ((l.get i).B+(1:Int))=(l.get i).B+1:=zae (by omega) (by omega)
 have d1:decide (0<=w64 ((l.get i).A+(1:Int))/\w64 ((l.get i).A+(1:Int)) < (v.len:Int))=true:=by rw[wa];exact dqT (by omega)
 have d2:decide ((w64 ((l.get i).A+(1:Int))).toNat < v.len)=true:=by rw[wa];exact dqT (by omega)
 have d3:decide (0<=w64 ((l.get i).B+(1:Int))/\w64 ((l.get i).B+(1:Int)) < (v.len:Int))=true:=by rw[wb];exact dqT (by omega)
 have d4:decide ((w64 ((l.get i).B+(1:Int))).toNat < v.len)=true:=by rw[wb];exact dqT (by omega)
 have q1:decide ((σ.1.len+2) * 48<=140737488355328/\σ.1.len+2<=9223372036854775807)=true:=dqT (by omega)
 have q2:decide ((σ.2.1.len+2) * 8<=140737488355328/\σ.2.1.len+2<=9223372036854775807)=true:=dqT (by omega)
 have q3:decide (0<=(l.get i).A/\(l.get i).A < (sv.len:Int))=true:=dqT (by omega)
 have q4:decide (0<=(l.get i).B/\(l.get i).B < (sv.len:Int))=true:=dqT (by omega)
 have q5:decide ((σ.2.2.len+1) * 56<=140737488355328/\σ.2.2.len+1<=9223372036854775807)=true:=dqT (by omega)
 have f:zmT S l play (i:Int) sv (l.get i).A (l.get i).B (l.get i).Time (l.get i).Flight (l.get i).WrongA (l.get i).WrongB v σ.1 σ.2.1 σ.2.2=(decide (0<=w64 ((l.get i).A+(1:Int))/\w64 ((l.get i).A+(1:Int)) < (v.len:Int)) && (decide ((w64 ((l.get i).A+(1:Int))).toNat < v.len) && (decide (p8 ⟨sv⟩ (l.get i).A (l.get i).Time (v.get ((w64 ((l.get i).A+(1:Int))).toNat)) (l.get i).WrongA=true) && (decide (0<=w64 ((l.get i).B+(1:Int))/\w64 ((l.get i).B+(1:Int)) < (v.len:Int)) && (decide ((w64 ((l.get i).B+(1:Int))).toNat < v.len) && (decide (p8 ⟨sv⟩ (l.get i).B (w64 ((l.get i).Time+(l.get i).Flight)) (v.get ((w64 ((l.get i).B+(1:Int))).toNat)) (l.get i).WrongB=true) && (decide (p9 ⟨sv⟩ (hA sv v (l.get i))=true) && cond (!(s9 ⟨sv⟩ (hA sv v (l.get i)))) (cond true true (decide ((σ.1.len+2) * 48<=140737488355328/\σ.1.len+2<=9223372036854775807) && (decide ((σ.2.1.len+2) * 8<=140737488355328/\σ.2.1.len+2<=9223372036854775807) && (decide (0<=(l.get i).A/\(l.get i).A < (sv.len:Int)) && (decide (0<=(l.get i).B/\(l.get i).B < (sv.len:Int)) && (decide ((σ.2.2.len+1) * 56<=140737488355328/\σ.2.2.len+1<=9223372036854775807) && S (w64 ((i:Int)+(1:Int))) sv v (ze8 sv v play l i σ).1 (ze8 sv v play l i σ).2.1 (ze8 sv v play l i σ).2.2)))))) (decide (p9 ⟨sv⟩ (hB sv v (l.get i))=true) && (cond (!(s9 ⟨sv⟩ (hB sv v (l.get i)))) true (decide ((σ.1.len+2) * 48<=140737488355328/\σ.1.len+2<=9223372036854775807) && (decide ((σ.2.1.len+2) * 8<=140737488355328/\σ.2.1.len+2<=9223372036854775807) && (decide (0<=(l.get i).A/\(l.get i).A < (sv.len:Int)) && (decide (0<=(l.get i).B/\(l.get i).B < (sv.len:Int)) && (decide ((σ.2.2.len+1) * 56<=140737488355328/\σ.2.2.len+1<=9223372036854775807) && S (w64 ((i:Int)+(1:Int))) sv v (ze8 sv v play l i σ).1 (ze8 sv v play l i σ).2.1 (ze8 sv v play l i σ).2.2)))))))))))))):=rfl
 rw[f,d1,d2,p8a,d3,d4,p8b,show p9 ⟨sv⟩ (hA sv v (l.get i))=true from p9a,show p9 ⟨sv⟩ (hB sv v (l.get i))=true from p9b,q1,q2,q3,q4,q5]
 cases s9 ⟨sv⟩ (hA sv v (l.get i)) <;> cases s9 ⟨sv⟩ (hB sv v (l.get i)) <;> rfl
theorem zCQ {sv:Sl Plane}(hs:SetOk sv){v:Sl Int}(hv:ClkOk sv v){l:Sl Flown}(hl:l.len<=10){play:Int}(hp:0<=play/\play<=1000):zmV l play sv v=true/\zmU l play sv v=true:=by
  have h := zli (good := zy3 sv v l) (step := ze8 sv v play l) (bad := true) (E := fun σ : Acc => zmR sv v σ.1 σ.2.1 σ.2.2) (EP := fun σ : Acc => zmS sv v σ.1 σ.2.1 σ.2.2) (Inv := fun i (σ : Acc) => σ.1.len = 2 * i ∧ σ.2.1.len = 2 * i ∧ σ.2.2.len = i) (n := l.len)
    (lpS:=λ k σ i=>zja l play k i sv v σ.1 σ.2.1 σ.2.2) (lpP:=λ k σ i=>zjb l play k i sv v σ.1 σ.2.1 σ.2.2)
    (λ k i σ hi hσ=>by
      show zjV l play (zja l play k) (i:Int) sv v σ.1 σ.2.1 σ.2.2=cond (zlq sv.len (l.get i) && (s9 ⟨sv⟩ (hA sv v (l.get i)) && s9 ⟨sv⟩ (hB sv v (l.get i)))) (zja l play k (w64 ((i:Int)+(1:Int))) sv v (ze8 sv v play l i σ).1 (ze8 sv v play l i σ).2.1 (ze8 sv v play l i σ).2.2) true
      generalize zja l play k=S
      unfold zjV zlq
      rw[dqT (show (i:Int) < (l.len:Int) by omega),dqA,dqN,st6]
      generalize decide ((l.get i).A < (0:Int))=b0
      generalize decide ((l.get i).A >= (sv.len:Int))=b1
      generalize decide ((l.get i).B < (0:Int))=b2
      generalize decide ((l.get i).B >= (sv.len:Int))=b3
      generalize ((l.get i).A == (l.get i).B)=b4
      generalize decide ((l.get i).Time < (-1000000:Int))=b5
      generalize decide ((l.get i).Time > (1000000:Int))=b6
      generalize decide ((l.get i).Flight < (0:Int))=b7
      generalize decide ((l.get i).Flight > (1000000:Int))=b8
      generalize decide ((l.get i).WrongA < (-100:Int))=b9
      generalize decide ((l.get i).WrongA > (100:Int))=b10
      generalize decide ((l.get i).WrongB < (-100:Int))=b11
      generalize decide ((l.get i).WrongB > (100:Int))=b12
      cases b0 <;> try rfl
      cases b1 <;> try rfl
      cases b2 <;> try rfl
      cases b3 <;> try rfl
      cases b4 <;> try rfl
      cases b5 <;> try rfl
      cases b6 <;> try rfl
      cases b7 <;> try rfl
      cases b8 <;> try rfl
      cases b9 <;> try rfl
      cases b10 <;> try rfl
      cases b11 <;> try rfl
      cases b12 <;> try rfl
      )
    (λ k σ=>by
      show zjV l play (zja l play k) (l.len:Int) sv v σ.1 σ.2.1 σ.2.2=_
      unfold zjV
      rw[dqF (show ¬ (l.len:Int) < (l.len:Int) by omega),dqB])
    (λ k i σ hi hσ=>by
      show zjW l play (zjb l play k) (i:Int) sv v σ.1 σ.2.1 σ.2.2=cond (zlq sv.len (l.get i) && (s9 ⟨sv⟩ (hA sv v (l.get i)) && s9 ⟨sv⟩ (hB sv v (l.get i)))) (zjb l play k (w64 ((i:Int)+(1:Int))) sv v (ze8 sv v play l i σ).1 (ze8 sv v play l i σ).2.1 (ze8 sv v play l i σ).2.2) true
      generalize zjb l play k=S
      unfold zjW
      rw[dqT (show (i:Int) < (l.len:Int) by omega),dqA,dqN,dqT (show 0<=(i:Int)/\(i:Int) < (l.len:Int) by omega),Bool.true_and]
      cases hg:zlq sv.len (l.get i)
      · unfold zlq at hg
        generalize zmT S l play (i:Int) sv (l.get i).A (l.get i).B (l.get i).Time (l.get i).Flight (l.get i).WrongA (l.get i).WrongB v σ.1 σ.2.1 σ.2.2=X
        generalize decide ((l.get i).A < (0:Int))=b0 at hg ⊢
        generalize decide ((l.get i).A >= (sv.len:Int))=b1 at hg ⊢
        generalize decide ((l.get i).B < (0:Int))=b2 at hg ⊢
        generalize decide ((l.get i).B >= (sv.len:Int))=b3 at hg ⊢
        generalize ((l.get i).A == (l.get i).B)=b4 at hg ⊢
        generalize decide ((l.get i).Time < (-1000000:Int))=b5 at hg ⊢
        generalize decide ((l.get i).Time > (1000000:Int))=b6 at hg ⊢
        generalize decide ((l.get i).Flight < (0:Int))=b7 at hg ⊢
        generalize decide ((l.get i).Flight > (1000000:Int))=b8 at hg ⊢
        generalize decide ((l.get i).WrongA < (-100:Int))=b9 at hg ⊢
        generalize decide ((l.get i).WrongA > (100:Int))=b10 at hg ⊢
        generalize decide ((l.get i).WrongB < (-100:Int))=b11 at hg ⊢
        generalize decide ((l.get i).WrongB > (100:Int))=b12 at hg ⊢
        cases b0 <;> try rfl
        cases b1 <;> try rfl
        cases b2 <;> try rfl
        cases b3 <;> try rfl
        cases b4 <;> try rfl
        cases b5 <;> try rfl
        cases b6 <;> try rfl
        cases b7 <;> try rfl
        cases b8 <;> try rfl
        cases b9 <;> try rfl
        cases b10 <;> try rfl
        cases b11 <;> try rfl
        cases b12 <;> try rfl
        cases hg
      · rw [pt6 hs hv (by omega) (zpR hg) hσ, Bool.true_and]
        unfold zlq at hg
        generalize cond (s9 ⟨sv⟩ (hA sv v (l.get i)) && s9 ⟨sv⟩ (hB sv v (l.get i))) (S (w64 ((i:Int)+(1:Int))) sv v (ze8 sv v play l i σ).1 (ze8 sv v play l i σ).2.1 (ze8 sv v play l i σ).2.2) true=X
        simp only[dqm,Bool.not_eq_true'] at hg
        obtain⟨g0,g1,g2,g3,g4,g5,g6,g7,g8,g9,g10,g11,g12⟩:=hg
        rw[g0,g1,g2,g3,g4,g5,g6,g7,g8,g9,g10,g11,g12]
        simp only[dqB])
    (λ k σ=>by
      show zjW l play (zjb l play k) (l.len:Int) sv v σ.1 σ.2.1 σ.2.2=_
      unfold zjW
      rw[dqF (show ¬ (l.len:Int) < (l.len:Int) by omega),dqB])
    (λ i σ _ h=>⟨by show σ.1.len+2=2 * (i+1);have:=h.1;omega,by show σ.2.1.len+2=2 * (i+1);have:=h.2.1;omega,by show σ.2.2.len+1=i+1;have:=h.2.2;omega⟩) (by omega) ((⟨0,λ _=>default⟩:Sl Hit),(⟨0,λ _=>default⟩:Sl Int),(⟨0,λ _=>default⟩:Sl Pulse)) ⟨rfl,rfl,rfl⟩
  unfold zmV zmU ztM ztL
  by_cases hg:∀ i,i < l.len->zy3 sv v l i=true
  · obtain ⟨k1, k2⟩ := h.1 hg
    have hinv:=zeu (step:=ze8 sv v play l) (Inv:=AccOk sv v) (n:=l.len) (λ i σ hi hσ=>by
      have:=hg i hi
      unfold zy3 at this
      rw[dqm,dqm] at this
      exact zwh hs hv hp (zpR this.1) this.2.1 this.2.2 hσ) l.len 0 ((⟨0,λ _=>default⟩:Sl Hit),(⟨0,λ _=>default⟩:Sl Int),(⟨0,λ _=>default⟩:Sl Pulse)) (by omega) ⟨rfl,rfl,rfl,λ k hk=>absurd hk (dqW _),λ k hk=>absurd hk (dqW _)⟩
    obtain⟨m1,m2⟩:=zDx hs hv hl hinv
    exact⟨k1.trans m1,k2.trans m2⟩
  · exact h.2 hg
structure ValOkk (sv : Sl Plane) (c : Sl Int) (i : Nat) (v : Sl Int) : Prop where
  l:v.len=i+1
  z:v.get 0=0
  g:∀ j,j < i->v.get (j+1)=zqr (sv.get j) (c.get j)
theorem zCR {sv:Sl Plane}(hs:SetOk sv) (hn:sv.len<=6){c:Sl Int}(hc:c.len=sv.len){l:Sl Flown}(hl:l.len<=10){play:Int}(hp:0<=play/\play<=1000):zpJ c l play sv=true/\zpI c l play sv=true:=by
  have h := zli (good := fun i => zm3 (sv.get i) (c.get i)) (step := apL fun i => zqr (sv.get i) (c.get i)) (bad := true) (E := fun v => zmU l play sv v) (EP := fun v => zmV l play sv v) (Inv := fun i v => v.len = i + 1) (n := sv.len)
    (lpS:=λ k v i=>zjc c l play k i sv v) (lpP:=λ k v i=>zjd c l play k i sv v)
    (λ k i v hi hv=>by
      show zjX c l play (zjc c l play k) (i:Int) sv v=cond (zm3 (sv.get i) (c.get i)) (zjc c l play k (w64 ((i:Int)+(1:Int))) sv (apL (λ i=>zqr (sv.get i) (c.get i)) i v)) true
      generalize zjc c l play k=S
      unfold zjX ztN zm3 apL zqr
      rw[dqT (show (i:Int) < (sv.len:Int) by omega),dqA,dqN]
      cases (sv.get i).Kind == (3:Int) <;> cases decide (c.get i < (0:Int)) <;> cases decide (c.get i > (100:Int)) <;> cases decide ((sv.get i).Clock.Low < (-1000000:Int)) <;> cases decide ((sv.get i).Clock.High > (1000000:Int)) <;> rfl)
    (λ k v=>by
      show zjX c l play (zjc c l play k) (sv.len:Int) sv v=_
      unfold zjX
      rw[dqF (show ¬ (sv.len:Int) < (sv.len:Int) by omega),dqB])
    (λ k i v hi hv=>by
      show zjY c l play (zjd c l play k) (i:Int) sv v=cond (zm3 (sv.get i) (c.get i)) (zjd c l play k (w64 ((i:Int)+(1:Int))) sv (apL (λ i=>zqr (sv.get i) (c.get i)) i v)) true
      generalize zjd c l play k=S
      have hv':v.len=i+1:=hv
      unfold zjY ztO zm3 apL zqr
      rw[dqT (show (i:Int) < (sv.len:Int) by omega),dqA,dqN,dqT (show 0<=(i:Int)/\(i:Int) < (sv.len:Int) by omega),dqT (show 0<=(i:Int)/\(i:Int) < (c.len:Int) by omega),dqT (show (100:Int) ≠ 0 by decide),dqT (show (v.len+1) * 8<=140737488355328/\v.len+1<=9223372036854775807 by omega)]
      cases (sv.get i).Kind == (3:Int) <;> cases decide (c.get i < (0:Int)) <;> cases decide (c.get i > (100:Int)) <;> cases decide ((sv.get i).Clock.Low < (-1000000:Int)) <;> cases decide ((sv.get i).Clock.High > (1000000:Int)) <;> rfl)
    (λ k v=>by
      show zjY c l play (zjd c l play k) (sv.len:Int) sv v=_
      unfold zjY
      rw[dqF (show ¬ (sv.len:Int) < (sv.len:Int) by omega),dqB])
    (λ i v _ h=>by show v.len+1=i+1+1;have h':v.len=i+1:=h;omega) (by omega) (⟨1,(λ _=>(0:Int))⟩:Sl Int) rfl
  unfold zpJ zpI ztQ ztP
  by_cases hg:∀ i,i < sv.len->zm3 (sv.get i) (c.get i)=true
  · obtain ⟨k1, k2⟩ := h.1 hg
    obtain⟨i1,i2,i3⟩:=zeu (step:=apL λ i=>zqr (sv.get i) (c.get i)) (Inv:=ValOkk sv c) (n:=sv.len) (λ i v hi hv=>by
      obtain⟨a,b,d⟩:=hv
      refine⟨by show v.len+1=i+1+1;omega,?_,λ j hj=>?_⟩
      · show zdx v.len v.get (fun _ => zqr (sv.get i) (c.get i)) 0 = 0
        rw[zc5 (by omega)];exact b
      · show zdx v.len v.get (fun _ => zqr (sv.get i) (c.get i)) (j + 1) = _
        by_cases hji:j < i
        · rw[zc5 (by omega)];exact d j hji
        · rw[zev (by omega),show j=i by omega]) sv.len 0 (⟨1,(λ _=>(0:Int))⟩:Sl Int) (by omega) ⟨rfl,rfl,λ j hj=>absurd hj (dqW _)⟩
    have hv:ClkOk sv (zef (apL λ i=>zqr (sv.get i) (c.get i)) sv.len 0 (⟨1,(λ _=>(0:Int))⟩:Sl Int)):=⟨i1,i2,λ i hi=>(zuh (hs.pl i hi) (hg i hi)).1,λ i hi=>by
      have:=zuh (hs.pl i hi) (hg i hi)
      rw[i3 i hi];exact this.2⟩
    obtain⟨m1,m2⟩:=zCQ hs hv hl hp
    exact⟨k1.trans m1,k2.trans m2⟩
  · exact h.2 hg
theorem clocks_true (s:Setup) (c:Sl Int) (l:Sl Flown) (play:Int) (hs:wf_24 s):p3 s c l play=true/\s3 s c l play=true:=by
 obtain⟨sv⟩:=s
 have hn:sv.len<=9223372036854775807:=hs.1
 have hw:∀ i,i < sv.len->(sv.get i).Drift.len<=9223372036854775807/\(sv.get i).Dead.len<=9223372036854775807:=λ i hi=>by
  obtain⟨_,_,_,_,_,_,_,_,_,_,_,h1,h2⟩:=hs.2 i hi
  exact⟨h1.1,h2.1⟩
 have h5:=zCG ⟨sv⟩ hn
 obtain⟨h6,h6'⟩:=zCH sv hn hw
 have hT:∀ b,zcz c l play true b=true/\zcy c l play true b=true:=λ b=>⟨rfl,rfl⟩
 unfold p3 s3
 rw[h5,h6]
 show (true && cond (!(s5 ⟨sv⟩)) (zcz c l play true sv) (true && cond (!(s6 ⟨sv⟩)) (zcz c l play true sv) (cond (decide ((sv.len:Int) > (6:Int))) (zcz c l play true sv) (cond ((c.len:Int) != (sv.len:Int)) (zcz c l play true sv) (cond (decide ((l.len:Int) > (10:Int))) (zcz c l play true sv) (cond (decide (play < (0:Int))) (zcz c l play true sv) (zcz c l play (decide (play > (1000:Int))) sv)))))))=true/\cond (!(s5 ⟨sv⟩)) (zcy c l play true sv) (cond (!(s6 ⟨sv⟩)) (zcy c l play true sv) (cond (decide ((sv.len:Int) > (6:Int))) (zcy c l play true sv) (cond ((c.len:Int) != (sv.len:Int)) (zcy c l play true sv) (cond (decide ((l.len:Int) > (10:Int))) (zcy c l play true sv) (cond (decide (play < (0:Int))) (zcy c l play true sv) (zcy c l play (decide (play > (1000:Int))) sv))))))=true
 rw[Bool.true_and,Bool.true_and]
 by_cases a5:s5 ⟨sv⟩=true
 ·rw [a5, Bool.not_true, dqB, dqB]
  by_cases a6:s6 ⟨sv⟩=true
  ·rw [a6, Bool.not_true, dqB, dqB]
   by_cases a1:(sv.len:Int) > 6
   ·rw[dqT a1];exact hT sv
   rw[dqF a1,dqB,dqB]
   by_cases a2:c.len=sv.len
   ·rw [show ((c.len : Int) != (sv.len : Int)) = false by rw [a2]; exact bne_self_eq_false _, dqB, dqB]
    by_cases a3:(l.len:Int) > 10
    ·rw[dqT a3];exact hT sv
    rw[dqF a3,dqB,dqB]
    by_cases a4:play < 0
    ·rw[dqT a4];exact hT sv
    rw[dqF a4,dqB,dqB]
    by_cases a7:play > 1000
    ·rw[dqT a7];exact hT sv
    rw[dqF a7]
    exact zCR (h6' a6) (by omega) a2 (by omega) ⟨by omega,by omega⟩
   ·rw[show ((c.len:Int) != (sv.len:Int))=true from bne_iff_ne.2 (by omega)];exact hT sv
  ·rw[Bool.eq_false_iff.2 a6];exact hT sv
 ·rw[Bool.eq_false_iff.2 a5];exact hT sv
end Go.Proofs
