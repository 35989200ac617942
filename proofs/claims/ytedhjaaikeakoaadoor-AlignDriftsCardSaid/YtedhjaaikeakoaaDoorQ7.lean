/- Part 7 of what the proof rests on: a machine that runs functions of the program on pure values, proved sound; the functions that the law reaches, and what they compute. -/
import Derived.Test.YtedhjaaikeakoaaDoorQ6
set_option linter.all false
namespace Go.Proofs
open Go Go.Pm
set_option maxRecDepth 100000
set_option linter.unusedVariables false
theorem zf5 {n:Nat}{F:Tab}{k:Nat}(hk:k < n):tg n F k=F k:=by
 unfold tg zmR
 have h:(zm (zh9 0 n F))[k]? = some (.p (.int .i64 (F k))):=by
  rw[zm,List.getElem?_map,zgT n 0 F k hk,Nat.zero_add];rfl
 rw[h]
theorem zGm {n:Nat}{F:Tab}{k:Nat}{v:Int}{j:Nat}(hj:j < n):ts n F k [v] j=if j=k then v else F j:=by
 show (match Nat.beq j k with | true=>v | false=>tg n F j)=_
 by_cases h:j=k
 ·rw[dqP h,show Nat.beq j k=true from by rw[h];exact Nat.beq_refl _]
 ·rw[dqG h,show Nat.beq j k=false from Bool.eq_false_iff.2 λ e=>h (Nat.eq_of_beq_eq_true e)];exact zf5 hj
theorem zd0 {n:Nat}{F:Tab}{k:Nat}{v w:Int}{j:Nat}(hj:j < n):ts n F k [v,w] j=if j=k+1 then w else if j=k then v else F j:=by
 show (match Nat.beq j (k+1) with | true=>w | false=>(match Nat.beq j k with | true=>v | false=>tg n F j))=_
 by_cases h:j=k+1
 ·rw[dqP h,show Nat.beq j (k+1)=true from by rw[h];exact Nat.beq_refl _]
 ·rw [dqG h, show Nat.beq j (k + 1) = false from Bool.eq_false_iff.2 fun e => h (Nat.eq_of_beq_eq_true e)]
  by_cases h':j=k
  ·rw[dqP h',show Nat.beq j k=true from by rw[h'];exact Nat.beq_refl _]
  ·rw[dqG h',show Nat.beq j k=false from Bool.eq_false_iff.2 λ e=>h' (Nat.eq_of_beq_eq_true e)];exact zf5 hj
def fwS (t:Tie) (i:Nat):step:=⟨⟨(i:Int),false⟩,t.From,t.To,t.High⟩
def bwS (t:Tie) (i:Nat):step:=⟨⟨(i:Int),true⟩,t.To,t.From,w64 (0 - t.Low)⟩
def zKY (a:web) (i:Nat):Bool:=(zwe (a.out.F [(i:Int)]) 0) != 0
def stK (a:web) (i:Nat):List step :=
 cond (zKY a i) [] ((cond ((a.Net.Ties.get i).High != (1000000000000:Int)) [fwS (a.Net.Ties.get i) i] []) ++ (cond ((a.Net.Ties.get i).Low != (-1000000000000:Int)) [bwS (a.Net.Ties.get i) i] []))
def stL (a : web) : Nat → Nat → List step
  | 0,_=>[]
  | m+1,i=>stK a i ++ stL a m (i+1)
theorem zuj (a:web) (hn:a.Net.Ties.len≤9223372036854775807):zw0 a=true/\zl4 a=stL a a.Net.Ties.len 0:=by
 have key:∀ (m k i:Nat),i+m=a.Net.Ties.len->m < k->zeJ a k (i:Int)=true/\zeI a k (i:Int)=stL a m i:=by
  intro m
  induction m with
  | zero =>
   intro k i hi hk
   obtain⟨k,rfl⟩:∃ k',k=k'+1:=⟨k - 1,by omega⟩
   constructor
   ·show zfw a (zeJ a k) (i : Int) = true
    unfold zfw
    rw[dqF (show ¬ (i:Int) < (a.Net.Ties.len:Int) by omega),dqB]
   ·show zfv a (zeI a k) (i : Int) = []
    unfold zfv
    rw[dqF (show ¬ (i:Int) < (a.Net.Ties.len:Int) by omega),dqB]
  | succ m ih =>
   intro k i hi hk
   obtain⟨k,rfl⟩:∃ k',k=k'+1:=⟨k - 1,by omega⟩
   obtain⟨h1,h2⟩:=ih k (i+1) (by omega) (by omega)
   constructor
   ·show zfw a (zeJ a k) (i : Int) = true
    unfold zfw
    rw[dqT (show (i:Int) < (a.Net.Ties.len:Int) by omega),dqA,dqT (show 0≤(i:Int)/\(i:Int) < (a.Net.Ties.len:Int) by omega),Bool.true_and,ziN (n:=a.Net.Ties.len) (by omega) hn,h1]
    generalize (zwe (a.out.F [(i:Int)]) 0 != 0)=b1
    generalize (s94 (⟨(a.Net.Ties.get ((i:Int)).toNat),(i:Int)⟩:tie)).2=b2
    generalize (s95 (⟨(a.Net.Ties.get ((i:Int)).toNat),(i:Int)⟩:tie)).2=b3
    cases b1 <;> cases b2 <;> cases b3 <;> rfl
   ·show zfv a (zeI a k) (i : Int) = stK a i ++ stL a m (i + 1)
    unfold zfv
    rw[dqT (show (i:Int) < (a.Net.Ties.len:Int) by omega),dqA,dqN,ziN (n:=a.Net.Ties.len) (by omega) hn,h2]
    unfold stK zKY s94 s95
    generalize (zwe (a.out.F [(i:Int)]) 0 != 0)=b1
    show cond b1 _ (cond ((a.Net.Ties.get i).High != (1000000000000:Int)) (_ :: cond ((a.Net.Ties.get i).Low != (-1000000000000:Int)) (_ :: _) _) (cond ((a.Net.Ties.get i).Low != (-1000000000000:Int)) (_ :: _) _))=_
    generalize ((a.Net.Ties.get i).High != (1000000000000:Int))=b2
    generalize ((a.Net.Ties.get i).Low != (-1000000000000:Int))=b3
    cases b1 <;> cases b2 <;> cases b3 <;> rfl
 exact key a.Net.Ties.len Fuel 0 (by omega) (by simp only[Fuel];omega)
theorem zpP {a:web}{y:step} : ∀ {m i:Nat},y∈stL a m i↔∃ j,i≤j/\j < i+m/\y∈stK a j:=by
 intro m
 induction m with
 | zero=>intro i;exact⟨λ h=>(by cases h),λ ⟨j,h1,h2,_⟩=>(by omega)⟩
 | succ m ih =>
  intro i
  show y∈stK a i ++ stL a m (i+1)↔_
  rw[List.mem_append,ih]
  constructor
  ·rintro (h | ⟨j, h1, h2, h3⟩)
   ·exact⟨i,Nat.le_refl _,by omega,h⟩
   ·exact⟨j,by omega,by omega,h3⟩
  ·rintro ⟨j, h1, h2, h3⟩
   by_cases h:j=i
   ·subst h;exact .inl h3
   ·exact .inr ⟨j,by omega,by omega,h3⟩
theorem zpQ {a:web}{y:step}{j:Nat} : y∈stK a j↔zKY a j=false/\(((a.Net.Ties.get j).High ≠ 1000000000000/\y=fwS (a.Net.Ties.get j) j)∨((a.Net.Ties.get j).Low ≠ -1000000000000/\y=bwS (a.Net.Ties.get j) j)):=by
 unfold stK
 cases h:zKY a j
 ·rw [dqB, List.mem_append]
  by_cases h1:(a.Net.Ties.get j).High=1000000000000
  ·rw [show ((a.Net.Ties.get j).High != (1000000000000:Int)) = false by rw [h1]; rfl, dqB]
   by_cases h2:(a.Net.Ties.get j).Low = -1000000000000
   ·rw [show ((a.Net.Ties.get j).Low != (-1000000000000:Int)) = false by rw [h2]; rfl, dqB]
    simp[h1,h2]
   ·rw [bne_iff_ne.2 h2, dqA]
    simp[h1,h2]
  ·rw [bne_iff_ne.2 h1, dqA]
   by_cases h2:(a.Net.Ties.get j).Low = -1000000000000
   ·rw [show ((a.Net.Ties.get j).Low != (-1000000000000:Int)) = false by rw [h2]; rfl, dqB]
    simp[h1,h2]
   ·rw [bne_iff_ne.2 h2, dqA]
    simp[h1,h2]
 ·rw[dqA];simp
theorem zKF (a:web):∀ m i,(stL a m i).length≤2 * m:=by
 intro m
 induction m with
 | zero=>intro i;exact Nat.le_refl _
 | succ m ih =>
  intro i
  show (stK a i ++ stL a m (i+1)).length≤_
  rw[List.length_append]
  have:=ih (i+1)
  have:(stK a i).length≤2:=by
   unfold stK
   cases zKY a i <;> cases ((a.Net.Ties.get i).High != (1000000000000:Int)) <;> cases ((a.Net.Ties.get i).Low != (-1000000000000:Int)) <;> simp
  omega
def edS (y:step):Ed:=⟨y.from_.toNat,y.to.toNat,y.length⟩
structure StOk (y : step) (N : Nat) : Prop where
  f0:0≤y.from_
  f1:y.from_ < N
  t0:0≤y.to
  t1:y.to < N
  l0 : -1000000000≤y.length
  l1:y.length≤1000000000
abbrev Ws (a:web):List step:=stL a a.Net.Ties.len 0
def We (a:web):List Ed:=(Ws a).map edS
theorem zCx {t:Tie}{N:Int}(h:TieOk t N) (h':t.Low ≠ -1000000000000):w64 (0 - t.Low) = -t.Low:=by
 have:=h.lo.resolve_left h'
 rw[za6 (by omega) (by omega)];omega
theorem zND {a:web}(hn:NetOk a.Net){y:step}(hy:y∈Ws a):StOk y a.Net.Nodes.toNat:=by
 obtain⟨j,_,h2,h3⟩:=zpP.1 hy
 have h:=hn.tie j (by omega)
 have:=h.f0;have:=h.f1;have:=h.t0;have:=h.t1
 rcases (zpQ.1 h3).2 with ⟨h4,rfl⟩ | ⟨h4,rfl⟩
 ·have := h.hi.resolve_left h4
  exact⟨h.f0,by show (a.Net.Ties.get j).From < _;omega,h.t0,by show (a.Net.Ties.get j).To < _;omega,this.1,this.2⟩
 ·have := h.lo.resolve_left h4
  have e:=zCx h h4
  exact⟨h.t0,by show (a.Net.Ties.get j).To < _;omega,h.f0,by show (a.Net.Ties.get j).From < _;omega,by show _≤w64 (0 - (a.Net.Ties.get j).Low);omega,by show w64 (0 - (a.Net.Ties.get j).Low)≤_;omega⟩
theorem zNE {a:web}(hn:NetOk a.Net):(Ws a).length≤400:=by
 have h1:=zKF a a.Net.Ties.len 0
 have h2:=hn.len
 show (stL a a.Net.Ties.len 0).length≤400
 omega
theorem zGn {a:web}(hn:NetOk a.Net):EdOk (We a) a.Net.Nodes.toNat:=by
 have:=hn.n1;have:=hn.n40
 refine⟨λ e he=>?_,λ e he=>?_,by omega,by omega⟩
 ·obtain ⟨y, hy, rfl⟩ := List.mem_map.1 he
  have h:=zND hn hy
  have:=h.f0;have:=h.f1;have:=h.t0;have:=h.t1
  exact⟨by show y.from_.toNat < _;omega,by show y.to.toNat < _;omega⟩
 ·obtain ⟨y, hy, rfl⟩ := List.mem_map.1 he
  have h:=zND hn hy
  exact⟨h.l0,h.l1⟩
theorem zCy {a:web}(hn:NetOk a.Net){e:Ed} : e∈We a↔∃ j,j < a.Net.Ties.len/\zKY a j=false/\(((a.Net.Ties.get j).High ≠ 1000000000000/\e=⟨(a.Net.Ties.get j).From.toNat,(a.Net.Ties.get j).To.toNat,(a.Net.Ties.get j).High⟩)∨((a.Net.Ties.get j).Low ≠ -1000000000000/\e=⟨(a.Net.Ties.get j).To.toNat,(a.Net.Ties.get j).From.toNat,-(a.Net.Ties.get j).Low⟩)):=by
 constructor
 ·intro he
  obtain⟨y,hy,rfl⟩:=List.mem_map.1 he
  obtain⟨j,_,h2,h3⟩:=zpP.1 hy
  obtain⟨h4,h5⟩:=zpQ.1 h3
  refine⟨j,by omega,h4,?_⟩
  rcases h5 with ⟨h6,rfl⟩ | ⟨h6,rfl⟩
  ·exact .inl ⟨h6,rfl⟩
  ·refine .inr ⟨h6, ?_⟩
   rw[← zCx (hn.tie j (by omega)) h6];rfl
 ·rintro ⟨j, h1, h2, h3⟩
  rcases h3 with ⟨h6,rfl⟩ | ⟨h6,rfl⟩
  ·exact List.mem_map.2 ⟨fwS (a.Net.Ties.get j) j,zpP.2 ⟨j,by omega,by omega,zpQ.2 ⟨h2,.inl ⟨h6,rfl⟩⟩⟩,rfl⟩
  ·exact List.mem_map.2 ⟨bwS (a.Net.Ties.get j) j,zpP.2 ⟨j,by omega,by omega,zpQ.2 ⟨h2,.inr ⟨h6,rfl⟩⟩⟩,by rw[← zCx (hn.tie j h1) h6];rfl⟩
end Go.Proofs
namespace Go.Proofs
open Go Go.Pm
set_option maxRecDepth 100000
set_option linter.unusedVariables false
def Rt (N:Nat) (T:Tab) (d:zdu):Prop:=∀ v,v < N->d v=some (T v)
def Bd (B:Int) (T:Tab):Prop:=∀ v,v < 40->-B≤T v/\T v≤0
theorem zCz (a:web){N:Nat}(hN:N≤40) (S0:Int->Tab->Bool) (P0:Int->Tab->Bool):∀ (l:List step),(∀ y∈l,StOk y N)->∀ (t:Int) (c:Bool) (T:Tab) (d:zdu) (B:Int),Rt N T d->Bd B T->0≤B->B+l.length * 1000000000≤100000000000000000 ->
    ∃ T',zgm S0 a l t c T=zoh S0 a t ((l.map edS).foldl rlF (d,c)).2 T'/\zgn P0 a l t c T=zoi P0 a t ((l.map edS).foldl rlF (d,c)).2 T'/\Rt N T' ((l.map edS).foldl rlF (d,c)).1/\Bd (B+l.length * 1000000000) T':=by
  intro l
  induction l with
  | nil=>intro _ t c T d B h1 h2 _ _;exact⟨T,rfl,rfl,h1,by simpa using h2⟩
  | cons y l ih =>
    intro hl t c T d B h1 h2 h3 h4
    have hy:=hl y (List.mem_cons_self ..)
    have hl':∀ y∈l,StOk y N:=λ z hz=>hl z (List.mem_cons_of_mem _ hz)
    rw[List.length_cons] at h4
    have f0:=hy.f0;have f1:=hy.f1;have t0:=hy.t0;have t1:=hy.t1;have l0:=hy.l0;have l1:=hy.l1
    have hf:=h1 y.from_.toNat (by omega)
    have ht:=h1 y.to.toNat (by omega)
    have bf:=h2 y.from_.toNat (by omega)
    have bt:=h2 y.to.toNat (by omega)
    have e1:0+y.from_.toNat * 1+0=y.from_.toNat:=by omega
    have e2:0+y.to.toNat * 1+0=y.to.toNat:=by omega
    have hr:rlF (d,c) (edS y)=cond (decide (T y.from_.toNat+y.length < T y.to.toNat)) (zv4 d y.to.toNat (T y.from_.toNat+y.length),true) (d,c):=by
      unfold rlF edS
      simp only[hf,ht]
      rfl
    have hS:zgm S0 a (y :: l) t c T=cond (decide (T y.from_.toNat+y.length < T y.to.toNat)) (zgm S0 a l t true (ts 40 T y.to.toNat [T y.from_.toNat+y.length])) (zgm S0 a l t c T):=by
      show zoj S0 a y (zgm S0 a l) t c T=_
      generalize zgm S0 a l=S
      unfold zoj
      rw[e1,e2,zf5 (by omega),zf5 (by omega),za6 (by omega) (by omega)]
    have hP:zgn P0 a (y :: l) t c T=cond (decide (T y.from_.toNat+y.length < T y.to.toNat)) (zgn P0 a l t true (ts 40 T y.to.toNat [T y.from_.toNat+y.length])) (zgn P0 a l t c T):=by
      show zok P0 a y (zgn P0 a l) t c T=_
      generalize zgn P0 a l=S
      unfold zok
      rw[e1,e2,zf5 (by omega),zf5 (by omega),za6 (by omega) (by omega),dqT (show 0≤y.from_/\y.from_ < (40:Int) by omega),dqT (show 0≤y.to/\y.to < (40:Int) by omega)]
      cases decide (T y.from_.toNat+y.length < T y.to.toNat) <;> rfl
    show ∃ T',_=zoh S0 a t ((l.map edS).foldl rlF (rlF (d,c) (edS y))).2 T'/\_=zoi P0 a t ((l.map edS).foldl rlF (rlF (d,c) (edS y))).2 T'/\Rt N T' ((l.map edS).foldl rlF (rlF (d,c) (edS y))).1/\_
    rw[hS,hP,hr]
    by_cases hlt:T y.from_.toNat+y.length < T y.to.toNat
    · rw [dqT hlt, dqA, dqA, dqA]
      obtain ⟨T', k1, k2, k3, k4⟩ := ih hl' t true (ts 40 T y.to.toNat [T y.from_.toNat + y.length]) (zv4 d y.to.toNat (T y.from_.toNat + y.length)) (B + 1000000000)
        (λ v hv=>by
          rw[zGm (by omega)]
          unfold zv4
          by_cases h:v=y.to.toNat
          · rw[dqP h,dqP h]
          · rw[dqG h,dqG h];exact h1 v hv)
        (λ v hv=>by
          rw[zGm hv]
          by_cases h:v=y.to.toNat
          · rw[dqP h];omega
          · rw[dqG h];have:=h2 v hv;omega) (by omega) (by omega)
      refine⟨T',k1,k2,k3,?_⟩
      rw[List.length_cons,show B+((l.length+1:Nat):Int) * 1000000000=B+1000000000+(l.length:Int) * 1000000000 by omega]
      exact k4
    · rw [dqF hlt, dqB, dqB, dqB]
      obtain⟨T',k1,k2,k3,k4⟩:=ih hl' t c T d B h1 h2 h3 (by omega)
      refine⟨T',k1,k2,k3,λ v hv=>?_⟩
      have:=k4 v hv
      rw[List.length_cons]
      omega
theorem zuk (a:web) (hn:NetOk a.Net):∀ (m k i:Nat) (T:Tab) (d:zdu) (B:Int),Rt a.Net.Nodes.toNat T d->Bd B T->0≤B->B+m * 400000000000≤100000000000000000->(i:Int)+m=a.Net.Nodes->m < k ->
  zjd a k (i:Int) T=true/\zjc a k (i:Int) T=zpO (We a) m d:=by
 have hn1:=hn.n1;have hn40:=hn.n40;have hlen:=hn.len
 obtain⟨q1,q2⟩:=zuj a (by omega)
 intro m
 induction m with
 | zero =>
  intro k i T d B _ _ _ _ hi hk
  obtain⟨k,rfl⟩:∃ k',k=k'+1:=⟨k - 1,by omega⟩
  constructor
  ·show zjb a (zjd a k) (i : Int) T = true
   unfold zjb
   rw[dqF (show ¬ (i:Int) < a.Net.Nodes by omega),dqB]
  ·show zja a (zjc a k) (i : Int) T = true
   unfold zja
   rw[dqF (show ¬ (i:Int) < a.Net.Nodes by omega),dqB]
 | succ m ih =>
  intro k i T d B h1 h2 h3 h4 hi hk
  obtain⟨k,rfl⟩:∃ k',k=k'+1:=⟨k - 1,by omega⟩
  have hwl:=zNE hn
  obtain⟨T',k1,k2,k3,k4⟩:=zCz a (N:=a.Net.Nodes.toNat) (by omega) (zjc a k) (zjd a k) (Ws a) (λ y hy=>zND hn hy) (i:Int) false T d B h1 h2 h3 (by omega)
  have hB:Bd (B+400000000000) T':=λ v hv=>by have:=k4 v hv;omega
  have hw:w64 ((i:Int)+(1:Int))=((i+1:Nat):Int):=by rw[za6 (by omega) (by omega)];omega
  obtain⟨r1,r2⟩:=ih k (i+1) T' (rnd (We a) d) (B+400000000000) k3 hB (by omega) (by omega) (by omega) (by omega)
  constructor
  ·show zjb a (zjd a k) (i : Int) T = true
   unfold zjb zsi
   rw[dqT (show (i:Int) < a.Net.Nodes by omega),dqA,q1,q2,k2]
   unfold zoi
   rw[hw,r1]
   cases ((Ws a).map edS |>.foldl rlF (d,false)).2 <;> rfl
  ·show zja a (zjc a k) (i : Int) T = cond ((We a).foldl rlF (d, false)).2 (zpO (We a) m (rnd (We a) d)) false
   unfold zja zsh
   rw[dqT (show (i:Int) < a.Net.Nodes by omega),dqA,q2,k1]
   unfold zoh
   rw[hw,r2]
   show cond (!((We a).foldl rlF (d,false)).2) false _=_
   cases ((We a).foldl rlF (d,false)).2 <;> rfl
theorem zCA (a:web) (hn:NetOk a.Net):p88 a=true/\s88 a=zpO (We a) a.Net.Nodes.toNat (zCQ a.Net.Nodes.toNat):=by
 have hn1:=hn.n1;have hn40:=hn.n40
 have:=zuk a hn a.Net.Nodes.toNat Fuel 0 (λ _=>(0:Int)) (zCQ a.Net.Nodes.toNat) 0 (λ v hv=>dqP hv) (λ v hv=>⟨by show -(0:Int)≤(0:Int);omega,Int.le_refl _⟩) (by omega) (by omega) (by omega) (by simp only[Fuel];omega)
 exact this
theorem zCB (a:web) (hn:NetOk a.Net):s88 a=false↔zce (We a):=by
 rw[(zCA a hn).2];exact zEX (zGn hn)
end Go.Proofs
namespace Go.Proofs
open Go Go.Pm
set_option maxRecDepth 100000
set_option linter.unusedVariables false
theorem zk2 (a b:far):zDV a ⟨1,λ _=>b⟩=true/\zc8 a ⟨1,λ _=>b⟩=cond (zDS b a) b a:=by
 unfold zDV zc8 zoo zon
 have key:∀ k,zg1 (⟨1,λ _=>b⟩:Sl far) (k+2) (0:Int) a.length a.uses=true/\zg0 (⟨1,λ _=>b⟩:Sl far) (k+2) (0:Int) a.length a.uses=cond (zDS b a) b a:=by
  intro k
  have hw:w64 ((0:Int)+(1:Int))=(1:Int):=by rw[za6 (by omega) (by omega)];rfl
  have e1:∀ x y,zg0 (⟨1,λ _=>b⟩:Sl far) (k+1) (1:Int) x y=(⟨x,y⟩:far):=λ x y=>by
   show zgY (⟨1,λ _=>b⟩:Sl far) (zg0 (⟨1,λ _=>b⟩:Sl far) k) (1:Int) x y=_
   unfold zgY
   rw[dqF (show ¬ (1:Int) < ((1:Nat):Int) by omega),dqB]
  have e2:∀ x y,zg1 (⟨1,λ _=>b⟩:Sl far) (k+1) (1:Int) x y=true:=λ x y=>by
   show zgZ (⟨1,λ _=>b⟩:Sl far) (zg1 (⟨1,λ _=>b⟩:Sl far) k) (1:Int) x y=_
   unfold zgZ
   rw[dqF (show ¬ (1:Int) < ((1:Nat):Int) by omega),dqB]
  constructor
  ·show zgZ (⟨1, fun _ => b⟩ : Sl far) (zg1 (⟨1, fun _ => b⟩ : Sl far) (k + 1)) (0:Int) a.length a.uses = _
   unfold zgZ zom
   rw[dqT (show (0:Int) < ((1:Nat):Int) by omega),dqA,dqT (show 0≤(0:Int)/\(0:Int) < ((1:Nat):Int) by omega),Bool.true_and,hw,e2,e2]
   cases zDS b (⟨a.length,a.uses⟩:far) <;> rfl
  ·show zgY (⟨1, fun _ => b⟩ : Sl far) (zg0 (⟨1, fun _ => b⟩ : Sl far) (k + 1)) (0:Int) a.length a.uses = _
   unfold zgY zol
   rw[dqT (show (0:Int) < ((1:Nat):Int) by omega),dqA,hw,e1,e1]
 have:=key (Fuel - 2)
 rw[show Fuel - 2+2=Fuel by simp only[Fuel]] at this
 exact this
theorem zCC (a b:far):zDS a b=decide (a.length < b.length∨(a.length=b.length/\a.uses < b.uses)):=by
 unfold zDS
 by_cases h1:a.length < b.length
 ·rw[dqT h1,dqA];exact (dqT (.inl h1)).symm
 ·rw [dqF h1, dqB]
  by_cases h2:a.length=b.length
  ·rw [show (a.length == b.length) = true from beq_iff_eq.2 h2, dqA]
   exact decide_eq_decide.2 ⟨λ h=>.inr ⟨h2,h⟩,λ h=>h.elim (λ h=>absurd h h1) (λ h=>h.2)⟩
  ·rw [show (a.length == b.length) = false from beq_eq_false_iff_ne.2 h2, dqB]
   exact (dqF (λ h=>h.elim h1 (λ h=>h2 h.1))).symm
def Rp (N:Nat) (T:Tab) (d:zdu):Prop:=∀ v,v < N->(T (v * 2),T (v * 2+1))=zN4 (d v)
def nv (x y:Int):Bool:=match (x == (1000000000000:Int)) with | true=>(match (y == (0:Int)) with | true=>true | false=>false) | false=>false
def sm (x y u v:Int):Bool:=match (x == u) with | true=>(match (y == v) with | true=>true | false=>false) | false=>false
theorem zv9 (x y:Int):nv x y=decide ((x,y)=((1000000000000:Int),(0:Int))):=by
 unfold nv
 by_cases h1:x=1000000000000
 ·rw [show (x == (1000000000000:Int)) = true from beq_iff_eq.2 h1]
  by_cases h2:y=0
  ·rw[show (y == (0:Int))=true from beq_iff_eq.2 h2];exact (dqT (by rw[h1,h2])).symm
  ·rw[show (y == (0:Int))=false from beq_eq_false_iff_ne.2 h2];exact (dqF (λ h=>h2 (Prod.mk.inj h).2)).symm
 ·rw [show (x == (1000000000000:Int)) = false from beq_eq_false_iff_ne.2 h1]
  exact (dqF (λ h=>h1 (Prod.mk.inj h).1)).symm
theorem same_eq (x y u v:Int):sm x y u v=decide ((x,y)=(u,v)):=by
 unfold sm
 by_cases h1:x=u
 ·rw [show (x == u) = true from beq_iff_eq.2 h1]
  by_cases h2:y=v
  ·rw[show (y == v)=true from beq_iff_eq.2 h2];exact (dqT (by rw[h1,h2])).symm
  ·rw[show (y == v)=false from beq_eq_false_iff_ne.2 h2];exact (dqF (λ h=>h2 (Prod.mk.inj h).2)).symm
 ·rw [show (x == u) = false from beq_eq_false_iff_ne.2 h1]
  exact (dqF (λ h=>h1 (Prod.mk.inj h).1)).symm
theorem zk3 {E : List Ed} {n s v : Nat} (hE : EdOk E n) (hs : s < n) {d : zdu} (hd : Inv (E.map edM) (fun v => v = s) d) {x : Int} (hx : d v = some x) :
  ∃ L U,zN4 (d v)=(L,U)/\x=L * 1048576+U/\0≤U/\U < 40/\-40000000000≤L/\L≤40000000000:=by
 obtain⟨c,hc⟩:=zGk hE hs hd hx
 have h1:=zv8 hE hc.ch
 have h2:=hc.len
 have h3:=hE.n40
 refine⟨wt c,c.length,?_,hc.x,by omega,by omega,by omega,by omega⟩
 rw[hx,hc.x]
 exact zuf (by omega) (by omega)
end Go.Proofs
namespace Go.Proofs
open Go Go.Pm
set_option maxRecDepth 100000
set_option linter.unusedVariables false
theorem zNF (a : web) {N s : Nat} (E : List Ed) (hE : EdOk E N) (hn : zce E) (hs : s < N) (S2 : Bool → Tab → Tab → Tab) (P2 : Bool → Tab → Tab → Bool) (y : step) (hy : StOk y N) (hm : edS y ∈ E) (S3 : Bool → Tab → Tab → Tab) (P3 : Bool → Tab → Tab → Bool) (c : Bool) (T4 T : Tab) (d : zdu) (h1 : Rp N T d) (hi : Inv (E.map edM) (fun v => v = s) d) :
  ∃ T',zox S2 a y S3 c T4 T=S3 (rlF (d,c) (edM (edS y))).2 T4 T'/\zoy P2 a y P3 c T4 T=P3 (rlF (d,c) (edM (edS y))).2 T4 T'/\Rp N T' (rlF (d,c) (edM (edS y))).1:=by
 have hN:=hE.n40
 have f0:=hy.f0;have f1:=hy.f1;have t0:=hy.t0;have t1:=hy.t1;have l0:=hy.l0;have l1:=hy.l1
 have hu:=h1 y.from_.toNat (by omega)
 have hv:=h1 y.to.toNat (by omega)
 have e1:0+y.from_.toNat * 2+0=y.from_.toNat * 2:=by omega
 have e2:0+y.to.toNat * 2+0=y.to.toNat * 2:=by omega
 have e3:0+y.from_.toNat * 2+1=y.from_.toNat * 2+1:=by omega
 have hin:=zmD (Src:=λ v=>v=s) (zgP hn) (s:=(d,c)) (e:=edM (edS y)) (List.mem_map_of_mem hm) hi
 have hS:zox S2 a y S3 c T4 T=cond (nv (tg 80 T (0+y.from_.toNat * 2+0)) (tg 80 T (0+y.from_.toNat * 2+0+1))) (S3 c T4 T) (cond c (S3 true T4 (ts 80 T (0+y.to.toNat * 2+0) [(zc8 (⟨(tg 80 T (0+y.to.toNat * 2+0)),(tg 80 T (0+y.to.toNat * 2+0+1))⟩:far) (⟨1,λ _=>(⟨(w64 ((tg 80 T (0+y.from_.toNat * 2+0))+y.length)),(w64 ((tg 80 T (0+y.from_.toNat * 2+1))+(1:Int)))⟩:far)⟩:(Sl far))).length,(zc8 (⟨(tg 80 T (0+y.to.toNat * 2+0)),(tg 80 T (0+y.to.toNat * 2+0+1))⟩:far) (⟨1,λ _=>(⟨(w64 ((tg 80 T (0+y.from_.toNat * 2+0))+y.length)),(w64 ((tg 80 T (0+y.from_.toNat * 2+1))+(1:Int)))⟩:far)⟩:(Sl far))).uses])) (S3 (!(sm (zc8 (⟨(tg 80 T (0+y.to.toNat * 2+0)),(tg 80 T (0+y.to.toNat * 2+0+1))⟩:far) (⟨1,λ _=>(⟨(w64 ((tg 80 T (0+y.from_.toNat * 2+0))+y.length)),(w64 ((tg 80 T (0+y.from_.toNat * 2+1))+(1:Int)))⟩:far)⟩:(Sl far))).length (zc8 (⟨(tg 80 T (0+y.to.toNat * 2+0)),(tg 80 T (0+y.to.toNat * 2+0+1))⟩:far) (⟨1,λ _=>(⟨(w64 ((tg 80 T (0+y.from_.toNat * 2+0))+y.length)),(w64 ((tg 80 T (0+y.from_.toNat * 2+1))+(1:Int)))⟩:far)⟩:(Sl far))).uses (tg 80 T (0+y.to.toNat * 2+0)) (tg 80 T (0+y.to.toNat * 2+0+1)))) T4 (ts 80 T (0+y.to.toNat * 2+0) [(zc8 (⟨(tg 80 T (0+y.to.toNat * 2+0)),(tg 80 T (0+y.to.toNat * 2+0+1))⟩:far) (⟨1,λ _=>(⟨(w64 ((tg 80 T (0+y.from_.toNat * 2+0))+y.length)),(w64 ((tg 80 T (0+y.from_.toNat * 2+1))+(1:Int)))⟩:far)⟩:(Sl far))).length,(zc8 (⟨(tg 80 T (0+y.to.toNat * 2+0)),(tg 80 T (0+y.to.toNat * 2+0+1))⟩:far) (⟨1,λ _=>(⟨(w64 ((tg 80 T (0+y.from_.toNat * 2+0))+y.length)),(w64 ((tg 80 T (0+y.from_.toNat * 2+1))+(1:Int)))⟩:far)⟩:(Sl far))).uses]))):=rfl
 have hP:zoy P2 a y P3 c T4 T=(decide (0≤y.from_/\y.from_ < (40:Int)) && cond (nv (tg 80 T (0+y.from_.toNat * 2+0)) (tg 80 T (0+y.from_.toNat * 2+0+1))) (P3 c T4 T) (decide (0≤y.to/\y.to < (40:Int)) && (decide (0≤y.from_/\y.from_ < (40:Int)) && (decide (0≤y.from_/\y.from_ < (40:Int)) && (decide (zDV (⟨(tg 80 T (0+y.to.toNat * 2+0)),(tg 80 T (0+y.to.toNat * 2+0+1))⟩:far) (⟨1,λ _=>(⟨(w64 ((tg 80 T (0+y.from_.toNat * 2+0))+y.length)),(w64 ((tg 80 T (0+y.from_.toNat * 2+1))+(1:Int)))⟩:far)⟩:(Sl far))=true) && cond c (decide (0≤y.to/\y.to < (40:Int)) && P3 true T4 (ts 80 T (0+y.to.toNat * 2+0) [(zc8 (⟨(tg 80 T (0+y.to.toNat * 2+0)),(tg 80 T (0+y.to.toNat * 2+0+1))⟩:far) (⟨1,λ _=>(⟨(w64 ((tg 80 T (0+y.from_.toNat * 2+0))+y.length)),(w64 ((tg 80 T (0+y.from_.toNat * 2+1))+(1:Int)))⟩:far)⟩:(Sl far))).length,(zc8 (⟨(tg 80 T (0+y.to.toNat * 2+0)),(tg 80 T (0+y.to.toNat * 2+0+1))⟩:far) (⟨1,λ _=>(⟨(w64 ((tg 80 T (0+y.from_.toNat * 2+0))+y.length)),(w64 ((tg 80 T (0+y.from_.toNat * 2+1))+(1:Int)))⟩:far)⟩:(Sl far))).uses])) (decide (0≤y.to/\y.to < (40:Int)) && (decide (0≤y.to/\y.to < (40:Int)) && P3 (!(sm (zc8 (⟨(tg 80 T (0+y.to.toNat * 2+0)),(tg 80 T (0+y.to.toNat * 2+0+1))⟩:far) (⟨1,λ _=>(⟨(w64 ((tg 80 T (0+y.from_.toNat * 2+0))+y.length)),(w64 ((tg 80 T (0+y.from_.toNat * 2+1))+(1:Int)))⟩:far)⟩:(Sl far))).length (zc8 (⟨(tg 80 T (0+y.to.toNat * 2+0)),(tg 80 T (0+y.to.toNat * 2+0+1))⟩:far) (⟨1,λ _=>(⟨(w64 ((tg 80 T (0+y.from_.toNat * 2+0))+y.length)),(w64 ((tg 80 T (0+y.from_.toNat * 2+1))+(1:Int)))⟩:far)⟩:(Sl far))).uses (tg 80 T (0+y.to.toNat * 2+0)) (tg 80 T (0+y.to.toNat * 2+0+1)))) T4 (ts 80 T (0+y.to.toNat * 2+0) [(zc8 (⟨(tg 80 T (0+y.to.toNat * 2+0)),(tg 80 T (0+y.to.toNat * 2+0+1))⟩:far) (⟨1,λ _=>(⟨(w64 ((tg 80 T (0+y.from_.toNat * 2+0))+y.length)),(w64 ((tg 80 T (0+y.from_.toNat * 2+1))+(1:Int)))⟩:far)⟩:(Sl far))).length,(zc8 (⟨(tg 80 T (0+y.to.toNat * 2+0)),(tg 80 T (0+y.to.toNat * 2+0+1))⟩:far) (⟨1,λ _=>(⟨(w64 ((tg 80 T (0+y.from_.toNat * 2+0))+y.length)),(w64 ((tg 80 T (0+y.from_.toNat * 2+1))+(1:Int)))⟩:far)⟩:(Sl far))).uses])))))))):=rfl
 rw[hS,hP]
 clear hS hP
 rw[e1,e2,e3,zf5 (k:=y.from_.toNat * 2) (by omega),zf5 (k:=y.from_.toNat * 2+1) (by omega),zf5 (k:=y.to.toNat * 2) (by omega),zf5 (k:=y.to.toNat * 2+1) (by omega)]
 rw[dqT (show 0≤y.from_/\y.from_ < (40:Int) by omega),dqT (show 0≤y.to/\y.to < (40:Int) by omega)]
 simp only[zv9,same_eq]
 cases hdu:d y.from_.toNat with
 | none =>
  rw[hdu] at hu
  have hr:rlF (d,c) (edM (edS y))=(d,c):=by
   unfold rlF edM edS
   simp only[hdu]
  rw[hr,dqT (show (T (y.from_.toNat * 2),T (y.from_.toNat * 2+1))=((1000000000000:Int),(0:Int)) from hu)]
  exact⟨T,rfl,rfl,h1⟩
 | some x =>
  obtain⟨L,U,k1,k2,k3,k4,k5,k6⟩:=zk3 hE hs hi hdu
  rw[hdu] at hu k1
  rw[k1] at hu
  have hL:T (y.from_.toNat * 2)=L:=(Prod.mk.inj hu).1
  have hU:T (y.from_.toNat * 2+1)=U:=(Prod.mk.inj hu).2
  rw[hL,hU,dqF (show ¬ (L,U)=((1000000000000:Int),(0:Int)) from λ h=>by have:=(Prod.mk.inj h).1;omega),za6 (x:=L+y.length) (by omega) (by omega),za6 (x:=U+(1:Int)) (by omega) (by omega)]
  rw[(zk2 _ _).1,(zk2 _ _).2,zCC]
  have hw:x+(edM (edS y)).w=(L+y.length) * 1048576+(U+1):=by
   show x+(y.length * 1048576+1)=_
   omega
  have hr:rlF (d,c) (edM (edS y))=cond (ltO ((L+y.length) * 1048576+(U+1)) (d y.to.toNat)) (zv4 d y.to.toNat ((L+y.length) * 1048576+(U+1)),true) (d,c):=by
   rw[← hw]
   unfold rlF edM edS
   simp only[hdu] <;> rfl
  have hlt:decide ((L+y.length < T (y.to.toNat * 2))∨(L+y.length=T (y.to.toNat * 2)/\U+1 < T (y.to.toNat * 2+1)))=ltO ((L+y.length) * 1048576+(U+1)) (d y.to.toNat):=by
   cases hdv:d y.to.toNat with
   | none =>
    rw[hdv] at hv
    have hv1:T (y.to.toNat * 2)=1000000000000:=(Prod.mk.inj hv).1
    rw[hv1]
    exact dqT (.inl (by omega))
   | some z =>
    obtain⟨L',U',m1,m2,m3,m4,m5,m6⟩:=zk3 hE hs hi hdv
    rw[hdv] at hv m1
    rw[m1] at hv
    rw[(Prod.mk.inj hv).1,(Prod.mk.inj hv).2,m2]
    exact decide_eq_decide.2 (by omega)
  simp only[hlt]
  rw[hr] at hin ⊢
  have hrw:∀ T'',Rp N T d->T''=ts 80 T (y.to.toNat * 2) [T (y.to.toNat * 2),T (y.to.toNat * 2+1)]->Rp N T'' d:=λ T'' h e v hv'=>by
   rw[e,zd0 (by omega),zd0 (by omega),← h v hv']
   by_cases hq:v=y.to.toNat
   ·subst hq
    rw[dqG (by omega),dqP rfl,dqP rfl]
   ·rw[dqG (by omega),dqG (by omega),dqG (by omega),dqG (by omega)]
  cases hlo:ltO ((L+y.length) * 1048576+(U+1)) (d y.to.toNat) with
  | false =>
   refine⟨ts 80 T (y.to.toNat * 2) [T (y.to.toNat * 2),T (y.to.toNat * 2+1)],?_,?_,hrw _ h1 rfl⟩
   ·simp only [dqB, decide_true]
    cases c <;> rfl
   ·simp only [dqB, Bool.true_and, decide_true]
    cases c <;> rfl
  | true =>
   rw[hlo] at hin
   simp only[dqA,dqB,Bool.true_and,decide_true] at hin ⊢
   refine⟨ts 80 T (y.to.toNat * 2) [L+y.length,U+1],?_,?_,?_⟩
   ·cases c
    ·rw [dqF]
     ·rfl
     ·intro h
      rw[← hlt] at hlo
      have:=of_decide_eq_true hlo
      have h1':=(Prod.mk.inj h).1
      have h2':=(Prod.mk.inj h).2
      omega
    ·rfl
   ·cases c
    ·rw [dqF]
     ·rfl
     ·intro h
      rw[← hlt] at hlo
      have:=of_decide_eq_true hlo
      have h1':=(Prod.mk.inj h).1
      have h2':=(Prod.mk.inj h).2
      omega
    ·rfl
   ·intro v hv'
    rw[zd0 (by omega),zd0 (by omega)]
    unfold zv4
    by_cases hq:v=y.to.toNat
    ·subst hq
     rw[dqG (by omega),dqP rfl,dqP rfl,dqP rfl]
     exact (zuf (by omega) (by omega)).symm
    ·rw [dqG (by omega), dqG (by omega), dqG (by omega), dqG (by omega), dqG hq]
     exact h1 v hv'
theorem zNG (a:web){N s:Nat}(E:List Ed) (hE:EdOk E N) (hn:zce E) (hs:s < N) (S2:Bool->Tab->Tab->Tab) (P2:Bool->Tab->Tab->Bool):∀ (l:List step),(∀ y∈l,StOk y N/\edS y∈E)->∀ (c:Bool) (T4 T:Tab) (d:zdu),Rp N T d->Inv (E.map edM) (λ v=>v=s) d ->
  ∃ T',zoz S2 a l c T4 T=S2 (((l.map edS).map edM).foldl rlF (d,c)).2 T4 T'/\zoA P2 a l c T4 T=P2 (((l.map edS).map edM).foldl rlF (d,c)).2 T4 T'/\Rp N T' (((l.map edS).map edM).foldl rlF (d,c)).1:=by
 intro l
 induction l with
 | nil=>intro _ c T4 T d h1 _;exact⟨T,rfl,rfl,h1⟩
 | cons y l ih =>
  intro hl c T4 T d h1 h2
  obtain⟨hy,hm⟩:=hl y (List.mem_cons_self ..)
  obtain⟨T',k1,k2,k3⟩:=zNF a E hE hn hs S2 P2 y hy hm (zoz S2 a l) (zoA P2 a l) c T4 T d h1 h2
  have h3:=zmD (Src:=λ v=>v=s) (zgP hn) (s:=(d,c)) (e:=edM (edS y)) (List.mem_map_of_mem hm) h2
  obtain⟨T'',m1,m2,m3⟩:=ih (λ z hz=>hl z (List.mem_cons_of_mem _ hz)) (rlF (d,c) (edM (edS y))).2 T4 T' (rlF (d,c) (edM (edS y))).1 k3 h3
  exact⟨T'',Eq.trans k1 m1,Eq.trans k2 m2,m3⟩
theorem zEY (a:web) (hnet:NetOk a.Net) (E:List Ed) (hEe:E=(Ws a).map edS){s:Nat}(hE:EdOk E a.Net.Nodes.toNat) (hn:zce E) (hs:s < a.Net.Nodes.toNat):∀ (m k:Nat) (T4 T:Tab) (d:zdu),Rp a.Net.Nodes.toNat T d->Inv (E.map edM) (λ v=>v=s) d->Fix (E.map edM) (rds (E.map edM) m d)->m+1 < k ->
  ∃ T',zgr a k true T4 T=true/\zgq a k true T4 T=T'/\Rp a.Net.Nodes.toNat T' (rds (E.map edM) m d):=by
 have hlen:=hnet.len
 obtain⟨q1,q2⟩:=zuj a (by omega)
 have hst:∀ y∈Ws a,StOk y a.Net.Nodes.toNat/\edS y∈E:=λ y hy=>⟨zND hnet hy,by rw[hEe];exact List.mem_map_of_mem hy⟩
 have one:∀ (k:Nat) (T4 T:Tab) (d:zdu),Rp a.Net.Nodes.toNat T d->Inv (E.map edM) (λ v=>v=s) d ->
   ∃ T',zgq a (k+1) true T4 T=zgq a k ((E.map edM).foldl rlF (d,false)).2 T4 T'/\zgr a (k+1) true T4 T=zgr a k ((E.map edM).foldl rlF (d,false)).2 T4 T'/\Rp a.Net.Nodes.toNat T' (rnd (E.map edM) d):=by
  intro k T4 T d h1 h2
  obtain⟨T',k1,k2,k3⟩:=zNG a E hE hn hs (zgq a k) (zgr a k) (Ws a) hst false T4 T d h1 h2
  rw[← hEe] at k1 k2 k3
  refine⟨T',?_,?_,k3⟩
  ·show zoB a (zgq a k) true T4 T = _
   unfold zoB zsC
   rw[dqA,q2];exact k1
  ·show zoC a (zgr a k) true T4 T = _
   unfold zoC zsD
   rw[dqA,q1,q2,dqT rfl,Bool.true_and];exact k2
 have stop:∀ (k:Nat) (T4 T:Tab),zgq a (k+1) false T4 T=T/\zgr a (k+1) false T4 T=true:=λ k T4 T=>⟨rfl,rfl⟩
 intro m
 induction m with
 | zero =>
  intro k T4 T d h1 h2 h3 hk
  obtain⟨k,rfl⟩:∃ k',k=k'+1+1:=⟨k - 2,by omega⟩
  obtain⟨T',k1,k2,k3⟩:=one (k+1) T4 T d h1 h2
  have h3':Fix (E.map edM) d:=h3
  rw[zk1 h3'] at k1 k2
  rw[zmC h3'] at k3
  obtain⟨j1,j2⟩:=stop k T4 T'
  exact⟨T',k2.trans j2,k1.trans j1,k3⟩
 | succ m ih =>
  intro k T4 T d h1 h2 h3 hk
  obtain⟨k,rfl⟩:∃ k',k=k'+1+1:=⟨k - 2,by omega⟩
  obtain⟨T',k1,k2,k3⟩:=one (k+1) T4 T d h1 h2
  cases hf:((E.map edM).foldl rlF (d,false)).2 with
  | false =>
   rw[hf] at k1 k2
   have hx:Fix (E.map edM) d:=zj9 hf
   obtain⟨j1,j2⟩:=stop k T4 T'
   refine⟨T',k2.trans j2,k1.trans j1,?_⟩
   rw[zmC hx] at k3
   rw[zCs hx];exact k3
  | true =>
   rw[hf] at k1 k2
   obtain⟨T'',m1,m2,m3⟩:=ih (k+1) T4 T' (rnd (E.map edM) d) k3 (zpM (zgP hn) (λ _ h=>h) (s:=(d,false)) h2) h3 (by omega)
   exact⟨T'',k2.trans m1,k1.trans m2,m3⟩
theorem zKG (a:web) (node:Int):∀ (m k i:Nat) (T4 T:Tab),(∀ v,v < i->T (v * 2)=1000000000000/\T (v * 2+1)=0)->i+m=40->m < k ->
  ∃ T',zjo a node k (i:Int) T4 T=zoD a node T4 T'/\zjq a node k (i:Int) T4 T=zoE a node T4 T'/\∀ v,v < 40->T' (v * 2)=1000000000000/\T' (v * 2+1)=0:=by
 intro m
 induction m with
 | zero =>
  intro k i T4 T h hi hk
  obtain⟨k,rfl⟩:∃ k',k=k'+1:=⟨k - 1,by omega⟩
  refine⟨T,?_,?_,λ v hv=>h v (by omega)⟩
  ·show zjm a node (zjo a node k) (i : Int) T4 T = _
   unfold zjm
   rw[dqF (show ¬ (i:Int) < (40:Int) by omega),dqB]
  ·show zjn a node (zjq a node k) (i : Int) T4 T = _
   unfold zjn
   rw[dqF (show ¬ (i:Int) < (40:Int) by omega),dqB]
 | succ m ih =>
  intro k i T4 T h hi hk
  obtain⟨k,rfl⟩:∃ k',k=k'+1:=⟨k - 1,by omega⟩
  have hw:w64 ((i:Int)+(1:Int))=((i+1:Nat):Int):=by rw[za6 (by omega) (by omega)];omega
  obtain⟨T',k1,k2,k3⟩:=ih k (i+1) T4 (ts 80 T (i * 2) [(1000000000000:Int),(0:Int)]) (λ v hv=>by
   rw[zd0 (by omega),zd0 (by omega)]
   by_cases hq:v=i
   ·subst hq
    rw[dqG (by omega),dqP rfl,dqP rfl];exact⟨rfl,rfl⟩
   ·rw[dqG (by omega),dqG (by omega),dqG (by omega),dqG (by omega)];exact h v (by omega)) (by omega) (by omega)
  refine⟨T',?_,?_,k3⟩
  ·rw [← k1]
   show zjm a node (zjo a node k) (i:Int) T4 T=_
   unfold zjm
   rw[dqT (show (i:Int) < (40:Int) by omega),dqA,hw,dqN,show 0+i * 2+0=i * 2 by omega]
  ·rw [← k2]
   show zjn a node (zjq a node k) (i:Int) T4 T=_
   unfold zjn
   rw[dqT (show (i:Int) < (40:Int) by omega),dqA,dqT (show 0≤(i:Int)/\(i:Int) < (40:Int) by omega),Bool.true_and,hw,dqN,show 0+i * 2+0=i * 2 by omega]
theorem zNH (a : web) (hnet : NetOk a.Net) (hn : zce (We a)) (node : Int) (h0 : 0 ≤ node) (h1 : node < a.Net.Nodes) :
  p76 a node=true/\Rp a.Net.Nodes.toNat (s76 a node) (dst (We a) a.Net.Nodes.toNat node.toNat):=by
 have hn40:=hnet.n40
 have hEe:We a=(Ws a).map edS:=rfl
 have hE:EdOk (We a) a.Net.Nodes.toNat:=zGn hnet
 have hN:zce (We a):=hn
 have hs:node.toNat < a.Net.Nodes.toNat:=by omega
 obtain⟨T1,a1,a2,a3⟩:=zKG a node 40 Fuel 0 (λ _=>(0:Int)) (λ _=>(0:Int)) (λ v hv=>absurd hv (Nat.not_lt_zero _)) rfl (by simp only[Fuel];omega)
 have hr:Rp a.Net.Nodes.toNat (ts 80 T1 (node.toNat * 2) [(0:Int),(0:Int)]) (zCu node.toNat):=λ v hv=>by
  rw[zd0 (by omega),zd0 (by omega)]
  unfold zCu
  by_cases hq:v=node.toNat
  ·subst hq
   rw[dqG (by omega),dqP rfl,dqP rfl,dqP rfl];rfl
  ·rw[dqG (by omega),dqG (by omega),dqG (by omega),dqG (by omega),dqG hq,(a3 v (by omega)).1,(a3 v (by omega)).2];rfl
 obtain⟨T2,b1,b2,b3⟩:=zEY a hnet (We a) hEe hE hN hs (a.Net.Nodes.toNat - 1) Fuel (λ _=>(0:Int)) (ts 80 T1 (node.toNat * 2) [(0:Int),(0:Int)]) (zCu node.toNat) hr (ziQ (zhm node.toNat)) (zug hE hN hs) (by simp only[Fuel];omega)
 have e:0+node.toNat * 2+0=node.toNat * 2:=by omega
 constructor
 ·show zjq a node Fuel 0 (fun _ => (0:Int)) (fun _ => (0:Int)) = true
  refine Eq.trans a2 ?_
  unfold zoE zsF
  rw[dqT (show 0≤node/\node < (40:Int) by omega),Bool.true_and,e];exact b1
 ·have:s76 a node=T2:=by
   show zjo a node Fuel 0 (λ _=>(0:Int)) (λ _=>(0:Int))=T2
   refine Eq.trans a1 ?_
   unfold zoD zsE
   rw[e];exact b2
  rw[this];exact b3
end Go.Proofs
namespace Go.Proofs
open Go Go.Pm
set_option maxRecDepth 100000
set_option linter.unusedVariables false
def edQ (y:step):Ed:=⟨y.to.toNat,y.from_.toNat,y.length⟩
theorem zKH (l:List step):l.map edQ=(l.map edS).map edR:=by rw[List.map_map];rfl

theorem zNI (a : web) {N s : Nat} (E : List Ed) (hE : EdOk E N) (hn : zce E) (hs : s < N) (S2 : Bool → Tab → Tab → Tab) (P2 : Bool → Tab → Tab → Bool) (y : step) (hy : StOk y N) (hm : edQ y ∈ E) (S3 : Bool → Tab → Tab → Tab) (P3 : Bool → Tab → Tab → Bool) (c : Bool) (T4 T : Tab) (d : zdu) (h1 : Rp N T d) (hi : Inv (E.map edM) (fun v => v = s) d) :
  ∃ T',zop S2 a y S3 c T4 T=S3 (rlF (d,c) (edM (edQ y))).2 T4 T'/\zoq P2 a y P3 c T4 T=P3 (rlF (d,c) (edM (edQ y))).2 T4 T'/\Rp N T' (rlF (d,c) (edM (edQ y))).1:=by
 have hN:=hE.n40
 have f0:=hy.f0;have f1:=hy.f1;have t0:=hy.t0;have t1:=hy.t1;have l0:=hy.l0;have l1:=hy.l1
 have hu:=h1 y.to.toNat (by omega)
 have hv:=h1 y.from_.toNat (by omega)
 have e1:0+y.to.toNat * 2+0=y.to.toNat * 2:=by omega
 have e2:0+y.from_.toNat * 2+0=y.from_.toNat * 2:=by omega
 have e3:0+y.to.toNat * 2+1=y.to.toNat * 2+1:=by omega
 have hin:=zmD (Src:=λ v=>v=s) (zgP hn) (s:=(d,c)) (e:=edM (edQ y)) (List.mem_map_of_mem hm) hi
 have hS:zop S2 a y S3 c T4 T=cond (nv (tg 80 T (0+y.to.toNat * 2+0)) (tg 80 T (0+y.to.toNat * 2+0+1))) (S3 c T4 T) (cond c (S3 true T4 (ts 80 T (0+y.from_.toNat * 2+0) [(zc8 (⟨(tg 80 T (0+y.from_.toNat * 2+0)),(tg 80 T (0+y.from_.toNat * 2+0+1))⟩:far) (⟨1,λ _=>(⟨(w64 ((tg 80 T (0+y.to.toNat * 2+0))+y.length)),(w64 ((tg 80 T (0+y.to.toNat * 2+1))+(1:Int)))⟩:far)⟩:(Sl far))).length,(zc8 (⟨(tg 80 T (0+y.from_.toNat * 2+0)),(tg 80 T (0+y.from_.toNat * 2+0+1))⟩:far) (⟨1,λ _=>(⟨(w64 ((tg 80 T (0+y.to.toNat * 2+0))+y.length)),(w64 ((tg 80 T (0+y.to.toNat * 2+1))+(1:Int)))⟩:far)⟩:(Sl far))).uses])) (S3 (!(sm (zc8 (⟨(tg 80 T (0+y.from_.toNat * 2+0)),(tg 80 T (0+y.from_.toNat * 2+0+1))⟩:far) (⟨1,λ _=>(⟨(w64 ((tg 80 T (0+y.to.toNat * 2+0))+y.length)),(w64 ((tg 80 T (0+y.to.toNat * 2+1))+(1:Int)))⟩:far)⟩:(Sl far))).length (zc8 (⟨(tg 80 T (0+y.from_.toNat * 2+0)),(tg 80 T (0+y.from_.toNat * 2+0+1))⟩:far) (⟨1,λ _=>(⟨(w64 ((tg 80 T (0+y.to.toNat * 2+0))+y.length)),(w64 ((tg 80 T (0+y.to.toNat * 2+1))+(1:Int)))⟩:far)⟩:(Sl far))).uses (tg 80 T (0+y.from_.toNat * 2+0)) (tg 80 T (0+y.from_.toNat * 2+0+1)))) T4 (ts 80 T (0+y.from_.toNat * 2+0) [(zc8 (⟨(tg 80 T (0+y.from_.toNat * 2+0)),(tg 80 T (0+y.from_.toNat * 2+0+1))⟩:far) (⟨1,λ _=>(⟨(w64 ((tg 80 T (0+y.to.toNat * 2+0))+y.length)),(w64 ((tg 80 T (0+y.to.toNat * 2+1))+(1:Int)))⟩:far)⟩:(Sl far))).length,(zc8 (⟨(tg 80 T (0+y.from_.toNat * 2+0)),(tg 80 T (0+y.from_.toNat * 2+0+1))⟩:far) (⟨1,λ _=>(⟨(w64 ((tg 80 T (0+y.to.toNat * 2+0))+y.length)),(w64 ((tg 80 T (0+y.to.toNat * 2+1))+(1:Int)))⟩:far)⟩:(Sl far))).uses]))):=rfl
 have hP:zoq P2 a y P3 c T4 T=(decide (0≤y.to/\y.to < (40:Int)) && cond (nv (tg 80 T (0+y.to.toNat * 2+0)) (tg 80 T (0+y.to.toNat * 2+0+1))) (P3 c T4 T) (decide (0≤y.from_/\y.from_ < (40:Int)) && (decide (0≤y.to/\y.to < (40:Int)) && (decide (0≤y.to/\y.to < (40:Int)) && (decide (zDV (⟨(tg 80 T (0+y.from_.toNat * 2+0)),(tg 80 T (0+y.from_.toNat * 2+0+1))⟩:far) (⟨1,λ _=>(⟨(w64 ((tg 80 T (0+y.to.toNat * 2+0))+y.length)),(w64 ((tg 80 T (0+y.to.toNat * 2+1))+(1:Int)))⟩:far)⟩:(Sl far))=true) && cond c (decide (0≤y.from_/\y.from_ < (40:Int)) && P3 true T4 (ts 80 T (0+y.from_.toNat * 2+0) [(zc8 (⟨(tg 80 T (0+y.from_.toNat * 2+0)),(tg 80 T (0+y.from_.toNat * 2+0+1))⟩:far) (⟨1,λ _=>(⟨(w64 ((tg 80 T (0+y.to.toNat * 2+0))+y.length)),(w64 ((tg 80 T (0+y.to.toNat * 2+1))+(1:Int)))⟩:far)⟩:(Sl far))).length,(zc8 (⟨(tg 80 T (0+y.from_.toNat * 2+0)),(tg 80 T (0+y.from_.toNat * 2+0+1))⟩:far) (⟨1,λ _=>(⟨(w64 ((tg 80 T (0+y.to.toNat * 2+0))+y.length)),(w64 ((tg 80 T (0+y.to.toNat * 2+1))+(1:Int)))⟩:far)⟩:(Sl far))).uses])) (decide (0≤y.from_/\y.from_ < (40:Int)) && (decide (0≤y.from_/\y.from_ < (40:Int)) && P3 (!(sm (zc8 (⟨(tg 80 T (0+y.from_.toNat * 2+0)),(tg 80 T (0+y.from_.toNat * 2+0+1))⟩:far) (⟨1,λ _=>(⟨(w64 ((tg 80 T (0+y.to.toNat * 2+0))+y.length)),(w64 ((tg 80 T (0+y.to.toNat * 2+1))+(1:Int)))⟩:far)⟩:(Sl far))).length (zc8 (⟨(tg 80 T (0+y.from_.toNat * 2+0)),(tg 80 T (0+y.from_.toNat * 2+0+1))⟩:far) (⟨1,λ _=>(⟨(w64 ((tg 80 T (0+y.to.toNat * 2+0))+y.length)),(w64 ((tg 80 T (0+y.to.toNat * 2+1))+(1:Int)))⟩:far)⟩:(Sl far))).uses (tg 80 T (0+y.from_.toNat * 2+0)) (tg 80 T (0+y.from_.toNat * 2+0+1)))) T4 (ts 80 T (0+y.from_.toNat * 2+0) [(zc8 (⟨(tg 80 T (0+y.from_.toNat * 2+0)),(tg 80 T (0+y.from_.toNat * 2+0+1))⟩:far) (⟨1,λ _=>(⟨(w64 ((tg 80 T (0+y.to.toNat * 2+0))+y.length)),(w64 ((tg 80 T (0+y.to.toNat * 2+1))+(1:Int)))⟩:far)⟩:(Sl far))).length,(zc8 (⟨(tg 80 T (0+y.from_.toNat * 2+0)),(tg 80 T (0+y.from_.toNat * 2+0+1))⟩:far) (⟨1,λ _=>(⟨(w64 ((tg 80 T (0+y.to.toNat * 2+0))+y.length)),(w64 ((tg 80 T (0+y.to.toNat * 2+1))+(1:Int)))⟩:far)⟩:(Sl far))).uses])))))))):=rfl
 rw[hS,hP]
 clear hS hP
 rw[e1,e2,e3,zf5 (k:=y.to.toNat * 2) (by omega),zf5 (k:=y.to.toNat * 2+1) (by omega),zf5 (k:=y.from_.toNat * 2) (by omega),zf5 (k:=y.from_.toNat * 2+1) (by omega)]
 rw[dqT (show 0≤y.to/\y.to < (40:Int) by omega),dqT (show 0≤y.from_/\y.from_ < (40:Int) by omega)]
 simp only[zv9,same_eq]
 cases hdu:d y.to.toNat with
 | none =>
  rw[hdu] at hu
  have hr:rlF (d,c) (edM (edQ y))=(d,c):=by
   unfold rlF edM edQ
   simp only[hdu]
  rw[hr,dqT (show (T (y.to.toNat * 2),T (y.to.toNat * 2+1))=((1000000000000:Int),(0:Int)) from hu)]
  exact⟨T,rfl,rfl,h1⟩
 | some x =>
  obtain⟨L,U,k1,k2,k3,k4,k5,k6⟩:=zk3 hE hs hi hdu
  rw[hdu] at hu k1
  rw[k1] at hu
  have hL:T (y.to.toNat * 2)=L:=(Prod.mk.inj hu).1
  have hU:T (y.to.toNat * 2+1)=U:=(Prod.mk.inj hu).2
  rw[hL,hU,dqF (show ¬ (L,U)=((1000000000000:Int),(0:Int)) from λ h=>by have:=(Prod.mk.inj h).1;omega),za6 (x:=L+y.length) (by omega) (by omega),za6 (x:=U+(1:Int)) (by omega) (by omega)]
  rw[(zk2 _ _).1,(zk2 _ _).2,zCC]
  have hw:x+(edM (edQ y)).w=(L+y.length) * 1048576+(U+1):=by
   show x+(y.length * 1048576+1)=_
   omega
  have hr:rlF (d,c) (edM (edQ y))=cond (ltO ((L+y.length) * 1048576+(U+1)) (d y.from_.toNat)) (zv4 d y.from_.toNat ((L+y.length) * 1048576+(U+1)),true) (d,c):=by
   rw[← hw]
   unfold rlF edM edQ
   simp only[hdu] <;> rfl
  have hlt:decide ((L+y.length < T (y.from_.toNat * 2))∨(L+y.length=T (y.from_.toNat * 2)/\U+1 < T (y.from_.toNat * 2+1)))=ltO ((L+y.length) * 1048576+(U+1)) (d y.from_.toNat):=by
   cases hdv:d y.from_.toNat with
   | none =>
    rw[hdv] at hv
    have hv1:T (y.from_.toNat * 2)=1000000000000:=(Prod.mk.inj hv).1
    rw[hv1]
    exact dqT (.inl (by omega))
   | some z =>
    obtain⟨L',U',m1,m2,m3,m4,m5,m6⟩:=zk3 hE hs hi hdv
    rw[hdv] at hv m1
    rw[m1] at hv
    rw[(Prod.mk.inj hv).1,(Prod.mk.inj hv).2,m2]
    exact decide_eq_decide.2 (by omega)
  simp only[hlt]
  rw[hr] at hin ⊢
  have hrw:∀ T'',Rp N T d->T''=ts 80 T (y.from_.toNat * 2) [T (y.from_.toNat * 2),T (y.from_.toNat * 2+1)]->Rp N T'' d:=λ T'' h e v hv'=>by
   rw[e,zd0 (by omega),zd0 (by omega),← h v hv']
   by_cases hq:v=y.from_.toNat
   ·subst hq
    rw[dqG (by omega),dqP rfl,dqP rfl]
   ·rw[dqG (by omega),dqG (by omega),dqG (by omega),dqG (by omega)]
  cases hlo:ltO ((L+y.length) * 1048576+(U+1)) (d y.from_.toNat) with
  | false =>
   refine⟨ts 80 T (y.from_.toNat * 2) [T (y.from_.toNat * 2),T (y.from_.toNat * 2+1)],?_,?_,hrw _ h1 rfl⟩
   ·simp only [dqB, decide_true]
    cases c <;> rfl
   ·simp only [dqB, Bool.true_and, decide_true]
    cases c <;> rfl
  | true =>
   rw[hlo] at hin
   simp only[dqA,dqB,Bool.true_and,decide_true] at hin ⊢
   refine⟨ts 80 T (y.from_.toNat * 2) [L+y.length,U+1],?_,?_,?_⟩
   ·cases c
    ·rw [dqF]
     ·rfl
     ·intro h
      rw[← hlt] at hlo
      have:=of_decide_eq_true hlo
      have h1':=(Prod.mk.inj h).1
      have h2':=(Prod.mk.inj h).2
      omega
    ·rfl
   ·cases c
    ·rw [dqF]
     ·rfl
     ·intro h
      rw[← hlt] at hlo
      have:=of_decide_eq_true hlo
      have h1':=(Prod.mk.inj h).1
      have h2':=(Prod.mk.inj h).2
      omega
    ·rfl
   ·intro v hv'
    rw[zd0 (by omega),zd0 (by omega)]
    unfold zv4
    by_cases hq:v=y.from_.toNat
    ·subst hq
     rw[dqG (by omega),dqP rfl,dqP rfl,dqP rfl]
     exact (zuf (by omega) (by omega)).symm
    ·rw [dqG (by omega), dqG (by omega), dqG (by omega), dqG (by omega), dqG hq]
     exact h1 v hv'
theorem zNJ (a:web){N s:Nat}(E:List Ed) (hE:EdOk E N) (hn:zce E) (hs:s < N) (S2:Bool->Tab->Tab->Tab) (P2:Bool->Tab->Tab->Bool):∀ (l:List step),(∀ y∈l,StOk y N/\edQ y∈E)->∀ (c:Bool) (T4 T:Tab) (d:zdu),Rp N T d->Inv (E.map edM) (λ v=>v=s) d ->
  ∃ T',zor S2 a l c T4 T=S2 (((l.map edQ).map edM).foldl rlF (d,c)).2 T4 T'/\zos P2 a l c T4 T=P2 (((l.map edQ).map edM).foldl rlF (d,c)).2 T4 T'/\Rp N T' (((l.map edQ).map edM).foldl rlF (d,c)).1:=by
 intro l
 induction l with
 | nil=>intro _ c T4 T d h1 _;exact⟨T,rfl,rfl,h1⟩
 | cons y l ih =>
  intro hl c T4 T d h1 h2
  obtain⟨hy,hm⟩:=hl y (List.mem_cons_self ..)
  obtain⟨T',k1,k2,k3⟩:=zNI a E hE hn hs S2 P2 y hy hm (zor S2 a l) (zos P2 a l) c T4 T d h1 h2
  have h3:=zmD (Src:=λ v=>v=s) (zgP hn) (s:=(d,c)) (e:=edM (edQ y)) (List.mem_map_of_mem hm) h2
  obtain⟨T'',m1,m2,m3⟩:=ih (λ z hz=>hl z (List.mem_cons_of_mem _ hz)) (rlF (d,c) (edM (edQ y))).2 T4 T' (rlF (d,c) (edM (edQ y))).1 k3 h3
  exact⟨T'',Eq.trans k1 m1,Eq.trans k2 m2,m3⟩
theorem zEZ (a:web) (hnet:NetOk a.Net) (E:List Ed) (hEe:E=(Ws a).map edQ){s:Nat}(hE:EdOk E a.Net.Nodes.toNat) (hn:zce E) (hs:s < a.Net.Nodes.toNat):∀ (m k:Nat) (T4 T:Tab) (d:zdu),Rp a.Net.Nodes.toNat T d->Inv (E.map edM) (λ v=>v=s) d->Fix (E.map edM) (rds (E.map edM) m d)->m+1 < k ->
  ∃ T',zgp a k true T4 T=true/\zgo a k true T4 T=T'/\Rp a.Net.Nodes.toNat T' (rds (E.map edM) m d):=by
 have hlen:=hnet.len
 obtain⟨q1,q2⟩:=zuj a (by omega)
 have hst:∀ y∈Ws a,StOk y a.Net.Nodes.toNat/\edQ y∈E:=λ y hy=>⟨zND hnet hy,by rw[hEe];exact List.mem_map_of_mem hy⟩
 have one:∀ (k:Nat) (T4 T:Tab) (d:zdu),Rp a.Net.Nodes.toNat T d->Inv (E.map edM) (λ v=>v=s) d ->
   ∃ T',zgo a (k+1) true T4 T=zgo a k ((E.map edM).foldl rlF (d,false)).2 T4 T'/\zgp a (k+1) true T4 T=zgp a k ((E.map edM).foldl rlF (d,false)).2 T4 T'/\Rp a.Net.Nodes.toNat T' (rnd (E.map edM) d):=by
  intro k T4 T d h1 h2
  obtain⟨T',k1,k2,k3⟩:=zNJ a E hE hn hs (zgo a k) (zgp a k) (Ws a) hst false T4 T d h1 h2
  rw[← hEe] at k1 k2 k3
  refine⟨T',?_,?_,k3⟩
  ·show zot a (zgo a k) true T4 T = _
   unfold zot zsy
   rw[dqA,q2];exact k1
  ·show zou a (zgp a k) true T4 T = _
   unfold zou zsz
   rw[dqA,q1,q2,dqT rfl,Bool.true_and];exact k2
 have stop:∀ (k:Nat) (T4 T:Tab),zgo a (k+1) false T4 T=T/\zgp a (k+1) false T4 T=true:=λ k T4 T=>⟨rfl,rfl⟩
 intro m
 induction m with
 | zero =>
  intro k T4 T d h1 h2 h3 hk
  obtain⟨k,rfl⟩:∃ k',k=k'+1+1:=⟨k - 2,by omega⟩
  obtain⟨T',k1,k2,k3⟩:=one (k+1) T4 T d h1 h2
  have h3':Fix (E.map edM) d:=h3
  rw[zk1 h3'] at k1 k2
  rw[zmC h3'] at k3
  obtain⟨j1,j2⟩:=stop k T4 T'
  exact⟨T',k2.trans j2,k1.trans j1,k3⟩
 | succ m ih =>
  intro k T4 T d h1 h2 h3 hk
  obtain⟨k,rfl⟩:∃ k',k=k'+1+1:=⟨k - 2,by omega⟩
  obtain⟨T',k1,k2,k3⟩:=one (k+1) T4 T d h1 h2
  cases hf:((E.map edM).foldl rlF (d,false)).2 with
  | false =>
   rw[hf] at k1 k2
   have hx:Fix (E.map edM) d:=zj9 hf
   obtain⟨j1,j2⟩:=stop k T4 T'
   refine⟨T',k2.trans j2,k1.trans j1,?_⟩
   rw[zmC hx] at k3
   rw[zCs hx];exact k3
  | true =>
   rw[hf] at k1 k2
   obtain⟨T'',m1,m2,m3⟩:=ih (k+1) T4 T' (rnd (E.map edM) d) k3 (zpM (zgP hn) (λ _ h=>h) (s:=(d,false)) h2) h3 (by omega)
   exact⟨T'',k2.trans m1,k1.trans m2,m3⟩
theorem zKI (a:web) (node:Int):∀ (m k i:Nat) (T4 T:Tab),(∀ v,v < i->T (v * 2)=1000000000000/\T (v * 2+1)=0)->i+m=40->m < k ->
  ∃ T',zjk a node k (i:Int) T4 T=zov a node T4 T'/\zjl a node k (i:Int) T4 T=zow a node T4 T'/\∀ v,v < 40->T' (v * 2)=1000000000000/\T' (v * 2+1)=0:=by
 intro m
 induction m with
 | zero =>
  intro k i T4 T h hi hk
  obtain⟨k,rfl⟩:∃ k',k=k'+1:=⟨k - 1,by omega⟩
  refine⟨T,?_,?_,λ v hv=>h v (by omega)⟩
  ·show zji a node (zjk a node k) (i : Int) T4 T = _
   unfold zji
   rw[dqF (show ¬ (i:Int) < (40:Int) by omega),dqB]
  ·show zjj a node (zjl a node k) (i : Int) T4 T = _
   unfold zjj
   rw[dqF (show ¬ (i:Int) < (40:Int) by omega),dqB]
 | succ m ih =>
  intro k i T4 T h hi hk
  obtain⟨k,rfl⟩:∃ k',k=k'+1:=⟨k - 1,by omega⟩
  have hw:w64 ((i:Int)+(1:Int))=((i+1:Nat):Int):=by rw[za6 (by omega) (by omega)];omega
  obtain⟨T',k1,k2,k3⟩:=ih k (i+1) T4 (ts 80 T (i * 2) [(1000000000000:Int),(0:Int)]) (λ v hv=>by
   rw[zd0 (by omega),zd0 (by omega)]
   by_cases hq:v=i
   ·subst hq
    rw[dqG (by omega),dqP rfl,dqP rfl];exact⟨rfl,rfl⟩
   ·rw[dqG (by omega),dqG (by omega),dqG (by omega),dqG (by omega)];exact h v (by omega)) (by omega) (by omega)
  refine⟨T',?_,?_,k3⟩
  ·rw [← k1]
   show zji a node (zjk a node k) (i:Int) T4 T=_
   unfold zji
   rw[dqT (show (i:Int) < (40:Int) by omega),dqA,hw,dqN,show 0+i * 2+0=i * 2 by omega]
  ·rw [← k2]
   show zjj a node (zjl a node k) (i:Int) T4 T=_
   unfold zjj
   rw[dqT (show (i:Int) < (40:Int) by omega),dqA,dqT (show 0≤(i:Int)/\(i:Int) < (40:Int) by omega),Bool.true_and,hw,dqN,show 0+i * 2+0=i * 2 by omega]
theorem zNK (a : web) (hnet : NetOk a.Net) (hn : zce (We a)) (node : Int) (h0 : 0 ≤ node) (h1 : node < a.Net.Nodes) :
  p75 a node=true/\Rp a.Net.Nodes.toNat (s75 a node) (dst ((We a).map edR) a.Net.Nodes.toNat node.toNat):=by
 have hn40:=hnet.n40
 have hEe:((We a).map edR)=(Ws a).map edQ:=(zKH (Ws a)).symm
 have hE:EdOk ((We a).map edR) a.Net.Nodes.toNat:=(zGn hnet).R
 have hN:zce ((We a).map edR):=zpN hn
 have hs:node.toNat < a.Net.Nodes.toNat:=by omega
 obtain⟨T1,a1,a2,a3⟩:=zKI a node 40 Fuel 0 (λ _=>(0:Int)) (λ _=>(0:Int)) (λ v hv=>absurd hv (Nat.not_lt_zero _)) rfl (by simp only[Fuel];omega)
 have hr:Rp a.Net.Nodes.toNat (ts 80 T1 (node.toNat * 2) [(0:Int),(0:Int)]) (zCu node.toNat):=λ v hv=>by
  rw[zd0 (by omega),zd0 (by omega)]
  unfold zCu
  by_cases hq:v=node.toNat
  ·subst hq
   rw[dqG (by omega),dqP rfl,dqP rfl,dqP rfl];rfl
  ·rw[dqG (by omega),dqG (by omega),dqG (by omega),dqG (by omega),dqG hq,(a3 v (by omega)).1,(a3 v (by omega)).2];rfl
 obtain⟨T2,b1,b2,b3⟩:=zEZ a hnet ((We a).map edR) hEe hE hN hs (a.Net.Nodes.toNat - 1) Fuel (λ _=>(0:Int)) (ts 80 T1 (node.toNat * 2) [(0:Int),(0:Int)]) (zCu node.toNat) hr (ziQ (zhm node.toNat)) (zug hE hN hs) (by simp only[Fuel];omega)
 have e:0+node.toNat * 2+0=node.toNat * 2:=by omega
 constructor
 ·show zjl a node Fuel 0 (fun _ => (0:Int)) (fun _ => (0:Int)) = true
  refine Eq.trans a2 ?_
  unfold zow zsB
  rw[dqT (show 0≤node/\node < (40:Int) by omega),Bool.true_and,e];exact b1
 ·have:s75 a node=T2:=by
   show zjk a node Fuel 0 (λ _=>(0:Int)) (λ _=>(0:Int))=T2
   refine Eq.trans a1 ?_
   unfold zov zsA
   rw[e];exact b2
  rw[this];exact b3
end Go.Proofs
namespace Go.Proofs
open Go Go.Pm
set_option maxRecDepth 100000
set_option linter.unusedVariables false
attribute [local irreducible] Go.Pm.vcFun Go.Pm.vc Go.Pm.vcIter
section
variable {K:List PA->Prop}{n:Net}{zah:Int}{to:Int}
end
end Go.Proofs
namespace Go.Proofs
open Go Go.Pm
set_option maxRecDepth 100000
set_option linter.unusedVariables false
def W (n:Net):web:=⟨n,⟨0,λ _=>none⟩⟩
abbrev En (n:Net):List Ed:=We (W n)
def fr (n:Net) (i j:Nat):Int:=zGl (dst (En n) n.Nodes.toNat i j)
theorem zNL {E:List Ed}{n s v:Nat}(hE:EdOk E n) (hn:zce E) (hs:s < n) (hv:v < n):zGl (dst (E.map edR) n s v)=zGl (dst E n v s):=by
 refine Int.le_antisymm ?_ ?_
 ·rcases zdv (v := s) hE hn hv with ⟨_, h⟩ | ⟨c, _, h1, h2, _⟩
  ·rw [h]
   rcases zdv (v:=v) hE.R (zpN hn) hs with ⟨_,h⟩ | ⟨c,_,_,h2,_,_,_⟩ <;> omega
  ·rw[h2,← zQf c];exact zuh hE.R (zpN hn) hs (zQg h1)
 ·rcases zdv (v := v) hE.R (zpN hn) hs with ⟨_, h⟩ | ⟨c, _, h1, h2, _⟩
  ·rw [h]
   rcases zdv (v:=s) hE hn hv with ⟨_,h⟩ | ⟨c,_,_,h2,_,_,_⟩ <;> omega
  ·obtain ⟨c0, k1, k2, _⟩ := zNC h1
   rw[h2,← k2];exact zuh hE hn hv k1
theorem zpR {n:Net}(hn:NetOk n) (hN:zce (En n)) {i j:Nat}(hi:i < n.Nodes.toNat) : -1000000000000≤fr n i j/\fr n i j≤1000000000000:=by
 have hE:EdOk (En n) n.Nodes.toNat:=zGn (a:=W n) hn
 unfold fr
 rcases zdv (v:=j) hE hN hi with ⟨_,h⟩ | ⟨c,_,_,h2,_,h3,h4⟩
 ·rw[h];omega
 ·rw[h2];omega
theorem zE0 (n:Net) (nodes:Sl Int) (hl:nodes.len≤1000) (ht:n.Ties.len≤210):p74 n nodes=true /\
    (s67 n=false->s74 n nodes=(default,2)) /\
    (NetOk n->(¬ ∀ i,i < nodes.len->0≤nodes.get i/\nodes.get i < n.Nodes)->s74 n nodes=(default,2)) /\
    (NetOk n->(∀ i,i < nodes.len->0≤nodes.get i/\nodes.get i < n.Nodes)->¬ zce (En n)->s74 n nodes=(default,5)) /\
    (NetOk n->(∀ i,i < nodes.len->0≤nodes.get i/\nodes.get i < n.Nodes)->zce (En n)->s74 n nodes=(W n,0)):=by
  obtain⟨a1,a2⟩:=zj8 n (by omega)
  unfold p74 s74
  rw[a1,dqT (show true=true from rfl),Bool.true_and]
  by_cases hs:s67 n=true
  · have hn := a2.1 hs
    have hn1:=hn.n1;have hn40:=hn.n40
    obtain⟨t1,_⟩:=zCA (W n) hn
    rw[hs]
    have hg:∀ i,i < nodes.len->(s81 (nodes.get i) (0:Int) (w64 (n.Nodes - (1:Int)))=true↔0≤nodes.get i/\nodes.get i < n.Nodes):=λ i _=>by
      rw[ziO,decide_eq_true_eq,za6 (by omega) (by omega)];omega
    have hloop := zgN (good := fun i => s81 (nodes.get i) (0:Int) (w64 (n.Nodes - (1:Int)))) (bad := ((default : web), (2:Int))) (fin := zsm n (s88 (W n))) (finP := true) (n := nodes.len) (lpS := zjg n nodes) (lpP := zjh n nodes)
      (λ k i hi=>by
        show zje n nodes (zjg n nodes k) (i:Int)=_
        generalize zjg n nodes k=S
        unfold zje zsn
        rw[dqT (show (i:Int) < (nodes.len:Int) by omega),dqA,dqN]
        cases s81 (nodes.get i) (0:Int) (w64 (n.Nodes - (1:Int))) <;> rfl)
      (λ k=>by
        show zje n nodes (zjg n nodes k) (nodes.len:Int)=_
        unfold zje
        rw[dqF (show ¬ (nodes.len:Int) < (nodes.len:Int) by omega),dqB];rfl)
      (λ k i hi=>by
        show zjf n nodes (zjh n nodes k) (i:Int)=_
        generalize zjh n nodes k=S
        unfold zjf zso
        rw[dqT (show (i:Int) < (nodes.len:Int) by omega),dqA,dqN,dqT (show 0≤(i:Int)/\(i:Int) < (nodes.len:Int) by omega),Bool.true_and]
        cases s81 (nodes.get i) (0:Int) (w64 (n.Nodes - (1:Int))) <;> rfl)
      (λ k=>by
        show zjf n nodes (zjh n nodes k) (nodes.len:Int)=_
        unfold zjf
        rw[dqF (show ¬ (nodes.len:Int) < (nodes.len:Int) by omega),dqB,show p88 (⟨n,(⟨0,(λ _=>none)⟩:Mp)⟩:web)=true from t1];rfl)
      (by omega)
    unfold zsu zst zss zsr zsq zsp
    by_cases hr:∀ i,i < nodes.len->0≤nodes.get i/\nodes.get i < n.Nodes
    · obtain ⟨l1, l2⟩ := hloop.1 (fun i hi => (hg i hi).2 (hr i hi))
      rw[l1,l2]
      refine⟨rfl,λ h=>(by cases h),λ _ h=>absurd hr h,λ _ _ h=>?_,λ _ _ h=>?_⟩
      · have:s88 (W n)=true:=by
          cases ht:s88 (W n)
          · exact absurd ((zCB (W n) hn).1 ht) h
          · rfl
        rw[this];rfl
      · rw[(zCB (W n) hn).2 h];rfl
    · obtain ⟨l1, l2⟩ := hloop.2 (fun h => hr fun i hi => (hg i hi).1 (h i hi))
      rw[l1,l2]
      exact⟨rfl,λ h=>(by cases h),λ _ _=>rfl,λ _ h=>absurd h hr,λ _ h=>absurd h hr⟩
  · rw [Bool.eq_false_iff.2 hs]
    have hno:NetOk n->False:=λ h=>hs (a2.2 h)
    exact⟨rfl,λ _=>rfl,λ h=>(hno h).elim,λ h=>(hno h).elim,λ h=>(hno h).elim⟩
theorem zPs {n:Net}(hn:NetOk n) (hN:zce (En n)) {i:Int}(h0:0≤i) (h1:i < n.Nodes){j:Nat}(hj:j < n.Nodes.toNat):p75 (W n) i=true/\s75 (W n) i (j * 2)=fr n j i.toNat:=by
 have h40:=hn.n40
 obtain⟨a,b⟩:=zNK (W n) hn hN i h0 h1
 refine⟨a,?_⟩
 have:=(Prod.mk.inj (b j hj)).1
 rw[this]
 exact zNL (zGn (a:=W n) hn) hN (show i.toNat < n.Nodes.toNat by omega) hj
theorem zKJ {n:Net}(hn:NetOk n) (hN:zce (En n)) {i:Int}(h0:0≤i) (h1:i < n.Nodes){j:Nat}(hj:j < n.Nodes.toNat):p76 (W n) i=true/\s76 (W n) i (j * 2)=fr n i.toNat j:=by
 obtain⟨a,b⟩:=zNH (W n) hn hN i h0 h1
 exact⟨a,(Prod.mk.inj (b j hj)).1⟩
theorem zul {α:Type}(i:Nat) (v:α) (g:Nat->α) (j:Nat):setT i v g j=if j=i then v else g j:=by
 show (match Nat.beq j i with | true=>v | false=>g j)=_
 by_cases h:j=i
 ·rw[dqP h,show Nat.beq j i=true from by rw[h];exact Nat.beq_refl _]
 ·rw[dqG h,show Nat.beq j i=false from Bool.eq_false_iff.2 λ e=>h (Nat.eq_of_beq_eq_true e)]
def zGo (n:Net) (i:Nat) (v:Sl Span):Sl Span:=⟨v.len,setT i (⟨-fr n i 0,fr n 0 i⟩:Span) v.get⟩
theorem zKK (n:Net):∀ (m i:Nat) (v:Sl Span),(∀ j,j < i->v.get j=⟨-fr n j 0,fr n 0 j⟩)->(zdg (zGo n) m i v).len=v.len/\∀ j,j < i+m->(zdg (zGo n) m i v).get j=⟨-fr n j 0,fr n 0 j⟩:=by
 intro m
 induction m with
 | zero=>intro i v h;exact⟨rfl,λ j hj=>h j (by omega)⟩
 | succ m ih =>
  intro i v h
  obtain⟨k1,k2⟩:=ih (i+1) (zGo n i v) (λ j hj=>by
   show setT i _ v.get j=_
   rw[zul]
   by_cases hji:j=i
   ·rw[dqP hji,hji]
   ·rw[dqG hji];exact h j (by omega))
  exact⟨k1,λ j hj=>k2 j (by omega)⟩
theorem zro {n:Net}(ht:n.Ties.len≤210) (hn:NetOk n) (hN:zce (En n)):p26 n=true/\∃ l,s26 n=(l,0)/\l.len=n.Nodes.toNat/\∀ i,i < n.Nodes.toNat->l.get i=⟨-fr n i 0,fr n 0 i⟩:=by
  have hn1:=hn.n1;have hn40:=hn.n40
  obtain⟨w0,_,_,_,w4⟩:=zE0 n (⟨0,λ _=>default⟩:Sl Int) (by decide) ht
  have w4':=w4 hn (λ i hi=>absurd hi (Nat.not_lt_zero _)) hN
  have hT:=λ (j:Nat) (hj:j < n.Nodes.toNat)=>zPs hn hN (i:=0) (Int.le_refl _) (by omega) hj
  have hF:=λ (j:Nat) (hj:j < n.Nodes.toNat)=>zKJ hn hN (i:=0) (Int.le_refl _) (by omega) hj
  have p1:=(hT 0 (by omega)).1
  have p2:=(hF 0 (by omega)).1
  have hloop := zdQ (step := zGo n) (E := fun v => (v, (0:Int))) (EP := fun _ => true) (Inv := fun _ v => v.len = n.Nodes.toNat) (a := 0) (n := n.Nodes.toNat) (lpS := fun k v i => zhL n k i v (s75 (W n) 0) (s76 (W n) 0)) (lpP := fun k v i => zhM n k i v (s75 (W n) 0) (s76 (W n) 0))
    (λ k i v _ hi hv=>by
      show zjr n (zhL n k) (i:Int) v (s75 (W n) 0) (s76 (W n) 0)=zhL n k (w64 ((i:Int)+(1:Int))) (zGo n i v) (s75 (W n) 0) (s76 (W n) 0)
      generalize zhL n k=S
      unfold zjr zGo
      have hb:=zpR hn hN (i:=i) (j:=0) hi
      rw[dqT (show (i:Int) < (n.Nodes.toNat:Int) by omega),dqA,dqN,show 0+i * 2+0=i * 2 by omega,zf5 (by omega),zf5 (by omega),(hT i hi).2,(hF i hi).2,show (0:Int).toNat=0 from rfl,za6 (x:=0 - fr n i 0) (by omega) (by omega),show (0:Int) - fr n i 0 = -fr n i 0 by omega])
    (λ k v=>by
      show zjr n (zhL n k) (n.Nodes.toNat:Int) v (s75 (W n) 0) (s76 (W n) 0)=_
      unfold zjr
      rw[dqF (show ¬ (n.Nodes.toNat:Int) < (n.Nodes.toNat:Int) by omega),dqB])
    (λ k i v _ hi hv=>by
      show zjs n (zhM n k) (i:Int) v (s75 (W n) 0) (s76 (W n) 0)=zhM n k (w64 ((i:Int)+(1:Int))) (zGo n i v) (s75 (W n) 0) (s76 (W n) 0)
      generalize zhM n k=S
      unfold zjs zGo
      have hb:=zpR hn hN (i:=i) (j:=0) hi
      have hv':v.len=n.Nodes.toNat:=hv
      rw[dqT (show (i:Int) < (n.Nodes.toNat:Int) by omega),dqA,dqN,show 0+i * 2+0=i * 2 by omega,zf5 (by omega),zf5 (by omega),(hT i hi).2,(hF i hi).2,show (0:Int).toNat=0 from rfl,za6 (x:=0 - fr n i 0) (by omega) (by omega),show (0:Int) - fr n i 0 = -fr n i 0 by omega,
        dqT (show 0≤(i:Int)/\(i:Int) < (40:Int) by omega),dqT (show 0≤(i:Int)/\(i:Int) < (v.len:Int) by omega),dqT (show i < v.len by omega)]
      rfl)
    (λ k v=>by
      show zjs n (zhM n k) (n.Nodes.toNat:Int) v (s75 (W n) 0) (s76 (W n) 0)=_
      unfold zjs
      rw[dqF (show ¬ (n.Nodes.toNat:Int) < (n.Nodes.toNat:Int) by omega),dqB])
    (λ i v _ _ h=>h) (Nat.zero_le _) (by omega) (⟨n.Nodes.toNat,(λ _=>(⟨(0:Int),(0:Int)⟩:Span))⟩:Sl Span) rfl
  obtain⟨l1,l2⟩:=hloop
  obtain⟨f1,f2⟩:=zKK n (n.Nodes.toNat - 0) 0 (⟨n.Nodes.toNat,(λ _=>(⟨(0:Int),(0:Int)⟩:Span))⟩:Sl Span) (λ j hj=>absurd hj (Nat.not_lt_zero _))
  constructor
  · unfold p26
    rw[w0,w4']
    show (cond ((0:Int) == 0) (decide (true=true) && cond ((0:Int) != (0:Int)) true (decide (p75 (W n) 0=true) && (decide (p76 (W n) 0=true) && (decide (0≤n.Nodes/\n.Nodes=n.Nodes/\n.Nodes≤1000000) && zsG n (0:Int) (⟨n.Nodes.toNat,(λ _=>(⟨(0:Int),(0:Int)⟩:Span))⟩:Sl Span) (s75 (W n) 0) (s76 (W n) 0))))) _)=true
    rw[p1,p2,dqT (show 0≤n.Nodes/\n.Nodes=n.Nodes/\n.Nodes≤1000000 from ⟨by omega,rfl,by omega⟩)]
    exact l1
  · refine ⟨_, ?_, f1, fun i hi => f2 i (by omega)⟩
    unfold s26
    rw[w4']
    exact l2
theorem znu {n:Net}(hn:NetOk n){v:Sl Int}(hv:AgOk n v):∀ e∈En n,v.get e.v≤v.get e.u+e.w:=by
 intro e he
 obtain⟨j,h1,_,h3⟩:=(zCy (a:=W n) hn).1 he
 have hk:=hv.keep j h1
 rcases h3 with ⟨h4,rfl⟩ | ⟨h4,rfl⟩
 ·have := hk.2.resolve_left h4
  show v.get (n.Ties.get j).To.toNat≤v.get (n.Ties.get j).From.toNat+(n.Ties.get j).High
  omega
 ·have := hk.1.resolve_left h4
  show v.get (n.Ties.get j).From.toNat≤v.get (n.Ties.get j).To.toNat + -(n.Ties.get j).Low
  omega
theorem zgQ {n:Net}(hn:NetOk n){v:Sl Int}(hv:AgOk n v):zce (En n):=zrn (f:=v.get) (znu hn hv)
theorem zrp {n:Net}(hn:NetOk n){v:Sl Int}(hv:AgOk n v){i j:Nat}(hi:i < n.Nodes.toNat) (hj:fr n i j ≠ 1000000000000):v.get j - v.get i≤fr n i j:=by
 have hE:EdOk (En n) n.Nodes.toNat:=zGn (a:=W n) hn
 have:=zEV (v:=j) hE (zgQ hn hv) hi (znu hn hv) (λ h=>hj (by unfold fr;rw[h];rfl))
 unfold fr
 omega
end Go.Proofs
namespace Go.Proofs
open Go Go.Pm
set_option maxRecDepth 100000
set_option linter.unusedVariables false
attribute [local irreducible] Go.Pm.vcFun Go.Pm.vc Go.Pm.vcIter
section
variable {K:List PA->Prop}{n:Net}{iv0:Int}{zRe:(Sl Tie)}{zPt:Nat->List PV}{X0:St->Prop}{P0:Int->(Sl Tie)->Bool}{S0:Int->(Sl Tie)->Net}
end
end Go.Proofs
namespace Go.Proofs
open Go Go.Pm
set_option maxRecDepth 100000
set_option linter.unusedVariables false
theorem zKL {α:Type}(n:Nat) (g:Nat->α) (x:α) (j:Nat):zl0 n g (λ _=>x) j=if n≤j then x else g j:=by
 unfold zl0
 by_cases h:n≤j
 ·rw[dqP h,show Nat.ble n j=true from Nat.ble_eq_true_of_le h]
 ·rw[dqG h,show Nat.ble n j=false from Bool.eq_false_iff.2 λ k=>h (Nat.le_of_ble_eq_true k)]
def turn (t:Tie):Tie:=⟨t.From,t.To,w64 (0 - t.High),w64 (0 - t.Low)⟩
structure IsTurn (n m : Net) : Prop where
  nodes:m.Nodes=n.Nodes
  len:m.Ties.len=n.Ties.len
  tie:∀ j,j < n.Ties.len->m.Ties.get j=turn (n.Ties.get j)
end Go.Proofs
namespace Go.Proofs
open Go Go.Pm
set_option maxRecDepth 100000
set_option linter.unusedVariables false
def apL {α:Type}(l:Nat->α) (i:Nat) (v:Sl α):Sl α:=⟨v.len+1,zl0 v.len v.get (λ _=>l i)⟩
theorem zCD {n:Net}(hn:NetOk n){v:Sl Int}(hv:AgOk n v){i:Nat}(hi:i < n.Nodes.toNat) : -fr n i 0≤v.get i/\v.get i≤fr n 0 i:=by
 have hn1:=hn.n1
 have h0:=hv.val.zero
 have hb:=hv.val.b i (by have:=hv.val.len;omega)
 constructor
 ·by_cases h : fr n i 0 = 1000000000000
  ·omega
  ·have:=zrp hn hv (i:=i) (j:=0) hi h;omega
 ·by_cases h : fr n 0 i = 1000000000000
  ·omega
  ·have:=zrp hn hv (i:=0) (j:=i) (by omega) h;omega
end Go.Proofs
namespace Go.Pm
open Go
theorem zpS {σ β : Type} {good : Nat → Bool} {step : Nat → σ → σ} {bad : β} {E : σ → β} {EP : σ → Bool} {Inv : Nat → σ → Prop} {n : Nat} {lpS : Nat → σ → Int → β} {lpP : Nat → σ → Int → Bool}
    (hS:∀ (k i:Nat) (s:σ),i < n->Inv i s->lpS (k+1) s (i:Int)=cond (good i) (lpS k (step i s) (w64 ((i:Int)+(1:Int)))) bad)
    (hE:∀ k s,lpS (k+1) s (n:Int)=E s)
    (hP:∀ (k i:Nat) (s:σ),i < n->Inv i s->lpP (k+1) s (i:Int)=cond (good i) (lpP k (step i s) (w64 ((i:Int)+(1:Int)))) true)
    (hPE:∀ k s,lpP (k+1) s (n:Int)=EP s)
    (hI:∀ i s,i < n->Inv i s->Inv (i+1) (step i s)) (hn:n≤9223372036854775807) (s:σ) (h0:Inv 0 s) :
    ((∀ i,i < n->good i=true)->lpP Fuel s 0=EP (zdg step n 0 s)/\lpS Fuel s 0=E (zdg step n 0 s))/\((¬ ∀ i,i < n->good i=true)->lpP Fuel s 0=true/\lpS Fuel s 0=bad):=by
  have key:∀ (m k i:Nat) (s:σ),i+m=n->m < k->Inv i s->((∀ j,i≤j->j < n->good j=true)->lpP k s (i:Int)=EP (zdg step m i s)/\lpS k s (i:Int)=E (zdg step m i s))/\((¬ ∀ j,i≤j->j < n->good j=true)->lpP k s (i:Int)=true/\lpS k s (i:Int)=bad):=by
    intro m
    induction m with
    | zero =>
      intro k i s hi hk _
      obtain⟨k,rfl⟩:∃ k',k=k'+1:=⟨k - 1,by omega⟩
      have:i=n:=by omega
      subst this
      rw[hE,hPE]
      exact⟨λ _=>⟨rfl,rfl⟩,λ h=>absurd (λ j h1 h2=>absurd h2 (by omega)) h⟩
    | succ m ih =>
      intro k i s hi hk hs
      obtain⟨k,rfl⟩:∃ k',k=k'+1:=⟨k - 1,by omega⟩
      rw[hS k i s (by omega) hs,hP k i s (by omega) hs,ziN (n:=n) (by omega) hn]
      obtain⟨h1,h2⟩:=ih k (i+1) (step i s) (by omega) (by omega) (hI i s (by omega) hs)
      cases hg:good i
      · refine ⟨fun h => ?_, fun _ => ⟨rfl, rfl⟩⟩
        have:=h i (Nat.le_refl _) (by omega)
        rw[hg] at this;cases this
      · refine ⟨fun h => h1 fun j a b => h j (by omega) b, fun h => h2 fun h' => h fun j a b => ?_⟩
        by_cases hji:j=i
        · rw[hji];exact hg
        · exact h' j (by omega) b
  have:=key n Fuel 0 s (by omega) (by simp only[Fuel];omega) h0
  simpa using this
end Go.Pm
namespace Go.Proofs
open Go Go.Pm
set_option maxRecDepth 100000
set_option linter.unusedVariables false
attribute [local irreducible] Go.Pm.vcFun Go.Pm.vc Go.Pm.vcIter
section
variable {K:List PA->Prop}{nodes:Int}{pulses:(Sl Pulse)}{zdd:Int}{zRf:(Sl Tie)}{zPu:Nat->List PV}{X1:St->Prop}{P1:Int->(Sl Tie)->Bool}{S1:Int->(Sl Tie)->(Net×Int)}{zRg:Int}{zRh:Bool}{zRi:Int}{zRj:Int}{zRk:Int}{zRl:Int}{zRm:Int}{zRn:Int}{zRo:Int}{zRp:(Sl Tie)}{zPv:Nat->List PV}{zRq:Bool}{zRr:(Sl Tie)}{zPw:Nat->List PV}{zcB:Int}{zPx:Int}{zPy:Int}{zPz:Int}{zPA:Int}{zPB:Int}{zPC:Int}{zPD:Int}{zRs:(Sl Tie)}{zPE:Nat->List PV}
end
section
variable {K:List PA->Prop}{nodes:Int}{p:Pulse}
end
section
variable {K:List PA->Prop}{nodes:Int}{l_a1:(Sl Pulse)}{zqO:Bool}{iv3:Int}{zRt:(Sl Tie)}{zPF:Nat->List PV}{X3:St->Prop}{P3:Int->(Sl Tie)->Bool}{S3:Int->(Sl Tie)->(Net×Int)}{iv4:Int}{zRu:Bool}{zPx:Int}{zPy:Int}{zPz:Int}{zPA:Int}{zPB:Int}{zPC:Int}{zPD:Int}{zRv:(Sl Tie)}{zPG:Nat->List PV}{iv5:Int}{zRw:Int}{zRx:Int}{zRy:Int}{zRz:Int}{zRA:Int}{zRB:Int}{zRC:Int}{zRD:(Sl Tie)}{zPH:Nat->List PV}
end
end Go.Proofs
namespace Go.Proofs
open Go Go.Pm
set_option maxRecDepth 100000
theorem zka {σ : Type} {step : Nat → σ → σ} {Inv : Nat → σ → Prop} {n : Nat} (hI : ∀ i s, i < n → Inv i s → Inv (i + 1) (step i s)) :
    ∀ (m i:Nat) (s:σ),i+m=n->Inv i s->Inv n (zdg step m i s):=by
  intro m
  induction m with
  | zero => intro i s h hs; have : i = n := by omega
            subst this;exact hs
  | succ m ih=>intro i s h hs;exact ih (i+1) (step i s) (by omega) (hI i s (by omega) hs)
end Go.Proofs
namespace Go.Proofs
open Go Go.Pm
set_option maxRecDepth 100000
set_option linter.unusedVariables false
def nd (N:Int) (j:Nat) (i:Int):Int:=if i=0 then 0 else j * (N - 1)+i
theorem zN5 {N:Int}(h1:1≤N) (h2:N≤40){j:Nat}(hj:j≤10):0≤(j:Int) * (N - 1)/\(j:Int) * (N - 1)≤390:=by
 have a:=Int.mul_nonneg (show (0:Int)≤j by omega) (show (0:Int)≤N - 1 by omega)
 have b:(j:Int) * (N - 1)≤10 * 39:=Int.mul_le_mul (by omega) (by omega) (by omega) (by omega)
 omega
theorem zkE {N:Int}(h1:1≤N) (h2:N≤40){j:Nat}(hj:j≤10){i:Int}(i0:0≤i) (i1:i≤40):s97 N i (j:Int)=nd N j i:=by
 have hb:=zN5 h1 h2 hj
 unfold s97 nd
 by_cases h:i=0
 ·rw[dqP h,show (i == (0:Int))=true from beq_iff_eq.2 h,dqA]
 ·rw[dqG h,show (i == (0:Int))=false from beq_eq_false_iff_ne.2 h,dqB,za6 (x:=N - 1) (by omega) (by omega),za6 (x:=(j:Int) * (N - 1)) (by omega) (by omega),za6 (by omega) (by omega)]
theorem zfZ {N:Int}(h1:1≤N) (h2:N≤40){j:Nat}(hj:j≤10){i:Int}(i0:0≤i) (i1:i≤40):s63 N (j:Int) i=nd N j i:=by
 have hb:=zN5 h1 h2 hj
 unfold s63 nd
 by_cases h:i=0
 ·rw[dqP h,show (i == (0:Int))=true from beq_iff_eq.2 h,dqA]
 ·rw [dqG h, show (i == (0:Int)) = false from beq_eq_false_iff_ne.2 h, dqB, za6 (x := N - 1) (by omega) (by omega), za6 (x := (j : Int) * (N - 1)) (by omega) (by omega), za6 (x := 1 + (j : Int) * (N - 1)) (by omega) (by omega), za6 (x := 1 + (j : Int) * (N - 1) + i) (by omega) (by omega), za6 (by omega) (by omega)]
  omega
def mvT (N:Int) (j:Nat) (t:Tie):Tie:=⟨nd N j t.From,nd N j t.To,t.Low,t.High⟩
def drT (N:Int) (d:Sl Int) (j i:Nat):Tie:=⟨nd N j i,nd N (j+1) i,-(d.get i),d.get i⟩
abbrev zwV (zaa:Sl Net) (N:Int) (j:Nat) (i:Nat):Tie:=mvT N j ((zaa.get j).Ties.get i)
def zw1 (zaa:Sl Net) (N:Int) (j:Nat) (v:Sl Tie):Sl Tie:=zdg (apL (zwV zaa N j)) (zaa.get j).Ties.len 0 v
def drS (N:Int) (d:Sl Int) (j:Nat) (v:Sl Tie):Sl Tie:=zdg (apL (drT N d j)) (N.toNat - 1) 1 v
def epN (zaa:Sl Net) (N:Int):Sl Tie:=zdg (zw1 zaa N) zaa.len 0 (⟨0,λ _=>default⟩:Sl Tie)
def epT (zaa:Sl Net) (N:Int) (d:Sl Int):Sl Tie:=zdg (drS N d) (zaa.len - 1) 0 (epN zaa N)
theorem zmE {α:Type}(l:Nat->α):∀ (m i:Nat) (v:Sl α),(zdg (apL l) m i v).len=v.len+m:=by
 intro m
 induction m with
 | zero=>intro i v;rfl
 | succ m ih=>intro i v;exact (ih (i+1) (apL l i v)).trans (by show v.len+1+m=_;omega)
structure EpIn (zaa : Sl Net) (d : Sl Int) (N : Int) : Prop where
  n1:1≤N
  n40:N≤40
  l1:1≤zaa.len
  l10:zaa.len≤10
  net:∀ j,j < zaa.len->NetOk (zaa.get j)/\(zaa.get j).Nodes=N
  N0:(zaa.get 0).Nodes=N
  dl:(d.len:Int)=N
  d0:d.get 0=0
  db:∀ i,i < d.len->0≤d.get i/\d.get i≤1000000000
abbrev zw2:Net×Int:=((⟨(0:Int),(⟨0,λ _=>default⟩:(Sl Tie))⟩:Net),(2:Int))
abbrev zQh:Net×Int:=((⟨(0:Int),(⟨0,λ _=>default⟩:(Sl Tie))⟩:Net),(3:Int))
def epE (out:Int) (v:Sl Tie):Net×Int:=cond (decide (out > (40:Int))) zQh (cond (decide ((v.len:Int) > (200:Int))) zQh ((⟨out,v⟩:Net),(0:Int)))
theorem zCE (zaa:Sl Net) (N:Int) (h:∀ j,j < zaa.len->(zaa.get j).Ties.len≤200):(epN zaa N).len≤200 * zaa.len :=
 zka (Inv:=λ i (v:Sl Tie)=>v.len≤200 * i) (n:=zaa.len) (λ i v hi hv=>by
  have hv':v.len≤200 * i:=hv
  have:=h i hi
  show (zdg (apL (zwV zaa N i)) (zaa.get i).Ties.len 0 v).len≤_
  rw[zmE];omega) zaa.len 0 _ (by omega) (Nat.le_refl _)
theorem zNM (zaa:Sl Net) (d:Sl Int) (N:Int) (h:EpIn zaa d N) (out:Int) (v:Sl Tie) (hv:v.len≤3000):zk0 zaa d out v=true/\zkZ zaa d out v=epE out (zdg (drS N d) (zaa.len - 1) 0 v):=by
  have n1:=h.n1;have n40:=h.n40;have l1:=h.l1;have l10:=h.l10;have dl:=h.dl
  have inner:∀ (S12:Int->Sl Tie->Net×Int) (P12:Int->Sl Tie->Bool) (j:Nat) (v:Sl Tie),j < zaa.len - 1->v.len≤4000 ->
      zoX P12 zaa d out (j:Int) (1:Int) (j:Int) v=P12 (w64 ((j:Int)+(1:Int))) (drS N d j v)/\zoW S12 zaa d out (j:Int) (1:Int) (j:Int) v=S12 (w64 ((j:Int)+(1:Int))) (drS N d j v):=by
    intro S12 P12 j v hj hv
    have hw:w64 ((j:Int)+(1:Int))=((j+1:Nat):Int):=by rw[za6 (by omega) (by omega)];omega
    have hl := zdQ (step := (apL (drT N d j))) (E := fun v => S12 (w64 ((j : Int) + (1:Int))) v) (EP := fun v => P12 (w64 ((j : Int) + (1:Int))) v) (Inv := fun i (v : Sl Tie) => v.len ≤ 4000 + i) (a := 1) (n := N.toNat) (lpS := fun k v i => zfC S12 zaa d out k (j : Int) i (j : Int) v) (lpP := fun k v i => zfD P12 zaa d out k (j : Int) i (j : Int) v)
        (λ k i v hai hi hv=>by
          show zg3 S12 zaa d out (zfC S12 zaa d out k) (j:Int) (i:Int) (j:Int) v=zfC S12 zaa d out k (j:Int) (w64 ((i:Int)+(1:Int))) (j:Int) ((apL (drT N d j)) i v)
          generalize zfC S12 zaa d out k=S
          have hv':v.len≤4000+i:=hv
          have hN0:=h.N0
          unfold zg3
          rw[dqT (show (i:Int) < (zaa.get 0).Nodes by omega),dqA,dqN,hw,h.N0,zkE n1 n40 (j:=j) (by omega) (by omega) (by omega),zkE n1 n40 (j:=j+1) (by omega) (by omega) (by omega),za6 (x:=0 - d.get i) (by have:=h.db i (by omega);omega) (by have:=h.db i (by omega);omega),show (0:Int) - d.get i = -(d.get i) by omega]
          rfl)
        (λ k v=>by
          show zg3 S12 zaa d out (zfC S12 zaa d out k) (j:Int) ((N.toNat:Nat):Int) (j:Int) v=_
          have hN0:=h.N0
          unfold zg3
          rw[dqF (show ¬ ((N.toNat:Nat):Int) < (zaa.get 0).Nodes by omega),dqB]
          )
        (λ k i v hai hi hv=>by
          show zg4 P12 zaa d out (zfD P12 zaa d out k) (j:Int) (i:Int) (j:Int) v=zfD P12 zaa d out k (j:Int) (w64 ((i:Int)+(1:Int))) (j:Int) ((apL (drT N d j)) i v)
          generalize zfD P12 zaa d out k=S
          have hv':v.len≤4000+i:=hv
          have hN0:=h.N0
          unfold zg4
          rw[dqT (show (i:Int) < (zaa.get 0).Nodes by omega),dqA,dqN,hw,h.N0,zkE n1 n40 (j:=j) (by omega) (by omega) (by omega),zkE n1 n40 (j:=j+1) (by omega) (by omega) (by omega),za6 (x:=0 - d.get i) (by have:=h.db i (by omega);omega) (by have:=h.db i (by omega);omega),show (0:Int) - d.get i = -(d.get i) by omega,dqT (show 0≤(i:Int)/\(i:Int) < (d.len:Int) by omega),dqT (show (v.len+1) * 32≤140737488355328/\v.len+1≤9223372036854775807 by omega)]
          rfl)
        (λ k v=>by
          show zg4 P12 zaa d out (zfD P12 zaa d out k) (j:Int) ((N.toNat:Nat):Int) (j:Int) v=_
          have hN0:=h.N0
          unfold zg4
          rw[dqF (show ¬ ((N.toNat:Nat):Int) < (zaa.get 0).Nodes by omega),dqB]
          )
        (λ i v _ _ hh=>by show v.len+1≤4000+(i+1);have hh':v.len≤4000+i:=hh;omega) (by omega) (by omega) v (by show v.len≤4000+1;omega)
    exact hl
  have hl := zdQ (step := (drS N d)) (E := fun v => zoV out v) (EP := fun _ => true) (Inv := fun i (v : Sl Tie) => v.len ≤ 3000 + 50 * i) (a := 0) (n := (zaa.len - 1)) (lpS := fun k v i => zfE zaa d out k i v) (lpP := fun k v i => zfF zaa d out k i v)
    (λ k i v hai hi hv=>by
      show zg5 zaa d out (zfE zaa d out k) (i:Int) v=zfE zaa d out k (w64 ((i:Int)+(1:Int))) ((drS N d) i v)
      generalize zfE zaa d out k=S
      have hv':v.len≤3000+50 * i:=hv
      have hwl:w64 ((zaa.len:Int) - (1:Int))=((zaa.len - 1:Nat):Int):=by rw[za6 (by omega) (by omega)];omega
      unfold zg5
      rw[dqT (show (i:Int) < (w64 ((zaa.len:Int) - (1:Int))) by omega),dqA]
      exact (inner S (λ _ _=>true) i v hi (by omega)).2)
    (λ k v=>by
      show zg5 zaa d out (zfE zaa d out k) (((zaa.len - 1):Nat):Int) v=_
      have hwl:w64 ((zaa.len:Int) - (1:Int))=((zaa.len - 1:Nat):Int):=by rw[za6 (by omega) (by omega)];omega
      unfold zg5
      rw[dqF (show ¬ (((zaa.len - 1):Nat):Int) < (w64 ((zaa.len:Int) - (1:Int))) by omega),dqB]
      )
    (λ k i v hai hi hv=>by
      show zg6 zaa d out (zfF zaa d out k) (i:Int) v=zfF zaa d out k (w64 ((i:Int)+(1:Int))) ((drS N d) i v)
      generalize zfF zaa d out k=S
      have hv':v.len≤3000+50 * i:=hv
      have hwl:w64 ((zaa.len:Int) - (1:Int))=((zaa.len - 1:Nat):Int):=by rw[za6 (by omega) (by omega)];omega
      unfold zg6
      rw[dqT (show (i:Int) < (w64 ((zaa.len:Int) - (1:Int))) by omega),dqA]
      exact (inner (λ _ _=>default) S i v hi (by omega)).1)
    (λ k v=>by
      show zg6 zaa d out (zfF zaa d out k) (((zaa.len - 1):Nat):Int) v=_
      have hwl:w64 ((zaa.len:Int) - (1:Int))=((zaa.len - 1:Nat):Int):=by rw[za6 (by omega) (by omega)];omega
      unfold zg6
      rw[dqF (show ¬ (((zaa.len - 1):Nat):Int) < (w64 ((zaa.len:Int) - (1:Int))) by omega),dqB]
      )
    (λ i v _ _ hh=>by show (zdg (apL (drT N d i)) (N.toNat - 1) 1 v).len≤_;rw[zmE];have hh':v.len≤3000+50 * i:=hh;omega) (Nat.zero_le _) (by omega) v (by show v.len≤3000+50 * 0;omega)
  exact hl
theorem zGp (zaa:Sl Net) (d:Sl Int) (N:Int) (h:EpIn zaa d N):zmp zaa d=true/\zmo zaa d=epE (1+zaa.len * (N - 1)) (epT zaa N d):=by
  have n1:=h.n1;have n40:=h.n40;have l1:=h.l1;have l10:=h.l10;have dl:=h.dl
  have hjn:=zN5 n1 n40 l10
  have inner:∀ (S9:Int->Sl Tie->Net×Int) (P9:Int->Sl Tie->Bool) (j:Nat) (v:Sl Tie),j < zaa.len->v.len≤2500 ->
      zoZ P9 zaa d (j:Int) (j:Int) (zaa.get j).Ties ((zaa.get j).Ties.len:Int) (0:Int) v=P9 (w64 ((j:Int)+(1:Int))) (zw1 zaa N j v)/\zoY S9 zaa d (j:Int) (j:Int) (zaa.get j).Ties ((zaa.get j).Ties.len:Int) (0:Int) v=S9 (w64 ((j:Int)+(1:Int))) (zw1 zaa N j v):=by
    intro S9 P9 j v hj hv
    obtain⟨hn,hnN⟩:=h.net j hj
    have hnl:=hn.len
    have hl := zdQ (step := (apL (zwV zaa N j))) (E := fun v => S9 (w64 ((j : Int) + (1:Int))) v) (EP := fun v => P9 (w64 ((j : Int) + (1:Int))) v) (Inv := fun i (v : Sl Tie) => v.len ≤ 2500 + i) (a := 0) (n := (zaa.get j).Ties.len) (lpS := fun k v i => zfG S9 zaa d k (j : Int) (j : Int) (zaa.get j).Ties ((zaa.get j).Ties.len : Int) i v) (lpP := fun k v i => zfH P9 zaa d k (j : Int) (j : Int) (zaa.get j).Ties ((zaa.get j).Ties.len : Int) i v)
        (λ k i v hai hi hv=>by
          show zg7 S9 zaa d (zfG S9 zaa d k) (j:Int) (j:Int) (zaa.get j).Ties ((zaa.get j).Ties.len:Int) (i:Int) v=zfG S9 zaa d k (j:Int) (j:Int) (zaa.get j).Ties ((zaa.get j).Ties.len:Int) (w64 ((i:Int)+(1:Int))) ((apL (zwV zaa N j)) i v)
          generalize zfG S9 zaa d k=S
          have hv':v.len≤2500+i:=hv
          have ht:=hn.tie i hi
          have:=ht.f1;have:=ht.t1
          unfold zg7
          rw[dqT (show (i:Int) < ((zaa.get j).Ties.len:Int) by omega),dqA,dqN,h.N0,zkE n1 n40 (j:=j) (by omega) ht.f0 (by omega),zkE n1 n40 (j:=j) (by omega) ht.t0 (by omega)]
          rfl)
        (λ k v=>by
          show zg7 S9 zaa d (zfG S9 zaa d k) (j:Int) (j:Int) (zaa.get j).Ties ((zaa.get j).Ties.len:Int) (((zaa.get j).Ties.len:Nat):Int) v=_
          unfold zg7
          rw[dqF (show ¬ (((zaa.get j).Ties.len:Nat):Int) < ((zaa.get j).Ties.len:Int) by omega),dqB]
          )
        (λ k i v hai hi hv=>by
          show zg8 P9 zaa d (zfH P9 zaa d k) (j:Int) (j:Int) (zaa.get j).Ties ((zaa.get j).Ties.len:Int) (i:Int) v=zfH P9 zaa d k (j:Int) (j:Int) (zaa.get j).Ties ((zaa.get j).Ties.len:Int) (w64 ((i:Int)+(1:Int))) ((apL (zwV zaa N j)) i v)
          generalize zfH P9 zaa d k=S
          have hv':v.len≤2500+i:=hv
          have ht:=hn.tie i hi
          have:=ht.f1;have:=ht.t1
          unfold zg8
          rw[dqT (show (i:Int) < ((zaa.get j).Ties.len:Int) by omega),dqA,dqN,h.N0,zkE n1 n40 (j:=j) (by omega) ht.f0 (by omega),zkE n1 n40 (j:=j) (by omega) ht.t0 (by omega),dqT (show 0≤(i:Int)/\(i:Int) < ((zaa.get j).Ties.len:Int) by omega),dqT (show (v.len+1) * 32≤140737488355328/\v.len+1≤9223372036854775807 by omega)]
          rfl)
        (λ k v=>by
          show zg8 P9 zaa d (zfH P9 zaa d k) (j:Int) (j:Int) (zaa.get j).Ties ((zaa.get j).Ties.len:Int) (((zaa.get j).Ties.len:Nat):Int) v=_
          unfold zg8
          rw[dqF (show ¬ (((zaa.get j).Ties.len:Nat):Int) < ((zaa.get j).Ties.len:Int) by omega),dqB]
          )
        (λ i v _ _ hh=>by show v.len+1≤2500+(i+1);have hh':v.len≤2500+i:=hh;omega) (Nat.zero_le _) (by omega) v (by show v.len≤2500+0;omega)
    exact hl
  have hout:w64 ((1:Int)+w64 ((zaa.len:Int) * w64 ((zaa.get 0).Nodes - (1:Int))))=1+zaa.len * (N - 1):=by
    rw[h.N0,za6 (x:=N - 1) (by omega) (by omega),za6 (x:=(zaa.len:Int) * (N - 1)) (by omega) (by omega),za6 (by omega) (by omega)]
  have hl := zdQ (step := (zw1 zaa N)) (E := fun v => zkZ zaa d (1 + zaa.len * (N - 1)) v) (EP := fun v => zk0 zaa d (1 + zaa.len * (N - 1)) v) (Inv := fun i (v : Sl Tie) => v.len ≤ 200 * i) (a := 0) (n := zaa.len) (lpS := fun k v i => zhQ zaa d k i v) (lpP := fun k v i => zhR zaa d k i v)
    (λ k i v hai hi hv=>by
      show zjK zaa d (zhQ zaa d k) (i:Int) v=zhQ zaa d k (w64 ((i:Int)+(1:Int))) ((zw1 zaa N) i v)
      generalize zhQ zaa d k=S
      have hv':v.len≤200 * i:=hv
      unfold zjK
      rw[dqT (show (i:Int) < (zaa.len:Int) by omega),dqA,dqN]
      exact (inner S (λ _ _=>true) i v hi (by omega)).2)
    (λ k v=>by
      show zjK zaa d (zhQ zaa d k) ((zaa.len:Nat):Int) v=_
      unfold zjK
      rw[dqF (show ¬ ((zaa.len:Nat):Int) < (zaa.len:Int) by omega),dqB]
      rw[hout])
    (λ k i v hai hi hv=>by
      show zjL zaa d (zhR zaa d k) (i:Int) v=zhR zaa d k (w64 ((i:Int)+(1:Int))) ((zw1 zaa N) i v)
      generalize zhR zaa d k=S
      have hv':v.len≤200 * i:=hv
      unfold zjL
      rw[dqT (show (i:Int) < (zaa.len:Int) by omega),dqA,dqN,dqT (show 0≤(i:Int)/\(i:Int) < (zaa.len:Int) by omega),Bool.true_and]
      exact (inner (λ _ _=>default) S i v hi (by omega)).1)
    (λ k v=>by
      show zjL zaa d (zhR zaa d k) ((zaa.len:Nat):Int) v=_
      unfold zjL
      rw[dqF (show ¬ ((zaa.len:Nat):Int) < (zaa.len:Int) by omega),dqB]
      rw[hout])
    (λ i v _ hi hh=>by show (zdg (apL (zwV zaa N i)) (zaa.get i).Ties.len 0 v).len≤_;rw[zmE];have hh':v.len≤200 * i:=hh;have:=(h.net i hi).1.len;omega) (Nat.zero_le _) (by omega) (⟨0,(λ _=>default)⟩:Sl Tie) (Nat.le_refl _)
  have hnl:=zCE zaa N (λ j hj=>(h.net j hj).1.len)
  obtain⟨e1,e2⟩:=zNM zaa d N h (1+zaa.len * (N - 1)) (epN zaa N) (by omega)
  exact⟨hl.1.trans e1,hl.2.trans e2⟩
theorem zNN (zaa:Sl Net) (d:Sl Int) (N:Int) (h:EpIn zaa d N) (out:Int) (v:Sl Tie) (hv:v.len≤3000):zpf zaa d out v=true/\zpe zaa d out v=epE out (zdg (drS N d) (zaa.len - 1) 0 v):=by
  have n1:=h.n1;have n40:=h.n40;have l1:=h.l1;have l10:=h.l10;have dl:=h.dl
  have inner:∀ (S10:Int->Sl Tie->Net×Int) (P10:Int->Sl Tie->Bool) (j:Nat) (v:Sl Tie),j < zaa.len - 1->v.len≤4000 ->
      zpb P10 zaa d out (j:Int) (1:Int) v=P10 (w64 ((j:Int)+(1:Int))) (drS N d j v)/\zpa S10 zaa d out (j:Int) (1:Int) v=S10 (w64 ((j:Int)+(1:Int))) (drS N d j v):=by
    intro S10 P10 j v hj hv
    have hw:w64 ((j:Int)+(1:Int))=((j+1:Nat):Int):=by rw[za6 (by omega) (by omega)];omega
    have hl := zdQ (step := (apL (drT N d j))) (E := fun v => S10 (w64 ((j : Int) + (1:Int))) v) (EP := fun v => P10 (w64 ((j : Int) + (1:Int))) v) (Inv := fun i (v : Sl Tie) => v.len ≤ 4000 + i) (a := 1) (n := N.toNat) (lpS := fun k v i => zfJ S10 zaa d out k (j : Int) i v) (lpP := fun k v i => zfK P10 zaa d out k (j : Int) i v)
        (λ k i v hai hi hv=>by
          show zg9 S10 zaa d out (zfJ S10 zaa d out k) (j:Int) (i:Int) v=zfJ S10 zaa d out k (j:Int) (w64 ((i:Int)+(1:Int))) ((apL (drT N d j)) i v)
          generalize zfJ S10 zaa d out k=S
          have hv':v.len≤4000+i:=hv
          have hN0:=h.N0
          unfold zg9
          rw[dqT (show (i:Int) < (zaa.get 0).Nodes by omega),dqA,dqN,hw,h.N0,zfZ n1 n40 (j:=j) (by omega) (by omega) (by omega),zfZ n1 n40 (j:=j+1) (by omega) (by omega) (by omega),za6 (x:=0 - d.get i) (by have:=h.db i (by omega);omega) (by have:=h.db i (by omega);omega),show (0:Int) - d.get i = -(d.get i) by omega]
          rfl)
        (λ k v=>by
          show zg9 S10 zaa d out (zfJ S10 zaa d out k) (j:Int) ((N.toNat:Nat):Int) v=_
          have hN0:=h.N0
          unfold zg9
          rw[dqF (show ¬ ((N.toNat:Nat):Int) < (zaa.get 0).Nodes by omega),dqB]
          )
        (λ k i v hai hi hv=>by
          show zha P10 zaa d out (zfK P10 zaa d out k) (j:Int) (i:Int) v=zfK P10 zaa d out k (j:Int) (w64 ((i:Int)+(1:Int))) ((apL (drT N d j)) i v)
          generalize zfK P10 zaa d out k=S
          have hv':v.len≤4000+i:=hv
          have hN0:=h.N0
          unfold zha
          rw[dqT (show (i:Int) < (zaa.get 0).Nodes by omega),dqA,dqN,hw,h.N0,zfZ n1 n40 (j:=j) (by omega) (by omega) (by omega),zfZ n1 n40 (j:=j+1) (by omega) (by omega) (by omega),za6 (x:=0 - d.get i) (by have:=h.db i (by omega);omega) (by have:=h.db i (by omega);omega),show (0:Int) - d.get i = -(d.get i) by omega,dqT (show 0≤(i:Int)/\(i:Int) < (d.len:Int) by omega),dqT (show (v.len+1) * 32≤140737488355328/\v.len+1≤9223372036854775807 by omega)]
          rfl)
        (λ k v=>by
          show zha P10 zaa d out (zfK P10 zaa d out k) (j:Int) ((N.toNat:Nat):Int) v=_
          have hN0:=h.N0
          unfold zha
          rw[dqF (show ¬ ((N.toNat:Nat):Int) < (zaa.get 0).Nodes by omega),dqB]
          )
        (λ i v _ _ hh=>by show v.len+1≤4000+(i+1);have hh':v.len≤4000+i:=hh;omega) (by omega) (by omega) v (by show v.len≤4000+1;omega)
    exact hl
  have hl := zdQ (step := (drS N d)) (E := fun v => zo9 out v) (EP := fun _ => true) (Inv := fun i (v : Sl Tie) => v.len ≤ 3000 + 50 * i) (a := 0) (n := (zaa.len - 1)) (lpS := fun k v i => zfN zaa d out k i v) (lpP := fun k v i => zfO zaa d out k i v)
    (λ k i v hai hi hv=>by
      show zhd zaa d out (zfN zaa d out k) (i:Int) v=zfN zaa d out k (w64 ((i:Int)+(1:Int))) ((drS N d) i v)
      generalize zfN zaa d out k=S
      have hv':v.len≤3000+50 * i:=hv
      have hwl:w64 ((i:Int)+(1:Int))=(i:Int)+1:=za6 (by omega) (by omega)
      unfold zhd
      rw[dqT (show (w64 ((i:Int)+(1:Int))) < (zaa.len:Int) by omega),dqA]
      exact (inner S (λ _ _=>true) i v hi (by omega)).2)
    (λ k v=>by
      show zhd zaa d out (zfN zaa d out k) (((zaa.len - 1):Nat):Int) v=_
      have hwl:w64 (((zaa.len - 1:Nat):Int)+(1:Int))=((zaa.len - 1:Nat):Int)+1:=za6 (by omega) (by omega)
      unfold zhd
      rw[dqF (show ¬ (w64 ((((zaa.len - 1):Nat):Int)+(1:Int))) < (zaa.len:Int) by omega),dqB]
      )
    (λ k i v hai hi hv=>by
      show zhe zaa d out (zfO zaa d out k) (i:Int) v=zfO zaa d out k (w64 ((i:Int)+(1:Int))) ((drS N d) i v)
      generalize zfO zaa d out k=S
      have hv':v.len≤3000+50 * i:=hv
      have hwl:w64 ((i:Int)+(1:Int))=(i:Int)+1:=za6 (by omega) (by omega)
      unfold zhe
      rw[dqT (show (w64 ((i:Int)+(1:Int))) < (zaa.len:Int) by omega),dqA]
      exact (inner (λ _ _=>default) S i v hi (by omega)).1)
    (λ k v=>by
      show zhe zaa d out (zfO zaa d out k) (((zaa.len - 1):Nat):Int) v=_
      have hwl:w64 (((zaa.len - 1:Nat):Int)+(1:Int))=((zaa.len - 1:Nat):Int)+1:=za6 (by omega) (by omega)
      unfold zhe
      rw[dqF (show ¬ (w64 ((((zaa.len - 1):Nat):Int)+(1:Int))) < (zaa.len:Int) by omega),dqB]
      )
    (λ i v _ _ hh=>by show (zdg (apL (drT N d i)) (N.toNat - 1) 1 v).len≤_;rw[zmE];have hh':v.len≤3000+50 * i:=hh;omega) (Nat.zero_le _) (by omega) v (by show v.len≤3000+50 * 0;omega)
  exact hl
end Go.Proofs
namespace Go.Proofs
open Go Go.Pm
set_option maxRecDepth 100000
set_option linter.unusedVariables false
theorem zGq (zaa : Sl Net) (d : Sl Int) (N : Int) (n1 : 1 ≤ N) (n40 : N ≤ 40) (hN0 : (zaa.get 0).Nodes = N) (out : Int) (l10 : zaa.len ≤ 10) (S6 : Int → Int → Sl Tie → Net × Int) (P6 : Int → Int → Sl Tie → Bool) (j : Nat) (v : Sl Tie) (hj : j < zaa.len) (hn : NetOk (zaa.get j)) (hnN : (zaa.get j).Nodes = N) (hv : v.len ≤ 2500) :
      zpd P6 zaa d out (j:Int) v=P6 (w64 ((j:Int)+(1:Int))) out (zw1 zaa N j v)/\zpc S6 zaa d out (j:Int) v=S6 (w64 ((j:Int)+(1:Int))) out (zw1 zaa N j v):=by
  have hnl:=hn.len
  have hl := zdQ (step := (apL (zwV zaa N j))) (E := fun v => S6 (w64 ((j : Int) + (1:Int))) out v) (EP := fun v => P6 (w64 ((j : Int) + (1:Int))) out v) (Inv := fun i (v : Sl Tie) => v.len ≤ 2500 + i) (a := 0) (n := (zaa.get j).Ties.len) (lpS := fun k v i => zfL S6 zaa d out k (j : Int) i v) (lpP := fun k v i => zfM P6 zaa d out k (j : Int) i v)
    (λ k i v hai hi hv=>by
      show zhb S6 zaa d out (zfL S6 zaa d out k) (j:Int) (i:Int) v=zfL S6 zaa d out k (j:Int) (w64 ((i:Int)+(1:Int))) ((apL (zwV zaa N j)) i v)
      generalize zfL S6 zaa d out k=S
      have hv':v.len≤2500+i:=hv
      have ht:=hn.tie i hi
      have:=ht.f1;have:=ht.t1
      unfold zhb zo7
      try simp only[dqN]
      rw[dqT (show (i:Int) < ((zaa.get j).Ties.len:Int) by omega),dqA,hN0,zfZ n1 n40 (j:=j) (by omega) ht.f0 (by omega),zfZ n1 n40 (j:=j) (by omega) ht.t0 (by omega)]
      rfl)
    (λ k v=>by
      show zhb S6 zaa d out (zfL S6 zaa d out k) (j:Int) (((zaa.get j).Ties.len:Nat):Int) v=_
      unfold zhb
      try simp only[dqN]
      rw[dqF (show ¬ (((zaa.get j).Ties.len:Nat):Int) < ((zaa.get j).Ties.len:Int) by omega),dqB]
      )
    (λ k i v hai hi hv=>by
      show zhc P6 zaa d out (zfM P6 zaa d out k) (j:Int) (i:Int) v=zfM P6 zaa d out k (j:Int) (w64 ((i:Int)+(1:Int))) ((apL (zwV zaa N j)) i v)
      generalize zfM P6 zaa d out k=S
      have hv':v.len≤2500+i:=hv
      have ht:=hn.tie i hi
      have:=ht.f1;have:=ht.t1
      unfold zhc zo8
      try simp only[dqN]
      rw[dqT (show (i:Int) < ((zaa.get j).Ties.len:Int) by omega),dqA,hN0,zfZ n1 n40 (j:=j) (by omega) ht.f0 (by omega),zfZ n1 n40 (j:=j) (by omega) ht.t0 (by omega),dqT (show 0≤(j:Int)/\(j:Int) < (zaa.len:Int) by omega),dqT (show 0≤(i:Int)/\(i:Int) < ((zaa.get j).Ties.len:Int) by omega),dqT (show (v.len+1) * 32≤140737488355328/\v.len+1≤9223372036854775807 by omega)]
      rfl)
    (λ k v=>by
      show zhc P6 zaa d out (zfM P6 zaa d out k) (j:Int) (((zaa.get j).Ties.len:Nat):Int) v=_
      unfold zhc
      try simp only[dqN]
      rw[dqF (show ¬ (((zaa.get j).Ties.len:Nat):Int) < ((zaa.get j).Ties.len:Int) by omega),dqB]
      try simp only[dqN]
      rw[dqT (show 0≤(j:Int)/\(j:Int) < (zaa.len:Int) by omega)];rfl)
    (λ i v _ _ hh=>by show v.len+1≤2500+(i+1);have hh':v.len≤2500+i:=hh;omega) (Nat.zero_le _) (by omega) v (by show v.len≤2500+0;omega)
  exact hl
def zfR (zaa:Sl Net) (j:Nat):Bool:=s67 (zaa.get j) && ((zaa.get j).Nodes == (zaa.get 0).Nodes)
theorem ziR {zaa:Sl Net}{j:Nat}(h:(zaa.get j).Ties.len≤210):zfR zaa j=true↔NetOk (zaa.get j)/\(zaa.get j).Nodes=(zaa.get 0).Nodes:=by
 unfold zfR
 rw[Bool.and_eq_true,(zj8 _ (by omega)).2,beq_iff_eq]
theorem zGr (zaa : Sl Net) (d : Sl Int) (hl1 : 1 ≤ zaa.len) (hl10 : zaa.len ≤ 10) (hT : ∀ j, j < zaa.len → (zaa.get j).Ties.len ≤ 210) (h0 : NetOk (zaa.get 0)) :
    ((∀ j,j < zaa.len->zfR zaa j=true)->EpIn zaa d (zaa.get 0).Nodes->zhV zaa d=true/\zhU zaa d=epE (1+zaa.len * ((zaa.get 0).Nodes - 1)) (epT zaa (zaa.get 0).Nodes d)) /\
    ((¬ ∀ j,j < zaa.len->zfR zaa j=true)->zhV zaa d=true/\zhU zaa d=zw2):=by
  have n1:=h0.n1;have n40:=h0.n40
  have hjn:=zN5 n1 n40 hl10
  generalize hN0:(zaa.get 0).Nodes=N at *
  have hout:w64 ((1:Int)+w64 ((zaa.len:Int) * w64 ((zaa.get 0).Nodes - (1:Int))))=1+zaa.len * (N - 1):=by
    rw[hN0,za6 (x:=N - 1) (by omega) (by omega),za6 (x:=(zaa.len:Int) * (N - 1)) (by omega) (by omega),za6 (by omega) (by omega)]
  have h := zpS (good := zfR zaa) (step := zw1 zaa N) (bad := zw2) (E := fun v => zpe zaa d (1 + zaa.len * (N - 1)) v) (EP := fun v => zpf zaa d (1 + zaa.len * (N - 1)) v) (Inv := fun i (v : Sl Tie) => v.len ≤ 210 * i) (n := zaa.len)
    (lpS:=λ k v i=>zhS zaa d k i (1+zaa.len * (N - 1)) v) (lpP:=λ k v i=>zhT zaa d k i (1+zaa.len * (N - 1)) v)
    (λ k i v hi hv=>by
      have hv':v.len≤210 * i:=hv
      show zjU zaa d (zhS zaa d k) (i:Int) (1+zaa.len * (N - 1)) v=cond (zfR zaa i) (zhS zaa d k (w64 ((i:Int)+(1:Int))) (1+zaa.len * (N - 1)) (zw1 zaa N i v)) zw2
      generalize zhS zaa d k=S
      have hb:=(zns (zaa.get i) (by have:=hT i hi;omega)).2
      unfold zjU zpg
      rw[dqT (show (i:Int) < (zaa.len:Int) by omega),dqA,dqN,hb]
      cases hg:zfR zaa i
      · unfold zfR at hg
        show cond (!(s67 (zaa.get i))) (cond true zw2 _) (cond (!((zaa.get i).Nodes == (zaa.get 0).Nodes)) zw2 _)=zw2
        cases hs:s67 (zaa.get i)
        · rfl
        · rw[hs,Bool.true_and] at hg;rw[hg];rfl
      · obtain ⟨g1, g2⟩ := (ziR (hT i hi)).1 hg
        have hin:=(zGq zaa d N n1 n40 hN0 (1+zaa.len * (N - 1)) hl10 S (λ _ _ _=>true) i v hi g1 (g2.trans hN0) (by omega)).2
        unfold zfR at hg
        rw[Bool.and_eq_true] at hg
        show cond (!(s67 (zaa.get i))) _ (cond (!((zaa.get i).Nodes == (zaa.get 0).Nodes)) zw2 (zpc S zaa d (1+zaa.len * (N - 1)) (i:Int) v))=_
        rw[hg.1,hg.2,hin];rfl)
    (λ k v=>by
      show zjU zaa d (zhS zaa d k) (zaa.len:Int) (1+zaa.len * (N - 1)) v=_
      unfold zjU
      rw[dqF (show ¬ (zaa.len:Int) < (zaa.len:Int) by omega),dqB])
    (λ k i v hi hv=>by
      have hv':v.len≤210 * i:=hv
      show zjV zaa d (zhT zaa d k) (i:Int) (1+zaa.len * (N - 1)) v=cond (zfR zaa i) (zhT zaa d k (w64 ((i:Int)+(1:Int))) (1+zaa.len * (N - 1)) (zw1 zaa N i v)) true
      generalize zhT zaa d k=S
      obtain⟨hp,hb⟩:=zns (zaa.get i) (by have:=hT i hi;omega)
      unfold zjV zph
      rw[dqT (show (i:Int) < (zaa.len:Int) by omega),dqA,dqN,hb,hp,dqT (show 0≤(i:Int)/\(i:Int) < (zaa.len:Int) by omega)]
      cases hg:zfR zaa i
      · unfold zfR at hg
        show (true && (decide (true=true) && cond (!(s67 (zaa.get i))) (cond true true _) (true && cond (!((zaa.get i).Nodes == (zaa.get 0).Nodes)) true _)))=true
        cases hs:s67 (zaa.get i)
        · rfl
        · rw[hs,Bool.true_and] at hg;rw[hg];rfl
      · obtain ⟨g1, g2⟩ := (ziR (hT i hi)).1 hg
        have hin:=(zGq zaa d N n1 n40 hN0 (1+zaa.len * (N - 1)) hl10 (λ _ _ _=>default) S i v hi g1 (g2.trans hN0) (by omega)).1
        unfold zfR at hg
        rw[Bool.and_eq_true] at hg
        show (true && (decide (true=true) && cond (!(s67 (zaa.get i))) _ (true && cond (!((zaa.get i).Nodes == (zaa.get 0).Nodes)) true (zpd S zaa d (1+zaa.len * (N - 1)) (i:Int) v))))=_
        rw[hg.1,hg.2,hin];rfl)
    (λ k v=>by
      show zjV zaa d (zhT zaa d k) (zaa.len:Int) (1+zaa.len * (N - 1)) v=_
      unfold zjV
      rw[dqF (show ¬ (zaa.len:Int) < (zaa.len:Int) by omega),dqB])
    (λ i v hi hh=>by
      have hh':v.len≤210 * i:=hh
      have:=hT i hi
      show (zdg (apL (zwV zaa N i)) (zaa.get i).Ties.len 0 v).len≤_
      rw[zmE];omega) (by omega) (⟨0,λ _=>default⟩:Sl Tie) (Nat.le_refl _)
  unfold zhV zhU ztW ztV
  rw[hout]
  refine⟨λ hg hE=>?_,λ hg=>h.2 hg⟩
  obtain⟨k1,k2⟩:=h.1 hg
  have hnl:=zCE zaa N (λ j hj=>(hE.net j hj).1.len)
  obtain⟨e1,e2⟩:=zNN zaa d N hE (1+zaa.len * (N - 1)) (epN zaa N) (by omega)
  exact⟨k1.trans e1,k2.trans e2⟩
def goodD (d:Sl Int) (i:Nat):Bool:=decide (0≤d.get i/\d.get i≤1000000000)
theorem zPI (zaa:Sl Net) (d:Sl Int) (hd:d.len≤50) (h8:(∀ i,i < d.len->goodD d i=true)->zmp zaa d=true):zo2 zaa d=true/\((∀ i,i < d.len->goodD d i=true)->zmq zaa d=zmo zaa d)/\((¬ ∀ i,i < d.len->goodD d i=true)->zmq zaa d=zw2):=by
  have hl := zgN (good := goodD d) (bad := zw2) (fin := zmo zaa d) (finP := zmp zaa d) (n := d.len) (lpS := zjO zaa d) (lpP := zjP zaa d)
    (λ k i hi=>by
      show zjM zaa d (zjO zaa d k) (i:Int)=_
      generalize zjO zaa d k=S
      unfold zjM ztI goodD
      rw[dqT (show (i:Int) < (d.len:Int) by omega),dqA,dqN,ziO]
      cases decide (0≤d.get i/\d.get i≤1000000000) <;> rfl)
    (λ k=>by
      show zjM zaa d (zjO zaa d k) (d.len:Int)=_
      unfold zjM
      rw[dqF (show ¬ (d.len:Int) < (d.len:Int) by omega),dqB])
    (λ k i hi=>by
      show zjN zaa d (zjP zaa d k) (i:Int)=_
      generalize zjP zaa d k=S
      unfold zjN ztJ goodD
      rw[dqT (show (i:Int) < (d.len:Int) by omega),dqA,dqN,ziO,dqT (show 0≤(i:Int)/\(i:Int) < (d.len:Int) by omega)]
      cases decide (0≤d.get i/\d.get i≤1000000000) <;> rfl)
    (λ k=>by
      show zjN zaa d (zjP zaa d k) (d.len:Int)=_
      unfold zjN
      rw[dqF (show ¬ (d.len:Int) < (d.len:Int) by omega),dqB]) (by omega)
  unfold zo2 zmq ztL ztK
  by_cases hg:∀ i,i < d.len->goodD d i=true
  · obtain ⟨k1, k2⟩ := hl.1 hg
    exact⟨k1.trans (h8 hg),λ _=>k2,λ h=>absurd hg h⟩
  · obtain ⟨k1, k2⟩ := hl.2 hg
    exact⟨k1,λ h=>absurd h hg,λ _=>k2⟩
theorem zKM (zaa:Sl Net) (d:Sl Int) (hl1:1≤zaa.len) (hd:d.len≤50) (hdn:(d.len:Int)=(zaa.get 0).Nodes) (h5:(∀ i,i < d.len->goodD d i=true)->zhV zaa d=true):zpj zaa d=true/\((∀ i,i < d.len->goodD d i=true)->zmu zaa d=zhU zaa d)/\((¬ ∀ i,i < d.len->goodD d i=true)->zmu zaa d=zw2):=by
  have hl := zgN (good := goodD d) (bad := zw2) (fin := zhU zaa d) (finP := zhV zaa d) (n := d.len) (lpS := zjY zaa d) (lpP := zjZ zaa d)
    (λ k i hi=>by
      show zjW zaa d (zjY zaa d k) (i:Int)=_
      generalize zjY zaa d k=S
      unfold zjW ztX goodD
      rw[dqT (show (i:Int) < (zaa.get 0).Nodes by omega),dqA,dqN,znr]
      cases decide (0≤d.get i/\d.get i≤1000000000) <;> rfl)
    (λ k=>by
      show zjW zaa d (zjY zaa d k) (d.len:Int)=_
      unfold zjW
      rw[dqF (show ¬ (d.len:Int) < (zaa.get 0).Nodes by omega),dqB])
    (λ k i hi=>by
      show zjX zaa d (zjZ zaa d k) (i:Int)=_
      generalize zjZ zaa d k=S
      unfold zjX ztY goodD
      rw[dqT (show (i:Int) < (zaa.get 0).Nodes by omega),dqA,dqN,znr,dqT (show 0≤(i:Int)/\(i:Int) < (d.len:Int) by omega)]
      cases decide (0≤d.get i/\d.get i≤1000000000) <;> rfl)
    (λ k=>by
      show zjX zaa d (zjZ zaa d k) (d.len:Int)=_
      unfold zjX
      rw[dqF (show ¬ (d.len:Int) < (zaa.get 0).Nodes by omega),dqB]) (by omega)
  unfold zpj zmu zt0 ztZ
  rw[dqT (show 0≤(0:Int)/\(0:Int) < (zaa.len:Int) by omega),Bool.true_and]
  by_cases hg:∀ i,i < d.len->goodD d i=true
  · obtain ⟨k1, k2⟩ := hl.1 hg
    exact⟨k1.trans (h5 hg),λ _=>k2,λ h=>absurd hg h⟩
  · obtain ⟨k1, k2⟩ := hl.2 hg
    exact⟨k1,λ h=>absurd h hg,λ _=>k2⟩
theorem zCF {zaa:Sl Net}{d:Sl Int}(hl1:1≤zaa.len) (hl10:zaa.len≤10) (hT:∀ j,j < zaa.len->(zaa.get j).Ties.len≤210) (hg:∀ j,j < zaa.len->zfR zaa j=true) (hdn:(d.len:Int)=(zaa.get 0).Nodes) (h0:d.get 0=0) (hd:∀ i,i < d.len->goodD d i=true):EpIn zaa d (zaa.get 0).Nodes:=by
 have hh:=λ j hj=>(ziR (hT j hj)).1 (hg j hj)
 exact⟨(hh 0 (by omega)).1.n1,(hh 0 (by omega)).1.n40,hl1,hl10,hh,rfl,hdn,h0,λ i hi=>of_decide_eq_true (hd i hi)⟩
theorem zrq (zaa:Sl Net) (d:Sl Int) (hd:d.len≤50) (hT:∀ j,j < zaa.len->(zaa.get j).Ties.len≤210):p61 zaa d=true/\p62 zaa d=true /\
    ((∃ e, e ≠ 0 ∧ s61 zaa d = ((⟨(0:Int), (⟨0, fun _ => default⟩ : (Sl Tie))⟩ : Net), e) ∧ s62 zaa d = ((⟨(0:Int), (⟨0, fun _ => default⟩ : (Sl Tie))⟩ : Net), e)) ∨
     (EpIn zaa d (zaa.get 0).Nodes/\s61 zaa d=epE (1+zaa.len * ((zaa.get 0).Nodes - 1)) (epT zaa (zaa.get 0).Nodes d)/\s62 zaa d=epE (1+zaa.len * ((zaa.get 0).Nodes - 1)) (epT zaa (zaa.get 0).Nodes d))):=by
  unfold p61 s61 p62 s62
  by_cases hl:(zaa.len:Int) > 10
  · rw[dqT hl];exact⟨rfl,rfl,.inl ⟨3,by decide,rfl,rfl⟩⟩
  rw[dqF hl]
  simp only[dqB]
  unfold ztR ztQ zt2 zt1
  by_cases hz:(zaa.len:Int)=0
  · rw[show ((zaa.len:Int) == (0:Int))=true from beq_iff_eq.2 hz];exact⟨rfl,rfl,.inl ⟨2,by decide,rfl,rfl⟩⟩
  rw[show ((zaa.len:Int) == (0:Int))=false from beq_eq_false_iff_ne.2 hz]
  simp only[dqB]
  have hl1:1≤zaa.len:=by omega
  have hl10:zaa.len≤10:=by omega
  have hin0:decide (0≤(0:Int)/\(0:Int) < (zaa.len:Int))=true:=dqT (by omega)
  obtain⟨q1,q2⟩:=zns (zaa.get 0) (by have:=hT 0 (by omega);omega)
  -- the program looks at the zaa first
  have hlp := zgN (good := zfR zaa) (bad := zw2) (fin := zo3 zaa d) (finP := zo4 zaa d) (n := zaa.len) (lpS := zjS zaa d) (lpP := zjT zaa d)
    (λ k i hi=>by
      show zjQ zaa d (zjS zaa d k) (i:Int)=_
      generalize zjS zaa d k=S
      unfold zjQ zo5 zfR
      rw[dqT (show (i:Int) < (zaa.len:Int) by omega),dqA,dqN]
      show cond (!(s67 (zaa.get i))) _ (cond (!((zaa.get i).Nodes == (zaa.get 0).Nodes)) _ _)=_
      cases s67 (zaa.get i) <;> cases ((zaa.get i).Nodes == (zaa.get 0).Nodes) <;> rfl)
    (λ k=>by
      show zjQ zaa d (zjS zaa d k) (zaa.len:Int)=_
      unfold zjQ
      rw[dqF (show ¬ (zaa.len:Int) < (zaa.len:Int) by omega),dqB])
    (λ k i hi=>by
      show zjR zaa d (zjT zaa d k) (i:Int)=_
      generalize zjT zaa d k=S
      unfold zjR zo6 zfR
      rw[dqT (show (i:Int) < (zaa.len:Int) by omega),dqA,dqN,dqT (show 0≤(i:Int)/\(i:Int) < (zaa.len:Int) by omega),(zv3 (zaa.get i) (by have:=hT i hi;omega)).1]
      show (true && (decide (true=true) && cond (!(s67 (zaa.get i))) _ (cond (!((zaa.get i).Nodes == (zaa.get 0).Nodes)) _ _)))=_
      cases s67 (zaa.get i) <;> cases ((zaa.get i).Nodes == (zaa.get 0).Nodes) <;> rfl)
    (λ k=>by
      show zjR zaa d (zjT zaa d k) (zaa.len:Int)=_
      unfold zjR
      rw[dqF (show ¬ (zaa.len:Int) < (zaa.len:Int) by omega),dqB]) (by omega)
  unfold ztP ztO ztN ztM
  rw[hin0,q1,q2]
  simp only[Bool.true_and,decide_true]
  by_cases hg:∀ j,j < zaa.len->zfR zaa j=true
  · obtain ⟨k1, k2⟩ := hlp.1 hg
    rw[k1,k2]
    have hh:=λ j hj=>(ziR (hT j hj)).1 (hg j hj)
    have hn0:=(hh 0 (by omega)).1
    have hn1:=hn0.n1
    have hs0:s67 (zaa.get 0)=true:=by
      have:=hg 0 (by omega);unfold zfR at this;rw[Bool.and_eq_true] at this;exact this.1
    rw[hs0]
    unfold zo4 zo3 zhX zhW
    simp only[Bool.not_true,dqB]
    by_cases hdn:(d.len:Int)=(zaa.get 0).Nodes
    · rw [show ((d.len : Int) != (zaa.get 0).Nodes) = false by rw [hdn]; exact bne_self_eq_false _, dqT (show 0 ≤ (0:Int) ∧ (0:Int) < (d.len : Int) by omega)]
      simp only[dqB,Bool.true_and]
      by_cases h0:d.get 0=0
      · rw [show (d.get 0 != (0:Int)) = false by rw [h0]; rfl]
        simp only[dqB]
        obtain⟨a1,a2,a3⟩:=zPI zaa d hd (λ hgd=>(zGp zaa d _ (zCF hl1 hl10 hT hg hdn h0 hgd)).1)
        by_cases hgd:∀ i,i < d.len->goodD d i=true
        · have hE := zCF hl1 hl10 hT hg hdn h0 hgd
          obtain⟨b1,b2⟩:=(zGr zaa d hl1 hl10 hT hn0).1 hg hE
          obtain⟨c1,c2,_⟩:=zKM zaa d hl1 hd hdn (λ _=>b1)
          exact⟨a1,c1,.inr ⟨hE,(a2 hgd).trans (zGp zaa d _ hE).2,(c2 hgd).trans b2⟩⟩
        · obtain ⟨c1, _, c3⟩ := zKM zaa d hl1 hd hdn (fun h => absurd h hgd)
          exact⟨a1,c1,.inl ⟨2,by decide,a3 hgd,c3 hgd⟩⟩
      · rw[bne_iff_ne.2 h0];exact⟨rfl,rfl,.inl ⟨2,by decide,rfl,rfl⟩⟩
    · rw[bne_iff_ne.2 hdn];exact⟨rfl,rfl,.inl ⟨2,by decide,rfl,rfl⟩⟩
  · obtain ⟨k1, k2⟩ := hlp.2 hg
    rw[k1,k2]
    unfold zhX zhW
    cases hs0:s67 (zaa.get 0)
    · exact⟨rfl,rfl,.inl ⟨2,by decide,rfl,rfl⟩⟩
    simp only[Bool.not_true,dqB]
    have hn0:=(zj8 (zaa.get 0) (by have:=hT 0 (by omega);omega)).2.1 hs0
    have hn1:=hn0.n1
    by_cases hdn:(d.len:Int)=(zaa.get 0).Nodes
    · rw [show ((d.len : Int) != (zaa.get 0).Nodes) = false by rw [hdn]; exact bne_self_eq_false _, dqT (show 0 ≤ (0:Int) ∧ (0:Int) < (d.len : Int) by omega)]
      simp only[dqB,Bool.true_and]
      by_cases h0:d.get 0=0
      · rw [show (d.get 0 != (0:Int)) = false by rw [h0]; rfl]
        simp only[dqB]
        obtain⟨b1,b2⟩:=(zGr zaa d hl1 hl10 hT hn0).2 hg
        obtain⟨c1,c2,c3⟩:=zKM zaa d hl1 hd hdn (λ _=>b1)
        refine⟨trivial,c1,.inl ⟨2,by decide,rfl,?_⟩⟩
        by_cases hgd:∀ i,i < d.len->goodD d i=true
        · exact (c2 hgd).trans b2
        · exact c3 hgd
      · rw[bne_iff_ne.2 h0];exact⟨trivial,rfl,.inl ⟨2,by decide,rfl,rfl⟩⟩
    · rw[bne_iff_ne.2 hdn];exact⟨trivial,rfl,.inl ⟨2,by decide,rfl,rfl⟩⟩
end Go.Proofs
namespace Go.Proofs
open Go Go.Pm
set_option maxRecDepth 100000
set_option linter.unusedVariables false
def Mem (v:Sl Tie) (t:Tie):Prop:=∃ k,k < v.len/\v.get k=t
theorem zGs (l:Nat->Tie) (i:Nat) (v:Sl Tie) (t:Tie):Mem (apL l i v) t↔Mem v t∨t=l i:=by
 have e:∀ k,(apL l i v).get k=if v.len≤k then l i else v.get k:=λ k=>zKL v.len v.get (l i) k
 constructor
 ·rintro ⟨k, h1, h2⟩
  rw[e] at h2
  by_cases h:v.len≤k
  ·rw[dqP h] at h2;exact .inr h2.symm
  ·rw[dqG h] at h2;exact .inl ⟨k,by omega,h2⟩
 ·rintro (⟨k, h1, h2⟩ | h)
  ·exact⟨k,by show k < v.len+1;omega,by rw[e,dqG (by omega)];exact h2⟩
  ·exact⟨v.len,Nat.lt_succ_self _,by rw[e,dqP (Nat.le_refl _)];exact h.symm⟩
theorem zk4 {step:Nat->Sl Tie->Sl Tie}{R:Nat->Tie->Prop}(h:∀ j v t,Mem (step j v) t↔Mem v t∨R j t):∀ (m i:Nat) (v:Sl Tie) (t:Tie),Mem (zdg step m i v) t↔Mem v t∨∃ j,i≤j/\j < i+m/\R j t:=by
 intro m
 induction m with
 | zero=>intro i v t;exact⟨.inl,λ hh=>hh.elim id λ ⟨j,a,b,_⟩=>absurd b (by omega)⟩
 | succ m ih =>
  intro i v t
  show Mem (zdg step m (i+1) (step i v)) t↔_
  rw[ih,h]
  constructor
  ·rintro ((a | a) | ⟨j, a, b, c⟩)
   ·exact .inl a
   ·exact .inr ⟨i,Nat.le_refl _,by omega,a⟩
   ·exact .inr ⟨j,by omega,by omega,c⟩
  ·rintro (a | ⟨j, a, b, c⟩)
   ·exact .inl (.inl a)
   ·by_cases hj : j = i
    ·subst hj;exact .inl (.inr c)
    ·exact .inr ⟨j,by omega,by omega,c⟩
theorem zCG (zaa:Sl Net) (N:Int) (d:Sl Int) (t:Tie):Mem (epT zaa N d) t↔(∃ j q,j < zaa.len/\q < (zaa.get j).Ties.len/\t=mvT N j ((zaa.get j).Ties.get q))∨(∃ j i,j < zaa.len - 1/\1≤i/\i < N.toNat/\t=drT N d j i):=by
 have a1:=λ j v t=>zk4 (step:=apL (drT N d j)) (R:=λ i t=>t=drT N d j i) (λ i v t=>zGs _ i v t) (N.toNat - 1) 1 v t
 have a2:=λ j v t=>zk4 (step:=apL (zwV zaa N j)) (R:=λ i t=>t=zwV zaa N j i) (λ i v t=>zGs _ i v t) (zaa.get j).Ties.len 0 v t
 have a3:=zk4 (step:=drS N d) (R:=λ j t=>∃ i,1≤i/\i < 1+(N.toNat - 1)/\t=drT N d j i) (λ j v t=>a1 j v t) (zaa.len - 1) 0 (epN zaa N) t
 have a4:=zk4 (step:=zw1 zaa N) (R:=λ j t=>∃ i,0≤i/\i < 0+(zaa.get j).Ties.len/\t=zwV zaa N j i) (λ j v t=>a2 j v t) zaa.len 0 (⟨0,λ _=>default⟩:Sl Tie) t
 have e0 : ¬ Mem (⟨0,λ _=>default⟩:Sl Tie) t:=λ ⟨k,h,_⟩=>absurd h (Nat.not_lt_zero _)
 refine a3.trans ?_
 rw[show Mem (epN zaa N) t↔_ from a4]
 constructor
 ·rintro ((h | ⟨j, _, h1, i, _, h2, h3⟩) | ⟨j, _, h1, i, h2, h3, h4⟩)
  ·exact absurd h e0
  ·exact .inl ⟨j,i,by omega,by omega,h3⟩
  ·exact .inr ⟨j,i,by omega,h2,by omega,h4⟩
 ·rintro (⟨j, q, h1, h2, h3⟩ | ⟨j, i, h1, h2, h3, h4⟩)
  ·exact .inl (.inr ⟨j,by omega,by omega,q,by omega,by omega,h3⟩)
  ·exact .inr ⟨j,by omega,by omega,i,h2,by omega,h4⟩
theorem zpT {N:Int}(hN:1≤N){a b:Nat}(h:a < b):(a:Int) * (N - 1)+(N - 1)≤(b:Int) * (N - 1):=by
 have:=Int.mul_le_mul_of_nonneg_right (show (a:Int)+1≤(b:Int) by omega) (show 0≤N - 1 by omega)
 rw[Int.add_mul,Int.one_mul] at this;exact this
theorem zCH {N:Int}(hN:1≤N){j j':Nat}{i i':Int}(h0:0≤i) (h1:i < N) (h0':0≤i') (h1':i' < N) (h:nd N j i=nd N j' i'):(i=0/\i'=0)∨(j=j'/\i=i'):=by
 have p1:=Int.mul_nonneg (show (0:Int)≤j by omega) (show (0:Int)≤N - 1 by omega)
 have p2:=Int.mul_nonneg (show (0:Int)≤j' by omega) (show (0:Int)≤N - 1 by omega)
 unfold nd at h
 by_cases hi:i=0
 ·rw [dqP hi] at h
  by_cases hi':i'=0
  ·exact .inl ⟨hi,hi'⟩
  ·rw[dqG hi'] at h;omega
 ·rw [dqG hi] at h
  by_cases hi':i'=0
  ·rw[dqP hi'] at h;omega
  ·rw [dqG hi'] at h
   rcases Nat.lt_trichotomy j j' with hj | hj | hj
   ·have:=zpT hN hj;omega
   ·subst hj;exact .inr ⟨rfl,by omega⟩
   ·have:=zpT hN hj;omega
theorem zmQ {N:Int}(hN:1≤N){j J:Nat}(hj:j < J){i:Int}(h0:0≤i) (h1:i < N):0≤nd N j i/\nd N j i < 1+J * (N - 1):=by
 have p1:=Int.mul_nonneg (show (0:Int)≤j by omega) (show (0:Int)≤N - 1 by omega)
 have:=zpT hN hj
 unfold nd
 by_cases hi:i=0
 ·rw[dqP hi];omega
 ·rw[dqG hi];omega
theorem zNO {zaa:Sl Net}{d:Sl Int}{N:Int}(h:EpIn zaa d N) (h1:1+(zaa.len:Int) * (N - 1)≤40) (h2:(epT zaa N d).len≤200):NetOk (⟨1+(zaa.len:Int) * (N - 1),epT zaa N d⟩:Net):=by
 have n1:=h.n1
 have p:=Int.mul_nonneg (show (0:Int)≤zaa.len by omega) (show (0:Int)≤N - 1 by omega)
 refine⟨by show 1≤1+(zaa.len:Int) * (N - 1);omega,h1,h2,λ k hk=>?_⟩
 show TieOk ((epT zaa N d).get k) (1+(zaa.len:Int) * (N - 1))
 rcases (zCG zaa N d _).1 ⟨k,hk,rfl⟩ with ⟨j,q,hj,hq,e⟩ | ⟨j,i,hj,hi1,hi2,e⟩
 ·obtain ⟨hn, hnN⟩ := h.net j hj
  have t:=hn.tie q hq
  rw[hnN] at t
  obtain⟨a1,a2⟩:=zmQ n1 hj t.f0 t.f1
  obtain⟨b1,b2⟩:=zmQ n1 hj t.t0 t.t1
  rw[e]
  exact⟨a1,a2,b1,b2,λ hh=>t.ne ((zCH n1 t.f0 t.f1 t.t0 t.t1 hh).elim (λ x=>x.1.trans x.2.symm) λ x=>x.2),t.lo,t.hi,t.le⟩
 ·have hdb := h.db i (by have := h.dl; omega)
  obtain⟨a1,a2⟩:=zmQ n1 (show j < zaa.len by omega) (show (0:Int)≤(i:Int) by omega) (show (i:Int) < N by omega)
  obtain⟨b1,b2⟩:=zmQ n1 (show j+1 < zaa.len by omega) (show (0:Int)≤(i:Int) by omega) (show (i:Int) < N by omega)
  rw[e]
  exact⟨a1,a2,b1,b2,λ hh=>(zCH n1 (by omega) (by omega) (by omega) (by omega) hh).elim (λ x=>by omega) λ x=>by omega,.inr ⟨by show -1000000000≤-(d.get i);omega,by show -(d.get i)≤1000000000;omega⟩,.inr ⟨by show -1000000000≤d.get i;omega,hdb.2⟩,by show -(d.get i)≤d.get i;omega⟩
structure AllOk (zaa : Sl Net) (cl : Nat → Nat → Int) (N : Int) (v : Sl Int) : Prop where
  len:(v.len:Int)=1+(zaa.len:Int) * (N - 1)
  at_:∀ j i:Nat,j < zaa.len->(i:Int) < N->v.get (nd N j i).toNat=cl j i
  b:∀ k,-1000000000000≤v.get k/\v.get k≤1000000000000
theorem zCI {zaa : Sl Net} {d : Sl Int} {N : Int} (h : EpIn zaa d N) (c : Nat → Sl Int) (hc : ∀ j, j < zaa.len → AgOk (zaa.get j) (c j)) (hd : ∀ j i : Nat, j + 1 < zaa.len → (i : Int) < N → (c (j + 1)).get i - (c j).get i ≤ d.get i ∧ (c j).get i - (c (j + 1)).get i ≤ d.get i)
    {v:Sl Int} (hv:AllOk zaa (λ j i=>(c j).get i) N v):AgOk (⟨1+(zaa.len:Int) * (N - 1),epT zaa N d⟩:Net) v:=by
  have n1:=h.n1;have l1:=h.l1
  have z:=hv.at_ 0 0 (by omega) (by omega)
  refine⟨⟨hv.len,?_,λ i _=>hv.b i⟩,λ k hk=>?_⟩
  · have e : (nd N 0 ((0 : Nat) : Int)).toNat = 0 := rfl
    rw[e] at z
    exact z.trans (hc 0 (by omega)).val.zero
  · show Keep ((epT zaa N d).get k) v
    rcases (zCG zaa N d _).1 ⟨k,hk,rfl⟩ with ⟨j,q,hj,hq,e⟩ | ⟨j,i,hj,hi1,hi2,e⟩
    · obtain ⟨hn, hnN⟩ := h.net j hj
      have t:=hn.tie q hq
      rw[hnN] at t
      have t0:=t.f0;have t1:=t.f1;have t2:=t.t0;have t3:=t.t1
      have k1:=(hc j hj).keep q hq
      have e1:=hv.at_ j ((zaa.get j).Ties.get q).From.toNat hj (by omega)
      have e2:=hv.at_ j ((zaa.get j).Ties.get q).To.toNat hj (by omega)
      rw[Int.toNat_of_nonneg t0] at e1
      rw[Int.toNat_of_nonneg t2] at e2
      rw[e]
      show (((zaa.get j).Ties.get q).Low = -1000000000000∨((zaa.get j).Ties.get q).Low≤v.get (nd N j ((zaa.get j).Ties.get q).To).toNat - v.get (nd N j ((zaa.get j).Ties.get q).From).toNat)/\(((zaa.get j).Ties.get q).High=1000000000000∨v.get (nd N j ((zaa.get j).Ties.get q).To).toNat - v.get (nd N j ((zaa.get j).Ties.get q).From).toNat≤((zaa.get j).Ties.get q).High)
      rw[e1,e2];exact k1
    · have e1 := hv.at_ j i (by omega) (by omega)
      have e2:=hv.at_ (j+1) i (by omega) (by omega)
      have hdd:=hd j i (by omega) (by omega)
      rw[e]
      show (-(d.get i) = -1000000000000∨-(d.get i)≤v.get (nd N (j+1) i).toNat - v.get (nd N j i).toNat)/\(d.get i=1000000000000∨v.get (nd N (j+1) i).toNat - v.get (nd N j i).toNat≤d.get i)
      rw[e1,e2]
      exact⟨.inr (by show -(d.get i)≤(c (j+1)).get i - (c j).get i;omega),.inr hdd.1⟩
theorem zPJ {zaa:Sl Net}{d:Sl Int}{N:Int}(h:EpIn zaa d N) (hE:NetOk (⟨1+(zaa.len:Int) * (N - 1),epT zaa N d⟩:Net)) {j:Nat}(hj:j < zaa.len){c:List Ed} : ∀ {a b:Nat},zhy (En (zaa.get j)) a c b->∃ c',zhy (En (⟨1+(zaa.len:Int) * (N - 1),epT zaa N d⟩:Net)) (nd N j a).toNat c' (nd N j b).toNat/\wt c'=wt c:=by
 obtain⟨hn,hnN⟩:=h.net j hj
 induction c with
 | nil=>intro a b hh;cases hh;exact⟨[],rfl,rfl⟩
 | cons e l ih =>
  rintro a b ⟨h1,h2,h3⟩
  obtain⟨c',k1,k2⟩:=ih h3
  obtain⟨q,hq,_,ho⟩:=(zCy (a:=W (zaa.get j)) hn).1 h1
  have hq':q < (zaa.get j).Ties.len:=hq
  have t:=hn.tie q hq'
  obtain⟨k,hk,hkk⟩:=(zCG zaa N d (mvT N j ((zaa.get j).Ties.get q))).2 (.inl ⟨j,q,hj,hq',rfl⟩)
  have f0:=t.f0;have t0:=t.t0
  refine⟨⟨(nd N j e.u).toNat,(nd N j e.v).toNat,e.w⟩ :: c',⟨(zCy (a:=W (⟨1+(zaa.len:Int) * (N - 1),epT zaa N d⟩:Net)) hE).2 ⟨k,hk,rfl,?_⟩,by rw[← h2],k1⟩,by show e.w+wt c'=e.w+wt l;rw[k2]⟩
  show (((epT zaa N d).get k).High ≠ 1000000000000/\_=(⟨((epT zaa N d).get k).From.toNat,((epT zaa N d).get k).To.toNat,((epT zaa N d).get k).High⟩:Ed))∨(((epT zaa N d).get k).Low ≠ -1000000000000/\_=(⟨((epT zaa N d).get k).To.toNat,((epT zaa N d).get k).From.toNat,-((epT zaa N d).get k).Low⟩:Ed))
  rw[hkk]
  rcases ho with ⟨h4,rfl⟩ | ⟨h4,rfl⟩
  ·refine .inl ⟨h4, ?_⟩
   show (⟨(nd N j (((zaa.get j).Ties.get q).From.toNat:Nat)).toNat,(nd N j (((zaa.get j).Ties.get q).To.toNat:Nat)).toNat,((zaa.get j).Ties.get q).High⟩:Ed)=⟨(nd N j ((zaa.get j).Ties.get q).From).toNat,(nd N j ((zaa.get j).Ties.get q).To).toNat,((zaa.get j).Ties.get q).High⟩
   rw[Int.toNat_of_nonneg f0,Int.toNat_of_nonneg t0]
  ·refine .inr ⟨h4, ?_⟩
   show (⟨(nd N j (((zaa.get j).Ties.get q).To.toNat:Nat)).toNat,(nd N j (((zaa.get j).Ties.get q).From.toNat:Nat)).toNat,-((zaa.get j).Ties.get q).Low⟩:Ed)=⟨(nd N j ((zaa.get j).Ties.get q).To).toNat,(nd N j ((zaa.get j).Ties.get q).From).toNat,-((zaa.get j).Ties.get q).Low⟩
   rw[Int.toNat_of_nonneg f0,Int.toNat_of_nonneg t0]
theorem zNP {zaa:Sl Net}{d:Sl Int}{N:Int}(h:EpIn zaa d N) (hE:NetOk (⟨1+(zaa.len:Int) * (N - 1),epT zaa N d⟩:Net)) (hN:zce (En (⟨1+(zaa.len:Int) * (N - 1),epT zaa N d⟩:Net))) {j:Nat}(hj:j < zaa.len) (hj':zce (En (zaa.get j))) {a b:Nat}(ha:(a:Int) < N):fr (⟨1+(zaa.len:Int) * (N - 1),epT zaa N d⟩:Net) (nd N j a).toNat (nd N j b).toNat≤fr (zaa.get j) a b:=by
 obtain⟨hn,hnN⟩:=h.net j hj
 have hs:=zmQ h.n1 hj (show (0:Int)≤(a:Int) by omega) ha
 have hs':(nd N j a).toNat < (1+(zaa.len:Int) * (N - 1)).toNat:=by omega
 have hEd:EdOk (En (zaa.get j)) (zaa.get j).Nodes.toNat:=zGn (a:=W (zaa.get j)) hn
 have hEd':EdOk (En (⟨1+(zaa.len:Int) * (N - 1),epT zaa N d⟩:Net)) (1+(zaa.len:Int) * (N - 1)).toNat:=zGn (a:=W (⟨1+(zaa.len:Int) * (N - 1),epT zaa N d⟩:Net)) hE
 have hb:=zpR hE hN (i:=(nd N j a).toNat) (j:=(nd N j b).toNat) hs'
 rcases zdv (v:=b) hEd hj' (show a < (zaa.get j).Nodes.toNat by rw[hnN];omega) with ⟨_,h2⟩ | ⟨c,_,h1,h2,_⟩
 ·have : fr (zaa.get j) a b = 1000000000000 := h2
  omega
 ·obtain ⟨c', k1, k2⟩ := zPJ h hE hj h1
  have:fr (zaa.get j) a b=wt c:=h2
  rw[this,← k2]
  exact zuh hEd' hN hs' k1
end Go.Proofs
namespace Go.Proofs
open Go Go.Pm
set_option maxRecDepth 100000
set_option linter.unusedVariables false
def zkK (c:Sl (Sl Int)) (d:Sl Int) (j i:Nat):Bool:=decide (j=0) || (decide ((c.get j).get i - (c.get (j - 1)).get i≤d.get i) && decide ((c.get (j - 1)).get i - (c.get j).get i≤d.get i))
def zwW (c:Sl (Sl Int)) (d:Sl Int) (N:Int) (j:Nat):Bool:=(List.range N.toNat).all λ i=>zkK c d j i
theorem zgR {c:Sl (Sl Int)}{d:Sl Int}{N:Int}{j:Nat} : zwW c d N j=true↔∀ i,i < N.toNat->zkK c d j i=true:=by
 unfold zwW
 rw[List.all_eq_true]
 exact⟨λ h i hi=>h i (List.mem_range.2 hi),λ h i hi=>h i (List.mem_range.1 hi)⟩
def zKN (c:Sl (Sl Int)) (N:Int) (j i:Nat) (v:Sl Int):Sl Int:=⟨v.len,setT (nd N j i).toNat ((c.get j).get i) v.get⟩
def zGt (c:Sl (Sl Int)) (N:Int) (j:Nat) (v:Sl Int):Sl Int:=zdg (zKN c N j) N.toNat 0 v
structure Wr (c : Sl (Sl Int)) (N : Int) (T : Nat) (J I : Nat) (v : Sl Int) : Prop where
  len:v.len=T
  at_:∀ j i:Nat,(i:Int) < N->(j < J∨(j=J/\i < I))->v.get (nd N j i).toNat=(c.get j).get i
  b:∀ k,-1000000000000≤v.get k/\v.get k≤1000000000000
theorem zGu {c:Sl (Sl Int)}{N:Int}{T J I:Nat}{v:Sl Int}(hN:1≤N) (hI:(I:Int) < N) (hb : -1000000000000≤(c.get J).get I/\(c.get J).get I≤1000000000000) (h0:∀ j,j≤J->(c.get j).get 0=0) (h:Wr c N T J I v):Wr c N T J (I+1) (zKN c N J I v):=by
 refine⟨h.len,λ j i hi hh=>?_,λ k=>?_⟩
 ·show setT (nd N J I).toNat ((c.get J).get I) v.get (nd N j i).toNat = _
  rw[zul]
  have hjJ:j≤J:=by omega
  have a1:=zmQ hN (Nat.lt_succ_self j) (show (0:Int)≤(i:Int) by omega) hi
  have a2:=zmQ hN (Nat.lt_succ_self J) (show (0:Int)≤(I:Int) by omega) hI
  by_cases he:(nd N j i).toNat=(nd N J I).toNat
  ·rw [dqP he]
   rcases zCH hN (show (0:Int)≤(i:Int) by omega) hi (show (0:Int)≤(I:Int) by omega) hI (show nd N j i=nd N J I by omega) with ⟨e1,e2⟩ | ⟨e1,e2⟩
   ·have e1' : i = 0 := by omega
    have e2':I=0:=by omega
    subst e1' e2'
    rw[h0 J (Nat.le_refl _),h0 j hjJ]
   ·have e2' : i = I := by omega
    subst e1 e2';rfl
  ·rw [dqG he]
   refine h.at_ j i hi ?_
   rcases hh with hh | ⟨hh1,hh2⟩
   ·exact .inl hh
   ·by_cases hiI : i = I
    ·subst hiI hh1;exact absurd rfl he
    ·exact .inr ⟨hh1,by omega⟩
 ·show -1000000000000 ≤ setT (nd N J I).toNat ((c.get J).get I) v.get k ∧ setT (nd N J I).toNat ((c.get J).get I) v.get k ≤ 1000000000000
  rw[zul]
  by_cases he:k=(nd N J I).toNat
  ·rw[dqP he];exact hb
  ·rw[dqG he];exact h.b k
theorem zKO {c:Sl (Sl Int)}{N:Int}{T J:Nat}{v:Sl Int}(h:Wr c N T J N.toNat v):Wr c N T (J+1) 0 v :=
  ⟨h.len, fun j i hi hh => h.at_ j i hi (by rcases hh with hh | ⟨_, hh⟩
                                            · by_cases hj : j = J
                                              · exact .inr ⟨hj,by omega⟩
                                              · exact .inl (by omega)
                                            · exact absurd hh (Nat.not_lt_zero _)),h.b⟩
structure DrOk (zaa : Sl Net) (d : Sl Int) (c : Sl (Sl Int)) (N : Int) : Prop where
  ep:EpIn zaa d N
  l4:zaa.len≤4
  cl:c.len=zaa.len
  ag:∀ j,j < zaa.len->AgOk (zaa.get j) (c.get j)
  out:1+(zaa.len:Int) * (N - 1)≤40
  tl:(epT zaa N d).len≤200
  s61:p61 zaa d=true/\s61 zaa d=((⟨1+(zaa.len:Int) * (N - 1),epT zaa N d⟩:Net),0)
theorem zKP {zaa:Sl Net}{d:Sl Int}{c:Sl (Sl Int)}{N:Int}(h:DrOk zaa d c N){j i:Nat}(hj:j < zaa.len) (hi:(i:Int) < N):(c.get j).len=N.toNat/\-1000000000000≤(c.get j).get i/\(c.get j).get i≤1000000000000:=by
 have a:=(h.ag j hj).val
 have e:=(h.ep.net j hj).2
 have hl:=a.len
 exact⟨by omega,a.b i (by omega)⟩
theorem zNQ {zaa : Sl Net} {d : Sl Int} {c : Sl (Sl Int)} {N : Int} (h : DrOk zaa d c N) (hg : ∀ j i : Nat, j + 1 < zaa.len → (i : Int) < N → (c.get (j + 1)).get i - (c.get j).get i ≤ d.get i ∧ (c.get j).get i - (c.get (j + 1)).get i ≤ d.get i) {v : Sl Int} (hv : AllOk zaa (fun j i => (c.get j).get i) N v) :
    zmx zaa d c v=true/\zmw zaa d c v=true:=by
  have n1:=h.ep.n1;have n40:=h.ep.n40;have l1:=h.ep.l1;have l4:=h.l4;have hN0:=h.ep.N0
  have hE:=zNO h.ep h.out h.tl
  have hag:=zCI h.ep (λ j=>c.get j) h.ag hg hv
  have hNN:=zgQ hE hag
  have hs:=(zj8 (⟨1+(zaa.len:Int) * (N - 1),epT zaa N d⟩:Net) (by show (epT zaa N d).len≤_;have:=h.tl;omega)).2.2 hE
  have hvl:=hv.len
  have hout:=h.out
  obtain⟨c1,c2⟩:=zKA _ v hE hs (by omega)
  have c3:=c2.2 hag
  obtain⟨b1,b,b2,b3,b4⟩:=zro (by show (epT zaa N d).len≤_;have:=h.tl;omega) hE hNN
  have b3':b.len=(1+(zaa.len:Int) * (N - 1)).toNat:=b3
  have hb:∀ j i:Nat,j < zaa.len->(i:Int) < N->(nd N j i).toNat < b.len/\(b.get (nd N j i).toNat).Low = -fr (⟨1+(zaa.len:Int) * (N - 1),epT zaa N d⟩:Net) (nd N j i).toNat 0/\(b.get (nd N j i).toNat).High=fr (⟨1+(zaa.len:Int) * (N - 1),epT zaa N d⟩:Net) 0 (nd N j i).toNat:=λ j i hj hi=>by
    have:=zmQ n1 hj (show (0:Int)≤(i:Int) by omega) hi
    have hlt:(nd N j i).toNat < (1+(zaa.len:Int) * (N - 1)).toNat:=by omega
    rw[b4 _ hlt]
    exact⟨by omega,rfl,rfl⟩
  -- one epoch
  have inner:∀ (S15:Int->Bool) (P15:Int->Bool) (j:Nat),j < zaa.len->zhi zaa c b P15 (j:Int)=P15 (w64 ((j:Int)+(1:Int)))/\zhh zaa c b S15 (j:Int)=S15 (w64 ((j:Int)+(1:Int))):=by
    intro S15 P15 j hj
    obtain⟨hn,hnN⟩:=h.ep.net j hj
    have hj':=zgQ hn (h.ag j hj)
    obtain⟨o1,o,o2,o3,o4⟩:=zro (by have:=hn.len;omega) hn hj'
    rw[hnN] at o3 o4
    have hgood:∀ i,i < N.toNat->(o.get i).Low≤(b.get (nd N j i).toNat).Low/\(b.get (nd N j i).toNat).High≤(o.get i).High/\(b.get (nd N j i).toNat).Low≤(c.get j).get i/\(c.get j).get i≤(b.get (nd N j i).toNat).High:=λ i hi=>by
      have hi':(i:Int) < N:=by omega
      obtain⟨x1,x2,x3⟩:=hb j i hj hi'
      have e0:(nd N j ((0:Nat):Int)).toNat=0:=rfl
      have f1:=zNP h.ep hE hNN hj hj' (a:=i) (b:=0) hi'
      have f2:=zNP h.ep hE hNN hj hj' (a:=0) (b:=i) (by omega)
      rw[e0] at f1 f2
      have g:=zCD hE hag (i:=(nd N j i).toNat) (by show _ < (1+(zaa.len:Int) * (N - 1)).toNat;omega)
      rw[hv.at_ j i hj hi'] at g
      rw[x2,x3,o4 i hi]
      exact⟨by show -fr (zaa.get j) i 0≤_;omega,f2,g.1,g.2⟩
    have hl := zgN (good := fun _ => true) (bad := false) (fin := S15 (w64 ((j : Int) + (1:Int)))) (finP := P15 (w64 ((j : Int) + (1:Int)))) (n := N.toNat) (lpS := fun k i => zfP S15 zaa c b o k (j : Int) i) (lpP := fun k i => zfQ P15 zaa c b o k (j : Int) i)
      (λ k i hi=>by
        show zhf S15 zaa c b o (zfP S15 zaa c b o k) (j:Int) (i:Int)=zfP S15 zaa c b o k (j:Int) (w64 ((i:Int)+(1:Int)))
        generalize zfP S15 zaa c b o k=S
        obtain⟨g1,g2,g3,g4⟩:=hgood i hi
        unfold zhf zpl
        rw[hN0,dqT (show (i:Int) < N by omega),dqA,zfZ n1 n40 (j:=j) (by omega) (by omega) (by omega),dqN,dqN,dqF (Int.not_lt.2 g1),dqF (show ¬ (b.get (nd N j i).toNat).High > (o.get i).High from Int.not_lt.2 g2),dqF (Int.not_lt.2 g3),dqF (show ¬ (c.get j).get i > (b.get (nd N j i).toNat).High from Int.not_lt.2 g4)]
        rfl)
      (λ k=>by
        show zhf S15 zaa c b o (zfP S15 zaa c b o k) (j:Int) (N.toNat:Int)=_
        unfold zhf
        rw[hN0,dqF (show ¬ (N.toNat:Int) < N by omega),dqB])
      (λ k i hi=>by
        show zhg P15 zaa c b o (zfQ P15 zaa c b o k) (j:Int) (i:Int)=zfQ P15 zaa c b o k (j:Int) (w64 ((i:Int)+(1:Int)))
        generalize zfQ P15 zaa c b o k=S
        obtain⟨g1,g2,g3,g4⟩:=hgood i hi
        have hi':(i:Int) < N:=by omega
        have hbl:=(hb j i hj hi').1
        have hnd:=zmQ n1 hj (show (0:Int)≤(i:Int) by omega) hi'
        have hcl:=(zKP h hj hi').1
        have hcc:=h.cl
        unfold zhg zpm
        rw[hN0,dqT (show (i:Int) < N by omega),dqA,zfZ n1 n40 (j:=j) (by omega) (by omega) (by omega),dqN,dqN,dqF (Int.not_lt.2 g1),dqF (show ¬ (b.get (nd N j i).toNat).High > (o.get i).High from Int.not_lt.2 g2),dqF (Int.not_lt.2 g3),dqF (show ¬ (c.get j).get i > (b.get (nd N j i).toNat).High from Int.not_lt.2 g4),
          dqT (show 0≤nd N j i/\nd N j i < (b.len:Int) by omega),dqT (show 0≤(i:Int)/\(i:Int) < (o.len:Int) by omega),dqT (show 0≤(j:Int)/\(j:Int) < (c.len:Int) by omega),dqT (show 0≤(i:Int)/\(i:Int) < ((c.get j).len:Int) by omega)]
        rfl)
      (λ k=>by
        show zhg P15 zaa c b o (zfQ P15 zaa c b o k) (j:Int) (N.toNat:Int)=_
        unfold zhg
        rw[hN0,dqF (show ¬ (N.toNat:Int) < N by omega),dqB]) (by omega)
    obtain⟨k1,k2⟩:=hl.1 (λ _ _=>rfl)
    unfold zhi zhh
    rw[dqT (show (j:Int) < (zaa.len:Int) by omega),dqA,dqA,dqN,dqT (show 0≤(j:Int)/\(j:Int) < (zaa.len:Int) by omega),o1,o2]
    unfold zps zpr
    have ol:(o.len:Int)=N:=by omega
    simp only[decide_true,Bool.true_and,bne_self_eq_false,dqB,hN0,ol]
    unfold zpq zpp zpo zpn
    exact⟨k1,k2⟩
  have hl := zgN (good := fun _ => true) (bad := false) (fin := true) (finP := true) (n := zaa.len) (lpS := ziJ zaa c b) (lpP := ziK zaa c b)
    (λ k i hi=>(inner (ziJ zaa c b k) (λ _=>true) i hi).2)
    (λ k=>by
      show zhh zaa c b (ziJ zaa c b k) (zaa.len:Int)=_
      unfold zhh
      rw[dqF (show ¬ (zaa.len:Int) < (zaa.len:Int) by omega),dqB])
    (λ k i hi=>(inner (λ _=>true) (ziK zaa c b k) i hi).1)
    (λ k=>by
      show zhi zaa c b (ziK zaa c b k) (zaa.len:Int)=_
      unfold zhi
      rw[dqF (show ¬ (zaa.len:Int) < (zaa.len:Int) by omega),dqB]) (by omega)
  obtain⟨k1,k2⟩:=hl.1 (λ _ _=>rfl)
  unfold zmx zmw
  rw[h.s61.1,h.s61.2]
  unfold zpC zpB
  show (decide (true=true) && cond ((0:Int) != 0) _ (decide (p48 (⟨1+(zaa.len:Int) * (N - 1),epT zaa N d⟩:Net) v=true) && ziM zaa c (1+(zaa.len:Int) * (N - 1)) (epT zaa N d) (!(s48 (⟨1+(zaa.len:Int) * (N - 1),epT zaa N d⟩:Net) v)) v))=true/\cond ((0:Int) != 0) _ (ziL zaa c (1+(zaa.len:Int) * (N - 1)) (epT zaa N d) (!(s48 (⟨1+(zaa.len:Int) * (N - 1),epT zaa N d⟩:Net) v)) v)=true
  rw[c1,c3]
  unfold ziM ziL zpA zpz
  simp only[decide_true,Bool.true_and,bne_self_eq_false,dqB,Bool.not_true]
  rw[b1,b2]
  unfold zpy zpx
  have bv:(b.len:Int)=(v.len:Int):=by omega
  simp only[decide_true,Bool.true_and,bne_self_eq_false,dqB,bv]
  unfold zpw zpv zpu zpt
  exact⟨k1,k2⟩
theorem zwa {zaa : Sl Net} {d : Sl Int} {c : Sl (Sl Int)} {N : Int} (h : DrOk zaa d c N) {T : Nat} (hT : (T : Int) = 1 + (zaa.len : Int) * (N - 1)) (S6 : Int → Sl Int → Bool) (P6 : Int → Sl Int → Bool) (j : Nat) (hj : j < zaa.len) (v : Sl Int) (hv : Wr c N T j 0 v) :
    ((∀ i,i < N.toNat->zkK c d j i=true)->zpE P6 zaa d c (j:Int) (0:Int) v=P6 (w64 ((j:Int)+(1:Int))) (zGt c N j v)/\zpD S6 zaa d c (j:Int) (0:Int) v=S6 (w64 ((j:Int)+(1:Int))) (zGt c N j v)) /\
    ((¬ ∀ i,i < N.toNat->zkK c d j i=true)->zpE P6 zaa d c (j:Int) (0:Int) v=true/\zpD S6 zaa d c (j:Int) (0:Int) v=true):=by
  have n1:=h.ep.n1;have n40:=h.ep.n40;have l1:=h.ep.l1;have l4:=h.l4;have hN0:=h.ep.N0;have hcc:=h.cl;have hdl:=h.ep.dl
  have h0:∀ q,q≤j->(c.get q).get 0=0:=λ q hq=>(h.ag q (by omega)).val.zero
  have hh := zpS (good := zkK c d j) (step := zKN c N j) (bad := true) (E := fun v => S6 (w64 ((j : Int) + (1:Int))) v) (EP := fun v => P6 (w64 ((j : Int) + (1:Int))) v) (Inv := fun i v => Wr c N T j i v) (n := N.toNat)
    (lpS:=λ k v i=>zhZ S6 zaa d c k (j:Int) i v) (lpP:=λ k v i=>zh0 P6 zaa d c k (j:Int) i v)
    (λ k i v hi hv=>by
      show zj0 S6 zaa d c (zhZ S6 zaa d c k) (j:Int) (i:Int) v=cond (zkK c d j i) (zhZ S6 zaa d c k (j:Int) (w64 ((i:Int)+(1:Int))) (zKN c N j i v)) true
      generalize zhZ S6 zaa d c k=S
      have hb1:=(zKP h hj (i:=i) (by omega)).2
      unfold zj0 zt4 zKN zkK
      rw[hN0,dqT (show (i:Int) < N by omega),dqA,zfZ n1 n40 (j:=j) (by omega) (by omega) (by omega),dqN,dqN]
      by_cases hz:j=0
      · rw[dqT hz,dqF (show ¬ (j:Int) > 0 by omega)];rfl
      · have hb2 := (zKP h (show j - 1 < zaa.len by omega) (i := i) (by omega)).2
        have hw:w64 ((j:Int) - (1:Int))=((j - 1:Nat):Int):=by rw[za6 (by omega) (by omega)];omega
        rw[dqF hz,dqT (show (j:Int) > 0 by omega),hw,dqN,za6 (x:=(c.get j).get i - (c.get (j - 1)).get i) (by omega) (by omega),za6 (x:=(c.get (j - 1)).get i - (c.get j).get i) (by omega) (by omega),dgt,dgt]
        cases decide ((c.get j).get i - (c.get (j - 1)).get i≤d.get i) <;> cases decide ((c.get (j - 1)).get i - (c.get j).get i≤d.get i) <;> rfl)
    (λ k v=>by
      show zj0 S6 zaa d c (zhZ S6 zaa d c k) (j:Int) (N.toNat:Int) v=_
      unfold zj0
      rw[hN0,dqF (show ¬ (N.toNat:Int) < N by omega),dqB])
    (λ k i v hi hv=>by
      show zj1 P6 zaa d c (zh0 P6 zaa d c k) (j:Int) (i:Int) v=cond (zkK c d j i) (zh0 P6 zaa d c k (j:Int) (w64 ((i:Int)+(1:Int))) (zKN c N j i v)) true
      generalize zh0 P6 zaa d c k=S
      have hi':(i:Int) < N:=by omega
      obtain⟨hcl,hb1⟩:=zKP h hj hi'
      have hnd:=zmQ n1 hj (show (0:Int)≤(i:Int) by omega) hi'
      have hvl:v.len=T:=hv.len
      unfold zj1 zt5 zKN zkK
      rw[hN0,dqT (show (i:Int) < N by omega),dqA,zfZ n1 n40 (j:=j) (by omega) (by omega) (by omega),dqN,dqN,dqT (show 0≤(j:Int)/\(j:Int) < (c.len:Int) by omega),dqT (show 0≤(i:Int)/\(i:Int) < ((c.get j).len:Int) by omega),dqT (show 0≤nd N j i/\nd N j i < (v.len:Int) by omega),dqT (show (nd N j i).toNat < v.len by omega)]
      by_cases hz:j=0
      · rw[dqT hz,dqF (show ¬ (j:Int) > 0 by omega)];rfl
      · obtain ⟨hcl2, hb2⟩ := zKP h (show j - 1 < zaa.len by omega) hi'
        have hw:w64 ((j:Int) - (1:Int))=((j - 1:Nat):Int):=by rw[za6 (by omega) (by omega)];omega
        rw[dqF hz,dqT (show (j:Int) > 0 by omega),hw,dqN,za6 (x:=(c.get j).get i - (c.get (j - 1)).get i) (by omega) (by omega),za6 (x:=(c.get (j - 1)).get i - (c.get j).get i) (by omega) (by omega),dgt,dgt,
          dqT (show 0≤((j - 1:Nat):Int)/\((j - 1:Nat):Int) < (c.len:Int) by omega),dqT (show 0≤(i:Int)/\(i:Int) < ((c.get (j - 1)).len:Int) by omega),dqT (show 0≤(i:Int)/\(i:Int) < (d.len:Int) by omega)]
        cases decide ((c.get j).get i - (c.get (j - 1)).get i≤d.get i) <;> cases decide ((c.get (j - 1)).get i - (c.get j).get i≤d.get i) <;> rfl)
    (λ k v=>by
      show zj1 P6 zaa d c (zh0 P6 zaa d c k) (j:Int) (N.toNat:Int) v=_
      unfold zj1
      rw[hN0,dqF (show ¬ (N.toNat:Int) < N by omega),dqB])
    (λ i v hi hv=>zGu n1 (by omega) (zKP h hj (by omega)).2 h0 hv) (by omega) v hv
  exact hh
theorem zQi {zaa:Sl Net}{d:Sl Int}{c:Sl (Sl Int)}{N:Int}(h:DrOk zaa d c N){T:Nat}{j:Nat}(hj:j < zaa.len){v:Sl Int}(hv:Wr c N T j 0 v):Wr c N T (j+1) 0 (zGt c N j v):=by
 have h0:∀ q,q≤j->(c.get q).get 0=0:=λ q hq=>(h.ag q (by omega)).val.zero
 exact zKO (zka (Inv:=λ i v=>Wr c N T j i v) (n:=N.toNat) (λ i v hi hv=>zGu h.ep.n1 (by omega) (zKP h hj (by omega)).2 h0 hv) N.toNat 0 v (by omega) hv)
theorem zKQ {zaa:Sl Net}{d:Sl Int}{c:Sl (Sl Int)}{N:Int}(h:DrOk zaa d c N):zpH zaa d c (0:Int) (⟨(1+(zaa.len:Int) * (N - 1)).toNat,(λ _=>(0:Int))⟩:Sl Int)=true/\zpG zaa d c (0:Int) (⟨(1+(zaa.len:Int) * (N - 1)).toNat,(λ _=>(0:Int))⟩:Sl Int)=true:=by
  have n1:=h.ep.n1;have l1:=h.ep.l1;have l4:=h.l4
  have p:=Int.mul_nonneg (show (0:Int)≤zaa.len by omega) (show (0:Int)≤N - 1 by omega)
  have hT:(((1+(zaa.len:Int) * (N - 1)).toNat:Nat):Int)=1+(zaa.len:Int) * (N - 1):=by omega
  have hw0:Wr c N (1+(zaa.len:Int) * (N - 1)).toNat 0 0 (⟨(1+(zaa.len:Int) * (N - 1)).toNat,(λ _=>(0:Int))⟩:Sl Int):=⟨rfl,λ j i _ hh=>by omega,λ k=>⟨by show (-1000000000000:Int)≤0;omega,by show (0:Int)≤1000000000000;omega⟩⟩
  generalize hTT:(1+(zaa.len:Int) * (N - 1)).toNat=T at *
  have hh := zpS (good := zwW c d N) (step := zGt c N) (bad := true) (E := fun v => zmw zaa d c v) (EP := fun v => zmx zaa d c v) (Inv := fun j v => Wr c N T j 0 v) (n := zaa.len)
    (lpS:=λ k v i=>zh1 zaa d c k i v) (lpP:=λ k v i=>zh2 zaa d c k i v)
    (λ k j v hj hv=>by
      show zj2 zaa d c (zh1 zaa d c k) (j:Int) v=cond (zwW c d N j) (zh1 zaa d c k (w64 ((j:Int)+(1:Int))) (zGt c N j v)) true
      obtain⟨a,b⟩:=zwa h hT (zh1 zaa d c k) (λ _ _=>true) j hj v hv
      unfold zj2
      rw[dqT (show (j:Int) < (zaa.len:Int) by omega),dqA]
      by_cases hg:∀ i,i < N.toNat->zkK c d j i=true
      · rw[(a hg).2,zgR.2 hg];rfl
      · rw[(b hg).2,Bool.eq_false_iff.2 (λ e=>hg (zgR.1 e))];rfl)
    (λ k v=>by
      show zj2 zaa d c (zh1 zaa d c k) (zaa.len:Int) v=_
      unfold zj2
      rw[dqF (show ¬ (zaa.len:Int) < (zaa.len:Int) by omega),dqB])
    (λ k j v hj hv=>by
      show zj3 zaa d c (zh2 zaa d c k) (j:Int) v=cond (zwW c d N j) (zh2 zaa d c k (w64 ((j:Int)+(1:Int))) (zGt c N j v)) true
      obtain⟨a,b⟩:=zwa h hT (λ _ _=>true) (zh2 zaa d c k) j hj v hv
      unfold zj3
      rw[dqT (show (j:Int) < (zaa.len:Int) by omega),dqA]
      by_cases hg:∀ i,i < N.toNat->zkK c d j i=true
      · rw[(a hg).1,zgR.2 hg];rfl
      · rw[(b hg).1,Bool.eq_false_iff.2 (λ e=>hg (zgR.1 e))];rfl)
    (λ k v=>by
      show zj3 zaa d c (zh2 zaa d c k) (zaa.len:Int) v=_
      unfold zj3
      rw[dqF (show ¬ (zaa.len:Int) < (zaa.len:Int) by omega),dqB])
    (λ j v hj hv=>zQi h hj hv) (by omega) (⟨T,(λ _=>(0:Int))⟩:Sl Int) hw0
  unfold zpH zpG
  by_cases hg:∀ j,j < zaa.len->zwW c d N j=true
  · obtain ⟨k1, k2⟩ := hh.1 hg
    have hw:Wr c N T zaa.len 0 (zdg (zGt c N) zaa.len 0 (⟨T,(λ _=>(0:Int))⟩:Sl Int)) :=
      zka (Inv:=λ j v=>Wr c N T j 0 v) (n:=zaa.len) (λ j v hj hv=>zQi h hj hv) zaa.len 0 _ (by omega) hw0
    obtain⟨e1,e2⟩:=zNQ h (λ j i hj hi=>by
      have:=zgR.1 (hg (j+1) hj) i (by omega)
      unfold zkK at this
      rw[dqF (show ¬ j+1=0 by omega),Bool.false_or,Bool.and_eq_true] at this
      exact⟨of_decide_eq_true this.1,of_decide_eq_true this.2⟩) (v:=zdg (zGt c N) zaa.len 0 (⟨T,(λ _=>(0:Int))⟩:Sl Int)) ⟨by rw[hw.len];exact hT,λ j i hj hi=>hw.at_ j i hi (.inl hj),hw.b⟩
    exact⟨k1.trans e1,k2.trans e2⟩
  · exact hh.2 hg
theorem zwX (zaa:Sl Net) (d:Sl Int) (c:Sl (Sl Int)) (hl1:1≤zaa.len) (hl:zaa.len≤4) (hc:c.len=zaa.len) (hd:d.len≤4) (hag:∀ j,j < zaa.len->NetOk (zaa.get j)/\AgOk (zaa.get j) (c.get j)):zmz zaa d c=true/\zmy zaa d c=true:=by
 obtain⟨h1,h2,h3⟩:=zrq zaa d (by omega) (λ j hj=>by have:=(hag j hj).1.len;omega)
 unfold zmz zmy
 rw[h2]
 unfold zt9 zt8
 rcases h3 with ⟨e,he,a,b⟩ | ⟨hE,a,b⟩
 ·rw[b,show (e != (0:Int))=true from bne_iff_ne.2 he];exact⟨rfl,rfl⟩
 ·rw [b]
  generalize hN:(zaa.get 0).Nodes=N at *
  unfold epE at a ⊢
  by_cases c1:1+(zaa.len:Int) * (N - 1) > 40
  ·rw[dqT c1];exact⟨rfl,rfl⟩
  rw[dqF c1] at a ⊢
  by_cases c2:(((epT zaa N d).len:Nat):Int) > 200
  ·rw[dqT c2];exact⟨rfl,rfl⟩
  rw[dqF c2] at a ⊢
  have hD:DrOk zaa d c N:=⟨hE,hl,hc,λ j hj=>(hag j hj).2,by omega,by omega,h1,a⟩
  obtain⟨k1,k2⟩:=zKQ hD
  have p:=Int.mul_nonneg (show (0:Int)≤zaa.len by omega) (show (0:Int)≤N - 1 by have:=hE.n1;omega)
  simp only[dqB,bne_self_eq_false,decide_true,Bool.true_and]
  unfold zt7 zt6
  rw[dqT (show 0≤(0:Int)/\(0:Int) < (zaa.len:Int) by omega),dqT (show 0≤1+(zaa.len:Int) * (N - 1)/\1+(zaa.len:Int) * (N - 1)=1+(zaa.len:Int) * (N - 1)/\1+(zaa.len:Int) * (N - 1)≤1000000 from ⟨by omega,rfl,by omega⟩),Bool.true_and,Bool.true_and]
  exact⟨k1,k2⟩
def zCJ (zaa:Sl Net) (c:Sl (Sl Int)) (j:Nat):Bool:=!decide ((zaa.get j).Nodes > (4:Int)) && (!decide (((zaa.get j).Ties.len:Int) > (8:Int)) && (!decide (((c.get j).len:Int) > (4:Int)) && (s67 (zaa.get j) && s38 (zaa.get j) (c.get j))))
theorem zum (zaa:Sl Net) (d:Sl Int) (c:Sl (Sl Int)) (hl1:1≤zaa.len) (hl:zaa.len≤4) (hc:c.len=zaa.len) (hd:d.len≤4):zpK zaa d c=true/\zpJ zaa d c=true:=by
  have h := zgN (good := zCJ zaa c) (bad := true) (fin := zmy zaa d c) (finP := zmz zaa d c) (n := zaa.len) (lpS := zj6 zaa d c) (lpP := zj7 zaa d c)
    (λ k i hi=>by
      show zj4 zaa d c (zj6 zaa d c k) (i:Int)=_
      generalize zj6 zaa d c k=S
      unfold zj4 zh3 zCJ
      rw[dqT (show (i:Int) < (zaa.len:Int) by omega),dqA,dqN]
      by_cases h2:((zaa.get i).Ties.len:Int) > 8
      · rw [dqT h2]
        cases decide ((zaa.get i).Nodes > 4) <;> rfl
      · rw [dqF h2, (zns (zaa.get i) (by omega)).2]
        cases decide ((zaa.get i).Nodes > 4) <;> cases decide (((c.get i).len:Int) > 4) <;> cases s67 (zaa.get i) <;> cases s38 (zaa.get i) (c.get i) <;> rfl)
    (λ k=>by
      show zj4 zaa d c (zj6 zaa d c k) (zaa.len:Int)=_
      unfold zj4
      rw[dqF (show ¬ (zaa.len:Int) < (zaa.len:Int) by omega),dqB])
    (λ k i hi=>by
      show zj5 zaa d c (zj7 zaa d c k) (i:Int)=_
      generalize zj7 zaa d c k=S
      unfold zj5 zh4 zCJ
      rw[dqT (show (i:Int) < (zaa.len:Int) by omega),dqA,dqN,dqT (show 0≤(i:Int)/\(i:Int) < (zaa.len:Int) by omega),dqT (show 0≤(i:Int)/\(i:Int) < (c.len:Int) by omega)]
      by_cases h2:((zaa.get i).Ties.len:Int) > 8
      · rw [dqT h2]
        cases decide ((zaa.get i).Nodes > 4) <;> rfl
      · rw [dqF h2, (zns (zaa.get i) (by omega)).2, (zns (zaa.get i) (by omega)).1]
        by_cases h3:((c.get i).len:Int) > 4
        · rw [dqT h3]
          cases decide ((zaa.get i).Nodes > 4) <;> rfl
        · rw [dqF h3]
          cases hs:s67 (zaa.get i)
          · cases decide ((zaa.get i).Nodes > 4) <;> rfl
          · rw [(zCn (zaa.get i) (c.get i) ((zj8 _ (by omega)).2.1 hs) (by omega)).1]
            cases decide ((zaa.get i).Nodes > 4) <;> cases s38 (zaa.get i) (c.get i) <;> rfl)
    (λ k=>by
      show zj5 zaa d c (zj7 zaa d c k) (zaa.len:Int)=_
      unfold zj5
      rw[dqF (show ¬ (zaa.len:Int) < (zaa.len:Int) by omega),dqB]) (by omega)
  unfold zpK zpJ zue zua
  by_cases hg:∀ j,j < zaa.len->zCJ zaa c j=true
  · obtain ⟨k1, k2⟩ := h.1 hg
    obtain⟨e1,e2⟩:=zwX zaa d c hl1 hl hc hd (λ j hj=>by
      have:=hg j hj
      unfold zCJ at this
      simp only[Bool.and_eq_true,Bool.not_eq_true',decide_eq_false_iff_not] at this
      obtain⟨g1,g2,g3,g4,g5⟩:=this
      have hn:=(zj8 (zaa.get j) (by omega)).2.1 g4
      exact⟨hn,(zCn _ _ hn (by omega)).2.1 g5⟩)
    exact⟨k1.trans e1,k2.trans e2⟩
  · exact h.2 hg
theorem drifts_true (zaa:Sl Net) (d:Sl Int) (c:Sl (Sl Int)):p18 zaa d c=true/\s18 zaa d c=true:=by
 unfold p18 s18
 by_cases h1:(zaa.len:Int) < 1
 ·rw[dqT h1];exact⟨rfl,rfl⟩
 rw[dqF h1]
 by_cases h2:(zaa.len:Int) > 4
 ·rw[dqT h2];exact⟨rfl,rfl⟩
 rw[dqF h2]
 by_cases h3:(c.len:Int)=(zaa.len:Int)
 ·rw [show ((c.len : Int) != (zaa.len : Int)) = false by rw [h3]; exact bne_self_eq_false _]
  by_cases h4:(d.len:Int) > 4
  ·rw[dqT h4];exact⟨rfl,rfl⟩
  rw[dqF h4]
  simp only[dqB]
  exact zum zaa d c (by omega) (by omega) (by omega) (by omega)
 ·rw[show ((c.len:Int) != (zaa.len:Int))=true from bne_iff_ne.2 h3];exact⟨rfl,rfl⟩
end Go.Proofs
