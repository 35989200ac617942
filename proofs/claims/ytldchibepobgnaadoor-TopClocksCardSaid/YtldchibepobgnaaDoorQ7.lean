/- Part 7 of what the proof rests on: a machine that runs functions of the program on pure values, proved sound; the functions that the law reaches, and what they compute. -/
import Derived.Test.YtldchibepobgnaaDoorQ6
set_option linter.all false
namespace Go.Proofs
open Go Go.Pm
set_option maxRecDepth 100000
set_option linter.unusedVariables false
theorem zRD {p j:Int}(h1 : -(100 * j)<=p) (h2:p<=100 * j) : -j<=p.tdiv 100/\p.tdiv 100<=j:=by
 by_cases hp:0<=p
 ·rw[Int.tdiv_eq_ediv_of_nonneg hp];omega
 ·have : p = -(-p) := by omega
  rw[this,Int.neg_tdiv,Int.tdiv_eq_ediv_of_nonneg (show 0<=-p by omega)];omega
theorem zNw {p j:Int}(h1:0<=p) (h2:p<=100 * j):0<=p.tdiv 100/\p.tdiv 100<=j:=by
 rw[Int.tdiv_eq_ediv_of_nonneg h1];omega
def zzn (p:Plane) (c:Int):Int:=w64 (p.Clock.Low+w64 ((w64 ((w64 (p.Clock.High - p.Clock.Low)) * c)).tdiv (100:Int)))
def ztv (p:Plane) (c:Int):Bool:=!(p.Kind == (3:Int)) && (!decide (c < (0:Int)) && (!decide (c > (100:Int)) && (!decide (p.Clock.Low < (-1000000:Int)) && !decide (p.Clock.High > (1000000:Int)))))
structure ClkOk (sv : Sl Plane) (v : Sl Int) : Prop where
  len:v.len=sv.len+1
  z:v.get 0=0
  k:∀ i,i < sv.len->(sv.get i).Kind ≠ 3
  b:∀ i,i < sv.len->-1000000<=(sv.get i).Clock.Low/\(sv.get i).Clock.Low<=v.get (i+1)/\v.get (i+1)<=(sv.get i).Clock.High/\(sv.get i).Clock.High<=1000000
theorem zEK {p:Plane}{c:Int}(hp:PlOk p) (h:ztv p c=true):p.Kind ≠ 3/\-1000000<=p.Clock.Low/\p.Clock.Low<=zzn p c/\zzn p c<=p.Clock.High/\p.Clock.High<=1000000:=by
 simp only[ztv,dqm,Bool.not_eq_true',decide_eq_false_iff_not,dqU] at h
 obtain⟨a,b,c1,d,e⟩:=h
 have hc:=hp.c
 have h1:(p.Clock.High - p.Clock.Low) * c<=(p.Clock.High - p.Clock.Low) * 100:=Int.mul_le_mul_of_nonneg_left (by omega) (by omega)
 have h0:0<=(p.Clock.High - p.Clock.Low) * c:=Int.mul_nonneg (by omega) (by omega)
 unfold zzn
 rw[zbs (x:=p.Clock.High - p.Clock.Low) (by omega) (by omega)]
 generalize (p.Clock.High - p.Clock.Low) * c=q at *
 have hq:=zNw (p:=q) (j:=p.Clock.High - p.Clock.Low) h0 (by omega)
 rw[zbs (x:=q) (by omega) (by omega)]
 generalize q.tdiv 100=t at *
 rw[zbs (x:=t) (by omega) (by omega),zbs (by omega) (by omega)]
 exact⟨a,by omega,by omega,by omega,by omega⟩
def hA (sv:Sl Plane) (v:Sl Int) (m:Flown):Hit:=s8 ⟨sv⟩ m.A m.Time (v.get ((w64 (m.A+(1:Int))).toNat)) m.WrongA
def hB (sv:Sl Plane) (v:Sl Int) (m:Flown):Hit:=s8 ⟨sv⟩ m.B (w64 (m.Time+m.Flight)) (v.get ((w64 (m.B+(1:Int))).toNat)) m.WrongB
def puM (sv:Sl Plane) (v:Sl Int) (play:Int) (m:Flown):Pulse:=⟨w64 (m.A+(1:Int)),w64 (m.B+(1:Int)),(hA sv v m).Time,(hB sv v m).Time,(⟨(if (w64 (m.Flight - play)) > (0:Int) then (w64 (m.Flight - play)) else (0:Int)),(w64 (m.Flight+play))⟩:Span),w64 ((sv.get m.A.toNat).Jitter+(sv.get m.B.toNat).Jitter)⟩
abbrev Acc:=Sl Hit×Sl Int×Sl Pulse
def zmh (sv:Sl Plane) (v:Sl Int) (play:Int) (l:Sl Flown) (i:Nat) (σ:Acc):Acc :=
 (⟨σ.1.len+2,zfU σ.1.len σ.1.get (zlh (hA sv v (l.get i)) [hA sv v (l.get i),hB sv v (l.get i)])⟩,⟨σ.2.1.len+2,zfU σ.2.1.len σ.2.1.get (zlh (l.get i).Time [(l.get i).Time,w64 ((l.get i).Time+(l.get i).Flight)])⟩,⟨σ.2.2.len+1,zfU σ.2.2.len σ.2.2.get (λ _=>puM sv v play (l.get i))⟩)
def zqW (n:Nat) (m:Flown):Bool:=!decide (m.A < (0:Int)) && (!decide (m.A >= (n:Int)) && (!decide (m.B < (0:Int)) && (!decide (m.B >= (n:Int)) && (!(m.A == m.B) && (!decide (m.Time < (-1000000:Int)) && (!decide (m.Time > (1000000:Int)) && (!decide (m.Flight < (0:Int)) && (!decide (m.Flight > (1000000:Int)) && (!decide (m.WrongA < (-100:Int)) && (!decide (m.WrongA > (100:Int)) && (!decide (m.WrongB < (-100:Int)) && (!decide (m.WrongB > (100:Int))))))))))))))
structure FlOk (n : Nat) (m : Flown) : Prop where
  a:0<=m.A/\m.A < (n:Int)
  b:0<=m.B/\m.B < (n:Int)
  ne:m.A ≠ m.B
  t : -1000000<=m.Time/\m.Time<=1000000
  f:0<=m.Flight/\m.Flight<=1000000
  wa : -100<=m.WrongA/\m.WrongA<=100
  wb : -100<=m.WrongB/\m.WrongB<=100
theorem zyL {n:Nat}{m:Flown}(h:zqW n m=true):FlOk n m:=by
 simp only[zqW,dqm,Bool.not_eq_true',decide_eq_false_iff_not,dqU,Int.not_lt,ge_iff_le,gt_iff_lt,Int.not_le] at h
 obtain⟨a0,a1,b0,b1,ne,t0,t1,f0,f1,w0,w1,x0,x1⟩:=h
 exact⟨⟨a0,a1⟩,⟨b0,b1⟩,ne,⟨t0,t1⟩,⟨f0,f1⟩,⟨w0,w1⟩,⟨x0,x1⟩⟩
structure HitG (sv : Sl Plane) (v : Sl Int) (h : Hit) (w : Int) : Prop where
  a:HitA sv h
  b:HitB sv h
  l:h.Time - (sv.get h.Plane.toNat).Jitter<=w+v.get (h.Plane.toNat+1)
  u:w+v.get (h.Plane.toNat+1)<=h.Time+(sv.get h.Plane.toNat).Jitter
structure Read (sv : Sl Plane) (v : Sl Int) (h : Hit) (pl w : Int) : Prop where
  p:h.Plane=pl
  a:HitA sv h
  t : -4000000<=h.Time/\h.Time<=4000000
  l:h.Time - (sv.get pl.toNat).Jitter<=w+v.get (pl.toNat+1)
  u:w+v.get (pl.toNat+1)<=h.Time+(sv.get pl.toNat).Jitter
theorem zqX {sv : Sl Plane} (hs : SetOk sv) {v : Sl Int} (hv : ClkOk sv v) {pl t x : Int} (h0 : 0 ≤ pl) (h1 : pl < (sv.len : Int)) (ht : -1000000 ≤ t ∧ t ≤ 2000000) (hx : -100 ≤ x ∧ x ≤ 100) :
  p8 ⟨sv⟩ pl t (v.get ((w64 (pl+(1:Int))).toNat)) x=true/\Read sv v (s8 ⟨sv⟩ pl t (v.get ((w64 (pl+(1:Int))).toNat)) x) pl t:=by
 have n16:=hs.n16
 have hp:=hs.pl pl.toNat (by omega)
 have hb:=hv.b pl.toNat (by omega)
 have hj:=hp.j
 rw[zbs (x:=pl+1) (by omega) (by omega),show (pl+1).toNat=pl.toNat+1 by omega]
 have hm1:(sv.get pl.toNat).Jitter * x<=(sv.get pl.toNat).Jitter * 100:=Int.mul_le_mul_of_nonneg_left hx.2 hj.1
 have hm2:(sv.get pl.toNat).Jitter * (-100)<=(sv.get pl.toNat).Jitter * x:=Int.mul_le_mul_of_nonneg_left hx.1 hj.1
 have hT:(s8 ⟨sv⟩ pl t (v.get (pl.toNat+1)) x).Time=t+v.get (pl.toNat+1)+((sv.get pl.toNat).Jitter * x).tdiv 100/\-(sv.get pl.toNat).Jitter<=((sv.get pl.toNat).Jitter * x).tdiv 100/\((sv.get pl.toNat).Jitter * x).tdiv 100<=(sv.get pl.toNat).Jitter:=by
  show w64 ((w64 (t+v.get (pl.toNat+1)))+(w64 ((w64 ((sv.get pl.toNat).Jitter * x)).tdiv (100:Int))))=_/\_
  have hq:=zRD (p:=(sv.get pl.toNat).Jitter * x) (j:=(sv.get pl.toNat).Jitter) (by omega) (by omega)
  generalize (sv.get pl.toNat).Jitter * x=q at *
  rw[zbs (x:=q) (by omega) (by omega)]
  generalize q.tdiv 100=r at *
  rw[zbs (x:=r) (by omega) (by omega),zbs (x:=t+v.get (pl.toNat+1)) (by omega) (by omega),zbs (by omega) (by omega)]
  exact⟨rfl,hq⟩
 obtain⟨e,q1,q2⟩:=hT
 refine⟨?_,rfl,⟨h0,h1,rfl,rfl,rfl,rfl⟩,?_,?_,?_⟩
 ·unfold p8
  rw[dqT (show 0<=pl/\pl < (sv.len:Int) by omega)];rfl
 ·rw[e];omega
 ·rw[e];omega
 ·rw[e];omega
theorem zyM {sv:Sl Plane}(hs:SetOk sv){v:Sl Int}(hv:ClkOk sv v){h:Hit}{pl w:Int}(hr:Read sv v h pl w):p9 ⟨sv⟩ h=true/\(s9 ⟨sv⟩ h=true->HitG sv v h w):=by
 obtain⟨p,a,t,l,u⟩:=hr
 subst p
 obtain⟨k1,k2⟩:=zUn hs a (hv.k _ (by have:=a.p0;have:=a.p1;omega))
 exact⟨k1,λ k=>⟨a,k2 k,l,u⟩⟩
theorem zHa {sv : Sl Plane} (hs : SetOk sv) {v : Sl Int} (hv : ClkOk sv v) {m : Flown} (hm : FlOk sv.len m) {play : Int} (hp : 0 ≤ play ∧ play ≤ 1000) (ra : Read sv v (hA sv v m) m.A m.Time) (rb : Read sv v (hB sv v m) m.B (m.Time + m.Flight)) :
  zlN (puM sv v play m)=true/\TieOk (tieP (puM sv v play m)) ((sv.len:Int)+1)/\Keep (tieP (puM sv v play m)) v:=by
 have n16:=hs.n16
 have ha:=hm.a;have hb:=hm.b;have ne:=hm.ne;have ht:=hm.t;have hf:=hm.f
 have ja:=(hs.pl m.A.toNat (by omega)).j
 have jb:=(hs.pl m.B.toNat (by omega)).j
 have ba:=hv.b m.A.toNat (by omega)
 have bb:=hv.b m.B.toNat (by omega)
 have la:=ra.l;have ua:=ra.u;have ta:=ra.t
 have lb:=rb.l;have ub:=rb.u;have tb:=rb.t
 have e5:w64 (m.Flight - play)=m.Flight - play:=zbs (by omega) (by omega)
 have e6:w64 (m.Flight+play)=m.Flight+play:=zbs (by omega) (by omega)
 have e7:w64 ((sv.get m.A.toNat).Jitter+(sv.get m.B.toNat).Jitter)=(sv.get m.A.toNat).Jitter+(sv.get m.B.toNat).Jitter:=zbs (by omega) (by omega)
 have hP:puM sv v play m=⟨m.A+1,m.B+1,(hA sv v m).Time,(hB sv v m).Time,⟨if m.Flight - play > 0 then m.Flight - play else 0,m.Flight+play⟩,(sv.get m.A.toNat).Jitter+(sv.get m.B.toNat).Jitter⟩:=by
  unfold puM
  rw[e5,e6,e7,zbs (x:=m.A+1) (by omega) (by omega),zbs (x:=m.B+1) (by omega) (by omega)]
 rw[hP]
 have hf2:0<=(if m.Flight - play > 0 then m.Flight - play else 0)/\(if m.Flight - play > 0 then m.Flight - play else 0)<=m.Flight:=by split <;> omega
 generalize (if m.Flight - play > 0 then m.Flight - play else 0)=fl at *
 generalize (hA sv v m).Time=TA at *
 generalize (hB sv v m).Time=TB at *
 have eA:(m.A+1).toNat=m.A.toNat+1:=by omega
 have eB:(m.B+1).toNat=m.B.toNat+1:=by omega
 generalize (sv.get m.A.toNat).Jitter=JA at *
 generalize (sv.get m.B.toNat).Jitter=JB at *
 have hT:tieP ⟨m.A+1,m.B+1,TA,TB,⟨fl,m.Flight+play⟩,JA+JB⟩=⟨m.A+1,m.B+1,TB - TA - (m.Flight+play) - (JA+JB),TB - TA - fl+(JA+JB)⟩:=by
  show (⟨m.A+1,m.B+1,w64 (w64 (w64 (TB - TA) - (m.Flight+play)) - (JA+JB)),w64 (w64 (w64 (TB - TA) - fl)+(JA+JB))⟩:Tie)=_
  rw[zbs (x:=TB - TA) (by omega) (by omega),zbs (x:=TB - TA - (m.Flight+play)) (by omega) (by omega),zbs (x:=TB - TA - fl) (by omega) (by omega),zbs (by omega) (by omega),zbs (by omega) (by omega)]
 refine⟨(zEJ _).2 ⟨?_,?_,?_,?_,?_,?_⟩,?_,?_⟩
 ·show m.A+1 ≠ m.B+1;omega
 ·exact⟨by show -100000000<=TA;omega,by show TA<=100000000;omega⟩
 ·exact⟨by show -100000000<=TB;omega,by show TB<=100000000;omega⟩
 ·exact⟨hf2.1,by show fl<=m.Flight+play;omega⟩
 ·show m.Flight+play<=100000000;omega
 ·exact⟨by show 0<=JA+JB;omega,by show JA+JB<=100000000;omega⟩
 ·rw [hT]
  exact⟨by show 0<=m.A+1;omega,by show m.A+1 < (sv.len:Int)+1;omega,by show 0<=m.B+1;omega,by show m.B+1 < (sv.len:Int)+1;omega,by show m.A+1 ≠ m.B+1;omega,.inr ⟨by show -1000000000<=TB - TA - (m.Flight+play) - (JA+JB);omega,by show TB - TA - (m.Flight+play) - (JA+JB)<=1000000000;omega⟩,.inr ⟨by show -1000000000<=TB - TA - fl+(JA+JB);omega,by show TB - TA - fl+(JA+JB)<=1000000000;omega⟩,by show TB - TA - (m.Flight+play) - (JA+JB)<=TB - TA - fl+(JA+JB);omega⟩
 ·rw [hT]
  unfold Keep
  show (_\/TB - TA - (m.Flight+play) - (JA+JB)<=v.get (m.B+1).toNat - v.get (m.A+1).toNat)/\(_\/v.get (m.B+1).toNat - v.get (m.A+1).toNat<=TB - TA - fl+(JA+JB))
  rw[eA,eB]
  exact⟨.inr (by omega),.inr (by omega)⟩
structure AccOk (sv : Sl Plane) (v : Sl Int) (i : Nat) (σ : Acc) : Prop where
  h:σ.1.len=2 * i
  w:σ.2.1.len=2 * i
  p:σ.2.2.len=i
  g:∀ k,k < 2 * i->HitG sv v (σ.1.get k) (σ.2.1.get k)
  q:∀ k,k < i->zlN (σ.2.2.get k)=true/\TieOk (tieP (σ.2.2.get k)) ((sv.len:Int)+1)/\Keep (tieP (σ.2.2.get k)) v
theorem zfR {α:Type}{n:Nat}{g f:Nat->α}{j:Nat}(h:j < n):zfU n g f j=g j:=by
 show (match Nat.ble n j with | true=>f (j - n) | false=>g j)=_
 rw[show Nat.ble n j=false from Bool.eq_false_iff.2 λ k=>by have:=Nat.le_of_ble_eq_true k;omega]
theorem zh2 {α:Type}{n:Nat}{g f:Nat->α}{j:Nat}(h:n<=j):zfU n g f j=f (j - n):=by
 show (match Nat.ble n j with | true=>f (j - n) | false=>g j)=_
 rw[show Nat.ble n j=true from Nat.ble_eq_true_of_le h]
theorem zHb {sv:Sl Plane}(hs:SetOk sv){v:Sl Int}(hv:ClkOk sv v){play:Int}(hp:0<=play/\play<=1000){l:Sl Flown}{i:Nat}(hm:FlOk sv.len (l.get i)) (ha:s9 ⟨sv⟩ (hA sv v (l.get i))=true) (hb:s9 ⟨sv⟩ (hB sv v (l.get i))=true){σ:Acc}(h:AccOk sv v i σ):AccOk sv v (i+1) (zmh sv v play l i σ):=by
 obtain⟨h1,h2,h3,h4,h5⟩:=h
 have e:w64 ((l.get i).Time+(l.get i).Flight)=(l.get i).Time+(l.get i).Flight:=zbs (by have:=hm.t;have:=hm.f;omega) (by have:=hm.t;have:=hm.f;omega)
 obtain⟨_,ra⟩:=zqX hs hv hm.a.1 hm.a.2 (t:=(l.get i).Time) (by have:=hm.t;omega) hm.wa
 obtain⟨_,rb⟩:=zqX hs hv hm.b.1 hm.b.2 (t:=w64 ((l.get i).Time+(l.get i).Flight)) (by rw[e];have:=hm.t;have:=hm.f;omega) hm.wb
 have ga:=(zyM hs hv ra).2 ha
 have gb:=(zyM hs hv rb).2 hb
 refine⟨?_,?_,?_,λ k hk=>?_,λ k hk=>?_⟩
 ·show σ.1.len+2=2 * (i+1);omega
 ·show σ.2.1.len+2=2 * (i+1);omega
 ·show σ.2.2.len+1=i+1;omega
 ·show HitG sv v (zfU σ.1.len σ.1.get (zlh (hA sv v (l.get i)) [hA sv v (l.get i), hB sv v (l.get i)]) k) (zfU σ.2.1.len σ.2.1.get (zlh (l.get i).Time [(l.get i).Time, w64 ((l.get i).Time + (l.get i).Flight)]) k)
  by_cases ho:k < 2 * i
  ·rw[zfR (by omega),zfR (by omega)];exact h4 k ho
  ·rw [zh2 (by omega), zh2 (by omega), h1, h2]
   by_cases hz:k=2 * i
   ·rw[hz,Nat.sub_self];exact ga
   ·rw[show k - 2 * i=1 by omega];exact gb
 ·show zlN (zfU σ.2.2.len σ.2.2.get (fun _ => puM sv v play (l.get i)) k) = true ∧ TieOk (tieP (zfU σ.2.2.len σ.2.2.get (fun _ => puM sv v play (l.get i)) k)) ((sv.len : Int) + 1) ∧ Keep (tieP (zfU σ.2.2.len σ.2.2.get (fun _ => puM sv v play (l.get i)) k)) v
  by_cases ho:k < i
  ·rw[zfR (by omega)];exact h5 k ho
  ·rw [zh2 (by omega)]
   exact zHa hs hv hm hp ra (by rw[e] at rb;unfold hB;rw[e];exact rb)
def zEW (sv:Sl Plane) (i:Nat):Tie:=⟨(0:Int),w64 ((i:Int)+(1:Int)),(sv.get i).Clock.Low,(sv.get i).Clock.High⟩
abbrev Off:=Sl Tie×Sl Span
def zHc (sv:Sl Plane) (i:Nat) (σ:Off):Off:=(⟨σ.1.len+1,zfU σ.1.len σ.1.get (λ _=>zEW sv i)⟩,⟨σ.2.len+1,zfU σ.2.len σ.2.get (λ _=>(sv.get i).Offset)⟩)
structure OffOk (sv : Sl Plane) (t : Sl Tie) (i : Nat) (σ : Off) : Prop where
  a:σ.1.len=t.len+i
  b:σ.2.len=i
  c:∀ j,j < t.len->σ.1.get j=t.get j
  d:∀ j,j < i->σ.1.get (t.len+j)=zEW sv j
  e:∀ j,j < i->σ.2.get j=(sv.get j).Offset
theorem zHd {sv:Sl Plane}{t:Sl Tie}{i:Nat}{σ:Off}(h:OffOk sv t i σ):OffOk sv t (i+1) (zHc sv i σ):=by
 obtain⟨a,b,c,d,e⟩:=h
 refine⟨by show σ.1.len+1=_;omega,by show σ.2.len+1=_;omega,λ j hj=>?_,λ j hj=>?_,λ j hj=>?_⟩
 ·show zfU σ.1.len σ.1.get (fun _ => zEW sv i) j = _
  rw[zfR (by omega)];exact c j hj
 ·show zfU σ.1.len σ.1.get (fun _ => zEW sv i) (t.len + j) = _
  by_cases hi:j < i
  ·rw[zfR (by omega)];exact d j hi
  ·rw[zh2 (by omega),show j=i by omega]
 ·show zfU σ.2.len σ.2.get (fun _ => (sv.get i).Offset) j = _
  by_cases hi:j < i
  ·rw[zfR (by omega)];exact e j hi
  ·rw[zh2 (by omega),show j=i by omega]
theorem zRE {n:Net}(hn:NetOk n) (hN:zc4 (En n)) {j:Nat}(hj:j < n.Ties.len):((n.Ties.get j).High ≠ 1000000000000->fr n (n.Ties.get j).From.toNat (n.Ties.get j).To.toNat<=(n.Ties.get j).High)/\((n.Ties.get j).Low ≠ -1000000000000->fr n (n.Ties.get j).To.toNat (n.Ties.get j).From.toNat<=-(n.Ties.get j).Low):=by
 have ht:=hn.tie j hj
 have:=ht.f0;have:=ht.f1;have:=ht.t0;have:=ht.t1
 constructor
 ·intro h
  have he:(⟨(n.Ties.get j).From.toNat,(n.Ties.get j).To.toNat,(n.Ties.get j).High⟩:Ed)∈En n:=(zEB (a:=W n) hn).2 ⟨j,hj,rfl,.inl ⟨h,rfl⟩⟩
  have:=zqS (zIT (a:=W n) hn) hN (by show (n.Ties.get j).From.toNat < n.Nodes.toNat;omega) (show zii (En n) (n.Ties.get j).From.toNat [⟨(n.Ties.get j).From.toNat,(n.Ties.get j).To.toNat,(n.Ties.get j).High⟩] (n.Ties.get j).To.toNat from ⟨he,rfl,rfl⟩)
  refine Int.le_trans this ?_
  show (n.Ties.get j).High+0<=_;omega
 ·intro h
  have he:(⟨(n.Ties.get j).To.toNat,(n.Ties.get j).From.toNat,-(n.Ties.get j).Low⟩:Ed)∈En n:=(zEB (a:=W n) hn).2 ⟨j,hj,rfl,.inr ⟨h,rfl⟩⟩
  have:=zqS (zIT (a:=W n) hn) hN (by show (n.Ties.get j).To.toNat < n.Nodes.toNat;omega) (show zii (En n) (n.Ties.get j).To.toNat [⟨(n.Ties.get j).To.toNat,(n.Ties.get j).From.toNat,-(n.Ties.get j).Low⟩] (n.Ties.get j).From.toNat from ⟨he,rfl,rfl⟩)
  refine Int.le_trans this ?_
  show -(n.Ties.get j).Low+0<=_;omega
theorem zUq {sv x:Sl Plane}(hs:SetOk sv) (hx:SetOk x){v:Sl Int}(hv:ClkOk sv v){o c:Sl Span}(hxl:x.len=sv.len) (hxg:∀ i,i < sv.len->x.get i=nwP sv o c i) (hc:∀ i,i < sv.len->(c.get i).Low<=v.get (i+1)/\v.get (i+1)<=(c.get i).High){h:Sl Hit}{w:Sl Int}(hl:h.len<=20) (hw:w.len=h.len) (hg:∀ k,k < h.len->HitG sv v (h.get k) (w.get k)):znE x 0 h w=true/\znD x 0 h w=true:=by
  have hgood:∀ i,i < h.len->p14 ⟨x⟩ (h.get i)=true/\∃ a b,s14 ⟨x⟩ (h.get i)=(⟨a,b⟩,0)/\a<=w.get i/\w.get i<=b:=λ i hi=>by
    obtain⟨⟨a0,a1,ac,am,ad,aq⟩,⟨b1,b2⟩,l,u⟩:=hg i hi
    have e:=hxg (h.get i).Plane.toNat (by omega)
    have hk:=hv.k (h.get i).Plane.toNat (by omega)
    have hcc:=hc (h.get i).Plane.toNat (by omega)
    obtain⟨k1,k2⟩:=zRA hx (h:=h.get i) ⟨a0,by omega,ac,am,ad,by rw[e];exact aq⟩ ⟨b1,by rw[e];exact b2⟩ (by rw[e];exact hk)
    refine⟨k1,_,_,k2,?_,?_⟩
    · rw [e]
      show (h.get i).Time - (c.get (h.get i).Plane.toNat).High - (sv.get (h.get i).Plane.toNat).Jitter<=w.get i
      omega
    · rw [e]
      show w.get i<=(h.get i).Time - (c.get (h.get i).Plane.toNat).Low+(sv.get (h.get i).Plane.toNat).Jitter
      omega
  have hl := zdz (good := fun _ => true) (fin := true) (n := h.len) (lpS := fun k i => zja x k i h w) (lpP := fun k i => zjb x k i h w)
    (λ k i hi=>by
      show zk8 x (zja x k) (i:Int) h w=cond true (zja x k (w64 ((i:Int)+(1:Int))) h w) false
      generalize zja x k=S
      obtain⟨_,a,b,k2,k3,k4⟩:=hgood i hi
      unfold zk8 zwo
      rw[dqT (show (i:Int) < (h.len:Int) by omega),dqA,dqN,k2]
      show cond ((0:Int) != 0) false (cond (decide (w.get i < a)) false (cond (decide (w.get i > b)) false (S (w64 ((i:Int)+(1:Int))) h w)))=_
      rw[dqF (show ¬ w.get i < a by omega),dqF (show ¬ w.get i > b by omega)]
      rfl)
    (λ k=>by
      show zk8 x (zja x k) (h.len:Int) h w=_
      unfold zk8
      rw[dqF (show ¬ (h.len:Int) < (h.len:Int) by omega),dqB])
    (λ k i hi=>by
      show zk9 x (zjb x k) (i:Int) h w=cond true (zjb x k (w64 ((i:Int)+(1:Int))) h w) true
      generalize zjb x k=S
      obtain⟨k1,a,b,k2,k3,k4⟩:=hgood i hi
      unfold zk9 zwp
      rw[dqT (show (i:Int) < (h.len:Int) by omega),dqA,dqN,k2,k1,dqT (show 0<=(i:Int)/\(i:Int) < (h.len:Int) by omega),dqT (show 0<=(i:Int)/\(i:Int) < (w.len:Int) by omega),dqT (show i < h.len from hi),dqT (show i < w.len by omega)]
      show (true && (true && (true && cond ((0:Int) != 0) true (true && (true && cond (decide (w.get i < a)) true (true && (true && cond (decide (w.get i > b)) true (S (w64 ((i:Int)+(1:Int))) h w))))))))=_
      rw[dqF (show ¬ w.get i < a by omega),dqF (show ¬ w.get i > b by omega)]
      rfl)
    (λ k=>by
      show zk9 x (zjb x k) (h.len:Int) h w=_
      unfold zk9
      rw[dqF (show ¬ (h.len:Int) < (h.len:Int) by omega),dqB])
    (by omega)
  unfold znE znD
  exact⟨hl.1,hl.2.2 ⟨λ _ _=>rfl,rfl⟩⟩
theorem zUr {sv:Sl Plane}(hs:SetOk sv){v:Sl Int}(hv:ClkOk sv v){o b:Sl Span}(ho:o.len=sv.len) (hoo:∀ i,i < sv.len->o.get i=(sv.get i).Offset) (hb:b.len=sv.len+1) (hbb:∀ i,i < sv.len->(sv.get i).Clock.Low<=(b.get (i+1)).Low/\(b.get (i+1)).Low<=v.get (i+1)/\v.get (i+1)<=(b.get (i+1)).High/\(b.get (i+1)).High<=(sv.get i).Clock.High){h:Sl Hit}{w:Sl Int}(hl:h.len<=20) (hw:w.len=h.len) (hg:∀ k,k < h.len->HitG sv v (h.get k) (w.get k)):znI b sv h w o=true/\znH b sv h w o=true:=by
 have hn:NarOk sv o (⟨((b.len:Int) - (1:Int)).toNat,(λ i=>b.get (i+((1:Int).toNat)))⟩:Sl Span):=⟨ho,by show ((b.len:Int) - (1:Int)).toNat=sv.len;omega,hoo,λ i hi=>by
  have:=hbb i hi
  show (sv.get i).Clock.Low<=(b.get (i+1)).Low/\(b.get (i+1)).Low<=(b.get (i+1)).High/\(b.get (i+1)).High<=(sv.get i).Clock.High
  omega⟩
 obtain⟨k1,x,k2,k3,k4,k5⟩:=zRB hs hn
 obtain⟨m1,m2⟩:=zUq hs k3 hv k4 k5 (λ i hi=>by
  have:=hbb i hi
  show (b.get (i+1)).Low<=v.get (i+1)/\v.get (i+1)<=(b.get (i+1)).High
  omega) hl hw hg
 unfold znI znH
 rw[k1,k2,dqT (show 0<=(1:Int)/\(1:Int)<=(b.len:Int)/\(b.len:Int)<=(b.len:Int) by omega)]
 unfold zwu zwt zwr zwq
 show (true && (true && cond ((0:Int) != 0) true (znE x 0 h w)))=true/\cond ((0:Int) != 0) false (znD x 0 h w)=true
 rw[m1,m2]
 exact⟨rfl,rfl⟩
theorem zUs {sv:Sl Plane}{v:Sl Int}{o b:Sl Span}{h:Sl Hit}{w:Sl Int}(hl:b.len=v.len) (hn:b.len<=100) (hb:∀ i,i < b.len->(b.get i).Low<=v.get i/\v.get i<=(b.get i).High) (h19:znI b sv h w o=true/\znH b sv h w o=true):zqJ b sv v h w o 0=true/\zqI b sv v h w o 0=true:=by
  have hl := zdz (good := fun _ => true) (fin := true) (n := b.len) (lpS := zlc b sv v h w o) (lpP := zld b sv v h w o)
    (λ k i hi=>by
      show zla b sv v h w o (zlc b sv v h w o k) (i:Int)=_
      generalize zlc b sv v h w o k=S
      unfold zla
      rw[dqT (show (i:Int) < (b.len:Int) by omega),dqA,dqN,dqF (show ¬ v.get i < (b.get i).Low by have:=hb i hi;omega),dqF (show ¬ v.get i > (b.get i).High by have:=hb i hi;omega)]
      rfl)
    (λ k=>by
      show zla b sv v h w o (zlc b sv v h w o k) (b.len:Int)=_
      unfold zla
      rw[dqF (show ¬ (b.len:Int) < (b.len:Int) by omega),dqB];exact h19.2)
    (λ k i hi=>by
      show zlb b sv v h w o (zld b sv v h w o k) (i:Int)=_
      generalize zld b sv v h w o k=S
      unfold zlb
      rw[dqT (show (i:Int) < (b.len:Int) by omega),dqA,dqN,dqF (show ¬ v.get i < (b.get i).Low by have:=hb i hi;omega),dqF (show ¬ v.get i > (b.get i).High by have:=hb i hi;omega),dqT (show 0<=(i:Int)/\(i:Int) < (b.len:Int) by omega),dqT (show 0<=(i:Int)/\(i:Int) < (v.len:Int) by omega),dqT (show i < v.len by omega)]
      rfl)
    (λ k=>by
      show zlb b sv v h w o (zld b sv v h w o k) (b.len:Int)=_
      unfold zlb
      rw[dqF (show ¬ (b.len:Int) < (b.len:Int) by omega),dqB];exact h19.1)
    (by omega)
  unfold zqJ zqI
  exact⟨hl.1,hl.2.2 ⟨λ _ _=>rfl,rfl⟩⟩
theorem zUt {sv:Sl Plane}(hs:SetOk sv){v:Sl Int}(hv:ClkOk sv v){i:Nat}(hi:i<=10){t:Sl Tie}(ht:t.len=i) (hq:∀ k,k < i->TieOk (t.get k) ((sv.len:Int)+1)/\Keep (t.get k) v){σ:Off}(hσ:OffOk sv t sv.len σ){h:Sl Hit}{w:Sl Int}(hl:h.len<=20) (hw:w.len=h.len) (hg:∀ k,k < h.len->HitG sv v (h.get k) (w.get k)):znM ((sv.len:Int)+1) sv v h w σ.1 σ.2=true/\znL ((sv.len:Int)+1) sv v h w σ.1 σ.2=true:=by
 have n1:=hs.n1;have n16:=hs.n16
 obtain⟨sa,sb,sc,sd,se⟩:=hσ
 have hvl:=hv.len
 have hclk:∀ j,j < sv.len->TieOk (zEW sv j) ((sv.len:Int)+1)/\Keep (zEW sv j) v:=λ j hj=>by
  have hb:=hv.b j hj
  have hp:=(hs.pl j hj).c
  have e:w64 ((j:Int)+(1:Int))=(j:Int)+1:=zbs (by omega) (by omega)
  unfold zEW
  rw[e]
  refine⟨⟨by show (0:Int)<=0;omega,by show (0:Int) < (sv.len:Int)+1;omega,by show 0<=(j:Int)+1;omega,by show (j:Int)+1 < (sv.len:Int)+1;omega,by show (0:Int) ≠ (j:Int)+1;omega,.inr ⟨by show -1000000000<=(sv.get j).Clock.Low;omega,by show (sv.get j).Clock.Low<=1000000000;omega⟩,.inr ⟨by show -1000000000<=(sv.get j).Clock.High;omega,by show (sv.get j).Clock.High<=1000000000;omega⟩,hp.2.1⟩,?_⟩
  unfold Keep
  show (_\/(sv.get j).Clock.Low<=v.get ((j:Int)+1).toNat - v.get 0)/\(_\/v.get ((j:Int)+1).toNat - v.get 0<=(sv.get j).Clock.High)
  rw[show ((j:Int)+1).toNat=j+1 by omega,hv.z]
  exact⟨.inr (by omega),.inr (by omega)⟩
 have hall:∀ k,k < σ.1.len->TieOk (σ.1.get k) ((sv.len:Int)+1)/\Keep (σ.1.get k) v:=λ k hk=>by
  by_cases ho:k < t.len
  ·rw[sc k ho];exact hq k (by omega)
  ·have := sd (k - t.len) (by omega)
   rw[show t.len+(k - t.len)=k by omega] at this
   rw[this];exact hclk _ (by omega)
 have hn:NetOk (⟨(sv.len:Int)+1,σ.1⟩:Net):=⟨by show 1<=(sv.len:Int)+1;omega,by show (sv.len:Int)+1<=40;omega,by show σ.1.len<=200;omega,λ k hk=>(hall k hk).1⟩
 have hag:AgOk (⟨(sv.len:Int)+1,σ.1⟩:Net) v:=⟨⟨by show (v.len:Int)=(sv.len:Int)+1;omega,hv.z,λ k hk=>by
  by_cases hz:k=0
  ·rw[hz,hv.z];omega
  ·have := hv.b (k - 1) (by omega)
   rw[show k - 1+1=k by omega] at this
   omega⟩,λ k hk=>(hall k hk).2⟩
 obtain⟨g1,g2⟩:=zwF (⟨(sv.len:Int)+1,σ.1⟩:Net) (by show σ.1.len<=_;omega)
 obtain⟨c1,c2⟩:=zNi _ v hn (g2.2 hn) (by omega)
 have c3:=c2.2 hag
 have hN:=zlJ hn hag
 obtain⟨b1,b,b2,b3,b4⟩:=zEG (by show σ.1.len<=210;omega) hn hN
 have b3':b.len=sv.len+1:=b3.trans (by show ((sv.len:Int)+1).toNat=sv.len+1;omega)
 have hin:∀ k,k < b.len->(b.get k).Low<=v.get k/\v.get k<=(b.get k).High:=λ k hk=>by
  have:=zEH hn hag (i:=k) (by show k < ((sv.len:Int)+1).toNat;omega)
  rw[b4 k (by show k < ((sv.len:Int)+1).toNat;omega)]
  exact this
 have hnar:∀ k,k < sv.len->(sv.get k).Clock.Low<=(b.get (k+1)).Low/\(b.get (k+1)).Low<=v.get (k+1)/\v.get (k+1)<=(b.get (k+1)).High/\(b.get (k+1)).High<=(sv.get k).Clock.High:=λ k hk=>by
  have h1:=hin (k+1) (by omega)
  have hb:=hv.b k hk
  obtain⟨f1,f2⟩:=zRE hn hN (j:=t.len+k) (by show t.len+k < σ.1.len;omega)
  have e:(⟨(sv.len:Int)+1,σ.1⟩:Net).Ties.get (t.len+k)=⟨0,(k:Int)+1,(sv.get k).Clock.Low,(sv.get k).Clock.High⟩:=by
   show σ.1.get (t.len+k)=_
   rw[sd k hk];unfold zEW;rw[zbs (by omega) (by omega)]
  rw[e] at f1 f2
  have f1':fr (⟨(sv.len:Int)+1,σ.1⟩:Net) 0 ((k:Int)+1).toNat<=(sv.get k).Clock.High:=f1 (by show (sv.get k).Clock.High ≠ 1000000000000;omega)
  have f2':fr (⟨(sv.len:Int)+1,σ.1⟩:Net) ((k:Int)+1).toNat 0<=-(sv.get k).Clock.Low:=f2 (by show (sv.get k).Clock.Low ≠ -1000000000000;omega)
  rw[show ((k:Int)+1).toNat=k+1 by omega] at f1' f2'
  have e4:=b4 (k+1) (by show k+1 < ((sv.len:Int)+1).toNat;omega)
  rw[e4] at h1 ⊢
  exact⟨by show (sv.get k).Clock.Low<=-fr _ (k+1) 0;omega,h1.1,h1.2,f1'⟩
 have h19:=zUr hs hv sb se b3' hnar hl hw hg
 have h18:=zUs (sv:=sv) (o:=σ.2) (h:=h) (w:=w) (by omega) (by omega) hin h19
 have e1:((b.len:Int) != (v.len:Int))=false:=by rw[show (b.len:Int)=(v.len:Int) by omega];exact bne_self_eq_false _
 unfold znM znL
 rw[b1,b2]
 unfold zwx zww
 rw[c1,c3]
 show (true && (cond ((0:Int) != 0) _ (true && cond false _ (znK b ((b.len:Int) != (v.len:Int)) sv v h w σ.2))))=true/\cond ((0:Int) != 0) _ (cond false _ (znJ b ((b.len:Int) != (v.len:Int)) sv v h w σ.2))=true
 rw[e1]
 exact h18
theorem zUu {sv:Sl Plane}(hs:SetOk sv){v:Sl Int}(hv:ClkOk sv v){i:Nat}(hi:i<=10){t:Sl Tie}(ht:t.len=i) (hq:∀ k,k < i->TieOk (t.get k) ((sv.len:Int)+1)/\Keep (t.get k) v){h:Sl Hit}{w:Sl Int}(hl:h.len<=20) (hw:w.len=h.len) (hg:∀ k,k < h.len->HitG sv v (h.get k) (w.get k)):znQ ((sv.len:Int)+1) t sv v h w=true/\znP ((sv.len:Int)+1) t sv v h w=true:=by
  have n16:=hs.n16
  have hl2 := znW (step := zHc sv) (E := fun σ : Off => znL ((sv.len : Int) + 1) sv v h w σ.1 σ.2) (EP := fun σ : Off => znM ((sv.len : Int) + 1) sv v h w σ.1 σ.2) (Inv := fun i (σ : Off) => σ.1.len = t.len + i ∧ σ.2.len = i) (a := 0) (n := sv.len) (lpS := fun k σ i => zjc ((sv.len : Int) + 1) sv v h w k i σ.1 σ.2) (lpP := fun k σ i => zjd ((sv.len : Int) + 1) sv v h w k i σ.1 σ.2)
    (λ k i σ _ hi hσ=>by
      show zle ((sv.len:Int)+1) sv v h w (zjc ((sv.len:Int)+1) sv v h w k) (i:Int) σ.1 σ.2=zjc ((sv.len:Int)+1) sv v h w k (w64 ((i:Int)+(1:Int))) (zHc sv i σ).1 (zHc sv i σ).2
      generalize zjc ((sv.len:Int)+1) sv v h w k=S
      unfold zle zHc zEW
      rw[dqT (show (i:Int) < (sv.len:Int) by omega),dqA,dqN])
    (λ k σ=>by
      show zle ((sv.len:Int)+1) sv v h w (zjc ((sv.len:Int)+1) sv v h w k) (sv.len:Int) σ.1 σ.2=_
      unfold zle
      rw[dqF (show ¬ (sv.len:Int) < (sv.len:Int) by omega),dqB])
    (λ k i σ _ hi hσ=>by
      show zlf ((sv.len:Int)+1) sv v h w (zjd ((sv.len:Int)+1) sv v h w k) (i:Int) σ.1 σ.2=zjd ((sv.len:Int)+1) sv v h w k (w64 ((i:Int)+(1:Int))) (zHc sv i σ).1 (zHc sv i σ).2
      generalize zjd ((sv.len:Int)+1) sv v h w k=S
      have h1:σ.1.len=t.len+i:=hσ.1
      have h2:σ.2.len=i:=hσ.2
      unfold zlf zHc zEW
      rw[dqT (show (i:Int) < (sv.len:Int) by omega),dqA,dqN,dqT (show 0<=(i:Int)/\(i:Int) < (sv.len:Int) by omega),dqT (show (σ.1.len+1) * 32<=140737488355328/\σ.1.len+1<=9223372036854775807 by omega),dqT (show (σ.2.len+1) * 16<=140737488355328/\σ.2.len+1<=9223372036854775807 by omega)]
      rfl)
    (λ k σ=>by
      show zlf ((sv.len:Int)+1) sv v h w (zjd ((sv.len:Int)+1) sv v h w k) (sv.len:Int) σ.1 σ.2=_
      unfold zlf
      rw[dqF (show ¬ (sv.len:Int) < (sv.len:Int) by omega),dqB])
    (λ i σ _ _ hσ=>⟨by show σ.1.len+1=t.len+(i+1);have h1:σ.1.len=t.len+i:=hσ.1;omega,by show σ.2.len+1=i+1;have h2:σ.2.len=i:=hσ.2;omega⟩) (Nat.zero_le _) (by omega) (t,(⟨0,λ _=>default⟩:Sl Span)) ⟨rfl,rfl⟩
  have hinv:=zh1 (step:=zHc sv) (Inv:=OffOk sv t) (n:=sv.len) (λ i σ _ hσ=>zHd hσ) (sv.len - 0) 0 (t,(⟨0,λ _=>default⟩:Sl Span)) (by omega) ⟨rfl,rfl,λ j hj=>rfl,λ j hj=>absurd hj (dqW _),λ j hj=>absurd hj (dqW _)⟩
  obtain⟨l1,l2⟩:=hl2
  obtain⟨m1,m2⟩:=zUt hs hv hi ht hq hinv hl hw hg
  unfold znQ znP zwz zwy
  rw[dqT (show t.len * 32<=140737488355328/\t.len<=9223372036854775807 by omega)]
  exact⟨Eq.trans (Bool.true_and _) (l1.trans m1),l2.trans m2⟩
theorem zXj {sv:Sl Plane}(hs:SetOk sv){v:Sl Int}(hv:ClkOk sv v){i:Nat}(hi:i<=10){σ:Acc}(h:AccOk sv v i σ):ztl sv v σ.1 σ.2.1 σ.2.2=true/\ztk sv v σ.1 σ.2.1 σ.2.2=true:=by
 have n1:=hs.n1;have n16:=hs.n16
 obtain⟨h1,h2,h3,h4,h5⟩:=h
 obtain⟨t1,t2⟩:=zG9 σ.2.2
 obtain⟨a1,_⟩:=zRC ((sv.len:Int)+1) σ.2.2 (by omega)
 obtain⟨a1,a2⟩:=a1 (λ k hk=>(h5 k (by omega)).1)
 have hq:∀ k,k < i->TieOk ((zh6 σ.2.2).get k) ((sv.len:Int)+1)/\Keep ((zh6 σ.2.2).get k) v:=λ k hk=>by
  rw[t2 k (by omega)];exact (h5 k hk).2
 have hn:NetOk (⟨(sv.len:Int)+1,zh6 σ.2.2⟩:Net):=⟨by show 1<=(sv.len:Int)+1;omega,by show (sv.len:Int)+1<=40;omega,by show (zh6 σ.2.2).len<=200;omega,λ k hk=>(hq k (by have hk':k < (zh6 σ.2.2).len:=hk;omega)).1⟩
 obtain⟨g1,g2⟩:=zwF (⟨(sv.len:Int)+1,zh6 σ.2.2⟩:Net) (by show (zh6 σ.2.2).len<=_;omega)
 have hss:=g2.2 hn
 have e1:p10 ((sv.len:Int)+1) σ.2.2=true:=by
  unfold p10
  rw[dqF (show ¬ (σ.2.2.len:Int) > (200:Int) by omega),dqB,a1,g1];rfl
 have e2:s10 ((sv.len:Int)+1) σ.2.2=((⟨(sv.len:Int)+1,zh6 σ.2.2⟩:Net),0):=by
  unfold s10
  rw[dqF (show ¬ (σ.2.2.len:Int) > (200:Int) by omega),dqB,a2,hss];rfl
 obtain⟨m1,m2⟩:=zUu hs hv hi (t:=zh6 σ.2.2) (by omega) hq (h:=σ.1) (w:=σ.2.1) (by omega) (by omega) (λ k hk=>h4 k (by omega))
 unfold ztl ztk
 rw[zbs (x:=(sv.len:Int)+1) (by omega) (by omega),e1,e2]
 unfold zEg zEf
 show (true && cond ((0:Int) != 0) true (znQ ((sv.len:Int)+1) (zh6 σ.2.2) sv v σ.1 σ.2.1))=true/\cond ((0:Int) != 0) false (znP ((sv.len:Int)+1) (zh6 σ.2.2) sv v σ.1 σ.2.1)=true
 rw[m1,m2]
 exact⟨rfl,rfl⟩
def zR7 (n:Nat) (m:Flown) (X:Bool):Bool:=cond (decide (m.A < (0:Int))) true (cond (decide (m.A >= (n:Int))) true (cond (decide (m.B < (0:Int))) true (cond (decide (m.B >= (n:Int))) true (cond (m.A == m.B) true (cond (decide (m.Time < (-1000000:Int))) true (cond (decide (m.Time > (1000000:Int))) true (cond (decide (m.Flight < (0:Int))) true (cond (decide (m.Flight > (1000000:Int))) true (cond (decide (m.WrongA < (-100:Int))) true (cond (decide (m.WrongA > (100:Int))) true (cond (decide (m.WrongB < (-100:Int))) true (cond (decide (m.WrongB > (100:Int))) true (X)))))))))))))
theorem zEL (n:Nat) (m:Flown) (X:Bool):zR7 n m X=cond (zqW n m) X true:=by
 unfold zR7 zqW
 generalize decide (m.A < (0:Int))=b0
 generalize decide (m.A >= (n:Int))=b1
 generalize decide (m.B < (0:Int))=b2
 generalize decide (m.B >= (n:Int))=b3
 generalize (m.A == m.B)=b4
 generalize decide (m.Time < (-1000000:Int))=b5
 generalize decide (m.Time > (1000000:Int))=b6
 generalize decide (m.Flight < (0:Int))=b7
 generalize decide (m.Flight > (1000000:Int))=b8
 generalize decide (m.WrongA < (-100:Int))=b9
 generalize decide (m.WrongA > (100:Int))=b10
 generalize decide (m.WrongB < (-100:Int))=b11
 generalize decide (m.WrongB > (100:Int))=b12
 cases b0 <;> try rfl
 cases b1 <;> try rfl
 cases b2 <;> try rfl
 cases b3 <;> try rfl
 cases b4 <;> try rfl
 cases b5 <;> try rfl
 cases b6 <;> try rfl
 cases b7 <;> try rfl
 cases b8 <;> try rfl
 cases b9 <;> try rfl
 cases b10 <;> try rfl
 cases b11 <;> try rfl
 cases b12 <;> try rfl
def zNx (sv:Sl Plane) (v:Sl Int) (l:Sl Flown) (i:Nat):Bool:=zqW sv.len (l.get i) && (s9 ⟨sv⟩ (hA sv v (l.get i)) && s9 ⟨sv⟩ (hB sv v (l.get i)))
theorem st6 (sv : Sl Plane) (v : Sl Int) (l : Sl Flown) (play : Int) (i : Nat) (σ : Acc) (S : Int → Sl Plane → Sl Int → Sl Hit → Sl Int → Sl Pulse → Bool) :
  zyA S l play (i:Int) sv (l.get i).A (l.get i).B (l.get i).Time (l.get i).Flight (l.get i).WrongA (l.get i).WrongB v σ.1 σ.2.1 σ.2.2=cond (s9 ⟨sv⟩ (hA sv v (l.get i)) && s9 ⟨sv⟩ (hB sv v (l.get i))) (S (w64 ((i:Int)+(1:Int))) sv v (zmh sv v play l i σ).1 (zmh sv v play l i σ).2.1 (zmh sv v play l i σ).2.2) true:=by
 have e:zyA S l play (i:Int) sv (l.get i).A (l.get i).B (l.get i).Time (l.get i).Flight (l.get i).WrongA (l.get i).WrongB v σ.1 σ.2.1 σ.2.2=cond (!(s9 ⟨sv⟩ (hA sv v (l.get i)))) (cond true true (S (w64 ((i:Int)+(1:Int))) sv v (zmh sv v play l i σ).1 (zmh sv v play l i σ).2.1 (zmh sv v play l i σ).2.2)) (cond (!(s9 ⟨sv⟩ (hB sv v (l.get i)))) true (S (w64 ((i:Int)+(1:Int))) sv v (zmh sv v play l i σ).1 (zmh sv v play l i σ).2.1 (zmh sv v play l i σ).2.2)):=rfl
 rw[e]
 cases s9 ⟨sv⟩ (hA sv v (l.get i)) <;> cases s9 ⟨sv⟩ (hB sv v (l.get i)) <;> rfl
theorem pt6 {sv : Sl Plane} (hs : SetOk sv) {v : Sl Int} (hv : ClkOk sv v) {l : Sl Flown} {play : Int} {i : Nat} (hi : i ≤ 10) (hm : FlOk sv.len (l.get i)) {σ : Acc} (hσ : σ.1.len = 2 * i ∧ σ.2.1.len = 2 * i ∧ σ.2.2.len = i) (S : Int → Sl Plane → Sl Int → Sl Hit → Sl Int → Sl Pulse → Bool) :
  zyB S l play (i:Int) sv (l.get i).A (l.get i).B (l.get i).Time (l.get i).Flight (l.get i).WrongA (l.get i).WrongB v σ.1 σ.2.1 σ.2.2=cond (s9 ⟨sv⟩ (hA sv v (l.get i)) && s9 ⟨sv⟩ (hB sv v (l.get i))) (S (w64 ((i:Int)+(1:Int))) sv v (zmh sv v play l i σ).1 (zmh sv v play l i σ).2.1 (zmh sv v play l i σ).2.2) true:=by
 have e:w64 ((l.get i).Time+(l.get i).Flight)=(l.get i).Time+(l.get i).Flight:=zbs (by have:=hm.t;have:=hm.f;omega) (by have:=hm.t;have:=hm.f;omega)
 obtain⟨p8a,ra⟩:=zqX hs hv hm.a.1 hm.a.2 (t:=(l.get i).Time) (by have:=hm.t;omega) hm.wa
 obtain⟨p8b,rb⟩:=zqX hs hv hm.b.1 hm.b.2 (t:=w64 ((l.get i).Time+(l.get i).Flight)) (by rw[e];have:=hm.t;have:=hm.f;omega) hm.wb
 have p9a:=(zyM hs hv ra).1
 have p9b:=(zyM hs hv rb).1
 have n16:=hs.n16
 have hvl:=hv.len
 have ha:=hm.a;have hb:=hm.b
 have wa:w64 ((l.get i).A+(1:Int))=(l.get i).A+1:=zbs (by omega) (by omega)
 have wb:w64 ((l.get i).B+(1:Int))=(l.get i).B+1:=zbs (by omega) (by omega)
 have d1:decide (0<=w64 ((l.get i).A+(1:Int))/\w64 ((l.get i).A+(1:Int)) < (v.len:Int))=true:=by rw[wa];exact dqT (by omega)
 have d2:decide ((w64 ((l.get i).A+(1:Int))).toNat < v.len)=true:=by rw[wa];exact dqT (by omega)
 have d3:decide (0<=w64 ((l.get i).B+(1:Int))/\w64 ((l.get i).B+(1:Int)) < (v.len:Int))=true:=by rw[wb];exact dqT (by omega)
 have d4:decide ((w64 ((l.get i).B+(1:Int))).toNat < v.len)=true:=by rw[wb];exact dqT (by omega)
 have q1:decide ((σ.1.len+2) * 48<=140737488355328/\σ.1.len+2<=9223372036854775807)=true:=dqT (by omega)
 have q2:decide ((σ.2.1.len+2) * 8<=140737488355328/\σ.2.1.len+2<=9223372036854775807)=true:=dqT (by omega)
 have q3:decide (0<=(l.get i).A/\(l.get i).A < (sv.len:Int))=true:=dqT (by omega)
 have q4:decide (0<=(l.get i).B/\(l.get i).B < (sv.len:Int))=true:=dqT (by omega)
 have q5:decide ((σ.2.2.len+1) * 56<=140737488355328/\σ.2.2.len+1<=9223372036854775807)=true:=dqT (by omega)
 have f:∀ X,X=(decide ((σ.1.len+2) * 48<=140737488355328/\σ.1.len+2<=9223372036854775807) && (decide ((σ.2.1.len+2) * 8<=140737488355328/\σ.2.1.len+2<=9223372036854775807) && (decide (0<=(l.get i).A/\(l.get i).A < (sv.len:Int)) && (decide (0<=(l.get i).B/\(l.get i).B < (sv.len:Int)) && (decide ((σ.2.2.len+1) * 56<=140737488355328/\σ.2.2.len+1<=9223372036854775807) && S (w64 ((i:Int)+(1:Int))) sv v (zmh sv v play l i σ).1 (zmh sv v play l i σ).2.1 (zmh sv v play l i σ).2.2)))))->zyB S l play (i:Int) sv (l.get i).A (l.get i).B (l.get i).Time (l.get i).Flight (l.get i).WrongA (l.get i).WrongB v σ.1 σ.2.1 σ.2.2=(decide (0<=w64 ((l.get i).A+(1:Int))/\w64 ((l.get i).A+(1:Int)) < (v.len:Int)) && (decide ((w64 ((l.get i).A+(1:Int))).toNat < v.len) && (decide (p8 ⟨sv⟩ (l.get i).A (l.get i).Time (v.get ((w64 ((l.get i).A+(1:Int))).toNat)) (l.get i).WrongA=true) && (decide (0<=w64 ((l.get i).B+(1:Int))/\w64 ((l.get i).B+(1:Int)) < (v.len:Int)) && (decide ((w64 ((l.get i).B+(1:Int))).toNat < v.len) && (decide (p8 ⟨sv⟩ (l.get i).B (w64 ((l.get i).Time+(l.get i).Flight)) (v.get ((w64 ((l.get i).B+(1:Int))).toNat)) (l.get i).WrongB=true) && (decide (p9 ⟨sv⟩ (hA sv v (l.get i))=true) && cond (!(s9 ⟨sv⟩ (hA sv v (l.get i)))) (cond true true X) (decide (p9 ⟨sv⟩ (hB sv v (l.get i))=true) && (cond (!(s9 ⟨sv⟩ (hB sv v (l.get i)))) true X))))))))):=λ X hX=>by subst hX;rfl
 rw[f _ rfl,d1,d2,p8a,d3,d4,p8b,show p9 ⟨sv⟩ (hA sv v (l.get i))=true from p9a,show p9 ⟨sv⟩ (hB sv v (l.get i))=true from p9b,q1,q2,q3,q4,q5]
 cases s9 ⟨sv⟩ (hA sv v (l.get i)) <;> cases s9 ⟨sv⟩ (hB sv v (l.get i)) <;> rfl
theorem zUv {sv:Sl Plane}(hs:SetOk sv){v:Sl Int}(hv:ClkOk sv v){l:Sl Flown}(hl:l.len<=10){play:Int}(hp:0<=play/\play<=1000):ztn l play sv v=true/\ztm l play sv v=true:=by
  have h := zqO (good := zNx sv v l) (step := zmh sv v play l) (bad := true) (E := fun σ : Acc => ztk sv v σ.1 σ.2.1 σ.2.2) (EP := fun σ : Acc => ztl sv v σ.1 σ.2.1 σ.2.2) (Inv := fun i (σ : Acc) => σ.1.len = 2 * i ∧ σ.2.1.len = 2 * i ∧ σ.2.2.len = i) (n := l.len)
    (lpS:=λ k σ i=>znR l play k i sv v σ.1 σ.2.1 σ.2.2) (lpP:=λ k σ i=>znS l play k i sv v σ.1 σ.2.1 σ.2.2)
    (λ k i σ hi hσ=>by
      show zoL l play (znR l play k) (i:Int) sv v σ.1 σ.2.1 σ.2.2=cond (zqW sv.len (l.get i) && (s9 ⟨sv⟩ (hA sv v (l.get i)) && s9 ⟨sv⟩ (hB sv v (l.get i)))) (znR l play k (w64 ((i:Int)+(1:Int))) sv v (zmh sv v play l i σ).1 (zmh sv v play l i σ).2.1 (zmh sv v play l i σ).2.2) true
      generalize znR l play k=S
      unfold zoL
      rw[dqT (show (i:Int) < (l.len:Int) by omega),dqA,dqN,st6]
      show zR7 sv.len (l.get i) _=_
      rw[zEL]
      cases zqW sv.len (l.get i) <;> rfl)
    (λ k σ=>by
      show zoL l play (znR l play k) (l.len:Int) sv v σ.1 σ.2.1 σ.2.2=_
      unfold zoL
      rw[dqF (show ¬ (l.len:Int) < (l.len:Int) by omega),dqB])
    (λ k i σ hi hσ=>by
      show zoM l play (znS l play k) (i:Int) sv v σ.1 σ.2.1 σ.2.2=cond (zqW sv.len (l.get i) && (s9 ⟨sv⟩ (hA sv v (l.get i)) && s9 ⟨sv⟩ (hB sv v (l.get i)))) (znS l play k (w64 ((i:Int)+(1:Int))) sv v (zmh sv v play l i σ).1 (zmh sv v play l i σ).2.1 (zmh sv v play l i σ).2.2) true
      generalize znS l play k=S
      unfold zoM
      rw[dqT (show (i:Int) < (l.len:Int) by omega),dqA,dqN,dqT (show 0<=(i:Int)/\(i:Int) < (l.len:Int) by omega),Bool.true_and]
      show zR7 sv.len (l.get i) _=_
      rw[zEL]
      cases hg:zqW sv.len (l.get i)
      · rfl
      · rw[pt6 hs hv (by omega) (zyL hg) hσ];rfl)
    (λ k σ=>by
      show zoM l play (znS l play k) (l.len:Int) sv v σ.1 σ.2.1 σ.2.2=_
      unfold zoM
      rw[dqF (show ¬ (l.len:Int) < (l.len:Int) by omega),dqB])
    (λ i σ _ h=>⟨by show σ.1.len+2=2 * (i+1);have:=h.1;omega,by show σ.2.1.len+2=2 * (i+1);have:=h.2.1;omega,by show σ.2.2.len+1=i+1;have:=h.2.2;omega⟩) (by omega) ((⟨0,λ _=>default⟩:Sl Hit),(⟨0,λ _=>default⟩:Sl Int),(⟨0,λ _=>default⟩:Sl Pulse)) ⟨rfl,rfl,rfl⟩
  unfold ztn ztm zEi zEh
  by_cases hg:∀ i,i < l.len->zNx sv v l i=true
  · obtain ⟨k1, k2⟩ := h.1 hg
    have hinv:=zh1 (step:=zmh sv v play l) (Inv:=AccOk sv v) (n:=l.len) (λ i σ hi hσ=>by
      have:=hg i hi
      unfold zNx at this
      rw[dqm,dqm] at this
      exact zHb hs hv hp (zyL this.1) this.2.1 this.2.2 hσ) l.len 0 ((⟨0,λ _=>default⟩:Sl Hit),(⟨0,λ _=>default⟩:Sl Int),(⟨0,λ _=>default⟩:Sl Pulse)) (by omega) ⟨rfl,rfl,rfl,λ k hk=>absurd hk (dqW _),λ k hk=>absurd hk (dqW _)⟩
    obtain⟨m1,m2⟩:=zXj hs hv hl hinv
    exact⟨k1.trans m1,k2.trans m2⟩
  · exact h.2 hg
structure ValOkk (sv : Sl Plane) (c : Sl Int) (i : Nat) (v : Sl Int) : Prop where
  l:v.len=i+1
  z:v.get 0=0
  g:∀ j,j < i->v.get (j+1)=zzn (sv.get j) (c.get j)
theorem zUw {sv:Sl Plane}(hs:SetOk sv) (hn:sv.len<=6){c:Sl Int}(hc:c.len=sv.len){l:Sl Flown}(hl:l.len<=10){play:Int}(hp:0<=play/\play<=1000):zyD c l play sv=true/\zyC c l play sv=true:=by
  have h := zqO (good := fun i => ztv (sv.get i) (c.get i)) (step := apL fun i => zzn (sv.get i) (c.get i)) (bad := true) (E := fun v => ztm l play sv v) (EP := fun v => ztn l play sv v) (Inv := fun i v => v.len = i + 1) (n := sv.len)
    (lpS:=λ k v i=>znT c l play k i sv v) (lpP:=λ k v i=>znU c l play k i sv v)
    (λ k i v hi hv=>by
      show zoN c l play (znT c l play k) (i:Int) sv v=cond (ztv (sv.get i) (c.get i)) (znT c l play k (w64 ((i:Int)+(1:Int))) sv (apL (λ i=>zzn (sv.get i) (c.get i)) i v)) true
      generalize znT c l play k=S
      unfold zoN zEj ztv apL zzn
      rw[dqT (show (i:Int) < (sv.len:Int) by omega),dqA,dqN]
      cases (sv.get i).Kind == (3:Int) <;> cases decide (c.get i < (0:Int)) <;> cases decide (c.get i > (100:Int)) <;> cases decide ((sv.get i).Clock.Low < (-1000000:Int)) <;> cases decide ((sv.get i).Clock.High > (1000000:Int)) <;> rfl)
    (λ k v=>by
      show zoN c l play (znT c l play k) (sv.len:Int) sv v=_
      unfold zoN
      rw[dqF (show ¬ (sv.len:Int) < (sv.len:Int) by omega),dqB])
    (λ k i v hi hv=>by
      show zoO c l play (znU c l play k) (i:Int) sv v=cond (ztv (sv.get i) (c.get i)) (znU c l play k (w64 ((i:Int)+(1:Int))) sv (apL (λ i=>zzn (sv.get i) (c.get i)) i v)) true
      generalize znU c l play k=S
      have hv':v.len=i+1:=hv
      unfold zoO zEk ztv apL zzn
      rw[dqT (show (i:Int) < (sv.len:Int) by omega),dqA,dqN,dqT (show 0<=(i:Int)/\(i:Int) < (sv.len:Int) by omega),dqT (show 0<=(i:Int)/\(i:Int) < (c.len:Int) by omega),dqT (show (100:Int) ≠ 0 by decide),dqT (show (v.len+1) * 8<=140737488355328/\v.len+1<=9223372036854775807 by omega)]
      cases (sv.get i).Kind == (3:Int) <;> cases decide (c.get i < (0:Int)) <;> cases decide (c.get i > (100:Int)) <;> cases decide ((sv.get i).Clock.Low < (-1000000:Int)) <;> cases decide ((sv.get i).Clock.High > (1000000:Int)) <;> rfl)
    (λ k v=>by
      show zoO c l play (znU c l play k) (sv.len:Int) sv v=_
      unfold zoO
      rw[dqF (show ¬ (sv.len:Int) < (sv.len:Int) by omega),dqB])
    (λ i v _ h=>by show v.len+1=i+1+1;have h':v.len=i+1:=h;omega) (by omega) (⟨1,(λ _=>(0:Int))⟩:Sl Int) rfl
  unfold zyD zyC zEm zEl
  by_cases hg:∀ i,i < sv.len->ztv (sv.get i) (c.get i)=true
  · obtain ⟨k1, k2⟩ := h.1 hg
    obtain⟨i1,i2,i3⟩:=zh1 (step:=apL λ i=>zzn (sv.get i) (c.get i)) (Inv:=ValOkk sv c) (n:=sv.len) (λ i v hi hv=>by
      obtain⟨a,b,d⟩:=hv
      refine⟨by show v.len+1=i+1+1;omega,?_,λ j hj=>?_⟩
      · show zfU v.len v.get (fun _ => zzn (sv.get i) (c.get i)) 0 = 0
        rw[zfR (by omega)];exact b
      · show zfU v.len v.get (fun _ => zzn (sv.get i) (c.get i)) (j + 1) = _
        by_cases hji:j < i
        · rw[zfR (by omega)];exact d j hji
        · rw[zh2 (by omega),show j=i by omega]) sv.len 0 (⟨1,(λ _=>(0:Int))⟩:Sl Int) (by omega) ⟨rfl,rfl,λ j hj=>absurd hj (dqW _)⟩
    have hv:ClkOk sv (zhM (apL λ i=>zzn (sv.get i) (c.get i)) sv.len 0 (⟨1,(λ _=>(0:Int))⟩:Sl Int)):=⟨i1,i2,λ i hi=>(zEK (hs.pl i hi) (hg i hi)).1,λ i hi=>by
      have:=zEK (hs.pl i hi) (hg i hi)
      rw[i3 i hi];exact this.2⟩
    obtain⟨m1,m2⟩:=zUv hs hv hl hp
    exact⟨k1.trans m1,k2.trans m2⟩
  · exact h.2 hg
theorem clocks_true (s:Setup) (c:Sl Int) (l:Sl Flown) (play:Int) (hs:wf_24 s):p3 s c l play=true/\s3 s c l play=true:=by
 obtain⟨sv⟩:=s
 have hn:sv.len<=9223372036854775807:=hs.1
 have hw:∀ i,i < sv.len->(sv.get i).Drift.len<=9223372036854775807/\(sv.get i).Dead.len<=9223372036854775807:=λ i hi=>by
  obtain⟨_,_,_,_,_,_,_,_,_,_,_,h1,h2⟩:=hs.2 i hi
  exact⟨h1.1,h2.1⟩
 have h5:=zUl ⟨sv⟩ hn
 obtain⟨h6,h6'⟩:=zUm sv hn hw
 have hT:∀ b,zeZ c l play true b=true/\zeY c l play true b=true:=λ b=>⟨rfl,rfl⟩
 unfold p3 s3
 rw[h5,h6]
 show (true && cond (!(s5 ⟨sv⟩)) (zeZ c l play true sv) (true && cond (!(s6 ⟨sv⟩)) (zeZ c l play true sv) (cond (decide ((sv.len:Int) > (6:Int))) (zeZ c l play true sv) (cond ((c.len:Int) != (sv.len:Int)) (zeZ c l play true sv) (cond (decide ((l.len:Int) > (10:Int))) (zeZ c l play true sv) (cond (decide (play < (0:Int))) (zeZ c l play true sv) (zeZ c l play (decide (play > (1000:Int))) sv)))))))=true/\cond (!(s5 ⟨sv⟩)) (zeY c l play true sv) (cond (!(s6 ⟨sv⟩)) (zeY c l play true sv) (cond (decide ((sv.len:Int) > (6:Int))) (zeY c l play true sv) (cond ((c.len:Int) != (sv.len:Int)) (zeY c l play true sv) (cond (decide ((l.len:Int) > (10:Int))) (zeY c l play true sv) (cond (decide (play < (0:Int))) (zeY c l play true sv) (zeY c l play (decide (play > (1000:Int))) sv))))))=true
 rw[Bool.true_and,Bool.true_and]
 by_cases a5:s5 ⟨sv⟩=true
 ·rw [a5, Bool.not_true, dqB, dqB]
  by_cases a6:s6 ⟨sv⟩=true
  ·rw [a6, Bool.not_true, dqB, dqB]
   by_cases a1:(sv.len:Int) > 6
   ·rw[dqT a1];exact hT sv
   rw[dqF a1,dqB,dqB]
   by_cases a2:c.len=sv.len
   ·rw [show ((c.len : Int) != (sv.len : Int)) = false by rw [a2]; exact bne_self_eq_false _, dqB, dqB]
    by_cases a3:(l.len:Int) > 10
    ·rw[dqT a3];exact hT sv
    rw[dqF a3,dqB,dqB]
    by_cases a4:play < 0
    ·rw[dqT a4];exact hT sv
    rw[dqF a4,dqB,dqB]
    by_cases a7:play > 1000
    ·rw[dqT a7];exact hT sv
    rw[dqF a7]
    exact zUw (h6' a6) (by omega) a2 (by omega) ⟨by omega,by omega⟩
   ·rw[show ((c.len:Int) != (sv.len:Int))=true from bne_iff_ne.2 (by omega)];exact hT sv
  ·rw[Bool.eq_false_iff.2 a6];exact hT sv
 ·rw[Bool.eq_false_iff.2 a5];exact hT sv
end Go.Proofs
