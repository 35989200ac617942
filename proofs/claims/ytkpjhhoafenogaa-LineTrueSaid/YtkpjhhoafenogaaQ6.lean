/- Part 6 of what the proof rests on: a machine that runs functions of the program on pure values, proved sound; the functions that the law reaches, and what they compute. -/
import Derived.Test.YtkpjhhoafenogaaQ5
set_option linter.all false
namespace Go.Proofs
open Go Go.Pm
set_option maxRecDepth 100000
theorem ziH (n a b:Int):s70 n a b=decide (a≤n∧n≤b):=by
 unfold s70;by_cases h:n ≥ a
 ·rw [decide_eq_true h,cond_true];exact decide_eq_decide.2 ⟨fun k=>⟨h,k⟩,fun k=>k.2⟩
 ·rw [decide_eq_false h,cond_false];exact (decide_eq_false fun k=>h k.1).symm
theorem ziI (n a b:Int):s74 n a b=decide (a≤n∧n≤b):=ziH n a b
def zfC (g:Gate):Prop:=(0≤g.Z∧g.Z≤100000)∧-1000000≤g.Low∧g.Low≤g.High∧g.High≤1000000
def zaC (l:Sl Gate):Prop:=(∀ i,i < l.len→zfC (l.get i))∧1≤l.len∧l.len≤24
theorem ze1 (a b:Bool):cond a b false=(a && b):=by cases a <;> rfl
theorem zDD (g:Gate):s87 g=true↔zfC g:=by
 unfold s87 zfC
 rw [ziI,ze1,ze1,ze1,Bool.and_eq_true,Bool.and_eq_true,Bool.and_eq_true,decide_eq_true_eq,decide_eq_true_eq,decide_eq_true_eq,decide_eq_true_eq]
theorem zDE (g:Gate):s49 g=true↔zfC g:=by
 unfold s49 zfC
 rw [ziH,ziH,ze1,ze1,Bool.and_eq_true,Bool.and_eq_true,decide_eq_true_eq,decide_eq_true_eq,decide_eq_true_eq]
 omega
theorem zma (l:Sl Gate) (hn:l.len≤9223372036854775807):p64 l=true∧(s64 l=true↔zaC l):=by
  have := zsZ (good := fun i => s87 (l.get i)) (fin := s74 (l.len : Int) 1 24) (n := l.len) (lpS := zhZ l) (lpP := zh0 l)
    (fun k i hi=>by
      show zhX l (zhZ l k) (i:Int)=_
      generalize zhZ l k=S
      unfold zhX zqp
      rw [decide_eq_true (show (i:Int) < (l.len:Int) by omega),cond_true,Int.toNat_natCast]
      cases s87 (l.get i) <;> rfl)
    (fun k=>by
      show zhX l (zhZ l k) (l.len:Int)=_
      unfold zhX
      rw [decide_eq_false (show ¬ (l.len:Int) < (l.len:Int) by omega),cond_false])
    (fun k i hi=>by
      show zhY l (zh0 l k) (i:Int)=_
      generalize zh0 l k=S
      unfold zhY zqq
      rw [decide_eq_true (show (i:Int) < (l.len:Int) by omega),cond_true,Int.toNat_natCast,decide_eq_true (show 0≤(i:Int)∧(i:Int) < (l.len:Int) by omega),Bool.true_and]
      cases s87 (l.get i) <;> rfl)
    (fun k=>by
      show zhY l (zh0 l k) (l.len:Int)=_
      unfold zhY
      rw [decide_eq_false (show ¬ (l.len:Int) < (l.len:Int) by omega),cond_false])
    hn
  refine ⟨this.1,this.2.trans ?_⟩
  rw [ziI,decide_eq_true_eq]
  exact ⟨fun k=>⟨fun i hi=>(zDD _).1 (k.1 i hi),by omega,by omega⟩,fun k=>⟨fun i hi=>(zDD _).2 (k.1 i hi),by have:=k.2;omega⟩⟩
theorem zzW (l:Sl Gate) (hn:l.len≤9223372036854775807):p20 l=true∧(s20 l=true↔zaC l):=by
  have := zsZ (good := fun i => s49 (l.get i)) (fin := s70 (l.len : Int) 1 24) (n := l.len) (lpS := zie l) (lpP := zif l)
    (fun k i hi=>by
      show zic l (zie l k) (i:Int)=_
      generalize zie l k=S
      unfold zic zrE
      rw [decide_eq_true (show (i:Int) < (l.len:Int) by omega),cond_true,Int.toNat_natCast]
      cases s49 (l.get i) <;> rfl)
    (fun k=>by
      show zic l (zie l k) (l.len:Int)=_
      unfold zic
      rw [decide_eq_false (show ¬ (l.len:Int) < (l.len:Int) by omega),cond_false])
    (fun k i hi=>by
      show zid l (zif l k) (i:Int)=_
      generalize zif l k=S
      unfold zid zrF
      rw [decide_eq_true (show (i:Int) < (l.len:Int) by omega),cond_true,Int.toNat_natCast,decide_eq_true (show 0≤(i:Int)∧(i:Int) < (l.len:Int) by omega),Bool.true_and]
      cases s49 (l.get i) <;> rfl)
    (fun k=>by
      show zid l (zif l k) (l.len:Int)=_
      unfold zid
      rw [decide_eq_false (show ¬ (l.len:Int) < (l.len:Int) by omega),cond_false])
    hn
  refine ⟨this.1,this.2.trans ?_⟩
  rw [ziH,decide_eq_true_eq]
  exact ⟨fun k=>⟨fun i hi=>(zDE _).1 (k.1 i hi),by omega,by omega⟩,fun k=>⟨fun i hi=>(zDE _).2 (k.1 i hi),by have:=k.2;omega⟩⟩
theorem zK2 (l:Sl Gate) (hn:l.len≤9223372036854775807):s64 l=s20 l :=
 Bool.eq_iff_iff.2 ((zma l hn).2.trans (zzW l hn).2.symm)
-- the greatest common divisor
theorem zzX:∀ (k:Nat) (a b:Int),0≤a→0≤b→b < (k:Int) →
  (zi6 k a b=true∧zi5 k a b=(Int.gcd a b:Int))∧(znp k a b=true∧zno k a b=(Int.gcd a b:Int)):=by
 intro k
 induction k with
 | zero=>intro a b _ h1 h2;omega
 | succ k ih =>
  intro a b ha hb hk
  show (zi4 (zi6 k) a b=true∧zi3 (zi5 k) a b=_)∧(znn (znp k) a b=true∧znm (zno k) a b=_)
  unfold zi4 zi3 znn znm
  by_cases h0:b=0
  ·subst h0
   simp [Int.natAbs_of_nonneg ha]
  ·have hb0 : b > 0 := by omega
   have e1:(b != (0:Int))=true:=by simpa using h0
   have m0:0≤a.tmod b:=Int.tmod_nonneg b ha
   have m1:a.tmod b < b:=Int.tmod_lt_of_pos a hb0
   have g:Int.gcd b (a.tmod b)=Int.gcd a b:=by
    obtain ⟨m,rfl⟩:=Int.eq_ofNat_of_zero_le ha
    obtain ⟨n,rfl⟩:=Int.eq_ofNat_of_zero_le hb
    show Nat.gcd n (m % n)=Nat.gcd m n
    rw [Nat.gcd_comm m n,Nat.gcd_rec n m,Nat.gcd_comm]
   obtain ⟨⟨i1,i2⟩,i3,i4⟩:=ih b (a.tmod b) hb m0 (by omega)
   rw [decide_eq_true hb0,e1,decide_eq_true (show b ≠ 0 from h0),cond_true,cond_true,cond_true,cond_true,Bool.true_and,Bool.true_and,i1,i2,i3,i4,g]
   exact ⟨⟨rfl,rfl⟩,rfl,rfl⟩
theorem zzY (a b:Int) (ha:0≤a) (hb:0≤b) (hk:b≤9223372036854775807):zI7 a b=true∧zCY a b=(Int.gcd a b:Int) :=
 (zzX Fuel a b ha hb (by simp only [Fuel];omega)).1
theorem ztH (a b:Int) (ha:0≤a) (hb:0≤b) (hk:b≤9223372036854775807):p73 a b=true∧s73 a b=(Int.gcd a b:Int) :=
 (zzX Fuel a b ha hb (by simp only [Fuel];omega)).2
-- the order of equal lists
def SEq {α:Type} (a b:Sl α):Prop:=a.len=b.len∧∀ i,i < a.len→a.get i=b.get i
end Go.Proofs
namespace Go.Proofs
open Go Go.Pm
set_option maxRecDepth 100000
theorem zhy {σ : Type} {step : Nat → σ → σ} {Inv : Nat → σ → Prop} {n : Nat} (hI : ∀ i s, i < n → Inv i s → Inv (i + 1) (step i s)) :
    ∀ (m i:Nat) (s:σ),i+m=n→Inv i s→Inv n (zgM step m i s):=by
  intro m
  induction m with
  | zero => intro i s h hs; have : i = n := by omega
            subst this;exact hs
  | succ m ih=>intro i s h hs;exact ih (i+1) (step i s) (by omega) (hI i s (by omega) hs)
def addI (l:Line) (zaa:Sl Gate) (i:Nat) (v:Sl Int):Sl Int:=cond (s72 l (zaa.get i)) (⟨v.len+1,zdQ v.len v.get (fun _=>(i:Int))⟩:Sl Int) v
def zuH (l:Line) (zaa:Sl Gate):Sl Int:=zgM (addI l zaa) zaa.len 0 (⟨0,fun _=>default⟩:Sl Int)
theorem zjf (l:Line) (zaa:Sl Gate) (i:Nat) (v:Sl Int) (h:v.len≤i):(addI l zaa i v).len≤i+1:=by
 unfold addI;cases s72 l (zaa.get i)
 ·exact Nat.le_succ_of_le h
 ·exact Nat.succ_le_succ h
theorem zCl (l:Line) (zaa:Sl Gate):(zuH l zaa).len≤zaa.len :=
 zhy (Inv:=fun i v=>v.len≤i) (n:=zaa.len) (fun i s _ h=>zjf l zaa i s h) zaa.len 0 _ (by omega) (Nat.le_refl _)
theorem zzZ (l:Line) (zaa:Sl Gate) (hn:zaa.len≤40):p27 l zaa=true∧s27 l zaa=zuH l zaa:=by
  have := zeu (σ := Sl Int) (step := addI l zaa) (E := id) (EP := fun _ => true) (Inv := fun i v => v.len ≤ i) (a := 0) (n := zaa.len) (lpS := fun k v i => zkP l zaa k i v) (lpP := fun k v i => zkQ l zaa k i v)
    (fun k i v _ hi _=>by
      show zkN l zaa (zkP l zaa k) (i:Int) v=_
      generalize zkP l zaa k=S
      unfold zkN zzt addI
      rw [decide_eq_true (show (i:Int) < (zaa.len:Int) by omega),cond_true,Int.toNat_natCast]
      cases s72 l (zaa.get i) <;> rfl)
    (fun k v=>by
      show zkN l zaa (zkP l zaa k) (zaa.len:Int) v=_
      unfold zkN
      rw [decide_eq_false (show ¬ (zaa.len:Int) < (zaa.len:Int) by omega),cond_false];rfl)
    (fun k i v _ hi hv=>by
      show zkO l zaa (zkQ l zaa k) (i:Int) v=_
      generalize zkQ l zaa k=S
      unfold zkO zzu addI
      rw [decide_eq_true (show (i:Int) < (zaa.len:Int) by omega),cond_true,Int.toNat_natCast,decide_eq_true (show 0≤(i:Int)∧(i:Int) < (zaa.len:Int) by omega),decide_eq_true (show (v.len+1) * 8≤140737488355328∧v.len+1≤9223372036854775807 by omega)]
      cases s72 l (zaa.get i) <;> rfl)
    (fun k v=>by
      show zkO l zaa (zkQ l zaa k) (zaa.len:Int) v=_
      unfold zkO
      rw [decide_eq_false (show ¬ (zaa.len:Int) < (zaa.len:Int) by omega),cond_false])
    (fun i v _ _ h=>zjf l zaa i v h) (Nat.zero_le _) (by omega) (⟨0,fun _=>default⟩:Sl Int) (Nat.le_refl _)
  exact this
end Go.Proofs
namespace Go.Proofs
open Go Go.Pm
set_option maxRecDepth 100000
theorem zK3 {m:Int} (h0:0≤m) (h1:m≤4611686018427387904):w64 (0 - m) = -m:=by rw [zaU (by omega) (by omega)];omega
theorem ztI (f:Frac) (m:Int) (h0:0≤m) (h1:m≤4611686018427387904):p90 f (100000:Int) m=true∧p91 f m=true∧s90 f (100000:Int) m=s91 f m:=by
 unfold p90 p91 s90 s91
 rw [ziI,ziI,ziH,ziH,zK3 h0 h1]
 by_cases a1:1≤f.Den∧f.Den≤100000
 ·by_cases a2 : -m ≤ f.Num ∧ f.Num ≤ m
  ·rw [decide_eq_true a1, decide_eq_true a2]
   have hw:w64 (0 - f.Num) = -f.Num:=by rw [zaU (by omega) (by omega)];omega
   rw [hw]
   have ha:0≤(if -f.Num > f.Num then -f.Num else f.Num):=by split <;> omega
   generalize (if -f.Num > f.Num then -f.Num else f.Num)=a at ha ⊢
   obtain ⟨g1,g2⟩:=zzY a f.Den ha (by omega) (by omega)
   obtain ⟨g3,g4⟩:=ztH a f.Den ha (by omega) (by omega)
   simp only [g1,g2,g3,g4,cond_true,decide_true,Bool.and_true,and_self]
  ·simp only [decide_eq_true a1,decide_eq_false a2,cond_true,cond_false,and_self]
 ·simp only [decide_eq_false a1,cond_true,cond_false,and_self]
theorem zz0 (l:Line):p53 l=true∧s53 l=(s91 l.Slope 2000000 && s91 l.Start 1000000000000):=by
 unfold p53 s53
 rw [(ztI l.Slope 2000000 (by omega) (by omega)).2.1,(ztI l.Start 1000000000000 (by omega) (by omega)).2.1]
 cases s91 l.Slope 2000000 <;> cases s91 l.Start 1000000000000 <;> exact ⟨rfl,rfl⟩
theorem zz1 (l:Line) (g:Gate):s74 (w64 ((w64 (l.Start.Num * l.Slope.Den))+(w64 ((w64 (l.Slope.Num * g.Z)) * l.Start.Den)))) (w64 (g.Low * (w64 (l.Slope.Den * l.Start.Den)))) (w64 (g.High * (w64 (l.Slope.Den * l.Start.Den))))=s72 l g:=by
 unfold s72 zuA
 rw [ziI,Int.mul_comm l.Start.Den l.Slope.Den,ze1]
 exact (Bool.decide_and _ _).trans rfl
theorem zK4 (l:Line) (zaa:Sl Gate) (hn:zaa.len≤40):zrQ l zaa=true∧zrP l zaa=(zuH l zaa,0):=by
  have := zeu (σ := Sl Int) (step := addI l zaa) (E := fun v => (v, (0 : Int))) (EP := fun _ => true) (Inv := fun i v => v.len ≤ i) (a := 0) (n := zaa.len) (lpS := fun k v i => zin l zaa k i v) (lpP := fun k v i => zio l zaa k i v)
    (fun k i v _ hi _=>by
      show zil l zaa (zin l zaa k) (i:Int) v=_
      generalize zin l zaa k=S
      unfold zil zrM addI
      rw [decide_eq_true (show (i:Int) < (zaa.len:Int) by omega),cond_true,Int.toNat_natCast,zz1]
      cases s72 l (zaa.get i) <;> rfl)
    (fun k v=>by
      show zil l zaa (zin l zaa k) (zaa.len:Int) v=_
      unfold zil
      rw [decide_eq_false (show ¬ (zaa.len:Int) < (zaa.len:Int) by omega),cond_false])
    (fun k i v _ hi hv=>by
      show zim l zaa (zio l zaa k) (i:Int) v=_
      generalize zio l zaa k=S
      unfold zim zrN addI
      rw [decide_eq_true (show (i:Int) < (zaa.len:Int) by omega),cond_true,Int.toNat_natCast,zz1,decide_eq_true (show 0≤(i:Int)∧(i:Int) < (zaa.len:Int) by omega),decide_eq_true (show (v.len+1) * 8≤140737488355328∧v.len+1≤9223372036854775807 by omega)]
      cases s72 l (zaa.get i) <;> rfl)
    (fun k v=>by
      show zim l zaa (zio l zaa k) (zaa.len:Int) v=_
      unfold zim
      rw [decide_eq_false (show ¬ (zaa.len:Int) < (zaa.len:Int) by omega),cond_false])
    (fun i v _ _ h=>zjf l zaa i v h) (Nat.zero_le _) (by omega) (⟨0,fun _=>default⟩:Sl Int) (Nat.le_refl _)
  exact this
theorem zDF (l:Line) (zaa:Sl Gate) (hn:zaa.len≤40):p52 l zaa=true ∧
  s52 l zaa=cond (s53 l && s64 zaa) (zuH l zaa,0) ((⟨0,fun _=>default⟩:Sl Int),2):=by
 obtain ⟨a1,_,a2⟩:=ztI l.Slope 2000000 (by omega) (by omega)
 obtain ⟨b1,_,b2⟩:=ztI l.Start 1000000000000 (by omega) (by omega)
 obtain ⟨c1,c2⟩:=zK4 l zaa hn
 have d1:=(zma zaa (by omega)).1
 unfold p52 s52 zkH zkG
 rw [a1,b1,a2,b2,(zz0 l).2,c1,c2,d1]
 cases s91 l.Slope 2000000 <;> cases s91 l.Start 1000000000000 <;> cases s64 zaa <;> exact ⟨rfl,rfl⟩
end Go.Proofs
namespace Go.Proofs
open Go Go.Pm
set_option maxRecDepth 100000
def red (num den:Int):Frac:=⟨num.tdiv (Int.gcd num den:Int),den.tdiv (Int.gcd num den:Int)⟩
theorem zz2 (num:Int):(if -num > num then -num else num)=(num.natAbs:Int):=by split <;> omega
theorem zsk (num den:Int):Int.gcd (num.natAbs:Int) den=Int.gcd num den:=by
 unfold Int.gcd;rw [Int.natAbs_natCast]
theorem zcs {num den:Int} (hd:0 < den):0 < (Int.gcd num den:Int):=by
 have:Int.gcd num den ≠ 0:=fun h=>by have:=(Int.gcd_eq_zero_iff.1 h).2;omega
 omega
theorem zOp (num den:Int):∃ a,num=(Int.gcd num den:Int) * a:=Int.gcd_dvd_left num den
theorem zOq (num den:Int):∃ a,den=(Int.gcd num den:Int) * a:=Int.gcd_dvd_right num den
theorem zdZ {num den:Int} (hd:0 < den):(Int.gcd num den:Int) * (red num den).Num=num:=by
 have hg:=zcs (num:=num) hd
 obtain ⟨a,ha⟩:=zOp num den
 show (Int.gcd num den:Int) * num.tdiv (Int.gcd num den:Int)=num
 generalize (Int.gcd num den:Int)=g at ha hg ⊢
 rw [ha,Int.mul_tdiv_cancel_left _ (by omega)]
theorem zdn {num den:Int} (hd:0 < den):(Int.gcd num den:Int) * (red num den).Den=den:=by
 have hg:=zcs (num:=num) hd
 obtain ⟨a,ha⟩:=zOq num den
 show (Int.gcd num den:Int) * den.tdiv (Int.gcd num den:Int)=den
 generalize (Int.gcd num den:Int)=g at ha hg ⊢
 rw [ha,Int.mul_tdiv_cancel_left _ (by omega)]
theorem zcG {num den:Int} (hd:0 < den):0 < (red num den).Den:=by
 have h1:=zdn (num:=num) hd
 have hg:=zcs (num:=num) hd
 rcases Int.lt_or_le 0 (red num den).Den with h | h
 ·exact h
 ·have := Int.mul_le_mul_of_nonneg_left h (Int.le_of_lt hg)
  rw [h1,Int.mul_zero] at this
  omega
theorem ziJ {num den:Int} (hd:0 < den):(red num den).Den≤den:=by
 have h1:=zdn (num:=num) hd
 have hg:=zcs (num:=num) hd
 have:=Int.mul_le_mul_of_nonneg_right (show (1:Int)≤(Int.gcd num den:Int) by omega) (Int.le_of_lt (zcG (num:=num) hd))
 omega
theorem zfD {num den:Int} (hd:0 < den) : -(num.natAbs:Int)≤(red num den).Num∧(red num den).Num≤(num.natAbs:Int):=by
 have h1:=zdZ (num:=num) hd
 have hg:=zcs (num:=num) hd
 have h2:num.natAbs=(Int.gcd num den) * (red num den).Num.natAbs:=by
  have:=congrArg Int.natAbs h1
  rw [Int.natAbs_mul] at this
  simpa using this.symm
 have h3:(red num den).Num.natAbs≤num.natAbs:=by
  rw [h2];exact Nat.le_mul_of_pos_left _ (by omega)
 omega
theorem zsl {num den:Int} (hd:0 < den):Int.gcd (red num den).Num (red num den).Den=1:=by
 have h1:=zdZ (num:=num) hd
 have h2:=zdn (num:=num) hd
 have hg:=zcs (num:=num) hd
 have h3:Int.gcd ((Int.gcd num den:Int) * (red num den).Num) ((Int.gcd num den:Int) * (red num den).Den)=Int.gcd num den * Int.gcd (red num den).Num (red num den).Den:=by
  rw [Int.gcd_mul_left];simp
 rw [h1,h2] at h3
 have h4:Int.gcd num den * 1=Int.gcd num den * Int.gcd (red num den).Num (red num den).Den:=by rw [Nat.mul_one];exact h3
 exact (Nat.eq_of_mul_eq_mul_left (by omega) h4).symm
theorem zpk {a b c d:Int} (hb:0 < b) (hd:0 < d):red a b=red c d↔a * d=c * b:=by
 have a1:=zdZ (num:=a) hb
 have a2:=zdn (num:=a) hb
 have c1:=zdZ (num:=c) hd
 have c2:=zdn (num:=c) hd
 constructor
 ·intro h
  rw [h] at a1 a2
  generalize hG:(Int.gcd a b:Int)=G at a1 a2
  generalize hK:(Int.gcd c d:Int)=K at c1 c2
  generalize (red c d).Num=x at a1 c1
  generalize (red c d).Den=y at a2 c2
  subst a1;subst a2;subst c1;subst c2
  ac_rfl
 ·intro h
  have ga:=zsl (num:=a) hb
  have gc:=zsl (num:=c) hd
  have pa:=zcG (num:=a) hb
  have pc:=zcG (num:=c) hd
  have hG:=zcs (num:=a) hb
  have hK:=zcs (num:=c) hd
  -- cross products of the lowest forms
  have hx:(red a b).Num * (red c d).Den=(red c d).Num * (red a b).Den:=by
   have e:((Int.gcd a b:Int) * (Int.gcd c d:Int)) * ((red a b).Num * (red c d).Den)=((Int.gcd a b:Int) * (Int.gcd c d:Int)) * ((red c d).Num * (red a b).Den):=by
    have l1:((Int.gcd a b:Int) * (Int.gcd c d:Int)) * ((red a b).Num * (red c d).Den)=((Int.gcd a b:Int) * (red a b).Num) * ((Int.gcd c d:Int) * (red c d).Den):=by
     generalize (Int.gcd a b:Int)=G;generalize (Int.gcd c d:Int)=K
     ac_rfl
    have l2:((Int.gcd a b:Int) * (Int.gcd c d:Int)) * ((red c d).Num * (red a b).Den)=((Int.gcd c d:Int) * (red c d).Num) * ((Int.gcd a b:Int) * (red a b).Den):=by
     generalize (Int.gcd a b:Int)=G;generalize (Int.gcd c d:Int)=K
     ac_rfl
    rw [l1,l2,a1,a2,c1,c2];exact h
   exact Int.eq_of_mul_eq_mul_left (by have:=Int.mul_pos hG hK;omega) e
  have hx':=congrArg Int.natAbs hx
  rw [Int.natAbs_mul,Int.natAbs_mul] at hx'
  have ga':Nat.Coprime (red a b).Den.natAbs (red a b).Num.natAbs:=(Nat.gcd_comm _ _).trans ga
  have gc':Nat.Coprime (red c d).Den.natAbs (red c d).Num.natAbs:=(Nat.gcd_comm _ _).trans gc
  have d1:(red a b).Den ∣ (red c d).Den:=Int.natAbs_dvd_natAbs.1 (ga'.dvd_of_dvd_mul_left ⟨(red c d).Num.natAbs,by rw [hx',Nat.mul_comm]⟩)
  have d2:(red c d).Den ∣ (red a b).Den:=Int.natAbs_dvd_natAbs.1 (gc'.dvd_of_dvd_mul_left ⟨(red a b).Num.natAbs,by rw [← hx',Nat.mul_comm]⟩)
  have hden:(red a b).Den=(red c d).Den:=Int.le_antisymm (Int.le_of_dvd pc d1) (Int.le_of_dvd pa d2)
  rw [← hden] at hx
  have hnum:=Int.eq_of_mul_eq_mul_right (by omega) hx
  cases h1:red a b;cases h2:red c d
  rw [h1,h2] at hden hnum
  simp only at hden hnum
  rw [hden,hnum]
theorem ziK {num den:Int} (h1 : -4611686018427387904≤num) (h2:num≤4611686018427387904) (hd:0 < den) (hd2:den≤4611686018427387904):p89 num den=true∧s89 num den=red num den:=by
 have e:w64 (0 - num) = -num:=by rw [zaU (by omega) (by omega)];omega
 obtain ⟨g1,g2⟩:=zzY (num.natAbs:Int) den (by omega) (by omega) (by omega)
 have hg:=zcs (num:=num) hd
 have r1:=zfD (num:=num) hd
 have r2:=ziJ (num:=num) hd
 have r3:=zcG (num:=num) hd
 unfold p89 s89
 rw [e,zz2,g1,g2,zsk]
 have w1:w64 (num.tdiv (Int.gcd num den:Int))=(red num den).Num:=zaU (by show _≤(red num den).Num;omega) (by show (red num den).Num≤_;omega)
 have w2:w64 (den.tdiv (Int.gcd num den:Int))=(red num den).Den:=zaU (by show _≤(red num den).Den;omega) (by show (red num den).Den≤_;omega)
 rw [w1,w2,decide_eq_true (show (Int.gcd num den:Int) ≠ 0 by omega)]
 exact ⟨by simp only [decide_true,Bool.and_self],by cases red num den;simp only⟩
theorem zlg {num den:Int} (h1 : -4611686018427387904≤num) (h2:num≤4611686018427387904) (hd:0 < den) (hd2:den≤4611686018427387904):p40 num den=true∧s40 num den=red num den:=by
 have e:w64 (0 - num) = -num:=by rw [zaU (by omega) (by omega)];omega
 obtain ⟨g1,g2⟩:=ztH (num.natAbs:Int) den (by omega) (by omega) (by omega)
 have hg:=zcs (num:=num) hd
 have r1:=zfD (num:=num) hd
 have r2:=ziJ (num:=num) hd
 have r3:=zcG (num:=num) hd
 unfold p40 s40
 rw [e,zz2,g1,g2,zsk]
 have w1:w64 (num.tdiv (Int.gcd num den:Int))=(red num den).Num:=zaU (by show _≤(red num den).Num;omega) (by show (red num den).Num≤_;omega)
 have w2:w64 (den.tdiv (Int.gcd num den:Int))=(red num den).Den:=zaU (by show _≤(red num den).Den;omega) (by show (red num den).Den≤_;omega)
 rw [w1,w2,decide_eq_true (show (Int.gcd num den:Int) ≠ 0 by omega)]
 exact ⟨by simp only [decide_true,Bool.and_self],by cases red num den;simp only⟩
end Go.Proofs
namespace Go.Proofs
open Go Go.Pm
set_option maxRecDepth 100000
theorem zjg {x y X Y:Int} (h1 : -X≤x) (h2:x≤X) (h3:0≤y) (h4:y≤Y) : -(X * Y)≤x * y∧x * y≤X * Y:=by
 have hX:0≤X:=by omega
 have a:=Int.mul_le_mul_of_nonneg_right h2 h3
 have b:=Int.mul_le_mul_of_nonneg_left h4 hX
 have c:=Int.mul_le_mul_of_nonneg_right h1 h3
 rw [Int.neg_mul] at c
 omega
def thr (z p y q:Int):straight:=if z > y then ⟨p - q,q * z - p * y,z - y⟩ else ⟨q - p,p * y - q * z,y - z⟩
def toL (s:straight):Line:=⟨red s.slope s.den,red s.start s.den⟩
theorem zn4 {z p y q:Int} (hz:0≤z∧z≤100000) (hy:0≤y∧y≤100000) (hp : -1000000≤p∧p≤1000000) (hq : -1000000≤q∧q≤1000000):zls z p y q=thr z p y q:=by
 have b1:=zjg hp.1 hp.2 hy.1 hy.2
 have b2:=zjg hq.1 hq.2 hz.1 hz.2
 unfold zls zi7 thr
 rw [zaU (x:=p * y) (by omega) (by omega),zaU (x:=q * z) (by omega) (by omega)]
 by_cases h:z > y
 ·rw [decide_eq_true h,cond_true,if_pos h,zaU (by omega) (by omega),zaU (by omega) (by omega),zaU (by omega) (by omega)]
 ·rw [decide_eq_false h,cond_false,if_neg h,zaU (by omega) (by omega),zaU (by omega) (by omega),zaU (by omega) (by omega)]
theorem zDG {z p y q:Int} (hz:0≤z∧z≤100000) (hy:0≤y∧y≤100000) (hp : -1000000≤p∧p≤1000000) (hq : -1000000≤q∧q≤1000000) (hn:z ≠ y):p26 z p y q=true∧s26 z p y q=toL (thr z p y q):=by
 have b1:=zjg hp.1 hp.2 hy.1 hy.2
 have b2:=zjg hq.1 hq.2 hz.1 hz.2
 unfold p26 s26 znA znz thr toL
 rw [zaU (x:=p * y) (by omega) (by omega),zaU (x:=q * z) (by omega) (by omega)]
 by_cases h:z > y
 ·rw [decide_eq_true (show y < z from h), cond_true, cond_true, if_pos h, zaU (x := p - q) (by omega) (by omega), zaU (x := z - y) (by omega) (by omega), zaU (x := q * z - p * y) (by omega) (by omega)]
  obtain ⟨c1,c2⟩:=zlg (num:=p - q) (den:=z - y) (by omega) (by omega) (by omega) (by omega)
  obtain ⟨d1,d2⟩:=zlg (num:=q * z - p * y) (den:=z - y) (by omega) (by omega) (by omega) (by omega)
  rw [c1,c2,d1,d2]
  exact ⟨by simp only [decide_true,Bool.and_self],rfl⟩
 ·rw [decide_eq_false (show ¬ y < z from h), cond_false, cond_false, if_neg h, zaU (x := q - p) (by omega) (by omega), zaU (x := y - z) (by omega) (by omega), zaU (x := p * y - q * z) (by omega) (by omega)]
  obtain ⟨c1,c2⟩:=zlg (num:=q - p) (den:=y - z) (by omega) (by omega) (by omega) (by omega)
  obtain ⟨d1,d2⟩:=zlg (num:=p * y - q * z) (den:=y - z) (by omega) (by omega) (by omega) (by omega)
  rw [c1,c2,d1,d2]
  exact ⟨by simp only [decide_true,Bool.and_self],rfl⟩
def zpl (a b:Gate):List straight:=if a.Z=b.Z then [] else [thr a.Z a.Low b.Z b.Low,thr a.Z a.Low b.Z b.High,thr a.Z a.High b.Z b.Low,thr a.Z a.High b.Z b.High]
def zpm (g : Sl Gate) (i : Nat) : Nat → Nat → List straight
  | 0,_=>[]
  | m+1,k=>zpl (g.get i) (g.get k) ++ zpm g i m (k+1)
def zAC (g : Sl Gate) : Nat → Nat → List straight
  | 0,_=>[]
  | m+1,i=>zpm g i (g.len - (i+1)) (i+1) ++ zAC g m (i+1)
def cst (g:Sl Gate):List straight:=zAC g g.len 0
theorem zev {g:Gate} (h:zfC g) : -1000000≤g.Low∧g.Low≤1000000:=⟨h.2.1,by have:=h.2;omega⟩
theorem zf1 {g:Gate} (h:zfC g) : -1000000≤g.High∧g.High≤1000000:=⟨by have:=h.2;omega,h.2.2.2⟩
theorem zNG (g : Sl Gate) (G : zaC g) (i : Nat) (hi : i < g.len) (sl : Sl Gate) (hs : sl.len = g.len - (i + 1)) (hg : ∀ x, sl.get x = g.get (x + (i + 1)))
    (S0:Int→List straight) (P0:Int→Bool):∀ (m k j:Nat),j+m=sl.len→m < k →
    zdy P0 ⟨g⟩ k (i:Int) sl (sl.len:Int) (j:Int) (g.get i).Z (g.get i).Low (g.get i).High=P0 ((i+1:Nat):Int) ∧
    zdx S0 ⟨g⟩ k (i:Int) sl (sl.len:Int) (j:Int) (g.get i).Z (g.get i).Low (g.get i).High=zpm g i m (j+(i+1)) ++ S0 ((i+1:Nat):Int):=by
  have hl:=G.2.2
  intro m
  induction m with
  | zero =>
    intro k j hj hk
    obtain ⟨k,rfl⟩:∃ k',k=k'+1:=⟨k - 1,by omega⟩
    show zeM P0 ⟨g⟩ (zdy P0 ⟨g⟩ k) _ _ _ _ _ _ _=_∧zeL S0 ⟨g⟩ (zdx S0 ⟨g⟩ k) _ _ _ _ _ _ _=_
    unfold zeM zeL
    rw [decide_eq_false (show ¬ (j:Int) < (sl.len:Int) by omega),cond_false,cond_false,zbD (n:=g.len) hi (by omega)]
    exact ⟨rfl,rfl⟩
  | succ m ih =>
    intro k j hj hk
    obtain ⟨k,rfl⟩:∃ k',k=k'+1:=⟨k - 1,by omega⟩
    obtain ⟨i1,i2⟩:=ih k (j+1) (by omega) (by omega)
    show zeM P0 ⟨g⟩ (zdy P0 ⟨g⟩ k) _ _ _ _ _ _ _=_∧zeL S0 ⟨g⟩ (zdx S0 ⟨g⟩ k) _ _ _ _ _ _ _=zpm g i (m+1) (j+(i+1)) ++ _
    generalize zdy P0 ⟨g⟩ k=P at i1
    generalize zdx S0 ⟨g⟩ k=S at i2
    unfold zeM zeL
    have gi:=G.1 i hi
    have gk:=G.1 (j+(i+1)) (by omega)
    rw [decide_eq_true (show (j:Int) < (sl.len:Int) by omega),decide_eq_true (show 0≤(j:Int)∧(j:Int) < (sl.len:Int) by omega),cond_true,cond_true,Bool.true_and,Int.toNat_natCast,hg,
      zbD (n:=sl.len) (by omega) (by omega),i1,i2,zn4 gi.1 gk.1 (zev gi) (zev gk),zn4 gi.1 gk.1 (zev gi) (zf1 gk),zn4 gi.1 gk.1 (zf1 gi) (zev gk),zn4 gi.1 gk.1 (zf1 gi) (zf1 gk)]
    show _∧_=(zpl (g.get i) (g.get (j+(i+1))) ++ zpm g i m (j+(i+1)+1)) ++ _
    rw [show j+1+(i+1)=j+(i+1)+1 by omega]
    unfold zpl
    by_cases hz:(g.get i).Z=(g.get (j+(i+1))).Z
    · rw [if_pos hz, show ((g.get i).Z == (g.get (j + (i + 1))).Z) = true by simpa using hz]
      exact ⟨rfl,rfl⟩
    · rw [if_neg hz, show ((g.get i).Z == (g.get (j + (i + 1))).Z) = false by simpa using hz]
      exact ⟨rfl,rfl⟩
theorem zHL (g:Sl Gate) (G:zaC g):zEV ⟨g⟩=true∧zDb ⟨g⟩=cst g:=by
 have hl:=G.2.2
 have key:∀ (m k i:Nat),i+m=g.len→m < k→zdA ⟨g⟩ k (i:Int)=true∧zdz ⟨g⟩ k (i:Int)=zAC g m i:=by
  intro m
  induction m with
  | zero =>
   intro k i hi hk
   obtain ⟨k,rfl⟩:∃ k',k=k'+1:=⟨k - 1,by omega⟩
   show zeO ⟨g⟩ (zdA ⟨g⟩ k) _=_∧zeN ⟨g⟩ (zdz ⟨g⟩ k) _=_
   unfold zeO zeN
   rw [decide_eq_false (show ¬ (i:Int) < (g.len:Int) by omega),cond_false,cond_false]
   exact ⟨rfl,rfl⟩
  | succ m ih =>
   intro k i hi hk
   obtain ⟨k,rfl⟩:∃ k',k=k'+1:=⟨k - 1,by omega⟩
   obtain ⟨i1,i2⟩:=ih k (i+1) (by omega) (by omega)
   show zeO ⟨g⟩ (zdA ⟨g⟩ k) _=_∧zeN ⟨g⟩ (zdz ⟨g⟩ k) _=zpm g i (g.len - (i+1)) (i+1) ++ zAC g m (i+1)
   generalize zdA ⟨g⟩ k=P at i1
   generalize zdz ⟨g⟩ k=S at i2
   unfold zeO zeN zmX zmW
   rw [zbD (n:=g.len) (by omega) (by omega)]
   rw [decide_eq_true (show (i:Int) < (g.len:Int) by omega),decide_eq_true (show 0≤(i:Int)∧(i:Int) < (g.len:Int) by omega),decide_eq_true (show 0≤((i+1:Nat):Int)∧((i+1:Nat):Int)≤(g.len:Int)∧(g.len:Int)≤(g.len:Int) by omega),
    cond_true,cond_true,Bool.true_and,Bool.true_and,Int.toNat_natCast,Int.toNat_natCast]
   have hs:((g.len:Int) - ((i+1:Nat):Int)).toNat=g.len - (i+1):=by omega
   have:=zNG g G i (by omega) (⟨((g.len:Int) - ((i+1:Nat):Int)).toNat,fun x=>g.get (x+(i+1))⟩:Sl Gate) hs (fun _=>rfl) S P (g.len - (i+1)) Fuel 0 (by show 0+(g.len - (i+1))=((g.len:Int) - ((i+1:Nat):Int)).toNat;omega) (by simp only [Fuel];omega)
   rw [i1,i2,Nat.zero_add] at this
   exact this
 exact key g.len Fuel 0 (by omega) (by simp only [Fuel];omega)
end Go.Proofs
namespace Go.Proofs
open Go Go.Pm
set_option maxRecDepth 100000
def apL {α:Type} (v:Sl α) (x:α):Sl α:=⟨v.len+1,zdQ v.len v.get (fun _=>x)⟩
theorem zn5 (g:Gate):zAB g 0=g.Low:=rfl
theorem zn6 (g:Gate):zAB g 1=g.High:=rfl
theorem zNH (g : Sl Gate) (G : zaC g) (i k : Nat) (hi : i < g.len) (hk : k < g.len) (S0 : Int → Sl Line → Sl Line) (S1 : Int → Int → Sl Line → Sl Line) (P0 : Int → Sl Line → Bool) (P1 : Int → Int → Sl Line → Bool) (v : Sl Line) (hv : v.len ≤ 100000) (F : Nat) (hF : 5 ≤ F) :
  zdY P0 P1 g F (i:Int) (k:Int) 0 v=P1 (i:Int) ((k+1:Nat):Int) (((zpl (g.get i) (g.get k)).map toL).foldl apL v) ∧
  zdX S0 S1 g F (i:Int) (k:Int) 0 v=S1 (i:Int) ((k+1:Nat):Int) (((zpl (g.get i) (g.get k)).map toL).foldl apL v):=by
 have hl:=G.2.2
 obtain ⟨f,rfl⟩:∃ f,F=f+5:=⟨F - 5,by omega⟩
 have gi:=G.1 i hi
 have gk:=G.1 k hk
 have ei:decide (0≤(i:Int)∧(i:Int) < (g.len:Int))=true:=decide_eq_true (by omega)
 have ek:decide (0≤(k:Int)∧(k:Int) < (g.len:Int))=true:=decide_eq_true (by omega)
 have e2:decide ((2:Int) ≠ 0)=true:=by decide
 have sk:w64 ((k:Int)+(1:Int))=((k+1:Nat):Int):=zbD (n:=g.len) hk (by omega)
 -- one round
 have step:∀ (m:Nat) (e:Int) (v:Sl Line) (p q:Int),(0≤e∧e < 4)→v.len≤200000→zAB (g.get i) (w64 (e.tdiv (2:Int)))=p→zAB (g.get k) (e.tmod (2:Int))=q →
   (-1000000≤p∧p≤1000000)→(-1000000≤q∧q≤1000000)→(g.get i).Z ≠ (g.get k).Z →
   zdY P0 P1 g (m+1) (i:Int) (k:Int) e v=zdY P0 P1 g m (i:Int) (k:Int) (e+1) (apL v (toL (thr (g.get i).Z p (g.get k).Z q))) ∧
   zdX S0 S1 g (m+1) (i:Int) (k:Int) e v=zdX S0 S1 g m (i:Int) (k:Int) (e+1) (apL v (toL (thr (g.get i).Z p (g.get k).Z q))):=by
  intro m e v p q he hv hp hq bp bq hz
  show zgL P0 P1 g (zdY P0 P1 g m) _ _ _ _=_∧zgK S0 S1 g (zdX S0 S1 g m) _ _ _ _=_
  generalize zdY P0 P1 g m=P
  generalize zdX S0 S1 g m=S
  obtain ⟨t1,t2⟩:=zDG gi.1 gk.1 bp bq hz
  unfold zgL zgK
  rw [Int.toNat_natCast,Int.toNat_natCast,hp,hq,t1,t2,decide_eq_true (show e < 4 from he.2),ei,ek,e2,zaU (x:=e+1) (by omega) (by omega),
   show ((g.get i).Z != (g.get k).Z)=true by simpa using hz,decide_eq_true (show (v.len+1) * 32≤140737488355328∧v.len+1≤9223372036854775807 by omega)]
  exact ⟨rfl,rfl⟩
 unfold zpl
 by_cases hz:(g.get i).Z=(g.get k).Z
 ·rw [if_pos hz]
  show zgL P0 P1 g (zdY P0 P1 g (f+4)) _ _ _ _=_∧zgK S0 S1 g (zdX S0 S1 g (f+4)) _ _ _ _=_
  generalize zdY P0 P1 g (f+4)=P
  generalize zdX S0 S1 g (f+4)=S
  unfold zgL zgK
  rw [Int.toNat_natCast,Int.toNat_natCast,ei,ek,sk,decide_eq_true (show (0:Int) < 4 by omega),show ((g.get i).Z != (g.get k).Z)=false by simpa using hz]
  exact ⟨rfl,rfl⟩
 ·rw [if_neg hz]
  have a0:=step (f+4) 0 v _ _ (by omega) (by omega) (zn5 _) (zn5 _) (zev gi) (zev gk) hz
  generalize hv1:apL v (toL (thr (g.get i).Z (g.get i).Low (g.get k).Z (g.get k).Low))=v1 at a0
  have l1:v1.len=v.len+1:=by rw [← hv1];rfl
  have a1:=step (f+3) 1 v1 _ _ (by omega) (by omega) (zn5 _) (zn6 _) (zev gi) (zf1 gk) hz
  generalize hv2:apL v1 (toL (thr (g.get i).Z (g.get i).Low (g.get k).Z (g.get k).High))=v2 at a1
  have l2:v2.len=v1.len+1:=by rw [← hv2];rfl
  have a2:=step (f+2) 2 v2 _ _ (by omega) (by omega) (zn6 _) (zn5 _) (zf1 gi) (zev gk) hz
  generalize hv3:apL v2 (toL (thr (g.get i).Z (g.get i).High (g.get k).Z (g.get k).Low))=v3 at a2
  have l3:v3.len=v2.len+1:=by rw [← hv3];rfl
  have a3:=step (f+1) 3 v3 _ _ (by omega) (by omega) (zn6 _) (zn6 _) (zf1 gi) (zf1 gk) hz
  generalize hv4:apL v3 (toL (thr (g.get i).Z (g.get i).High (g.get k).Z (g.get k).High))=v4 at a3
  have b4:zdY P0 P1 g (f+1) (i:Int) (k:Int) 4 v4=P1 (i:Int) ((k+1:Nat):Int) v4∧zdX S0 S1 g (f+1) (i:Int) (k:Int) 4 v4=S1 (i:Int) ((k+1:Nat):Int) v4:=by
   show zgL P0 P1 g (zdY P0 P1 g f) _ _ _ _=_∧zgK S0 S1 g (zdX S0 S1 g f) _ _ _ _=_
   generalize zdY P0 P1 g f=P
   generalize zdX S0 S1 g f=S
   unfold zgL zgK
   rw [sk,decide_eq_false (show ¬ (4:Int) < 4 by omega)]
   exact ⟨rfl,rfl⟩
  have fin:(([thr (g.get i).Z (g.get i).Low (g.get k).Z (g.get k).Low,thr (g.get i).Z (g.get i).Low (g.get k).Z (g.get k).High,thr (g.get i).Z (g.get i).High (g.get k).Z (g.get k).Low,thr (g.get i).Z (g.get i).High (g.get k).Z (g.get k).High]:List straight).map toL).foldl apL v=v4:=by
   simp only [List.map_cons,List.map_nil,List.foldl_cons,List.foldl_nil,hv1,hv2,hv3,hv4]
  rw [fin]
  exact ⟨(a0.1.trans (a1.1.trans (a2.1.trans a3.1))).trans b4.1,(a0.2.trans (a1.2.trans (a2.2.trans a3.2))).trans b4.2⟩
theorem zcv {α:Type} (l:List α):∀ v:Sl α,(l.foldl apL v).len=v.len+l.length:=by
 induction l with
 | nil=>intro v;rfl
 | cons x l ih=>intro v;rw [List.foldl_cons,ih];show v.len+1+l.length=v.len+(l.length+1);omega
theorem ztJ (a b:Gate):(zpl a b).length≤4:=by unfold zpl;split <;> simp
theorem ztK (g:Sl Gate) (i m k:Nat):(zpm g i m k).length≤4 * m:=by
 induction m generalizing k with
 | zero=>exact Nat.le_refl _
 | succ m ih=>show (zpl _ _ ++ zpm g i m (k+1)).length≤_;rw [List.length_append];have:=ih (k+1);have:=ztJ (g.get i) (g.get k);omega
theorem zQf (g:Sl Gate) (G:zaC g) (i:Nat) (hi:i < g.len) (S0:Int→Sl Line→Sl Line) (P0:Int→Sl Line→Bool):∀ (m F k:Nat) (v:Sl Line),k+m=g.len→m < F→v.len+4 * m≤100000 →
  zir P0 g F (i:Int) (k:Int) v=P0 ((i+1:Nat):Int) (((zpm g i m k).map toL).foldl apL v) ∧
  ziq S0 g F (i:Int) (k:Int) v=S0 ((i+1:Nat):Int) (((zpm g i m k).map toL).foldl apL v):=by
 have hl:=G.2.2
 intro m
 induction m with
 | zero =>
  intro F k v hk hF hv
  obtain ⟨f,rfl⟩:∃ f,F=f+1:=⟨F - 1,by omega⟩
  show zkS P0 g (zir P0 g f) _ _ _=_∧zkR S0 g (ziq S0 g f) _ _ _=_
  generalize zir P0 g f=P
  generalize ziq S0 g f=S
  unfold zkS zkR
  rw [decide_eq_false (show ¬ (k:Int) < (g.len:Int) by omega),cond_false,cond_false,zbD (n:=g.len) hi (by omega)]
  exact ⟨rfl,rfl⟩
 | succ m ih =>
  intro F k v hk hF hv
  obtain ⟨f,rfl⟩:∃ f,F=f+1:=⟨F - 1,by omega⟩
  have ih:=fun v h=>ih f (k+1) v (by omega) (by omega) h
  show zkS P0 g (zir P0 g f) _ _ _=_∧zkR S0 g (ziq S0 g f) _ _ _=_
  generalize zir P0 g f=P at ih
  generalize ziq S0 g f=S at ih
  unfold zkS zkR zzw zzv
  rw [decide_eq_true (show (k:Int) < (g.len:Int) by omega),cond_true,cond_true]
  obtain ⟨b1,b2⟩:=zNH g G i k hi (by omega) S0 S P0 P v (by omega) Fuel (by simp only [Fuel];omega)
  rw [b1,b2]
  have q4:=ztJ (g.get i) (g.get k)
  have:=ih (((zpl (g.get i) (g.get k)).map toL).foldl apL v) (by rw [zcv,List.length_map];omega)
  rw [← List.foldl_append,← List.map_append] at this
  exact this
theorem zK5 (g:Sl Gate) (G:zaC g):p80 g=true∧s80 g=((cst g).map toL).foldl apL ⟨0,fun _=>default⟩:=by
 have hl:=G.2.2
 have key:∀ (m F i:Nat) (v:Sl Line),i+m=g.len→m < F→v.len+100 * m≤50000→zkW g F (i:Int) v=true∧zkV g F (i:Int) v=((zAC g m i).map toL).foldl apL v:=by
  intro m
  induction m with
  | zero =>
   intro F i v hi hF hv
   obtain ⟨f,rfl⟩:∃ f,F=f+1:=⟨F - 1,by omega⟩
   show zkU g (zkW g f) _ _=_∧zkT g (zkV g f) _ _=_
   unfold zkU zkT
   rw [decide_eq_false (show ¬ (i:Int) < (g.len:Int) by omega),cond_false,cond_false]
   exact ⟨rfl,rfl⟩
  | succ m ih =>
   intro F i v hi hF hv
   obtain ⟨f,rfl⟩:∃ f,F=f+1:=⟨F - 1,by omega⟩
   have ih:=fun v h=>ih f (i+1) v (by omega) (by omega) h
   show zkU g (zkW g f) _ _=_∧zkT g (zkV g f) _ _=_
   generalize zkW g f=P at ih
   generalize zkV g f=S at ih
   unfold zkU zkT zzy zzx
   rw [decide_eq_true (show (i:Int) < (g.len:Int) by omega),cond_true,cond_true,zbD (n:=g.len) (by omega) (by omega)]
   obtain ⟨b1,b2⟩:=zQf g G i (by omega) S P (g.len - (i+1)) Fuel (i+1) v (by omega) (by simp only [Fuel];omega) (by omega)
   rw [b1,b2]
   have c4:=ztK g i (g.len - (i+1)) (i+1)
   have:=ih (((zpm g i (g.len - (i+1)) (i+1)).map toL).foldl apL v) (by rw [zcv,List.length_map];omega)
   rw [← List.foldl_append,← List.map_append] at this
   exact this
 exact key g.len Fuel 0 _ (by omega) (by simp only [Fuel];omega) (by show 0+_≤_;omega)
end Go.Proofs
namespace Go.Proofs
open Go Go.Pm
set_option maxRecDepth 100000
def SOK (s:straight):Prop:=(-2000000≤s.slope∧s.slope≤2000000)∧(-200000000000≤s.start∧s.start≤200000000000)∧1≤s.den∧s.den≤100000
theorem zDH {z p y q:Int} (hz:0≤z∧z≤100000) (hy:0≤y∧y≤100000) (hp : -1000000≤p∧p≤1000000) (hq : -1000000≤q∧q≤1000000) (hn:z ≠ y):SOK (thr z p y q):=by
 have b1:=zjg hp.1 hp.2 hy.1 hy.2
 have b2:=zjg hq.1 hq.2 hz.1 hz.2
 unfold thr SOK
 by_cases h:z > y
 ·rw [if_pos h];exact ⟨⟨by show _≤p - q;omega,by show p - q≤_;omega⟩,⟨by show _≤q * z - p * y;omega,by show q * z - p * y≤_;omega⟩,by show _≤z - y;omega,by show z - y≤_;omega⟩
 ·rw [if_neg h];exact ⟨⟨by show _≤q - p;omega,by show q - p≤_;omega⟩,⟨by show _≤p * y - q * z;omega,by show p * y - q * z≤_;omega⟩,by show _≤y - z;omega,by show y - z≤_;omega⟩
theorem zCm {a b:Gate} {s:straight} (h:s∈zpl a b):a.Z ≠ b.Z∧∃ p q,(p=a.Low∨p=a.High)∧(q=b.Low∨q=b.High)∧s=thr a.Z p b.Z q:=by
 unfold zpl at h
 by_cases hz:a.Z=b.Z
 ·rw [if_pos hz] at h;cases h
 ·rw [if_neg hz] at h
  refine ⟨hz,?_⟩
  simp only [List.mem_cons,List.not_mem_nil,or_false] at h
  rcases h with h | h | h | h
  ·exact ⟨_,_,.inl rfl,.inl rfl,h⟩
  ·exact ⟨_,_,.inl rfl,.inr rfl,h⟩
  ·exact ⟨_,_,.inr rfl,.inl rfl,h⟩
  ·exact ⟨_,_,.inr rfl,.inr rfl,h⟩
theorem ztL {g : Sl Gate} {i : Nat} {s : straight} : ∀ {m k : Nat}, s ∈ zpm g i m k → ∃ j, k ≤ j ∧ j < k + m ∧ s ∈ zpl (g.get i) (g.get j)
  | 0,_,h=>by cases h
  | m+1,k,h=>by
    rcases List.mem_append.1 h with h | h
    · exact ⟨k,Nat.le_refl _,by omega,h⟩
    · obtain ⟨j, a, b, c⟩ := ztL h
      exact ⟨j,by omega,by omega,c⟩
theorem ztM {g : Sl Gate} {s : straight} : ∀ {m i : Nat}, s ∈ zAC g m i → ∃ a b, i ≤ a ∧ a < i + m ∧ a < b ∧ b < g.len ∧ s ∈ zpl (g.get a) (g.get b)
  | 0,_,h=>by cases h
  | m+1,i,h=>by
    rcases List.mem_append.1 h with h | h
    · obtain ⟨j, a, b, c⟩ := ztL h
      exact ⟨i,j,Nat.le_refl _,by omega,by omega,by omega,c⟩
    · obtain ⟨a, b, h1, h2, h3, h4, h5⟩ := ztM h
      exact ⟨a,b,by omega,by omega,h3,h4,h5⟩
theorem zsm {g:Sl Gate} {s:straight} (h:s∈cst g):∃ a b,a < b∧b < g.len∧(g.get a).Z ≠ (g.get b).Z∧∃ p q,(p=(g.get a).Low∨p=(g.get a).High)∧(q=(g.get b).Low∨q=(g.get b).High)∧s=thr (g.get a).Z p (g.get b).Z q:=by
 obtain ⟨a,b,_,_,h3,h4,h5⟩:=ztM h
 obtain ⟨hz,r⟩:=zCm h5
 exact ⟨a,b,h3,h4,hz,r⟩
theorem zlh {g:Sl Gate} (G:zaC g) {s:straight} (h:s∈cst g):SOK s:=by
 obtain ⟨a,b,h1,h2,hz,p,q,hp,hq,rfl⟩:=zsm h
 have ga:=G.1 a (by omega)
 have gb:=G.1 b h2
 refine zDH ga.1 gb.1 ?_ ?_ hz
 ·rcases hp with rfl | rfl;exact zev ga;exact zf1 ga
 ·rcases hq with rfl | rfl;exact zev gb;exact zf1 gb
def plc (s:straight) (z:Int):Int:=s.start+s.slope * z
def zlE (s:straight) (g:Gate):Bool:=decide (g.Low * s.den≤plc s g.Z∧plc s g.Z≤g.High * s.den)
def zAD (s:straight) (g:Gate):Bool:=decide (plc s g.Z=g.Low * s.den)
theorem zz3 {s:straight} (S:SOK s) {g:Gate} (G:zfC g):zEp s g=zlE s g:=by
 obtain ⟨S1,S2,S3⟩:=S
 have b1:=zjg S1.1 S1.2 G.1.1 G.1.2
 have b2:=zjg (zev G).1 (zev G).2 (show 0≤s.den by omega) S3.2
 have b3:=zjg (zf1 G).1 (zf1 G).2 (show 0≤s.den by omega) S3.2
 unfold zEp zlE plc
 rw [ziI,zaU (x:=s.slope * g.Z) (by omega) (by omega),zaU (x:=s.start+s.slope * g.Z) (by omega) (by omega),zaU (x:=g.Low * s.den) (by omega) (by omega),zaU (x:=g.High * s.den) (by omega) (by omega)]
theorem zz4 {s:straight} (S:SOK s) {g:Gate} (G:zfC g):zAz s g=zAD s g:=by
 obtain ⟨S1,S2,S3⟩:=S
 have b1:=zjg S1.1 S1.2 G.1.1 G.1.2
 have b2:=zjg (zev G).1 (zev G).2 (show 0≤s.den by omega) S3.2
 unfold zAz zAD plc
 rw [zaU (x:=s.slope * g.Z) (by omega) (by omega),zaU (x:=s.start+s.slope * g.Z) (by omega) (by omega),zaU (x:=g.Low * s.den) (by omega) (by omega)]
 exact Bool.eq_iff_iff.2 (by rw [beq_iff_eq,decide_eq_true_eq])
theorem zhz {a x y:Int} (h:0 < a):a * x≤a * y↔x≤y:=⟨fun k=>Int.le_of_mul_le_mul_left k h,fun k=>Int.mul_le_mul_of_nonneg_left k (Int.le_of_lt h)⟩
theorem ztN {a x y:Int} (h:0 < a):a * x=a * y↔x=y:=⟨fun k=>Int.eq_of_mul_eq_mul_left (by omega) k,fun k=>by rw [k]⟩
theorem zz5 {s:straight} (S:SOK s) {z:Int} (hz:0≤z∧z≤100000):∃ n d k,zuA (toL s) z=(n,d)∧0 < k∧k * n=s.den * plc s z∧k * d=s.den * s.den∧0 < d∧d≤10000000000:=by
  obtain ⟨S1,S2,S3⟩:=S
  have hd:0 < s.den:=by omega
  have g1:=zcs (num:=s.slope) hd
  have g2:=zcs (num:=s.start) hd
  have r1:=zfD (num:=s.slope) hd
  have r2:=zfD (num:=s.start) hd
  have e1:=zdZ (num:=s.slope) hd
  have e2:=zdn (num:=s.slope) hd
  have e3:=zdZ (num:=s.start) hd
  have e4:=zdn (num:=s.start) hd
  have p1:=zcG (num:=s.slope) hd
  have p2:=zcG (num:=s.start) hd
  have q1:=ziJ (num:=s.slope) hd
  have q2:=ziJ (num:=s.start) hd
  unfold zuA toL
  simp only
  generalize (red s.slope s.den).Num=a at *
  generalize (red s.slope s.den).Den=b at *
  generalize (red s.start s.den).Num=c at *
  generalize (red s.start s.den).Den=d at *
  generalize (Int.gcd s.slope s.den:Int)=G1 at *
  generalize (Int.gcd s.start s.den:Int)=G2 at *
  have m1:=zjg (x:=c) (X:=200000000000) (y:=b) (Y:=100000) (by omega) (by omega) (by omega) (by omega)
  have m2:=zjg (x:=a) (X:=2000000) (y:=z) (Y:=100000) (by omega) (by omega) hz.1 hz.2
  have m3:=zjg (x:=a * z) (X:=2000000 * 100000) (y:=d) (Y:=100000) (by omega) (by omega) (by omega) (by omega)
  have m4:=zjg (x:=d) (X:=100000) (y:=b) (Y:=100000) (by omega) (by omega) (by omega) (by omega)
  have m5:=Int.mul_pos p2 p1
  rw [zaU (x:=c * b) (by omega) (by omega),zaU (x:=a * z) (by omega) (by omega),zaU (x:=a * z * d) (by omega) (by omega),zaU (x:=c * b+a * z * d) (by omega) (by omega),zaU (x:=d * b) (by omega) (by omega)]
  refine ⟨_,_,G1 * G2,rfl,Int.mul_pos g1 g2,?_,?_,m5,by omega⟩
  · unfold plc
    have t1:G1 * G2 * (c * b)=s.den * s.start:=by
      calc G1 * G2 * (c * b) = (G1 * b) * (G2 * c) := by ac_rfl
        _=_:=by rw [e2,e3]
    have t2:G1 * G2 * (a * z * d)=s.den * (s.slope * z):=by
      calc G1 * G2 * (a * z * d) = (G2 * d) * ((G1 * a) * z) := by ac_rfl
        _=_:=by rw [e4,e1]
    rw [Int.mul_add,t1,t2,Int.mul_add]
  · calc G1 * G2 * (d * b) = (G1 * b) * (G2 * d) := by ac_rfl
      _=_:=by rw [e2,e4]
theorem ztO {s:straight} (S:SOK s) {g:Gate} (G:zfC g):s72 (toL s) g=zlE s g:=by
  obtain ⟨n,d,k,e,hk,kn,kd,d1,d2⟩:=zz5 S G.1
  have hd:0 < s.den:=by have:=S.2.2;omega
  have b2:=zjg (zev G).1 (zev G).2 (show 0≤d by omega) d2
  have b3:=zjg (zf1 G).1 (zf1 G).2 (show 0≤d by omega) d2
  have key:∀ x:Int,k * (x * d)=s.den * (x * s.den):=fun x=>by
    calc k * (x * d) = x * (k * d) := by ac_rfl
      _=s.den * (x * s.den):=by rw [kd];ac_rfl
  unfold s72 zlE
  rw [e,ze1]
  simp only
  rw [zaU (x:=g.Low * d) (by omega) (by omega),zaU (x:=g.High * d) (by omega) (by omega),Bool.decide_and]
  congr 1
  · refine decide_eq_decide.2 ?_
    rw [← zhz hk,key,kn,zhz hd]
  · refine decide_eq_decide.2 ?_
    rw [← zhz hk,key,kn,zhz hd]
theorem zz6 {s:straight} (S:SOK s) {g:Gate} (G:zfC g):((zuA (toL s) g.Z).1 == w64 (g.Low * (zuA (toL s) g.Z).2))=zAD s g:=by
  obtain ⟨n,d,k,e,hk,kn,kd,d1,d2⟩:=zz5 S G.1
  have hd:0 < s.den:=by have:=S.2.2;omega
  have b2:=zjg (zev G).1 (zev G).2 (show 0≤d by omega) d2
  have key:∀ x:Int,k * (x * d)=s.den * (x * s.den):=fun x=>by
    calc k * (x * d) = x * (k * d) := by ac_rfl
      _=s.den * (x * s.den):=by rw [kd];ac_rfl
  unfold zAD
  rw [e]
  simp only
  rw [zaU (x:=g.Low * d) (by omega) (by omega)]
  refine Bool.eq_iff_iff.2 ?_
  rw [beq_iff_eq,decide_eq_true_eq,← ztN hk,key,kn,ztN hd]
end Go.Proofs
namespace Go.Proofs
open Go Go.Pm
set_option maxRecDepth 100000
theorem zmb {c:Nat→Bool} {n:Nat} : fst c n < n↔∃ i,i < n∧c i=true:=by
 refine ⟨fun h=>⟨_,h,zCP h⟩,fun ⟨i,hi,hc⟩=>?_⟩
 rcases Nat.lt_or_ge (fst c n) n with h | h
 ·exact h
 ·have := zCO (c := c) (n := n) (j := i) (by omega)
  rw [hc] at this;cases this
def zli (g:Sl Gate):Prop:=∀ i,i < g.len→(g.get i).Z=(g.get 0).Z
def zhA (g:Sl Gate) (s:straight):Prop:=∀ i,i < g.len→zlE s (g.get i)=true
def zd8 (g:Sl Gate) (s:straight):Prop:=∃ i,i < g.len∧zAD s (g.get i)=true
theorem ztP (g:Sl Gate) (G:zaC g):p67 ⟨g⟩=true∧(s67 ⟨g⟩=true↔zli g):=by
  have hl:=G.2.2
  have hl1:=G.2.1
  have zEn:∀ x,zEn ⟨g⟩ x=true:=fun x=>by
    unfold zEn
    rw [decide_eq_true (show 0≤(0:Int)∧(0:Int) < ((⟨g⟩:list).Gates.len:Int) from ⟨by omega,by show (0:Int) < (g.len:Int);omega⟩)];rfl
  have := zmP (c := zEm ⟨g⟩) (lpS := zi1 ⟨g⟩) (lpP := zi2 ⟨g⟩)
    (fun k s t i=>by
      show ziZ ⟨g⟩ (zi1 ⟨g⟩ k) s t i=_
      unfold ziZ zmR;rfl)
    (fun k s t i=>by
      show zi0 ⟨g⟩ (zi2 ⟨g⟩ k) s t i=_
      unfold zi0 zmS
      rw [zEn]
      simp only [decide_true,Bool.true_and])
    g (by omega)
  obtain ⟨a,b⟩:=this
  have e:zIY ⟨g⟩ g=true:=a
  have f:zIX ⟨g⟩ g=_:=b
  unfold p67 s67 p99 s99
  show (decide ((decide (zIY ⟨g⟩ g=true) && true)=true) && true)=true∧((!decide (zIX ⟨g⟩ g ≥ 0))=true↔_)
  rw [e,f]
  refine ⟨by simp,?_⟩
  rw [Bool.not_eq_true',decide_eq_false_iff_not]
  by_cases h:fst (fun i=>zEm ⟨g⟩ (g.get i)) g.len < g.len
  · rw [if_pos h]
    obtain ⟨i,hi,hc⟩:=zmb.1 h
    refine ⟨fun k=>absurd (show ((fst (fun i=>zEm ⟨g⟩ (g.get i)) g.len:Nat):Int) ≥ 0 by omega) k,fun k=>?_⟩
    have hc:((g.get i).Z != (g.get 0).Z)=true:=hc
    rw [k i hi] at hc
    simp at hc
  · rw [if_neg h]
    refine ⟨fun _ i hi=>?_,fun _=>by omega⟩
    have:=mt zmb.2 h
    have hc : ¬ ((g.get i).Z != (g.get 0).Z)=true:=fun hc=>this ⟨i,hi,hc⟩
    simpa using hc
theorem zK6 (g:Sl Gate) (G:zaC g) (v:Sl straight) {x:straight} (S:SOK x):p97 ⟨⟨g⟩,v⟩ x=true∧(s97 ⟨⟨g⟩,v⟩ x=true↔zhA g x):=by
  have hl:=G.2.2
  have := zmP (c := zEr x) (lpS := zhd x) (lpP := zhe x)
    (fun k s t i=>by
      show zhb x (zhd x k) s t i=_
      unfold zhb zj1;rfl)
    (fun k s t i=>by
      show zhc x (zhe x k) s t i=_
      unfold zhc zj2;rfl)
    g (by omega)
  obtain ⟨a,b⟩:=this
  have e:zv6 x g=true:=a
  have f:zv5 x g=_:=b
  unfold p97 s97 zLz zLy
  show (decide ((decide (zv6 x g=true) && true)=true) && true)=true∧((!decide (zv5 x g ≥ 0))=true↔_)
  rw [e,f]
  refine ⟨by simp,?_⟩
  rw [Bool.not_eq_true',decide_eq_false_iff_not]
  by_cases h:fst (fun i=>zEr x (g.get i)) g.len < g.len
  · rw [if_pos h]
    obtain ⟨i,hi,hc⟩:=zmb.1 h
    refine ⟨fun k=>absurd (show ((fst (fun i=>zEr x (g.get i)) g.len:Nat):Int) ≥ 0 by omega) k,fun k=>?_⟩
    have hc:(!(zEp x (g.get i)))=true:=hc
    rw [zz3 S (G.1 i hi),k i hi] at hc
    cases hc
  · rw [if_neg h]
    refine ⟨fun _ i hi=>?_,fun _=>by omega⟩
    have:=mt zmb.2 h
    have hc : ¬ (!(zEp x (g.get i)))=true:=fun hc=>this ⟨i,hi,hc⟩
    rw [← zz3 S (G.1 i hi)]
    simpa using hc
theorem zz7 (g:Sl Gate) (G:zaC g) (v:Sl straight) {x:straight} (S:SOK x):zIa ⟨⟨g⟩,v⟩ x=true∧(zuG ⟨⟨g⟩,v⟩ x=true↔zd8 g x):=by
  have hl:=G.2.2
  have := zmP (c := zAz x) (lpS := zhh x) (lpP := zhi x)
    (fun k s t i=>by
      show zhf x (zhh x k) s t i=_
      unfold zhf zj3;rfl)
    (fun k s t i=>by
      show zhg x (zhi x k) s t i=_
      unfold zhg zj4;rfl)
    g (by omega)
  obtain ⟨a,b⟩:=this
  have e:zwa x g=true:=a
  have f:zv9 x g=_:=b
  unfold zIa zuG zLB zLA
  show (decide ((decide (zwa x g=true) && true)=true) && true)=true∧(decide (zv9 x g ≥ 0)=true↔_)
  rw [e,f]
  refine ⟨by simp,?_⟩
  rw [decide_eq_true_eq]
  by_cases h:fst (fun i=>zAz x (g.get i)) g.len < g.len
  · rw [if_pos h]
    obtain ⟨i,hi,hc⟩:=zmb.1 h
    have hc:zAz x (g.get i)=true:=hc
    rw [zz4 S (G.1 i hi)] at hc
    exact ⟨fun _=>⟨i,hi,hc⟩,fun _=>by omega⟩
  · rw [if_neg h]
    have:=mt zmb.2 h
    refine ⟨fun k=>absurd k (by omega),fun ⟨i,hi,hc⟩=>absurd ⟨i,hi,?_⟩ this⟩
    show zAz x (g.get i)=true
    rw [zz4 S (G.1 i hi)];exact hc
theorem zDI {x:straight} (S:SOK x):p79 x=true∧s79 x=toL x:=by
 obtain ⟨S1,S2,S3⟩:=S
 obtain ⟨a1,a2⟩:=ziK (num:=x.slope) (den:=x.den) (by omega) (by omega) (by omega) (by omega)
 obtain ⟨b1,b2⟩:=ziK (num:=x.start) (den:=x.den) (by omega) (by omega) (by omega) (by omega)
 unfold p79 s79 toL
 rw [a1,a2,b1,b2]
 exact ⟨by simp,rfl⟩
-- the reference
theorem zmc (g:Sl Gate) (G:zaC g):p22 g=true∧(s22 g=true↔zli g):=by
 have hl:=G.2.2
 have hl1:=G.2.1
 have key:∀ (m k i:Nat),i+m=g.len→m < k→zik g k (i:Int)=true∧(zij g k (i:Int)=true↔∀ j,i≤j→j < g.len→(g.get j).Z=(g.get 0).Z):=by
  intro m
  induction m with
  | zero =>
   intro k i hi hk
   obtain ⟨k,rfl⟩:∃ k',k=k'+1:=⟨k - 1,by omega⟩
   show zii g (zik g k) _=_∧(zih g (zij g k) _=_↔_)
   unfold zii zih
   rw [decide_eq_false (show ¬ (i:Int) < (g.len:Int) by omega),cond_false,cond_false]
   exact ⟨rfl,⟨fun _ j a b=>absurd b (by omega),fun _=>rfl⟩⟩
  | succ m ih =>
   intro k i hi hk
   obtain ⟨k,rfl⟩:∃ k',k=k'+1:=⟨k - 1,by omega⟩
   obtain ⟨i1,i2⟩:=ih k (i+1) (by omega) (by omega)
   show zii g (zik g k) _=_∧(zih g (zij g k) _=_↔_)
   generalize zik g k=P at i1
   generalize zij g k=S at i2
   unfold zii zih
   rw [decide_eq_true (show (i:Int) < (g.len:Int) by omega),decide_eq_true (show 0≤(i:Int)∧(i:Int) < (g.len:Int) by omega),decide_eq_true (show 0≤(0:Int)∧(0:Int) < (g.len:Int) by omega),cond_true,cond_true,Int.toNat_natCast,zbD (n:=g.len) (by omega) (by omega),i1]
   by_cases hz:(g.get i).Z=(g.get 0).Z
   ·rw [show ((g.get i).Z != (g.get 0).Z) = false by simpa using hz, cond_false, cond_false]
    refine ⟨by simp,i2.trans ⟨fun h j a b=>?_,fun h j a b=>h j (by omega) b⟩⟩
    by_cases hj:j=i
    ·rw [hj];exact hz
    ·exact h j (by omega) b
   ·rw [show ((g.get i).Z != (g.get 0).Z) = true by simpa using hz, cond_true, cond_true]
    exact ⟨by simp,⟨fun h=>(by cases h),fun h=>absurd (h i (Nat.le_refl _) (by omega)) hz⟩⟩
 obtain ⟨a,b⟩:=key (g.len - 1) Fuel 1 (by omega) (by simp only [Fuel];omega)
 refine ⟨a,Iff.trans b ⟨fun h i hi=>?_,fun h j _ hj=>h j hj⟩⟩
 by_cases h0:i=0
 ·rw [h0]
 ·exact h i (by omega) hi
theorem zn7 (g:Sl Gate) (G:zaC g) {x:straight} (S:SOK x):zIb (toL x) g=true∧(ztG (toL x) g=true↔zd8 g x):=by
  have hl:=G.2.2
  have e := zHK (good := fun i => !(zAD x (g.get i))) (bad := true) (fin := false) (finP := true) (n := g.len) (lpS := zhw (toL x) g) (lpP := zhx (toL x) g)
    (fun k i hi=>by
      show zhu (toL x) g (zhw (toL x) g k) (i:Int)=_
      generalize zhw (toL x) g k=F
      unfold zhu ztE
      rw [decide_eq_true (show (i:Int) < (g.len:Int) by omega),cond_true,Int.toNat_natCast,zz6 S (G.1 i hi)]
      cases zAD x (g.get i) <;> rfl)
    (fun k=>by
      show zhu (toL x) g (zhw (toL x) g k) (g.len:Int)=_
      unfold zhu
      rw [decide_eq_false (show ¬ (g.len:Int) < (g.len:Int) by omega),cond_false])
    (fun k i hi=>by
      show zhv (toL x) g (zhx (toL x) g k) (i:Int)=_
      generalize zhx (toL x) g k=F
      unfold zhv ztF
      rw [decide_eq_true (show (i:Int) < (g.len:Int) by omega),decide_eq_true (show 0≤(i:Int)∧(i:Int) < (g.len:Int) by omega),cond_true,Int.toNat_natCast,zz6 S (G.1 i hi),Bool.true_and,Bool.true_and]
      cases zAD x (g.get i) <;> rfl)
    (fun k=>by
      show zhv (toL x) g (zhx (toL x) g k) (g.len:Int)=_
      unfold zhv
      rw [decide_eq_false (show ¬ (g.len:Int) < (g.len:Int) by omega),cond_false])
    (by omega)
  by_cases h:∀ i,i < g.len→(!(zAD x (g.get i)))=true
  · obtain ⟨a, b⟩ := e.1 h
    have b:ztG (toL x) g=false:=b
    refine ⟨a,?_⟩
    rw [b]
    refine ⟨fun h=>(by cases h),fun ⟨i,hi,hc⟩=>?_⟩
    have:=h i hi
    rw [hc] at this;cases this
  · obtain ⟨a, b⟩ := e.2 h
    have b:ztG (toL x) g=true:=b
    refine ⟨a,?_⟩
    rw [b]
    refine ⟨fun _=>Classical.byContradiction fun hn=>h fun i hi=>?_,fun _=>rfl⟩
    cases hc:zAD x (g.get i)
    · rfl
    · exact absurd ⟨i,hi,hc⟩ hn
end Go.Proofs
namespace Go.Proofs
open Go Go.Pm
set_option maxRecDepth 100000
def ziu (l:Line):List Int:=[l.Slope.Num,l.Slope.Den,l.Start.Num,l.Start.Den]
theorem zlj {a b:Line} (h:ziu a=ziu b):a=b:=by
 unfold ziu at h
 simp only [List.cons.injEq,and_true] at h
 obtain ⟨h1,h2,h3,h4⟩:=h
 obtain ⟨⟨a1,a2⟩,a3,a4⟩:=a
 obtain ⟨⟨b1,b2⟩,b3,b4⟩:=b
 simp only at h1 h2 h3 h4
 rw [h1,h2,h3,h4]
abbrev zgN {α:Type} [Inhabited α]:Sl α:=⟨0,fun _=>default⟩
theorem zCn {g:Sl Gate} (h:zli g):cst g=[]:=by
 rcases List.eq_nil_or_concat (cst g) with e | ⟨l,x,e⟩
 ·exact e
 ·have : x ∈ cst g := by rw [e]; simp
  obtain ⟨a,b,h1,h2,hz,_⟩:=zsm this
  exact absurd ((h a (by omega)).trans (h b h2).symm) hz
theorem zCo (g:Sl Gate):∀ m i,(zAC g m i).length≤4 * g.len * m:=by
 intro m
 induction m with
 | zero=>intro i;exact Nat.le_refl _
 | succ m ih =>
  intro i
  show (zpm g i (g.len - (i+1)) (i+1) ++ zAC g m (i+1)).length≤_
  rw [List.length_append,Nat.mul_succ]
  have:=ih (i+1)
  have:=ztK g i (g.len - (i+1)) (i+1)
  omega
theorem zsn {g:Sl Gate} (G:zaC g):(cst g).length≤2304:=by
 have h1:=zCo g g.len 0
 have hl:=G.2.2
 have:4 * g.len * g.len≤4 * 24 * 24:=Nat.mul_le_mul (by omega) hl
 exact Nat.le_trans h1 this
theorem zHM (g:Sl Gate) (G:zaC g):∀ (r acc:List straight) (n:Nat) (F:List Int→Option (List Int)),
    (∀ s∈r,SOK s)→acc.length+r.length≤10000→(∀ c,(zd3 (F c) 0 != 0)=true↔∃ x∈acc,ziu (toL x)=c)→acc.Pairwise (fun x y=>toL x ≠ toL y) →
    ∃ C:List straight,zfp g r (acc.foldl apL zgN) n F=true∧zfo g r (acc.foldl apL zgN) n F=⟨⟨g⟩,C.foldl apL zgN⟩ ∧
      (∀ s∈C,s∈acc∨(s∈r∧zhA g s))∧(∀ s∈acc,s∈C)∧(∀ s∈r,zhA g s→∃ x∈C,toL x=toL s)∧C.Pairwise (fun x y=>toL x ≠ toL y):=by
  intro r
  induction r with
  | nil =>
    intro acc n F _ _ _ hp
    exact ⟨acc,rfl,rfl,fun s h=>.inl h,fun s h=>h,(fun s h=>by cases h),hp⟩
  | cons y r ih =>
    intro acc n F hs hl hF hp
    have hs':∀ s∈r,SOK s:=fun s h=>hs s (List.mem_cons_of_mem _ h)
    have Sy:=hs y List.mem_cons_self
    obtain ⟨e1,e2⟩:=zDI Sy
    obtain ⟨a1,a2⟩:=zK6 g G (acc.foldl apL zgN) Sy
    rw [List.length_cons] at hl
    show ∃ C:List straight,zkd g y (zfp g r) (acc.foldl apL zgN) n F=true∧zkc g y (zfo g r) (acc.foldl apL zgN) n F=_∧_
    unfold zkd zkc
    rw [e1,e2,a1]
    have hcode:([(toL y).Slope.Num,(toL y).Slope.Den,(toL y).Start.Num,(toL y).Start.Den]:List Int)=ziu (toL y):=rfl
    rw [hcode]
    have skip:(∃ C:List straight,zfp g r (acc.foldl apL zgN) n F=true∧zfo g r (acc.foldl apL zgN) n F=⟨⟨g⟩,C.foldl apL zgN⟩ ∧
      (∀ s∈C,s∈acc∨(s∈r∧zhA g s))∧(∀ s∈acc,s∈C)∧(∀ s∈r,zhA g s→∃ x∈C,toL x=toL s)∧C.Pairwise (fun x y=>toL x ≠ toL y)):=ih acc n F hs' (by omega) hF hp
    by_cases h1:(zd3 (F (ziu (toL y))) 0 != 0)=true
    · obtain ⟨C, c1, c2, c3, c4, c5, c6⟩ := skip
      rw [h1]
      refine ⟨C,by simp only [decide_true,Bool.true_and,Bool.not_true,cond_false];exact c1,by simp only [Bool.not_true,cond_false];exact c2,fun s h=>(c3 s h).imp id fun k=>⟨List.mem_cons_of_mem _ k.1,k.2⟩,c4,fun s h ha=>?_,c6⟩
      rcases List.mem_cons.1 h with rfl | h
      · obtain ⟨x, hx, hc⟩ := (hF _).1 h1
        exact ⟨x,c4 x hx,zlj hc⟩
      · exact c5 s h ha
    · have h1' : (zd3 (F (ziu (toL y))) 0 != 0) = false := by simpa using h1
      rw [h1']
      by_cases h2:s97 ⟨⟨g⟩,acc.foldl apL zgN⟩ y=true
      · rw [h2]
        have hlen:(acc.foldl apL zgN).len=acc.length:=by rw [zcv];simp
        have hfold:(⟨(acc.foldl apL zgN).len+1,zdQ (acc.foldl apL zgN).len (acc.foldl apL zgN).get (fun _=>y)⟩:Sl straight)=(acc ++ [y]).foldl apL zgN:=by rw [List.foldl_append];rfl
        rw [hfold,hlen,decide_eq_true (show (acc.length+1) * 24≤140737488355328∧acc.length+1≤9223372036854775807 by omega)]
        obtain ⟨C, c1, c2, c3, c4, c5, c6⟩ := ih (acc ++ [y]) (addN (F (ziu (toL y))) n) (zlF (ziu (toL y)) [1] F) hs' (by rw [List.length_append]; simp only [List.length_cons, List.length_nil]; omega)
          (fun c=>by
            unfold zlF
            by_cases hc:c=ziu (toL y)
            · rw [decide_eq_true hc]
              exact ⟨fun _=>⟨y,by simp,hc.symm⟩,fun _=>rfl⟩
            · rw [decide_eq_false hc]
              refine (hF c).trans ⟨fun ⟨x,hx,e⟩=>⟨x,List.mem_append.2 (.inl hx),e⟩,fun ⟨x,hx,e⟩=>?_⟩
              rcases List.mem_append.1 hx with hx | hx
              · exact ⟨x,hx,e⟩
              · rw [List.mem_singleton.1 hx] at e;exact absurd e.symm hc)
          (by
            rw [List.pairwise_append]
            refine ⟨hp,List.pairwise_singleton _ _,fun a ha b hb=>?_⟩
            rw [List.mem_singleton.1 hb]
            exact fun e=>h1 ((hF _).2 ⟨a,ha,by rw [e]⟩))
        have hy:y∈C:=c4 y (by simp)
        refine ⟨C,by simp only [decide_true,Bool.true_and,Bool.not_false,cond_true];exact c1,by simp only [Bool.not_false,cond_true];exact c2,fun s h=>?_,fun s h=>c4 s (List.mem_append.2 (.inl h)),fun s h ha=>?_,c6⟩
        · rcases c3 s h with h | h
          · rcases List.mem_append.1 h with h | h
            · exact .inl h
            · rw [List.mem_singleton.1 h];exact .inr ⟨List.mem_cons_self,a2.1 h2⟩
          · exact .inr ⟨List.mem_cons_of_mem _ h.1,h.2⟩
        · rcases List.mem_cons.1 h with rfl | h
          · exact ⟨s,hy,rfl⟩
          · exact c5 s h ha
      · have h2' : s97 ⟨⟨g⟩, acc.foldl apL zgN⟩ y = false := by simpa using h2
        rw [h2']
        obtain ⟨C,c1,c2,c3,c4,c5,c6⟩:=skip
        refine ⟨C,by simp only [decide_true,Bool.true_and,Bool.not_false,cond_true,cond_false];exact c1,by simp only [Bool.not_false,cond_true,cond_false];exact c2,fun s h=>(c3 s h).imp id fun k=>⟨List.mem_cons_of_mem _ k.1,k.2⟩,c4,fun s h ha=>?_,c6⟩
        rcases List.mem_cons.1 h with rfl | h
        · exact absurd (a2.2 ha) h2
        · exact c5 s h ha
theorem zn8 (g:Sl Gate) (G:zaC g):∃ C:List straight,p65 g=true∧s65 g=⟨⟨g⟩,C.foldl apL zgN⟩∧(∀ s∈C,s∈cst g∧zhA g s)∧(∀ s∈cst g,zhA g s→∃ x∈C,toL x=toL s)∧C.Pairwise (fun x y=>toL x ≠ toL y):=by
 obtain ⟨e1,e2⟩:=ztP g G
 obtain ⟨f1,f2⟩:=zHL g G
 unfold p65 s65
 rw [e1]
 by_cases hf:zli g
 ·rw [e2.2 hf]
  refine ⟨[],rfl,rfl,(fun s h=>by cases h),fun s h=>?_,List.Pairwise.nil⟩
  rw [zCn hf] at h;cases h
 ·have : s67 ⟨g⟩ = false := by cases h : s67 ⟨g⟩; rfl; exact absurd (e2.1 h) hf
  rw [this]
  unfold zm4 zm3 zm2 zm1 zm0 zqx
  rw [f1,f2]
  obtain ⟨C,c1,c2,c3,_,c5,c6⟩:=zHM g G (cst g) [] 0 (fun _=>none) (fun s h=>zlh G h) (by have:=zsn G;simp only [List.length_nil];omega) (fun c=>⟨fun h=>by simp [zd3] at h,fun ⟨x,hx,_⟩=>by cases hx⟩) List.Pairwise.nil
  refine ⟨C,by simp only [decide_true,Bool.true_and,cond_false];exact c1,by simp only [cond_false];exact c2,fun s h=>?_,c5,c6⟩
  rcases c3 s h with h | h
  ·cases h
  ·exact h
end Go.Proofs
namespace Go.Proofs
open Go Go.Pm
set_option maxRecDepth 100000
theorem zCp (l:Line) (g:Sl Gate):∀ (m i:Nat) (v:Sl Int),i+m=g.len→v.len≤i→((zgM (addI l g) m i v).len < g.len↔v.len < i∨∃ j,i≤j∧j < g.len∧s72 l (g.get j)=false):=by
 intro m
 induction m with
 | zero =>
  intro i v hi hv
  have:i=g.len:=by omega
  subst this
  exact ⟨fun h=>.inl h,fun h=>h.elim id fun ⟨j,a,b,_⟩=>absurd b (by omega)⟩
 | succ m ih =>
  intro i v hi hv
  show (zgM (addI l g) m (i+1) (addI l g i v)).len < g.len↔_
  rw [ih (i+1) (addI l g i v) (by omega) (zjf l g i v hv)]
  unfold addI
  cases h:s72 l (g.get i)
  ·rw [cond_false]
   exact ⟨fun _=>.inr ⟨i,Nat.le_refl _,by omega,h⟩,fun _=>.inl (by omega)⟩
  ·rw [cond_true]
   refine ⟨fun k=>k.imp (fun (k:v.len+1 < i+1)=>by omega) fun ⟨j,a,b,c⟩=>⟨j,by omega,b,c⟩,fun k=>k.imp (fun k=>by show v.len+1 < i+1;omega) fun ⟨j,a,b,c⟩=>⟨j,?_,b,c⟩⟩
   by_cases hj:j=i
   ·rw [hj,h] at c;cases c
   ·omega
theorem zn9 {g:Sl Gate} (G:zaC g) {s:straight} (S:SOK s):p27 (toL s) g=true∧(((s27 (toL s) g).len:Int) < (g.len:Int)↔¬ zhA g s):=by
 have hl:=G.2.2
 obtain ⟨a,b⟩:=zzZ (toL s) g (by omega)
 refine ⟨a,?_⟩
 rw [b]
 have:=zCp (toL s) g g.len 0 (⟨0,fun _=>default⟩:Sl Int) (by omega) (Nat.le_refl _)
 have e:((zuH (toL s) g).len < g.len↔_):=this
 rw [show (((zuH (toL s) g).len:Int) < (g.len:Int))↔(zuH (toL s) g).len < g.len by omega,e]
 constructor
 ·rintro (h | ⟨j, _, hj, hc⟩)
  ·exact absurd h (by omega)
  ·intro h
   have:=h j hj
   rw [← ztO S (G.1 j hj),hc] at this;cases this
 ·intro h
  refine .inr (Classical.byContradiction fun hn=>h fun i hi=>?_)
  rw [← ztO S (G.1 i hi)]
  cases hc:s72 (toL s) (g.get i)
  ·exact absurd ⟨i,Nat.zero_le _,hi,hc⟩ hn
  ·rfl
theorem zpn {α:Type} (l:List α):∀ (v:Sl α) (i:Nat),i < v.len→(l.foldl apL v).get i=v.get i:=by
 induction l with
 | nil=>intro v i _;rfl
 | cons x l ih =>
  intro v i hi
  rw [List.foldl_cons,ih _ _ (show i < v.len+1 by omega)]
  show zdQ v.len v.get (fun _=>x) i=_
  unfold zdQ
  rw [show Nat.ble v.len i=false by rw [← Bool.not_eq_true,Nat.ble_eq];omega]
theorem zhB {α:Type} (l:List α):∀ (v:Sl α) (i:Nat) (x:α),l[i]? = some x→(l.foldl apL v).get (v.len+i)=x:=by
 induction l with
 | nil=>intro v i x h;simp at h
 | cons y l ih =>
  intro v i x h
  rw [List.foldl_cons]
  cases i with
  | zero =>
   have h:some y=some x:=h
   cases h
   rw [zpn _ _ _ (show v.len+0 < v.len+1 by omega)]
   show zdQ v.len v.get (fun _=>y) (v.len+0)=_
   unfold zdQ
   rw [show Nat.ble v.len (v.len+0)=true by rw [Nat.ble_eq];omega]
  | succ i =>
   have:=ih (apL v y) i x (by simpa using h)
   rw [← this]
   show _=(l.foldl apL (apL v y)).get (v.len+1+i)
   congr 1;omega
def zhC (g:Sl Gate) (l:Line):Prop:=∃ s∈cst g,zhA g s∧toL s=l
theorem zK7 {g:Sl Gate} (G:zaC g) {a b:Line} (ha:zhC g a) (hb:zhC g b):p81 a b g=true:=by
 obtain ⟨x,hx,_,rfl⟩:=ha
 obtain ⟨y,hy,_,rfl⟩:=hb
 unfold p81 zzA
 rw [(zn7 g G (zlh G hx)).1,(zn7 g G (zlh G hy)).1]
 cases (ztG (toL x) g != ztG (toL y) g) <;> simp
def zHN (out:Sl Line) (A:Nat) (x:Line):Sl Line :=
 ⟨(((A:Int) - (0:Int)).toNat+1)+((out.len:Int) - (A:Int)).toNat,(zdQ (((A:Int) - (0:Int)).toNat+1) (zdQ (((A:Int) - (0:Int)).toNat) (fun i=>out.get (i+((0:Int).toNat))) (fun _=>x)) (fun i=>out.get (i+A)))⟩
theorem zoa {out:Sl Line} {A:Nat} {x:Line} (h:A≤out.len):(zHN out A x).len=out.len+1:=by
 show (((A:Int) - (0:Int)).toNat+1)+((out.len:Int) - (A:Int)).toNat=_;omega
theorem ziv {out:Sl Line} {A:Nat} {x:Line} (j:Nat):(zHN out A x).get j=if j < A then out.get j else if j=A then x else out.get (j - 1):=by
 have e:((A:Int) - (0:Int)).toNat=A:=by omega
 show zdQ (((A:Int) - (0:Int)).toNat+1) (zdQ (((A:Int) - (0:Int)).toNat) (fun i=>out.get (i+((0:Int).toNat))) (fun _=>x)) (fun i=>out.get (i+A)) j=_
 rw [e]
 unfold zdQ
 by_cases h1:A+1≤j
 ·rw [show Nat.ble (A + 1) j = true by rw [Nat.ble_eq]; exact h1, if_neg (by omega), if_neg (by omega)]
  show out.get (j - (A+1)+A)=_
  congr 1;omega
 ·rw [show Nat.ble (A + 1) j = false by rw [← Bool.not_eq_true, Nat.ble_eq]; exact h1]
  by_cases h2:A≤j
  ·have : j = A := by omega
   subst this
   rw [show Nat.ble j j=true by rw [Nat.ble_eq];omega,if_neg (by omega),if_pos rfl]
  ·rw [show Nat.ble A j = false by rw [← Bool.not_eq_true, Nat.ble_eq]; exact h2, if_pos (by omega)]
   rfl
open Classical in
noncomputable def zed (out:Sl Line) (A:Nat) (x:Line):Sl Line:=if A < out.len∧out.get A=x then out else zHN out A x
theorem zOr (g : Sl Gate) (lv : Sl Line) (i : Nat) (hi : i < lv.len) (hlv : lv.len ≤ 10000) (S1 : Sl Line → Int → Sl Line) (P1 : Sl Line → Int → Bool) (out : Sl Line) (A : Nat) (hA : A ≤ out.len) (ho : out.len ≤ 10000) :
  znV P1 g lv out (i:Int) (A:Int)=P1 (zed out A (lv.get i)) ((i+1:Nat):Int)∧znU S1 g lv out (i:Int) (A:Int)=S1 (zed out A (lv.get i)) ((i+1:Nat):Int):=by
 have w:=zbD (n:=lv.len) hi (by omega)
 have k1:decide (0≤(i:Int)∧(i:Int) < (lv.len:Int))=true:=decide_eq_true (by omega)
 have k2:decide (0≤(0:Int)∧(0:Int)≤(A:Int)∧(A:Int)≤(out.len:Int))=true:=decide_eq_true (by omega)
 have k3:decide (((A:Int) - (0:Int)).toNat * 32≤140737488355328∧((A:Int) - (0:Int)).toNat≤9223372036854775807)=true:=decide_eq_true (by omega)
 have k4:decide ((((A:Int) - (0:Int)).toNat+1) * 32≤140737488355328∧((A:Int) - (0:Int)).toNat+1≤9223372036854775807)=true:=decide_eq_true (by omega)
 have k5:decide (0≤(A:Int)∧(A:Int)≤(out.len:Int)∧(out.len:Int)≤(out.len:Int))=true:=decide_eq_true (by omega)
 have k6:decide (((((A:Int) - (0:Int)).toNat+1)+((out.len:Int) - (A:Int)).toNat) * 32≤140737488355328∧(((A:Int) - (0:Int)).toNat+1)+((out.len:Int) - (A:Int)).toNat≤9223372036854775807)=true:=decide_eq_true (by omega)
 unfold znV znU zed
 rw [Int.toNat_natCast,Int.toNat_natCast,k1,k2,k3,k4,k5,k6,w]
 by_cases h1:A < out.len
 ·rw [decide_eq_true (show (A : Int) < (out.len : Int) by omega), decide_eq_true (show 0 ≤ (A : Int) ∧ (A : Int) < (out.len : Int) by omega)]
  by_cases h2:out.get A=lv.get i
  ·rw [if_pos ⟨h1, h2⟩, h2, beq_self_eq_true, beq_self_eq_true, beq_self_eq_true, beq_self_eq_true]
   exact ⟨rfl,rfl⟩
  ·rw [if_neg fun h => h2 h.2]
   have hne : ¬ (((out.get A).Slope.Num == (lv.get i).Slope.Num)=true∧((out.get A).Slope.Den == (lv.get i).Slope.Den)=true∧((out.get A).Start.Num == (lv.get i).Start.Num)=true∧((out.get A).Start.Den == (lv.get i).Start.Den)=true):=by
    rintro ⟨a,b,c,d⟩
    rw [beq_iff_eq] at a b c d
    exact h2 (zlj (by unfold ziu;rw [a,b,c,d]))
   generalize ((out.get A).Slope.Num == (lv.get i).Slope.Num)=b1 at hne ⊢
   generalize ((out.get A).Slope.Den == (lv.get i).Slope.Den)=b2 at hne ⊢
   generalize ((out.get A).Start.Num == (lv.get i).Start.Num)=b3 at hne ⊢
   generalize ((out.get A).Start.Den == (lv.get i).Start.Den)=b4 at hne ⊢
   cases b1 <;> cases b2 <;> cases b3 <;> cases b4 <;> first | exact ⟨rfl,rfl⟩ | exact absurd ⟨rfl,rfl,rfl,rfl⟩ hne
 ·rw [if_neg fun h => h1 h.1, decide_eq_false (show ¬ (A : Int) < (out.len : Int) by omega)]
  exact ⟨rfl,rfl⟩
theorem zQg (g : Sl Gate) (G : zaC g) (lv : Sl Line) (i : Nat) (hi : i < lv.len) (hlv : lv.len ≤ 10000) (hx : zhC g (lv.get i)) (S1 : Sl Line → Int → Sl Line) (P1 : Sl Line → Int → Bool) (out : Sl Line) (ho : out.len ≤ 10000) (hM : ∀ j, j < out.len → zhC g (out.get j)) :
  ∀ (m k a:Nat),a+m=out.len→m < k →
  zk0 P1 g lv k out (i:Int) (a:Int)=P1 (zed out (zlz (fun j=>!(s81 (out.get j) (lv.get i) g)) m a) (lv.get i)) ((i+1:Nat):Int) ∧
  zis S1 g lv k out (i:Int) (a:Int)=S1 (zed out (zlz (fun j=>!(s81 (out.get j) (lv.get i) g)) m a) (lv.get i)) ((i+1:Nat):Int):=by
 intro m
 induction m with
 | zero =>
  intro k a ha hk
  obtain ⟨k,rfl⟩:∃ k',k=k'+1:=⟨k - 1,by omega⟩
  show zkZ P1 g lv (zk0 P1 g lv k) _ _ _=P1 (zed out a _) _∧zkY S1 g lv (zis S1 g lv k) _ _ _=S1 (zed out a _) _
  unfold zkZ zkY
  rw [decide_eq_false (show ¬ (a:Int) < (out.len:Int) by omega),cond_false,cond_false]
  exact zOr g lv i hi hlv S1 P1 out a (by omega) ho
 | succ m ih =>
  intro k a ha hk
  obtain ⟨k,rfl⟩:∃ k',k=k'+1:=⟨k - 1,by omega⟩
  obtain ⟨i1,i2⟩:=ih k (a+1) (by omega) (by omega)
  show zkZ P1 g lv (zk0 P1 g lv k) _ _ _=_∧zkY S1 g lv (zis S1 g lv k) _ _ _=_
  generalize zk0 P1 g lv k=P at i1
  generalize zis S1 g lv k=S at i2
  unfold zkZ zkY
  rw [decide_eq_true (show (a:Int) < (out.len:Int) by omega),decide_eq_true (show 0≤(a:Int)∧(a:Int) < (out.len:Int) by omega),decide_eq_true (show 0≤(i:Int)∧(i:Int) < (lv.len:Int) by omega),Int.toNat_natCast,Int.toNat_natCast,zK7 G (hM a (by omega)) hx,zbD (n:=out.len) (by omega) (by omega)]
  cases h:s81 (out.get a) (lv.get i) g
  ·rw [zvN (c := fun j => !(s81 (out.get j) (lv.get i) g)) (by show (!(s81 (out.get a) (lv.get i) g)) = true; rw [h]; rfl)]
   exact zOr g lv i hi hlv S1 P1 out a (by omega) ho
  ·rw [zvO (c := fun j => !(s81 (out.get j) (lv.get i) g)) (by show (!(s81 (out.get a) (lv.get i) g)) = false; rw [h]; rfl)]
   exact ⟨i1,i2⟩
end Go.Proofs
namespace Go.Proofs
open Go Go.Pm
set_option maxRecDepth 100000
def Bef (g:Sl Gate) (a b:Line):Prop:=s81 a b g=true
def Tot (g:Sl Gate):Prop:=(∀ a b c,zhC g a→zhC g b→zhC g c→Bef g a b→Bef g b c→Bef g a c)∧∀ a b,zhC g a→zhC g b→a ≠ b→Bef g a b∨Bef g b a
def Srt (g:Sl Gate) (v:Sl Line):Prop:=∀ i j,i < j→j < v.len→Bef g (v.get i) (v.get j)
theorem ztQ {g:Sl Gate} (G:zaC g) {s:straight} (h:s∈cst g):zhC g (toL s)↔zhA g s:=by
 refine ⟨fun ⟨x,hx,ha,e⟩ i hi=>?_,fun ha=>⟨s,h,ha,rfl⟩⟩
 rw [← ztO (zlh G h) (G.1 i hi),← e,ztO (zlh G hx) (G.1 i hi)]
 exact ha i hi
theorem put_mem {g:Sl Gate} {out:Sl Line} {A:Nat} {x:Line} (hA:A≤out.len) (hM:∀ j,j < out.len→zhC g (out.get j)) (hx:zhC g x):∀ j,j < (zed out A x).len→zhC g ((zed out A x).get j):=by
 unfold zed
 by_cases h:A < out.len∧out.get A=x
 ·rw [if_pos h];exact hM
 ·rw [if_neg h]
  intro j hj
  rw [zoa hA] at hj
  rw [ziv]
  split
  ·exact hM j (by omega)
  ·split
   ·exact hx
   ·exact hM (j - 1) (by omega)
theorem zHO {out:Sl Line} {A:Nat} {x:Line} (hA:A≤out.len):(∃ j,j < (zed out A x).len∧(zed out A x).get j=x)∧∀ j,j < out.len→∃ i,i < (zed out A x).len∧(zed out A x).get i=out.get j:=by
 unfold zed
 by_cases h:A < out.len∧out.get A=x
 ·rw [if_pos h];exact ⟨⟨A,h.1,h.2⟩,fun j hj=>⟨j,hj,rfl⟩⟩
 ·rw [if_neg h, zoa hA]
  refine ⟨⟨A,by omega,by rw [ziv,if_neg (by omega),if_pos rfl]⟩,fun j hj=>?_⟩
  by_cases hj2:j < A
  ·exact ⟨j,by omega,by rw [ziv,if_pos hj2]⟩
  ·exact ⟨j+1,by omega,by rw [ziv,if_neg (by omega),if_neg (by omega)];rfl⟩
theorem zHP {out:Sl Line} {A:Nat} {x:Line} (hA:A≤out.len):(zed out A x).len≤out.len+1:=by
 unfold zed;split
 ·omega
 ·rw [zoa hA];omega
theorem zHQ {g : Sl Gate} (T : Tot g) {out : Sl Line} {x : Line} (hM : ∀ j, j < out.len → zhC g (out.get j)) (hx : zhC g x) (hs : Srt g out) :
  Srt g (zed out (zlz (fun j=>!(s81 (out.get j) x g)) out.len 0) x):=by
 have hle:=zCN (fun j=>!(s81 (out.get j) x g)) out.len
 have hlo:∀ j,j < fst (fun j=>!(s81 (out.get j) x g)) out.len→Bef g (out.get j) x:=fun j hj=>by
  have:(!(s81 (out.get j) x g))=false:=zCO (c:=fun j=>!(s81 (out.get j) x g)) hj
  show s81 (out.get j) x g=true
  cases h:s81 (out.get j) x g
  ·rw [h] at this;cases this
  ·rfl
 have hhi:fst (fun j=>!(s81 (out.get j) x g)) out.len < out.len→¬ Bef g (out.get (fst (fun j=>!(s81 (out.get j) x g)) out.len)) x:=fun h hb=>by
  have:(!(s81 (out.get (fst (fun j=>!(s81 (out.get j) x g)) out.len)) x g))=true:=zCP (c:=fun j=>!(s81 (out.get j) x g)) h
  have hb:s81 (out.get (fst (fun j=>!(s81 (out.get j) x g)) out.len)) x g=true:=hb
  rw [hb] at this;cases this
 show Srt g (zed out (fst (fun j=>!(s81 (out.get j) x g)) out.len) x)
 generalize fst (fun j=>!(s81 (out.get j) x g)) out.len=A at hle hlo hhi ⊢
 unfold zed
 by_cases h:A < out.len∧out.get A=x
 ·rw [if_pos h];exact hs
 ·rw [if_neg h]
  intro i j hij hj
  rw [zoa hle] at hj
  rw [ziv,ziv]
  by_cases j1:j < A
  ·rw [if_pos (show i < A by omega),if_pos j1];exact hs i j hij (by omega)
  ·rw [if_neg j1]
   by_cases j2:j=A
   ·rw [if_pos j2,if_pos (show i < A by omega)];exact hlo i (by omega)
   ·rw [if_neg j2]
    by_cases i1:i < A
    ·rw [if_pos i1];exact hs i (j - 1) (by omega) (by omega)
    ·rw [if_neg i1]
     by_cases i2:i=A
     ·rw [if_pos i2]
      have hA:A < out.len:=by omega
      have b1:Bef g x (out.get A):=(T.2 x (out.get A) hx (hM A hA) (fun e=>h ⟨hA,e.symm⟩)).resolve_right (hhi hA)
      by_cases j3:j - 1=A
      ·rw [j3];exact b1
      ·exact T.1 _ _ _ hx (hM A hA) (hM (j - 1) (by omega)) b1 (hs A (j - 1) (by omega) (by omega))
     ·rw [if_neg i2];exact hs (i - 1) (j - 1) (by omega) (by omega)
structure Inv33 (g : Sl Gate) (lv : Sl Line) (i : Nat) (out : Sl Line) : Prop where
  len:out.len≤i
  mem:∀ j,j < out.len→zhC g (out.get j)
  has:∀ j,j < i→zhC g (lv.get j)→∃ a,a < out.len∧out.get a=lv.get j
  srt:Tot g→Srt g out
theorem zNI (g:Sl Gate) (G:zaC g) (lv:Sl Line) (hlv:lv.len≤10000) (hc:∀ i,i < lv.len→∃ s∈cst g,lv.get i=toL s):∀ (m k i:Nat) (out:Sl Line),i+m=lv.len→m < k→Inv33 g lv i out →
  zk3 g lv k out (i:Int)=true∧Inv33 g lv lv.len (zit g lv k out (i:Int)):=by
 intro m
 induction m with
 | zero =>
  intro k i out hi hk I
  obtain ⟨k,rfl⟩:∃ k',k=k'+1:=⟨k - 1,by omega⟩
  show zk2 g lv (zk3 g lv k) _ _=_∧Inv33 g lv lv.len (zk1 g lv (zit g lv k) _ _)
  unfold zk2 zk1
  rw [decide_eq_false (show ¬ (i:Int) < (lv.len:Int) by omega),cond_false,cond_false]
  have:i=lv.len:=by omega
  rw [← this]
  exact ⟨rfl,I⟩
 | succ m ih =>
  intro k i out hi hk I
  obtain ⟨k,rfl⟩:∃ k',k=k'+1:=⟨k - 1,by omega⟩
  have ih:=fun out I=>ih k (i+1) out (by omega) (by omega) I
  show zk2 g lv (zk3 g lv k) _ _=_∧Inv33 g lv lv.len (zk1 g lv (zit g lv k) _ _)
  generalize zk3 g lv k=P at ih
  generalize zit g lv k=S at ih
  obtain ⟨s,hs,es⟩:=hc i (by omega)
  obtain ⟨p1,p2⟩:=zn9 G (zlh G hs)
  rw [← es] at p1 p2
  unfold zk2 zk1 zzC zzB
  rw [decide_eq_true (show (i:Int) < (lv.len:Int) by omega),decide_eq_true (show 0≤(i:Int)∧(i:Int) < (lv.len:Int) by omega),Int.toNat_natCast,p1,zbD (n:=lv.len) (by omega) (by omega),cond_true,cond_true]
  by_cases ha:zhA g s
  ·rw [decide_eq_false (fun h => p2.1 h ha), cond_false, cond_false]
   have hx:zhC g (lv.get i):=by rw [es];exact (ztQ G hs).2 ha
   have hl:=I.len
   obtain ⟨b1,b2⟩:=zQg g G lv i (by omega) hlv hx S P out (by omega) I.mem out.len Fuel 0 (by omega) (by simp only [Fuel];omega)
   have hA:=zCN (fun j=>!(s81 (out.get j) (lv.get i) g)) out.len
   have I':Inv33 g lv (i+1) (zed out (zlz (fun j=>!(s81 (out.get j) (lv.get i) g)) out.len 0) (lv.get i)):=by
    refine ⟨Nat.le_trans (zHP hA) (by omega),put_mem hA I.mem hx,fun j hj hm=>?_,fun T=>zHQ T I.mem hx (I.srt T)⟩
    obtain ⟨q1,q2⟩:=zHO (out:=out) (x:=lv.get i) hA
    by_cases hji:j=i
    ·rw [hji];exact q1
    ·obtain ⟨a, ha1, ha2⟩ := I.has j (by omega) hm
     obtain ⟨c,hc1,hc2⟩:=q2 a ha1
     exact ⟨c,hc1,hc2.trans ha2⟩
   have:=ih _ I'
   refine ⟨?_,?_⟩
   ·simp only [decide_true,Bool.true_and];exact b1.trans this.1
   ·have e : zis S g lv Fuel out (i : Int) (0 : Int) = _ := b2
    rw [e];exact this.2
  ·rw [decide_eq_true (p2.2 ha), cond_true, cond_true]
   have I':Inv33 g lv (i+1) out:=by
    refine ⟨by have:=I.len;omega,I.mem,fun j hj hm=>?_,I.srt⟩
    by_cases hji:j=i
    ·rw [hji,es,ztQ G hs] at hm;exact absurd hm ha
    ·exact I.has j (by omega) hm
   have:=ih _ I'
   exact ⟨by simp only [decide_true,Bool.true_and];exact this.1,this.2⟩
theorem zlk (g:Sl Gate) (G:zaC g):p33 g=true∧(s33 g).len≤2304∧(∀ j,j < (s33 g).len→zhC g ((s33 g).get j))∧(∀ l,zhC g l→∃ a,a < (s33 g).len∧(s33 g).get a=l)∧(Tot g→Srt g (s33 g)):=by
  obtain ⟨e1,e2⟩:=zK5 g G
  have hlen:(((cst g).map toL).foldl apL (⟨0,fun _=>default⟩:Sl Line)).len=(cst g).length:=by rw [zcv,List.length_map];simp
  have hget:∀ i s,(cst g)[i]? = some s→(((cst g).map toL).foldl apL (⟨0,fun _=>default⟩:Sl Line)).get i=toL s:=fun i s h=>by
    have:=zhB ((cst g).map toL) (⟨0,fun _=>default⟩:Sl Line) i (toL s) (by rw [List.getElem?_map,h];rfl)
    rw [Nat.zero_add] at this;exact this
  have hc:=zsn G
  obtain ⟨a, I⟩ := zNI g G (((cst g).map toL).foldl apL (⟨0, fun _ => default⟩ : Sl Line)) (by omega)
    (fun i hi=>by
      rw [hlen] at hi
      exact ⟨(cst g)[i],List.getElem_mem _,hget i _ (List.getElem?_eq_getElem hi)⟩)
    (cst g).length Fuel 0 (⟨0,fun _=>default⟩:Sl Line) (by omega) (by simp only [Fuel];omega)
    ⟨Nat.le_refl _,fun j hj=>absurd hj (Nat.not_lt_zero _),fun j hj=>absurd hj (Nat.not_lt_zero _),fun _ i j _ hj=>absurd hj (Nat.not_lt_zero _)⟩
  have es:s33 g=zit g (((cst g).map toL).foldl apL (⟨0,fun _=>default⟩:Sl Line)) Fuel (⟨0,fun _=>default⟩:Sl Line) (0:Int):=by
    unfold s33;rw [e2];rfl
  have I:Inv33 g (((cst g).map toL).foldl apL (⟨0,fun _=>default⟩:Sl Line)) (((cst g).map toL).foldl apL (⟨0,fun _=>default⟩:Sl Line)).len (s33 g):=by rw [es];exact I
  refine ⟨?_,by have:=I.len;omega,I.mem,fun l ⟨s,hs,ha,e⟩=>?_,I.srt⟩
  · unfold p33
    rw [e1,e2]
    simp only [decide_true,Bool.true_and]
    exact a
  · obtain ⟨i, hi⟩ := List.getElem?_of_mem hs
    have hi2:i < (cst g).length:=(List.getElem?_eq_some_iff.1 hi).1
    have hgi:=hget i s hi
    obtain ⟨b,hb1,hb2⟩:=I.has i (by omega) (by rw [hgi];exact ⟨s,hs,ha,rfl⟩)
    exact ⟨b,hb1,by rw [hb2,hgi,e]⟩
end Go.Proofs
namespace Go.Proofs
open Go Go.Pm
set_option maxRecDepth 100000
def cmS (g:Sl Gate) (i:Nat) (s:Int×Int):Int×Int:=(if (g.get i).Low > s.1 then (g.get i).Low else s.1,if (g.get i).High < s.2 then (g.get i).High else s.2)
def com (g:Sl Gate):Int×Int:=zgM (cmS g) (g.len - 1) 1 ((g.get 0).Low,(g.get 0).High)
theorem zQh (g:Sl Gate) (h:1≤g.len):zgM (cmS g) g.len 0 ((g.get 0).Low,(g.get 0).High)=com g:=by
 obtain ⟨m,hm⟩:∃ m,g.len=m+1:=⟨g.len - 1,by omega⟩
 unfold com
 rw [hm]
 show zgM (cmS g) m 1 (cmS g 0 ((g.get 0).Low,(g.get 0).High))=zgM (cmS g) m 1 _
 have:cmS g 0 ((g.get 0).Low,(g.get 0).High)=((g.get 0).Low,(g.get 0).High):=by
  unfold cmS
  rw [if_neg (by show ¬ (g.get 0).Low > (g.get 0).Low;omega),if_neg (by show ¬ (g.get 0).High < (g.get 0).High;omega)]
 rw [this]
theorem zDJ (g:Sl Gate) (G:zaC g):p98 ⟨g⟩=true∧s98 ⟨g⟩=⟨(com g).1,(com g).2⟩:=by
  have hl:=G.2
  have := zeu (σ := Int × Int) (step := cmS g) (E := fun s => (⟨s.1, s.2⟩ : Span)) (EP := fun _ => true) (Inv := fun _ _ => True) (a := 0) (n := g.len) (lpS := fun k s i => zhR ⟨g⟩ k i s.1 s.2) (lpP := fun k s i => zhS ⟨g⟩ k i s.1 s.2)
    (fun k i s _ hi _=>by
      show zhP ⟨g⟩ (zhR ⟨g⟩ k) (i:Int) s.1 s.2=_
      generalize zhR ⟨g⟩ k=S
      unfold zhP
      rw [decide_eq_true (show (i:Int) < ((⟨g⟩:list).Gates.len:Int) by show (i:Int) < (g.len:Int);omega),cond_true,Int.toNat_natCast]
      rfl)
    (fun k s=>by
      show zhP ⟨g⟩ (zhR ⟨g⟩ k) (g.len:Int) s.1 s.2=_
      unfold zhP
      rw [decide_eq_false (show ¬ (g.len:Int) < ((⟨g⟩:list).Gates.len:Int) by show ¬ (g.len:Int) < (g.len:Int);omega),cond_false])
    (fun k i s _ hi _=>by
      show zhQ ⟨g⟩ (zhS ⟨g⟩ k) (i:Int) s.1 s.2=_
      generalize zhS ⟨g⟩ k=S
      unfold zhQ
      rw [decide_eq_true (show (i:Int) < ((⟨g⟩:list).Gates.len:Int) by show (i:Int) < (g.len:Int);omega),decide_eq_true (show 0≤(i:Int)∧(i:Int) < ((⟨g⟩:list).Gates.len:Int) by show 0≤(i:Int)∧(i:Int) < (g.len:Int);omega),cond_true,Bool.true_and,Int.toNat_natCast]
      rfl)
    (fun k s=>by
      show zhQ ⟨g⟩ (zhS ⟨g⟩ k) (g.len:Int) s.1 s.2=_
      unfold zhQ
      rw [decide_eq_false (show ¬ (g.len:Int) < ((⟨g⟩:list).Gates.len:Int) by show ¬ (g.len:Int) < (g.len:Int);omega),cond_false])
    (fun _ _ _ _ _=>trivial) (Nat.zero_le _) (by omega) ((g.get 0).Low,(g.get 0).High) trivial
  obtain ⟨a,b⟩:=this
  rw [show g.len - 0=g.len from rfl,zQh g hl.1] at b
  refine ⟨?_,b⟩
  unfold p98
  rw [decide_eq_true (show 0≤(0:Int)∧(0:Int) < ((⟨g⟩:list).Gates.len:Int) from ⟨by omega,by show (0:Int) < (g.len:Int);omega⟩),Bool.true_and,Bool.true_and]
  exact a
theorem zDK (g:Sl Gate) (G:zaC g):p71 g=true∧s71 g=((com g).1,(com g).2,decide ((com g).1≤(com g).2)):=by
  have hl:=G.2
  have := zeu (σ := Int × Int) (step := cmS g) (E := fun s => (s.1, s.2, decide (s.1 ≤ s.2))) (EP := fun _ => true) (Inv := fun _ _ => True) (a := 1) (n := g.len) (lpS := fun k s i => zk6 g k s.1 s.2 i) (lpP := fun k s i => zk7 g k s.1 s.2 i)
    (fun k i s _ hi _=>by
      show zk4 g (zk6 g k) s.1 s.2 (i:Int)=_
      generalize zk6 g k=S
      unfold zk4
      rw [decide_eq_true (show (i:Int) < (g.len:Int) by omega),cond_true,Int.toNat_natCast]
      rfl)
    (fun k s=>by
      show zk4 g (zk6 g k) s.1 s.2 (g.len:Int)=_
      unfold zk4
      rw [decide_eq_false (show ¬ (g.len:Int) < (g.len:Int) by omega),cond_false])
    (fun k i s _ hi _=>by
      show zk5 g (zk7 g k) s.1 s.2 (i:Int)=_
      generalize zk7 g k=S
      unfold zk5
      rw [decide_eq_true (show (i:Int) < (g.len:Int) by omega),decide_eq_true (show 0≤(i:Int)∧(i:Int) < (g.len:Int) by omega),cond_true,Bool.true_and,Bool.true_and,Int.toNat_natCast]
      rfl)
    (fun k s=>by
      show zk5 g (zk7 g k) s.1 s.2 (g.len:Int)=_
      unfold zk5
      rw [decide_eq_false (show ¬ (g.len:Int) < (g.len:Int) by omega),cond_false])
    (fun _ _ _ _ _=>trivial) hl.1 (by omega) ((g.get 0).Low,(g.get 0).High) trivial
  obtain ⟨a,b⟩:=this
  refine ⟨?_,b⟩
  unfold p71
  rw [decide_eq_true (show 0≤(0:Int)∧(0:Int) < (g.len:Int) by omega),Bool.true_and,Bool.true_and]
  exact a
theorem zHR (g:Sl Gate) (G:zaC g):p66 (s65 g)=true∧p21 g=true∧s66 (s65 g)=s21 g:=by
 obtain ⟨C,_,c2,c3,c4,_⟩:=zn8 g G
 obtain ⟨a1,a2⟩:=ztP g G
 obtain ⟨b1,b2⟩:=zDJ g G
 obtain ⟨d1,d2⟩:=zDK g G
 obtain ⟨e1,e2⟩:=zmc g G
 obtain ⟨f1,_,f3,f4,_⟩:=zlk g G
 have h67:s67 ⟨g⟩=s22 g:=Bool.eq_iff_iff.2 (a2.trans e2.symm)
 have hcl:(C.foldl apL (zgN:Sl straight)).len=C.length:=by rw [zcv];simp
 rw [c2]
 unfold p66 s66 p21 s21
 show (decide (p98 ⟨g⟩=true) && (decide (p67 ⟨g⟩=true) && true))=true∧_∧cond (s67 ⟨g⟩) (decide ((s98 ⟨g⟩).Low≤(s98 ⟨g⟩).High)) (decide (((C.foldl apL (zgN:Sl straight)).len:Int) > 0))=_
 rw [a1,b1,b2,d1,d2,e1,f1,h67,hcl]
 refine ⟨by simp,by cases s22 g <;> simp,?_⟩
 cases s22 g
 ·rw [cond_false, cond_false]
  refine decide_eq_decide.2 ⟨fun h=>?_,fun h=>?_⟩
  ·obtain ⟨x, hx⟩ := List.exists_mem_of_length_pos (l := C) (by omega)
   obtain ⟨a,ha,_⟩:=f4 (toL x) ⟨x,(c3 x hx).1,(c3 x hx).2,rfl⟩
   omega
  ·obtain ⟨s, hs, ha, _⟩ := f3 0 (by omega)
   obtain ⟨x,hx,_⟩:=c4 s hs ha
   have:=List.length_pos_of_mem hx
   omega
 ·rfl
end Go.Proofs
namespace Go.Proofs
open Go Go.Pm
set_option maxRecDepth 100000
def FOK (f:Frac):Prop:=(-1000000000000≤f.Num∧f.Num≤1000000000000)∧1≤f.Den∧f.Den≤100000
def ltF (a b:Frac):Prop:=a.Num * b.Den < b.Num * a.Den
theorem zz8 (x y:Int):zC5 x y < 0↔x < y:=by
 unfold zC5 zC3
 by_cases h:x < y
 ·simp [h]
 ·by_cases h2:x > y <;> simp [h,h2]
theorem zz9 (x y:Int):zC5 x y > 0↔x > y:=by
 unfold zC5 zC3
 by_cases h:x < y
 ·have : ¬ x > y := by omega
  simp [h];omega
 ·by_cases h2:x > y <;> simp [h,h2]
theorem cross {a b:Frac} (ha:FOK a) (hb:FOK b):w64 (a.Num * b.Den)=a.Num * b.Den:=by
 have:=zjg ha.1.1 ha.1.2 (show 0≤b.Den by have:=hb.2;omega) hb.2.2
 exact zaU (by omega) (by omega)
theorem zAa {a b:Frac} (ha:FOK a) (hb:FOK b):zBy a b=true↔ltF a b:=by
 unfold zBy s69 ltF
 rw [cross ha hb,cross hb ha,decide_eq_true_eq,zz8]
theorem zAb {a b:Frac} (ha:FOK a) (hb:FOK b):zBz a b=true↔ltF b a:=by
 unfold zBz s69 ltF
 rw [cross ha hb,cross hb ha,decide_eq_true_eq,zz9]
theorem zll {a b:Frac} (ha:FOK a) (hb:FOK b):s29 a b=true↔ltF a b:=by
 unfold s29 ltF
 rw [cross ha hb,cross hb ha,decide_eq_true_eq]
theorem zfE {a b:Frac} (ha:0 < a.Den) (hb:0 < b.Den):ltF (red a.Num a.Den) (red b.Num b.Den)↔ltF a b:=by
 have a1:=zdZ (num:=a.Num) ha
 have a2:=zdn (num:=a.Num) ha
 have b1:=zdZ (num:=b.Num) hb
 have b2:=zdn (num:=b.Num) hb
 have ga:=zcs (num:=a.Num) ha
 have gb:=zcs (num:=b.Num) hb
 unfold ltF
 generalize red a.Num a.Den=x at *
 generalize red b.Num b.Den=y at *
 generalize (Int.gcd a.Num a.Den:Int)=G at *
 generalize (Int.gcd b.Num b.Den:Int)=K at *
 have hk:=Int.mul_pos ga gb
 have e1:a.Num * b.Den=(G * K) * (x.Num * y.Den):=by rw [← a1,← b2];ac_rfl
 have e2:b.Num * a.Den=(G * K) * (y.Num * x.Den):=by rw [← b1,← a2];ac_rfl
 rw [e1,e2]
 have:=zhz (x:=y.Num * x.Den) (y:=x.Num * y.Den) hk
 constructor
 ·intro h;exact Int.not_le.1 fun k=>absurd (this.1 k) (by omega)
 ·intro h;exact Int.not_le.1 fun k=>absurd (this.2 k) (by omega)
theorem zdo {f:Frac} (h:FOK f):FOK (red f.Num f.Den):=by
 obtain ⟨h1,h2,h3⟩:=h
 have hd:0 < f.Den:=by omega
 have:=zfD (num:=f.Num) hd
 have:=ziJ (num:=f.Num) hd
 have:=zcG (num:=f.Num) hd
 exact ⟨⟨by omega,by omega⟩,by omega,by omega⟩
theorem zpo {a b:Frac} (ha:0 < a.Den) (hb:0 < b.Den) (h1 : ¬ ltF a b) (h2 : ¬ ltF b a):red a.Num a.Den=red b.Num b.Den :=
 (zpk ha hb).2 (by unfold ltF at h1 h2;omega)
end Go.Proofs
namespace Go.Proofs
open Go Go.Pm
set_option maxRecDepth 100000
theorem zK8 {x y X Y:Int} (h1 : -X≤x) (h2:x≤X) (h3 : -Y≤y) (h4:y≤Y) : -(X * Y)≤x * y∧x * y≤X * Y:=by
 rcases Int.le_total 0 y with h | h
 ·exact zjg h1 h2 h h4
 ·have := zjg (x := x) (y := -y) (X := X) (Y := Y) h1 h2 (by omega) (by omega)
  rw [Int.mul_neg] at this
  omega
theorem zlm {s:straight} (S:SOK s) {z:Int} (hz : -200000≤z∧z≤200000):p28 (toL s) z=true∧s28 (toL s) z=red (plc s z) s.den:=by
 obtain ⟨S1,S2,S3⟩:=S
 have hd:0 < s.den:=by omega
 have g1:=zcs (num:=s.slope) hd
 have g2:=zcs (num:=s.start) hd
 have r1:=zfD (num:=s.slope) hd
 have r2:=zfD (num:=s.start) hd
 have e1:=zdZ (num:=s.slope) hd
 have e2:=zdn (num:=s.slope) hd
 have e3:=zdZ (num:=s.start) hd
 have e4:=zdn (num:=s.start) hd
 have p1:=zcG (num:=s.slope) hd
 have p2:=zcG (num:=s.start) hd
 have q1:=ziJ (num:=s.slope) hd
 have q2:=ziJ (num:=s.start) hd
 unfold p28 s28 zrH zrG toL
 simp only
 generalize (red s.slope s.den).Num=a at *
 generalize (red s.slope s.den).Den=b at *
 generalize (red s.start s.den).Num=c at *
 generalize (red s.start s.den).Den=d at *
 generalize (Int.gcd s.slope s.den:Int)=G1 at *
 generalize (Int.gcd s.start s.den:Int)=G2 at *
 obtain ⟨k1,k2⟩:=ztH d b (by omega) (by omega) (by omega)
 have g0:=zcs (num:=d) p1
 obtain ⟨d',hd'⟩:=zOp d b
 obtain ⟨b',hb'⟩:=zOq d b
 rw [k1,k2]
 generalize (Int.gcd d b:Int)=g at *
 have pd:0 < d':=by
  rcases Int.lt_or_le 0 d' with h | h
  ·exact h
  ·have:=Int.mul_le_mul_of_nonneg_left h (Int.le_of_lt g0);rw [← hd',Int.mul_zero] at this;omega
 have pb:0 < b':=by
  rcases Int.lt_or_le 0 b' with h | h
  ·exact h
  ·have:=Int.mul_le_mul_of_nonneg_left h (Int.le_of_lt g0);rw [← hb',Int.mul_zero] at this;omega
 have ld:d'≤d:=by have:=Int.mul_le_mul_of_nonneg_right (show 1≤g by omega) (Int.le_of_lt pd);omega
 have lb:b'≤b:=by have:=Int.mul_le_mul_of_nonneg_right (show 1≤g by omega) (Int.le_of_lt pb);omega
 have t1:d.tdiv g=d':=by rw [hd'];exact Int.mul_tdiv_cancel_left _ (by omega)
 have m1:=zjg (x:=d') (X:=100000) (y:=b) (Y:=100000) (by omega) (by omega) (by omega) (by omega)
 have m2:=Int.mul_pos pd p1
 have t2:(d' * b).tdiv d=b':=by
  have:d' * b=d * b':=by rw [hb',hd'];ac_rfl
  rw [this];exact Int.mul_tdiv_cancel_left _ (by omega)
 have t3:(d' * b).tdiv b=d':=by rw [Int.mul_comm];exact Int.mul_tdiv_cancel_left _ (by omega)
 have m3:=zjg (x:=c) (X:=200000000000) (y:=b') (Y:=100000) (by omega) (by omega) (by omega) (by omega)
 have m4:=zjg (x:=a) (X:=2000000) (y:=d') (Y:=100000) (by omega) (by omega) (by omega) (by omega)
 have m5:=zK8 (x:=a * d') (X:=2000000 * 100000) (y:=z) (Y:=200000) (by omega) (by omega) (by omega) (by omega)
 rw [t1,zaU (x:=d') (by omega) (by omega),zaU (x:=d' * b) (by omega) (by omega),t2,t3,zaU (x:=b') (by omega) (by omega),zaU (x:=d') (by omega) (by omega),zaU (x:=c * b') (by omega) (by omega),zaU (x:=a * d') (by omega) (by omega),zaU (x:=a * d' * z) (by omega) (by omega),zaU (x:=c * b'+a * d' * z) (by omega) (by omega)]
 obtain ⟨x1,x2⟩:=zlg (num:=c * b'+a * d' * z) (den:=d' * b) (by omega) (by omega) (by omega) (by omega)
 rw [x1,x2,decide_eq_true (show g ≠ 0 by omega),decide_eq_true (show d ≠ 0 by omega),decide_eq_true (show b ≠ 0 by omega)]
 refine ⟨by simp,(zpk m2 hd).2 ?_⟩
 unfold plc
 have u1:c * b' * s.den=s.start * (d' * b):=by
  rw [← e3,← e4,hb',hd'];ac_rfl
 have u2:a * d' * z * s.den=s.slope * z * (d' * b):=by
  rw [← e1,← e2];ac_rfl
 rw [Int.add_mul,Int.add_mul,u1,u2]
theorem zdH {a b c:Frac} (ha:0 < a.Den) (hb:0 < b.Den) (hc:0 < c.Den) (h1 : ¬ ltF b a) (h2 : ¬ ltF c b) : ¬ ltF c a:=by
 unfold ltF at *
 intro h3
 -- a ≤ b, b ≤ c, c < a
 have x1:a.Num * b.Den≤b.Num * a.Den:=by omega
 have x2:b.Num * c.Den≤c.Num * b.Den:=by omega
 have y1:=Int.mul_le_mul_of_nonneg_right x1 (Int.le_of_lt hc)
 have y2:=Int.mul_le_mul_of_nonneg_right x2 (Int.le_of_lt ha)
 have y3:=Int.mul_lt_mul_of_pos_right h3 hb
 have z1:b.Num * a.Den * c.Den=b.Num * c.Den * a.Den:=by ac_rfl
 have z2:c.Num * b.Den * a.Den=c.Num * a.Den * b.Den:=by ac_rfl
 have z3:a.Num * b.Den * c.Den=a.Num * c.Den * b.Den:=by ac_rfl
 omega
def ze2 (v:Sl Frac) (f:Frac):Prop:=(∃ i,i < v.len∧v.get i=f)∧∀ j,j < v.len→¬ ltF (v.get j) f
def ze3 (v:Sl Frac) (f:Frac):Prop:=(∃ i,i < v.len∧v.get i=f)∧∀ j,j < v.len→¬ ltF f (v.get j)
theorem zHS (v:Sl Frac) (h1:1≤v.len) (h2:v.len≤100000) (hv:∀ i,i < v.len→FOK (v.get i)):zH6 v=true∧ze2 v (zqf v):=by
  have key:∀ (m k i:Nat) (sl:Sl Frac) (o:Frac),sl.len=v.len - 1→(∀ x,sl.get x=v.get (x+1))→i+m=v.len - 1→m < k→(∃ a,a < v.len∧v.get a=o)→(∀ j,j≤i→¬ ltF (v.get j) o) →
      zfQ v k sl (i:Int) o.Num o.Den=true∧ze2 v (zfP v k sl (i:Int) o.Num o.Den):=by
    intro m
    induction m with
    | zero =>
      intro k i sl o hs hg hi hk ho hl
      obtain ⟨k,rfl⟩:∃ k',k=k'+1:=⟨k - 1,by omega⟩
      show zfO v (zfQ v k) _ _ _ _=_∧ze2 v (zfN v (zfP v k) _ _ _ _)
      unfold zfO zfN
      rw [decide_eq_false (show ¬ (i:Int) < (((v.len:Int) - (1:Int)).toNat:Int) by omega),cond_false,cond_false]
      exact ⟨rfl,ho,fun j hj=>hl j (by omega)⟩
    | succ m ih =>
      intro k i sl o hs hg hi hk ho hl
      obtain ⟨k,rfl⟩:∃ k',k=k'+1:=⟨k - 1,by omega⟩
      have ih:=fun o ho hl=>ih k (i+1) sl o hs hg (by omega) (by omega) ho hl
      show zfO v (zfQ v k) _ _ _ _=_∧ze2 v (zfN v (zfP v k) _ _ _ _)
      generalize zfQ v k=P at ih
      generalize zfP v k=S at ih
      unfold zfO zfN zmU zmT
      have ho':=ho
      obtain ⟨a,ha,ea⟩:=ho'
      have fo:FOK o:=ea ▸ hv a ha
      have fx:=hv (i+1) (by omega)
      rw [decide_eq_true (show (i:Int) < (((v.len:Int) - (1:Int)).toNat:Int) by omega),decide_eq_true (show 0≤(i:Int)∧(i:Int) < (sl.len:Int) by omega),cond_true,cond_true,Bool.true_and,Int.toNat_natCast,hg,zbD (n:=v.len) (by omega) (by omega)]
      by_cases hlt:ltF (v.get (i+1)) o
      · rw [show zBy (v.get (i + 1)) (⟨o.Num, o.Den⟩ : Frac) = true from (zAa fx fo).2 hlt, cond_true, cond_true]
        refine ih (v.get (i+1)) ⟨i+1,by omega,rfl⟩ fun j hj=>?_
        by_cases hji:j=i+1
        · rw [hji];unfold ltF;omega
        · have g1 := hl j (by omega)
          have fj:=hv j (by omega)
          refine zdH (b:=o) (by have:=fx.2;omega) (by have:=fo.2;omega) (by have:=fj.2;omega) ?_ g1
          unfold ltF at hlt ⊢;omega
      · have e:zBy (v.get (i+1)) (⟨o.Num,o.Den⟩:Frac)=false:=by
          cases h:zBy (v.get (i+1)) (⟨o.Num,o.Den⟩:Frac)
          · rfl
          · exact absurd ((zAa fx fo).1 h) hlt
        rw [e,cond_false,cond_false]
        refine ih o ho fun j hj=>?_
        by_cases hji:j=i+1
        · rw [hji];exact hlt
        · exact hl j (by omega)
  have hk := key (v.len - 1) Fuel 0 (⟨((v.len : Int) - (1:Int)).toNat, (fun i => v.get (i + ((1:Int).toNat)))⟩ : Sl Frac) (v.get 0) (by show ((v.len : Int) - (1:Int)).toNat = _; omega) (fun _ => rfl) (by omega) (by simp only [Fuel]; omega) ⟨0, by omega, rfl⟩
    (fun j hj => by have : j = 0 := by omega
                    rw [this];unfold ltF;omega)
  refine ⟨?_,hk.2⟩
  unfold zH6
  rw [decide_eq_true (show 0≤(0:Int)∧(0:Int) < (v.len:Int) by omega),decide_eq_true (show 0≤(1:Int)∧(1:Int)≤(v.len:Int)∧(v.len:Int)≤(v.len:Int) by omega),Bool.true_and,Bool.true_and]
  exact hk.1
end Go.Proofs
namespace Go.Proofs
open Go Go.Pm
set_option maxRecDepth 100000
theorem zCq (v:Sl Frac) (h1:1≤v.len) (h2:v.len≤100000) (hv:∀ i,i < v.len→FOK (v.get i)):zut v=true∧ze3 v (s111a v):=by
  have key:∀ (m k i:Nat) (sl:Sl Frac) (o:Frac),sl.len=v.len - 1→(∀ x,sl.get x=v.get (x+1))→i+m=v.len - 1→m < k→(∃ a,a < v.len∧v.get a=o)→(∀ j,j≤i→¬ ltF o (v.get j)) →
      zeo v k sl (i:Int) o.Num o.Den=true∧ze3 v (zen v k sl (i:Int) o.Num o.Den):=by
    intro m
    induction m with
    | zero =>
      intro k i sl o hs hg hi hk ho hl
      obtain ⟨k,rfl⟩:∃ k',k=k'+1:=⟨k - 1,by omega⟩
      show zem v (zeo v k) _ _ _ _=_∧ze3 v (zel v (zen v k) _ _ _ _)
      unfold zem zel
      rw [decide_eq_false (show ¬ (i:Int) < (((v.len:Int) - (1:Int)).toNat:Int) by omega),cond_false,cond_false]
      exact ⟨rfl,ho,fun j hj=>hl j (by omega)⟩
    | succ m ih =>
      intro k i sl o hs hg hi hk ho hl
      obtain ⟨k,rfl⟩:∃ k',k=k'+1:=⟨k - 1,by omega⟩
      have ih:=fun o ho hl=>ih k (i+1) sl o hs hg (by omega) (by omega) ho hl
      show zem v (zeo v k) _ _ _ _=_∧ze3 v (zel v (zen v k) _ _ _ _)
      generalize zeo v k=P at ih
      generalize zen v k=S at ih
      unfold zem zel zj7 zj6
      have ho':=ho
      obtain ⟨a,ha,ea⟩:=ho'
      have fo:FOK o:=ea ▸ hv a ha
      have fx:=hv (i+1) (by omega)
      rw [decide_eq_true (show (i:Int) < (((v.len:Int) - (1:Int)).toNat:Int) by omega),decide_eq_true (show 0≤(i:Int)∧(i:Int) < (sl.len:Int) by omega),cond_true,cond_true,Bool.true_and,Int.toNat_natCast,hg,zbD (n:=v.len) (by omega) (by omega)]
      by_cases hlt:ltF o (v.get (i+1))
      · rw [show zBz (v.get (i + 1)) (⟨o.Num, o.Den⟩ : Frac) = true from (zAb fx fo).2 hlt, cond_true, cond_true]
        refine ih (v.get (i+1)) ⟨i+1,by omega,rfl⟩ fun j hj=>?_
        by_cases hji:j=i+1
        · rw [hji];unfold ltF;omega
        · have g1 := hl j (by omega)
          have fj:=hv j (by omega)
          refine zdH (b:=o) (by have:=fj.2;omega) (by have:=fo.2;omega) (by have:=fx.2;omega) g1 ?_
          unfold ltF at hlt ⊢;omega
      · have e:zBz (v.get (i+1)) (⟨o.Num,o.Den⟩:Frac)=false:=by
          cases h:zBz (v.get (i+1)) (⟨o.Num,o.Den⟩:Frac)
          · rfl
          · exact absurd ((zAb fx fo).1 h) hlt
        rw [e,cond_false,cond_false]
        refine ih o ho fun j hj=>?_
        by_cases hji:j=i+1
        · rw [hji];exact hlt
        · exact hl j (by omega)
  have hk := key (v.len - 1) Fuel 0 (⟨((v.len : Int) - (1:Int)).toNat, (fun i => v.get (i + ((1:Int).toNat)))⟩ : Sl Frac) (v.get 0) (by show ((v.len : Int) - (1:Int)).toNat = _; omega) (fun _ => rfl) (by omega) (by simp only [Fuel]; omega) ⟨0, by omega, rfl⟩
    (fun j hj => by have : j = 0 := by omega
                    rw [this];unfold ltF;omega)
  refine ⟨?_,hk.2⟩
  unfold zut
  rw [decide_eq_true (show 0≤(0:Int)∧(0:Int) < (v.len:Int) by omega),decide_eq_true (show 0≤(1:Int)∧(1:Int)≤(v.len:Int)∧(v.len:Int)≤(v.len:Int) by omega),Bool.true_and,Bool.true_and]
  exact hk.1
theorem zAc {w : Nat → Frac} {n : Nat} (h1 : 1 ≤ n) (hn : n ≤ 100000) (hw : ∀ j, j < n → FOK (w j)) {lpS : Nat → Int → Frac → Frac → Frac × Frac} {lpP : Nat → Int → Frac → Frac → Bool}
    (hS:∀ (k i:Nat) (a b:Frac),i < n→lpS (k+1) (i:Int) a b=lpS k (w64 ((i:Int)+(1:Int))) (cond (s29 (w i) a) (w i) a) (cond (s29 b (w i)) (w i) b))
    (hE:∀ (k:Nat) (a b:Frac),lpS (k+1) (n:Int) a b=(a,b))
    (hP:∀ (k i:Nat) (a b:Frac),i < n→lpP (k+1) (i:Int) a b=lpP k (w64 ((i:Int)+(1:Int))) (cond (s29 (w i) a) (w i) a) (cond (s29 b (w i)) (w i) b))
    (hF:∀ (k:Nat) (a b:Frac),lpP (k+1) (n:Int) a b=true) :
    lpP Fuel (1:Int) (w 0) (w 0)=true∧ze2 ⟨n,w⟩ (lpS Fuel (1:Int) (w 0) (w 0)).1∧ze3 ⟨n,w⟩ (lpS Fuel (1:Int) (w 0) (w 0)).2:=by
  have key:∀ (m k i:Nat) (a b:Frac),i+m=n→m < k→(∃ j,j < n∧w j=a)→(∃ j,j < n∧w j=b)→(∀ j,j < i→¬ ltF (w j) a)→(∀ j,j < i→¬ ltF b (w j)) →
      lpP k (i:Int) a b=true∧ze2 ⟨n,w⟩ (lpS k (i:Int) a b).1∧ze3 ⟨n,w⟩ (lpS k (i:Int) a b).2:=by
    intro m
    induction m with
    | zero =>
      intro k i a b hi hk ha hb hl hg
      obtain ⟨k,rfl⟩:∃ k',k=k'+1:=⟨k - 1,by omega⟩
      obtain rfl:i=n:=by omega
      rw [hE,hF]
      exact ⟨rfl,⟨ha,hl⟩,hb,hg⟩
    | succ m ih =>
      intro k i a b hi hk ha hb hl hg
      obtain ⟨k,rfl⟩:∃ k',k=k'+1:=⟨k - 1,by omega⟩
      have hin:i < n:=by omega
      rw [hS k i a b hin,hP k i a b hin,zbD (n:=n) hin (by omega)]
      have fi:=hw i hin
      have fa:FOK a:=by obtain ⟨j,hj,e⟩:=ha;exact e ▸ hw j hj
      have fb:FOK b:=by obtain ⟨j,hj,e⟩:=hb;exact e ▸ hw j hj
      have pi:=fi.2;have pa:=fa.2;have pb:=fb.2
      refine ih k (i+1) _ _ (by omega) (by omega) ?_ ?_ ?_ ?_
      · cases s29 (w i) a
        · exact ha
        · exact ⟨i,hin,rfl⟩
      · cases s29 b (w i)
        · exact hb
        · exact ⟨i,hin,rfl⟩
      · intro j hj
        cases e:s29 (w i) a
        · by_cases hji : j = i
          · rw [hji];intro h;rw [(zll fi fa).2 h] at e;cases e
          · exact hl j (by omega)
        · have hlt := (zll fi fa).1 e
          show ¬ ltF (w j) (w i)
          by_cases hji:j=i
          · rw [hji];unfold ltF;omega
          · have fj := (hw j (by omega)).2
            refine zdH (b:=a) (by omega) (by omega) (by omega) ?_ (hl j (by omega))
            unfold ltF at hlt ⊢;omega
      · intro j hj
        cases e:s29 b (w i)
        · by_cases hji : j = i
          · rw [hji];intro h;rw [(zll fb fi).2 h] at e;cases e
          · exact hg j (by omega)
        · have hlt := (zll fb fi).1 e
          show ¬ ltF (w i) (w j)
          by_cases hji:j=i
          · rw [hji];unfold ltF;omega
          · have fj := (hw j (by omega)).2
            refine zdH (b:=b) (by omega) (by omega) (by omega) (hg j (by omega)) ?_
            unfold ltF at hlt ⊢;omega
  exact key (n - 1) Fuel 1 (w 0) (w 0) (by omega) (by simp only [Fuel]; omega) ⟨0, by omega, rfl⟩ ⟨0, by omega, rfl⟩
    (fun j hj => by have : j = 0 := by omega
                    rw [this]; unfold ltF; omega) (fun j hj => by have : j = 0 := by omega
                                                                  rw [this];unfold ltF;omega)
abbrev rd_ (f:Frac):Frac:=red f.Num f.Den
theorem zuF {f:Frac} (h:0 < f.Den):rd_ (rd_ f)=rd_ f:=by
 have p:=zcG (num:=f.Num) h
 refine (zpk p h).2 ?_
 have e1:=zdZ (num:=f.Num) h
 have e2:=zdn (num:=f.Num) h
 show (red f.Num f.Den).Num * f.Den=f.Num * (red f.Num f.Den).Den
 generalize red f.Num f.Den=x at *
 generalize (Int.gcd f.Num f.Den:Int)=G at *
 rw [← e1,← e2];ac_rfl
theorem zln {a b:Frac} (ha:0 < a.Den) (hb:0 < b.Den):ltF (rd_ a) b↔ltF a b:=by
 have p:=zcG (num:=a.Num) ha
 have e:red (rd_ a).Num (rd_ a).Den=red a.Num a.Den:=zuF ha
 rw [← zfE (a:=rd_ a) (b:=b) p hb,e,zfE ha hb]
theorem zlo {a b:Frac} (ha:0 < a.Den) (hb:0 < b.Den):ltF a (rd_ b)↔ltF a b:=by
 have p:=zcG (num:=b.Num) hb
 have e:red (rd_ b).Num (rd_ b).Den=red b.Num b.Den:=zuF hb
 rw [← zfE (a:=a) (b:=rd_ b) ha p,e,zfE ha hb]
def Cor (g:Sl Gate) (s:straight):Prop:=s∈cst g∧zhA g s
def Bd (g:Sl Gate) (F:straight→Frac) (lo hi:Frac):Prop :=
 ((∃ s,Cor g s∧rd_ (F s)=lo)∧∀ s,Cor g s→¬ ltF (F s) lo)∧(∃ s,Cor g s∧rd_ (F s)=hi)∧∀ s,Cor g s→¬ ltF hi (F s)
theorem zAd {g:Sl Gate} {F:straight→Frac} (hF:∀ s,Cor g s→FOK (F s)) {a b c d:Frac} (h1:Bd g F a b) (h2:Bd g F c d):a=c∧b=d:=by
 obtain ⟨⟨⟨s,hs,e1⟩,l1⟩,⟨t,ht,e2⟩,g1⟩:=h1
 obtain ⟨⟨⟨u,hu,e3⟩,l2⟩,⟨v,hv,e4⟩,g2⟩:=h2
 have ps:=(hF s hs).2;have pt:=(hF t ht).2;have pu:=(hF u hu).2;have pv:=(hF v hv).2
 refine ⟨?_,?_⟩
 ·rw [← e1, ← e3]
  refine zpo (by omega) (by omega) ?_ ?_
  ·have:=l2 s hs;rw [← e3,zlo (by omega) (by omega)] at this;exact this
  ·have:=l1 u hu;rw [← e1,zlo (by omega) (by omega)] at this;exact this
 ·rw [← e2, ← e4]
  refine zpo (by omega) (by omega) ?_ ?_
  ·have:=g1 v hv;rw [← e2,zln (by omega) (by omega)] at this;exact this
  ·have:=g2 t ht;rw [← e4,zln (by omega) (by omega)] at this;exact this
theorem zK9 {g : Sl Gate} {F : straight → Frac} (hF : ∀ s, Cor g s → FOK (F s)) {v : Sl Frac} {lo hi : Frac} (h1 : ∀ i, i < v.len → ∃ s, Cor g s ∧ rd_ (F s) = rd_ (v.get i) ∧ 0 < (v.get i).Den)
    (h2:∀ s,Cor g s→∃ i,i < v.len∧rd_ (F s)=rd_ (v.get i)) (hl:ze2 v lo) (hg:ze3 v hi):Bd g F (rd_ lo) (rd_ hi):=by
  obtain ⟨⟨i,hi1,ei⟩,l⟩:=hl
  obtain ⟨⟨j,hj1,ej⟩,r⟩:=hg
  obtain ⟨si,ci,ri,pi⟩:=h1 i hi1
  obtain ⟨sj,cj,rj,pj⟩:=h1 j hj1
  refine ⟨⟨⟨si,ci,by rw [ri,ei]⟩,fun s hs=>?_⟩,⟨sj,cj,by rw [rj,ej]⟩,fun s hs=>?_⟩
  · obtain ⟨k, hk, ek⟩ := h2 s hs
    have ps:=(hF s hs).2
    obtain ⟨_,_,_,pk⟩:=h1 k hk
    rw [ei] at pi
    rw [zlo (by omega) pi,← zln (by omega) pi,ek,zln pk pi]
    exact l k hk
  · obtain ⟨k, hk, ek⟩ := h2 s hs
    have ps:=(hF s hs).2
    obtain ⟨_,_,_,pk⟩:=h1 k hk
    rw [ej] at pj
    rw [zln pj (by omega),← zlo pj (by omega),ek,zlo pj pk]
    exact r k hk
end Go.Proofs
namespace Go.Proofs
open Go Go.Pm
set_option maxRecDepth 100000
abbrev plF (z:Int) (s:straight):Frac:=⟨plc s z,s.den⟩
abbrev slF (s:straight):Frac:=⟨s.slope,s.den⟩
theorem zAe {s:straight} (S:SOK s) {z:Int} (hz : -200000≤z∧z≤200000):(-400000000000≤s.slope * z∧s.slope * z≤400000000000)∧-600000000000≤plc s z∧plc s z≤600000000000:=by
 have:=zK8 S.1.1 S.1.2 hz.1 hz.2
 have:=S.2.1
 unfold plc
 omega
theorem zlp {s:straight} (S:SOK s) {z:Int} (hz : -200000≤z∧z≤200000):FOK (plF z s) :=
 ⟨⟨by show -1000000000000≤plc s z;have:=zAe S hz;omega,by show plc s z≤1000000000000;have:=zAe S hz;omega⟩,S.2.2⟩
theorem zd9 {s:straight} (S:SOK s):FOK (slF s):=⟨⟨by show -1000000000000≤s.slope;have:=S.1;omega,by show s.slope≤1000000000000;have:=S.1;omega⟩,S.2.2⟩
theorem zHT {s:straight} (S:SOK s) {z:Int} (hz : -200000≤z∧z≤200000):zwi z s=plF z s:=by
 obtain ⟨a,b⟩:=zAe S hz
 unfold plc at b
 unfold zwi zJg plF plc
 rw [zaU (x:=s.slope * z) (by omega) (by omega),zaU (x:=s.start+s.slope * z) (by omega) (by omega)]
theorem zbM {g:Sl Gate} (G:zaC g) {s:straight} (h:Cor g s):SOK s:=zlh G h.1
abbrev lst {α:Type} [Inhabited α] (l:List α):Sl α:=l.foldl apL zgN
theorem zfF {α:Type} [Inhabited α] (l:List α):(lst l).len=l.length:=by
 show (l.foldl apL zgN).len=_
 rw [zcv];simp [zgN]
theorem zgO {α:Type} [Inhabited α] {l:List α} {i:Nat} {x:α} (h:l[i]? = some x):(lst l).get i=x:=by
 have:=zhB l zgN i x h
 rw [show (zgN:Sl α).len+i=i from Nat.zero_add i] at this;exact this
structure CorL (g : Sl Gate) (C : List straight) : Prop where
  len:C.length≤100000
  mem:∀ s∈C,Cor g s
  all:∀ s,Cor g s→∃ x∈C,toL x=toL s
def ne (C:List straight):Prop:=1≤C.length
theorem zAf {g:Sl Gate} {C:List straight} (h:CorL g C):(1≤C.length)↔∃ s,Cor g s:=by
 constructor
 ·intro h1
  match C,h1 with
  | x :: C,_=>exact ⟨x,h.mem x List.mem_cons_self⟩
 ·intro ⟨s, hs⟩
  obtain ⟨x,hx,_⟩:=h.all s hs
  exact List.length_pos_of_mem hx
def frS (F:straight→Frac) (C:List straight):Sl Frac:=lst (C.map F)
theorem zLa {g : Sl Gate} (G : zaC g) {C : List straight} (H : CorL g C) {F : straight → Frac} (hF : ∀ s, Cor g s → FOK (F s)) (hc : ∀ x y, Cor g x → Cor g y → toL x = toL y → rd_ (F x) = rd_ (F y)) {lo hi : Frac}
    (hl:ze2 (frS F C) lo) (hg:ze3 (frS F C) hi):Bd g F (rd_ lo) (rd_ hi):=by
  have get:∀ (i:Nat) (s:straight),C[i]? = some s→(frS F C).get i=F s:=fun i s h=>zgO (by rw [List.getElem?_map,h];rfl)
  refine zK9 hF (fun i hi=>?_) (fun s hs=>?_) hl hg
  · have hi : i < C.length := by have := zfF (C.map F); rw [List.length_map] at this; exact this ▸ hi
    have e:=List.getElem?_eq_getElem hi
    have m:=H.mem _ (List.getElem_mem hi)
    rw [get i _ e]
    exact ⟨_,m,rfl,by have:=(hF _ m).2;omega⟩
  · obtain ⟨x, hx, ex⟩ := H.all s hs
    obtain ⟨i,hi,rfl⟩:=List.getElem_of_mem hx
    refine ⟨i,?_,?_⟩
    · have:=zfF (C.map F);rw [List.length_map] at this;exact this.symm ▸ hi
    · rw [get i _ (List.getElem?_eq_getElem hi)]
      exact hc _ _ hs (H.mem _ hx) ex.symm
theorem zHU {g:Sl Gate} (G:zaC g) {z:Int} (hz : -200000≤z∧z≤200000) (x y:straight) (hx:Cor g x) (hy:Cor g y) (h:toL x=toL y):rd_ (plF z x)=rd_ (plF z y):=by
 have a:=(zlm (zbM G hx) hz).2
 have b:=(zlm (zbM G hy) hz).2
 show red (plc x z) x.den=red (plc y z) y.den
 rw [← a,← b,h]
theorem zHV {x y:straight} (h:toL x=toL y):rd_ (slF x)=rd_ (slF y):=congrArg Line.Slope h
theorem zob (F:straight→Frac) (C:List straight):(frS F C).len=C.length:=by
 have:=zfF (C.map F);rw [List.length_map] at this;exact this
theorem zHW {g:Sl Gate} {C:List straight} (H:CorL g C) {F:straight→Frac} (hF:∀ s,Cor g s→FOK (F s)):∀ i,i < (frS F C).len→FOK ((frS F C).get i):=by
 intro i hi
 have hi:i < C.length:=zob F C ▸ hi
 have:(frS F C).get i=F C[i]:=zgO (by rw [List.getElem?_map,List.getElem?_eq_getElem hi];rfl)
 rw [this]
 exact hF _ (H.mem _ (List.getElem_mem hi))
theorem zAg {g : Sl Gate} (G : zaC g) {C : List straight} (H : CorL g C) (h1 : 1 ≤ C.length) {F : straight → Frac} (hF : ∀ s, Cor g s → FOK (F s)) (hc : ∀ x y, Cor g x → Cor g y → toL x = toL y → rd_ (F x) = rd_ (F y)) :
  zmV (frS F C)=true∧Bd g F (zeK (frS F C)).1 (zeK (frS F C)).2:=by
 have hn:=zob F C
 have hl:=H.len
 have fv:=zHW H hF
 obtain ⟨a1,a2⟩:=zHS (frS F C) (by omega) (by omega) fv
 obtain ⟨b1,b2⟩:=zCq (frS F C) (by omega) (by omega) fv
 have B:=zLa G H hF hc a2 b2
 have fa:FOK (zqf (frS F C)):=by obtain ⟨⟨i,hi,e⟩,_⟩:=a2;exact e ▸ fv i hi
 have fb:FOK (s111a (frS F C)):=by obtain ⟨⟨i,hi,e⟩,_⟩:=b2;exact e ▸ fv i hi
 obtain ⟨fa1,fa2⟩:=fa
 obtain ⟨fb1,fb2⟩:=fb
 obtain ⟨c1,c2⟩:=ziK (num:=(zqf (frS F C)).Num) (den:=(zqf (frS F C)).Den) (by omega) (by omega) (by omega) (by omega)
 obtain ⟨d1,d2⟩:=ziK (num:=(s111a (frS F C)).Num) (den:=(s111a (frS F C)).Den) (by omega) (by omega) (by omega) (by omega)
 unfold zmV zeK zql zqk zqj zqi
 rw [a1,b1,c1,d1]
 refine ⟨by simp,?_⟩
 show Bd g F (s89 _ _) (s89 _ _)
 rw [c2,d2]
 exact B
theorem zAh {F:straight→Frac} {C:List straight} {i:Nat} (hi:i < C.length):frS F (C.take (i+1))=apL (frS F (C.take i)) (F ((lst C).get i)):=by
 have e:=zgO (List.getElem?_eq_getElem hi)
 unfold frS
 rw [List.take_succ_eq_append_getElem hi,List.map_append]
 show (List.map F (C.take i) ++ List.map F [C[i]]).foldl apL zgN=_
 rw [List.foldl_append]
 show apL (lst (List.map F (List.take i C))) (F C[i])=_
 rw [e]
theorem zLb {g : Sl Gate} (G : zaC g) {C : List straight} (H : CorL g C) (h1 : 1 ≤ C.length) {z : Int} (hz : -200000 ≤ z ∧ z ≤ 200000) :
  p82 z ⟨⟨g⟩,lst C⟩=true∧Bd g (plF z) (s82 z ⟨⟨g⟩,lst C⟩).1 (s82 z ⟨⟨g⟩,lst C⟩).2:=by
 have hn:=zfF C
 have hl:=H.len
 obtain ⟨x1,x2⟩:=zAg G H h1 (F:=plF z) (fun s hs=>zlp (zbM G hs) hz) (zHU G hz)
 have key:∀ (m k i:Nat),i+m=C.length→m < k→zhW z ⟨⟨g⟩,lst C⟩ k (i:Int) (frS (plF z) (C.take i))=true∧zhV z ⟨⟨g⟩,lst C⟩ k (i:Int) (frS (plF z) (C.take i))=zeK (frS (plF z) C):=by
  intro m
  induction m with
  | zero =>
   intro k i hi hk
   obtain ⟨k,rfl⟩:∃ k',k=k'+1:=⟨k - 1,by omega⟩
   show zhU z ⟨⟨g⟩,lst C⟩ (zhW z ⟨⟨g⟩,lst C⟩ k) (i:Int) _=_∧zhT z ⟨⟨g⟩,lst C⟩ (zhV z ⟨⟨g⟩,lst C⟩ k) (i:Int) _=_
   unfold zhU zhT
   rw [decide_eq_false (show ¬ (i:Int) < (((⟨⟨g⟩,lst C⟩:set).corners.len:Nat):Int) by show ¬ (i:Int) < ((lst C).len:Int);omega),cond_false,cond_false,List.take_of_length_le (by omega)]
   exact ⟨x1,rfl⟩
  | succ m ih =>
   intro k i hi hk
   obtain ⟨k,rfl⟩:∃ k',k=k'+1:=⟨k - 1,by omega⟩
   have ih:=ih k (i+1) (by omega) (by omega)
   have hiC:i < C.length:=by omega
   show zhU z ⟨⟨g⟩,lst C⟩ (zhW z ⟨⟨g⟩,lst C⟩ k) (i:Int) _=_∧zhT z ⟨⟨g⟩,lst C⟩ (zhV z ⟨⟨g⟩,lst C⟩ k) (i:Int) _=_
   generalize zhW z ⟨⟨g⟩,lst C⟩ k=P at ih
   generalize zhV z ⟨⟨g⟩,lst C⟩ k=S at ih
   have so:zwi z ((lst C).get i)=plF z ((lst C).get i):=by
    rw [zgO (List.getElem?_eq_getElem hiC)]
    exact zHT (zbM G (H.mem _ (List.getElem_mem hiC))) hz
   have hv:=zob (plF z) (C.take i)
   rw [List.length_take] at hv
   unfold zhU zhT
   rw [decide_eq_true (show (i:Int) < (((⟨⟨g⟩,lst C⟩:set).corners.len:Nat):Int) by show (i:Int) < ((lst C).len:Int);omega),cond_true,cond_true,
    decide_eq_true (show 0≤(i:Int)∧(i:Int) < (((⟨⟨g⟩,lst C⟩:set).corners.len:Nat):Int) by show 0≤(i:Int)∧(i:Int) < ((lst C).len:Int);omega),Bool.true_and,
    decide_eq_true (show ((frS (plF z) (C.take i)).len+1) * 16≤140737488355328∧(frS (plF z) (C.take i)).len+1≤9223372036854775807 by omega),Bool.true_and,zbD (n:=C.length) hiC (by omega),Int.toNat_natCast]
   have e:=zAh (F:=plF z) hiC
   rw [e] at ih
   show P ((i+1:Nat):Int) (apL (frS (plF z) (C.take i)) (zwi z ((lst C).get i)))=true∧S ((i+1:Nat):Int) (apL (frS (plF z) (C.take i)) (zwi z ((lst C).get i)))=_
   rw [so]
   exact ih
 have h:=key C.length Fuel 0 (by omega) (by simp only [Fuel];omega)
 have h2:s82 z ⟨⟨g⟩,lst C⟩=zeK (frS (plF z) C):=h.2
 exact ⟨h.1,by rw [h2];exact x2⟩
theorem zHX {g : Sl Gate} (G : zaC g) {C : List straight} (H : CorL g C) (h1 : 1 ≤ C.length) :
  zH8 ⟨⟨g⟩,lst C⟩=true∧Bd g slF (zuu ⟨⟨g⟩,lst C⟩).1 (zuu ⟨⟨g⟩,lst C⟩).2:=by
 have hn:=zfF C
 have hl:=H.len
 obtain ⟨x1,x2⟩:=zAg G H h1 (F:=slF) (fun s hs=>zd9 (zbM G hs)) (fun _ _ _ _ h=>zHV h)
 have key:∀ (m k i:Nat),i+m=C.length→m < k→zfU ⟨⟨g⟩,lst C⟩ k (i:Int) (frS slF (C.take i))=true∧zfT ⟨⟨g⟩,lst C⟩ k (i:Int) (frS slF (C.take i))=zeK (frS slF C):=by
  intro m
  induction m with
  | zero =>
   intro k i hi hk
   obtain ⟨k,rfl⟩:∃ k',k=k'+1:=⟨k - 1,by omega⟩
   show zfS ⟨⟨g⟩,lst C⟩ (zfU ⟨⟨g⟩,lst C⟩ k) (i:Int) _=_∧zfR ⟨⟨g⟩,lst C⟩ (zfT ⟨⟨g⟩,lst C⟩ k) (i:Int) _=_
   unfold zfS zfR
   rw [decide_eq_false (show ¬ (i:Int) < (((⟨⟨g⟩,lst C⟩:set).corners.len:Nat):Int) by show ¬ (i:Int) < ((lst C).len:Int);omega),cond_false,cond_false,List.take_of_length_le (by omega)]
   exact ⟨x1,rfl⟩
  | succ m ih =>
   intro k i hi hk
   obtain ⟨k,rfl⟩:∃ k',k=k'+1:=⟨k - 1,by omega⟩
   have ih:=ih k (i+1) (by omega) (by omega)
   have hiC:i < C.length:=by omega
   show zfS ⟨⟨g⟩,lst C⟩ (zfU ⟨⟨g⟩,lst C⟩ k) (i:Int) _=_∧zfR ⟨⟨g⟩,lst C⟩ (zfT ⟨⟨g⟩,lst C⟩ k) (i:Int) _=_
   generalize zfU ⟨⟨g⟩,lst C⟩ k=P at ih
   generalize zfT ⟨⟨g⟩,lst C⟩ k=S at ih
   have hv:=zob slF (C.take i)
   rw [List.length_take] at hv
   unfold zfS zfR
   rw [decide_eq_true (show (i:Int) < (((⟨⟨g⟩,lst C⟩:set).corners.len:Nat):Int) by show (i:Int) < ((lst C).len:Int);omega),cond_true,cond_true,
    decide_eq_true (show 0≤(i:Int)∧(i:Int) < (((⟨⟨g⟩,lst C⟩:set).corners.len:Nat):Int) by show 0≤(i:Int)∧(i:Int) < ((lst C).len:Int);omega),Bool.true_and,
    decide_eq_true (show ((frS slF (C.take i)).len+1) * 16≤140737488355328∧(frS slF (C.take i)).len+1≤9223372036854775807 by omega),Bool.true_and,zbD (n:=C.length) hiC (by omega),Int.toNat_natCast]
   have e:=zAh (F:=slF) hiC
   rw [e] at ih
   exact ih
 have h:=key C.length Fuel 0 (by omega) (by simp only [Fuel];omega)
 have h2:zuu ⟨⟨g⟩,lst C⟩=zeK (frS slF C):=h.2
 exact ⟨h.1,by rw [h2];exact x2⟩
end Go.Proofs
namespace Go.Proofs
open Go Go.Pm
set_option maxRecDepth 100000
theorem zbs {g:Sl Gate} {l:Line} : zhC g l↔∃ s,Cor g s∧toL s=l :=
 ⟨fun ⟨s,h1,h2,h3⟩=>⟨s,⟨h1,h2⟩,h3⟩,fun ⟨s,⟨h1,h2⟩,h3⟩=>⟨s,h1,h2,h3⟩⟩
theorem zDL {g : Sl Gate} (G : zaC g) {F : straight → Frac} {w : Nat → Frac} {lo hi : Frac} (hF : ∀ s, Cor g s → FOK (F s)) (hw : ∀ i s, i < (s33 g).len → Cor g s → (s33 g).get i = toL s → w i = rd_ (F s))
    (hl:ze2 ⟨(s33 g).len,w⟩ lo) (hg:ze3 ⟨(s33 g).len,w⟩ hi):Bd g F lo hi:=by
  obtain ⟨_,_,m1,m2,_⟩:=zlk g G
  have pos:∀ s,Cor g s→0 < (F s).Den:=fun s hs=>by have:=(hF s hs).2;omega
  have hx:∀ i,i < (s33 g).len→∃ s,Cor g s∧w i=rd_ (F s):=fun i hi=>by
    obtain ⟨s,hs,e⟩:=zbs.1 (m1 i hi)
    exact ⟨s,hs,hw i s hi hs e.symm⟩
  have B:=zK9 (v:=⟨(s33 g).len,w⟩) hF (fun i hi=>by
      obtain ⟨s,hs,e⟩:=hx i hi
      refine ⟨s,hs,?_,?_⟩
      · show rd_ (F s)=rd_ (w i);rw [e,zuF (pos s hs)]
      · show 0 < (w i).Den;rw [e];exact zcG (pos s hs))
    (fun s hs=>by
      obtain ⟨i,hi,e⟩:=m2 (toL s) (zbs.2 ⟨s,hs,rfl⟩)
      refine ⟨i,hi,?_⟩
      show rd_ (F s)=rd_ (w i)
      rw [hw i s hi hs e,zuF (pos s hs)]) hl hg
  obtain ⟨⟨i,hi1,e1⟩,_⟩:=hl
  obtain ⟨⟨j,hj1,e2⟩,_⟩:=hg
  obtain ⟨s,hs,e3⟩:=hx i hi1
  obtain ⟨t,ht,e4⟩:=hx j hj1
  have f1:rd_ lo=lo:=by rw [← e1];show rd_ (w i)=w i;rw [e3,zuF (pos s hs)]
  have f2:rd_ hi=hi:=by rw [← e2];show rd_ (w j)=w j;rw [e4,zuF (pos t ht)]
  rw [f1,f2] at B
  exact B
theorem zDM {g:Sl Gate} (G:zaC g) (hc:∃ s,Cor g s) {z:Int} (hz : -200000≤z∧z≤200000):zse g z=true∧Bd g (plF z) (zsd g z).1 (zsd g z).2:=by
 obtain ⟨q,hlen,m1,m2,_⟩:=zlk g G
 have hpl:∀ i,i < (s33 g).len→p28 ((s33 g).get i) z=true:=fun i hi=>by
  obtain ⟨s,hs,e⟩:=zbs.1 (m1 i hi)
  rw [← e];exact (zlm (zbM G hs) hz).1
 have hw:∀ i s,i < (s33 g).len→Cor g s→(s33 g).get i=toL s→s28 ((s33 g).get i) z=rd_ (plF z s):=fun i s _ hs e=>by
  rw [e];exact (zlm (zbM G hs) hz).2
 have h1:1≤(s33 g).len:=by
  obtain ⟨s,hs⟩:=hc
  obtain ⟨a,ha,_⟩:=m2 _ (zbs.2 ⟨s,hs,rfl⟩);omega
 have E:=zAc (w:=fun i=>s28 ((s33 g).get i) z) (n:=(s33 g).len) h1 (by omega) (fun j hj=>by
   obtain ⟨s,hs,e⟩:=zbs.1 (m1 j hj)
   show FOK (s28 ((s33 g).get j) z)
   rw [hw j s hj hs e.symm];exact zdo (zlp (zbM G hs) hz))
  (lpS:=fun k i a b=>zla z (s33 g) k i a.Num a.Den b.Num b.Den) (lpP:=fun k i a b=>zlb z (s33 g) k i a.Num a.Den b.Num b.Den)
  (fun k i a b hi=>by
   show zk8 z (s33 g) (zla z (s33 g) k) (i:Int) a.Num a.Den b.Num b.Den=_
   generalize zla z (s33 g) k=S
   unfold zk8 zzH zzF zsb
   rw [decide_eq_true (show (i:Int) < ((s33 g).len:Int) by omega),cond_true,Int.toNat_natCast]
   show cond (s29 (s28 ((s33 g).get i) z) a) (cond (s29 b (s28 ((s33 g).get i) z)) _ _) (cond (s29 b (s28 ((s33 g).get i) z)) _ _)=_
   cases s29 (s28 ((s33 g).get i) z) a <;> cases s29 b (s28 ((s33 g).get i) z) <;> rfl)
  (fun k a b=>by
   show zk8 z (s33 g) (zla z (s33 g) k) ((s33 g).len:Int) a.Num a.Den b.Num b.Den=_
   unfold zk8
   rw [decide_eq_false (show ¬ ((s33 g).len:Int) < ((s33 g).len:Int) by omega),cond_false])
  (fun k i a b hi=>by
   show zk9 z (s33 g) (zlb z (s33 g) k) (i:Int) a.Num a.Den b.Num b.Den=_
   generalize zlb z (s33 g) k=P
   unfold zk9 zzI zzG zsc
   rw [decide_eq_true (show (i:Int) < ((s33 g).len:Int) by omega),cond_true,decide_eq_true (show 0≤(i:Int)∧(i:Int) < ((s33 g).len:Int) by omega),Int.toNat_natCast,hpl i hi,decide_eq_true (show true=true from rfl),Bool.true_and,Bool.true_and]
   show cond (s29 (s28 ((s33 g).get i) z) a) (cond (s29 b (s28 ((s33 g).get i) z)) _ _) (cond (s29 b (s28 ((s33 g).get i) z)) _ _)=_
   cases s29 (s28 ((s33 g).get i) z) a <;> cases s29 b (s28 ((s33 g).get i) z) <;> rfl)
  (fun k a b=>by
   show zk9 z (s33 g) (zlb z (s33 g) k) ((s33 g).len:Int) a.Num a.Den b.Num b.Den=_
   unfold zk9
   rw [decide_eq_false (show ¬ ((s33 g).len:Int) < ((s33 g).len:Int) by omega),cond_false])
 obtain ⟨x1,x2,x3⟩:=E
 refine ⟨?_,zDL G (F:=plF z) (fun s hs=>zlp (zbM G hs) hz) hw x2 x3⟩
 unfold zse zzK zzJ
 rw [q,hpl 0 (by omega),decide_eq_true (show true=true from rfl),decide_eq_true (show 0≤(0:Int)∧(0:Int) < ((s33 g).len:Int) by omega)]
 simp only [Bool.true_and]
 exact x1
theorem zDN {g:Sl Gate} (G:zaC g) (hc:∃ s,Cor g s):p37 g=true∧Bd g slF (s37 g).1 (s37 g).2:=by
 obtain ⟨q,hlen,m1,m2,_⟩:=zlk g G
 have hw:∀ i s,i < (s33 g).len→Cor g s→(s33 g).get i=toL s→((s33 g).get i).Slope=rd_ (slF s):=fun i s _ hs e=>by rw [e];rfl
 have h1:1≤(s33 g).len:=by
  obtain ⟨s,hs⟩:=hc
  obtain ⟨a,ha,_⟩:=m2 _ (zbs.2 ⟨s,hs,rfl⟩);omega
 have E:=zAc (w:=fun i=>((s33 g).get i).Slope) (n:=(s33 g).len) h1 (by omega) (fun j hj=>by
   obtain ⟨s,hs,e⟩:=zbs.1 (m1 j hj)
   show FOK ((s33 g).get j).Slope
   rw [hw j s hj hs e.symm];exact zdo (zd9 (zbM G hs)))
  (lpS:=fun k i a b=>zle (s33 g) k i a.Num a.Den b.Num b.Den) (lpP:=fun k i a b=>zlf (s33 g) k i a.Num a.Den b.Num b.Den)
  (fun k i a b hi=>by
   show zlc (s33 g) (zle (s33 g) k) (i:Int) a.Num a.Den b.Num b.Den=_
   generalize zle (s33 g) k=S
   unfold zlc zzT zsi zzR
   rw [decide_eq_true (show (i:Int) < ((s33 g).len:Int) by omega),cond_true,Int.toNat_natCast]
   show cond (s29 ((s33 g).get i).Slope a) (cond (s29 b ((s33 g).get i).Slope) _ _) (cond (s29 b ((s33 g).get i).Slope) _ _)=_
   cases s29 ((s33 g).get i).Slope a <;> cases s29 b ((s33 g).get i).Slope <;> rfl)
  (fun k a b=>by
   show zlc (s33 g) (zle (s33 g) k) ((s33 g).len:Int) a.Num a.Den b.Num b.Den=_
   unfold zlc
   rw [decide_eq_false (show ¬ ((s33 g).len:Int) < ((s33 g).len:Int) by omega),cond_false])
  (fun k i a b hi=>by
   show zld (s33 g) (zlf (s33 g) k) (i:Int) a.Num a.Den b.Num b.Den=_
   generalize zlf (s33 g) k=P
   unfold zld zzU zsj zzS
   rw [decide_eq_true (show (i:Int) < ((s33 g).len:Int) by omega),cond_true,decide_eq_true (show 0≤(i:Int)∧(i:Int) < ((s33 g).len:Int) by omega),Int.toNat_natCast]
   simp only [Bool.true_and]
   show cond (s29 ((s33 g).get i).Slope a) (cond (s29 b ((s33 g).get i).Slope) _ _) (cond (s29 b ((s33 g).get i).Slope) _ _)=_
   cases s29 ((s33 g).get i).Slope a <;> cases s29 b ((s33 g).get i).Slope <;> rfl)
  (fun k a b=>by
   show zld (s33 g) (zlf (s33 g) k) ((s33 g).len:Int) a.Num a.Den b.Num b.Den=_
   unfold zld
   rw [decide_eq_false (show ¬ ((s33 g).len:Int) < ((s33 g).len:Int) by omega),cond_false])
 obtain ⟨x1,x2,x3⟩:=E
 refine ⟨?_,zDL G (F:=slF) (fun s hs=>zd9 (zbM G hs)) hw x2 x3⟩
 unfold p37 zzV
 rw [q,decide_eq_true (show true=true from rfl),decide_eq_true (show 0≤(0:Int)∧(0:Int) < ((s33 g).len:Int) by omega)]
 simp only [Bool.true_and]
 exact x1
theorem zLc (g:Sl Gate) (G:zaC g):(-1000000≤(com g).1∧(com g).1≤1000000)∧-1000000≤(com g).2∧(com g).2≤1000000:=by
 have hl:=G.2
 refine zhy (Inv:=fun _ (s:Int×Int)=>(-1000000≤s.1∧s.1≤1000000)∧-1000000≤s.2∧s.2≤1000000) (n:=g.len) (fun i s hi h=>?_) (g.len - 1) 1 _ (by omega) ⟨zev (G.1 0 (by omega)),zf1 (G.1 0 (by omega))⟩
 have a:=zev (G.1 i hi)
 have b:=zf1 (G.1 i hi)
 unfold cmS
 refine ⟨?_,?_⟩
 ·show -1000000 ≤ (if (g.get i).Low > s.1 then (g.get i).Low else s.1) ∧ _
  split
  ·exact a
  ·exact h.1
 ·show -1000000 ≤ (if (g.get i).High < s.2 then (g.get i).High else s.2) ∧ _
  split
  ·exact b
  ·exact h.2
theorem zpp {α : Type} [DecidableEq α] : ∀ (l m : List α), l.Nodup → (∀ x ∈ l, x ∈ m) → l.length ≤ m.length
  | [],_,_,_=>Nat.zero_le _
  | x :: l,m,hn,h=>by
    have hx:=h x List.mem_cons_self
    rw [List.nodup_cons] at hn
    have:=zpp l (m.erase x) hn.2 fun y hy=>(List.mem_erase_of_ne (fun (e:y=x)=>hn.1 (by rw [← e];exact hy))).2 (h y (List.mem_cons_of_mem _ hy))
    rw [List.length_erase_of_mem hx] at this
    have:=List.length_pos_of_mem hx
    rw [List.length_cons];omega
theorem ziL (g:Sl Gate) (G:zaC g):∃ C,p65 g=true∧s65 g=⟨⟨g⟩,lst C⟩∧CorL g C∧(¬ zli g→(s21 g=true↔∃ s,Cor g s)):=by
 obtain ⟨C,c1,c2,c3,c4,c5⟩:=zn8 g G
 obtain ⟨f1,f2⟩:=zmc g G
 obtain ⟨q,hlen,m1,m2,_⟩:=zlk g G
 refine ⟨C,c1,c2,⟨?_,fun s hs=>c3 s hs,fun s hs=>c4 s hs.1 hs.2⟩,fun hf=>?_⟩
 ·-- the reference has as many
  have key:∀ (l:List straight),l.Pairwise (fun x y=>toL x ≠ toL y)→(∀ s∈l,s∈cst g)→l.length≤((cst g).map toL).length:=by
   intro l hp hs
   have hn:(l.map fun s=>ziu (toL s)).Nodup:=List.pairwise_map.2 (hp.imp fun h e=>h (zlj e))
   have:=zpp _ ((cst g).map fun s=>ziu (toL s)) hn (fun x hx=>by
    obtain ⟨s,hs1,rfl⟩:=List.mem_map.1 hx
    exact List.mem_map.2 ⟨s,hs s hs1,rfl⟩)
   rw [List.length_map,List.length_map] at this;rw [List.length_map];exact this
  have:=key C c5 (fun s hs=>(c3 s hs).1)
  have:=zsn G
  rw [List.length_map] at *
  omega
 ·have e : s22 g = false := by cases h : s22 g; rfl; exact absurd (f2.1 h) hf
  unfold s21
  rw [e,cond_false,decide_eq_true_eq]
  constructor
  ·intro h
   obtain ⟨s,hs,_⟩:=zbs.1 (m1 0 (by omega))
   exact ⟨s,hs⟩
  ·intro ⟨s, hs⟩
   obtain ⟨a,ha,_⟩:=m2 _ (zbs.2 ⟨s,hs,rfl⟩);omega
theorem zAi (g:Sl Gate) (G:zaC g):p67 ⟨g⟩=true∧p22 g=true∧s67 ⟨g⟩=s22 g :=
 ⟨(ztP g G).1,(zmc g G).1,Bool.eq_iff_iff.2 ((ztP g G).2.trans (zmc g G).2.symm)⟩
theorem zcL {g:Sl Gate} (G:zaC g) (h:s22 g=false) : ¬ zli g:=fun k=>by rw [(zmc g G).2.2 k] at h;cases h
theorem zAj (g:Sl Gate) (G:zaC g) (hs:s21 g=true) {z:Int} (hz : -200000≤z∧z≤200000):p68 (s65 g) z=true∧p36 g z=true∧s68 (s65 g) z=s36 g z:=by
 obtain ⟨C,c1,c2,H,c4⟩:=ziL g G
 obtain ⟨f1,f2,f3⟩:=zAi g G
 obtain ⟨k1,k2⟩:=zLc g G
 rw [c2]
 unfold p68 s68 p36 s36 zzN zsf
 show (decide (p67 ⟨g⟩=true) && cond (s67 ⟨g⟩) (decide (p98 ⟨g⟩=true) && (decide (p89 (s98 ⟨g⟩).Low (1:Int)=true) && (decide (p89 (s98 ⟨g⟩).High (1:Int)=true) && true))) (decide (p82 z ⟨⟨g⟩,lst C⟩=true) && true))=true∧_ ∧
  cond (s67 ⟨g⟩) (s89 (s98 ⟨g⟩).Low (1:Int),s89 (s98 ⟨g⟩).High (1:Int)) ((s82 z ⟨⟨g⟩,lst C⟩).1,(s82 z ⟨⟨g⟩,lst C⟩).2)=_
 rw [f1,f2,f3]
 cases e:s22 g
 ·have hc := (c4 (zcL G e)).1 hs
  obtain ⟨a1,a2⟩:=zLb G H ((zAf H).2 hc) hz
  obtain ⟨b1,b2⟩:=zDM G hc hz
  obtain ⟨u1,u2⟩:=zAd (fun s hs=>zlp (zbM G hs) hz) a2 b2
  rw [cond_false,cond_false,cond_false,cond_false,a1,b1,u1,u2]
  exact ⟨by simp,by simp,rfl⟩
 ·obtain ⟨a1, a2⟩ := zDJ g G
  obtain ⟨b1,b2⟩:=zDK g G
  obtain ⟨x1,x2⟩:=ziK (num:=(com g).1) (den:=1) (by omega) (by omega) (by omega) (by omega)
  obtain ⟨y1,y2⟩:=ziK (num:=(com g).2) (den:=1) (by omega) (by omega) (by omega) (by omega)
  obtain ⟨u1,u2⟩:=zlg (num:=(com g).1) (den:=1) (by omega) (by omega) (by omega) (by omega)
  obtain ⟨v1,v2⟩:=zlg (num:=(com g).2) (den:=1) (by omega) (by omega) (by omega) (by omega)
  rw [cond_true,cond_true,cond_true,cond_true,a1,a2,b1,b2]
  unfold zzM zzL
  show (decide (true=true) && (decide (true=true) && (decide (p89 (com g).1 1=true) && (decide (p89 (com g).2 1=true) && true))))=true∧(decide (true=true) && (decide (true=true) && (decide (p40 (com g).1 1=true) && (decide (p40 (com g).2 1=true) && true))))=true∧(s89 (com g).1 1,s89 (com g).2 1)=(s40 (com g).1 1,s40 (com g).2 1)
  rw [x1,x2,y1,y2,u1,u2,v1,v2]
  exact ⟨by simp,by simp,rfl⟩
theorem zAk (g:Sl Gate) (G:zaC g) (hs:s21 g=true) (hf:s22 g=false):zH8 (s65 g)=true∧p37 g=true∧zuu (s65 g)=s37 g:=by
 obtain ⟨C,c1,c2,H,c4⟩:=ziL g G
 have hc:=(c4 (zcL G hf)).1 hs
 obtain ⟨a1,a2⟩:=zHX G H ((zAf H).2 hc)
 obtain ⟨b1,b2⟩:=zDN G hc
 obtain ⟨u1,u2⟩:=zAd (fun s hs=>zd9 (zbM G hs)) a2 b2
 rw [c2]
 exact ⟨a1,b1,Prod.ext u1 u2⟩
end Go.Proofs
namespace Go.Proofs
open Go Go.Pm
set_option maxRecDepth 100000
abbrev zF:Frac:=⟨0,0⟩
abbrev nS:set:=⟨⟨⟨0,fun _=>default⟩⟩,⟨0,fun _=>default⟩⟩
theorem zoc (g:Sl Gate) (hn:g.len≤9223372036854775807):s20 g=true↔zaC g:=(zzW g hn).2
theorem zAl (g:Sl Gate) (G:zaC g):(p75 g=true∧s75 g=cond (!(s21 g)) (nS,5) (cond (s22 g) (nS,6) (s65 g,0))) ∧
  (∀ z,zE9 z g=true∧zps z g=cond (!(s21 g)) (nS,5) (cond (s22 g) (cond (!((g.get 0).Z == z)) (nS,6) (s65 g,0)) (s65 g,0)))∧(zH9 g=true∧zAA g=cond (!(s21 g)) (nS,5) (s65 g,0)):=by
 have hl:=G.2
 obtain ⟨v1,v2⟩:=zma g (by omega)
 have v2:=v2.2 G
 obtain ⟨q1,q2,q3⟩:=zHR g G
 obtain ⟨C,c1,c2,_⟩:=ziL g G
 obtain ⟨f1,f2,f3⟩:=zAi g G
 have el:(s65 g).list=⟨g⟩:=by rw [c2]
 refine ⟨?_,fun z=>?_,?_⟩
 ·unfold p75 s75 zqz zqy
  rw [v1,v2,c1,q1,q3,el,f1,f3]
  simp only [decide_true,Bool.true_and,Bool.not_true,cond_false]
  cases s21 g <;> cases s22 g <;> exact ⟨rfl,rfl⟩
 ·unfold zE9 zps zm6 zm5
  rw [v1,v2,c1,q1,q3,el,f1,f3,show p76 z ⟨g⟩=true by unfold p76;rw [decide_eq_true (show 0≤(0:Int)∧(0:Int) < ((⟨g⟩:list).Gates.len:Int) by show 0≤(0:Int)∧(0:Int) < (g.len:Int);omega)];rfl]
  simp only [decide_true,Bool.true_and,Bool.not_true,cond_false]
  cases s21 g <;> cases s22 g <;> exact ⟨rfl,rfl⟩
 ·unfold zH9 zAA zm8 zm7
  rw [v1,v2,c1,q1,q3,el,f1,f3]
  simp only [decide_true,Bool.true_and,Bool.not_true,cond_false]
  cases s21 g <;> cases s22 g <;> exact ⟨rfl,rfl⟩
theorem zso (g:Sl Gate) (hn:g.len≤9223372036854775807) (h:s20 g=false):(p75 g=true∧s75 g=(nS,2))∧(∀ z,zE9 z g=true∧zps z g=(nS,2))∧(zH9 g=true∧zAA g=(nS,2)):=by
 obtain ⟨v1,_⟩:=zma g hn
 have v2:s64 g=false:=by rw [zK2 g hn];exact h
 unfold p75 s75 zE9 zps zH9 zAA
 rw [v1,v2]
 exact ⟨⟨rfl,rfl⟩,fun _=>⟨rfl,rfl⟩,rfl,rfl⟩
def atR (g:Sl Gate) (z:Int):Frac×Frac×Int:=cond (!(s20 g)) (zF,zF,2) (cond (!(s21 g)) (zF,zF,5) (cond (s22 g && !((g.get 0).Z == z)) (zF,zF,6) ((s36 g z).1,(s36 g z).2,0)))
theorem zLd (g:Sl Gate) (hn:g.len≤9223372036854775807) (z:Int):p30 g z=true∧s30 g z=cond (s74 z (-100000) 200000) (atR g z) (zF,zF,2):=by
 unfold p30 s30 zqL zqK
 cases hz:s74 z (-100000) 200000
 ·exact ⟨rfl,rfl⟩
 ·rw [ziI, decide_eq_true_eq] at hz
  simp only [Bool.not_true,cond_false,cond_true]
  unfold zqJ zqI atR
  cases hv:s20 g
  ·obtain ⟨_, b, _⟩ := zso g hn hv
   obtain ⟨b1,b2⟩:=b z
   rw [b1,b2]
   exact ⟨rfl,rfl⟩
  ·have G := (zoc g hn).1 hv
   obtain ⟨_,b,_⟩:=zAl g G
   obtain ⟨b1,b2⟩:=b z
   rw [b1,b2]
   cases hs:s21 g
   ·exact ⟨rfl,rfl⟩
   ·obtain ⟨x1, x2, x3⟩ := zAj g G hs (z := z) (by omega)
    have fin:∀ e,zne z (s65 g,e).2 (s65 g).list.Gates (s65 g).corners=cond (e != 0) true true∧znd z (s65 g,e).2 (s65 g).list.Gates (s65 g).corners=cond (e != 0) (zF,zF,e) ((s36 g z).1,(s36 g z).2,0):=fun e=>by
     unfold zne znd zqH zqG zqF
     have:(⟨⟨(s65 g).list.Gates⟩,(s65 g).corners⟩:set)=s65 g:=rfl
     rw [this,x1,x3]
     exact ⟨rfl,rfl⟩
    cases hf:s22 g
    ·exact fin 0
    ·cases he : (g.get 0).Z == z
     ·exact ⟨rfl,rfl⟩
     ·exact fin 0
def slR (g:Sl Gate):Frac×Frac×Int:=cond (!(s20 g)) (zF,zF,2) (cond (!(s21 g)) (zF,zF,5) (cond (s22 g) (zF,zF,6) ((s37 g).1,(s37 g).2,0)))
theorem zLe (g:Sl Gate) (hn:g.len≤9223372036854775807):p35 g=true∧s35 g=slR g:=by
 unfold p35 s35 slR
 cases hv:s20 g
 ·obtain ⟨⟨b1, b2⟩, _⟩ := zso g hn hv
  rw [b1,b2]
  exact ⟨rfl,rfl⟩
 ·have G := (zoc g hn).1 hv
  obtain ⟨⟨b1,b2⟩,_⟩:=zAl g G
  rw [b1,b2]
  cases hs:s21 g
  ·exact ⟨rfl,rfl⟩
  ·cases hf : s22 g
   ·obtain ⟨x1, x2, x3⟩ := zAk g G hs hf
    unfold zrJ zrI
    have:(⟨⟨(s65 g).list.Gates⟩,(s65 g).corners⟩:set)=s65 g:=rfl
    show (decide (true=true) && cond ((0:Int) != 0) true (decide (zH8 ⟨⟨(s65 g).list.Gates⟩,(s65 g).corners⟩=true) && true))=true∧cond ((0:Int) != 0) _ ((zuu ⟨⟨(s65 g).list.Gates⟩,(s65 g).corners⟩).1,(zuu ⟨⟨(s65 g).list.Gates⟩,(s65 g).corners⟩).2,(0:Int))=_
    rw [this,x1,x3]
    exact ⟨rfl,rfl⟩
   ·exact ⟨rfl,rfl⟩
end Go.Proofs
namespace Go.Proofs
open Go Go.Pm
set_option maxRecDepth 100000
theorem zAm {g:Sl Gate} {F:straight→Frac} (hF:∀ s,Cor g s→FOK (F s)) {lo hi:Frac} (h:Bd g F lo hi):FOK lo∧FOK hi:=by
 obtain ⟨⟨⟨s,hs,e1⟩,_⟩,⟨t,ht,e2⟩,_⟩:=h
 exact ⟨e1 ▸ zdo (hF s hs),e2 ▸ zdo (hF t ht)⟩
end Go.Proofs
namespace Go.Proofs
open Go Go.Pm
set_option maxRecDepth 100000
theorem zAn {z p y q:Int} (h:z ≠ y):plc (thr z p y q) z=p * (thr z p y q).den∧plc (thr z p y q) y=q * (thr z p y q).den:=by
 unfold thr plc
 split
 ·constructor
  ·show q * z - p * y + (p - q) * z = p * (z - y)
   rw [Int.sub_mul,Int.mul_sub];omega
  ·show q * z - p * y + (p - q) * y = q * (z - y)
   rw [Int.sub_mul,Int.mul_sub];omega
 ·constructor
  ·show p * y - q * z + (q - p) * z = p * (y - z)
   rw [Int.sub_mul,Int.mul_sub];omega
  ·show p * y - q * z + (q - p) * y = q * (y - z)
   rw [Int.sub_mul,Int.mul_sub];omega
def zAo (g:Sl Gate) (s:straight):Prop:=∃ i,i < g.len∧plc s (g.get i).Z=(g.get i).High * s.den
theorem zAp {g:Sl Gate} {s:straight} (h:s∈cst g):zd8 g s∨zAo g s:=by
 obtain ⟨a,b,h1,h2,hz,p,q,hp,hq,rfl⟩:=zsm h
 have e:=(zAn (p:=p) (q:=q) hz).1
 rcases hp with rfl | rfl
 ·exact .inl ⟨a,by omega,decide_eq_true e⟩
 ·exact .inr ⟨a,by omega,e⟩
theorem par {s t:straight} (h:s.slope * t.den=t.slope * s.den) (z:Int):plc s z * t.den - plc t z * s.den=s.start * t.den - t.start * s.den:=by
  unfold plc
  rw [Int.add_mul,Int.add_mul]
  have e:s.slope * z * t.den=t.slope * z * s.den:=by
    calc s.slope * z * t.den = s.slope * t.den * z := by ac_rfl
      _=t.slope * z * s.den:=by rw [h];ac_rfl
  omega
theorem ziw {g:Sl Gate} {s:straight} (h:zhA g s) {i:Nat} (hi:i < g.len):(g.get i).Low * s.den≤plc s (g.get i).Z∧plc s (g.get i).Z≤(g.get i).High * s.den:=of_decide_eq_true (h i hi)
theorem zLf {g:Sl Gate} (G:zaC g) {s t:straight} (hs:Cor g s) (ht:Cor g t) (h:s.slope * t.den=t.slope * s.den) (hl:s.start * t.den < t.start * s.den) : ¬ zd8 g t∧¬ zAo g s:=by
 have ps:0 < s.den:=by have:=(zbM G hs).2.2;omega
 have pt:0 < t.den:=by have:=(zbM G ht).2.2;omega
 constructor
 ·intro ⟨i, hi, e⟩
  have e:plc t (g.get i).Z=(g.get i).Low * t.den:=of_decide_eq_true e
  have a:=(ziw hs.2 hi).1
  have p:=par h (g.get i).Z
  have a2:=Int.mul_le_mul_of_nonneg_right a (Int.le_of_lt pt)
  have:(g.get i).Low * s.den * t.den=plc t (g.get i).Z * s.den:=by rw [e];ac_rfl
  omega
 ·intro ⟨i, hi, e⟩
  have a:=(ziw ht.2 hi).2
  have p:=par h (g.get i).Z
  have a2:=Int.mul_le_mul_of_nonneg_right a (Int.le_of_lt ps)
  have:(g.get i).High * t.den * s.den=plc s (g.get i).Z * t.den:=by rw [e];ac_rfl
  omega
theorem ztR {g:Sl Gate} (G:zaC g) {s t:straight} (hs:Cor g s) (ht:Cor g t) (hf:zd8 g s↔zd8 g t) (h1 : ¬ ltF (slF s) (slF t)) (h2 : ¬ ltF (slF t) (slF s)):toL s=toL t:=by
 have ps:0 < s.den:=by have:=(zbM G hs).2.2;omega
 have pt:0 < t.den:=by have:=(zbM G ht).2.2;omega
 have h:s.slope * t.den=t.slope * s.den:=by
  have a : ¬ s.slope * t.den < t.slope * s.den:=h1
  have b : ¬ t.slope * s.den < s.slope * t.den:=h2
  omega
 have key:∀ {s t:straight},Cor g s→Cor g t→(zd8 g s↔zd8 g t)→s.slope * t.den=t.slope * s.den→¬ s.start * t.den < t.start * s.den:=fun {s t} hs ht hf h hl=>by
  obtain ⟨a,b⟩:=zLf G hs ht h hl
  rcases zAp hs.1 with c | c
  ·exact a (hf.1 c)
  ·exact b c
 have e:s.start * t.den=t.start * s.den:=by
  have a:=key hs ht hf h
  have b:=key ht hs hf.symm h.symm
  omega
 unfold toL
 rw [(zpk ps pt).2 h,(zpk ps pt).2 e]
def ztS (g:Sl Gate) (s t:straight):Prop:=(zd8 g s∧(zd8 g t→ltF (slF s) (slF t)))∨(¬ zd8 g s∧¬ zd8 g t∧ltF (slF t) (slF s))
theorem zDO {a:Frac} : ¬ ltF a a:=by unfold ltF;omega
theorem zAq {a b:Frac} (h:ltF a b) : ¬ ltF b a:=by unfold ltF at *;omega
theorem zLg {a b c:Frac} (ha:0 < a.Den) (hb:0 < b.Den) (hc:0 < c.Den) (h1:ltF a b) (h2:ltF b c):ltF a c:=by
 unfold ltF at *
 have y1:=Int.mul_lt_mul_of_pos_right h1 hc
 have y2:=Int.mul_lt_mul_of_pos_right h2 ha
 have z1:b.Num * a.Den * c.Den=b.Num * c.Den * a.Den:=by ac_rfl
 have z2:c.Num * b.Den * a.Den=c.Num * a.Den * b.Den:=by ac_rfl
 have z3:a.Num * b.Den * c.Den=a.Num * c.Den * b.Den:=by ac_rfl
 have:a.Num * c.Den * b.Den < c.Num * a.Den * b.Den:=by omega
 exact Int.lt_of_mul_lt_mul_right this (Int.le_of_lt hb)
theorem zHY {g:Sl Gate} {s:straight} : ¬ ztS g s s:=fun h=>by
 rcases h with ⟨a,b⟩ | ⟨_,_,c⟩
 ·exact zDO (b a)
 ·exact zDO c
theorem zod {g:Sl Gate} {s t:straight} (h:ztS g s t) : ¬ ztS g t s:=fun k=>by
 rcases h with ⟨a,b⟩ | ⟨a,b,c⟩ <;> rcases k with ⟨x,y⟩ | ⟨x,y,z⟩
 ·exact zAq (b x) (y a)
 ·exact y a
 ·exact b x
 ·exact zAq c z
theorem zpq {g:Sl Gate} (G:zaC g) {s t u:straight} (hs:Cor g s) (ht:Cor g t) (hu:Cor g u) (h:ztS g s t) (k:ztS g t u):ztS g s u:=by
 have ps:0 < (slF s).Den:=by have:=(zd9 (zbM G hs)).2;omega
 have pt:0 < (slF t).Den:=by have:=(zd9 (zbM G ht)).2;omega
 have pu:0 < (slF u).Den:=by have:=(zd9 (zbM G hu)).2;omega
 rcases h with ⟨a,b⟩ | ⟨a,b,c⟩ <;> rcases k with ⟨x,y⟩ | ⟨x,y,z⟩
 ·exact .inl ⟨a,fun w=>zLg ps pt pu (b x) (y w)⟩
 ·exact .inl ⟨a,fun w=>absurd w y⟩
 ·exact absurd x b
 ·exact .inr ⟨a,y,zLg pu pt ps z c⟩
theorem zsp {g:Sl Gate} (G:zaC g) {s t:straight} (hs:Cor g s) (ht:Cor g t) (hn:toL s ≠ toL t):ztS g s t∨ztS g t s:=by
 by_cases a:zd8 g s <;> by_cases b:zd8 g t
 ·by_cases c : ltF (slF s) (slF t)
  ·exact .inl (.inl ⟨a,fun _=>c⟩)
  ·by_cases d : ltF (slF t) (slF s)
   ·exact .inr (.inl ⟨b,fun _=>d⟩)
   ·exact absurd (ztR G hs ht ⟨fun _=>b,fun _=>a⟩ c d) hn
 ·exact .inl (.inl ⟨a,fun w=>absurd w b⟩)
 ·exact .inr (.inl ⟨b,fun w=>absurd w a⟩)
 ·by_cases c : ltF (slF s) (slF t)
  ·exact .inr (.inr ⟨b,a,c⟩)
  ·by_cases d : ltF (slF t) (slF s)
   ·exact .inl (.inr ⟨a,b,d⟩)
   ·exact absurd (ztR G hs ht ⟨fun w=>absurd w a,fun w=>absurd w b⟩ c d) hn
theorem zfG {g:Sl Gate} (G:zaC g) {s t:straight} (hs:Cor g s) (ht:Cor g t):s81 (toL s) (toL t) g=true↔ztS g s t:=by
 have S:=zbM G hs
 have T:=zbM G ht
 have es:=(zn7 g G S).2
 have et:=(zn7 g G T).2
 have fs:=zd9 S
 have ft:=zd9 T
 have ls:s29 (toL s).Slope (toL t).Slope=true↔ltF (slF s) (slF t):=by
  rw [zll (a:=(toL s).Slope) (b:=(toL t).Slope) (zdo fs) (zdo ft)]
  exact zfE (a:=slF s) (b:=slF t) (by have:=fs.2;omega) (by have:=ft.2;omega)
 have lt:s29 (toL t).Slope (toL s).Slope=true↔ltF (slF t) (slF s):=by
  rw [zll (a:=(toL t).Slope) (b:=(toL s).Slope) (zdo ft) (zdo fs)]
  exact zfE (a:=slF t) (b:=slF s) (by have:=ft.2;omega) (by have:=fs.2;omega)
 unfold s81 zzz ztS
 rw [← es,← et,← ls,← lt]
 cases ztG (toL s) g <;> cases ztG (toL t) g <;> cases s29 (toL s).Slope (toL t).Slope <;> cases s29 (toL t).Slope (toL s).Slope <;> simp
theorem zLh {g:Sl Gate} (G:zaC g):Tot g:=by
 refine ⟨fun a b c ha hb hc h1 h2=>?_,fun a b ha hb hn=>?_⟩
 ·obtain ⟨s, hs, rfl⟩ := zbs.1 ha
  obtain ⟨t,ht,rfl⟩:=zbs.1 hb
  obtain ⟨u,hu,rfl⟩:=zbs.1 hc
  exact (zfG G hs hu).2 (zpq G hs ht hu ((zfG G hs ht).1 h1) ((zfG G ht hu).1 h2))
 ·obtain ⟨s, hs, rfl⟩ := zbs.1 ha
  obtain ⟨t,ht,rfl⟩:=zbs.1 hb
  exact (zsp G hs ht hn).imp (zfG G hs ht).2 (zfG G ht hs).2
theorem zAr {g:Sl Gate} (G:zaC g) (v:Sl straight) {s t:straight} (hs:Cor g s) (ht:Cor g t):zDh ⟨⟨g⟩,v⟩ s t=true∧(zDg ⟨⟨g⟩,v⟩ s t < 0↔ztS g s t):=by
 have S:=zbM G hs
 have T:=zbM G ht
 obtain ⟨a1,a2⟩:=zz7 g G v S
 obtain ⟨b1,b2⟩:=zz7 g G v T
 have fs:=zd9 S
 have ft:=zd9 T
 obtain ⟨c1,c2⟩:=ziK (num:=s.slope) (den:=s.den) (by have:=S.1;omega) (by have:=S.1;omega) (by have:=S.2.2;omega) (by have:=S.2.2;omega)
 obtain ⟨d1,d2⟩:=ziK (num:=t.slope) (den:=t.den) (by have:=T.1;omega) (by have:=T.1;omega) (by have:=T.2.2;omega) (by have:=T.2.2;omega)
 have rs:FOK (red s.slope s.den):=zdo (f:=slF s) fs
 have rt:FOK (red t.slope t.den):=zdo (f:=slF t) ft
 have q1:s69 (red s.slope s.den) (red t.slope t.den) < 0↔ltF (slF s) (slF t):=by
  unfold s69
  rw [cross rs rt,cross rt rs,zz8]
  exact zfE (a:=slF s) (b:=slF t) (by have:=fs.2;omega) (by have:=ft.2;omega)
 have q2:w64 (0 - s69 (red s.slope s.den) (red t.slope t.den)) < 0↔ltF (slF t) (slF s):=by
  have e:s69 (red s.slope s.den) (red t.slope t.den) > 0↔ltF (slF t) (slF s):=by
   unfold s69
   rw [cross rs rt,cross rt rs,zz9]
   exact zfE (a:=slF t) (b:=slF s) (by have:=ft.2;omega) (by have:=fs.2;omega)
  rw [← e]
  have:s69 (red s.slope s.den) (red t.slope t.den) = -1∨s69 (red s.slope s.den) (red t.slope t.den)=0∨s69 (red s.slope s.den) (red t.slope t.den)=1:=by
   unfold s69 zC5
   cases decide (w64 ((red s.slope s.den).Num * (red t.slope t.den).Den) < w64 ((red t.slope t.den).Num * (red s.slope s.den).Den)) <;> cases decide (w64 ((red s.slope s.den).Num * (red t.slope t.den).Den) > w64 ((red t.slope t.den).Num * (red s.slope s.den).Den)) <;> simp [zC3]
  rcases this with h | h | h <;> rw [h] <;> decide
 constructor
 ·unfold zDh;rw [a1,b1,c1,d1];rfl
 ·unfold zDg ztS
  rw [c2,d2,← a2,← b2]
  cases zuG ⟨⟨g⟩,v⟩ s <;> cases zuG ⟨⟨g⟩,v⟩ t
  ·rw [cond_false,cond_false,cond_false,q2];simp
  ·simp
  ·simp
  ·rw [cond_true,cond_true,q1];simp
end Go.Proofs
namespace Go.Proofs
open Go Go.Pm
set_option maxRecDepth 100000
theorem zHZ {α:Type} [Inhabited α] {l m:List α} (h:lst l=lst m):l=m:=by
 have hn:l.length=m.length:=by rw [← zfF l,← zfF m,h]
 refine List.ext_getElem hn fun i h1 h2=>?_
 have a:=zgO (List.getElem?_eq_getElem h1)
 have b:=zgO (List.getElem?_eq_getElem h2)
 rw [← a,← b,h]
theorem zLi (g:Sl Gate) (G:zaC g) {C:List straight} (h:s65 g=⟨⟨g⟩,lst C⟩):C.Pairwise (fun x y=>toL x ≠ toL y):=by
 obtain ⟨D,_,d2,_,_,d5⟩:=zn8 g G
 rw [h] at d2
 have:lst C=lst D:=congrArg set.corners d2
 rw [zHZ this];exact d5
theorem zLj (g:Sl Gate) (G:zaC g):p78 (s65 g)=true∧∃ D:List straight,D.length=(s78 (s65 g)).len∧D.length≤100000∧(∀ i (h:i < D.length),(s78 (s65 g)).get i=D[i])∧(∀ s∈D,Cor g s)∧(∀ s,Cor g s→∃ x∈D,toL x=toL s)∧D.Pairwise (ztS g):=by
 obtain ⟨C,c1,c2,H,_⟩:=ziL g G
 have P:=zLi g G c2
 have hn:=zfF C
 have hl:=H.len
 have get:∀ i (h:i < C.length),(lst C).get i=C[i]:=fun i h=>zgO (List.getElem?_eq_getElem h)
 have cor:∀ i (h:i < C.length),Cor g C[i]:=fun i h=>H.mem _ (List.getElem_mem h)
 let c:Nat→Nat→Int:=fun i j=>zDg ⟨⟨g⟩,lst C⟩ ((lst C).get i) ((lst C).get j)
 have hc:∀ i j (hi:i < C.length) (hj:j < C.length),c i j < 0↔ztS g C[i] C[j]:=fun i j hi hj=>by
  show zDg ⟨⟨g⟩,lst C⟩ ((lst C).get i) ((lst C).get j) < 0↔_
  rw [get i hi,get j hj];exact (zAr G (lst C) (cor i hi) (cor j hj)).2
 have ne:∀ i j (hi:i < C.length) (hj:j < C.length),i ≠ j→toL C[i] ≠ toL C[j]:=fun i j hi hj hij e=>by
  rw [List.pairwise_iff_getElem] at P
  rcases Nat.lt_or_ge i j with h | h
  ·exact P i j hi hj h e
  ·exact P j i hj hi (by omega) e.symm
 have S1:sortB (lst C).len (fun i j=>decide (zDh ⟨⟨g⟩,lst C⟩ ((lst C).get i) ((lst C).get j)=true)) c=true:=by
  simp only [sortB,List.all_eq_true,List.mem_range,Bool.and_eq_true,Bool.or_eq_true,decide_eq_true_eq,Bool.not_eq_true',Bool.and_eq_false_iff,decide_eq_false_iff_not]
  intro i hi
  have hi:i < C.length:=by omega
  refine ⟨by have : ¬ c i i < 0:=fun h=>zHY ((hc i i hi hi).1 h);omega,fun j hj=>?_⟩
  have hj:j < C.length:=by omega
  refine ⟨⟨by rw [get i hi,get j hj];exact (zAr G (lst C) (cor i hi) (cor j hj)).1,?_⟩,fun k hk=>?_⟩
  ·by_cases hij : i = j
   ·exact .inl (.inl (by rw [hij];exact Nat.beq_refl j))
   ·rcases zsp G (cor i hi) (cor j hj) (ne i j hi hj hij) with h | h
    ·have : ¬ c j i < 0 := fun k => zod h ((hc j i hj hi).1 k)
     exact .inl (.inr ⟨(hc i j hi hj).2 h,by omega⟩)
    ·have : ¬ c i j < 0 := fun k => zod h ((hc i j hi hj).1 k)
     exact .inr ⟨(hc j i hj hi).2 h,by omega⟩
  ·have hk : k < C.length := by omega
   by_cases h1:c i j < 0
   ·by_cases h2 : c j k < 0
    ·exact .inr ((hc i k hi hk).2 (zpq G (cor i hi) (cor j hj) (cor k hk) ((hc i j hi hj).1 h1) ((hc j k hj hk).1 h2)))
    ·exact .inl (.inr h2)
   ·exact .inl (.inl h1)
 have STOc:STO (lst C).len c:=(zsY (s:=fun _ _=>True) S1 (fun _ _ _=>trivial) rfl).2
 have hp:p78 (s65 g)=true:=by
  rw [c2];unfold p78
  show (decide ((lst C).len * 24≤140737488355328∧(lst C).len≤9223372036854775807) && (decide ((lst C).len≤4611686018427387∧sortB (lst C).len (fun i j=>decide (zDh ⟨⟨g⟩,lst C⟩ ((lst C).get i) ((lst C).get j)=true)) c=true) && true))=true
  rw [S1,decide_eq_true (show (lst C).len * 24≤140737488355328∧(lst C).len≤9223372036854775807 by omega),decide_eq_true (show (lst C).len≤4611686018427387∧true=true from ⟨by omega,rfl⟩)];rfl
 have pm:=zhO (c:=c) (lst C).len
 have pl:(ziM (lst C).len c).length=C.length:=by rw [pm.length_eq,List.length_range,hn]
 have pr:∀ x∈ziM (lst C).len c,x < C.length:=fun x hx=>by have:=List.mem_range.1 (pm.mem_iff.1 hx);omega
 refine ⟨hp,(ziM (lst C).len c).map (fun i=>(lst C).get i),?_,by rw [List.length_map,pl];exact hl,fun i h=>?_,fun s hs=>?_,fun s hs=>?_,?_⟩
 ·rw [List.length_map,pl,c2];show C.length=(lst C).len;omega
 ·rw [c2]
  rw [List.getElem_map]
  have h2:i < (ziM (lst C).len c).length:=by rw [List.length_map] at h;exact h
  show (lst C).get ((ziM (lst C).len c).getD i 0)=_
  rw [List.getD_eq_getElem?_getD,List.getElem?_eq_getElem h2];rfl
 ·obtain ⟨i, hi, rfl⟩ := List.mem_map.1 hs
  have:=pr i hi
  rw [get i this];exact cor i this
 ·obtain ⟨x, hx, e⟩ := H.all s hs
  obtain ⟨i,hi,rfl⟩:=List.getElem_of_mem hx
  exact ⟨_,List.mem_map.2 ⟨i,pm.mem_iff.2 (List.mem_range.2 (by omega)),get i hi⟩,e⟩
 ·rw [List.pairwise_map]
  have nd:(ziM (lst C).len c).Nodup:=pm.nodup_iff.2 List.nodup_range
  refine (List.Pairwise.and (zs3 STOc) nd).imp_of_mem ?_
  intro a b ha hb hab
  have ha:=pr a ha
  have hb:=pr b hb
  rw [get a ha,get b hb]
  rcases zsp G (cor a ha) (cor b hb) (ne a b ha hb hab.2) with h | h
  ·exact h
  ·exact absurd ((hc b a hb ha).2 h) hab.1
theorem zCr {g:Sl Gate} (G:zaC g) {l m:List Line} (hl:∀ x∈l,zhC g x) (hm:∀ x∈m,zhC g x) (sl:l.Pairwise (Bef g)) (sm:m.Pairwise (Bef g)) (h:∀ x,zhC g x→x∈l∧x∈m):l=m:=by
 have asym:∀ {a b},zhC g a→zhC g b→Bef g a b→¬ Bef g b a:=fun {a b} ha hb h k=>by
  obtain ⟨s,hs,rfl⟩:=zbs.1 ha
  obtain ⟨t,ht,rfl⟩:=zbs.1 hb
  exact zod ((zfG G hs ht).1 h) ((zfG G ht hs).1 k)
 have nd:∀ {l:List Line},(∀ x∈l,zhC g x)→l.Pairwise (Bef g)→l.Nodup:=fun {l} hl sl=>sl.imp_of_mem fun {a b} ha hb hab e=>by
  subst e;exact asym (hl a ha) (hl a ha) hab hab
 refine List.Perm.eq_of_pairwise (le:=Bef g) (fun a b ha hb h1 h2=>absurd h2 (asym (hl a ha) (hm b hb) h1)) sl sm ?_
 exact (List.perm_ext_iff_of_nodup (nd hl sl) (nd hm sm)).2 fun x=>⟨fun hx=>(h x (hl x hx)).2,fun hx=>(h x (hm x hx)).1⟩
def coE (g:Sl Gate):Int:=cond (!(s20 g)) 2 (cond (!(s21 g)) 5 (cond (s22 g) 6 0))
theorem zLk (g:Sl Gate) (hn:g.len≤9223372036854775807):p31 g=true∧(s31 g).2=coE g∧(coE g ≠ 0→s31 g=(⟨0,fun _=>default⟩,coE g))∧(coE g=0→SEq (s31 g).1 (s33 g)∧1≤(s33 g).len∧(s33 g).len≤2304∧∀ j,j < (s33 g).len→zhC g ((s33 g).get j)):=by
  have bad:∀ e:Int,e ≠ 0→s75 g=(nS,e)→p75 g=true→e=coE g→p31 g=true∧(s31 g).2=coE g∧(coE g ≠ 0→s31 g=(⟨0,fun _=>default⟩,coE g))∧(coE g=0→SEq (s31 g).1 (s33 g)∧1≤(s33 g).len∧(s33 g).len≤2304∧∀ j,j < (s33 g).len→zhC g ((s33 g).get j)):=fun e he h1 h2 h3=>by
    unfold p31 s31 znh zng
    rw [h1,h2,← h3]
    simp only [show (e != 0)=true by simpa using he,cond_true]
    exact ⟨rfl,trivial,fun _=>trivial,fun h=>absurd h he⟩
  cases hv:s20 g
  · obtain ⟨⟨b1, b2⟩, _⟩ := zso g hn hv
    exact bad 2 (by decide) b2 b1 (by unfold coE;rw [hv];rfl)
  have G:=(zoc g hn).1 hv
  obtain ⟨⟨b1,b2⟩,_⟩:=zAl g G
  cases hs:s21 g
  · exact bad 5 (by decide) (by rw [b2,hs];rfl) b1 (by unfold coE;rw [hv,hs];rfl)
  cases hf:s22 g
  · have e0 : coE g = 0 := by unfold coE; rw [hv, hs, hf]; rfl
    have b2:s75 g=(s65 g,0):=by rw [b2,hs,hf];rfl
    obtain ⟨q,D,d1,d2,d3,d4,d5,d6⟩:=zLj g G
    obtain ⟨r1,r2,r3,r4,r5⟩:=zlk g G
    have r5:=r5 (zLh G)
    have hD:∀ j,j < D.length→p79 ((s78 (s65 g)).get j)=true∧s79 ((s78 (s65 g)).get j)=toL ((s78 (s65 g)).get j):=fun j hj=>by
      rw [d3 j hj];exact zDI (zbM G (d4 _ (List.getElem_mem hj)))
    have L := zeu (σ := Sl Line) (step := fun i v => apL v (toL ((s78 (s65 g)).get i))) (E := fun v => (v, (0:Int))) (EP := fun _ => true) (Inv := fun i v => v.len = i ∧ ∀ j, j < i → v.get j = toL ((s78 (s65 g)).get j)) (a := 0) (n := D.length)
      (lpS:=fun k v i=>zh6 (s78 (s65 g)) (D.length:Int) k i v) (lpP:=fun k v i=>zh7 (s78 (s65 g)) (D.length:Int) k i v)
      (fun k i v _ hi _=>by
        show zh4 (s78 (s65 g)) (D.length:Int) (zh6 (s78 (s65 g)) (D.length:Int) k) (i:Int) v=_
        generalize zh6 (s78 (s65 g)) (D.length:Int) k=S
        unfold zh4
        rw [decide_eq_true (show (i:Int) < (D.length:Int) by omega),cond_true,Int.toNat_natCast,(hD i hi).2];rfl)
      (fun k v=>by
        show zh4 (s78 (s65 g)) (D.length:Int) (zh6 (s78 (s65 g)) (D.length:Int) k) (D.length:Int) v=_
        unfold zh4
        rw [decide_eq_false (show ¬ (D.length:Int) < (D.length:Int) by omega),cond_false])
      (fun k i v _ hi hv=>by
        show zh5 (s78 (s65 g)) (D.length:Int) (zh7 (s78 (s65 g)) (D.length:Int) k) (i:Int) v=_
        generalize zh7 (s78 (s65 g)) (D.length:Int) k=P
        obtain ⟨hv,_⟩:=hv
        unfold zh5
        rw [decide_eq_true (show (i:Int) < (D.length:Int) by omega),cond_true,decide_eq_true (show 0≤(i:Int)∧(i:Int) < ((s78 (s65 g)).len:Int) by omega),Int.toNat_natCast,(hD i hi).1,(hD i hi).2,decide_eq_true (show (v.len+1) * 32≤140737488355328∧v.len+1≤9223372036854775807 by omega),decide_eq_true (show true=true from rfl)];rfl)
      (fun k v=>by
        show zh5 (s78 (s65 g)) (D.length:Int) (zh7 (s78 (s65 g)) (D.length:Int) k) (D.length:Int) v=_
        unfold zh5
        rw [decide_eq_false (show ¬ (D.length:Int) < (D.length:Int) by omega),cond_false])
      (fun i v _ hi ⟨h1,h2⟩=>by
        refine ⟨by show v.len+1=i+1;omega,fun j hj=>?_⟩
        show zdQ v.len v.get (fun _=>toL ((s78 (s65 g)).get i)) j=_
        unfold zdQ
        by_cases h:j < i
        · rw [show Nat.ble v.len j=false by rw [← Bool.not_eq_true,Nat.ble_eq];omega];exact h2 j h
        · rw [show Nat.ble v.len j=true by rw [Nat.ble_eq];omega,show j=i by omega]) (Nat.zero_le _) (by omega) (zgN:Sl Line) ⟨rfl,fun j hj=>absurd hj (Nat.not_lt_zero j)⟩
    obtain ⟨l1,l2⟩:=L
    have I:=zhy (step:=fun i v=>apL v (toL ((s78 (s65 g)).get i))) (Inv:=fun i (v:Sl Line)=>v.len=i∧∀ j,j < i→v.get j=toL ((s78 (s65 g)).get j)) (n:=D.length) (fun i v hi ⟨h1,h2⟩=>by
        refine ⟨by show v.len+1=i+1;omega,fun j hj=>?_⟩
        show zdQ v.len v.get (fun _=>toL ((s78 (s65 g)).get i)) j=_
        unfold zdQ
        by_cases h:j < i
        · rw [show Nat.ble v.len j=false by rw [← Bool.not_eq_true,Nat.ble_eq];omega];exact h2 j h
        · rw [show Nat.ble v.len j=true by rw [Nat.ble_eq];omega,show j=i by omega]) D.length 0 (zgN:Sl Line) (by omega) ⟨rfl,fun j hj=>absurd hj (Nat.not_lt_zero j)⟩
    rw [show D.length - 0=D.length from rfl] at l2
    generalize zgM (fun i v=>apL v (toL ((s78 (s65 g)).get i))) D.length 0 (zgN:Sl Line)=v at l2 I
    have e31:s31 g=(v,0)∧p31 g=true:=by
      unfold s31 p31 zng znh zqQ zqR zqO zqP
      rw [b1,b2]
      have:(⟨⟨(s65 g).list.Gates⟩,(s65 g).corners⟩:set)=s65 g:=rfl
      show cond ((0:Int) != 0) _ (zqM (s78 ⟨⟨(s65 g).list.Gates⟩,(s65 g).corners⟩) ((s78 ⟨⟨(s65 g).list.Gates⟩,(s65 g).corners⟩).len:Int) 0 zgN)=_∧(decide (true=true) && cond ((0:Int) != 0) true (decide (p78 ⟨⟨(s65 g).list.Gates⟩,(s65 g).corners⟩=true) && znf (s78 ⟨⟨(s65 g).list.Gates⟩,(s65 g).corners⟩) ((s78 ⟨⟨(s65 g).list.Gates⟩,(s65 g).corners⟩).len:Int) 0 zgN))=true
      rw [this,q,← d1]
      refine ⟨l2,?_⟩
      have l1:znf (s78 (s65 g)) (D.length:Int) 0 zgN=true:=l1
      rw [l1];rfl
    rw [e31.1,e0]
    refine ⟨e31.2,rfl,fun h=>absurd rfl h,fun _=>?_⟩
    have U := zCr G (l := D.map toL) (m := (List.range (s33 g).len).map (s33 g).get)
      (fun x hx=>by obtain ⟨s,hs,rfl⟩:=List.mem_map.1 hx;exact zbs.2 ⟨s,d4 s hs,rfl⟩)
      (fun x hx=>by obtain ⟨i,hi,rfl⟩:=List.mem_map.1 hx;exact r3 i (List.mem_range.1 hi))
      (by rw [List.pairwise_map];exact d6.imp_of_mem fun {a b} ha hb h=>(zfG G (d4 a ha) (d4 b hb)).2 h)
      (by
        rw [List.pairwise_map,List.pairwise_iff_getElem]
        intro i j hi hj hij
        rw [List.getElem_range,List.getElem_range]
        rw [List.length_range] at hj
        exact r5 i j hij hj)
      (fun x hx=>by
        refine ⟨?_,?_⟩
        · obtain ⟨s, hs, rfl⟩ := zbs.1 hx
          obtain ⟨y,hy,e⟩:=d5 s hs
          exact List.mem_map.2 ⟨y,hy,e⟩
        · obtain ⟨a, ha, e⟩ := r4 x hx
          exact List.mem_map.2 ⟨a,List.mem_range.2 ha,e⟩)
    have lenE:D.length=(s33 g).len:=by have:=congrArg List.length U;rwa [List.length_map,List.length_map,List.length_range] at this
    obtain ⟨C,_,_,_,c4⟩:=ziL g G
    refine ⟨⟨by show v.len=_;omega,fun i hi=>?_⟩,?_,r2,r3⟩
    · have hi : i < D.length := by have hi : i < v.len := hi; omega
      show v.get i=_
      rw [I.2 i hi,d3 i hi]
      have:(D.map toL)[i]? = ((List.range (s33 g).len).map (s33 g).get)[i]?:=by rw [U]
      rw [List.getElem?_map,List.getElem?_map,List.getElem?_eq_getElem hi,List.getElem?_range (by omega)] at this
      exact Option.some.inj this
    · obtain ⟨s, hs⟩ := (c4 (zcL G hf)).1 hs
      obtain ⟨a,ha,_⟩:=r4 _ (zbs.2 ⟨s,hs,rfl⟩);omega
  · exact bad 6 (by decide) (by rw [b2,hs,hf];rfl) b1 (by unfold coE;rw [hv,hs,hf];rfl)
end Go.Proofs
namespace Go.Proofs
open Go Go.Pm
set_option maxRecDepth 100000
theorem zmd {g : Sl Gate} {i b : Nat} {x : straight} (hx : x ∈ zpl (g.get i) (g.get b)) : ∀ m k, k ≤ b → b < k + m → x ∈ zpm g i m k
  | 0,k,h1,h2=>by omega
  | m+1,k,h1,h2=>by
    show x∈zpl (g.get i) (g.get k) ++ zpm g i m (k+1)
    by_cases h:k=b
    · rw [h];exact List.mem_append_left _ hx
    · exact List.mem_append_right _ (zmd hx m (k+1) (by omega) (by omega))
theorem zme {g : Sl Gate} {a : Nat} {x : straight} (hx : x ∈ zpm g a (g.len - (a + 1)) (a + 1)) : ∀ m i, i ≤ a → a < i + m → x ∈ zAC g m i
  | 0,i,h1,h2=>by omega
  | m+1,i,h1,h2=>by
    show x∈zpm g i (g.len - (i+1)) (i+1) ++ zAC g m (i+1)
    by_cases h:i=a
    · rw [h];exact List.mem_append_left _ hx
    · exact List.mem_append_right _ (zme hx m (i+1) (by omega) (by omega))
theorem zCs {z p y q:Int} (h:z ≠ y):thr z p y q=thr y q z p:=by
 unfold thr
 by_cases h1:z > y
 ·rw [if_pos h1,if_neg (show ¬ y > z by omega)]
 ·rw [if_neg h1,if_pos (show y > z by omega)]
theorem zOs {g:Sl Gate} {a b:Nat} (ha:a < g.len) (hb:b < g.len) (hz:(g.get a).Z ≠ (g.get b).Z) {p q:Int} (hp:p=(g.get a).Low∨p=(g.get a).High) (hq:q=(g.get b).Low∨q=(g.get b).High):thr (g.get a).Z p (g.get b).Z q∈cst g:=by
 have key:∀ {a b:Nat} {p q:Int},a < b→b < g.len→(g.get a).Z ≠ (g.get b).Z→(p=(g.get a).Low∨p=(g.get a).High)→(q=(g.get b).Low∨q=(g.get b).High)→thr (g.get a).Z p (g.get b).Z q∈cst g:=fun {a b p q} h1 h2 hz hp hq=>by
  refine zme (zmd ?_ _ _ h1 (by omega)) _ 0 (Nat.zero_le _) (by omega)
  unfold zpl
  rw [if_neg hz]
  rcases hp with rfl | rfl <;> rcases hq with rfl | rfl <;> simp
 rcases Nat.lt_or_ge a b with h | h
 ·exact key h hb hz hp hq
 ·have : a ≠ b := fun e => hz (by rw [e])
  rw [zCs hz]
  exact key (by omega) ha (Ne.symm hz) hq hp
theorem zlq {Q : Nat → Prop} {le : Nat → Nat → Prop} (tot : ∀ i j, Q i → Q j → le i j ∨ le j i) (tr : ∀ i j k, Q i → Q j → Q k → le i j → le j k → le i k) : ∀ n, (∃ k, k < n ∧ Q k) → ∃ k, k < n ∧ Q k ∧ ∀ j, j < n → Q j → le j k
  | 0,⟨k,h,_⟩=>absurd h (Nat.not_lt_zero k)
  | n+1,hex=>by
    by_cases h:∃ k,k < n∧Q k
    · obtain ⟨k, hk, qk, hm⟩ := zlq tot tr n h
      by_cases qn:Q n
      · rcases tot n k qn qk with h1 | h1
        · exact ⟨k,by omega,qk,fun j hj qj=>by
            by_cases e:j=n
            · rw [e];exact h1
            · exact hm j (by omega) qj⟩
        · exact ⟨n,by omega,qn,fun j hj qj=>by
            by_cases e:j=n
            · rw [e];rcases tot n n qn qn with h2 | h2 <;> exact h2
            · exact tr j k n qj qk qn (hm j (by omega) qj) h1⟩
      · exact ⟨k,by omega,qk,fun j hj qj=>hm j (by
          have:j ≠ n:=fun e=>qn (e ▸ qj)
          omega) qj⟩
    · obtain ⟨k, hk, qk⟩ := hex
      have e:k=n:=by
        rcases Nat.lt_or_ge k n with h1 | h1
        · exact absurd ⟨k,h1,qk⟩ h
        · omega
      subst e
      exact ⟨k,by omega,qk,fun j hj qj=>by
        by_cases e:j=k
        · rw [e];rcases tot k k qk qk with h2 | h2 <;> exact h2
        · exact absurd ⟨j,by omega,qj⟩ h⟩
def leS (a b:straight):Prop:=a.slope * b.den≤b.slope * a.den
theorem ztT {a b c:straight} (ha:0 < a.den) (hb:0 < b.den) (hc:0 < c.den) (h1:leS a b) (h2:leS b c):leS a c:=by
 unfold leS at *
 have y1:=Int.mul_le_mul_of_nonneg_right h1 (Int.le_of_lt hc)
 have y2:=Int.mul_le_mul_of_nonneg_right h2 (Int.le_of_lt ha)
 refine Int.le_of_mul_le_mul_right (a:=b.den) ?_ hb
 grind
def lcS (g:Sl Gate) (i:Nat) (p:Int) (k:Nat):straight:=thr (g.get i).Z p (g.get k).Z (if (g.get k).Z > (g.get i).Z then (g.get k).Low else (g.get k).High)
def ucS (g:Sl Gate) (i:Nat) (p:Int) (k:Nat):straight:=thr (g.get i).Z p (g.get k).Z (if (g.get k).Z > (g.get i).Z then (g.get k).High else (g.get k).Low)
theorem zoe {g:Sl Gate} {i k:Nat} {p:Int} {c:straight} (he:plc c (g.get i).Z=p * c.den) (hz:(g.get k).Z ≠ (g.get i).Z):zlE c (g.get k)=true↔leS (lcS g i p k) c∧leS c (ucS g i p k):=by
 unfold zlE leS lcS ucS thr
 rw [decide_eq_true_eq]
 unfold plc at *
 by_cases h:(g.get k).Z > (g.get i).Z
 ·simp only [if_pos h, if_neg (show ¬ (g.get i).Z > (g.get k).Z by omega)]
  constructor
  ·intro ⟨h1,h2⟩;constructor <;> grind
  ·intro ⟨h1,h2⟩;constructor <;> grind
 ·simp only [if_neg h, if_pos (show (g.get i).Z > (g.get k).Z by omega)]
  constructor
  ·intro ⟨h1,h2⟩;constructor <;> grind
  ·intro ⟨h1,h2⟩;constructor <;> grind
theorem zAs {z p y q:Int} (h:z ≠ y):0 < (thr z p y q).den:=by
 unfold thr
 by_cases h1:z > y
 ·rw [if_pos h1];show 0 < z - y;omega
 ·rw [if_neg h1];show 0 < y - z;omega
theorem zpr {g:Sl Gate} {i k:Nat} {p:Int} {s c:straight} (ps:0 < s.den) (pc:0 < c.den) (he:plc s (g.get i).Z=p * s.den) (hc:plc c (g.get i).Z=p * c.den) (hz:(g.get k).Z=(g.get i).Z) (h:zlE s (g.get k)=true):zlE c (g.get k)=true:=by
 unfold zlE at *
 rw [decide_eq_true_eq] at *
 rw [hz,he] at h
 rw [hz,hc]
 exact ⟨Int.mul_le_mul_of_nonneg_right (Int.le_of_mul_le_mul_right h.1 ps) (Int.le_of_lt pc),Int.mul_le_mul_of_nonneg_right (Int.le_of_mul_le_mul_right h.2 ps) (Int.le_of_lt pc)⟩
theorem rot {g : Sl Gate} {s : straight} (hd : 0 < s.den) (ha : zhA g s) {i : Nat} (hi : i < g.len) {p : Int} (hp : p = (g.get i).Low ∨ p = (g.get i).High) (he : plc s (g.get i).Z = p * s.den) (hn : ∃ k, k < g.len ∧ (g.get k).Z ≠ (g.get i).Z) :
  (∃ c,Cor g c∧0 < c.den∧plc c (g.get i).Z=p * c.den∧leS c s)∧∃ c,Cor g c∧0 < c.den∧plc c (g.get i).Z=p * c.den∧leS s c:=by
 have ld:∀ k,(g.get k).Z ≠ (g.get i).Z→0 < (lcS g i p k).den:=fun k h=>zAs (Ne.symm h)
 have ud:∀ k,(g.get k).Z ≠ (g.get i).Z→0 < (ucS g i p k).den:=fun k h=>zAs (Ne.symm h)
 have le1:∀ k,(g.get k).Z ≠ (g.get i).Z→plc (lcS g i p k) (g.get i).Z=p * (lcS g i p k).den:=fun k h=>(zAn (Ne.symm h)).1
 have ue1:∀ k,(g.get k).Z ≠ (g.get i).Z→plc (ucS g i p k) (g.get i).Z=p * (ucS g i p k).den:=fun k h=>(zAn (Ne.symm h)).1
 have sp:∀ k,k < g.len→(g.get k).Z ≠ (g.get i).Z→leS (lcS g i p k) s∧leS s (ucS g i p k):=fun k hk hz=>(zoe he hz).1 (ha k hk)
 constructor
 ·obtain ⟨k, hk, qk, hm⟩ := zlq (Q := fun k => (g.get k).Z ≠ (g.get i).Z) (le := fun a b => leS (lcS g i p a) (lcS g i p b)) (fun a b _ _ => Int.le_total _ _) (fun a b c ha hb hc h1 h2 => ztT (ld a ha) (ld b hb) (ld c hc) h1 h2) g.len hn
  refine ⟨lcS g i p k,⟨zOs hi hk (Ne.symm qk) hp (by split <;> simp),fun j hj=>?_⟩,ld k qk,le1 k qk,(sp k hk qk).1⟩
  by_cases hz:(g.get j).Z=(g.get i).Z
  ·exact zpr hd (ld k qk) he (le1 k qk) hz (ha j hj)
  ·exact (zoe (le1 k qk) hz).2 ⟨hm j hj hz,ztT (ld k qk) hd (ud j hz) (sp k hk qk).1 (sp j hj hz).2⟩
 ·obtain ⟨k, hk, qk, hm⟩ := zlq (Q := fun k => (g.get k).Z ≠ (g.get i).Z) (le := fun a b => leS (ucS g i p b) (ucS g i p a)) (fun a b _ _ => Int.le_total _ _) (fun a b c ha hb hc h1 h2 => ztT (ud c hc) (ud b hb) (ud a ha) h2 h1) g.len hn
  refine ⟨ucS g i p k,⟨zOs hi hk (Ne.symm qk) hp (by split <;> simp),fun j hj=>?_⟩,ud k qk,ue1 k qk,(sp k hk qk).2⟩
  by_cases hz:(g.get j).Z=(g.get i).Z
  ·exact zpr hd (ud k qk) he (ue1 k qk) hz (ha j hj)
  ·exact (zoe (ue1 k qk) hz).2 ⟨ztT (ld j hz) hd (ud k qk) (sp j hj hz).1 (sp k hk qk).2,hm j hj hz⟩
theorem zLl {g:Sl Gate} (hl:1≤g.len) {s:straight} (ha:zhA g s):∃ d,0≤d∧zhA g ⟨s.slope,s.start - d,s.den⟩∧∃ i,i < g.len∧plc ⟨s.slope,s.start - d,s.den⟩ (g.get i).Z=(g.get i).Low * s.den:=by
 obtain ⟨k,hk,_,hm⟩:=zlq (Q:=fun _=>True) (le:=fun a b=>plc s (g.get b).Z - (g.get b).Low * s.den≤plc s (g.get a).Z - (g.get a).Low * s.den) (fun a b _ _=>Int.le_total _ _) (fun a b c _ _ _ h1 h2=>Int.le_trans h2 h1) g.len ⟨0,hl,trivial⟩
 have hk2:=ziw ha hk
 refine ⟨plc s (g.get k).Z - (g.get k).Low * s.den,by omega,fun j hj=>decide_eq_true ?_,k,hk,by unfold plc;simp only;omega⟩
 have h1:=hm j hj trivial
 have h2:=ziw ha hj
 unfold plc at *
 simp only
 omega
theorem zLm {g:Sl Gate} (hl:1≤g.len) {s:straight} (ha:zhA g s):∃ d,0≤d∧zhA g ⟨s.slope,s.start+d,s.den⟩∧∃ i,i < g.len∧plc ⟨s.slope,s.start+d,s.den⟩ (g.get i).Z=(g.get i).High * s.den:=by
 obtain ⟨k,hk,_,hm⟩:=zlq (Q:=fun _=>True) (le:=fun a b=>(g.get b).High * s.den - plc s (g.get b).Z≤(g.get a).High * s.den - plc s (g.get a).Z) (fun a b _ _=>Int.le_total _ _) (fun a b c _ _ _ h1 h2=>Int.le_trans h2 h1) g.len ⟨0,hl,trivial⟩
 have hk2:=ziw ha hk
 refine ⟨(g.get k).High * s.den - plc s (g.get k).Z,by omega,fun j hj=>decide_eq_true ?_,k,hk,by unfold plc;simp only;omega⟩
 have h1:=hm j hj trivial
 have h2:=ziw ha hj
 unfold plc at *
 simp only
 omega
theorem ztU {g:Sl Gate} (nf : ¬ zli g) (i:Nat) (hi:i < g.len):∃ k,k < g.len∧(g.get k).Z ≠ (g.get i).Z:=by
 by_cases h:∃ k,k < g.len∧(g.get k).Z ≠ (g.get i).Z
 ·exact h
 ·have all : ∀ k, k < g.len → (g.get k).Z = (g.get i).Z := fun k hk => Classical.byContradiction fun e => h ⟨k, hk, e⟩
  exact absurd (fun k hk=>(all k hk).trans (all 0 (by omega)).symm) nf
theorem zAt {a b:straight} {z p h:Int} (ha:plc a z=p * a.den) (hb:plc b z=p * b.den) (hs:leS a b) (hh:z≤h):plc a h * b.den≤plc b h * a.den:=by
 have y:=Int.mul_le_mul_of_nonneg_right hs (show 0≤h - z by omega)
 unfold plc at *
 have e1:a.start=p * a.den - a.slope * z:=by omega
 have e2:b.start=p * b.den - b.slope * z:=by omega
 rw [e1,e2]
 clear ha hb hs e1 e2
 grind
theorem zAu {a b:straight} {z p h:Int} (ha:plc a z=p * a.den) (hb:plc b z=p * b.den) (hs:leS a b) (hh:h≤z):plc b h * a.den≤plc a h * b.den:=by
 have y:=Int.mul_le_mul_of_nonneg_right hs (show 0≤z - h by omega)
 unfold plc at *
 have e1:a.start=p * a.den - a.slope * z:=by omega
 have e2:b.start=p * b.den - b.slope * z:=by omega
 rw [e1,e2]
 clear ha hb hs e1 e2
 grind
theorem lp {g : Sl Gate} (hl : 1 ≤ g.len) (nf : ¬ zli g) {s : straight} (hd : 0 < s.den) (ha : zhA g s) :
  (∀ h,(∃ c,Cor g c∧plc c h * s.den≤plc s h * c.den)∧∃ c,Cor g c∧plc s h * c.den≤plc c h * s.den)∧(∃ c,Cor g c∧leS c s)∧∃ c,Cor g c∧leS s c:=by
 obtain ⟨d,d0,da,i,hi,di⟩:=zLl hl ha
 obtain ⟨e,e0,ea,j,hj,ej⟩:=zLm hl ha
 obtain ⟨⟨c1,c1c,c1d,c1p,c1s⟩,⟨c2,c2c,c2d,c2p,c2s⟩⟩:=rot (s:=⟨s.slope,s.start - d,s.den⟩) hd da hi (.inl rfl) di (ztU nf i hi)
 obtain ⟨⟨f1,f1c,f1d,f1p,f1s⟩,⟨f2,f2c,f2d,f2p,f2s⟩⟩:=rot (s:=⟨s.slope,s.start+e,s.den⟩) hd ea hj (.inr rfl) ej (ztU nf j hj)
 have lo:∀ {c:straight} {h:Int},0 < c.den→plc c h * s.den≤plc ⟨s.slope,s.start - d,s.den⟩ h * c.den→plc c h * s.den≤plc s h * c.den:=fun {c h} pc k=>by
  have:=Int.mul_nonneg d0 (Int.le_of_lt pc)
  unfold plc at *
  simp only at k
  grind
 have hi':∀ {c:straight} {h:Int},0 < c.den→plc ⟨s.slope,s.start+e,s.den⟩ h * c.den≤plc c h * s.den→plc s h * c.den≤plc c h * s.den:=fun {c h} pc k=>by
  have:=Int.mul_nonneg e0 (Int.le_of_lt pc)
  unfold plc at *
  simp only at k
  grind
 refine ⟨fun h=>⟨?_,?_⟩,⟨c1,c1c,c1s⟩,⟨c2,c2c,c2s⟩⟩
 ·rcases Int.le_total (g.get i).Z h with k | k
  ·exact ⟨c1,c1c,lo c1d (zAt (b:=⟨s.slope,s.start - d,s.den⟩) c1p di c1s k)⟩
  ·exact ⟨c2,c2c,lo c2d (zAu (a:=⟨s.slope,s.start - d,s.den⟩) di c2p c2s k)⟩
 ·rcases Int.le_total (g.get j).Z h with k | k
  ·exact ⟨f2,f2c,hi' f2d (zAt (a:=⟨s.slope,s.start+e,s.den⟩) ej f2p f2s k)⟩
  ·exact ⟨f1,f1c,hi' f1d (zAu (b:=⟨s.slope,s.start+e,s.den⟩) f1p ej f1s k)⟩
end Go.Proofs
namespace Go.Proofs
open Go Go.Pm
set_option maxRecDepth 100000
theorem zLn {g : Sl Gate} (G : zaC g) (nf : ¬ zli g) {F : straight → Frac} (hF : ∀ s, Cor g s → FOK (F s)) {lo hi : Frac} (B : Bd g F lo hi) {x : Frac} (px : 0 < x.Den)
    (h1:∃ c,Cor g c∧¬ ltF x (F c)) (h2:∃ c,Cor g c∧¬ ltF (F c) x) : ¬ ltF x lo∧¬ ltF hi x:=by
  obtain ⟨c,hc,kc⟩:=h1
  obtain ⟨d,hd,kd⟩:=h2
  obtain ⟨fl,fh⟩:=zAm hF B
  have pc:=(hF c hc).2;have pd:=(hF d hd).2;have pl:=fl.2;have ph:=fh.2
  exact ⟨zdH (b:=F c) (by omega) (by omega) (by omega) (B.1.2 c hc) kc,zdH (b:=F d) (by omega) (by omega) (by omega) kd (B.2.2 d hd)⟩
theorem zLo {g:Sl Gate} (G:zaC g) (nf : ¬ zli g) {s:straight} (S:SOK s) (ha:zhA g s) {h:Int} (hz : -200000≤h∧h≤200000) {lo hi:Frac} (B:Bd g (plF h) lo hi) : ¬ ltF (plF h s) lo∧¬ ltF hi (plF h s):=by
 have hd:0 < s.den:=by have:=S.2.2;omega
 obtain ⟨⟨c,hc,kc⟩,d,hd2,kd⟩:=(lp G.2.1 nf hd ha).1 h
 exact zLn G nf (fun s hs=>zlp (zbM G hs) hz) B hd ⟨c,hc,by unfold ltF;simp only;omega⟩ ⟨d,hd2,by unfold ltF;simp only;omega⟩
theorem zLp {g:Sl Gate} (G:zaC g) (nf : ¬ zli g) {s:straight} (S:SOK s) (ha:zhA g s) {lo hi:Frac} (B:Bd g slF lo hi) : ¬ ltF (slF s) lo∧¬ ltF hi (slF s):=by
 have hd:0 < s.den:=by have:=S.2.2;omega
 obtain ⟨_,⟨c,hc,kc⟩,d,hd2,kd⟩:=lp G.2.1 nf hd ha
 unfold leS at kc kd
 exact zLn G nf (fun s hs=>zd9 (zbM G hs)) B hd ⟨c,hc,by unfold ltF;simp only;omega⟩ ⟨d,hd2,by unfold ltF;simp only;omega⟩
theorem zLq {g:Sl Gate} (G:zaC g) (hs:s21 g=true) (hf:s22 g=false) {z:Int} (hz : -200000≤z∧z≤200000):Bd g (plF z) (s36 g z).1 (s36 g z).2:=by
 obtain ⟨C,_,_,_,c4⟩:=ziL g G
 have:=(zDM G ((c4 (zcL G hf)).1 hs) hz).2
 unfold s36 zsf
 rw [hf];exact this
theorem zLr {g:Sl Gate} (G:zaC g) (hs:s21 g=true) (hf:s22 g=false):Bd g slF (s37 g).1 (s37 g).2:=by
 obtain ⟨C,_,_,_,c4⟩:=ziL g G
 exact (zDN G ((c4 (zcL G hf)).1 hs)).2
theorem zCt {g:Sl Gate} (G:zaC g) (hf:s22 g=false):s21 g=true↔∃ s,0 < s.den∧zhA g s:=by
 obtain ⟨C,_,_,_,c4⟩:=ziL g G
 rw [c4 (zcL G hf)]
 constructor
 ·intro ⟨s, hs⟩
  exact ⟨s,by have:=(zbM G hs).2.2;omega,hs.2⟩
 ·intro ⟨s, hd, ha⟩
  obtain ⟨_,⟨c,hc,_⟩,_⟩:=lp G.2.1 (zcL G hf) hd ha
  exact ⟨c,hc⟩
def zAv (z x w y:Int):Prop:=(0≤z∧z≤100000)∧(0≤w∧w≤100000)∧z ≠ w∧(-1000000≤x∧x≤1000000)∧-1000000≤y∧y≤1000000
theorem zH0 (z x w y:Int):s25 z x w y=true↔zAv z x w y:=by
 unfold s25 zAv
 by_cases h1:z ≥ 0 <;> by_cases h2:z≤100000 <;> by_cases h3:w ≥ 0 <;> by_cases h4:w≤100000 <;> by_cases h5:z=w <;> by_cases h6:x ≥ -1000000 <;> by_cases h7:x≤1000000 <;> by_cases h8:y ≥ -1000000 <;> by_cases h9:y≤1000000 <;> simp [h1,h2,h3,h4,h5,h6,h7,h8,h9] <;> omega
theorem zH1 {z x w y:Int} (E:zAv z x w y):p26 z x w y=true∧s26 z x w y=toL (thr z x w y)∧SOK (thr z x w y):=by
 obtain ⟨e1,e2,e3,e4,e5⟩:=E
 obtain ⟨a,b⟩:=zDG e1 e2 e4 e5 e3
 exact ⟨a,b,zDH e1 e2 e4 e5 e3⟩
theorem zAw {s:straight} (S:SOK s):s53 (toL s)=true:=by
 obtain ⟨S1,S2,S3⟩:=S
 have hd:0 < s.den:=by omega
 have key:∀ (n m:Int),-m≤n→n≤m→0≤m→m≤1000000000000→s91 (red n s.den) m=true:=fun n m h1 h2 h0 h3=>by
  have a:=zfD (num:=n) hd
  have b:=zcG (num:=n) hd
  have c:=ziJ (num:=n) hd
  have e:=zsl (num:=n) hd
  unfold s91
  rw [ziH,ziH,zK3 h0 (by omega),decide_eq_true (show 1≤(red n s.den).Den∧(red n s.den).Den≤100000 by omega),cond_true,decide_eq_true (show -m≤(red n s.den).Num∧(red n s.den).Num≤m by omega),cond_true]
  rw [zaU (x:=0 - (red n s.den).Num) (by omega) (by omega),show 0 - (red n s.den).Num = -(red n s.den).Num by omega,zz2,(ztH ((red n s.den).Num.natAbs:Int) (red n s.den).Den (by omega) (by omega) (by omega)).2,zsk,e]
  rfl
 rw [(zz0 (toL s)).2]
 show (s91 (red s.slope s.den) 2000000 && s91 (red s.start s.den) 1000000000000)=true
 rw [key s.slope 2000000 (by omega) (by omega) (by omega) (by omega),key s.start 1000000000000 (by omega) (by omega) (by omega) (by omega)];rfl
end Go.Proofs
namespace Go.Proofs
open Go Go.Pm
set_option maxRecDepth 100000
def eqF (a b:Frac):Bool:=match (a.Num == b.Num) with | true=>(match (a.Den == b.Den) with | true=>true | false=>false) | false=>false
theorem zof {a b:Frac} : eqF a b=true↔a=b:=by
 unfold eqF
 constructor
 ·intro h
  cases h1:a.Num == b.Num
  ·rw [h1] at h;cases h
  ·cases h2 : a.Den == b.Den
   ·rw [h1,h2] at h;cases h
   ·cases a;cases b;simp only [beq_iff_eq] at h1 h2;rw [h1,h2]
 ·intro h;rw [h,beq_self_eq_true,beq_self_eq_true]
abbrev Fl:=Bool×Bool×Bool×Bool
def flS (c:Sl Line) (at_:Int) (a b s t:Frac) (i:Nat) (v:Fl):Fl:=(v.1 || eqF (c.get i).Slope s,v.2.1 || eqF (c.get i).Slope t,v.2.2.1 || eqF (s28 (c.get i) at_) a,v.2.2.2 || eqF (s28 (c.get i) at_) b)
section
variable (g:Sl Gate) (at_:Int) (l:Line) (p:Sl Int) (c:Sl Line) (a b s t:Frac)
theorem zDP (i : Nat) (hi : i < c.len) (hc : c.len ≤ 9223372036854775807) (P : Bool → Bool → Bool → Bool → Int → Bool) (S : Bool → Bool → Bool → Bool → Int → Bool) (v : Fl)
    (q1:p53 (c.get i)=true) (q2:s53 (c.get i)=true) (q3:p52 (c.get i) g=true) (q4:(s52 (c.get i) g).2=0) (q5:(s52 (c.get i) g).1.len=g.len) (q6:p28 (c.get i) at_=true) :
    zfX g at_ l.Slope.Num l.Slope.Den l.Start.Num l.Start.Den p c a.Num a.Den b.Num b.Den s.Num s.Den t.Num t.Den P v.1 v.2.1 v.2.2.1 v.2.2.2 (i:Int)=P (flS c at_ a b s t i v).1 (flS c at_ a b s t i v).2.1 (flS c at_ a b s t i v).2.2.1 (flS c at_ a b s t i v).2.2.2 ((i+1:Nat):Int) ∧
    zfW g at_ l.Slope.Num l.Slope.Den l.Start.Num l.Start.Den p c a.Num a.Den b.Num b.Den s.Num s.Den t.Num t.Den S v.1 v.2.1 v.2.2.1 v.2.2.2 (i:Int)=S (flS c at_ a b s t i v).1 (flS c at_ a b s t i v).2.1 (flS c at_ a b s t i v).2.2.1 (flS c at_ a b s t i v).2.2.2 ((i+1:Nat):Int):=by
  have k:decide (0≤(i:Int)∧(i:Int) < (c.len:Int))=true:=decide_eq_true (by omega)
  unfold zfX zfW znO znN znM znL znK znJ znI znH
  rw [decide_eq_true (show (i:Int) < (c.len:Int) by omega),k,Int.toNat_natCast,q1,q2,q3,q4,q5,q6,zbD (n:=c.len) hi hc]
  obtain ⟨v1,v2,v3,v4⟩:=v
  simp only [bne_self_eq_false,decide_true,Bool.true_and,cond_true,cond_false,Bool.not_true]
  cases v1 <;> cases v2 <;> cases v3 <;> cases v4 <;> exact ⟨rfl,rfl⟩
end
theorem zCu (g : Sl Gate) (G : zaC g) (hf : s22 g = false) (hs : s21 g = true) (c : Sl Line) (hc : SEq c (s33 g)) (L : straight) (SL : SOK L) (at_ : Int) (hz : -200000 ≤ at_ ∧ at_ ≤ 200000) (p : Sl Int) (hp : ¬ (p.len : Int) < (g.len : Int) → zhA g L) :
    zrU g at_ (toL L).Slope.Num (toL L).Slope.Den (toL L).Start.Num (toL L).Start.Den p c (s36 g at_).1.Num (s36 g at_).1.Den (s36 g at_).2.Num (s36 g at_).2.Den (s37 g).1.Num (s37 g).1.Den (s37 g).2.Num (s37 g).2.Den=true ∧
    zrT g at_ (toL L).Slope.Num (toL L).Slope.Den (toL L).Start.Num (toL L).Start.Den p c (s36 g at_).1.Num (s36 g at_).1.Den (s36 g at_).2.Num (s36 g at_).2.Den (s37 g).1.Num (s37 g).1.Den (s37 g).2.Num (s37 g).2.Den=true:=by
  have hl:=G.2
  have nf:=zcL G hf
  obtain ⟨_,r2,r3,r4,_⟩:=zlk g G
  obtain ⟨h1,h2⟩:=hc
  have cor:∀ i,i < c.len→∃ x,Cor g x∧c.get i=toL x:=fun i hi=>by
    obtain ⟨x,hx,e⟩:=zbs.1 (r3 i (by omega))
    exact ⟨x,hx,by rw [h2 i hi,e]⟩
  have has:∀ x,Cor g x→∃ i,i < c.len∧c.get i=toL x:=fun x hx=>by
    obtain ⟨i,hi,e⟩:=r4 _ (zbs.2 ⟨x,hx,rfl⟩)
    exact ⟨i,by omega,by rw [h2 i (by omega),e]⟩
  have q:∀ i,i < c.len→p53 (c.get i)=true∧s53 (c.get i)=true∧p52 (c.get i) g=true∧(s52 (c.get i) g).2=0∧(s52 (c.get i) g).1.len=g.len∧p28 (c.get i) at_=true:=fun i hi=>by
    obtain ⟨x,hx,e⟩:=cor i hi
    have X:=zbM G hx
    have w:=zAw X
    obtain ⟨u1,u2⟩:=zDF (toL x) g (by omega)
    have v2:s64 g=true:=(zma g (by omega)).2.2 G
    obtain ⟨_,n2⟩:=zn9 G X
    rw [w,v2] at u2
    have u2:s52 (toL x) g=(zuH (toL x) g,0):=u2
    rw [e,u2]
    refine ⟨(zz0 _).1,w,u1,rfl,?_,(zlm X hz).1⟩
    show (zuH (toL x) g).len=g.len
    rw [(zzZ (toL x) g (by omega)).2] at n2
    have:=zCl (toL x) g
    have : ¬ ((zuH (toL x) g).len:Int) < (g.len:Int):=fun h=>(n2.1 h) hx.2
    omega
  have B:=zLq G hs hf hz
  have D:=zLr G hs hf
  have B1:=fun ha:zhA g L=>(zLo G nf SL ha hz B).1
  have B2:=fun ha:zhA g L=>(zLo G nf SL ha hz B).2
  have D1:=fun ha:zhA g L=>(zLp G nf SL ha D).1
  have D2:=fun ha:zhA g L=>(zLp G nf SL ha D).2
  have fin:zhr g at_ (toL L).Slope.Num (toL L).Slope.Den (toL L).Start.Num (toL L).Start.Den p (s36 g at_).1.Num (s36 g at_).1.Den (s36 g at_).2.Num (s36 g at_).2.Den (s37 g).1.Num (s37 g).1.Den (s37 g).2.Num (s37 g).2.Den true true true true=true ∧
      zhq g at_ (toL L).Slope.Num (toL L).Slope.Den (toL L).Start.Num (toL L).Start.Den p (s36 g at_).1.Num (s36 g at_).1.Den (s36 g at_).2.Num (s36 g at_).2.Den (s37 g).1.Num (s37 g).1.Den (s37 g).2.Num (s37 g).2.Den true true true true=true:=by
    unfold zhr zhq znG znF
    by_cases hlt:(p.len:Int) < (g.len:Int)
    · rw [decide_eq_true hlt];exact ⟨rfl,rfl⟩
    · rw [decide_eq_false hlt]
      have ha:=hp hlt
      unfold znE znD znC
      obtain ⟨m1,m2⟩:=zlm SL hz
      have fL:=zlp SL hz
      have fS:=zd9 SL
      have gL:FOK (s28 (toL L) at_):=by rw [m2];exact zdo fL
      have gS:FOK (toL L).Slope:=zdo fS
      obtain ⟨fa,fb⟩:=zAm (fun s hs=>zlp (zbM G hs) hz) B
      obtain ⟨fs,ft⟩:=zAm (fun s hs=>zd9 (zbM G hs)) D
      have pl:0 < L.den:=by have:=SL.2.2;omega
      have no:∀ {x y:Frac},FOK x→FOK y→¬ ltF x y→s29 x y=false:=fun {x y} hx hy h=>by
        cases e:s29 x y
        · rfl
        · exact absurd ((zll hx hy).1 e) h
      have n1:s29 (s28 (toL L) at_) (s36 g at_).1=false:=no gL fa (by rw [m2];exact fun h=>B1 ha ((zln (a:=plF at_ L) pl (by have:=fa.2;omega)).1 h))
      have n2:s29 (s36 g at_).2 (s28 (toL L) at_)=false:=no fb gL (by rw [m2];exact fun h=>B2 ha ((zlo (b:=plF at_ L) (by have:=fb.2;omega) pl).1 h))
      have n3:s29 (toL L).Slope (s37 g).1=false:=no gS fs (fun h=>D1 ha ((zln (a:=slF L) pl (by have:=fs.2;omega)).1 h))
      have n4:s29 (s37 g).2 (toL L).Slope=false:=no ft gS (fun h=>D2 ha ((zlo (b:=slF L) (by have:=ft.2;omega) pl).1 h))
      have e1:(⟨⟨(toL L).Slope.Num,(toL L).Slope.Den⟩,⟨(toL L).Start.Num,(toL L).Start.Den⟩⟩:Line)=toL L:=rfl
      rw [e1,m1]
      refine ⟨rfl,?_⟩
      show cond (!(s29 (s28 (toL L) at_) (s36 g at_).1)) (cond (!(s29 (s36 g at_).2 (s28 (toL L) at_))) (cond (!(s29 (toL L).Slope (s37 g).1)) (cond (!(s29 (s37 g).2 (toL L).Slope)) true false) false) false) false=true
      rw [n1,n2,n3,n4];rfl
  let stp:=flS c at_ (s36 g at_).1 (s36 g at_).2 (s37 g).1 (s37 g).2
  have inv := zhy (step := stp) (n := c.len) (Inv := fun i (v : Fl) => (∀ j, j < i → (c.get j).Slope = (s37 g).1 → v.1 = true) ∧ (∀ j, j < i → (c.get j).Slope = (s37 g).2 → v.2.1 = true) ∧ (∀ j, j < i → s28 (c.get j) at_ = (s36 g at_).1 → v.2.2.1 = true) ∧ (∀ j, j < i → s28 (c.get j) at_ = (s36 g at_).2 → v.2.2.2 = true))
    (fun i v hi ⟨i1,i2,i3,i4⟩=>by
      have key:∀ (b0:Bool) (Q:Nat→Prop) (e:Bool),(∀ j,j < i→Q j→b0=true)→(Q i→e=true)→∀ j,j < i+1→Q j→(b0 || e)=true:=fun b0 Q e h1 h2 j hj hq=>by
        by_cases hji:j=i
        · rw [h2 (hji ▸ hq),Bool.or_true]
        · rw [h1 j (by omega) hq];rfl
      exact ⟨key _ _ _ i1 zof.2,key _ _ _ i2 zof.2,key _ _ _ i3 zof.2,key _ _ _ i4 zof.2⟩) c.len 0 (false,false,false,false) (by omega) ⟨fun j hj=>absurd hj (Nat.not_lt_zero j),fun j hj=>absurd hj (Nat.not_lt_zero j),fun j hj=>absurd hj (Nat.not_lt_zero j),fun j hj=>absurd hj (Nat.not_lt_zero j)⟩
  obtain ⟨i1,i2,i3,i4⟩:=inv
  obtain ⟨⟨⟨x1,y1,z1⟩,_⟩,⟨x2,y2,z2⟩,_⟩:=B
  obtain ⟨⟨⟨x3,y3,z3⟩,_⟩,⟨x4,y4,z4⟩,_⟩:=D
  have pl:∀ x,Cor g x→s28 (toL x) at_=rd_ (plF at_ x):=fun x hx=>(zlm (zbM G hx) hz).2
  have t1:=(has x3 y3).elim fun i hi=>i1 i hi.1 (by rw [hi.2];exact z3)
  have t2:=(has x4 y4).elim fun i hi=>i2 i hi.1 (by rw [hi.2];exact z4)
  have t3:=(has x1 y1).elim fun i hi=>i3 i hi.1 (by rw [hi.2,pl x1 y1];exact z1)
  have t4:=(has x2 y2).elim fun i hi=>i4 i hi.1 (by rw [hi.2,pl x2 y2];exact z2)
  have loop := zeu (σ := Fl) (step := stp) (E := fun v => zhq g at_ (toL L).Slope.Num (toL L).Slope.Den (toL L).Start.Num (toL L).Start.Den p (s36 g at_).1.Num (s36 g at_).1.Den (s36 g at_).2.Num (s36 g at_).2.Den (s37 g).1.Num (s37 g).1.Den (s37 g).2.Num (s37 g).2.Den v.1 v.2.1 v.2.2.1 v.2.2.2)
    (EP:=fun v=>zhr g at_ (toL L).Slope.Num (toL L).Slope.Den (toL L).Start.Num (toL L).Start.Den p (s36 g at_).1.Num (s36 g at_).1.Den (s36 g at_).2.Num (s36 g at_).2.Den (s37 g).1.Num (s37 g).1.Den (s37 g).2.Num (s37 g).2.Den v.1 v.2.1 v.2.2.1 v.2.2.2)
    (Inv:=fun _ _=>True) (a:=0) (n:=c.len)
    (lpS:=fun k v i=>zhs g at_ (toL L).Slope.Num (toL L).Slope.Den (toL L).Start.Num (toL L).Start.Den p c (s36 g at_).1.Num (s36 g at_).1.Den (s36 g at_).2.Num (s36 g at_).2.Den (s37 g).1.Num (s37 g).1.Den (s37 g).2.Num (s37 g).2.Den k v.1 v.2.1 v.2.2.1 v.2.2.2 i)
    (lpP:=fun k v i=>zht g at_ (toL L).Slope.Num (toL L).Slope.Den (toL L).Start.Num (toL L).Start.Den p c (s36 g at_).1.Num (s36 g at_).1.Den (s36 g at_).2.Num (s36 g at_).2.Den (s37 g).1.Num (s37 g).1.Den (s37 g).2.Num (s37 g).2.Den k v.1 v.2.1 v.2.2.1 v.2.2.2 i)
    (fun k i v _ hi _=>by
      obtain ⟨a1,a2,a3,a4,a5,a6⟩:=q i hi
      have:=(zDP g at_ (toL L) p c (s36 g at_).1 (s36 g at_).2 (s37 g).1 (s37 g).2 i hi (by omega) (fun _ _ _ _ _=>true) (zhs g at_ (toL L).Slope.Num (toL L).Slope.Den (toL L).Start.Num (toL L).Start.Den p c (s36 g at_).1.Num (s36 g at_).1.Den (s36 g at_).2.Num (s36 g at_).2.Den (s37 g).1.Num (s37 g).1.Den (s37 g).2.Num (s37 g).2.Den k) v a1 a2 a3 a4 a5 a6).2
      rw [zbD (n:=c.len) hi (by omega)]
      exact this)
    (fun k v=>by
      show zfW g at_ _ _ _ _ p c _ _ _ _ _ _ _ _ (zhs g at_ _ _ _ _ p c _ _ _ _ _ _ _ _ k) v.1 v.2.1 v.2.2.1 v.2.2.2 (c.len:Int)=_
      unfold zfW
      rw [decide_eq_false (show ¬ (c.len:Int) < (c.len:Int) by omega),cond_false])
    (fun k i v _ hi _=>by
      obtain ⟨a1,a2,a3,a4,a5,a6⟩:=q i hi
      have:=(zDP g at_ (toL L) p c (s36 g at_).1 (s36 g at_).2 (s37 g).1 (s37 g).2 i hi (by omega) (zht g at_ (toL L).Slope.Num (toL L).Slope.Den (toL L).Start.Num (toL L).Start.Den p c (s36 g at_).1.Num (s36 g at_).1.Den (s36 g at_).2.Num (s36 g at_).2.Den (s37 g).1.Num (s37 g).1.Den (s37 g).2.Num (s37 g).2.Den k) (fun _ _ _ _ _=>true) v a1 a2 a3 a4 a5 a6).1
      rw [zbD (n:=c.len) hi (by omega)]
      exact this)
    (fun k v=>by
      show zfX g at_ _ _ _ _ p c _ _ _ _ _ _ _ _ (zht g at_ _ _ _ _ p c _ _ _ _ _ _ _ _ k) v.1 v.2.1 v.2.2.1 v.2.2.2 (c.len:Int)=_
      unfold zfX
      rw [decide_eq_false (show ¬ (c.len:Int) < (c.len:Int) by omega),cond_false])
    (fun _ _ _ _ _=>trivial) (Nat.zero_le _) (by omega) (false,false,false,false) trivial
  obtain ⟨l1,l2⟩:=loop
  rw [show c.len - 0=c.len from rfl] at l1 l2
  generalize zgM stp c.len 0 (false,false,false,false)=v at t1 t2 t3 t4 l1 l2
  obtain ⟨v1,v2,v3,v4⟩:=v
  simp only at t1 t2 t3 t4 l1 l2
  rw [t1,t2,t3,t4] at l1 l2
  exact ⟨l1.trans fin.1,l2.trans fin.2⟩
theorem zCv (g : Sl Gate) (hn : g.len ≤ 9223372036854775807) (G : zaC g) (hv : s20 g = true) (hf : s22 g = false) (L : straight) (SL : SOK L) (at_ : Int) (h1 : -100000 ≤ at_ ∧ at_ ≤ 200000) (p : Sl Int) (pa : ¬ (p.len : Int) < (g.len : Int) ↔ zhA g L) :
  znQ g at_ (toL L).Slope.Num (toL L).Slope.Den (toL L).Start.Num (toL L).Start.Den p=true∧znP g at_ (toL L).Slope.Num (toL L).Slope.Den (toL L).Start.Num (toL L).Start.Den p=true:=by
 have hl:=G.2
 unfold znQ znP zr2 zr1
 obtain ⟨w1,w2,w3,w4⟩:=zLk g hn
 rw [w1,w2]
 cases hs:s21 g
 ·have ce : coE g = 5 := by unfold coE; rw [hv, hs]; rfl
  rw [ce,show ((5:Int) != 0)=true from rfl,show ((5:Int) == 5)=true from rfl,cond_true,cond_true,cond_true]
  have na:(p.len:Int) < (g.len:Int):=Classical.byContradiction fun h=>by
   have:=(zCt G hf).2 ⟨L,by have:=SL.2.2;omega,pa.1 h⟩
   rw [hs] at this;cases this
  rw [decide_eq_true na,cond_true]
  exact ⟨rfl,rfl⟩
 ·have ce : coE g = 0 := by unfold coE; rw [hv, hs, hf]; rfl
  obtain ⟨q1,q2,q3,_⟩:=w4 ce
  rw [ce,bne_self_eq_false,cond_false,cond_false]
  have T:=zCu g G hf hs (s31 g).1 q1 L SL at_ (by omega) p pa.1
  unfold zr0 zrZ zrY zrX zrW zrV
  obtain ⟨a1,a2⟩:=zLd g hn at_
  obtain ⟨b1,b2⟩:=zLe g hn
  have a2:s30 g at_=((s36 g at_).1,(s36 g at_).2,0):=by
   rw [a2,ziI,decide_eq_true (show -100000≤at_∧at_≤200000 by omega)]
   unfold atR;rw [hv,hs,hf];rfl
  have b2:s35 g=((s37 g).1,(s37 g).2,0):=by rw [b2];unfold slR;rw [hv,hs,hf];rfl
  rw [a1,a2,b1,b2,show (((s31 g).1.len:Int) == 0)=false by rw [beq_eq_false_iff_ne];have:=q1.1;omega]
  generalize s36 g at_=A at T ⊢
  generalize s37 g=B at T ⊢
  generalize (s31 g).1=C at T ⊢
  obtain ⟨T1,T2⟩:=T
  dsimp only
  rw [bne_self_eq_false,cond_false,cond_false,cond_false,cond_false,cond_false,cond_false,T1,T2]
  exact ⟨rfl,rfl⟩
theorem true_true (g:Sl Gate) (hn:g.len≤9223372036854775807) (z x w y at_:Int):p14 g z x w y at_=true∧s14 g z x w y at_=true:=by
 obtain ⟨v1,_⟩:=zzW g hn
 unfold p14 s14 zgJ zgI
 rw [v1]
 cases hv:s20 g
 ·exact ⟨rfl,rfl⟩
 cases he:s25 z x w y
 ·exact ⟨rfl,rfl⟩
 have G:=(zoc g hn).1 hv
 have hl:=G.2
 have E:=(zH0 z x w y).1 he
 by_cases h1:at_ < -100000
 ·rw [decide_eq_true h1];exact ⟨rfl,rfl⟩
 by_cases h2:at_ > 200000
 ·rw [decide_eq_false h1,decide_eq_true h2];exact ⟨rfl,rfl⟩
 rw [decide_eq_false h1,decide_eq_false h2,(zmc g G).1]
 cases hf:s22 g
 ·obtain ⟨e1, e2, SL⟩ := zH1 E
  rw [Bool.not_true,cond_false,cond_false,cond_false,cond_false,cond_false,cond_false,cond_false,cond_false,cond_false,cond_false,decide_eq_true (show true=true from rfl),Bool.true_and,Bool.true_and]
  unfold zr8 zr7 zr6 zr5 zr4 zr3
  rw [e1,e2]
  generalize thr z x w y=L at SL
  have eL:(⟨⟨(toL L).Slope.Num,(toL L).Slope.Den⟩,⟨(toL L).Start.Num,(toL L).Start.Den⟩⟩:Line)=toL L:=rfl
  obtain ⟨u1,u2⟩:=zDF (toL L) g (by omega)
  have u2:s52 (toL L) g=(zuH (toL L) g,0):=by rw [u2,zAw SL,(zma g hn).2.2 G];rfl
  have pa : ¬ ((zuH (toL L) g).len:Int) < (g.len:Int)↔zhA g L:=by
   have:=(zn9 G SL).2
   rw [(zzZ (toL L) g (by omega)).2] at this
   rw [this,Classical.not_not]
  obtain ⟨T1,T2⟩:=zCv g hn G hv hf L SL at_ (by omega) _ pa
  rw [eL,u1,u2]
  dsimp only
  rw [bne_self_eq_false,cond_false,cond_false,T1,T2]
  exact ⟨rfl,rfl⟩
 ·exact ⟨rfl,rfl⟩
end Go.Proofs
