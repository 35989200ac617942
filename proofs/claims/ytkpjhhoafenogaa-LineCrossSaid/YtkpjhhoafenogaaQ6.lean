/- Part 6 of what the proof rests on: a machine that runs functions of the program on pure values, proved sound; the functions that the law reaches, and what they compute. -/
import Derived.Test.YtkpjhhoafenogaaQ5
set_option linter.all false
namespace Go.Proofs
open Go Go.Pm
set_option maxRecDepth 100000
def red (num den:Int):Frac:=⟨num.tdiv (Int.gcd num den:Int),den.tdiv (Int.gcd num den:Int)⟩
theorem zC7 (num:Int):(if -num > num then -num else num)=(num.natAbs:Int):=by split <;> omega
theorem zzC (num den:Int):Int.gcd (num.natAbs:Int) den=Int.gcd num den:=by
 unfold Int.gcd;rw [Int.natAbs_natCast]
theorem zch {num den:Int} (hd:0 < den):0 < (Int.gcd num den:Int):=by
 have:Int.gcd num den ≠ 0:=fun h=>by have:=(Int.gcd_eq_zero_iff.1 h).2;omega
 omega
theorem zOc (num den:Int):∃ a,num=(Int.gcd num den:Int) * a:=Int.gcd_dvd_left num den
theorem zOd (num den:Int):∃ a,den=(Int.gcd num den:Int) * a:=Int.gcd_dvd_right num den
theorem zdM {num den:Int} (hd:0 < den):(Int.gcd num den:Int) * (red num den).Num=num:=by
 have hg:=zch (num:=num) hd
 obtain ⟨a,ha⟩:=zOc num den
 show (Int.gcd num den:Int) * num.tdiv (Int.gcd num den:Int)=num
 generalize (Int.gcd num den:Int)=g at ha hg ⊢
 rw [ha,Int.mul_tdiv_cancel_left _ (by omega)]
theorem zdf {num den:Int} (hd:0 < den):(Int.gcd num den:Int) * (red num den).Den=den:=by
 have hg:=zch (num:=num) hd
 obtain ⟨a,ha⟩:=zOd num den
 show (Int.gcd num den:Int) * den.tdiv (Int.gcd num den:Int)=den
 generalize (Int.gcd num den:Int)=g at ha hg ⊢
 rw [ha,Int.mul_tdiv_cancel_left _ (by omega)]
theorem zcM {num den:Int} (hd:0 < den):0 < (red num den).Den:=by
 have h1:=zdf (num:=num) hd
 have hg:=zch (num:=num) hd
 rcases Int.lt_or_le 0 (red num den).Den with h | h
 ·exact h
 ·have := Int.mul_le_mul_of_nonneg_left h (Int.le_of_lt hg)
  rw [h1,Int.mul_zero] at this
  omega
theorem zkD {num den:Int} (hd:0 < den):(red num den).Den≤den:=by
 have h1:=zdf (num:=num) hd
 have hg:=zch (num:=num) hd
 have:=Int.mul_le_mul_of_nonneg_right (show (1:Int)≤(Int.gcd num den:Int) by omega) (Int.le_of_lt (zcM (num:=num) hd))
 omega
theorem zgy {num den:Int} (hd:0 < den) : -(num.natAbs:Int)≤(red num den).Num∧(red num den).Num≤(num.natAbs:Int):=by
 have h1:=zdM (num:=num) hd
 have hg:=zch (num:=num) hd
 have h2:num.natAbs=(Int.gcd num den) * (red num den).Num.natAbs:=by
  have:=congrArg Int.natAbs h1
  rw [Int.natAbs_mul] at this
  simpa using this.symm
 have h3:(red num den).Num.natAbs≤num.natAbs:=by
  rw [h2];exact Nat.le_mul_of_pos_left _ (by omega)
 omega
theorem zzD {num den:Int} (hd:0 < den):Int.gcd (red num den).Num (red num den).Den=1:=by
 have h1:=zdM (num:=num) hd
 have h2:=zdf (num:=num) hd
 have hg:=zch (num:=num) hd
 have h3:Int.gcd ((Int.gcd num den:Int) * (red num den).Num) ((Int.gcd num den:Int) * (red num den).Den)=Int.gcd num den * Int.gcd (red num den).Num (red num den).Den:=by
  rw [Int.gcd_mul_left];simp
 rw [h1,h2] at h3
 have h4:Int.gcd num den * 1=Int.gcd num den * Int.gcd (red num den).Num (red num den).Den:=by rw [Nat.mul_one];exact h3
 exact (Nat.eq_of_mul_eq_mul_left (by omega) h4).symm
theorem zzE {a b c d:Int} (hb:0 < b) (hd:0 < d):red a b=red c d↔a * d=c * b:=by
 have a1:=zdM (num:=a) hb
 have a2:=zdf (num:=a) hb
 have c1:=zdM (num:=c) hd
 have c2:=zdf (num:=c) hd
 constructor
 ·intro h
  rw [h] at a1 a2
  generalize hG:(Int.gcd a b:Int)=G at a1 a2
  generalize hK:(Int.gcd c d:Int)=K at c1 c2
  generalize (red c d).Num=x at a1 c1
  generalize (red c d).Den=y at a2 c2
  subst a1;subst a2;subst c1;subst c2
  ac_rfl
 ·intro h
  have ga:=zzD (num:=a) hb
  have gc:=zzD (num:=c) hd
  have pa:=zcM (num:=a) hb
  have pc:=zcM (num:=c) hd
  have hG:=zch (num:=a) hb
  have hK:=zch (num:=c) hd
  -- cross products of the lowest forms
  have hx:(red a b).Num * (red c d).Den=(red c d).Num * (red a b).Den:=by
   have e:((Int.gcd a b:Int) * (Int.gcd c d:Int)) * ((red a b).Num * (red c d).Den)=((Int.gcd a b:Int) * (Int.gcd c d:Int)) * ((red c d).Num * (red a b).Den):=by
    have l1:((Int.gcd a b:Int) * (Int.gcd c d:Int)) * ((red a b).Num * (red c d).Den)=((Int.gcd a b:Int) * (red a b).Num) * ((Int.gcd c d:Int) * (red c d).Den):=by
     generalize (Int.gcd a b:Int)=G;generalize (Int.gcd c d:Int)=K
     ac_rfl
    have l2:((Int.gcd a b:Int) * (Int.gcd c d:Int)) * ((red c d).Num * (red a b).Den)=((Int.gcd c d:Int) * (red c d).Num) * ((Int.gcd a b:Int) * (red a b).Den):=by
     generalize (Int.gcd a b:Int)=G;generalize (Int.gcd c d:Int)=K
     ac_rfl
    rw [l1,l2,a1,a2,c1,c2];exact h
   exact Int.eq_of_mul_eq_mul_left (by have:=Int.mul_pos hG hK;omega) e
  have hx':=congrArg Int.natAbs hx
  rw [Int.natAbs_mul,Int.natAbs_mul] at hx'
  have ga':Nat.Coprime (red a b).Den.natAbs (red a b).Num.natAbs:=(Nat.gcd_comm _ _).trans ga
  have gc':Nat.Coprime (red c d).Den.natAbs (red c d).Num.natAbs:=(Nat.gcd_comm _ _).trans gc
  have d1:(red a b).Den ∣ (red c d).Den:=Int.natAbs_dvd_natAbs.1 (ga'.dvd_of_dvd_mul_left ⟨(red c d).Num.natAbs,by rw [hx',Nat.mul_comm]⟩)
  have d2:(red c d).Den ∣ (red a b).Den:=Int.natAbs_dvd_natAbs.1 (gc'.dvd_of_dvd_mul_left ⟨(red a b).Num.natAbs,by rw [← hx',Nat.mul_comm]⟩)
  have hden:(red a b).Den=(red c d).Den:=Int.le_antisymm (Int.le_of_dvd pc d1) (Int.le_of_dvd pa d2)
  rw [← hden] at hx
  have hnum:=Int.eq_of_mul_eq_mul_right (by omega) hx
  cases h1:red a b;cases h2:red c d
  rw [h1,h2] at hden hnum
  simp only at hden hnum
  rw [hden,hnum]
theorem zlu {num den:Int} (h1 : -4611686018427387904≤num) (h2:num≤4611686018427387904) (hd:0 < den) (hd2:den≤4611686018427387904):p89 num den=true∧s89 num den=red num den:=by
 have e:w64 (0 - num) = -num:=by rw [zaH (by omega) (by omega)];omega
 obtain ⟨g1,g2⟩:=zHn (num.natAbs:Int) den (by omega) (by omega) (by omega)
 have hg:=zch (num:=num) hd
 have r1:=zgy (num:=num) hd
 have r2:=zkD (num:=num) hd
 have r3:=zcM (num:=num) hd
 unfold p89 s89
 rw [e,zC7,g1,g2,zzC]
 have w1:w64 (num.tdiv (Int.gcd num den:Int))=(red num den).Num:=zaH (by show _≤(red num den).Num;omega) (by show (red num den).Num≤_;omega)
 have w2:w64 (den.tdiv (Int.gcd num den:Int))=(red num den).Den:=zaH (by show _≤(red num den).Den;omega) (by show (red num den).Den≤_;omega)
 rw [w1,w2,decide_eq_true (show (Int.gcd num den:Int) ≠ 0 by omega)]
 exact ⟨by simp only [decide_true,Bool.and_self],by cases red num den;simp only⟩
theorem zg7 {num den:Int} (h1 : -4611686018427387904≤num) (h2:num≤4611686018427387904) (hd:0 < den) (hd2:den≤4611686018427387904):p40 num den=true∧s40 num den=red num den:=by
 have e:w64 (0 - num) = -num:=by rw [zaH (by omega) (by omega)];omega
 obtain ⟨g1,g2⟩:=zC6 (num.natAbs:Int) den (by omega) (by omega) (by omega)
 have hg:=zch (num:=num) hd
 have r1:=zgy (num:=num) hd
 have r2:=zkD (num:=num) hd
 have r3:=zcM (num:=num) hd
 unfold p40 s40
 rw [e,zC7,g1,g2,zzC]
 have w1:w64 (num.tdiv (Int.gcd num den:Int))=(red num den).Num:=zaH (by show _≤(red num den).Num;omega) (by show (red num den).Num≤_;omega)
 have w2:w64 (den.tdiv (Int.gcd num den:Int))=(red num den).Den:=zaH (by show _≤(red num den).Den;omega) (by show (red num den).Den≤_;omega)
 rw [w1,w2,decide_eq_true (show (Int.gcd num den:Int) ≠ 0 by omega)]
 exact ⟨by simp only [decide_true,Bool.and_self],by cases red num den;simp only⟩
end Go.Proofs
namespace Go.Proofs
open Go Go.Pm
set_option maxRecDepth 100000
theorem zkM {x y X Y:Int} (h1 : -X≤x) (h2:x≤X) (h3:0≤y) (h4:y≤Y) : -(X * Y)≤x * y∧x * y≤X * Y:=by
 have hX:0≤X:=by omega
 have a:=Int.mul_le_mul_of_nonneg_right h2 h3
 have b:=Int.mul_le_mul_of_nonneg_left h4 hX
 have c:=Int.mul_le_mul_of_nonneg_right h1 h3
 rw [Int.neg_mul] at c
 omega
def thr (z p y q:Int):straight:=if z > y then ⟨p - q,q * z - p * y,z - y⟩ else ⟨q - p,p * y - q * z,y - z⟩
def toL (s:straight):Line:=⟨red s.slope s.den,red s.start s.den⟩
theorem zm2 {z p y q:Int} (hz:0≤z∧z≤100000) (hy:0≤y∧y≤100000) (hp : -1000000≤p∧p≤1000000) (hq : -1000000≤q∧q≤1000000):zkK z p y q=thr z p y q:=by
 have b1:=zkM hp.1 hp.2 hy.1 hy.2
 have b2:=zkM hq.1 hq.2 hz.1 hz.2
 unfold zkK ziU thr
 rw [zaH (x:=p * y) (by omega) (by omega),zaH (x:=q * z) (by omega) (by omega)]
 by_cases h:z > y
 ·rw [decide_eq_true h,cond_true,if_pos h,zaH (by omega) (by omega),zaH (by omega) (by omega),zaH (by omega) (by omega)]
 ·rw [decide_eq_false h,cond_false,if_neg h,zaH (by omega) (by omega),zaH (by omega) (by omega),zaH (by omega) (by omega)]
theorem zKG {z p y q:Int} (hz:0≤z∧z≤100000) (hy:0≤y∧y≤100000) (hp : -1000000≤p∧p≤1000000) (hq : -1000000≤q∧q≤1000000) (hn:z ≠ y):p26 z p y q=true∧s26 z p y q=toL (thr z p y q):=by
 have b1:=zkM hp.1 hp.2 hy.1 hy.2
 have b2:=zkM hq.1 hq.2 hz.1 hz.2
 unfold p26 s26 zmM zmL thr toL
 rw [zaH (x:=p * y) (by omega) (by omega),zaH (x:=q * z) (by omega) (by omega)]
 by_cases h:z > y
 ·rw [decide_eq_true (show y < z from h), cond_true, cond_true, if_pos h, zaH (x := p - q) (by omega) (by omega), zaH (x := z - y) (by omega) (by omega), zaH (x := q * z - p * y) (by omega) (by omega)]
  obtain ⟨c1,c2⟩:=zg7 (num:=p - q) (den:=z - y) (by omega) (by omega) (by omega) (by omega)
  obtain ⟨d1,d2⟩:=zg7 (num:=q * z - p * y) (den:=z - y) (by omega) (by omega) (by omega) (by omega)
  rw [c1,c2,d1,d2]
  exact ⟨by simp only [decide_true,Bool.and_self],rfl⟩
 ·rw [decide_eq_false (show ¬ y < z from h), cond_false, cond_false, if_neg h, zaH (x := q - p) (by omega) (by omega), zaH (x := y - z) (by omega) (by omega), zaH (x := p * y - q * z) (by omega) (by omega)]
  obtain ⟨c1,c2⟩:=zg7 (num:=q - p) (den:=y - z) (by omega) (by omega) (by omega) (by omega)
  obtain ⟨d1,d2⟩:=zg7 (num:=p * y - q * z) (den:=y - z) (by omega) (by omega) (by omega) (by omega)
  rw [c1,c2,d1,d2]
  exact ⟨by simp only [decide_true,Bool.and_self],rfl⟩
def zsK (a b:Gate):List straight:=if a.Z=b.Z then [] else [thr a.Z a.Low b.Z b.Low,thr a.Z a.Low b.Z b.High,thr a.Z a.High b.Z b.Low,thr a.Z a.High b.Z b.High]
def ztM (g : Sl Gate) (i : Nat) : Nat → Nat → List straight
  | 0,_=>[]
  | m+1,k=>zsK (g.get i) (g.get k) ++ ztM g i m (k+1)
def zC8 (g : Sl Gate) : Nat → Nat → List straight
  | 0,_=>[]
  | m+1,i=>ztM g i (g.len - (i+1)) (i+1) ++ zC8 g m (i+1)
def cst (g:Sl Gate):List straight:=zC8 g g.len 0
theorem zeS {g:Gate} (h:zfY g) : -1000000≤g.Low∧g.Low≤1000000:=⟨h.2.1,by have:=h.2;omega⟩
theorem zfR {g:Gate} (h:zfY g) : -1000000≤g.High∧g.High≤1000000:=⟨by have:=h.2;omega,h.2.2.2⟩
theorem zNk (g : Sl Gate) (G : zaC g) (i : Nat) (hi : i < g.len) (sl : Sl Gate) (hs : sl.len = g.len - (i + 1)) (hg : ∀ x, sl.get x = g.get (x + (i + 1)))
    (S0:Int→List straight) (P0:Int→Bool):∀ (m k j:Nat),j+m=sl.len→m < k →
    zdp P0 ⟨g⟩ k (i:Int) sl (sl.len:Int) (j:Int) (g.get i).Z (g.get i).Low (g.get i).High=P0 ((i+1:Nat):Int) ∧
    zdo S0 ⟨g⟩ k (i:Int) sl (sl.len:Int) (j:Int) (g.get i).Z (g.get i).Low (g.get i).High=ztM g i m (j+(i+1)) ++ S0 ((i+1:Nat):Int):=by
  have hl:=G.2.2
  intro m
  induction m with
  | zero =>
    intro k j hj hk
    obtain ⟨k,rfl⟩:∃ k',k=k'+1:=⟨k - 1,by omega⟩
    show zex P0 ⟨g⟩ (zdp P0 ⟨g⟩ k) _ _ _ _ _ _ _=_∧zew S0 ⟨g⟩ (zdo S0 ⟨g⟩ k) _ _ _ _ _ _ _=_
    unfold zex zew
    rw [decide_eq_false (show ¬ (j:Int) < (sl.len:Int) by omega),cond_false,cond_false,zbF (n:=g.len) hi (by omega)]
    exact ⟨rfl,rfl⟩
  | succ m ih =>
    intro k j hj hk
    obtain ⟨k,rfl⟩:∃ k',k=k'+1:=⟨k - 1,by omega⟩
    obtain ⟨i1,i2⟩:=ih k (j+1) (by omega) (by omega)
    show zex P0 ⟨g⟩ (zdp P0 ⟨g⟩ k) _ _ _ _ _ _ _=_∧zew S0 ⟨g⟩ (zdo S0 ⟨g⟩ k) _ _ _ _ _ _ _=ztM g i (m+1) (j+(i+1)) ++ _
    generalize zdp P0 ⟨g⟩ k=P at i1
    generalize zdo S0 ⟨g⟩ k=S at i2
    unfold zex zew
    have gi:=G.1 i hi
    have gk:=G.1 (j+(i+1)) (by omega)
    rw [decide_eq_true (show (j:Int) < (sl.len:Int) by omega),decide_eq_true (show 0≤(j:Int)∧(j:Int) < (sl.len:Int) by omega),cond_true,cond_true,Bool.true_and,Int.toNat_natCast,hg,
      zbF (n:=sl.len) (by omega) (by omega),i1,i2,zm2 gi.1 gk.1 (zeS gi) (zeS gk),zm2 gi.1 gk.1 (zeS gi) (zfR gk),zm2 gi.1 gk.1 (zfR gi) (zeS gk),zm2 gi.1 gk.1 (zfR gi) (zfR gk)]
    show _∧_=(zsK (g.get i) (g.get (j+(i+1))) ++ ztM g i m (j+(i+1)+1)) ++ _
    rw [show j+1+(i+1)=j+(i+1)+1 by omega]
    unfold zsK
    by_cases hz:(g.get i).Z=(g.get (j+(i+1))).Z
    · rw [if_pos hz, show ((g.get i).Z == (g.get (j + (i + 1))).Z) = true by simpa using hz]
      exact ⟨rfl,rfl⟩
    · rw [if_neg hz, show ((g.get i).Z == (g.get (j + (i + 1))).Z) = false by simpa using hz]
      exact ⟨rfl,rfl⟩
theorem zHo (g:Sl Gate) (G:zaC g):zD7 ⟨g⟩=true∧zCj ⟨g⟩=cst g:=by
 have hl:=G.2.2
 have key:∀ (m k i:Nat),i+m=g.len→m < k→zdr ⟨g⟩ k (i:Int)=true∧zdq ⟨g⟩ k (i:Int)=zC8 g m i:=by
  intro m
  induction m with
  | zero =>
   intro k i hi hk
   obtain ⟨k,rfl⟩:∃ k',k=k'+1:=⟨k - 1,by omega⟩
   show zez ⟨g⟩ (zdr ⟨g⟩ k) _=_∧zey ⟨g⟩ (zdq ⟨g⟩ k) _=_
   unfold zez zey
   rw [decide_eq_false (show ¬ (i:Int) < (g.len:Int) by omega),cond_false,cond_false]
   exact ⟨rfl,rfl⟩
  | succ m ih =>
   intro k i hi hk
   obtain ⟨k,rfl⟩:∃ k',k=k'+1:=⟨k - 1,by omega⟩
   obtain ⟨i1,i2⟩:=ih k (i+1) (by omega) (by omega)
   show zez ⟨g⟩ (zdr ⟨g⟩ k) _=_∧zey ⟨g⟩ (zdq ⟨g⟩ k) _=ztM g i (g.len - (i+1)) (i+1) ++ zC8 g m (i+1)
   generalize zdr ⟨g⟩ k=P at i1
   generalize zdq ⟨g⟩ k=S at i2
   unfold zez zey zl9 zl8
   rw [zbF (n:=g.len) (by omega) (by omega)]
   rw [decide_eq_true (show (i:Int) < (g.len:Int) by omega),decide_eq_true (show 0≤(i:Int)∧(i:Int) < (g.len:Int) by omega),decide_eq_true (show 0≤((i+1:Nat):Int)∧((i+1:Nat):Int)≤(g.len:Int)∧(g.len:Int)≤(g.len:Int) by omega),
    cond_true,cond_true,Bool.true_and,Bool.true_and,Int.toNat_natCast,Int.toNat_natCast]
   have hs:((g.len:Int) - ((i+1:Nat):Int)).toNat=g.len - (i+1):=by omega
   have:=zNk g G i (by omega) (⟨((g.len:Int) - ((i+1:Nat):Int)).toNat,fun x=>g.get (x+(i+1))⟩:Sl Gate) hs (fun _=>rfl) S P (g.len - (i+1)) Fuel 0 (by show 0+(g.len - (i+1))=((g.len:Int) - ((i+1:Nat):Int)).toNat;omega) (by simp only [Fuel];omega)
   rw [i1,i2,Nat.zero_add] at this
   exact this
 exact key g.len Fuel 0 (by omega) (by simp only [Fuel];omega)
end Go.Proofs
namespace Go.Proofs
open Go Go.Pm
set_option maxRecDepth 100000
def apL {α:Type} (v:Sl α) (x:α):Sl α:=⟨v.len+1,zdW v.len v.get (fun _=>x)⟩
theorem zm3 (g:Gate):zsy g 0=g.Low:=rfl
theorem zm4 (g:Gate):zsy g 1=g.High:=rfl
theorem zNl (g : Sl Gate) (G : zaC g) (i k : Nat) (hi : i < g.len) (hk : k < g.len) (S0 : Int → Sl Line → Sl Line) (S1 : Int → Int → Sl Line → Sl Line) (P0 : Int → Sl Line → Bool) (P1 : Int → Int → Sl Line → Bool) (v : Sl Line) (hv : v.len ≤ 100000) (F : Nat) (hF : 5 ≤ F) :
  zde P0 P1 g F (i:Int) (k:Int) 0 v=P1 (i:Int) ((k+1:Nat):Int) (((zsK (g.get i) (g.get k)).map toL).foldl apL v) ∧
  zdd S0 S1 g F (i:Int) (k:Int) 0 v=S1 (i:Int) ((k+1:Nat):Int) (((zsK (g.get i) (g.get k)).map toL).foldl apL v):=by
 have hl:=G.2.2
 obtain ⟨f,rfl⟩:∃ f,F=f+5:=⟨F - 5,by omega⟩
 have gi:=G.1 i hi
 have gk:=G.1 k hk
 have ei:decide (0≤(i:Int)∧(i:Int) < (g.len:Int))=true:=decide_eq_true (by omega)
 have ek:decide (0≤(k:Int)∧(k:Int) < (g.len:Int))=true:=decide_eq_true (by omega)
 have e2:decide ((2:Int) ≠ 0)=true:=by decide
 have sk:w64 ((k:Int)+(1:Int))=((k+1:Nat):Int):=zbF (n:=g.len) hk (by omega)
 -- one round
 have step:∀ (m:Nat) (e:Int) (v:Sl Line) (p q:Int),(0≤e∧e < 4)→v.len≤200000→zsy (g.get i) (w64 (e.tdiv (2:Int)))=p→zsy (g.get k) (e.tmod (2:Int))=q →
   (-1000000≤p∧p≤1000000)→(-1000000≤q∧q≤1000000)→(g.get i).Z ≠ (g.get k).Z →
   zde P0 P1 g (m+1) (i:Int) (k:Int) e v=zde P0 P1 g m (i:Int) (k:Int) (e+1) (apL v (toL (thr (g.get i).Z p (g.get k).Z q))) ∧
   zdd S0 S1 g (m+1) (i:Int) (k:Int) e v=zdd S0 S1 g m (i:Int) (k:Int) (e+1) (apL v (toL (thr (g.get i).Z p (g.get k).Z q))):=by
  intro m e v p q he hv hp hq bp bq hz
  show zfo P0 P1 g (zde P0 P1 g m) _ _ _ _=_∧zfn S0 S1 g (zdd S0 S1 g m) _ _ _ _=_
  generalize zde P0 P1 g m=P
  generalize zdd S0 S1 g m=S
  obtain ⟨t1,t2⟩:=zKG gi.1 gk.1 bp bq hz
  unfold zfo zfn
  rw [Int.toNat_natCast,Int.toNat_natCast,hp,hq,t1,t2,decide_eq_true (show e < 4 from he.2),ei,ek,e2,zaH (x:=e+1) (by omega) (by omega),
   show ((g.get i).Z != (g.get k).Z)=true by simpa using hz,decide_eq_true (show (v.len+1) * 32≤140737488355328∧v.len+1≤9223372036854775807 by omega)]
  exact ⟨rfl,rfl⟩
 unfold zsK
 by_cases hz:(g.get i).Z=(g.get k).Z
 ·rw [if_pos hz]
  show zfo P0 P1 g (zde P0 P1 g (f+4)) _ _ _ _=_∧zfn S0 S1 g (zdd S0 S1 g (f+4)) _ _ _ _=_
  generalize zde P0 P1 g (f+4)=P
  generalize zdd S0 S1 g (f+4)=S
  unfold zfo zfn
  rw [Int.toNat_natCast,Int.toNat_natCast,ei,ek,sk,decide_eq_true (show (0:Int) < 4 by omega),show ((g.get i).Z != (g.get k).Z)=false by simpa using hz]
  exact ⟨rfl,rfl⟩
 ·rw [if_neg hz]
  have a0:=step (f+4) 0 v _ _ (by omega) (by omega) (zm3 _) (zm3 _) (zeS gi) (zeS gk) hz
  generalize hv1:apL v (toL (thr (g.get i).Z (g.get i).Low (g.get k).Z (g.get k).Low))=v1 at a0
  have l1:v1.len=v.len+1:=by rw [← hv1];rfl
  have a1:=step (f+3) 1 v1 _ _ (by omega) (by omega) (zm3 _) (zm4 _) (zeS gi) (zfR gk) hz
  generalize hv2:apL v1 (toL (thr (g.get i).Z (g.get i).Low (g.get k).Z (g.get k).High))=v2 at a1
  have l2:v2.len=v1.len+1:=by rw [← hv2];rfl
  have a2:=step (f+2) 2 v2 _ _ (by omega) (by omega) (zm4 _) (zm3 _) (zfR gi) (zeS gk) hz
  generalize hv3:apL v2 (toL (thr (g.get i).Z (g.get i).High (g.get k).Z (g.get k).Low))=v3 at a2
  have l3:v3.len=v2.len+1:=by rw [← hv3];rfl
  have a3:=step (f+1) 3 v3 _ _ (by omega) (by omega) (zm4 _) (zm4 _) (zfR gi) (zfR gk) hz
  generalize hv4:apL v3 (toL (thr (g.get i).Z (g.get i).High (g.get k).Z (g.get k).High))=v4 at a3
  have b4:zde P0 P1 g (f+1) (i:Int) (k:Int) 4 v4=P1 (i:Int) ((k+1:Nat):Int) v4∧zdd S0 S1 g (f+1) (i:Int) (k:Int) 4 v4=S1 (i:Int) ((k+1:Nat):Int) v4:=by
   show zfo P0 P1 g (zde P0 P1 g f) _ _ _ _=_∧zfn S0 S1 g (zdd S0 S1 g f) _ _ _ _=_
   generalize zde P0 P1 g f=P
   generalize zdd S0 S1 g f=S
   unfold zfo zfn
   rw [sk,decide_eq_false (show ¬ (4:Int) < 4 by omega)]
   exact ⟨rfl,rfl⟩
  have fin:(([thr (g.get i).Z (g.get i).Low (g.get k).Z (g.get k).Low,thr (g.get i).Z (g.get i).Low (g.get k).Z (g.get k).High,thr (g.get i).Z (g.get i).High (g.get k).Z (g.get k).Low,thr (g.get i).Z (g.get i).High (g.get k).Z (g.get k).High]:List straight).map toL).foldl apL v=v4:=by
   simp only [List.map_cons,List.map_nil,List.foldl_cons,List.foldl_nil,hv1,hv2,hv3,hv4]
  rw [fin]
  exact ⟨(a0.1.trans (a1.1.trans (a2.1.trans a3.1))).trans b4.1,(a0.2.trans (a1.2.trans (a2.2.trans a3.2))).trans b4.2⟩
theorem zck {α:Type} (l:List α):∀ v:Sl α,(l.foldl apL v).len=v.len+l.length:=by
 induction l with
 | nil=>intro v;rfl
 | cons x l ih=>intro v;rw [List.foldl_cons,ih];show v.len+1+l.length=v.len+(l.length+1);omega
theorem zsL (a b:Gate):(zsK a b).length≤4:=by unfold zsK;split <;> simp
theorem zsM (g:Sl Gate) (i m k:Nat):(ztM g i m k).length≤4 * m:=by
 induction m generalizing k with
 | zero=>exact Nat.le_refl _
 | succ m ih=>show (zsK _ _ ++ ztM g i m (k+1)).length≤_;rw [List.length_append];have:=ih (k+1);have:=zsL (g.get i) (g.get k);omega
theorem zQc (g:Sl Gate) (G:zaC g) (i:Nat) (hi:i < g.len) (S0:Int→Sl Line→Sl Line) (P0:Int→Sl Line→Bool):∀ (m F k:Nat) (v:Sl Line),k+m=g.len→m < F→v.len+4 * m≤100000 →
  zgt P0 g F (i:Int) (k:Int) v=P0 ((i+1:Nat):Int) (((ztM g i m k).map toL).foldl apL v) ∧
  zgs S0 g F (i:Int) (k:Int) v=S0 ((i+1:Nat):Int) (((ztM g i m k).map toL).foldl apL v):=by
 have hl:=G.2.2
 intro m
 induction m with
 | zero =>
  intro F k v hk hF hv
  obtain ⟨f,rfl⟩:∃ f,F=f+1:=⟨F - 1,by omega⟩
  show zhU P0 g (zgt P0 g f) _ _ _=_∧zhT S0 g (zgs S0 g f) _ _ _=_
  generalize zgt P0 g f=P
  generalize zgs S0 g f=S
  unfold zhU zhT
  rw [decide_eq_false (show ¬ (k:Int) < (g.len:Int) by omega),cond_false,cond_false,zbF (n:=g.len) hi (by omega)]
  exact ⟨rfl,rfl⟩
 | succ m ih =>
  intro F k v hk hF hv
  obtain ⟨f,rfl⟩:∃ f,F=f+1:=⟨F - 1,by omega⟩
  have ih:=fun v h=>ih f (k+1) v (by omega) (by omega) h
  show zhU P0 g (zgt P0 g f) _ _ _=_∧zhT S0 g (zgs S0 g f) _ _ _=_
  generalize zgt P0 g f=P at ih
  generalize zgs S0 g f=S at ih
  unfold zhU zhT zqC zqB
  rw [decide_eq_true (show (k:Int) < (g.len:Int) by omega),cond_true,cond_true]
  obtain ⟨b1,b2⟩:=zNl g G i k hi (by omega) S0 S P0 P v (by omega) Fuel (by simp only [Fuel];omega)
  rw [b1,b2]
  have q4:=zsL (g.get i) (g.get k)
  have:=ih (((zsK (g.get i) (g.get k)).map toL).foldl apL v) (by rw [zck,List.length_map];omega)
  rw [← List.foldl_append,← List.map_append] at this
  exact this
theorem zKH (g:Sl Gate) (G:zaC g):p80 g=true∧s80 g=((cst g).map toL).foldl apL ⟨0,fun _=>default⟩:=by
 have hl:=G.2.2
 have key:∀ (m F i:Nat) (v:Sl Line),i+m=g.len→m < F→v.len+100 * m≤50000→zhY g F (i:Int) v=true∧zhX g F (i:Int) v=((zC8 g m i).map toL).foldl apL v:=by
  intro m
  induction m with
  | zero =>
   intro F i v hi hF hv
   obtain ⟨f,rfl⟩:∃ f,F=f+1:=⟨F - 1,by omega⟩
   show zhW g (zhY g f) _ _=_∧zhV g (zhX g f) _ _=_
   unfold zhW zhV
   rw [decide_eq_false (show ¬ (i:Int) < (g.len:Int) by omega),cond_false,cond_false]
   exact ⟨rfl,rfl⟩
  | succ m ih =>
   intro F i v hi hF hv
   obtain ⟨f,rfl⟩:∃ f,F=f+1:=⟨F - 1,by omega⟩
   have ih:=fun v h=>ih f (i+1) v (by omega) (by omega) h
   show zhW g (zhY g f) _ _=_∧zhV g (zhX g f) _ _=_
   generalize zhY g f=P at ih
   generalize zhX g f=S at ih
   unfold zhW zhV zqF zqE
   rw [decide_eq_true (show (i:Int) < (g.len:Int) by omega),cond_true,cond_true,zbF (n:=g.len) (by omega) (by omega)]
   obtain ⟨b1,b2⟩:=zQc g G i (by omega) S P (g.len - (i+1)) Fuel (i+1) v (by omega) (by simp only [Fuel];omega) (by omega)
   rw [b1,b2]
   have c4:=zsM g i (g.len - (i+1)) (i+1)
   have:=ih (((ztM g i (g.len - (i+1)) (i+1)).map toL).foldl apL v) (by rw [zck,List.length_map];omega)
   rw [← List.foldl_append,← List.map_append] at this
   exact this
 exact key g.len Fuel 0 _ (by omega) (by simp only [Fuel];omega) (by show 0+_≤_;omega)
end Go.Proofs
namespace Go.Proofs
open Go Go.Pm
set_option maxRecDepth 100000
def SOK (s:straight):Prop:=(-2000000≤s.slope∧s.slope≤2000000)∧(-200000000000≤s.start∧s.start≤200000000000)∧1≤s.den∧s.den≤100000
theorem zKI {z p y q:Int} (hz:0≤z∧z≤100000) (hy:0≤y∧y≤100000) (hp : -1000000≤p∧p≤1000000) (hq : -1000000≤q∧q≤1000000) (hn:z ≠ y):SOK (thr z p y q):=by
 have b1:=zkM hp.1 hp.2 hy.1 hy.2
 have b2:=zkM hq.1 hq.2 hz.1 hz.2
 unfold thr SOK
 by_cases h:z > y
 ·rw [if_pos h];exact ⟨⟨by show _≤p - q;omega,by show p - q≤_;omega⟩,⟨by show _≤q * z - p * y;omega,by show q * z - p * y≤_;omega⟩,by show _≤z - y;omega,by show z - y≤_;omega⟩
 ·rw [if_neg h];exact ⟨⟨by show _≤q - p;omega,by show q - p≤_;omega⟩,⟨by show _≤p * y - q * z;omega,by show p * y - q * z≤_;omega⟩,by show _≤y - z;omega,by show y - z≤_;omega⟩
theorem zBJ {a b:Gate} {s:straight} (h:s∈zsK a b):a.Z ≠ b.Z∧∃ p q,(p=a.Low∨p=a.High)∧(q=b.Low∨q=b.High)∧s=thr a.Z p b.Z q:=by
 unfold zsK at h
 by_cases hz:a.Z=b.Z
 ·rw [if_pos hz] at h;cases h
 ·rw [if_neg hz] at h
  refine ⟨hz,?_⟩
  simp only [List.mem_cons,List.not_mem_nil,or_false] at h
  rcases h with h | h | h | h
  ·exact ⟨_,_,.inl rfl,.inl rfl,h⟩
  ·exact ⟨_,_,.inl rfl,.inr rfl,h⟩
  ·exact ⟨_,_,.inr rfl,.inl rfl,h⟩
  ·exact ⟨_,_,.inr rfl,.inr rfl,h⟩
theorem zsN {g : Sl Gate} {i : Nat} {s : straight} : ∀ {m k : Nat}, s ∈ ztM g i m k → ∃ j, k ≤ j ∧ j < k + m ∧ s ∈ zsK (g.get i) (g.get j)
  | 0,_,h=>by cases h
  | m+1,k,h=>by
    rcases List.mem_append.1 h with h | h
    · exact ⟨k,Nat.le_refl _,by omega,h⟩
    · obtain ⟨j, a, b, c⟩ := zsN h
      exact ⟨j,by omega,by omega,c⟩
theorem zsO {g : Sl Gate} {s : straight} : ∀ {m i : Nat}, s ∈ zC8 g m i → ∃ a b, i ≤ a ∧ a < i + m ∧ a < b ∧ b < g.len ∧ s ∈ zsK (g.get a) (g.get b)
  | 0,_,h=>by cases h
  | m+1,i,h=>by
    rcases List.mem_append.1 h with h | h
    · obtain ⟨j, a, b, c⟩ := zsN h
      exact ⟨i,j,Nat.le_refl _,by omega,by omega,by omega,c⟩
    · obtain ⟨a, b, h1, h2, h3, h4, h5⟩ := zsO h
      exact ⟨a,b,by omega,by omega,h3,h4,h5⟩
theorem zzF {g:Sl Gate} {s:straight} (h:s∈cst g):∃ a b,a < b∧b < g.len∧(g.get a).Z ≠ (g.get b).Z∧∃ p q,(p=(g.get a).Low∨p=(g.get a).High)∧(q=(g.get b).Low∨q=(g.get b).High)∧s=thr (g.get a).Z p (g.get b).Z q:=by
 obtain ⟨a,b,_,_,h3,h4,h5⟩:=zsO h
 obtain ⟨hz,r⟩:=zBJ h5
 exact ⟨a,b,h3,h4,hz,r⟩
theorem zkE {g:Sl Gate} (G:zaC g) {s:straight} (h:s∈cst g):SOK s:=by
 obtain ⟨a,b,h1,h2,hz,p,q,hp,hq,rfl⟩:=zzF h
 have ga:=G.1 a (by omega)
 have gb:=G.1 b h2
 refine zKI ga.1 gb.1 ?_ ?_ hz
 ·rcases hp with rfl | rfl;exact zeS ga;exact zfR ga
 ·rcases hq with rfl | rfl;exact zeS gb;exact zfR gb
def plc (s:straight) (z:Int):Int:=s.start+s.slope * z
def zzG (s:straight) (g:Gate):Bool:=decide (g.Low * s.den≤plc s g.Z∧plc s g.Z≤g.High * s.den)
def zC9 (s:straight) (g:Gate):Bool:=decide (plc s g.Z=g.Low * s.den)
theorem zzH {s:straight} (S:SOK s) {g:Gate} (G:zfY g):zDR s g=zzG s g:=by
 obtain ⟨S1,S2,S3⟩:=S
 have b1:=zkM S1.1 S1.2 G.1.1 G.1.2
 have b2:=zkM (zeS G).1 (zeS G).2 (show 0≤s.den by omega) S3.2
 have b3:=zkM (zfR G).1 (zfR G).2 (show 0≤s.den by omega) S3.2
 unfold zDR zzG plc
 rw [zzy,zaH (x:=s.slope * g.Z) (by omega) (by omega),zaH (x:=s.start+s.slope * g.Z) (by omega) (by omega),zaH (x:=g.Low * s.den) (by omega) (by omega),zaH (x:=g.High * s.den) (by omega) (by omega)]
theorem zg8 {a x y:Int} (h:0 < a):a * x≤a * y↔x≤y:=⟨fun k=>Int.le_of_mul_le_mul_left k h,fun k=>Int.mul_le_mul_of_nonneg_left k (Int.le_of_lt h)⟩
theorem zsP {a x y:Int} (h:0 < a):a * x=a * y↔x=y:=⟨fun k=>Int.eq_of_mul_eq_mul_left (by omega) k,fun k=>by rw [k]⟩
theorem zzI {s:straight} (S:SOK s) {z:Int} (hz:0≤z∧z≤100000):∃ n d k,zqw (toL s) z=(n,d)∧0 < k∧k * n=s.den * plc s z∧k * d=s.den * s.den∧0 < d∧d≤10000000000:=by
  obtain ⟨S1,S2,S3⟩:=S
  have hd:0 < s.den:=by omega
  have g1:=zch (num:=s.slope) hd
  have g2:=zch (num:=s.start) hd
  have r1:=zgy (num:=s.slope) hd
  have r2:=zgy (num:=s.start) hd
  have e1:=zdM (num:=s.slope) hd
  have e2:=zdf (num:=s.slope) hd
  have e3:=zdM (num:=s.start) hd
  have e4:=zdf (num:=s.start) hd
  have p1:=zcM (num:=s.slope) hd
  have p2:=zcM (num:=s.start) hd
  have q1:=zkD (num:=s.slope) hd
  have q2:=zkD (num:=s.start) hd
  unfold zqw toL
  simp only
  generalize (red s.slope s.den).Num=a at *
  generalize (red s.slope s.den).Den=b at *
  generalize (red s.start s.den).Num=c at *
  generalize (red s.start s.den).Den=d at *
  generalize (Int.gcd s.slope s.den:Int)=G1 at *
  generalize (Int.gcd s.start s.den:Int)=G2 at *
  have m1:=zkM (x:=c) (X:=200000000000) (y:=b) (Y:=100000) (by omega) (by omega) (by omega) (by omega)
  have m2:=zkM (x:=a) (X:=2000000) (y:=z) (Y:=100000) (by omega) (by omega) hz.1 hz.2
  have m3:=zkM (x:=a * z) (X:=2000000 * 100000) (y:=d) (Y:=100000) (by omega) (by omega) (by omega) (by omega)
  have m4:=zkM (x:=d) (X:=100000) (y:=b) (Y:=100000) (by omega) (by omega) (by omega) (by omega)
  have m5:=Int.mul_pos p2 p1
  rw [zaH (x:=c * b) (by omega) (by omega),zaH (x:=a * z) (by omega) (by omega),zaH (x:=a * z * d) (by omega) (by omega),zaH (x:=c * b+a * z * d) (by omega) (by omega),zaH (x:=d * b) (by omega) (by omega)]
  refine ⟨_,_,G1 * G2,rfl,Int.mul_pos g1 g2,?_,?_,m5,by omega⟩
  · unfold plc
    have t1:G1 * G2 * (c * b)=s.den * s.start:=by
      calc G1 * G2 * (c * b) = (G1 * b) * (G2 * c) := by ac_rfl
        _=_:=by rw [e2,e3]
    have t2:G1 * G2 * (a * z * d)=s.den * (s.slope * z):=by
      calc G1 * G2 * (a * z * d) = (G2 * d) * ((G1 * a) * z) := by ac_rfl
        _=_:=by rw [e4,e1]
    rw [Int.mul_add,t1,t2,Int.mul_add]
  · calc G1 * G2 * (d * b) = (G1 * b) * (G2 * d) := by ac_rfl
      _=_:=by rw [e2,e4]
theorem zsQ {s:straight} (S:SOK s) {g:Gate} (G:zfY g):s72 (toL s) g=zzG s g:=by
  obtain ⟨n,d,k,e,hk,kn,kd,d1,d2⟩:=zzI S G.1
  have hd:0 < s.den:=by have:=S.2.2;omega
  have b2:=zkM (zeS G).1 (zeS G).2 (show 0≤d by omega) d2
  have b3:=zkM (zfR G).1 (zfR G).2 (show 0≤d by omega) d2
  have key:∀ x:Int,k * (x * d)=s.den * (x * s.den):=fun x=>by
    calc k * (x * d) = x * (k * d) := by ac_rfl
      _=s.den * (x * s.den):=by rw [kd];ac_rfl
  unfold s72 zzG
  rw [e,zfK]
  simp only
  rw [zaH (x:=g.Low * d) (by omega) (by omega),zaH (x:=g.High * d) (by omega) (by omega),Bool.decide_and]
  congr 1
  · refine decide_eq_decide.2 ?_
    rw [← zg8 hk,key,kn,zg8 hd]
  · refine decide_eq_decide.2 ?_
    rw [← zg8 hk,key,kn,zg8 hd]
theorem zzJ {s:straight} (S:SOK s) {g:Gate} (G:zfY g):((zqw (toL s) g.Z).1 == w64 (g.Low * (zqw (toL s) g.Z).2))=zC9 s g:=by
  obtain ⟨n,d,k,e,hk,kn,kd,d1,d2⟩:=zzI S G.1
  have hd:0 < s.den:=by have:=S.2.2;omega
  have b2:=zkM (zeS G).1 (zeS G).2 (show 0≤d by omega) d2
  have key:∀ x:Int,k * (x * d)=s.den * (x * s.den):=fun x=>by
    calc k * (x * d) = x * (k * d) := by ac_rfl
      _=s.den * (x * s.den):=by rw [kd];ac_rfl
  unfold zC9
  rw [e]
  simp only
  rw [zaH (x:=g.Low * d) (by omega) (by omega)]
  refine Bool.eq_iff_iff.2 ?_
  rw [beq_iff_eq,decide_eq_true_eq,← zsP hk,key,kn,zsP hd]
end Go.Proofs
namespace Go.Proofs
open Go Go.Pm
set_option maxRecDepth 100000
theorem zsR {c:Nat→Bool} {n:Nat} : fst c n < n↔∃ i,i < n∧c i=true:=by
 refine ⟨fun h=>⟨_,h,zB9 h⟩,fun ⟨i,hi,hc⟩=>?_⟩
 rcases Nat.lt_or_ge (fst c n) n with h | h
 ·exact h
 ·have := zB8 (c := c) (n := n) (j := i) (by omega)
  rw [hc] at this;cases this
def ztN (g:Sl Gate):Prop:=∀ i,i < g.len→(g.get i).Z=(g.get 0).Z
def ztR (g:Sl Gate) (s:straight):Prop:=∀ i,i < g.len→zzG s (g.get i)=true
def zKJ (g:Sl Gate) (s:straight):Prop:=∃ i,i < g.len∧zC9 s (g.get i)=true
theorem zsS (g:Sl Gate) (G:zaC g):p67 ⟨g⟩=true∧(s67 ⟨g⟩=true↔ztN g):=by
  have hl:=G.2.2
  have hl1:=G.2.1
  have zDP:∀ x,zDP ⟨g⟩ x=true:=fun x=>by
    unfold zDP
    rw [decide_eq_true (show 0≤(0:Int)∧(0:Int) < ((⟨g⟩:list).Gates.len:Int) from ⟨by omega,by show (0:Int) < (g.len:Int);omega⟩)];rfl
  have := zr1 (c := zDO ⟨g⟩) (lpS := ziO ⟨g⟩) (lpP := ziP ⟨g⟩)
    (fun k s t i=>by
      show ziM ⟨g⟩ (ziO ⟨g⟩ k) s t i=_
      unfold ziM zl6;rfl)
    (fun k s t i=>by
      show ziN ⟨g⟩ (ziP ⟨g⟩ k) s t i=_
      unfold ziN zl7
      rw [zDP]
      simp only [decide_true,Bool.true_and])
    g (by omega)
  obtain ⟨a,b⟩:=this
  have e:zIz ⟨g⟩ g=true:=a
  have f:zIy ⟨g⟩ g=_:=b
  unfold p67 s67 p99 s99
  show (decide ((decide (zIz ⟨g⟩ g=true) && true)=true) && true)=true∧((!decide (zIy ⟨g⟩ g ≥ 0))=true↔_)
  rw [e,f]
  refine ⟨by simp,?_⟩
  rw [Bool.not_eq_true',decide_eq_false_iff_not]
  by_cases h:fst (fun i=>zDO ⟨g⟩ (g.get i)) g.len < g.len
  · rw [if_pos h]
    obtain ⟨i,hi,hc⟩:=zsR.1 h
    refine ⟨fun k=>absurd (show ((fst (fun i=>zDO ⟨g⟩ (g.get i)) g.len:Nat):Int) ≥ 0 by omega) k,fun k=>?_⟩
    have hc:((g.get i).Z != (g.get 0).Z)=true:=hc
    rw [k i hi] at hc
    simp at hc
  · rw [if_neg h]
    refine ⟨fun _ i hi=>?_,fun _=>by omega⟩
    have:=mt zsR.2 h
    have hc : ¬ ((g.get i).Z != (g.get 0).Z)=true:=fun hc=>this ⟨i,hi,hc⟩
    simpa using hc
theorem zKK (g:Sl Gate) (G:zaC g) (v:Sl straight) {x:straight} (S:SOK x):p97 ⟨⟨g⟩,v⟩ x=true∧(s97 ⟨⟨g⟩,v⟩ x=true↔ztR g x):=by
  have hl:=G.2.2
  have := zr1 (c := zDT x) (lpS := zgX x) (lpP := zgY x)
    (fun k s t i=>by
      show zgV x (zgX x k) s t i=_
      unfold zgV zjO;rfl)
    (fun k s t i=>by
      show zgW x (zgY x k) s t i=_
      unfold zgW zjP;rfl)
    g (by omega)
  obtain ⟨a,b⟩:=this
  have e:zvj x g=true:=a
  have f:zvi x g=_:=b
  unfold p97 s97 zK6 zK5
  show (decide ((decide (zvj x g=true) && true)=true) && true)=true∧((!decide (zvi x g ≥ 0))=true↔_)
  rw [e,f]
  refine ⟨by simp,?_⟩
  rw [Bool.not_eq_true',decide_eq_false_iff_not]
  by_cases h:fst (fun i=>zDT x (g.get i)) g.len < g.len
  · rw [if_pos h]
    obtain ⟨i,hi,hc⟩:=zsR.1 h
    refine ⟨fun k=>absurd (show ((fst (fun i=>zDT x (g.get i)) g.len:Nat):Int) ≥ 0 by omega) k,fun k=>?_⟩
    have hc:(!(zDR x (g.get i)))=true:=hc
    rw [zzH S (G.1 i hi),k i hi] at hc
    cases hc
  · rw [if_neg h]
    refine ⟨fun _ i hi=>?_,fun _=>by omega⟩
    have:=mt zsR.2 h
    have hc : ¬ (!(zDR x (g.get i)))=true:=fun hc=>this ⟨i,hi,hc⟩
    rw [← zzH S (G.1 i hi)]
    simpa using hc
theorem zKL {x:straight} (S:SOK x):p79 x=true∧s79 x=toL x:=by
 obtain ⟨S1,S2,S3⟩:=S
 obtain ⟨a1,a2⟩:=zlu (num:=x.slope) (den:=x.den) (by omega) (by omega) (by omega) (by omega)
 obtain ⟨b1,b2⟩:=zlu (num:=x.start) (den:=x.den) (by omega) (by omega) (by omega) (by omega)
 unfold p79 s79 toL
 rw [a1,a2,b1,b2]
 exact ⟨by simp,rfl⟩
-- the reference
theorem zlv (g:Sl Gate) (G:zaC g):p22 g=true∧(s22 g=true↔ztN g):=by
 have hl:=G.2.2
 have hl1:=G.2.1
 have key:∀ (m k i:Nat),i+m=g.len→m < k→zhO g k (i:Int)=true∧(zhN g k (i:Int)=true↔∀ j,i≤j→j < g.len→(g.get j).Z=(g.get 0).Z):=by
  intro m
  induction m with
  | zero =>
   intro k i hi hk
   obtain ⟨k,rfl⟩:∃ k',k=k'+1:=⟨k - 1,by omega⟩
   show zhM g (zhO g k) _=_∧(zhL g (zhN g k) _=_↔_)
   unfold zhM zhL
   rw [decide_eq_false (show ¬ (i:Int) < (g.len:Int) by omega),cond_false,cond_false]
   exact ⟨rfl,⟨fun _ j a b=>absurd b (by omega),fun _=>rfl⟩⟩
  | succ m ih =>
   intro k i hi hk
   obtain ⟨k,rfl⟩:∃ k',k=k'+1:=⟨k - 1,by omega⟩
   obtain ⟨i1,i2⟩:=ih k (i+1) (by omega) (by omega)
   show zhM g (zhO g k) _=_∧(zhL g (zhN g k) _=_↔_)
   generalize zhO g k=P at i1
   generalize zhN g k=S at i2
   unfold zhM zhL
   rw [decide_eq_true (show (i:Int) < (g.len:Int) by omega),decide_eq_true (show 0≤(i:Int)∧(i:Int) < (g.len:Int) by omega),decide_eq_true (show 0≤(0:Int)∧(0:Int) < (g.len:Int) by omega),cond_true,cond_true,Int.toNat_natCast,zbF (n:=g.len) (by omega) (by omega),i1]
   by_cases hz:(g.get i).Z=(g.get 0).Z
   ·rw [show ((g.get i).Z != (g.get 0).Z) = false by simpa using hz, cond_false, cond_false]
    refine ⟨by simp,i2.trans ⟨fun h j a b=>?_,fun h j a b=>h j (by omega) b⟩⟩
    by_cases hj:j=i
    ·rw [hj];exact hz
    ·exact h j (by omega) b
   ·rw [show ((g.get i).Z != (g.get 0).Z) = true by simpa using hz, cond_true, cond_true]
    exact ⟨by simp,⟨fun h=>(by cases h),fun h=>absurd (h i (Nat.le_refl _) (by omega)) hz⟩⟩
 obtain ⟨a,b⟩:=key (g.len - 1) Fuel 1 (by omega) (by simp only [Fuel];omega)
 refine ⟨a,Iff.trans b ⟨fun h i hi=>?_,fun h j _ hj=>h j hj⟩⟩
 by_cases h0:i=0
 ·rw [h0]
 ·exact h i (by omega) hi
theorem zzK (g:Sl Gate) (G:zaC g) {x:straight} (S:SOK x):zGL (toL x) g=true∧(ztH (toL x) g=true↔zKJ g x):=by
  have hl:=G.2.2
  have e := zHm (good := fun i => !(zC9 x (g.get i))) (bad := true) (fin := false) (finP := true) (n := g.len) (lpS := zfI (toL x) g) (lpP := zfJ (toL x) g)
    (fun k i hi=>by
      show zfG (toL x) g (zfI (toL x) g k) (i:Int)=_
      generalize zfI (toL x) g k=F
      unfold zfG zmN
      rw [decide_eq_true (show (i:Int) < (g.len:Int) by omega),cond_true,Int.toNat_natCast,zzJ S (G.1 i hi)]
      cases zC9 x (g.get i) <;> rfl)
    (fun k=>by
      show zfG (toL x) g (zfI (toL x) g k) (g.len:Int)=_
      unfold zfG
      rw [decide_eq_false (show ¬ (g.len:Int) < (g.len:Int) by omega),cond_false])
    (fun k i hi=>by
      show zfH (toL x) g (zfJ (toL x) g k) (i:Int)=_
      generalize zfJ (toL x) g k=F
      unfold zfH zmO
      rw [decide_eq_true (show (i:Int) < (g.len:Int) by omega),decide_eq_true (show 0≤(i:Int)∧(i:Int) < (g.len:Int) by omega),cond_true,Int.toNat_natCast,zzJ S (G.1 i hi),Bool.true_and,Bool.true_and]
      cases zC9 x (g.get i) <;> rfl)
    (fun k=>by
      show zfH (toL x) g (zfJ (toL x) g k) (g.len:Int)=_
      unfold zfH
      rw [decide_eq_false (show ¬ (g.len:Int) < (g.len:Int) by omega),cond_false])
    (by omega)
  by_cases h:∀ i,i < g.len→(!(zC9 x (g.get i)))=true
  · obtain ⟨a, b⟩ := e.1 h
    have b:ztH (toL x) g=false:=b
    refine ⟨a,?_⟩
    rw [b]
    refine ⟨fun h=>(by cases h),fun ⟨i,hi,hc⟩=>?_⟩
    have:=h i hi
    rw [hc] at this;cases this
  · obtain ⟨a, b⟩ := e.2 h
    have b:ztH (toL x) g=true:=b
    refine ⟨a,?_⟩
    rw [b]
    refine ⟨fun _=>Classical.byContradiction fun hn=>h fun i hi=>?_,fun _=>rfl⟩
    cases hc:zC9 x (g.get i)
    · rfl
    · exact absurd ⟨i,hi,hc⟩ hn
end Go.Proofs
namespace Go.Proofs
open Go Go.Pm
set_option maxRecDepth 100000
def zij (l:Line):List Int:=[l.Slope.Num,l.Slope.Den,l.Start.Num,l.Start.Den]
theorem zkF {a b:Line} (h:zij a=zij b):a=b:=by
 unfold zij at h
 simp only [List.cons.injEq,and_true] at h
 obtain ⟨h1,h2,h3,h4⟩:=h
 obtain ⟨⟨a1,a2⟩,a3,a4⟩:=a
 obtain ⟨⟨b1,b2⟩,b3,b4⟩:=b
 simp only at h1 h2 h3 h4
 rw [h1,h2,h3,h4]
abbrev ziF {α:Type} [Inhabited α]:Sl α:=⟨0,fun _=>default⟩
theorem zBK {g:Sl Gate} (h:ztN g):cst g=[]:=by
 rcases List.eq_nil_or_concat (cst g) with e | ⟨l,x,e⟩
 ·exact e
 ·have : x ∈ cst g := by rw [e]; simp
  obtain ⟨a,b,h1,h2,hz,_⟩:=zzF this
  exact absurd ((h a (by omega)).trans (h b h2).symm) hz
theorem zBL (g:Sl Gate):∀ m i,(zC8 g m i).length≤4 * g.len * m:=by
 intro m
 induction m with
 | zero=>intro i;exact Nat.le_refl _
 | succ m ih =>
  intro i
  show (ztM g i (g.len - (i+1)) (i+1) ++ zC8 g m (i+1)).length≤_
  rw [List.length_append,Nat.mul_succ]
  have:=ih (i+1)
  have:=zsM g i (g.len - (i+1)) (i+1)
  omega
theorem zrp {g:Sl Gate} (G:zaC g):(cst g).length≤2304:=by
 have h1:=zBL g g.len 0
 have hl:=G.2.2
 have:4 * g.len * g.len≤4 * 24 * 24:=Nat.mul_le_mul (by omega) hl
 exact Nat.le_trans h1 this
theorem zHp (g:Sl Gate) (G:zaC g):∀ (r acc:List straight) (n:Nat) (F:List Int→Option (List Int)),
    (∀ s∈r,SOK s)→acc.length+r.length≤10000→(∀ c,(zdP (F c) 0 != 0)=true↔∃ x∈acc,zij (toL x)=c)→acc.Pairwise (fun x y=>toL x ≠ toL y) →
    ∃ C:List straight,ze7 g r (acc.foldl apL ziF) n F=true∧ze6 g r (acc.foldl apL ziF) n F=⟨⟨g⟩,C.foldl apL ziF⟩ ∧
      (∀ s∈C,s∈acc∨(s∈r∧ztR g s))∧(∀ s∈acc,s∈C)∧(∀ s∈r,ztR g s→∃ x∈C,toL x=toL s)∧C.Pairwise (fun x y=>toL x ≠ toL y):=by
  intro r
  induction r with
  | nil =>
    intro acc n F _ _ _ hp
    exact ⟨acc,rfl,rfl,fun s h=>.inl h,fun s h=>h,(fun s h=>by cases h),hp⟩
  | cons y r ih =>
    intro acc n F hs hl hF hp
    have hs':∀ s∈r,SOK s:=fun s h=>hs s (List.mem_cons_of_mem _ h)
    have Sy:=hs y List.mem_cons_self
    obtain ⟨e1,e2⟩:=zKL Sy
    obtain ⟨a1,a2⟩:=zKK g G (acc.foldl apL ziF) Sy
    rw [List.length_cons] at hl
    show ∃ C:List straight,zjT g y (ze7 g r) (acc.foldl apL ziF) n F=true∧zjS g y (ze6 g r) (acc.foldl apL ziF) n F=_∧_
    unfold zjT zjS
    rw [e1,e2,a1]
    have hcode:([(toL y).Slope.Num,(toL y).Slope.Den,(toL y).Start.Num,(toL y).Start.Den]:List Int)=zij (toL y):=rfl
    rw [hcode]
    have skip:(∃ C:List straight,ze7 g r (acc.foldl apL ziF) n F=true∧ze6 g r (acc.foldl apL ziF) n F=⟨⟨g⟩,C.foldl apL ziF⟩ ∧
      (∀ s∈C,s∈acc∨(s∈r∧ztR g s))∧(∀ s∈acc,s∈C)∧(∀ s∈r,ztR g s→∃ x∈C,toL x=toL s)∧C.Pairwise (fun x y=>toL x ≠ toL y)):=ih acc n F hs' (by omega) hF hp
    by_cases h1:(zdP (F (zij (toL y))) 0 != 0)=true
    · obtain ⟨C, c1, c2, c3, c4, c5, c6⟩ := skip
      rw [h1]
      refine ⟨C,by simp only [decide_true,Bool.true_and,Bool.not_true,cond_false];exact c1,by simp only [Bool.not_true,cond_false];exact c2,fun s h=>(c3 s h).imp id fun k=>⟨List.mem_cons_of_mem _ k.1,k.2⟩,c4,fun s h ha=>?_,c6⟩
      rcases List.mem_cons.1 h with rfl | h
      · obtain ⟨x, hx, hc⟩ := (hF _).1 h1
        exact ⟨x,c4 x hx,zkF hc⟩
      · exact c5 s h ha
    · have h1' : (zdP (F (zij (toL y))) 0 != 0) = false := by simpa using h1
      rw [h1']
      by_cases h2:s97 ⟨⟨g⟩,acc.foldl apL ziF⟩ y=true
      · rw [h2]
        have hlen:(acc.foldl apL ziF).len=acc.length:=by rw [zck];simp
        have hfold:(⟨(acc.foldl apL ziF).len+1,zdW (acc.foldl apL ziF).len (acc.foldl apL ziF).get (fun _=>y)⟩:Sl straight)=(acc ++ [y]).foldl apL ziF:=by rw [List.foldl_append];rfl
        rw [hfold,hlen,decide_eq_true (show (acc.length+1) * 24≤140737488355328∧acc.length+1≤9223372036854775807 by omega)]
        obtain ⟨C, c1, c2, c3, c4, c5, c6⟩ := ih (acc ++ [y]) (addN (F (zij (toL y))) n) (zkZ (zij (toL y)) [1] F) hs' (by rw [List.length_append]; simp only [List.length_cons, List.length_nil]; omega)
          (fun c=>by
            unfold zkZ
            by_cases hc:c=zij (toL y)
            · rw [decide_eq_true hc]
              exact ⟨fun _=>⟨y,by simp,hc.symm⟩,fun _=>rfl⟩
            · rw [decide_eq_false hc]
              refine (hF c).trans ⟨fun ⟨x,hx,e⟩=>⟨x,List.mem_append.2 (.inl hx),e⟩,fun ⟨x,hx,e⟩=>?_⟩
              rcases List.mem_append.1 hx with hx | hx
              · exact ⟨x,hx,e⟩
              · rw [List.mem_singleton.1 hx] at e;exact absurd e.symm hc)
          (by
            rw [List.pairwise_append]
            refine ⟨hp,List.pairwise_singleton _ _,fun a ha b hb=>?_⟩
            rw [List.mem_singleton.1 hb]
            exact fun e=>h1 ((hF _).2 ⟨a,ha,by rw [e]⟩))
        have hy:y∈C:=c4 y (by simp)
        refine ⟨C,by simp only [decide_true,Bool.true_and,Bool.not_false,cond_true];exact c1,by simp only [Bool.not_false,cond_true];exact c2,fun s h=>?_,fun s h=>c4 s (List.mem_append.2 (.inl h)),fun s h ha=>?_,c6⟩
        · rcases c3 s h with h | h
          · rcases List.mem_append.1 h with h | h
            · exact .inl h
            · rw [List.mem_singleton.1 h];exact .inr ⟨List.mem_cons_self,a2.1 h2⟩
          · exact .inr ⟨List.mem_cons_of_mem _ h.1,h.2⟩
        · rcases List.mem_cons.1 h with rfl | h
          · exact ⟨s,hy,rfl⟩
          · exact c5 s h ha
      · have h2' : s97 ⟨⟨g⟩, acc.foldl apL ziF⟩ y = false := by simpa using h2
        rw [h2']
        obtain ⟨C,c1,c2,c3,c4,c5,c6⟩:=skip
        refine ⟨C,by simp only [decide_true,Bool.true_and,Bool.not_false,cond_true,cond_false];exact c1,by simp only [Bool.not_false,cond_true,cond_false];exact c2,fun s h=>(c3 s h).imp id fun k=>⟨List.mem_cons_of_mem _ k.1,k.2⟩,c4,fun s h ha=>?_,c6⟩
        rcases List.mem_cons.1 h with rfl | h
        · exact absurd (a2.2 ha) h2
        · exact c5 s h ha
theorem zsU (g:Sl Gate) (G:zaC g):∃ C:List straight,p65 g=true∧s65 g=⟨⟨g⟩,C.foldl apL ziF⟩∧(∀ s∈C,s∈cst g∧ztR g s)∧(∀ s∈cst g,ztR g s→∃ x∈C,toL x=toL s)∧C.Pairwise (fun x y=>toL x ≠ toL y):=by
 obtain ⟨e1,e2⟩:=zsS g G
 obtain ⟨f1,f2⟩:=zHo g G
 unfold p65 s65
 rw [e1]
 by_cases hf:ztN g
 ·rw [e2.2 hf]
  refine ⟨[],rfl,rfl,(fun s h=>by cases h),fun s h=>?_,List.Pairwise.nil⟩
  rw [zBK hf] at h;cases h
 ·have : s67 ⟨g⟩ = false := by cases h : s67 ⟨g⟩; rfl; exact absurd (e2.1 h) hf
  rw [this]
  unfold zmg zmf zme zmd zmc zpo
  rw [f1,f2]
  obtain ⟨C,c1,c2,c3,_,c5,c6⟩:=zHp g G (cst g) [] 0 (fun _=>none) (fun s h=>zkE G h) (by have:=zrp G;simp only [List.length_nil];omega) (fun c=>⟨fun h=>by simp [zdP] at h,fun ⟨x,hx,_⟩=>by cases hx⟩) List.Pairwise.nil
  refine ⟨C,by simp only [decide_true,Bool.true_and,cond_false];exact c1,by simp only [cond_false];exact c2,fun s h=>?_,c5,c6⟩
  rcases c3 s h with h | h
  ·cases h
  ·exact h
end Go.Proofs
namespace Go.Proofs
open Go Go.Pm
set_option maxRecDepth 100000
theorem zBM (l:Line) (g:Sl Gate):∀ (m i:Nat) (v:Sl Int),i+m=g.len→v.len≤i→((zii (addI l g) m i v).len < g.len↔v.len < i∨∃ j,i≤j∧j < g.len∧s72 l (g.get j)=false):=by
 intro m
 induction m with
 | zero =>
  intro i v hi hv
  have:i=g.len:=by omega
  subst this
  exact ⟨fun h=>.inl h,fun h=>h.elim id fun ⟨j,a,b,_⟩=>absurd b (by omega)⟩
 | succ m ih =>
  intro i v hi hv
  show (zii (addI l g) m (i+1) (addI l g i v)).len < g.len↔_
  rw [ih (i+1) (addI l g i v) (by omega) (zsJ l g i v hv)]
  unfold addI
  cases h:s72 l (g.get i)
  ·rw [cond_false]
   exact ⟨fun _=>.inr ⟨i,Nat.le_refl _,by omega,h⟩,fun _=>.inl (by omega)⟩
  ·rw [cond_true]
   refine ⟨fun k=>k.imp (fun (k:v.len+1 < i+1)=>by omega) fun ⟨j,a,b,c⟩=>⟨j,by omega,b,c⟩,fun k=>k.imp (fun k=>by show v.len+1 < i+1;omega) fun ⟨j,a,b,c⟩=>⟨j,?_,b,c⟩⟩
   by_cases hj:j=i
   ·rw [hj,h] at c;cases c
   ·omega
theorem zBN {g:Sl Gate} (G:zaC g) {s:straight} (S:SOK s):p27 (toL s) g=true∧(((s27 (toL s) g).len:Int) < (g.len:Int)↔¬ ztR g s):=by
 have hl:=G.2.2
 obtain ⟨a,b⟩:=zKF (toL s) g (by omega)
 refine ⟨a,?_⟩
 rw [b]
 have:=zBM (toL s) g g.len 0 (⟨0,fun _=>default⟩:Sl Int) (by omega) (Nat.le_refl _)
 have e:((zLl (toL s) g).len < g.len↔_):=this
 rw [show (((zLl (toL s) g).len:Int) < (g.len:Int))↔(zLl (toL s) g).len < g.len by omega,e]
 constructor
 ·rintro (h | ⟨j, _, hj, hc⟩)
  ·exact absurd h (by omega)
  ·intro h
   have:=h j hj
   rw [← zsQ S (G.1 j hj),hc] at this;cases this
 ·intro h
  refine .inr (Classical.byContradiction fun hn=>h fun i hi=>?_)
  rw [← zsQ S (G.1 i hi)]
  cases hc:s72 (toL s) (g.get i)
  ·exact absurd ⟨i,Nat.zero_le _,hi,hc⟩ hn
  ·rfl
theorem zoo {α:Type} (l:List α):∀ (v:Sl α) (i:Nat),i < v.len→(l.foldl apL v).get i=v.get i:=by
 induction l with
 | nil=>intro v i _;rfl
 | cons x l ih =>
  intro v i hi
  rw [List.foldl_cons,ih _ _ (show i < v.len+1 by omega)]
  show zdW v.len v.get (fun _=>x) i=_
  unfold zdW
  rw [show Nat.ble v.len i=false by rw [← Bool.not_eq_true,Nat.ble_eq];omega]
theorem zg9 {α:Type} (l:List α):∀ (v:Sl α) (i:Nat) (x:α),l[i]? = some x→(l.foldl apL v).get (v.len+i)=x:=by
 induction l with
 | nil=>intro v i x h;simp at h
 | cons y l ih =>
  intro v i x h
  rw [List.foldl_cons]
  cases i with
  | zero =>
   have h:some y=some x:=h
   cases h
   rw [zoo _ _ _ (show v.len+0 < v.len+1 by omega)]
   show zdW v.len v.get (fun _=>y) (v.len+0)=_
   unfold zdW
   rw [show Nat.ble v.len (v.len+0)=true by rw [Nat.ble_eq];omega]
  | succ i =>
   have:=ih (apL v y) i x (by simpa using h)
   rw [← this]
   show _=(l.foldl apL (apL v y)).get (v.len+1+i)
   congr 1;omega
def zkY (g:Sl Gate) (l:Line):Prop:=∃ s∈cst g,ztR g s∧toL s=l
theorem zKM {g:Sl Gate} (G:zaC g) {a b:Line} (ha:zkY g a) (hb:zkY g b):p81 a b g=true:=by
 obtain ⟨x,hx,_,rfl⟩:=ha
 obtain ⟨y,hy,_,rfl⟩:=hb
 unfold p81 zqI
 rw [(zzK g G (zkE G hx)).1,(zzK g G (zkE G hy)).1]
 cases (ztH (toL x) g != ztH (toL y) g) <;> simp
def zHq (out:Sl Line) (A:Nat) (x:Line):Sl Line :=
 ⟨(((A:Int) - (0:Int)).toNat+1)+((out.len:Int) - (A:Int)).toNat,(zdW (((A:Int) - (0:Int)).toNat+1) (zdW (((A:Int) - (0:Int)).toNat) (fun i=>out.get (i+((0:Int).toNat))) (fun _=>x)) (fun i=>out.get (i+A)))⟩
theorem zm5 {out:Sl Line} {A:Nat} {x:Line} (h:A≤out.len):(zHq out A x).len=out.len+1:=by
 show (((A:Int) - (0:Int)).toNat+1)+((out.len:Int) - (A:Int)).toNat=_;omega
theorem zik {out:Sl Line} {A:Nat} {x:Line} (j:Nat):(zHq out A x).get j=if j < A then out.get j else if j=A then x else out.get (j - 1):=by
 have e:((A:Int) - (0:Int)).toNat=A:=by omega
 show zdW (((A:Int) - (0:Int)).toNat+1) (zdW (((A:Int) - (0:Int)).toNat) (fun i=>out.get (i+((0:Int).toNat))) (fun _=>x)) (fun i=>out.get (i+A)) j=_
 rw [e]
 unfold zdW
 by_cases h1:A+1≤j
 ·rw [show Nat.ble (A + 1) j = true by rw [Nat.ble_eq]; exact h1, if_neg (by omega), if_neg (by omega)]
  show out.get (j - (A+1)+A)=_
  congr 1;omega
 ·rw [show Nat.ble (A + 1) j = false by rw [← Bool.not_eq_true, Nat.ble_eq]; exact h1]
  by_cases h2:A≤j
  ·have : j = A := by omega
   subst this
   rw [show Nat.ble j j=true by rw [Nat.ble_eq];omega,if_neg (by omega),if_pos rfl]
  ·rw [show Nat.ble A j = false by rw [← Bool.not_eq_true, Nat.ble_eq]; exact h2, if_pos (by omega)]
   rfl
open Classical in
noncomputable def zd0 (out:Sl Line) (A:Nat) (x:Line):Sl Line:=if A < out.len∧out.get A=x then out else zHq out A x
theorem zOe (g : Sl Gate) (lv : Sl Line) (i : Nat) (hi : i < lv.len) (hlv : lv.len ≤ 10000) (S1 : Sl Line → Int → Sl Line) (P1 : Sl Line → Int → Bool) (out : Sl Line) (A : Nat) (hA : A ≤ out.len) (ho : out.len ≤ 10000) :
  zkr P1 g lv out (i:Int) (A:Int)=P1 (zd0 out A (lv.get i)) ((i+1:Nat):Int)∧zkq S1 g lv out (i:Int) (A:Int)=S1 (zd0 out A (lv.get i)) ((i+1:Nat):Int):=by
 have w:=zbF (n:=lv.len) hi (by omega)
 have k1:decide (0≤(i:Int)∧(i:Int) < (lv.len:Int))=true:=decide_eq_true (by omega)
 have k2:decide (0≤(0:Int)∧(0:Int)≤(A:Int)∧(A:Int)≤(out.len:Int))=true:=decide_eq_true (by omega)
 have k3:decide (((A:Int) - (0:Int)).toNat * 32≤140737488355328∧((A:Int) - (0:Int)).toNat≤9223372036854775807)=true:=decide_eq_true (by omega)
 have k4:decide ((((A:Int) - (0:Int)).toNat+1) * 32≤140737488355328∧((A:Int) - (0:Int)).toNat+1≤9223372036854775807)=true:=decide_eq_true (by omega)
 have k5:decide (0≤(A:Int)∧(A:Int)≤(out.len:Int)∧(out.len:Int)≤(out.len:Int))=true:=decide_eq_true (by omega)
 have k6:decide (((((A:Int) - (0:Int)).toNat+1)+((out.len:Int) - (A:Int)).toNat) * 32≤140737488355328∧(((A:Int) - (0:Int)).toNat+1)+((out.len:Int) - (A:Int)).toNat≤9223372036854775807)=true:=decide_eq_true (by omega)
 unfold zkr zkq zd0
 rw [Int.toNat_natCast,Int.toNat_natCast,k1,k2,k3,k4,k5,k6,w]
 by_cases h1:A < out.len
 ·rw [decide_eq_true (show (A : Int) < (out.len : Int) by omega), decide_eq_true (show 0 ≤ (A : Int) ∧ (A : Int) < (out.len : Int) by omega)]
  by_cases h2:out.get A=lv.get i
  ·rw [if_pos ⟨h1, h2⟩, h2, beq_self_eq_true, beq_self_eq_true, beq_self_eq_true, beq_self_eq_true]
   exact ⟨rfl,rfl⟩
  ·rw [if_neg fun h => h2 h.2]
   have hne : ¬ (((out.get A).Slope.Num == (lv.get i).Slope.Num)=true∧((out.get A).Slope.Den == (lv.get i).Slope.Den)=true∧((out.get A).Start.Num == (lv.get i).Start.Num)=true∧((out.get A).Start.Den == (lv.get i).Start.Den)=true):=by
    rintro ⟨a,b,c,d⟩
    rw [beq_iff_eq] at a b c d
    exact h2 (zkF (by unfold zij;rw [a,b,c,d]))
   generalize ((out.get A).Slope.Num == (lv.get i).Slope.Num)=b1 at hne ⊢
   generalize ((out.get A).Slope.Den == (lv.get i).Slope.Den)=b2 at hne ⊢
   generalize ((out.get A).Start.Num == (lv.get i).Start.Num)=b3 at hne ⊢
   generalize ((out.get A).Start.Den == (lv.get i).Start.Den)=b4 at hne ⊢
   cases b1 <;> cases b2 <;> cases b3 <;> cases b4 <;> first | exact ⟨rfl,rfl⟩ | exact absurd ⟨rfl,rfl,rfl,rfl⟩ hne
 ·rw [if_neg fun h => h1 h.1, decide_eq_false (show ¬ (A : Int) < (out.len : Int) by omega)]
  exact ⟨rfl,rfl⟩
theorem zQd (g : Sl Gate) (G : zaC g) (lv : Sl Line) (i : Nat) (hi : i < lv.len) (hlv : lv.len ≤ 10000) (hx : zkY g (lv.get i)) (S1 : Sl Line → Int → Sl Line) (P1 : Sl Line → Int → Bool) (out : Sl Line) (ho : out.len ≤ 10000) (hM : ∀ j, j < out.len → zkY g (out.get j)) :
  ∀ (m k a:Nat),a+m=out.len→m < k →
  zh1 P1 g lv k out (i:Int) (a:Int)=P1 (zd0 out (zkS (fun j=>!(s81 (out.get j) (lv.get i) g)) m a) (lv.get i)) ((i+1:Nat):Int) ∧
  zgu S1 g lv k out (i:Int) (a:Int)=S1 (zd0 out (zkS (fun j=>!(s81 (out.get j) (lv.get i) g)) m a) (lv.get i)) ((i+1:Nat):Int):=by
 intro m
 induction m with
 | zero =>
  intro k a ha hk
  obtain ⟨k,rfl⟩:∃ k',k=k'+1:=⟨k - 1,by omega⟩
  show zh0 P1 g lv (zh1 P1 g lv k) _ _ _=P1 (zd0 out a _) _∧zhZ S1 g lv (zgu S1 g lv k) _ _ _=S1 (zd0 out a _) _
  unfold zh0 zhZ
  rw [decide_eq_false (show ¬ (a:Int) < (out.len:Int) by omega),cond_false,cond_false]
  exact zOe g lv i hi hlv S1 P1 out a (by omega) ho
 | succ m ih =>
  intro k a ha hk
  obtain ⟨k,rfl⟩:∃ k',k=k'+1:=⟨k - 1,by omega⟩
  obtain ⟨i1,i2⟩:=ih k (a+1) (by omega) (by omega)
  show zh0 P1 g lv (zh1 P1 g lv k) _ _ _=_∧zhZ S1 g lv (zgu S1 g lv k) _ _ _=_
  generalize zh1 P1 g lv k=P at i1
  generalize zgu S1 g lv k=S at i2
  unfold zh0 zhZ
  rw [decide_eq_true (show (a:Int) < (out.len:Int) by omega),decide_eq_true (show 0≤(a:Int)∧(a:Int) < (out.len:Int) by omega),decide_eq_true (show 0≤(i:Int)∧(i:Int) < (lv.len:Int) by omega),Int.toNat_natCast,Int.toNat_natCast,zKM G (hM a (by omega)) hx,zbF (n:=out.len) (by omega) (by omega)]
  cases h:s81 (out.get a) (lv.get i) g
  ·rw [zuZ (c := fun j => !(s81 (out.get j) (lv.get i) g)) (by show (!(s81 (out.get a) (lv.get i) g)) = true; rw [h]; rfl)]
   exact zOe g lv i hi hlv S1 P1 out a (by omega) ho
  ·rw [zu0 (c := fun j => !(s81 (out.get j) (lv.get i) g)) (by show (!(s81 (out.get a) (lv.get i) g)) = false; rw [h]; rfl)]
   exact ⟨i1,i2⟩
end Go.Proofs
namespace Go.Proofs
open Go Go.Pm
set_option maxRecDepth 100000
def Bef (g:Sl Gate) (a b:Line):Prop:=s81 a b g=true
def Tot (g:Sl Gate):Prop:=(∀ a b c,zkY g a→zkY g b→zkY g c→Bef g a b→Bef g b c→Bef g a c)∧∀ a b,zkY g a→zkY g b→a ≠ b→Bef g a b∨Bef g b a
def Srt (g:Sl Gate) (v:Sl Line):Prop:=∀ i j,i < j→j < v.len→Bef g (v.get i) (v.get j)
theorem zsV {g:Sl Gate} (G:zaC g) {s:straight} (h:s∈cst g):zkY g (toL s)↔ztR g s:=by
 refine ⟨fun ⟨x,hx,ha,e⟩ i hi=>?_,fun ha=>⟨s,h,ha,rfl⟩⟩
 rw [← zsQ (zkE G h) (G.1 i hi),← e,zsQ (zkE G hx) (G.1 i hi)]
 exact ha i hi
theorem put_mem {g:Sl Gate} {out:Sl Line} {A:Nat} {x:Line} (hA:A≤out.len) (hM:∀ j,j < out.len→zkY g (out.get j)) (hx:zkY g x):∀ j,j < (zd0 out A x).len→zkY g ((zd0 out A x).get j):=by
 unfold zd0
 by_cases h:A < out.len∧out.get A=x
 ·rw [if_pos h];exact hM
 ·rw [if_neg h]
  intro j hj
  rw [zm5 hA] at hj
  rw [zik]
  split
  ·exact hM j (by omega)
  ·split
   ·exact hx
   ·exact hM (j - 1) (by omega)
theorem zHr {out:Sl Line} {A:Nat} {x:Line} (hA:A≤out.len):(∃ j,j < (zd0 out A x).len∧(zd0 out A x).get j=x)∧∀ j,j < out.len→∃ i,i < (zd0 out A x).len∧(zd0 out A x).get i=out.get j:=by
 unfold zd0
 by_cases h:A < out.len∧out.get A=x
 ·rw [if_pos h];exact ⟨⟨A,h.1,h.2⟩,fun j hj=>⟨j,hj,rfl⟩⟩
 ·rw [if_neg h, zm5 hA]
  refine ⟨⟨A,by omega,by rw [zik,if_neg (by omega),if_pos rfl]⟩,fun j hj=>?_⟩
  by_cases hj2:j < A
  ·exact ⟨j,by omega,by rw [zik,if_pos hj2]⟩
  ·exact ⟨j+1,by omega,by rw [zik,if_neg (by omega),if_neg (by omega)];rfl⟩
theorem zHs {out:Sl Line} {A:Nat} {x:Line} (hA:A≤out.len):(zd0 out A x).len≤out.len+1:=by
 unfold zd0;split
 ·omega
 ·rw [zm5 hA];omega
theorem zHt {g : Sl Gate} (T : Tot g) {out : Sl Line} {x : Line} (hM : ∀ j, j < out.len → zkY g (out.get j)) (hx : zkY g x) (hs : Srt g out) :
  Srt g (zd0 out (zkS (fun j=>!(s81 (out.get j) x g)) out.len 0) x):=by
 have hle:=zB7 (fun j=>!(s81 (out.get j) x g)) out.len
 have hlo:∀ j,j < fst (fun j=>!(s81 (out.get j) x g)) out.len→Bef g (out.get j) x:=fun j hj=>by
  have:(!(s81 (out.get j) x g))=false:=zB8 (c:=fun j=>!(s81 (out.get j) x g)) hj
  show s81 (out.get j) x g=true
  cases h:s81 (out.get j) x g
  ·rw [h] at this;cases this
  ·rfl
 have hhi:fst (fun j=>!(s81 (out.get j) x g)) out.len < out.len→¬ Bef g (out.get (fst (fun j=>!(s81 (out.get j) x g)) out.len)) x:=fun h hb=>by
  have:(!(s81 (out.get (fst (fun j=>!(s81 (out.get j) x g)) out.len)) x g))=true:=zB9 (c:=fun j=>!(s81 (out.get j) x g)) h
  have hb:s81 (out.get (fst (fun j=>!(s81 (out.get j) x g)) out.len)) x g=true:=hb
  rw [hb] at this;cases this
 show Srt g (zd0 out (fst (fun j=>!(s81 (out.get j) x g)) out.len) x)
 generalize fst (fun j=>!(s81 (out.get j) x g)) out.len=A at hle hlo hhi ⊢
 unfold zd0
 by_cases h:A < out.len∧out.get A=x
 ·rw [if_pos h];exact hs
 ·rw [if_neg h]
  intro i j hij hj
  rw [zm5 hle] at hj
  rw [zik,zik]
  by_cases j1:j < A
  ·rw [if_pos (show i < A by omega),if_pos j1];exact hs i j hij (by omega)
  ·rw [if_neg j1]
   by_cases j2:j=A
   ·rw [if_pos j2,if_pos (show i < A by omega)];exact hlo i (by omega)
   ·rw [if_neg j2]
    by_cases i1:i < A
    ·rw [if_pos i1];exact hs i (j - 1) (by omega) (by omega)
    ·rw [if_neg i1]
     by_cases i2:i=A
     ·rw [if_pos i2]
      have hA:A < out.len:=by omega
      have b1:Bef g x (out.get A):=(T.2 x (out.get A) hx (hM A hA) (fun e=>h ⟨hA,e.symm⟩)).resolve_right (hhi hA)
      by_cases j3:j - 1=A
      ·rw [j3];exact b1
      ·exact T.1 _ _ _ hx (hM A hA) (hM (j - 1) (by omega)) b1 (hs A (j - 1) (by omega) (by omega))
     ·rw [if_neg i2];exact hs (i - 1) (j - 1) (by omega) (by omega)
structure Inv33 (g : Sl Gate) (lv : Sl Line) (i : Nat) (out : Sl Line) : Prop where
  len:out.len≤i
  mem:∀ j,j < out.len→zkY g (out.get j)
  has:∀ j,j < i→zkY g (lv.get j)→∃ a,a < out.len∧out.get a=lv.get j
  srt:Tot g→Srt g out
theorem zNm (g:Sl Gate) (G:zaC g) (lv:Sl Line) (hlv:lv.len≤10000) (hc:∀ i,i < lv.len→∃ s∈cst g,lv.get i=toL s):∀ (m k i:Nat) (out:Sl Line),i+m=lv.len→m < k→Inv33 g lv i out →
  zh4 g lv k out (i:Int)=true∧Inv33 g lv lv.len (zgv g lv k out (i:Int)):=by
 intro m
 induction m with
 | zero =>
  intro k i out hi hk I
  obtain ⟨k,rfl⟩:∃ k',k=k'+1:=⟨k - 1,by omega⟩
  show zh3 g lv (zh4 g lv k) _ _=_∧Inv33 g lv lv.len (zh2 g lv (zgv g lv k) _ _)
  unfold zh3 zh2
  rw [decide_eq_false (show ¬ (i:Int) < (lv.len:Int) by omega),cond_false,cond_false]
  have:i=lv.len:=by omega
  rw [← this]
  exact ⟨rfl,I⟩
 | succ m ih =>
  intro k i out hi hk I
  obtain ⟨k,rfl⟩:∃ k',k=k'+1:=⟨k - 1,by omega⟩
  have ih:=fun out I=>ih k (i+1) out (by omega) (by omega) I
  show zh3 g lv (zh4 g lv k) _ _=_∧Inv33 g lv lv.len (zh2 g lv (zgv g lv k) _ _)
  generalize zh4 g lv k=P at ih
  generalize zgv g lv k=S at ih
  obtain ⟨s,hs,es⟩:=hc i (by omega)
  obtain ⟨p1,p2⟩:=zBN G (zkE G hs)
  rw [← es] at p1 p2
  unfold zh3 zh2 zqK zqJ
  rw [decide_eq_true (show (i:Int) < (lv.len:Int) by omega),decide_eq_true (show 0≤(i:Int)∧(i:Int) < (lv.len:Int) by omega),Int.toNat_natCast,p1,zbF (n:=lv.len) (by omega) (by omega),cond_true,cond_true]
  by_cases ha:ztR g s
  ·rw [decide_eq_false (fun h => p2.1 h ha), cond_false, cond_false]
   have hx:zkY g (lv.get i):=by rw [es];exact (zsV G hs).2 ha
   have hl:=I.len
   obtain ⟨b1,b2⟩:=zQd g G lv i (by omega) hlv hx S P out (by omega) I.mem out.len Fuel 0 (by omega) (by simp only [Fuel];omega)
   have hA:=zB7 (fun j=>!(s81 (out.get j) (lv.get i) g)) out.len
   have I':Inv33 g lv (i+1) (zd0 out (zkS (fun j=>!(s81 (out.get j) (lv.get i) g)) out.len 0) (lv.get i)):=by
    refine ⟨Nat.le_trans (zHs hA) (by omega),put_mem hA I.mem hx,fun j hj hm=>?_,fun T=>zHt T I.mem hx (I.srt T)⟩
    obtain ⟨q1,q2⟩:=zHr (out:=out) (x:=lv.get i) hA
    by_cases hji:j=i
    ·rw [hji];exact q1
    ·obtain ⟨a, ha1, ha2⟩ := I.has j (by omega) hm
     obtain ⟨c,hc1,hc2⟩:=q2 a ha1
     exact ⟨c,hc1,hc2.trans ha2⟩
   have:=ih _ I'
   refine ⟨?_,?_⟩
   ·simp only [decide_true,Bool.true_and];exact b1.trans this.1
   ·have e : zgu S g lv Fuel out (i : Int) (0 : Int) = _ := b2
    rw [e];exact this.2
  ·rw [decide_eq_true (p2.2 ha), cond_true, cond_true]
   have I':Inv33 g lv (i+1) out:=by
    refine ⟨by have:=I.len;omega,I.mem,fun j hj hm=>?_,I.srt⟩
    by_cases hji:j=i
    ·rw [hji,es,zsV G hs] at hm;exact absurd hm ha
    ·exact I.has j (by omega) hm
   have:=ih _ I'
   exact ⟨by simp only [decide_true,Bool.true_and];exact this.1,this.2⟩
theorem zop (g:Sl Gate) (G:zaC g):p33 g=true∧(s33 g).len≤2304∧(∀ j,j < (s33 g).len→zkY g ((s33 g).get j))∧(∀ l,zkY g l→∃ a,a < (s33 g).len∧(s33 g).get a=l)∧(Tot g→Srt g (s33 g)):=by
  obtain ⟨e1,e2⟩:=zKH g G
  have hlen:(((cst g).map toL).foldl apL (⟨0,fun _=>default⟩:Sl Line)).len=(cst g).length:=by rw [zck,List.length_map];simp
  have hget:∀ i s,(cst g)[i]? = some s→(((cst g).map toL).foldl apL (⟨0,fun _=>default⟩:Sl Line)).get i=toL s:=fun i s h=>by
    have:=zg9 ((cst g).map toL) (⟨0,fun _=>default⟩:Sl Line) i (toL s) (by rw [List.getElem?_map,h];rfl)
    rw [Nat.zero_add] at this;exact this
  have hc:=zrp G
  obtain ⟨a, I⟩ := zNm g G (((cst g).map toL).foldl apL (⟨0, fun _ => default⟩ : Sl Line)) (by omega)
    (fun i hi=>by
      rw [hlen] at hi
      exact ⟨(cst g)[i],List.getElem_mem _,hget i _ (List.getElem?_eq_getElem hi)⟩)
    (cst g).length Fuel 0 (⟨0,fun _=>default⟩:Sl Line) (by omega) (by simp only [Fuel];omega)
    ⟨Nat.le_refl _,fun j hj=>absurd hj (Nat.not_lt_zero _),fun j hj=>absurd hj (Nat.not_lt_zero _),fun _ i j _ hj=>absurd hj (Nat.not_lt_zero _)⟩
  have es:s33 g=zgv g (((cst g).map toL).foldl apL (⟨0,fun _=>default⟩:Sl Line)) Fuel (⟨0,fun _=>default⟩:Sl Line) (0:Int):=by
    unfold s33;rw [e2];rfl
  have I:Inv33 g (((cst g).map toL).foldl apL (⟨0,fun _=>default⟩:Sl Line)) (((cst g).map toL).foldl apL (⟨0,fun _=>default⟩:Sl Line)).len (s33 g):=by rw [es];exact I
  refine ⟨?_,by have:=I.len;omega,I.mem,fun l ⟨s,hs,ha,e⟩=>?_,I.srt⟩
  · unfold p33
    rw [e1,e2]
    simp only [decide_true,Bool.true_and]
    exact a
  · obtain ⟨i, hi⟩ := List.getElem?_of_mem hs
    have hi2:i < (cst g).length:=(List.getElem?_eq_some_iff.1 hi).1
    have hgi:=hget i s hi
    obtain ⟨b,hb1,hb2⟩:=I.has i (by omega) (by rw [hgi];exact ⟨s,hs,ha,rfl⟩)
    exact ⟨b,hb1,by rw [hb2,hgi,e]⟩
end Go.Proofs
namespace Go.Proofs
open Go Go.Pm
set_option maxRecDepth 100000
def cmS (g:Sl Gate) (i:Nat) (s:Int×Int):Int×Int:=(if (g.get i).Low > s.1 then (g.get i).Low else s.1,if (g.get i).High < s.2 then (g.get i).High else s.2)
def com (g:Sl Gate):Int×Int:=zii (cmS g) (g.len - 1) 1 ((g.get 0).Low,(g.get 0).High)
theorem zQe (g:Sl Gate) (h:1≤g.len):zii (cmS g) g.len 0 ((g.get 0).Low,(g.get 0).High)=com g:=by
 obtain ⟨m,hm⟩:∃ m,g.len=m+1:=⟨g.len - 1,by omega⟩
 unfold com
 rw [hm]
 show zii (cmS g) m 1 (cmS g 0 ((g.get 0).Low,(g.get 0).High))=zii (cmS g) m 1 _
 have:cmS g 0 ((g.get 0).Low,(g.get 0).High)=((g.get 0).Low,(g.get 0).High):=by
  unfold cmS
  rw [if_neg (by show ¬ (g.get 0).Low > (g.get 0).Low;omega),if_neg (by show ¬ (g.get 0).High < (g.get 0).High;omega)]
 rw [this]
theorem zDa (g:Sl Gate) (G:zaC g):p98 ⟨g⟩=true∧s98 ⟨g⟩=⟨(com g).1,(com g).2⟩:=by
  have hl:=G.2
  have := zkC (σ := Int × Int) (step := cmS g) (E := fun s => (⟨s.1, s.2⟩ : Span)) (EP := fun _ => true) (Inv := fun _ _ => True) (a := 0) (n := g.len) (lpS := fun k s i => zhv ⟨g⟩ k i s.1 s.2) (lpP := fun k s i => zhw ⟨g⟩ k i s.1 s.2)
    (fun k i s _ hi _=>by
      show zht ⟨g⟩ (zhv ⟨g⟩ k) (i:Int) s.1 s.2=_
      generalize zhv ⟨g⟩ k=S
      unfold zht
      rw [decide_eq_true (show (i:Int) < ((⟨g⟩:list).Gates.len:Int) by show (i:Int) < (g.len:Int);omega),cond_true,Int.toNat_natCast]
      rfl)
    (fun k s=>by
      show zht ⟨g⟩ (zhv ⟨g⟩ k) (g.len:Int) s.1 s.2=_
      unfold zht
      rw [decide_eq_false (show ¬ (g.len:Int) < ((⟨g⟩:list).Gates.len:Int) by show ¬ (g.len:Int) < (g.len:Int);omega),cond_false])
    (fun k i s _ hi _=>by
      show zhu ⟨g⟩ (zhw ⟨g⟩ k) (i:Int) s.1 s.2=_
      generalize zhw ⟨g⟩ k=S
      unfold zhu
      rw [decide_eq_true (show (i:Int) < ((⟨g⟩:list).Gates.len:Int) by show (i:Int) < (g.len:Int);omega),decide_eq_true (show 0≤(i:Int)∧(i:Int) < ((⟨g⟩:list).Gates.len:Int) by show 0≤(i:Int)∧(i:Int) < (g.len:Int);omega),cond_true,Bool.true_and,Int.toNat_natCast]
      rfl)
    (fun k s=>by
      show zhu ⟨g⟩ (zhw ⟨g⟩ k) (g.len:Int) s.1 s.2=_
      unfold zhu
      rw [decide_eq_false (show ¬ (g.len:Int) < ((⟨g⟩:list).Gates.len:Int) by show ¬ (g.len:Int) < (g.len:Int);omega),cond_false])
    (fun _ _ _ _ _=>trivial) (Nat.zero_le _) (by omega) ((g.get 0).Low,(g.get 0).High) trivial
  obtain ⟨a,b⟩:=this
  rw [show g.len - 0=g.len from rfl,zQe g hl.1] at b
  refine ⟨?_,b⟩
  unfold p98
  rw [decide_eq_true (show 0≤(0:Int)∧(0:Int) < ((⟨g⟩:list).Gates.len:Int) from ⟨by omega,by show (0:Int) < (g.len:Int);omega⟩),Bool.true_and,Bool.true_and]
  exact a
theorem zzL (g:Sl Gate) (G:zaC g):p71 g=true∧s71 g=((com g).1,(com g).2,decide ((com g).1≤(com g).2)):=by
  have hl:=G.2
  have := zkC (σ := Int × Int) (step := cmS g) (E := fun s => (s.1, s.2, decide (s.1 ≤ s.2))) (EP := fun _ => true) (Inv := fun _ _ => True) (a := 1) (n := g.len) (lpS := fun k s i => zh7 g k s.1 s.2 i) (lpP := fun k s i => zh8 g k s.1 s.2 i)
    (fun k i s _ hi _=>by
      show zh5 g (zh7 g k) s.1 s.2 (i:Int)=_
      generalize zh7 g k=S
      unfold zh5
      rw [decide_eq_true (show (i:Int) < (g.len:Int) by omega),cond_true,Int.toNat_natCast]
      rfl)
    (fun k s=>by
      show zh5 g (zh7 g k) s.1 s.2 (g.len:Int)=_
      unfold zh5
      rw [decide_eq_false (show ¬ (g.len:Int) < (g.len:Int) by omega),cond_false])
    (fun k i s _ hi _=>by
      show zh6 g (zh8 g k) s.1 s.2 (i:Int)=_
      generalize zh8 g k=S
      unfold zh6
      rw [decide_eq_true (show (i:Int) < (g.len:Int) by omega),decide_eq_true (show 0≤(i:Int)∧(i:Int) < (g.len:Int) by omega),cond_true,Bool.true_and,Bool.true_and,Int.toNat_natCast]
      rfl)
    (fun k s=>by
      show zh6 g (zh8 g k) s.1 s.2 (g.len:Int)=_
      unfold zh6
      rw [decide_eq_false (show ¬ (g.len:Int) < (g.len:Int) by omega),cond_false])
    (fun _ _ _ _ _=>trivial) hl.1 (by omega) ((g.get 0).Low,(g.get 0).High) trivial
  obtain ⟨a,b⟩:=this
  refine ⟨?_,b⟩
  unfold p71
  rw [decide_eq_true (show 0≤(0:Int)∧(0:Int) < (g.len:Int) by omega),Bool.true_and,Bool.true_and]
  exact a
theorem zrq (g:Sl Gate) (G:zaC g):p66 (s65 g)=true∧p21 g=true∧s66 (s65 g)=s21 g:=by
 obtain ⟨C,_,c2,c3,c4,_⟩:=zsU g G
 obtain ⟨a1,a2⟩:=zsS g G
 obtain ⟨b1,b2⟩:=zDa g G
 obtain ⟨d1,d2⟩:=zzL g G
 obtain ⟨e1,e2⟩:=zlv g G
 obtain ⟨f1,_,f3,f4,_⟩:=zop g G
 have h67:s67 ⟨g⟩=s22 g:=Bool.eq_iff_iff.2 (a2.trans e2.symm)
 have hcl:(C.foldl apL (ziF:Sl straight)).len=C.length:=by rw [zck];simp
 rw [c2]
 unfold p66 s66 p21 s21
 show (decide (p98 ⟨g⟩=true) && (decide (p67 ⟨g⟩=true) && true))=true∧_∧cond (s67 ⟨g⟩) (decide ((s98 ⟨g⟩).Low≤(s98 ⟨g⟩).High)) (decide (((C.foldl apL (ziF:Sl straight)).len:Int) > 0))=_
 rw [a1,b1,b2,d1,d2,e1,f1,h67,hcl]
 refine ⟨by simp,by cases s22 g <;> simp,?_⟩
 cases s22 g
 ·rw [cond_false, cond_false]
  refine decide_eq_decide.2 ⟨fun h=>?_,fun h=>?_⟩
  ·obtain ⟨x, hx⟩ := List.exists_mem_of_length_pos (l := C) (by omega)
   obtain ⟨a,ha,_⟩:=f4 (toL x) ⟨x,(c3 x hx).1,(c3 x hx).2,rfl⟩
   omega
  ·obtain ⟨s, hs, ha, _⟩ := f3 0 (by omega)
   obtain ⟨x,hx,_⟩:=c4 s hs ha
   have:=List.length_pos_of_mem hx
   omega
 ·rfl
end Go.Proofs
namespace Go.Proofs
open Go Go.Pm
set_option maxRecDepth 100000
def FOK (f:Frac):Prop:=(-1000000000000≤f.Num∧f.Num≤1000000000000)∧1≤f.Den∧f.Den≤100000
def ltF (a b:Frac):Prop:=a.Num * b.Den < b.Num * a.Den
theorem zzM (x y:Int):zEk x y < 0↔x < y:=by
 unfold zEk zEi
 by_cases h:x < y
 ·simp [h]
 ·by_cases h2:x > y <;> simp [h,h2]
theorem zzN (x y:Int):zEk x y > 0↔x > y:=by
 unfold zEk zEi
 by_cases h:x < y
 ·have : ¬ x > y := by omega
  simp [h];omega
 ·by_cases h2:x > y <;> simp [h,h2]
theorem cross {a b:Frac} (ha:FOK a) (hb:FOK b):w64 (a.Num * b.Den)=a.Num * b.Den:=by
 have:=zkM ha.1.1 ha.1.2 (show 0≤b.Den by have:=hb.2;omega) hb.2.2
 exact zaH (by omega) (by omega)
theorem zzO {a b:Frac} (ha:FOK a) (hb:FOK b):zA4 a b=true↔ltF a b:=by
 unfold zA4 s69 ltF
 rw [cross ha hb,cross hb ha,decide_eq_true_eq,zzM]
theorem zzP {a b:Frac} (ha:FOK a) (hb:FOK b):zA5 a b=true↔ltF b a:=by
 unfold zA5 s69 ltF
 rw [cross ha hb,cross hb ha,decide_eq_true_eq,zzN]
theorem zix {a b:Frac} (ha:FOK a) (hb:FOK b):s29 a b=true↔ltF a b:=by
 unfold s29 ltF
 rw [cross ha hb,cross hb ha,decide_eq_true_eq]
theorem zm6 {a b:Frac} (ha:0 < a.Den) (hb:0 < b.Den):ltF (red a.Num a.Den) (red b.Num b.Den)↔ltF a b:=by
 have a1:=zdM (num:=a.Num) ha
 have a2:=zdf (num:=a.Num) ha
 have b1:=zdM (num:=b.Num) hb
 have b2:=zdf (num:=b.Num) hb
 have ga:=zch (num:=a.Num) ha
 have gb:=zch (num:=b.Num) hb
 unfold ltF
 generalize red a.Num a.Den=x at *
 generalize red b.Num b.Den=y at *
 generalize (Int.gcd a.Num a.Den:Int)=G at *
 generalize (Int.gcd b.Num b.Den:Int)=K at *
 have hk:=Int.mul_pos ga gb
 have e1:a.Num * b.Den=(G * K) * (x.Num * y.Den):=by rw [← a1,← b2];ac_rfl
 have e2:b.Num * a.Den=(G * K) * (y.Num * x.Den):=by rw [← b1,← a2];ac_rfl
 rw [e1,e2]
 have:=zg8 (x:=y.Num * x.Den) (y:=x.Num * y.Den) hk
 constructor
 ·intro h;exact Int.not_le.1 fun k=>absurd (this.1 k) (by omega)
 ·intro h;exact Int.not_le.1 fun k=>absurd (this.2 k) (by omega)
theorem zkG {f:Frac} (h:FOK f):FOK (red f.Num f.Den):=by
 obtain ⟨h1,h2,h3⟩:=h
 have hd:0 < f.Den:=by omega
 have:=zgy (num:=f.Num) hd
 have:=zkD (num:=f.Num) hd
 have:=zcM (num:=f.Num) hd
 exact ⟨⟨by omega,by omega⟩,by omega,by omega⟩
theorem zoq {a b:Frac} (ha:0 < a.Den) (hb:0 < b.Den) (h1 : ¬ ltF a b) (h2 : ¬ ltF b a):red a.Num a.Den=red b.Num b.Den :=
 (zzE ha hb).2 (by unfold ltF at h1 h2;omega)
end Go.Proofs
namespace Go.Proofs
open Go Go.Pm
set_option maxRecDepth 100000
theorem zKN {x y X Y:Int} (h1 : -X≤x) (h2:x≤X) (h3 : -Y≤y) (h4:y≤Y) : -(X * Y)≤x * y∧x * y≤X * Y:=by
 rcases Int.le_total 0 y with h | h
 ·exact zkM h1 h2 h h4
 ·have := zkM (x := x) (y := -y) (X := X) (Y := Y) h1 h2 (by omega) (by omega)
  rw [Int.mul_neg] at this
  omega
theorem zsW {s:straight} (S:SOK s) {z:Int} (hz : -200000≤z∧z≤200000):p28 (toL s) z=true∧s28 (toL s) z=red (plc s z) s.den:=by
 obtain ⟨S1,S2,S3⟩:=S
 have hd:0 < s.den:=by omega
 have g1:=zch (num:=s.slope) hd
 have g2:=zch (num:=s.start) hd
 have r1:=zgy (num:=s.slope) hd
 have r2:=zgy (num:=s.start) hd
 have e1:=zdM (num:=s.slope) hd
 have e2:=zdf (num:=s.slope) hd
 have e3:=zdM (num:=s.start) hd
 have e4:=zdf (num:=s.start) hd
 have p1:=zcM (num:=s.slope) hd
 have p2:=zcM (num:=s.start) hd
 have q1:=zkD (num:=s.slope) hd
 have q2:=zkD (num:=s.start) hd
 unfold p28 s28 zqO zqN toL
 simp only
 generalize (red s.slope s.den).Num=a at *
 generalize (red s.slope s.den).Den=b at *
 generalize (red s.start s.den).Num=c at *
 generalize (red s.start s.den).Den=d at *
 generalize (Int.gcd s.slope s.den:Int)=G1 at *
 generalize (Int.gcd s.start s.den:Int)=G2 at *
 obtain ⟨k1,k2⟩:=zC6 d b (by omega) (by omega) (by omega)
 have g0:=zch (num:=d) p1
 obtain ⟨d',hd'⟩:=zOc d b
 obtain ⟨b',hb'⟩:=zOd d b
 rw [k1,k2]
 generalize (Int.gcd d b:Int)=g at *
 have pd:0 < d':=by
  rcases Int.lt_or_le 0 d' with h | h
  ·exact h
  ·have:=Int.mul_le_mul_of_nonneg_left h (Int.le_of_lt g0);rw [← hd',Int.mul_zero] at this;omega
 have pb:0 < b':=by
  rcases Int.lt_or_le 0 b' with h | h
  ·exact h
  ·have:=Int.mul_le_mul_of_nonneg_left h (Int.le_of_lt g0);rw [← hb',Int.mul_zero] at this;omega
 have ld:d'≤d:=by have:=Int.mul_le_mul_of_nonneg_right (show 1≤g by omega) (Int.le_of_lt pd);omega
 have lb:b'≤b:=by have:=Int.mul_le_mul_of_nonneg_right (show 1≤g by omega) (Int.le_of_lt pb);omega
 have t1:d.tdiv g=d':=by rw [hd'];exact Int.mul_tdiv_cancel_left _ (by omega)
 have m1:=zkM (x:=d') (X:=100000) (y:=b) (Y:=100000) (by omega) (by omega) (by omega) (by omega)
 have m2:=Int.mul_pos pd p1
 have t2:(d' * b).tdiv d=b':=by
  have:d' * b=d * b':=by rw [hb',hd'];ac_rfl
  rw [this];exact Int.mul_tdiv_cancel_left _ (by omega)
 have t3:(d' * b).tdiv b=d':=by rw [Int.mul_comm];exact Int.mul_tdiv_cancel_left _ (by omega)
 have m3:=zkM (x:=c) (X:=200000000000) (y:=b') (Y:=100000) (by omega) (by omega) (by omega) (by omega)
 have m4:=zkM (x:=a) (X:=2000000) (y:=d') (Y:=100000) (by omega) (by omega) (by omega) (by omega)
 have m5:=zKN (x:=a * d') (X:=2000000 * 100000) (y:=z) (Y:=200000) (by omega) (by omega) (by omega) (by omega)
 rw [t1,zaH (x:=d') (by omega) (by omega),zaH (x:=d' * b) (by omega) (by omega),t2,t3,zaH (x:=b') (by omega) (by omega),zaH (x:=d') (by omega) (by omega),zaH (x:=c * b') (by omega) (by omega),zaH (x:=a * d') (by omega) (by omega),zaH (x:=a * d' * z) (by omega) (by omega),zaH (x:=c * b'+a * d' * z) (by omega) (by omega)]
 obtain ⟨x1,x2⟩:=zg7 (num:=c * b'+a * d' * z) (den:=d' * b) (by omega) (by omega) (by omega) (by omega)
 rw [x1,x2,decide_eq_true (show g ≠ 0 by omega),decide_eq_true (show d ≠ 0 by omega),decide_eq_true (show b ≠ 0 by omega)]
 refine ⟨by simp,(zzE m2 hd).2 ?_⟩
 unfold plc
 have u1:c * b' * s.den=s.start * (d' * b):=by
  rw [← e3,← e4,hb',hd'];ac_rfl
 have u2:a * d' * z * s.den=s.slope * z * (d' * b):=by
  rw [← e1,← e2];ac_rfl
 rw [Int.add_mul,Int.add_mul,u1,u2]
theorem zfL {a b c:Frac} (ha:0 < a.Den) (hb:0 < b.Den) (hc:0 < c.Den) (h1 : ¬ ltF b a) (h2 : ¬ ltF c b) : ¬ ltF c a:=by
 unfold ltF at *
 intro h3
 -- a ≤ b, b ≤ c, c < a
 have x1:a.Num * b.Den≤b.Num * a.Den:=by omega
 have x2:b.Num * c.Den≤c.Num * b.Den:=by omega
 have y1:=Int.mul_le_mul_of_nonneg_right x1 (Int.le_of_lt hc)
 have y2:=Int.mul_le_mul_of_nonneg_right x2 (Int.le_of_lt ha)
 have y3:=Int.mul_lt_mul_of_pos_right h3 hb
 have z1:b.Num * a.Den * c.Den=b.Num * c.Den * a.Den:=by ac_rfl
 have z2:c.Num * b.Den * a.Den=c.Num * a.Den * b.Den:=by ac_rfl
 have z3:a.Num * b.Den * c.Den=a.Num * c.Den * b.Den:=by ac_rfl
 omega
def zeL (v:Sl Frac) (f:Frac):Prop:=(∃ i,i < v.len∧v.get i=f)∧∀ j,j < v.len→¬ ltF (v.get j) f
def zeM (v:Sl Frac) (f:Frac):Prop:=(∃ i,i < v.len∧v.get i=f)∧∀ j,j < v.len→¬ ltF f (v.get j)
theorem zHu (v:Sl Frac) (h1:1≤v.len) (h2:v.len≤100000) (hv:∀ i,i < v.len→FOK (v.get i)):zHE v=true∧zeL v (zpr v):=by
  have key:∀ (m k i:Nat) (sl:Sl Frac) (o:Frac),sl.len=v.len - 1→(∀ x,sl.get x=v.get (x+1))→i+m=v.len - 1→m < k→(∃ a,a < v.len∧v.get a=o)→(∀ j,j≤i→¬ ltF (v.get j) o) →
      zfA v k sl (i:Int) o.Num o.Den=true∧zeL v (zfz v k sl (i:Int) o.Num o.Den):=by
    intro m
    induction m with
    | zero =>
      intro k i sl o hs hg hi hk ho hl
      obtain ⟨k,rfl⟩:∃ k',k=k'+1:=⟨k - 1,by omega⟩
      show zfy v (zfA v k) _ _ _ _=_∧zeL v (zfx v (zfz v k) _ _ _ _)
      unfold zfy zfx
      rw [decide_eq_false (show ¬ (i:Int) < (((v.len:Int) - (1:Int)).toNat:Int) by omega),cond_false,cond_false]
      exact ⟨rfl,ho,fun j hj=>hl j (by omega)⟩
    | succ m ih =>
      intro k i sl o hs hg hi hk ho hl
      obtain ⟨k,rfl⟩:∃ k',k=k'+1:=⟨k - 1,by omega⟩
      have ih:=fun o ho hl=>ih k (i+1) sl o hs hg (by omega) (by omega) ho hl
      show zfy v (zfA v k) _ _ _ _=_∧zeL v (zfx v (zfz v k) _ _ _ _)
      generalize zfA v k=P at ih
      generalize zfz v k=S at ih
      unfold zfy zfx zmi zmh
      have ho':=ho
      obtain ⟨a,ha,ea⟩:=ho'
      have fo:FOK o:=ea ▸ hv a ha
      have fx:=hv (i+1) (by omega)
      rw [decide_eq_true (show (i:Int) < (((v.len:Int) - (1:Int)).toNat:Int) by omega),decide_eq_true (show 0≤(i:Int)∧(i:Int) < (sl.len:Int) by omega),cond_true,cond_true,Bool.true_and,Int.toNat_natCast,hg,zbF (n:=v.len) (by omega) (by omega)]
      by_cases hlt:ltF (v.get (i+1)) o
      · rw [show zA4 (v.get (i + 1)) (⟨o.Num, o.Den⟩ : Frac) = true from (zzO fx fo).2 hlt, cond_true, cond_true]
        refine ih (v.get (i+1)) ⟨i+1,by omega,rfl⟩ fun j hj=>?_
        by_cases hji:j=i+1
        · rw [hji];unfold ltF;omega
        · have g1 := hl j (by omega)
          have fj:=hv j (by omega)
          refine zfL (b:=o) (by have:=fx.2;omega) (by have:=fo.2;omega) (by have:=fj.2;omega) ?_ g1
          unfold ltF at hlt ⊢;omega
      · have e:zA4 (v.get (i+1)) (⟨o.Num,o.Den⟩:Frac)=false:=by
          cases h:zA4 (v.get (i+1)) (⟨o.Num,o.Den⟩:Frac)
          · rfl
          · exact absurd ((zzO fx fo).1 h) hlt
        rw [e,cond_false,cond_false]
        refine ih o ho fun j hj=>?_
        by_cases hji:j=i+1
        · rw [hji];exact hlt
        · exact hl j (by omega)
  have hk := key (v.len - 1) Fuel 0 (⟨((v.len : Int) - (1:Int)).toNat, (fun i => v.get (i + ((1:Int).toNat)))⟩ : Sl Frac) (v.get 0) (by show ((v.len : Int) - (1:Int)).toNat = _; omega) (fun _ => rfl) (by omega) (by simp only [Fuel]; omega) ⟨0, by omega, rfl⟩
    (fun j hj => by have : j = 0 := by omega
                    rw [this];unfold ltF;omega)
  refine ⟨?_,hk.2⟩
  unfold zHE
  rw [decide_eq_true (show 0≤(0:Int)∧(0:Int) < (v.len:Int) by omega),decide_eq_true (show 0≤(1:Int)∧(1:Int)≤(v.len:Int)∧(v.len:Int)≤(v.len:Int) by omega),Bool.true_and,Bool.true_and]
  exact hk.1
end Go.Proofs
namespace Go.Proofs
open Go Go.Pm
set_option maxRecDepth 100000
theorem zBO (v:Sl Frac) (h1:1≤v.len) (h2:v.len≤100000) (hv:∀ i,i < v.len→FOK (v.get i)):ztC v=true∧zeM v (s111a v):=by
  have key:∀ (m k i:Nat) (sl:Sl Frac) (o:Frac),sl.len=v.len - 1→(∀ x,sl.get x=v.get (x+1))→i+m=v.len - 1→m < k→(∃ a,a < v.len∧v.get a=o)→(∀ j,j≤i→¬ ltF o (v.get j)) →
      zec v k sl (i:Int) o.Num o.Den=true∧zeM v (zeb v k sl (i:Int) o.Num o.Den):=by
    intro m
    induction m with
    | zero =>
      intro k i sl o hs hg hi hk ho hl
      obtain ⟨k,rfl⟩:∃ k',k=k'+1:=⟨k - 1,by omega⟩
      show zea v (zec v k) _ _ _ _=_∧zeM v (zd9 v (zeb v k) _ _ _ _)
      unfold zea zd9
      rw [decide_eq_false (show ¬ (i:Int) < (((v.len:Int) - (1:Int)).toNat:Int) by omega),cond_false,cond_false]
      exact ⟨rfl,ho,fun j hj=>hl j (by omega)⟩
    | succ m ih =>
      intro k i sl o hs hg hi hk ho hl
      obtain ⟨k,rfl⟩:∃ k',k=k'+1:=⟨k - 1,by omega⟩
      have ih:=fun o ho hl=>ih k (i+1) sl o hs hg (by omega) (by omega) ho hl
      show zea v (zec v k) _ _ _ _=_∧zeM v (zd9 v (zeb v k) _ _ _ _)
      generalize zec v k=P at ih
      generalize zeb v k=S at ih
      unfold zea zd9 zjW zjV
      have ho':=ho
      obtain ⟨a,ha,ea⟩:=ho'
      have fo:FOK o:=ea ▸ hv a ha
      have fx:=hv (i+1) (by omega)
      rw [decide_eq_true (show (i:Int) < (((v.len:Int) - (1:Int)).toNat:Int) by omega),decide_eq_true (show 0≤(i:Int)∧(i:Int) < (sl.len:Int) by omega),cond_true,cond_true,Bool.true_and,Int.toNat_natCast,hg,zbF (n:=v.len) (by omega) (by omega)]
      by_cases hlt:ltF o (v.get (i+1))
      · rw [show zA5 (v.get (i + 1)) (⟨o.Num, o.Den⟩ : Frac) = true from (zzP fx fo).2 hlt, cond_true, cond_true]
        refine ih (v.get (i+1)) ⟨i+1,by omega,rfl⟩ fun j hj=>?_
        by_cases hji:j=i+1
        · rw [hji];unfold ltF;omega
        · have g1 := hl j (by omega)
          have fj:=hv j (by omega)
          refine zfL (b:=o) (by have:=fj.2;omega) (by have:=fo.2;omega) (by have:=fx.2;omega) g1 ?_
          unfold ltF at hlt ⊢;omega
      · have e:zA5 (v.get (i+1)) (⟨o.Num,o.Den⟩:Frac)=false:=by
          cases h:zA5 (v.get (i+1)) (⟨o.Num,o.Den⟩:Frac)
          · rfl
          · exact absurd ((zzP fx fo).1 h) hlt
        rw [e,cond_false,cond_false]
        refine ih o ho fun j hj=>?_
        by_cases hji:j=i+1
        · rw [hji];exact hlt
        · exact hl j (by omega)
  have hk := key (v.len - 1) Fuel 0 (⟨((v.len : Int) - (1:Int)).toNat, (fun i => v.get (i + ((1:Int).toNat)))⟩ : Sl Frac) (v.get 0) (by show ((v.len : Int) - (1:Int)).toNat = _; omega) (fun _ => rfl) (by omega) (by simp only [Fuel]; omega) ⟨0, by omega, rfl⟩
    (fun j hj => by have : j = 0 := by omega
                    rw [this];unfold ltF;omega)
  refine ⟨?_,hk.2⟩
  unfold ztC
  rw [decide_eq_true (show 0≤(0:Int)∧(0:Int) < (v.len:Int) by omega),decide_eq_true (show 0≤(1:Int)∧(1:Int)≤(v.len:Int)∧(v.len:Int)≤(v.len:Int) by omega),Bool.true_and,Bool.true_and]
  exact hk.1
theorem zzQ {w : Nat → Frac} {n : Nat} (h1 : 1 ≤ n) (hn : n ≤ 100000) (hw : ∀ j, j < n → FOK (w j)) {lpS : Nat → Int → Frac → Frac → Frac × Frac} {lpP : Nat → Int → Frac → Frac → Bool}
    (hS:∀ (k i:Nat) (a b:Frac),i < n→lpS (k+1) (i:Int) a b=lpS k (w64 ((i:Int)+(1:Int))) (cond (s29 (w i) a) (w i) a) (cond (s29 b (w i)) (w i) b))
    (hE:∀ (k:Nat) (a b:Frac),lpS (k+1) (n:Int) a b=(a,b))
    (hP:∀ (k i:Nat) (a b:Frac),i < n→lpP (k+1) (i:Int) a b=lpP k (w64 ((i:Int)+(1:Int))) (cond (s29 (w i) a) (w i) a) (cond (s29 b (w i)) (w i) b))
    (hF:∀ (k:Nat) (a b:Frac),lpP (k+1) (n:Int) a b=true) :
    lpP Fuel (1:Int) (w 0) (w 0)=true∧zeL ⟨n,w⟩ (lpS Fuel (1:Int) (w 0) (w 0)).1∧zeM ⟨n,w⟩ (lpS Fuel (1:Int) (w 0) (w 0)).2:=by
  have key:∀ (m k i:Nat) (a b:Frac),i+m=n→m < k→(∃ j,j < n∧w j=a)→(∃ j,j < n∧w j=b)→(∀ j,j < i→¬ ltF (w j) a)→(∀ j,j < i→¬ ltF b (w j)) →
      lpP k (i:Int) a b=true∧zeL ⟨n,w⟩ (lpS k (i:Int) a b).1∧zeM ⟨n,w⟩ (lpS k (i:Int) a b).2:=by
    intro m
    induction m with
    | zero =>
      intro k i a b hi hk ha hb hl hg
      obtain ⟨k,rfl⟩:∃ k',k=k'+1:=⟨k - 1,by omega⟩
      obtain rfl:i=n:=by omega
      rw [hE,hF]
      exact ⟨rfl,⟨ha,hl⟩,hb,hg⟩
    | succ m ih =>
      intro k i a b hi hk ha hb hl hg
      obtain ⟨k,rfl⟩:∃ k',k=k'+1:=⟨k - 1,by omega⟩
      have hin:i < n:=by omega
      rw [hS k i a b hin,hP k i a b hin,zbF (n:=n) hin (by omega)]
      have fi:=hw i hin
      have fa:FOK a:=by obtain ⟨j,hj,e⟩:=ha;exact e ▸ hw j hj
      have fb:FOK b:=by obtain ⟨j,hj,e⟩:=hb;exact e ▸ hw j hj
      have pi:=fi.2;have pa:=fa.2;have pb:=fb.2
      refine ih k (i+1) _ _ (by omega) (by omega) ?_ ?_ ?_ ?_
      · cases s29 (w i) a
        · exact ha
        · exact ⟨i,hin,rfl⟩
      · cases s29 b (w i)
        · exact hb
        · exact ⟨i,hin,rfl⟩
      · intro j hj
        cases e:s29 (w i) a
        · by_cases hji : j = i
          · rw [hji];intro h;rw [(zix fi fa).2 h] at e;cases e
          · exact hl j (by omega)
        · have hlt := (zix fi fa).1 e
          show ¬ ltF (w j) (w i)
          by_cases hji:j=i
          · rw [hji];unfold ltF;omega
          · have fj := (hw j (by omega)).2
            refine zfL (b:=a) (by omega) (by omega) (by omega) ?_ (hl j (by omega))
            unfold ltF at hlt ⊢;omega
      · intro j hj
        cases e:s29 b (w i)
        · by_cases hji : j = i
          · rw [hji];intro h;rw [(zix fb fi).2 h] at e;cases e
          · exact hg j (by omega)
        · have hlt := (zix fb fi).1 e
          show ¬ ltF (w i) (w j)
          by_cases hji:j=i
          · rw [hji];unfold ltF;omega
          · have fj := (hw j (by omega)).2
            refine zfL (b:=b) (by omega) (by omega) (by omega) (hg j (by omega)) ?_
            unfold ltF at hlt ⊢;omega
  exact key (n - 1) Fuel 1 (w 0) (w 0) (by omega) (by simp only [Fuel]; omega) ⟨0, by omega, rfl⟩ ⟨0, by omega, rfl⟩
    (fun j hj => by have : j = 0 := by omega
                    rw [this]; unfold ltF; omega) (fun j hj => by have : j = 0 := by omega
                                                                  rw [this];unfold ltF;omega)
abbrev rd_ (f:Frac):Frac:=red f.Num f.Den
theorem ztO {f:Frac} (h:0 < f.Den):rd_ (rd_ f)=rd_ f:=by
 have p:=zcM (num:=f.Num) h
 refine (zzE p h).2 ?_
 have e1:=zdM (num:=f.Num) h
 have e2:=zdf (num:=f.Num) h
 show (red f.Num f.Den).Num * f.Den=f.Num * (red f.Num f.Den).Den
 generalize red f.Num f.Den=x at *
 generalize (Int.gcd f.Num f.Den:Int)=G at *
 rw [← e1,← e2];ac_rfl
theorem zor {a b:Frac} (ha:0 < a.Den) (hb:0 < b.Den):ltF (rd_ a) b↔ltF a b:=by
 have p:=zcM (num:=a.Num) ha
 have e:red (rd_ a).Num (rd_ a).Den=red a.Num a.Den:=ztO ha
 rw [← zm6 (a:=rd_ a) (b:=b) p hb,e,zm6 ha hb]
theorem zos {a b:Frac} (ha:0 < a.Den) (hb:0 < b.Den):ltF a (rd_ b)↔ltF a b:=by
 have p:=zcM (num:=b.Num) hb
 have e:red (rd_ b).Num (rd_ b).Den=red b.Num b.Den:=ztO hb
 rw [← zm6 (a:=a) (b:=rd_ b) ha p,e,zm6 ha hb]
def Cor (g:Sl Gate) (s:straight):Prop:=s∈cst g∧ztR g s
def Bd (g:Sl Gate) (F:straight→Frac) (lo hi:Frac):Prop :=
 ((∃ s,Cor g s∧rd_ (F s)=lo)∧∀ s,Cor g s→¬ ltF (F s) lo)∧(∃ s,Cor g s∧rd_ (F s)=hi)∧∀ s,Cor g s→¬ ltF hi (F s)
theorem zzR {g:Sl Gate} {F:straight→Frac} (hF:∀ s,Cor g s→FOK (F s)) {a b c d:Frac} (h1:Bd g F a b) (h2:Bd g F c d):a=c∧b=d:=by
 obtain ⟨⟨⟨s,hs,e1⟩,l1⟩,⟨t,ht,e2⟩,g1⟩:=h1
 obtain ⟨⟨⟨u,hu,e3⟩,l2⟩,⟨v,hv,e4⟩,g2⟩:=h2
 have ps:=(hF s hs).2;have pt:=(hF t ht).2;have pu:=(hF u hu).2;have pv:=(hF v hv).2
 refine ⟨?_,?_⟩
 ·rw [← e1, ← e3]
  refine zoq (by omega) (by omega) ?_ ?_
  ·have:=l2 s hs;rw [← e3,zos (by omega) (by omega)] at this;exact this
  ·have:=l1 u hu;rw [← e1,zos (by omega) (by omega)] at this;exact this
 ·rw [← e2, ← e4]
  refine zoq (by omega) (by omega) ?_ ?_
  ·have:=g1 v hv;rw [← e2,zor (by omega) (by omega)] at this;exact this
  ·have:=g2 t ht;rw [← e4,zor (by omega) (by omega)] at this;exact this
theorem zKO {g : Sl Gate} {F : straight → Frac} (hF : ∀ s, Cor g s → FOK (F s)) {v : Sl Frac} {lo hi : Frac} (h1 : ∀ i, i < v.len → ∃ s, Cor g s ∧ rd_ (F s) = rd_ (v.get i) ∧ 0 < (v.get i).Den)
    (h2:∀ s,Cor g s→∃ i,i < v.len∧rd_ (F s)=rd_ (v.get i)) (hl:zeL v lo) (hg:zeM v hi):Bd g F (rd_ lo) (rd_ hi):=by
  obtain ⟨⟨i,hi1,ei⟩,l⟩:=hl
  obtain ⟨⟨j,hj1,ej⟩,r⟩:=hg
  obtain ⟨si,ci,ri,pi⟩:=h1 i hi1
  obtain ⟨sj,cj,rj,pj⟩:=h1 j hj1
  refine ⟨⟨⟨si,ci,by rw [ri,ei]⟩,fun s hs=>?_⟩,⟨sj,cj,by rw [rj,ej]⟩,fun s hs=>?_⟩
  · obtain ⟨k, hk, ek⟩ := h2 s hs
    have ps:=(hF s hs).2
    obtain ⟨_,_,_,pk⟩:=h1 k hk
    rw [ei] at pi
    rw [zos (by omega) pi,← zor (by omega) pi,ek,zor pk pi]
    exact l k hk
  · obtain ⟨k, hk, ek⟩ := h2 s hs
    have ps:=(hF s hs).2
    obtain ⟨_,_,_,pk⟩:=h1 k hk
    rw [ej] at pj
    rw [zor pj (by omega),← zos pj (by omega),ek,zos pj pk]
    exact r k hk
end Go.Proofs
namespace Go.Proofs
open Go Go.Pm
set_option maxRecDepth 100000
abbrev plF (z:Int) (s:straight):Frac:=⟨plc s z,s.den⟩
abbrev slF (s:straight):Frac:=⟨s.slope,s.den⟩
theorem zzS {s:straight} (S:SOK s) {z:Int} (hz : -200000≤z∧z≤200000):(-400000000000≤s.slope * z∧s.slope * z≤400000000000)∧-600000000000≤plc s z∧plc s z≤600000000000:=by
 have:=zKN S.1.1 S.1.2 hz.1 hz.2
 have:=S.2.1
 unfold plc
 omega
theorem zot {s:straight} (S:SOK s) {z:Int} (hz : -200000≤z∧z≤200000):FOK (plF z s) :=
 ⟨⟨by show -1000000000000≤plc s z;have:=zzS S hz;omega,by show plc s z≤1000000000000;have:=zzS S hz;omega⟩,S.2.2⟩
theorem zsX {s:straight} (S:SOK s):FOK (slF s):=⟨⟨by show -1000000000000≤s.slope;have:=S.1;omega,by show s.slope≤1000000000000;have:=S.1;omega⟩,S.2.2⟩
theorem zHv {s:straight} (S:SOK s) {z:Int} (hz : -200000≤z∧z≤200000):zvC z s=plF z s:=by
 obtain ⟨a,b⟩:=zzS S hz
 unfold plc at b
 unfold zvC zI4 plF plc
 rw [zaH (x:=s.slope * z) (by omega) (by omega),zaH (x:=s.start+s.slope * z) (by omega) (by omega)]
theorem zdT {g:Sl Gate} (G:zaC g) {s:straight} (h:Cor g s):SOK s:=zkE G h.1
abbrev lst {α:Type} [Inhabited α] (l:List α):Sl α:=l.foldl apL ziF
theorem zkH {α:Type} [Inhabited α] (l:List α):(lst l).len=l.length:=by
 show (l.foldl apL ziF).len=_
 rw [zck];simp [ziF]
theorem zm7 {α:Type} [Inhabited α] {l:List α} {i:Nat} {x:α} (h:l[i]? = some x):(lst l).get i=x:=by
 have:=zg9 l ziF i x h
 rw [show (ziF:Sl α).len+i=i from Nat.zero_add i] at this;exact this
structure CorL (g : Sl Gate) (C : List straight) : Prop where
  len:C.length≤100000
  mem:∀ s∈C,Cor g s
  all:∀ s,Cor g s→∃ x∈C,toL x=toL s
theorem zzT {g:Sl Gate} {C:List straight} (h:CorL g C):(1≤C.length)↔∃ s,Cor g s:=by
 constructor
 ·intro h1
  match C,h1 with
  | x :: C,_=>exact ⟨x,h.mem x List.mem_cons_self⟩
 ·intro ⟨s, hs⟩
  obtain ⟨x,hx,_⟩:=h.all s hs
  exact List.length_pos_of_mem hx
def frS (F:straight→Frac) (C:List straight):Sl Frac:=lst (C.map F)
theorem zKP {g : Sl Gate} (G : zaC g) {C : List straight} (H : CorL g C) {F : straight → Frac} (hF : ∀ s, Cor g s → FOK (F s)) (hc : ∀ x y, Cor g x → Cor g y → toL x = toL y → rd_ (F x) = rd_ (F y)) {lo hi : Frac}
    (hl:zeL (frS F C) lo) (hg:zeM (frS F C) hi):Bd g F (rd_ lo) (rd_ hi):=by
  have get:∀ (i:Nat) (s:straight),C[i]? = some s→(frS F C).get i=F s:=fun i s h=>zm7 (by rw [List.getElem?_map,h];rfl)
  refine zKO hF (fun i hi=>?_) (fun s hs=>?_) hl hg
  · have hi : i < C.length := by have := zkH (C.map F); rw [List.length_map] at this; exact this ▸ hi
    have e:=List.getElem?_eq_getElem hi
    have m:=H.mem _ (List.getElem_mem hi)
    rw [get i _ e]
    exact ⟨_,m,rfl,by have:=(hF _ m).2;omega⟩
  · obtain ⟨x, hx, ex⟩ := H.all s hs
    obtain ⟨i,hi,rfl⟩:=List.getElem_of_mem hx
    refine ⟨i,?_,?_⟩
    · have:=zkH (C.map F);rw [List.length_map] at this;exact this.symm ▸ hi
    · rw [get i _ (List.getElem?_eq_getElem hi)]
      exact hc _ _ hs (H.mem _ hx) ex.symm
theorem zHw {g:Sl Gate} (G:zaC g) {z:Int} (hz : -200000≤z∧z≤200000) (x y:straight) (hx:Cor g x) (hy:Cor g y) (h:toL x=toL y):rd_ (plF z x)=rd_ (plF z y):=by
 have a:=(zsW (zdT G hx) hz).2
 have b:=(zsW (zdT G hy) hz).2
 show red (plc x z) x.den=red (plc y z) y.den
 rw [← a,← b,h]
theorem zHx {x y:straight} (h:toL x=toL y):rd_ (slF x)=rd_ (slF y):=congrArg Line.Slope h
theorem zm8 (F:straight→Frac) (C:List straight):(frS F C).len=C.length:=by
 have:=zkH (C.map F);rw [List.length_map] at this;exact this
theorem zHy {g:Sl Gate} {C:List straight} (H:CorL g C) {F:straight→Frac} (hF:∀ s,Cor g s→FOK (F s)):∀ i,i < (frS F C).len→FOK ((frS F C).get i):=by
 intro i hi
 have hi:i < C.length:=zm8 F C ▸ hi
 have:(frS F C).get i=F C[i]:=zm7 (by rw [List.getElem?_map,List.getElem?_eq_getElem hi];rfl)
 rw [this]
 exact hF _ (H.mem _ (List.getElem_mem hi))
theorem zzU {g : Sl Gate} (G : zaC g) {C : List straight} (H : CorL g C) (h1 : 1 ≤ C.length) {F : straight → Frac} (hF : ∀ s, Cor g s → FOK (F s)) (hc : ∀ x y, Cor g x → Cor g y → toL x = toL y → rd_ (F x) = rd_ (F y)) :
  zmj (frS F C)=true∧Bd g F (zeA (frS F C)).1 (zeA (frS F C)).2:=by
 have hn:=zm8 F C
 have hl:=H.len
 have fv:=zHy H hF
 obtain ⟨a1,a2⟩:=zHu (frS F C) (by omega) (by omega) fv
 obtain ⟨b1,b2⟩:=zBO (frS F C) (by omega) (by omega) fv
 have B:=zKP G H hF hc a2 b2
 have fa:FOK (zpr (frS F C)):=by obtain ⟨⟨i,hi,e⟩,_⟩:=a2;exact e ▸ fv i hi
 have fb:FOK (s111a (frS F C)):=by obtain ⟨⟨i,hi,e⟩,_⟩:=b2;exact e ▸ fv i hi
 obtain ⟨fa1,fa2⟩:=fa
 obtain ⟨fb1,fb2⟩:=fb
 obtain ⟨c1,c2⟩:=zlu (num:=(zpr (frS F C)).Num) (den:=(zpr (frS F C)).Den) (by omega) (by omega) (by omega) (by omega)
 obtain ⟨d1,d2⟩:=zlu (num:=(s111a (frS F C)).Num) (den:=(s111a (frS F C)).Den) (by omega) (by omega) (by omega) (by omega)
 unfold zmj zeA zpx zpw zpv zpu
 rw [a1,b1,c1,d1]
 refine ⟨by simp,?_⟩
 show Bd g F (s89 _ _) (s89 _ _)
 rw [c2,d2]
 exact B
theorem zzV {F:straight→Frac} {C:List straight} {i:Nat} (hi:i < C.length):frS F (C.take (i+1))=apL (frS F (C.take i)) (F ((lst C).get i)):=by
 have e:=zm7 (List.getElem?_eq_getElem hi)
 unfold frS
 rw [List.take_succ_eq_append_getElem hi,List.map_append]
 show (List.map F (C.take i) ++ List.map F [C[i]]).foldl apL ziF=_
 rw [List.foldl_append]
 show apL (lst (List.map F (List.take i C))) (F C[i])=_
 rw [e]
theorem zKQ {g : Sl Gate} (G : zaC g) {C : List straight} (H : CorL g C) (h1 : 1 ≤ C.length) {z : Int} (hz : -200000 ≤ z ∧ z ≤ 200000) :
  p82 z ⟨⟨g⟩,lst C⟩=true∧Bd g (plF z) (s82 z ⟨⟨g⟩,lst C⟩).1 (s82 z ⟨⟨g⟩,lst C⟩).2:=by
 have hn:=zkH C
 have hl:=H.len
 obtain ⟨x1,x2⟩:=zzU G H h1 (F:=plF z) (fun s hs=>zot (zdT G hs) hz) (zHw G hz)
 have key:∀ (m k i:Nat),i+m=C.length→m < k→zhA z ⟨⟨g⟩,lst C⟩ k (i:Int) (frS (plF z) (C.take i))=true∧zhz z ⟨⟨g⟩,lst C⟩ k (i:Int) (frS (plF z) (C.take i))=zeA (frS (plF z) C):=by
  intro m
  induction m with
  | zero =>
   intro k i hi hk
   obtain ⟨k,rfl⟩:∃ k',k=k'+1:=⟨k - 1,by omega⟩
   show zhy z ⟨⟨g⟩,lst C⟩ (zhA z ⟨⟨g⟩,lst C⟩ k) (i:Int) _=_∧zhx z ⟨⟨g⟩,lst C⟩ (zhz z ⟨⟨g⟩,lst C⟩ k) (i:Int) _=_
   unfold zhy zhx
   rw [decide_eq_false (show ¬ (i:Int) < (((⟨⟨g⟩,lst C⟩:set).corners.len:Nat):Int) by show ¬ (i:Int) < ((lst C).len:Int);omega),cond_false,cond_false,List.take_of_length_le (by omega)]
   exact ⟨x1,rfl⟩
  | succ m ih =>
   intro k i hi hk
   obtain ⟨k,rfl⟩:∃ k',k=k'+1:=⟨k - 1,by omega⟩
   have ih:=ih k (i+1) (by omega) (by omega)
   have hiC:i < C.length:=by omega
   show zhy z ⟨⟨g⟩,lst C⟩ (zhA z ⟨⟨g⟩,lst C⟩ k) (i:Int) _=_∧zhx z ⟨⟨g⟩,lst C⟩ (zhz z ⟨⟨g⟩,lst C⟩ k) (i:Int) _=_
   generalize zhA z ⟨⟨g⟩,lst C⟩ k=P at ih
   generalize zhz z ⟨⟨g⟩,lst C⟩ k=S at ih
   have so:zvC z ((lst C).get i)=plF z ((lst C).get i):=by
    rw [zm7 (List.getElem?_eq_getElem hiC)]
    exact zHv (zdT G (H.mem _ (List.getElem_mem hiC))) hz
   have hv:=zm8 (plF z) (C.take i)
   rw [List.length_take] at hv
   unfold zhy zhx
   rw [decide_eq_true (show (i:Int) < (((⟨⟨g⟩,lst C⟩:set).corners.len:Nat):Int) by show (i:Int) < ((lst C).len:Int);omega),cond_true,cond_true,
    decide_eq_true (show 0≤(i:Int)∧(i:Int) < (((⟨⟨g⟩,lst C⟩:set).corners.len:Nat):Int) by show 0≤(i:Int)∧(i:Int) < ((lst C).len:Int);omega),Bool.true_and,
    decide_eq_true (show ((frS (plF z) (C.take i)).len+1) * 16≤140737488355328∧(frS (plF z) (C.take i)).len+1≤9223372036854775807 by omega),Bool.true_and,zbF (n:=C.length) hiC (by omega),Int.toNat_natCast]
   have e:=zzV (F:=plF z) hiC
   rw [e] at ih
   show P ((i+1:Nat):Int) (apL (frS (plF z) (C.take i)) (zvC z ((lst C).get i)))=true∧S ((i+1:Nat):Int) (apL (frS (plF z) (C.take i)) (zvC z ((lst C).get i)))=_
   rw [so]
   exact ih
 have h:=key C.length Fuel 0 (by omega) (by simp only [Fuel];omega)
 have h2:s82 z ⟨⟨g⟩,lst C⟩=zeA (frS (plF z) C):=h.2
 exact ⟨h.1,by rw [h2];exact x2⟩
theorem zHz {g : Sl Gate} (G : zaC g) {C : List straight} (H : CorL g C) (h1 : 1 ≤ C.length) :
  zLb ⟨⟨g⟩,lst C⟩=true∧Bd g slF (zBd ⟨⟨g⟩,lst C⟩).1 (zBd ⟨⟨g⟩,lst C⟩).2:=by
 have hn:=zkH C
 have hl:=H.len
 obtain ⟨x1,x2⟩:=zzU G H h1 (F:=slF) (fun s hs=>zsX (zdT G hs)) (fun _ _ _ _ h=>zHx h)
 have key:∀ (m k i:Nat),i+m=C.length→m < k→zfE ⟨⟨g⟩,lst C⟩ k (i:Int) (frS slF (C.take i))=true∧zfD ⟨⟨g⟩,lst C⟩ k (i:Int) (frS slF (C.take i))=zeA (frS slF C):=by
  intro m
  induction m with
  | zero =>
   intro k i hi hk
   obtain ⟨k,rfl⟩:∃ k',k=k'+1:=⟨k - 1,by omega⟩
   show zfC ⟨⟨g⟩,lst C⟩ (zfE ⟨⟨g⟩,lst C⟩ k) (i:Int) _=_∧zfB ⟨⟨g⟩,lst C⟩ (zfD ⟨⟨g⟩,lst C⟩ k) (i:Int) _=_
   unfold zfC zfB
   rw [decide_eq_false (show ¬ (i:Int) < (((⟨⟨g⟩,lst C⟩:set).corners.len:Nat):Int) by show ¬ (i:Int) < ((lst C).len:Int);omega),cond_false,cond_false,List.take_of_length_le (by omega)]
   exact ⟨x1,rfl⟩
  | succ m ih =>
   intro k i hi hk
   obtain ⟨k,rfl⟩:∃ k',k=k'+1:=⟨k - 1,by omega⟩
   have ih:=ih k (i+1) (by omega) (by omega)
   have hiC:i < C.length:=by omega
   show zfC ⟨⟨g⟩,lst C⟩ (zfE ⟨⟨g⟩,lst C⟩ k) (i:Int) _=_∧zfB ⟨⟨g⟩,lst C⟩ (zfD ⟨⟨g⟩,lst C⟩ k) (i:Int) _=_
   generalize zfE ⟨⟨g⟩,lst C⟩ k=P at ih
   generalize zfD ⟨⟨g⟩,lst C⟩ k=S at ih
   have hv:=zm8 slF (C.take i)
   rw [List.length_take] at hv
   unfold zfC zfB
   rw [decide_eq_true (show (i:Int) < (((⟨⟨g⟩,lst C⟩:set).corners.len:Nat):Int) by show (i:Int) < ((lst C).len:Int);omega),cond_true,cond_true,
    decide_eq_true (show 0≤(i:Int)∧(i:Int) < (((⟨⟨g⟩,lst C⟩:set).corners.len:Nat):Int) by show 0≤(i:Int)∧(i:Int) < ((lst C).len:Int);omega),Bool.true_and,
    decide_eq_true (show ((frS slF (C.take i)).len+1) * 16≤140737488355328∧(frS slF (C.take i)).len+1≤9223372036854775807 by omega),Bool.true_and,zbF (n:=C.length) hiC (by omega),Int.toNat_natCast]
   have e:=zzV (F:=slF) hiC
   rw [e] at ih
   exact ih
 have h:=key C.length Fuel 0 (by omega) (by simp only [Fuel];omega)
 have h2:zBd ⟨⟨g⟩,lst C⟩=zeA (frS slF C):=h.2
 exact ⟨h.1,by rw [h2];exact x2⟩
end Go.Proofs
namespace Go.Proofs
open Go Go.Pm
set_option maxRecDepth 100000
theorem zdu {g:Sl Gate} {l:Line} : zkY g l↔∃ s,Cor g s∧toL s=l :=
 ⟨fun ⟨s,h1,h2,h3⟩=>⟨s,⟨h1,h2⟩,h3⟩,fun ⟨s,⟨h1,h2⟩,h3⟩=>⟨s,h1,h2,h3⟩⟩
theorem zDb {g : Sl Gate} (G : zaC g) {F : straight → Frac} {w : Nat → Frac} {lo hi : Frac} (hF : ∀ s, Cor g s → FOK (F s)) (hw : ∀ i s, i < (s33 g).len → Cor g s → (s33 g).get i = toL s → w i = rd_ (F s))
    (hl:zeL ⟨(s33 g).len,w⟩ lo) (hg:zeM ⟨(s33 g).len,w⟩ hi):Bd g F lo hi:=by
  obtain ⟨_,_,m1,m2,_⟩:=zop g G
  have pos:∀ s,Cor g s→0 < (F s).Den:=fun s hs=>by have:=(hF s hs).2;omega
  have hx:∀ i,i < (s33 g).len→∃ s,Cor g s∧w i=rd_ (F s):=fun i hi=>by
    obtain ⟨s,hs,e⟩:=zdu.1 (m1 i hi)
    exact ⟨s,hs,hw i s hi hs e.symm⟩
  have B:=zKO (v:=⟨(s33 g).len,w⟩) hF (fun i hi=>by
      obtain ⟨s,hs,e⟩:=hx i hi
      refine ⟨s,hs,?_,?_⟩
      · show rd_ (F s)=rd_ (w i);rw [e,ztO (pos s hs)]
      · show 0 < (w i).Den;rw [e];exact zcM (pos s hs))
    (fun s hs=>by
      obtain ⟨i,hi,e⟩:=m2 (toL s) (zdu.2 ⟨s,hs,rfl⟩)
      refine ⟨i,hi,?_⟩
      show rd_ (F s)=rd_ (w i)
      rw [hw i s hi hs e,ztO (pos s hs)]) hl hg
  obtain ⟨⟨i,hi1,e1⟩,_⟩:=hl
  obtain ⟨⟨j,hj1,e2⟩,_⟩:=hg
  obtain ⟨s,hs,e3⟩:=hx i hi1
  obtain ⟨t,ht,e4⟩:=hx j hj1
  have f1:rd_ lo=lo:=by rw [← e1];show rd_ (w i)=w i;rw [e3,ztO (pos s hs)]
  have f2:rd_ hi=hi:=by rw [← e2];show rd_ (w j)=w j;rw [e4,ztO (pos t ht)]
  rw [f1,f2] at B
  exact B
theorem zDc {g:Sl Gate} (G:zaC g) (hc:∃ s,Cor g s) {z:Int} (hz : -200000≤z∧z≤200000):zmU g z=true∧Bd g (plF z) (zmT g z).1 (zmT g z).2:=by
 obtain ⟨q,hlen,m1,m2,_⟩:=zop g G
 have hpl:∀ i,i < (s33 g).len→p28 ((s33 g).get i) z=true:=fun i hi=>by
  obtain ⟨s,hs,e⟩:=zdu.1 (m1 i hi)
  rw [← e];exact (zsW (zdT G hs) hz).1
 have hw:∀ i s,i < (s33 g).len→Cor g s→(s33 g).get i=toL s→s28 ((s33 g).get i) z=rd_ (plF z s):=fun i s _ hs e=>by
  rw [e];exact (zsW (zdT G hs) hz).2
 have h1:1≤(s33 g).len:=by
  obtain ⟨s,hs⟩:=hc
  obtain ⟨a,ha,_⟩:=m2 _ (zdu.2 ⟨s,hs,rfl⟩);omega
 have E:=zzQ (w:=fun i=>s28 ((s33 g).get i) z) (n:=(s33 g).len) h1 (by omega) (fun j hj=>by
   obtain ⟨s,hs,e⟩:=zdu.1 (m1 j hj)
   show FOK (s28 ((s33 g).get j) z)
   rw [hw j s hj hs e.symm];exact zkG (zot (zdT G hs) hz))
  (lpS:=fun k i a b=>zid z (s33 g) k i a.Num a.Den b.Num b.Den) (lpP:=fun k i a b=>zie z (s33 g) k i a.Num a.Den b.Num b.Den)
  (fun k i a b hi=>by
   show zib z (s33 g) (zid z (s33 g) k) (i:Int) a.Num a.Den b.Num b.Den=_
   generalize zid z (s33 g) k=S
   unfold zib zq0 zqY zmR
   rw [decide_eq_true (show (i:Int) < ((s33 g).len:Int) by omega),cond_true,Int.toNat_natCast]
   show cond (s29 (s28 ((s33 g).get i) z) a) (cond (s29 b (s28 ((s33 g).get i) z)) _ _) (cond (s29 b (s28 ((s33 g).get i) z)) _ _)=_
   cases s29 (s28 ((s33 g).get i) z) a <;> cases s29 b (s28 ((s33 g).get i) z) <;> rfl)
  (fun k a b=>by
   show zib z (s33 g) (zid z (s33 g) k) ((s33 g).len:Int) a.Num a.Den b.Num b.Den=_
   unfold zib
   rw [decide_eq_false (show ¬ ((s33 g).len:Int) < ((s33 g).len:Int) by omega),cond_false])
  (fun k i a b hi=>by
   show zic z (s33 g) (zie z (s33 g) k) (i:Int) a.Num a.Den b.Num b.Den=_
   generalize zie z (s33 g) k=P
   unfold zic zq1 zqZ zmS
   rw [decide_eq_true (show (i:Int) < ((s33 g).len:Int) by omega),cond_true,decide_eq_true (show 0≤(i:Int)∧(i:Int) < ((s33 g).len:Int) by omega),Int.toNat_natCast,hpl i hi,decide_eq_true (show true=true from rfl),Bool.true_and,Bool.true_and]
   show cond (s29 (s28 ((s33 g).get i) z) a) (cond (s29 b (s28 ((s33 g).get i) z)) _ _) (cond (s29 b (s28 ((s33 g).get i) z)) _ _)=_
   cases s29 (s28 ((s33 g).get i) z) a <;> cases s29 b (s28 ((s33 g).get i) z) <;> rfl)
  (fun k a b=>by
   show zic z (s33 g) (zie z (s33 g) k) ((s33 g).len:Int) a.Num a.Den b.Num b.Den=_
   unfold zic
   rw [decide_eq_false (show ¬ ((s33 g).len:Int) < ((s33 g).len:Int) by omega),cond_false])
 obtain ⟨x1,x2,x3⟩:=E
 refine ⟨?_,zDb G (F:=plF z) (fun s hs=>zot (zdT G hs) hz) hw x2 x3⟩
 unfold zmU zq3 zq2
 rw [q,hpl 0 (by omega),decide_eq_true (show true=true from rfl),decide_eq_true (show 0≤(0:Int)∧(0:Int) < ((s33 g).len:Int) by omega)]
 simp only [Bool.true_and]
 exact x1
theorem zKR {g:Sl Gate} (G:zaC g) (hc:∃ s,Cor g s):p37 g=true∧Bd g slF (s37 g).1 (s37 g).2:=by
 obtain ⟨q,hlen,m1,m2,_⟩:=zop g G
 have hw:∀ i s,i < (s33 g).len→Cor g s→(s33 g).get i=toL s→((s33 g).get i).Slope=rd_ (slF s):=fun i s _ hs e=>by rw [e];rfl
 have h1:1≤(s33 g).len:=by
  obtain ⟨s,hs⟩:=hc
  obtain ⟨a,ha,_⟩:=m2 _ (zdu.2 ⟨s,hs,rfl⟩);omega
 have E:=zzQ (w:=fun i=>((s33 g).get i).Slope) (n:=(s33 g).len) h1 (by omega) (fun j hj=>by
   obtain ⟨s,hs,e⟩:=zdu.1 (m1 j hj)
   show FOK ((s33 g).get j).Slope
   rw [hw j s hj hs e.symm];exact zkG (zsX (zdT G hs)))
  (lpS:=fun k i a b=>zkA (s33 g) k i a.Num a.Den b.Num b.Den) (lpP:=fun k i a b=>zkB (s33 g) k i a.Num a.Den b.Num b.Den)
  (fun k i a b hi=>by
   show zky (s33 g) (zkA (s33 g) k) (i:Int) a.Num a.Den b.Num b.Den=_
   generalize zkA (s33 g) k=S
   unfold zky zzv zrn zzt
   rw [decide_eq_true (show (i:Int) < ((s33 g).len:Int) by omega),cond_true,Int.toNat_natCast]
   show cond (s29 ((s33 g).get i).Slope a) (cond (s29 b ((s33 g).get i).Slope) _ _) (cond (s29 b ((s33 g).get i).Slope) _ _)=_
   cases s29 ((s33 g).get i).Slope a <;> cases s29 b ((s33 g).get i).Slope <;> rfl)
  (fun k a b=>by
   show zky (s33 g) (zkA (s33 g) k) ((s33 g).len:Int) a.Num a.Den b.Num b.Den=_
   unfold zky
   rw [decide_eq_false (show ¬ ((s33 g).len:Int) < ((s33 g).len:Int) by omega),cond_false])
  (fun k i a b hi=>by
   show zkz (s33 g) (zkB (s33 g) k) (i:Int) a.Num a.Den b.Num b.Den=_
   generalize zkB (s33 g) k=P
   unfold zkz zzw zro zzu
   rw [decide_eq_true (show (i:Int) < ((s33 g).len:Int) by omega),cond_true,decide_eq_true (show 0≤(i:Int)∧(i:Int) < ((s33 g).len:Int) by omega),Int.toNat_natCast]
   simp only [Bool.true_and]
   show cond (s29 ((s33 g).get i).Slope a) (cond (s29 b ((s33 g).get i).Slope) _ _) (cond (s29 b ((s33 g).get i).Slope) _ _)=_
   cases s29 ((s33 g).get i).Slope a <;> cases s29 b ((s33 g).get i).Slope <;> rfl)
  (fun k a b=>by
   show zkz (s33 g) (zkB (s33 g) k) ((s33 g).len:Int) a.Num a.Den b.Num b.Den=_
   unfold zkz
   rw [decide_eq_false (show ¬ ((s33 g).len:Int) < ((s33 g).len:Int) by omega),cond_false])
 obtain ⟨x1,x2,x3⟩:=E
 refine ⟨?_,zDb G (F:=slF) (fun s hs=>zsX (zdT G hs)) hw x2 x3⟩
 unfold p37 zzx
 rw [q,decide_eq_true (show true=true from rfl),decide_eq_true (show 0≤(0:Int)∧(0:Int) < ((s33 g).len:Int) by omega)]
 simp only [Bool.true_and]
 exact x1
theorem zDd (g:Sl Gate) (G:zaC g):(-1000000≤(com g).1∧(com g).1≤1000000)∧-1000000≤(com g).2∧(com g).2≤1000000:=by
 have hl:=G.2
 refine zzB (Inv:=fun _ (s:Int×Int)=>(-1000000≤s.1∧s.1≤1000000)∧-1000000≤s.2∧s.2≤1000000) (n:=g.len) (fun i s hi h=>?_) (g.len - 1) 1 _ (by omega) ⟨zeS (G.1 0 (by omega)),zfR (G.1 0 (by omega))⟩
 have a:=zeS (G.1 i hi)
 have b:=zfR (G.1 i hi)
 unfold cmS
 refine ⟨?_,?_⟩
 ·show -1000000 ≤ (if (g.get i).Low > s.1 then (g.get i).Low else s.1) ∧ _
  split
  ·exact a
  ·exact h.1
 ·show -1000000 ≤ (if (g.get i).High < s.2 then (g.get i).High else s.2) ∧ _
  split
  ·exact b
  ·exact h.2
theorem zou {α : Type} [DecidableEq α] : ∀ (l m : List α), l.Nodup → (∀ x ∈ l, x ∈ m) → l.length ≤ m.length
  | [],_,_,_=>Nat.zero_le _
  | x :: l,m,hn,h=>by
    have hx:=h x List.mem_cons_self
    rw [List.nodup_cons] at hn
    have:=zou l (m.erase x) hn.2 fun y hy=>(List.mem_erase_of_ne (fun (e:y=x)=>hn.1 (by rw [← e];exact hy))).2 (h y (List.mem_cons_of_mem _ hy))
    rw [List.length_erase_of_mem hx] at this
    have:=List.length_pos_of_mem hx
    rw [List.length_cons];omega
theorem zov (g:Sl Gate) (G:zaC g):∃ C,p65 g=true∧s65 g=⟨⟨g⟩,lst C⟩∧CorL g C∧(¬ ztN g→(s21 g=true↔∃ s,Cor g s)):=by
 obtain ⟨C,c1,c2,c3,c4,c5⟩:=zsU g G
 obtain ⟨f1,f2⟩:=zlv g G
 obtain ⟨q,hlen,m1,m2,_⟩:=zop g G
 refine ⟨C,c1,c2,⟨?_,fun s hs=>c3 s hs,fun s hs=>c4 s hs.1 hs.2⟩,fun hf=>?_⟩
 ·-- the reference has as many
  have key:∀ (l:List straight),l.Pairwise (fun x y=>toL x ≠ toL y)→(∀ s∈l,s∈cst g)→l.length≤((cst g).map toL).length:=by
   intro l hp hs
   have hn:(l.map fun s=>zij (toL s)).Nodup:=List.pairwise_map.2 (hp.imp fun h e=>h (zkF e))
   have:=zou _ ((cst g).map fun s=>zij (toL s)) hn (fun x hx=>by
    obtain ⟨s,hs1,rfl⟩:=List.mem_map.1 hx
    exact List.mem_map.2 ⟨s,hs s hs1,rfl⟩)
   rw [List.length_map,List.length_map] at this;rw [List.length_map];exact this
  have:=key C c5 (fun s hs=>(c3 s hs).1)
  have:=zrp G
  rw [List.length_map] at *
  omega
 ·have e : s22 g = false := by cases h : s22 g; rfl; exact absurd (f2.1 h) hf
  unfold s21
  rw [e,cond_false,decide_eq_true_eq]
  constructor
  ·intro h
   obtain ⟨s,hs,_⟩:=zdu.1 (m1 0 (by omega))
   exact ⟨s,hs⟩
  ·intro ⟨s, hs⟩
   obtain ⟨a,ha,_⟩:=m2 _ (zdu.2 ⟨s,hs,rfl⟩);omega
theorem zrr (g:Sl Gate) (G:zaC g):p67 ⟨g⟩=true∧p22 g=true∧s67 ⟨g⟩=s22 g :=
 ⟨(zsS g G).1,(zlv g G).1,Bool.eq_iff_iff.2 ((zsS g G).2.trans (zlv g G).2.symm)⟩
theorem zil {g:Sl Gate} (G:zaC g) (h:s22 g=false) : ¬ ztN g:=fun k=>by rw [(zlv g G).2.2 k] at h;cases h
theorem zkI (g:Sl Gate) (G:zaC g) (hs:s21 g=true) {z:Int} (hz : -200000≤z∧z≤200000):p68 (s65 g) z=true∧p36 g z=true∧s68 (s65 g) z=s36 g z:=by
 obtain ⟨C,c1,c2,H,c4⟩:=zov g G
 obtain ⟨f1,f2,f3⟩:=zrr g G
 obtain ⟨k1,k2⟩:=zDd g G
 rw [c2]
 unfold p68 s68 p36 s36 zq6 zmV
 show (decide (p67 ⟨g⟩=true) && cond (s67 ⟨g⟩) (decide (p98 ⟨g⟩=true) && (decide (p89 (s98 ⟨g⟩).Low (1:Int)=true) && (decide (p89 (s98 ⟨g⟩).High (1:Int)=true) && true))) (decide (p82 z ⟨⟨g⟩,lst C⟩=true) && true))=true∧_ ∧
  cond (s67 ⟨g⟩) (s89 (s98 ⟨g⟩).Low (1:Int),s89 (s98 ⟨g⟩).High (1:Int)) ((s82 z ⟨⟨g⟩,lst C⟩).1,(s82 z ⟨⟨g⟩,lst C⟩).2)=_
 rw [f1,f2,f3]
 cases e:s22 g
 ·have hc := (c4 (zil G e)).1 hs
  obtain ⟨a1,a2⟩:=zKQ G H ((zzT H).2 hc) hz
  obtain ⟨b1,b2⟩:=zDc G hc hz
  obtain ⟨u1,u2⟩:=zzR (fun s hs=>zot (zdT G hs) hz) a2 b2
  rw [cond_false,cond_false,cond_false,cond_false,a1,b1,u1,u2]
  exact ⟨by simp,by simp,rfl⟩
 ·obtain ⟨a1, a2⟩ := zDa g G
  obtain ⟨b1,b2⟩:=zzL g G
  obtain ⟨x1,x2⟩:=zlu (num:=(com g).1) (den:=1) (by omega) (by omega) (by omega) (by omega)
  obtain ⟨y1,y2⟩:=zlu (num:=(com g).2) (den:=1) (by omega) (by omega) (by omega) (by omega)
  obtain ⟨u1,u2⟩:=zg7 (num:=(com g).1) (den:=1) (by omega) (by omega) (by omega) (by omega)
  obtain ⟨v1,v2⟩:=zg7 (num:=(com g).2) (den:=1) (by omega) (by omega) (by omega) (by omega)
  rw [cond_true,cond_true,cond_true,cond_true,a1,a2,b1,b2]
  unfold zq5 zq4
  show (decide (true=true) && (decide (true=true) && (decide (p89 (com g).1 1=true) && (decide (p89 (com g).2 1=true) && true))))=true∧(decide (true=true) && (decide (true=true) && (decide (p40 (com g).1 1=true) && (decide (p40 (com g).2 1=true) && true))))=true∧(s89 (com g).1 1,s89 (com g).2 1)=(s40 (com g).1 1,s40 (com g).2 1)
  rw [x1,x2,y1,y2,u1,u2,v1,v2]
  exact ⟨by simp,by simp,rfl⟩
theorem zzW (g:Sl Gate) (G:zaC g) (hs:s21 g=true) (hf:s22 g=false):zLb (s65 g)=true∧p37 g=true∧zBd (s65 g)=s37 g:=by
 obtain ⟨C,c1,c2,H,c4⟩:=zov g G
 have hc:=(c4 (zil G hf)).1 hs
 obtain ⟨a1,a2⟩:=zHz G H ((zzT H).2 hc)
 obtain ⟨b1,b2⟩:=zKR G hc
 obtain ⟨u1,u2⟩:=zzR (fun s hs=>zsX (zdT G hs)) a2 b2
 rw [c2]
 exact ⟨a1,b1,Prod.ext u1 u2⟩
end Go.Proofs
namespace Go.Proofs
open Go Go.Pm
set_option maxRecDepth 100000
abbrev zF:Frac:=⟨0,0⟩
theorem zm9 (g:Sl Gate) (hn:g.len≤9223372036854775807):s20 g=true↔zaC g:=(zsI g hn).2
def atR (g:Sl Gate) (z:Int):Frac×Frac×Int:=cond (!(s20 g)) (zF,zF,2) (cond (!(s21 g)) (zF,zF,5) (cond (s22 g && !((g.get 0).Z == z)) (zF,zF,6) ((s36 g z).1,(s36 g z).2,0)))
theorem zsY (g:Sl Gate) (G:zaC g):p21 g=true∧p22 g=true∧(s21 g=true→∀ z,-200000≤z∧z≤200000→p36 g z=true)∧(s21 g=true→s22 g=false→p37 g=true) :=
 ⟨(zrq g G).2.1,(zlv g G).1,fun hs z hz=>(zkI g G hs hz).2.1,fun hs hf=>(zzW g G hs hf).2.1⟩
end Go.Proofs
namespace Go.Proofs
open Go Go.Pm
set_option maxRecDepth 100000
theorem zKS {a b:Frac} (ha:FOK a) (hb:FOK b):decide (s69 a b < 0)=s29 a b:=by
 have e:s69 a b < 0↔ltF a b:=by unfold s69 ltF;rw [cross ha hb,cross hb ha,zzM]
 cases h:s29 a b
 ·exact decide_eq_false fun k=>by rw [(zix ha hb).2 (e.1 k)] at h;cases h
 ·exact decide_eq_true (e.2 ((zix ha hb).1 h))
theorem zDe {a b:Frac} (ha:FOK a) (hb:FOK b):decide (s69 a b > 0)=s29 b a:=by
 have e:s69 a b > 0↔ltF b a:=by unfold s69 ltF;rw [cross ha hb,cross hb ha,zzN]
 cases h:s29 b a
 ·exact decide_eq_false fun k=>by rw [(zix hb ha).2 (e.1 k)] at h;cases h
 ·exact decide_eq_true (e.2 ((zix hb ha).1 h))
theorem zsZ {a b:Frac} (ha:FOK a) (hb:FOK b):decide (s69 a b≤0) = !(s29 b a):=by
 have:=zDe ha hb
 rw [← this]
 by_cases h:s69 a b≤0
 ·rw [decide_eq_true h,decide_eq_false (show ¬ s69 a b > 0 by omega)];rfl
 ·rw [decide_eq_false h,decide_eq_true (show s69 a b > 0 by omega)];rfl
theorem zzX {x:Int} (h : -1000000≤x∧x≤1000000):FOK (red x 1):=zkG (f:=⟨x,1⟩) ⟨⟨by show -1000000000000≤x;omega,by show x≤1000000000000;omega⟩,by show (1:Int)≤1;omega,by show (1:Int)≤100000;omega⟩
theorem zKT {g:Sl Gate} {F:straight→Frac} (hF:∀ s,Cor g s→FOK (F s)) {lo hi:Frac} (h:Bd g F lo hi):FOK lo∧FOK hi:=by
 obtain ⟨⟨⟨s,hs,e1⟩,_⟩,⟨t,ht,e2⟩,_⟩:=h
 exact ⟨e1 ▸ zkG (hF s hs),e2 ▸ zkG (hF t ht)⟩
theorem zzY (g:Sl Gate) (G:zaC g) (hs:s21 g=true) {z:Int} (hz : -200000≤z∧z≤200000):FOK (s36 g z).1∧FOK (s36 g z).2:=by
 unfold s36 zmV
 cases hf:s22 g
 ·obtain ⟨C, _, _, _, c4⟩ := zov g G
  exact zKT (fun s hs=>zot (zdT G hs) hz) (zDc G ((c4 (zil G hf)).1 hs) hz).2
 ·obtain ⟨b1, b2⟩ := zzL g G
  obtain ⟨k1,k2⟩:=zDd g G
  obtain ⟨u1,u2⟩:=zg7 (num:=(com g).1) (den:=1) (by omega) (by omega) (by omega) (by omega)
  obtain ⟨v1,v2⟩:=zg7 (num:=(com g).2) (den:=1) (by omega) (by omega) (by omega) (by omega)
  rw [b2]
  show FOK (s40 (com g).1 1)∧FOK (s40 (com g).2 1)
  rw [u2,v2]
  exact ⟨zzX k1,zzX k2⟩
end Go.Proofs
namespace Go.Proofs
open Go Go.Pm
set_option maxRecDepth 100000
def zKU (u:Int×Frac×Frac×Int) (v:Int×Frac×Frac):Prop:=(v.1 = -1000000∧u=(0,zF,zF,5))∨(v.1 ≠ -1000000∧u=(v.1,v.2.1,v.2.2,0))
def cmF (a b:Sl Gate) (h:Int):Frac:=cond (s29 (s36 a h).1 (s36 b h).1) (s36 b h).1 (s36 a h).1
def cmT (a b:Sl Gate) (h:Int):Frac:=cond (s29 (s36 b h).2 (s36 a h).2) (s36 b h).2 (s36 a h).2
section
variable (a b:Sl Gate) (Ga:zaC a) (Gb:zaC b) (ha:s21 a=true) (hb:s21 b=true) (low high:Int) (hl : -100000≤low) (hh:high≤200000)
include Ga Gb ha hb
theorem zBP (P0 : Int → Bool) (S0 : Int → Int × Frac × Frac) (z : Int) (hz1 : -100000 ≤ z) (hz2 : z ≤ 200000) (h : z ≤ high) :
  zgx a b high P0 z=cond (!(s29 (cmT a b z) (cmF a b z))) true (P0 (z+1))∧zgw a b high S0 z=cond (!(s29 (cmT a b z) (cmF a b z))) (z,cmF a b z,cmT a b z) (S0 (z+1)):=by
 have q1:=(zsY a Ga).2.2.1 ha z (by omega)
 have q2:=(zsY b Gb).2.2.1 hb z (by omega)
 unfold zgx zgw zri zrh zrg zrf zre zrd zmZ zmY zrb zra zmX zmW cmF cmT
 rw [q1,q2,decide_eq_true h,zaH (x:=z+1) (by omega) (by omega)]
 simp only [decide_true,Bool.true_and,cond_true]
 generalize s36 a z=p
 generalize s36 b z=r
 cases s29 p.1 r.1 <;> cases s29 r.2 p.2 <;> exact ⟨rfl,rfl⟩
theorem zzZ (P7 : Int → Int → Int → Int → Int → Bool) (S7 : Int → Int → Int → Int → Int → Int × Frac × Frac × Int) (i : Nat) (f0 f1 t0 t1 : Int) (h : low + i ≤ high) (hl : -100000 ≤ low) (hh : high ≤ 200000) :
  zgl low high (s65 a).list.Gates (s65 a).corners (s65 b).list.Gates (s65 b).corners P7 (i:Int) f0 f1 t0 t1=cond (!(s29 (cmT a b (low+i)) (cmF a b (low+i)))) true (P7 ((i+1:Nat):Int) (cmF a b (low+i)).Num (cmF a b (low+i)).Den (cmT a b (low+i)).Num (cmT a b (low+i)).Den) ∧
  zgk low high (s65 a).list.Gates (s65 a).corners (s65 b).list.Gates (s65 b).corners S7 (i:Int) f0 f1 t0 t1=cond (!(s29 (cmT a b (low+i)) (cmF a b (low+i)))) (low+i,cmF a b (low+i),cmT a b (low+i),0) (S7 ((i+1:Nat):Int) (cmF a b (low+i)).Num (cmF a b (low+i)).Den (cmT a b (low+i)).Num (cmT a b (low+i)).Den):=by
 have hz : -200000≤low+i∧low+i≤200000:=by omega
 obtain ⟨x1,x2,x3⟩:=zkI a Ga ha hz
 obtain ⟨y1,y2,y3⟩:=zkI b Gb hb hz
 obtain ⟨fa,fA⟩:=zzY a Ga ha hz
 obtain ⟨fb,fB⟩:=zzY b Gb hb hz
 have ea:(⟨⟨(s65 a).list.Gates⟩,(s65 a).corners⟩:set)=s65 a:=rfl
 have eb:(⟨⟨(s65 b).list.Gates⟩,(s65 b).corners⟩:set)=s65 b:=rfl
 unfold zgl zgk zpF zpE zmp zmo zmn zmm zi0 ziZ zml zmk ziY ziX zj6
 rw [ea,eb,zaH (x:=low+i) (by omega) (by omega),x1,x3,y1,y3,zaH (x:=high - low) (by omega) (by omega),zaH (x:=high - low+1) (by omega) (by omega),decide_eq_true (show (i:Int) < high - low+1 by omega),zbF (n:=i+1) (by omega) (by omega),decide_eq_false (show ¬ low+i > high by omega)]
 simp only [decide_true,Bool.true_and,cond_true,cond_false]
 unfold cmF cmT
 generalize s36 a (low+i)=p at *
 generalize s36 b (low+i)=r at *
 obtain ⟨p1,p2⟩:=p
 obtain ⟨r1,r2⟩:=r
 simp only at fa fA fb fB ⊢
 have t1:decide (s69 (⟨r1.Num,r1.Den⟩:Frac) (⟨p1.Num,p1.Den⟩:Frac) > 0)=s29 p1 r1:=zDe fb fa
 have t2:decide (s69 (⟨r2.Num,r2.Den⟩:Frac) (⟨p2.Num,p2.Den⟩:Frac) < 0)=s29 r2 p2:=zKS fB fA
 have t3:decide (s69 (⟨r1.Num,r1.Den⟩:Frac) (⟨r2.Num,r2.Den⟩:Frac)≤0) = !(s29 r2 r1):=zsZ fb fB
 have t4:decide (s69 (⟨r1.Num,r1.Den⟩:Frac) (⟨p2.Num,p2.Den⟩:Frac)≤0) = !(s29 p2 r1):=zsZ fb fA
 have t5:decide (s69 (⟨p1.Num,p1.Den⟩:Frac) (⟨r2.Num,r2.Den⟩:Frac)≤0) = !(s29 r2 p1):=zsZ fa fB
 have t6:decide (s69 (⟨p1.Num,p1.Den⟩:Frac) (⟨p2.Num,p2.Den⟩:Frac)≤0) = !(s29 p2 p1):=zsZ fa fA
 rw [t1,t2,t3,t4,t5,t6]
 cases s29 p1 r1 <;> cases s29 r2 p2 <;> exact ⟨rfl,rfl⟩
theorem ztP (hl : -100000≤low) (hh:high≤200000):∀ (m k k' i:Nat) (f0 f1 t0 t1:Int),low+i+m=high+1→m < k→m < k' →
  zhC low high (s65 a).list.Gates (s65 a).corners (s65 b).list.Gates (s65 b).corners k (i:Int) f0 f1 t0 t1=true∧zih a b high k' (low+i)=true ∧
  zKU (zhB low high (s65 a).list.Gates (s65 a).corners (s65 b).list.Gates (s65 b).corners k (i:Int) f0 f1 t0 t1) (zif a b high k' (low+i)):=by
 intro m
 induction m with
 | zero =>
  intro k k' i f0 f1 t0 t1 hi hk hk'
  obtain ⟨k,rfl⟩:∃ j,k=j+1:=⟨k - 1,by omega⟩
  obtain ⟨k',rfl⟩:∃ j,k'=j+1:=⟨k' - 1,by omega⟩
  show zgl low high _ _ _ _ (zhC low high _ _ _ _ k) (i:Int) f0 f1 t0 t1=true∧zgx a b high (zih a b high k') (low+i)=true∧zKU (zgk low high _ _ _ _ (zhB low high _ _ _ _ k) (i:Int) f0 f1 t0 t1) (zgw a b high (zif a b high k') (low+i))
  unfold zgl zgx zgk zgw zj6
  rw [zaH (x:=high - low) (by omega) (by omega),zaH (x:=high - low+1) (by omega) (by omega),decide_eq_false (show ¬ (i:Int) < high - low+1 by omega),decide_eq_false (show ¬ low+i≤high by omega),zaH (x:=high+1) (by omega) (by omega),decide_eq_true (show high+1 > high by omega)]
  exact ⟨rfl,rfl,.inl ⟨rfl,rfl⟩⟩
 | succ m ih =>
  intro k k' i f0 f1 t0 t1 hi hk hk'
  obtain ⟨k,rfl⟩:∃ j,k=j+1:=⟨k - 1,by omega⟩
  obtain ⟨k',rfl⟩:∃ j,k'=j+1:=⟨k' - 1,by omega⟩
  have ih:=fun f0 f1 t0 t1=>ih k k' (i+1) f0 f1 t0 t1 (by omega) (by omega) (by omega)
  show zgl low high _ _ _ _ (zhC low high _ _ _ _ k) (i:Int) f0 f1 t0 t1=true∧zgx a b high (zih a b high k') (low+i)=true∧zKU (zgk low high _ _ _ _ (zhB low high _ _ _ _ k) (i:Int) f0 f1 t0 t1) (zgw a b high (zif a b high k') (low+i))
  generalize zhC low high (s65 a).list.Gates (s65 a).corners (s65 b).list.Gates (s65 b).corners k=P at ih ⊢
  generalize zhB low high (s65 a).list.Gates (s65 a).corners (s65 b).list.Gates (s65 b).corners k=S at ih ⊢
  generalize zih a b high k'=Q at ih ⊢
  generalize zif a b high k'=R at ih ⊢
  obtain ⟨u1,u2⟩:=zzZ a b Ga Gb ha hb low high P S i f0 f1 t0 t1 (by omega) hl hh
  obtain ⟨v1,v2⟩:=zBP a b Ga Gb ha hb high Q R (low+i) (by omega) (by omega) (by omega)
  rw [u1,u2,v1,v2]
  have e:low+((i+1:Nat):Int)=low+i+1:=by omega
  rw [e] at ih
  cases s29 (cmT a b (low+i)) (cmF a b (low+i))
  ·exact ⟨rfl,rfl,.inr ⟨by show low+i ≠ -1000000;omega,rfl⟩⟩
  ·exact ih _ _ _ _
end
def crR (a b:Sl Gate) (low high:Int) (u:Int×Frac×Frac×Int):Prop :=
 cond (s20 a && s20 b && decide (-100000≤low∧low≤high∧high≤200000)) (cond (s21 a && s21 b) (cond (s22 a || s22 b) (u=(0,zF,zF,6)) (p23 a b low high=true∧zKU u (s23 a b low high))) (u=(0,zF,zF,5))) (u=(0,zF,zF,2))
theorem zKV (a b:Sl Gate) (na:a.len≤9223372036854775807) (nb:b.len≤9223372036854775807) (low high:Int):p19 a b low high=true∧crR a b low high (s19 a b low high):=by
 obtain ⟨va,_⟩:=zzz a na
 obtain ⟨vb,_⟩:=zzz b nb
 unfold p19 s19 crR zgn zgm
 rw [va,vb,zC5 a na,zC5 b nb]
 simp only [decide_true,Bool.true_and]
 by_cases h1:low < -100000
 ·rw [decide_eq_true h1, decide_eq_false (show ¬ (-100000 ≤ low ∧ low ≤ high ∧ high ≤ 200000) by omega), Bool.and_false]
  exact ⟨rfl,rfl⟩
 by_cases h2:low > high
 ·rw [decide_eq_false h1, decide_eq_true h2, decide_eq_false (show ¬ (-100000 ≤ low ∧ low ≤ high ∧ high ≤ 200000) by omega), Bool.and_false]
  exact ⟨rfl,rfl⟩
 by_cases h3:high > 200000
 ·rw [decide_eq_false h1, decide_eq_false h2, decide_eq_true h3, decide_eq_false (show ¬ (-100000 ≤ low ∧ low ≤ high ∧ high ≤ 200000) by omega), Bool.and_false]
  exact ⟨rfl,rfl⟩
 rw [decide_eq_false h1,decide_eq_false h2,decide_eq_false h3,decide_eq_true (show (-100000≤low∧low≤high∧high≤200000) by omega),Bool.and_true]
 cases ea:s20 a
 ·exact ⟨rfl,rfl⟩
 cases eb:s20 b
 ·exact ⟨rfl,rfl⟩
 have Ga:=(zm9 a na).1 ea
 have Gb:=(zm9 b nb).1 eb
 obtain ⟨A1,_,A3⟩:=zrq a Ga
 obtain ⟨B1,_,B3⟩:=zrq b Gb
 obtain ⟨C,c1,c2,_⟩:=zov a Ga
 obtain ⟨D,d1,d2,_⟩:=zov b Gb
 obtain ⟨f1,_,f3⟩:=zrr a Ga
 obtain ⟨g1,_,g3⟩:=zrr b Gb
 have ga:(s65 a).list.Gates=a:=by rw [c2]
 have gb:(s65 b).list.Gates=b:=by rw [d2]
 have xa:(⟨⟨(s65 a).list.Gates⟩,(s65 a).corners⟩:set)=s65 a:=rfl
 have xb:(⟨⟨(s65 b).list.Gates⟩,(s65 b).corners⟩:set)=s65 b:=rfl
 simp only [Bool.not_true,cond_false,cond_true,Bool.and_self]
 unfold zpL zpK zpJ zpI zmt zms zpH zpG zmr zmq
 rw [c1,d1,xa,xb,A1,B1,A3,B3]
 rw [show (⟨(s65 a).list.Gates⟩:list)=⟨a⟩ by rw [ga],show (⟨(s65 b).list.Gates⟩:list)=⟨b⟩ by rw [gb],f1,f3,g1,g3]
 simp only [decide_true,Bool.true_and]
 cases ha:s21 a
 ·exact ⟨rfl,rfl⟩
 cases hb:s21 b
 ·exact ⟨rfl,rfl⟩
 cases s22 a
 ·cases s22 b
  ·have L := ztP a b Ga Gb ha hb low high (by omega) (by omega) (high + 1 - low).toNat Fuel Fuel 0 0 0 0 0 (by omega) (by simp only [Fuel]; omega) (by simp only [Fuel]; omega)
   have e0:low+((0:Nat):Int)=low:=by omega
   rw [e0] at L
   exact ⟨L.1,L.2⟩
  ·exact ⟨rfl,rfl⟩
 ·exact ⟨rfl,rfl⟩
end Go.Proofs
namespace Go.Proofs
open Go Go.Pm
set_option maxRecDepth 100000
theorem zha (a b : Sl Gate) (na : a.len ≤ 9223372036854775807) (nb : b.len ≤ 9223372036854775807) (low high : Int) (lg : Bool) (h : lg = true ↔ (-100000 ≤ low ∧ low ≤ high ∧ high ≤ 200000)) :
  zkv a b low high lg=true∧zku a b low high lg=true:=by
 obtain ⟨e1,e2⟩:=zKV a b na nb low high
 have hd:decide (-100000≤low∧low≤high∧high≤200000)=lg:=by rw [Bool.eq_iff_iff,decide_eq_true_eq];exact h.symm
 unfold crR at e2
 rw [hd] at e2
 obtain ⟨va,_⟩:=zsI a na
 obtain ⟨vb,_⟩:=zsI b nb
 unfold zkv zku zzp zzo zon zom zsE zsD zsC zsB zzm
 rw [e1,va,vb]
 generalize s19 a b low high=u at e2
 simp only [decide_true,Bool.true_and]
 cases ea:s20 a
 ·rw [ea] at e2
  have e2:u=(0,zF,zF,2):=e2
  rw [e2];exact ⟨rfl,rfl⟩
 cases eb:s20 b
 ·rw [ea, eb] at e2
  have e2:u=(0,zF,zF,2):=e2
  rw [e2];exact ⟨rfl,rfl⟩
 cases lg
 ·rw [ea, eb] at e2
  have e2:u=(0,zF,zF,2):=e2
  rw [e2];exact ⟨rfl,rfl⟩
 have Ga:=(zm9 a na).1 ea
 have Gb:=(zm9 b nb).1 eb
 obtain ⟨A1,A2,_⟩:=zsY a Ga
 obtain ⟨B1,B2,_⟩:=zsY b Gb
 rw [ea,eb] at e2
 rw [A1,A2,B1,B2]
 simp only [decide_true,Bool.true_and,Bool.and_true,cond_true] at e2
 cases ha:s21 a
 ·rw [ha] at e2
  have e2:u=(0,zF,zF,5):=e2
  rw [e2];exact ⟨rfl,rfl⟩
 cases hb:s21 b
 ·rw [ha, hb] at e2
  have e2:u=(0,zF,zF,5):=e2
  rw [e2];exact ⟨rfl,rfl⟩
 rw [ha,hb] at e2
 cases fa:s22 a
 ·cases fb : s22 b
  ·rw [fa, fb] at e2
   obtain ⟨q,r⟩:p23 a b low high=true∧zKU u (s23 a b low high):=e2
   rw [q]
   generalize s23 a b low high=v at r
   refine ⟨rfl,?_⟩
   unfold zkt zzl
   simp only [Bool.not_true,cond_false]
   rcases r with ⟨r1,r2⟩ | ⟨r1,r2⟩
   ·rw [r1,r2];rfl
   ·rw [r2, show (v.1 == (-1000000:Int)) = false by simpa using r1]
    simp only [cond_false,beq_self_eq_true,bne_self_eq_false,cond_true]
  ·rw [fa, fb] at e2
   have e2:u=(0,zF,zF,6):=e2
   rw [e2];exact ⟨rfl,rfl⟩
 ·rw [fa] at e2
  have e2:u=(0,zF,zF,6):=e2
  rw [e2];exact ⟨rfl,rfl⟩
theorem zz0 (a b:Sl Gate) (na:a.len≤9223372036854775807) (nb:b.len≤9223372036854775807) (low high:Int):zkx a b low high=true∧zkw a b low high=true:=by
 unfold zkx zkw
 by_cases h1:low ≥ -100000
 ·by_cases h2 : low ≤ high
  ·by_cases h3 : high ≤ 200000
   ·rw [decide_eq_true h1, decide_eq_true h2, decide_eq_true h3]
    cases decide (w64 (high - low) > 200)
    ·exact zha a b na nb low high true ⟨fun _=>⟨h1,h2,h3⟩,fun _=>rfl⟩
    ·exact ⟨rfl,rfl⟩
   ·rw [decide_eq_true h1, decide_eq_true h2, decide_eq_false h3]
    exact zha a b na nb low high false ⟨fun h=>(by cases h),fun h=>absurd h.2.2 h3⟩
  ·rw [decide_eq_true h1, decide_eq_false h2]
   exact zha a b na nb low high false ⟨fun h=>(by cases h),fun h=>absurd h.2.1 h2⟩
 ·rw [decide_eq_false h1]
  exact zha a b na nb low high false ⟨fun h=>(by cases h),fun h=>absurd h.1 h1⟩
theorem cross_true (a b:Sl Gate) (na:a.len≤9223372036854775807) (nb:b.len≤9223372036854775807) (low high:Int):p3 a b low high=true∧s3 a b low high=true:=by
 obtain ⟨h1,h2⟩:=zz0 a b na nb low high
 unfold p3 s3
 rw [h1,h2]
 generalize decide ((a.len:Int) > 12)=x1
 generalize decide ((a.len:Int)≤24)=x2
 generalize decide ((b.len:Int) > 12)=x3
 generalize decide ((b.len:Int)≤24)=x4
 generalize decide ((a.len:Int) > 40)=x5
 generalize decide ((b.len:Int) > 40)=x6
 cases x1 <;> cases x2 <;> cases x3 <;> cases x4 <;> cases x5 <;> cases x6 <;> exact ⟨rfl,rfl⟩
end Go.Proofs
