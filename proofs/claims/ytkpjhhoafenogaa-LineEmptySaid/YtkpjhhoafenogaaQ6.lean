/- Part 6 of what the proof rests on: a machine that runs functions of the program on pure values, proved sound; the functions that the law reaches, and what they compute. -/
import Derived.Test.YtkpjhhoafenogaaQ5
set_option linter.all false
namespace Go.Proofs
open Go Go.Pm
set_option maxRecDepth 100000
def apL {α:Type} (v:Sl α) (x:α):Sl α:=⟨v.len+1,zdi v.len v.get (fun _=>x)⟩
theorem zmH (g:Gate):zr3 g 0=g.Low:=rfl
theorem zmI (g:Gate):zr3 g 1=g.High:=rfl
theorem zL0 (g : Sl Gate) (G : zaR g) (i k : Nat) (hi : i < g.len) (hk : k < g.len) (S0 : Int → Sl Line → Sl Line) (S1 : Int → Int → Sl Line → Sl Line) (P0 : Int → Sl Line → Bool) (P1 : Int → Int → Sl Line → Bool) (v : Sl Line) (hv : v.len ≤ 100000) (F : Nat) (hF : 5 ≤ F) :
  zda P0 P1 g F (i:Int) (k:Int) 0 v=P1 (i:Int) ((k+1:Nat):Int) (((zsb (g.get i) (g.get k)).map toL).foldl apL v) ∧
  zc9 S0 S1 g F (i:Int) (k:Int) 0 v=S1 (i:Int) ((k+1:Nat):Int) (((zsb (g.get i) (g.get k)).map toL).foldl apL v):=by
 have hl:=G.2.2
 obtain ⟨f,rfl⟩:∃ f,F=f+5:=⟨F - 5,by omega⟩
 have gi:=G.1 i hi
 have gk:=G.1 k hk
 have ei:decide (0≤(i:Int)∧(i:Int) < (g.len:Int))=true:=decide_eq_true (by omega)
 have ek:decide (0≤(k:Int)∧(k:Int) < (g.len:Int))=true:=decide_eq_true (by omega)
 have e2:decide ((2:Int) ≠ 0)=true:=by decide
 have sk:w64 ((k:Int)+(1:Int))=((k+1:Nat):Int):=zbs (n:=g.len) hk (by omega)
 -- one round
 have step:∀ (m:Nat) (e:Int) (v:Sl Line) (p q:Int),(0≤e∧e < 4)→v.len≤200000→zr3 (g.get i) (w64 (e.tdiv (2:Int)))=p→zr3 (g.get k) (e.tmod (2:Int))=q →
   (-1000000≤p∧p≤1000000)→(-1000000≤q∧q≤1000000)→(g.get i).Z ≠ (g.get k).Z →
   zda P0 P1 g (m+1) (i:Int) (k:Int) e v=zda P0 P1 g m (i:Int) (k:Int) (e+1) (apL v (toL (thr (g.get i).Z p (g.get k).Z q))) ∧
   zc9 S0 S1 g (m+1) (i:Int) (k:Int) e v=zc9 S0 S1 g m (i:Int) (k:Int) (e+1) (apL v (toL (thr (g.get i).Z p (g.get k).Z q))):=by
  intro m e v p q he hv hp hq bp bq hz
  show ze7 P0 P1 g (zda P0 P1 g m) _ _ _ _=_∧ze6 S0 S1 g (zc9 S0 S1 g m) _ _ _ _=_
  generalize zda P0 P1 g m=P
  generalize zc9 S0 S1 g m=S
  obtain ⟨t1,t2⟩:=zJz gi.1 gk.1 bp bq hz
  unfold ze7 ze6
  rw [Int.toNat_natCast,Int.toNat_natCast,hp,hq,t1,t2,decide_eq_true (show e < 4 from he.2),ei,ek,e2,zaY (x:=e+1) (by omega) (by omega),
   show ((g.get i).Z != (g.get k).Z)=true by simpa using hz,decide_eq_true (show (v.len+1) * 32≤140737488355328∧v.len+1≤9223372036854775807 by omega)]
  exact ⟨rfl,rfl⟩
 unfold zsb
 by_cases hz:(g.get i).Z=(g.get k).Z
 ·rw [if_pos hz]
  show ze7 P0 P1 g (zda P0 P1 g (f+4)) _ _ _ _=_∧ze6 S0 S1 g (zc9 S0 S1 g (f+4)) _ _ _ _=_
  generalize zda P0 P1 g (f+4)=P
  generalize zc9 S0 S1 g (f+4)=S
  unfold ze7 ze6
  rw [Int.toNat_natCast,Int.toNat_natCast,ei,ek,sk,decide_eq_true (show (0:Int) < 4 by omega),show ((g.get i).Z != (g.get k).Z)=false by simpa using hz]
  exact ⟨rfl,rfl⟩
 ·rw [if_neg hz]
  have a0:=step (f+4) 0 v _ _ (by omega) (by omega) (zmH _) (zmH _) (zfp gi) (zfp gk) hz
  generalize hv1:apL v (toL (thr (g.get i).Z (g.get i).Low (g.get k).Z (g.get k).Low))=v1 at a0
  have l1:v1.len=v.len+1:=by rw [← hv1];rfl
  have a1:=step (f+3) 1 v1 _ _ (by omega) (by omega) (zmH _) (zmI _) (zfp gi) (zgE gk) hz
  generalize hv2:apL v1 (toL (thr (g.get i).Z (g.get i).Low (g.get k).Z (g.get k).High))=v2 at a1
  have l2:v2.len=v1.len+1:=by rw [← hv2];rfl
  have a2:=step (f+2) 2 v2 _ _ (by omega) (by omega) (zmI _) (zmH _) (zgE gi) (zfp gk) hz
  generalize hv3:apL v2 (toL (thr (g.get i).Z (g.get i).High (g.get k).Z (g.get k).Low))=v3 at a2
  have l3:v3.len=v2.len+1:=by rw [← hv3];rfl
  have a3:=step (f+1) 3 v3 _ _ (by omega) (by omega) (zmI _) (zmI _) (zgE gi) (zgE gk) hz
  generalize hv4:apL v3 (toL (thr (g.get i).Z (g.get i).High (g.get k).Z (g.get k).High))=v4 at a3
  have b4:zda P0 P1 g (f+1) (i:Int) (k:Int) 4 v4=P1 (i:Int) ((k+1:Nat):Int) v4∧zc9 S0 S1 g (f+1) (i:Int) (k:Int) 4 v4=S1 (i:Int) ((k+1:Nat):Int) v4:=by
   show ze7 P0 P1 g (zda P0 P1 g f) _ _ _ _=_∧ze6 S0 S1 g (zc9 S0 S1 g f) _ _ _ _=_
   generalize zda P0 P1 g f=P
   generalize zc9 S0 S1 g f=S
   unfold ze7 ze6
   rw [sk,decide_eq_false (show ¬ (4:Int) < 4 by omega)]
   exact ⟨rfl,rfl⟩
  have fin:(([thr (g.get i).Z (g.get i).Low (g.get k).Z (g.get k).Low,thr (g.get i).Z (g.get i).Low (g.get k).Z (g.get k).High,thr (g.get i).Z (g.get i).High (g.get k).Z (g.get k).Low,thr (g.get i).Z (g.get i).High (g.get k).Z (g.get k).High]:List straight).map toL).foldl apL v=v4:=by
   simp only [List.map_cons,List.map_nil,List.foldl_cons,List.foldl_nil,hv1,hv2,hv3,hv4]
  rw [fin]
  exact ⟨(a0.1.trans (a1.1.trans (a2.1.trans a3.1))).trans b4.1,(a0.2.trans (a1.2.trans (a2.2.trans a3.2))).trans b4.2⟩
theorem zcL {α:Type} (l:List α):∀ v:Sl α,(l.foldl apL v).len=v.len+l.length:=by
 induction l with
 | nil=>intro v;rfl
 | cons x l ih=>intro v;rw [List.foldl_cons,ih];show v.len+1+l.length=v.len+(l.length+1);omega
theorem zsc (a b:Gate):(zsb a b).length≤4:=by unfold zsb;split <;> simp
theorem zsd (g:Sl Gate) (i m k:Nat):(zsY g i m k).length≤4 * m:=by
 induction m generalizing k with
 | zero=>exact Nat.le_refl _
 | succ m ih=>show (zsb _ _ ++ zsY g i m (k+1)).length≤_;rw [List.length_append];have:=ih (k+1);have:=zsc (g.get i) (g.get k);omega
theorem zOH (g:Sl Gate) (G:zaR g) (i:Nat) (hi:i < g.len) (S0:Int→Sl Line→Sl Line) (P0:Int→Sl Line→Bool):∀ (m F k:Nat) (v:Sl Line),k+m=g.len→m < F→v.len+4 * m≤100000 →
  zf0 P0 g F (i:Int) (k:Int) v=P0 ((i+1:Nat):Int) (((zsY g i m k).map toL).foldl apL v) ∧
  zfZ S0 g F (i:Int) (k:Int) v=S0 ((i+1:Nat):Int) (((zsY g i m k).map toL).foldl apL v):=by
 have hl:=G.2.2
 intro m
 induction m with
 | zero =>
  intro F k v hk hF hv
  obtain ⟨f,rfl⟩:∃ f,F=f+1:=⟨F - 1,by omega⟩
  show zhO P0 g (zf0 P0 g f) _ _ _=_∧zhN S0 g (zfZ S0 g f) _ _ _=_
  generalize zf0 P0 g f=P
  generalize zfZ S0 g f=S
  unfold zhO zhN
  rw [decide_eq_false (show ¬ (k:Int) < (g.len:Int) by omega),cond_false,cond_false,zbs (n:=g.len) hi (by omega)]
  exact ⟨rfl,rfl⟩
 | succ m ih =>
  intro F k v hk hF hv
  obtain ⟨f,rfl⟩:∃ f,F=f+1:=⟨F - 1,by omega⟩
  have ih:=fun v h=>ih f (k+1) v (by omega) (by omega) h
  show zhO P0 g (zf0 P0 g f) _ _ _=_∧zhN S0 g (zfZ S0 g f) _ _ _=_
  generalize zf0 P0 g f=P at ih
  generalize zfZ S0 g f=S at ih
  unfold zhO zhN zqc zqb
  rw [decide_eq_true (show (k:Int) < (g.len:Int) by omega),cond_true,cond_true]
  obtain ⟨b1,b2⟩:=zL0 g G i k hi (by omega) S0 S P0 P v (by omega) Fuel (by simp only [Fuel];omega)
  rw [b1,b2]
  have q4:=zsc (g.get i) (g.get k)
  have:=ih (((zsb (g.get i) (g.get k)).map toL).foldl apL v) (by rw [zcL,List.length_map];omega)
  rw [← List.foldl_append,← List.map_append] at this
  exact this
theorem zJA (g:Sl Gate) (G:zaR g):p80 g=true∧s80 g=((cst g).map toL).foldl apL ⟨0,fun _=>default⟩:=by
 have hl:=G.2.2
 have key:∀ (m F i:Nat) (v:Sl Line),i+m=g.len→m < F→v.len+100 * m≤50000→zhS g F (i:Int) v=true∧zhR g F (i:Int) v=((zBR g m i).map toL).foldl apL v:=by
  intro m
  induction m with
  | zero =>
   intro F i v hi hF hv
   obtain ⟨f,rfl⟩:∃ f,F=f+1:=⟨F - 1,by omega⟩
   show zhQ g (zhS g f) _ _=_∧zhP g (zhR g f) _ _=_
   unfold zhQ zhP
   rw [decide_eq_false (show ¬ (i:Int) < (g.len:Int) by omega),cond_false,cond_false]
   exact ⟨rfl,rfl⟩
  | succ m ih =>
   intro F i v hi hF hv
   obtain ⟨f,rfl⟩:∃ f,F=f+1:=⟨F - 1,by omega⟩
   have ih:=fun v h=>ih f (i+1) v (by omega) (by omega) h
   show zhQ g (zhS g f) _ _=_∧zhP g (zhR g f) _ _=_
   generalize zhS g f=P at ih
   generalize zhR g f=S at ih
   unfold zhQ zhP zqf zqe
   rw [decide_eq_true (show (i:Int) < (g.len:Int) by omega),cond_true,cond_true,zbs (n:=g.len) (by omega) (by omega)]
   obtain ⟨b1,b2⟩:=zOH g G i (by omega) S P (g.len - (i+1)) Fuel (i+1) v (by omega) (by simp only [Fuel];omega) (by omega)
   rw [b1,b2]
   have c4:=zsd g i (g.len - (i+1)) (i+1)
   have:=ih (((zsY g i (g.len - (i+1)) (i+1)).map toL).foldl apL v) (by rw [zcL,List.length_map];omega)
   rw [← List.foldl_append,← List.map_append] at this
   exact this
 exact key g.len Fuel 0 _ (by omega) (by simp only [Fuel];omega) (by show 0+_≤_;omega)
end Go.Proofs
namespace Go.Proofs
open Go Go.Pm
set_option maxRecDepth 100000
def SOK (s:straight):Prop:=(-2000000≤s.slope∧s.slope≤2000000)∧(-200000000000≤s.start∧s.start≤200000000000)∧1≤s.den∧s.den≤100000
theorem zJB {z p y q:Int} (hz:0≤z∧z≤100000) (hy:0≤y∧y≤100000) (hp : -1000000≤p∧p≤1000000) (hq : -1000000≤q∧q≤1000000) (hn:z ≠ y):SOK (thr z p y q):=by
 have b1:=zn7 hp.1 hp.2 hy.1 hy.2
 have b2:=zn7 hq.1 hq.2 hz.1 hz.2
 unfold thr SOK
 by_cases h:z > y
 ·rw [if_pos h];exact ⟨⟨by show _≤p - q;omega,by show p - q≤_;omega⟩,⟨by show _≤q * z - p * y;omega,by show q * z - p * y≤_;omega⟩,by show _≤z - y;omega,by show z - y≤_;omega⟩
 ·rw [if_neg h];exact ⟨⟨by show _≤q - p;omega,by show q - p≤_;omega⟩,⟨by show _≤p * y - q * z;omega,by show p * y - q * z≤_;omega⟩,by show _≤y - z;omega,by show y - z≤_;omega⟩
theorem zAm {a b:Gate} {s:straight} (h:s∈zsb a b):a.Z ≠ b.Z∧∃ p q,(p=a.Low∨p=a.High)∧(q=b.Low∨q=b.High)∧s=thr a.Z p b.Z q:=by
 unfold zsb at h
 by_cases hz:a.Z=b.Z
 ·rw [if_pos hz] at h;cases h
 ·rw [if_neg hz] at h
  refine ⟨hz,?_⟩
  simp only [List.mem_cons,List.not_mem_nil,or_false] at h
  rcases h with h | h | h | h
  ·exact ⟨_,_,.inl rfl,.inl rfl,h⟩
  ·exact ⟨_,_,.inl rfl,.inr rfl,h⟩
  ·exact ⟨_,_,.inr rfl,.inl rfl,h⟩
  ·exact ⟨_,_,.inr rfl,.inr rfl,h⟩
theorem zse {g : Sl Gate} {i : Nat} {s : straight} : ∀ {m k : Nat}, s ∈ zsY g i m k → ∃ j, k ≤ j ∧ j < k + m ∧ s ∈ zsb (g.get i) (g.get j)
  | 0,_,h=>by cases h
  | m+1,k,h=>by
    rcases List.mem_append.1 h with h | h
    · exact ⟨k,Nat.le_refl _,by omega,h⟩
    · obtain ⟨j, a, b, c⟩ := zse h
      exact ⟨j,by omega,by omega,c⟩
theorem zsf {g : Sl Gate} {s : straight} : ∀ {m i : Nat}, s ∈ zBR g m i → ∃ a b, i ≤ a ∧ a < i + m ∧ a < b ∧ b < g.len ∧ s ∈ zsb (g.get a) (g.get b)
  | 0,_,h=>by cases h
  | m+1,i,h=>by
    rcases List.mem_append.1 h with h | h
    · obtain ⟨j, a, b, c⟩ := zse h
      exact ⟨i,j,Nat.le_refl _,by omega,by omega,by omega,c⟩
    · obtain ⟨a, b, h1, h2, h3, h4, h5⟩ := zsf h
      exact ⟨a,b,by omega,by omega,h3,h4,h5⟩
theorem zyA {g:Sl Gate} {s:straight} (h:s∈cst g):∃ a b,a < b∧b < g.len∧(g.get a).Z ≠ (g.get b).Z∧∃ p q,(p=(g.get a).Low∨p=(g.get a).High)∧(q=(g.get b).Low∨q=(g.get b).High)∧s=thr (g.get a).Z p (g.get b).Z q:=by
 obtain ⟨a,b,_,_,h3,h4,h5⟩:=zsf h
 obtain ⟨hz,r⟩:=zAm h5
 exact ⟨a,b,h3,h4,hz,r⟩
theorem zln {g:Sl Gate} (G:zaR g) {s:straight} (h:s∈cst g):SOK s:=by
 obtain ⟨a,b,h1,h2,hz,p,q,hp,hq,rfl⟩:=zyA h
 have ga:=G.1 a (by omega)
 have gb:=G.1 b h2
 refine zJB ga.1 gb.1 ?_ ?_ hz
 ·rcases hp with rfl | rfl;exact zfp ga;exact zgE ga
 ·rcases hq with rfl | rfl;exact zfp gb;exact zgE gb
def plc (s:straight) (z:Int):Int:=s.start+s.slope * z
def zyB (s:straight) (g:Gate):Bool:=decide (g.Low * s.den≤plc s g.Z∧plc s g.Z≤g.High * s.den)
def zBS (s:straight) (g:Gate):Bool:=decide (plc s g.Z=g.Low * s.den)
theorem zyC {s:straight} (S:SOK s) {g:Gate} (G:zd6 g):zCx s g=zyB s g:=by
 obtain ⟨S1,S2,S3⟩:=S
 have b1:=zn7 S1.1 S1.2 G.1.1 G.1.2
 have b2:=zn7 (zfp G).1 (zfp G).2 (show 0≤s.den by omega) S3.2
 have b3:=zn7 (zgE G).1 (zgE G).2 (show 0≤s.den by omega) S3.2
 unfold zCx zyB plc
 rw [zkC,zaY (x:=s.slope * g.Z) (by omega) (by omega),zaY (x:=s.start+s.slope * g.Z) (by omega) (by omega),zaY (x:=g.Low * s.den) (by omega) (by omega),zaY (x:=g.High * s.den) (by omega) (by omega)]
theorem zi9 {a x y:Int} (h:0 < a):a * x≤a * y↔x≤y:=⟨fun k=>Int.le_of_mul_le_mul_left k h,fun k=>Int.mul_le_mul_of_nonneg_left k (Int.le_of_lt h)⟩
theorem zsg {a x y:Int} (h:0 < a):a * x=a * y↔x=y:=⟨fun k=>Int.eq_of_mul_eq_mul_left (by omega) k,fun k=>by rw [k]⟩
theorem zyD {s:straight} (S:SOK s) {z:Int} (hz:0≤z∧z≤100000):∃ n d k,zp7 (toL s) z=(n,d)∧0 < k∧k * n=s.den * plc s z∧k * d=s.den * s.den∧0 < d∧d≤10000000000:=by
  obtain ⟨S1,S2,S3⟩:=S
  have hd:0 < s.den:=by omega
  have g1:=zeu (num:=s.slope) hd
  have g2:=zeu (num:=s.start) hd
  have r1:=zmF (num:=s.slope) hd
  have r2:=zmF (num:=s.start) hd
  have e1:=zqE (num:=s.slope) hd
  have e2:=zmE (num:=s.slope) hd
  have e3:=zqE (num:=s.start) hd
  have e4:=zmE (num:=s.start) hd
  have p1:=zkD (num:=s.slope) hd
  have p2:=zkD (num:=s.start) hd
  have q1:=zr9 (num:=s.slope) hd
  have q2:=zr9 (num:=s.start) hd
  unfold zp7 toL
  simp only
  generalize (red s.slope s.den).Num=a at *
  generalize (red s.slope s.den).Den=b at *
  generalize (red s.start s.den).Num=c at *
  generalize (red s.start s.den).Den=d at *
  generalize (Int.gcd s.slope s.den:Int)=G1 at *
  generalize (Int.gcd s.start s.den:Int)=G2 at *
  have m1:=zn7 (x:=c) (X:=200000000000) (y:=b) (Y:=100000) (by omega) (by omega) (by omega) (by omega)
  have m2:=zn7 (x:=a) (X:=2000000) (y:=z) (Y:=100000) (by omega) (by omega) hz.1 hz.2
  have m3:=zn7 (x:=a * z) (X:=2000000 * 100000) (y:=d) (Y:=100000) (by omega) (by omega) (by omega) (by omega)
  have m4:=zn7 (x:=d) (X:=100000) (y:=b) (Y:=100000) (by omega) (by omega) (by omega) (by omega)
  have m5:=Int.mul_pos p2 p1
  rw [zaY (x:=c * b) (by omega) (by omega),zaY (x:=a * z) (by omega) (by omega),zaY (x:=a * z * d) (by omega) (by omega),zaY (x:=c * b+a * z * d) (by omega) (by omega),zaY (x:=d * b) (by omega) (by omega)]
  refine ⟨_,_,G1 * G2,rfl,Int.mul_pos g1 g2,?_,?_,m5,by omega⟩
  · unfold plc
    have t1:G1 * G2 * (c * b)=s.den * s.start:=by
      calc G1 * G2 * (c * b) = (G1 * b) * (G2 * c) := by ac_rfl
        _=_:=by rw [e2,e3]
    have t2:G1 * G2 * (a * z * d)=s.den * (s.slope * z):=by
      calc G1 * G2 * (a * z * d) = (G2 * d) * ((G1 * a) * z) := by ac_rfl
        _=_:=by rw [e4,e1]
    rw [Int.mul_add,t1,t2,Int.mul_add]
  · calc G1 * G2 * (d * b) = (G1 * b) * (G2 * d) := by ac_rfl
      _=_:=by rw [e2,e4]
theorem zsh {s:straight} (S:SOK s) {g:Gate} (G:zd6 g):s72 (toL s) g=zyB s g:=by
  obtain ⟨n,d,k,e,hk,kn,kd,d1,d2⟩:=zyD S G.1
  have hd:0 < s.den:=by have:=S.2.2;omega
  have b2:=zn7 (zfp G).1 (zfp G).2 (show 0≤d by omega) d2
  have b3:=zn7 (zgE G).1 (zgE G).2 (show 0≤d by omega) d2
  have key:∀ x:Int,k * (x * d)=s.den * (x * s.den):=fun x=>by
    calc k * (x * d) = x * (k * d) := by ac_rfl
      _=s.den * (x * s.den):=by rw [kd];ac_rfl
  unfold s72 zyB
  rw [e,zfl]
  simp only
  rw [zaY (x:=g.Low * d) (by omega) (by omega),zaY (x:=g.High * d) (by omega) (by omega),Bool.decide_and]
  congr 1
  · refine decide_eq_decide.2 ?_
    rw [← zi9 hk,key,kn,zi9 hd]
  · refine decide_eq_decide.2 ?_
    rw [← zi9 hk,key,kn,zi9 hd]
theorem zyE {s:straight} (S:SOK s) {g:Gate} (G:zd6 g):((zp7 (toL s) g.Z).1 == w64 (g.Low * (zp7 (toL s) g.Z).2))=zBS s g:=by
  obtain ⟨n,d,k,e,hk,kn,kd,d1,d2⟩:=zyD S G.1
  have hd:0 < s.den:=by have:=S.2.2;omega
  have b2:=zn7 (zfp G).1 (zfp G).2 (show 0≤d by omega) d2
  have key:∀ x:Int,k * (x * d)=s.den * (x * s.den):=fun x=>by
    calc k * (x * d) = x * (k * d) := by ac_rfl
      _=s.den * (x * s.den):=by rw [kd];ac_rfl
  unfold zBS
  rw [e]
  simp only
  rw [zaY (x:=g.Low * d) (by omega) (by omega)]
  refine Bool.eq_iff_iff.2 ?_
  rw [beq_iff_eq,decide_eq_true_eq,← zsg hk,key,kn,zsg hd]
end Go.Proofs
namespace Go.Proofs
open Go Go.Pm
set_option maxRecDepth 100000
theorem zsi {c:Nat→Bool} {n:Nat} : fst c n < n↔∃ i,i < n∧c i=true:=by
 refine ⟨fun h=>⟨_,h,zAO h⟩,fun ⟨i,hi,hc⟩=>?_⟩
 rcases Nat.lt_or_ge (fst c n) n with h | h
 ·exact h
 ·have := zAN (c := c) (n := n) (j := i) (by omega)
  rw [hc] at this;cases this
def zAn (g:Sl Gate):Prop:=∀ i,i < g.len→(g.get i).Z=(g.get 0).Z
def zyF (g:Sl Gate) (s:straight):Prop:=∀ i,i < g.len→zyB s (g.get i)=true
def zJC (g:Sl Gate) (s:straight):Prop:=∃ i,i < g.len∧zBS s (g.get i)=true
theorem zBT (g:Sl Gate) (G:zaR g):p67 ⟨g⟩=true∧(s67 ⟨g⟩=true↔zAn g):=by
  have hl:=G.2.2
  have hl1:=G.2.1
  have zCv:∀ x,zCv ⟨g⟩ x=true:=fun x=>by
    unfold zCv
    rw [decide_eq_true (show 0≤(0:Int)∧(0:Int) < ((⟨g⟩:list).Gates.len:Int) from ⟨by omega,by show (0:Int) < (g.len:Int);omega⟩)];rfl
  have := zrd (c := zCu ⟨g⟩) (lpS := ziW ⟨g⟩) (lpP := ziX ⟨g⟩)
    (fun k s t i=>by
      show ziU ⟨g⟩ (ziW ⟨g⟩ k) s t i=_
      unfold ziU zlZ;rfl)
    (fun k s t i=>by
      show ziV ⟨g⟩ (ziX ⟨g⟩ k) s t i=_
      unfold ziV zl0
      rw [zCv]
      simp only [decide_true,Bool.true_and])
    g (by omega)
  obtain ⟨a,b⟩:=this
  have e:zHk ⟨g⟩ g=true:=a
  have f:zHj ⟨g⟩ g=_:=b
  unfold p67 s67 p99 s99
  show (decide ((decide (zHk ⟨g⟩ g=true) && true)=true) && true)=true∧((!decide (zHj ⟨g⟩ g ≥ 0))=true↔_)
  rw [e,f]
  refine ⟨by simp,?_⟩
  rw [Bool.not_eq_true',decide_eq_false_iff_not]
  by_cases h:fst (fun i=>zCu ⟨g⟩ (g.get i)) g.len < g.len
  · rw [if_pos h]
    obtain ⟨i,hi,hc⟩:=zsi.1 h
    refine ⟨fun k=>absurd (show ((fst (fun i=>zCu ⟨g⟩ (g.get i)) g.len:Nat):Int) ≥ 0 by omega) k,fun k=>?_⟩
    have hc:((g.get i).Z != (g.get 0).Z)=true:=hc
    rw [k i hi] at hc
    simp at hc
  · rw [if_neg h]
    refine ⟨fun _ i hi=>?_,fun _=>by omega⟩
    have:=mt zsi.2 h
    have hc : ¬ ((g.get i).Z != (g.get 0).Z)=true:=fun hc=>this ⟨i,hi,hc⟩
    simpa using hc
theorem zJD (g:Sl Gate) (G:zaR g) (v:Sl straight) {x:straight} (S:SOK x):p97 ⟨⟨g⟩,v⟩ x=true∧(s97 ⟨⟨g⟩,v⟩ x=true↔zyF g x):=by
  have hl:=G.2.2
  have := zrd (c := zCz x) (lpS := zgt x) (lpP := zgu x)
    (fun k s t i=>by
      show zgr x (zgt x k) s t i=_
      unfold zgr zjT;rfl)
    (fun k s t i=>by
      show zgs x (zgu x k) s t i=_
      unfold zgs zjU;rfl)
    g (by omega)
  obtain ⟨a,b⟩:=this
  have e:zus x g=true:=a
  have f:zur x g=_:=b
  unfold p97 s97 zJX zJW
  show (decide ((decide (zus x g=true) && true)=true) && true)=true∧((!decide (zur x g ≥ 0))=true↔_)
  rw [e,f]
  refine ⟨by simp,?_⟩
  rw [Bool.not_eq_true',decide_eq_false_iff_not]
  by_cases h:fst (fun i=>zCz x (g.get i)) g.len < g.len
  · rw [if_pos h]
    obtain ⟨i,hi,hc⟩:=zsi.1 h
    refine ⟨fun k=>absurd (show ((fst (fun i=>zCz x (g.get i)) g.len:Nat):Int) ≥ 0 by omega) k,fun k=>?_⟩
    have hc:(!(zCx x (g.get i)))=true:=hc
    rw [zyC S (G.1 i hi),k i hi] at hc
    cases hc
  · rw [if_neg h]
    refine ⟨fun _ i hi=>?_,fun _=>by omega⟩
    have:=mt zsi.2 h
    have hc : ¬ (!(zCx x (g.get i)))=true:=fun hc=>this ⟨i,hi,hc⟩
    rw [← zyC S (G.1 i hi)]
    simpa using hc
theorem zJE {x:straight} (S:SOK x):p79 x=true∧s79 x=toL x:=by
 obtain ⟨S1,S2,S3⟩:=S
 obtain ⟨a1,a2⟩:=zBQ (num:=x.slope) (den:=x.den) (by omega) (by omega) (by omega) (by omega)
 obtain ⟨b1,b2⟩:=zBQ (num:=x.start) (den:=x.den) (by omega) (by omega) (by omega) (by omega)
 unfold p79 s79 toL
 rw [a1,a2,b1,b2]
 exact ⟨by simp,rfl⟩
-- the reference
theorem zJF (g:Sl Gate) (G:zaR g):p22 g=true∧(s22 g=true↔zAn g):=by
 have hl:=G.2.2
 have hl1:=G.2.1
 have key:∀ (m k i:Nat),i+m=g.len→m < k→zhI g k (i:Int)=true∧(zhH g k (i:Int)=true↔∀ j,i≤j→j < g.len→(g.get j).Z=(g.get 0).Z):=by
  intro m
  induction m with
  | zero =>
   intro k i hi hk
   obtain ⟨k,rfl⟩:∃ k',k=k'+1:=⟨k - 1,by omega⟩
   show zhG g (zhI g k) _=_∧(zhF g (zhH g k) _=_↔_)
   unfold zhG zhF
   rw [decide_eq_false (show ¬ (i:Int) < (g.len:Int) by omega),cond_false,cond_false]
   exact ⟨rfl,⟨fun _ j a b=>absurd b (by omega),fun _=>rfl⟩⟩
  | succ m ih =>
   intro k i hi hk
   obtain ⟨k,rfl⟩:∃ k',k=k'+1:=⟨k - 1,by omega⟩
   obtain ⟨i1,i2⟩:=ih k (i+1) (by omega) (by omega)
   show zhG g (zhI g k) _=_∧(zhF g (zhH g k) _=_↔_)
   generalize zhI g k=P at i1
   generalize zhH g k=S at i2
   unfold zhG zhF
   rw [decide_eq_true (show (i:Int) < (g.len:Int) by omega),decide_eq_true (show 0≤(i:Int)∧(i:Int) < (g.len:Int) by omega),decide_eq_true (show 0≤(0:Int)∧(0:Int) < (g.len:Int) by omega),cond_true,cond_true,Int.toNat_natCast,zbs (n:=g.len) (by omega) (by omega),i1]
   by_cases hz:(g.get i).Z=(g.get 0).Z
   ·rw [show ((g.get i).Z != (g.get 0).Z) = false by simpa using hz, cond_false, cond_false]
    refine ⟨by simp,i2.trans ⟨fun h j a b=>?_,fun h j a b=>h j (by omega) b⟩⟩
    by_cases hj:j=i
    ·rw [hj];exact hz
    ·exact h j (by omega) b
   ·rw [show ((g.get i).Z != (g.get 0).Z) = true by simpa using hz, cond_true, cond_true]
    exact ⟨by simp,⟨fun h=>(by cases h),fun h=>absurd (h i (Nat.le_refl _) (by omega)) hz⟩⟩
 obtain ⟨a,b⟩:=key (g.len - 1) Fuel 1 (by omega) (by simp only [Fuel];omega)
 refine ⟨a,Iff.trans b ⟨fun h i hi=>?_,fun h j _ hj=>h j hj⟩⟩
 by_cases h0:i=0
 ·rw [h0]
 ·exact h i (by omega) hi
theorem zyG (g:Sl Gate) (G:zaR g) {x:straight} (S:SOK x):zFC (toL x) g=true∧(zsX (toL x) g=true↔zJC g x):=by
  have hl:=G.2.2
  have e := zmD (good := fun i => !(zBS x (g.get i))) (bad := true) (fin := false) (finP := true) (n := g.len) (lpS := zfj (toL x) g) (lpP := zfk (toL x) g)
    (fun k i hi=>by
      show zfh (toL x) g (zfj (toL x) g k) (i:Int)=_
      generalize zfj (toL x) g k=F
      unfold zfh zmB
      rw [decide_eq_true (show (i:Int) < (g.len:Int) by omega),cond_true,Int.toNat_natCast,zyE S (G.1 i hi)]
      cases zBS x (g.get i) <;> rfl)
    (fun k=>by
      show zfh (toL x) g (zfj (toL x) g k) (g.len:Int)=_
      unfold zfh
      rw [decide_eq_false (show ¬ (g.len:Int) < (g.len:Int) by omega),cond_false])
    (fun k i hi=>by
      show zfi (toL x) g (zfk (toL x) g k) (i:Int)=_
      generalize zfk (toL x) g k=F
      unfold zfi zmC
      rw [decide_eq_true (show (i:Int) < (g.len:Int) by omega),decide_eq_true (show 0≤(i:Int)∧(i:Int) < (g.len:Int) by omega),cond_true,Int.toNat_natCast,zyE S (G.1 i hi),Bool.true_and,Bool.true_and]
      cases zBS x (g.get i) <;> rfl)
    (fun k=>by
      show zfi (toL x) g (zfk (toL x) g k) (g.len:Int)=_
      unfold zfi
      rw [decide_eq_false (show ¬ (g.len:Int) < (g.len:Int) by omega),cond_false])
    (by omega)
  by_cases h:∀ i,i < g.len→(!(zBS x (g.get i)))=true
  · obtain ⟨a, b⟩ := e.1 h
    have b:zsX (toL x) g=false:=b
    refine ⟨a,?_⟩
    rw [b]
    refine ⟨fun h=>(by cases h),fun ⟨i,hi,hc⟩=>?_⟩
    have:=h i hi
    rw [hc] at this;cases this
  · obtain ⟨a, b⟩ := e.2 h
    have b:zsX (toL x) g=true:=b
    refine ⟨a,?_⟩
    rw [b]
    refine ⟨fun _=>Classical.byContradiction fun hn=>h fun i hi=>?_,fun _=>rfl⟩
    cases hc:zBS x (g.get i)
    · rfl
    · exact absurd ⟨i,hi,hc⟩ hn
end Go.Proofs
namespace Go.Proofs
open Go Go.Pm
set_option maxRecDepth 100000
def zkE (l:Line):List Int:=[l.Slope.Num,l.Slope.Den,l.Start.Num,l.Start.Den]
theorem zn3 {a b:Line} (h:zkE a=zkE b):a=b:=by
 unfold zkE at h
 simp only [List.cons.injEq,and_true] at h
 obtain ⟨h1,h2,h3,h4⟩:=h
 obtain ⟨⟨a1,a2⟩,a3,a4⟩:=a
 obtain ⟨⟨b1,b2⟩,b3,b4⟩:=b
 simp only at h1 h2 h3 h4
 rw [h1,h2,h3,h4]
abbrev zkF {α:Type} [Inhabited α]:Sl α:=⟨0,fun _=>default⟩
theorem zAo {g:Sl Gate} (h:zAn g):cst g=[]:=by
 rcases List.eq_nil_or_concat (cst g) with e | ⟨l,x,e⟩
 ·exact e
 ·have : x ∈ cst g := by rw [e]; simp
  obtain ⟨a,b,h1,h2,hz,_⟩:=zyA this
  exact absurd ((h a (by omega)).trans (h b h2).symm) hz
theorem zAp (g:Sl Gate):∀ m i,(zBR g m i).length≤4 * g.len * m:=by
 intro m
 induction m with
 | zero=>intro i;exact Nat.le_refl _
 | succ m ih =>
  intro i
  show (zsY g i (g.len - (i+1)) (i+1) ++ zBR g m (i+1)).length≤_
  rw [List.length_append,Nat.mul_succ]
  have:=ih (i+1)
  have:=zsd g i (g.len - (i+1)) (i+1)
  omega
theorem zyH {g:Sl Gate} (G:zaR g):(cst g).length≤2304:=by
 have h1:=zAp g g.len 0
 have hl:=G.2.2
 have:4 * g.len * g.len≤4 * 24 * 24:=Nat.mul_le_mul (by omega) hl
 exact Nat.le_trans h1 this
theorem zGb (g:Sl Gate) (G:zaR g):∀ (r acc:List straight) (n:Nat) (F:List Int→Option (List Int)),
    (∀ s∈r,SOK s)→acc.length+r.length≤10000→(∀ c,(zdL (F c) 0 != 0)=true↔∃ x∈acc,zkE (toL x)=c)→acc.Pairwise (fun x y=>toL x ≠ toL y) →
    ∃ C:List straight,zeO g r (acc.foldl apL zkF) n F=true∧zeN g r (acc.foldl apL zkF) n F=⟨⟨g⟩,C.foldl apL zkF⟩ ∧
      (∀ s∈C,s∈acc∨(s∈r∧zyF g s))∧(∀ s∈acc,s∈C)∧(∀ s∈r,zyF g s→∃ x∈C,toL x=toL s)∧C.Pairwise (fun x y=>toL x ≠ toL y):=by
  intro r
  induction r with
  | nil =>
    intro acc n F _ _ _ hp
    exact ⟨acc,rfl,rfl,fun s h=>.inl h,fun s h=>h,(fun s h=>by cases h),hp⟩
  | cons y r ih =>
    intro acc n F hs hl hF hp
    have hs':∀ s∈r,SOK s:=fun s h=>hs s (List.mem_cons_of_mem _ h)
    have Sy:=hs y List.mem_cons_self
    obtain ⟨e1,e2⟩:=zJE Sy
    obtain ⟨a1,a2⟩:=zJD g G (acc.foldl apL zkF) Sy
    rw [List.length_cons] at hl
    show ∃ C:List straight,zjY g y (zeO g r) (acc.foldl apL zkF) n F=true∧zjX g y (zeN g r) (acc.foldl apL zkF) n F=_∧_
    unfold zjY zjX
    rw [e1,e2,a1]
    have hcode:([(toL y).Slope.Num,(toL y).Slope.Den,(toL y).Start.Num,(toL y).Start.Den]:List Int)=zkE (toL y):=rfl
    rw [hcode]
    have skip:(∃ C:List straight,zeO g r (acc.foldl apL zkF) n F=true∧zeN g r (acc.foldl apL zkF) n F=⟨⟨g⟩,C.foldl apL zkF⟩ ∧
      (∀ s∈C,s∈acc∨(s∈r∧zyF g s))∧(∀ s∈acc,s∈C)∧(∀ s∈r,zyF g s→∃ x∈C,toL x=toL s)∧C.Pairwise (fun x y=>toL x ≠ toL y)):=ih acc n F hs' (by omega) hF hp
    by_cases h1:(zdL (F (zkE (toL y))) 0 != 0)=true
    · obtain ⟨C, c1, c2, c3, c4, c5, c6⟩ := skip
      rw [h1]
      refine ⟨C,by simp only [decide_true,Bool.true_and,Bool.not_true,cond_false];exact c1,by simp only [Bool.not_true,cond_false];exact c2,fun s h=>(c3 s h).imp id fun k=>⟨List.mem_cons_of_mem _ k.1,k.2⟩,c4,fun s h ha=>?_,c6⟩
      rcases List.mem_cons.1 h with rfl | h
      · obtain ⟨x, hx, hc⟩ := (hF _).1 h1
        exact ⟨x,c4 x hx,zn3 hc⟩
      · exact c5 s h ha
    · have h1' : (zdL (F (zkE (toL y))) 0 != 0) = false := by simpa using h1
      rw [h1']
      by_cases h2:s97 ⟨⟨g⟩,acc.foldl apL zkF⟩ y=true
      · rw [h2]
        have hlen:(acc.foldl apL zkF).len=acc.length:=by rw [zcL];simp
        have hfold:(⟨(acc.foldl apL zkF).len+1,zdi (acc.foldl apL zkF).len (acc.foldl apL zkF).get (fun _=>y)⟩:Sl straight)=(acc ++ [y]).foldl apL zkF:=by rw [List.foldl_append];rfl
        rw [hfold,hlen,decide_eq_true (show (acc.length+1) * 24≤140737488355328∧acc.length+1≤9223372036854775807 by omega)]
        obtain ⟨C, c1, c2, c3, c4, c5, c6⟩ := ih (acc ++ [y]) (addN (F (zkE (toL y))) n) (zkS (zkE (toL y)) [1] F) hs' (by rw [List.length_append]; simp only [List.length_cons, List.length_nil]; omega)
          (fun c=>by
            unfold zkS
            by_cases hc:c=zkE (toL y)
            · rw [decide_eq_true hc]
              exact ⟨fun _=>⟨y,by simp,hc.symm⟩,fun _=>rfl⟩
            · rw [decide_eq_false hc]
              refine (hF c).trans ⟨fun ⟨x,hx,e⟩=>⟨x,List.mem_append.2 (.inl hx),e⟩,fun ⟨x,hx,e⟩=>?_⟩
              rcases List.mem_append.1 hx with hx | hx
              · exact ⟨x,hx,e⟩
              · rw [List.mem_singleton.1 hx] at e;exact absurd e.symm hc)
          (by
            rw [List.pairwise_append]
            refine ⟨hp,List.pairwise_singleton _ _,fun a ha b hb=>?_⟩
            rw [List.mem_singleton.1 hb]
            exact fun e=>h1 ((hF _).2 ⟨a,ha,by rw [e]⟩))
        have hy:y∈C:=c4 y (by simp)
        refine ⟨C,by simp only [decide_true,Bool.true_and,Bool.not_false,cond_true];exact c1,by simp only [Bool.not_false,cond_true];exact c2,fun s h=>?_,fun s h=>c4 s (List.mem_append.2 (.inl h)),fun s h ha=>?_,c6⟩
        · rcases c3 s h with h | h
          · rcases List.mem_append.1 h with h | h
            · exact .inl h
            · rw [List.mem_singleton.1 h];exact .inr ⟨List.mem_cons_self,a2.1 h2⟩
          · exact .inr ⟨List.mem_cons_of_mem _ h.1,h.2⟩
        · rcases List.mem_cons.1 h with rfl | h
          · exact ⟨s,hy,rfl⟩
          · exact c5 s h ha
      · have h2' : s97 ⟨⟨g⟩, acc.foldl apL zkF⟩ y = false := by simpa using h2
        rw [h2']
        obtain ⟨C,c1,c2,c3,c4,c5,c6⟩:=skip
        refine ⟨C,by simp only [decide_true,Bool.true_and,Bool.not_false,cond_true,cond_false];exact c1,by simp only [Bool.not_false,cond_true,cond_false];exact c2,fun s h=>(c3 s h).imp id fun k=>⟨List.mem_cons_of_mem _ k.1,k.2⟩,c4,fun s h ha=>?_,c6⟩
        rcases List.mem_cons.1 h with rfl | h
        · exact absurd (a2.2 ha) h2
        · exact c5 s h ha
theorem zsj (g:Sl Gate) (G:zaR g):∃ C:List straight,p65 g=true∧s65 g=⟨⟨g⟩,C.foldl apL zkF⟩∧(∀ s∈C,s∈cst g∧zyF g s)∧(∀ s∈cst g,zyF g s→∃ x∈C,toL x=toL s)∧C.Pairwise (fun x y=>toL x ≠ toL y):=by
 obtain ⟨e1,e2⟩:=zBT g G
 obtain ⟨f1,f2⟩:=zGa g G
 unfold p65 s65
 rw [e1]
 by_cases hf:zAn g
 ·rw [e2.2 hf]
  refine ⟨[],rfl,rfl,(fun s h=>by cases h),fun s h=>?_,List.Pairwise.nil⟩
  rw [zAo hf] at h;cases h
 ·have : s67 ⟨g⟩ = false := by cases h : s67 ⟨g⟩; rfl; exact absurd (e2.1 h) hf
  rw [this]
  unfold zl9 zl8 zl7 zl6 zl5 zoZ
  rw [f1,f2]
  obtain ⟨C,c1,c2,c3,_,c5,c6⟩:=zGb g G (cst g) [] 0 (fun _=>none) (fun s h=>zln G h) (by have:=zyH G;simp only [List.length_nil];omega) (fun c=>⟨fun h=>by simp [zdL] at h,fun ⟨x,hx,_⟩=>by cases hx⟩) List.Pairwise.nil
  refine ⟨C,by simp only [decide_true,Bool.true_and,cond_false];exact c1,by simp only [cond_false];exact c2,fun s h=>?_,c5,c6⟩
  rcases c3 s h with h | h
  ·cases h
  ·exact h
end Go.Proofs
namespace Go.Proofs
open Go Go.Pm
set_option maxRecDepth 100000
theorem zAq (l:Line) (g:Sl Gate):∀ (m i:Nat) (v:Sl Int),i+m=g.len→v.len≤i→((zgD (addI l g) m i v).len < g.len↔v.len < i∨∃ j,i≤j∧j < g.len∧s72 l (g.get j)=false):=by
 intro m
 induction m with
 | zero =>
  intro i v hi hv
  have:i=g.len:=by omega
  subst this
  exact ⟨fun h=>.inl h,fun h=>h.elim id fun ⟨j,a,b,_⟩=>absurd b (by omega)⟩
 | succ m ih =>
  intro i v hi hv
  show (zgD (addI l g) m (i+1) (addI l g i v)).len < g.len↔_
  rw [ih (i+1) (addI l g i v) (by omega) (zr8 l g i v hv)]
  unfold addI
  cases h:s72 l (g.get i)
  ·rw [cond_false]
   exact ⟨fun _=>.inr ⟨i,Nat.le_refl _,by omega,h⟩,fun _=>.inl (by omega)⟩
  ·rw [cond_true]
   refine ⟨fun k=>k.imp (fun (k:v.len+1 < i+1)=>by omega) fun ⟨j,a,b,c⟩=>⟨j,by omega,b,c⟩,fun k=>k.imp (fun k=>by show v.len+1 < i+1;omega) fun ⟨j,a,b,c⟩=>⟨j,?_,b,c⟩⟩
   by_cases hj:j=i
   ·rw [hj,h] at c;cases c
   ·omega
theorem zAr {g:Sl Gate} (G:zaR g) {s:straight} (S:SOK s):p27 (toL s) g=true∧(((s27 (toL s) g).len:Int) < (g.len:Int)↔¬ zyF g s):=by
 have hl:=G.2.2
 obtain ⟨a,b⟩:=zJy (toL s) g (by omega)
 refine ⟨a,?_⟩
 rw [b]
 have:=zAq (toL s) g g.len 0 (⟨0,fun _=>default⟩:Sl Int) (by omega) (Nat.le_refl _)
 have e:((zKb (toL s) g).len < g.len↔_):=this
 rw [show (((zKb (toL s) g).len:Int) < (g.len:Int))↔(zKb (toL s) g).len < g.len by omega,e]
 constructor
 ·rintro (h | ⟨j, _, hj, hc⟩)
  ·exact absurd h (by omega)
  ·intro h
   have:=h j hj
   rw [← zsh S (G.1 j hj),hc] at this;cases this
 ·intro h
  refine .inr (Classical.byContradiction fun hn=>h fun i hi=>?_)
  rw [← zsh S (G.1 i hi)]
  cases hc:s72 (toL s) (g.get i)
  ·exact absurd ⟨i,Nat.zero_le _,hi,hc⟩ hn
  ·rfl
theorem zn4 {α:Type} (l:List α):∀ (v:Sl α) (i:Nat),i < v.len→(l.foldl apL v).get i=v.get i:=by
 induction l with
 | nil=>intro v i _;rfl
 | cons x l ih =>
  intro v i hi
  rw [List.foldl_cons,ih _ _ (show i < v.len+1 by omega)]
  show zdi v.len v.get (fun _=>x) i=_
  unfold zdi
  rw [show Nat.ble v.len i=false by rw [← Bool.not_eq_true,Nat.ble_eq];omega]
theorem zmJ {α:Type} (l:List α):∀ (v:Sl α) (i:Nat) (x:α),l[i]? = some x→(l.foldl apL v).get (v.len+i)=x:=by
 induction l with
 | nil=>intro v i x h;simp at h
 | cons y l ih =>
  intro v i x h
  rw [List.foldl_cons]
  cases i with
  | zero =>
   have h:some y=some x:=h
   cases h
   rw [zn4 _ _ _ (show v.len+0 < v.len+1 by omega)]
   show zdi v.len v.get (fun _=>y) (v.len+0)=_
   unfold zdi
   rw [show Nat.ble v.len (v.len+0)=true by rw [Nat.ble_eq];omega]
  | succ i =>
   have:=ih (apL v y) i x (by simpa using h)
   rw [← this]
   show _=(l.foldl apL (apL v y)).get (v.len+1+i)
   congr 1;omega
def zlo (g:Sl Gate) (l:Line):Prop:=∃ s∈cst g,zyF g s∧toL s=l
theorem zJG {g:Sl Gate} (G:zaR g) {a b:Line} (ha:zlo g a) (hb:zlo g b):p81 a b g=true:=by
 obtain ⟨x,hx,_,rfl⟩:=ha
 obtain ⟨y,hy,_,rfl⟩:=hb
 unfold p81 zqi
 rw [(zyG g G (zln G hx)).1,(zyG g G (zln G hy)).1]
 cases (zsX (toL x) g != zsX (toL y) g) <;> simp
def zGc (out:Sl Line) (A:Nat) (x:Line):Sl Line :=
 ⟨(((A:Int) - (0:Int)).toNat+1)+((out.len:Int) - (A:Int)).toNat,(zdi (((A:Int) - (0:Int)).toNat+1) (zdi (((A:Int) - (0:Int)).toNat) (fun i=>out.get (i+((0:Int).toNat))) (fun _=>x)) (fun i=>out.get (i+A)))⟩
theorem zmK {out:Sl Line} {A:Nat} {x:Line} (h:A≤out.len):(zGc out A x).len=out.len+1:=by
 show (((A:Int) - (0:Int)).toNat+1)+((out.len:Int) - (A:Int)).toNat=_;omega
theorem ziv {out:Sl Line} {A:Nat} {x:Line} (j:Nat):(zGc out A x).get j=if j < A then out.get j else if j=A then x else out.get (j - 1):=by
 have e:((A:Int) - (0:Int)).toNat=A:=by omega
 show zdi (((A:Int) - (0:Int)).toNat+1) (zdi (((A:Int) - (0:Int)).toNat) (fun i=>out.get (i+((0:Int).toNat))) (fun _=>x)) (fun i=>out.get (i+A)) j=_
 rw [e]
 unfold zdi
 by_cases h1:A+1≤j
 ·rw [show Nat.ble (A + 1) j = true by rw [Nat.ble_eq]; exact h1, if_neg (by omega), if_neg (by omega)]
  show out.get (j - (A+1)+A)=_
  congr 1;omega
 ·rw [show Nat.ble (A + 1) j = false by rw [← Bool.not_eq_true, Nat.ble_eq]; exact h1]
  by_cases h2:A≤j
  ·have : j = A := by omega
   subst this
   rw [show Nat.ble j j=true by rw [Nat.ble_eq];omega,if_neg (by omega),if_pos rfl]
  ·rw [show Nat.ble A j = false by rw [← Bool.not_eq_true, Nat.ble_eq]; exact h2, if_pos (by omega)]
   rfl
open Classical in
noncomputable def zdU (out:Sl Line) (A:Nat) (x:Line):Sl Line:=if A < out.len∧out.get A=x then out else zGc out A x
theorem zMP (g : Sl Gate) (lv : Sl Line) (i : Nat) (hi : i < lv.len) (hlv : lv.len ≤ 10000) (S1 : Sl Line → Int → Sl Line) (P1 : Sl Line → Int → Bool) (out : Sl Line) (A : Nat) (hA : A ≤ out.len) (ho : out.len ≤ 10000) :
  zky P1 g lv out (i:Int) (A:Int)=P1 (zdU out A (lv.get i)) ((i+1:Nat):Int)∧zkx S1 g lv out (i:Int) (A:Int)=S1 (zdU out A (lv.get i)) ((i+1:Nat):Int):=by
 have w:=zbs (n:=lv.len) hi (by omega)
 have k1:decide (0≤(i:Int)∧(i:Int) < (lv.len:Int))=true:=decide_eq_true (by omega)
 have k2:decide (0≤(0:Int)∧(0:Int)≤(A:Int)∧(A:Int)≤(out.len:Int))=true:=decide_eq_true (by omega)
 have k3:decide (((A:Int) - (0:Int)).toNat * 32≤140737488355328∧((A:Int) - (0:Int)).toNat≤9223372036854775807)=true:=decide_eq_true (by omega)
 have k4:decide ((((A:Int) - (0:Int)).toNat+1) * 32≤140737488355328∧((A:Int) - (0:Int)).toNat+1≤9223372036854775807)=true:=decide_eq_true (by omega)
 have k5:decide (0≤(A:Int)∧(A:Int)≤(out.len:Int)∧(out.len:Int)≤(out.len:Int))=true:=decide_eq_true (by omega)
 have k6:decide (((((A:Int) - (0:Int)).toNat+1)+((out.len:Int) - (A:Int)).toNat) * 32≤140737488355328∧(((A:Int) - (0:Int)).toNat+1)+((out.len:Int) - (A:Int)).toNat≤9223372036854775807)=true:=decide_eq_true (by omega)
 unfold zky zkx zdU
 rw [Int.toNat_natCast,Int.toNat_natCast,k1,k2,k3,k4,k5,k6,w]
 by_cases h1:A < out.len
 ·rw [decide_eq_true (show (A : Int) < (out.len : Int) by omega), decide_eq_true (show 0 ≤ (A : Int) ∧ (A : Int) < (out.len : Int) by omega)]
  by_cases h2:out.get A=lv.get i
  ·rw [if_pos ⟨h1, h2⟩, h2, beq_self_eq_true, beq_self_eq_true, beq_self_eq_true, beq_self_eq_true]
   exact ⟨rfl,rfl⟩
  ·rw [if_neg fun h => h2 h.2]
   have hne : ¬ (((out.get A).Slope.Num == (lv.get i).Slope.Num)=true∧((out.get A).Slope.Den == (lv.get i).Slope.Den)=true∧((out.get A).Start.Num == (lv.get i).Start.Num)=true∧((out.get A).Start.Den == (lv.get i).Start.Den)=true):=by
    rintro ⟨a,b,c,d⟩
    rw [beq_iff_eq] at a b c d
    exact h2 (zn3 (by unfold zkE;rw [a,b,c,d]))
   generalize ((out.get A).Slope.Num == (lv.get i).Slope.Num)=b1 at hne ⊢
   generalize ((out.get A).Slope.Den == (lv.get i).Slope.Den)=b2 at hne ⊢
   generalize ((out.get A).Start.Num == (lv.get i).Start.Num)=b3 at hne ⊢
   generalize ((out.get A).Start.Den == (lv.get i).Start.Den)=b4 at hne ⊢
   cases b1 <;> cases b2 <;> cases b3 <;> cases b4 <;> first | exact ⟨rfl,rfl⟩ | exact absurd ⟨rfl,rfl,rfl,rfl⟩ hne
 ·rw [if_neg fun h => h1 h.1, decide_eq_false (show ¬ (A : Int) < (out.len : Int) by omega)]
  exact ⟨rfl,rfl⟩
theorem zOI (g : Sl Gate) (G : zaR g) (lv : Sl Line) (i : Nat) (hi : i < lv.len) (hlv : lv.len ≤ 10000) (hx : zlo g (lv.get i)) (S1 : Sl Line → Int → Sl Line) (P1 : Sl Line → Int → Bool) (out : Sl Line) (ho : out.len ≤ 10000) (hM : ∀ j, j < out.len → zlo g (out.get j)) :
  ∀ (m k a:Nat),a+m=out.len→m < k →
  zhV P1 g lv k out (i:Int) (a:Int)=P1 (zdU out (zkP (fun j=>!(s81 (out.get j) (lv.get i) g)) m a) (lv.get i)) ((i+1:Nat):Int) ∧
  zf1 S1 g lv k out (i:Int) (a:Int)=S1 (zdU out (zkP (fun j=>!(s81 (out.get j) (lv.get i) g)) m a) (lv.get i)) ((i+1:Nat):Int):=by
 intro m
 induction m with
 | zero =>
  intro k a ha hk
  obtain ⟨k,rfl⟩:∃ k',k=k'+1:=⟨k - 1,by omega⟩
  show zhU P1 g lv (zhV P1 g lv k) _ _ _=P1 (zdU out a _) _∧zhT S1 g lv (zf1 S1 g lv k) _ _ _=S1 (zdU out a _) _
  unfold zhU zhT
  rw [decide_eq_false (show ¬ (a:Int) < (out.len:Int) by omega),cond_false,cond_false]
  exact zMP g lv i hi hlv S1 P1 out a (by omega) ho
 | succ m ih =>
  intro k a ha hk
  obtain ⟨k,rfl⟩:∃ k',k=k'+1:=⟨k - 1,by omega⟩
  obtain ⟨i1,i2⟩:=ih k (a+1) (by omega) (by omega)
  show zhU P1 g lv (zhV P1 g lv k) _ _ _=_∧zhT S1 g lv (zf1 S1 g lv k) _ _ _=_
  generalize zhV P1 g lv k=P at i1
  generalize zf1 S1 g lv k=S at i2
  unfold zhU zhT
  rw [decide_eq_true (show (a:Int) < (out.len:Int) by omega),decide_eq_true (show 0≤(a:Int)∧(a:Int) < (out.len:Int) by omega),decide_eq_true (show 0≤(i:Int)∧(i:Int) < (lv.len:Int) by omega),Int.toNat_natCast,Int.toNat_natCast,zJG G (hM a (by omega)) hx,zbs (n:=out.len) (by omega) (by omega)]
  cases h:s81 (out.get a) (lv.get i) g
  ·rw [zt7 (c := fun j => !(s81 (out.get j) (lv.get i) g)) (by show (!(s81 (out.get a) (lv.get i) g)) = true; rw [h]; rfl)]
   exact zMP g lv i hi hlv S1 P1 out a (by omega) ho
  ·rw [zt8 (c := fun j => !(s81 (out.get j) (lv.get i) g)) (by show (!(s81 (out.get a) (lv.get i) g)) = false; rw [h]; rfl)]
   exact ⟨i1,i2⟩
end Go.Proofs
namespace Go.Proofs
open Go Go.Pm
set_option maxRecDepth 100000
def Bef (g:Sl Gate) (a b:Line):Prop:=s81 a b g=true
def Tot (g:Sl Gate):Prop:=(∀ a b c,zlo g a→zlo g b→zlo g c→Bef g a b→Bef g b c→Bef g a c)∧∀ a b,zlo g a→zlo g b→a ≠ b→Bef g a b∨Bef g b a
def Srt (g:Sl Gate) (v:Sl Line):Prop:=∀ i j,i < j→j < v.len→Bef g (v.get i) (v.get j)
theorem zsk {g:Sl Gate} (G:zaR g) {s:straight} (h:s∈cst g):zlo g (toL s)↔zyF g s:=by
 refine ⟨fun ⟨x,hx,ha,e⟩ i hi=>?_,fun ha=>⟨s,h,ha,rfl⟩⟩
 rw [← zsh (zln G h) (G.1 i hi),← e,zsh (zln G hx) (G.1 i hi)]
 exact ha i hi
theorem put_mem {g:Sl Gate} {out:Sl Line} {A:Nat} {x:Line} (hA:A≤out.len) (hM:∀ j,j < out.len→zlo g (out.get j)) (hx:zlo g x):∀ j,j < (zdU out A x).len→zlo g ((zdU out A x).get j):=by
 unfold zdU
 by_cases h:A < out.len∧out.get A=x
 ·rw [if_pos h];exact hM
 ·rw [if_neg h]
  intro j hj
  rw [zmK hA] at hj
  rw [ziv]
  split
  ·exact hM j (by omega)
  ·split
   ·exact hx
   ·exact hM (j - 1) (by omega)
theorem zGd {out:Sl Line} {A:Nat} {x:Line} (hA:A≤out.len):(∃ j,j < (zdU out A x).len∧(zdU out A x).get j=x)∧∀ j,j < out.len→∃ i,i < (zdU out A x).len∧(zdU out A x).get i=out.get j:=by
 unfold zdU
 by_cases h:A < out.len∧out.get A=x
 ·rw [if_pos h];exact ⟨⟨A,h.1,h.2⟩,fun j hj=>⟨j,hj,rfl⟩⟩
 ·rw [if_neg h, zmK hA]
  refine ⟨⟨A,by omega,by rw [ziv,if_neg (by omega),if_pos rfl]⟩,fun j hj=>?_⟩
  by_cases hj2:j < A
  ·exact ⟨j,by omega,by rw [ziv,if_pos hj2]⟩
  ·exact ⟨j+1,by omega,by rw [ziv,if_neg (by omega),if_neg (by omega)];rfl⟩
theorem zGe {out:Sl Line} {A:Nat} {x:Line} (hA:A≤out.len):(zdU out A x).len≤out.len+1:=by
 unfold zdU;split
 ·omega
 ·rw [zmK hA];omega
theorem zGf {g : Sl Gate} (T : Tot g) {out : Sl Line} {x : Line} (hM : ∀ j, j < out.len → zlo g (out.get j)) (hx : zlo g x) (hs : Srt g out) :
  Srt g (zdU out (zkP (fun j=>!(s81 (out.get j) x g)) out.len 0) x):=by
 have hle:=zAM (fun j=>!(s81 (out.get j) x g)) out.len
 have hlo:∀ j,j < fst (fun j=>!(s81 (out.get j) x g)) out.len→Bef g (out.get j) x:=fun j hj=>by
  have:(!(s81 (out.get j) x g))=false:=zAN (c:=fun j=>!(s81 (out.get j) x g)) hj
  show s81 (out.get j) x g=true
  cases h:s81 (out.get j) x g
  ·rw [h] at this;cases this
  ·rfl
 have hhi:fst (fun j=>!(s81 (out.get j) x g)) out.len < out.len→¬ Bef g (out.get (fst (fun j=>!(s81 (out.get j) x g)) out.len)) x:=fun h hb=>by
  have:(!(s81 (out.get (fst (fun j=>!(s81 (out.get j) x g)) out.len)) x g))=true:=zAO (c:=fun j=>!(s81 (out.get j) x g)) h
  have hb:s81 (out.get (fst (fun j=>!(s81 (out.get j) x g)) out.len)) x g=true:=hb
  rw [hb] at this;cases this
 show Srt g (zdU out (fst (fun j=>!(s81 (out.get j) x g)) out.len) x)
 generalize fst (fun j=>!(s81 (out.get j) x g)) out.len=A at hle hlo hhi ⊢
 unfold zdU
 by_cases h:A < out.len∧out.get A=x
 ·rw [if_pos h];exact hs
 ·rw [if_neg h]
  intro i j hij hj
  rw [zmK hle] at hj
  rw [ziv,ziv]
  by_cases j1:j < A
  ·rw [if_pos (show i < A by omega),if_pos j1];exact hs i j hij (by omega)
  ·rw [if_neg j1]
   by_cases j2:j=A
   ·rw [if_pos j2,if_pos (show i < A by omega)];exact hlo i (by omega)
   ·rw [if_neg j2]
    by_cases i1:i < A
    ·rw [if_pos i1];exact hs i (j - 1) (by omega) (by omega)
    ·rw [if_neg i1]
     by_cases i2:i=A
     ·rw [if_pos i2]
      have hA:A < out.len:=by omega
      have b1:Bef g x (out.get A):=(T.2 x (out.get A) hx (hM A hA) (fun e=>h ⟨hA,e.symm⟩)).resolve_right (hhi hA)
      by_cases j3:j - 1=A
      ·rw [j3];exact b1
      ·exact T.1 _ _ _ hx (hM A hA) (hM (j - 1) (by omega)) b1 (hs A (j - 1) (by omega) (by omega))
     ·rw [if_neg i2];exact hs (i - 1) (j - 1) (by omega) (by omega)
structure Inv33 (g : Sl Gate) (lv : Sl Line) (i : Nat) (out : Sl Line) : Prop where
  len:out.len≤i
  mem:∀ j,j < out.len→zlo g (out.get j)
  has:∀ j,j < i→zlo g (lv.get j)→∃ a,a < out.len∧out.get a=lv.get j
  srt:Tot g→Srt g out
theorem zL1 (g:Sl Gate) (G:zaR g) (lv:Sl Line) (hlv:lv.len≤10000) (hc:∀ i,i < lv.len→∃ s∈cst g,lv.get i=toL s):∀ (m k i:Nat) (out:Sl Line),i+m=lv.len→m < k→Inv33 g lv i out →
  zhY g lv k out (i:Int)=true∧Inv33 g lv lv.len (zf2 g lv k out (i:Int)):=by
 intro m
 induction m with
 | zero =>
  intro k i out hi hk I
  obtain ⟨k,rfl⟩:∃ k',k=k'+1:=⟨k - 1,by omega⟩
  show zhX g lv (zhY g lv k) _ _=_∧Inv33 g lv lv.len (zhW g lv (zf2 g lv k) _ _)
  unfold zhX zhW
  rw [decide_eq_false (show ¬ (i:Int) < (lv.len:Int) by omega),cond_false,cond_false]
  have:i=lv.len:=by omega
  rw [← this]
  exact ⟨rfl,I⟩
 | succ m ih =>
  intro k i out hi hk I
  obtain ⟨k,rfl⟩:∃ k',k=k'+1:=⟨k - 1,by omega⟩
  have ih:=fun out I=>ih k (i+1) out (by omega) (by omega) I
  show zhX g lv (zhY g lv k) _ _=_∧Inv33 g lv lv.len (zhW g lv (zf2 g lv k) _ _)
  generalize zhY g lv k=P at ih
  generalize zf2 g lv k=S at ih
  obtain ⟨s,hs,es⟩:=hc i (by omega)
  obtain ⟨p1,p2⟩:=zAr G (zln G hs)
  rw [← es] at p1 p2
  unfold zhX zhW zqk zqj
  rw [decide_eq_true (show (i:Int) < (lv.len:Int) by omega),decide_eq_true (show 0≤(i:Int)∧(i:Int) < (lv.len:Int) by omega),Int.toNat_natCast,p1,zbs (n:=lv.len) (by omega) (by omega),cond_true,cond_true]
  by_cases ha:zyF g s
  ·rw [decide_eq_false (fun h => p2.1 h ha), cond_false, cond_false]
   have hx:zlo g (lv.get i):=by rw [es];exact (zsk G hs).2 ha
   have hl:=I.len
   obtain ⟨b1,b2⟩:=zOI g G lv i (by omega) hlv hx S P out (by omega) I.mem out.len Fuel 0 (by omega) (by simp only [Fuel];omega)
   have hA:=zAM (fun j=>!(s81 (out.get j) (lv.get i) g)) out.len
   have I':Inv33 g lv (i+1) (zdU out (zkP (fun j=>!(s81 (out.get j) (lv.get i) g)) out.len 0) (lv.get i)):=by
    refine ⟨Nat.le_trans (zGe hA) (by omega),put_mem hA I.mem hx,fun j hj hm=>?_,fun T=>zGf T I.mem hx (I.srt T)⟩
    obtain ⟨q1,q2⟩:=zGd (out:=out) (x:=lv.get i) hA
    by_cases hji:j=i
    ·rw [hji];exact q1
    ·obtain ⟨a, ha1, ha2⟩ := I.has j (by omega) hm
     obtain ⟨c,hc1,hc2⟩:=q2 a ha1
     exact ⟨c,hc1,hc2.trans ha2⟩
   have:=ih _ I'
   refine ⟨?_,?_⟩
   ·simp only [decide_true,Bool.true_and];exact b1.trans this.1
   ·have e : zf1 S g lv Fuel out (i : Int) (0 : Int) = _ := b2
    rw [e];exact this.2
  ·rw [decide_eq_true (p2.2 ha), cond_true, cond_true]
   have I':Inv33 g lv (i+1) out:=by
    refine ⟨by have:=I.len;omega,I.mem,fun j hj hm=>?_,I.srt⟩
    by_cases hji:j=i
    ·rw [hji,es,zsk G hs] at hm;exact absurd hm ha
    ·exact I.has j (by omega) hm
   have:=ih _ I'
   exact ⟨by simp only [decide_true,Bool.true_and];exact this.1,this.2⟩
theorem zJH (g:Sl Gate) (G:zaR g):p33 g=true∧(s33 g).len≤2304∧(∀ j,j < (s33 g).len→zlo g ((s33 g).get j))∧(∀ l,zlo g l→∃ a,a < (s33 g).len∧(s33 g).get a=l)∧(Tot g→Srt g (s33 g)):=by
  obtain ⟨e1,e2⟩:=zJA g G
  have hlen:(((cst g).map toL).foldl apL (⟨0,fun _=>default⟩:Sl Line)).len=(cst g).length:=by rw [zcL,List.length_map];simp
  have hget:∀ i s,(cst g)[i]? = some s→(((cst g).map toL).foldl apL (⟨0,fun _=>default⟩:Sl Line)).get i=toL s:=fun i s h=>by
    have:=zmJ ((cst g).map toL) (⟨0,fun _=>default⟩:Sl Line) i (toL s) (by rw [List.getElem?_map,h];rfl)
    rw [Nat.zero_add] at this;exact this
  have hc:=zyH G
  obtain ⟨a, I⟩ := zL1 g G (((cst g).map toL).foldl apL (⟨0, fun _ => default⟩ : Sl Line)) (by omega)
    (fun i hi=>by
      rw [hlen] at hi
      exact ⟨(cst g)[i],List.getElem_mem _,hget i _ (List.getElem?_eq_getElem hi)⟩)
    (cst g).length Fuel 0 (⟨0,fun _=>default⟩:Sl Line) (by omega) (by simp only [Fuel];omega)
    ⟨Nat.le_refl _,fun j hj=>absurd hj (Nat.not_lt_zero _),fun j hj=>absurd hj (Nat.not_lt_zero _),fun _ i j _ hj=>absurd hj (Nat.not_lt_zero _)⟩
  have es:s33 g=zf2 g (((cst g).map toL).foldl apL (⟨0,fun _=>default⟩:Sl Line)) Fuel (⟨0,fun _=>default⟩:Sl Line) (0:Int):=by
    unfold s33;rw [e2];rfl
  have I:Inv33 g (((cst g).map toL).foldl apL (⟨0,fun _=>default⟩:Sl Line)) (((cst g).map toL).foldl apL (⟨0,fun _=>default⟩:Sl Line)).len (s33 g):=by rw [es];exact I
  refine ⟨?_,by have:=I.len;omega,I.mem,fun l ⟨s,hs,ha,e⟩=>?_,I.srt⟩
  · unfold p33
    rw [e1,e2]
    simp only [decide_true,Bool.true_and]
    exact a
  · obtain ⟨i, hi⟩ := List.getElem?_of_mem hs
    have hi2:i < (cst g).length:=(List.getElem?_eq_some_iff.1 hi).1
    have hgi:=hget i s hi
    obtain ⟨b,hb1,hb2⟩:=I.has i (by omega) (by rw [hgi];exact ⟨s,hs,ha,rfl⟩)
    exact ⟨b,hb1,by rw [hb2,hgi,e]⟩
end Go.Proofs
namespace Go.Proofs
open Go Go.Pm
set_option maxRecDepth 100000
def cmS (g:Sl Gate) (i:Nat) (s:Int×Int):Int×Int:=(if (g.get i).Low > s.1 then (g.get i).Low else s.1,if (g.get i).High < s.2 then (g.get i).High else s.2)
def com (g:Sl Gate):Int×Int:=zgD (cmS g) (g.len - 1) 1 ((g.get 0).Low,(g.get 0).High)
theorem zOJ (g:Sl Gate) (h:1≤g.len):zgD (cmS g) g.len 0 ((g.get 0).Low,(g.get 0).High)=com g:=by
 obtain ⟨m,hm⟩:∃ m,g.len=m+1:=⟨g.len - 1,by omega⟩
 unfold com
 rw [hm]
 show zgD (cmS g) m 1 (cmS g 0 ((g.get 0).Low,(g.get 0).High))=zgD (cmS g) m 1 _
 have:cmS g 0 ((g.get 0).Low,(g.get 0).High)=((g.get 0).Low,(g.get 0).High):=by
  unfold cmS
  rw [if_neg (by show ¬ (g.get 0).Low > (g.get 0).Low;omega),if_neg (by show ¬ (g.get 0).High < (g.get 0).High;omega)]
 rw [this]
theorem zJI (g:Sl Gate) (G:zaR g):p98 ⟨g⟩=true∧s98 ⟨g⟩=⟨(com g).1,(com g).2⟩:=by
  have hl:=G.2
  have := zfa (σ := Int × Int) (step := cmS g) (E := fun s => (⟨s.1, s.2⟩ : Span)) (EP := fun _ => true) (Inv := fun _ _ => True) (a := 0) (n := g.len) (lpS := fun k s i => zgZ ⟨g⟩ k i s.1 s.2) (lpP := fun k s i => zg0 ⟨g⟩ k i s.1 s.2)
    (fun k i s _ hi _=>by
      show zgX ⟨g⟩ (zgZ ⟨g⟩ k) (i:Int) s.1 s.2=_
      generalize zgZ ⟨g⟩ k=S
      unfold zgX
      rw [decide_eq_true (show (i:Int) < ((⟨g⟩:list).Gates.len:Int) by show (i:Int) < (g.len:Int);omega),cond_true,Int.toNat_natCast]
      rfl)
    (fun k s=>by
      show zgX ⟨g⟩ (zgZ ⟨g⟩ k) (g.len:Int) s.1 s.2=_
      unfold zgX
      rw [decide_eq_false (show ¬ (g.len:Int) < ((⟨g⟩:list).Gates.len:Int) by show ¬ (g.len:Int) < (g.len:Int);omega),cond_false])
    (fun k i s _ hi _=>by
      show zgY ⟨g⟩ (zg0 ⟨g⟩ k) (i:Int) s.1 s.2=_
      generalize zg0 ⟨g⟩ k=S
      unfold zgY
      rw [decide_eq_true (show (i:Int) < ((⟨g⟩:list).Gates.len:Int) by show (i:Int) < (g.len:Int);omega),decide_eq_true (show 0≤(i:Int)∧(i:Int) < ((⟨g⟩:list).Gates.len:Int) by show 0≤(i:Int)∧(i:Int) < (g.len:Int);omega),cond_true,Bool.true_and,Int.toNat_natCast]
      rfl)
    (fun k s=>by
      show zgY ⟨g⟩ (zg0 ⟨g⟩ k) (g.len:Int) s.1 s.2=_
      unfold zgY
      rw [decide_eq_false (show ¬ (g.len:Int) < ((⟨g⟩:list).Gates.len:Int) by show ¬ (g.len:Int) < (g.len:Int);omega),cond_false])
    (fun _ _ _ _ _=>trivial) (Nat.zero_le _) (by omega) ((g.get 0).Low,(g.get 0).High) trivial
  obtain ⟨a,b⟩:=this
  rw [show g.len - 0=g.len from rfl,zOJ g hl.1] at b
  refine ⟨?_,b⟩
  unfold p98
  rw [decide_eq_true (show 0≤(0:Int)∧(0:Int) < ((⟨g⟩:list).Gates.len:Int) from ⟨by omega,by show (0:Int) < (g.len:Int);omega⟩),Bool.true_and,Bool.true_and]
  exact a
theorem zJJ (g:Sl Gate) (G:zaR g):p71 g=true∧s71 g=((com g).1,(com g).2,decide ((com g).1≤(com g).2)):=by
  have hl:=G.2
  have := zfa (σ := Int × Int) (step := cmS g) (E := fun s => (s.1, s.2, decide (s.1 ≤ s.2))) (EP := fun _ => true) (Inv := fun _ _ => True) (a := 1) (n := g.len) (lpS := fun k s i => zh1 g k s.1 s.2 i) (lpP := fun k s i => zh2 g k s.1 s.2 i)
    (fun k i s _ hi _=>by
      show zhZ g (zh1 g k) s.1 s.2 (i:Int)=_
      generalize zh1 g k=S
      unfold zhZ
      rw [decide_eq_true (show (i:Int) < (g.len:Int) by omega),cond_true,Int.toNat_natCast]
      rfl)
    (fun k s=>by
      show zhZ g (zh1 g k) s.1 s.2 (g.len:Int)=_
      unfold zhZ
      rw [decide_eq_false (show ¬ (g.len:Int) < (g.len:Int) by omega),cond_false])
    (fun k i s _ hi _=>by
      show zh0 g (zh2 g k) s.1 s.2 (i:Int)=_
      generalize zh2 g k=S
      unfold zh0
      rw [decide_eq_true (show (i:Int) < (g.len:Int) by omega),decide_eq_true (show 0≤(i:Int)∧(i:Int) < (g.len:Int) by omega),cond_true,Bool.true_and,Bool.true_and,Int.toNat_natCast]
      rfl)
    (fun k s=>by
      show zh0 g (zh2 g k) s.1 s.2 (g.len:Int)=_
      unfold zh0
      rw [decide_eq_false (show ¬ (g.len:Int) < (g.len:Int) by omega),cond_false])
    (fun _ _ _ _ _=>trivial) hl.1 (by omega) ((g.get 0).Low,(g.get 0).High) trivial
  obtain ⟨a,b⟩:=this
  refine ⟨?_,b⟩
  unfold p71
  rw [decide_eq_true (show 0≤(0:Int)∧(0:Int) < (g.len:Int) by omega),Bool.true_and,Bool.true_and]
  exact a
theorem zGg (g:Sl Gate) (G:zaR g):p66 (s65 g)=true∧p21 g=true∧s66 (s65 g)=s21 g:=by
 obtain ⟨C,_,c2,c3,c4,_⟩:=zsj g G
 obtain ⟨a1,a2⟩:=zBT g G
 obtain ⟨b1,b2⟩:=zJI g G
 obtain ⟨d1,d2⟩:=zJJ g G
 obtain ⟨e1,e2⟩:=zJF g G
 obtain ⟨f1,_,f3,f4,_⟩:=zJH g G
 have h67:s67 ⟨g⟩=s22 g:=Bool.eq_iff_iff.2 (a2.trans e2.symm)
 have hcl:(C.foldl apL (zkF:Sl straight)).len=C.length:=by rw [zcL];simp
 rw [c2]
 unfold p66 s66 p21 s21
 show (decide (p98 ⟨g⟩=true) && (decide (p67 ⟨g⟩=true) && true))=true∧_∧cond (s67 ⟨g⟩) (decide ((s98 ⟨g⟩).Low≤(s98 ⟨g⟩).High)) (decide (((C.foldl apL (zkF:Sl straight)).len:Int) > 0))=_
 rw [a1,b1,b2,d1,d2,e1,f1,h67,hcl]
 refine ⟨by simp,by cases s22 g <;> simp,?_⟩
 cases s22 g
 ·rw [cond_false, cond_false]
  refine decide_eq_decide.2 ⟨fun h=>?_,fun h=>?_⟩
  ·obtain ⟨x, hx⟩ := List.exists_mem_of_length_pos (l := C) (by omega)
   obtain ⟨a,ha,_⟩:=f4 (toL x) ⟨x,(c3 x hx).1,(c3 x hx).2,rfl⟩
   omega
  ·obtain ⟨s, hs, ha, _⟩ := f3 0 (by omega)
   obtain ⟨x,hx,_⟩:=c4 s hs ha
   have:=List.length_pos_of_mem hx
   omega
 ·rfl
end Go.Proofs
namespace Go.Proofs
open Go Go.Pm
set_option maxRecDepth 100000
def pkS (g:Sl Gate) (set:Sl Int) (i:Nat) (v:Sl Gate):Sl Gate:=apL v (g.get (set.get i).toNat)
def pick (g:Sl Gate) (set:Sl Int):Sl Gate:=zgD (pkS g set) set.len 0 zkF
def inR (g:Sl Gate) (set:Sl Int):Prop:=∀ i,i < set.len→0≤set.get i∧set.get i < (g.len:Int)
theorem zJK {α:Type} (v:Sl α) (x:α) (i:Nat) (h:i < v.len):(apL v x).get i=v.get i:=by
 show zdi v.len v.get (fun _=>x) i=_
 unfold zdi
 rw [show Nat.ble v.len i=false by rw [← Bool.not_eq_true,Nat.ble_eq];omega]
theorem zJL {α:Type} (v:Sl α) (x:α):(apL v x).get v.len=x:=by
 show zdi v.len v.get (fun _=>x) v.len=_
 unfold zdi
 rw [show Nat.ble v.len v.len=true by rw [Nat.ble_eq];omega]
theorem zAs (g:Sl Gate) (G:zaR g) (set:Sl Int) (h:inR g set):(pick g set).len=set.len∧∀ j,j < set.len→zd6 ((pick g set).get j) :=
 zyy (Inv:=fun i (v:Sl Gate)=>v.len=i∧∀ j,j < i→zd6 (v.get j)) (n:=set.len) (fun i v hi ⟨h1,h2⟩=>by
  refine ⟨by show v.len+1=i+1;omega,fun j hj=>?_⟩
  show zd6 ((apL v (g.get (set.get i).toNat)).get j)
  by_cases hji:j < v.len
  ·rw [zJK _ _ _ hji];exact h2 j (by omega)
  ·have : j = v.len := by omega
   rw [this,zJL]
   have:=h i hi
   exact G.1 _ (by omega)) set.len 0 zkF (by omega) ⟨rfl,fun j hj=>absurd hj (Nat.not_lt_zero _)⟩
theorem zGh (g:Sl Gate) (G:zaR g) (set:Sl Int) (h:inR g set) (h1:1≤set.len) (h2:set.len≤24):zaR (pick g set):=by
 obtain ⟨a,b⟩:=zAs g G set h
 exact ⟨fun i hi=>b i (by omega),by omega,by omega⟩
theorem zJM (g:Sl Gate) (set:Sl Int) (h:inR g set) (h2:set.len≤24):p47 g set=true∧s47 g set=pick g set:=by
  have := zfa (σ := Sl Gate) (step := pkS g set) (E := id) (EP := fun _ => true) (Inv := fun i (v : Sl Gate) => v.len = i) (a := 0) (n := set.len) (lpS := fun k v i => zh5 g set k i v) (lpP := fun k v i => zh6 g set k i v)
    (fun k i v _ hi _=>by
      show zh3 g set (zh5 g set k) (i:Int) v=_
      generalize zh5 g set k=S
      unfold zh3
      rw [decide_eq_true (show (i:Int) < (set.len:Int) by omega),cond_true,Int.toNat_natCast]
      rfl)
    (fun k v=>by
      show zh3 g set (zh5 g set k) (set.len:Int) v=_
      unfold zh3
      rw [decide_eq_false (show ¬ (set.len:Int) < (set.len:Int) by omega),cond_false];rfl)
    (fun k i v _ hi hv=>by
      show zh4 g set (zh6 g set k) (i:Int) v=_
      generalize zh6 g set k=S
      unfold zh4
      rw [decide_eq_true (show (i:Int) < (set.len:Int) by omega),cond_true,Int.toNat_natCast,decide_eq_true (show 0≤(i:Int)∧(i:Int) < (set.len:Int) by omega),decide_eq_true (h i hi),decide_eq_true (show (v.len+1) * 24≤140737488355328∧v.len+1≤9223372036854775807 by omega)]
      rfl)
    (fun k v=>by
      show zh4 g set (zh6 g set k) (set.len:Int) v=_
      unfold zh4
      rw [decide_eq_false (show ¬ (set.len:Int) < (set.len:Int) by omega),cond_false])
    (fun i v _ _ h=>by show v.len+1=i+1;omega) (Nat.zero_le _) (by omega) (zkF:Sl Gate) rfl
  exact this
theorem zJN (g:Sl Gate) (G:zaR g) (set:Sl Int) (h:inR g set) (h1:1≤set.len) (h2:set.len≤24):p84 g set=true∧s84 g set=s21 (pick g set)∧p21 (pick g set)=true:=by
  have K:=zGh g G set h h1 h2
  obtain ⟨C,l1,_⟩:=zsj _ K
  obtain ⟨q1,q2,q3⟩:=zGg _ K
  have := zfa (σ := Sl Gate) (step := pkS g set) (E := fun v => s66 (s65 v)) (EP := fun v => decide (p65 v = true) && (decide (p66 (s65 v) = true) && true)) (Inv := fun i (v : Sl Gate) => v.len = i) (a := 0) (n := set.len) (lpS := fun k v i => zg3 g set k i v) (lpP := fun k v i => zg4 g set k i v)
    (fun k i v _ hi _=>by
      show zg1 g set (zg3 g set k) (i:Int) v=_
      generalize zg3 g set k=S
      unfold zg1
      rw [decide_eq_true (show (i:Int) < (set.len:Int) by omega),cond_true,Int.toNat_natCast]
      rfl)
    (fun k v=>by
      show zg1 g set (zg3 g set k) (set.len:Int) v=_
      unfold zg1
      rw [decide_eq_false (show ¬ (set.len:Int) < (set.len:Int) by omega),cond_false])
    (fun k i v _ hi hv=>by
      show zg2 g set (zg4 g set k) (i:Int) v=_
      generalize zg4 g set k=S
      unfold zg2
      rw [decide_eq_true (show (i:Int) < (set.len:Int) by omega),cond_true,Int.toNat_natCast,decide_eq_true (show 0≤(i:Int)∧(i:Int) < (set.len:Int) by omega),decide_eq_true (h i hi),decide_eq_true (show (v.len+1) * 24≤140737488355328∧v.len+1≤9223372036854775807 by omega)]
      simp only [Bool.true_and]
      rfl)
    (fun k v=>by
      show zg2 g set (zg4 g set k) (set.len:Int) v=_
      unfold zg2
      rw [decide_eq_false (show ¬ (set.len:Int) < (set.len:Int) by omega),cond_false])
    (fun i v _ _ h=>by show v.len+1=i+1;omega) (Nat.zero_le _) (by omega) (zkF:Sl Gate) rfl
  obtain ⟨a,b⟩:=this
  have a:p84 g set=(decide (p65 (pick g set)=true) && (decide (p66 (s65 (pick g set))=true) && true)):=a
  have b:s84 g set=s66 (s65 (pick g set)):=b
  rw [l1,q1] at a
  exact ⟨by rw [a];simp,by rw [b,q3],q2⟩
theorem zyI (g:Sl Gate) (G:zaR g) (set:Sl Int) (h:inR g set) (h1:1≤set.len) (h2:set.len≤24):p84 g set=true∧p47 g set=true∧p21 (s47 g set)=true∧s84 g set=s21 (s47 g set):=by
 obtain ⟨a,b,c⟩:=zJN g G set h h1 h2
 obtain ⟨d,e⟩:=zJM g set h h2
 exact ⟨a,d,by rw [e];exact c,by rw [e];exact b⟩
def Rel (a:Sl Int×Int) (b:Sl Int):Prop:=a.1=b∧a.2=(if b.len=0 then 7 else 0)∧b.len≤3
def two (a b:Int):Sl Int:=⟨2,zaU (zcj [(enc_3 a),(enc_3 b)])⟩
def three (a b c:Int):Sl Int:=⟨3,zaU (zcj [(enc_3 a),(enc_3 b),(enc_3 c)])⟩
theorem zJO {g:Sl Gate} {a b:Nat} (ha:a < g.len) (hb:b < g.len):inR g (two a b):=by
 intro i hi
 have hi:i < 2:=hi
 match i,hi with
 | 0,_=>show 0≤(a:Int)∧(a:Int) < _;omega
 | 1,_=>show 0≤(b:Int)∧(b:Int) < _;omega
theorem zAt {g:Sl Gate} {a b c:Nat} (ha:a < g.len) (hb:b < g.len) (hc:c < g.len):inR g (three a b c):=by
 intro i hi
 have hi:i < 3:=hi
 match i,hi with
 | 0,_=>show 0≤(a:Int)∧(a:Int) < _;omega
 | 1,_=>show 0≤(b:Int)∧(b:Int) < _;omega
 | 2,_=>show 0≤(c:Int)∧(c:Int) < _;omega
section loops
variable (g:Sl Gate) (G:zaR g)
include G
theorem zOK (i j : Nat) (hi : i < g.len) (hj : j < g.len) (S6 : Int → Sl Int × Int) (S7 : Int → Int → Int → Sl Int × Int) (P6 : Int → Bool) (P7 : Int → Int → Int → Bool) (T4 : Int → Sl Int) (T5 : Int → Int → Sl Int) (Q4 : Int → Bool) (Q5 : Int → Int → Bool)
    (hP:P7 (i:Int) ((j+1:Nat):Int) (i:Int)=true) (hQ:Q5 (i:Int) ((j+1:Nat):Int)=true) (hR:Rel (S7 (i:Int) ((j+1:Nat):Int) (i:Int)) (T5 (i:Int) ((j+1:Nat):Int))) :
    ∀ (m k c:Nat),c+m=g.len→m < k→zg8 P6 P7 g k (i:Int) (j:Int) (c:Int) (i:Int)=true∧zic Q4 Q5 g k (i:Int) (j:Int) (c:Int)=true∧Rel (zg7 S6 S7 g k (i:Int) (j:Int) (c:Int) (i:Int)) (zib T4 T5 g k (i:Int) (j:Int) (c:Int)):=by
  have hl:=G.2
  have wj:=zbs (n:=g.len) hj (by omega)
  intro m
  induction m with
  | zero =>
    intro k c hc hk
    obtain ⟨k,rfl⟩:∃ k',k=k'+1:=⟨k - 1,by omega⟩
    show zg6 P6 P7 g (zg8 P6 P7 g k) _ _ _ _=true∧zia Q4 Q5 g (zic Q4 Q5 g k) _ _ _=true∧Rel (zg5 S6 S7 g (zg7 S6 S7 g k) _ _ _ _) (zh9 T4 T5 g (zib T4 T5 g k) _ _ _)
    unfold zg6 zia zg5 zh9
    rw [decide_eq_false (show ¬ (c:Int) < (g.len:Int) by omega),cond_false,cond_false,cond_false,cond_false,wj]
    exact ⟨hP,hQ,hR⟩
  | succ m ih =>
    intro k c hc hk
    obtain ⟨k,rfl⟩:∃ k',k=k'+1:=⟨k - 1,by omega⟩
    obtain ⟨i1,i2,i3⟩:=ih k (c+1) (by omega) (by omega)
    obtain ⟨a1,a2,a3,a4⟩:=zyI g G (three i j c) (zAt hi hj (by omega)) (by show 1≤3;omega) (by show 3≤24;omega)
    have wc:=zbs (i:=c) (n:=g.len) (by omega) (by omega)
    show zg6 P6 P7 g (zg8 P6 P7 g k) _ _ _ _=true∧zia Q4 Q5 g (zic Q4 Q5 g k) _ _ _=true∧Rel (zg5 S6 S7 g (zg7 S6 S7 g k) _ _ _ _) (zh9 T4 T5 g (zib T4 T5 g k) _ _ _)
    generalize zg8 P6 P7 g k=A1 at i1
    generalize zic Q4 Q5 g k=A2 at i2
    generalize zg7 S6 S7 g k=A3 at i3
    generalize zib T4 T5 g k=A4 at i3
    have hth:(⟨3,zaU (zcj [(enc_3 (i:Int)),(enc_3 (j:Int)),(enc_3 (c:Int))])⟩:Sl Int)=three i j c:=rfl
    unfold zg6 zia zg5 zh9 zo6 zqs zo5 zqr
    rw [hth,a1,a2,a3,a4,wc,decide_eq_true (show (c:Int) < (g.len:Int) by omega)]
    cases s21 (s47 g (three i j c))
    · exact ⟨by simp only [decide_true,Bool.true_and,cond_true,Bool.not_false],by simp only [decide_true,Bool.true_and,cond_true,Bool.not_false],rfl,rfl,by show 3≤3;omega⟩
    · exact ⟨by simp only [decide_true,Bool.true_and,cond_true,cond_false,Bool.not_true];exact i1,by simp only [decide_true,Bool.true_and,cond_true,cond_false,Bool.not_true];exact i2,i3⟩
theorem zOL (i : Nat) (hi : i < g.len) (S6 : Int → Sl Int × Int) (P6 : Int → Bool) (T4 : Int → Sl Int) (Q4 : Int → Bool)
    (hP:P6 ((i+1:Nat):Int)=true) (hQ:Q4 ((i+1:Nat):Int)=true) (hR:Rel (S6 ((i+1:Nat):Int)) (T4 ((i+1:Nat):Int))) :
    ∀ (m k j:Nat),j+m=g.len→m < k→zhc P6 g k (i:Int) (j:Int) (i:Int)=true∧zih Q4 g k (i:Int) (j:Int)=true∧Rel (zhb S6 g k (i:Int) (j:Int) (i:Int)) (zif T4 g k (i:Int) (j:Int)):=by
  have hl:=G.2
  have wi:=zbs (n:=g.len) hi (by omega)
  intro m
  induction m with
  | zero =>
    intro k j hj hk
    obtain ⟨k,rfl⟩:∃ k',k=k'+1:=⟨k - 1,by omega⟩
    show zha P6 g (zhc P6 g k) _ _ _=true∧zie Q4 g (zih Q4 g k) _ _=true∧Rel (zg9 S6 g (zhb S6 g k) _ _ _) (zid T4 g (zif T4 g k) _ _)
    unfold zha zie zg9 zid
    rw [decide_eq_false (show ¬ (j:Int) < (g.len:Int) by omega),cond_false,cond_false,cond_false,cond_false,wi]
    exact ⟨hP,hQ,hR⟩
  | succ m ih =>
    intro k j hj hk
    obtain ⟨k,rfl⟩:∃ k',k=k'+1:=⟨k - 1,by omega⟩
    obtain ⟨i1,i2,i3⟩:=ih k (j+1) (by omega) (by omega)
    have wj:=zbs (i:=j) (n:=g.len) (by omega) (by omega)
    show zha P6 g (zhc P6 g k) _ _ _=true∧zie Q4 g (zih Q4 g k) _ _=true∧Rel (zg9 S6 g (zhb S6 g k) _ _ _) (zid T4 g (zif T4 g k) _ _)
    generalize zhc P6 g k=A1 at i1
    generalize zih Q4 g k=A2 at i2
    generalize zhb S6 g k=A3 at i3
    generalize zif T4 g k=A4 at i3
    unfold zha zie zg9 zid zo8 zqv zo7 zqu
    rw [wj,decide_eq_true (show (j:Int) < (g.len:Int) by omega),cond_true,cond_true,cond_true,cond_true]
    exact zOK g G i j hi (by omega) S6 A3 P6 A1 T4 A4 Q4 A2 i1 i2 i3 (g.len - (j+1)) Fuel (j+1) (by omega) (by simp only [Fuel];omega)
theorem zOM:∀ (m k i:Nat),i+m=g.len→m < k→zhg g k (i:Int)=true∧zil g k (i:Int)=true∧Rel (zhf g k (i:Int)) (zik g k (i:Int)):=by
 have hl:=G.2
 intro m
 induction m with
 | zero =>
  intro k i hi hk
  obtain ⟨k,rfl⟩:∃ k',k=k'+1:=⟨k - 1,by omega⟩
  show zhe g (zhg g k) _=true∧zij g (zil g k) _=true∧Rel (zhd g (zhf g k) _) (zii g (zik g k) _)
  unfold zhe zij zhd zii
  rw [decide_eq_false (show ¬ (i:Int) < (g.len:Int) by omega),cond_false,cond_false,cond_false,cond_false]
  exact ⟨rfl,rfl,rfl,rfl,by show 0≤3;omega⟩
 | succ m ih =>
  intro k i hi hk
  obtain ⟨k,rfl⟩:∃ k',k=k'+1:=⟨k - 1,by omega⟩
  obtain ⟨i1,i2,i3⟩:=ih k (i+1) (by omega) (by omega)
  have wi:=zbs (i:=i) (n:=g.len) (by omega) (by omega)
  show zhe g (zhg g k) _=true∧zij g (zil g k) _=true∧Rel (zhd g (zhf g k) _) (zii g (zik g k) _)
  generalize zhg g k=A1 at i1
  generalize zil g k=A2 at i2
  generalize zhf g k=A3 at i3
  generalize zik g k=A4 at i3
  unfold zhe zij zhd zii zpa zqx zo9 zqw
  rw [wi,decide_eq_true (show (i:Int) < (g.len:Int) by omega),cond_true,cond_true,cond_true,cond_true]
  exact zOL g G i (by omega) A3 A1 A4 A2 i1 i2 i3 (g.len - (i+1)) Fuel (i+1) (by omega) (by simp only [Fuel];omega)
theorem zON (i : Nat) (hi : i < g.len) (S2 : Int → Sl Int × Int) (P2 : Int → Bool) (T0 : Int → Sl Int) (Q0 : Int → Bool)
    (hP:P2 ((i+1:Nat):Int)=true) (hQ:Q0 ((i+1:Nat):Int)=true) (hR:Rel (S2 ((i+1:Nat):Int)) (T0 ((i+1:Nat):Int))) :
    ∀ (m k j:Nat),j+m=g.len→m < k→zhk P2 g k (i:Int) (j:Int) (i:Int)=true∧ziq Q0 g k (i:Int) (j:Int)=true∧Rel (zhj S2 g k (i:Int) (j:Int) (i:Int)) (zio T0 g k (i:Int) (j:Int)):=by
  have hl:=G.2
  have wi:=zbs (n:=g.len) hi (by omega)
  intro m
  induction m with
  | zero =>
    intro k j hj hk
    obtain ⟨k,rfl⟩:∃ k',k=k'+1:=⟨k - 1,by omega⟩
    show zhi P2 g (zhk P2 g k) _ _ _=true∧zin Q0 g (ziq Q0 g k) _ _=true∧Rel (zhh S2 g (zhj S2 g k) _ _ _) (zim T0 g (zio T0 g k) _ _)
    unfold zhi zin zhh zim
    rw [decide_eq_false (show ¬ (j:Int) < (g.len:Int) by omega),cond_false,cond_false,cond_false,cond_false,wi]
    exact ⟨hP,hQ,hR⟩
  | succ m ih =>
    intro k j hj hk
    obtain ⟨k,rfl⟩:∃ k',k=k'+1:=⟨k - 1,by omega⟩
    obtain ⟨i1,i2,i3⟩:=ih k (j+1) (by omega) (by omega)
    obtain ⟨a1,a2,a3,a4⟩:=zyI g G (two i j) (zJO hi (by omega)) (by show 1≤2;omega) (by show 2≤24;omega)
    have wj:=zbs (i:=j) (n:=g.len) (by omega) (by omega)
    show zhi P2 g (zhk P2 g k) _ _ _=true∧zin Q0 g (ziq Q0 g k) _ _=true∧Rel (zhh S2 g (zhj S2 g k) _ _ _) (zim T0 g (zio T0 g k) _ _)
    generalize zhk P2 g k=A1 at i1
    generalize ziq Q0 g k=A2 at i2
    generalize zhj S2 g k=A3 at i3
    generalize zio T0 g k=A4 at i3
    have hth:(⟨2,zaU (zcj [(enc_3 (i:Int)),(enc_3 (j:Int))])⟩:Sl Int)=two i j:=rfl
    unfold zhi zin zhh zim zpc zqz zpb zqy
    rw [hth,a1,a2,a3,a4,wj,decide_eq_true (show (j:Int) < (g.len:Int) by omega)]
    cases s21 (s47 g (two i j))
    · exact ⟨by simp only [decide_true,Bool.true_and,cond_true,Bool.not_false],by simp only [decide_true,Bool.true_and,cond_true,Bool.not_false],rfl,rfl,by show 2≤3;omega⟩
    · exact ⟨by simp only [decide_true,Bool.true_and,cond_true,cond_false,Bool.not_true];exact i1,by simp only [decide_true,Bool.true_and,cond_true,cond_false,Bool.not_true];exact i2,i3⟩
theorem zOO:∀ (m k i:Nat),i+m=g.len→m < k→zho g k (i:Int)=true∧ziu g k (i:Int)=true∧Rel (zhn g k (i:Int)) (zit g k (i:Int)):=by
 have hl:=G.2
 intro m
 induction m with
 | zero =>
  intro k i hi hk
  obtain ⟨k,rfl⟩:∃ k',k=k'+1:=⟨k - 1,by omega⟩
  show zhm g (zho g k) _=true∧zis g (ziu g k) _=true∧Rel (zhl g (zhn g k) _) (zir g (zit g k) _)
  unfold zhm zis zhl zir
  rw [decide_eq_false (show ¬ (i:Int) < (g.len:Int) by omega),cond_false,cond_false,cond_false,cond_false]
  exact zOM g G g.len Fuel 0 (by omega) (by simp only [Fuel];omega)
 | succ m ih =>
  intro k i hi hk
  obtain ⟨k,rfl⟩:∃ k',k=k'+1:=⟨k - 1,by omega⟩
  obtain ⟨i1,i2,i3⟩:=ih k (i+1) (by omega) (by omega)
  have wi:=zbs (i:=i) (n:=g.len) (by omega) (by omega)
  show zhm g (zho g k) _=true∧zis g (ziu g k) _=true∧Rel (zhl g (zhn g k) _) (zir g (zit g k) _)
  generalize zho g k=A1 at i1
  generalize ziu g k=A2 at i2
  generalize zhn g k=A3 at i3
  generalize zit g k=A4 at i3
  unfold zhm zis zhl zir zpe zqB zpd zqA
  rw [wi,decide_eq_true (show (i:Int) < (g.len:Int) by omega),cond_true,cond_true,cond_true,cond_true]
  exact zON g G i (by omega) A3 A1 A4 A2 i1 i2 i3 (g.len - (i+1)) Fuel (i+1) (by omega) (by simp only [Fuel];omega)
end loops
theorem zyJ (g:Sl Gate) (G:zaR g):zpf g=true∧p43 g=true∧Rel (zma g) (s43 g):=zOO g G g.len Fuel 0 (by omega) (by have:=G.2;simp only [Fuel];omega)
def zAu (g:Sl Gate) (h:Sl Int) (i:Nat):Bool:=decide ((0≤h.get i∧h.get i≤(g.len:Int) - 1)∧(0 < i→h.get (i - 1) < h.get i))
theorem zGi {i:Nat} (h:0 < i) (hn:i≤9223372036854775807):w64 ((i:Int) - (1:Int))=((i - 1:Nat):Int):=by
 rw [zaY (by omega) (by omega)];omega
theorem zgF {α : Type} (g : Sl Gate) (h : Sl Int) (i : Nat) (hi : i ≤ 100) (hg : g.len ≤ 24) (a b : α) :
  (cond (!(s70 (h.get i) (0:Int) (w64 ((g.len:Int) - (1:Int))))) b (cond (decide ((i:Int) > (0:Int))) (cond (decide ((h.get i)≤(h.get ((w64 ((i:Int) - (1:Int))).toNat)))) b a) a))=cond (zAu g h i) a b:=by
 rw [zkB,zaY (x:=(g.len:Int) - 1) (by omega) (by omega)]
 by_cases h1:0≤h.get i∧h.get i≤(g.len:Int) - 1
 ·rw [decide_eq_true h1]
  by_cases h2:0 < i
  ·rw [decide_eq_true (show (i : Int) > 0 by omega), zGi h2 (by omega), Int.toNat_natCast]
   by_cases h3:h.get i≤h.get (i - 1)
   ·rw [decide_eq_true h3,show zAu g h i=false from decide_eq_false fun k=>absurd (k.2 h2) (by omega)];rfl
   ·rw [decide_eq_false h3,show zAu g h i=true from decide_eq_true ⟨h1,fun _=>by omega⟩];rfl
  ·rw [decide_eq_false (show ¬ (i:Int) > 0 by omega),show zAu g h i=true from decide_eq_true ⟨h1,fun k=>absurd k h2⟩];rfl
 ·rw [decide_eq_false h1,show zAu g h i=false from decide_eq_false fun k=>h1 k.1];rfl
theorem zGj {g:Sl Gate} {h:Sl Int} (k:∀ i,i < h.len→zAu g h i=true):inR g h:=fun i hi=>by
 have:=(of_decide_eq_true (k i hi)).1;omega
theorem zyK (g:Sl Gate) (G:zaR g) (h:Sl Int) (hh:h.len≤10):p42 g h=true∧(2≤h.len∧h.len≤3→zmy g h=true∧zmx g h=s42 g h)∧(¬ (2≤h.len∧h.len≤3)→s42 g h=false):=by
  have hl:=G.2
  have A := zmD (good := zAu g h) (bad := false) (fin := !(s84 g h)) (finP := (decide (p84 g h = true) && true)) (n := h.len) (lpS := fun k i => zfV g k h h (h.len : Int) i) (lpP := fun k i => zfW g k h h (h.len : Int) i)
    (fun k i hi=>by
      show zhB g (zfV g k) h h (h.len:Int) (i:Int)=_
      generalize zfV g k=S
      unfold zhB zkt
      rw [decide_eq_true (show (i:Int) < (h.len:Int) by omega),cond_true,Int.toNat_natCast,← zgF g h i (by omega) hl.2,show s74 (h.get i) 0 (w64 ((g.len:Int) - 1))=s70 (h.get i) 0 (w64 ((g.len:Int) - 1)) from rfl]
      cases s70 (h.get i) 0 (w64 ((g.len:Int) - 1)) <;> cases decide ((i:Int) > 0) <;> rfl)
    (fun k=>by
      show zhB g (zfV g k) h h (h.len:Int) (h.len:Int)=_
      unfold zhB
      rw [decide_eq_false (show ¬ (h.len:Int) < (h.len:Int) by omega),cond_false])
    (fun k i hi=>by
      show zhC g (zfW g k) h h (h.len:Int) (i:Int)=_
      generalize zfW g k=S
      unfold zhC zku
      rw [decide_eq_true (show (i:Int) < (h.len:Int) by omega),cond_true,Int.toNat_natCast,← zgF g h i (by omega) hl.2,show s74 (h.get i) 0 (w64 ((g.len:Int) - 1))=s70 (h.get i) 0 (w64 ((g.len:Int) - 1)) from rfl,decide_eq_true (show 0≤(i:Int)∧(i:Int) < (h.len:Int) by omega),Bool.true_and]
      by_cases h0:0 < i
      · rw [zGi h0 (by omega), Int.toNat_natCast, decide_eq_true (show 0 ≤ ((i - 1 : Nat) : Int) ∧ ((i - 1 : Nat) : Int) < (h.len : Int) by omega), Bool.true_and]
        cases s70 (h.get i) 0 (w64 ((g.len:Int) - 1)) <;> cases decide ((i:Int) > 0) <;> rfl
      · rw [decide_eq_false (show ¬ (i : Int) > 0 by omega)]
        cases s70 (h.get i) 0 (w64 ((g.len:Int) - 1)) <;> rfl)
    (fun k=>by
      show zhC g (zfW g k) h h (h.len:Int) (h.len:Int)=_
      unfold zhC
      rw [decide_eq_false (show ¬ (h.len:Int) < (h.len:Int) by omega),cond_false])
    (by omega)
  have B := zmD (good := zAu g h) (bad := false) (fin := cond (s70 (h.len : Int) 2 3) (!(s21 (s47 g h))) false) (finP := cond (s70 (h.len : Int) 2 3) (decide (p47 g h = true) && (decide (p21 (s47 g h) = true) && true)) true) (n := h.len) (lpS := fun k i => zf3 g k h i) (lpP := fun k i => zf4 g k h i)
    (fun k i hi=>by
      show zh7 g (zf3 g k) h (i:Int)=_
      generalize zf3 g k=S
      unfold zh7 zkz
      rw [decide_eq_true (show (i:Int) < (h.len:Int) by omega),cond_true,Int.toNat_natCast,← zgF g h i (by omega) hl.2]
      cases s70 (h.get i) 0 (w64 ((g.len:Int) - 1)) <;> cases decide ((i:Int) > 0) <;> rfl)
    (fun k=>by
      show zh7 g (zf3 g k) h (h.len:Int)=_
      unfold zh7
      rw [decide_eq_false (show ¬ (h.len:Int) < (h.len:Int) by omega),cond_false])
    (fun k i hi=>by
      show zh8 g (zf4 g k) h (i:Int)=_
      generalize zf4 g k=S
      unfold zh8 zkA
      rw [decide_eq_true (show (i:Int) < (h.len:Int) by omega),cond_true,Int.toNat_natCast,← zgF g h i (by omega) hl.2,decide_eq_true (show 0≤(i:Int)∧(i:Int) < (h.len:Int) by omega),Bool.true_and,Bool.true_and]
      by_cases h0:0 < i
      · rw [zGi h0 (by omega), Int.toNat_natCast, decide_eq_true (show 0 ≤ ((i - 1 : Nat) : Int) ∧ ((i - 1 : Nat) : Int) < (h.len : Int) by omega), Bool.true_and]
        cases s70 (h.get i) 0 (w64 ((g.len:Int) - 1)) <;> cases decide ((i:Int) > 0) <;> rfl
      · rw [decide_eq_false (show ¬ (i : Int) > 0 by omega)]
        cases s70 (h.get i) 0 (w64 ((g.len:Int) - 1)) <;> rfl)
    (fun k=>by
      show zh8 g (zf4 g k) h (h.len:Int)=_
      unfold zh8
      rw [decide_eq_false (show ¬ (h.len:Int) < (h.len:Int) by omega),cond_false])
    (by omega)
  have eS:zmx g h=zfV g Fuel h h (h.len:Int) 0:=rfl
  have eP:zmy g h=zfW g Fuel h h (h.len:Int) 0:=rfl
  have fS:s42 g h=zf3 g Fuel h 0:=rfl
  have fP:p42 g h=zf4 g Fuel h 0:=rfl
  rw [eS,eP,fS,fP]
  by_cases good:∀ i,i < h.len→zAu g h i=true
  · obtain ⟨a1, a2⟩ := A.1 good
    obtain ⟨b1,b2⟩:=B.1 good
    by_cases h23:2≤h.len∧h.len≤3
    · obtain ⟨c1, c2, c3, c4⟩ := zyI g G h (zGj good) (by omega) (by omega)
      rw [zkB,decide_eq_true (show (2:Int)≤(h.len:Int)∧(h.len:Int)≤3 by omega),cond_true] at b1 b2
      rw [c2,c3] at b1
      rw [c1] at a1
      exact ⟨by simpa using b1,fun _=>⟨by simpa using a1,a2.trans ((by rw [c4]:(!(s84 g h)) = !(s21 (s47 g h))).trans b2.symm)⟩,fun hn=>absurd h23 hn⟩
    · rw [zkB, decide_eq_false (show ¬ ((2:Int) ≤ (h.len : Int) ∧ (h.len : Int) ≤ 3) by omega), cond_false] at b1 b2
      exact ⟨b1,fun k=>absurd k h23,fun _=>b2⟩
  · obtain ⟨a1, a2⟩ := A.2 good
    obtain ⟨b1,b2⟩:=B.2 good
    exact ⟨b1,fun _=>⟨a1,a2.trans b2.symm⟩,fun _=>b2⟩
theorem empty_true (a0:Sl Gate) (a1:Sl Int):p8 a0 a1=true∧s8 a0 a1=true:=by
  have core:a0.len≤40→a1.len≤10→zn2 a0 a1=true∧zn1 a0 a1=true:=by
    intro h0 h1
    obtain ⟨g1,g2⟩:=zJv a0 (by omega)
    obtain ⟨r1,r2⟩:=zJw a0 (by omega)
    unfold zn2 zn1 zyw zyv zyu zyt
    by_cases G:zaR a0
    · obtain ⟨e1, e2, E1, E2, E3⟩ := zyJ a0 G
      have k64:s64 a0=true:=g2.2 G
      have k20:s20 a0=true:=r2.2 G
      have p38:p38 a0=true:=by unfold p38 zmc;rw [g1,k64,e1];rfl
      have s38:s38 a0=zma a0:=by unfold s38 zmb;rw [k64];rfl
      have P:=zyK a0 G a1 h1
      have P:p42 a0 a1=true∧p41 a0 a1=true∧s41 a0 a1=s42 a0 a1:=by
        by_cases h23:2≤a1.len∧a1.len≤3
        · obtain ⟨q1, q2, _⟩ := P
          obtain ⟨q3,q4⟩:=q2 h23
          refine ⟨q1,?_,?_⟩
          · unfold p41 zhE;rw [g1,k64,zkC,decide_eq_true (show (2:Int)≤(a1.len:Int)∧(a1.len:Int)≤3 by omega),q3];rfl
          · unfold s41 zhD;rw [k64,zkC,decide_eq_true (show (2:Int)≤(a1.len:Int)∧(a1.len:Int)≤3 by omega)];exact q4
        · obtain ⟨q1, _, q2⟩ := P
          refine ⟨q1,?_,?_⟩
          · unfold p41 zhE;rw [g1,k64,zkC,decide_eq_false (show ¬ ((2:Int)≤(a1.len:Int)∧(a1.len:Int)≤3) by omega)];rfl
          · unfold s41 zhD;rw [k64,zkC,decide_eq_false (show ¬ ((2:Int)≤(a1.len:Int)∧(a1.len:Int)≤3) by omega)];exact (q2 h23).symm
      obtain ⟨P1,P2,P3⟩:=P
      rw [p38,s38,P2,P3,r1,k20]
      unfold zr7 zr6 zys zyr zyq zyp zyo zyn zym zyl zyk zyj
      rw [P1,e2,E1,E2]
      obtain ⟨f1,f2⟩:=zAl (s43 a0) (s43 a0) ⟨rfl,fun _ _=>rfl⟩ (by omega)
      rw [f1,f2]
      by_cases hz:(s43 a0).len=0
      · simp [hz]
      · have hz' : ((s43 a0).len == 0) = false := by simpa using hz
        have hz2:(((s43 a0).len:Int) == (0:Int))=false:=by simp;omega
        simp [hz,hz2]
    · have k64 : s64 a0 = false := by cases h : s64 a0; rfl; exact absurd (g2.1 h) G
      have k20:s20 a0=false:=by cases h:s20 a0;rfl;exact absurd (r2.1 h) G
      have p38:p38 a0=true:=by unfold p38 zmc;rw [g1,k64];rfl
      have s38:s38 a0=((⟨0,fun _=>default⟩:(Sl Int)),(2:Int)):=by unfold s38 zmb;rw [k64];rfl
      have p41:p41 a0 a1=true:=by unfold p41 zhE;rw [g1,k64];rfl
      have s41:s41 a0 a1=false:=by unfold s41 zhD;rw [k64];rfl
      rw [p38,s38,p41,s41,r1,k20]
      unfold zr7 zr6
      simp
  unfold p8 s8
  by_cases h14 : (a0.len : Int) > 14 <;> by_cases h24 : (a0.len : Int) ≤ 24 <;> by_cases h40 : (a0.len : Int) > 40 <;> by_cases h10 : (a1.len : Int) > 10 <;>
    simp only [h14,h24,h40,h10,decide_true,decide_false,cond_true,cond_false,and_self] <;> exact core (by omega) (by omega)
end Go.Proofs
