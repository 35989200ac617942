/- Part 6 of what the proof rests on: a machine that runs functions of the program on pure values, proved sound; the functions that the law reaches, and what they compute. -/
import Derived.Test.YtkpjhhoafenogaaQ5
set_option linter.all false
namespace Go.Proofs
open Go Go.Pm
set_option maxRecDepth 100000
theorem zkI {x y X Y:Int} (h1 : -X≤x) (h2:x≤X) (h3:0≤y) (h4:y≤Y) : -(X * Y)≤x * y∧x * y≤X * Y:=by
 have hX:0≤X:=by omega
 have a:=Int.mul_le_mul_of_nonneg_right h2 h3
 have b:=Int.mul_le_mul_of_nonneg_left h4 hX
 have c:=Int.mul_le_mul_of_nonneg_right h1 h3
 rw [Int.neg_mul] at c
 omega
def thr (z p y q:Int):straight:=if z > y then ⟨p - q,q * z - p * y,z - y⟩ else ⟨q - p,p * y - q * z,y - z⟩
def toL (s:straight):Line:=⟨red s.slope s.den,red s.start s.den⟩
theorem znc {z p y q:Int} (hz:0≤z∧z≤100000) (hy:0≤y∧y≤100000) (hp : -1000000≤p∧p≤1000000) (hq : -1000000≤q∧q≤1000000):zkG z p y q=thr z p y q:=by
 have b1:=zkI hp.1 hp.2 hy.1 hy.2
 have b2:=zkI hq.1 hq.2 hz.1 hz.2
 unfold zkG ziW thr
 rw [zaP (x:=p * y) (by omega) (by omega),zaP (x:=q * z) (by omega) (by omega)]
 by_cases h:z > y
 ·rw [decide_eq_true h,cond_true,if_pos h,zaP (by omega) (by omega),zaP (by omega) (by omega),zaP (by omega) (by omega)]
 ·rw [decide_eq_false h,cond_false,if_neg h,zaP (by omega) (by omega),zaP (by omega) (by omega),zaP (by omega) (by omega)]
theorem zKI {z p y q:Int} (hz:0≤z∧z≤100000) (hy:0≤y∧y≤100000) (hp : -1000000≤p∧p≤1000000) (hq : -1000000≤q∧q≤1000000) (hn:z ≠ y):p26 z p y q=true∧s26 z p y q=toL (thr z p y q):=by
 have b1:=zkI hp.1 hp.2 hy.1 hy.2
 have b2:=zkI hq.1 hq.2 hz.1 hz.2
 unfold p26 s26 zmD zmC thr toL
 rw [zaP (x:=p * y) (by omega) (by omega),zaP (x:=q * z) (by omega) (by omega)]
 by_cases h:z > y
 ·rw [decide_eq_true (show y < z from h), cond_true, cond_true, if_pos h, zaP (x := p - q) (by omega) (by omega), zaP (x := z - y) (by omega) (by omega), zaP (x := q * z - p * y) (by omega) (by omega)]
  obtain ⟨c1,c2⟩:=zfz (num:=p - q) (den:=z - y) (by omega) (by omega) (by omega) (by omega)
  obtain ⟨d1,d2⟩:=zfz (num:=q * z - p * y) (den:=z - y) (by omega) (by omega) (by omega) (by omega)
  rw [c1,c2,d1,d2]
  exact ⟨by simp only [decide_true,Bool.and_self],rfl⟩
 ·rw [decide_eq_false (show ¬ y < z from h), cond_false, cond_false, if_neg h, zaP (x := q - p) (by omega) (by omega), zaP (x := y - z) (by omega) (by omega), zaP (x := p * y - q * z) (by omega) (by omega)]
  obtain ⟨c1,c2⟩:=zfz (num:=q - p) (den:=y - z) (by omega) (by omega) (by omega) (by omega)
  obtain ⟨d1,d2⟩:=zfz (num:=p * y - q * z) (den:=y - z) (by omega) (by omega) (by omega) (by omega)
  rw [c1,c2,d1,d2]
  exact ⟨by simp only [decide_true,Bool.and_self],rfl⟩
def zsP (a b:Gate):List straight:=if a.Z=b.Z then [] else [thr a.Z a.Low b.Z b.Low,thr a.Z a.Low b.Z b.High,thr a.Z a.High b.Z b.Low,thr a.Z a.High b.Z b.High]
def ztL (g : Sl Gate) (i : Nat) : Nat → Nat → List straight
  | 0,_=>[]
  | m+1,k=>zsP (g.get i) (g.get k) ++ ztL g i m (k+1)
def zCT (g : Sl Gate) : Nat → Nat → List straight
  | 0,_=>[]
  | m+1,i=>ztL g i (g.len - (i+1)) (i+1) ++ zCT g m (i+1)
def cst (g:Sl Gate):List straight:=zCT g g.len 0
theorem zeP {g:Gate} (h:zeW g) : -1000000≤g.Low∧g.Low≤1000000:=⟨h.2.1,by have:=h.2;omega⟩
theorem zfA {g:Gate} (h:zeW g) : -1000000≤g.High∧g.High≤1000000:=⟨by have:=h.2;omega,h.2.2.2⟩
theorem zNa (g : Sl Gate) (G : zaC g) (i : Nat) (hi : i < g.len) (sl : Sl Gate) (hs : sl.len = g.len - (i + 1)) (hg : ∀ x, sl.get x = g.get (x + (i + 1)))
    (S0:Int→List straight) (P0:Int→Bool):∀ (m k j:Nat),j+m=sl.len→m < k →
    zdl P0 ⟨g⟩ k (i:Int) sl (sl.len:Int) (j:Int) (g.get i).Z (g.get i).Low (g.get i).High=P0 ((i+1:Nat):Int) ∧
    zdk S0 ⟨g⟩ k (i:Int) sl (sl.len:Int) (j:Int) (g.get i).Z (g.get i).Low (g.get i).High=ztL g i m (j+(i+1)) ++ S0 ((i+1:Nat):Int):=by
  have hl:=G.2.2
  intro m
  induction m with
  | zero =>
    intro k j hj hk
    obtain ⟨k,rfl⟩:∃ k',k=k'+1:=⟨k - 1,by omega⟩
    show zeB P0 ⟨g⟩ (zdl P0 ⟨g⟩ k) _ _ _ _ _ _ _=_∧zeA S0 ⟨g⟩ (zdk S0 ⟨g⟩ k) _ _ _ _ _ _ _=_
    unfold zeB zeA
    rw [decide_eq_false (show ¬ (j:Int) < (sl.len:Int) by omega),cond_false,cond_false,zbz (n:=g.len) hi (by omega)]
    exact ⟨rfl,rfl⟩
  | succ m ih =>
    intro k j hj hk
    obtain ⟨k,rfl⟩:∃ k',k=k'+1:=⟨k - 1,by omega⟩
    obtain ⟨i1,i2⟩:=ih k (j+1) (by omega) (by omega)
    show zeB P0 ⟨g⟩ (zdl P0 ⟨g⟩ k) _ _ _ _ _ _ _=_∧zeA S0 ⟨g⟩ (zdk S0 ⟨g⟩ k) _ _ _ _ _ _ _=ztL g i (m+1) (j+(i+1)) ++ _
    generalize zdl P0 ⟨g⟩ k=P at i1
    generalize zdk S0 ⟨g⟩ k=S at i2
    unfold zeB zeA
    have gi:=G.1 i hi
    have gk:=G.1 (j+(i+1)) (by omega)
    rw [decide_eq_true (show (j:Int) < (sl.len:Int) by omega),decide_eq_true (show 0≤(j:Int)∧(j:Int) < (sl.len:Int) by omega),cond_true,cond_true,Bool.true_and,Int.toNat_natCast,hg,
      zbz (n:=sl.len) (by omega) (by omega),i1,i2,znc gi.1 gk.1 (zeP gi) (zeP gk),znc gi.1 gk.1 (zeP gi) (zfA gk),znc gi.1 gk.1 (zfA gi) (zeP gk),znc gi.1 gk.1 (zfA gi) (zfA gk)]
    show _∧_=(zsP (g.get i) (g.get (j+(i+1))) ++ ztL g i m (j+(i+1)+1)) ++ _
    rw [show j+1+(i+1)=j+(i+1)+1 by omega]
    unfold zsP
    by_cases hz:(g.get i).Z=(g.get (j+(i+1))).Z
    · rw [if_pos hz, show ((g.get i).Z == (g.get (j + (i + 1))).Z) = true by simpa using hz]
      exact ⟨rfl,rfl⟩
    · rw [if_neg hz, show ((g.get i).Z == (g.get (j + (i + 1))).Z) = false by simpa using hz]
      exact ⟨rfl,rfl⟩
theorem zHp (g:Sl Gate) (G:zaC g):zDT ⟨g⟩=true∧zCa ⟨g⟩=cst g:=by
 have hl:=G.2.2
 have key:∀ (m k i:Nat),i+m=g.len→m < k→zdn ⟨g⟩ k (i:Int)=true∧zdm ⟨g⟩ k (i:Int)=zCT g m i:=by
  intro m
  induction m with
  | zero =>
   intro k i hi hk
   obtain ⟨k,rfl⟩:∃ k',k=k'+1:=⟨k - 1,by omega⟩
   show zeD ⟨g⟩ (zdn ⟨g⟩ k) _=_∧zeC ⟨g⟩ (zdm ⟨g⟩ k) _=_
   unfold zeD zeC
   rw [decide_eq_false (show ¬ (i:Int) < (g.len:Int) by omega),cond_false,cond_false]
   exact ⟨rfl,rfl⟩
  | succ m ih =>
   intro k i hi hk
   obtain ⟨k,rfl⟩:∃ k',k=k'+1:=⟨k - 1,by omega⟩
   obtain ⟨i1,i2⟩:=ih k (i+1) (by omega) (by omega)
   show zeD ⟨g⟩ (zdn ⟨g⟩ k) _=_∧zeC ⟨g⟩ (zdm ⟨g⟩ k) _=ztL g i (g.len - (i+1)) (i+1) ++ zCT g m (i+1)
   generalize zdn ⟨g⟩ k=P at i1
   generalize zdm ⟨g⟩ k=S at i2
   unfold zeD zeC zl2 zl1
   rw [zbz (n:=g.len) (by omega) (by omega)]
   rw [decide_eq_true (show (i:Int) < (g.len:Int) by omega),decide_eq_true (show 0≤(i:Int)∧(i:Int) < (g.len:Int) by omega),decide_eq_true (show 0≤((i+1:Nat):Int)∧((i+1:Nat):Int)≤(g.len:Int)∧(g.len:Int)≤(g.len:Int) by omega),
    cond_true,cond_true,Bool.true_and,Bool.true_and,Int.toNat_natCast,Int.toNat_natCast]
   have hs:((g.len:Int) - ((i+1:Nat):Int)).toNat=g.len - (i+1):=by omega
   have:=zNa g G i (by omega) (⟨((g.len:Int) - ((i+1:Nat):Int)).toNat,fun x=>g.get (x+(i+1))⟩:Sl Gate) hs (fun _=>rfl) S P (g.len - (i+1)) Fuel 0 (by show 0+(g.len - (i+1))=((g.len:Int) - ((i+1:Nat):Int)).toNat;omega) (by simp only [Fuel];omega)
   rw [i1,i2,Nat.zero_add] at this
   exact this
 exact key g.len Fuel 0 (by omega) (by simp only [Fuel];omega)
end Go.Proofs
namespace Go.Proofs
open Go Go.Pm
set_option maxRecDepth 100000
def apL {α:Type} (v:Sl α) (x:α):Sl α:=⟨v.len+1,zdX v.len v.get (fun _=>x)⟩
theorem znd (g:Gate):zsJ g 0=g.Low:=rfl
theorem zne (g:Gate):zsJ g 1=g.High:=rfl
theorem zNb (g : Sl Gate) (G : zaC g) (i k : Nat) (hi : i < g.len) (hk : k < g.len) (S0 : Int → Sl Line → Sl Line) (S1 : Int → Int → Sl Line → Sl Line) (P0 : Int → Sl Line → Bool) (P1 : Int → Int → Sl Line → Bool) (v : Sl Line) (hv : v.len ≤ 100000) (F : Nat) (hF : 5 ≤ F) :
  zda P0 P1 g F (i:Int) (k:Int) 0 v=P1 (i:Int) ((k+1:Nat):Int) (((zsP (g.get i) (g.get k)).map toL).foldl apL v) ∧
  zc9 S0 S1 g F (i:Int) (k:Int) 0 v=S1 (i:Int) ((k+1:Nat):Int) (((zsP (g.get i) (g.get k)).map toL).foldl apL v):=by
 have hl:=G.2.2
 obtain ⟨f,rfl⟩:∃ f,F=f+5:=⟨F - 5,by omega⟩
 have gi:=G.1 i hi
 have gk:=G.1 k hk
 have ei:decide (0≤(i:Int)∧(i:Int) < (g.len:Int))=true:=decide_eq_true (by omega)
 have ek:decide (0≤(k:Int)∧(k:Int) < (g.len:Int))=true:=decide_eq_true (by omega)
 have e2:decide ((2:Int) ≠ 0)=true:=by decide
 have sk:w64 ((k:Int)+(1:Int))=((k+1:Nat):Int):=zbz (n:=g.len) hk (by omega)
 -- one round
 have step:∀ (m:Nat) (e:Int) (v:Sl Line) (p q:Int),(0≤e∧e < 4)→v.len≤200000→zsJ (g.get i) (w64 (e.tdiv (2:Int)))=p→zsJ (g.get k) (e.tmod (2:Int))=q →
   (-1000000≤p∧p≤1000000)→(-1000000≤q∧q≤1000000)→(g.get i).Z ≠ (g.get k).Z →
   zda P0 P1 g (m+1) (i:Int) (k:Int) e v=zda P0 P1 g m (i:Int) (k:Int) (e+1) (apL v (toL (thr (g.get i).Z p (g.get k).Z q))) ∧
   zc9 S0 S1 g (m+1) (i:Int) (k:Int) e v=zc9 S0 S1 g m (i:Int) (k:Int) (e+1) (apL v (toL (thr (g.get i).Z p (g.get k).Z q))):=by
  intro m e v p q he hv hp hq bp bq hz
  show zfw P0 P1 g (zda P0 P1 g m) _ _ _ _=_∧zfv S0 S1 g (zc9 S0 S1 g m) _ _ _ _=_
  generalize zda P0 P1 g m=P
  generalize zc9 S0 S1 g m=S
  obtain ⟨t1,t2⟩:=zKI gi.1 gk.1 bp bq hz
  unfold zfw zfv
  rw [Int.toNat_natCast,Int.toNat_natCast,hp,hq,t1,t2,decide_eq_true (show e < 4 from he.2),ei,ek,e2,zaP (x:=e+1) (by omega) (by omega),
   show ((g.get i).Z != (g.get k).Z)=true by simpa using hz,decide_eq_true (show (v.len+1) * 32≤140737488355328∧v.len+1≤9223372036854775807 by omega)]
  exact ⟨rfl,rfl⟩
 unfold zsP
 by_cases hz:(g.get i).Z=(g.get k).Z
 ·rw [if_pos hz]
  show zfw P0 P1 g (zda P0 P1 g (f+4)) _ _ _ _=_∧zfv S0 S1 g (zc9 S0 S1 g (f+4)) _ _ _ _=_
  generalize zda P0 P1 g (f+4)=P
  generalize zc9 S0 S1 g (f+4)=S
  unfold zfw zfv
  rw [Int.toNat_natCast,Int.toNat_natCast,ei,ek,sk,decide_eq_true (show (0:Int) < 4 by omega),show ((g.get i).Z != (g.get k).Z)=false by simpa using hz]
  exact ⟨rfl,rfl⟩
 ·rw [if_neg hz]
  have a0:=step (f+4) 0 v _ _ (by omega) (by omega) (znd _) (znd _) (zeP gi) (zeP gk) hz
  generalize hv1:apL v (toL (thr (g.get i).Z (g.get i).Low (g.get k).Z (g.get k).Low))=v1 at a0
  have l1:v1.len=v.len+1:=by rw [← hv1];rfl
  have a1:=step (f+3) 1 v1 _ _ (by omega) (by omega) (znd _) (zne _) (zeP gi) (zfA gk) hz
  generalize hv2:apL v1 (toL (thr (g.get i).Z (g.get i).Low (g.get k).Z (g.get k).High))=v2 at a1
  have l2:v2.len=v1.len+1:=by rw [← hv2];rfl
  have a2:=step (f+2) 2 v2 _ _ (by omega) (by omega) (zne _) (znd _) (zfA gi) (zeP gk) hz
  generalize hv3:apL v2 (toL (thr (g.get i).Z (g.get i).High (g.get k).Z (g.get k).Low))=v3 at a2
  have l3:v3.len=v2.len+1:=by rw [← hv3];rfl
  have a3:=step (f+1) 3 v3 _ _ (by omega) (by omega) (zne _) (zne _) (zfA gi) (zfA gk) hz
  generalize hv4:apL v3 (toL (thr (g.get i).Z (g.get i).High (g.get k).Z (g.get k).High))=v4 at a3
  have b4:zda P0 P1 g (f+1) (i:Int) (k:Int) 4 v4=P1 (i:Int) ((k+1:Nat):Int) v4∧zc9 S0 S1 g (f+1) (i:Int) (k:Int) 4 v4=S1 (i:Int) ((k+1:Nat):Int) v4:=by
   show zfw P0 P1 g (zda P0 P1 g f) _ _ _ _=_∧zfv S0 S1 g (zc9 S0 S1 g f) _ _ _ _=_
   generalize zda P0 P1 g f=P
   generalize zc9 S0 S1 g f=S
   unfold zfw zfv
   rw [sk,decide_eq_false (show ¬ (4:Int) < 4 by omega)]
   exact ⟨rfl,rfl⟩
  have fin:(([thr (g.get i).Z (g.get i).Low (g.get k).Z (g.get k).Low,thr (g.get i).Z (g.get i).Low (g.get k).Z (g.get k).High,thr (g.get i).Z (g.get i).High (g.get k).Z (g.get k).Low,thr (g.get i).Z (g.get i).High (g.get k).Z (g.get k).High]:List straight).map toL).foldl apL v=v4:=by
   simp only [List.map_cons,List.map_nil,List.foldl_cons,List.foldl_nil,hv1,hv2,hv3,hv4]
  rw [fin]
  exact ⟨(a0.1.trans (a1.1.trans (a2.1.trans a3.1))).trans b4.1,(a0.2.trans (a1.2.trans (a2.2.trans a3.2))).trans b4.2⟩
theorem zcc {α:Type} (l:List α):∀ v:Sl α,(l.foldl apL v).len=v.len+l.length:=by
 induction l with
 | nil=>intro v;rfl
 | cons x l ih=>intro v;rw [List.foldl_cons,ih];show v.len+1+l.length=v.len+(l.length+1);omega
theorem zsQ (a b:Gate):(zsP a b).length≤4:=by unfold zsP;split <;> simp
theorem zsR (g:Sl Gate) (i m k:Nat):(ztL g i m k).length≤4 * m:=by
 induction m generalizing k with
 | zero=>exact Nat.le_refl _
 | succ m ih=>show (zsP _ _ ++ ztL g i m (k+1)).length≤_;rw [List.length_append];have:=ih (k+1);have:=zsQ (g.get i) (g.get k);omega
theorem zPK (g:Sl Gate) (G:zaC g) (i:Nat) (hi:i < g.len) (S0:Int→Sl Line→Sl Line) (P0:Int→Sl Line→Bool):∀ (m F k:Nat) (v:Sl Line),k+m=g.len→m < F→v.len+4 * m≤100000 →
  zgC P0 g F (i:Int) (k:Int) v=P0 ((i+1:Nat):Int) (((ztL g i m k).map toL).foldl apL v) ∧
  zgB S0 g F (i:Int) (k:Int) v=S0 ((i+1:Nat):Int) (((ztL g i m k).map toL).foldl apL v):=by
 have hl:=G.2.2
 intro m
 induction m with
 | zero =>
  intro F k v hk hF hv
  obtain ⟨f,rfl⟩:∃ f,F=f+1:=⟨F - 1,by omega⟩
  show zhY P0 g (zgC P0 g f) _ _ _=_∧zhX S0 g (zgB S0 g f) _ _ _=_
  generalize zgC P0 g f=P
  generalize zgB S0 g f=S
  unfold zhY zhX
  rw [decide_eq_false (show ¬ (k:Int) < (g.len:Int) by omega),cond_false,cond_false,zbz (n:=g.len) hi (by omega)]
  exact ⟨rfl,rfl⟩
 | succ m ih =>
  intro F k v hk hF hv
  obtain ⟨f,rfl⟩:∃ f,F=f+1:=⟨F - 1,by omega⟩
  have ih:=fun v h=>ih f (k+1) v (by omega) (by omega) h
  show zhY P0 g (zgC P0 g f) _ _ _=_∧zhX S0 g (zgB S0 g f) _ _ _=_
  generalize zgC P0 g f=P at ih
  generalize zgB S0 g f=S at ih
  unfold zhY zhX zqK zqJ
  rw [decide_eq_true (show (k:Int) < (g.len:Int) by omega),cond_true,cond_true]
  obtain ⟨b1,b2⟩:=zNb g G i k hi (by omega) S0 S P0 P v (by omega) Fuel (by simp only [Fuel];omega)
  rw [b1,b2]
  have q4:=zsQ (g.get i) (g.get k)
  have:=ih (((zsP (g.get i) (g.get k)).map toL).foldl apL v) (by rw [zcc,List.length_map];omega)
  rw [← List.foldl_append,← List.map_append] at this
  exact this
theorem zKJ (g:Sl Gate) (G:zaC g):p80 g=true∧s80 g=((cst g).map toL).foldl apL ⟨0,fun _=>default⟩:=by
 have hl:=G.2.2
 have key:∀ (m F i:Nat) (v:Sl Line),i+m=g.len→m < F→v.len+100 * m≤50000→zh2 g F (i:Int) v=true∧zh1 g F (i:Int) v=((zCT g m i).map toL).foldl apL v:=by
  intro m
  induction m with
  | zero =>
   intro F i v hi hF hv
   obtain ⟨f,rfl⟩:∃ f,F=f+1:=⟨F - 1,by omega⟩
   show zh0 g (zh2 g f) _ _=_∧zhZ g (zh1 g f) _ _=_
   unfold zh0 zhZ
   rw [decide_eq_false (show ¬ (i:Int) < (g.len:Int) by omega),cond_false,cond_false]
   exact ⟨rfl,rfl⟩
  | succ m ih =>
   intro F i v hi hF hv
   obtain ⟨f,rfl⟩:∃ f,F=f+1:=⟨F - 1,by omega⟩
   have ih:=fun v h=>ih f (i+1) v (by omega) (by omega) h
   show zh0 g (zh2 g f) _ _=_∧zhZ g (zh1 g f) _ _=_
   generalize zh2 g f=P at ih
   generalize zh1 g f=S at ih
   unfold zh0 zhZ zqN zqM
   rw [decide_eq_true (show (i:Int) < (g.len:Int) by omega),cond_true,cond_true,zbz (n:=g.len) (by omega) (by omega)]
   obtain ⟨b1,b2⟩:=zPK g G i (by omega) S P (g.len - (i+1)) Fuel (i+1) v (by omega) (by simp only [Fuel];omega) (by omega)
   rw [b1,b2]
   have c4:=zsR g i (g.len - (i+1)) (i+1)
   have:=ih (((ztL g i (g.len - (i+1)) (i+1)).map toL).foldl apL v) (by rw [zcc,List.length_map];omega)
   rw [← List.foldl_append,← List.map_append] at this
   exact this
 exact key g.len Fuel 0 _ (by omega) (by simp only [Fuel];omega) (by show 0+_≤_;omega)
end Go.Proofs
namespace Go.Proofs
open Go Go.Pm
set_option maxRecDepth 100000
def SOK (s:straight):Prop:=(-2000000≤s.slope∧s.slope≤2000000)∧(-200000000000≤s.start∧s.start≤200000000000)∧1≤s.den∧s.den≤100000
theorem zKK {z p y q:Int} (hz:0≤z∧z≤100000) (hy:0≤y∧y≤100000) (hp : -1000000≤p∧p≤1000000) (hq : -1000000≤q∧q≤1000000) (hn:z ≠ y):SOK (thr z p y q):=by
 have b1:=zkI hp.1 hp.2 hy.1 hy.2
 have b2:=zkI hq.1 hq.2 hz.1 hz.2
 unfold thr SOK
 by_cases h:z > y
 ·rw [if_pos h];exact ⟨⟨by show _≤p - q;omega,by show p - q≤_;omega⟩,⟨by show _≤q * z - p * y;omega,by show q * z - p * y≤_;omega⟩,by show _≤z - y;omega,by show z - y≤_;omega⟩
 ·rw [if_neg h];exact ⟨⟨by show _≤q - p;omega,by show q - p≤_;omega⟩,⟨by show _≤p * y - q * z;omega,by show p * y - q * z≤_;omega⟩,by show _≤y - z;omega,by show y - z≤_;omega⟩
theorem zBB {a b:Gate} {s:straight} (h:s∈zsP a b):a.Z ≠ b.Z∧∃ p q,(p=a.Low∨p=a.High)∧(q=b.Low∨q=b.High)∧s=thr a.Z p b.Z q:=by
 unfold zsP at h
 by_cases hz:a.Z=b.Z
 ·rw [if_pos hz] at h;cases h
 ·rw [if_neg hz] at h
  refine ⟨hz,?_⟩
  simp only [List.mem_cons,List.not_mem_nil,or_false] at h
  rcases h with h | h | h | h
  ·exact ⟨_,_,.inl rfl,.inl rfl,h⟩
  ·exact ⟨_,_,.inl rfl,.inr rfl,h⟩
  ·exact ⟨_,_,.inr rfl,.inl rfl,h⟩
  ·exact ⟨_,_,.inr rfl,.inr rfl,h⟩
theorem zsS {g : Sl Gate} {i : Nat} {s : straight} : ∀ {m k : Nat}, s ∈ ztL g i m k → ∃ j, k ≤ j ∧ j < k + m ∧ s ∈ zsP (g.get i) (g.get j)
  | 0,_,h=>by cases h
  | m+1,k,h=>by
    rcases List.mem_append.1 h with h | h
    · exact ⟨k,Nat.le_refl _,by omega,h⟩
    · obtain ⟨j, a, b, c⟩ := zsS h
      exact ⟨j,by omega,by omega,c⟩
theorem zsU {g : Sl Gate} {s : straight} : ∀ {m i : Nat}, s ∈ zCT g m i → ∃ a b, i ≤ a ∧ a < i + m ∧ a < b ∧ b < g.len ∧ s ∈ zsP (g.get a) (g.get b)
  | 0,_,h=>by cases h
  | m+1,i,h=>by
    rcases List.mem_append.1 h with h | h
    · obtain ⟨j, a, b, c⟩ := zsS h
      exact ⟨i,j,Nat.le_refl _,by omega,by omega,by omega,c⟩
    · obtain ⟨a, b, h1, h2, h3, h4, h5⟩ := zsU h
      exact ⟨a,b,by omega,by omega,h3,h4,h5⟩
theorem zzF {g:Sl Gate} {s:straight} (h:s∈cst g):∃ a b,a < b∧b < g.len∧(g.get a).Z ≠ (g.get b).Z∧∃ p q,(p=(g.get a).Low∨p=(g.get a).High)∧(q=(g.get b).Low∨q=(g.get b).High)∧s=thr (g.get a).Z p (g.get b).Z q:=by
 obtain ⟨a,b,_,_,h3,h4,h5⟩:=zsU h
 obtain ⟨hz,r⟩:=zBB h5
 exact ⟨a,b,h3,h4,hz,r⟩
theorem zkB {g:Sl Gate} (G:zaC g) {s:straight} (h:s∈cst g):SOK s:=by
 obtain ⟨a,b,h1,h2,hz,p,q,hp,hq,rfl⟩:=zzF h
 have ga:=G.1 a (by omega)
 have gb:=G.1 b h2
 refine zKK ga.1 gb.1 ?_ ?_ hz
 ·rcases hp with rfl | rfl;exact zeP ga;exact zfA ga
 ·rcases hq with rfl | rfl;exact zeP gb;exact zfA gb
def plc (s:straight) (z:Int):Int:=s.start+s.slope * z
def zzG (s:straight) (g:Gate):Bool:=decide (g.Low * s.den≤plc s g.Z∧plc s g.Z≤g.High * s.den)
def zCU (s:straight) (g:Gate):Bool:=decide (plc s g.Z=g.Low * s.den)
theorem zzH {s:straight} (S:SOK s) {g:Gate} (G:zeW g):zDD s g=zzG s g:=by
 obtain ⟨S1,S2,S3⟩:=S
 have b1:=zkI S1.1 S1.2 G.1.1 G.1.2
 have b2:=zkI (zeP G).1 (zeP G).2 (show 0≤s.den by omega) S3.2
 have b3:=zkI (zfA G).1 (zfA G).2 (show 0≤s.den by omega) S3.2
 unfold zDD zzG plc
 rw [zzx,zaP (x:=s.slope * g.Z) (by omega) (by omega),zaP (x:=s.start+s.slope * g.Z) (by omega) (by omega),zaP (x:=g.Low * s.den) (by omega) (by omega),zaP (x:=g.High * s.den) (by omega) (by omega)]
theorem zhf {a x y:Int} (h:0 < a):a * x≤a * y↔x≤y:=⟨fun k=>Int.le_of_mul_le_mul_left k h,fun k=>Int.mul_le_mul_of_nonneg_left k (Int.le_of_lt h)⟩
theorem zsV {a x y:Int} (h:0 < a):a * x=a * y↔x=y:=⟨fun k=>Int.eq_of_mul_eq_mul_left (by omega) k,fun k=>by rw [k]⟩
theorem zzI {s:straight} (S:SOK s) {z:Int} (hz:0≤z∧z≤100000):∃ n d k,zqE (toL s) z=(n,d)∧0 < k∧k * n=s.den * plc s z∧k * d=s.den * s.den∧0 < d∧d≤10000000000:=by
  obtain ⟨S1,S2,S3⟩:=S
  have hd:0 < s.den:=by omega
  have g1:=zb9 (num:=s.slope) hd
  have g2:=zb9 (num:=s.start) hd
  have r1:=zgG (num:=s.slope) hd
  have r2:=zgG (num:=s.start) hd
  have e1:=zdN (num:=s.slope) hd
  have e2:=zdb (num:=s.slope) hd
  have e3:=zdN (num:=s.start) hd
  have e4:=zdb (num:=s.start) hd
  have p1:=zcG (num:=s.slope) hd
  have p2:=zcG (num:=s.start) hd
  have q1:=zkA (num:=s.slope) hd
  have q2:=zkA (num:=s.start) hd
  unfold zqE toL
  simp only
  generalize (red s.slope s.den).Num=a at *
  generalize (red s.slope s.den).Den=b at *
  generalize (red s.start s.den).Num=c at *
  generalize (red s.start s.den).Den=d at *
  generalize (Int.gcd s.slope s.den:Int)=G1 at *
  generalize (Int.gcd s.start s.den:Int)=G2 at *
  have m1:=zkI (x:=c) (X:=200000000000) (y:=b) (Y:=100000) (by omega) (by omega) (by omega) (by omega)
  have m2:=zkI (x:=a) (X:=2000000) (y:=z) (Y:=100000) (by omega) (by omega) hz.1 hz.2
  have m3:=zkI (x:=a * z) (X:=2000000 * 100000) (y:=d) (Y:=100000) (by omega) (by omega) (by omega) (by omega)
  have m4:=zkI (x:=d) (X:=100000) (y:=b) (Y:=100000) (by omega) (by omega) (by omega) (by omega)
  have m5:=Int.mul_pos p2 p1
  rw [zaP (x:=c * b) (by omega) (by omega),zaP (x:=a * z) (by omega) (by omega),zaP (x:=a * z * d) (by omega) (by omega),zaP (x:=c * b+a * z * d) (by omega) (by omega),zaP (x:=d * b) (by omega) (by omega)]
  refine ⟨_,_,G1 * G2,rfl,Int.mul_pos g1 g2,?_,?_,m5,by omega⟩
  · unfold plc
    have t1:G1 * G2 * (c * b)=s.den * s.start:=by
      calc G1 * G2 * (c * b) = (G1 * b) * (G2 * c) := by ac_rfl
        _=_:=by rw [e2,e3]
    have t2:G1 * G2 * (a * z * d)=s.den * (s.slope * z):=by
      calc G1 * G2 * (a * z * d) = (G2 * d) * ((G1 * a) * z) := by ac_rfl
        _=_:=by rw [e4,e1]
    rw [Int.mul_add,t1,t2,Int.mul_add]
  · calc G1 * G2 * (d * b) = (G1 * b) * (G2 * d) := by ac_rfl
      _=_:=by rw [e2,e4]
theorem zsW {s:straight} (S:SOK s) {g:Gate} (G:zeW g):s72 (toL s) g=zzG s g:=by
  obtain ⟨n,d,k,e,hk,kn,kd,d1,d2⟩:=zzI S G.1
  have hd:0 < s.den:=by have:=S.2.2;omega
  have b2:=zkI (zeP G).1 (zeP G).2 (show 0≤d by omega) d2
  have b3:=zkI (zfA G).1 (zfA G).2 (show 0≤d by omega) d2
  have key:∀ x:Int,k * (x * d)=s.den * (x * s.den):=fun x=>by
    calc k * (x * d) = x * (k * d) := by ac_rfl
      _=s.den * (x * s.den):=by rw [kd];ac_rfl
  unfold s72 zzG
  rw [e,zfU]
  simp only
  rw [zaP (x:=g.Low * d) (by omega) (by omega),zaP (x:=g.High * d) (by omega) (by omega),Bool.decide_and]
  congr 1
  · refine decide_eq_decide.2 ?_
    rw [← zhf hk,key,kn,zhf hd]
  · refine decide_eq_decide.2 ?_
    rw [← zhf hk,key,kn,zhf hd]
theorem zzJ {s:straight} (S:SOK s) {g:Gate} (G:zeW g):((zqE (toL s) g.Z).1 == w64 (g.Low * (zqE (toL s) g.Z).2))=zCU s g:=by
  obtain ⟨n,d,k,e,hk,kn,kd,d1,d2⟩:=zzI S G.1
  have hd:0 < s.den:=by have:=S.2.2;omega
  have b2:=zkI (zeP G).1 (zeP G).2 (show 0≤d by omega) d2
  have key:∀ x:Int,k * (x * d)=s.den * (x * s.den):=fun x=>by
    calc k * (x * d) = x * (k * d) := by ac_rfl
      _=s.den * (x * s.den):=by rw [kd];ac_rfl
  unfold zCU
  rw [e]
  simp only
  rw [zaP (x:=g.Low * d) (by omega) (by omega)]
  refine Bool.eq_iff_iff.2 ?_
  rw [beq_iff_eq,decide_eq_true_eq,← zsV hk,key,kn,zsV hd]
end Go.Proofs
namespace Go.Proofs
open Go Go.Pm
set_option maxRecDepth 100000
theorem zsX {c:Nat→Bool} {n:Nat} : fst c n < n↔∃ i,i < n∧c i=true:=by
 refine ⟨fun h=>⟨_,h,zB0 h⟩,fun ⟨i,hi,hc⟩=>?_⟩
 rcases Nat.lt_or_ge (fst c n) n with h | h
 ·exact h
 ·have := zBZ (c := c) (n := n) (j := i) (by omega)
  rw [hc] at this;cases this
def ztM (g:Sl Gate):Prop:=∀ i,i < g.len→(g.get i).Z=(g.get 0).Z
def ztO (g:Sl Gate) (s:straight):Prop:=∀ i,i < g.len→zzG s (g.get i)=true
def zKL (g:Sl Gate) (s:straight):Prop:=∃ i,i < g.len∧zCU s (g.get i)=true
theorem zsY (g:Sl Gate) (G:zaC g):p67 ⟨g⟩=true∧(s67 ⟨g⟩=true↔ztM g):=by
  have hl:=G.2.2
  have hl1:=G.2.1
  have zDB:∀ x,zDB ⟨g⟩ x=true:=fun x=>by
    unfold zDB
    rw [decide_eq_true (show 0≤(0:Int)∧(0:Int) < ((⟨g⟩:list).Gates.len:Int) from ⟨by omega,by show (0:Int) < (g.len:Int);omega⟩)];rfl
  have := zsa (c := zDA ⟨g⟩) (lpS := ziQ ⟨g⟩) (lpP := ziR ⟨g⟩)
    (fun k s t i=>by
      show ziO ⟨g⟩ (ziQ ⟨g⟩ k) s t i=_
      unfold ziO zlZ;rfl)
    (fun k s t i=>by
      show ziP ⟨g⟩ (ziR ⟨g⟩ k) s t i=_
      unfold ziP zl0
      rw [zDB]
      simp only [decide_true,Bool.true_and])
    g (by omega)
  obtain ⟨a,b⟩:=this
  have e:zIC ⟨g⟩ g=true:=a
  have f:zIB ⟨g⟩ g=_:=b
  unfold p67 s67 p99 s99
  show (decide ((decide (zIC ⟨g⟩ g=true) && true)=true) && true)=true∧((!decide (zIB ⟨g⟩ g ≥ 0))=true↔_)
  rw [e,f]
  refine ⟨by simp,?_⟩
  rw [Bool.not_eq_true',decide_eq_false_iff_not]
  by_cases h:fst (fun i=>zDA ⟨g⟩ (g.get i)) g.len < g.len
  · rw [if_pos h]
    obtain ⟨i,hi,hc⟩:=zsX.1 h
    refine ⟨fun k=>absurd (show ((fst (fun i=>zDA ⟨g⟩ (g.get i)) g.len:Nat):Int) ≥ 0 by omega) k,fun k=>?_⟩
    have hc:((g.get i).Z != (g.get 0).Z)=true:=hc
    rw [k i hi] at hc
    simp at hc
  · rw [if_neg h]
    refine ⟨fun _ i hi=>?_,fun _=>by omega⟩
    have:=mt zsX.2 h
    have hc : ¬ ((g.get i).Z != (g.get 0).Z)=true:=fun hc=>this ⟨i,hi,hc⟩
    simpa using hc
theorem zKM (g:Sl Gate) (G:zaC g) (v:Sl straight) {x:straight} (S:SOK x):p97 ⟨⟨g⟩,v⟩ x=true∧(s97 ⟨⟨g⟩,v⟩ x=true↔ztO g x):=by
  have hl:=G.2.2
  have := zsa (c := zDF x) (lpS := zg5 x) (lpP := zg6 x)
    (fun k s t i=>by
      show zg3 x (zg5 x k) s t i=_
      unfold zg3 zjM;rfl)
    (fun k s t i=>by
      show zg4 x (zg6 x k) s t i=_
      unfold zg4 zjN;rfl)
    g (by omega)
  obtain ⟨a,b⟩:=this
  have e:zvg x g=true:=a
  have f:zvf x g=_:=b
  unfold p97 s97 zLa zK9
  show (decide ((decide (zvg x g=true) && true)=true) && true)=true∧((!decide (zvf x g ≥ 0))=true↔_)
  rw [e,f]
  refine ⟨by simp,?_⟩
  rw [Bool.not_eq_true',decide_eq_false_iff_not]
  by_cases h:fst (fun i=>zDF x (g.get i)) g.len < g.len
  · rw [if_pos h]
    obtain ⟨i,hi,hc⟩:=zsX.1 h
    refine ⟨fun k=>absurd (show ((fst (fun i=>zDF x (g.get i)) g.len:Nat):Int) ≥ 0 by omega) k,fun k=>?_⟩
    have hc:(!(zDD x (g.get i)))=true:=hc
    rw [zzH S (G.1 i hi),k i hi] at hc
    cases hc
  · rw [if_neg h]
    refine ⟨fun _ i hi=>?_,fun _=>by omega⟩
    have:=mt zsX.2 h
    have hc : ¬ (!(zDD x (g.get i)))=true:=fun hc=>this ⟨i,hi,hc⟩
    rw [← zzH S (G.1 i hi)]
    simpa using hc
theorem zKN {x:straight} (S:SOK x):p79 x=true∧s79 x=toL x:=by
 obtain ⟨S1,S2,S3⟩:=S
 obtain ⟨a1,a2⟩:=ziz (num:=x.slope) (den:=x.den) (by omega) (by omega) (by omega) (by omega)
 obtain ⟨b1,b2⟩:=ziz (num:=x.start) (den:=x.den) (by omega) (by omega) (by omega) (by omega)
 unfold p79 s79 toL
 rw [a1,a2,b1,b2]
 exact ⟨by simp,rfl⟩
-- the reference
theorem zlo (g:Sl Gate) (G:zaC g):p22 g=true∧(s22 g=true↔ztM g):=by
 have hl:=G.2.2
 have hl1:=G.2.1
 have key:∀ (m k i:Nat),i+m=g.len→m < k→zhS g k (i:Int)=true∧(zhR g k (i:Int)=true↔∀ j,i≤j→j < g.len→(g.get j).Z=(g.get 0).Z):=by
  intro m
  induction m with
  | zero =>
   intro k i hi hk
   obtain ⟨k,rfl⟩:∃ k',k=k'+1:=⟨k - 1,by omega⟩
   show zhQ g (zhS g k) _=_∧(zhP g (zhR g k) _=_↔_)
   unfold zhQ zhP
   rw [decide_eq_false (show ¬ (i:Int) < (g.len:Int) by omega),cond_false,cond_false]
   exact ⟨rfl,⟨fun _ j a b=>absurd b (by omega),fun _=>rfl⟩⟩
  | succ m ih =>
   intro k i hi hk
   obtain ⟨k,rfl⟩:∃ k',k=k'+1:=⟨k - 1,by omega⟩
   obtain ⟨i1,i2⟩:=ih k (i+1) (by omega) (by omega)
   show zhQ g (zhS g k) _=_∧(zhP g (zhR g k) _=_↔_)
   generalize zhS g k=P at i1
   generalize zhR g k=S at i2
   unfold zhQ zhP
   rw [decide_eq_true (show (i:Int) < (g.len:Int) by omega),decide_eq_true (show 0≤(i:Int)∧(i:Int) < (g.len:Int) by omega),decide_eq_true (show 0≤(0:Int)∧(0:Int) < (g.len:Int) by omega),cond_true,cond_true,Int.toNat_natCast,zbz (n:=g.len) (by omega) (by omega),i1]
   by_cases hz:(g.get i).Z=(g.get 0).Z
   ·rw [show ((g.get i).Z != (g.get 0).Z) = false by simpa using hz, cond_false, cond_false]
    refine ⟨by simp,i2.trans ⟨fun h j a b=>?_,fun h j a b=>h j (by omega) b⟩⟩
    by_cases hj:j=i
    ·rw [hj];exact hz
    ·exact h j (by omega) b
   ·rw [show ((g.get i).Z != (g.get 0).Z) = true by simpa using hz, cond_true, cond_true]
    exact ⟨by simp,⟨fun h=>(by cases h),fun h=>absurd (h i (Nat.le_refl _) (by omega)) hz⟩⟩
 obtain ⟨a,b⟩:=key (g.len - 1) Fuel 1 (by omega) (by simp only [Fuel];omega)
 refine ⟨a,Iff.trans b ⟨fun h i hi=>?_,fun h j _ hj=>h j hj⟩⟩
 by_cases h0:i=0
 ·rw [h0]
 ·exact h i (by omega) hi
theorem zzK (g:Sl Gate) (G:zaC g) {x:straight} (S:SOK x):zGv (toL x) g=true∧(ztI (toL x) g=true↔zKL g x):=by
  have hl:=G.2.2
  have e := zHn (good := fun i => !(zCU x (g.get i))) (bad := true) (fin := false) (finP := true) (n := g.len) (lpS := zfS (toL x) g) (lpP := zfT (toL x) g)
    (fun k i hi=>by
      show zfQ (toL x) g (zfS (toL x) g k) (i:Int)=_
      generalize zfS (toL x) g k=F
      unfold zfQ zmE
      rw [decide_eq_true (show (i:Int) < (g.len:Int) by omega),cond_true,Int.toNat_natCast,zzJ S (G.1 i hi)]
      cases zCU x (g.get i) <;> rfl)
    (fun k=>by
      show zfQ (toL x) g (zfS (toL x) g k) (g.len:Int)=_
      unfold zfQ
      rw [decide_eq_false (show ¬ (g.len:Int) < (g.len:Int) by omega),cond_false])
    (fun k i hi=>by
      show zfR (toL x) g (zfT (toL x) g k) (i:Int)=_
      generalize zfT (toL x) g k=F
      unfold zfR zmF
      rw [decide_eq_true (show (i:Int) < (g.len:Int) by omega),decide_eq_true (show 0≤(i:Int)∧(i:Int) < (g.len:Int) by omega),cond_true,Int.toNat_natCast,zzJ S (G.1 i hi),Bool.true_and,Bool.true_and]
      cases zCU x (g.get i) <;> rfl)
    (fun k=>by
      show zfR (toL x) g (zfT (toL x) g k) (g.len:Int)=_
      unfold zfR
      rw [decide_eq_false (show ¬ (g.len:Int) < (g.len:Int) by omega),cond_false])
    (by omega)
  by_cases h:∀ i,i < g.len→(!(zCU x (g.get i)))=true
  · obtain ⟨a, b⟩ := e.1 h
    have b:ztI (toL x) g=false:=b
    refine ⟨a,?_⟩
    rw [b]
    refine ⟨fun h=>(by cases h),fun ⟨i,hi,hc⟩=>?_⟩
    have:=h i hi
    rw [hc] at this;cases this
  · obtain ⟨a, b⟩ := e.2 h
    have b:ztI (toL x) g=true:=b
    refine ⟨a,?_⟩
    rw [b]
    refine ⟨fun _=>Classical.byContradiction fun hn=>h fun i hi=>?_,fun _=>rfl⟩
    cases hc:zCU x (g.get i)
    · rfl
    · exact absurd ⟨i,hi,hc⟩ hn
end Go.Proofs
namespace Go.Proofs
open Go Go.Pm
set_option maxRecDepth 100000
def zil (l:Line):List Int:=[l.Slope.Num,l.Slope.Den,l.Start.Num,l.Start.Den]
theorem zkC {a b:Line} (h:zil a=zil b):a=b:=by
 unfold zil at h
 simp only [List.cons.injEq,and_true] at h
 obtain ⟨h1,h2,h3,h4⟩:=h
 obtain ⟨⟨a1,a2⟩,a3,a4⟩:=a
 obtain ⟨⟨b1,b2⟩,b3,b4⟩:=b
 simp only at h1 h2 h3 h4
 rw [h1,h2,h3,h4]
abbrev ziH {α:Type} [Inhabited α]:Sl α:=⟨0,fun _=>default⟩
theorem zBC {g:Sl Gate} (h:ztM g):cst g=[]:=by
 rcases List.eq_nil_or_concat (cst g) with e | ⟨l,x,e⟩
 ·exact e
 ·have : x ∈ cst g := by rw [e]; simp
  obtain ⟨a,b,h1,h2,hz,_⟩:=zzF this
  exact absurd ((h a (by omega)).trans (h b h2).symm) hz
theorem zBD (g:Sl Gate):∀ m i,(zCT g m i).length≤4 * g.len * m:=by
 intro m
 induction m with
 | zero=>intro i;exact Nat.le_refl _
 | succ m ih =>
  intro i
  show (ztL g i (g.len - (i+1)) (i+1) ++ zCT g m (i+1)).length≤_
  rw [List.length_append,Nat.mul_succ]
  have:=ih (i+1)
  have:=zsR g i (g.len - (i+1)) (i+1)
  omega
theorem zrA {g:Sl Gate} (G:zaC g):(cst g).length≤2304:=by
 have h1:=zBD g g.len 0
 have hl:=G.2.2
 have:4 * g.len * g.len≤4 * 24 * 24:=Nat.mul_le_mul (by omega) hl
 exact Nat.le_trans h1 this
theorem zHq (g:Sl Gate) (G:zaC g):∀ (r acc:List straight) (n:Nat) (F:List Int→Option (List Int)),
    (∀ s∈r,SOK s)→acc.length+r.length≤10000→(∀ c,(zdQ (F c) 0 != 0)=true↔∃ x∈acc,zil (toL x)=c)→acc.Pairwise (fun x y=>toL x ≠ toL y) →
    ∃ C:List straight,zfd g r (acc.foldl apL ziH) n F=true∧zfc g r (acc.foldl apL ziH) n F=⟨⟨g⟩,C.foldl apL ziH⟩ ∧
      (∀ s∈C,s∈acc∨(s∈r∧ztO g s))∧(∀ s∈acc,s∈C)∧(∀ s∈r,ztO g s→∃ x∈C,toL x=toL s)∧C.Pairwise (fun x y=>toL x ≠ toL y):=by
  intro r
  induction r with
  | nil =>
    intro acc n F _ _ _ hp
    exact ⟨acc,rfl,rfl,fun s h=>.inl h,fun s h=>h,(fun s h=>by cases h),hp⟩
  | cons y r ih =>
    intro acc n F hs hl hF hp
    have hs':∀ s∈r,SOK s:=fun s h=>hs s (List.mem_cons_of_mem _ h)
    have Sy:=hs y List.mem_cons_self
    obtain ⟨e1,e2⟩:=zKN Sy
    obtain ⟨a1,a2⟩:=zKM g G (acc.foldl apL ziH) Sy
    rw [List.length_cons] at hl
    show ∃ C:List straight,zjR g y (zfd g r) (acc.foldl apL ziH) n F=true∧zjQ g y (zfc g r) (acc.foldl apL ziH) n F=_∧_
    unfold zjR zjQ
    rw [e1,e2,a1]
    have hcode:([(toL y).Slope.Num,(toL y).Slope.Den,(toL y).Start.Num,(toL y).Start.Den]:List Int)=zil (toL y):=rfl
    rw [hcode]
    have skip:(∃ C:List straight,zfd g r (acc.foldl apL ziH) n F=true∧zfc g r (acc.foldl apL ziH) n F=⟨⟨g⟩,C.foldl apL ziH⟩ ∧
      (∀ s∈C,s∈acc∨(s∈r∧ztO g s))∧(∀ s∈acc,s∈C)∧(∀ s∈r,ztO g s→∃ x∈C,toL x=toL s)∧C.Pairwise (fun x y=>toL x ≠ toL y)):=ih acc n F hs' (by omega) hF hp
    by_cases h1:(zdQ (F (zil (toL y))) 0 != 0)=true
    · obtain ⟨C, c1, c2, c3, c4, c5, c6⟩ := skip
      rw [h1]
      refine ⟨C,by simp only [decide_true,Bool.true_and,Bool.not_true,cond_false];exact c1,by simp only [Bool.not_true,cond_false];exact c2,fun s h=>(c3 s h).imp id fun k=>⟨List.mem_cons_of_mem _ k.1,k.2⟩,c4,fun s h ha=>?_,c6⟩
      rcases List.mem_cons.1 h with rfl | h
      · obtain ⟨x, hx, hc⟩ := (hF _).1 h1
        exact ⟨x,c4 x hx,zkC hc⟩
      · exact c5 s h ha
    · have h1' : (zdQ (F (zil (toL y))) 0 != 0) = false := by simpa using h1
      rw [h1']
      by_cases h2:s97 ⟨⟨g⟩,acc.foldl apL ziH⟩ y=true
      · rw [h2]
        have hlen:(acc.foldl apL ziH).len=acc.length:=by rw [zcc];simp
        have hfold:(⟨(acc.foldl apL ziH).len+1,zdX (acc.foldl apL ziH).len (acc.foldl apL ziH).get (fun _=>y)⟩:Sl straight)=(acc ++ [y]).foldl apL ziH:=by rw [List.foldl_append];rfl
        rw [hfold,hlen,decide_eq_true (show (acc.length+1) * 24≤140737488355328∧acc.length+1≤9223372036854775807 by omega)]
        obtain ⟨C, c1, c2, c3, c4, c5, c6⟩ := ih (acc ++ [y]) (addN (F (zil (toL y))) n) (zkT (zil (toL y)) [1] F) hs' (by rw [List.length_append]; simp only [List.length_cons, List.length_nil]; omega)
          (fun c=>by
            unfold zkT
            by_cases hc:c=zil (toL y)
            · rw [decide_eq_true hc]
              exact ⟨fun _=>⟨y,by simp,hc.symm⟩,fun _=>rfl⟩
            · rw [decide_eq_false hc]
              refine (hF c).trans ⟨fun ⟨x,hx,e⟩=>⟨x,List.mem_append.2 (.inl hx),e⟩,fun ⟨x,hx,e⟩=>?_⟩
              rcases List.mem_append.1 hx with hx | hx
              · exact ⟨x,hx,e⟩
              · rw [List.mem_singleton.1 hx] at e;exact absurd e.symm hc)
          (by
            rw [List.pairwise_append]
            refine ⟨hp,List.pairwise_singleton _ _,fun a ha b hb=>?_⟩
            rw [List.mem_singleton.1 hb]
            exact fun e=>h1 ((hF _).2 ⟨a,ha,by rw [e]⟩))
        have hy:y∈C:=c4 y (by simp)
        refine ⟨C,by simp only [decide_true,Bool.true_and,Bool.not_false,cond_true];exact c1,by simp only [Bool.not_false,cond_true];exact c2,fun s h=>?_,fun s h=>c4 s (List.mem_append.2 (.inl h)),fun s h ha=>?_,c6⟩
        · rcases c3 s h with h | h
          · rcases List.mem_append.1 h with h | h
            · exact .inl h
            · rw [List.mem_singleton.1 h];exact .inr ⟨List.mem_cons_self,a2.1 h2⟩
          · exact .inr ⟨List.mem_cons_of_mem _ h.1,h.2⟩
        · rcases List.mem_cons.1 h with rfl | h
          · exact ⟨s,hy,rfl⟩
          · exact c5 s h ha
      · have h2' : s97 ⟨⟨g⟩, acc.foldl apL ziH⟩ y = false := by simpa using h2
        rw [h2']
        obtain ⟨C,c1,c2,c3,c4,c5,c6⟩:=skip
        refine ⟨C,by simp only [decide_true,Bool.true_and,Bool.not_false,cond_true,cond_false];exact c1,by simp only [Bool.not_false,cond_true,cond_false];exact c2,fun s h=>(c3 s h).imp id fun k=>⟨List.mem_cons_of_mem _ k.1,k.2⟩,c4,fun s h ha=>?_,c6⟩
        rcases List.mem_cons.1 h with rfl | h
        · exact absurd (a2.2 ha) h2
        · exact c5 s h ha
theorem zsZ (g:Sl Gate) (G:zaC g):∃ C:List straight,p65 g=true∧s65 g=⟨⟨g⟩,C.foldl apL ziH⟩∧(∀ s∈C,s∈cst g∧ztO g s)∧(∀ s∈cst g,ztO g s→∃ x∈C,toL x=toL s)∧C.Pairwise (fun x y=>toL x ≠ toL y):=by
 obtain ⟨e1,e2⟩:=zsY g G
 obtain ⟨f1,f2⟩:=zHp g G
 unfold p65 s65
 rw [e1]
 by_cases hf:ztM g
 ·rw [e2.2 hf]
  refine ⟨[],rfl,rfl,(fun s h=>by cases h),fun s h=>?_,List.Pairwise.nil⟩
  rw [zBC hf] at h;cases h
 ·have : s67 ⟨g⟩ = false := by cases h : s67 ⟨g⟩; rfl; exact absurd (e2.1 h) hf
  rw [this]
  unfold zl9 zl8 zl7 zl6 zl5 zpx
  rw [f1,f2]
  obtain ⟨C,c1,c2,c3,_,c5,c6⟩:=zHq g G (cst g) [] 0 (fun _=>none) (fun s h=>zkB G h) (by have:=zrA G;simp only [List.length_nil];omega) (fun c=>⟨fun h=>by simp [zdQ] at h,fun ⟨x,hx,_⟩=>by cases hx⟩) List.Pairwise.nil
  refine ⟨C,by simp only [decide_true,Bool.true_and,cond_false];exact c1,by simp only [cond_false];exact c2,fun s h=>?_,c5,c6⟩
  rcases c3 s h with h | h
  ·cases h
  ·exact h
end Go.Proofs
namespace Go.Proofs
open Go Go.Pm
set_option maxRecDepth 100000
theorem zBE (l:Line) (g:Sl Gate):∀ (m i:Nat) (v:Sl Int),i+m=g.len→v.len≤i→((zik (addI l g) m i v).len < g.len↔v.len < i∨∃ j,i≤j∧j < g.len∧s72 l (g.get j)=false):=by
 intro m
 induction m with
 | zero =>
  intro i v hi hv
  have:i=g.len:=by omega
  subst this
  exact ⟨fun h=>.inl h,fun h=>h.elim id fun ⟨j,a,b,_⟩=>absurd b (by omega)⟩
 | succ m ih =>
  intro i v hi hv
  show (zik (addI l g) m (i+1) (addI l g i v)).len < g.len↔_
  rw [ih (i+1) (addI l g i v) (by omega) (zsO l g i v hv)]
  unfold addI
  cases h:s72 l (g.get i)
  ·rw [cond_false]
   exact ⟨fun _=>.inr ⟨i,Nat.le_refl _,by omega,h⟩,fun _=>.inl (by omega)⟩
  ·rw [cond_true]
   refine ⟨fun k=>k.imp (fun (k:v.len+1 < i+1)=>by omega) fun ⟨j,a,b,c⟩=>⟨j,by omega,b,c⟩,fun k=>k.imp (fun k=>by show v.len+1 < i+1;omega) fun ⟨j,a,b,c⟩=>⟨j,?_,b,c⟩⟩
   by_cases hj:j=i
   ·rw [hj,h] at c;cases c
   ·omega
theorem zBF {g:Sl Gate} (G:zaC g) {s:straight} (S:SOK s):p27 (toL s) g=true∧(((s27 (toL s) g).len:Int) < (g.len:Int)↔¬ ztO g s):=by
 have hl:=G.2.2
 obtain ⟨a,b⟩:=zKH (toL s) g (by omega)
 refine ⟨a,?_⟩
 rw [b]
 have:=zBE (toL s) g g.len 0 (⟨0,fun _=>default⟩:Sl Int) (by omega) (Nat.le_refl _)
 have e:((zLj (toL s) g).len < g.len↔_):=this
 rw [show (((zLj (toL s) g).len:Int) < (g.len:Int))↔(zLj (toL s) g).len < g.len by omega,e]
 constructor
 ·rintro (h | ⟨j, _, hj, hc⟩)
  ·exact absurd h (by omega)
  ·intro h
   have:=h j hj
   rw [← zsW S (G.1 j hj),hc] at this;cases this
 ·intro h
  refine .inr (Classical.byContradiction fun hn=>h fun i hi=>?_)
  rw [← zsW S (G.1 i hi)]
  cases hc:s72 (toL s) (g.get i)
  ·exact absurd ⟨i,Nat.zero_le _,hi,hc⟩ hn
  ·rfl
theorem zou {α:Type} (l:List α):∀ (v:Sl α) (i:Nat),i < v.len→(l.foldl apL v).get i=v.get i:=by
 induction l with
 | nil=>intro v i _;rfl
 | cons x l ih =>
  intro v i hi
  rw [List.foldl_cons,ih _ _ (show i < v.len+1 by omega)]
  show zdX v.len v.get (fun _=>x) i=_
  unfold zdX
  rw [show Nat.ble v.len i=false by rw [← Bool.not_eq_true,Nat.ble_eq];omega]
theorem zhg {α:Type} (l:List α):∀ (v:Sl α) (i:Nat) (x:α),l[i]? = some x→(l.foldl apL v).get (v.len+i)=x:=by
 induction l with
 | nil=>intro v i x h;simp at h
 | cons y l ih =>
  intro v i x h
  rw [List.foldl_cons]
  cases i with
  | zero =>
   have h:some y=some x:=h
   cases h
   rw [zou _ _ _ (show v.len+0 < v.len+1 by omega)]
   show zdX v.len v.get (fun _=>y) (v.len+0)=_
   unfold zdX
   rw [show Nat.ble v.len (v.len+0)=true by rw [Nat.ble_eq];omega]
  | succ i =>
   have:=ih (apL v y) i x (by simpa using h)
   rw [← this]
   show _=(l.foldl apL (apL v y)).get (v.len+1+i)
   congr 1;omega
def zkS (g:Sl Gate) (l:Line):Prop:=∃ s∈cst g,ztO g s∧toL s=l
theorem zKO {g:Sl Gate} (G:zaC g) {a b:Line} (ha:zkS g a) (hb:zkS g b):p81 a b g=true:=by
 obtain ⟨x,hx,_,rfl⟩:=ha
 obtain ⟨y,hy,_,rfl⟩:=hb
 unfold p81 zqQ
 rw [(zzK g G (zkB G hx)).1,(zzK g G (zkB G hy)).1]
 cases (ztI (toL x) g != ztI (toL y) g) <;> simp
def zHr (out:Sl Line) (A:Nat) (x:Line):Sl Line :=
 ⟨(((A:Int) - (0:Int)).toNat+1)+((out.len:Int) - (A:Int)).toNat,(zdX (((A:Int) - (0:Int)).toNat+1) (zdX (((A:Int) - (0:Int)).toNat) (fun i=>out.get (i+((0:Int).toNat))) (fun _=>x)) (fun i=>out.get (i+A)))⟩
theorem znf {out:Sl Line} {A:Nat} {x:Line} (h:A≤out.len):(zHr out A x).len=out.len+1:=by
 show (((A:Int) - (0:Int)).toNat+1)+((out.len:Int) - (A:Int)).toNat=_;omega
theorem zim {out:Sl Line} {A:Nat} {x:Line} (j:Nat):(zHr out A x).get j=if j < A then out.get j else if j=A then x else out.get (j - 1):=by
 have e:((A:Int) - (0:Int)).toNat=A:=by omega
 show zdX (((A:Int) - (0:Int)).toNat+1) (zdX (((A:Int) - (0:Int)).toNat) (fun i=>out.get (i+((0:Int).toNat))) (fun _=>x)) (fun i=>out.get (i+A)) j=_
 rw [e]
 unfold zdX
 by_cases h1:A+1≤j
 ·rw [show Nat.ble (A + 1) j = true by rw [Nat.ble_eq]; exact h1, if_neg (by omega), if_neg (by omega)]
  show out.get (j - (A+1)+A)=_
  congr 1;omega
 ·rw [show Nat.ble (A + 1) j = false by rw [← Bool.not_eq_true, Nat.ble_eq]; exact h1]
  by_cases h2:A≤j
  ·have : j = A := by omega
   subst this
   rw [show Nat.ble j j=true by rw [Nat.ble_eq];omega,if_neg (by omega),if_pos rfl]
  ·rw [show Nat.ble A j = false by rw [← Bool.not_eq_true, Nat.ble_eq]; exact h2, if_pos (by omega)]
   rfl
open Classical in
noncomputable def zd5 (out:Sl Line) (A:Nat) (x:Line):Sl Line:=if A < out.len∧out.get A=x then out else zHr out A x
theorem zNX (g : Sl Gate) (lv : Sl Line) (i : Nat) (hi : i < lv.len) (hlv : lv.len ≤ 10000) (S1 : Sl Line → Int → Sl Line) (P1 : Sl Line → Int → Bool) (out : Sl Line) (A : Nat) (hA : A ≤ out.len) (ho : out.len ≤ 10000) :
  zks P1 g lv out (i:Int) (A:Int)=P1 (zd5 out A (lv.get i)) ((i+1:Nat):Int)∧zkr S1 g lv out (i:Int) (A:Int)=S1 (zd5 out A (lv.get i)) ((i+1:Nat):Int):=by
 have w:=zbz (n:=lv.len) hi (by omega)
 have k1:decide (0≤(i:Int)∧(i:Int) < (lv.len:Int))=true:=decide_eq_true (by omega)
 have k2:decide (0≤(0:Int)∧(0:Int)≤(A:Int)∧(A:Int)≤(out.len:Int))=true:=decide_eq_true (by omega)
 have k3:decide (((A:Int) - (0:Int)).toNat * 32≤140737488355328∧((A:Int) - (0:Int)).toNat≤9223372036854775807)=true:=decide_eq_true (by omega)
 have k4:decide ((((A:Int) - (0:Int)).toNat+1) * 32≤140737488355328∧((A:Int) - (0:Int)).toNat+1≤9223372036854775807)=true:=decide_eq_true (by omega)
 have k5:decide (0≤(A:Int)∧(A:Int)≤(out.len:Int)∧(out.len:Int)≤(out.len:Int))=true:=decide_eq_true (by omega)
 have k6:decide (((((A:Int) - (0:Int)).toNat+1)+((out.len:Int) - (A:Int)).toNat) * 32≤140737488355328∧(((A:Int) - (0:Int)).toNat+1)+((out.len:Int) - (A:Int)).toNat≤9223372036854775807)=true:=decide_eq_true (by omega)
 unfold zks zkr zd5
 rw [Int.toNat_natCast,Int.toNat_natCast,k1,k2,k3,k4,k5,k6,w]
 by_cases h1:A < out.len
 ·rw [decide_eq_true (show (A : Int) < (out.len : Int) by omega), decide_eq_true (show 0 ≤ (A : Int) ∧ (A : Int) < (out.len : Int) by omega)]
  by_cases h2:out.get A=lv.get i
  ·rw [if_pos ⟨h1, h2⟩, h2, beq_self_eq_true, beq_self_eq_true, beq_self_eq_true, beq_self_eq_true]
   exact ⟨rfl,rfl⟩
  ·rw [if_neg fun h => h2 h.2]
   have hne : ¬ (((out.get A).Slope.Num == (lv.get i).Slope.Num)=true∧((out.get A).Slope.Den == (lv.get i).Slope.Den)=true∧((out.get A).Start.Num == (lv.get i).Start.Num)=true∧((out.get A).Start.Den == (lv.get i).Start.Den)=true):=by
    rintro ⟨a,b,c,d⟩
    rw [beq_iff_eq] at a b c d
    exact h2 (zkC (by unfold zil;rw [a,b,c,d]))
   generalize ((out.get A).Slope.Num == (lv.get i).Slope.Num)=b1 at hne ⊢
   generalize ((out.get A).Slope.Den == (lv.get i).Slope.Den)=b2 at hne ⊢
   generalize ((out.get A).Start.Num == (lv.get i).Start.Num)=b3 at hne ⊢
   generalize ((out.get A).Start.Den == (lv.get i).Start.Den)=b4 at hne ⊢
   cases b1 <;> cases b2 <;> cases b3 <;> cases b4 <;> first | exact ⟨rfl,rfl⟩ | exact absurd ⟨rfl,rfl,rfl,rfl⟩ hne
 ·rw [if_neg fun h => h1 h.1, decide_eq_false (show ¬ (A : Int) < (out.len : Int) by omega)]
  exact ⟨rfl,rfl⟩
theorem zPL (g : Sl Gate) (G : zaC g) (lv : Sl Line) (i : Nat) (hi : i < lv.len) (hlv : lv.len ≤ 10000) (hx : zkS g (lv.get i)) (S1 : Sl Line → Int → Sl Line) (P1 : Sl Line → Int → Bool) (out : Sl Line) (ho : out.len ≤ 10000) (hM : ∀ j, j < out.len → zkS g (out.get j)) :
  ∀ (m k a:Nat),a+m=out.len→m < k →
  zh5 P1 g lv k out (i:Int) (a:Int)=P1 (zd5 out (zkO (fun j=>!(s81 (out.get j) (lv.get i) g)) m a) (lv.get i)) ((i+1:Nat):Int) ∧
  zgD S1 g lv k out (i:Int) (a:Int)=S1 (zd5 out (zkO (fun j=>!(s81 (out.get j) (lv.get i) g)) m a) (lv.get i)) ((i+1:Nat):Int):=by
 intro m
 induction m with
 | zero =>
  intro k a ha hk
  obtain ⟨k,rfl⟩:∃ k',k=k'+1:=⟨k - 1,by omega⟩
  show zh4 P1 g lv (zh5 P1 g lv k) _ _ _=P1 (zd5 out a _) _∧zh3 S1 g lv (zgD S1 g lv k) _ _ _=S1 (zd5 out a _) _
  unfold zh4 zh3
  rw [decide_eq_false (show ¬ (a:Int) < (out.len:Int) by omega),cond_false,cond_false]
  exact zNX g lv i hi hlv S1 P1 out a (by omega) ho
 | succ m ih =>
  intro k a ha hk
  obtain ⟨k,rfl⟩:∃ k',k=k'+1:=⟨k - 1,by omega⟩
  obtain ⟨i1,i2⟩:=ih k (a+1) (by omega) (by omega)
  show zh4 P1 g lv (zh5 P1 g lv k) _ _ _=_∧zh3 S1 g lv (zgD S1 g lv k) _ _ _=_
  generalize zh5 P1 g lv k=P at i1
  generalize zgD S1 g lv k=S at i2
  unfold zh4 zh3
  rw [decide_eq_true (show (a:Int) < (out.len:Int) by omega),decide_eq_true (show 0≤(a:Int)∧(a:Int) < (out.len:Int) by omega),decide_eq_true (show 0≤(i:Int)∧(i:Int) < (lv.len:Int) by omega),Int.toNat_natCast,Int.toNat_natCast,zKO G (hM a (by omega)) hx,zbz (n:=out.len) (by omega) (by omega)]
  cases h:s81 (out.get a) (lv.get i) g
  ·rw [zuW (c := fun j => !(s81 (out.get j) (lv.get i) g)) (by show (!(s81 (out.get a) (lv.get i) g)) = true; rw [h]; rfl)]
   exact zNX g lv i hi hlv S1 P1 out a (by omega) ho
  ·rw [zuX (c := fun j => !(s81 (out.get j) (lv.get i) g)) (by show (!(s81 (out.get a) (lv.get i) g)) = false; rw [h]; rfl)]
   exact ⟨i1,i2⟩
end Go.Proofs
namespace Go.Proofs
open Go Go.Pm
set_option maxRecDepth 100000
def Bef (g:Sl Gate) (a b:Line):Prop:=s81 a b g=true
def Tot (g:Sl Gate):Prop:=(∀ a b c,zkS g a→zkS g b→zkS g c→Bef g a b→Bef g b c→Bef g a c)∧∀ a b,zkS g a→zkS g b→a ≠ b→Bef g a b∨Bef g b a
def Srt (g:Sl Gate) (v:Sl Line):Prop:=∀ i j,i < j→j < v.len→Bef g (v.get i) (v.get j)
theorem zs3 {g:Sl Gate} (G:zaC g) {s:straight} (h:s∈cst g):zkS g (toL s)↔ztO g s:=by
 refine ⟨fun ⟨x,hx,ha,e⟩ i hi=>?_,fun ha=>⟨s,h,ha,rfl⟩⟩
 rw [← zsW (zkB G h) (G.1 i hi),← e,zsW (zkB G hx) (G.1 i hi)]
 exact ha i hi
theorem put_mem {g:Sl Gate} {out:Sl Line} {A:Nat} {x:Line} (hA:A≤out.len) (hM:∀ j,j < out.len→zkS g (out.get j)) (hx:zkS g x):∀ j,j < (zd5 out A x).len→zkS g ((zd5 out A x).get j):=by
 unfold zd5
 by_cases h:A < out.len∧out.get A=x
 ·rw [if_pos h];exact hM
 ·rw [if_neg h]
  intro j hj
  rw [znf hA] at hj
  rw [zim]
  split
  ·exact hM j (by omega)
  ·split
   ·exact hx
   ·exact hM (j - 1) (by omega)
theorem zHs {out:Sl Line} {A:Nat} {x:Line} (hA:A≤out.len):(∃ j,j < (zd5 out A x).len∧(zd5 out A x).get j=x)∧∀ j,j < out.len→∃ i,i < (zd5 out A x).len∧(zd5 out A x).get i=out.get j:=by
 unfold zd5
 by_cases h:A < out.len∧out.get A=x
 ·rw [if_pos h];exact ⟨⟨A,h.1,h.2⟩,fun j hj=>⟨j,hj,rfl⟩⟩
 ·rw [if_neg h, znf hA]
  refine ⟨⟨A,by omega,by rw [zim,if_neg (by omega),if_pos rfl]⟩,fun j hj=>?_⟩
  by_cases hj2:j < A
  ·exact ⟨j,by omega,by rw [zim,if_pos hj2]⟩
  ·exact ⟨j+1,by omega,by rw [zim,if_neg (by omega),if_neg (by omega)];rfl⟩
theorem zHt {out:Sl Line} {A:Nat} {x:Line} (hA:A≤out.len):(zd5 out A x).len≤out.len+1:=by
 unfold zd5;split
 ·omega
 ·rw [znf hA];omega
theorem zHu {g : Sl Gate} (T : Tot g) {out : Sl Line} {x : Line} (hM : ∀ j, j < out.len → zkS g (out.get j)) (hx : zkS g x) (hs : Srt g out) :
  Srt g (zd5 out (zkO (fun j=>!(s81 (out.get j) x g)) out.len 0) x):=by
 have hle:=zBY (fun j=>!(s81 (out.get j) x g)) out.len
 have hlo:∀ j,j < fst (fun j=>!(s81 (out.get j) x g)) out.len→Bef g (out.get j) x:=fun j hj=>by
  have:(!(s81 (out.get j) x g))=false:=zBZ (c:=fun j=>!(s81 (out.get j) x g)) hj
  show s81 (out.get j) x g=true
  cases h:s81 (out.get j) x g
  ·rw [h] at this;cases this
  ·rfl
 have hhi:fst (fun j=>!(s81 (out.get j) x g)) out.len < out.len→¬ Bef g (out.get (fst (fun j=>!(s81 (out.get j) x g)) out.len)) x:=fun h hb=>by
  have:(!(s81 (out.get (fst (fun j=>!(s81 (out.get j) x g)) out.len)) x g))=true:=zB0 (c:=fun j=>!(s81 (out.get j) x g)) h
  have hb:s81 (out.get (fst (fun j=>!(s81 (out.get j) x g)) out.len)) x g=true:=hb
  rw [hb] at this;cases this
 show Srt g (zd5 out (fst (fun j=>!(s81 (out.get j) x g)) out.len) x)
 generalize fst (fun j=>!(s81 (out.get j) x g)) out.len=A at hle hlo hhi ⊢
 unfold zd5
 by_cases h:A < out.len∧out.get A=x
 ·rw [if_pos h];exact hs
 ·rw [if_neg h]
  intro i j hij hj
  rw [znf hle] at hj
  rw [zim,zim]
  by_cases j1:j < A
  ·rw [if_pos (show i < A by omega),if_pos j1];exact hs i j hij (by omega)
  ·rw [if_neg j1]
   by_cases j2:j=A
   ·rw [if_pos j2,if_pos (show i < A by omega)];exact hlo i (by omega)
   ·rw [if_neg j2]
    by_cases i1:i < A
    ·rw [if_pos i1];exact hs i (j - 1) (by omega) (by omega)
    ·rw [if_neg i1]
     by_cases i2:i=A
     ·rw [if_pos i2]
      have hA:A < out.len:=by omega
      have b1:Bef g x (out.get A):=(T.2 x (out.get A) hx (hM A hA) (fun e=>h ⟨hA,e.symm⟩)).resolve_right (hhi hA)
      by_cases j3:j - 1=A
      ·rw [j3];exact b1
      ·exact T.1 _ _ _ hx (hM A hA) (hM (j - 1) (by omega)) b1 (hs A (j - 1) (by omega) (by omega))
     ·rw [if_neg i2];exact hs (i - 1) (j - 1) (by omega) (by omega)
structure Inv33 (g : Sl Gate) (lv : Sl Line) (i : Nat) (out : Sl Line) : Prop where
  len:out.len≤i
  mem:∀ j,j < out.len→zkS g (out.get j)
  has:∀ j,j < i→zkS g (lv.get j)→∃ a,a < out.len∧out.get a=lv.get j
  srt:Tot g→Srt g out
theorem zNc (g:Sl Gate) (G:zaC g) (lv:Sl Line) (hlv:lv.len≤10000) (hc:∀ i,i < lv.len→∃ s∈cst g,lv.get i=toL s):∀ (m k i:Nat) (out:Sl Line),i+m=lv.len→m < k→Inv33 g lv i out →
  zh8 g lv k out (i:Int)=true∧Inv33 g lv lv.len (zgE g lv k out (i:Int)):=by
 intro m
 induction m with
 | zero =>
  intro k i out hi hk I
  obtain ⟨k,rfl⟩:∃ k',k=k'+1:=⟨k - 1,by omega⟩
  show zh7 g lv (zh8 g lv k) _ _=_∧Inv33 g lv lv.len (zh6 g lv (zgE g lv k) _ _)
  unfold zh7 zh6
  rw [decide_eq_false (show ¬ (i:Int) < (lv.len:Int) by omega),cond_false,cond_false]
  have:i=lv.len:=by omega
  rw [← this]
  exact ⟨rfl,I⟩
 | succ m ih =>
  intro k i out hi hk I
  obtain ⟨k,rfl⟩:∃ k',k=k'+1:=⟨k - 1,by omega⟩
  have ih:=fun out I=>ih k (i+1) out (by omega) (by omega) I
  show zh7 g lv (zh8 g lv k) _ _=_∧Inv33 g lv lv.len (zh6 g lv (zgE g lv k) _ _)
  generalize zh8 g lv k=P at ih
  generalize zgE g lv k=S at ih
  obtain ⟨s,hs,es⟩:=hc i (by omega)
  obtain ⟨p1,p2⟩:=zBF G (zkB G hs)
  rw [← es] at p1 p2
  unfold zh7 zh6 zqS zqR
  rw [decide_eq_true (show (i:Int) < (lv.len:Int) by omega),decide_eq_true (show 0≤(i:Int)∧(i:Int) < (lv.len:Int) by omega),Int.toNat_natCast,p1,zbz (n:=lv.len) (by omega) (by omega),cond_true,cond_true]
  by_cases ha:ztO g s
  ·rw [decide_eq_false (fun h => p2.1 h ha), cond_false, cond_false]
   have hx:zkS g (lv.get i):=by rw [es];exact (zs3 G hs).2 ha
   have hl:=I.len
   obtain ⟨b1,b2⟩:=zPL g G lv i (by omega) hlv hx S P out (by omega) I.mem out.len Fuel 0 (by omega) (by simp only [Fuel];omega)
   have hA:=zBY (fun j=>!(s81 (out.get j) (lv.get i) g)) out.len
   have I':Inv33 g lv (i+1) (zd5 out (zkO (fun j=>!(s81 (out.get j) (lv.get i) g)) out.len 0) (lv.get i)):=by
    refine ⟨Nat.le_trans (zHt hA) (by omega),put_mem hA I.mem hx,fun j hj hm=>?_,fun T=>zHu T I.mem hx (I.srt T)⟩
    obtain ⟨q1,q2⟩:=zHs (out:=out) (x:=lv.get i) hA
    by_cases hji:j=i
    ·rw [hji];exact q1
    ·obtain ⟨a, ha1, ha2⟩ := I.has j (by omega) hm
     obtain ⟨c,hc1,hc2⟩:=q2 a ha1
     exact ⟨c,hc1,hc2.trans ha2⟩
   have:=ih _ I'
   refine ⟨?_,?_⟩
   ·simp only [decide_true,Bool.true_and];exact b1.trans this.1
   ·have e : zgD S g lv Fuel out (i : Int) (0 : Int) = _ := b2
    rw [e];exact this.2
  ·rw [decide_eq_true (p2.2 ha), cond_true, cond_true]
   have I':Inv33 g lv (i+1) out:=by
    refine ⟨by have:=I.len;omega,I.mem,fun j hj hm=>?_,I.srt⟩
    by_cases hji:j=i
    ·rw [hji,es,zs3 G hs] at hm;exact absurd hm ha
    ·exact I.has j (by omega) hm
   have:=ih _ I'
   exact ⟨by simp only [decide_true,Bool.true_and];exact this.1,this.2⟩
theorem zov (g:Sl Gate) (G:zaC g):p33 g=true∧(s33 g).len≤2304∧(∀ j,j < (s33 g).len→zkS g ((s33 g).get j))∧(∀ l,zkS g l→∃ a,a < (s33 g).len∧(s33 g).get a=l)∧(Tot g→Srt g (s33 g)):=by
  obtain ⟨e1,e2⟩:=zKJ g G
  have hlen:(((cst g).map toL).foldl apL (⟨0,fun _=>default⟩:Sl Line)).len=(cst g).length:=by rw [zcc,List.length_map];simp
  have hget:∀ i s,(cst g)[i]? = some s→(((cst g).map toL).foldl apL (⟨0,fun _=>default⟩:Sl Line)).get i=toL s:=fun i s h=>by
    have:=zhg ((cst g).map toL) (⟨0,fun _=>default⟩:Sl Line) i (toL s) (by rw [List.getElem?_map,h];rfl)
    rw [Nat.zero_add] at this;exact this
  have hc:=zrA G
  obtain ⟨a, I⟩ := zNc g G (((cst g).map toL).foldl apL (⟨0, fun _ => default⟩ : Sl Line)) (by omega)
    (fun i hi=>by
      rw [hlen] at hi
      exact ⟨(cst g)[i],List.getElem_mem _,hget i _ (List.getElem?_eq_getElem hi)⟩)
    (cst g).length Fuel 0 (⟨0,fun _=>default⟩:Sl Line) (by omega) (by simp only [Fuel];omega)
    ⟨Nat.le_refl _,fun j hj=>absurd hj (Nat.not_lt_zero _),fun j hj=>absurd hj (Nat.not_lt_zero _),fun _ i j _ hj=>absurd hj (Nat.not_lt_zero _)⟩
  have es:s33 g=zgE g (((cst g).map toL).foldl apL (⟨0,fun _=>default⟩:Sl Line)) Fuel (⟨0,fun _=>default⟩:Sl Line) (0:Int):=by
    unfold s33;rw [e2];rfl
  have I:Inv33 g (((cst g).map toL).foldl apL (⟨0,fun _=>default⟩:Sl Line)) (((cst g).map toL).foldl apL (⟨0,fun _=>default⟩:Sl Line)).len (s33 g):=by rw [es];exact I
  refine ⟨?_,by have:=I.len;omega,I.mem,fun l ⟨s,hs,ha,e⟩=>?_,I.srt⟩
  · unfold p33
    rw [e1,e2]
    simp only [decide_true,Bool.true_and]
    exact a
  · obtain ⟨i, hi⟩ := List.getElem?_of_mem hs
    have hi2:i < (cst g).length:=(List.getElem?_eq_some_iff.1 hi).1
    have hgi:=hget i s hi
    obtain ⟨b,hb1,hb2⟩:=I.has i (by omega) (by rw [hgi];exact ⟨s,hs,ha,rfl⟩)
    exact ⟨b,hb1,by rw [hb2,hgi,e]⟩
end Go.Proofs
namespace Go.Proofs
open Go Go.Pm
set_option maxRecDepth 100000
def cmS (g:Sl Gate) (i:Nat) (s:Int×Int):Int×Int:=(if (g.get i).Low > s.1 then (g.get i).Low else s.1,if (g.get i).High < s.2 then (g.get i).High else s.2)
def com (g:Sl Gate):Int×Int:=zik (cmS g) (g.len - 1) 1 ((g.get 0).Low,(g.get 0).High)
theorem zPM (g:Sl Gate) (h:1≤g.len):zik (cmS g) g.len 0 ((g.get 0).Low,(g.get 0).High)=com g:=by
 obtain ⟨m,hm⟩:∃ m,g.len=m+1:=⟨g.len - 1,by omega⟩
 unfold com
 rw [hm]
 show zik (cmS g) m 1 (cmS g 0 ((g.get 0).Low,(g.get 0).High))=zik (cmS g) m 1 _
 have:cmS g 0 ((g.get 0).Low,(g.get 0).High)=((g.get 0).Low,(g.get 0).High):=by
  unfold cmS
  rw [if_neg (by show ¬ (g.get 0).Low > (g.get 0).Low;omega),if_neg (by show ¬ (g.get 0).High < (g.get 0).High;omega)]
 rw [this]
theorem zCV (g:Sl Gate) (G:zaC g):p98 ⟨g⟩=true∧s98 ⟨g⟩=⟨(com g).1,(com g).2⟩:=by
  have hl:=G.2
  have := zkz (σ := Int × Int) (step := cmS g) (E := fun s => (⟨s.1, s.2⟩ : Span)) (EP := fun _ => true) (Inv := fun _ _ => True) (a := 0) (n := g.len) (lpS := fun k s i => zhB ⟨g⟩ k i s.1 s.2) (lpP := fun k s i => zhC ⟨g⟩ k i s.1 s.2)
    (fun k i s _ hi _=>by
      show zhz ⟨g⟩ (zhB ⟨g⟩ k) (i:Int) s.1 s.2=_
      generalize zhB ⟨g⟩ k=S
      unfold zhz
      rw [decide_eq_true (show (i:Int) < ((⟨g⟩:list).Gates.len:Int) by show (i:Int) < (g.len:Int);omega),cond_true,Int.toNat_natCast]
      rfl)
    (fun k s=>by
      show zhz ⟨g⟩ (zhB ⟨g⟩ k) (g.len:Int) s.1 s.2=_
      unfold zhz
      rw [decide_eq_false (show ¬ (g.len:Int) < ((⟨g⟩:list).Gates.len:Int) by show ¬ (g.len:Int) < (g.len:Int);omega),cond_false])
    (fun k i s _ hi _=>by
      show zhA ⟨g⟩ (zhC ⟨g⟩ k) (i:Int) s.1 s.2=_
      generalize zhC ⟨g⟩ k=S
      unfold zhA
      rw [decide_eq_true (show (i:Int) < ((⟨g⟩:list).Gates.len:Int) by show (i:Int) < (g.len:Int);omega),decide_eq_true (show 0≤(i:Int)∧(i:Int) < ((⟨g⟩:list).Gates.len:Int) by show 0≤(i:Int)∧(i:Int) < (g.len:Int);omega),cond_true,Bool.true_and,Int.toNat_natCast]
      rfl)
    (fun k s=>by
      show zhA ⟨g⟩ (zhC ⟨g⟩ k) (g.len:Int) s.1 s.2=_
      unfold zhA
      rw [decide_eq_false (show ¬ (g.len:Int) < ((⟨g⟩:list).Gates.len:Int) by show ¬ (g.len:Int) < (g.len:Int);omega),cond_false])
    (fun _ _ _ _ _=>trivial) (Nat.zero_le _) (by omega) ((g.get 0).Low,(g.get 0).High) trivial
  obtain ⟨a,b⟩:=this
  rw [show g.len - 0=g.len from rfl,zPM g hl.1] at b
  refine ⟨?_,b⟩
  unfold p98
  rw [decide_eq_true (show 0≤(0:Int)∧(0:Int) < ((⟨g⟩:list).Gates.len:Int) from ⟨by omega,by show (0:Int) < (g.len:Int);omega⟩),Bool.true_and,Bool.true_and]
  exact a
theorem zzL (g:Sl Gate) (G:zaC g):p71 g=true∧s71 g=((com g).1,(com g).2,decide ((com g).1≤(com g).2)):=by
  have hl:=G.2
  have := zkz (σ := Int × Int) (step := cmS g) (E := fun s => (s.1, s.2, decide (s.1 ≤ s.2))) (EP := fun _ => true) (Inv := fun _ _ => True) (a := 1) (n := g.len) (lpS := fun k s i => zib g k s.1 s.2 i) (lpP := fun k s i => zic g k s.1 s.2 i)
    (fun k i s _ hi _=>by
      show zh9 g (zib g k) s.1 s.2 (i:Int)=_
      generalize zib g k=S
      unfold zh9
      rw [decide_eq_true (show (i:Int) < (g.len:Int) by omega),cond_true,Int.toNat_natCast]
      rfl)
    (fun k s=>by
      show zh9 g (zib g k) s.1 s.2 (g.len:Int)=_
      unfold zh9
      rw [decide_eq_false (show ¬ (g.len:Int) < (g.len:Int) by omega),cond_false])
    (fun k i s _ hi _=>by
      show zia g (zic g k) s.1 s.2 (i:Int)=_
      generalize zic g k=S
      unfold zia
      rw [decide_eq_true (show (i:Int) < (g.len:Int) by omega),decide_eq_true (show 0≤(i:Int)∧(i:Int) < (g.len:Int) by omega),cond_true,Bool.true_and,Bool.true_and,Int.toNat_natCast]
      rfl)
    (fun k s=>by
      show zia g (zic g k) s.1 s.2 (g.len:Int)=_
      unfold zia
      rw [decide_eq_false (show ¬ (g.len:Int) < (g.len:Int) by omega),cond_false])
    (fun _ _ _ _ _=>trivial) hl.1 (by omega) ((g.get 0).Low,(g.get 0).High) trivial
  obtain ⟨a,b⟩:=this
  refine ⟨?_,b⟩
  unfold p71
  rw [decide_eq_true (show 0≤(0:Int)∧(0:Int) < (g.len:Int) by omega),Bool.true_and,Bool.true_and]
  exact a
theorem zzM (g:Sl Gate) (G:zaC g):p66 (s65 g)=true∧p21 g=true∧s66 (s65 g)=s21 g:=by
 obtain ⟨C,_,c2,c3,c4,_⟩:=zsZ g G
 obtain ⟨a1,a2⟩:=zsY g G
 obtain ⟨b1,b2⟩:=zCV g G
 obtain ⟨d1,d2⟩:=zzL g G
 obtain ⟨e1,e2⟩:=zlo g G
 obtain ⟨f1,_,f3,f4,_⟩:=zov g G
 have h67:s67 ⟨g⟩=s22 g:=Bool.eq_iff_iff.2 (a2.trans e2.symm)
 have hcl:(C.foldl apL (ziH:Sl straight)).len=C.length:=by rw [zcc];simp
 rw [c2]
 unfold p66 s66 p21 s21
 show (decide (p98 ⟨g⟩=true) && (decide (p67 ⟨g⟩=true) && true))=true∧_∧cond (s67 ⟨g⟩) (decide ((s98 ⟨g⟩).Low≤(s98 ⟨g⟩).High)) (decide (((C.foldl apL (ziH:Sl straight)).len:Int) > 0))=_
 rw [a1,b1,b2,d1,d2,e1,f1,h67,hcl]
 refine ⟨by simp,by cases s22 g <;> simp,?_⟩
 cases s22 g
 ·rw [cond_false, cond_false]
  refine decide_eq_decide.2 ⟨fun h=>?_,fun h=>?_⟩
  ·obtain ⟨x, hx⟩ := List.exists_mem_of_length_pos (l := C) (by omega)
   obtain ⟨a,ha,_⟩:=f4 (toL x) ⟨x,(c3 x hx).1,(c3 x hx).2,rfl⟩
   omega
  ·obtain ⟨s, hs, ha, _⟩ := f3 0 (by omega)
   obtain ⟨x,hx,_⟩:=c4 s hs ha
   have:=List.length_pos_of_mem hx
   omega
 ·rfl
end Go.Proofs
namespace Go.Proofs
open Go Go.Pm
set_option maxRecDepth 100000
def FOK (f:Frac):Prop:=(-1000000000000≤f.Num∧f.Num≤1000000000000)∧1≤f.Den∧f.Den≤100000
def ltF (a b:Frac):Prop:=a.Num * b.Den < b.Num * a.Den
theorem zrB (x y:Int):zD6 x y < 0↔x < y:=by
 unfold zD6 zD4
 by_cases h:x < y
 ·simp [h]
 ·by_cases h2:x > y <;> simp [h,h2]
theorem zzN (x y:Int):zD6 x y > 0↔x > y:=by
 unfold zD6 zD4
 by_cases h:x < y
 ·have : ¬ x > y := by omega
  simp [h];omega
 ·by_cases h2:x > y <;> simp [h,h2]
theorem cross {a b:Frac} (ha:FOK a) (hb:FOK b):w64 (a.Num * b.Den)=a.Num * b.Den:=by
 have:=zkI ha.1.1 ha.1.2 (show 0≤b.Den by have:=hb.2;omega) hb.2.2
 exact zaP (by omega) (by omega)
theorem zzO {a b:Frac} (ha:FOK a) (hb:FOK b):zA0 a b=true↔ltF a b:=by
 unfold zA0 s69 ltF
 rw [cross ha hb,cross hb ha,decide_eq_true_eq,zrB]
theorem zzP {a b:Frac} (ha:FOK a) (hb:FOK b):zA1 a b=true↔ltF b a:=by
 unfold zA1 s69 ltF
 rw [cross ha hb,cross hb ha,decide_eq_true_eq,zzN]
theorem zgb {a b:Frac} (ha:FOK a) (hb:FOK b):s29 a b=true↔ltF a b:=by
 unfold s29 ltF
 rw [cross ha hb,cross hb ha,decide_eq_true_eq]
theorem zng {a b:Frac} (ha:0 < a.Den) (hb:0 < b.Den):ltF (red a.Num a.Den) (red b.Num b.Den)↔ltF a b:=by
 have a1:=zdN (num:=a.Num) ha
 have a2:=zdb (num:=a.Num) ha
 have b1:=zdN (num:=b.Num) hb
 have b2:=zdb (num:=b.Num) hb
 have ga:=zb9 (num:=a.Num) ha
 have gb:=zb9 (num:=b.Num) hb
 unfold ltF
 generalize red a.Num a.Den=x at *
 generalize red b.Num b.Den=y at *
 generalize (Int.gcd a.Num a.Den:Int)=G at *
 generalize (Int.gcd b.Num b.Den:Int)=K at *
 have hk:=Int.mul_pos ga gb
 have e1:a.Num * b.Den=(G * K) * (x.Num * y.Den):=by rw [← a1,← b2];ac_rfl
 have e2:b.Num * a.Den=(G * K) * (y.Num * x.Den):=by rw [← b1,← a2];ac_rfl
 rw [e1,e2]
 have:=zhf (x:=y.Num * x.Den) (y:=x.Num * y.Den) hk
 constructor
 ·intro h;exact Int.not_le.1 fun k=>absurd (this.1 k) (by omega)
 ·intro h;exact Int.not_le.1 fun k=>absurd (this.2 k) (by omega)
theorem zkD {f:Frac} (h:FOK f):FOK (red f.Num f.Den):=by
 obtain ⟨h1,h2,h3⟩:=h
 have hd:0 < f.Den:=by omega
 have:=zgG (num:=f.Num) hd
 have:=zkA (num:=f.Num) hd
 have:=zcG (num:=f.Num) hd
 exact ⟨⟨by omega,by omega⟩,by omega,by omega⟩
theorem zow {a b:Frac} (ha:0 < a.Den) (hb:0 < b.Den) (h1 : ¬ ltF a b) (h2 : ¬ ltF b a):red a.Num a.Den=red b.Num b.Den :=
 (zzE ha hb).2 (by unfold ltF at h1 h2;omega)
end Go.Proofs
namespace Go.Proofs
open Go Go.Pm
set_option maxRecDepth 100000
theorem zKP {x y X Y:Int} (h1 : -X≤x) (h2:x≤X) (h3 : -Y≤y) (h4:y≤Y) : -(X * Y)≤x * y∧x * y≤X * Y:=by
 rcases Int.le_total 0 y with h | h
 ·exact zkI h1 h2 h h4
 ·have := zkI (x := x) (y := -y) (X := X) (Y := Y) h1 h2 (by omega) (by omega)
  rw [Int.mul_neg] at this
  omega
theorem zs4 {s:straight} (S:SOK s) {z:Int} (hz : -200000≤z∧z≤200000):p28 (toL s) z=true∧s28 (toL s) z=red (plc s z) s.den:=by
 obtain ⟨S1,S2,S3⟩:=S
 have hd:0 < s.den:=by omega
 have g1:=zb9 (num:=s.slope) hd
 have g2:=zb9 (num:=s.start) hd
 have r1:=zgG (num:=s.slope) hd
 have r2:=zgG (num:=s.start) hd
 have e1:=zdN (num:=s.slope) hd
 have e2:=zdb (num:=s.slope) hd
 have e3:=zdN (num:=s.start) hd
 have e4:=zdb (num:=s.start) hd
 have p1:=zcG (num:=s.slope) hd
 have p2:=zcG (num:=s.start) hd
 have q1:=zkA (num:=s.slope) hd
 have q2:=zkA (num:=s.start) hd
 unfold p28 s28 zqZ zqY toL
 simp only
 generalize (red s.slope s.den).Num=a at *
 generalize (red s.slope s.den).Den=b at *
 generalize (red s.start s.den).Num=c at *
 generalize (red s.start s.den).Den=d at *
 generalize (Int.gcd s.slope s.den:Int)=G1 at *
 generalize (Int.gcd s.start s.den:Int)=G2 at *
 obtain ⟨k1,k2⟩:=zCR d b (by omega) (by omega) (by omega)
 have g0:=zb9 (num:=d) p1
 obtain ⟨d',hd'⟩:=zNV d b
 obtain ⟨b',hb'⟩:=zNW d b
 rw [k1,k2]
 generalize (Int.gcd d b:Int)=g at *
 have pd:0 < d':=by
  rcases Int.lt_or_le 0 d' with h | h
  ·exact h
  ·have:=Int.mul_le_mul_of_nonneg_left h (Int.le_of_lt g0);rw [← hd',Int.mul_zero] at this;omega
 have pb:0 < b':=by
  rcases Int.lt_or_le 0 b' with h | h
  ·exact h
  ·have:=Int.mul_le_mul_of_nonneg_left h (Int.le_of_lt g0);rw [← hb',Int.mul_zero] at this;omega
 have ld:d'≤d:=by have:=Int.mul_le_mul_of_nonneg_right (show 1≤g by omega) (Int.le_of_lt pd);omega
 have lb:b'≤b:=by have:=Int.mul_le_mul_of_nonneg_right (show 1≤g by omega) (Int.le_of_lt pb);omega
 have t1:d.tdiv g=d':=by rw [hd'];exact Int.mul_tdiv_cancel_left _ (by omega)
 have m1:=zkI (x:=d') (X:=100000) (y:=b) (Y:=100000) (by omega) (by omega) (by omega) (by omega)
 have m2:=Int.mul_pos pd p1
 have t2:(d' * b).tdiv d=b':=by
  have:d' * b=d * b':=by rw [hb',hd'];ac_rfl
  rw [this];exact Int.mul_tdiv_cancel_left _ (by omega)
 have t3:(d' * b).tdiv b=d':=by rw [Int.mul_comm];exact Int.mul_tdiv_cancel_left _ (by omega)
 have m3:=zkI (x:=c) (X:=200000000000) (y:=b') (Y:=100000) (by omega) (by omega) (by omega) (by omega)
 have m4:=zkI (x:=a) (X:=2000000) (y:=d') (Y:=100000) (by omega) (by omega) (by omega) (by omega)
 have m5:=zKP (x:=a * d') (X:=2000000 * 100000) (y:=z) (Y:=200000) (by omega) (by omega) (by omega) (by omega)
 rw [t1,zaP (x:=d') (by omega) (by omega),zaP (x:=d' * b) (by omega) (by omega),t2,t3,zaP (x:=b') (by omega) (by omega),zaP (x:=d') (by omega) (by omega),zaP (x:=c * b') (by omega) (by omega),zaP (x:=a * d') (by omega) (by omega),zaP (x:=a * d' * z) (by omega) (by omega),zaP (x:=c * b'+a * d' * z) (by omega) (by omega)]
 obtain ⟨x1,x2⟩:=zfz (num:=c * b'+a * d' * z) (den:=d' * b) (by omega) (by omega) (by omega) (by omega)
 rw [x1,x2,decide_eq_true (show g ≠ 0 by omega),decide_eq_true (show d ≠ 0 by omega),decide_eq_true (show b ≠ 0 by omega)]
 refine ⟨by simp,(zzE m2 hd).2 ?_⟩
 unfold plc
 have u1:c * b' * s.den=s.start * (d' * b):=by
  rw [← e3,← e4,hb',hd'];ac_rfl
 have u2:a * d' * z * s.den=s.slope * z * (d' * b):=by
  rw [← e1,← e2];ac_rfl
 rw [Int.add_mul,Int.add_mul,u1,u2]
theorem zfV {a b c:Frac} (ha:0 < a.Den) (hb:0 < b.Den) (hc:0 < c.Den) (h1 : ¬ ltF b a) (h2 : ¬ ltF c b) : ¬ ltF c a:=by
 unfold ltF at *
 intro h3
 -- a ≤ b, b ≤ c, c < a
 have x1:a.Num * b.Den≤b.Num * a.Den:=by omega
 have x2:b.Num * c.Den≤c.Num * b.Den:=by omega
 have y1:=Int.mul_le_mul_of_nonneg_right x1 (Int.le_of_lt hc)
 have y2:=Int.mul_le_mul_of_nonneg_right x2 (Int.le_of_lt ha)
 have y3:=Int.mul_lt_mul_of_pos_right h3 hb
 have z1:b.Num * a.Den * c.Den=b.Num * c.Den * a.Den:=by ac_rfl
 have z2:c.Num * b.Den * a.Den=c.Num * a.Den * b.Den:=by ac_rfl
 have z3:a.Num * b.Den * c.Den=a.Num * c.Den * b.Den:=by ac_rfl
 omega
def zeQ (v:Sl Frac) (f:Frac):Prop:=(∃ i,i < v.len∧v.get i=f)∧∀ j,j < v.len→¬ ltF (v.get j) f
def zeR (v:Sl Frac) (f:Frac):Prop:=(∃ i,i < v.len∧v.get i=f)∧∀ j,j < v.len→¬ ltF f (v.get j)
theorem zHv (v:Sl Frac) (h1:1≤v.len) (h2:v.len≤100000) (hv:∀ i,i < v.len→FOK (v.get i)):zHJ v=true∧zeQ v (zpA v):=by
  have key:∀ (m k i:Nat) (sl:Sl Frac) (o:Frac),sl.len=v.len - 1→(∀ x,sl.get x=v.get (x+1))→i+m=v.len - 1→m < k→(∃ a,a < v.len∧v.get a=o)→(∀ j,j≤i→¬ ltF (v.get j) o) →
      zfK v k sl (i:Int) o.Num o.Den=true∧zeQ v (zfJ v k sl (i:Int) o.Num o.Den):=by
    intro m
    induction m with
    | zero =>
      intro k i sl o hs hg hi hk ho hl
      obtain ⟨k,rfl⟩:∃ k',k=k'+1:=⟨k - 1,by omega⟩
      show zfI v (zfK v k) _ _ _ _=_∧zeQ v (zfH v (zfJ v k) _ _ _ _)
      unfold zfI zfH
      rw [decide_eq_false (show ¬ (i:Int) < (((v.len:Int) - (1:Int)).toNat:Int) by omega),cond_false,cond_false]
      exact ⟨rfl,ho,fun j hj=>hl j (by omega)⟩
    | succ m ih =>
      intro k i sl o hs hg hi hk ho hl
      obtain ⟨k,rfl⟩:∃ k',k=k'+1:=⟨k - 1,by omega⟩
      have ih:=fun o ho hl=>ih k (i+1) sl o hs hg (by omega) (by omega) ho hl
      show zfI v (zfK v k) _ _ _ _=_∧zeQ v (zfH v (zfJ v k) _ _ _ _)
      generalize zfK v k=P at ih
      generalize zfJ v k=S at ih
      unfold zfI zfH zmb zma
      have ho':=ho
      obtain ⟨a,ha,ea⟩:=ho'
      have fo:FOK o:=ea ▸ hv a ha
      have fx:=hv (i+1) (by omega)
      rw [decide_eq_true (show (i:Int) < (((v.len:Int) - (1:Int)).toNat:Int) by omega),decide_eq_true (show 0≤(i:Int)∧(i:Int) < (sl.len:Int) by omega),cond_true,cond_true,Bool.true_and,Int.toNat_natCast,hg,zbz (n:=v.len) (by omega) (by omega)]
      by_cases hlt:ltF (v.get (i+1)) o
      · rw [show zA0 (v.get (i + 1)) (⟨o.Num, o.Den⟩ : Frac) = true from (zzO fx fo).2 hlt, cond_true, cond_true]
        refine ih (v.get (i+1)) ⟨i+1,by omega,rfl⟩ fun j hj=>?_
        by_cases hji:j=i+1
        · rw [hji];unfold ltF;omega
        · have g1 := hl j (by omega)
          have fj:=hv j (by omega)
          refine zfV (b:=o) (by have:=fx.2;omega) (by have:=fo.2;omega) (by have:=fj.2;omega) ?_ g1
          unfold ltF at hlt ⊢;omega
      · have e:zA0 (v.get (i+1)) (⟨o.Num,o.Den⟩:Frac)=false:=by
          cases h:zA0 (v.get (i+1)) (⟨o.Num,o.Den⟩:Frac)
          · rfl
          · exact absurd ((zzO fx fo).1 h) hlt
        rw [e,cond_false,cond_false]
        refine ih o ho fun j hj=>?_
        by_cases hji:j=i+1
        · rw [hji];exact hlt
        · exact hl j (by omega)
  have hk := key (v.len - 1) Fuel 0 (⟨((v.len : Int) - (1:Int)).toNat, (fun i => v.get (i + ((1:Int).toNat)))⟩ : Sl Frac) (v.get 0) (by show ((v.len : Int) - (1:Int)).toNat = _; omega) (fun _ => rfl) (by omega) (by simp only [Fuel]; omega) ⟨0, by omega, rfl⟩
    (fun j hj => by have : j = 0 := by omega
                    rw [this];unfold ltF;omega)
  refine ⟨?_,hk.2⟩
  unfold zHJ
  rw [decide_eq_true (show 0≤(0:Int)∧(0:Int) < (v.len:Int) by omega),decide_eq_true (show 0≤(1:Int)∧(1:Int)≤(v.len:Int)∧(v.len:Int)≤(v.len:Int) by omega),Bool.true_and,Bool.true_and]
  exact hk.1
end Go.Proofs
namespace Go.Proofs
open Go Go.Pm
set_option maxRecDepth 100000
theorem zBG (v:Sl Frac) (h1:1≤v.len) (h2:v.len≤100000) (hv:∀ i,i < v.len→FOK (v.get i)):ztF v=true∧zeR v (s111a v):=by
  have key:∀ (m k i:Nat) (sl:Sl Frac) (o:Frac),sl.len=v.len - 1→(∀ x,sl.get x=v.get (x+1))→i+m=v.len - 1→m < k→(∃ a,a < v.len∧v.get a=o)→(∀ j,j≤i→¬ ltF o (v.get j)) →
      zeh v k sl (i:Int) o.Num o.Den=true∧zeR v (zeg v k sl (i:Int) o.Num o.Den):=by
    intro m
    induction m with
    | zero =>
      intro k i sl o hs hg hi hk ho hl
      obtain ⟨k,rfl⟩:∃ k',k=k'+1:=⟨k - 1,by omega⟩
      show zef v (zeh v k) _ _ _ _=_∧zeR v (zee v (zeg v k) _ _ _ _)
      unfold zef zee
      rw [decide_eq_false (show ¬ (i:Int) < (((v.len:Int) - (1:Int)).toNat:Int) by omega),cond_false,cond_false]
      exact ⟨rfl,ho,fun j hj=>hl j (by omega)⟩
    | succ m ih =>
      intro k i sl o hs hg hi hk ho hl
      obtain ⟨k,rfl⟩:∃ k',k=k'+1:=⟨k - 1,by omega⟩
      have ih:=fun o ho hl=>ih k (i+1) sl o hs hg (by omega) (by omega) ho hl
      show zef v (zeh v k) _ _ _ _=_∧zeR v (zee v (zeg v k) _ _ _ _)
      generalize zeh v k=P at ih
      generalize zeg v k=S at ih
      unfold zef zee zjU zjT
      have ho':=ho
      obtain ⟨a,ha,ea⟩:=ho'
      have fo:FOK o:=ea ▸ hv a ha
      have fx:=hv (i+1) (by omega)
      rw [decide_eq_true (show (i:Int) < (((v.len:Int) - (1:Int)).toNat:Int) by omega),decide_eq_true (show 0≤(i:Int)∧(i:Int) < (sl.len:Int) by omega),cond_true,cond_true,Bool.true_and,Int.toNat_natCast,hg,zbz (n:=v.len) (by omega) (by omega)]
      by_cases hlt:ltF o (v.get (i+1))
      · rw [show zA1 (v.get (i + 1)) (⟨o.Num, o.Den⟩ : Frac) = true from (zzP fx fo).2 hlt, cond_true, cond_true]
        refine ih (v.get (i+1)) ⟨i+1,by omega,rfl⟩ fun j hj=>?_
        by_cases hji:j=i+1
        · rw [hji];unfold ltF;omega
        · have g1 := hl j (by omega)
          have fj:=hv j (by omega)
          refine zfV (b:=o) (by have:=fj.2;omega) (by have:=fo.2;omega) (by have:=fx.2;omega) g1 ?_
          unfold ltF at hlt ⊢;omega
      · have e:zA1 (v.get (i+1)) (⟨o.Num,o.Den⟩:Frac)=false:=by
          cases h:zA1 (v.get (i+1)) (⟨o.Num,o.Den⟩:Frac)
          · rfl
          · exact absurd ((zzP fx fo).1 h) hlt
        rw [e,cond_false,cond_false]
        refine ih o ho fun j hj=>?_
        by_cases hji:j=i+1
        · rw [hji];exact hlt
        · exact hl j (by omega)
  have hk := key (v.len - 1) Fuel 0 (⟨((v.len : Int) - (1:Int)).toNat, (fun i => v.get (i + ((1:Int).toNat)))⟩ : Sl Frac) (v.get 0) (by show ((v.len : Int) - (1:Int)).toNat = _; omega) (fun _ => rfl) (by omega) (by simp only [Fuel]; omega) ⟨0, by omega, rfl⟩
    (fun j hj => by have : j = 0 := by omega
                    rw [this];unfold ltF;omega)
  refine ⟨?_,hk.2⟩
  unfold ztF
  rw [decide_eq_true (show 0≤(0:Int)∧(0:Int) < (v.len:Int) by omega),decide_eq_true (show 0≤(1:Int)∧(1:Int)≤(v.len:Int)∧(v.len:Int)≤(v.len:Int) by omega),Bool.true_and,Bool.true_and]
  exact hk.1
theorem zzQ {w : Nat → Frac} {n : Nat} (h1 : 1 ≤ n) (hn : n ≤ 100000) (hw : ∀ j, j < n → FOK (w j)) {lpS : Nat → Int → Frac → Frac → Frac × Frac} {lpP : Nat → Int → Frac → Frac → Bool}
    (hS:∀ (k i:Nat) (a b:Frac),i < n→lpS (k+1) (i:Int) a b=lpS k (w64 ((i:Int)+(1:Int))) (cond (s29 (w i) a) (w i) a) (cond (s29 b (w i)) (w i) b))
    (hE:∀ (k:Nat) (a b:Frac),lpS (k+1) (n:Int) a b=(a,b))
    (hP:∀ (k i:Nat) (a b:Frac),i < n→lpP (k+1) (i:Int) a b=lpP k (w64 ((i:Int)+(1:Int))) (cond (s29 (w i) a) (w i) a) (cond (s29 b (w i)) (w i) b))
    (hF:∀ (k:Nat) (a b:Frac),lpP (k+1) (n:Int) a b=true) :
    lpP Fuel (1:Int) (w 0) (w 0)=true∧zeQ ⟨n,w⟩ (lpS Fuel (1:Int) (w 0) (w 0)).1∧zeR ⟨n,w⟩ (lpS Fuel (1:Int) (w 0) (w 0)).2:=by
  have key:∀ (m k i:Nat) (a b:Frac),i+m=n→m < k→(∃ j,j < n∧w j=a)→(∃ j,j < n∧w j=b)→(∀ j,j < i→¬ ltF (w j) a)→(∀ j,j < i→¬ ltF b (w j)) →
      lpP k (i:Int) a b=true∧zeQ ⟨n,w⟩ (lpS k (i:Int) a b).1∧zeR ⟨n,w⟩ (lpS k (i:Int) a b).2:=by
    intro m
    induction m with
    | zero =>
      intro k i a b hi hk ha hb hl hg
      obtain ⟨k,rfl⟩:∃ k',k=k'+1:=⟨k - 1,by omega⟩
      obtain rfl:i=n:=by omega
      rw [hE,hF]
      exact ⟨rfl,⟨ha,hl⟩,hb,hg⟩
    | succ m ih =>
      intro k i a b hi hk ha hb hl hg
      obtain ⟨k,rfl⟩:∃ k',k=k'+1:=⟨k - 1,by omega⟩
      have hin:i < n:=by omega
      rw [hS k i a b hin,hP k i a b hin,zbz (n:=n) hin (by omega)]
      have fi:=hw i hin
      have fa:FOK a:=by obtain ⟨j,hj,e⟩:=ha;exact e ▸ hw j hj
      have fb:FOK b:=by obtain ⟨j,hj,e⟩:=hb;exact e ▸ hw j hj
      have pi:=fi.2;have pa:=fa.2;have pb:=fb.2
      refine ih k (i+1) _ _ (by omega) (by omega) ?_ ?_ ?_ ?_
      · cases s29 (w i) a
        · exact ha
        · exact ⟨i,hin,rfl⟩
      · cases s29 b (w i)
        · exact hb
        · exact ⟨i,hin,rfl⟩
      · intro j hj
        cases e:s29 (w i) a
        · by_cases hji : j = i
          · rw [hji];intro h;rw [(zgb fi fa).2 h] at e;cases e
          · exact hl j (by omega)
        · have hlt := (zgb fi fa).1 e
          show ¬ ltF (w j) (w i)
          by_cases hji:j=i
          · rw [hji];unfold ltF;omega
          · have fj := (hw j (by omega)).2
            refine zfV (b:=a) (by omega) (by omega) (by omega) ?_ (hl j (by omega))
            unfold ltF at hlt ⊢;omega
      · intro j hj
        cases e:s29 b (w i)
        · by_cases hji : j = i
          · rw [hji];intro h;rw [(zgb fb fi).2 h] at e;cases e
          · exact hg j (by omega)
        · have hlt := (zgb fb fi).1 e
          show ¬ ltF (w i) (w j)
          by_cases hji:j=i
          · rw [hji];unfold ltF;omega
          · have fj := (hw j (by omega)).2
            refine zfV (b:=b) (by omega) (by omega) (by omega) (hg j (by omega)) ?_
            unfold ltF at hlt ⊢;omega
  exact key (n - 1) Fuel 1 (w 0) (w 0) (by omega) (by simp only [Fuel]; omega) ⟨0, by omega, rfl⟩ ⟨0, by omega, rfl⟩
    (fun j hj => by have : j = 0 := by omega
                    rw [this]; unfold ltF; omega) (fun j hj => by have : j = 0 := by omega
                                                                  rw [this];unfold ltF;omega)
abbrev rd_ (f:Frac):Frac:=red f.Num f.Den
theorem ztN {f:Frac} (h:0 < f.Den):rd_ (rd_ f)=rd_ f:=by
 have p:=zcG (num:=f.Num) h
 refine (zzE p h).2 ?_
 have e1:=zdN (num:=f.Num) h
 have e2:=zdb (num:=f.Num) h
 show (red f.Num f.Den).Num * f.Den=f.Num * (red f.Num f.Den).Den
 generalize red f.Num f.Den=x at *
 generalize (Int.gcd f.Num f.Den:Int)=G at *
 rw [← e1,← e2];ac_rfl
theorem zox {a b:Frac} (ha:0 < a.Den) (hb:0 < b.Den):ltF (rd_ a) b↔ltF a b:=by
 have p:=zcG (num:=a.Num) ha
 have e:red (rd_ a).Num (rd_ a).Den=red a.Num a.Den:=ztN ha
 rw [← zng (a:=rd_ a) (b:=b) p hb,e,zng ha hb]
theorem zoy {a b:Frac} (ha:0 < a.Den) (hb:0 < b.Den):ltF a (rd_ b)↔ltF a b:=by
 have p:=zcG (num:=b.Num) hb
 have e:red (rd_ b).Num (rd_ b).Den=red b.Num b.Den:=ztN hb
 rw [← zng (a:=a) (b:=rd_ b) ha p,e,zng ha hb]
def Cor (g:Sl Gate) (s:straight):Prop:=s∈cst g∧ztO g s
def Bd (g:Sl Gate) (F:straight→Frac) (lo hi:Frac):Prop :=
 ((∃ s,Cor g s∧rd_ (F s)=lo)∧∀ s,Cor g s→¬ ltF (F s) lo)∧(∃ s,Cor g s∧rd_ (F s)=hi)∧∀ s,Cor g s→¬ ltF hi (F s)
theorem zzR {g:Sl Gate} {F:straight→Frac} (hF:∀ s,Cor g s→FOK (F s)) {a b c d:Frac} (h1:Bd g F a b) (h2:Bd g F c d):a=c∧b=d:=by
 obtain ⟨⟨⟨s,hs,e1⟩,l1⟩,⟨t,ht,e2⟩,g1⟩:=h1
 obtain ⟨⟨⟨u,hu,e3⟩,l2⟩,⟨v,hv,e4⟩,g2⟩:=h2
 have ps:=(hF s hs).2;have pt:=(hF t ht).2;have pu:=(hF u hu).2;have pv:=(hF v hv).2
 refine ⟨?_,?_⟩
 ·rw [← e1, ← e3]
  refine zow (by omega) (by omega) ?_ ?_
  ·have:=l2 s hs;rw [← e3,zoy (by omega) (by omega)] at this;exact this
  ·have:=l1 u hu;rw [← e1,zoy (by omega) (by omega)] at this;exact this
 ·rw [← e2, ← e4]
  refine zow (by omega) (by omega) ?_ ?_
  ·have:=g1 v hv;rw [← e2,zox (by omega) (by omega)] at this;exact this
  ·have:=g2 t ht;rw [← e4,zox (by omega) (by omega)] at this;exact this
theorem zKQ {g : Sl Gate} {F : straight → Frac} (hF : ∀ s, Cor g s → FOK (F s)) {v : Sl Frac} {lo hi : Frac} (h1 : ∀ i, i < v.len → ∃ s, Cor g s ∧ rd_ (F s) = rd_ (v.get i) ∧ 0 < (v.get i).Den)
    (h2:∀ s,Cor g s→∃ i,i < v.len∧rd_ (F s)=rd_ (v.get i)) (hl:zeQ v lo) (hg:zeR v hi):Bd g F (rd_ lo) (rd_ hi):=by
  obtain ⟨⟨i,hi1,ei⟩,l⟩:=hl
  obtain ⟨⟨j,hj1,ej⟩,r⟩:=hg
  obtain ⟨si,ci,ri,pi⟩:=h1 i hi1
  obtain ⟨sj,cj,rj,pj⟩:=h1 j hj1
  refine ⟨⟨⟨si,ci,by rw [ri,ei]⟩,fun s hs=>?_⟩,⟨sj,cj,by rw [rj,ej]⟩,fun s hs=>?_⟩
  · obtain ⟨k, hk, ek⟩ := h2 s hs
    have ps:=(hF s hs).2
    obtain ⟨_,_,_,pk⟩:=h1 k hk
    rw [ei] at pi
    rw [zoy (by omega) pi,← zox (by omega) pi,ek,zox pk pi]
    exact l k hk
  · obtain ⟨k, hk, ek⟩ := h2 s hs
    have ps:=(hF s hs).2
    obtain ⟨_,_,_,pk⟩:=h1 k hk
    rw [ej] at pj
    rw [zox pj (by omega),← zoy pj (by omega),ek,zoy pj pk]
    exact r k hk
end Go.Proofs
namespace Go.Proofs
open Go Go.Pm
set_option maxRecDepth 100000
abbrev plF (z:Int) (s:straight):Frac:=⟨plc s z,s.den⟩
abbrev slF (s:straight):Frac:=⟨s.slope,s.den⟩
theorem zzS {s:straight} (S:SOK s) {z:Int} (hz : -200000≤z∧z≤200000):(-400000000000≤s.slope * z∧s.slope * z≤400000000000)∧-600000000000≤plc s z∧plc s z≤600000000000:=by
 have:=zKP S.1.1 S.1.2 hz.1 hz.2
 have:=S.2.1
 unfold plc
 omega
theorem zoz {s:straight} (S:SOK s) {z:Int} (hz : -200000≤z∧z≤200000):FOK (plF z s) :=
 ⟨⟨by show -1000000000000≤plc s z;have:=zzS S hz;omega,by show plc s z≤1000000000000;have:=zzS S hz;omega⟩,S.2.2⟩
theorem zs5 {s:straight} (S:SOK s):FOK (slF s):=⟨⟨by show -1000000000000≤s.slope;have:=S.1;omega,by show s.slope≤1000000000000;have:=S.1;omega⟩,S.2.2⟩
theorem zHw {s:straight} (S:SOK s) {z:Int} (hz : -200000≤z∧z≤200000):zvz z s=plF z s:=by
 obtain ⟨a,b⟩:=zzS S hz
 unfold plc at b
 unfold zvz zI8 plF plc
 rw [zaP (x:=s.slope * z) (by omega) (by omega),zaP (x:=s.start+s.slope * z) (by omega) (by omega)]
theorem zdU {g:Sl Gate} (G:zaC g) {s:straight} (h:Cor g s):SOK s:=zkB G h.1
abbrev lst {α:Type} [Inhabited α] (l:List α):Sl α:=l.foldl apL ziH
theorem zkE {α:Type} [Inhabited α] (l:List α):(lst l).len=l.length:=by
 show (l.foldl apL ziH).len=_
 rw [zcc];simp [ziH]
theorem znh {α:Type} [Inhabited α] {l:List α} {i:Nat} {x:α} (h:l[i]? = some x):(lst l).get i=x:=by
 have:=zhg l ziH i x h
 rw [show (ziH:Sl α).len+i=i from Nat.zero_add i] at this;exact this
structure CorL (g : Sl Gate) (C : List straight) : Prop where
  len:C.length≤100000
  mem:∀ s∈C,Cor g s
  all:∀ s,Cor g s→∃ x∈C,toL x=toL s
theorem zzT {g:Sl Gate} {C:List straight} (h:CorL g C):(1≤C.length)↔∃ s,Cor g s:=by
 constructor
 ·intro h1
  match C,h1 with
  | x :: C,_=>exact ⟨x,h.mem x List.mem_cons_self⟩
 ·intro ⟨s, hs⟩
  obtain ⟨x,hx,_⟩:=h.all s hs
  exact List.length_pos_of_mem hx
def frS (F:straight→Frac) (C:List straight):Sl Frac:=lst (C.map F)
theorem zKR {g : Sl Gate} (G : zaC g) {C : List straight} (H : CorL g C) {F : straight → Frac} (hF : ∀ s, Cor g s → FOK (F s)) (hc : ∀ x y, Cor g x → Cor g y → toL x = toL y → rd_ (F x) = rd_ (F y)) {lo hi : Frac}
    (hl:zeQ (frS F C) lo) (hg:zeR (frS F C) hi):Bd g F (rd_ lo) (rd_ hi):=by
  have get:∀ (i:Nat) (s:straight),C[i]? = some s→(frS F C).get i=F s:=fun i s h=>znh (by rw [List.getElem?_map,h];rfl)
  refine zKQ hF (fun i hi=>?_) (fun s hs=>?_) hl hg
  · have hi : i < C.length := by have := zkE (C.map F); rw [List.length_map] at this; exact this ▸ hi
    have e:=List.getElem?_eq_getElem hi
    have m:=H.mem _ (List.getElem_mem hi)
    rw [get i _ e]
    exact ⟨_,m,rfl,by have:=(hF _ m).2;omega⟩
  · obtain ⟨x, hx, ex⟩ := H.all s hs
    obtain ⟨i,hi,rfl⟩:=List.getElem_of_mem hx
    refine ⟨i,?_,?_⟩
    · have:=zkE (C.map F);rw [List.length_map] at this;exact this.symm ▸ hi
    · rw [get i _ (List.getElem?_eq_getElem hi)]
      exact hc _ _ hs (H.mem _ hx) ex.symm
theorem zHx {g:Sl Gate} (G:zaC g) {z:Int} (hz : -200000≤z∧z≤200000) (x y:straight) (hx:Cor g x) (hy:Cor g y) (h:toL x=toL y):rd_ (plF z x)=rd_ (plF z y):=by
 have a:=(zs4 (zdU G hx) hz).2
 have b:=(zs4 (zdU G hy) hz).2
 show red (plc x z) x.den=red (plc y z) y.den
 rw [← a,← b,h]
theorem zHy {x y:straight} (h:toL x=toL y):rd_ (slF x)=rd_ (slF y):=congrArg Line.Slope h
theorem zni (F:straight→Frac) (C:List straight):(frS F C).len=C.length:=by
 have:=zkE (C.map F);rw [List.length_map] at this;exact this
theorem zHz {g:Sl Gate} {C:List straight} (H:CorL g C) {F:straight→Frac} (hF:∀ s,Cor g s→FOK (F s)):∀ i,i < (frS F C).len→FOK ((frS F C).get i):=by
 intro i hi
 have hi:i < C.length:=zni F C ▸ hi
 have:(frS F C).get i=F C[i]:=znh (by rw [List.getElem?_map,List.getElem?_eq_getElem hi];rfl)
 rw [this]
 exact hF _ (H.mem _ (List.getElem_mem hi))
theorem zzU {g : Sl Gate} (G : zaC g) {C : List straight} (H : CorL g C) (h1 : 1 ≤ C.length) {F : straight → Frac} (hF : ∀ s, Cor g s → FOK (F s)) (hc : ∀ x y, Cor g x → Cor g y → toL x = toL y → rd_ (F x) = rd_ (F y)) :
  zmc (frS F C)=true∧Bd g F (zeE (frS F C)).1 (zeE (frS F C)).2:=by
 have hn:=zni F C
 have hl:=H.len
 have fv:=zHz H hF
 obtain ⟨a1,a2⟩:=zHv (frS F C) (by omega) (by omega) fv
 obtain ⟨b1,b2⟩:=zBG (frS F C) (by omega) (by omega) fv
 have B:=zKR G H hF hc a2 b2
 have fa:FOK (zpA (frS F C)):=by obtain ⟨⟨i,hi,e⟩,_⟩:=a2;exact e ▸ fv i hi
 have fb:FOK (s111a (frS F C)):=by obtain ⟨⟨i,hi,e⟩,_⟩:=b2;exact e ▸ fv i hi
 obtain ⟨fa1,fa2⟩:=fa
 obtain ⟨fb1,fb2⟩:=fb
 obtain ⟨c1,c2⟩:=ziz (num:=(zpA (frS F C)).Num) (den:=(zpA (frS F C)).Den) (by omega) (by omega) (by omega) (by omega)
 obtain ⟨d1,d2⟩:=ziz (num:=(s111a (frS F C)).Num) (den:=(s111a (frS F C)).Den) (by omega) (by omega) (by omega) (by omega)
 unfold zmc zeE zpG zpF zpE zpD
 rw [a1,b1,c1,d1]
 refine ⟨by simp,?_⟩
 show Bd g F (s89 _ _) (s89 _ _)
 rw [c2,d2]
 exact B
theorem zzV {F:straight→Frac} {C:List straight} {i:Nat} (hi:i < C.length):frS F (C.take (i+1))=apL (frS F (C.take i)) (F ((lst C).get i)):=by
 have e:=znh (List.getElem?_eq_getElem hi)
 unfold frS
 rw [List.take_succ_eq_append_getElem hi,List.map_append]
 show (List.map F (C.take i) ++ List.map F [C[i]]).foldl apL ziH=_
 rw [List.foldl_append]
 show apL (lst (List.map F (List.take i C))) (F C[i])=_
 rw [e]
theorem zKS {g : Sl Gate} (G : zaC g) {C : List straight} (H : CorL g C) (h1 : 1 ≤ C.length) {z : Int} (hz : -200000 ≤ z ∧ z ≤ 200000) :
  p82 z ⟨⟨g⟩,lst C⟩=true∧Bd g (plF z) (s82 z ⟨⟨g⟩,lst C⟩).1 (s82 z ⟨⟨g⟩,lst C⟩).2:=by
 have hn:=zkE C
 have hl:=H.len
 obtain ⟨x1,x2⟩:=zzU G H h1 (F:=plF z) (fun s hs=>zoz (zdU G hs) hz) (zHx G hz)
 have key:∀ (m k i:Nat),i+m=C.length→m < k→zhG z ⟨⟨g⟩,lst C⟩ k (i:Int) (frS (plF z) (C.take i))=true∧zhF z ⟨⟨g⟩,lst C⟩ k (i:Int) (frS (plF z) (C.take i))=zeE (frS (plF z) C):=by
  intro m
  induction m with
  | zero =>
   intro k i hi hk
   obtain ⟨k,rfl⟩:∃ k',k=k'+1:=⟨k - 1,by omega⟩
   show zhE z ⟨⟨g⟩,lst C⟩ (zhG z ⟨⟨g⟩,lst C⟩ k) (i:Int) _=_∧zhD z ⟨⟨g⟩,lst C⟩ (zhF z ⟨⟨g⟩,lst C⟩ k) (i:Int) _=_
   unfold zhE zhD
   rw [decide_eq_false (show ¬ (i:Int) < (((⟨⟨g⟩,lst C⟩:set).corners.len:Nat):Int) by show ¬ (i:Int) < ((lst C).len:Int);omega),cond_false,cond_false,List.take_of_length_le (by omega)]
   exact ⟨x1,rfl⟩
  | succ m ih =>
   intro k i hi hk
   obtain ⟨k,rfl⟩:∃ k',k=k'+1:=⟨k - 1,by omega⟩
   have ih:=ih k (i+1) (by omega) (by omega)
   have hiC:i < C.length:=by omega
   show zhE z ⟨⟨g⟩,lst C⟩ (zhG z ⟨⟨g⟩,lst C⟩ k) (i:Int) _=_∧zhD z ⟨⟨g⟩,lst C⟩ (zhF z ⟨⟨g⟩,lst C⟩ k) (i:Int) _=_
   generalize zhG z ⟨⟨g⟩,lst C⟩ k=P at ih
   generalize zhF z ⟨⟨g⟩,lst C⟩ k=S at ih
   have so:zvz z ((lst C).get i)=plF z ((lst C).get i):=by
    rw [znh (List.getElem?_eq_getElem hiC)]
    exact zHw (zdU G (H.mem _ (List.getElem_mem hiC))) hz
   have hv:=zni (plF z) (C.take i)
   rw [List.length_take] at hv
   unfold zhE zhD
   rw [decide_eq_true (show (i:Int) < (((⟨⟨g⟩,lst C⟩:set).corners.len:Nat):Int) by show (i:Int) < ((lst C).len:Int);omega),cond_true,cond_true,
    decide_eq_true (show 0≤(i:Int)∧(i:Int) < (((⟨⟨g⟩,lst C⟩:set).corners.len:Nat):Int) by show 0≤(i:Int)∧(i:Int) < ((lst C).len:Int);omega),Bool.true_and,
    decide_eq_true (show ((frS (plF z) (C.take i)).len+1) * 16≤140737488355328∧(frS (plF z) (C.take i)).len+1≤9223372036854775807 by omega),Bool.true_and,zbz (n:=C.length) hiC (by omega),Int.toNat_natCast]
   have e:=zzV (F:=plF z) hiC
   rw [e] at ih
   show P ((i+1:Nat):Int) (apL (frS (plF z) (C.take i)) (zvz z ((lst C).get i)))=true∧S ((i+1:Nat):Int) (apL (frS (plF z) (C.take i)) (zvz z ((lst C).get i)))=_
   rw [so]
   exact ih
 have h:=key C.length Fuel 0 (by omega) (by simp only [Fuel];omega)
 have h2:s82 z ⟨⟨g⟩,lst C⟩=zeE (frS (plF z) C):=h.2
 exact ⟨h.1,by rw [h2];exact x2⟩
theorem zHA {g : Sl Gate} (G : zaC g) {C : List straight} (H : CorL g C) (h1 : 1 ≤ C.length) :
  zLd ⟨⟨g⟩,lst C⟩=true∧Bd g slF (zA9 ⟨⟨g⟩,lst C⟩).1 (zA9 ⟨⟨g⟩,lst C⟩).2:=by
 have hn:=zkE C
 have hl:=H.len
 obtain ⟨x1,x2⟩:=zzU G H h1 (F:=slF) (fun s hs=>zs5 (zdU G hs)) (fun _ _ _ _ h=>zHy h)
 have key:∀ (m k i:Nat),i+m=C.length→m < k→zfO ⟨⟨g⟩,lst C⟩ k (i:Int) (frS slF (C.take i))=true∧zfN ⟨⟨g⟩,lst C⟩ k (i:Int) (frS slF (C.take i))=zeE (frS slF C):=by
  intro m
  induction m with
  | zero =>
   intro k i hi hk
   obtain ⟨k,rfl⟩:∃ k',k=k'+1:=⟨k - 1,by omega⟩
   show zfM ⟨⟨g⟩,lst C⟩ (zfO ⟨⟨g⟩,lst C⟩ k) (i:Int) _=_∧zfL ⟨⟨g⟩,lst C⟩ (zfN ⟨⟨g⟩,lst C⟩ k) (i:Int) _=_
   unfold zfM zfL
   rw [decide_eq_false (show ¬ (i:Int) < (((⟨⟨g⟩,lst C⟩:set).corners.len:Nat):Int) by show ¬ (i:Int) < ((lst C).len:Int);omega),cond_false,cond_false,List.take_of_length_le (by omega)]
   exact ⟨x1,rfl⟩
  | succ m ih =>
   intro k i hi hk
   obtain ⟨k,rfl⟩:∃ k',k=k'+1:=⟨k - 1,by omega⟩
   have ih:=ih k (i+1) (by omega) (by omega)
   have hiC:i < C.length:=by omega
   show zfM ⟨⟨g⟩,lst C⟩ (zfO ⟨⟨g⟩,lst C⟩ k) (i:Int) _=_∧zfL ⟨⟨g⟩,lst C⟩ (zfN ⟨⟨g⟩,lst C⟩ k) (i:Int) _=_
   generalize zfO ⟨⟨g⟩,lst C⟩ k=P at ih
   generalize zfN ⟨⟨g⟩,lst C⟩ k=S at ih
   have hv:=zni slF (C.take i)
   rw [List.length_take] at hv
   unfold zfM zfL
   rw [decide_eq_true (show (i:Int) < (((⟨⟨g⟩,lst C⟩:set).corners.len:Nat):Int) by show (i:Int) < ((lst C).len:Int);omega),cond_true,cond_true,
    decide_eq_true (show 0≤(i:Int)∧(i:Int) < (((⟨⟨g⟩,lst C⟩:set).corners.len:Nat):Int) by show 0≤(i:Int)∧(i:Int) < ((lst C).len:Int);omega),Bool.true_and,
    decide_eq_true (show ((frS slF (C.take i)).len+1) * 16≤140737488355328∧(frS slF (C.take i)).len+1≤9223372036854775807 by omega),Bool.true_and,zbz (n:=C.length) hiC (by omega),Int.toNat_natCast]
   have e:=zzV (F:=slF) hiC
   rw [e] at ih
   exact ih
 have h:=key C.length Fuel 0 (by omega) (by simp only [Fuel];omega)
 have h2:zA9 ⟨⟨g⟩,lst C⟩=zeE (frS slF C):=h.2
 exact ⟨h.1,by rw [h2];exact x2⟩
end Go.Proofs
namespace Go.Proofs
open Go Go.Pm
set_option maxRecDepth 100000
theorem zds {g:Sl Gate} {l:Line} : zkS g l↔∃ s,Cor g s∧toL s=l :=
 ⟨fun ⟨s,h1,h2,h3⟩=>⟨s,⟨h1,h2⟩,h3⟩,fun ⟨s,⟨h1,h2⟩,h3⟩=>⟨s,h1,h2,h3⟩⟩
theorem zCW {g : Sl Gate} (G : zaC g) {F : straight → Frac} {w : Nat → Frac} {lo hi : Frac} (hF : ∀ s, Cor g s → FOK (F s)) (hw : ∀ i s, i < (s33 g).len → Cor g s → (s33 g).get i = toL s → w i = rd_ (F s))
    (hl:zeQ ⟨(s33 g).len,w⟩ lo) (hg:zeR ⟨(s33 g).len,w⟩ hi):Bd g F lo hi:=by
  obtain ⟨_,_,m1,m2,_⟩:=zov g G
  have pos:∀ s,Cor g s→0 < (F s).Den:=fun s hs=>by have:=(hF s hs).2;omega
  have hx:∀ i,i < (s33 g).len→∃ s,Cor g s∧w i=rd_ (F s):=fun i hi=>by
    obtain ⟨s,hs,e⟩:=zds.1 (m1 i hi)
    exact ⟨s,hs,hw i s hi hs e.symm⟩
  have B:=zKQ (v:=⟨(s33 g).len,w⟩) hF (fun i hi=>by
      obtain ⟨s,hs,e⟩:=hx i hi
      refine ⟨s,hs,?_,?_⟩
      · show rd_ (F s)=rd_ (w i);rw [e,ztN (pos s hs)]
      · show 0 < (w i).Den;rw [e];exact zcG (pos s hs))
    (fun s hs=>by
      obtain ⟨i,hi,e⟩:=m2 (toL s) (zds.2 ⟨s,hs,rfl⟩)
      refine ⟨i,hi,?_⟩
      show rd_ (F s)=rd_ (w i)
      rw [hw i s hi hs e,ztN (pos s hs)]) hl hg
  obtain ⟨⟨i,hi1,e1⟩,_⟩:=hl
  obtain ⟨⟨j,hj1,e2⟩,_⟩:=hg
  obtain ⟨s,hs,e3⟩:=hx i hi1
  obtain ⟨t,ht,e4⟩:=hx j hj1
  have f1:rd_ lo=lo:=by rw [← e1];show rd_ (w i)=w i;rw [e3,ztN (pos s hs)]
  have f2:rd_ hi=hi:=by rw [← e2];show rd_ (w j)=w j;rw [e4,ztN (pos t ht)]
  rw [f1,f2] at B
  exact B
theorem zCX {g:Sl Gate} (G:zaC g) (hc:∃ s,Cor g s) {z:Int} (hz : -200000≤z∧z≤200000):zmX g z=true∧Bd g (plF z) (zmW g z).1 (zmW g z).2:=by
 obtain ⟨q,hlen,m1,m2,_⟩:=zov g G
 have hpl:∀ i,i < (s33 g).len→p28 ((s33 g).get i) z=true:=fun i hi=>by
  obtain ⟨s,hs,e⟩:=zds.1 (m1 i hi)
  rw [← e];exact (zs4 (zdU G hs) hz).1
 have hw:∀ i s,i < (s33 g).len→Cor g s→(s33 g).get i=toL s→s28 ((s33 g).get i) z=rd_ (plF z s):=fun i s _ hs e=>by
  rw [e];exact (zs4 (zdU G hs) hz).2
 have h1:1≤(s33 g).len:=by
  obtain ⟨s,hs⟩:=hc
  obtain ⟨a,ha,_⟩:=m2 _ (zds.2 ⟨s,hs,rfl⟩);omega
 have E:=zzQ (w:=fun i=>s28 ((s33 g).get i) z) (n:=(s33 g).len) h1 (by omega) (fun j hj=>by
   obtain ⟨s,hs,e⟩:=zds.1 (m1 j hj)
   show FOK (s28 ((s33 g).get j) z)
   rw [hw j s hj hs e.symm];exact zkD (zoz (zdU G hs) hz))
  (lpS:=fun k i a b=>zii z (s33 g) k i a.Num a.Den b.Num b.Den) (lpP:=fun k i a b=>zij z (s33 g) k i a.Num a.Den b.Num b.Den)
  (fun k i a b hi=>by
   show zif z (s33 g) (zii z (s33 g) k) (i:Int) a.Num a.Den b.Num b.Den=_
   generalize zii z (s33 g) k=S
   unfold zif zrb zq9 zmU
   rw [decide_eq_true (show (i:Int) < ((s33 g).len:Int) by omega),cond_true,Int.toNat_natCast]
   show cond (s29 (s28 ((s33 g).get i) z) a) (cond (s29 b (s28 ((s33 g).get i) z)) _ _) (cond (s29 b (s28 ((s33 g).get i) z)) _ _)=_
   cases s29 (s28 ((s33 g).get i) z) a <;> cases s29 b (s28 ((s33 g).get i) z) <;> rfl)
  (fun k a b=>by
   show zif z (s33 g) (zii z (s33 g) k) ((s33 g).len:Int) a.Num a.Den b.Num b.Den=_
   unfold zif
   rw [decide_eq_false (show ¬ ((s33 g).len:Int) < ((s33 g).len:Int) by omega),cond_false])
  (fun k i a b hi=>by
   show zih z (s33 g) (zij z (s33 g) k) (i:Int) a.Num a.Den b.Num b.Den=_
   generalize zij z (s33 g) k=P
   unfold zih zrd zra zmV
   rw [decide_eq_true (show (i:Int) < ((s33 g).len:Int) by omega),cond_true,decide_eq_true (show 0≤(i:Int)∧(i:Int) < ((s33 g).len:Int) by omega),Int.toNat_natCast,hpl i hi,decide_eq_true (show true=true from rfl),Bool.true_and,Bool.true_and]
   show cond (s29 (s28 ((s33 g).get i) z) a) (cond (s29 b (s28 ((s33 g).get i) z)) _ _) (cond (s29 b (s28 ((s33 g).get i) z)) _ _)=_
   cases s29 (s28 ((s33 g).get i) z) a <;> cases s29 b (s28 ((s33 g).get i) z) <;> rfl)
  (fun k a b=>by
   show zih z (s33 g) (zij z (s33 g) k) ((s33 g).len:Int) a.Num a.Den b.Num b.Den=_
   unfold zih
   rw [decide_eq_false (show ¬ ((s33 g).len:Int) < ((s33 g).len:Int) by omega),cond_false])
 obtain ⟨x1,x2,x3⟩:=E
 refine ⟨?_,zCW G (F:=plF z) (fun s hs=>zoz (zdU G hs) hz) hw x2 x3⟩
 unfold zmX zrf zre
 rw [q,hpl 0 (by omega),decide_eq_true (show true=true from rfl),decide_eq_true (show 0≤(0:Int)∧(0:Int) < ((s33 g).len:Int) by omega)]
 simp only [Bool.true_and]
 exact x1
theorem zKT {g:Sl Gate} (G:zaC g) (hc:∃ s,Cor g s):p37 g=true∧Bd g slF (s37 g).1 (s37 g).2:=by
 obtain ⟨q,hlen,m1,m2,_⟩:=zov g G
 have hw:∀ i s,i < (s33 g).len→Cor g s→(s33 g).get i=toL s→((s33 g).get i).Slope=rd_ (slF s):=fun i s _ hs e=>by rw [e];rfl
 have h1:1≤(s33 g).len:=by
  obtain ⟨s,hs⟩:=hc
  obtain ⟨a,ha,_⟩:=m2 _ (zds.2 ⟨s,hs,rfl⟩);omega
 have E:=zzQ (w:=fun i=>((s33 g).get i).Slope) (n:=(s33 g).len) h1 (by omega) (fun j hj=>by
   obtain ⟨s,hs,e⟩:=zds.1 (m1 j hj)
   show FOK ((s33 g).get j).Slope
   rw [hw j s hj hs e.symm];exact zkD (zs5 (zdU G hs)))
  (lpS:=fun k i a b=>zkx (s33 g) k i a.Num a.Den b.Num b.Den) (lpP:=fun k i a b=>zky (s33 g) k i a.Num a.Den b.Num b.Den)
  (fun k i a b hi=>by
   show zkv (s33 g) (zkx (s33 g) k) (i:Int) a.Num a.Den b.Num b.Den=_
   generalize zkx (s33 g) k=S
   unfold zkv zzu zry zzs
   rw [decide_eq_true (show (i:Int) < ((s33 g).len:Int) by omega),cond_true,Int.toNat_natCast]
   show cond (s29 ((s33 g).get i).Slope a) (cond (s29 b ((s33 g).get i).Slope) _ _) (cond (s29 b ((s33 g).get i).Slope) _ _)=_
   cases s29 ((s33 g).get i).Slope a <;> cases s29 b ((s33 g).get i).Slope <;> rfl)
  (fun k a b=>by
   show zkv (s33 g) (zkx (s33 g) k) ((s33 g).len:Int) a.Num a.Den b.Num b.Den=_
   unfold zkv
   rw [decide_eq_false (show ¬ ((s33 g).len:Int) < ((s33 g).len:Int) by omega),cond_false])
  (fun k i a b hi=>by
   show zkw (s33 g) (zky (s33 g) k) (i:Int) a.Num a.Den b.Num b.Den=_
   generalize zky (s33 g) k=P
   unfold zkw zzv zrz zzt
   rw [decide_eq_true (show (i:Int) < ((s33 g).len:Int) by omega),cond_true,decide_eq_true (show 0≤(i:Int)∧(i:Int) < ((s33 g).len:Int) by omega),Int.toNat_natCast]
   simp only [Bool.true_and]
   show cond (s29 ((s33 g).get i).Slope a) (cond (s29 b ((s33 g).get i).Slope) _ _) (cond (s29 b ((s33 g).get i).Slope) _ _)=_
   cases s29 ((s33 g).get i).Slope a <;> cases s29 b ((s33 g).get i).Slope <;> rfl)
  (fun k a b=>by
   show zkw (s33 g) (zky (s33 g) k) ((s33 g).len:Int) a.Num a.Den b.Num b.Den=_
   unfold zkw
   rw [decide_eq_false (show ¬ ((s33 g).len:Int) < ((s33 g).len:Int) by omega),cond_false])
 obtain ⟨x1,x2,x3⟩:=E
 refine ⟨?_,zCW G (F:=slF) (fun s hs=>zs5 (zdU G hs)) hw x2 x3⟩
 unfold p37 zzw
 rw [q,decide_eq_true (show true=true from rfl),decide_eq_true (show 0≤(0:Int)∧(0:Int) < ((s33 g).len:Int) by omega)]
 simp only [Bool.true_and]
 exact x1
theorem zCY (g:Sl Gate) (G:zaC g):(-1000000≤(com g).1∧(com g).1≤1000000)∧-1000000≤(com g).2∧(com g).2≤1000000:=by
 have hl:=G.2
 refine zzB (Inv:=fun _ (s:Int×Int)=>(-1000000≤s.1∧s.1≤1000000)∧-1000000≤s.2∧s.2≤1000000) (n:=g.len) (fun i s hi h=>?_) (g.len - 1) 1 _ (by omega) ⟨zeP (G.1 0 (by omega)),zfA (G.1 0 (by omega))⟩
 have a:=zeP (G.1 i hi)
 have b:=zfA (G.1 i hi)
 unfold cmS
 refine ⟨?_,?_⟩
 ·show -1000000 ≤ (if (g.get i).Low > s.1 then (g.get i).Low else s.1) ∧ _
  split
  ·exact a
  ·exact h.1
 ·show -1000000 ≤ (if (g.get i).High < s.2 then (g.get i).High else s.2) ∧ _
  split
  ·exact b
  ·exact h.2
theorem zoA {α : Type} [DecidableEq α] : ∀ (l m : List α), l.Nodup → (∀ x ∈ l, x ∈ m) → l.length ≤ m.length
  | [],_,_,_=>Nat.zero_le _
  | x :: l,m,hn,h=>by
    have hx:=h x List.mem_cons_self
    rw [List.nodup_cons] at hn
    have:=zoA l (m.erase x) hn.2 fun y hy=>(List.mem_erase_of_ne (fun (e:y=x)=>hn.1 (by rw [← e];exact hy))).2 (h y (List.mem_cons_of_mem _ hy))
    rw [List.length_erase_of_mem hx] at this
    have:=List.length_pos_of_mem hx
    rw [List.length_cons];omega
theorem zoB (g:Sl Gate) (G:zaC g):∃ C,p65 g=true∧s65 g=⟨⟨g⟩,lst C⟩∧CorL g C∧(¬ ztM g→(s21 g=true↔∃ s,Cor g s)):=by
 obtain ⟨C,c1,c2,c3,c4,c5⟩:=zsZ g G
 obtain ⟨f1,f2⟩:=zlo g G
 obtain ⟨q,hlen,m1,m2,_⟩:=zov g G
 refine ⟨C,c1,c2,⟨?_,fun s hs=>c3 s hs,fun s hs=>c4 s hs.1 hs.2⟩,fun hf=>?_⟩
 ·-- the reference has as many
  have key:∀ (l:List straight),l.Pairwise (fun x y=>toL x ≠ toL y)→(∀ s∈l,s∈cst g)→l.length≤((cst g).map toL).length:=by
   intro l hp hs
   have hn:(l.map fun s=>zil (toL s)).Nodup:=List.pairwise_map.2 (hp.imp fun h e=>h (zkC e))
   have:=zoA _ ((cst g).map fun s=>zil (toL s)) hn (fun x hx=>by
    obtain ⟨s,hs1,rfl⟩:=List.mem_map.1 hx
    exact List.mem_map.2 ⟨s,hs s hs1,rfl⟩)
   rw [List.length_map,List.length_map] at this;rw [List.length_map];exact this
  have:=key C c5 (fun s hs=>(c3 s hs).1)
  have:=zrA G
  rw [List.length_map] at *
  omega
 ·have e : s22 g = false := by cases h : s22 g; rfl; exact absurd (f2.1 h) hf
  unfold s21
  rw [e,cond_false,decide_eq_true_eq]
  constructor
  ·intro h
   obtain ⟨s,hs,_⟩:=zds.1 (m1 0 (by omega))
   exact ⟨s,hs⟩
  ·intro ⟨s, hs⟩
   obtain ⟨a,ha,_⟩:=m2 _ (zds.2 ⟨s,hs,rfl⟩);omega
theorem zrC (g:Sl Gate) (G:zaC g):p67 ⟨g⟩=true∧p22 g=true∧s67 ⟨g⟩=s22 g :=
 ⟨(zsY g G).1,(zlo g G).1,Bool.eq_iff_iff.2 ((zsY g G).2.trans (zlo g G).2.symm)⟩
theorem zin {g:Sl Gate} (G:zaC g) (h:s22 g=false) : ¬ ztM g:=fun k=>by rw [(zlo g G).2.2 k] at h;cases h
theorem zoC (g:Sl Gate) (G:zaC g) (hs:s21 g=true) {z:Int} (hz : -200000≤z∧z≤200000):p68 (s65 g) z=true∧p36 g z=true∧s68 (s65 g) z=s36 g z:=by
 obtain ⟨C,c1,c2,H,c4⟩:=zoB g G
 obtain ⟨f1,f2,f3⟩:=zrC g G
 obtain ⟨k1,k2⟩:=zCY g G
 rw [c2]
 unfold p68 s68 p36 s36 zri zmY
 show (decide (p67 ⟨g⟩=true) && cond (s67 ⟨g⟩) (decide (p98 ⟨g⟩=true) && (decide (p89 (s98 ⟨g⟩).Low (1:Int)=true) && (decide (p89 (s98 ⟨g⟩).High (1:Int)=true) && true))) (decide (p82 z ⟨⟨g⟩,lst C⟩=true) && true))=true∧_ ∧
  cond (s67 ⟨g⟩) (s89 (s98 ⟨g⟩).Low (1:Int),s89 (s98 ⟨g⟩).High (1:Int)) ((s82 z ⟨⟨g⟩,lst C⟩).1,(s82 z ⟨⟨g⟩,lst C⟩).2)=_
 rw [f1,f2,f3]
 cases e:s22 g
 ·have hc := (c4 (zin G e)).1 hs
  obtain ⟨a1,a2⟩:=zKS G H ((zzT H).2 hc) hz
  obtain ⟨b1,b2⟩:=zCX G hc hz
  obtain ⟨u1,u2⟩:=zzR (fun s hs=>zoz (zdU G hs) hz) a2 b2
  rw [cond_false,cond_false,cond_false,cond_false,a1,b1,u1,u2]
  exact ⟨by simp,by simp,rfl⟩
 ·obtain ⟨a1, a2⟩ := zCV g G
  obtain ⟨b1,b2⟩:=zzL g G
  obtain ⟨x1,x2⟩:=ziz (num:=(com g).1) (den:=1) (by omega) (by omega) (by omega) (by omega)
  obtain ⟨y1,y2⟩:=ziz (num:=(com g).2) (den:=1) (by omega) (by omega) (by omega) (by omega)
  obtain ⟨u1,u2⟩:=zfz (num:=(com g).1) (den:=1) (by omega) (by omega) (by omega) (by omega)
  obtain ⟨v1,v2⟩:=zfz (num:=(com g).2) (den:=1) (by omega) (by omega) (by omega) (by omega)
  rw [cond_true,cond_true,cond_true,cond_true,a1,a2,b1,b2]
  unfold zrh zrg
  show (decide (true=true) && (decide (true=true) && (decide (p89 (com g).1 1=true) && (decide (p89 (com g).2 1=true) && true))))=true∧(decide (true=true) && (decide (true=true) && (decide (p40 (com g).1 1=true) && (decide (p40 (com g).2 1=true) && true))))=true∧(s89 (com g).1 1,s89 (com g).2 1)=(s40 (com g).1 1,s40 (com g).2 1)
  rw [x1,x2,y1,y2,u1,u2,v1,v2]
  exact ⟨by simp,by simp,rfl⟩
theorem zzW (g:Sl Gate) (G:zaC g) (hs:s21 g=true) (hf:s22 g=false):zLd (s65 g)=true∧p37 g=true∧zA9 (s65 g)=s37 g:=by
 obtain ⟨C,c1,c2,H,c4⟩:=zoB g G
 have hc:=(c4 (zin G hf)).1 hs
 obtain ⟨a1,a2⟩:=zHA G H ((zzT H).2 hc)
 obtain ⟨b1,b2⟩:=zKT G hc
 obtain ⟨u1,u2⟩:=zzR (fun s hs=>zs5 (zdU G hs)) a2 b2
 rw [c2]
 exact ⟨a1,b1,Prod.ext u1 u2⟩
end Go.Proofs
namespace Go.Proofs
open Go Go.Pm
set_option maxRecDepth 100000
abbrev zF:Frac:=⟨0,0⟩
abbrev nS:set:=⟨⟨⟨0,fun _=>default⟩⟩,⟨0,fun _=>default⟩⟩
theorem zHB (g:Sl Gate) (hn:g.len≤9223372036854775807):s20 g=true↔zaC g:=(zzz g hn).2
theorem zKU (g:Sl Gate) (G:zaC g):(p75 g=true∧s75 g=cond (!(s21 g)) (nS,5) (cond (s22 g) (nS,6) (s65 g,0))) ∧
  (∀ z,zEB z g=true∧zoD z g=cond (!(s21 g)) (nS,5) (cond (s22 g) (cond (!((g.get 0).Z == z)) (nS,6) (s65 g,0)) (s65 g,0)))∧(zEC g=true∧zoE g=cond (!(s21 g)) (nS,5) (s65 g,0)):=by
 have hl:=G.2
 obtain ⟨v1,v2⟩:=zzy g (by omega)
 have v2:=v2.2 G
 obtain ⟨q1,q2,q3⟩:=zzM g G
 obtain ⟨C,c1,c2,_⟩:=zoB g G
 obtain ⟨f1,f2,f3⟩:=zrC g G
 have el:(s65 g).list=⟨g⟩:=by rw [c2]
 refine ⟨?_,fun z=>?_,?_⟩
 ·unfold p75 s75 zpT zpS
  rw [v1,v2,c1,q1,q3,el,f1,f3]
  simp only [decide_true,Bool.true_and,Bool.not_true,cond_false]
  cases s21 g <;> cases s22 g <;> exact ⟨rfl,rfl⟩
 ·unfold zEB zoD zmi zmh
  rw [v1,v2,c1,q1,q3,el,f1,f3,show p76 z ⟨g⟩=true by unfold p76;rw [decide_eq_true (show 0≤(0:Int)∧(0:Int) < ((⟨g⟩:list).Gates.len:Int) by show 0≤(0:Int)∧(0:Int) < (g.len:Int);omega)];rfl]
  simp only [decide_true,Bool.true_and,Bool.not_true,cond_false]
  cases s21 g <;> cases s22 g <;> exact ⟨rfl,rfl⟩
 ·unfold zEC zoE zmk zmj
  rw [v1,v2,c1,q1,q3,el,f1,f3]
  simp only [decide_true,Bool.true_and,Bool.not_true,cond_false]
  cases s21 g <;> cases s22 g <;> exact ⟨rfl,rfl⟩
theorem zHC (g:Sl Gate) (hn:g.len≤9223372036854775807) (h:s20 g=false):(p75 g=true∧s75 g=(nS,2))∧(∀ z,zEB z g=true∧zoD z g=(nS,2))∧(zEC g=true∧zoE g=(nS,2)):=by
 obtain ⟨v1,_⟩:=zzy g hn
 have v2:s64 g=false:=by rw [zKG g hn];exact h
 unfold p75 s75 zEB zoD zEC zoE
 rw [v1,v2]
 exact ⟨⟨rfl,rfl⟩,fun _=>⟨rfl,rfl⟩,rfl,rfl⟩
def atR (g:Sl Gate) (z:Int):Frac×Frac×Int:=cond (!(s20 g)) (zF,zF,2) (cond (!(s21 g)) (zF,zF,5) (cond (s22 g && !((g.get 0).Z == z)) (zF,zF,6) ((s36 g z).1,(s36 g z).2,0)))
theorem zCZ (g:Sl Gate) (G:zaC g):p21 g=true∧p22 g=true∧(s21 g=true→∀ z,-200000≤z∧z≤200000→p36 g z=true)∧(s21 g=true→s22 g=false→p37 g=true) :=
 ⟨(zzM g G).2.1,(zlo g G).1,fun hs z hz=>(zoC g G hs hz).2.1,fun hs hf=>(zzW g G hs hf).2.1⟩
end Go.Proofs
namespace Go.Proofs
open Go Go.Pm
set_option maxRecDepth 100000
theorem zKV {a b:Frac} (ha:FOK a) (hb:FOK b):decide (s69 a b ≥ 0) = !(s29 a b):=by
  have e:s69 a b < 0↔ltF a b:=by unfold s69 ltF;rw [cross ha hb,cross hb ha,zrB]
  cases h:s29 a b
  · exact decide_eq_true (by have : ¬ s69 a b < 0 := fun k => by rw [(zgb ha hb).2 (e.1 k)] at h; cases h
                             omega)
  · exact decide_eq_false (by have:=e.2 ((zgb ha hb).1 h);omega)
theorem zKW {a b:Frac} (ha:FOK a) (hb:FOK b):decide (s69 a b < 0)=s29 a b:=by
 have e:s69 a b < 0↔ltF a b:=by unfold s69 ltF;rw [cross ha hb,cross hb ha,zrB]
 cases h:s29 a b
 ·exact decide_eq_false fun k=>by rw [(zgb ha hb).2 (e.1 k)] at h;cases h
 ·exact decide_eq_true (e.2 ((zgb ha hb).1 h))
theorem zC0 {a b:Frac} (ha:FOK a) (hb:FOK b):decide (s69 a b > 0)=s29 b a:=by
 have e:s69 a b > 0↔ltF b a:=by unfold s69 ltF;rw [cross ha hb,cross hb ha,zzN]
 cases h:s29 b a
 ·exact decide_eq_false fun k=>by rw [(zgb hb ha).2 (e.1 k)] at h;cases h
 ·exact decide_eq_true (e.2 ((zgb hb ha).1 h))
theorem zKX {a b:Frac} (ha:FOK a) (hb:FOK b):decide (s69 a b≤0) = !(s29 b a):=by
 have:=zC0 ha hb
 rw [← this]
 by_cases h:s69 a b≤0
 ·rw [decide_eq_true h,decide_eq_false (show ¬ s69 a b > 0 by omega)];rfl
 ·rw [decide_eq_false h,decide_eq_true (show s69 a b > 0 by omega)];rfl
theorem znj {x:Int} (h : -1000000≤x∧x≤1000000):FOK (red x 1):=zkD (f:=⟨x,1⟩) ⟨⟨by show -1000000000000≤x;omega,by show x≤1000000000000;omega⟩,by show (1:Int)≤1;omega,by show (1:Int)≤100000;omega⟩
theorem zKY {g:Sl Gate} {F:straight→Frac} (hF:∀ s,Cor g s→FOK (F s)) {lo hi:Frac} (h:Bd g F lo hi):FOK lo∧FOK hi:=by
 obtain ⟨⟨⟨s,hs,e1⟩,_⟩,⟨t,ht,e2⟩,_⟩:=h
 exact ⟨e1 ▸ zkD (hF s hs),e2 ▸ zkD (hF t ht)⟩
theorem zHD (g:Sl Gate) (G:zaC g) (hs:s21 g=true) {z:Int} (hz : -200000≤z∧z≤200000):FOK (s36 g z).1∧FOK (s36 g z).2:=by
 unfold s36 zmY
 cases hf:s22 g
 ·obtain ⟨C, _, _, _, c4⟩ := zoB g G
  exact zKY (fun s hs=>zoz (zdU G hs) hz) (zCX G ((c4 (zin G hf)).1 hs) hz).2
 ·obtain ⟨b1, b2⟩ := zzL g G
  obtain ⟨k1,k2⟩:=zCY g G
  obtain ⟨u1,u2⟩:=zfz (num:=(com g).1) (den:=1) (by omega) (by omega) (by omega) (by omega)
  obtain ⟨v1,v2⟩:=zfz (num:=(com g).2) (den:=1) (by omega) (by omega) (by omega) (by omega)
  rw [b2]
  show FOK (s40 (com g).1 1)∧FOK (s40 (com g).2 1)
  rw [u2,v2]
  exact ⟨znj k1,znj k2⟩
theorem at6 (g:Gate) (G:zeW g) (a b:Frac) (ha:FOK a) (hb:FOK b):zmJ g a.Num a.Den b.Num b.Den=true∧zm3 g a.Num a.Den b.Num b.Den=true∧zmI g a.Num a.Den b.Num b.Den=(zm2 g a.Num a.Den b.Num b.Den,0):=by
 have gl:=zeP G
 have gh:=zfA G
 obtain ⟨x1,x2⟩:=ziz (num:=g.Low) (den:=1) (by omega) (by omega) (by omega) (by omega)
 obtain ⟨y1,y2⟩:=ziz (num:=g.High) (den:=1) (by omega) (by omega) (by omega) (by omega)
 obtain ⟨u1,u2⟩:=zfz (num:=g.Low) (den:=1) (by omega) (by omega) (by omega) (by omega)
 obtain ⟨v1,v2⟩:=zfz (num:=g.High) (den:=1) (by omega) (by omega) (by omega) (by omega)
 have fl:=znj gl
 have fh:=znj gh
 unfold zmJ zm3 zmI zm2
 rw [x1,x2,y1,y2,u1,u2,v1,v2]
 refine ⟨rfl,rfl,?_⟩
 generalize red g.Low 1=lo at fl
 generalize red g.High 1=hi at fh
 unfold zqV zrk zmH zm1 zmG zm0
 have t1:decide (s69 (⟨a.Num,a.Den⟩:Frac) (⟨lo.Num,lo.Den⟩:Frac) ≥ 0) = !(s29 (⟨a.Num,a.Den⟩:Frac) (⟨lo.Num,lo.Den⟩:Frac)):=zKV ha fl
 have t2:decide (s69 (⟨b.Num,b.Den⟩:Frac) (⟨hi.Num,hi.Den⟩:Frac)≤0) = !(s29 (⟨hi.Num,hi.Den⟩:Frac) (⟨b.Num,b.Den⟩:Frac)):=zKX hb fh
 have t3:decide (s69 (⟨b.Num,b.Den⟩:Frac) (⟨lo.Num,lo.Den⟩:Frac) < 0)=s29 (⟨b.Num,b.Den⟩:Frac) (⟨lo.Num,lo.Den⟩:Frac):=zKW hb fl
 have t4:decide (s69 (⟨a.Num,a.Den⟩:Frac) (⟨hi.Num,hi.Den⟩:Frac) > 0)=s29 (⟨hi.Num,hi.Den⟩:Frac) (⟨a.Num,a.Den⟩:Frac):=zC0 ha fh
 rw [t1,t2,t3,t4]
 cases s29 (⟨a.Num,a.Den⟩:Frac) (⟨lo.Num,lo.Den⟩:Frac) <;> cases s29 (⟨hi.Num,hi.Den⟩:Frac) (⟨b.Num,b.Den⟩:Frac) <;> cases s29 (⟨b.Num,b.Den⟩:Frac) (⟨lo.Num,lo.Den⟩:Frac) <;> cases s29 (⟨hi.Num,hi.Den⟩:Frac) (⟨a.Num,a.Den⟩:Frac) <;> rfl
theorem zKZ (g:Sl Gate) (x:Gate) (G:zaC g) (X:zeW x):p48 g x=true∧(s21 g=true→p50 g x=true)∧s48 g x=cond (!(s21 g)) (0,5) (s50 g x,0):=by
 have hl:=G.2
 have e1:s87 x=true:=(zot x).2 X
 obtain ⟨_,_,b1,b2⟩:=zKU g G
 obtain ⟨q1,q2,q3,_⟩:=zCZ g G
 obtain ⟨f1,f2,f3⟩:=zrC g G
 obtain ⟨C,c1,c2,_⟩:=zoB g G
 have k0:decide (0≤(0:Int)∧(0:Int) < (g.len:Int))=true:=decide_eq_true (by omega)
 unfold p48 s48 zku zkt zmR zmQ p50 s50 zm7 zm6
 rw [e1,b1,b2,q2,k0]
 cases hs:s21 g
 ·exact ⟨rfl,fun h=>(by cases h),rfl⟩
 ·have hz : -200000 ≤ x.Z ∧ x.Z ≤ 200000 := by have := X.1; omega
  obtain ⟨x1,x2,x3⟩:=zoC g G hs hz
  obtain ⟨fa,fb⟩:=zHD g G hs hz
  obtain ⟨m1,m2,m3⟩:=at6 x X _ _ fa fb
  have fin:zmL x (s65 g).list.Gates (s65 g).corners=true∧zm5 g x=true∧zmK x (s65 g).list.Gates (s65 g).corners=(zm4 g x,0):=by
   unfold zmL zmK zm5 zm4
   have:(⟨⟨(s65 g).list.Gates⟩,(s65 g).corners⟩:set)=s65 g:=rfl
   rw [this,x1,x3,x2,m1,m2,m3]
   exact ⟨rfl,rfl,rfl⟩
  obtain ⟨n1,n2,n3⟩:=fin
  have el:(s65 g).list.Gates=g:=by rw [c2]
  show (decide (true=true) && zmP x (0:Int) (s65 g).list.Gates (s65 g).corners)=true∧_∧zmO x (0:Int) (s65 g).list.Gates (s65 g).corners=_
  unfold zmP zmO zqX zqW zmN zmM
  rw [el] at n1 n3 ⊢
  rw [f1,f3,k0,n1,n2,n3]
  have hz2:((g.get 0).Z != x.Z)=(x.Z != (g.get 0).Z):=by
   rw [Bool.eq_iff_iff,bne_iff_ne,bne_iff_ne];exact ⟨fun h e=>h e.symm,fun h e=>h e.symm⟩
  rw [hz2]
  cases s22 g <;> cases (x.Z != (g.get 0).Z) <;> exact ⟨rfl,fun _=>rfl,rfl⟩
theorem meets_true (g:Sl Gate) (x:Gate):p11 g x=true∧s11 g x=true:=by
 unfold p11 s11
 by_cases hlen:(g.len:Int) > 40
 ·rw [decide_eq_true hlen];exact ⟨rfl,rfl⟩
 rw [decide_eq_false hlen,cond_false,cond_false]
 have hn:g.len≤9223372036854775807:=by omega
 obtain ⟨v1,_⟩:=zzz g hn
 unfold zrx zrv zru zrt zm9 zm8 zrr zrq zrp zro zrn zrm
 rw [v1]
 cases hx:s49 x
 ·have hx2:s87 x=false:=by
   cases h:s87 x
   ·rfl
   ·rw [(zsN x).2 ((zot x).1 h)] at hx;cases hx
  have e:p48 g x=true∧s48 g x=(0,2):=by
   unfold p48 s48 zku zkt
   rw [hx2];exact ⟨rfl,rfl⟩
  rw [e.1,e.2]
  cases s20 g <;> exact ⟨rfl,rfl⟩
 ·have X := (zsN x).1 hx
  have hx2:=(zot x).2 X
  cases hv:s20 g
  ·obtain ⟨_, _, b1, b2⟩ := zHC g hn hv
   have e:p48 g x=true∧s48 g x=(0,2):=by
    unfold p48 s48 zku zkt zmR zmQ
    rw [hx2,b1,b2];exact ⟨rfl,rfl⟩
   rw [e.1,e.2]
   exact ⟨rfl,rfl⟩
  ·have G := (zHB g hn).1 hv
   obtain ⟨e1,e2,e3⟩:=zKZ g x G X
   rw [e1,e3,(zCZ g G).1]
   cases hs:s21 g
   ·exact ⟨rfl,rfl⟩
   ·rw [e2 hs]
    refine ⟨rfl,?_⟩
    show cond ((0:Int) == 0) (cond (s50 g x == s50 g x) true false) false=true
    simp only [beq_self_eq_true,cond_true]
end Go.Proofs
