/- Part 6 of what the proof rests on: a machine that runs functions of the program on pure values, proved sound; the functions that the law reaches, and what they compute. -/
import Derived.Test.YtkpjhhoafenogaaQ5
set_option linter.all false
namespace Go.Proofs
open Go Go.Pm
set_option maxRecDepth 100000
theorem zBk (l:Line) (g:Sl Gate):∀ (m i:Nat) (v:Sl Int),i+m=g.len→v.len≤i→((zhM (addI l g) m i v).len < g.len↔v.len < i∨∃ j,i≤j∧j < g.len∧s72 l (g.get j)=false):=by
 intro m
 induction m with
 | zero =>
  intro i v hi hv
  have:i=g.len:=by omega
  subst this
  exact ⟨fun h=>.inl h,fun h=>h.elim id fun ⟨j,a,b,_⟩=>absurd b (by omega)⟩
 | succ m ih =>
  intro i v hi hv
  show (zhM (addI l g) m (i+1) (addI l g i v)).len < g.len↔_
  rw [ih (i+1) (addI l g i v) (by omega) (zsu l g i v hv)]
  unfold addI
  cases h:s72 l (g.get i)
  ·rw [cond_false]
   exact ⟨fun _=>.inr ⟨i,Nat.le_refl _,by omega,h⟩,fun _=>.inl (by omega)⟩
  ·rw [cond_true]
   refine ⟨fun k=>k.imp (fun (k:v.len+1 < i+1)=>by omega) fun ⟨j,a,b,c⟩=>⟨j,by omega,b,c⟩,fun k=>k.imp (fun k=>by show v.len+1 < i+1;omega) fun ⟨j,a,b,c⟩=>⟨j,?_,b,c⟩⟩
   by_cases hj:j=i
   ·rw [hj,h] at c;cases c
   ·omega
theorem zBl {g:Sl Gate} (G:zau g) {s:straight} (S:SOK s):p27 (toL s) g=true∧(((s27 (toL s) g).len:Int) < (g.len:Int)↔¬ zg3 g s):=by
 have hl:=G.2.2
 obtain ⟨a,b⟩:=zJt (toL s) g (by omega)
 refine ⟨a,?_⟩
 rw [b]
 have:=zBk (toL s) g g.len 0 (⟨0,fun _=>default⟩:Sl Int) (by omega) (Nat.le_refl _)
 have e:((zJ7 (toL s) g).len < g.len↔_):=this
 rw [show (((zJ7 (toL s) g).len:Int) < (g.len:Int))↔(zJ7 (toL s) g).len < g.len by omega,e]
 constructor
 ·rintro (h | ⟨j, _, hj, hc⟩)
  ·exact absurd h (by omega)
  ·intro h
   have:=h j hj
   rw [← zsA S (G.1 j hj),hc] at this;cases this
 ·intro h
  refine .inr (Classical.byContradiction fun hn=>h fun i hi=>?_)
  rw [← zsA S (G.1 i hi)]
  cases hc:s72 (toL s) (g.get i)
  ·exact absurd ⟨i,Nat.zero_le _,hi,hc⟩ hn
  ·rfl
theorem zoz {α:Type} (l:List α):∀ (v:Sl α) (i:Nat),i < v.len→(l.foldl apL v).get i=v.get i:=by
 induction l with
 | nil=>intro v i _;rfl
 | cons x l ih =>
  intro v i hi
  rw [List.foldl_cons,ih _ _ (show i < v.len+1 by omega)]
  show zdt v.len v.get (fun _=>x) i=_
  unfold zdt
  rw [show Nat.ble v.len i=false by rw [← Bool.not_eq_true,Nat.ble_eq];omega]
theorem zg4 {α:Type} (l:List α):∀ (v:Sl α) (i:Nat) (x:α),l[i]? = some x→(l.foldl apL v).get (v.len+i)=x:=by
 induction l with
 | nil=>intro v i x h;simp at h
 | cons y l ih =>
  intro v i x h
  rw [List.foldl_cons]
  cases i with
  | zero =>
   have h:some y=some x:=h
   cases h
   rw [zoz _ _ _ (show v.len+0 < v.len+1 by omega)]
   show zdt v.len v.get (fun _=>y) (v.len+0)=_
   unfold zdt
   rw [show Nat.ble v.len (v.len+0)=true by rw [Nat.ble_eq];omega]
  | succ i =>
   have:=ih (apL v y) i x (by simpa using h)
   rw [← this]
   show _=(l.foldl apL (apL v y)).get (v.len+1+i)
   congr 1;omega
def zkU (g:Sl Gate) (l:Line):Prop:=∃ s∈cst g,zg3 g s∧toL s=l
theorem zJA {g:Sl Gate} (G:zau g) {a b:Line} (ha:zkU g a) (hb:zkU g b):p81 a b g=true:=by
 obtain ⟨x,hx,_,rfl⟩:=ha
 obtain ⟨y,hy,_,rfl⟩:=hb
 unfold p81 zyE
 rw [(zza g G (zkw G hx)).1,(zza g G (zkw G hy)).1]
 cases (ztx (toL x) g != ztx (toL y) g) <;> simp
def zGt (out:Sl Line) (A:Nat) (x:Line):Sl Line :=
 ⟨(((A:Int) - (0:Int)).toNat+1)+((out.len:Int) - (A:Int)).toNat,(zdt (((A:Int) - (0:Int)).toNat+1) (zdt (((A:Int) - (0:Int)).toNat) (fun i=>out.get (i+((0:Int).toNat))) (fun _=>x)) (fun i=>out.get (i+A)))⟩
theorem zni {out:Sl Line} {A:Nat} {x:Line} (h:A≤out.len):(zGt out A x).len=out.len+1:=by
 show (((A:Int) - (0:Int)).toNat+1)+((out.len:Int) - (A:Int)).toNat=_;omega
theorem zhP {out:Sl Line} {A:Nat} {x:Line} (j:Nat):(zGt out A x).get j=if j < A then out.get j else if j=A then x else out.get (j - 1):=by
 have e:((A:Int) - (0:Int)).toNat=A:=by omega
 show zdt (((A:Int) - (0:Int)).toNat+1) (zdt (((A:Int) - (0:Int)).toNat) (fun i=>out.get (i+((0:Int).toNat))) (fun _=>x)) (fun i=>out.get (i+A)) j=_
 rw [e]
 unfold zdt
 by_cases h1:A+1≤j
 ·rw [show Nat.ble (A + 1) j = true by rw [Nat.ble_eq]; exact h1, if_neg (by omega), if_neg (by omega)]
  show out.get (j - (A+1)+A)=_
  congr 1;omega
 ·rw [show Nat.ble (A + 1) j = false by rw [← Bool.not_eq_true, Nat.ble_eq]; exact h1]
  by_cases h2:A≤j
  ·have : j = A := by omega
   subst this
   rw [show Nat.ble j j=true by rw [Nat.ble_eq];omega,if_neg (by omega),if_pos rfl]
  ·rw [show Nat.ble A j = false by rw [← Bool.not_eq_true, Nat.ble_eq]; exact h2, if_pos (by omega)]
   rfl
open Classical in
noncomputable def zd9 (out:Sl Line) (A:Nat) (x:Line):Sl Line:=if A < out.len∧out.get A=x then out else zGt out A x
theorem zMI (g : Sl Gate) (lv : Sl Line) (i : Nat) (hi : i < lv.len) (hlv : lv.len ≤ 10000) (S1 : Sl Line → Int → Sl Line) (P1 : Sl Line → Int → Bool) (out : Sl Line) (A : Nat) (hA : A ≤ out.len) (ho : out.len ≤ 10000) :
  zm0 P1 g lv out (i:Int) (A:Int)=P1 (zd9 out A (lv.get i)) ((i+1:Nat):Int)∧zmZ S1 g lv out (i:Int) (A:Int)=S1 (zd9 out A (lv.get i)) ((i+1:Nat):Int):=by
 have w:=zbB (n:=lv.len) hi (by omega)
 have k1:decide (0≤(i:Int)∧(i:Int) < (lv.len:Int))=true:=decide_eq_true (by omega)
 have k2:decide (0≤(0:Int)∧(0:Int)≤(A:Int)∧(A:Int)≤(out.len:Int))=true:=decide_eq_true (by omega)
 have k3:decide (((A:Int) - (0:Int)).toNat * 32≤140737488355328∧((A:Int) - (0:Int)).toNat≤9223372036854775807)=true:=decide_eq_true (by omega)
 have k4:decide ((((A:Int) - (0:Int)).toNat+1) * 32≤140737488355328∧((A:Int) - (0:Int)).toNat+1≤9223372036854775807)=true:=decide_eq_true (by omega)
 have k5:decide (0≤(A:Int)∧(A:Int)≤(out.len:Int)∧(out.len:Int)≤(out.len:Int))=true:=decide_eq_true (by omega)
 have k6:decide (((((A:Int) - (0:Int)).toNat+1)+((out.len:Int) - (A:Int)).toNat) * 32≤140737488355328∧(((A:Int) - (0:Int)).toNat+1)+((out.len:Int) - (A:Int)).toNat≤9223372036854775807)=true:=decide_eq_true (by omega)
 unfold zm0 zmZ zd9
 rw [Int.toNat_natCast,Int.toNat_natCast,k1,k2,k3,k4,k5,k6,w]
 by_cases h1:A < out.len
 ·rw [decide_eq_true (show (A : Int) < (out.len : Int) by omega), decide_eq_true (show 0 ≤ (A : Int) ∧ (A : Int) < (out.len : Int) by omega)]
  by_cases h2:out.get A=lv.get i
  ·rw [if_pos ⟨h1, h2⟩, h2, beq_self_eq_true, beq_self_eq_true, beq_self_eq_true, beq_self_eq_true]
   exact ⟨rfl,rfl⟩
  ·rw [if_neg fun h => h2 h.2]
   have hne : ¬ (((out.get A).Slope.Num == (lv.get i).Slope.Num)=true∧((out.get A).Slope.Den == (lv.get i).Slope.Den)=true∧((out.get A).Start.Num == (lv.get i).Start.Num)=true∧((out.get A).Start.Den == (lv.get i).Start.Den)=true):=by
    rintro ⟨a,b,c,d⟩
    rw [beq_iff_eq] at a b c d
    exact h2 (zkx (by unfold zhO;rw [a,b,c,d]))
   generalize ((out.get A).Slope.Num == (lv.get i).Slope.Num)=b1 at hne ⊢
   generalize ((out.get A).Slope.Den == (lv.get i).Slope.Den)=b2 at hne ⊢
   generalize ((out.get A).Start.Num == (lv.get i).Start.Num)=b3 at hne ⊢
   generalize ((out.get A).Start.Den == (lv.get i).Start.Den)=b4 at hne ⊢
   cases b1 <;> cases b2 <;> cases b3 <;> cases b4 <;> first | exact ⟨rfl,rfl⟩ | exact absurd ⟨rfl,rfl,rfl,rfl⟩ hne
 ·rw [if_neg fun h => h1 h.1, decide_eq_false (show ¬ (A : Int) < (out.len : Int) by omega)]
  exact ⟨rfl,rfl⟩
theorem zOp (g : Sl Gate) (G : zau g) (lv : Sl Line) (i : Nat) (hi : i < lv.len) (hlv : lv.len ≤ 10000) (hx : zkU g (lv.get i)) (S1 : Sl Line → Int → Sl Line) (P1 : Sl Line → Int → Bool) (out : Sl Line) (ho : out.len ≤ 10000) (hM : ∀ j, j < out.len → zkU g (out.get j)) :
  ∀ (m k a:Nat),a+m=out.len→m < k →
  zke P1 g lv k out (i:Int) (a:Int)=P1 (zd9 out (zkN (fun j=>!(s81 (out.get j) (lv.get i) g)) m a) (lv.get i)) ((i+1:Nat):Int) ∧
  zhK S1 g lv k out (i:Int) (a:Int)=S1 (zd9 out (zkN (fun j=>!(s81 (out.get j) (lv.get i) g)) m a) (lv.get i)) ((i+1:Nat):Int):=by
 intro m
 induction m with
 | zero =>
  intro k a ha hk
  obtain ⟨k,rfl⟩:∃ k',k=k'+1:=⟨k - 1,by omega⟩
  show zkd P1 g lv (zke P1 g lv k) _ _ _=P1 (zd9 out a _) _∧zkc S1 g lv (zhK S1 g lv k) _ _ _=S1 (zd9 out a _) _
  unfold zkd zkc
  rw [decide_eq_false (show ¬ (a:Int) < (out.len:Int) by omega),cond_false,cond_false]
  exact zMI g lv i hi hlv S1 P1 out a (by omega) ho
 | succ m ih =>
  intro k a ha hk
  obtain ⟨k,rfl⟩:∃ k',k=k'+1:=⟨k - 1,by omega⟩
  obtain ⟨i1,i2⟩:=ih k (a+1) (by omega) (by omega)
  show zkd P1 g lv (zke P1 g lv k) _ _ _=_∧zkc S1 g lv (zhK S1 g lv k) _ _ _=_
  generalize zke P1 g lv k=P at i1
  generalize zhK S1 g lv k=S at i2
  unfold zkd zkc
  rw [decide_eq_true (show (a:Int) < (out.len:Int) by omega),decide_eq_true (show 0≤(a:Int)∧(a:Int) < (out.len:Int) by omega),decide_eq_true (show 0≤(i:Int)∧(i:Int) < (lv.len:Int) by omega),Int.toNat_natCast,Int.toNat_natCast,zJA G (hM a (by omega)) hx,zbB (n:=out.len) (by omega) (by omega)]
  cases h:s81 (out.get a) (lv.get i) g
  ·rw [zuF (c := fun j => !(s81 (out.get j) (lv.get i) g)) (by show (!(s81 (out.get a) (lv.get i) g)) = true; rw [h]; rfl)]
   exact zMI g lv i hi hlv S1 P1 out a (by omega) ho
  ·rw [zuG (c := fun j => !(s81 (out.get j) (lv.get i) g)) (by show (!(s81 (out.get a) (lv.get i) g)) = false; rw [h]; rfl)]
   exact ⟨i1,i2⟩
end Go.Proofs
namespace Go.Proofs
open Go Go.Pm
set_option maxRecDepth 100000
def Bef (g:Sl Gate) (a b:Line):Prop:=s81 a b g=true
def Tot (g:Sl Gate):Prop:=(∀ a b c,zkU g a→zkU g b→zkU g c→Bef g a b→Bef g b c→Bef g a c)∧∀ a b,zkU g a→zkU g b→a ≠ b→Bef g a b∨Bef g b a
def Srt (g:Sl Gate) (v:Sl Line):Prop:=∀ i j,i < j→j < v.len→Bef g (v.get i) (v.get j)
theorem zsE {g:Sl Gate} (G:zau g) {s:straight} (h:s∈cst g):zkU g (toL s)↔zg3 g s:=by
 refine ⟨fun ⟨x,hx,ha,e⟩ i hi=>?_,fun ha=>⟨s,h,ha,rfl⟩⟩
 rw [← zsA (zkw G h) (G.1 i hi),← e,zsA (zkw G hx) (G.1 i hi)]
 exact ha i hi
theorem put_mem {g:Sl Gate} {out:Sl Line} {A:Nat} {x:Line} (hA:A≤out.len) (hM:∀ j,j < out.len→zkU g (out.get j)) (hx:zkU g x):∀ j,j < (zd9 out A x).len→zkU g ((zd9 out A x).get j):=by
 unfold zd9
 by_cases h:A < out.len∧out.get A=x
 ·rw [if_pos h];exact hM
 ·rw [if_neg h]
  intro j hj
  rw [zni hA] at hj
  rw [zhP]
  split
  ·exact hM j (by omega)
  ·split
   ·exact hx
   ·exact hM (j - 1) (by omega)
theorem zGu {out:Sl Line} {A:Nat} {x:Line} (hA:A≤out.len):(∃ j,j < (zd9 out A x).len∧(zd9 out A x).get j=x)∧∀ j,j < out.len→∃ i,i < (zd9 out A x).len∧(zd9 out A x).get i=out.get j:=by
 unfold zd9
 by_cases h:A < out.len∧out.get A=x
 ·rw [if_pos h];exact ⟨⟨A,h.1,h.2⟩,fun j hj=>⟨j,hj,rfl⟩⟩
 ·rw [if_neg h, zni hA]
  refine ⟨⟨A,by omega,by rw [zhP,if_neg (by omega),if_pos rfl]⟩,fun j hj=>?_⟩
  by_cases hj2:j < A
  ·exact ⟨j,by omega,by rw [zhP,if_pos hj2]⟩
  ·exact ⟨j+1,by omega,by rw [zhP,if_neg (by omega),if_neg (by omega)];rfl⟩
theorem zGv {out:Sl Line} {A:Nat} {x:Line} (hA:A≤out.len):(zd9 out A x).len≤out.len+1:=by
 unfold zd9;split
 ·omega
 ·rw [zni hA];omega
theorem zGw {g : Sl Gate} (T : Tot g) {out : Sl Line} {x : Line} (hM : ∀ j, j < out.len → zkU g (out.get j)) (hx : zkU g x) (hs : Srt g out) :
  Srt g (zd9 out (zkN (fun j=>!(s81 (out.get j) x g)) out.len 0) x):=by
 have hle:=zBG (fun j=>!(s81 (out.get j) x g)) out.len
 have hlo:∀ j,j < fst (fun j=>!(s81 (out.get j) x g)) out.len→Bef g (out.get j) x:=fun j hj=>by
  have:(!(s81 (out.get j) x g))=false:=zBH (c:=fun j=>!(s81 (out.get j) x g)) hj
  show s81 (out.get j) x g=true
  cases h:s81 (out.get j) x g
  ·rw [h] at this;cases this
  ·rfl
 have hhi:fst (fun j=>!(s81 (out.get j) x g)) out.len < out.len→¬ Bef g (out.get (fst (fun j=>!(s81 (out.get j) x g)) out.len)) x:=fun h hb=>by
  have:(!(s81 (out.get (fst (fun j=>!(s81 (out.get j) x g)) out.len)) x g))=true:=zBI (c:=fun j=>!(s81 (out.get j) x g)) h
  have hb:s81 (out.get (fst (fun j=>!(s81 (out.get j) x g)) out.len)) x g=true:=hb
  rw [hb] at this;cases this
 show Srt g (zd9 out (fst (fun j=>!(s81 (out.get j) x g)) out.len) x)
 generalize fst (fun j=>!(s81 (out.get j) x g)) out.len=A at hle hlo hhi ⊢
 unfold zd9
 by_cases h:A < out.len∧out.get A=x
 ·rw [if_pos h];exact hs
 ·rw [if_neg h]
  intro i j hij hj
  rw [zni hle] at hj
  rw [zhP,zhP]
  by_cases j1:j < A
  ·rw [if_pos (show i < A by omega),if_pos j1];exact hs i j hij (by omega)
  ·rw [if_neg j1]
   by_cases j2:j=A
   ·rw [if_pos j2,if_pos (show i < A by omega)];exact hlo i (by omega)
   ·rw [if_neg j2]
    by_cases i1:i < A
    ·rw [if_pos i1];exact hs i (j - 1) (by omega) (by omega)
    ·rw [if_neg i1]
     by_cases i2:i=A
     ·rw [if_pos i2]
      have hA:A < out.len:=by omega
      have b1:Bef g x (out.get A):=(T.2 x (out.get A) hx (hM A hA) (fun e=>h ⟨hA,e.symm⟩)).resolve_right (hhi hA)
      by_cases j3:j - 1=A
      ·rw [j3];exact b1
      ·exact T.1 _ _ _ hx (hM A hA) (hM (j - 1) (by omega)) b1 (hs A (j - 1) (by omega) (by omega))
     ·rw [if_neg i2];exact hs (i - 1) (j - 1) (by omega) (by omega)
structure Inv33 (g : Sl Gate) (lv : Sl Line) (i : Nat) (out : Sl Line) : Prop where
  len:out.len≤i
  mem:∀ j,j < out.len→zkU g (out.get j)
  has:∀ j,j < i→zkU g (lv.get j)→∃ a,a < out.len∧out.get a=lv.get j
  srt:Tot g→Srt g out
theorem zL0 (g:Sl Gate) (G:zau g) (lv:Sl Line) (hlv:lv.len≤10000) (hc:∀ i,i < lv.len→∃ s∈cst g,lv.get i=toL s):∀ (m k i:Nat) (out:Sl Line),i+m=lv.len→m < k→Inv33 g lv i out →
  zkh g lv k out (i:Int)=true∧Inv33 g lv lv.len (zhL g lv k out (i:Int)):=by
 intro m
 induction m with
 | zero =>
  intro k i out hi hk I
  obtain ⟨k,rfl⟩:∃ k',k=k'+1:=⟨k - 1,by omega⟩
  show zkg g lv (zkh g lv k) _ _=_∧Inv33 g lv lv.len (zkf g lv (zhL g lv k) _ _)
  unfold zkg zkf
  rw [decide_eq_false (show ¬ (i:Int) < (lv.len:Int) by omega),cond_false,cond_false]
  have:i=lv.len:=by omega
  rw [← this]
  exact ⟨rfl,I⟩
 | succ m ih =>
  intro k i out hi hk I
  obtain ⟨k,rfl⟩:∃ k',k=k'+1:=⟨k - 1,by omega⟩
  have ih:=fun out I=>ih k (i+1) out (by omega) (by omega) I
  show zkg g lv (zkh g lv k) _ _=_∧Inv33 g lv lv.len (zkf g lv (zhL g lv k) _ _)
  generalize zkh g lv k=P at ih
  generalize zhL g lv k=S at ih
  obtain ⟨s,hs,es⟩:=hc i (by omega)
  obtain ⟨p1,p2⟩:=zBl G (zkw G hs)
  rw [← es] at p1 p2
  unfold zkg zkf zyG zyF
  rw [decide_eq_true (show (i:Int) < (lv.len:Int) by omega),decide_eq_true (show 0≤(i:Int)∧(i:Int) < (lv.len:Int) by omega),Int.toNat_natCast,p1,zbB (n:=lv.len) (by omega) (by omega),cond_true,cond_true]
  by_cases ha:zg3 g s
  ·rw [decide_eq_false (fun h => p2.1 h ha), cond_false, cond_false]
   have hx:zkU g (lv.get i):=by rw [es];exact (zsE G hs).2 ha
   have hl:=I.len
   obtain ⟨b1,b2⟩:=zOp g G lv i (by omega) hlv hx S P out (by omega) I.mem out.len Fuel 0 (by omega) (by simp only [Fuel];omega)
   have hA:=zBG (fun j=>!(s81 (out.get j) (lv.get i) g)) out.len
   have I':Inv33 g lv (i+1) (zd9 out (zkN (fun j=>!(s81 (out.get j) (lv.get i) g)) out.len 0) (lv.get i)):=by
    refine ⟨Nat.le_trans (zGv hA) (by omega),put_mem hA I.mem hx,fun j hj hm=>?_,fun T=>zGw T I.mem hx (I.srt T)⟩
    obtain ⟨q1,q2⟩:=zGu (out:=out) (x:=lv.get i) hA
    by_cases hji:j=i
    ·rw [hji];exact q1
    ·obtain ⟨a, ha1, ha2⟩ := I.has j (by omega) hm
     obtain ⟨c,hc1,hc2⟩:=q2 a ha1
     exact ⟨c,hc1,hc2.trans ha2⟩
   have:=ih _ I'
   refine ⟨?_,?_⟩
   ·simp only [decide_true,Bool.true_and];exact b1.trans this.1
   ·have e : zhK S g lv Fuel out (i : Int) (0 : Int) = _ := b2
    rw [e];exact this.2
  ·rw [decide_eq_true (p2.2 ha), cond_true, cond_true]
   have I':Inv33 g lv (i+1) out:=by
    refine ⟨by have:=I.len;omega,I.mem,fun j hj hm=>?_,I.srt⟩
    by_cases hji:j=i
    ·rw [hji,es,zsE G hs] at hm;exact absurd hm ha
    ·exact I.has j (by omega) hm
   have:=ih _ I'
   exact ⟨by simp only [decide_true,Bool.true_and];exact this.1,this.2⟩
theorem zoA (g:Sl Gate) (G:zau g):p33 g=true∧(s33 g).len≤2304∧(∀ j,j < (s33 g).len→zkU g ((s33 g).get j))∧(∀ l,zkU g l→∃ a,a < (s33 g).len∧(s33 g).get a=l)∧(Tot g→Srt g (s33 g)):=by
  obtain ⟨e1,e2⟩:=zJv g G
  have hlen:(((cst g).map toL).foldl apL (⟨0,fun _=>default⟩:Sl Line)).len=(cst g).length:=by rw [zch,List.length_map];simp
  have hget:∀ i s,(cst g)[i]? = some s→(((cst g).map toL).foldl apL (⟨0,fun _=>default⟩:Sl Line)).get i=toL s:=fun i s h=>by
    have:=zg4 ((cst g).map toL) (⟨0,fun _=>default⟩:Sl Line) i (toL s) (by rw [List.getElem?_map,h];rfl)
    rw [Nat.zero_add] at this;exact this
  have hc:=zrf G
  obtain ⟨a, I⟩ := zL0 g G (((cst g).map toL).foldl apL (⟨0, fun _ => default⟩ : Sl Line)) (by omega)
    (fun i hi=>by
      rw [hlen] at hi
      exact ⟨(cst g)[i],List.getElem_mem _,hget i _ (List.getElem?_eq_getElem hi)⟩)
    (cst g).length Fuel 0 (⟨0,fun _=>default⟩:Sl Line) (by omega) (by simp only [Fuel];omega)
    ⟨Nat.le_refl _,fun j hj=>absurd hj (Nat.not_lt_zero _),fun j hj=>absurd hj (Nat.not_lt_zero _),fun _ i j _ hj=>absurd hj (Nat.not_lt_zero _)⟩
  have es:s33 g=zhL g (((cst g).map toL).foldl apL (⟨0,fun _=>default⟩:Sl Line)) Fuel (⟨0,fun _=>default⟩:Sl Line) (0:Int):=by
    unfold s33;rw [e2];rfl
  have I:Inv33 g (((cst g).map toL).foldl apL (⟨0,fun _=>default⟩:Sl Line)) (((cst g).map toL).foldl apL (⟨0,fun _=>default⟩:Sl Line)).len (s33 g):=by rw [es];exact I
  refine ⟨?_,by have:=I.len;omega,I.mem,fun l ⟨s,hs,ha,e⟩=>?_,I.srt⟩
  · unfold p33
    rw [e1,e2]
    simp only [decide_true,Bool.true_and]
    exact a
  · obtain ⟨i, hi⟩ := List.getElem?_of_mem hs
    have hi2:i < (cst g).length:=(List.getElem?_eq_some_iff.1 hi).1
    have hgi:=hget i s hi
    obtain ⟨b,hb1,hb2⟩:=I.has i (by omega) (by rw [hgi];exact ⟨s,hs,ha,rfl⟩)
    exact ⟨b,hb1,by rw [hb2,hgi,e]⟩
end Go.Proofs
namespace Go.Proofs
open Go Go.Pm
set_option maxRecDepth 100000
def cmS (g:Sl Gate) (i:Nat) (s:Int×Int):Int×Int:=(if (g.get i).Low > s.1 then (g.get i).Low else s.1,if (g.get i).High < s.2 then (g.get i).High else s.2)
def com (g:Sl Gate):Int×Int:=zhM (cmS g) (g.len - 1) 1 ((g.get 0).Low,(g.get 0).High)
theorem zOq (g:Sl Gate) (h:1≤g.len):zhM (cmS g) g.len 0 ((g.get 0).Low,(g.get 0).High)=com g:=by
 obtain ⟨m,hm⟩:∃ m,g.len=m+1:=⟨g.len - 1,by omega⟩
 unfold com
 rw [hm]
 show zhM (cmS g) m 1 (cmS g 0 ((g.get 0).Low,(g.get 0).High))=zhM (cmS g) m 1 _
 have:cmS g 0 ((g.get 0).Low,(g.get 0).High)=((g.get 0).Low,(g.get 0).High):=by
  unfold cmS
  rw [if_neg (by show ¬ (g.get 0).Low > (g.get 0).Low;omega),if_neg (by show ¬ (g.get 0).High < (g.get 0).High;omega)]
 rw [this]
theorem zCs (g:Sl Gate) (G:zau g):p98 ⟨g⟩=true∧s98 ⟨g⟩=⟨(com g).1,(com g).2⟩:=by
  have hl:=G.2
  have := zku (σ := Int × Int) (step := cmS g) (E := fun s => (⟨s.1, s.2⟩ : Span)) (EP := fun _ => true) (Inv := fun _ _ => True) (a := 0) (n := g.len) (lpS := fun k s i => zhk ⟨g⟩ k i s.1 s.2) (lpP := fun k s i => zhl ⟨g⟩ k i s.1 s.2)
    (fun k i s _ hi _=>by
      show zhi ⟨g⟩ (zhk ⟨g⟩ k) (i:Int) s.1 s.2=_
      generalize zhk ⟨g⟩ k=S
      unfold zhi
      rw [decide_eq_true (show (i:Int) < ((⟨g⟩:list).Gates.len:Int) by show (i:Int) < (g.len:Int);omega),cond_true,Int.toNat_natCast]
      rfl)
    (fun k s=>by
      show zhi ⟨g⟩ (zhk ⟨g⟩ k) (g.len:Int) s.1 s.2=_
      unfold zhi
      rw [decide_eq_false (show ¬ (g.len:Int) < ((⟨g⟩:list).Gates.len:Int) by show ¬ (g.len:Int) < (g.len:Int);omega),cond_false])
    (fun k i s _ hi _=>by
      show zhj ⟨g⟩ (zhl ⟨g⟩ k) (i:Int) s.1 s.2=_
      generalize zhl ⟨g⟩ k=S
      unfold zhj
      rw [decide_eq_true (show (i:Int) < ((⟨g⟩:list).Gates.len:Int) by show (i:Int) < (g.len:Int);omega),decide_eq_true (show 0≤(i:Int)∧(i:Int) < ((⟨g⟩:list).Gates.len:Int) by show 0≤(i:Int)∧(i:Int) < (g.len:Int);omega),cond_true,Bool.true_and,Int.toNat_natCast]
      rfl)
    (fun k s=>by
      show zhj ⟨g⟩ (zhl ⟨g⟩ k) (g.len:Int) s.1 s.2=_
      unfold zhj
      rw [decide_eq_false (show ¬ (g.len:Int) < ((⟨g⟩:list).Gates.len:Int) by show ¬ (g.len:Int) < (g.len:Int);omega),cond_false])
    (fun _ _ _ _ _=>trivial) (Nat.zero_le _) (by omega) ((g.get 0).Low,(g.get 0).High) trivial
  obtain ⟨a,b⟩:=this
  rw [show g.len - 0=g.len from rfl,zOq g hl.1] at b
  refine ⟨?_,b⟩
  unfold p98
  rw [decide_eq_true (show 0≤(0:Int)∧(0:Int) < ((⟨g⟩:list).Gates.len:Int) from ⟨by omega,by show (0:Int) < (g.len:Int);omega⟩),Bool.true_and,Bool.true_and]
  exact a
theorem zzb (g:Sl Gate) (G:zau g):p71 g=true∧s71 g=((com g).1,(com g).2,decide ((com g).1≤(com g).2)):=by
  have hl:=G.2
  have := zku (σ := Int × Int) (step := cmS g) (E := fun s => (s.1, s.2, decide (s.1 ≤ s.2))) (EP := fun _ => true) (Inv := fun _ _ => True) (a := 1) (n := g.len) (lpS := fun k s i => zkk g k s.1 s.2 i) (lpP := fun k s i => zkl g k s.1 s.2 i)
    (fun k i s _ hi _=>by
      show zki g (zkk g k) s.1 s.2 (i:Int)=_
      generalize zkk g k=S
      unfold zki
      rw [decide_eq_true (show (i:Int) < (g.len:Int) by omega),cond_true,Int.toNat_natCast]
      rfl)
    (fun k s=>by
      show zki g (zkk g k) s.1 s.2 (g.len:Int)=_
      unfold zki
      rw [decide_eq_false (show ¬ (g.len:Int) < (g.len:Int) by omega),cond_false])
    (fun k i s _ hi _=>by
      show zkj g (zkl g k) s.1 s.2 (i:Int)=_
      generalize zkl g k=S
      unfold zkj
      rw [decide_eq_true (show (i:Int) < (g.len:Int) by omega),decide_eq_true (show 0≤(i:Int)∧(i:Int) < (g.len:Int) by omega),cond_true,Bool.true_and,Bool.true_and,Int.toNat_natCast]
      rfl)
    (fun k s=>by
      show zkj g (zkl g k) s.1 s.2 (g.len:Int)=_
      unfold zkj
      rw [decide_eq_false (show ¬ (g.len:Int) < (g.len:Int) by omega),cond_false])
    (fun _ _ _ _ _=>trivial) hl.1 (by omega) ((g.get 0).Low,(g.get 0).High) trivial
  obtain ⟨a,b⟩:=this
  refine ⟨?_,b⟩
  unfold p71
  rw [decide_eq_true (show 0≤(0:Int)∧(0:Int) < (g.len:Int) by omega),Bool.true_and,Bool.true_and]
  exact a
theorem zzc (g:Sl Gate) (G:zau g):p66 (s65 g)=true∧p21 g=true∧s66 (s65 g)=s21 g:=by
 obtain ⟨C,_,c2,c3,c4,_⟩:=zsD g G
 obtain ⟨a1,a2⟩:=zsC g G
 obtain ⟨b1,b2⟩:=zCs g G
 obtain ⟨d1,d2⟩:=zzb g G
 obtain ⟨e1,e2⟩:=zh4 g G
 obtain ⟨f1,_,f3,f4,_⟩:=zoA g G
 have h67:s67 ⟨g⟩=s22 g:=Bool.eq_iff_iff.2 (a2.trans e2.symm)
 have hcl:(C.foldl apL (zic:Sl straight)).len=C.length:=by rw [zch];simp
 rw [c2]
 unfold p66 s66 p21 s21
 show (decide (p98 ⟨g⟩=true) && (decide (p67 ⟨g⟩=true) && true))=true∧_∧cond (s67 ⟨g⟩) (decide ((s98 ⟨g⟩).Low≤(s98 ⟨g⟩).High)) (decide (((C.foldl apL (zic:Sl straight)).len:Int) > 0))=_
 rw [a1,b1,b2,d1,d2,e1,f1,h67,hcl]
 refine ⟨by simp,by cases s22 g <;> simp,?_⟩
 cases s22 g
 ·rw [cond_false, cond_false]
  refine decide_eq_decide.2 ⟨fun h=>?_,fun h=>?_⟩
  ·obtain ⟨x, hx⟩ := List.exists_mem_of_length_pos (l := C) (by omega)
   obtain ⟨a,ha,_⟩:=f4 (toL x) ⟨x,(c3 x hx).1,(c3 x hx).2,rfl⟩
   omega
  ·obtain ⟨s, hs, ha, _⟩ := f3 0 (by omega)
   obtain ⟨x,hx,_⟩:=c4 s hs ha
   have:=List.length_pos_of_mem hx
   omega
 ·rfl
end Go.Proofs
namespace Go.Proofs
open Go Go.Pm
set_option maxRecDepth 100000
def FOK (f:Frac):Prop:=(-1000000000000≤f.Num∧f.Num≤1000000000000)∧1≤f.Den∧f.Den≤100000
def ltF (a b:Frac):Prop:=a.Num * b.Den < b.Num * a.Den
theorem zrg (x y:Int):zDo x y < 0↔x < y:=by
 unfold zDo zDm
 by_cases h:x < y
 ·simp [h]
 ·by_cases h2:x > y <;> simp [h,h2]
theorem zzd (x y:Int):zDo x y > 0↔x > y:=by
 unfold zDo zDm
 by_cases h:x < y
 ·have : ¬ x > y := by omega
  simp [h];omega
 ·by_cases h2:x > y <;> simp [h,h2]
theorem cross {a b:Frac} (ha:FOK a) (hb:FOK b):w64 (a.Num * b.Den)=a.Num * b.Den:=by
 have:=zkH ha.1.1 ha.1.2 (show 0≤b.Den by have:=hb.2;omega) hb.2.2
 exact zaO (by omega) (by omega)
theorem zze {a b:Frac} (ha:FOK a) (hb:FOK b):zAt a b=true↔ltF a b:=by
 unfold zAt s69 ltF
 rw [cross ha hb,cross hb ha,decide_eq_true_eq,zrg]
theorem zzf {a b:Frac} (ha:FOK a) (hb:FOK b):zAu a b=true↔ltF b a:=by
 unfold zAu s69 ltF
 rw [cross ha hb,cross hb ha,decide_eq_true_eq,zzd]
theorem zdS {a b:Frac} (ha:FOK a) (hb:FOK b):s29 a b=true↔ltF a b:=by
 unfold s29 ltF
 rw [cross ha hb,cross hb ha,decide_eq_true_eq]
theorem zhQ {a b:Frac} (ha:0 < a.Den) (hb:0 < b.Den):ltF (red a.Num a.Den) (red b.Num b.Den)↔ltF a b:=by
 have a1:=zdR (num:=a.Num) ha
 have a2:=zda (num:=a.Num) ha
 have b1:=zdR (num:=b.Num) hb
 have b2:=zda (num:=b.Num) hb
 have ga:=zce (num:=a.Num) ha
 have gb:=zce (num:=b.Num) hb
 unfold ltF
 generalize red a.Num a.Den=x at *
 generalize red b.Num b.Den=y at *
 generalize (Int.gcd a.Num a.Den:Int)=G at *
 generalize (Int.gcd b.Num b.Den:Int)=K at *
 have hk:=Int.mul_pos ga gb
 have e1:a.Num * b.Den=(G * K) * (x.Num * y.Den):=by rw [← a1,← b2];ac_rfl
 have e2:b.Num * a.Den=(G * K) * (y.Num * x.Den):=by rw [← b1,← a2];ac_rfl
 rw [e1,e2]
 have:=zg2 (x:=y.Num * x.Den) (y:=x.Num * y.Den) hk
 constructor
 ·intro h;exact Int.not_le.1 fun k=>absurd (this.1 k) (by omega)
 ·intro h;exact Int.not_le.1 fun k=>absurd (this.2 k) (by omega)
theorem zeR {f:Frac} (h:FOK f):FOK (red f.Num f.Den):=by
 obtain ⟨h1,h2,h3⟩:=h
 have hd:0 < f.Den:=by omega
 have:=zgo (num:=f.Num) hd
 have:=zkv (num:=f.Num) hd
 have:=zcI (num:=f.Num) hd
 exact ⟨⟨by omega,by omega⟩,by omega,by omega⟩
theorem zky {a b:Frac} (ha:0 < a.Den) (hb:0 < b.Den) (h1 : ¬ ltF a b) (h2 : ¬ ltF b a):red a.Num a.Den=red b.Num b.Den :=
 (zy5 ha hb).2 (by unfold ltF at h1 h2;omega)
end Go.Proofs
namespace Go.Proofs
open Go Go.Pm
set_option maxRecDepth 100000
theorem zJB {x y X Y:Int} (h1 : -X≤x) (h2:x≤X) (h3 : -Y≤y) (h4:y≤Y) : -(X * Y)≤x * y∧x * y≤X * Y:=by
 rcases Int.le_total 0 y with h | h
 ·exact zkH h1 h2 h h4
 ·have := zkH (x := x) (y := -y) (X := X) (Y := Y) h1 h2 (by omega) (by omega)
  rw [Int.mul_neg] at this
  omega
theorem zsF {s:straight} (S:SOK s) {z:Int} (hz : -200000≤z∧z≤200000):p28 (toL s) z=true∧s28 (toL s) z=red (plc s z) s.den:=by
 obtain ⟨S1,S2,S3⟩:=S
 have hd:0 < s.den:=by omega
 have g1:=zce (num:=s.slope) hd
 have g2:=zce (num:=s.start) hd
 have r1:=zgo (num:=s.slope) hd
 have r2:=zgo (num:=s.start) hd
 have e1:=zdR (num:=s.slope) hd
 have e2:=zda (num:=s.slope) hd
 have e3:=zdR (num:=s.start) hd
 have e4:=zda (num:=s.start) hd
 have p1:=zcI (num:=s.slope) hd
 have p2:=zcI (num:=s.start) hd
 have q1:=zkv (num:=s.slope) hd
 have q2:=zkv (num:=s.start) hd
 unfold p28 s28 zyI zyH toL
 simp only
 generalize (red s.slope s.den).Num=a at *
 generalize (red s.slope s.den).Den=b at *
 generalize (red s.start s.den).Num=c at *
 generalize (red s.start s.den).Den=d at *
 generalize (Int.gcd s.slope s.den:Int)=G1 at *
 generalize (Int.gcd s.start s.den:Int)=G2 at *
 obtain ⟨k1,k2⟩:=zCp d b (by omega) (by omega) (by omega)
 have g0:=zce (num:=d) p1
 obtain ⟨d',hd'⟩:=zMG d b
 obtain ⟨b',hb'⟩:=zMH d b
 rw [k1,k2]
 generalize (Int.gcd d b:Int)=g at *
 have pd:0 < d':=by
  rcases Int.lt_or_le 0 d' with h | h
  ·exact h
  ·have:=Int.mul_le_mul_of_nonneg_left h (Int.le_of_lt g0);rw [← hd',Int.mul_zero] at this;omega
 have pb:0 < b':=by
  rcases Int.lt_or_le 0 b' with h | h
  ·exact h
  ·have:=Int.mul_le_mul_of_nonneg_left h (Int.le_of_lt g0);rw [← hb',Int.mul_zero] at this;omega
 have ld:d'≤d:=by have:=Int.mul_le_mul_of_nonneg_right (show 1≤g by omega) (Int.le_of_lt pd);omega
 have lb:b'≤b:=by have:=Int.mul_le_mul_of_nonneg_right (show 1≤g by omega) (Int.le_of_lt pb);omega
 have t1:d.tdiv g=d':=by rw [hd'];exact Int.mul_tdiv_cancel_left _ (by omega)
 have m1:=zkH (x:=d') (X:=100000) (y:=b) (Y:=100000) (by omega) (by omega) (by omega) (by omega)
 have m2:=Int.mul_pos pd p1
 have t2:(d' * b).tdiv d=b':=by
  have:d' * b=d * b':=by rw [hb',hd'];ac_rfl
  rw [this];exact Int.mul_tdiv_cancel_left _ (by omega)
 have t3:(d' * b).tdiv b=d':=by rw [Int.mul_comm];exact Int.mul_tdiv_cancel_left _ (by omega)
 have m3:=zkH (x:=c) (X:=200000000000) (y:=b') (Y:=100000) (by omega) (by omega) (by omega) (by omega)
 have m4:=zkH (x:=a) (X:=2000000) (y:=d') (Y:=100000) (by omega) (by omega) (by omega) (by omega)
 have m5:=zJB (x:=a * d') (X:=2000000 * 100000) (y:=z) (Y:=200000) (by omega) (by omega) (by omega) (by omega)
 rw [t1,zaO (x:=d') (by omega) (by omega),zaO (x:=d' * b) (by omega) (by omega),t2,t3,zaO (x:=b') (by omega) (by omega),zaO (x:=d') (by omega) (by omega),zaO (x:=c * b') (by omega) (by omega),zaO (x:=a * d') (by omega) (by omega),zaO (x:=a * d' * z) (by omega) (by omega),zaO (x:=c * b'+a * d' * z) (by omega) (by omega)]
 obtain ⟨x1,x2⟩:=zeq (num:=c * b'+a * d' * z) (den:=d' * b) (by omega) (by omega) (by omega) (by omega)
 rw [x1,x2,decide_eq_true (show g ≠ 0 by omega),decide_eq_true (show d ≠ 0 by omega),decide_eq_true (show b ≠ 0 by omega)]
 refine ⟨by simp,(zy5 m2 hd).2 ?_⟩
 unfold plc
 have u1:c * b' * s.den=s.start * (d' * b):=by
  rw [← e3,← e4,hb',hd'];ac_rfl
 have u2:a * d' * z * s.den=s.slope * z * (d' * b):=by
  rw [← e1,← e2];ac_rfl
 rw [Int.add_mul,Int.add_mul,u1,u2]
theorem zcw {a b c:Frac} (ha:0 < a.Den) (hb:0 < b.Den) (hc:0 < c.Den) (h1 : ¬ ltF b a) (h2 : ¬ ltF c b) : ¬ ltF c a:=by
 unfold ltF at *
 intro h3
 -- a ≤ b, b ≤ c, c < a
 have x1:a.Num * b.Den≤b.Num * a.Den:=by omega
 have x2:b.Num * c.Den≤c.Num * b.Den:=by omega
 have y1:=Int.mul_le_mul_of_nonneg_right x1 (Int.le_of_lt hc)
 have y2:=Int.mul_le_mul_of_nonneg_right x2 (Int.le_of_lt ha)
 have y3:=Int.mul_lt_mul_of_pos_right h3 hb
 have z1:b.Num * a.Den * c.Den=b.Num * c.Den * a.Den:=by ac_rfl
 have z2:c.Num * b.Den * a.Den=c.Num * a.Den * b.Den:=by ac_rfl
 have z3:a.Num * b.Den * c.Den=a.Num * c.Den * b.Den:=by ac_rfl
 omega
def zeS (v:Sl Frac) (f:Frac):Prop:=(∃ i,i < v.len∧v.get i=f)∧∀ j,j < v.len→¬ ltF (v.get j) f
def zeT (v:Sl Frac) (f:Frac):Prop:=(∃ i,i < v.len∧v.get i=f)∧∀ j,j < v.len→¬ ltF f (v.get j)
theorem zGx (v:Sl Frac) (h1:1≤v.len) (h2:v.len≤100000) (hv:∀ i,i < v.len→FOK (v.get i)):zGO v=true∧zeS v (zpt v):=by
  have key:∀ (m k i:Nat) (sl:Sl Frac) (o:Frac),sl.len=v.len - 1→(∀ x,sl.get x=v.get (x+1))→i+m=v.len - 1→m < k→(∃ a,a < v.len∧v.get a=o)→(∀ j,j≤i→¬ ltF (v.get j) o) →
      zfF v k sl (i:Int) o.Num o.Den=true∧zeS v (zfE v k sl (i:Int) o.Num o.Den):=by
    intro m
    induction m with
    | zero =>
      intro k i sl o hs hg hi hk ho hl
      obtain ⟨k,rfl⟩:∃ k',k=k'+1:=⟨k - 1,by omega⟩
      show zfD v (zfF v k) _ _ _ _=_∧zeS v (zfC v (zfE v k) _ _ _ _)
      unfold zfD zfC
      rw [decide_eq_false (show ¬ (i:Int) < (((v.len:Int) - (1:Int)).toNat:Int) by omega),cond_false,cond_false]
      exact ⟨rfl,ho,fun j hj=>hl j (by omega)⟩
    | succ m ih =>
      intro k i sl o hs hg hi hk ho hl
      obtain ⟨k,rfl⟩:∃ k',k=k'+1:=⟨k - 1,by omega⟩
      have ih:=fun o ho hl=>ih k (i+1) sl o hs hg (by omega) (by omega) ho hl
      show zfD v (zfF v k) _ _ _ _=_∧zeS v (zfC v (zfE v k) _ _ _ _)
      generalize zfF v k=P at ih
      generalize zfE v k=S at ih
      unfold zfD zfC zl9 zl8
      have ho':=ho
      obtain ⟨a,ha,ea⟩:=ho'
      have fo:FOK o:=ea ▸ hv a ha
      have fx:=hv (i+1) (by omega)
      rw [decide_eq_true (show (i:Int) < (((v.len:Int) - (1:Int)).toNat:Int) by omega),decide_eq_true (show 0≤(i:Int)∧(i:Int) < (sl.len:Int) by omega),cond_true,cond_true,Bool.true_and,Int.toNat_natCast,hg,zbB (n:=v.len) (by omega) (by omega)]
      by_cases hlt:ltF (v.get (i+1)) o
      · rw [show zAt (v.get (i + 1)) (⟨o.Num, o.Den⟩ : Frac) = true from (zze fx fo).2 hlt, cond_true, cond_true]
        refine ih (v.get (i+1)) ⟨i+1,by omega,rfl⟩ fun j hj=>?_
        by_cases hji:j=i+1
        · rw [hji];unfold ltF;omega
        · have g1 := hl j (by omega)
          have fj:=hv j (by omega)
          refine zcw (b:=o) (by have:=fx.2;omega) (by have:=fo.2;omega) (by have:=fj.2;omega) ?_ g1
          unfold ltF at hlt ⊢;omega
      · have e:zAt (v.get (i+1)) (⟨o.Num,o.Den⟩:Frac)=false:=by
          cases h:zAt (v.get (i+1)) (⟨o.Num,o.Den⟩:Frac)
          · rfl
          · exact absurd ((zze fx fo).1 h) hlt
        rw [e,cond_false,cond_false]
        refine ih o ho fun j hj=>?_
        by_cases hji:j=i+1
        · rw [hji];exact hlt
        · exact hl j (by omega)
  have hk := key (v.len - 1) Fuel 0 (⟨((v.len : Int) - (1:Int)).toNat, (fun i => v.get (i + ((1:Int).toNat)))⟩ : Sl Frac) (v.get 0) (by show ((v.len : Int) - (1:Int)).toNat = _; omega) (fun _ => rfl) (by omega) (by simp only [Fuel]; omega) ⟨0, by omega, rfl⟩
    (fun j hj => by have : j = 0 := by omega
                    rw [this];unfold ltF;omega)
  refine ⟨?_,hk.2⟩
  unfold zGO
  rw [decide_eq_true (show 0≤(0:Int)∧(0:Int) < (v.len:Int) by omega),decide_eq_true (show 0≤(1:Int)∧(1:Int)≤(v.len:Int)∧(v.len:Int)≤(v.len:Int) by omega),Bool.true_and,Bool.true_and]
  exact hk.1
end Go.Proofs
namespace Go.Proofs
open Go Go.Pm
set_option maxRecDepth 100000
theorem zBm (v:Sl Frac) (h1:1≤v.len) (h2:v.len≤100000) (hv:∀ i,i < v.len→FOK (v.get i)):ztk v=true∧zeT v (s111a v):=by
  have key:∀ (m k i:Nat) (sl:Sl Frac) (o:Frac),sl.len=v.len - 1→(∀ x,sl.get x=v.get (x+1))→i+m=v.len - 1→m < k→(∃ a,a < v.len∧v.get a=o)→(∀ j,j≤i→¬ ltF o (v.get j)) →
      zel v k sl (i:Int) o.Num o.Den=true∧zeT v (zek v k sl (i:Int) o.Num o.Den):=by
    intro m
    induction m with
    | zero =>
      intro k i sl o hs hg hi hk ho hl
      obtain ⟨k,rfl⟩:∃ k',k=k'+1:=⟨k - 1,by omega⟩
      show zej v (zel v k) _ _ _ _=_∧zeT v (zei v (zek v k) _ _ _ _)
      unfold zej zei
      rw [decide_eq_false (show ¬ (i:Int) < (((v.len:Int) - (1:Int)).toNat:Int) by omega),cond_false,cond_false]
      exact ⟨rfl,ho,fun j hj=>hl j (by omega)⟩
    | succ m ih =>
      intro k i sl o hs hg hi hk ho hl
      obtain ⟨k,rfl⟩:∃ k',k=k'+1:=⟨k - 1,by omega⟩
      have ih:=fun o ho hl=>ih k (i+1) sl o hs hg (by omega) (by omega) ho hl
      show zej v (zel v k) _ _ _ _=_∧zeT v (zei v (zek v k) _ _ _ _)
      generalize zel v k=P at ih
      generalize zek v k=S at ih
      unfold zej zei zjn zjm
      have ho':=ho
      obtain ⟨a,ha,ea⟩:=ho'
      have fo:FOK o:=ea ▸ hv a ha
      have fx:=hv (i+1) (by omega)
      rw [decide_eq_true (show (i:Int) < (((v.len:Int) - (1:Int)).toNat:Int) by omega),decide_eq_true (show 0≤(i:Int)∧(i:Int) < (sl.len:Int) by omega),cond_true,cond_true,Bool.true_and,Int.toNat_natCast,hg,zbB (n:=v.len) (by omega) (by omega)]
      by_cases hlt:ltF o (v.get (i+1))
      · rw [show zAu (v.get (i + 1)) (⟨o.Num, o.Den⟩ : Frac) = true from (zzf fx fo).2 hlt, cond_true, cond_true]
        refine ih (v.get (i+1)) ⟨i+1,by omega,rfl⟩ fun j hj=>?_
        by_cases hji:j=i+1
        · rw [hji];unfold ltF;omega
        · have g1 := hl j (by omega)
          have fj:=hv j (by omega)
          refine zcw (b:=o) (by have:=fj.2;omega) (by have:=fo.2;omega) (by have:=fx.2;omega) g1 ?_
          unfold ltF at hlt ⊢;omega
      · have e:zAu (v.get (i+1)) (⟨o.Num,o.Den⟩:Frac)=false:=by
          cases h:zAu (v.get (i+1)) (⟨o.Num,o.Den⟩:Frac)
          · rfl
          · exact absurd ((zzf fx fo).1 h) hlt
        rw [e,cond_false,cond_false]
        refine ih o ho fun j hj=>?_
        by_cases hji:j=i+1
        · rw [hji];exact hlt
        · exact hl j (by omega)
  have hk := key (v.len - 1) Fuel 0 (⟨((v.len : Int) - (1:Int)).toNat, (fun i => v.get (i + ((1:Int).toNat)))⟩ : Sl Frac) (v.get 0) (by show ((v.len : Int) - (1:Int)).toNat = _; omega) (fun _ => rfl) (by omega) (by simp only [Fuel]; omega) ⟨0, by omega, rfl⟩
    (fun j hj => by have : j = 0 := by omega
                    rw [this];unfold ltF;omega)
  refine ⟨?_,hk.2⟩
  unfold ztk
  rw [decide_eq_true (show 0≤(0:Int)∧(0:Int) < (v.len:Int) by omega),decide_eq_true (show 0≤(1:Int)∧(1:Int)≤(v.len:Int)∧(v.len:Int)≤(v.len:Int) by omega),Bool.true_and,Bool.true_and]
  exact hk.1
theorem zzg {w : Nat → Frac} {n : Nat} (h1 : 1 ≤ n) (hn : n ≤ 100000) (hw : ∀ j, j < n → FOK (w j)) {lpS : Nat → Int → Frac → Frac → Frac × Frac} {lpP : Nat → Int → Frac → Frac → Bool}
    (hS:∀ (k i:Nat) (a b:Frac),i < n→lpS (k+1) (i:Int) a b=lpS k (w64 ((i:Int)+(1:Int))) (cond (s29 (w i) a) (w i) a) (cond (s29 b (w i)) (w i) b))
    (hE:∀ (k:Nat) (a b:Frac),lpS (k+1) (n:Int) a b=(a,b))
    (hP:∀ (k i:Nat) (a b:Frac),i < n→lpP (k+1) (i:Int) a b=lpP k (w64 ((i:Int)+(1:Int))) (cond (s29 (w i) a) (w i) a) (cond (s29 b (w i)) (w i) b))
    (hF:∀ (k:Nat) (a b:Frac),lpP (k+1) (n:Int) a b=true) :
    lpP Fuel (1:Int) (w 0) (w 0)=true∧zeS ⟨n,w⟩ (lpS Fuel (1:Int) (w 0) (w 0)).1∧zeT ⟨n,w⟩ (lpS Fuel (1:Int) (w 0) (w 0)).2:=by
  have key:∀ (m k i:Nat) (a b:Frac),i+m=n→m < k→(∃ j,j < n∧w j=a)→(∃ j,j < n∧w j=b)→(∀ j,j < i→¬ ltF (w j) a)→(∀ j,j < i→¬ ltF b (w j)) →
      lpP k (i:Int) a b=true∧zeS ⟨n,w⟩ (lpS k (i:Int) a b).1∧zeT ⟨n,w⟩ (lpS k (i:Int) a b).2:=by
    intro m
    induction m with
    | zero =>
      intro k i a b hi hk ha hb hl hg
      obtain ⟨k,rfl⟩:∃ k',k=k'+1:=⟨k - 1,by omega⟩
      obtain rfl:i=n:=by omega
      rw [hE,hF]
      exact ⟨rfl,⟨ha,hl⟩,hb,hg⟩
    | succ m ih =>
      intro k i a b hi hk ha hb hl hg
      obtain ⟨k,rfl⟩:∃ k',k=k'+1:=⟨k - 1,by omega⟩
      have hin:i < n:=by omega
      rw [hS k i a b hin,hP k i a b hin,zbB (n:=n) hin (by omega)]
      have fi:=hw i hin
      have fa:FOK a:=by obtain ⟨j,hj,e⟩:=ha;exact e ▸ hw j hj
      have fb:FOK b:=by obtain ⟨j,hj,e⟩:=hb;exact e ▸ hw j hj
      have pi:=fi.2;have pa:=fa.2;have pb:=fb.2
      refine ih k (i+1) _ _ (by omega) (by omega) ?_ ?_ ?_ ?_
      · cases s29 (w i) a
        · exact ha
        · exact ⟨i,hin,rfl⟩
      · cases s29 b (w i)
        · exact hb
        · exact ⟨i,hin,rfl⟩
      · intro j hj
        cases e:s29 (w i) a
        · by_cases hji : j = i
          · rw [hji];intro h;rw [(zdS fi fa).2 h] at e;cases e
          · exact hl j (by omega)
        · have hlt := (zdS fi fa).1 e
          show ¬ ltF (w j) (w i)
          by_cases hji:j=i
          · rw [hji];unfold ltF;omega
          · have fj := (hw j (by omega)).2
            refine zcw (b:=a) (by omega) (by omega) (by omega) ?_ (hl j (by omega))
            unfold ltF at hlt ⊢;omega
      · intro j hj
        cases e:s29 b (w i)
        · by_cases hji : j = i
          · rw [hji];intro h;rw [(zdS fb fi).2 h] at e;cases e
          · exact hg j (by omega)
        · have hlt := (zdS fb fi).1 e
          show ¬ ltF (w i) (w j)
          by_cases hji:j=i
          · rw [hji];unfold ltF;omega
          · have fj := (hw j (by omega)).2
            refine zcw (b:=b) (by omega) (by omega) (by omega) (hg j (by omega)) ?_
            unfold ltF at hlt ⊢;omega
  exact key (n - 1) Fuel 1 (w 0) (w 0) (by omega) (by simp only [Fuel]; omega) ⟨0, by omega, rfl⟩ ⟨0, by omega, rfl⟩
    (fun j hj => by have : j = 0 := by omega
                    rw [this]; unfold ltF; omega) (fun j hj => by have : j = 0 := by omega
                                                                  rw [this];unfold ltF;omega)
abbrev rd_ (f:Frac):Frac:=red f.Num f.Den
theorem ztv {f:Frac} (h:0 < f.Den):rd_ (rd_ f)=rd_ f:=by
 have p:=zcI (num:=f.Num) h
 refine (zy5 p h).2 ?_
 have e1:=zdR (num:=f.Num) h
 have e2:=zda (num:=f.Num) h
 show (red f.Num f.Den).Num * f.Den=f.Num * (red f.Num f.Den).Den
 generalize red f.Num f.Den=x at *
 generalize (Int.gcd f.Num f.Den:Int)=G at *
 rw [← e1,← e2];ac_rfl
theorem zfu {a b:Frac} (ha:0 < a.Den) (hb:0 < b.Den):ltF (rd_ a) b↔ltF a b:=by
 have p:=zcI (num:=a.Num) ha
 have e:red (rd_ a).Num (rd_ a).Den=red a.Num a.Den:=ztv ha
 rw [← zhQ (a:=rd_ a) (b:=b) p hb,e,zhQ ha hb]
theorem zfv {a b:Frac} (ha:0 < a.Den) (hb:0 < b.Den):ltF a (rd_ b)↔ltF a b:=by
 have p:=zcI (num:=b.Num) hb
 have e:red (rd_ b).Num (rd_ b).Den=red b.Num b.Den:=ztv hb
 rw [← zhQ (a:=a) (b:=rd_ b) ha p,e,zhQ ha hb]
def Cor (g:Sl Gate) (s:straight):Prop:=s∈cst g∧zg3 g s
def Bd (g:Sl Gate) (F:straight→Frac) (lo hi:Frac):Prop :=
 ((∃ s,Cor g s∧rd_ (F s)=lo)∧∀ s,Cor g s→¬ ltF (F s) lo)∧(∃ s,Cor g s∧rd_ (F s)=hi)∧∀ s,Cor g s→¬ ltF hi (F s)
theorem zzh {g:Sl Gate} {F:straight→Frac} (hF:∀ s,Cor g s→FOK (F s)) {a b c d:Frac} (h1:Bd g F a b) (h2:Bd g F c d):a=c∧b=d:=by
 obtain ⟨⟨⟨s,hs,e1⟩,l1⟩,⟨t,ht,e2⟩,g1⟩:=h1
 obtain ⟨⟨⟨u,hu,e3⟩,l2⟩,⟨v,hv,e4⟩,g2⟩:=h2
 have ps:=(hF s hs).2;have pt:=(hF t ht).2;have pu:=(hF u hu).2;have pv:=(hF v hv).2
 refine ⟨?_,?_⟩
 ·rw [← e1, ← e3]
  refine zky (by omega) (by omega) ?_ ?_
  ·have:=l2 s hs;rw [← e3,zfv (by omega) (by omega)] at this;exact this
  ·have:=l1 u hu;rw [← e1,zfv (by omega) (by omega)] at this;exact this
 ·rw [← e2, ← e4]
  refine zky (by omega) (by omega) ?_ ?_
  ·have:=g1 v hv;rw [← e2,zfu (by omega) (by omega)] at this;exact this
  ·have:=g2 t ht;rw [← e4,zfu (by omega) (by omega)] at this;exact this
theorem zJC {g : Sl Gate} {F : straight → Frac} (hF : ∀ s, Cor g s → FOK (F s)) {v : Sl Frac} {lo hi : Frac} (h1 : ∀ i, i < v.len → ∃ s, Cor g s ∧ rd_ (F s) = rd_ (v.get i) ∧ 0 < (v.get i).Den)
    (h2:∀ s,Cor g s→∃ i,i < v.len∧rd_ (F s)=rd_ (v.get i)) (hl:zeS v lo) (hg:zeT v hi):Bd g F (rd_ lo) (rd_ hi):=by
  obtain ⟨⟨i,hi1,ei⟩,l⟩:=hl
  obtain ⟨⟨j,hj1,ej⟩,r⟩:=hg
  obtain ⟨si,ci,ri,pi⟩:=h1 i hi1
  obtain ⟨sj,cj,rj,pj⟩:=h1 j hj1
  refine ⟨⟨⟨si,ci,by rw [ri,ei]⟩,fun s hs=>?_⟩,⟨sj,cj,by rw [rj,ej]⟩,fun s hs=>?_⟩
  · obtain ⟨k, hk, ek⟩ := h2 s hs
    have ps:=(hF s hs).2
    obtain ⟨_,_,_,pk⟩:=h1 k hk
    rw [ei] at pi
    rw [zfv (by omega) pi,← zfu (by omega) pi,ek,zfu pk pi]
    exact l k hk
  · obtain ⟨k, hk, ek⟩ := h2 s hs
    have ps:=(hF s hs).2
    obtain ⟨_,_,_,pk⟩:=h1 k hk
    rw [ej] at pj
    rw [zfu pj (by omega),← zfv pj (by omega),ek,zfv pj pk]
    exact r k hk
end Go.Proofs
namespace Go.Proofs
open Go Go.Pm
set_option maxRecDepth 100000
abbrev plF (z:Int) (s:straight):Frac:=⟨plc s z,s.den⟩
abbrev slF (s:straight):Frac:=⟨s.slope,s.den⟩
theorem zzi {s:straight} (S:SOK s) {z:Int} (hz : -200000≤z∧z≤200000):(-400000000000≤s.slope * z∧s.slope * z≤400000000000)∧-600000000000≤plc s z∧plc s z≤600000000000:=by
 have:=zJB S.1.1 S.1.2 hz.1 hz.2
 have:=S.2.1
 unfold plc
 omega
theorem zd0 {s:straight} (S:SOK s) {z:Int} (hz : -200000≤z∧z≤200000):FOK (plF z s) :=
 ⟨⟨by show -1000000000000≤plc s z;have:=zzi S hz;omega,by show plc s z≤1000000000000;have:=zzi S hz;omega⟩,S.2.2⟩
theorem zsG {s:straight} (S:SOK s):FOK (slF s):=⟨⟨by show -1000000000000≤s.slope;have:=S.1;omega,by show s.slope≤1000000000000;have:=S.1;omega⟩,S.2.2⟩
theorem zGy {s:straight} (S:SOK s) {z:Int} (hz : -200000≤z∧z≤200000):zu8 z s=plF z s:=by
 obtain ⟨a,b⟩:=zzi S hz
 unfold plc at b
 unfold zu8 zHV plF plc
 rw [zaO (x:=s.slope * z) (by omega) (by omega),zaO (x:=s.start+s.slope * z) (by omega) (by omega)]
theorem zbR {g:Sl Gate} (G:zau g) {s:straight} (h:Cor g s):SOK s:=zkw G h.1
abbrev lst {α:Type} [Inhabited α] (l:List α):Sl α:=l.foldl apL zic
theorem zkz {α:Type} [Inhabited α] (l:List α):(lst l).len=l.length:=by
 show (l.foldl apL zic).len=_
 rw [zch];simp [zic]
theorem znj {α:Type} [Inhabited α] {l:List α} {i:Nat} {x:α} (h:l[i]? = some x):(lst l).get i=x:=by
 have:=zg4 l zic i x h
 rw [show (zic:Sl α).len+i=i from Nat.zero_add i] at this;exact this
structure CorL (g : Sl Gate) (C : List straight) : Prop where
  len:C.length≤100000
  mem:∀ s∈C,Cor g s
  all:∀ s,Cor g s→∃ x∈C,toL x=toL s
theorem zzj {g:Sl Gate} {C:List straight} (h:CorL g C):(1≤C.length)↔∃ s,Cor g s:=by
 constructor
 ·intro h1
  match C,h1 with
  | x :: C,_=>exact ⟨x,h.mem x List.mem_cons_self⟩
 ·intro ⟨s, hs⟩
  obtain ⟨x,hx,_⟩:=h.all s hs
  exact List.length_pos_of_mem hx
def frS (F:straight→Frac) (C:List straight):Sl Frac:=lst (C.map F)
theorem zJD {g : Sl Gate} (G : zau g) {C : List straight} (H : CorL g C) {F : straight → Frac} (hF : ∀ s, Cor g s → FOK (F s)) (hc : ∀ x y, Cor g x → Cor g y → toL x = toL y → rd_ (F x) = rd_ (F y)) {lo hi : Frac}
    (hl:zeS (frS F C) lo) (hg:zeT (frS F C) hi):Bd g F (rd_ lo) (rd_ hi):=by
  have get:∀ (i:Nat) (s:straight),C[i]? = some s→(frS F C).get i=F s:=fun i s h=>znj (by rw [List.getElem?_map,h];rfl)
  refine zJC hF (fun i hi=>?_) (fun s hs=>?_) hl hg
  · have hi : i < C.length := by have := zkz (C.map F); rw [List.length_map] at this; exact this ▸ hi
    have e:=List.getElem?_eq_getElem hi
    have m:=H.mem _ (List.getElem_mem hi)
    rw [get i _ e]
    exact ⟨_,m,rfl,by have:=(hF _ m).2;omega⟩
  · obtain ⟨x, hx, ex⟩ := H.all s hs
    obtain ⟨i,hi,rfl⟩:=List.getElem_of_mem hx
    refine ⟨i,?_,?_⟩
    · have:=zkz (C.map F);rw [List.length_map] at this;exact this.symm ▸ hi
    · rw [get i _ (List.getElem?_eq_getElem hi)]
      exact hc _ _ hs (H.mem _ hx) ex.symm
theorem zGz {g:Sl Gate} (G:zau g) {z:Int} (hz : -200000≤z∧z≤200000) (x y:straight) (hx:Cor g x) (hy:Cor g y) (h:toL x=toL y):rd_ (plF z x)=rd_ (plF z y):=by
 have a:=(zsF (zbR G hx) hz).2
 have b:=(zsF (zbR G hy) hz).2
 show red (plc x z) x.den=red (plc y z) y.den
 rw [← a,← b,h]
theorem zGA {x y:straight} (h:toL x=toL y):rd_ (slF x)=rd_ (slF y):=congrArg Line.Slope h
theorem znk (F:straight→Frac) (C:List straight):(frS F C).len=C.length:=by
 have:=zkz (C.map F);rw [List.length_map] at this;exact this
theorem zGB {g:Sl Gate} {C:List straight} (H:CorL g C) {F:straight→Frac} (hF:∀ s,Cor g s→FOK (F s)):∀ i,i < (frS F C).len→FOK ((frS F C).get i):=by
 intro i hi
 have hi:i < C.length:=znk F C ▸ hi
 have:(frS F C).get i=F C[i]:=znj (by rw [List.getElem?_map,List.getElem?_eq_getElem hi];rfl)
 rw [this]
 exact hF _ (H.mem _ (List.getElem_mem hi))
theorem zzk {g : Sl Gate} (G : zau g) {C : List straight} (H : CorL g C) (h1 : 1 ≤ C.length) {F : straight → Frac} (hF : ∀ s, Cor g s → FOK (F s)) (hc : ∀ x y, Cor g x → Cor g y → toL x = toL y → rd_ (F x) = rd_ (F y)) :
  zma (frS F C)=true∧Bd g F (zeF (frS F C)).1 (zeF (frS F C)).2:=by
 have hn:=znk F C
 have hl:=H.len
 have fv:=zGB H hF
 obtain ⟨a1,a2⟩:=zGx (frS F C) (by omega) (by omega) fv
 obtain ⟨b1,b2⟩:=zBm (frS F C) (by omega) (by omega) fv
 have B:=zJD G H hF hc a2 b2
 have fa:FOK (zpt (frS F C)):=by obtain ⟨⟨i,hi,e⟩,_⟩:=a2;exact e ▸ fv i hi
 have fb:FOK (s111a (frS F C)):=by obtain ⟨⟨i,hi,e⟩,_⟩:=b2;exact e ▸ fv i hi
 obtain ⟨fa1,fa2⟩:=fa
 obtain ⟨fb1,fb2⟩:=fb
 obtain ⟨c1,c2⟩:=zh3 (num:=(zpt (frS F C)).Num) (den:=(zpt (frS F C)).Den) (by omega) (by omega) (by omega) (by omega)
 obtain ⟨d1,d2⟩:=zh3 (num:=(s111a (frS F C)).Num) (den:=(s111a (frS F C)).Den) (by omega) (by omega) (by omega) (by omega)
 unfold zma zeF zpz zpy zpx zpw
 rw [a1,b1,c1,d1]
 refine ⟨by simp,?_⟩
 show Bd g F (s89 _ _) (s89 _ _)
 rw [c2,d2]
 exact B
theorem zzl {F:straight→Frac} {C:List straight} {i:Nat} (hi:i < C.length):frS F (C.take (i+1))=apL (frS F (C.take i)) (F ((lst C).get i)):=by
 have e:=znj (List.getElem?_eq_getElem hi)
 unfold frS
 rw [List.take_succ_eq_append_getElem hi,List.map_append]
 show (List.map F (C.take i) ++ List.map F [C[i]]).foldl apL zic=_
 rw [List.foldl_append]
 show apL (lst (List.map F (List.take i C))) (F C[i])=_
 rw [e]
theorem zJE {g : Sl Gate} (G : zau g) {C : List straight} (H : CorL g C) (h1 : 1 ≤ C.length) {z : Int} (hz : -200000 ≤ z ∧ z ≤ 200000) :
  p82 z ⟨⟨g⟩,lst C⟩=true∧Bd g (plF z) (s82 z ⟨⟨g⟩,lst C⟩).1 (s82 z ⟨⟨g⟩,lst C⟩).2:=by
 have hn:=zkz C
 have hl:=H.len
 obtain ⟨x1,x2⟩:=zzk G H h1 (F:=plF z) (fun s hs=>zd0 (zbR G hs) hz) (zGz G hz)
 have key:∀ (m k i:Nat),i+m=C.length→m < k→zhp z ⟨⟨g⟩,lst C⟩ k (i:Int) (frS (plF z) (C.take i))=true∧zho z ⟨⟨g⟩,lst C⟩ k (i:Int) (frS (plF z) (C.take i))=zeF (frS (plF z) C):=by
  intro m
  induction m with
  | zero =>
   intro k i hi hk
   obtain ⟨k,rfl⟩:∃ k',k=k'+1:=⟨k - 1,by omega⟩
   show zhn z ⟨⟨g⟩,lst C⟩ (zhp z ⟨⟨g⟩,lst C⟩ k) (i:Int) _=_∧zhm z ⟨⟨g⟩,lst C⟩ (zho z ⟨⟨g⟩,lst C⟩ k) (i:Int) _=_
   unfold zhn zhm
   rw [decide_eq_false (show ¬ (i:Int) < (((⟨⟨g⟩,lst C⟩:set).corners.len:Nat):Int) by show ¬ (i:Int) < ((lst C).len:Int);omega),cond_false,cond_false,List.take_of_length_le (by omega)]
   exact ⟨x1,rfl⟩
  | succ m ih =>
   intro k i hi hk
   obtain ⟨k,rfl⟩:∃ k',k=k'+1:=⟨k - 1,by omega⟩
   have ih:=ih k (i+1) (by omega) (by omega)
   have hiC:i < C.length:=by omega
   show zhn z ⟨⟨g⟩,lst C⟩ (zhp z ⟨⟨g⟩,lst C⟩ k) (i:Int) _=_∧zhm z ⟨⟨g⟩,lst C⟩ (zho z ⟨⟨g⟩,lst C⟩ k) (i:Int) _=_
   generalize zhp z ⟨⟨g⟩,lst C⟩ k=P at ih
   generalize zho z ⟨⟨g⟩,lst C⟩ k=S at ih
   have so:zu8 z ((lst C).get i)=plF z ((lst C).get i):=by
    rw [znj (List.getElem?_eq_getElem hiC)]
    exact zGy (zbR G (H.mem _ (List.getElem_mem hiC))) hz
   have hv:=znk (plF z) (C.take i)
   rw [List.length_take] at hv
   unfold zhn zhm
   rw [decide_eq_true (show (i:Int) < (((⟨⟨g⟩,lst C⟩:set).corners.len:Nat):Int) by show (i:Int) < ((lst C).len:Int);omega),cond_true,cond_true,
    decide_eq_true (show 0≤(i:Int)∧(i:Int) < (((⟨⟨g⟩,lst C⟩:set).corners.len:Nat):Int) by show 0≤(i:Int)∧(i:Int) < ((lst C).len:Int);omega),Bool.true_and,
    decide_eq_true (show ((frS (plF z) (C.take i)).len+1) * 16≤140737488355328∧(frS (plF z) (C.take i)).len+1≤9223372036854775807 by omega),Bool.true_and,zbB (n:=C.length) hiC (by omega),Int.toNat_natCast]
   have e:=zzl (F:=plF z) hiC
   rw [e] at ih
   show P ((i+1:Nat):Int) (apL (frS (plF z) (C.take i)) (zu8 z ((lst C).get i)))=true∧S ((i+1:Nat):Int) (apL (frS (plF z) (C.take i)) (zu8 z ((lst C).get i)))=_
   rw [so]
   exact ih
 have h:=key C.length Fuel 0 (by omega) (by simp only [Fuel];omega)
 have h2:s82 z ⟨⟨g⟩,lst C⟩=zeF (frS (plF z) C):=h.2
 exact ⟨h.1,by rw [h2];exact x2⟩
theorem zGC {g : Sl Gate} (G : zau g) {C : List straight} (H : CorL g C) (h1 : 1 ≤ C.length) :
  zJ2 ⟨⟨g⟩,lst C⟩=true∧Bd g slF (zAC ⟨⟨g⟩,lst C⟩).1 (zAC ⟨⟨g⟩,lst C⟩).2:=by
 have hn:=zkz C
 have hl:=H.len
 obtain ⟨x1,x2⟩:=zzk G H h1 (F:=slF) (fun s hs=>zsG (zbR G hs)) (fun _ _ _ _ h=>zGA h)
 have key:∀ (m k i:Nat),i+m=C.length→m < k→zfJ ⟨⟨g⟩,lst C⟩ k (i:Int) (frS slF (C.take i))=true∧zfI ⟨⟨g⟩,lst C⟩ k (i:Int) (frS slF (C.take i))=zeF (frS slF C):=by
  intro m
  induction m with
  | zero =>
   intro k i hi hk
   obtain ⟨k,rfl⟩:∃ k',k=k'+1:=⟨k - 1,by omega⟩
   show zfH ⟨⟨g⟩,lst C⟩ (zfJ ⟨⟨g⟩,lst C⟩ k) (i:Int) _=_∧zfG ⟨⟨g⟩,lst C⟩ (zfI ⟨⟨g⟩,lst C⟩ k) (i:Int) _=_
   unfold zfH zfG
   rw [decide_eq_false (show ¬ (i:Int) < (((⟨⟨g⟩,lst C⟩:set).corners.len:Nat):Int) by show ¬ (i:Int) < ((lst C).len:Int);omega),cond_false,cond_false,List.take_of_length_le (by omega)]
   exact ⟨x1,rfl⟩
  | succ m ih =>
   intro k i hi hk
   obtain ⟨k,rfl⟩:∃ k',k=k'+1:=⟨k - 1,by omega⟩
   have ih:=ih k (i+1) (by omega) (by omega)
   have hiC:i < C.length:=by omega
   show zfH ⟨⟨g⟩,lst C⟩ (zfJ ⟨⟨g⟩,lst C⟩ k) (i:Int) _=_∧zfG ⟨⟨g⟩,lst C⟩ (zfI ⟨⟨g⟩,lst C⟩ k) (i:Int) _=_
   generalize zfJ ⟨⟨g⟩,lst C⟩ k=P at ih
   generalize zfI ⟨⟨g⟩,lst C⟩ k=S at ih
   have hv:=znk slF (C.take i)
   rw [List.length_take] at hv
   unfold zfH zfG
   rw [decide_eq_true (show (i:Int) < (((⟨⟨g⟩,lst C⟩:set).corners.len:Nat):Int) by show (i:Int) < ((lst C).len:Int);omega),cond_true,cond_true,
    decide_eq_true (show 0≤(i:Int)∧(i:Int) < (((⟨⟨g⟩,lst C⟩:set).corners.len:Nat):Int) by show 0≤(i:Int)∧(i:Int) < ((lst C).len:Int);omega),Bool.true_and,
    decide_eq_true (show ((frS slF (C.take i)).len+1) * 16≤140737488355328∧(frS slF (C.take i)).len+1≤9223372036854775807 by omega),Bool.true_and,zbB (n:=C.length) hiC (by omega),Int.toNat_natCast]
   have e:=zzl (F:=slF) hiC
   rw [e] at ih
   exact ih
 have h:=key C.length Fuel 0 (by omega) (by simp only [Fuel];omega)
 have h2:zAC ⟨⟨g⟩,lst C⟩=zeF (frS slF C):=h.2
 exact ⟨h.1,by rw [h2];exact x2⟩
end Go.Proofs
namespace Go.Proofs
open Go Go.Pm
set_option maxRecDepth 100000
theorem zdq {g:Sl Gate} {l:Line} : zkU g l↔∃ s,Cor g s∧toL s=l :=
 ⟨fun ⟨s,h1,h2,h3⟩=>⟨s,⟨h1,h2⟩,h3⟩,fun ⟨s,⟨h1,h2⟩,h3⟩=>⟨s,h1,h2,h3⟩⟩
theorem zCt {g : Sl Gate} (G : zau g) {F : straight → Frac} {w : Nat → Frac} {lo hi : Frac} (hF : ∀ s, Cor g s → FOK (F s)) (hw : ∀ i s, i < (s33 g).len → Cor g s → (s33 g).get i = toL s → w i = rd_ (F s))
    (hl:zeS ⟨(s33 g).len,w⟩ lo) (hg:zeT ⟨(s33 g).len,w⟩ hi):Bd g F lo hi:=by
  obtain ⟨_,_,m1,m2,_⟩:=zoA g G
  have pos:∀ s,Cor g s→0 < (F s).Den:=fun s hs=>by have:=(hF s hs).2;omega
  have hx:∀ i,i < (s33 g).len→∃ s,Cor g s∧w i=rd_ (F s):=fun i hi=>by
    obtain ⟨s,hs,e⟩:=zdq.1 (m1 i hi)
    exact ⟨s,hs,hw i s hi hs e.symm⟩
  have B:=zJC (v:=⟨(s33 g).len,w⟩) hF (fun i hi=>by
      obtain ⟨s,hs,e⟩:=hx i hi
      refine ⟨s,hs,?_,?_⟩
      · show rd_ (F s)=rd_ (w i);rw [e,ztv (pos s hs)]
      · show 0 < (w i).Den;rw [e];exact zcI (pos s hs))
    (fun s hs=>by
      obtain ⟨i,hi,e⟩:=m2 (toL s) (zdq.2 ⟨s,hs,rfl⟩)
      refine ⟨i,hi,?_⟩
      show rd_ (F s)=rd_ (w i)
      rw [hw i s hi hs e,ztv (pos s hs)]) hl hg
  obtain ⟨⟨i,hi1,e1⟩,_⟩:=hl
  obtain ⟨⟨j,hj1,e2⟩,_⟩:=hg
  obtain ⟨s,hs,e3⟩:=hx i hi1
  obtain ⟨t,ht,e4⟩:=hx j hj1
  have f1:rd_ lo=lo:=by rw [← e1];show rd_ (w i)=w i;rw [e3,ztv (pos s hs)]
  have f2:rd_ hi=hi:=by rw [← e2];show rd_ (w j)=w j;rw [e4,ztv (pos t ht)]
  rw [f1,f2] at B
  exact B
theorem zzm {g:Sl Gate} (G:zau g) (hc:∃ s,Cor g s) {z:Int} (hz : -200000≤z∧z≤200000):zq6 g z=true∧Bd g (plF z) (zq5 g z).1 (zq5 g z).2:=by
 obtain ⟨q,hlen,m1,m2,_⟩:=zoA g G
 have hpl:∀ i,i < (s33 g).len→p28 ((s33 g).get i) z=true:=fun i hi=>by
  obtain ⟨s,hs,e⟩:=zdq.1 (m1 i hi)
  rw [← e];exact (zsF (zbR G hs) hz).1
 have hw:∀ i s,i < (s33 g).len→Cor g s→(s33 g).get i=toL s→s28 ((s33 g).get i) z=rd_ (plF z s):=fun i s _ hs e=>by
  rw [e];exact (zsF (zbR G hs) hz).2
 have h1:1≤(s33 g).len:=by
  obtain ⟨s,hs⟩:=hc
  obtain ⟨a,ha,_⟩:=m2 _ (zdq.2 ⟨s,hs,rfl⟩);omega
 have E:=zzg (w:=fun i=>s28 ((s33 g).get i) z) (n:=(s33 g).len) h1 (by omega) (fun j hj=>by
   obtain ⟨s,hs,e⟩:=zdq.1 (m1 j hj)
   show FOK (s28 ((s33 g).get j) z)
   rw [hw j s hj hs e.symm];exact zeR (zd0 (zbR G hs) hz))
  (lpS:=fun k i a b=>zko z (s33 g) k i a.Num a.Den b.Num b.Den) (lpP:=fun k i a b=>zkp z (s33 g) k i a.Num a.Den b.Num b.Den)
  (fun k i a b hi=>by
   show zkm z (s33 g) (zko z (s33 g) k) (i:Int) a.Num a.Den b.Num b.Den=_
   generalize zko z (s33 g) k=S
   unfold zkm zyL zyJ zq3
   rw [decide_eq_true (show (i:Int) < ((s33 g).len:Int) by omega),cond_true,Int.toNat_natCast]
   show cond (s29 (s28 ((s33 g).get i) z) a) (cond (s29 b (s28 ((s33 g).get i) z)) _ _) (cond (s29 b (s28 ((s33 g).get i) z)) _ _)=_
   cases s29 (s28 ((s33 g).get i) z) a <;> cases s29 b (s28 ((s33 g).get i) z) <;> rfl)
  (fun k a b=>by
   show zkm z (s33 g) (zko z (s33 g) k) ((s33 g).len:Int) a.Num a.Den b.Num b.Den=_
   unfold zkm
   rw [decide_eq_false (show ¬ ((s33 g).len:Int) < ((s33 g).len:Int) by omega),cond_false])
  (fun k i a b hi=>by
   show zkn z (s33 g) (zkp z (s33 g) k) (i:Int) a.Num a.Den b.Num b.Den=_
   generalize zkp z (s33 g) k=P
   unfold zkn zyM zyK zq4
   rw [decide_eq_true (show (i:Int) < ((s33 g).len:Int) by omega),cond_true,decide_eq_true (show 0≤(i:Int)∧(i:Int) < ((s33 g).len:Int) by omega),Int.toNat_natCast,hpl i hi,decide_eq_true (show true=true from rfl),Bool.true_and,Bool.true_and]
   show cond (s29 (s28 ((s33 g).get i) z) a) (cond (s29 b (s28 ((s33 g).get i) z)) _ _) (cond (s29 b (s28 ((s33 g).get i) z)) _ _)=_
   cases s29 (s28 ((s33 g).get i) z) a <;> cases s29 b (s28 ((s33 g).get i) z) <;> rfl)
  (fun k a b=>by
   show zkn z (s33 g) (zkp z (s33 g) k) ((s33 g).len:Int) a.Num a.Den b.Num b.Den=_
   unfold zkn
   rw [decide_eq_false (show ¬ ((s33 g).len:Int) < ((s33 g).len:Int) by omega),cond_false])
 obtain ⟨x1,x2,x3⟩:=E
 refine ⟨?_,zCt G (F:=plF z) (fun s hs=>zd0 (zbR G hs) hz) hw x2 x3⟩
 unfold zq6 zyO zyN
 rw [q,hpl 0 (by omega),decide_eq_true (show true=true from rfl),decide_eq_true (show 0≤(0:Int)∧(0:Int) < ((s33 g).len:Int) by omega)]
 simp only [Bool.true_and]
 exact x1
theorem zJF {g:Sl Gate} (G:zau g) (hc:∃ s,Cor g s):p37 g=true∧Bd g slF (s37 g).1 (s37 g).2:=by
 obtain ⟨q,hlen,m1,m2,_⟩:=zoA g G
 have hw:∀ i s,i < (s33 g).len→Cor g s→(s33 g).get i=toL s→((s33 g).get i).Slope=rd_ (slF s):=fun i s _ hs e=>by rw [e];rfl
 have h1:1≤(s33 g).len:=by
  obtain ⟨s,hs⟩:=hc
  obtain ⟨a,ha,_⟩:=m2 _ (zdq.2 ⟨s,hs,rfl⟩);omega
 have E:=zzg (w:=fun i=>((s33 g).get i).Slope) (n:=(s33 g).len) h1 (by omega) (fun j hj=>by
   obtain ⟨s,hs,e⟩:=zdq.1 (m1 j hj)
   show FOK ((s33 g).get j).Slope
   rw [hw j s hj hs e.symm];exact zeR (zsG (zbR G hs)))
  (lpS:=fun k i a b=>zks (s33 g) k i a.Num a.Den b.Num b.Den) (lpP:=fun k i a b=>zkt (s33 g) k i a.Num a.Den b.Num b.Den)
  (fun k i a b hi=>by
   show zkq (s33 g) (zks (s33 g) k) (i:Int) a.Num a.Den b.Num b.Den=_
   generalize zks (s33 g) k=S
   unfold zkq zyU zq8 zyS
   rw [decide_eq_true (show (i:Int) < ((s33 g).len:Int) by omega),cond_true,Int.toNat_natCast]
   show cond (s29 ((s33 g).get i).Slope a) (cond (s29 b ((s33 g).get i).Slope) _ _) (cond (s29 b ((s33 g).get i).Slope) _ _)=_
   cases s29 ((s33 g).get i).Slope a <;> cases s29 b ((s33 g).get i).Slope <;> rfl)
  (fun k a b=>by
   show zkq (s33 g) (zks (s33 g) k) ((s33 g).len:Int) a.Num a.Den b.Num b.Den=_
   unfold zkq
   rw [decide_eq_false (show ¬ ((s33 g).len:Int) < ((s33 g).len:Int) by omega),cond_false])
  (fun k i a b hi=>by
   show zkr (s33 g) (zkt (s33 g) k) (i:Int) a.Num a.Den b.Num b.Den=_
   generalize zkt (s33 g) k=P
   unfold zkr zyV zq9 zyT
   rw [decide_eq_true (show (i:Int) < ((s33 g).len:Int) by omega),cond_true,decide_eq_true (show 0≤(i:Int)∧(i:Int) < ((s33 g).len:Int) by omega),Int.toNat_natCast]
   simp only [Bool.true_and]
   show cond (s29 ((s33 g).get i).Slope a) (cond (s29 b ((s33 g).get i).Slope) _ _) (cond (s29 b ((s33 g).get i).Slope) _ _)=_
   cases s29 ((s33 g).get i).Slope a <;> cases s29 b ((s33 g).get i).Slope <;> rfl)
  (fun k a b=>by
   show zkr (s33 g) (zkt (s33 g) k) ((s33 g).len:Int) a.Num a.Den b.Num b.Den=_
   unfold zkr
   rw [decide_eq_false (show ¬ ((s33 g).len:Int) < ((s33 g).len:Int) by omega),cond_false])
 obtain ⟨x1,x2,x3⟩:=E
 refine ⟨?_,zCt G (F:=slF) (fun s hs=>zsG (zbR G hs)) hw x2 x3⟩
 unfold p37 zyW
 rw [q,decide_eq_true (show true=true from rfl),decide_eq_true (show 0≤(0:Int)∧(0:Int) < ((s33 g).len:Int) by omega)]
 simp only [Bool.true_and]
 exact x1
theorem zCu (g:Sl Gate) (G:zau g):(-1000000≤(com g).1∧(com g).1≤1000000)∧-1000000≤(com g).2∧(com g).2≤1000000:=by
 have hl:=G.2
 refine zy2 (Inv:=fun _ (s:Int×Int)=>(-1000000≤s.1∧s.1≤1000000)∧-1000000≤s.2∧s.2≤1000000) (n:=g.len) (fun i s hi h=>?_) (g.len - 1) 1 _ (by omega) ⟨zd8 (G.1 0 (by omega)),zeQ (G.1 0 (by omega))⟩
 have a:=zd8 (G.1 i hi)
 have b:=zeQ (G.1 i hi)
 unfold cmS
 refine ⟨?_,?_⟩
 ·show -1000000 ≤ (if (g.get i).Low > s.1 then (g.get i).Low else s.1) ∧ _
  split
  ·exact a
  ·exact h.1
 ·show -1000000 ≤ (if (g.get i).High < s.2 then (g.get i).High else s.2) ∧ _
  split
  ·exact b
  ·exact h.2
theorem zoB {α : Type} [DecidableEq α] : ∀ (l m : List α), l.Nodup → (∀ x ∈ l, x ∈ m) → l.length ≤ m.length
  | [],_,_,_=>Nat.zero_le _
  | x :: l,m,hn,h=>by
    have hx:=h x List.mem_cons_self
    rw [List.nodup_cons] at hn
    have:=zoB l (m.erase x) hn.2 fun y hy=>(List.mem_erase_of_ne (fun (e:y=x)=>hn.1 (by rw [← e];exact hy))).2 (h y (List.mem_cons_of_mem _ hy))
    rw [List.length_erase_of_mem hx] at this
    have:=List.length_pos_of_mem hx
    rw [List.length_cons];omega
theorem zkA (g:Sl Gate) (G:zau g):∃ C,p65 g=true∧s65 g=⟨⟨g⟩,lst C⟩∧CorL g C∧(¬ zhN g→(s21 g=true↔∃ s,Cor g s)):=by
 obtain ⟨C,c1,c2,c3,c4,c5⟩:=zsD g G
 obtain ⟨f1,f2⟩:=zh4 g G
 obtain ⟨q,hlen,m1,m2,_⟩:=zoA g G
 refine ⟨C,c1,c2,⟨?_,fun s hs=>c3 s hs,fun s hs=>c4 s hs.1 hs.2⟩,fun hf=>?_⟩
 ·-- the reference has as many
  have key:∀ (l:List straight),l.Pairwise (fun x y=>toL x ≠ toL y)→(∀ s∈l,s∈cst g)→l.length≤((cst g).map toL).length:=by
   intro l hp hs
   have hn:(l.map fun s=>zhO (toL s)).Nodup:=List.pairwise_map.2 (hp.imp fun h e=>h (zkx e))
   have:=zoB _ ((cst g).map fun s=>zhO (toL s)) hn (fun x hx=>by
    obtain ⟨s,hs1,rfl⟩:=List.mem_map.1 hx
    exact List.mem_map.2 ⟨s,hs s hs1,rfl⟩)
   rw [List.length_map,List.length_map] at this;rw [List.length_map];exact this
  have:=key C c5 (fun s hs=>(c3 s hs).1)
  have:=zrf G
  rw [List.length_map] at *
  omega
 ·have e : s22 g = false := by cases h : s22 g; rfl; exact absurd (f2.1 h) hf
  unfold s21
  rw [e,cond_false,decide_eq_true_eq]
  constructor
  ·intro h
   obtain ⟨s,hs,_⟩:=zdq.1 (m1 0 (by omega))
   exact ⟨s,hs⟩
  ·intro ⟨s, hs⟩
   obtain ⟨a,ha,_⟩:=m2 _ (zdq.2 ⟨s,hs,rfl⟩);omega
theorem zrh (g:Sl Gate) (G:zau g):p67 ⟨g⟩=true∧p22 g=true∧s67 ⟨g⟩=s22 g :=
 ⟨(zsC g G).1,(zh4 g G).1,Bool.eq_iff_iff.2 ((zsC g G).2.trans (zh4 g G).2.symm)⟩
theorem zci {g:Sl Gate} (G:zau g) (h:s22 g=false) : ¬ zhN g:=fun k=>by rw [(zh4 g G).2.2 k] at h;cases h
theorem zkB (g:Sl Gate) (G:zau g) (hs:s21 g=true) {z:Int} (hz : -200000≤z∧z≤200000):p68 (s65 g) z=true∧p36 g z=true∧s68 (s65 g) z=s36 g z:=by
 obtain ⟨C,c1,c2,H,c4⟩:=zkA g G
 obtain ⟨f1,f2,f3⟩:=zrh g G
 obtain ⟨k1,k2⟩:=zCu g G
 rw [c2]
 unfold p68 s68 p36 s36 zyR zm7
 show (decide (p67 ⟨g⟩=true) && cond (s67 ⟨g⟩) (decide (p98 ⟨g⟩=true) && (decide (p89 (s98 ⟨g⟩).Low (1:Int)=true) && (decide (p89 (s98 ⟨g⟩).High (1:Int)=true) && true))) (decide (p82 z ⟨⟨g⟩,lst C⟩=true) && true))=true∧_ ∧
  cond (s67 ⟨g⟩) (s89 (s98 ⟨g⟩).Low (1:Int),s89 (s98 ⟨g⟩).High (1:Int)) ((s82 z ⟨⟨g⟩,lst C⟩).1,(s82 z ⟨⟨g⟩,lst C⟩).2)=_
 rw [f1,f2,f3]
 cases e:s22 g
 ·have hc := (c4 (zci G e)).1 hs
  obtain ⟨a1,a2⟩:=zJE G H ((zzj H).2 hc) hz
  obtain ⟨b1,b2⟩:=zzm G hc hz
  obtain ⟨u1,u2⟩:=zzh (fun s hs=>zd0 (zbR G hs) hz) a2 b2
  rw [cond_false,cond_false,cond_false,cond_false,a1,b1,u1,u2]
  exact ⟨by simp,by simp,rfl⟩
 ·obtain ⟨a1, a2⟩ := zCs g G
  obtain ⟨b1,b2⟩:=zzb g G
  obtain ⟨x1,x2⟩:=zh3 (num:=(com g).1) (den:=1) (by omega) (by omega) (by omega) (by omega)
  obtain ⟨y1,y2⟩:=zh3 (num:=(com g).2) (den:=1) (by omega) (by omega) (by omega) (by omega)
  obtain ⟨u1,u2⟩:=zeq (num:=(com g).1) (den:=1) (by omega) (by omega) (by omega) (by omega)
  obtain ⟨v1,v2⟩:=zeq (num:=(com g).2) (den:=1) (by omega) (by omega) (by omega) (by omega)
  rw [cond_true,cond_true,cond_true,cond_true,a1,a2,b1,b2]
  unfold zyQ zyP
  show (decide (true=true) && (decide (true=true) && (decide (p89 (com g).1 1=true) && (decide (p89 (com g).2 1=true) && true))))=true∧(decide (true=true) && (decide (true=true) && (decide (p40 (com g).1 1=true) && (decide (p40 (com g).2 1=true) && true))))=true∧(s89 (com g).1 1,s89 (com g).2 1)=(s40 (com g).1 1,s40 (com g).2 1)
  rw [x1,x2,y1,y2,u1,u2,v1,v2]
  exact ⟨by simp,by simp,rfl⟩
theorem zzn (g:Sl Gate) (G:zau g) (hs:s21 g=true) (hf:s22 g=false):zJ2 (s65 g)=true∧p37 g=true∧zAC (s65 g)=s37 g:=by
 obtain ⟨C,c1,c2,H,c4⟩:=zkA g G
 have hc:=(c4 (zci G hf)).1 hs
 obtain ⟨a1,a2⟩:=zGC G H ((zzj H).2 hc)
 obtain ⟨b1,b2⟩:=zJF G hc
 obtain ⟨u1,u2⟩:=zzh (fun s hs=>zsG (zbR G hs)) a2 b2
 rw [c2]
 exact ⟨a1,b1,Prod.ext u1 u2⟩
end Go.Proofs
namespace Go.Proofs
open Go Go.Pm
set_option maxRecDepth 100000
abbrev zF:Frac:=⟨0,0⟩
abbrev nS:set:=⟨⟨⟨0,fun _=>default⟩⟩,⟨0,fun _=>default⟩⟩
theorem zri (g:Sl Gate) (hn:g.len≤9223372036854775807):s20 g=true↔zau g:=(zy0 g hn).2
theorem zCv (g:Sl Gate) (G:zau g):(p75 g=true∧s75 g=cond (!(s21 g)) (nS,5) (cond (s22 g) (nS,6) (s65 g,0))) ∧
  (∀ z,zDW z g=true∧zoE z g=cond (!(s21 g)) (nS,5) (cond (s22 g) (cond (!((g.get 0).Z == z)) (nS,6) (s65 g,0)) (s65 g,0)))∧(zDX g=true∧zoF g=cond (!(s21 g)) (nS,5) (s65 g,0)):=by
 have hl:=G.2
 obtain ⟨v1,v2⟩:=zyZ g (by omega)
 have v2:=v2.2 G
 obtain ⟨q1,q2,q3⟩:=zzc g G
 obtain ⟨C,c1,c2,_⟩:=zkA g G
 obtain ⟨f1,f2,f3⟩:=zrh g G
 have el:(s65 g).list=⟨g⟩:=by rw [c2]
 refine ⟨?_,fun z=>?_,?_⟩
 ·unfold p75 s75 zpL zpK
  rw [v1,v2,c1,q1,q3,el,f1,f3]
  simp only [decide_true,Bool.true_and,Bool.not_true,cond_false]
  cases s21 g <;> cases s22 g <;> exact ⟨rfl,rfl⟩
 ·unfold zDW zoE zml zmk
  rw [v1,v2,c1,q1,q3,el,f1,f3,show p76 z ⟨g⟩=true by unfold p76;rw [decide_eq_true (show 0≤(0:Int)∧(0:Int) < ((⟨g⟩:list).Gates.len:Int) by show 0≤(0:Int)∧(0:Int) < (g.len:Int);omega)];rfl]
  simp only [decide_true,Bool.true_and,Bool.not_true,cond_false]
  cases s21 g <;> cases s22 g <;> exact ⟨rfl,rfl⟩
 ·unfold zDX zoF zmn zmm
  rw [v1,v2,c1,q1,q3,el,f1,f3]
  simp only [decide_true,Bool.true_and,Bool.not_true,cond_false]
  cases s21 g <;> cases s22 g <;> exact ⟨rfl,rfl⟩
theorem zGD (g:Sl Gate) (hn:g.len≤9223372036854775807) (h:s20 g=false):(p75 g=true∧s75 g=(nS,2))∧(∀ z,zDW z g=true∧zoE z g=(nS,2))∧(zDX g=true∧zoF g=(nS,2)):=by
 obtain ⟨v1,_⟩:=zyZ g hn
 have v2:s64 g=false:=by rw [zJs g hn];exact h
 unfold p75 s75 zDW zoE zDX zoF
 rw [v1,v2]
 exact ⟨⟨rfl,rfl⟩,fun _=>⟨rfl,rfl⟩,rfl,rfl⟩
def atR (g:Sl Gate) (z:Int):Frac×Frac×Int:=cond (!(s20 g)) (zF,zF,2) (cond (!(s21 g)) (zF,zF,5) (cond (s22 g && !((g.get 0).Z == z)) (zF,zF,6) ((s36 g z).1,(s36 g z).2,0)))
theorem zJG (g:Sl Gate) (hn:g.len≤9223372036854775807) (z:Int):p30 g z=true∧s30 g z=cond (s74 z (-100000) 200000) (atR g z) (zF,zF,2):=by
 unfold p30 s30 zpX zpW
 cases hz:s74 z (-100000) 200000
 ·exact ⟨rfl,rfl⟩
 ·rw [zow, decide_eq_true_eq] at hz
  simp only [Bool.not_true,cond_false,cond_true]
  unfold zpV zpU atR
  cases hv:s20 g
  ·obtain ⟨_, b, _⟩ := zGD g hn hv
   obtain ⟨b1,b2⟩:=b z
   rw [b1,b2]
   exact ⟨rfl,rfl⟩
  ·have G := (zri g hn).1 hv
   obtain ⟨_,b,_⟩:=zCv g G
   obtain ⟨b1,b2⟩:=b z
   rw [b1,b2]
   cases hs:s21 g
   ·exact ⟨rfl,rfl⟩
   ·obtain ⟨x1, x2, x3⟩ := zkB g G hs (z := z) (by omega)
    have fin:∀ e,zmr z (s65 g,e).2 (s65 g).list.Gates (s65 g).corners=cond (e != 0) true true∧zmq z (s65 g,e).2 (s65 g).list.Gates (s65 g).corners=cond (e != 0) (zF,zF,e) ((s36 g z).1,(s36 g z).2,0):=fun e=>by
     unfold zmr zmq zpP zpO zpN
     have:(⟨⟨(s65 g).list.Gates⟩,(s65 g).corners⟩:set)=s65 g:=rfl
     rw [this,x1,x3]
     exact ⟨rfl,rfl⟩
    cases hf:s22 g
    ·exact fin 0
    ·cases he : (g.get 0).Z == z
     ·exact ⟨rfl,rfl⟩
     ·exact fin 0
theorem zJH (g:Sl Gate) (G:zau g):p21 g=true∧p22 g=true∧(s21 g=true→∀ z,-200000≤z∧z≤200000→p36 g z=true)∧(s21 g=true→s22 g=false→p37 g=true) :=
 ⟨(zzc g G).2.1,(zh4 g G).1,fun hs z hz=>(zkB g G hs hz).2.1,fun hs hf=>(zzn g G hs hf).2.1⟩
end Go.Proofs
namespace Go.Proofs
open Go Go.Pm
set_option maxRecDepth 100000
theorem zJI {a b:Frac} (ha:FOK a) (hb:FOK b):decide (s69 a b ≥ 0) = !(s29 a b):=by
  have e:s69 a b < 0↔ltF a b:=by unfold s69 ltF;rw [cross ha hb,cross hb ha,zrg]
  cases h:s29 a b
  · exact decide_eq_true (by have : ¬ s69 a b < 0 := fun k => by rw [(zdS ha hb).2 (e.1 k)] at h; cases h
                             omega)
  · exact decide_eq_false (by have:=e.2 ((zdS ha hb).1 h);omega)
theorem zJJ {a b:Frac} (ha:FOK a) (hb:FOK b):decide (s69 a b < 0)=s29 a b:=by
 have e:s69 a b < 0↔ltF a b:=by unfold s69 ltF;rw [cross ha hb,cross hb ha,zrg]
 cases h:s29 a b
 ·exact decide_eq_false fun k=>by rw [(zdS ha hb).2 (e.1 k)] at h;cases h
 ·exact decide_eq_true (e.2 ((zdS ha hb).1 h))
theorem zCw {a b:Frac} (ha:FOK a) (hb:FOK b):decide (s69 a b > 0)=s29 b a:=by
 have e:s69 a b > 0↔ltF b a:=by unfold s69 ltF;rw [cross ha hb,cross hb ha,zzd]
 cases h:s29 b a
 ·exact decide_eq_false fun k=>by rw [(zdS hb ha).2 (e.1 k)] at h;cases h
 ·exact decide_eq_true (e.2 ((zdS hb ha).1 h))
theorem zJK {a b:Frac} (ha:FOK a) (hb:FOK b):decide (s69 a b≤0) = !(s29 b a):=by
 have:=zCw ha hb
 rw [← this]
 by_cases h:s69 a b≤0
 ·rw [decide_eq_true h,decide_eq_false (show ¬ s69 a b > 0 by omega)];rfl
 ·rw [decide_eq_false h,decide_eq_true (show s69 a b > 0 by omega)];rfl
theorem zhR {x:Int} (h : -1000000≤x∧x≤1000000):FOK (red x 1):=zeR (f:=⟨x,1⟩) ⟨⟨by show -1000000000000≤x;omega,by show x≤1000000000000;omega⟩,by show (1:Int)≤1;omega,by show (1:Int)≤100000;omega⟩
theorem zCx {g:Sl Gate} {F:straight→Frac} (hF:∀ s,Cor g s→FOK (F s)) {lo hi:Frac} (h:Bd g F lo hi):FOK lo∧FOK hi:=by
 obtain ⟨⟨⟨s,hs,e1⟩,_⟩,⟨t,ht,e2⟩,_⟩:=h
 exact ⟨e1 ▸ zeR (hF s hs),e2 ▸ zeR (hF t ht)⟩
theorem zrj (g:Sl Gate) (G:zau g) (hs:s21 g=true) {z:Int} (hz : -200000≤z∧z≤200000):FOK (s36 g z).1∧FOK (s36 g z).2:=by
 unfold s36 zm7
 cases hf:s22 g
 ·obtain ⟨C, _, _, _, c4⟩ := zkA g G
  exact zCx (fun s hs=>zd0 (zbR G hs) hz) (zzm G ((c4 (zci G hf)).1 hs) hz).2
 ·obtain ⟨b1, b2⟩ := zzb g G
  obtain ⟨k1,k2⟩:=zCu g G
  obtain ⟨u1,u2⟩:=zeq (num:=(com g).1) (den:=1) (by omega) (by omega) (by omega) (by omega)
  obtain ⟨v1,v2⟩:=zeq (num:=(com g).2) (den:=1) (by omega) (by omega) (by omega) (by omega)
  rw [b2]
  show FOK (s40 (com g).1 1)∧FOK (s40 (com g).2 1)
  rw [u2,v2]
  exact ⟨zhR k1,zhR k2⟩
theorem at6 (g:Gate) (G:zdf g) (a b:Frac) (ha:FOK a) (hb:FOK b):zmO g a.Num a.Den b.Num b.Den=true∧zrb g a.Num a.Den b.Num b.Den=true∧zmN g a.Num a.Den b.Num b.Den=(znc g a.Num a.Den b.Num b.Den,0):=by
 have gl:=zd8 G
 have gh:=zeQ G
 obtain ⟨x1,x2⟩:=zh3 (num:=g.Low) (den:=1) (by omega) (by omega) (by omega) (by omega)
 obtain ⟨y1,y2⟩:=zh3 (num:=g.High) (den:=1) (by omega) (by omega) (by omega) (by omega)
 obtain ⟨u1,u2⟩:=zeq (num:=g.Low) (den:=1) (by omega) (by omega) (by omega) (by omega)
 obtain ⟨v1,v2⟩:=zeq (num:=g.High) (den:=1) (by omega) (by omega) (by omega) (by omega)
 have fl:=zhR gl
 have fh:=zhR gh
 unfold zmO zrb zmN znc
 rw [x1,x2,y1,y2,u1,u2,v1,v2]
 refine ⟨rfl,rfl,?_⟩
 generalize red g.Low 1=lo at fl
 generalize red g.High 1=hi at fh
 unfold zqM zra zmM znb zmL zna
 have t1:decide (s69 (⟨a.Num,a.Den⟩:Frac) (⟨lo.Num,lo.Den⟩:Frac) ≥ 0) = !(s29 (⟨a.Num,a.Den⟩:Frac) (⟨lo.Num,lo.Den⟩:Frac)):=zJI ha fl
 have t2:decide (s69 (⟨b.Num,b.Den⟩:Frac) (⟨hi.Num,hi.Den⟩:Frac)≤0) = !(s29 (⟨hi.Num,hi.Den⟩:Frac) (⟨b.Num,b.Den⟩:Frac)):=zJK hb fh
 have t3:decide (s69 (⟨b.Num,b.Den⟩:Frac) (⟨lo.Num,lo.Den⟩:Frac) < 0)=s29 (⟨b.Num,b.Den⟩:Frac) (⟨lo.Num,lo.Den⟩:Frac):=zJJ hb fl
 have t4:decide (s69 (⟨a.Num,a.Den⟩:Frac) (⟨hi.Num,hi.Den⟩:Frac) > 0)=s29 (⟨hi.Num,hi.Den⟩:Frac) (⟨a.Num,a.Den⟩:Frac):=zCw ha fh
 rw [t1,t2,t3,t4]
 cases s29 (⟨a.Num,a.Den⟩:Frac) (⟨lo.Num,lo.Den⟩:Frac) <;> cases s29 (⟨hi.Num,hi.Den⟩:Frac) (⟨b.Num,b.Den⟩:Frac) <;> cases s29 (⟨b.Num,b.Den⟩:Frac) (⟨lo.Num,lo.Den⟩:Frac) <;> cases s29 (⟨hi.Num,hi.Den⟩:Frac) (⟨a.Num,a.Den⟩:Frac) <;> rfl
theorem zJL (g:Sl Gate) (x:Gate) (G:zau g) (X:zdf x):p48 g x=true∧(s21 g=true→p50 g x=true)∧s48 g x=cond (!(s21 g)) (0,5) (s50 g x,0):=by
 have hl:=G.2
 have e1:s87 x=true:=(zyX x).2 X
 obtain ⟨_,_,b1,b2⟩:=zCv g G
 obtain ⟨q1,q2,q3,_⟩:=zJH g G
 obtain ⟨f1,f2,f3⟩:=zrh g G
 obtain ⟨C,c1,c2,_⟩:=zkA g G
 have k0:decide (0≤(0:Int)∧(0:Int) < (g.len:Int))=true:=decide_eq_true (by omega)
 unfold p48 s48 zqS zqR zqQ zqP p50 s50 zre zne
 rw [e1,b1,b2,q2,k0]
 cases hs:s21 g
 ·exact ⟨rfl,fun h=>(by cases h),rfl⟩
 ·have hz : -200000 ≤ x.Z ∧ x.Z ≤ 200000 := by have := X.1; omega
  obtain ⟨x1,x2,x3⟩:=zkB g G hs hz
  obtain ⟨fa,fb⟩:=zrj g G hs hz
  obtain ⟨m1,m2,m3⟩:=at6 x X _ _ fa fb
  have fin:zmQ x (s65 g).list.Gates (s65 g).corners=true∧zrd g x=true∧zmP x (s65 g).list.Gates (s65 g).corners=(znd g x,0):=by
   unfold zmQ zmP zrd znd
   have:(⟨⟨(s65 g).list.Gates⟩,(s65 g).corners⟩:set)=s65 g:=rfl
   rw [this,x1,x3,x2,m1,m2,m3]
   exact ⟨rfl,rfl,rfl⟩
  obtain ⟨n1,n2,n3⟩:=fin
  have el:(s65 g).list.Gates=g:=by rw [c2]
  show (decide (true=true) && zmU x (0:Int) (s65 g).list.Gates (s65 g).corners)=true∧_∧zmT x (0:Int) (s65 g).list.Gates (s65 g).corners=_
  unfold zmU zmT zqO zqN zmS zmR
  rw [el] at n1 n3 ⊢
  rw [f1,f3,k0,n1,n2,n3]
  have hz2:((g.get 0).Z != x.Z)=(x.Z != (g.get 0).Z):=by
   rw [Bool.eq_iff_iff,bne_iff_ne,bne_iff_ne];exact ⟨fun h e=>h e.symm,fun h e=>h e.symm⟩
  rw [hz2]
  cases s22 g <;> cases (x.Z != (g.get 0).Z) <;> exact ⟨rfl,fun _=>rfl,rfl⟩
end Go.Proofs
namespace Go.Proofs
open Go Go.Pm
set_option maxRecDepth 100000
theorem zCy {z p y q:Int} (h:z ≠ y):plc (thr z p y q) z=p * (thr z p y q).den∧plc (thr z p y q) y=q * (thr z p y q).den:=by
 unfold thr plc
 split
 ·constructor
  ·show q * z - p * y + (p - q) * z = p * (z - y)
   rw [Int.sub_mul,Int.mul_sub];omega
  ·show q * z - p * y + (p - q) * y = q * (z - y)
   rw [Int.sub_mul,Int.mul_sub];omega
 ·constructor
  ·show p * y - q * z + (q - p) * z = p * (y - z)
   rw [Int.sub_mul,Int.mul_sub];omega
  ·show p * y - q * z + (q - p) * y = q * (y - z)
   rw [Int.sub_mul,Int.mul_sub];omega
theorem zhS {g:Sl Gate} {s:straight} (h:zg3 g s) {i:Nat} (hi:i < g.len):(g.get i).Low * s.den≤plc s (g.get i).Z∧plc s (g.get i).Z≤(g.get i).High * s.den:=of_decide_eq_true (h i hi)
end Go.Proofs
namespace Go.Proofs
open Go Go.Pm
set_option maxRecDepth 100000
theorem zlu {g : Sl Gate} {i b : Nat} {x : straight} (hx : x ∈ zox (g.get i) (g.get b)) : ∀ m k, k ≤ b → b < k + m → x ∈ zoy g i m k
  | 0,k,h1,h2=>by omega
  | m+1,k,h1,h2=>by
    show x∈zox (g.get i) (g.get k) ++ zoy g i m (k+1)
    by_cases h:k=b
    · rw [h];exact List.mem_append_left _ hx
    · exact List.mem_append_right _ (zlu hx m (k+1) (by omega) (by omega))
theorem zlv {g : Sl Gate} {a : Nat} {x : straight} (hx : x ∈ zoy g a (g.len - (a + 1)) (a + 1)) : ∀ m i, i ≤ a → a < i + m → x ∈ zzw g m i
  | 0,i,h1,h2=>by omega
  | m+1,i,h1,h2=>by
    show x∈zoy g i (g.len - (i+1)) (i+1) ++ zzw g m (i+1)
    by_cases h:i=a
    · rw [h];exact List.mem_append_left _ hx
    · exact List.mem_append_right _ (zlv hx m (i+1) (by omega) (by omega))
theorem zBn {z p y q:Int} (h:z ≠ y):thr z p y q=thr y q z p:=by
 unfold thr
 by_cases h1:z > y
 ·rw [if_pos h1,if_neg (show ¬ y > z by omega)]
 ·rw [if_neg h1,if_pos (show y > z by omega)]
theorem zMJ {g:Sl Gate} {a b:Nat} (ha:a < g.len) (hb:b < g.len) (hz:(g.get a).Z ≠ (g.get b).Z) {p q:Int} (hp:p=(g.get a).Low∨p=(g.get a).High) (hq:q=(g.get b).Low∨q=(g.get b).High):thr (g.get a).Z p (g.get b).Z q∈cst g:=by
 have key:∀ {a b:Nat} {p q:Int},a < b→b < g.len→(g.get a).Z ≠ (g.get b).Z→(p=(g.get a).Low∨p=(g.get a).High)→(q=(g.get b).Low∨q=(g.get b).High)→thr (g.get a).Z p (g.get b).Z q∈cst g:=fun {a b p q} h1 h2 hz hp hq=>by
  refine zlv (zlu ?_ _ _ h1 (by omega)) _ 0 (Nat.zero_le _) (by omega)
  unfold zox
  rw [if_neg hz]
  rcases hp with rfl | rfl <;> rcases hq with rfl | rfl <;> simp
 rcases Nat.lt_or_ge a b with h | h
 ·exact key h hb hz hp hq
 ·have : a ≠ b := fun e => hz (by rw [e])
  rw [zBn hz]
  exact key (by omega) ha (Ne.symm hz) hq hp
theorem zkC {Q : Nat → Prop} {le : Nat → Nat → Prop} (tot : ∀ i j, Q i → Q j → le i j ∨ le j i) (tr : ∀ i j k, Q i → Q j → Q k → le i j → le j k → le i k) : ∀ n, (∃ k, k < n ∧ Q k) → ∃ k, k < n ∧ Q k ∧ ∀ j, j < n → Q j → le j k
  | 0,⟨k,h,_⟩=>absurd h (Nat.not_lt_zero k)
  | n+1,hex=>by
    by_cases h:∃ k,k < n∧Q k
    · obtain ⟨k, hk, qk, hm⟩ := zkC tot tr n h
      by_cases qn:Q n
      · rcases tot n k qn qk with h1 | h1
        · exact ⟨k,by omega,qk,fun j hj qj=>by
            by_cases e:j=n
            · rw [e];exact h1
            · exact hm j (by omega) qj⟩
        · exact ⟨n,by omega,qn,fun j hj qj=>by
            by_cases e:j=n
            · rw [e];rcases tot n n qn qn with h2 | h2 <;> exact h2
            · exact tr j k n qj qk qn (hm j (by omega) qj) h1⟩
      · exact ⟨k,by omega,qk,fun j hj qj=>hm j (by
          have:j ≠ n:=fun e=>qn (e ▸ qj)
          omega) qj⟩
    · obtain ⟨k, hk, qk⟩ := hex
      have e:k=n:=by
        rcases Nat.lt_or_ge k n with h1 | h1
        · exact absurd ⟨k,h1,qk⟩ h
        · omega
      subst e
      exact ⟨k,by omega,qk,fun j hj qj=>by
        by_cases e:j=k
        · rw [e];rcases tot k k qk qk with h2 | h2 <;> exact h2
        · exact absurd ⟨j,by omega,qj⟩ h⟩
def leS (a b:straight):Prop:=a.slope * b.den≤b.slope * a.den
theorem zsH {a b c:straight} (ha:0 < a.den) (hb:0 < b.den) (hc:0 < c.den) (h1:leS a b) (h2:leS b c):leS a c:=by
 unfold leS at *
 have y1:=Int.mul_le_mul_of_nonneg_right h1 (Int.le_of_lt hc)
 have y2:=Int.mul_le_mul_of_nonneg_right h2 (Int.le_of_lt ha)
 refine Int.le_of_mul_le_mul_right (a:=b.den) ?_ hb
 grind
def lcS (g:Sl Gate) (i:Nat) (p:Int) (k:Nat):straight:=thr (g.get i).Z p (g.get k).Z (if (g.get k).Z > (g.get i).Z then (g.get k).Low else (g.get k).High)
def ucS (g:Sl Gate) (i:Nat) (p:Int) (k:Nat):straight:=thr (g.get i).Z p (g.get k).Z (if (g.get k).Z > (g.get i).Z then (g.get k).High else (g.get k).Low)
theorem znl {g:Sl Gate} {i k:Nat} {p:Int} {c:straight} (he:plc c (g.get i).Z=p * c.den) (hz:(g.get k).Z ≠ (g.get i).Z):zg1 c (g.get k)=true↔leS (lcS g i p k) c∧leS c (ucS g i p k):=by
 unfold zg1 leS lcS ucS thr
 rw [decide_eq_true_eq]
 unfold plc at *
 by_cases h:(g.get k).Z > (g.get i).Z
 ·simp only [if_pos h, if_neg (show ¬ (g.get i).Z > (g.get k).Z by omega)]
  constructor
  ·intro ⟨h1,h2⟩;constructor <;> grind
  ·intro ⟨h1,h2⟩;constructor <;> grind
 ·simp only [if_neg h, if_pos (show (g.get i).Z > (g.get k).Z by omega)]
  constructor
  ·intro ⟨h1,h2⟩;constructor <;> grind
  ·intro ⟨h1,h2⟩;constructor <;> grind
theorem zzo {z p y q:Int} (h:z ≠ y):0 < (thr z p y q).den:=by
 unfold thr
 by_cases h1:z > y
 ·rw [if_pos h1];show 0 < z - y;omega
 ·rw [if_neg h1];show 0 < y - z;omega
theorem zoC {g:Sl Gate} {i k:Nat} {p:Int} {s c:straight} (ps:0 < s.den) (pc:0 < c.den) (he:plc s (g.get i).Z=p * s.den) (hc:plc c (g.get i).Z=p * c.den) (hz:(g.get k).Z=(g.get i).Z) (h:zg1 s (g.get k)=true):zg1 c (g.get k)=true:=by
 unfold zg1 at *
 rw [decide_eq_true_eq] at *
 rw [hz,he] at h
 rw [hz,hc]
 exact ⟨Int.mul_le_mul_of_nonneg_right (Int.le_of_mul_le_mul_right h.1 ps) (Int.le_of_lt pc),Int.mul_le_mul_of_nonneg_right (Int.le_of_mul_le_mul_right h.2 ps) (Int.le_of_lt pc)⟩
theorem rot {g : Sl Gate} {s : straight} (hd : 0 < s.den) (ha : zg3 g s) {i : Nat} (hi : i < g.len) {p : Int} (hp : p = (g.get i).Low ∨ p = (g.get i).High) (he : plc s (g.get i).Z = p * s.den) (hn : ∃ k, k < g.len ∧ (g.get k).Z ≠ (g.get i).Z) :
  (∃ c,Cor g c∧0 < c.den∧plc c (g.get i).Z=p * c.den∧leS c s)∧∃ c,Cor g c∧0 < c.den∧plc c (g.get i).Z=p * c.den∧leS s c:=by
 have ld:∀ k,(g.get k).Z ≠ (g.get i).Z→0 < (lcS g i p k).den:=fun k h=>zzo (Ne.symm h)
 have ud:∀ k,(g.get k).Z ≠ (g.get i).Z→0 < (ucS g i p k).den:=fun k h=>zzo (Ne.symm h)
 have le1:∀ k,(g.get k).Z ≠ (g.get i).Z→plc (lcS g i p k) (g.get i).Z=p * (lcS g i p k).den:=fun k h=>(zCy (Ne.symm h)).1
 have ue1:∀ k,(g.get k).Z ≠ (g.get i).Z→plc (ucS g i p k) (g.get i).Z=p * (ucS g i p k).den:=fun k h=>(zCy (Ne.symm h)).1
 have sp:∀ k,k < g.len→(g.get k).Z ≠ (g.get i).Z→leS (lcS g i p k) s∧leS s (ucS g i p k):=fun k hk hz=>(znl he hz).1 (ha k hk)
 constructor
 ·obtain ⟨k, hk, qk, hm⟩ := zkC (Q := fun k => (g.get k).Z ≠ (g.get i).Z) (le := fun a b => leS (lcS g i p a) (lcS g i p b)) (fun a b _ _ => Int.le_total _ _) (fun a b c ha hb hc h1 h2 => zsH (ld a ha) (ld b hb) (ld c hc) h1 h2) g.len hn
  refine ⟨lcS g i p k,⟨zMJ hi hk (Ne.symm qk) hp (by split <;> simp),fun j hj=>?_⟩,ld k qk,le1 k qk,(sp k hk qk).1⟩
  by_cases hz:(g.get j).Z=(g.get i).Z
  ·exact zoC hd (ld k qk) he (le1 k qk) hz (ha j hj)
  ·exact (znl (le1 k qk) hz).2 ⟨hm j hj hz,zsH (ld k qk) hd (ud j hz) (sp k hk qk).1 (sp j hj hz).2⟩
 ·obtain ⟨k, hk, qk, hm⟩ := zkC (Q := fun k => (g.get k).Z ≠ (g.get i).Z) (le := fun a b => leS (ucS g i p b) (ucS g i p a)) (fun a b _ _ => Int.le_total _ _) (fun a b c ha hb hc h1 h2 => zsH (ud c hc) (ud b hb) (ud a ha) h2 h1) g.len hn
  refine ⟨ucS g i p k,⟨zMJ hi hk (Ne.symm qk) hp (by split <;> simp),fun j hj=>?_⟩,ud k qk,ue1 k qk,(sp k hk qk).2⟩
  by_cases hz:(g.get j).Z=(g.get i).Z
  ·exact zoC hd (ud k qk) he (ue1 k qk) hz (ha j hj)
  ·exact (znl (ue1 k qk) hz).2 ⟨zsH (ld j hz) hd (ud k qk) (sp j hj hz).1 (sp k hk qk).2,hm j hj hz⟩
theorem zJM {g:Sl Gate} (hl:1≤g.len) {s:straight} (ha:zg3 g s):∃ d,0≤d∧zg3 g ⟨s.slope,s.start - d,s.den⟩∧∃ i,i < g.len∧plc ⟨s.slope,s.start - d,s.den⟩ (g.get i).Z=(g.get i).Low * s.den:=by
 obtain ⟨k,hk,_,hm⟩:=zkC (Q:=fun _=>True) (le:=fun a b=>plc s (g.get b).Z - (g.get b).Low * s.den≤plc s (g.get a).Z - (g.get a).Low * s.den) (fun a b _ _=>Int.le_total _ _) (fun a b c _ _ _ h1 h2=>Int.le_trans h2 h1) g.len ⟨0,hl,trivial⟩
 have hk2:=zhS ha hk
 refine ⟨plc s (g.get k).Z - (g.get k).Low * s.den,by omega,fun j hj=>decide_eq_true ?_,k,hk,by unfold plc;simp only;omega⟩
 have h1:=hm j hj trivial
 have h2:=zhS ha hj
 unfold plc at *
 simp only
 omega
theorem zJN {g:Sl Gate} (hl:1≤g.len) {s:straight} (ha:zg3 g s):∃ d,0≤d∧zg3 g ⟨s.slope,s.start+d,s.den⟩∧∃ i,i < g.len∧plc ⟨s.slope,s.start+d,s.den⟩ (g.get i).Z=(g.get i).High * s.den:=by
 obtain ⟨k,hk,_,hm⟩:=zkC (Q:=fun _=>True) (le:=fun a b=>(g.get b).High * s.den - plc s (g.get b).Z≤(g.get a).High * s.den - plc s (g.get a).Z) (fun a b _ _=>Int.le_total _ _) (fun a b c _ _ _ h1 h2=>Int.le_trans h2 h1) g.len ⟨0,hl,trivial⟩
 have hk2:=zhS ha hk
 refine ⟨(g.get k).High * s.den - plc s (g.get k).Z,by omega,fun j hj=>decide_eq_true ?_,k,hk,by unfold plc;simp only;omega⟩
 have h1:=hm j hj trivial
 have h2:=zhS ha hj
 unfold plc at *
 simp only
 omega
theorem zsI {g:Sl Gate} (nf : ¬ zhN g) (i:Nat) (hi:i < g.len):∃ k,k < g.len∧(g.get k).Z ≠ (g.get i).Z:=by
 by_cases h:∃ k,k < g.len∧(g.get k).Z ≠ (g.get i).Z
 ·exact h
 ·have all : ∀ k, k < g.len → (g.get k).Z = (g.get i).Z := fun k hk => Classical.byContradiction fun e => h ⟨k, hk, e⟩
  exact absurd (fun k hk=>(all k hk).trans (all 0 (by omega)).symm) nf
theorem zzp {a b:straight} {z p h:Int} (ha:plc a z=p * a.den) (hb:plc b z=p * b.den) (hs:leS a b) (hh:z≤h):plc a h * b.den≤plc b h * a.den:=by
 have y:=Int.mul_le_mul_of_nonneg_right hs (show 0≤h - z by omega)
 unfold plc at *
 have e1:a.start=p * a.den - a.slope * z:=by omega
 have e2:b.start=p * b.den - b.slope * z:=by omega
 rw [e1,e2]
 clear ha hb hs e1 e2
 grind
theorem zzq {a b:straight} {z p h:Int} (ha:plc a z=p * a.den) (hb:plc b z=p * b.den) (hs:leS a b) (hh:h≤z):plc b h * a.den≤plc a h * b.den:=by
 have y:=Int.mul_le_mul_of_nonneg_right hs (show 0≤z - h by omega)
 unfold plc at *
 have e1:a.start=p * a.den - a.slope * z:=by omega
 have e2:b.start=p * b.den - b.slope * z:=by omega
 rw [e1,e2]
 clear ha hb hs e1 e2
 grind
theorem lp {g : Sl Gate} (hl : 1 ≤ g.len) (nf : ¬ zhN g) {s : straight} (hd : 0 < s.den) (ha : zg3 g s) :
  (∀ h,(∃ c,Cor g c∧plc c h * s.den≤plc s h * c.den)∧∃ c,Cor g c∧plc s h * c.den≤plc c h * s.den)∧(∃ c,Cor g c∧leS c s)∧∃ c,Cor g c∧leS s c:=by
 obtain ⟨d,d0,da,i,hi,di⟩:=zJM hl ha
 obtain ⟨e,e0,ea,j,hj,ej⟩:=zJN hl ha
 obtain ⟨⟨c1,c1c,c1d,c1p,c1s⟩,⟨c2,c2c,c2d,c2p,c2s⟩⟩:=rot (s:=⟨s.slope,s.start - d,s.den⟩) hd da hi (.inl rfl) di (zsI nf i hi)
 obtain ⟨⟨f1,f1c,f1d,f1p,f1s⟩,⟨f2,f2c,f2d,f2p,f2s⟩⟩:=rot (s:=⟨s.slope,s.start+e,s.den⟩) hd ea hj (.inr rfl) ej (zsI nf j hj)
 have lo:∀ {c:straight} {h:Int},0 < c.den→plc c h * s.den≤plc ⟨s.slope,s.start - d,s.den⟩ h * c.den→plc c h * s.den≤plc s h * c.den:=fun {c h} pc k=>by
  have:=Int.mul_nonneg d0 (Int.le_of_lt pc)
  unfold plc at *
  simp only at k
  grind
 have hi':∀ {c:straight} {h:Int},0 < c.den→plc ⟨s.slope,s.start+e,s.den⟩ h * c.den≤plc c h * s.den→plc s h * c.den≤plc c h * s.den:=fun {c h} pc k=>by
  have:=Int.mul_nonneg e0 (Int.le_of_lt pc)
  unfold plc at *
  simp only at k
  grind
 refine ⟨fun h=>⟨?_,?_⟩,⟨c1,c1c,c1s⟩,⟨c2,c2c,c2s⟩⟩
 ·rcases Int.le_total (g.get i).Z h with k | k
  ·exact ⟨c1,c1c,lo c1d (zzp (b:=⟨s.slope,s.start - d,s.den⟩) c1p di c1s k)⟩
  ·exact ⟨c2,c2c,lo c2d (zzq (a:=⟨s.slope,s.start - d,s.den⟩) di c2p c2s k)⟩
 ·rcases Int.le_total (g.get j).Z h with k | k
  ·exact ⟨f2,f2c,hi' f2d (zzp (a:=⟨s.slope,s.start+e,s.den⟩) ej f2p f2s k)⟩
  ·exact ⟨f1,f1c,hi' f1d (zzq (b:=⟨s.slope,s.start+e,s.den⟩) f1p ej f1s k)⟩
end Go.Proofs
namespace Go.Proofs
open Go Go.Pm
set_option maxRecDepth 100000
theorem zL1 {g : Sl Gate} (G : zau g) (nf : ¬ zhN g) {F : straight → Frac} (hF : ∀ s, Cor g s → FOK (F s)) {lo hi : Frac} (B : Bd g F lo hi) {x : Frac} (px : 0 < x.Den)
    (h1:∃ c,Cor g c∧¬ ltF x (F c)) (h2:∃ c,Cor g c∧¬ ltF (F c) x) : ¬ ltF x lo∧¬ ltF hi x:=by
  obtain ⟨c,hc,kc⟩:=h1
  obtain ⟨d,hd,kd⟩:=h2
  obtain ⟨fl,fh⟩:=zCx hF B
  have pc:=(hF c hc).2;have pd:=(hF d hd).2;have pl:=fl.2;have ph:=fh.2
  exact ⟨zcw (b:=F c) (by omega) (by omega) (by omega) (B.1.2 c hc) kc,zcw (b:=F d) (by omega) (by omega) (by omega) kd (B.2.2 d hd)⟩
theorem zBo {g:Sl Gate} (G:zau g) (nf : ¬ zhN g) {s:straight} (S:SOK s) (ha:zg3 g s) {h:Int} (hz : -200000≤h∧h≤200000) {lo hi:Frac} (B:Bd g (plF h) lo hi) : ¬ ltF (plF h s) lo∧¬ ltF hi (plF h s):=by
 have hd:0 < s.den:=by have:=S.2.2;omega
 obtain ⟨⟨c,hc,kc⟩,d,hd2,kd⟩:=(lp G.2.1 nf hd ha).1 h
 exact zL1 G nf (fun s hs=>zd0 (zbR G hs) hz) B hd ⟨c,hc,by unfold ltF;simp only;omega⟩ ⟨d,hd2,by unfold ltF;simp only;omega⟩
theorem zoD {g:Sl Gate} (G:zau g) (hs:s21 g=true) (hf:s22 g=false) {z:Int} (hz : -200000≤z∧z≤200000):Bd g (plF z) (s36 g z).1 (s36 g z).2:=by
 obtain ⟨C,_,_,_,c4⟩:=zkA g G
 have:=(zzm G ((c4 (zci G hf)).1 hs) hz).2
 unfold s36 zm7
 rw [hf];exact this
theorem znm {g:Sl Gate} (G:zau g) (hf:s22 g=false):s21 g=true↔∃ s,0 < s.den∧zg3 g s:=by
 obtain ⟨C,_,_,_,c4⟩:=zkA g G
 rw [c4 (zci G hf)]
 constructor
 ·intro ⟨s, hs⟩
  exact ⟨s,by have:=(zbR G hs).2.2;omega,hs.2⟩
 ·intro ⟨s, hd, ha⟩
  obtain ⟨_,⟨c,hc,_⟩,_⟩:=lp G.2.1 (zci G hf) hd ha
  exact ⟨c,hc⟩
end Go.Proofs
namespace Go.Proofs
open Go Go.Pm
set_option maxRecDepth 100000
theorem noF {x y:Frac} (hx:FOK x) (hy:FOK y) (h : ¬ ltF x y):s29 x y=false:=by
 cases e:s29 x y
 ·rfl
 ·exact absurd ((zdS hx hy).1 e) h
def zGE (u v:Int) (a b:straight):straight:=⟨u * a.slope+v * b.slope,u * a.start+v * b.start,u * a.den+v * b.den⟩
theorem zzr (u v:Int) (a b:straight) (z:Int):plc (zGE u v a b) z=u * plc a z+v * plc b z:=by unfold zGE plc;simp only;grind
theorem zGF {g:Sl Gate} {u v:Int} (hu:0≤u) (hv:0≤v) {a b:straight} (ha:zg3 g a) (hb:zg3 g b):zg3 g (zGE u v a b):=fun i hi=>by
 obtain ⟨a1,a2⟩:=zhS ha hi
 obtain ⟨b1,b2⟩:=zhS hb hi
 refine decide_eq_true ?_
 rw [zzr]
 have x1:=Int.mul_le_mul_of_nonneg_left a1 hu
 have x2:=Int.mul_le_mul_of_nonneg_left a2 hu
 have x3:=Int.mul_le_mul_of_nonneg_left b1 hv
 have x4:=Int.mul_le_mul_of_nonneg_left b2 hv
 generalize plc a (g.get i).Z=pa at *
 generalize plc b (g.get i).Z=pb at *
 unfold zGE
 simp only
 constructor <;> grind
theorem zsJ {f:Frac} {x:Int} (hf:0 < f.Den):(ltF f (red x 1)↔f.Num < x * f.Den)∧(ltF (red x 1) f↔x * f.Den < f.Num):=by
 refine ⟨?_,?_⟩
 ·have := zfv (a := f) (b := ⟨x, 1⟩) hf (by show (0:Int) < 1; omega)
  rw [show red x 1=rd_ ⟨x,1⟩ from rfl,this];unfold ltF;simp only;omega
 ·have := zfu (a := ⟨x, 1⟩) (b := f) (by show (0:Int) < 1; omega) hf
  rw [show red x 1=rd_ ⟨x,1⟩ from rfl,this];unfold ltF;simp only;omega
def zGG (A1 A2 lo hi:Frac):Int:=cond (!(s29 A1 lo) && !(s29 hi A2)) 1 (cond (s29 A2 lo || s29 hi A1) 3 2)
theorem zGH {g:Sl Gate} (hf:s22 g=false) {x:Gate} (X:zdf x):s50 g x=zGG (s36 g x.Z).1 (s36 g x.Z).2 (red x.Low 1) (red x.High 1):=by
 have gl:=zd8 X
 have gh:=zeQ X
 have e1:=(zeq (num:=x.Low) (den:=1) (by omega) (by omega) (by omega) (by omega)).2
 have e2:=(zeq (num:=x.High) (den:=1) (by omega) (by omega) (by omega) (by omega)).2
 unfold s50 zne znd znc
 rw [hf,e1,e2,cond_false,cond_false]
 unfold zra znb zna zGG
 generalize s36 g x.Z=A
 obtain ⟨A1,A2⟩:=A
 show cond (!(s29 A1 (red x.Low 1))) (cond (!(s29 (red x.High 1) A2)) 1 (cond (s29 A2 (red x.Low 1)) (cond true 3 2) (cond (s29 (red x.High 1) A1) 3 2))) (cond false 1 (cond (s29 A2 (red x.Low 1)) (cond true 3 2) (cond (s29 (red x.High 1) A1) 3 2)))=_
 cases s29 A1 (red x.Low 1) <;> cases s29 (red x.High 1) A2 <;> cases s29 A2 (red x.Low 1) <;> cases s29 (red x.High 1) A1 <;> rfl
theorem zGI {g:Sl Gate} (G:zau g) (hf:s22 g=false) (hs:s21 g=true) {x:Gate} (X:zdf x):(s50 g x ≠ 3↔∃ s,0 < s.den∧zg3 g s∧zg1 s x=true)∧(s50 g x=1→∀ s,Cor g s→zg1 s x=true):=by
 have hz : -200000≤x.Z∧x.Z≤200000:=by have:=X.1;omega
 have nf:=zci G hf
 have B:=zoD G hs hf hz
 have B':=B
 obtain ⟨⟨⟨c1,k1,e1⟩,m1⟩,⟨c2,k2,e2⟩,m2⟩:=B
 have F1:=zd0 (zbR G k1) hz
 have F2:=zd0 (zbR G k2) hz
 have d1:0 < c1.den:=by have h:1≤c1.den:=F1.2.1;omega
 have d2:0 < c2.den:=by have h:1≤c2.den:=F2.2.1;omega
 have fl:=zhR (zd8 X)
 have fh:=zhR (zeQ X)
 rw [zGH hf X,← e1,← e2]
 rw [← e1] at m1
 rw [← e2] at m2
 have L1:s29 (rd_ (plF x.Z c1)) (red x.Low 1)=true↔plc c1 x.Z < x.Low * c1.den:=by
  rw [zdS (zeR F1) fl,zfu d1 (by have:=fl.2;omega),(zsJ d1).1]
 have L2:s29 (red x.High 1) (rd_ (plF x.Z c2))=true↔x.High * c2.den < plc c2 x.Z:=by
  rw [zdS fh (zeR F2),zfv (by have:=fh.2;omega) d2,(zsJ d2).2]
 have L3:s29 (rd_ (plF x.Z c2)) (red x.Low 1)=true↔plc c2 x.Z < x.Low * c2.den:=by
  rw [zdS (zeR F2) fl,zfu d2 (by have:=fl.2;omega),(zsJ d2).1]
 have L4:s29 (red x.High 1) (rd_ (plF x.Z c1))=true↔x.High * c1.den < plc c1 x.Z:=by
  rw [zdS fh (zeR F1),zfv (by have:=fh.2;omega) d1,(zsJ d1).2]
 -- a line's place is between
 have btw:∀ s,0 < s.den→zg3 g s→plc c1 x.Z * s.den≤plc s x.Z * c1.den∧plc s x.Z * c2.den≤plc c2 x.Z * s.den:=fun s hd ha=>by
  obtain ⟨⟨c,hc,kc⟩,d,hd2,kd⟩:=(lp G.2.1 nf hd ha).1 x.Z
  have pc:0 < c.den:=by have:=(zbR G hc).2.2;omega
  have pd:0 < d.den:=by have:=(zbR G hd2).2.2;omega
  have a1 : ¬ ltF (plF x.Z c) (plF x.Z c1):=fun k=>m1 c hc ((zfv (b:=plF x.Z c1) pc d1).2 k)
  have a2 : ¬ ltF (plF x.Z c2) (plF x.Z d):=fun k=>m2 d hd2 ((zfu (a:=plF x.Z c2) d2 pd).2 k)
  have b1 : ¬ ltF (⟨plc s x.Z,s.den⟩:Frac) (plF x.Z c1):=zcw (b:=plF x.Z c) d1 pc hd a1 (by unfold ltF;simp only;omega)
  have b2 : ¬ ltF (plF x.Z c2) (⟨plc s x.Z,s.den⟩:Frac):=zcw (b:=plF x.Z d) hd pd d2 (by unfold ltF;simp only;omega) a2
  unfold ltF at b1 b2
  simp only at b1 b2
  omega
 have passI:∀ s:straight,zg1 s x=true↔x.Low * s.den≤plc s x.Z∧plc s x.Z≤x.High * s.den:=fun s=>decide_eq_true_iff
 have scale:∀ {a b p q:Int},0 < p→0 < q→a * q≤b * p→∀ y:Int,(y * p≤a→y * q≤b)∧(b≤y * q→a≤y * p):=fun {a b p q} hp hq h y=>by
  constructor
  ·intro k
   refine Int.le_of_mul_le_mul_right (a:=p) ?_ hp
   have:=Int.mul_le_mul_of_nonneg_right k (Int.le_of_lt hq)
   have e:y * q * p=y * p * q:=by ac_rfl
   omega
  ·intro k
   refine Int.le_of_mul_le_mul_right (a:=q) ?_ hq
   have:=Int.mul_le_mul_of_nonneg_right k (Int.le_of_lt hp)
   have e:y * q * p=y * p * q:=by ac_rfl
   omega
 have lohi:=X.2.2.1
 unfold zGG
 refine ⟨⟨fun h=>?_,fun ⟨s,hd,ha,hp⟩=>?_⟩,fun h s hs=>?_⟩
 ·-- neither wholly below nor wholly above
  have n3 : ¬ plc c2 x.Z < x.Low * c2.den:=fun k=>by
   have h3:=L3.2 k
   rw [h3] at h
   have h1:s29 (rd_ (plF x.Z c1)) (red x.Low 1)=true:=by
    refine L1.2 (Int.not_le.1 fun q=>?_)
    have:=(scale d1 d2 (btw c2 d2 k2.2).1 x.Low).1 q
    omega
   rw [h1] at h
   exact h rfl
  have n4 : ¬ x.High * c1.den < plc c1 x.Z:=fun k=>by
   have h4:=L4.2 k
   rw [h4] at h
   have h2:s29 (red x.High 1) (rd_ (plF x.Z c2))=true:=by
    refine L2.2 (Int.not_le.1 fun q=>?_)
    have:=(scale d1 d2 (btw c2 d2 k2.2).1 x.High).2 q
    omega
   rw [h2] at h
   apply h
   cases s29 (rd_ (plF x.Z c1)) (red x.Low 1) <;> cases s29 (rd_ (plF x.Z c2)) (red x.Low 1) <;> rfl
  by_cases p1:plc c1 x.Z < x.Low * c1.den
  ·by_cases p2 : x.High * c2.den < plc c2 x.Z
   ·have lh := Int.mul_le_mul_of_nonneg_right lohi (Int.le_of_lt d2)
    have u0:0 < plc c2 x.Z - x.Low * c2.den:=by omega
    have v0:0 < x.Low * c1.den - plc c1 x.Z:=by omega
    have hd:0 < (zGE (plc c2 x.Z - x.Low * c2.den) (x.Low * c1.den - plc c1 x.Z) c1 c2).den:=by
     have:=Int.mul_pos u0 d1
     have:=Int.mul_pos v0 d2
     show 0 < (plc c2 x.Z - x.Low * c2.den) * c1.den+(x.Low * c1.den - plc c1 x.Z) * c2.den
     omega
    refine ⟨_,hd,zGF (Int.le_of_lt u0) (Int.le_of_lt v0) k1.2 k2.2,(passI _).2 ?_⟩
    have e:plc (zGE (plc c2 x.Z - x.Low * c2.den) (x.Low * c1.den - plc c1 x.Z) c1 c2) x.Z=x.Low * (zGE (plc c2 x.Z - x.Low * c2.den) (x.Low * c1.den - plc c1 x.Z) c1 c2).den:=by
     rw [zzr]
     show _=x.Low * ((plc c2 x.Z - x.Low * c2.den) * c1.den+(x.Low * c1.den - plc c1 x.Z) * c2.den)
     grind
    rw [e]
    exact ⟨Int.le_refl _,Int.mul_le_mul_of_nonneg_right lohi (Int.le_of_lt hd)⟩
   ·exact ⟨c2,d2,k2.2,(passI _).2 ⟨by omega,by omega⟩⟩
  ·exact ⟨c1,d1,k1.2,(passI _).2 ⟨by omega,by omega⟩⟩
 ·obtain ⟨b1, b2⟩ := btw s hd ha
  obtain ⟨p1,p2⟩:=(passI s).1 hp
  have n3:s29 (rd_ (plF x.Z c2)) (red x.Low 1)=false:=by
   cases e:s29 (rd_ (plF x.Z c2)) (red x.Low 1)
   ·rfl
   ·have := L3.1 e
    have:=(scale hd d2 b2 x.Low).1 p1
    omega
  have n4:s29 (red x.High 1) (rd_ (plF x.Z c1))=false:=by
   cases e:s29 (red x.High 1) (rd_ (plF x.Z c1))
   ·rfl
   ·have := L4.1 e
    have:=(scale d1 hd b1 x.High).2 p2
    omega
  rw [n3,n4]
  cases s29 (rd_ (plF x.Z c1)) (red x.Low 1) <;> cases s29 (red x.High 1) (rd_ (plF x.Z c2)) <;> decide
 ·have hd : 0 < s.den := by have := (zbR G hs).2.2; omega
  obtain ⟨b1,b2⟩:=btw s hd hs.2
  have n1 : ¬ plc c1 x.Z < x.Low * c1.den:=fun k=>by
   rw [L1.2 k] at h
   revert h
   cases s29 (red x.High 1) (rd_ (plF x.Z c2)) <;> cases s29 (rd_ (plF x.Z c2)) (red x.Low 1) <;> cases s29 (red x.High 1) (rd_ (plF x.Z c1)) <;> decide
  have n2 : ¬ x.High * c2.den < plc c2 x.Z:=fun k=>by
   rw [L2.2 k] at h
   revert h
   cases s29 (rd_ (plF x.Z c1)) (red x.Low 1) <;> cases s29 (rd_ (plF x.Z c2)) (red x.Low 1) <;> cases s29 (red x.High 1) (rd_ (plF x.Z c1)) <;> decide
  exact (passI s).2 ⟨(scale d1 hd b1 x.Low).1 (by omega),(scale hd d2 b2 x.High).2 (by omega)⟩
theorem zh5 (g:Sl Gate) (x:Gate) (i:Nat):(i < g.len→(apL g x).get i=g.get i)∧(apL g x).get g.len=x:=by
 constructor
 ·intro h
  show zdt g.len g.get (fun _=>x) i=_
  unfold zdt
  rw [show Nat.ble g.len i=false by rw [← Bool.not_eq_true,Nat.ble_eq];omega]
 ·show zdt g.len g.get (fun _ => x) g.len = _
  unfold zdt
  rw [show Nat.ble g.len g.len=true by rw [Nat.ble_eq];omega]
theorem zL2 {g:Sl Gate} (G:zau g) (h:g.len≤20) {x:Gate} (X:zdf x):zau (apL g x):=by
 refine ⟨fun i hi=>?_,by show 1≤g.len+1;omega,by show g.len+1≤24;omega⟩
 have hi:i < g.len+1:=hi
 by_cases e:i < g.len
 ·rw [(zh5 g x i).1 e];exact G.1 i e
 ·rw [show i=g.len by omega,(zh5 g x i).2];exact X
theorem zkD {g:Sl Gate} {x:Gate} {s:straight} : zg3 (apL g x) s↔zg3 g s∧zg1 s x=true:=by
 constructor
 ·intro h
  refine ⟨fun i hi=>?_,?_⟩
  ·have := h i (by show i < g.len + 1; omega)
   rw [(zh5 g x i).1 hi] at this;exact this
  ·have := h g.len (by show g.len < g.len + 1; omega)
   rw [(zh5 g x 0).2] at this;exact this
 ·intro ⟨h1, h2⟩ i hi
  have hi:i < g.len+1:=hi
  by_cases e:i < g.len
  ·rw [(zh5 g x i).1 e];exact h1 i e
  ·rw [show i=g.len by omega,(zh5 g x i).2];exact h2
theorem zL3 {g:Sl Gate} (hl:1≤g.len) {x:Gate} (nf : ¬ zhN g) : ¬ zhN (apL g x):=fun h=>nf fun i hi=>by
 have a:=h i (by show i < g.len+1;omega)
 rw [(zh5 g x i).1 hi,(zh5 g x 0).1 (by omega)] at a;exact a
theorem zJO {x y:Frac} {u v:Frac} (hu:0 < u.Den) (hv:0 < v.Den) (ex:rd_ u=x) (ey:rd_ v=y) (h1 : ¬ ltF x y) (h2 : ¬ ltF y x):x=y:=by
 rw [← ex,← ey] at h1 h2 ⊢
 refine zky hu hv (fun k=>h1 ?_) (fun k=>h2 ?_)
 ·exact (zhQ (a:=u) (b:=v) hu hv).2 k
 ·exact (zhQ (a:=v) (b:=u) hv hu).2 k
theorem zJP {g:Sl Gate} (G:zau g) (nf : ¬ zhN g):s22 g=false:=by
 cases e:s22 g
 ·rfl
 ·exact absurd ((zh4 g G).2.1 e) nf
theorem zJQ {g:Sl Gate} (G:zau g) (hf:s22 g=false) {z:Int} (hz : -100000≤z∧z≤200000):p30 g z=true∧s30 g z=cond (s21 g) ((s36 g z).1,(s36 g z).2,0) (zF,zF,5):=by
 have hn:g.len≤9223372036854775807:=by have:=G.2;omega
 obtain ⟨a,b⟩:=zJG g hn z
 refine ⟨a,?_⟩
 rw [b,zow,decide_eq_true hz]
 unfold atR
 rw [(zri g hn).2 G,hf]
 cases s21 g <;> rfl
theorem zzs (g:Sl Gate) (G:zau g) (hl:g.len≤20) (x:Gate) (X:zdf x) (hf:s22 g=false) (z:Int) (hz:0≤z∧z≤100000):zj0 g x z=true∧zjZ g x z=true:=by
 have GA:=zL2 G hl X
 have nf:=zci G hf
 have fA:=zJP GA (zL3 G.2.1 nf (x:=x))
 obtain ⟨a1,a2⟩:=zJQ G hf (z:=z) (by omega)
 obtain ⟨b1,b2⟩:=zJQ GA fA (z:=z) (by omega)
 obtain ⟨m1,_,m3⟩:=zJL g x G X
 have key:zmV (s30 g z).2.2 (s30 g z).1.Num (s30 g z).1.Den (s30 g z).2.1.Num (s30 g z).2.1.Den (s30 (apL g x) z).2.2 (s30 (apL g x) z).1.Num (s30 (apL g x) z).1.Den (s30 (apL g x) z).2.1.Num (s30 (apL g x) z).2.1.Den (s48 g x).1 (s48 g x).2=true:=by
  rw [a2,b2,m3]
  cases hs:s21 g
  ·have hA:s21 (apL g x)=false:=by
    cases e:s21 (apL g x)
    ·rfl
    ·obtain ⟨s, hd, ha⟩ := (znm GA fA).1 e
     rw [(znm G hf).2 ⟨s,hd,(zkD.1 ha).1⟩] at hs;cases hs
   rw [hA];rfl
  ·obtain ⟨k1, k2⟩ := zGI G hf hs X
   have kA:s21 (apL g x)=true↔s50 g x ≠ 3:=by
    rw [znm GA fA,k1]
    exact ⟨fun ⟨s,hd,ha⟩=>⟨s,hd,(zkD.1 ha).1,(zkD.1 ha).2⟩,fun ⟨s,hd,h1,h2⟩=>⟨s,hd,zkD.2 ⟨h1,h2⟩⟩⟩
   cases hA:s21 (apL g x)
   ·have : s50 g x = 3 := Classical.byContradiction fun h => by rw [kA.2 h] at hA; cases hA
    rw [this];rfl
   ·have h3 := kA.1 hA
    have hzz : -200000≤z∧z≤200000:=by omega
    have B:=zoD G hs hf hzz
    have D:=zoD GA hA fA hzz
    have corA:∀ s,Cor (apL g x) s→SOK s∧zg3 g s:=fun s h=>⟨zbR GA h,(zkD.1 h.2).1⟩
    obtain ⟨FA1,FA2⟩:=zrj g G hs hzz
    obtain ⟨FB1,FB2⟩:=zrj (apL g x) GA hA hzz
    have w1 : ¬ ltF (s36 (apL g x) z).1 (s36 g z).1:=by
     obtain ⟨⟨⟨s,h,e⟩,_⟩,_⟩:=D
     obtain ⟨S,ha⟩:=corA s h
     rw [← e]
     exact fun k=>(zBo G nf S ha hzz B).1 ((zfu (a:=plF z s) (by have:=(zd0 S hzz).2;omega) (by have:=FA1.2;omega)).1 k)
    have w2 : ¬ ltF (s36 g z).2 (s36 (apL g x) z).2:=by
     obtain ⟨_,⟨s,h,e⟩,_⟩:=D
     obtain ⟨S,ha⟩:=corA s h
     rw [← e]
     exact fun k=>(zBo G nf S ha hzz B).2 ((zfv (b:=plF z s) (by have:=FA2.2;omega) (by have:=(zd0 S hzz).2;omega)).1 k)
    have n1:=noF FB1 FA1 w1
    have n2:=noF FA2 FB2 w2
    have same:s50 g x=1→(s36 (apL g x) z).1=(s36 g z).1∧(s36 (apL g x) z).2=(s36 g z).2:=fun h=>by
     have all:=k2 h
     have nA:=zci GA fA
     obtain ⟨⟨⟨s,h1,e1⟩,_⟩,⟨t,h2,e2⟩,_⟩:=B
     obtain ⟨⟨⟨u,h3,e3⟩,_⟩,⟨v,h4,e4⟩,_⟩:=D
     have Ss:=zbR G h1
     have St:=zbR G h2
     have x1:=(zBo GA nA Ss (zkD.2 ⟨h1.2,all s h1⟩) hzz (zoD GA hA fA hzz)).1
     have x2:=(zBo GA nA St (zkD.2 ⟨h2.2,all t h2⟩) hzz (zoD GA hA fA hzz)).2
     have ps:0 < (plF z s).Den:=by have:=(zd0 Ss hzz).2;omega
     have pt:0 < (plF z t).Den:=by have:=(zd0 St hzz).2;omega
     have pu:0 < (plF z u).Den:=by have:=(zd0 (zbR GA h3) hzz).2;omega
     have pv:0 < (plF z v).Den:=by have:=(zd0 (zbR GA h4) hzz).2;omega
     exact ⟨zJO pu ps e3 e1 w1 (fun k=>x1 ((zfu (a:=plF z s) ps (by have:=FB1.2;omega)).1 (by rw [e1];exact k))),
      zJO pv pt e4 e2 (fun k=>x2 ((zfv (b:=plF z t) (by have:=FB2.2;omega) pt).1 (by rw [e2];exact k))) w2⟩
    generalize s36 (apL g x) z=B2 at n1 n2 same
    generalize s36 g z=A2 at n1 n2 same
    generalize s50 g x=m at h3 same
    obtain ⟨⟨r1,r2⟩,⟨r3,r4⟩⟩:=B2
    obtain ⟨⟨t1,t2⟩,⟨t3,t4⟩⟩:=A2
    unfold zmV zqW zqV zqU
    have hm:(m != 3)=true:=by simpa using h3
    show cond ((0:Int) != 0) _ (cond ((0:Int) != 0) false (cond (((0:Int) == 0) != (m != 3)) false (cond ((0:Int) != 0) _ (cond (!(s29 (⟨r1,r2⟩:Frac) (⟨t1,t2⟩:Frac))) (cond (!(s29 (⟨t3,t4⟩:Frac) (⟨r3,r4⟩:Frac))) (cond (m != 1) true _) false) false))))=true
    rw [hm,n1,n2]
    cases h1:m != 1
    ·have h1 : m = 1 := by simpa using h1
     obtain ⟨s1,s2⟩:=same h1
     simp only [Frac.mk.injEq] at s1 s2
     rw [s1.1,s1.2,s2.1,s2.2]
     simp only [beq_self_eq_true,bne_self_eq_false,cond_false,cond_true,Bool.not_false]
    ·rfl
 unfold zj0 zjZ zq0 zqZ zqY zqX
 have eA:(⟨g.len+1,zdt g.len g.get (fun _=>x)⟩:Sl Gate)=apL g x:=rfl
 rw [eA,a1,b1,m1,decide_eq_true (show g.len * 24≤140737488355328∧g.len≤9223372036854775807 by omega),decide_eq_true (show (g.len+1) * 24≤140737488355328∧g.len+1≤9223372036854775807 by omega)]
 exact ⟨rfl,key⟩
theorem fewer_true (g:Sl Gate) (hn:g.len≤9223372036854775807) (x:Gate) (z:Int):p12 g x z=true∧s12 g x z=true:=by
 have t:∀ b,zft g x z b=cond b true (zj0 g x z)∧zfs g x z b=cond b true (zjZ g x z):=fun _=>⟨rfl,rfl⟩
 unfold p12 s12
 rw [(t true).1,(t true).2,(zy0 g hn).1,cond_true,cond_true]
 by_cases hl:(g.len:Int) > 20
 ·rw [decide_eq_true hl];exact ⟨rfl,rfl⟩
 rw [decide_eq_false hl]
 cases hv:s20 g
 ·exact ⟨rfl,rfl⟩
 have G:=(zri g hn).1 hv
 cases hx:s49 x
 ·exact ⟨rfl,rfl⟩
 have X:=(zyY x).1 hx
 rw [(zh4 g G).1]
 cases hf:s22 g
 ·by_cases h1 : z < 0
  ·rw [decide_eq_true h1];exact ⟨rfl,rfl⟩
  ·rw [decide_eq_false h1, (t _).1, (t _).2]
   by_cases h2:z > 100000
   ·rw [decide_eq_true h2];exact ⟨rfl,rfl⟩
   ·obtain ⟨u1, u2⟩ := zzs g G (by omega) x X hf z (by omega)
    rw [decide_eq_false h2,u1,u2];exact ⟨rfl,rfl⟩
 ·exact ⟨rfl,rfl⟩
end Go.Proofs
