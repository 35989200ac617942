/- Part 7 of what the proof rests on: a machine that runs functions of the program on pure values, proved sound; the functions that the law reaches, and what they compute. -/
import Derived.Test.YtedhjaaikeakoaaDoorQ6
set_option linter.all false
namespace Go.Pm
open Go
theorem zrT {σ β : Type} {good : Nat → Bool} {step : Nat → σ → σ} {bad : β} {E : σ → β} {EP : σ → Bool} {Inv : Nat → σ → Prop} {n : Nat} {lpS : Nat → σ → Int → β} {lpP : Nat → σ → Int → Bool}
    (hS:∀ (k i:Nat) (s:σ),i < n→Inv i s→lpS (k+1) s (i:Int)=cond (good i) (lpS k (step i s) (w64 ((i:Int)+(1:Int)))) bad)
    (hE:∀ k s,lpS (k+1) s (n:Int)=E s)
    (hP:∀ (k i:Nat) (s:σ),i < n→Inv i s→lpP (k+1) s (i:Int)=cond (good i) (lpP k (step i s) (w64 ((i:Int)+(1:Int)))) true)
    (hPE:∀ k s,lpP (k+1) s (n:Int)=EP s)
    (hI:∀ i s,i < n→Inv i s→Inv (i+1) (step i s)) (hn:n≤9223372036854775807) (s:σ) (h0:Inv 0 s) :
    ((∀ i,i < n→good i=true)→lpP Fuel s 0=EP (zqz step n 0 s)∧lpS Fuel s 0=E (zqz step n 0 s))∧((¬ ∀ i,i < n→good i=true)→lpP Fuel s 0=true∧lpS Fuel s 0=bad):=by
  have key:∀ (m k i:Nat) (s:σ),i+m=n→m < k→Inv i s→((∀ j,i≤j→j < n→good j=true)→lpP k s (i:Int)=EP (zqz step m i s)∧lpS k s (i:Int)=E (zqz step m i s))∧((¬ ∀ j,i≤j→j < n→good j=true)→lpP k s (i:Int)=true∧lpS k s (i:Int)=bad):=by
    intro m
    induction m with
    | zero =>
      intro k i s hi hk _
      obtain ⟨k,rfl⟩:∃ k',k=k'+1:=⟨k - 1,by omega⟩
      have:i=n:=by omega
      subst this
      rw [hE,hPE]
      exact ⟨fun _=>⟨rfl,rfl⟩,fun h=>absurd (fun j h1 h2=>absurd h2 (by omega)) h⟩
    | succ m ih =>
      intro k i s hi hk hs
      obtain ⟨k,rfl⟩:∃ k',k=k'+1:=⟨k - 1,by omega⟩
      rw [hS k i s (by omega) hs,hP k i s (by omega) hs,zzA (n:=n) (by omega) hn]
      obtain ⟨h1,h2⟩:=ih k (i+1) (step i s) (by omega) (by omega) (hI i s (by omega) hs)
      cases hg:good i
      · refine ⟨fun h => ?_, fun _ => ⟨rfl, rfl⟩⟩
        have:=h i (Nat.le_refl _) (by omega)
        rw [hg] at this;cases this
      · refine ⟨fun h => h1 fun j a b => h j (by omega) b, fun h => h2 fun h' => h fun j a b => ?_⟩
        by_cases hji:j=i
        · rw [hji];exact hg
        · exact h' j (by omega) b
  have:=key n Fuel 0 s (by omega) (by simp only [Fuel];omega) h0
  simpa using this
end Go.Pm
namespace Go.Proofs
open Go Go.Pm
set_option maxRecDepth 100000
theorem zzB (a:Net) (hn:a.Ties.len≤9223372036854775807):p42 a a=true∧s42 a a=true:=by
  have := zrS (good := fun _ => true) (fin := true) (n := a.Ties.len) (lpS := zhr a a) (lpP := zhs a a)
    (fun k i hi=>by
      show zhp a a (zhr a a k) (i:Int)=_
      generalize zhr a a k=S
      unfold zhp
      rw [decide_eq_true (show (i:Int) < (a.Ties.len:Int) by omega),cond_true,beq_self_eq_true,beq_self_eq_true,beq_self_eq_true,beq_self_eq_true];rfl)
    (fun k=>by
      show zhp a a (zhr a a k) (a.Ties.len:Int)=_
      unfold zhp
      rw [decide_eq_false (show ¬ (a.Ties.len:Int) < (a.Ties.len:Int) by omega),cond_false])
    (fun k i hi=>by
      show zhq a a (zhs a a k) (i:Int)=_
      generalize zhs a a k=S
      unfold zhq
      rw [decide_eq_true (show (i:Int) < (a.Ties.len:Int) by omega),cond_true,decide_eq_true (show 0≤(i:Int)∧(i:Int) < (a.Ties.len:Int) by omega),Bool.true_and,Bool.true_and,beq_self_eq_true,beq_self_eq_true,beq_self_eq_true,beq_self_eq_true];rfl)
    (fun k=>by
      show zhq a a (zhs a a k) (a.Ties.len:Int)=_
      unfold zhq
      rw [decide_eq_false (show ¬ (a.Ties.len:Int) < (a.Ties.len:Int) by omega),cond_false])
    hn
  have h1:zqy a a=true:=this.2.2 ⟨fun _ _=>rfl,rfl⟩
  unfold p42 s42
  rw [bne_self_eq_false,cond_false,cond_false,bne_self_eq_false,cond_false,cond_false,h1]
  exact ⟨this.1,rfl⟩
theorem zxY (a b:Bool):(cond a b false)=(a && b):=by cases a <;> rfl
def zhS (p:Pulse):Bool:=!(p.A == p.B) && (s81 p.TimeA (-100000000:Int) (100000000:Int) && (s81 p.TimeB (-100000000:Int) (100000000:Int) && (s81 p.Flight.Low (0:Int) p.Flight.High && (!(decide (p.Flight.High > (100000000:Int))) && s81 p.Jitter (0:Int) (100000000:Int)))))
def tieP (p:Pulse):Tie:=⟨p.A,p.B,(w64 ((w64 ((w64 (p.TimeB - p.TimeA)) - p.Flight.High)) - p.Jitter)),(w64 ((w64 ((w64 (p.TimeB - p.TimeA)) - p.Flight.Low))+p.Jitter))⟩
def zsM (l:Sl Pulse) (i:Nat) (v:Sl Tie):Sl Tie:=⟨v.len+1,zkP v.len v.get (fun _=>tieP (l.get i))⟩
def zfF (l:Sl Pulse):Sl Tie:=zqz (zsM l) l.len 0 (⟨0,fun _=>default⟩:Sl Tie)
theorem zrU (l:Sl Pulse) (i:Nat) (v:Sl Tie) (h:v.len≤i):(zsM l i v).len≤i+1:=Nat.succ_le_succ h
abbrev zDL:Net×Int:=((⟨(0:Int),(⟨0,fun _=>default⟩:(Sl Tie))⟩:Net),(2:Int))
theorem zF3 (nodes : Int) (l : Sl Pulse) (hn : l.len ≤ 210) :
    ((∀ i,i < l.len→zhS (l.get i)=true)→zj8 nodes l=(decide (p67 (⟨nodes,zfF l⟩:Net)=true) && true)∧zj7 nodes l=zmi nodes (!(s67 (⟨nodes,zfF l⟩:Net))) (zfF l)) ∧
    ((¬ ∀ i,i < l.len→zhS (l.get i)=true)→zj8 nodes l=true∧zj7 nodes l=zDL):=by
  have := zrT (good := fun i => zhS (l.get i)) (step := zsM l) (bad := zDL) (E := fun v => zmi nodes (!(s67 (⟨nodes, v⟩ : Net))) v) (EP := fun v => decide (p67 (⟨nodes, v⟩ : Net) = true) && true) (Inv := fun i v => v.len ≤ i) (n := l.len)
    (lpS:=fun k v i=>zf2 nodes l k i v) (lpP:=fun k v i=>zf3 nodes l k i v)
    (fun k i v hi hv=>by
      show zhl nodes l (zf2 nodes l k) (i:Int) v=cond (zhS (l.get i)) (zf2 nodes l k (w64 ((i:Int)+(1:Int))) (zsM l i v)) zDL
      generalize zf2 nodes l k=S
      unfold zhl zfk zqm zhS zsM tieP
      rw [decide_eq_true (show (i:Int) < (l.len:Int) by omega),cond_true,Int.toNat_natCast]
      cases (l.get i).A == (l.get i).B <;> cases s81 (l.get i).TimeA (-100000000) 100000000 <;> cases s81 (l.get i).TimeB (-100000000) 100000000 <;> cases s81 (l.get i).Flight.Low 0 (l.get i).Flight.High <;> cases decide ((l.get i).Flight.High > (100000000:Int)) <;> cases s81 (l.get i).Jitter 0 100000000 <;> rfl)
    (fun k v=>by
      show zhl nodes l (zf2 nodes l k) (l.len:Int) v=_
      unfold zhl
      rw [decide_eq_false (show ¬ (l.len:Int) < (l.len:Int) by omega),cond_false])
    (fun k i v hi hv=>by
      show zhm nodes l (zf3 nodes l k) (i:Int) v=cond (zhS (l.get i)) (zf3 nodes l k (w64 ((i:Int)+(1:Int))) (zsM l i v)) true
      generalize zf3 nodes l k=S
      unfold zhm zfl zqn zhS zsM tieP
      rw [decide_eq_true (show (i:Int) < (l.len:Int) by omega),cond_true,Int.toNat_natCast,decide_eq_true (show 0≤(i:Int)∧(i:Int) < (l.len:Int) by omega),decide_eq_true (show (v.len+1) * 32≤140737488355328∧v.len+1≤9223372036854775807 by omega)]
      cases (l.get i).A == (l.get i).B <;> cases s81 (l.get i).TimeA (-100000000) 100000000 <;> cases s81 (l.get i).TimeB (-100000000) 100000000 <;> cases s81 (l.get i).Flight.Low 0 (l.get i).Flight.High <;> cases decide ((l.get i).Flight.High > (100000000:Int)) <;> cases s81 (l.get i).Jitter 0 100000000 <;> rfl)
    (fun k v=>by
      show zhm nodes l (zf3 nodes l k) (l.len:Int) v=_
      unfold zhm
      rw [decide_eq_false (show ¬ (l.len:Int) < (l.len:Int) by omega),cond_false])
    (fun i v _ h=>zrU l i v h) (by omega) (⟨0,fun _=>default⟩:Sl Tie) (Nat.le_refl _)
  exact this
theorem zF4 (nodes : Int) (l : Sl Pulse) (hn : l.len ≤ 210) :
    ((∀ i,i < l.len→s82 nodes (l.get i)=true)→zmj nodes l=true∧zf7 nodes l=((⟨nodes,zfF l⟩:Net),(0:Int))) ∧
    ((¬ ∀ i,i < l.len→s82 nodes (l.get i)=true)→zmj nodes l=true∧zf7 nodes l=zDL):=by
  have := zrT (good := fun i => s82 nodes (l.get i)) (step := zsM l) (bad := zDL) (E := fun v => ((⟨nodes, v⟩ : Net), (0:Int))) (EP := fun _ => true) (Inv := fun i v => v.len ≤ i) (n := l.len)
    (lpS:=fun k v i=>zf5 nodes l k i v) (lpP:=fun k v i=>zf6 nodes l k i v)
    (fun k i v hi hv=>by
      show zhn nodes l (zf5 nodes l k) (i:Int) v=cond (s82 nodes (l.get i)) (zf5 nodes l k (w64 ((i:Int)+(1:Int))) (zsM l i v)) zDL
      generalize zf5 nodes l k=S
      unfold zhn zqs zqq zsM tieP
      rw [decide_eq_true (show (i:Int) < (l.len:Int) by omega),cond_true,Int.toNat_natCast]
      cases s82 nodes (l.get i) <;> rfl)
    (fun k v=>by
      show zhn nodes l (zf5 nodes l k) (l.len:Int) v=_
      unfold zhn
      rw [decide_eq_false (show ¬ (l.len:Int) < (l.len:Int) by omega),cond_false])
    (fun k i v hi hv=>by
      show zho nodes l (zf6 nodes l k) (i:Int) v=cond (s82 nodes (l.get i)) (zf6 nodes l k (w64 ((i:Int)+(1:Int))) (zsM l i v)) true
      generalize zf6 nodes l k=S
      unfold zho zqu zqr zsM tieP
      rw [decide_eq_true (show (i:Int) < (l.len:Int) by omega),cond_true,Int.toNat_natCast,decide_eq_true (show 0≤(i:Int)∧(i:Int) < (l.len:Int) by omega),decide_eq_true (show (v.len+1) * 32≤140737488355328∧v.len+1≤9223372036854775807 by omega)]
      cases s82 nodes (l.get i) <;> rfl)
    (fun k v=>by
      show zho nodes l (zf6 nodes l k) (l.len:Int) v=_
      unfold zho
      rw [decide_eq_false (show ¬ (l.len:Int) < (l.len:Int) by omega),cond_false])
    (fun i v _ h=>zrU l i v h) (by omega) (⟨0,fun _=>default⟩:Sl Tie) (Nat.le_refl _)
  exact this
theorem znZ (p:Pulse):zhS p=true↔p.A ≠ p.B∧(-100000000≤p.TimeA∧p.TimeA≤100000000)∧(-100000000≤p.TimeB∧p.TimeB≤100000000)∧(0≤p.Flight.Low∧p.Flight.Low≤p.Flight.High)∧p.Flight.High≤100000000∧(0≤p.Jitter∧p.Jitter≤100000000):=by
 unfold zhS
 simp only [zk1,Bool.and_eq_true,decide_eq_true_eq,Bool.not_eq_true',beq_eq_false_iff_ne,decide_eq_false_iff_not,Int.not_lt,ne_eq,gt_iff_lt]
theorem zxZ (nodes:Int) (p:Pulse):s82 nodes p=(s81 p.A 0 (w64 (nodes - (1:Int))) && (s81 p.B 0 (w64 (nodes - (1:Int))) && zhS p)):=by
 rw [Bool.eq_iff_iff]
 unfold s82
 simp only [zxY,zAu,znZ,zk1,Bool.and_eq_true,decide_eq_true_eq,bne_iff_ne,ge_iff_le]
 constructor
 ·rintro ⟨a,b,c,d,e,f,g,h,i⟩;exact ⟨a,b,c,d,e,⟨f,g⟩,h,i⟩
 ·rintro ⟨a,b,c,d,e,⟨f,g⟩,h,i⟩;exact ⟨a,b,c,d,e,f,g,h,i⟩
theorem zrV {p:Pulse} (h:zhS p=true) (nodes:Int):s78 (tieP p) nodes=(s81 p.A 0 (w64 (nodes - (1:Int))) && s81 p.B 0 (w64 (nodes - (1:Int)))):=by
 obtain ⟨h1,h2,h3,h4,h5,h6⟩:=(znZ p).1 h
 have el:(tieP p).Low=p.TimeB - p.TimeA - p.Flight.High - p.Jitter:=by
  unfold tieP;simp only []
  rw [zhM (x:=p.TimeB - p.TimeA) (by omega) (by omega),zhM (x:=p.TimeB - p.TimeA - p.Flight.High) (by omega) (by omega),zhM (by omega) (by omega)]
 have eh:(tieP p).High=p.TimeB - p.TimeA - p.Flight.Low+p.Jitter:=by
  unfold tieP;simp only []
  rw [zhM (x:=p.TimeB - p.TimeA) (by omega) (by omega),zhM (x:=p.TimeB - p.TimeA - p.Flight.Low) (by omega) (by omega),zhM (by omega) (by omega)]
 unfold s78 zlR zlQ
 rw [el,eh,zk1 (p.TimeB - p.TimeA - p.Flight.High - p.Jitter),zk1 (p.TimeB - p.TimeA - p.Flight.Low+p.Jitter),decide_eq_true (show -1000000000≤p.TimeB - p.TimeA - p.Flight.High - p.Jitter∧p.TimeB - p.TimeA - p.Flight.High - p.Jitter≤1000000000 by omega),decide_eq_true (show -1000000000≤p.TimeB - p.TimeA - p.Flight.Low+p.Jitter∧p.TimeB - p.TimeA - p.Flight.Low+p.Jitter≤1000000000 by omega),decide_eq_true (show p.TimeB - p.TimeA - p.Flight.High - p.Jitter≤p.TimeB - p.TimeA - p.Flight.Low+p.Jitter by omega),show ((tieP p).From != (tieP p).To)=true from bne_iff_ne.2 h1]
 show cond _ (cond _ (cond (s81 p.A _ _) (cond (s81 p.B _ _) _ _) _) (cond (s81 p.A _ _) (cond (s81 p.B _ _) _ _) _)) (cond _ (cond (s81 p.A _ _) (cond (s81 p.B _ _) _ _) _) (cond (s81 p.A _ _) (cond (s81 p.B _ _) _ _) _))=_
 cases s81 p.A 0 (w64 (nodes - (1:Int))) <;> cases s81 p.B 0 (w64 (nodes - (1:Int))) <;> cases (p.TimeB - p.TimeA - p.Flight.Low+p.Jitter == (1000000000000:Int)) <;> cases (p.TimeB - p.TimeA - p.Flight.High - p.Jitter == (-1000000000000:Int)) <;> rfl
theorem zsI {σ : Type} {step : Nat → σ → σ} {Inv : Nat → σ → Prop} {n : Nat} (hI : ∀ i s, i < n → Inv i s → Inv (i + 1) (step i s)) :
    ∀ (m i:Nat) (s:σ),i+m=n→Inv i s→Inv n (zqz step m i s):=by
  intro m
  induction m with
  | zero => intro i s h hs; have : i = n := by omega
            subst this;exact hs
  | succ m ih=>intro i s h hs;exact ih (i+1) (step i s) (by omega) (hI i s (by omega) hs)
theorem zzC (l:Sl Pulse):(zfF l).len=l.len∧∀ j,j < l.len→(zfF l).get j=tieP (l.get j) :=
  zsI (Inv := fun i (v : Sl Tie) => v.len = i ∧ ∀ j, j < i → v.get j = tieP (l.get j)) (n := l.len)
    (fun i v hi h=>⟨by show v.len+1=i+1;rw [h.1],fun j hj=>by
      show zkP v.len v.get (fun _=>tieP (l.get i)) j=_
      unfold zkP
      by_cases hji:j < v.len
      · rw [show Nat.ble v.len j=false from Bool.eq_false_iff.2 fun k=>by have:=Nat.le_of_ble_eq_true k;omega];exact h.2 j (by have:=h.1;omega)
      · rw [show Nat.ble v.len j=true from Nat.ble_eq_true_of_le (by omega)];show tieP (l.get i)=_;have:=h.1;rw [show j=i by omega]⟩) l.len 0 _ (by omega) ⟨rfl,fun j hj=>absurd hj (Nat.not_lt_zero _)⟩
theorem zqA (nodes:Int) (l:Sl Pulse) (hn:l.len≤200):(zj8 nodes l=true∧zmk nodes l=true)∧zj7 nodes l=zkc nodes l∧(zkc nodes l).1.Ties.len≤210:=by
 obtain ⟨a1,a2⟩:=zF3 nodes l (by omega)
 obtain ⟨b1,b2⟩:=zF4 nodes l (by omega)
 obtain ⟨t1,t2⟩:=zzC l
 obtain ⟨n1,n2⟩:=zF2 (⟨nodes,zfF l⟩:Net) (by show (zfF l).len≤_;omega)
 unfold zmk zkc zqx zqw
 rw [zAu]
 by_cases hg:∀ i,i < l.len→zhS (l.get i)=true
 ·rw [(a1 hg).1, (a1 hg).2, decide_eq_true n1]
  by_cases hN:1≤nodes∧nodes≤40
  ·rw [decide_eq_true hN]
   by_cases hr:∀ i,i < l.len→s82 nodes (l.get i)=true
   ·have:s67 (⟨nodes,zfF l⟩:Net)=true:=n2.2 ⟨fun i hi=>by
     have hi':i < l.len:=t1 ▸ hi
     show s78 ((zfF l).get i) nodes=true
     rw [t2 i hi',zrV (hg i hi')]
     have:=hr i hi';rw [zxZ,hg i hi',Bool.and_true] at this;exact this,hN,by show (zfF l).len≤_;omega⟩
    rw [this]
    exact ⟨⟨rfl,(b1 hr).1⟩,(b1 hr).2.symm,by show (zf7 nodes l).1.Ties.len≤210;rw [(b1 hr).2];show (zfF l).len≤_;omega⟩
   ·have:s67 (⟨nodes,zfF l⟩:Net)=false:=Bool.eq_false_iff.2 fun h=>hr fun i hi=>by
     have:=(n2.1 h).1 i (by show i < (zfF l).len;omega)
     have e:s78 ((zfF l).get i) nodes=true:=this
     rw [t2 i hi,zrV (hg i hi)] at e
     rw [zxZ,hg i hi,Bool.and_true];exact e
    rw [this]
    exact ⟨⟨rfl,(b2 hr).1⟩,(b2 hr).2.symm,by show (zf7 nodes l).1.Ties.len≤210;rw [(b2 hr).2];exact Nat.zero_le _⟩
  ·rw [decide_eq_false hN]
   have:s67 (⟨nodes,zfF l⟩:Net)=false:=Bool.eq_false_iff.2 fun h=>hN (n2.1 h).2.1
   rw [this]
   exact ⟨⟨rfl,rfl⟩,rfl,Nat.zero_le _⟩
 ·rw [(a2 hg).1, (a2 hg).2]
  have hr : ¬ ∀ i,i < l.len→s82 nodes (l.get i)=true:=fun h=>hg fun i hi=>by
   have:=h i hi;rw [zxZ] at this;simp only [Bool.and_eq_true] at this;exact this.2.2
  cases decide (1≤nodes∧nodes≤40)
  ·exact ⟨⟨rfl,rfl⟩,rfl,Nat.zero_le _⟩
  ·exact ⟨⟨rfl,(b2 hr).1⟩,(b2 hr).2.symm,by show (zf7 nodes l).1.Ties.len≤210;rw [(b2 hr).2];exact Nat.zero_le _⟩
theorem pulses_true (nodes:Int) (l:Sl Pulse):p8 nodes l=true∧s8 nodes l=true:=by
 have key:l.len≤210→znX nodes l=true∧znW nodes l=true:=fun h=>by
  have hs:(p40 nodes l=true∧p41 nodes l=true)∧s40 nodes l=s41 nodes l∧(s41 nodes l).1.Ties.len≤210:=by
   unfold p40 p41 s40 s41
   by_cases hl:l.len≤200
   ·rw [decide_eq_false (show ¬ (l.len:Int) > (200:Int) by omega)];exact zqA nodes l hl
   ·rw [decide_eq_true (show (l.len:Int) > (200:Int) by omega)];exact ⟨⟨rfl,rfl⟩,rfl,Nat.zero_le _⟩
  obtain ⟨⟨h1,h2⟩,h3,h4⟩:=hs
  obtain ⟨r1,r2⟩:=zzB (s41 nodes l).1 (by omega)
  unfold znX znW zxX zxW zxV zxU
  rw [h3,decide_eq_true h1,decide_eq_true h2,beq_self_eq_true,cond_true,cond_true]
  show (true && (true && (decide (p42 (s41 nodes l).1 (s41 nodes l).1=true) && true)))=true∧cond (s42 (s41 nodes l).1 (s41 nodes l).1) true false=true
  rw [r1,r2];exact ⟨rfl,rfl⟩
 unfold p8 s8
 by_cases ha:(l.len:Int) > 20 <;> by_cases hb:(l.len:Int)≤200 <;> by_cases hc:(l.len:Int) > 210 <;> simp only [ha,hb,hc,decide_true,decide_false,cond_true,cond_false,and_self]
 all_goals exact key (by omega)
end Go.Proofs
