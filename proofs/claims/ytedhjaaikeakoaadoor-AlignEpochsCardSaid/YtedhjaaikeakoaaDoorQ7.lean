/- Part 7 of what the proof rests on: a machine that runs functions of the program on pure values, proved sound; the functions that the law reaches, and what they compute. -/
import Derived.Test.YtedhjaaikeakoaaDoorQ6
set_option linter.all false
namespace Go.Proofs
open Go Go.Pm
set_option maxRecDepth 100000
set_option linter.unusedVariables false
def fwS (t:Tie) (i:Nat):step:=⟨⟨(i:Int),false⟩,t.From,t.To,t.High⟩
def bwS (t:Tie) (i:Nat):step:=⟨⟨(i:Int),true⟩,t.To,t.From,w64 (0 - t.Low)⟩
def zNy (a:web) (i:Nat):Bool:=(zv3 (a.out.F [(i:Int)]) 0) != 0
def stK (a:web) (i:Nat):List step :=
 cond (zNy a i) [] ((cond ((a.Net.Ties.get i).High != (1000000000000:Int)) [fwS (a.Net.Ties.get i) i] []) ++ (cond ((a.Net.Ties.get i).Low != (-1000000000000:Int)) [bwS (a.Net.Ties.get i) i] []))
def stL (a : web) : Nat → Nat → List step
  | 0,_=>[]
  | m+1,i=>stK a i ++ stL a m (i+1)
def edS (y:step):Ed:=⟨y.from_.toNat,y.to.toNat,y.length⟩
structure StOk (y : step) (N : Nat) : Prop where
  f0:0≤y.from_
  f1:y.from_ < N
  t0:0≤y.to
  t1:y.to < N
  l0 : -1000000000≤y.length
  l1:y.length≤1000000000
abbrev Ws (a:web):List step:=stL a a.Net.Ties.len 0
def We (a:web):List Ed:=(Ws a).map edS
end Go.Proofs
namespace Go.Proofs
open Go Go.Pm
set_option maxRecDepth 100000
set_option linter.unusedVariables false
end Go.Proofs
namespace Go.Proofs
open Go Go.Pm
set_option maxRecDepth 100000
set_option linter.unusedVariables false
def nv (x y:Int):Bool:=match (x == (1000000000000:Int)) with | true=>(match (y == (0:Int)) with | true=>true | false=>false) | false=>false
end Go.Proofs
namespace Go.Proofs
open Go Go.Pm
set_option maxRecDepth 100000
set_option linter.unusedVariables false
end Go.Proofs
namespace Go.Proofs
open Go Go.Pm
set_option maxRecDepth 100000
set_option linter.unusedVariables false
end Go.Proofs
namespace Go.Proofs
open Go Go.Pm
set_option maxRecDepth 100000
set_option linter.unusedVariables false
attribute [local irreducible] Go.Pm.vcFun Go.Pm.vc Go.Pm.vcIter
section
variable {K:List PA→Prop} {n:Net} {from_a1:Int} {to:Int}
end
end Go.Proofs
namespace Go.Proofs
open Go Go.Pm
set_option maxRecDepth 100000
set_option linter.unusedVariables false
def W (n:Net):web:=⟨n,⟨0,fun _=>none⟩⟩
abbrev En (n:Net):List Ed:=We (W n)
def fr (n:Net) (i j:Nat):Int:=zNx (dst (En n) n.Nodes.toNat i j)
end Go.Proofs
namespace Go.Proofs
open Go Go.Pm
set_option maxRecDepth 100000
set_option linter.unusedVariables false
attribute [local irreducible] Go.Pm.vcFun Go.Pm.vc Go.Pm.vcIter
section
variable {K:List PA→Prop} {n:Net} {iv0:Int} {zNz:(Sl Tie)} {zLN:Nat→List PV} {X0:St→Prop} {P0:Int→(Sl Tie)→Bool} {S0:Int→(Sl Tie)→Net}
end
end Go.Proofs
namespace Go.Proofs
open Go Go.Pm
set_option maxRecDepth 100000
set_option linter.unusedVariables false
def turn (t:Tie):Tie:=⟨t.From,t.To,w64 (0 - t.High),w64 (0 - t.Low)⟩
structure IsTurn (n m : Net) : Prop where
  nodes:m.Nodes=n.Nodes
  len:m.Ties.len=n.Ties.len
  tie:∀ j,j < n.Ties.len→m.Ties.get j=turn (n.Ties.get j)
end Go.Proofs
namespace Go.Proofs
open Go Go.Pm
set_option maxRecDepth 100000
set_option linter.unusedVariables false
def apL {α:Type} (l:Nat→α) (i:Nat) (v:Sl α):Sl α:=⟨v.len+1,zms v.len v.get (fun _=>l i)⟩
end Go.Proofs
namespace Go.Pm
open Go
theorem zC3 {σ β : Type} {good : Nat → Bool} {step : Nat → σ → σ} {bad : β} {E : σ → β} {EP : σ → Bool} {Inv : Nat → σ → Prop} {n : Nat} {lpS : Nat → σ → Int → β} {lpP : Nat → σ → Int → Bool}
    (hS:∀ (k i:Nat) (s:σ),i < n→Inv i s→lpS (k+1) s (i:Int)=cond (good i) (lpS k (step i s) (w64 ((i:Int)+(1:Int)))) bad)
    (hE:∀ k s,lpS (k+1) s (n:Int)=E s)
    (hP:∀ (k i:Nat) (s:σ),i < n→Inv i s→lpP (k+1) s (i:Int)=cond (good i) (lpP k (step i s) (w64 ((i:Int)+(1:Int)))) true)
    (hPE:∀ k s,lpP (k+1) s (n:Int)=EP s)
    (hI:∀ i s,i < n→Inv i s→Inv (i+1) (step i s)) (hn:n≤9223372036854775807) (s:σ) (h0:Inv 0 s) :
    ((∀ i,i < n→good i=true)→lpP Fuel s 0=EP (zeE step n 0 s)∧lpS Fuel s 0=E (zeE step n 0 s))∧((¬ ∀ i,i < n→good i=true)→lpP Fuel s 0=true∧lpS Fuel s 0=bad):=by
  have key:∀ (m k i:Nat) (s:σ),i+m=n→m < k→Inv i s→((∀ j,i≤j→j < n→good j=true)→lpP k s (i:Int)=EP (zeE step m i s)∧lpS k s (i:Int)=E (zeE step m i s))∧((¬ ∀ j,i≤j→j < n→good j=true)→lpP k s (i:Int)=true∧lpS k s (i:Int)=bad):=by
    intro m
    induction m with
    | zero =>
      intro k i s hi hk _
      obtain ⟨k,rfl⟩:∃ k',k=k'+1:=⟨k - 1,by omega⟩
      have:i=n:=by omega
      subst this
      rw [hE,hPE]
      exact ⟨fun _=>⟨rfl,rfl⟩,fun h=>absurd (fun j h1 h2=>absurd h2 (by omega)) h⟩
    | succ m ih =>
      intro k i s hi hk hs
      obtain ⟨k,rfl⟩:∃ k',k=k'+1:=⟨k - 1,by omega⟩
      rw [hS k i s (by omega) hs,hP k i s (by omega) hs,zo2 (n:=n) (by omega) hn]
      obtain ⟨h1,h2⟩:=ih k (i+1) (step i s) (by omega) (by omega) (hI i s (by omega) hs)
      cases hg:good i
      · refine ⟨fun h => ?_, fun _ => ⟨rfl, rfl⟩⟩
        have:=h i (Nat.le_refl _) (by omega)
        rw [hg] at this;cases this
      · refine ⟨fun h => h1 fun j a b => h j (by omega) b, fun h => h2 fun h' => h fun j a b => ?_⟩
        by_cases hji:j=i
        · rw [hji];exact hg
        · exact h' j (by omega) b
  have:=key n Fuel 0 s (by omega) (by simp only [Fuel];omega) h0
  simpa using this
end Go.Pm
namespace Go.Proofs
open Go Go.Pm
set_option maxRecDepth 100000
set_option linter.unusedVariables false
attribute [local irreducible] Go.Pm.vcFun Go.Pm.vc Go.Pm.vcIter
section
variable {K:List PA→Prop} {nodes:Int} {pulses:(Sl Pulse)} {zbW:Int} {zNA:(Sl Tie)} {zLO:Nat→List PV} {X1:St→Prop} {P1:Int→(Sl Tie)→Bool} {S1:Int→(Sl Tie)→(Net×Int)} {zNB:Int} {zNC:Bool} {zND:Int} {zNE:Int} {zNF:Int} {zNG:Int} {zNH:Int} {zNI:Int} {zNJ:Int} {zNK:(Sl Tie)} {zLP:Nat→List PV} {zNL:Bool} {zNM:(Sl Tie)} {zLQ:Nat→List PV} {zcZ:Int} {zLR:Int} {zLS:Int} {zLT:Int} {zLU:Int} {zLV:Int} {zLW:Int} {zLX:Int} {zNN:(Sl Tie)} {zLY:Nat→List PV}
end
section
variable {K:List PA→Prop} {nodes:Int} {p:Pulse}
end
section
variable {K:List PA→Prop} {nodes:Int} {l_a1:(Sl Pulse)} {zpU:Bool} {iv3:Int} {zNO:(Sl Tie)} {zLZ:Nat→List PV} {X3:St→Prop} {P3:Int→(Sl Tie)→Bool} {S3:Int→(Sl Tie)→(Net×Int)} {iv4:Int} {zNP:Bool} {zLR:Int} {zLS:Int} {zLT:Int} {zLU:Int} {zLV:Int} {zLW:Int} {zLX:Int} {zNQ:(Sl Tie)} {zL0:Nat→List PV} {iv5:Int} {zNR:Int} {zNS:Int} {zNT:Int} {zNU:Int} {zNV:Int} {zNW:Int} {zNX:Int} {zNY:(Sl Tie)} {zL1:Nat→List PV}
end
end Go.Proofs
namespace Go.Proofs
open Go Go.Pm
set_option maxRecDepth 100000
theorem zC4 (a:Net) (hn:a.Ties.len≤9223372036854775807):p42 a a=true∧s42 a a=true:=by
  have := zo1 (good := fun _ => true) (fin := true) (n := a.Ties.len) (lpS := ziW a a) (lpP := ziX a a)
    (fun k i hi=>by
      show ziU a a (ziW a a k) (i:Int)=_
      generalize ziW a a k=S
      unfold ziU
      rw [decide_eq_true (show (i:Int) < (a.Ties.len:Int) by omega),cond_true,beq_self_eq_true,beq_self_eq_true,beq_self_eq_true,beq_self_eq_true];rfl)
    (fun k=>by
      show ziU a a (ziW a a k) (a.Ties.len:Int)=_
      unfold ziU
      rw [decide_eq_false (show ¬ (a.Ties.len:Int) < (a.Ties.len:Int) by omega),cond_false])
    (fun k i hi=>by
      show ziV a a (ziX a a k) (i:Int)=_
      generalize ziX a a k=S
      unfold ziV
      rw [decide_eq_true (show (i:Int) < (a.Ties.len:Int) by omega),cond_true,decide_eq_true (show 0≤(i:Int)∧(i:Int) < (a.Ties.len:Int) by omega),Bool.true_and,Bool.true_and,beq_self_eq_true,beq_self_eq_true,beq_self_eq_true,beq_self_eq_true];rfl)
    (fun k=>by
      show ziV a a (ziX a a k) (a.Ties.len:Int)=_
      unfold ziV
      rw [decide_eq_false (show ¬ (a.Ties.len:Int) < (a.Ties.len:Int) by omega),cond_false])
    hn
  have h1:zs5 a a=true:=this.2.2 ⟨fun _ _=>rfl,rfl⟩
  unfold p42 s42
  rw [bne_self_eq_false,cond_false,cond_false,bne_self_eq_false,cond_false,cond_false,h1]
  exact ⟨this.1,rfl⟩
theorem zvX {σ : Type} {step : Nat → σ → σ} {Inv : Nat → σ → Prop} {n : Nat} (hI : ∀ i s, i < n → Inv i s → Inv (i + 1) (step i s)) :
    ∀ (m i:Nat) (s:σ),i+m=n→Inv i s→Inv n (zeE step m i s):=by
  intro m
  induction m with
  | zero => intro i s h hs; have : i = n := by omega
            subst this;exact hs
  | succ m ih=>intro i s h hs;exact ih (i+1) (step i s) (by omega) (hI i s (by omega) hs)
end Go.Proofs
namespace Go.Proofs
open Go Go.Pm
set_option maxRecDepth 100000
set_option linter.unusedVariables false
def nd (N:Int) (j:Nat) (i:Int):Int:=if i=0 then 0 else j * (N - 1)+i
theorem zKs {N:Int} (h1:1≤N) (h2:N≤40) {j:Nat} (hj:j≤10):0≤(j:Int) * (N - 1)∧(j:Int) * (N - 1)≤390:=by
 have a:=Int.mul_nonneg (show (0:Int)≤j by omega) (show (0:Int)≤N - 1 by omega)
 have b:(j:Int) * (N - 1)≤10 * 39:=Int.mul_le_mul (by omega) (by omega) (by omega) (by omega)
 omega
theorem zjK {N:Int} (h1:1≤N) (h2:N≤40) {j:Nat} (hj:j≤10) {i:Int} (i0:0≤i) (i1:i≤40):s97 N i (j:Int)=nd N j i:=by
 have hb:=zKs h1 h2 hj
 unfold s97 nd
 by_cases h:i=0
 ·rw [if_pos h,show (i == (0:Int))=true from beq_iff_eq.2 h,cond_true]
 ·rw [if_neg h,show (i == (0:Int))=false from beq_eq_false_iff_ne.2 h,cond_false,zcd (x:=N - 1) (by omega) (by omega),zcd (x:=(j:Int) * (N - 1)) (by omega) (by omega),zcd (by omega) (by omega)]
theorem zjL {N:Int} (h1:1≤N) (h2:N≤40) {j:Nat} (hj:j≤10) {i:Int} (i0:0≤i) (i1:i≤40):s63 N (j:Int) i=nd N j i:=by
 have hb:=zKs h1 h2 hj
 unfold s63 nd
 by_cases h:i=0
 ·rw [if_pos h,show (i == (0:Int))=true from beq_iff_eq.2 h,cond_true]
 ·rw [if_neg h, show (i == (0:Int)) = false from beq_eq_false_iff_ne.2 h, cond_false, zcd (x := N - 1) (by omega) (by omega), zcd (x := (j : Int) * (N - 1)) (by omega) (by omega), zcd (x := 1 + (j : Int) * (N - 1)) (by omega) (by omega), zcd (x := 1 + (j : Int) * (N - 1) + i) (by omega) (by omega), zcd (by omega) (by omega)]
  omega
def mvT (N:Int) (j:Nat) (t:Tie):Tie:=⟨nd N j t.From,nd N j t.To,t.Low,t.High⟩
def drT (N:Int) (d:Sl Int) (j i:Nat):Tie:=⟨nd N j i,nd N (j+1) i,-(d.get i),d.get i⟩
abbrev zBm (nets:Sl Net) (N:Int) (j:Nat) (i:Nat):Tie:=mvT N j ((nets.get j).Ties.get i)
def zBg (nets:Sl Net) (N:Int) (j:Nat) (v:Sl Tie):Sl Tie:=zeE (apL (zBm nets N j)) (nets.get j).Ties.len 0 v
def drS (N:Int) (d:Sl Int) (j:Nat) (v:Sl Tie):Sl Tie:=zeE (apL (drT N d j)) (N.toNat - 1) 1 v
def epN (nets:Sl Net) (N:Int):Sl Tie:=zeE (zBg nets N) nets.len 0 (⟨0,fun _=>default⟩:Sl Tie)
def epT (nets:Sl Net) (N:Int) (d:Sl Int):Sl Tie:=zeE (drS N d) (nets.len - 1) 0 (epN nets N)
theorem zmq {α:Type} (l:Nat→α):∀ (m i:Nat) (v:Sl α),(zeE (apL l) m i v).len=v.len+m:=by
 intro m
 induction m with
 | zero=>intro i v;rfl
 | succ m ih=>intro i v;exact (ih (i+1) (apL l i v)).trans (by show v.len+1+m=_;omega)
structure EpIn (nets : Sl Net) (d : Sl Int) (N : Int) : Prop where
  n1:1≤N
  n40:N≤40
  l1:1≤nets.len
  l10:nets.len≤10
  net:∀ j,j < nets.len→NetOk (nets.get j)∧(nets.get j).Nodes=N
  N0:(nets.get 0).Nodes=N
  dl:(d.len:Int)=N
  d0:d.get 0=0
  db:∀ i,i < d.len→0≤d.get i∧d.get i≤1000000000
abbrev zu8:Net×Int:=((⟨(0:Int),(⟨0,fun _=>default⟩:(Sl Tie))⟩:Net),(2:Int))
abbrev zMu:Net×Int:=((⟨(0:Int),(⟨0,fun _=>default⟩:(Sl Tie))⟩:Net),(3:Int))
def epE (out:Int) (v:Sl Tie):Net×Int:=cond (decide (out > (40:Int))) zMu (cond (decide ((v.len:Int) > (200:Int))) zMu ((⟨out,v⟩:Net),(0:Int)))
theorem zBh (nets:Sl Net) (N:Int) (h:∀ j,j < nets.len→(nets.get j).Ties.len≤200):(epN nets N).len≤200 * nets.len :=
 zvX (Inv:=fun i (v:Sl Tie)=>v.len≤200 * i) (n:=nets.len) (fun i v hi hv=>by
  have hv':v.len≤200 * i:=hv
  have:=h i hi
  show (zeE (apL (zBm nets N i)) (nets.get i).Ties.len 0 v).len≤_
  rw [zmq];omega) nets.len 0 _ (by omega) (Nat.le_refl _)
theorem zKa (nets:Sl Net) (d:Sl Int) (N:Int) (h:EpIn nets d N) (out:Int) (v:Sl Tie) (hv:v.len≤3000):zj9 nets d out v=true∧zj8 nets d out v=epE out (zeE (drS N d) (nets.len - 1) 0 v):=by
  have n1:=h.n1;have n40:=h.n40;have l1:=h.l1;have l10:=h.l10;have dl:=h.dl
  have inner:∀ (S12:Int→Sl Tie→Net×Int) (P12:Int→Sl Tie→Bool) (j:Nat) (v:Sl Tie),j < nets.len - 1→v.len≤4000 →
      zoy P12 nets d out (j:Int) (1:Int) (j:Int) v=P12 (w64 ((j:Int)+(1:Int))) (drS N d j v)∧zox S12 nets d out (j:Int) (1:Int) (j:Int) v=S12 (w64 ((j:Int)+(1:Int))) (drS N d j v):=by
    intro S12 P12 j v hj hv
    have hw:w64 ((j:Int)+(1:Int))=((j+1:Nat):Int):=by rw [zcd (by omega) (by omega)];omega
    have hl := zex (step := (apL (drT N d j))) (E := fun v => S12 (w64 ((j : Int) + (1:Int))) v) (EP := fun v => P12 (w64 ((j : Int) + (1:Int))) v) (Inv := fun i (v : Sl Tie) => v.len ≤ 4000 + i) (a := 1) (n := N.toNat) (lpS := fun k v i => zfz S12 nets d out k (j : Int) i (j : Int) v) (lpP := fun k v i => zfA P12 nets d out k (j : Int) i (j : Int) v)
        (fun k i v hai hi hv=>by
          show zgU S12 nets d out (zfz S12 nets d out k) (j:Int) (i:Int) (j:Int) v=zfz S12 nets d out k (j:Int) (w64 ((i:Int)+(1:Int))) (j:Int) ((apL (drT N d j)) i v)
          generalize zfz S12 nets d out k=S
          have hv':v.len≤4000+i:=hv
          have hN0:=h.N0
          unfold zgU
          rw [decide_eq_true (show (i:Int) < (nets.get 0).Nodes by omega),cond_true,Int.toNat_natCast,hw,h.N0,zjK n1 n40 (j:=j) (by omega) (by omega) (by omega),zjK n1 n40 (j:=j+1) (by omega) (by omega) (by omega),zcd (x:=0 - d.get i) (by have:=h.db i (by omega);omega) (by have:=h.db i (by omega);omega),show (0:Int) - d.get i = -(d.get i) by omega]
          rfl)
        (fun k v=>by
          show zgU S12 nets d out (zfz S12 nets d out k) (j:Int) ((N.toNat:Nat):Int) (j:Int) v=_
          have hN0:=h.N0
          unfold zgU
          rw [decide_eq_false (show ¬ ((N.toNat:Nat):Int) < (nets.get 0).Nodes by omega),cond_false]
          )
        (fun k i v hai hi hv=>by
          show zgV P12 nets d out (zfA P12 nets d out k) (j:Int) (i:Int) (j:Int) v=zfA P12 nets d out k (j:Int) (w64 ((i:Int)+(1:Int))) (j:Int) ((apL (drT N d j)) i v)
          generalize zfA P12 nets d out k=S
          have hv':v.len≤4000+i:=hv
          have hN0:=h.N0
          unfold zgV
          rw [decide_eq_true (show (i:Int) < (nets.get 0).Nodes by omega),cond_true,Int.toNat_natCast,hw,h.N0,zjK n1 n40 (j:=j) (by omega) (by omega) (by omega),zjK n1 n40 (j:=j+1) (by omega) (by omega) (by omega),zcd (x:=0 - d.get i) (by have:=h.db i (by omega);omega) (by have:=h.db i (by omega);omega),show (0:Int) - d.get i = -(d.get i) by omega,decide_eq_true (show 0≤(i:Int)∧(i:Int) < (d.len:Int) by omega),decide_eq_true (show (v.len+1) * 32≤140737488355328∧v.len+1≤9223372036854775807 by omega)]
          rfl)
        (fun k v=>by
          show zgV P12 nets d out (zfA P12 nets d out k) (j:Int) ((N.toNat:Nat):Int) (j:Int) v=_
          have hN0:=h.N0
          unfold zgV
          rw [decide_eq_false (show ¬ ((N.toNat:Nat):Int) < (nets.get 0).Nodes by omega),cond_false]
          )
        (fun i v _ _ hh=>by show v.len+1≤4000+(i+1);have hh':v.len≤4000+i:=hh;omega) (by omega) (by omega) v (by show v.len≤4000+1;omega)
    exact hl
  have hl := zex (step := (drS N d)) (E := fun v => zow out v) (EP := fun _ => true) (Inv := fun i (v : Sl Tie) => v.len ≤ 3000 + 50 * i) (a := 0) (n := (nets.len - 1)) (lpS := fun k v i => zfB nets d out k i v) (lpP := fun k v i => zfC nets d out k i v)
    (fun k i v hai hi hv=>by
      show zgW nets d out (zfB nets d out k) (i:Int) v=zfB nets d out k (w64 ((i:Int)+(1:Int))) ((drS N d) i v)
      generalize zfB nets d out k=S
      have hv':v.len≤3000+50 * i:=hv
      have hwl:w64 ((nets.len:Int) - (1:Int))=((nets.len - 1:Nat):Int):=by rw [zcd (by omega) (by omega)];omega
      unfold zgW
      rw [decide_eq_true (show (i:Int) < (w64 ((nets.len:Int) - (1:Int))) by omega),cond_true]
      exact (inner S (fun _ _=>true) i v hi (by omega)).2)
    (fun k v=>by
      show zgW nets d out (zfB nets d out k) (((nets.len - 1):Nat):Int) v=_
      have hwl:w64 ((nets.len:Int) - (1:Int))=((nets.len - 1:Nat):Int):=by rw [zcd (by omega) (by omega)];omega
      unfold zgW
      rw [decide_eq_false (show ¬ (((nets.len - 1):Nat):Int) < (w64 ((nets.len:Int) - (1:Int))) by omega),cond_false]
      )
    (fun k i v hai hi hv=>by
      show zgX nets d out (zfC nets d out k) (i:Int) v=zfC nets d out k (w64 ((i:Int)+(1:Int))) ((drS N d) i v)
      generalize zfC nets d out k=S
      have hv':v.len≤3000+50 * i:=hv
      have hwl:w64 ((nets.len:Int) - (1:Int))=((nets.len - 1:Nat):Int):=by rw [zcd (by omega) (by omega)];omega
      unfold zgX
      rw [decide_eq_true (show (i:Int) < (w64 ((nets.len:Int) - (1:Int))) by omega),cond_true]
      exact (inner (fun _ _=>default) S i v hi (by omega)).1)
    (fun k v=>by
      show zgX nets d out (zfC nets d out k) (((nets.len - 1):Nat):Int) v=_
      have hwl:w64 ((nets.len:Int) - (1:Int))=((nets.len - 1:Nat):Int):=by rw [zcd (by omega) (by omega)];omega
      unfold zgX
      rw [decide_eq_false (show ¬ (((nets.len - 1):Nat):Int) < (w64 ((nets.len:Int) - (1:Int))) by omega),cond_false]
      )
    (fun i v _ _ hh=>by show (zeE (apL (drT N d i)) (N.toNat - 1) 1 v).len≤_;rw [zmq];have hh':v.len≤3000+50 * i:=hh;omega) (Nat.zero_le _) (by omega) v (by show v.len≤3000+50 * 0;omega)
  exact hl
theorem zD4 (nets:Sl Net) (d:Sl Int) (N:Int) (h:EpIn nets d N):zme nets d=true∧zmd nets d=epE (1+nets.len * (N - 1)) (epT nets N d):=by
  have n1:=h.n1;have n40:=h.n40;have l1:=h.l1;have l10:=h.l10;have dl:=h.dl
  have hjn:=zKs n1 n40 l10
  have inner:∀ (S9:Int→Sl Tie→Net×Int) (P9:Int→Sl Tie→Bool) (j:Nat) (v:Sl Tie),j < nets.len→v.len≤2500 →
      zoA P9 nets d (j:Int) (j:Int) (nets.get j).Ties ((nets.get j).Ties.len:Int) (0:Int) v=P9 (w64 ((j:Int)+(1:Int))) (zBg nets N j v)∧zoz S9 nets d (j:Int) (j:Int) (nets.get j).Ties ((nets.get j).Ties.len:Int) (0:Int) v=S9 (w64 ((j:Int)+(1:Int))) (zBg nets N j v):=by
    intro S9 P9 j v hj hv
    obtain ⟨hn,hnN⟩:=h.net j hj
    have hnl:=hn.len
    have hl := zex (step := (apL (zBm nets N j))) (E := fun v => S9 (w64 ((j : Int) + (1:Int))) v) (EP := fun v => P9 (w64 ((j : Int) + (1:Int))) v) (Inv := fun i (v : Sl Tie) => v.len ≤ 2500 + i) (a := 0) (n := (nets.get j).Ties.len) (lpS := fun k v i => zfD S9 nets d k (j : Int) (j : Int) (nets.get j).Ties ((nets.get j).Ties.len : Int) i v) (lpP := fun k v i => zfE P9 nets d k (j : Int) (j : Int) (nets.get j).Ties ((nets.get j).Ties.len : Int) i v)
        (fun k i v hai hi hv=>by
          show zgY S9 nets d (zfD S9 nets d k) (j:Int) (j:Int) (nets.get j).Ties ((nets.get j).Ties.len:Int) (i:Int) v=zfD S9 nets d k (j:Int) (j:Int) (nets.get j).Ties ((nets.get j).Ties.len:Int) (w64 ((i:Int)+(1:Int))) ((apL (zBm nets N j)) i v)
          generalize zfD S9 nets d k=S
          have hv':v.len≤2500+i:=hv
          have ht:=hn.tie i hi
          have:=ht.f1;have:=ht.t1
          unfold zgY
          rw [decide_eq_true (show (i:Int) < ((nets.get j).Ties.len:Int) by omega),cond_true,Int.toNat_natCast,h.N0,zjK n1 n40 (j:=j) (by omega) ht.f0 (by omega),zjK n1 n40 (j:=j) (by omega) ht.t0 (by omega)]
          rfl)
        (fun k v=>by
          show zgY S9 nets d (zfD S9 nets d k) (j:Int) (j:Int) (nets.get j).Ties ((nets.get j).Ties.len:Int) (((nets.get j).Ties.len:Nat):Int) v=_
          unfold zgY
          rw [decide_eq_false (show ¬ (((nets.get j).Ties.len:Nat):Int) < ((nets.get j).Ties.len:Int) by omega),cond_false]
          )
        (fun k i v hai hi hv=>by
          show zgZ P9 nets d (zfE P9 nets d k) (j:Int) (j:Int) (nets.get j).Ties ((nets.get j).Ties.len:Int) (i:Int) v=zfE P9 nets d k (j:Int) (j:Int) (nets.get j).Ties ((nets.get j).Ties.len:Int) (w64 ((i:Int)+(1:Int))) ((apL (zBm nets N j)) i v)
          generalize zfE P9 nets d k=S
          have hv':v.len≤2500+i:=hv
          have ht:=hn.tie i hi
          have:=ht.f1;have:=ht.t1
          unfold zgZ
          rw [decide_eq_true (show (i:Int) < ((nets.get j).Ties.len:Int) by omega),cond_true,Int.toNat_natCast,h.N0,zjK n1 n40 (j:=j) (by omega) ht.f0 (by omega),zjK n1 n40 (j:=j) (by omega) ht.t0 (by omega),decide_eq_true (show 0≤(i:Int)∧(i:Int) < ((nets.get j).Ties.len:Int) by omega),decide_eq_true (show (v.len+1) * 32≤140737488355328∧v.len+1≤9223372036854775807 by omega)]
          rfl)
        (fun k v=>by
          show zgZ P9 nets d (zfE P9 nets d k) (j:Int) (j:Int) (nets.get j).Ties ((nets.get j).Ties.len:Int) (((nets.get j).Ties.len:Nat):Int) v=_
          unfold zgZ
          rw [decide_eq_false (show ¬ (((nets.get j).Ties.len:Nat):Int) < ((nets.get j).Ties.len:Int) by omega),cond_false]
          )
        (fun i v _ _ hh=>by show v.len+1≤2500+(i+1);have hh':v.len≤2500+i:=hh;omega) (Nat.zero_le _) (by omega) v (by show v.len≤2500+0;omega)
    exact hl
  have hout:w64 ((1:Int)+w64 ((nets.len:Int) * w64 ((nets.get 0).Nodes - (1:Int))))=1+nets.len * (N - 1):=by
    rw [h.N0,zcd (x:=N - 1) (by omega) (by omega),zcd (x:=(nets.len:Int) * (N - 1)) (by omega) (by omega),zcd (by omega) (by omega)]
  have hl := zex (step := (zBg nets N)) (E := fun v => zj8 nets d (1 + nets.len * (N - 1)) v) (EP := fun v => zj9 nets d (1 + nets.len * (N - 1)) v) (Inv := fun i (v : Sl Tie) => v.len ≤ 200 * i) (a := 0) (n := nets.len) (lpS := fun k v i => zhu nets d k i v) (lpP := fun k v i => zhv nets d k i v)
    (fun k i v hai hi hv=>by
      show ziY nets d (zhu nets d k) (i:Int) v=zhu nets d k (w64 ((i:Int)+(1:Int))) ((zBg nets N) i v)
      generalize zhu nets d k=S
      have hv':v.len≤200 * i:=hv
      unfold ziY
      rw [decide_eq_true (show (i:Int) < (nets.len:Int) by omega),cond_true,Int.toNat_natCast]
      exact (inner S (fun _ _=>true) i v hi (by omega)).2)
    (fun k v=>by
      show ziY nets d (zhu nets d k) ((nets.len:Nat):Int) v=_
      unfold ziY
      rw [decide_eq_false (show ¬ ((nets.len:Nat):Int) < (nets.len:Int) by omega),cond_false]
      rw [hout])
    (fun k i v hai hi hv=>by
      show ziZ nets d (zhv nets d k) (i:Int) v=zhv nets d k (w64 ((i:Int)+(1:Int))) ((zBg nets N) i v)
      generalize zhv nets d k=S
      have hv':v.len≤200 * i:=hv
      unfold ziZ
      rw [decide_eq_true (show (i:Int) < (nets.len:Int) by omega),cond_true,Int.toNat_natCast,decide_eq_true (show 0≤(i:Int)∧(i:Int) < (nets.len:Int) by omega),Bool.true_and]
      exact (inner (fun _ _=>default) S i v hi (by omega)).1)
    (fun k v=>by
      show ziZ nets d (zhv nets d k) ((nets.len:Nat):Int) v=_
      unfold ziZ
      rw [decide_eq_false (show ¬ ((nets.len:Nat):Int) < (nets.len:Int) by omega),cond_false]
      rw [hout])
    (fun i v _ hi hh=>by show (zeE (apL (zBm nets N i)) (nets.get i).Ties.len 0 v).len≤_;rw [zmq];have hh':v.len≤200 * i:=hh;have:=(h.net i hi).1.len;omega) (Nat.zero_le _) (by omega) (⟨0,(fun _=>default)⟩:Sl Tie) (Nat.le_refl _)
  have hnl:=zBh nets N (fun j hj=>(h.net j hj).1.len)
  obtain ⟨e1,e2⟩:=zKa nets d N h (1+nets.len * (N - 1)) (epN nets N) (by omega)
  exact ⟨hl.1.trans e1,hl.2.trans e2⟩
theorem zKb (nets:Sl Net) (d:Sl Int) (N:Int) (h:EpIn nets d N) (out:Int) (v:Sl Tie) (hv:v.len≤3000):zoT nets d out v=true∧zoS nets d out v=epE out (zeE (drS N d) (nets.len - 1) 0 v):=by
  have n1:=h.n1;have n40:=h.n40;have l1:=h.l1;have l10:=h.l10;have dl:=h.dl
  have inner:∀ (S10:Int→Sl Tie→Net×Int) (P10:Int→Sl Tie→Bool) (j:Nat) (v:Sl Tie),j < nets.len - 1→v.len≤4000 →
      zoP P10 nets d out (j:Int) (1:Int) v=P10 (w64 ((j:Int)+(1:Int))) (drS N d j v)∧zoO S10 nets d out (j:Int) (1:Int) v=S10 (w64 ((j:Int)+(1:Int))) (drS N d j v):=by
    intro S10 P10 j v hj hv
    have hw:w64 ((j:Int)+(1:Int))=((j+1:Nat):Int):=by rw [zcd (by omega) (by omega)];omega
    have hl := zex (step := (apL (drT N d j))) (E := fun v => S10 (w64 ((j : Int) + (1:Int))) v) (EP := fun v => P10 (w64 ((j : Int) + (1:Int))) v) (Inv := fun i (v : Sl Tie) => v.len ≤ 4000 + i) (a := 1) (n := N.toNat) (lpS := fun k v i => zfG S10 nets d out k (j : Int) i v) (lpP := fun k v i => zfH P10 nets d out k (j : Int) i v)
        (fun k i v hai hi hv=>by
          show zg0 S10 nets d out (zfG S10 nets d out k) (j:Int) (i:Int) v=zfG S10 nets d out k (j:Int) (w64 ((i:Int)+(1:Int))) ((apL (drT N d j)) i v)
          generalize zfG S10 nets d out k=S
          have hv':v.len≤4000+i:=hv
          have hN0:=h.N0
          unfold zg0
          rw [decide_eq_true (show (i:Int) < (nets.get 0).Nodes by omega),cond_true,Int.toNat_natCast,hw,h.N0,zjL n1 n40 (j:=j) (by omega) (by omega) (by omega),zjL n1 n40 (j:=j+1) (by omega) (by omega) (by omega),zcd (x:=0 - d.get i) (by have:=h.db i (by omega);omega) (by have:=h.db i (by omega);omega),show (0:Int) - d.get i = -(d.get i) by omega]
          rfl)
        (fun k v=>by
          show zg0 S10 nets d out (zfG S10 nets d out k) (j:Int) ((N.toNat:Nat):Int) v=_
          have hN0:=h.N0
          unfold zg0
          rw [decide_eq_false (show ¬ ((N.toNat:Nat):Int) < (nets.get 0).Nodes by omega),cond_false]
          )
        (fun k i v hai hi hv=>by
          show zg1 P10 nets d out (zfH P10 nets d out k) (j:Int) (i:Int) v=zfH P10 nets d out k (j:Int) (w64 ((i:Int)+(1:Int))) ((apL (drT N d j)) i v)
          generalize zfH P10 nets d out k=S
          have hv':v.len≤4000+i:=hv
          have hN0:=h.N0
          unfold zg1
          rw [decide_eq_true (show (i:Int) < (nets.get 0).Nodes by omega),cond_true,Int.toNat_natCast,hw,h.N0,zjL n1 n40 (j:=j) (by omega) (by omega) (by omega),zjL n1 n40 (j:=j+1) (by omega) (by omega) (by omega),zcd (x:=0 - d.get i) (by have:=h.db i (by omega);omega) (by have:=h.db i (by omega);omega),show (0:Int) - d.get i = -(d.get i) by omega,decide_eq_true (show 0≤(i:Int)∧(i:Int) < (d.len:Int) by omega),decide_eq_true (show (v.len+1) * 32≤140737488355328∧v.len+1≤9223372036854775807 by omega)]
          rfl)
        (fun k v=>by
          show zg1 P10 nets d out (zfH P10 nets d out k) (j:Int) ((N.toNat:Nat):Int) v=_
          have hN0:=h.N0
          unfold zg1
          rw [decide_eq_false (show ¬ ((N.toNat:Nat):Int) < (nets.get 0).Nodes by omega),cond_false]
          )
        (fun i v _ _ hh=>by show v.len+1≤4000+(i+1);have hh':v.len≤4000+i:=hh;omega) (by omega) (by omega) v (by show v.len≤4000+1;omega)
    exact hl
  have hl := zex (step := (drS N d)) (E := fun v => zoN out v) (EP := fun _ => true) (Inv := fun i (v : Sl Tie) => v.len ≤ 3000 + 50 * i) (a := 0) (n := (nets.len - 1)) (lpS := fun k v i => zfK nets d out k i v) (lpP := fun k v i => zfL nets d out k i v)
    (fun k i v hai hi hv=>by
      show zg4 nets d out (zfK nets d out k) (i:Int) v=zfK nets d out k (w64 ((i:Int)+(1:Int))) ((drS N d) i v)
      generalize zfK nets d out k=S
      have hv':v.len≤3000+50 * i:=hv
      have hwl:w64 ((i:Int)+(1:Int))=(i:Int)+1:=zcd (by omega) (by omega)
      unfold zg4
      rw [decide_eq_true (show (w64 ((i:Int)+(1:Int))) < (nets.len:Int) by omega),cond_true]
      exact (inner S (fun _ _=>true) i v hi (by omega)).2)
    (fun k v=>by
      show zg4 nets d out (zfK nets d out k) (((nets.len - 1):Nat):Int) v=_
      have hwl:w64 (((nets.len - 1:Nat):Int)+(1:Int))=((nets.len - 1:Nat):Int)+1:=zcd (by omega) (by omega)
      unfold zg4
      rw [decide_eq_false (show ¬ (w64 ((((nets.len - 1):Nat):Int)+(1:Int))) < (nets.len:Int) by omega),cond_false]
      )
    (fun k i v hai hi hv=>by
      show zg5 nets d out (zfL nets d out k) (i:Int) v=zfL nets d out k (w64 ((i:Int)+(1:Int))) ((drS N d) i v)
      generalize zfL nets d out k=S
      have hv':v.len≤3000+50 * i:=hv
      have hwl:w64 ((i:Int)+(1:Int))=(i:Int)+1:=zcd (by omega) (by omega)
      unfold zg5
      rw [decide_eq_true (show (w64 ((i:Int)+(1:Int))) < (nets.len:Int) by omega),cond_true]
      exact (inner (fun _ _=>default) S i v hi (by omega)).1)
    (fun k v=>by
      show zg5 nets d out (zfL nets d out k) (((nets.len - 1):Nat):Int) v=_
      have hwl:w64 (((nets.len - 1:Nat):Int)+(1:Int))=((nets.len - 1:Nat):Int)+1:=zcd (by omega) (by omega)
      unfold zg5
      rw [decide_eq_false (show ¬ (w64 ((((nets.len - 1):Nat):Int)+(1:Int))) < (nets.len:Int) by omega),cond_false]
      )
    (fun i v _ _ hh=>by show (zeE (apL (drT N d i)) (N.toNat - 1) 1 v).len≤_;rw [zmq];have hh':v.len≤3000+50 * i:=hh;omega) (Nat.zero_le _) (by omega) v (by show v.len≤3000+50 * 0;omega)
  exact hl
end Go.Proofs
namespace Go.Proofs
open Go Go.Pm
set_option maxRecDepth 100000
set_option linter.unusedVariables false
theorem zD5 (nets : Sl Net) (d : Sl Int) (N : Int) (n1 : 1 ≤ N) (n40 : N ≤ 40) (hN0 : (nets.get 0).Nodes = N) (out : Int) (l10 : nets.len ≤ 10) (S6 : Int → Int → Sl Tie → Net × Int) (P6 : Int → Int → Sl Tie → Bool) (j : Nat) (v : Sl Tie) (hj : j < nets.len) (hn : NetOk (nets.get j)) (hnN : (nets.get j).Nodes = N) (hv : v.len ≤ 2500) :
      zoR P6 nets d out (j:Int) v=P6 (w64 ((j:Int)+(1:Int))) out (zBg nets N j v)∧zoQ S6 nets d out (j:Int) v=S6 (w64 ((j:Int)+(1:Int))) out (zBg nets N j v):=by
  have hnl:=hn.len
  have hl := zex (step := (apL (zBm nets N j))) (E := fun v => S6 (w64 ((j : Int) + (1:Int))) out v) (EP := fun v => P6 (w64 ((j : Int) + (1:Int))) out v) (Inv := fun i (v : Sl Tie) => v.len ≤ 2500 + i) (a := 0) (n := (nets.get j).Ties.len) (lpS := fun k v i => zfI S6 nets d out k (j : Int) i v) (lpP := fun k v i => zfJ P6 nets d out k (j : Int) i v)
    (fun k i v hai hi hv=>by
      show zg2 S6 nets d out (zfI S6 nets d out k) (j:Int) (i:Int) v=zfI S6 nets d out k (j:Int) (w64 ((i:Int)+(1:Int))) ((apL (zBm nets N j)) i v)
      generalize zfI S6 nets d out k=S
      have hv':v.len≤2500+i:=hv
      have ht:=hn.tie i hi
      have:=ht.f1;have:=ht.t1
      unfold zg2 zoL
      try simp only [Int.toNat_natCast]
      rw [decide_eq_true (show (i:Int) < ((nets.get j).Ties.len:Int) by omega),cond_true,hN0,zjL n1 n40 (j:=j) (by omega) ht.f0 (by omega),zjL n1 n40 (j:=j) (by omega) ht.t0 (by omega)]
      rfl)
    (fun k v=>by
      show zg2 S6 nets d out (zfI S6 nets d out k) (j:Int) (((nets.get j).Ties.len:Nat):Int) v=_
      unfold zg2
      try simp only [Int.toNat_natCast]
      rw [decide_eq_false (show ¬ (((nets.get j).Ties.len:Nat):Int) < ((nets.get j).Ties.len:Int) by omega),cond_false]
      )
    (fun k i v hai hi hv=>by
      show zg3 P6 nets d out (zfJ P6 nets d out k) (j:Int) (i:Int) v=zfJ P6 nets d out k (j:Int) (w64 ((i:Int)+(1:Int))) ((apL (zBm nets N j)) i v)
      generalize zfJ P6 nets d out k=S
      have hv':v.len≤2500+i:=hv
      have ht:=hn.tie i hi
      have:=ht.f1;have:=ht.t1
      unfold zg3 zoM
      try simp only [Int.toNat_natCast]
      rw [decide_eq_true (show (i:Int) < ((nets.get j).Ties.len:Int) by omega),cond_true,hN0,zjL n1 n40 (j:=j) (by omega) ht.f0 (by omega),zjL n1 n40 (j:=j) (by omega) ht.t0 (by omega),decide_eq_true (show 0≤(j:Int)∧(j:Int) < (nets.len:Int) by omega),decide_eq_true (show 0≤(i:Int)∧(i:Int) < ((nets.get j).Ties.len:Int) by omega),decide_eq_true (show (v.len+1) * 32≤140737488355328∧v.len+1≤9223372036854775807 by omega)]
      rfl)
    (fun k v=>by
      show zg3 P6 nets d out (zfJ P6 nets d out k) (j:Int) (((nets.get j).Ties.len:Nat):Int) v=_
      unfold zg3
      try simp only [Int.toNat_natCast]
      rw [decide_eq_false (show ¬ (((nets.get j).Ties.len:Nat):Int) < ((nets.get j).Ties.len:Int) by omega),cond_false]
      try simp only [Int.toNat_natCast]
      rw [decide_eq_true (show 0≤(j:Int)∧(j:Int) < (nets.len:Int) by omega)];rfl)
    (fun i v _ _ hh=>by show v.len+1≤2500+(i+1);have hh':v.len≤2500+i:=hh;omega) (Nat.zero_le _) (by omega) v (by show v.len≤2500+0;omega)
  exact hl
def zfN (nets:Sl Net) (j:Nat):Bool:=s67 (nets.get j) && ((nets.get j).Nodes == (nets.get 0).Nodes)
theorem zir {nets:Sl Net} {j:Nat} (h:(nets.get j).Ties.len≤210):zfN nets j=true↔NetOk (nets.get j)∧(nets.get j).Nodes=(nets.get 0).Nodes:=by
 unfold zfN
 rw [Bool.and_eq_true,(zBe _ (by omega)).2,beq_iff_eq]
theorem zD6 (nets : Sl Net) (d : Sl Int) (hl1 : 1 ≤ nets.len) (hl10 : nets.len ≤ 10) (hT : ∀ j, j < nets.len → (nets.get j).Ties.len ≤ 210) (h0 : NetOk (nets.get 0)) :
    ((∀ j,j < nets.len→zfN nets j=true)→EpIn nets d (nets.get 0).Nodes→zgH nets d=true∧zgG nets d=epE (1+nets.len * ((nets.get 0).Nodes - 1)) (epT nets (nets.get 0).Nodes d)) ∧
    ((¬ ∀ j,j < nets.len→zfN nets j=true)→zgH nets d=true∧zgG nets d=zu8):=by
  have n1:=h0.n1;have n40:=h0.n40
  have hjn:=zKs n1 n40 hl10
  generalize hN0:(nets.get 0).Nodes=N at *
  have hout:w64 ((1:Int)+w64 ((nets.len:Int) * w64 ((nets.get 0).Nodes - (1:Int))))=1+nets.len * (N - 1):=by
    rw [hN0,zcd (x:=N - 1) (by omega) (by omega),zcd (x:=(nets.len:Int) * (N - 1)) (by omega) (by omega),zcd (by omega) (by omega)]
  have h := zC3 (good := zfN nets) (step := zBg nets N) (bad := zu8) (E := fun v => zoS nets d (1 + nets.len * (N - 1)) v) (EP := fun v => zoT nets d (1 + nets.len * (N - 1)) v) (Inv := fun i (v : Sl Tie) => v.len ≤ 210 * i) (n := nets.len)
    (lpS:=fun k v i=>zhx nets d k i (1+nets.len * (N - 1)) v) (lpP:=fun k v i=>zhy nets d k i (1+nets.len * (N - 1)) v)
    (fun k i v hi hv=>by
      have hv':v.len≤210 * i:=hv
      show zjc nets d (zhx nets d k) (i:Int) (1+nets.len * (N - 1)) v=cond (zfN nets i) (zhx nets d k (w64 ((i:Int)+(1:Int))) (1+nets.len * (N - 1)) (zBg nets N i v)) zu8
      generalize zhx nets d k=S
      have hb:=(zBf (nets.get i) (by have:=hT i hi;omega)).2
      unfold zjc zoU
      rw [decide_eq_true (show (i:Int) < (nets.len:Int) by omega),cond_true,Int.toNat_natCast,hb]
      cases hg:zfN nets i
      · unfold zfN at hg
        show cond (!(s67 (nets.get i))) (cond true zu8 _) (cond (!((nets.get i).Nodes == (nets.get 0).Nodes)) zu8 _)=zu8
        cases hs:s67 (nets.get i)
        · rfl
        · rw [hs,Bool.true_and] at hg;rw [hg];rfl
      · obtain ⟨g1, g2⟩ := (zir (hT i hi)).1 hg
        have hin:=(zD5 nets d N n1 n40 hN0 (1+nets.len * (N - 1)) hl10 S (fun _ _ _=>true) i v hi g1 (g2.trans hN0) (by omega)).2
        unfold zfN at hg
        rw [Bool.and_eq_true] at hg
        show cond (!(s67 (nets.get i))) _ (cond (!((nets.get i).Nodes == (nets.get 0).Nodes)) zu8 (zoQ S nets d (1+nets.len * (N - 1)) (i:Int) v))=_
        rw [hg.1,hg.2,hin];rfl)
    (fun k v=>by
      show zjc nets d (zhx nets d k) (nets.len:Int) (1+nets.len * (N - 1)) v=_
      unfold zjc
      rw [decide_eq_false (show ¬ (nets.len:Int) < (nets.len:Int) by omega),cond_false])
    (fun k i v hi hv=>by
      have hv':v.len≤210 * i:=hv
      show zjd nets d (zhy nets d k) (i:Int) (1+nets.len * (N - 1)) v=cond (zfN nets i) (zhy nets d k (w64 ((i:Int)+(1:Int))) (1+nets.len * (N - 1)) (zBg nets N i v)) true
      generalize zhy nets d k=S
      obtain ⟨hp,hb⟩:=zBf (nets.get i) (by have:=hT i hi;omega)
      unfold zjd zoV
      rw [decide_eq_true (show (i:Int) < (nets.len:Int) by omega),cond_true,Int.toNat_natCast,hb,hp,decide_eq_true (show 0≤(i:Int)∧(i:Int) < (nets.len:Int) by omega)]
      cases hg:zfN nets i
      · unfold zfN at hg
        show (true && (decide (true=true) && cond (!(s67 (nets.get i))) (cond true true _) (true && cond (!((nets.get i).Nodes == (nets.get 0).Nodes)) true _)))=true
        cases hs:s67 (nets.get i)
        · rfl
        · rw [hs,Bool.true_and] at hg;rw [hg];rfl
      · obtain ⟨g1, g2⟩ := (zir (hT i hi)).1 hg
        have hin:=(zD5 nets d N n1 n40 hN0 (1+nets.len * (N - 1)) hl10 (fun _ _ _=>default) S i v hi g1 (g2.trans hN0) (by omega)).1
        unfold zfN at hg
        rw [Bool.and_eq_true] at hg
        show (true && (decide (true=true) && cond (!(s67 (nets.get i))) _ (true && cond (!((nets.get i).Nodes == (nets.get 0).Nodes)) true (zoR S nets d (1+nets.len * (N - 1)) (i:Int) v))))=_
        rw [hg.1,hg.2,hin];rfl)
    (fun k v=>by
      show zjd nets d (zhy nets d k) (nets.len:Int) (1+nets.len * (N - 1)) v=_
      unfold zjd
      rw [decide_eq_false (show ¬ (nets.len:Int) < (nets.len:Int) by omega),cond_false])
    (fun i v hi hh=>by
      have hh':v.len≤210 * i:=hh
      have:=hT i hi
      show (zeE (apL (zBm nets N i)) (nets.get i).Ties.len 0 v).len≤_
      rw [zmq];omega) (by omega) (⟨0,fun _=>default⟩:Sl Tie) (Nat.le_refl _)
  unfold zgH zgG ztw ztv
  rw [hout]
  refine ⟨fun hg hE=>?_,fun hg=>h.2 hg⟩
  obtain ⟨k1,k2⟩:=h.1 hg
  have hnl:=zBh nets N (fun j hj=>(hE.net j hj).1.len)
  obtain ⟨e1,e2⟩:=zKb nets d N hE (1+nets.len * (N - 1)) (epN nets N) (by omega)
  exact ⟨k1.trans e1,k2.trans e2⟩
def goodD (d:Sl Int) (i:Nat):Bool:=decide (0≤d.get i∧d.get i≤1000000000)
theorem zL2 (nets:Sl Net) (d:Sl Int) (hd:d.len≤50) (h8:(∀ i,i < d.len→goodD d i=true)→zme nets d=true):zoD nets d=true∧((∀ i,i < d.len→goodD d i=true)→zmf nets d=zmd nets d)∧((¬ ∀ i,i < d.len→goodD d i=true)→zmf nets d=zu8):=by
  have hl := zmp (good := goodD d) (bad := zu8) (fin := zmd nets d) (finP := zme nets d) (n := d.len) (lpS := zi2 nets d) (lpP := zi3 nets d)
    (fun k i hi=>by
      show zi0 nets d (zi2 nets d k) (i:Int)=_
      generalize zi2 nets d k=S
      unfold zi0 zta goodD
      rw [decide_eq_true (show (i:Int) < (d.len:Int) by omega),cond_true,Int.toNat_natCast,znf]
      cases decide (0≤d.get i∧d.get i≤1000000000) <;> rfl)
    (fun k=>by
      show zi0 nets d (zi2 nets d k) (d.len:Int)=_
      unfold zi0
      rw [decide_eq_false (show ¬ (d.len:Int) < (d.len:Int) by omega),cond_false])
    (fun k i hi=>by
      show zi1 nets d (zi3 nets d k) (i:Int)=_
      generalize zi3 nets d k=S
      unfold zi1 ztb goodD
      rw [decide_eq_true (show (i:Int) < (d.len:Int) by omega),cond_true,Int.toNat_natCast,znf,decide_eq_true (show 0≤(i:Int)∧(i:Int) < (d.len:Int) by omega)]
      cases decide (0≤d.get i∧d.get i≤1000000000) <;> rfl)
    (fun k=>by
      show zi1 nets d (zi3 nets d k) (d.len:Int)=_
      unfold zi1
      rw [decide_eq_false (show ¬ (d.len:Int) < (d.len:Int) by omega),cond_false]) (by omega)
  unfold zoD zmf ztd ztc
  by_cases hg:∀ i,i < d.len→goodD d i=true
  · obtain ⟨k1, k2⟩ := hl.1 hg
    exact ⟨k1.trans (h8 hg),fun _=>k2,fun h=>absurd hg h⟩
  · obtain ⟨k1, k2⟩ := hl.2 hg
    exact ⟨k1,fun h=>absurd h hg,fun _=>k2⟩
theorem zKc (nets:Sl Net) (d:Sl Int) (hl1:1≤nets.len) (hd:d.len≤50) (hdn:(d.len:Int)=(nets.get 0).Nodes) (h5:zgH nets d=true):zmk nets d=true∧((∀ i,i < d.len→goodD d i=true)→zmj nets d=zgG nets d)∧((¬ ∀ i,i < d.len→goodD d i=true)→zmj nets d=zu8):=by
  have hl := zmp (good := goodD d) (bad := zu8) (fin := zgG nets d) (finP := zgH nets d) (n := d.len) (lpS := zev nets d) (lpP := zew nets d)
    (fun k i hi=>by
      show ze4 nets d (zev nets d k) (i:Int)=_
      generalize zev nets d k=S
      unfold ze4 zoX goodD
      rw [decide_eq_true (show (i:Int) < (nets.get 0).Nodes by omega),cond_true,Int.toNat_natCast,zng]
      cases decide (0≤d.get i∧d.get i≤1000000000) <;> rfl)
    (fun k=>by
      show ze4 nets d (zev nets d k) (d.len:Int)=_
      unfold ze4
      rw [decide_eq_false (show ¬ (d.len:Int) < (nets.get 0).Nodes by omega),cond_false])
    (fun k i hi=>by
      show ze5 nets d (zew nets d k) (i:Int)=_
      generalize zew nets d k=S
      unfold ze5 zoY goodD
      rw [decide_eq_true (show (i:Int) < (nets.get 0).Nodes by omega),cond_true,Int.toNat_natCast,zng,decide_eq_true (show 0≤(i:Int)∧(i:Int) < (d.len:Int) by omega)]
      cases decide (0≤d.get i∧d.get i≤1000000000) <;> rfl)
    (fun k=>by
      show ze5 nets d (zew nets d k) (d.len:Int)=_
      unfold ze5
      rw [decide_eq_false (show ¬ (d.len:Int) < (nets.get 0).Nodes by omega),cond_false]) (by omega)
  unfold zmk zmj zoZ ztx
  rw [decide_eq_true (show 0≤(0:Int)∧(0:Int) < (nets.len:Int) by omega),Bool.true_and]
  by_cases hg:∀ i,i < d.len→goodD d i=true
  · obtain ⟨k1, k2⟩ := hl.1 hg
    exact ⟨k1.trans h5,fun _=>k2,fun h=>absurd hg h⟩
  · obtain ⟨k1, k2⟩ := hl.2 hg
    exact ⟨k1,fun h=>absurd h hg,fun _=>k2⟩
theorem zBi {nets:Sl Net} {d:Sl Int} (hl1:1≤nets.len) (hl10:nets.len≤10) (hT:∀ j,j < nets.len→(nets.get j).Ties.len≤210) (hg:∀ j,j < nets.len→zfN nets j=true) (hdn:(d.len:Int)=(nets.get 0).Nodes) (h0:d.get 0=0) (hd:∀ i,i < d.len→goodD d i=true):EpIn nets d (nets.get 0).Nodes:=by
 have hh:=fun j hj=>(zir (hT j hj)).1 (hg j hj)
 exact ⟨(hh 0 (by omega)).1.n1,(hh 0 (by omega)).1.n40,hl1,hl10,hh,rfl,hdn,h0,fun i hi=>of_decide_eq_true (hd i hi)⟩
theorem zqH (nets:Sl Net) (d:Sl Int) (hd:d.len≤50) (hT:∀ j,j < nets.len→(nets.get j).Ties.len≤210):p61 nets d=true∧p62 nets d=true ∧
    ((∃ e, e ≠ 0 ∧ s61 nets d = ((⟨(0:Int), (⟨0, fun _ => default⟩ : (Sl Tie))⟩ : Net), e) ∧ s62 nets d = ((⟨(0:Int), (⟨0, fun _ => default⟩ : (Sl Tie))⟩ : Net), e)) ∨
     (EpIn nets d (nets.get 0).Nodes∧s61 nets d=epE (1+nets.len * ((nets.get 0).Nodes - 1)) (epT nets (nets.get 0).Nodes d)∧s62 nets d=epE (1+nets.len * ((nets.get 0).Nodes - 1)) (epT nets (nets.get 0).Nodes d))):=by
  unfold p61 s61 p62 s62
  by_cases hl:(nets.len:Int) > 10
  · rw [decide_eq_true hl];exact ⟨rfl,rfl,.inl ⟨3,by decide,rfl,rfl⟩⟩
  rw [decide_eq_false hl]
  simp only [cond_false]
  unfold ztj zti ztz zty
  by_cases hz:(nets.len:Int)=0
  · rw [show ((nets.len:Int) == (0:Int))=true from beq_iff_eq.2 hz];exact ⟨rfl,rfl,.inl ⟨2,by decide,rfl,rfl⟩⟩
  rw [show ((nets.len:Int) == (0:Int))=false from beq_eq_false_iff_ne.2 hz]
  simp only [cond_false]
  have hl1:1≤nets.len:=by omega
  have hl10:nets.len≤10:=by omega
  have hin0:decide (0≤(0:Int)∧(0:Int) < (nets.len:Int))=true:=decide_eq_true (by omega)
  obtain ⟨q1,q2⟩:=zBf (nets.get 0) (by have:=hT 0 (by omega);omega)
  -- the program looks at the nets first
  have hlp := zmp (good := zfN nets) (bad := zu8) (fin := zoE nets d) (finP := zoF nets d) (n := nets.len) (lpS := zi6 nets d) (lpP := zi7 nets d)
    (fun k i hi=>by
      show zi4 nets d (zi6 nets d k) (i:Int)=_
      generalize zi6 nets d k=S
      unfold zi4 zoG zfN
      rw [decide_eq_true (show (i:Int) < (nets.len:Int) by omega),cond_true,Int.toNat_natCast]
      show cond (!(s67 (nets.get i))) _ (cond (!((nets.get i).Nodes == (nets.get 0).Nodes)) _ _)=_
      cases s67 (nets.get i) <;> cases ((nets.get i).Nodes == (nets.get 0).Nodes) <;> rfl)
    (fun k=>by
      show zi4 nets d (zi6 nets d k) (nets.len:Int)=_
      unfold zi4
      rw [decide_eq_false (show ¬ (nets.len:Int) < (nets.len:Int) by omega),cond_false])
    (fun k i hi=>by
      show zi5 nets d (zi7 nets d k) (i:Int)=_
      generalize zi7 nets d k=S
      unfold zi5 zoH zfN
      rw [decide_eq_true (show (i:Int) < (nets.len:Int) by omega),cond_true,Int.toNat_natCast,decide_eq_true (show 0≤(i:Int)∧(i:Int) < (nets.len:Int) by omega),(zBc (nets.get i) (by have:=hT i hi;omega)).1]
      show (true && (decide (true=true) && cond (!(s67 (nets.get i))) _ (cond (!((nets.get i).Nodes == (nets.get 0).Nodes)) _ _)))=_
      cases s67 (nets.get i) <;> cases ((nets.get i).Nodes == (nets.get 0).Nodes) <;> rfl)
    (fun k=>by
      show zi5 nets d (zi7 nets d k) (nets.len:Int)=_
      unfold zi5
      rw [decide_eq_false (show ¬ (nets.len:Int) < (nets.len:Int) by omega),cond_false]) (by omega)
  unfold zth ztg ztf zte
  rw [hin0,q1,q2]
  simp only [Bool.true_and,decide_true]
  by_cases hg:∀ j,j < nets.len→zfN nets j=true
  · obtain ⟨k1, k2⟩ := hlp.1 hg
    rw [k1,k2]
    have hh:=fun j hj=>(zir (hT j hj)).1 (hg j hj)
    have hn0:=(hh 0 (by omega)).1
    have hn1:=hn0.n1
    have hs0:s67 (nets.get 0)=true:=by
      have:=hg 0 (by omega);unfold zfN at this;rw [Bool.and_eq_true] at this;exact this.1
    rw [hs0]
    unfold zoF zoE zhA zhz
    simp only [Bool.not_true,cond_false]
    by_cases hdn:(d.len:Int)=(nets.get 0).Nodes
    · rw [show ((d.len : Int) != (nets.get 0).Nodes) = false by rw [hdn]; exact bne_self_eq_false _, decide_eq_true (show 0 ≤ (0:Int) ∧ (0:Int) < (d.len : Int) by omega)]
      simp only [cond_false,Bool.true_and]
      by_cases h0:d.get 0=0
      · rw [show (d.get 0 != (0:Int)) = false by rw [h0]; rfl]
        simp only [cond_false]
        obtain ⟨a1,a2,a3⟩:=zL2 nets d hd (fun hgd=>(zD4 nets d _ (zBi hl1 hl10 hT hg hdn h0 hgd)).1)
        by_cases hgd:∀ i,i < d.len→goodD d i=true
        · have hE := zBi hl1 hl10 hT hg hdn h0 hgd
          obtain ⟨b1,b2⟩:=(zD6 nets d hl1 hl10 hT hn0).1 hg hE
          obtain ⟨c1,c2,_⟩:=zKc nets d hl1 hd hdn b1
          exact ⟨a1,c1,.inr ⟨hE,(a2 hgd).trans (zD4 nets d _ hE).2,(c2 hgd).trans b2⟩⟩
        · have hp5:zew nets d Fuel 0=true∧zev nets d Fuel 0=zu8:=by
            have hl := zmp (good := goodD d) (bad := zu8) (fin := zgG nets d) (finP := zgH nets d) (n := d.len) (lpS := zev nets d) (lpP := zew nets d)
              (fun k i hi=>by
                show ze4 nets d (zev nets d k) (i:Int)=_
                generalize zev nets d k=S
                unfold ze4 zoX goodD
                rw [decide_eq_true (show (i:Int) < (nets.get 0).Nodes by omega),cond_true,Int.toNat_natCast,zng]
                cases decide (0≤d.get i∧d.get i≤1000000000) <;> rfl)
              (fun k=>by
                show ze4 nets d (zev nets d k) (d.len:Int)=_
                unfold ze4
                rw [decide_eq_false (show ¬ (d.len:Int) < (nets.get 0).Nodes by omega),cond_false])
              (fun k i hi=>by
                show ze5 nets d (zew nets d k) (i:Int)=_
                generalize zew nets d k=S
                unfold ze5 zoY goodD
                rw [decide_eq_true (show (i:Int) < (nets.get 0).Nodes by omega),cond_true,Int.toNat_natCast,zng,decide_eq_true (show 0≤(i:Int)∧(i:Int) < (d.len:Int) by omega)]
                cases decide (0≤d.get i∧d.get i≤1000000000) <;> rfl)
              (fun k=>by
                show ze5 nets d (zew nets d k) (d.len:Int)=_
                unfold ze5
                rw [decide_eq_false (show ¬ (d.len:Int) < (nets.get 0).Nodes by omega),cond_false]) (by omega)
            exact hl.2 hgd
          refine ⟨a1,?_,.inl ⟨2,by decide,a3 hgd,hp5.2⟩⟩
          unfold zmk zoZ
          rw [hin0,Bool.true_and];exact hp5.1
      · rw [bne_iff_ne.2 h0];exact ⟨rfl,rfl,.inl ⟨2,by decide,rfl,rfl⟩⟩
    · rw [bne_iff_ne.2 hdn];exact ⟨rfl,rfl,.inl ⟨2,by decide,rfl,rfl⟩⟩
  · obtain ⟨k1, k2⟩ := hlp.2 hg
    rw [k1,k2]
    unfold zhA zhz
    cases hs0:s67 (nets.get 0)
    · exact ⟨rfl,rfl,.inl ⟨2,by decide,rfl,rfl⟩⟩
    simp only [Bool.not_true,cond_false]
    have hn0:=(zBe (nets.get 0) (by have:=hT 0 (by omega);omega)).2.1 hs0
    have hn1:=hn0.n1
    by_cases hdn:(d.len:Int)=(nets.get 0).Nodes
    · rw [show ((d.len : Int) != (nets.get 0).Nodes) = false by rw [hdn]; exact bne_self_eq_false _, decide_eq_true (show 0 ≤ (0:Int) ∧ (0:Int) < (d.len : Int) by omega)]
      simp only [cond_false,Bool.true_and]
      by_cases h0:d.get 0=0
      · rw [show (d.get 0 != (0:Int)) = false by rw [h0]; rfl]
        simp only [cond_false]
        obtain ⟨b1,b2⟩:=(zD6 nets d hl1 hl10 hT hn0).2 hg
        obtain ⟨c1,c2,c3⟩:=zKc nets d hl1 hd hdn b1
        refine ⟨trivial,c1,.inl ⟨2,by decide,rfl,?_⟩⟩
        by_cases hgd:∀ i,i < d.len→goodD d i=true
        · exact (c2 hgd).trans b2
        · exact c3 hgd
      · rw [bne_iff_ne.2 h0];exact ⟨trivial,rfl,.inl ⟨2,by decide,rfl,rfl⟩⟩
    · rw [bne_iff_ne.2 hdn];exact ⟨trivial,rfl,.inl ⟨2,by decide,rfl,rfl⟩⟩
end Go.Proofs
namespace Go.Proofs
open Go Go.Pm
set_option maxRecDepth 100000
set_option linter.unusedVariables false
theorem zvY (nets:Sl Net) (d:Sl Int) (hd:d.len≤50) (hT:∀ j,j < nets.len→(nets.get j).Ties.len≤210):zmm nets d=true∧zml nets d=true:=by
 obtain ⟨h1,h2,h3⟩:=zqH nets d hd hT
 have key:s61 nets d=s62 nets d∧(s62 nets d).1.Ties.len≤9223372036854775807:=by
  rcases h3 with ⟨e,_,a,b⟩ | ⟨hE,a,b⟩
  ·rw [a,b];exact ⟨rfl,Nat.zero_le _⟩
  ·rw [a, b]
   refine ⟨rfl,?_⟩
   unfold epE
   by_cases c1:1+(nets.len:Int) * ((nets.get 0).Nodes - 1) > 40
   ·rw [decide_eq_true c1];exact Nat.zero_le _
   ·rw [decide_eq_false c1]
    by_cases c2:(((epT nets (nets.get 0).Nodes d).len:Nat):Int) > 200
    ·rw [decide_eq_true c2];exact Nat.zero_le _
    ·rw [decide_eq_false c2];show (epT nets (nets.get 0).Nodes d).len≤_;omega
 obtain ⟨k1,k2⟩:=key
 obtain ⟨r1,r2⟩:=zC4 (s62 nets d).1 k2
 unfold zmm zml ztD ztC
 rw [h1,h2,k1]
 unfold ztB ztA
 show (decide (true=true) && (decide (true=true) && cond ((s62 nets d).2 == (s62 nets d).2) (decide (p42 (s62 nets d).1 (s62 nets d).1=true) && true) true))=true∧cond ((s62 nets d).2 == (s62 nets d).2) (cond (s42 (s62 nets d).1 (s62 nets d).1) true false) false=true
 rw [r1,r2,beq_self_eq_true]
 exact ⟨rfl,rfl⟩
theorem ztG (nets:Sl Net) (d:Sl Int) (hl:nets.len≤15) (hd:d.len≤50):zmo nets d=true∧zmn nets d=true:=by
  have h := zmp (good := fun j => decide ((nets.get j).Ties.len ≤ 210)) (bad := true) (fin := zml nets d) (finP := zmm nets d) (n := nets.len) (lpS := zjg nets d) (lpP := zjh nets d)
    (fun k i hi=>by
      show zje nets d (zjg nets d k) (i:Int)=_
      generalize zjg nets d k=S
      unfold zje
      rw [decide_eq_true (show (i:Int) < (nets.len:Int) by omega),cond_true,Int.toNat_natCast]
      by_cases hc:(nets.get i).Ties.len≤210
      · rw [decide_eq_true hc,decide_eq_false (show ¬ ((nets.get i).Ties.len:Int) > 210 by omega)];rfl
      · rw [decide_eq_false hc,decide_eq_true (show ((nets.get i).Ties.len:Int) > 210 by omega)];rfl)
    (fun k=>by
      show zje nets d (zjg nets d k) (nets.len:Int)=_
      unfold zje
      rw [decide_eq_false (show ¬ (nets.len:Int) < (nets.len:Int) by omega),cond_false])
    (fun k i hi=>by
      show zjf nets d (zjh nets d k) (i:Int)=_
      generalize zjh nets d k=S
      unfold zjf
      rw [decide_eq_true (show (i:Int) < (nets.len:Int) by omega),cond_true,Int.toNat_natCast,decide_eq_true (show 0≤(i:Int)∧(i:Int) < (nets.len:Int) by omega)]
      by_cases hc:(nets.get i).Ties.len≤210
      · rw [decide_eq_true hc,decide_eq_false (show ¬ ((nets.get i).Ties.len:Int) > 210 by omega)];rfl
      · rw [decide_eq_false hc,decide_eq_true (show ((nets.get i).Ties.len:Int) > 210 by omega)];rfl)
    (fun k=>by
      show zjf nets d (zjh nets d k) (nets.len:Int)=_
      unfold zjf
      rw [decide_eq_false (show ¬ (nets.len:Int) < (nets.len:Int) by omega),cond_false]) (by omega)
  unfold zmo zmn ztF ztE
  by_cases hg:∀ j,j < nets.len→decide ((nets.get j).Ties.len≤210)=true
  · obtain ⟨k1, k2⟩ := h.1 hg
    obtain ⟨e1,e2⟩:=zvY nets d hd (fun j hj=>of_decide_eq_true (hg j hj))
    exact ⟨k1.trans e1,k2.trans e2⟩
  · exact h.2 hg
theorem epochs_true (nets:Sl Net) (d:Sl Int):p17 nets d=true∧s17 nets d=true:=by
 unfold p17 s17
 by_cases h1:(nets.len:Int) > 15
 ·rw [decide_eq_true h1, decide_eq_true (show (nets.len : Int) > 5 by omega)]
  cases decide ((nets.len:Int)≤10) <;> exact ⟨rfl,rfl⟩
 ·rw [decide_eq_false h1]
  by_cases h2:(d.len:Int) > 50
  ·rw [decide_eq_true h2]
   cases decide ((nets.len:Int) > 5) <;> cases decide ((nets.len:Int)≤10) <;> exact ⟨rfl,rfl⟩
  ·rw [decide_eq_false h2]
   obtain ⟨e1,e2⟩:=ztG nets d (by omega) (by omega)
   simp only [cond_false,e1,e2]
   cases decide ((nets.len:Int) > 5) <;> cases decide ((nets.len:Int)≤10) <;> exact ⟨rfl,rfl⟩
end Go.Proofs
