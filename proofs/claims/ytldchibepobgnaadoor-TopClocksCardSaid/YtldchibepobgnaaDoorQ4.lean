/- Part 4 of what the proof rests on: a machine that runs functions of the program on pure values, proved sound; the functions that the law reaches, and what they compute. -/
import Derived.Test.YtldchibepobgnaaDoorQ3
import Derived.Sort.OwnSortedInts
import Derived.Lib.SlicesCompact
import Derived.Test.YtldchibepobgnaaDoorProg
import Derived.ProofKit
import Derived.Deep.Slices
import Derived.OpenShut
import Derived.Test.YtldchibepobgnaaDoorTie
import Derived.LaidMore
import Derived.Stop.Joined
import Derived.Test.YtldchibepobgnaaDoorCards
import Derived.WalkKit
set_option linter.all false
namespace Go.Pm

structure Tabs where
  fn:List (Nat×(List PA->COut))
  own:List (Nat×OwnK)
  it:List (Nat×(List PA->Option (Prop×List (List PA))))
  mt:List (Nat×MK)
def zr3 : List (Nat × (List PA → COut)) → Nat → List PA → COut
  | [],_=>λ _=>.no
  | (k,c) :: r,n=>match Nat.beq k n with | true=>c | false=>zr3 r n
def zr4 (l:List (Nat×OwnK)) (f:Nat):OwnK:=match lk l f with | some c=>c | none=>.none
def zxQ (l:List (Nat×(List PA->Option (Prop×List (List PA))))) (f:Nat):List PA->Option (Prop×List (List PA)):=match lk l f with | some c=>c | none=>λ _=>none
def csm (T:Tabs) (memo:Nat->Int->List Int) (vv:Nat->Bool):Ctrs:=⟨zr3 T.fn,zr4 T.own,zxQ T.it,memo,vv,lk T.mt⟩
abbrev cs (T:Tabs):Ctrs:=csm T (λ _ _=>[]) (λ _=>false)
def Tabs.nil:Tabs:=⟨[],[],[],[]⟩
def Tabs.addF (T:Tabs) (f:Nat) (c:List PA->COut):Tabs:=⟨(f,c) :: T.fn,T.own,T.it,T.mt⟩
def Tabs.addI (T:Tabs) (f:Nat) (c:List PA->Option (Prop×List (List PA))):Tabs:=⟨T.fn,T.own,(f,c) :: T.it,T.mt⟩
theorem zBN {P:Program}{f:Nat} : Ok P f (λ _=>.no):=λ _ _ h=>h.elim
theorem zBO {P:Program}{f:Nat} : zzv P f (λ _=>none):=λ _ _ _ h=>by cases h

structure TabsOk (P : Program) (T : Tabs) : Prop where
  fn:∀ x∈T.fn,Ok P x.1 x.2
  own:∀ x∈T.own,zxn P x.1 x.2
  it:∀ x∈T.it,zzv P x.1 x.2
  mt:∀ x∈T.mt,zzw P x.1 x.2
theorem TabsOk.nil {P:Program} : TabsOk P .nil:=⟨λ _ h=>(by cases h),λ _ h=>(by cases h),λ _ h=>(by cases h),λ _ h=>(by cases h)⟩
theorem TabsOk.addF {P:Program}{T:Tabs}(h:TabsOk P T){f:Nat}{c:List PA->COut}(hc:Ok P f c):TabsOk P (T.addF f c) :=
 ⟨λ x hx=>(dqq.1 hx).elim (λ e=>by rw[e];exact hc) (λ hx=>h.fn x hx),h.own,h.it,h.mt⟩
theorem TabsOk.addI {P:Program}{T:Tabs}(h:TabsOk P T){f:Nat}{c:List PA->Option (Prop×List (List PA))}(hc:zzv P f c):TabsOk P (T.addI f c) :=
 ⟨h.fn,h.own,λ x hx=>(dqq.1 hx).elim (λ e=>by rw[e];exact hc) (λ hx=>h.it x hx),h.mt⟩
theorem TabsOk.all {P:Program}{T:Tabs}(h:TabsOk P T) (memo:Nat->Int->List Int) (vv:Nat->Bool):OkAll P (csm T memo vv):=by
 refine⟨λ f C hC=>h.mt _ (zaX hC),λ f=>?_,λ f=>?_,λ f=>?_⟩
 ·show Ok P f (zr3 T.fn f)
  have key:∀ l:List (Nat×(List PA->COut)),(∀ x∈l,Ok P x.1 x.2)->Ok P f (zr3 l f):=by
   intro l
   induction l with
   | nil=>intro _;exact zBN
   | cons x l ih =>
    intro hl
    obtain⟨k,c⟩:=x
    simp only[zr3]
    split
    ·rename_i e
     have:=hl (k,c) dqj
     rw[<- dqc e];exact this
    ·exact ih λ x hx=>hl x (dqf _ hx)
  exact key T.fn h.fn
 ·show zxn P f (zr4 T.own f)
  unfold zr4
  split
  ·rename_i c hc;exact h.own _ (zaX hc)
  ·trivial
 ·show zzv P f (zxQ T.it f)
  unfold zxQ
  split
  ·rename_i c hc;exact h.it _ (zaX hc)
  ·exact zBO

theorem zzX {P : Program} {T : Tabs} (hT : TabsOk P T) {f : FuncId} {C : List PA → COut} (hc : zaY P f)
    (h:∀ args K,(C args).wp K->∃ memo vv ann,vcFun P (csm T memo vv) ann f args K):Ok P f C :=
  zvd (hT.all (λ _ _=>[]) (λ _=>false)) hc h
structure Sl (α : Type) where
  len:Nat
  get:Nat->α
instance {α:Type} [Inhabited α]:Inhabited (Sl α):=⟨⟨0,λ _=>default⟩⟩
abbrev w64 (x:Int):Int:=IntKind.i64.wrap x

def IsE {α:Type}(enc:α->List PV) (size s:Nat) (g:Nat->List PV):Prop:=s=size/\∃ f:Nat->α,g=λ i=>enc (f i)
theorem isE {α:Type}{enc:α->List PV}{size:Nat}{f:Nat->α} : IsE enc size size (λ i=>enc (f i)):=⟨rfl,f,rfl⟩
def zdx {α:Type}(n:Nat) (get new:Nat->α):Nat->α:=λ j=>match Nat.ble n j with | true=>new (j - n) | false=>get j
theorem zve {α:Type}{enc:α->List PV}{n:Nat}{f h:Nat->α} : appG n (λ i=>enc (f i)) (λ i=>enc (h i))=λ i=>enc (zdx n f h i):=by
 funext j;simp only[appG,zdx];cases Nat.ble n j <;> rfl
def zgQ {α : Type} (x : α) : List α → Nat → α
  | [],_=>x
  | y :: _,0=>y
  | _ :: r,i+1=>zgQ x r i
theorem zpd {α:Type}{enc:α->List PV}{x y:α}{r:List α} : zwo (enc x :: enc y :: r.map enc)=λ i=>enc (zgQ x (x :: y :: r) i):=by
 have key:∀ (l:List α) (i:Nat),(match (l.map enc)[i]? with | some z=>z | none=>enc x)=enc (zgQ x l i):=by
  intro l
  induction l with
  | nil=>intro i;rfl
  | cons a l ih =>
   intro i
   cases i with
   | zero=>rfl
   | succ i=>simpa [zgQ] using ih i
 funext i
 exact key (x :: y :: r) i
theorem zcQ {C A:Prop} [d:Decidable C] {r:Bool}(hs:(decide C && r)=true) (k:C->r=true->A):A:=by
 rw[dqm] at hs
 exact k (of_decide_eq_true hs.1) hs.2
abbrev Fuel:Nat:=9223372036854775808
def setT {α:Type}(i:Nat) (v:α) (get:Nat->α):Nat->α:=λ j=>match Nat.beq j i with | true=>v | false=>get j
theorem zjT {α:Type}{enc:α->List PV}{n:Nat}{g g':Nat->List PV}{f h:Nat->α}(h1:g=λ i=>enc (f i)) (h2:g'=λ i=>enc (h i)):appG n g g'=λ i=>enc (zdx n f h i):=by
 subst h1;subst h2;exact zve
end Go.Pm
namespace Go.Pm
open Go Go.Sort

/-! Nil slices are slices of length 0. -/
inductive PVle : PV → PV → Prop
  | rfl (p:PV):PVle p p
  | nil (s:Nat) (g:Nat->List PV):PVle .nils (.sl 0 s g)
  | nilm (q:MQ):PVle .nilm (.fm q 0 (λ _=>none))
inductive PAle : PA → PA → Prop
  | one {p q:PV} : PVle p q->PAle (.one p) (.one q)
  | agg {l m:List PV} : RL PVle l m->PAle (.agg l) (.agg m)
theorem zzY {α β:Type}{R:α->β->Prop} : RL R [] []:=trivial
/-! Maps, as typed zjj; the keys of a map. -/
structure Mp where
  n:Nat
  F:List Int->Option (List Int)
instance:Inhabited Mp:=⟨⟨0,λ _=>none⟩⟩

end Go.Pm
namespace Go.Pm

abbrev zI (x:Int):DV:=.one (.c (.p (.int .i64 x)))
abbrev zB (x:Bool):DV:=.one (.c (.p (.bool x)))
abbrev zP (x:PV):DV:=.one (.c (.p x))
abbrev zp (L k:Nat):DV:=.one (.c (.ptr L k))
abbrev zv (L:Nat):DV:=.one (.c (.vec L))
abbrev zs {α:Type}(enc:α->List PV) (s:Nat) (x:Sl α):PV:=.sl x.len s (λ i=>enc (x.get i))
abbrev zS {α:Type}(enc:α->List PV) (s:Nat) (x:Sl α):DV:=zP (zs enc s x)
abbrev zm (l:List PV):List Cl:=l.map Cl.p
abbrev zi (x:Int):Cl:=.p (.int .i64 x)
abbrev zg {α:Type}(enc:α->List PV) (x:Sl α):Nat->List PV:=λ i=>enc (x.get i)
abbrev zK (a b:List Nat):Keep:=⟨a,b,[],[],[],[],[]⟩
theorem zE {α:Type}(enc:α->List PV) (size:Nat) (f:Nat->α):IsE enc size size (λ i=>enc (f i)):=⟨rfl,f,rfl⟩

@[reducible] def lpO {A : Type} (d : A) (st : A → A) : Nat → A
  | 0=>d
  | k+1=>st (lpO d st k)
theorem zzc {A B : Type} (a : A) (b : B) (p : A → A) (s : B → B) (M : A → B → Prop) (h0 : M a b) (h1 : ∀ P S, M P S → M (p P) (s S)) : ∀ k, M (lpO a p k) (lpO b s k)
  | 0=>h0
  | k+1=>h1 _ _ (zzc a b p s M h0 h1 k)
section
variable (P:Program) (Γ:Ctrs) (ann:Ann)
def pt : Code → (Exit → St → Prop) → List Nat → List (St → Prop) → St → Prop
  | .seq a b,K,i :: r,X=>match i with | 0=>pt a (sqK P Γ ann b K) r X | _=>pt b K r X
  | .cond _ a b,K,i :: r,X=>match i with | 0=>pt a K r X | _=>pt b K r X
  | .block id b,K,_ :: r,X=>pt b (zoK id K) r X
  | .loop b,K,_ :: r,x :: X=>pt b (zuv P ann (zjo b) x K) r X
  | .scope b,K,_ :: r,X=>pt b (zqF K) r X
  | c,K,_,_=>vc P Γ ann c K
def ptF (fn:Func) (K:List PA->Prop) (l:List Nat) (X:List (St->Prop)):St->Prop :=
 match fn.body with
 | some c=>pt P Γ ann c (zux P fn K) l X
 | none=>λ _=>False
end

section
variable (P:Program) (Γ:Ctrs) (ann:Ann)
def ptR : Code → (Exit → St → Prop) → List Nat → List (St → Prop) → Code × (Exit → St → Prop)
  | .seq a b,K,i :: r,X=>match i with | 0=>ptR a (sqK P Γ ann b K) r X | _=>ptR b K r X
  | .cond _ a b,K,i :: r,X=>match i with | 0=>ptR a K r X | _=>ptR b K r X
  | .block id b,K,_ :: r,X=>ptR b (zoK id K) r X
  | .loop b,K,_ :: r,x :: X=>ptR b (zuv P ann (zjo b) x K) r X
  | .scope b,K,_ :: r,X=>ptR b (zqF K) r X
  | c,K,_,_=>(c,K)
def exF (fn:Func) (K:List PA->Prop) (l:List Nat) (X:List (St->Prop)) (s:St):Prop :=
 match fn.body with
 | some c=>(ptR P Γ ann c (zux P fn K) l X).2 .normal s
 | none=>False
end
theorem zc {b:Bool}{A B:Prop}{S S':Bool}{α:Type}{e:α->List PA}{K:List PA->Prop}{x y:α}(hs:cond b S S'=true) (hk:K (e (cond b x y))) (h1:S=true->K (e x)->A) (h2:S'=true->K (e y)->B):zhh b A B:=by
 cases b
 ·exact h2 hs hk
 ·exact h1 hs hk
theorem zt {b:Bool}{A B:Prop}{α:Type}{e:α->List PA}{K:List PA->Prop}{x y:α}(hk:K (e (cond b x y))) (h1:K (e x)->A) (h2:K (e y)->B):zhh b A B:=by
 cases b
 ·exact h2 hk
 ·exact h1 hk
theorem zl {at_:Prop}{g:St}(B:(St->Prop)->St->Prop) (e:at_ = ∀ X:St->Prop,(∀ s,B X s->X s)->X g) (h:∀ X:St->Prop,(∀ s,B X s->X s)->X g):at_:=e ▸ h
end Go.Pm
namespace Go.Proofs
open Go Go.Pm
set_option maxRecDepth 100000
set_option linter.unusedVariables false
attribute [local irreducible] Go.Pm.vcFun Go.Pm.vc Go.Pm.vcIter
abbrev Tab:=Nat->Int
def tg (n:Nat) (F:Tab) (k:Nat):Int:=zm5 (zm (znd 0 n F)) k
def ts (n:Nat) (F:Tab) (k:Nat) (vs:List Int):Tab:=zwk k vs (zm5 (zm (znd 0 n F)))
abbrev enc_3 (x:Int):List PV:=[.int .i64 x]
def zBP : List PV → Int
  | [.int .i64 x]=>x
  | _=>default
def zpe (g:Nat->List PV):Nat->Int:=λ i=>zBP (g i)
theorem zjU (f:Nat->Int):zpe (λ i=>enc_3 (f i))=f:=rfl
abbrev zBQ (x:Bool):List PV:=[.bool x]
abbrev zzZ (x:Int):List PV:=[.int .i64 x]
abbrev zz0 (x:Int):List PV:=[.int .i64 x]
structure Span where
  Low:Int
  High:Int
deriving Inhabited
abbrev zbN (x:Span):List PV:=[.int .i64 x.Low,.int .i64 x.High]
structure Drift where
  Time:Int
  Radius:Span
deriving Inhabited
abbrev znQ (x:Drift):List PV:=[.int .i64 x.Time,.int .i64 x.Radius.Low,.int .i64 x.Radius.High]
def zxR : List PV → Drift
  | [.int .i64 x_Time,.int .i64 x_Radius_Low,.int .i64 x_Radius_High]=>(⟨x_Time,(⟨x_Radius_Low,x_Radius_High⟩:Span)⟩:Drift)
  | _=>default
def zvf (g:Nat->List PV):Nat->Drift:=λ i=>zxR (g i)
abbrev zz1 (x:(Sl Drift)):List PV:=[.sl x.len 3 (λ i=>znQ (x.get i))]
abbrev zz2 (x:(Sl Int)):List PV:=[.sl x.len 1 (λ i=>enc_3 (x.get i))]
structure Plane where
  Kind:Int
  View:Int
  Z:Int
  First:Int
  Pitch:Int
  Strips:Int
  Spill:Int
  Offset:Span
  Clock:Span
  Jitter:Int
  Least:Int
  Drift:(Sl Drift)
  Dead:(Sl Int)
deriving Inhabited
abbrev enc_35 (x:Plane):List PV:=[.int .i64 x.Kind,.int .i64 x.View,.int .i64 x.Z,.int .i64 x.First,.int .i64 x.Pitch,.int .i64 x.Strips,.int .i64 x.Spill,.int .i64 x.Offset.Low,.int .i64 x.Offset.High,.int .i64 x.Clock.Low,.int .i64 x.Clock.High,.int .i64 x.Jitter,.int .i64 x.Least,.sl x.Drift.len 3 (λ i=>znQ (x.Drift.get i)),.sl x.Dead.len 1 (λ i=>enc_3 (x.Dead.get i))]
def zz3 : List PV → Plane
  | [.int .i64 x_Kind,.int .i64 x_View,.int .i64 x_Z,.int .i64 x_First,.int .i64 x_Pitch,.int .i64 x_Strips,.int .i64 x_Spill,.int .i64 x_Offset_Low,.int .i64 x_Offset_High,.int .i64 x_Clock_Low,.int .i64 x_Clock_High,.int .i64 x_Jitter,.int .i64 x_Least,.sl x_Drift_n _ x_Drift_g,.sl x_Dead_n _ x_Dead_g]=>(⟨x_Kind,x_View,x_Z,x_First,x_Pitch,x_Strips,x_Spill,(⟨x_Offset_Low,x_Offset_High⟩:Span),(⟨x_Clock_Low,x_Clock_High⟩:Span),x_Jitter,x_Least,(⟨x_Drift_n,zvf x_Drift_g⟩:(Sl Drift)),(⟨x_Dead_n,zpe x_Dead_g⟩:(Sl Int))⟩:Plane)
  | _=>default
def znR (g:Nat->List PV):Nat->Plane:=λ i=>zz3 (g i)
theorem zhY (f:Nat->Plane):znR (λ i=>enc_35 (f i))=f:=rfl
abbrev zz4 (x:(Sl Plane)):List PV:=[.sl x.len 15 (λ i=>enc_35 (x.get i))]
structure Setup where
  Planes:(Sl Plane)
deriving Inhabited
abbrev enc_24 (x:Setup):List PV:=[.sl x.Planes.len 15 (λ i=>enc_35 (x.Planes.get i))]
structure Flown where
  A:Int
  B:Int
  Time:Int
  Flight:Int
  WrongA:Int
  WrongB:Int
deriving Inhabited
abbrev enc_39 (x:Flown):List PV:=[.int .i64 x.A,.int .i64 x.B,.int .i64 x.Time,.int .i64 x.Flight,.int .i64 x.WrongA,.int .i64 x.WrongB]
def zz5 : List PV → Flown
  | [.int .i64 x_A,.int .i64 x_B,.int .i64 x_Time,.int .i64 x_Flight,.int .i64 x_WrongA,.int .i64 x_WrongB]=>(⟨x_A,x_B,x_Time,x_Flight,x_WrongA,x_WrongB⟩:Flown)
  | _=>default
def znS (g:Nat->List PV):Nat->Flown:=λ i=>zz5 (g i)
theorem zhZ (f:Nat->Flown):znS (λ i=>enc_39 (f i))=f:=rfl
abbrev zz6 (x:(Sl Flown)):List PV:=[.sl x.len 6 (λ i=>enc_39 (x.get i))]
structure Pulse where
  A:Int
  B:Int
  TimeA:Int
  TimeB:Int
  Flight:Span
  Jitter:Int
deriving Inhabited
abbrev zeC (x:Pulse):List PV:=[.int .i64 x.A,.int .i64 x.B,.int .i64 x.TimeA,.int .i64 x.TimeB,.int .i64 x.Flight.Low,.int .i64 x.Flight.High,.int .i64 x.Jitter]
structure Hit where
  Plane:Int
  Channel:Int
  Many:Int
  Drift:Int
  Charge:Int
  Time:Int
deriving Inhabited
abbrev zaS (x:Hit):List PV:=[.int .i64 x.Plane,.int .i64 x.Channel,.int .i64 x.Many,.int .i64 x.Drift,.int .i64 x.Charge,.int .i64 x.Time]
structure Tie where
  From:Int
  To:Int
  Low:Int
  High:Int
deriving Inhabited
abbrev zdg (x:Tie):List PV:=[.int .i64 x.From,.int .i64 x.To,.int .i64 x.Low,.int .i64 x.High]
def zz7 : List PV → Tie
  | [.int .i64 x_From,.int .i64 x_To,.int .i64 x_Low,.int .i64 x_High]=>(⟨x_From,x_To,x_Low,x_High⟩:Tie)
  | _=>default
def zkN (g:Nat->List PV):Nat->Tie:=λ i=>zz7 (g i)
structure Net where
  Nodes:Int
  Ties:(Sl Tie)
deriving Inhabited
abbrev zz8 (x:Net):List PV:=[.int .i64 x.Nodes,.sl x.Ties.len 4 (λ i=>zdg (x.Ties.get i))]
structure Gate where
  Z:Int
  Low:Int
  High:Int
deriving Inhabited
structure Sight where
  Gates:(Sl Gate)
  Z:Int
  X:Int
  W:Int
  Y:Int
  Wrong:Int
deriving Inhabited
structure Frac where
  Num:Int
  Den:Int
deriving Inhabited
structure Line where
  Slope:Frac
  Start:Frac
deriving Inhabited
structure FluxRow where
  Energy:Int
  Rate:Span
deriving Inhabited
structure Sky where
  Parts:Int
  Bins:(Sl (Sl FluxRow))
  Beta:Span
  Alpha:Span
deriving Inhabited
structure RangeRow where
  Energy:Int
  Range:Span
deriving Inhabited
structure web where
  Net:Net
  out:Mp
deriving Inhabited
abbrev zr5 (x:web):List PV:=[.int .i64 x.Net.Nodes,.sl x.Net.Ties.len 4 (λ i=>zdg (x.Net.Ties.get i)),.fm (false,1,false,[none]) x.out.n x.out.F]
structure far where
  length:Int
  uses:Int
deriving Inhabited
abbrev zz9 (x:far):List PV:=[.int .i64 x.length,.int .i64 x.uses]
def zAa : List PV → far
  | [.int .i64 x_length,.int .i64 x_uses]=>(⟨x_length,x_uses⟩:far)
  | _=>default
def znT (g:Nat->List PV):Nat->far:=λ i=>zAa (g i)
structure placed where
  Plane:Plane
  index:Int
deriving Inhabited
structure list where
  Gates:(Sl Gate)
deriving Inhabited
structure straight where
  slope:Int
  start:Int
  den:Int
deriving Inhabited
structure set where
  list:list
  corners:(Sl straight)
deriving Inhabited
structure ground where
  Sky:Sky
  table:(Sl RangeRow)
  known:(Int->List Int)
deriving Inhabited
structure Use where
  Tie:Int
  Back:Bool
deriving Inhabited
structure step where
  Use:Use
  from_:Int
  to:Int
  length:Int
deriving Inhabited
abbrev zxS (x:step):List PV:=[.int .i64 x.Use.Tie,.bool x.Use.Back,.int .i64 x.from_,.int .i64 x.to,.int .i64 x.length]
structure tie where
  Tie:Tie
  index:Int
deriving Inhabited
abbrev tL (T:Tab) (i:Int):Int:=tg 80 T (0+i.toNat * 2+0)
abbrev tU (T:Tab) (i:Int):Int:=tg 80 T (0+i.toNat * 2+0+1)
abbrev tV (T:Tab) (i:Int):Int:=tg 80 T (0+i.toNat * 2+1)
abbrev nvr (x y:Int):Bool:=match (x == (1000000000000:Int)) with | true=>(match (y == (0:Int)) with | true=>true | false=>false) | false=>false
end Go.Proofs
namespace Go.Pm
open Go Go.Deep

theorem zvg (b o i j:Nat):((⟨b,o,none⟩:Addr).add i).add j=⟨b,o+i+j,none⟩:=by
 simp only[Addr.add]
 by_cases h1:i=0
 ·subst h1
  by_cases h2:j=0
  ·subst h2;rfl
  ·rw[if_neg h2];rfl
 ·rw [if_neg h1]
  by_cases h2:j=0
  ·subst h2;rfl
  ·rw[if_neg h2]
def H0 (w:World):Fz:=λ b=>(w.heap[b]?).map .fz
theorem hw_H0 (w:World):Hw (H0 w) w:=by
 intro b x h
 unfold H0 at h
 cases e:w.heap[b]? with
 | none=>rw[e] at h;cases h
 | some o=>rw[e] at h;cases h;exact⟨o,rfl,rfl⟩
def wfI (x:Int):Prop:=-9223372036854775808<=x/\x<=9223372036854775807
section
variable {H:Type}{en:TypeId×Value->H}{P:Program}{w:World}{sp:Nat->Bool}{held:Bool}
def Rd (H:Type) (en:TypeId×Value->H) (P:Program) (w:World) (sp:Nat->Bool) (held:Bool) (t:TypeId){α:Type}(enc:α->List PV) (wf:α->Prop):Prop :=
 ∀ (fuel:Nat) (cs:List Value) (x:DataW H×List MemPlace),DataW.trod en P w 0 sp held fuel t cs=some x->∃ a:α,RL (Rep (H0 w)) (enc a) cs/\wf a
theorem zr6 {t:TypeId}(ht:P.underlying t=some (.int .i64)):Rd H en P w sp held t (λ x=>[.int .i64 x]) wfI:=by
 intro fuel cs x h
 obtain⟨n,rfl,_,hw⟩:=DataW.trod_int ht h
 refine⟨n,⟨.int _ _,trivial⟩,?_⟩
 simp only[Lit.wf,dqm,decide_eq_true_eq] at hw
 exact⟨hw.1,hw.2⟩
theorem zdT {t : TypeId} {fs : Array Field} (ht : P.underlying t = some (.struct fs)) {fuel : Nat} {cs : List Value} {x : DataW H × List MemPlace} (h : DataW.trod en P w 0 sp held fuel t cs = some x) :
  cs.length=P.cellsOf t/\∀ (i:Nat) (f:Field),fs[i]? = some f->∃ n y,DataW.trod en P w 0 sp held n f.type ((cs.drop f.offset).take (P.cellsOf f.type))=some y:=by
 obtain⟨xs,n,_,_,hl,hx,hf⟩:=DataW.trod_struct ht h
 refine⟨hl,λ i f hi=>?_⟩
 have hlt:i < xs.length:=by rw[hx];exact (dqp.1 hi).1
 exact⟨n,xs[i],by rw[hf i f hi,dqD hlt]⟩
theorem zgX {t e : TypeId} {α : Type} [Inhabited α] {enc : α → List PV} {wf : α → Prop} {s : Nat} (ht : P.underlying t = some (.slice e)) (hc : P.cellsOf e = s) (hs : 0 < s) (hlen : ∀ a, (enc a).length = s)
    (hel:Rd H en P w sp held e enc wf):Rd H en P w sp held t (λ x:Sl α=>[.sl x.len s (λ i=>enc (x.get i))]) (λ x=>x.len<=9223372036854775807/\∀ i,i < x.len->wf (x.get i)):=by
  intro fuel cs x h
  rcases open_slice ht h with ⟨rfl,_⟩ | ⟨a,len,cap,m,n,D,Pl,rfl,_,hl,hm,hmm,_,hget⟩
  · exact⟨⟨0,default⟩,⟨.sl0 _ _,trivial⟩,Nat.zero_le _,λ i hi=>absurd hi (dqW i)⟩
  · by_cases h0 : len = 0
    · subst h0
      exact⟨⟨0,default⟩,⟨.sle _ _ _ _,trivial⟩,Nat.zero_le _,λ i hi=>absurd hi (dqW i)⟩
    · have hlm : len ≤ m := by rw [hmm]; split <;> omega
      rw[hc] at hget
      have hex:∀ i,i < len->∃ y:α,(∃ cs',w.cells? 0 (a.add (i * s)) s=some cs'/\RL (Rep (H0 w)) (enc y) cs')/\wf y:=by
        intro i hi
        obtain⟨cs',h1,h2⟩:=hget i (by omega)
        obtain⟨y,h3,h4⟩:=hel _ _ _ h2
        exact⟨y,⟨cs',h1,h3⟩,h4⟩
      have hch:∃ f:Nat->α,∀ i,i < len->(∃ cs',w.cells? 0 (a.add (i * s)) s=some cs'/\RL (Rep (H0 w)) (enc (f i)) cs')/\wf (f i):=by
        refine⟨λ i=>if hi:i < len then Classical.choose (hex i hi) else default,λ i hi=>?_⟩
        simp only[dif_pos hi]
        exact Classical.choose_spec (hex i hi)
      obtain⟨f,hf⟩:=hch
      -- the block
      have hcell:∀ i,i < len->∀ j,j < s->∃ cs',w.cells? 0 (a.add (i * s)) s=some cs'/\RL (Rep (H0 w)) (enc (f i)) cs'/\w.cell? ((a.add (i * s)).add j)=cs'[j]?/\cs'.length=s:=by
        intro i hi j hj
        obtain⟨⟨cs',h1,h2⟩,_⟩:=hf i hi
        obtain⟨_,h3,h4⟩:=World.cells?_some h1
        exact⟨cs',h1,h2,h4 j hj,h3⟩
      obtain⟨cs0,_,_,hc0,hl0⟩:=hcell 0 (by omega) 0 hs
      have ha0:w.cell? a=cs0[0]?:=by simpa [Addr.add] using hc0
      rw[dqD (by omega)] at ha0
      obtain⟨C,ty,fr,hblk,hspot⟩:∃ C ty fr,w.heap[a.block]? = some (.cells C ty fr)/\a.spot=none:=by
        unfold World.cell? at ha0
        split at ha0
        · rename_i C ty fr hb
          refine⟨C,ty,fr,hb,?_⟩
          cases hsp:a.spot with
          | none=>rfl
          | some k=>rw[hsp] at ha0;simp at ha0
        · cases ha0
      have ea:a=⟨a.block,a.off,none⟩:=by rw[<- hspot]
      have hat:∀ i j,i < len->j < s->∃ cs',RL (Rep (H0 w)) (enc (f i)) cs'/\C[a.off+i * s+j]? = cs'[j]?/\cs'.length=s:=by
        intro i j hi hj
        obtain⟨cs',_,h2,h3,h4⟩:=hcell i hi j hj
        refine⟨cs',h2,?_,h4⟩
        rw[<- h3]
        have e2:(a.add (i * s)).add j=⟨a.block,a.off+i * s+j,none⟩:=(congrArg (λ z:Addr=>(z.add (i * s)).add j) ea).trans (zvg _ _ _ _)
        rw[e2]
        simp[World.cell?,hblk]
      refine⟨⟨len,f⟩,⟨?_,trivial⟩,by simp only[maxLen] at hm;show len<=_;omega,λ i hi=>(hf i hi).2⟩
      rw[ea]
      refine .sl len s _ a.block a.off cap C ty fr (λ i j=>C.getD (a.off+i * s+j) undef) (by simp[H0,hblk]) hl (λ i _=>hlen _) ?_ ?_
      · intro i j x hi hx
        have hj:j < s:=by have:=(dqn.1 hx).1;rw[hlen] at this;exact this
        obtain⟨cs',h1,h2,h3⟩:=hat i j hi hj
        rw[dql,h2,dqD (by omega)]
        rfl
      · intro i j x hi hx
        have hj:j < s:=by have:=(dqn.1 hx).1;rw[hlen] at this;exact this
        obtain⟨cs',h1,h2,h3⟩:=hat i j hi hj
        obtain⟨v,hv,hr⟩:=h1.get j x hx
        rw[dql,h2,hv]
        exact hr
theorem zai {α:Type}(l:List α) (o s:Nat):l.drop o=(l.drop o).take s ++ l.drop (o+s):=by
 rw[<- List.drop_drop]
 exact (List.take_append_drop s (l.drop o)).symm
theorem okWide_agg {t:TypeId}{fs:Array Field}{r:Reach}{base:Nat}{v:Value}(ht:P.underlying t=some (.struct fs)) (h:Value.okWide P w r base t v):∃ cs,v=.agg cs:=by
 unfold Value.okWide at h
 rw[ht] at h
 obtain⟨cs,hv,_⟩:=h
 exact⟨cs,hv⟩
def zBR : TypeDesc → Bool
  | .struct _=>false
  | .array _ _=>false
  | _=>true
theorem okWide_one {t:TypeId}{d:TypeDesc}{r:Reach}{base:Nat}{v:Value}(ht:P.underlying t=some d) (hd:zBR d=true) (h:Value.okWide P w r base t v):v.cells.toList=[v]:=by
 unfold Value.okWide at h
 rw[ht] at h
 cases v with
 | agg cs =>
  exfalso
  cases d <;> first | (cases hd;done) | (simp only[Cell.okWide,Cell.ok,ht] at h)
 | _=>rfl
theorem pa_one {h:Fz}{p:PV}{v:Value}(hv:v.cells.toList=[v]) (r:RL (Rep h) [p] v.cells.toList):paR h (.one p) v:=by
 rw[hv] at r
 exact r.1
theorem pa_agg {h:Fz}{l:List PV}{v:Value}(hv:∃ cs,v=.agg cs) (r:RL (Rep h) l v.cells.toList):paR h (.agg l) v:=by
 obtain⟨cs,rfl⟩:=hv
 exact⟨cs.toList,by simp,r⟩
theorem below_H0 {w':World}(b:Bel (H0 w) w.heap.size w w'):Go.RowKit.Below w.heap.size w w' :=
 ⟨b.os,b.tape,b.output,b.size,λ k hk=>b.block k hk λ F e=>by
  unfold H0 at e
  cases hb:w.heap[k]? <;> rw[hb] at e <;> cases e⟩
end
end Go.Pm
namespace Go.Proofs
open Go Go.Pm
set_option maxRecDepth 100000
set_option linter.unusedVariables false
attribute [local irreducible] Go.Pm.vcFun Go.Pm.vc Go.Pm.vcIter
theorem C_3:Tryd.prog.cellsOf 3=1:=by kernel_rfl
theorem zDl:Tryd.prog.cellsOf 22=1:=by kernel_rfl
theorem zDm:Tryd.prog.cellsOf 24=1:=by kernel_rfl
theorem zDn:Tryd.prog.cellsOf 25=1:=by kernel_rfl
theorem zDo:Tryd.prog.cellsOf 29=1:=by kernel_rfl
theorem zDp:Tryd.prog.cellsOf 30=1:=by kernel_rfl
theorem zBu:Tryd.prog.cellsOf 32=2:=by kernel_rfl
theorem zDq:Tryd.prog.cellsOf 33=1:=by kernel_rfl
theorem zC0:Tryd.prog.cellsOf 35=15:=by kernel_rfl
theorem zC1:Tryd.prog.cellsOf 39=6:=by kernel_rfl
theorem zAb:Tryd.prog.cellsOf 104=3:=by kernel_rfl
abbrev wf_3 (x:Int):Prop:=wfI x
theorem rd_3 {H:Type}{en:TypeId×Value->H}{w:World}{sp:Nat->Bool}{held:Bool} : Rd H en Tryd.prog w sp held 3 enc_3 wf_3:=zr6 Tryd.underlying3
abbrev zAc (x:Int):Prop:=wfI x
theorem zBS {H:Type}{en:TypeId×Value->H}{w:World}{sp:Nat->Bool}{held:Bool} : Rd H en Tryd.prog w sp held 29 zzZ zAc:=zr6 Tryd.underlying29
abbrev zAd (x:Int):Prop:=wfI x
theorem zBT {H:Type}{en:TypeId×Value->H}{w:World}{sp:Nat->Bool}{held:Bool} : Rd H en Tryd.prog w sp held 30 zz0 zAd:=zr6 Tryd.underlying30
def zvh (x:Span):Prop:=wf_3 x.Low/\wf_3 x.High
theorem zxT {H:Type}{en:TypeId×Value->H}{w:World}{sp:Nat->Bool}{held:Bool} : Rd H en Tryd.prog w sp held 32 zbN zvh:=by
  intro fuel cs x h
  obtain⟨hl,hf⟩:=zdT Tryd.underlying32 h
  rw[zBu] at hl
  obtain⟨n0,y0,g0⟩:=hf 0 _ rfl
  have g0:DataW.trod en Tryd.prog w 0 sp held n0 3 ((cs.drop 0).take (Tryd.prog.cellsOf 3))=some y0:=g0
  rw[C_3] at g0
  obtain⟨a0,r0,w0⟩:=rd_3 _ _ _ g0
  obtain⟨n1,y1,g1⟩:=hf 1 _ rfl
  have g1:DataW.trod en Tryd.prog w 0 sp held n1 3 ((cs.drop 1).take (Tryd.prog.cellsOf 3))=some y1:=g1
  rw[C_3] at g1
  obtain⟨a1,r1,w1⟩:=rd_3 _ _ _ g1
  have z:cs.drop 2=[]:=dqO (by omega)
  have R:=(r0.append (r1.append (show RL (Rep (H0 w)) [] (cs.drop 2) by rw[z];exact zzY)))
  rw[<- (show cs.drop 1=(cs.drop 1).take 1 ++ cs.drop 2 from zai cs 1 1)] at R
  rw[<- (show cs.drop 0=(cs.drop 0).take 1 ++ cs.drop 1 from zai cs 0 1)] at R
  exact⟨⟨a0,a1⟩,R,⟨w0,w1⟩⟩
def zwG (x:Drift):Prop:=wf_3 x.Time/\zvh x.Radius
theorem zAe {H:Type}{en:TypeId×Value->H}{w:World}{sp:Nat->Bool}{held:Bool} : Rd H en Tryd.prog w sp held 104 znQ zwG:=by
  intro fuel cs x h
  obtain⟨hl,hf⟩:=zdT Tryd.underlying104 h
  rw[zAb] at hl
  obtain⟨n0,y0,g0⟩:=hf 0 _ rfl
  have g0:DataW.trod en Tryd.prog w 0 sp held n0 3 ((cs.drop 0).take (Tryd.prog.cellsOf 3))=some y0:=g0
  rw[C_3] at g0
  obtain⟨a0,r0,w0⟩:=rd_3 _ _ _ g0
  obtain⟨n1,y1,g1⟩:=hf 1 _ rfl
  have g1:DataW.trod en Tryd.prog w 0 sp held n1 32 ((cs.drop 1).take (Tryd.prog.cellsOf 32))=some y1:=g1
  rw[zBu] at g1
  obtain⟨a1,r1,w1⟩:=zxT _ _ _ g1
  have z:cs.drop 3=[]:=dqO (by omega)
  have R:=(r0.append (r1.append (show RL (Rep (H0 w)) [] (cs.drop 3) by rw[z];exact zzY)))
  rw[<- (show cs.drop 1=(cs.drop 1).take 2 ++ cs.drop 3 from zai cs 1 2)] at R
  rw[<- (show cs.drop 0=(cs.drop 0).take 1 ++ cs.drop 1 from zai cs 0 1)] at R
  exact⟨⟨a0,a1⟩,R,⟨w0,w1⟩⟩
def zAf (x:(Sl Drift)):Prop:=x.len<=9223372036854775807/\∀ i,i < x.len->zwG (x.get i)
theorem zBU {H:Type}{en:TypeId×Value->H}{w:World}{sp:Nat->Bool}{held:Bool} : Rd H en Tryd.prog w sp held 33 zz1 zAf:=zgX Tryd.underlying33 zAb (by decide) (λ _=>rfl) zAe
def wf_25 (x:(Sl Int)):Prop:=x.len<=9223372036854775807/\∀ i,i < x.len->wf_3 (x.get i)
theorem rd_25 {H:Type}{en:TypeId×Value->H}{w:World}{sp:Nat->Bool}{held:Bool} : Rd H en Tryd.prog w sp held 25 zz2 wf_25:=zgX Tryd.underlying25 C_3 (by decide) (λ _=>rfl) rd_3
def zAg (x:Plane):Prop:=zAc x.Kind/\zAd x.View/\wf_3 x.Z/\wf_3 x.First/\wf_3 x.Pitch/\wf_3 x.Strips/\wf_3 x.Spill/\zvh x.Offset/\zvh x.Clock/\wf_3 x.Jitter/\wf_3 x.Least/\zAf x.Drift/\wf_25 x.Dead
theorem zBV {H:Type}{en:TypeId×Value->H}{w:World}{sp:Nat->Bool}{held:Bool} : Rd H en Tryd.prog w sp held 35 enc_35 zAg:=by
  intro fuel cs x h
  obtain⟨hl,hf⟩:=zdT Tryd.underlying35 h
  rw[zC0] at hl
  obtain⟨n0,y0,g0⟩:=hf 0 _ rfl
  have g0:DataW.trod en Tryd.prog w 0 sp held n0 29 ((cs.drop 0).take (Tryd.prog.cellsOf 29))=some y0:=g0
  rw[zDo] at g0
  obtain⟨a0,r0,w0⟩:=zBS _ _ _ g0
  obtain⟨n1,y1,g1⟩:=hf 1 _ rfl
  have g1:DataW.trod en Tryd.prog w 0 sp held n1 30 ((cs.drop 1).take (Tryd.prog.cellsOf 30))=some y1:=g1
  rw[zDp] at g1
  obtain⟨a1,r1,w1⟩:=zBT _ _ _ g1
  obtain⟨n2,y2,g2⟩:=hf 2 _ rfl
  have g2:DataW.trod en Tryd.prog w 0 sp held n2 3 ((cs.drop 2).take (Tryd.prog.cellsOf 3))=some y2:=g2
  rw[C_3] at g2
  obtain⟨a2,r2,w2⟩:=rd_3 _ _ _ g2
  obtain⟨n3,y3,g3⟩:=hf 3 _ rfl
  have g3:DataW.trod en Tryd.prog w 0 sp held n3 3 ((cs.drop 3).take (Tryd.prog.cellsOf 3))=some y3:=g3
  rw[C_3] at g3
  obtain⟨a3,r3,w3⟩:=rd_3 _ _ _ g3
  obtain⟨n4,y4,g4⟩:=hf 4 _ rfl
  have g4:DataW.trod en Tryd.prog w 0 sp held n4 3 ((cs.drop 4).take (Tryd.prog.cellsOf 3))=some y4:=g4
  rw[C_3] at g4
  obtain⟨a4,r4,w4⟩:=rd_3 _ _ _ g4
  obtain⟨n5,y5,g5⟩:=hf 5 _ rfl
  have g5:DataW.trod en Tryd.prog w 0 sp held n5 3 ((cs.drop 5).take (Tryd.prog.cellsOf 3))=some y5:=g5
  rw[C_3] at g5
  obtain⟨a5,r5,w5⟩:=rd_3 _ _ _ g5
  obtain⟨n6,y6,g6⟩:=hf 6 _ rfl
  have g6:DataW.trod en Tryd.prog w 0 sp held n6 3 ((cs.drop 6).take (Tryd.prog.cellsOf 3))=some y6:=g6
  rw[C_3] at g6
  obtain⟨a6,r6,w6⟩:=rd_3 _ _ _ g6
  obtain⟨n7,y7,g7⟩:=hf 7 _ rfl
  have g7:DataW.trod en Tryd.prog w 0 sp held n7 32 ((cs.drop 7).take (Tryd.prog.cellsOf 32))=some y7:=g7
  rw[zBu] at g7
  obtain⟨a7,r7,w7⟩:=zxT _ _ _ g7
  obtain⟨n8,y8,g8⟩:=hf 8 _ rfl
  have g8:DataW.trod en Tryd.prog w 0 sp held n8 32 ((cs.drop 9).take (Tryd.prog.cellsOf 32))=some y8:=g8
  rw[zBu] at g8
  obtain⟨a8,r8,w8⟩:=zxT _ _ _ g8
  obtain⟨n9,y9,g9⟩:=hf 9 _ rfl
  have g9:DataW.trod en Tryd.prog w 0 sp held n9 3 ((cs.drop 11).take (Tryd.prog.cellsOf 3))=some y9:=g9
  rw[C_3] at g9
  obtain⟨a9,r9,w9⟩:=rd_3 _ _ _ g9
  obtain⟨n10,y10,g10⟩:=hf 10 _ rfl
  have g10:DataW.trod en Tryd.prog w 0 sp held n10 3 ((cs.drop 12).take (Tryd.prog.cellsOf 3))=some y10:=g10
  rw[C_3] at g10
  obtain⟨a10,r10,w10⟩:=rd_3 _ _ _ g10
  obtain⟨n11,y11,g11⟩:=hf 11 _ rfl
  have g11:DataW.trod en Tryd.prog w 0 sp held n11 33 ((cs.drop 13).take (Tryd.prog.cellsOf 33))=some y11:=g11
  rw[zDq] at g11
  obtain⟨a11,r11,w11⟩:=zBU _ _ _ g11
  obtain⟨n12,y12,g12⟩:=hf 12 _ rfl
  have g12:DataW.trod en Tryd.prog w 0 sp held n12 25 ((cs.drop 14).take (Tryd.prog.cellsOf 25))=some y12:=g12
  rw[zDn] at g12
  obtain⟨a12,r12,w12⟩:=rd_25 _ _ _ g12
  have z:cs.drop 15=[]:=dqO (by omega)
  have R:=(r0.append (r1.append (r2.append (r3.append (r4.append (r5.append (r6.append (r7.append (r8.append (r9.append (r10.append (r11.append (r12.append (show RL (Rep (H0 w)) [] (cs.drop 15) by rw[z];exact zzY))))))))))))))
  rw[<- (show cs.drop 14=(cs.drop 14).take 1 ++ cs.drop 15 from zai cs 14 1)] at R
  rw[<- (show cs.drop 13=(cs.drop 13).take 1 ++ cs.drop 14 from zai cs 13 1)] at R
  rw[<- (show cs.drop 12=(cs.drop 12).take 1 ++ cs.drop 13 from zai cs 12 1)] at R
  rw[<- (show cs.drop 11=(cs.drop 11).take 1 ++ cs.drop 12 from zai cs 11 1)] at R
  rw[<- (show cs.drop 9=(cs.drop 9).take 2 ++ cs.drop 11 from zai cs 9 2)] at R
  rw[<- (show cs.drop 7=(cs.drop 7).take 2 ++ cs.drop 9 from zai cs 7 2)] at R
  rw[<- (show cs.drop 6=(cs.drop 6).take 1 ++ cs.drop 7 from zai cs 6 1)] at R
  rw[<- (show cs.drop 5=(cs.drop 5).take 1 ++ cs.drop 6 from zai cs 5 1)] at R
  rw[<- (show cs.drop 4=(cs.drop 4).take 1 ++ cs.drop 5 from zai cs 4 1)] at R
  rw[<- (show cs.drop 3=(cs.drop 3).take 1 ++ cs.drop 4 from zai cs 3 1)] at R
  rw[<- (show cs.drop 2=(cs.drop 2).take 1 ++ cs.drop 3 from zai cs 2 1)] at R
  rw[<- (show cs.drop 1=(cs.drop 1).take 1 ++ cs.drop 2 from zai cs 1 1)] at R
  rw[<- (show cs.drop 0=(cs.drop 0).take 1 ++ cs.drop 1 from zai cs 0 1)] at R
  exact⟨⟨a0,a1,a2,a3,a4,a5,a6,a7,a8,a9,a10,a11,a12⟩,R,⟨w0,w1,w2,w3,w4,w5,w6,w7,w8,w9,w10,w11,w12⟩⟩
def zAh (x:(Sl Plane)):Prop:=x.len<=9223372036854775807/\∀ i,i < x.len->zAg (x.get i)
theorem zBW {H:Type}{en:TypeId×Value->H}{w:World}{sp:Nat->Bool}{held:Bool} : Rd H en Tryd.prog w sp held 22 zz4 zAh:=zgX Tryd.underlying22 zC0 (by decide) (λ _=>rfl) zBV
def wf_24 (x:Setup):Prop:=zAh x.Planes
theorem rd_24 {H:Type}{en:TypeId×Value->H}{w:World}{sp:Nat->Bool}{held:Bool} : Rd H en Tryd.prog w sp held 24 enc_24 wf_24:=by
  intro fuel cs x h
  obtain⟨hl,hf⟩:=zdT Tryd.underlying24 h
  rw[zDm] at hl
  obtain⟨n0,y0,g0⟩:=hf 0 _ rfl
  have g0:DataW.trod en Tryd.prog w 0 sp held n0 22 ((cs.drop 0).take (Tryd.prog.cellsOf 22))=some y0:=g0
  rw[zDl] at g0
  obtain⟨a0,r0,w0⟩:=zBW _ _ _ g0
  have z:cs.drop 1=[]:=dqO (by omega)
  have R:=(r0.append (show RL (Rep (H0 w)) [] (cs.drop 1) by rw[z];exact zzY))
  rw[<- (show cs.drop 0=(cs.drop 0).take 1 ++ cs.drop 1 from zai cs 0 1)] at R
  exact⟨⟨a0⟩,R,w0⟩
def zAi (x:Flown):Prop:=wf_3 x.A/\wf_3 x.B/\wf_3 x.Time/\wf_3 x.Flight/\wf_3 x.WrongA/\wf_3 x.WrongB
theorem zBX {H:Type}{en:TypeId×Value->H}{w:World}{sp:Nat->Bool}{held:Bool} : Rd H en Tryd.prog w sp held 39 enc_39 zAi:=by
  intro fuel cs x h
  obtain⟨hl,hf⟩:=zdT Tryd.underlying39 h
  rw[zC1] at hl
  obtain⟨n0,y0,g0⟩:=hf 0 _ rfl
  have g0:DataW.trod en Tryd.prog w 0 sp held n0 3 ((cs.drop 0).take (Tryd.prog.cellsOf 3))=some y0:=g0
  rw[C_3] at g0
  obtain⟨a0,r0,w0⟩:=rd_3 _ _ _ g0
  obtain⟨n1,y1,g1⟩:=hf 1 _ rfl
  have g1:DataW.trod en Tryd.prog w 0 sp held n1 3 ((cs.drop 1).take (Tryd.prog.cellsOf 3))=some y1:=g1
  rw[C_3] at g1
  obtain⟨a1,r1,w1⟩:=rd_3 _ _ _ g1
  obtain⟨n2,y2,g2⟩:=hf 2 _ rfl
  have g2:DataW.trod en Tryd.prog w 0 sp held n2 3 ((cs.drop 2).take (Tryd.prog.cellsOf 3))=some y2:=g2
  rw[C_3] at g2
  obtain⟨a2,r2,w2⟩:=rd_3 _ _ _ g2
  obtain⟨n3,y3,g3⟩:=hf 3 _ rfl
  have g3:DataW.trod en Tryd.prog w 0 sp held n3 3 ((cs.drop 3).take (Tryd.prog.cellsOf 3))=some y3:=g3
  rw[C_3] at g3
  obtain⟨a3,r3,w3⟩:=rd_3 _ _ _ g3
  obtain⟨n4,y4,g4⟩:=hf 4 _ rfl
  have g4:DataW.trod en Tryd.prog w 0 sp held n4 3 ((cs.drop 4).take (Tryd.prog.cellsOf 3))=some y4:=g4
  rw[C_3] at g4
  obtain⟨a4,r4,w4⟩:=rd_3 _ _ _ g4
  obtain⟨n5,y5,g5⟩:=hf 5 _ rfl
  have g5:DataW.trod en Tryd.prog w 0 sp held n5 3 ((cs.drop 5).take (Tryd.prog.cellsOf 3))=some y5:=g5
  rw[C_3] at g5
  obtain⟨a5,r5,w5⟩:=rd_3 _ _ _ g5
  have z:cs.drop 6=[]:=dqO (by omega)
  have R:=(r0.append (r1.append (r2.append (r3.append (r4.append (r5.append (show RL (Rep (H0 w)) [] (cs.drop 6) by rw[z];exact zzY)))))))
  rw[<- (show cs.drop 5=(cs.drop 5).take 1 ++ cs.drop 6 from zai cs 5 1)] at R
  rw[<- (show cs.drop 4=(cs.drop 4).take 1 ++ cs.drop 5 from zai cs 4 1)] at R
  rw[<- (show cs.drop 3=(cs.drop 3).take 1 ++ cs.drop 4 from zai cs 3 1)] at R
  rw[<- (show cs.drop 2=(cs.drop 2).take 1 ++ cs.drop 3 from zai cs 2 1)] at R
  rw[<- (show cs.drop 1=(cs.drop 1).take 1 ++ cs.drop 2 from zai cs 1 1)] at R
  rw[<- (show cs.drop 0=(cs.drop 0).take 1 ++ cs.drop 1 from zai cs 0 1)] at R
  exact⟨⟨a0,a1,a2,a3,a4,a5⟩,R,⟨w0,w1,w2,w3,w4,w5⟩⟩
def wf_26 (x:(Sl Flown)):Prop:=x.len<=9223372036854775807/\∀ i,i < x.len->zAi (x.get i)
theorem rd_26 {H:Type}{en:TypeId×Value->H}{w:World}{sp:Nat->Bool}{held:Bool} : Rd H en Tryd.prog w sp held 26 zz6 wf_26:=zgX Tryd.underlying26 zC1 (by decide) (λ _=>rfl) zBX
end Go.Proofs
namespace Go.Proofs
open Go Go.Pm
set_option maxRecDepth 100000
set_option linter.unusedVariables false
attribute [local irreducible] Go.Pm.vcFun Go.Pm.vc Go.Pm.vcIter
section
variable {K:List PA->Prop}{n:Int}{low:Int}{high:Int}
def s31 (n:Int) (low:Int) (high:Int):Bool :=
  (cond (decide (n >= low))
 (decide (n<=high))
 false)
end
def zBY : List PA → COut
  | [.one (.int .i64 a0),.one (.int .i64 a1),.one (.int .i64 a2)]=>.tot [.one (.bool (s31 a0 a1 a2))]
  | _=>.no
abbrev T59:Tabs:=(Tabs.nil.addF 31 zBY)
abbrev G59:Ctrs:=csm T59 (λ _ _=>[]) (λ _=>false)
def zBZ:Ann:=⟨55,[(0,zK [1,2] [2]),(1,zK [1,2,5] [2]),(2,zK [1,2,5,6] [2]),(3,zK [4] [])],
 [],
 [(2,zK [1,2,5] [2]),(3,zK [1,2,5,6] [2])],
 [],[]⟩
@[irreducible] def z59:=ptF Tryd.prog G59 zBZ Tryd.f59
section
variable {K:List PA->Prop}{t:Tie}{nodes:Int}{zr7:Bool}{zwH:Bool}
def znU (t:Tie) (nodes:Int) (zr7:Bool) (zwH:Bool):Bool :=
  (cond (s31 t.From (0:Int) (w64 (nodes - (1:Int))))
 (cond (s31 t.To (0:Int) (w64 (nodes - (1:Int))))
 (cond (t.From != t.To)
 (cond zr7
 (cond zwH
 (decide (t.Low<=t.High))
 false)
 false)
 false)
 false)
 false)
def znV (t:Tie) (nodes:Int) (zr7:Bool):Bool :=
  (cond (t.High == (1000000000000:Int))
 (znU t nodes zr7 true)
 (znU t nodes zr7 (s31 t.High (-1000000000:Int) (1000000000:Int))))
def s59 (t:Tie) (nodes:Int):Bool :=
  (cond (t.Low == (-1000000000000:Int))
 (znV t nodes true)
 (znV t nodes (s31 t.Low (-1000000000:Int) (1000000000:Int))))
end
section
variable {K:List PA->Prop}{n:Net}{zek:Int}{X0:St->Prop}{P0:Int->Bool}{S0:Int->Bool}{zun:Int}{zvi:Bool}
def zr8 (S0:Int->Bool) (n:Net) (zun:Int) (zvi:Bool):Bool :=
  (cond zvi
 false
 (S0 (w64 (zun+(1:Int)))))
def zr9 (P0:Int->Bool) (n:Net) (zun:Int) (zvi:Bool):Bool :=
  (cond zvi
 true
 (P0 (w64 (zun+(1:Int)))))
def zh0 (n:Net) (S0:Int->Bool) (zek:Int):Bool :=
  (cond (decide (zek < (n.Ties.len : Int)))
 (zr8 S0 n zek (!(s59 (n.Ties.get zek.toNat) n.Nodes)))
 (cond (s31 n.Nodes (1:Int) (40:Int))
 (decide ((n.Ties.len:Int)<=(200:Int)))
 false))
def zh1 (n:Net) (P0:Int->Bool) (zek:Int):Bool :=
  (cond (decide (zek < (n.Ties.len : Int)))
 (decide ((0<=zek/\zek < (n.Ties.len:Int))) &&
 (zr9 P0 n zek (!(s59 (n.Ties.get zek.toNat) n.Nodes))))
 true)
def zh2 (n:Net):Nat->Int->Bool:=lpO (λ _=>default) (zh0 n)
def zh3 (n:Net):Nat->Int->Bool:=lpO (λ _=>false) (zh1 n)
def zxU (n:Net) (zek:Int):Bool:=zh2 n Fuel zek
def zxV (n:Net) (zek:Int):Bool:=zh3 n Fuel zek
def s32 (n:Net):Bool :=
  (zxU n (0:Int))
def p32 (n:Net):Bool :=
  (zxV n (0:Int))
end
section
variable {K:List PA->Prop}{c0:Span}{r_a0:FluxRow}
end
section
variable {K:List PA->Prop}{n:Int}{low:Int}{high:Int}
end
section
variable {K:List PA->Prop}{s:Span}{low:Int}{high:Int}
end
section
variable {K:List PA->Prop}{r_a0:FluxRow}
end
section
variable {K:List PA->Prop}{r_a0:FluxRow}
end
section
variable {K:List PA->Prop}{a:Span}{b:Span}
end
section
variable {K:List PA->Prop}{a:Span}{b:Span}
end
section
variable {K:List PA->Prop}{rows:(Sl FluxRow)}{zy4:Int}{until_a2:Int}{most:Int}{zB0:Int}{X0:St->Prop}{P0:Int->Bool}{S0:Int->Bool}{iv1:Int}{zB1:Int}{zB2:Bool}{zB3:Int}{zB4:Int}{zB5:Int}{iv2:Int}{zB6:Int}{zB7:Int}{zB8:Int}{zB9:Int}{zCa:Int}{zCb:Bool}
end
section
variable {K:List PA->Prop}{s:Sky}{zDy:(Sl (Sl FluxRow))}{zkO:Int}{zek:Int}{zDr:(Sl (Sl FluxRow))}{zC2:Nat->List PV}{zCc:Nat->List PV}{X0:St->Prop}{P0:(Sl (Sl FluxRow))->Int->Int->(Sl (Sl FluxRow))->Bool}{S0:(Sl (Sl FluxRow))->Int->Int->(Sl (Sl FluxRow))->Bool}{zDz:(Sl (Sl FluxRow))}{zAj:Int}{zun:Int}{zDs:Bool}{zDt:(Sl (Sl FluxRow))}{zC3:Nat->List PV}{zCd:Nat->List PV}{zDu:(Sl (Sl FluxRow))}{zCe:Nat->List PV}
end
section
variable {K:List PA->Prop}{r_a0:RangeRow}
end
section
variable {K:List PA->Prop}{r_a0:RangeRow}
end
section
variable {K:List PA->Prop}{rows:(Sl RangeRow)}{zy4:Int}{until_a2:Int}{most:Int}{zB0:Int}{X0:St->Prop}{P0:Int->Bool}{S0:Int->Bool}{iv1:Int}{zB1:Int}{zB2:Bool}{zB3:Int}{zB4:Int}{zB5:Int}{iv2:Int}{zB6:Int}{zB7:Int}{zB8:Int}{zB9:Int}{zCa:Int}{zCb:Bool}
end
abbrev T81:Tabs:=Tabs.nil
abbrev G81:Ctrs:=csm T81 (λ _ _=>[]) (λ _=>false)
def zCf:Ann:=⟨32,[(0,zK [0,1,7,8] []),(1,zK [0,1,7,8,9] []),(2,zK [0,1,3,7,8] []),(3,zK [0,1,3,4,7,8] [12]),(4,zK [0,1,3,4,7,8,14,15] [12]),(5,zK [0,1,3,4,7,8,14,15,16] [12]),(6,zK [0,1,3,4,5,7,8,14,15] [12]),(7,zK [0,1,3,4,7,8,14,15] [12]),(8,zK [0,1,3,4,7,8,14,15] [12]),(9,zK [0,1,7,8,30] []),(10,zK [0,1,7,8] [])],
 [(1,zK [0,1,7,8] [])],
 [(9,⟨[0,1,4,7,8],[],[],[],[],[],[(4,1,λ _=>zBQ default)]⟩)],
 [(5,5,zK [0,1,3,4,7,8,14,15] [12])],[9]⟩
def zAk (l:Nat) (zek:Int):St:=⟨[(0,.one (.c (.p (.yl l)))),(1,.one (.c (.p (.fp [.int .i64 (4:Int)] 0)))),(7,.one (.c (.p (.int .i64 (zBC .i64 (1:Int) (4:Int)))))),(8,.one (.c (.p (.int .i64 zek))))],[],[]⟩
def zxW (l:Nat) (ys:List (List PA)) (zek:Int):Prop:=vcY Tryd.prog G81 zCf l (cdF Tryd.f81 [1,0]) (zqI 0 zxk) ys false (zAk l zek)
attribute [irreducible] zxW
section
variable {K:List PA->Prop}{x:Int}{low:Int}{high:Int}
def s23 (x:Int) (low:Int) (high:Int):Bool :=
  (cond (decide (x >= low))
 (decide (x<=high))
 false)
end
section
variable {K:List PA->Prop}{x:Int}
def s51 (x:Int):Bool :=
  (s23 x (-1000000:Int) (1000000:Int))
end
section
variable {K:List PA->Prop}{l_a0:(Sl Drift)}{pitch:Int}{iv0:Int}{X0:St->Prop}{P0:Int->Bool}{S0:Int->Bool}{iv1:Int}{zvj:Bool}{zkP:Int}{zkQ:Int}{zkR:Int}{iv2:Int}{zkS:Int}{zkT:Int}{zkU:Int}
def zsa (S0:Int->Bool) (l_a0:(Sl Drift)) (pitch:Int) (iv2:Int) (zkS:Int) (zkT:Int) (zkU:Int):Bool :=
  (cond (decide (iv2 > (0:Int)))
 (cond (decide (zkS <= (l_a0.get ((w64 (iv2 - (1:Int))).toNat)).Time))
 false
 (cond (decide (zkT < (l_a0.get ((w64 (iv2 - (1:Int))).toNat)).Radius.Low))
 false
 (cond (decide (zkU < (l_a0.get ((w64 (iv2 - (1:Int))).toNat)).Radius.High))
 false
 (S0 (w64 (iv2+(1:Int)))))))
 (S0 (w64 (iv2+(1:Int)))))
def zsb (P0:Int->Bool) (l_a0:(Sl Drift)) (pitch:Int) (iv2:Int) (zkS:Int) (zkT:Int) (zkU:Int):Bool :=
  (cond (decide (iv2 > (0:Int)))
 (decide ((0<=(w64 (iv2 - (1:Int)))/\(w64 (iv2 - (1:Int))) < (l_a0.len:Int))) &&
 (cond (decide (zkS <= (l_a0.get ((w64 (iv2 - (1:Int))).toNat)).Time))
 true
 (decide ((0<=(w64 (iv2 - (1:Int)))/\(w64 (iv2 - (1:Int))) < (l_a0.len:Int))) &&
 (cond (decide (zkT < (l_a0.get ((w64 (iv2 - (1:Int))).toNat)).Radius.Low))
 true
 (decide ((0<=(w64 (iv2 - (1:Int)))/\(w64 (iv2 - (1:Int))) < (l_a0.len:Int))) &&
 (cond (decide (zkU < (l_a0.get ((w64 (iv2 - (1:Int))).toNat)).Radius.High))
 true
 (P0 (w64 (iv2+(1:Int))))))))))
 (P0 (w64 (iv2+(1:Int)))))
def zh4 (S0:Int->Bool) (l_a0:(Sl Drift)) (pitch:Int) (iv1:Int) (zvj:Bool) (zkP:Int) (zkQ:Int) (zkR:Int):Bool :=
  (cond zvj
 false
 (zsa S0 l_a0 pitch iv1 zkP zkQ zkR))
def zh5 (P0:Int->Bool) (l_a0:(Sl Drift)) (pitch:Int) (iv1:Int) (zvj:Bool) (zkP:Int) (zkQ:Int) (zkR:Int):Bool :=
  (cond zvj
 true
 (zsb P0 l_a0 pitch iv1 zkP zkQ zkR))
def zh6 (l_a0:(Sl Drift)) (pitch:Int) (S0:Int->Bool) (iv0:Int):Bool :=
  (cond (decide (iv0 < (l_a0.len : Int)))
 (cond (!(s23 ((l_a0.get iv0.toNat).Time) (0:Int) (1000000:Int)))
 (zh4 S0 l_a0 pitch iv0 true ((l_a0.get iv0.toNat).Time) ((l_a0.get iv0.toNat).Radius.Low) ((l_a0.get iv0.toNat).Radius.High))
 (cond (decide ((l_a0.get iv0.toNat).Radius.Low < (0:Int)))
 (zh4 S0 l_a0 pitch iv0 true ((l_a0.get iv0.toNat).Time) ((l_a0.get iv0.toNat).Radius.Low) ((l_a0.get iv0.toNat).Radius.High))
 (cond (decide ((l_a0.get iv0.toNat).Radius.Low > (l_a0.get iv0.toNat).Radius.High))
 (zh4 S0 l_a0 pitch iv0 true ((l_a0.get iv0.toNat).Time) ((l_a0.get iv0.toNat).Radius.Low) ((l_a0.get iv0.toNat).Radius.High))
 (zh4 S0 l_a0 pitch iv0 (decide ((l_a0.get iv0.toNat).Radius.High > (w64 (pitch.tdiv (2:Int))))) ((l_a0.get iv0.toNat).Time) ((l_a0.get iv0.toNat).Radius.Low) ((l_a0.get iv0.toNat).Radius.High)))))
 (s23 (l_a0.len:Int) (1:Int) (50:Int)))
def zh7 (l_a0:(Sl Drift)) (pitch:Int) (P0:Int->Bool) (iv0:Int):Bool :=
  (cond (decide (iv0 < (l_a0.len : Int)))
 (decide ((0<=iv0/\iv0 < (l_a0.len:Int))) &&
 (cond (!(s23 ((l_a0.get iv0.toNat).Time) (0:Int) (1000000:Int)))
 (zh5 P0 l_a0 pitch iv0 true ((l_a0.get iv0.toNat).Time) ((l_a0.get iv0.toNat).Radius.Low) ((l_a0.get iv0.toNat).Radius.High))
 (cond (decide ((l_a0.get iv0.toNat).Radius.Low < (0:Int)))
 (zh5 P0 l_a0 pitch iv0 true ((l_a0.get iv0.toNat).Time) ((l_a0.get iv0.toNat).Radius.Low) ((l_a0.get iv0.toNat).Radius.High))
 (cond (decide ((l_a0.get iv0.toNat).Radius.Low > (l_a0.get iv0.toNat).Radius.High))
 (zh5 P0 l_a0 pitch iv0 true ((l_a0.get iv0.toNat).Time) ((l_a0.get iv0.toNat).Radius.Low) ((l_a0.get iv0.toNat).Radius.High))
 (decide (((2:Int) ≠ 0)) &&
 (zh5 P0 l_a0 pitch iv0 (decide ((l_a0.get iv0.toNat).Radius.High > (w64 (pitch.tdiv (2:Int))))) ((l_a0.get iv0.toNat).Time) ((l_a0.get iv0.toNat).Radius.Low) ((l_a0.get iv0.toNat).Radius.High)))))))
 true)
def zf2 (l_a0:(Sl Drift)) (pitch:Int):Nat->Int->Bool:=lpO (λ _=>default) (zh6 l_a0 pitch)
def zf3 (l_a0:(Sl Drift)) (pitch:Int):Nat->Int->Bool:=lpO (λ _=>false) (zh7 l_a0 pitch)
def zxX (l_a0:(Sl Drift)) (pitch:Int) (iv0:Int):Bool:=zf2 l_a0 pitch Fuel iv0
def zxY (l_a0:(Sl Drift)) (pitch:Int) (iv0:Int):Bool:=zf3 l_a0 pitch Fuel iv0
def s52 (l_a0:(Sl Drift)) (pitch:Int):Bool :=
  (zxX l_a0 pitch (0:Int))
def p52 (l_a0:(Sl Drift)) (pitch:Int):Bool :=
  (zxY l_a0 pitch (0:Int))
end
section
variable {K:List PA->Prop}{p:Plane}{zvk:Bool}{zvl:Bool}{zpf:Bool}{zpg:Bool}{iv9:Int}{X9:St->Prop}{P9:Int->Bool}{S9:Int->Bool}{zqs:Int}{zkV:Bool}
def zgY (S9:Int->Bool) (p:Plane) (zqs:Int) (zkV:Bool):Bool :=
  (cond zkV
 false
 (S9 (w64 (zqs+(1:Int)))))
def zgZ (P9:Int->Bool) (p:Plane) (zqs:Int) (zkV:Bool):Bool :=
  (cond zkV
 true
 (P9 (w64 (zqs+(1:Int)))))
def zh8 (p:Plane) (S9:Int->Bool) (iv9:Int):Bool :=
  (cond (decide (iv9 < (p.Dead.len : Int)))
 (cond (!(s23 (p.Dead.get iv9.toNat) (0:Int) (w64 (p.Strips - (1:Int)))))
 (zgY S9 p iv9 true)
 (cond (decide (iv9 > (0:Int)))
 (zgY S9 p iv9 (decide ((p.Dead.get iv9.toNat)<=(p.Dead.get ((w64 (iv9 - (1:Int))).toNat)))))
 (zgY S9 p iv9 false)))
 true)
def zh9 (p:Plane) (P9:Int->Bool) (iv9:Int):Bool :=
  (cond (decide (iv9 < (p.Dead.len : Int)))
 (decide ((0<=iv9/\iv9 < (p.Dead.len:Int))) &&
 (cond (!(s23 (p.Dead.get iv9.toNat) (0:Int) (w64 (p.Strips - (1:Int)))))
 (zgZ P9 p iv9 true)
 (cond (decide (iv9 > (0:Int)))
 (decide ((0<=iv9/\iv9 < (p.Dead.len:Int))) &&
 (decide ((0<=(w64 (iv9 - (1:Int)))/\(w64 (iv9 - (1:Int))) < (p.Dead.len:Int))) &&
 (zgZ P9 p iv9 (decide ((p.Dead.get iv9.toNat)<=(p.Dead.get ((w64 (iv9 - (1:Int))).toNat)))))))
 (zgZ P9 p iv9 false))))
 true)
def zf4 (p:Plane):Nat->Int->Bool:=lpO (λ _=>default) (zh8 p)
def zf5 (p:Plane):Nat->Int->Bool:=lpO (λ _=>false) (zh9 p)
def zxZ (p:Plane) (iv9:Int):Bool:=zf4 p Fuel iv9
def zx0 (p:Plane) (iv9:Int):Bool:=zf5 p Fuel iv9
def znW (p:Plane):Bool :=
  (zxZ p (0:Int))
def zsc (p:Plane):Bool :=
  (zx0 p (0:Int))
def zdU (p:Plane) (zpg:Bool):Bool :=
  (cond zpg
 false
 (znW p))
def zdy (p:Plane) (zpg:Bool):Bool :=
  (cond zpg
 true
 (zsc p))
def zsd (p:Plane):Bool :=
  (cond (p.Kind == (2:Int))
 (cond (!(s52 p.Drift p.Pitch))
 (zdU p true)
 (cond (p.Kind != (2:Int))
 (cond (decide ((p.Drift.len : Int) > (0:Int)))
 (zdU p true)
 (zdU p (decide ((p.Dead.len:Int) > (100:Int)))))
 (zdU p (decide ((p.Dead.len:Int) > (100:Int))))))
 (cond (p.Kind != (2:Int))
 (cond (decide ((p.Drift.len : Int) > (0:Int)))
 (zdU p true)
 (zdU p (decide ((p.Dead.len:Int) > (100:Int)))))
 (zdU p (decide ((p.Dead.len:Int) > (100:Int))))))
def znX (p:Plane):Bool :=
  (cond (p.Kind == (2:Int))
 (decide ((p52 p.Drift p.Pitch=true)) &&
 (cond (!(s52 p.Drift p.Pitch))
 (zdy p true)
 (cond (p.Kind != (2:Int))
 (cond (decide ((p.Drift.len : Int) > (0:Int)))
 (zdy p true)
 (zdy p (decide ((p.Dead.len:Int) > (100:Int)))))
 (zdy p (decide ((p.Dead.len:Int) > (100:Int)))))))
 (cond (p.Kind != (2:Int))
 (cond (decide ((p.Drift.len : Int) > (0:Int)))
 (zdy p true)
 (zdy p (decide ((p.Dead.len:Int) > (100:Int)))))
 (zdy p (decide ((p.Dead.len:Int) > (100:Int))))))
def zia (p:Plane) (zpf:Bool):Bool :=
  (cond zpf
 false
 (zsd p))
def zf6 (p:Plane) (zpf:Bool):Bool :=
  (cond zpf
 true
 (znX p))
def zse (p:Plane):Bool :=
  (cond (!(s23 p.Jitter (0:Int) (1000000:Int)))
 (zia p true)
 (cond (!(s23 p.Least (0:Int) (1000000:Int)))
 (zia p true)
 (cond (!(s51 (w64 ((w64 ((w64 (p.First - p.Pitch)) - p.Spill)) + p.Offset.Low))))
 (zia p true)
 (zia p (!(s51 (w64 ((w64 ((w64 (p.First+(w64 ((w64 (p.Strips+(1:Int))) * p.Pitch))))+p.Spill))+p.Offset.High))))))))
def znY (p:Plane):Bool :=
  (cond (!(s23 p.Jitter (0:Int) (1000000:Int)))
 (zf6 p true)
 (cond (!(s23 p.Least (0:Int) (1000000:Int)))
 (zf6 p true)
 (cond (!(s51 (w64 ((w64 ((w64 (p.First - p.Pitch)) - p.Spill)) + p.Offset.Low))))
 (zf6 p true)
 (zf6 p (!(s51 (w64 ((w64 ((w64 (p.First+(w64 ((w64 (p.Strips+(1:Int))) * p.Pitch))))+p.Spill))+p.Offset.High))))))))
def zeR (p:Plane) (zvl:Bool):Bool :=
  (cond zvl
 false
 (zse p))
def zdV (p:Plane) (zvl:Bool):Bool :=
  (cond zvl
 true
 (znY p))
def zsf (p:Plane):Bool :=
  (cond (!(s51 p.Offset.Low))
 (zeR p true)
 (cond (!(s51 p.Offset.High))
 (zeR p true)
 (cond (decide (p.Offset.Low > p.Offset.High))
 (zeR p true)
 (cond (!(s23 p.Clock.Low (-1000000000:Int) (1000000000:Int)))
 (zeR p true)
 (cond (!(s23 p.Clock.High (-1000000000:Int) (1000000000:Int)))
 (zeR p true)
 (zeR p (decide (p.Clock.Low > p.Clock.High))))))))
def znZ (p:Plane):Bool :=
  (cond (!(s51 p.Offset.Low))
 (zdV p true)
 (cond (!(s51 p.Offset.High))
 (zdV p true)
 (cond (decide (p.Offset.Low > p.Offset.High))
 (zdV p true)
 (cond (!(s23 p.Clock.Low (-1000000000:Int) (1000000000:Int)))
 (zdV p true)
 (cond (!(s23 p.Clock.High (-1000000000:Int) (1000000000:Int)))
 (zdV p true)
 (zdV p (decide (p.Clock.Low > p.Clock.High))))))))
def zbb (p:Plane) (zvk:Bool):Bool :=
  (cond zvk
 false
 (zsf p))
def zbO (p:Plane) (zvk:Bool):Bool :=
  (cond zvk
 true
 (znZ p))
def zsg (p:Plane):Bool :=
  (cond (decide (p.Kind < (1:Int)))
 (zbb p true)
 (cond (decide (p.Kind > (3:Int)))
 (zbb p true)
 (cond (p.View != (1:Int))
 (cond (p.View != (2:Int))
 (zbb p true)
 (cond (!(s23 p.Z (0:Int) (100000:Int)))
 (zbb p true)
 (cond (!(s51 p.First))
 (zbb p true)
 (cond (!(s23 p.Pitch (2:Int) (100000:Int)))
 (zbb p true)
 (cond (!(s23 p.Strips (1:Int) (2000:Int)))
 (zbb p true)
 (zbb p (!(s23 p.Spill (0:Int) (100000:Int)))))))))
 (cond (!(s23 p.Z (0:Int) (100000:Int)))
 (zbb p true)
 (cond (!(s51 p.First))
 (zbb p true)
 (cond (!(s23 p.Pitch (2:Int) (100000:Int)))
 (zbb p true)
 (cond (!(s23 p.Strips (1:Int) (2000:Int)))
 (zbb p true)
 (zbb p (!(s23 p.Spill (0:Int) (100000:Int)))))))))))
def zsh (p:Plane):Bool :=
  (cond (decide (p.Kind < (1:Int)))
 (zbO p true)
 (cond (decide (p.Kind > (3:Int)))
 (zbO p true)
 (cond (p.View != (1:Int))
 (cond (p.View != (2:Int))
 (zbO p true)
 (cond (!(s23 p.Z (0:Int) (100000:Int)))
 (zbO p true)
 (cond (!(s51 p.First))
 (zbO p true)
 (cond (!(s23 p.Pitch (2:Int) (100000:Int)))
 (zbO p true)
 (cond (!(s23 p.Strips (1:Int) (2000:Int)))
 (zbO p true)
 (zbO p (!(s23 p.Spill (0:Int) (100000:Int)))))))))
 (cond (!(s23 p.Z (0:Int) (100000:Int)))
 (zbO p true)
 (cond (!(s51 p.First))
 (zbO p true)
 (cond (!(s23 p.Pitch (2:Int) (100000:Int)))
 (zbO p true)
 (cond (!(s23 p.Strips (1:Int) (2000:Int)))
 (zbO p true)
 (zbO p (!(s23 p.Spill (0:Int) (100000:Int)))))))))))
def s24 (p:Plane):Bool :=
  (zsg p)
def p24 (p:Plane):Bool :=
  (zsh p)
end
section
variable {K:List PA->Prop}{p:Plane}{channel:Int}{iv0:Int}{X0:St->Prop}{P0:Int->Bool}{S0:Int->Bool}
def zib (p:Plane) (channel:Int) (S0:Int->Bool) (iv0:Int):Bool :=
  (cond (decide (iv0 < (p.Dead.len : Int)))
 (cond ((p.Dead.get iv0.toNat) == channel)
 true
 (S0 (w64 (iv0+(1:Int)))))
 false)
def zic (p:Plane) (channel:Int) (P0:Int->Bool) (iv0:Int):Bool :=
  (cond (decide (iv0 < (p.Dead.len : Int)))
 (decide ((0<=iv0/\iv0 < (p.Dead.len:Int))) &&
 (cond ((p.Dead.get iv0.toNat) == channel)
 true
 (P0 (w64 (iv0+(1:Int))))))
 true)
def zeS (p:Plane) (channel:Int):Nat->Int->Bool:=lpO (λ _=>default) (zib p channel)
def zf7 (p:Plane) (channel:Int):Nat->Int->Bool:=lpO (λ _=>false) (zic p channel)
def zsi (p:Plane) (channel:Int) (iv0:Int):Bool:=zeS p channel Fuel iv0
def zsj (p:Plane) (channel:Int) (iv0:Int):Bool:=zf7 p channel Fuel iv0
def s30 (p:Plane) (channel:Int):Bool :=
  (zsi p channel (0:Int))
def p30 (p:Plane) (channel:Int):Bool :=
  (zsj p channel (0:Int))
end
def zx1 : List PA → COut
  | [.one (.fp [.int .i64 zgw,.sl zfv zkW zdz,.fm zvm zph zpi] 0)]=>.det (IsE zdg 4 zkW zdz/\zvm=(false,1,false,[none])) [.one (.fn 82 [] [.fp [.fp (zr5 (⟨(⟨(⟨zgw,(⟨zfv,zkN zdz⟩:(Sl Tie))⟩:Net),(⟨zph,zpi⟩:Mp)⟩:web).Net,((⟨(⟨zgw,(⟨zfv,zkN zdz⟩:(Sl Tie))⟩:Net),(⟨zph,zpi⟩:Mp)⟩:web).out)⟩:web)) 0] 0])]
  | _=>.no
section
variable {K:List PA->Prop}{t:tie}
def s83 (t:tie):(step×Bool) :=
  ((⟨(⟨t.index,false⟩:Use),t.Tie.From,t.Tie.To,t.Tie.High⟩:step),(t.Tie.High != (1000000000000:Int)))
end
def zCg : List PA → COut
  | [.agg [.int .i64 zaE,.int .i64 za1,.int .i64 zaQ,.int .i64 zaF,.int .i64 zbt]]=>.tot [.agg [.int .i64 (((s83 (⟨(⟨zaE,za1,zaQ,zaF⟩:Tie),zbt⟩:tie)).1).Use.Tie),.bool (((s83 (⟨(⟨zaE,za1,zaQ,zaF⟩:Tie),zbt⟩:tie)).1).Use.Back),.int .i64 (((s83 (⟨(⟨zaE,za1,zaQ,zaF⟩:Tie),zbt⟩:tie)).1).from_),.int .i64 (((s83 (⟨(⟨zaE,za1,zaQ,zaF⟩:Tie),zbt⟩:tie)).1).to),.int .i64 (((s83 (⟨(⟨zaE,za1,zaQ,zaF⟩:Tie),zbt⟩:tie)).1).length)],.one (.bool ((s83 (⟨(⟨zaE,za1,zaQ,zaF⟩:Tie),zbt⟩:tie)).2))]
  | _=>.no
section
variable {K:List PA->Prop}{t:tie}
def s84 (t:tie):(step×Bool) :=
  ((⟨(⟨t.index,true⟩:Use),t.Tie.To,t.Tie.From,(w64 (0 - t.Tie.Low))⟩:step),(t.Tie.Low != (-1000000000000:Int)))
end
def zCh : List PA → COut
  | [.agg [.int .i64 zaE,.int .i64 za1,.int .i64 zaQ,.int .i64 zaF,.int .i64 zbt]]=>.tot [.agg [.int .i64 (((s84 (⟨(⟨zaE,za1,zaQ,zaF⟩:Tie),zbt⟩:tie)).1).Use.Tie),.bool (((s84 (⟨(⟨zaE,za1,zaQ,zaF⟩:Tie),zbt⟩:tie)).1).Use.Back),.int .i64 (((s84 (⟨(⟨zaE,za1,zaQ,zaF⟩:Tie),zbt⟩:tie)).1).from_),.int .i64 (((s84 (⟨(⟨zaE,za1,zaQ,zaF⟩:Tie),zbt⟩:tie)).1).to),.int .i64 (((s84 (⟨(⟨zaE,za1,zaQ,zaF⟩:Tie),zbt⟩:tie)).1).length)],.one (.bool ((s84 (⟨(⟨zaE,za1,zaQ,zaF⟩:Tie),zbt⟩:tie)).2))]
  | _=>.no
abbrev T82:Tabs:=((Tabs.nil.addF 83 zCg).addF 84 zCh)
abbrev G82:Ctrs:=csm T82 (λ _ _=>[]) (λ _=>false)
def zCi:Ann:=⟨52,[(0,zK [0,1,14,15,16] []),(1,zK [0,1,14,15,16,17] []),(2,zK [0,1,3,4,14,15,16] [4]),(3,zK [0,1,3,4,14,15,16,26] [4]),(4,zK [0,1,5,14,15,16] [5]),(5,zK [0,1,14,15,16,34,35] []),(6,zK [0,1,14,15,16,34,35,36] []),(7,zK [0,1,7,14,15,16,34,35] []),(8,zK [0,1,8,9,14,15,16,34,35] [8]),(9,zK [0,1,14,15,16,34,35,49] []),(10,zK [0,1,14,15,16,34,35] []),(11,zK [0,1,14,15,16] [])],
 [(1,zK [0,1,14,15,16] [])],
 [],
 [(6,3,zK [0,1,14,15,16,34,35] [])],[9]⟩
def zAl (l:Nat) (a:web) (zaR:Int):St:=⟨[(0,.one (.c (.p (.yl l)))),(1,.one (.c (.p (.fp [.fp (zr5 a) 0] 0)))),(14,.one (.c (.p (.sl a.Net.Ties.len 4 (λ i=>zdg (a.Net.Ties.get i)))))),(15,.one (.c (.p (.int .i64 (a.Net.Ties.len:Int))))),(16,.one (.c (.p (.int .i64 zaR))))],[],[]⟩
def zx2 (l:Nat) (ys:List (List PA)) (a:web) (zaR:Int):Prop:=vcY Tryd.prog G82 zCi l (cdF Tryd.f82 [1,0]) (zqI 0 zxk) ys false (zAl l a zaR)
attribute [irreducible] zx2
def zid (a:web) (S0:Int->List step) (zaR:Int):List step :=
  (cond (decide (zaR < (a.Net.Ties.len : Int)))
 (cond ((zus (a.out.F [zaR]) 0) != 0)
 (S0 (w64 (zaR+(1:Int))))
 (cond ((s83 (⟨(a.Net.Ties.get zaR.toNat), zaR⟩ : tie)).2)
 (((s83 (⟨(a.Net.Ties.get zaR.toNat), zaR⟩ : tie)).1) :: (cond ((s84 (⟨(a.Net.Ties.get zaR.toNat), zaR⟩ : tie)).2)
 (((s84 (⟨(a.Net.Ties.get zaR.toNat),zaR⟩:tie)).1) :: (S0 (w64 (zaR+(1:Int)))))
 (S0 (w64 (zaR+(1:Int))))))
 (cond ((s84 (⟨(a.Net.Ties.get zaR.toNat), zaR⟩ : tie)).2)
 (((s84 (⟨(a.Net.Ties.get zaR.toNat),zaR⟩:tie)).1) :: (S0 (w64 (zaR+(1:Int)))))
 (S0 (w64 (zaR+(1:Int)))))))
 [])
def zie (a:web) (P0:Int->Bool) (zaR:Int):Bool :=
  (cond (decide (zaR < (a.Net.Ties.len : Int)))
 (decide ((0<=zaR/\zaR < (a.Net.Ties.len:Int))) &&
 (cond ((zus (a.out.F [zaR]) 0) != 0)
 (P0 (w64 (zaR+(1:Int))))
 (cond ((s83 (⟨(a.Net.Ties.get zaR.toNat), zaR⟩ : tie)).2)
 (cond ((s84 (⟨(a.Net.Ties.get zaR.toNat), zaR⟩ : tie)).2)
 (P0 (w64 (zaR+(1:Int))))
 (P0 (w64 (zaR+(1:Int)))))
 (cond ((s84 (⟨(a.Net.Ties.get zaR.toNat), zaR⟩ : tie)).2)
 (P0 (w64 (zaR+(1:Int))))
 (P0 (w64 (zaR+(1:Int))))))))
 true)
def zif (a : web) : Nat → Int → List step
  | 0=>λ _=>[]
  | k+1=>zid a (zif a k)
def zih (a : web) : Nat → Int → Bool
  | 0=>λ _=>false
  | k+1=>zie a (zih a k)
def zx3 (a:web) (zaR:Int):List step:=zif a Fuel zaR
def zx4 (a:web) (zaR:Int):Bool:=zih a Fuel zaR
def s82 (a:web):List step :=
  (zx3 a (0:Int))
def p82 (a:web):Bool :=
  (zx4 a (0:Int))
def zCj : List PA → Option (Prop × List (List PA))
  | [.one (.fp [.fp [.int .i64 a_Net_Nodes,.sl a_Net_Ties_n a_Net_Ties_s a_Net_Ties_g,.fm a_out_q a_out_n a_out_F] 0] 0)]=>some (IsE zdg 4 a_Net_Ties_s a_Net_Ties_g/\a_out_q=(false,1,false,[none])/\p82 (⟨(⟨a_Net_Nodes,(⟨a_Net_Ties_n,zkN a_Net_Ties_g⟩:(Sl Tie))⟩:Net),(⟨a_out_n,a_out_F⟩:Mp)⟩:web)=true,(s82 (⟨(⟨a_Net_Nodes,(⟨a_Net_Ties_n,zkN a_Net_Ties_g⟩:(Sl Tie))⟩:Net),(⟨a_out_n,a_out_F⟩:Mp)⟩:web)).map λ y=>[.agg (zxS y)])
  | _=>none
abbrev T60:Tabs:=((Tabs.nil.addF 61 zx1).addI 82 zCj)
abbrev G60:Ctrs:=csm T60 (λ _ _=>[]) (λ _=>false)
def zAm:Ann:=⟨37,[(0,zK [0] []),(1,zK [0,3] [3]),(2,zK [0,3,11,12] [3]),(3,zK [0,3,11,12,13] [3]),(4,zK [0,3,4,11,12] [3,4]),(5,zK [0,3,4,11,12,15] [3,4]),(6,zK [0,3,4,5,11,12,15] [3,4,5]),(7,zK [0,3,4,5,6,11,12,15] [3,4,5]),(8,zK [0,3,4,5,6,11,12,15,29] [3,4,5]),(9,zK [0,3,4,11,12,15] [3,4]),(10,zK [0,3,4,11,12,15] [3,4]),(11,zK [0,3,11,12,35] [3]),(12,zK [2] []),(13,zK [0,3,11,12] [3]),(14,zK [2] [])],
 [(3,zK [0,3,11,12] [3]),(6,zK [0,3,4,11,12,15] [3,4])],
 [],
 [],[]⟩
@[irreducible] def z60:=ptF Tryd.prog G60 zAm Tryd.f60
@[irreducible] def x60:=exF Tryd.prog G60 zAm Tryd.f60
section
variable {K:List PA->Prop}{w:web}{zjs:Int}{dt0:Tab}{X0:St->Prop}{P0:Int->Tab->Bool}{S0:Int->Tab->Bool}{zfw:Int}{zbe:Bool}{dt1:Tab}
def zkX (S0:Int->Tab->Bool) (w:web) (zfw:Int) (zbe:Bool) (dt1:Tab):Bool :=
  (cond (!zbe)
 false
 (S0 (w64 (zfw+(1:Int))) dt1))
def zkY (P0:Int->Tab->Bool) (w:web) (zfw:Int) (zbe:Bool) (dt1:Tab):Bool :=
  (cond (!zbe)
 true
 (P0 (w64 (zfw+(1:Int))) dt1))
def zn0 (S0:Int->Tab->Bool) (w:web) (y1:step) (S1:Int->Bool->Tab->Bool) (zfw:Int) (zbe:Bool) (dt1:Tab):Bool :=
  (cond (decide ((w64 ((tg 40 dt1 (0 + y1.from_.toNat * 1 + 0)) + y1.length)) < (tg 40 dt1 (0 + y1.to.toNat * 1 + 0))))
 (S1 zfw true (ts 40 dt1 (0+y1.to.toNat * 1+0) [(w64 ((tg 40 dt1 (0+y1.from_.toNat * 1+0))+y1.length))]))
 (S1 zfw zbe dt1))
def zn1 (P0:Int->Tab->Bool) (w:web) (y1:step) (P1:Int->Bool->Tab->Bool) (zfw:Int) (zbe:Bool) (dt1:Tab):Bool :=
  (decide ((0<=y1.from_/\y1.from_ < (40:Int))) &&
 (decide ((0<=y1.to/\y1.to < (40:Int))) &&
 (cond (decide ((w64 ((tg 40 dt1 (0 + y1.from_.toNat * 1 + 0)) + y1.length)) < (tg 40 dt1 (0 + y1.to.toNat * 1 + 0))))
 (decide ((0<=y1.to/\y1.to < (40:Int))) &&
 (P1 zfw true (ts 40 dt1 (0+y1.to.toNat * 1+0) [(w64 ((tg 40 dt1 (0+y1.from_.toNat * 1+0))+y1.length))])))
 (P1 zfw zbe dt1))))
def zeT (S0:Int->Tab->Bool) (w:web):List step->Int->Bool->Tab->Bool:=lpR (zkX S0 w) (zn0 S0 w)
def zeU (P0:Int->Tab->Bool) (w:web):List step->Int->Bool->Tab->Bool:=lpR (zkY P0 w) (zn1 P0 w)
def zsk (S0:Int->Tab->Bool) (w:web) (zfw:Int) (zbe:Bool) (dt1:Tab):Bool:=zeT S0 w (s82 w) zfw zbe dt1
def zsl (P0:Int->Tab->Bool) (w:web) (zfw:Int) (zbe:Bool) (dt1:Tab):Bool:=decide ((p82 w=true)) && zeU P0 w (s82 w) zfw zbe dt1
def zii (w:web) (S0:Int->Tab->Bool) (zjs:Int) (dt0:Tab):Bool :=
  (cond (decide (zjs < w.Net.Nodes))
 (zsk S0 w zjs false dt0)
 true)
def zij (w:web) (P0:Int->Tab->Bool) (zjs:Int) (dt0:Tab):Bool :=
  (cond (decide (zjs < w.Net.Nodes))
 (zsl P0 w zjs false dt0)
 true)
def zik (w:web):Nat->Int->Tab->Bool:=lpO (λ _ _=>default) (zii w)
def zil (w:web):Nat->Int->Tab->Bool:=lpO (λ _ _=>false) (zij w)
def zx5 (w:web) (zjs:Int) (dt0:Tab):Bool:=zik w Fuel zjs dt0
def zx6 (w:web) (zjs:Int) (dt0:Tab):Bool:=zil w Fuel zjs dt0
def s60 (w:web):Bool :=
  (zx5 w (0:Int) (λ _=>(0:Int)))
def p60 (w:web):Bool :=
  (zx6 w (0:Int) (λ _=>(0:Int)))
end
section
variable {K:List PA->Prop}{n:Net}{nodes:(Sl Int)}{zvn:Bool}{zfx:Int}{X2:St->Prop}{P2:Int->Bool}{S2:Int->(web×Int)}{zvo:Int}{zvp:Bool}{zAn:Bool}
def zsm (n:Net) (zAn:Bool):(web×Int) :=
  (cond zAn
 ((default:web),(5:Int))
 ((⟨n,(⟨0,(λ _=>none)⟩:Mp)⟩:web),(0:Int)))
def zsn (S2:Int->(web×Int)) (n:Net) (nodes:(Sl Int)) (zvo:Int) (zvp:Bool):(web×Int) :=
  (cond zvp
 ((default:web),(2:Int))
 (S2 (w64 (zvo+(1:Int)))))
def zso (P2:Int->Bool) (n:Net) (nodes:(Sl Int)) (zvo:Int) (zvp:Bool):Bool :=
  (cond zvp
 true
 (P2 (w64 (zvo+(1:Int)))))
def zim (n:Net) (nodes:(Sl Int)) (S2:Int->(web×Int)) (zfx:Int):(web×Int) :=
  (cond (decide (zfx < (nodes.len : Int)))
 (zsn S2 n nodes zfx (!(s31 (nodes.get zfx.toNat) (0:Int) (w64 (n.Nodes - (1:Int))))))
 (zsm n (s60 (⟨n,(⟨0,(λ _=>none)⟩:Mp)⟩:web))))
def zin (n:Net) (nodes:(Sl Int)) (P2:Int->Bool) (zfx:Int):Bool :=
  (cond (decide (zfx < (nodes.len : Int)))
 (decide ((0<=zfx/\zfx < (nodes.len:Int))) &&
 (zso P2 n nodes zfx (!(s31 (nodes.get zfx.toNat) (0:Int) (w64 (n.Nodes - (1:Int)))))))
 (decide ((p60 (⟨n,(⟨0,(λ _=>none)⟩:Mp)⟩:web)=true)) &&
 true))
def zio (n:Net) (nodes:(Sl Int)):Nat->Int->(web×Int):=lpO (λ _=>default) (zim n nodes)
def ziq (n:Net) (nodes:(Sl Int)):Nat->Int->Bool:=lpO (λ _=>false) (zin n nodes)
def zsp (n:Net) (nodes:(Sl Int)) (zfx:Int):(web×Int):=zio n nodes Fuel zfx
def zsq (n:Net) (nodes:(Sl Int)) (zfx:Int):Bool:=ziq n nodes Fuel zfx
def zsr (n:Net) (nodes:(Sl Int)):(web×Int) :=
  (zsp n nodes (0:Int))
def zss (n:Net) (nodes:(Sl Int)):Bool :=
  (zsq n nodes (0:Int))
def zst (n:Net) (nodes:(Sl Int)) (zvn:Bool):(web×Int) :=
  (cond zvn
 ((default:web),(2:Int))
 (zsr n nodes))
def zsu (n:Net) (nodes:(Sl Int)) (zvn:Bool):Bool :=
  (cond zvn
 true
 (zss n nodes))
def s33 (n:Net) (nodes:(Sl Int)):(web×Int) :=
  (zst n nodes (!(s32 n)))
def p33 (n:Net) (nodes:(Sl Int)):Bool :=
  (decide ((p32 n=true)) &&
 (zsu n nodes (!(s32 n))))
end
section
variable {K:List PA->Prop}{a:far}{b:far}
def s63 (a:far) (b:far):Bool :=
  (cond (decide (a.length < b.length))
 true
 (cond (a.length == b.length)
 (decide (a.uses < b.uses))
 false))
end
section
variable {K:List PA->Prop}{first:far}{others:(Sl far)}{zdK:Int}{zbq:Int}{zbr:Int}{X0:St->Prop}{P0:Int->Int->Int->Bool}{S0:Int->Int->Int->far}{zqp:Int}{zvq:Bool}{zfy:Int}{zfz:Int}{zvr:Int}{zvs:Int}
def zsv (S0:Int->Int->Int->far) (others:(Sl far)) (zqp:Int) (zvq:Bool) (zfy:Int) (zfz:Int) (zvr:Int) (zvs:Int):far :=
  (cond zvq
 (S0 (w64 (zqp+(1:Int))) zvr zvs)
 (S0 (w64 (zqp+(1:Int))) zfy zfz))
def zsw (P0:Int->Int->Int->Bool) (others:(Sl far)) (zqp:Int) (zvq:Bool) (zfy:Int) (zfz:Int) (zvr:Int) (zvs:Int):Bool :=
  (cond zvq
 (P0 (w64 (zqp+(1:Int))) zvr zvs)
 (P0 (w64 (zqp+(1:Int))) zfy zfz))
def zir (others:(Sl far)) (S0:Int->Int->Int->far) (zdK:Int) (zbq:Int) (zbr:Int):far :=
  (cond (decide (zdK < (others.len : Int)))
 (zsv S0 others zdK (s63 (others.get zdK.toNat) (⟨zbq,zbr⟩:far)) zbq zbr ((others.get zdK.toNat).length) ((others.get zdK.toNat).uses))
 (⟨zbq,zbr⟩:far))
def zis (others:(Sl far)) (P0:Int->Int->Int->Bool) (zdK:Int) (zbq:Int) (zbr:Int):Bool :=
  (cond (decide (zdK < (others.len : Int)))
 (decide ((0<=zdK/\zdK < (others.len:Int))) &&
 (zsw P0 others zdK (s63 (others.get zdK.toNat) (⟨zbq,zbr⟩:far)) zbq zbr ((others.get zdK.toNat).length) ((others.get zdK.toNat).uses)))
 true)
def zit (others:(Sl far)):Nat->Int->Int->Int->far:=lpO (λ _ _ _=>default) (zir others)
def ziu (others:(Sl far)):Nat->Int->Int->Int->Bool:=lpO (λ _ _ _=>false) (zis others)
def zsx (others:(Sl far)) (zdK:Int) (zbq:Int) (zbr:Int):far:=zit others Fuel zdK zbq zbr
def zsy (others:(Sl far)) (zdK:Int) (zbq:Int) (zbr:Int):Bool:=ziu others Fuel zdK zbq zbr
def s62 (first:far) (others:(Sl far)):far :=
  (zsx others (0:Int) first.length first.uses)
def p62 (first:far) (others:(Sl far)):Bool :=
  (zsy others (0:Int) first.length first.uses)
end
def zAo : List PA → COut
  | [.one (.fn 63 [] []),.agg [.int .i64 ziv,.int .i64 zn2],.one (.sl zwI zBv zvt)]=>.det (IsE zz9 2 zBv zvt/\p62 (⟨ziv,zn2⟩:far) (⟨zwI,znT zvt⟩:(Sl far))=true) [.agg [.int .i64 ((s62 (⟨ziv,zn2⟩:far) (⟨zwI,znT zvt⟩:(Sl far))).length),.int .i64 ((s62 (⟨ziv,zn2⟩:far) (⟨zwI,znT zvt⟩:(Sl far))).uses)]]
  | _=>.no
abbrev T34:Tabs:=(((Tabs.nil.addF 61 zx1).addF 62 zAo).addI 82 zCj)
abbrev G34:Ctrs:=csm T34 (λ _ _=>[]) (λ _=>false)
def zAp:Ann:=⟨66,[(0,zK [0,1,4] [4]),(1,zK [0,1,4,5] [4,5]),(2,zK [0,1,4,5,10] [4,5]),(3,zK [0,1,4,5,10,11] [4,5]),(4,zK [0,1,4,5,6,10] [4,5]),(5,zK [0,1,4,5,10] [4,5]),(6,zK [0,1,4,5,10] [4,5]),(7,zK [0,4,5] [4,5]),(8,zK [0,4,5,7] [4,5,7]),(9,zK [0,4,5,7,20] [4,5,7]),(10,zK [0,4,5,7] [4,5,7]),(11,zK [0,4,5,7,22] [4,5,7]),(12,zK [0,4,5,7,8,22] [4,5,7,8]),(13,zK [0,4,5,7,8,22,29] [4,5,7,8]),(14,zK [0,4,5,7,8,9,22] [4,5,7,8,9]),(15,zK [0,4,5,7,8,9,22] [4,5,7,8,9]),(16,zK [0,4,5,7,22] [4,5,7]),(17,zK [0,4,5,64] [4,5]),(18,zK [0,4,5,7] [4,5,7]),(19,zK [4] [4])],
 [(3,zK [0,1,4,5,10] [4,5]),(9,zK [0,4,5,7] [4,5,7]),(12,zK [0,4,5,7,22] [4,5,7])],
 [(7,zK [0,1,4,5] [4,5])],
 [],[]⟩
@[irreducible] def z34:=ptF Tryd.prog G34 zAp Tryd.f34
@[irreducible] def x34:=exF Tryd.prog G34 zAp Tryd.f34
section
variable {K:List PA->Prop}{w:web}{node:Int}{zb1:Int}{t4t0:Tab}{dt0:Tab}{X0:St->Prop}{P0:Int->Tab->Tab->Bool}{S0:Int->Tab->Tab->Tab}{t4t1:Tab}{dt1:Tab}{zaI:Bool}{t4t2:Tab}{dt2:Tab}{X2:St->Prop}{P2:Bool->Tab->Tab->Bool}{S2:Bool->Tab->Tab->Tab}{zaf:Bool}{t4t3:Tab}{dt3:Tab}
def zx7 (S2:Bool->Tab->Tab->Tab) (w:web) (zaf:Bool) (t4t3:Tab) (dt3:Tab):Tab :=
  (S2 zaf t4t3 dt3)
def zx8 (P2:Bool->Tab->Tab->Bool) (w:web) (zaf:Bool) (t4t3:Tab) (dt3:Tab):Bool :=
  (P2 zaf t4t3 dt3)
def zn3 (S2:Bool->Tab->Tab->Tab) (w:web) (y3:step) (S3:Bool->Tab->Tab->Tab) (zaf:Bool) (t4t3:Tab) (dt3:Tab):Tab :=
  (cond (nvr (tL dt3 y3.to) (tU dt3 y3.to))
 (S3 zaf t4t3 dt3)
 (cond zaf
 (S3 true t4t3 (ts 80 dt3 (0+y3.from_.toNat * 2+0) [(s62 (⟨(tL dt3 y3.from_),(tU dt3 y3.from_)⟩:far) (⟨1,λ _=>(⟨(w64 ((tL dt3 y3.to)+y3.length)),(w64 ((tV dt3 y3.to)+(1:Int)))⟩:far)⟩:(Sl far))).length,(s62 (⟨(tL dt3 y3.from_),(tU dt3 y3.from_)⟩:far) (⟨1,λ _=>(⟨(w64 ((tL dt3 y3.to)+y3.length)),(w64 ((tV dt3 y3.to)+(1:Int)))⟩:far)⟩:(Sl far))).uses]))
 (S3 (!(match ((s62 (⟨(tL dt3 y3.from_),(tU dt3 y3.from_)⟩:far) (⟨1,λ _=>(⟨(w64 ((tL dt3 y3.to)+y3.length)),(w64 ((tV dt3 y3.to)+(1:Int)))⟩:far)⟩:(Sl far))).length == (tL dt3 y3.from_)) with | true=>(match ((s62 (⟨(tL dt3 y3.from_),(tU dt3 y3.from_)⟩:far) (⟨1,λ _=>(⟨(w64 ((tL dt3 y3.to)+y3.length)),(w64 ((tV dt3 y3.to)+(1:Int)))⟩:far)⟩:(Sl far))).uses == (tU dt3 y3.from_)) with | true=>true | false=>false) | false=>false)) t4t3 (ts 80 dt3 (0+y3.from_.toNat * 2+0) [(s62 (⟨(tL dt3 y3.from_),(tU dt3 y3.from_)⟩:far) (⟨1,λ _=>(⟨(w64 ((tL dt3 y3.to)+y3.length)),(w64 ((tV dt3 y3.to)+(1:Int)))⟩:far)⟩:(Sl far))).length,(s62 (⟨(tL dt3 y3.from_),(tU dt3 y3.from_)⟩:far) (⟨1,λ _=>(⟨(w64 ((tL dt3 y3.to)+y3.length)),(w64 ((tV dt3 y3.to)+(1:Int)))⟩:far)⟩:(Sl far))).uses]))))
def zn4 (P2:Bool->Tab->Tab->Bool) (w:web) (y3:step) (P3:Bool->Tab->Tab->Bool) (zaf:Bool) (t4t3:Tab) (dt3:Tab):Bool :=
  (decide ((0<=y3.to/\y3.to < (40:Int))) &&
 (cond (nvr (tL dt3 y3.to) (tU dt3 y3.to))
 (P3 zaf t4t3 dt3)
 (decide ((0<=y3.from_/\y3.from_ < (40:Int))) &&
 (decide ((0<=y3.to/\y3.to < (40:Int))) &&
 (decide ((0<=y3.to/\y3.to < (40:Int))) &&
 (decide ((p62 (⟨(tL dt3 y3.from_),(tU dt3 y3.from_)⟩:far) (⟨1,λ _=>(⟨(w64 ((tL dt3 y3.to)+y3.length)),(w64 ((tV dt3 y3.to)+(1:Int)))⟩:far)⟩:(Sl far))=true)) &&
 (cond zaf
 (decide ((0<=y3.from_/\y3.from_ < (40:Int))) &&
 (P3 true t4t3 (ts 80 dt3 (0+y3.from_.toNat * 2+0) [(s62 (⟨(tL dt3 y3.from_),(tU dt3 y3.from_)⟩:far) (⟨1,λ _=>(⟨(w64 ((tL dt3 y3.to)+y3.length)),(w64 ((tV dt3 y3.to)+(1:Int)))⟩:far)⟩:(Sl far))).length,(s62 (⟨(tL dt3 y3.from_),(tU dt3 y3.from_)⟩:far) (⟨1,λ _=>(⟨(w64 ((tL dt3 y3.to)+y3.length)),(w64 ((tV dt3 y3.to)+(1:Int)))⟩:far)⟩:(Sl far))).uses])))
 (decide ((0<=y3.from_/\y3.from_ < (40:Int))) &&
 (decide ((0<=y3.from_/\y3.from_ < (40:Int))) &&
 (P3 (!(match ((s62 (⟨(tL dt3 y3.from_),(tU dt3 y3.from_)⟩:far) (⟨1,λ _=>(⟨(w64 ((tL dt3 y3.to)+y3.length)),(w64 ((tV dt3 y3.to)+(1:Int)))⟩:far)⟩:(Sl far))).length == (tL dt3 y3.from_)) with | true=>(match ((s62 (⟨(tL dt3 y3.from_),(tU dt3 y3.from_)⟩:far) (⟨1,λ _=>(⟨(w64 ((tL dt3 y3.to)+y3.length)),(w64 ((tV dt3 y3.to)+(1:Int)))⟩:far)⟩:(Sl far))).uses == (tU dt3 y3.from_)) with | true=>true | false=>false) | false=>false)) t4t3 (ts 80 dt3 (0+y3.from_.toNat * 2+0) [(s62 (⟨(tL dt3 y3.from_),(tU dt3 y3.from_)⟩:far) (⟨1,λ _=>(⟨(w64 ((tL dt3 y3.to)+y3.length)),(w64 ((tV dt3 y3.to)+(1:Int)))⟩:far)⟩:(Sl far))).length,(s62 (⟨(tL dt3 y3.from_),(tU dt3 y3.from_)⟩:far) (⟨1,λ _=>(⟨(w64 ((tL dt3 y3.to)+y3.length)),(w64 ((tV dt3 y3.to)+(1:Int)))⟩:far)⟩:(Sl far))).uses])))))))))))
def zn5 (S2:Bool->Tab->Tab->Tab) (w:web):List step->Bool->Tab->Tab->Tab:=lpR (zx7 S2 w) (zn3 S2 w)
def zn6 (P2:Bool->Tab->Tab->Bool) (w:web):List step->Bool->Tab->Tab->Bool:=lpR (zx8 P2 w) (zn4 P2 w)
def zsz (S2:Bool->Tab->Tab->Tab) (w:web) (zaf:Bool) (t4t3:Tab) (dt3:Tab):Tab:=zn5 S2 w (s82 w) zaf t4t3 dt3
def zsA (P2:Bool->Tab->Tab->Bool) (w:web) (zaf:Bool) (t4t3:Tab) (dt3:Tab):Bool:=decide ((p82 w=true)) && zn6 P2 w (s82 w) zaf t4t3 dt3
def zn7 (w:web) (S2:Bool->Tab->Tab->Tab) (zaI:Bool) (t4t2:Tab) (dt2:Tab):Tab :=
  (cond zaI
 (zsz S2 w false t4t2 dt2)
 dt2)
def zn8 (w:web) (P2:Bool->Tab->Tab->Bool) (zaI:Bool) (t4t2:Tab) (dt2:Tab):Bool :=
  (cond zaI
 (zsA P2 w false t4t2 dt2)
 true)
def zeV (w:web):Nat->Bool->Tab->Tab->Tab:=lpO (λ _ _ _=>default) (zn7 w)
def zeW (w:web):Nat->Bool->Tab->Tab->Bool:=lpO (λ _ _ _=>false) (zn8 w)
def zsB (w:web) (zaI:Bool) (t4t2:Tab) (dt2:Tab):Tab:=zeV w Fuel zaI t4t2 dt2
def zsC (w:web) (zaI:Bool) (t4t2:Tab) (dt2:Tab):Bool:=zeW w Fuel zaI t4t2 dt2
def zn9 (w:web) (node:Int) (t4t1:Tab) (dt1:Tab):Tab :=
  (zsB w true t4t1 (ts 80 dt1 (0+node.toNat * 2+0) [(0:Int),(0:Int)]))
def zoa (w:web) (node:Int) (t4t1:Tab) (dt1:Tab):Bool :=
  (decide ((0<=node/\node < (40:Int))) &&
 (zsC w true t4t1 (ts 80 dt1 (0+node.toNat * 2+0) [(0:Int),(0:Int)])))
def ziw (w:web) (node:Int) (S0:Int->Tab->Tab->Tab) (zb1:Int) (t4t0:Tab) (dt0:Tab):Tab :=
  (cond (decide (zb1 < (40:Int)))
 (S0 (w64 (zb1+(1:Int))) t4t0 (ts 80 dt0 (0+zb1.toNat * 2+0) [(1000000000000:Int),(0:Int)]))
 (zn9 w node t4t0 dt0))
def zix (w:web) (node:Int) (P0:Int->Tab->Tab->Bool) (zb1:Int) (t4t0:Tab) (dt0:Tab):Bool :=
  (cond (decide (zb1 < (40:Int)))
 (decide ((0<=zb1/\zb1 < (40:Int))) &&
 (P0 (w64 (zb1+(1:Int))) t4t0 (ts 80 dt0 (0+zb1.toNat * 2+0) [(1000000000000:Int),(0:Int)])))
 (zoa w node t4t0 dt0))
def ziy (w:web) (node:Int):Nat->Int->Tab->Tab->Tab:=lpO (λ _ _ _=>default) (ziw w node)
def ziz (w:web) (node:Int):Nat->Int->Tab->Tab->Bool:=lpO (λ _ _ _=>false) (zix w node)
def zx9 (w:web) (node:Int) (zb1:Int) (t4t0:Tab) (dt0:Tab):Tab:=ziy w node Fuel zb1 t4t0 dt0
def zya (w:web) (node:Int) (zb1:Int) (t4t0:Tab) (dt0:Tab):Bool:=ziz w node Fuel zb1 t4t0 dt0
def s34 (w:web) (node:Int):Tab :=
  (zx9 w node (0:Int) (λ _=>(0:Int)) (λ _=>(0:Int)))
def p34 (w:web) (node:Int):Bool :=
  (zya w node (0:Int) (λ _=>(0:Int)) (λ _=>(0:Int)))
end
abbrev T35:Tabs:=(((Tabs.nil.addF 61 zx1).addF 62 zAo).addI 82 zCj)
abbrev G35:Ctrs:=csm T35 (λ _ _=>[]) (λ _=>false)
def zAq:Ann:=⟨66,[(0,zK [0,1,4] [4]),(1,zK [0,1,4,5] [4,5]),(2,zK [0,1,4,5,10] [4,5]),(3,zK [0,1,4,5,10,11] [4,5]),(4,zK [0,1,4,5,6,10] [4,5]),(5,zK [0,1,4,5,10] [4,5]),(6,zK [0,1,4,5,10] [4,5]),(7,zK [0,4,5] [4,5]),(8,zK [0,4,5,7] [4,5,7]),(9,zK [0,4,5,7,20] [4,5,7]),(10,zK [0,4,5,7] [4,5,7]),(11,zK [0,4,5,7,22] [4,5,7]),(12,zK [0,4,5,7,8,22] [4,5,7,8]),(13,zK [0,4,5,7,8,22,29] [4,5,7,8]),(14,zK [0,4,5,7,8,9,22] [4,5,7,8,9]),(15,zK [0,4,5,7,8,9,22] [4,5,7,8,9]),(16,zK [0,4,5,7,22] [4,5,7]),(17,zK [0,4,5,64] [4,5]),(18,zK [0,4,5,7] [4,5,7]),(19,zK [4] [4])],
 [(3,zK [0,1,4,5,10] [4,5]),(9,zK [0,4,5,7] [4,5,7]),(12,zK [0,4,5,7,22] [4,5,7])],
 [(7,zK [0,1,4,5] [4,5])],
 [],[]⟩
@[irreducible] def z35:=ptF Tryd.prog G35 zAq Tryd.f35
@[irreducible] def x35:=exF Tryd.prog G35 zAq Tryd.f35
section
variable {K:List PA->Prop}{w:web}{node:Int}{zb1:Int}{t4t0:Tab}{dt0:Tab}{X0:St->Prop}{P0:Int->Tab->Tab->Bool}{S0:Int->Tab->Tab->Tab}{t4t1:Tab}{dt1:Tab}{zaI:Bool}{t4t2:Tab}{dt2:Tab}{X2:St->Prop}{P2:Bool->Tab->Tab->Bool}{S2:Bool->Tab->Tab->Tab}{zaf:Bool}{t4t3:Tab}{dt3:Tab}
def zyb (S2:Bool->Tab->Tab->Tab) (w:web) (zaf:Bool) (t4t3:Tab) (dt3:Tab):Tab :=
  (S2 zaf t4t3 dt3)
def zyc (P2:Bool->Tab->Tab->Bool) (w:web) (zaf:Bool) (t4t3:Tab) (dt3:Tab):Bool :=
  (P2 zaf t4t3 dt3)
def zob (S2:Bool->Tab->Tab->Tab) (w:web) (y3:step) (S3:Bool->Tab->Tab->Tab) (zaf:Bool) (t4t3:Tab) (dt3:Tab):Tab :=
  (cond (nvr (tL dt3 y3.from_) (tU dt3 y3.from_))
 (S3 zaf t4t3 dt3)
 (cond zaf
 (S3 true t4t3 (ts 80 dt3 (0+y3.to.toNat * 2+0) [(s62 (⟨(tL dt3 y3.to),(tU dt3 y3.to)⟩:far) (⟨1,λ _=>(⟨(w64 ((tL dt3 y3.from_)+y3.length)),(w64 ((tV dt3 y3.from_)+(1:Int)))⟩:far)⟩:(Sl far))).length,(s62 (⟨(tL dt3 y3.to),(tU dt3 y3.to)⟩:far) (⟨1,λ _=>(⟨(w64 ((tL dt3 y3.from_)+y3.length)),(w64 ((tV dt3 y3.from_)+(1:Int)))⟩:far)⟩:(Sl far))).uses]))
 (S3 (!(match ((s62 (⟨(tL dt3 y3.to),(tU dt3 y3.to)⟩:far) (⟨1,λ _=>(⟨(w64 ((tL dt3 y3.from_)+y3.length)),(w64 ((tV dt3 y3.from_)+(1:Int)))⟩:far)⟩:(Sl far))).length == (tL dt3 y3.to)) with | true=>(match ((s62 (⟨(tL dt3 y3.to),(tU dt3 y3.to)⟩:far) (⟨1,λ _=>(⟨(w64 ((tL dt3 y3.from_)+y3.length)),(w64 ((tV dt3 y3.from_)+(1:Int)))⟩:far)⟩:(Sl far))).uses == (tU dt3 y3.to)) with | true=>true | false=>false) | false=>false)) t4t3 (ts 80 dt3 (0+y3.to.toNat * 2+0) [(s62 (⟨(tL dt3 y3.to),(tU dt3 y3.to)⟩:far) (⟨1,λ _=>(⟨(w64 ((tL dt3 y3.from_)+y3.length)),(w64 ((tV dt3 y3.from_)+(1:Int)))⟩:far)⟩:(Sl far))).length,(s62 (⟨(tL dt3 y3.to),(tU dt3 y3.to)⟩:far) (⟨1,λ _=>(⟨(w64 ((tL dt3 y3.from_)+y3.length)),(w64 ((tV dt3 y3.from_)+(1:Int)))⟩:far)⟩:(Sl far))).uses]))))
def zoc (P2:Bool->Tab->Tab->Bool) (w:web) (y3:step) (P3:Bool->Tab->Tab->Bool) (zaf:Bool) (t4t3:Tab) (dt3:Tab):Bool :=
  (decide ((0<=y3.from_/\y3.from_ < (40:Int))) &&
 (cond (nvr (tL dt3 y3.from_) (tU dt3 y3.from_))
 (P3 zaf t4t3 dt3)
 (decide ((0<=y3.to/\y3.to < (40:Int))) &&
 (decide ((0<=y3.from_/\y3.from_ < (40:Int))) &&
 (decide ((0<=y3.from_/\y3.from_ < (40:Int))) &&
 (decide ((p62 (⟨(tL dt3 y3.to),(tU dt3 y3.to)⟩:far) (⟨1,λ _=>(⟨(w64 ((tL dt3 y3.from_)+y3.length)),(w64 ((tV dt3 y3.from_)+(1:Int)))⟩:far)⟩:(Sl far))=true)) &&
 (cond zaf
 (decide ((0<=y3.to/\y3.to < (40:Int))) &&
 (P3 true t4t3 (ts 80 dt3 (0+y3.to.toNat * 2+0) [(s62 (⟨(tL dt3 y3.to),(tU dt3 y3.to)⟩:far) (⟨1,λ _=>(⟨(w64 ((tL dt3 y3.from_)+y3.length)),(w64 ((tV dt3 y3.from_)+(1:Int)))⟩:far)⟩:(Sl far))).length,(s62 (⟨(tL dt3 y3.to),(tU dt3 y3.to)⟩:far) (⟨1,λ _=>(⟨(w64 ((tL dt3 y3.from_)+y3.length)),(w64 ((tV dt3 y3.from_)+(1:Int)))⟩:far)⟩:(Sl far))).uses])))
 (decide ((0<=y3.to/\y3.to < (40:Int))) &&
 (decide ((0<=y3.to/\y3.to < (40:Int))) &&
 (P3 (!(match ((s62 (⟨(tL dt3 y3.to),(tU dt3 y3.to)⟩:far) (⟨1,λ _=>(⟨(w64 ((tL dt3 y3.from_)+y3.length)),(w64 ((tV dt3 y3.from_)+(1:Int)))⟩:far)⟩:(Sl far))).length == (tL dt3 y3.to)) with | true=>(match ((s62 (⟨(tL dt3 y3.to),(tU dt3 y3.to)⟩:far) (⟨1,λ _=>(⟨(w64 ((tL dt3 y3.from_)+y3.length)),(w64 ((tV dt3 y3.from_)+(1:Int)))⟩:far)⟩:(Sl far))).uses == (tU dt3 y3.to)) with | true=>true | false=>false) | false=>false)) t4t3 (ts 80 dt3 (0+y3.to.toNat * 2+0) [(s62 (⟨(tL dt3 y3.to),(tU dt3 y3.to)⟩:far) (⟨1,λ _=>(⟨(w64 ((tL dt3 y3.from_)+y3.length)),(w64 ((tV dt3 y3.from_)+(1:Int)))⟩:far)⟩:(Sl far))).length,(s62 (⟨(tL dt3 y3.to),(tU dt3 y3.to)⟩:far) (⟨1,λ _=>(⟨(w64 ((tL dt3 y3.from_)+y3.length)),(w64 ((tV dt3 y3.from_)+(1:Int)))⟩:far)⟩:(Sl far))).uses])))))))))))
def zod (S2:Bool->Tab->Tab->Tab) (w:web):List step->Bool->Tab->Tab->Tab:=lpR (zyb S2 w) (zob S2 w)
def zoe (P2:Bool->Tab->Tab->Bool) (w:web):List step->Bool->Tab->Tab->Bool:=lpR (zyc P2 w) (zoc P2 w)
def zsD (S2:Bool->Tab->Tab->Tab) (w:web) (zaf:Bool) (t4t3:Tab) (dt3:Tab):Tab:=zod S2 w (s82 w) zaf t4t3 dt3
def zsE (P2:Bool->Tab->Tab->Bool) (w:web) (zaf:Bool) (t4t3:Tab) (dt3:Tab):Bool:=decide ((p82 w=true)) && zoe P2 w (s82 w) zaf t4t3 dt3
def zof (w:web) (S2:Bool->Tab->Tab->Tab) (zaI:Bool) (t4t2:Tab) (dt2:Tab):Tab :=
  (cond zaI
 (zsD S2 w false t4t2 dt2)
 dt2)
def zog (w:web) (P2:Bool->Tab->Tab->Bool) (zaI:Bool) (t4t2:Tab) (dt2:Tab):Bool :=
  (cond zaI
 (zsE P2 w false t4t2 dt2)
 true)
def zeX (w:web):Nat->Bool->Tab->Tab->Tab:=lpO (λ _ _ _=>default) (zof w)
def zeY (w:web):Nat->Bool->Tab->Tab->Bool:=lpO (λ _ _ _=>false) (zog w)
def zsF (w:web) (zaI:Bool) (t4t2:Tab) (dt2:Tab):Tab:=zeX w Fuel zaI t4t2 dt2
def zsG (w:web) (zaI:Bool) (t4t2:Tab) (dt2:Tab):Bool:=zeY w Fuel zaI t4t2 dt2
def zoh (w:web) (node:Int) (t4t1:Tab) (dt1:Tab):Tab :=
  (zsF w true t4t1 (ts 80 dt1 (0+node.toNat * 2+0) [(0:Int),(0:Int)]))
def zoi (w:web) (node:Int) (t4t1:Tab) (dt1:Tab):Bool :=
  (decide ((0<=node/\node < (40:Int))) &&
 (zsG w true t4t1 (ts 80 dt1 (0+node.toNat * 2+0) [(0:Int),(0:Int)])))
def ziA (w:web) (node:Int) (S0:Int->Tab->Tab->Tab) (zb1:Int) (t4t0:Tab) (dt0:Tab):Tab :=
  (cond (decide (zb1 < (40:Int)))
 (S0 (w64 (zb1+(1:Int))) t4t0 (ts 80 dt0 (0+zb1.toNat * 2+0) [(1000000000000:Int),(0:Int)]))
 (zoh w node t4t0 dt0))
def ziB (w:web) (node:Int) (P0:Int->Tab->Tab->Bool) (zb1:Int) (t4t0:Tab) (dt0:Tab):Bool :=
  (cond (decide (zb1 < (40:Int)))
 (decide ((0<=zb1/\zb1 < (40:Int))) &&
 (P0 (w64 (zb1+(1:Int))) t4t0 (ts 80 dt0 (0+zb1.toNat * 2+0) [(1000000000000:Int),(0:Int)])))
 (zoi w node t4t0 dt0))
def ziC (w:web) (node:Int):Nat->Int->Tab->Tab->Tab:=lpO (λ _ _ _=>default) (ziA w node)
def ziD (w:web) (node:Int):Nat->Int->Tab->Tab->Bool:=lpO (λ _ _ _=>false) (ziB w node)
def zyd (w:web) (node:Int) (zb1:Int) (t4t0:Tab) (dt0:Tab):Tab:=ziC w node Fuel zb1 t4t0 dt0
def zye (w:web) (node:Int) (zb1:Int) (t4t0:Tab) (dt0:Tab):Bool:=ziD w node Fuel zb1 t4t0 dt0
def s35 (w:web) (node:Int):Tab :=
  (zyd w node (0:Int) (λ _=>(0:Int)) (λ _=>(0:Int)))
def p35 (w:web) (node:Int):Bool :=
  (zye w node (0:Int) (λ _=>(0:Int)) (λ _=>(0:Int)))
end
section
variable {K:List PA->Prop}{n:Int}{low:Int}{high:Int}
def s65 (n:Int) (low:Int) (high:Int):Bool :=
  (cond (decide (n >= low))
 (decide (n<=high))
 false)
end
section
variable {K:List PA->Prop}{p:placed}
def s85 (p:placed):Bool :=
  ((p.Plane.Drift.len:Int) == (0:Int))
end
section
variable {K:List PA->Prop}{p:placed}{zbc:Int}{X0:St->Prop}{P0:Int->Bool}{S0:Int->Bool}{iv1:Int}{zvu:Int}{zvv:Bool}{zkP:Int}{zkQ:Int}{zkR:Int}{iv2:Int}{zzd:Int}{zkS:Int}{zkT:Int}{zkU:Int}
def zsH (S0:Int->Bool) (p:placed) (iv2:Int) (zzd:Int) (zkS:Int) (zkT:Int) (zkU:Int):Bool :=
  (cond (decide (iv2 > (0:Int)))
 (cond (decide (zkS <= (p.Plane.Drift.get ((w64 (iv2 - (1:Int))).toNat)).Time))
 false
 (cond (decide (zkT < (p.Plane.Drift.get ((w64 (iv2 - (1:Int))).toNat)).Radius.Low))
 false
 (cond (decide (zkU < (p.Plane.Drift.get ((w64 (iv2 - (1:Int))).toNat)).Radius.High))
 false
 (S0 (w64 (zzd+(1:Int)))))))
 (S0 (w64 (zzd+(1:Int)))))
def zsI (P0:Int->Bool) (p:placed) (iv2:Int) (zzd:Int) (zkS:Int) (zkT:Int) (zkU:Int):Bool :=
  (cond (decide (iv2 > (0:Int)))
 (decide ((0<=(w64 (iv2 - (1:Int)))/\(w64 (iv2 - (1:Int))) < (p.Plane.Drift.len:Int))) &&
 (cond (decide (zkS <= (p.Plane.Drift.get ((w64 (iv2 - (1:Int))).toNat)).Time))
 true
 (decide ((0<=(w64 (iv2 - (1:Int)))/\(w64 (iv2 - (1:Int))) < (p.Plane.Drift.len:Int))) &&
 (cond (decide (zkT < (p.Plane.Drift.get ((w64 (iv2 - (1:Int))).toNat)).Radius.Low))
 true
 (decide ((0<=(w64 (iv2 - (1:Int)))/\(w64 (iv2 - (1:Int))) < (p.Plane.Drift.len:Int))) &&
 (cond (decide (zkU < (p.Plane.Drift.get ((w64 (iv2 - (1:Int))).toNat)).Radius.High))
 true
 (P0 (w64 (zzd+(1:Int))))))))))
 (P0 (w64 (zzd+(1:Int)))))
def zkZ (S0:Int->Bool) (p:placed) (iv1:Int) (zvu:Int) (zvv:Bool) (zkP:Int) (zkQ:Int) (zkR:Int):Bool :=
  (cond zvv
 false
 (zsH S0 p iv1 zvu zkP zkQ zkR))
def zk0 (P0:Int->Bool) (p:placed) (iv1:Int) (zvu:Int) (zvv:Bool) (zkP:Int) (zkQ:Int) (zkR:Int):Bool :=
  (cond zvv
 true
 (zsI P0 p iv1 zvu zkP zkQ zkR))
def ziE (p:placed) (S0:Int->Bool) (zbc:Int):Bool :=
  (cond (decide (zbc < (p.Plane.Drift.len : Int)))
 (cond (!(s65 ((p.Plane.Drift.get zbc.toNat).Time) (0:Int) (1000000:Int)))
 (zkZ S0 p zbc zbc true ((p.Plane.Drift.get zbc.toNat).Time) ((p.Plane.Drift.get zbc.toNat).Radius.Low) ((p.Plane.Drift.get zbc.toNat).Radius.High))
 (cond (!(s65 ((p.Plane.Drift.get zbc.toNat).Radius.Low) (0:Int) ((p.Plane.Drift.get zbc.toNat).Radius.High)))
 (zkZ S0 p zbc zbc true ((p.Plane.Drift.get zbc.toNat).Time) ((p.Plane.Drift.get zbc.toNat).Radius.Low) ((p.Plane.Drift.get zbc.toNat).Radius.High))
 (zkZ S0 p zbc zbc (decide ((p.Plane.Drift.get zbc.toNat).Radius.High > (w64 (p.Plane.Pitch.tdiv (2:Int))))) ((p.Plane.Drift.get zbc.toNat).Time) ((p.Plane.Drift.get zbc.toNat).Radius.Low) ((p.Plane.Drift.get zbc.toNat).Radius.High))))
 (s65 (p.Plane.Drift.len:Int) (1:Int) (50:Int)))
def ziF (p:placed) (P0:Int->Bool) (zbc:Int):Bool :=
  (cond (decide (zbc < (p.Plane.Drift.len : Int)))
 (decide ((0<=zbc/\zbc < (p.Plane.Drift.len:Int))) &&
 (cond (!(s65 ((p.Plane.Drift.get zbc.toNat).Time) (0:Int) (1000000:Int)))
 (zk0 P0 p zbc zbc true ((p.Plane.Drift.get zbc.toNat).Time) ((p.Plane.Drift.get zbc.toNat).Radius.Low) ((p.Plane.Drift.get zbc.toNat).Radius.High))
 (cond (!(s65 ((p.Plane.Drift.get zbc.toNat).Radius.Low) (0:Int) ((p.Plane.Drift.get zbc.toNat).Radius.High)))
 (zk0 P0 p zbc zbc true ((p.Plane.Drift.get zbc.toNat).Time) ((p.Plane.Drift.get zbc.toNat).Radius.Low) ((p.Plane.Drift.get zbc.toNat).Radius.High))
 (decide (((2:Int) ≠ 0)) &&
 (zk0 P0 p zbc zbc (decide ((p.Plane.Drift.get zbc.toNat).Radius.High > (w64 (p.Plane.Pitch.tdiv (2:Int))))) ((p.Plane.Drift.get zbc.toNat).Time) ((p.Plane.Drift.get zbc.toNat).Radius.Low) ((p.Plane.Drift.get zbc.toNat).Radius.High))))))
 true)
def zf8 (p:placed):Nat->Int->Bool:=lpO (λ _=>default) (ziE p)
def zf9 (p:placed):Nat->Int->Bool:=lpO (λ _=>false) (ziF p)
def zyf (p:placed) (zbc:Int):Bool:=zf8 p Fuel zbc
def zyg (p:placed) (zbc:Int):Bool:=zf9 p Fuel zbc
def s86 (p:placed):Bool :=
  (zyf p (0:Int))
def p86 (p:placed):Bool :=
  (zyg p (0:Int))
end
section
variable {K:List PA->Prop}{p:placed}
def s87 (p:placed):Bool :=
  ((p.Plane.Drift.len:Int) == (0:Int))
end
section
variable {K:List PA->Prop}{s:Span}{most:Int}
def zCk (s:Span) (most:Int):Bool :=
  (cond (s65 s.Low (w64 (0 - most)) s.High)
 (decide (s.High<=most))
 false)
end
section
variable {K:List PA->Prop}{p:placed}{zAr:Bool}{zAs:Bool}{zAt:Bool}
def zsJ (p:placed):Bool :=
  (cond (decide ((w64 ((w64 ((w64 (p.Plane.First - p.Plane.Pitch)) - p.Plane.Spill)) + p.Plane.Offset.Low)) >= (-1000000:Int)))
 (decide ((w64 ((w64 ((w64 (p.Plane.First+(w64 ((w64 (p.Plane.Strips+(1:Int))) * p.Plane.Pitch))))+p.Plane.Spill))+p.Plane.Offset.High))<=(1000000:Int)))
 false)
def ziG (p:placed) (zAt:Bool):Bool :=
  (cond zAt
 false
 (zsJ p))
def zsK (p:placed):Bool :=
  (cond (!(zCk p.Plane.Offset (1000000:Int)))
 (ziG p true)
 (cond (!(zCk p.Plane.Clock (1000000000:Int)))
 (ziG p true)
 (cond (!(s65 p.Plane.Jitter (0:Int) (1000000:Int)))
 (ziG p true)
 (ziG p (!(s65 p.Plane.Least (0:Int) (1000000:Int)))))))
def zk1 (p:placed) (zAs:Bool):Bool :=
  (cond zAs
 false
 (zsK p))
def zsL (p:placed):Bool :=
  (cond (!(s65 p.Plane.Pitch (2:Int) (100000:Int)))
 (zk1 p true)
 (cond (!(s65 p.Plane.Strips (1:Int) (2000:Int)))
 (zk1 p true)
 (zk1 p (!(s65 p.Plane.Spill (0:Int) (100000:Int))))))
def zk2 (p:placed) (zAr:Bool):Bool :=
  (cond zAr
 false
 (zsL p))
def zsM (p:placed):Bool :=
  (cond (!(s65 p.Plane.View (1:Int) (2:Int)))
 (zk2 p true)
 (cond (!(s65 p.Plane.Z (0:Int) (100000:Int)))
 (zk2 p true)
 (zk2 p (!(s65 p.Plane.First (-1000000:Int) (1000000:Int))))))
def s88 (p:placed):Bool :=
  (zsM p)
end
section
variable {K:List PA->Prop}{a:placed}{zfA:Bool}{zal:Int}{X2:St->Prop}{P2:Int->Bool}{S2:Int->Bool}{zfB:Int}{zfC:Bool}
def zg0 (S2:Int->Bool) (a:placed) (zfB:Int) (zfC:Bool):Bool :=
  (cond zfC
 false
 (S2 (w64 (zfB+(1:Int)))))
def zg1 (P2:Int->Bool) (a:placed) (zfB:Int) (zfC:Bool):Bool :=
  (cond zfC
 true
 (P2 (w64 (zfB+(1:Int)))))
def zfD (a:placed) (S2:Int->Bool) (zal:Int):Bool :=
  (cond (decide (zal < (a.Plane.Dead.len : Int)))
 (cond (!(s65 (a.Plane.Dead.get zal.toNat) (0:Int) (w64 (a.Plane.Strips - (1:Int)))))
 (zg0 S2 a zal true)
 (cond (decide (zal > (0:Int)))
 (zg0 S2 a zal (decide ((a.Plane.Dead.get zal.toNat)<=(a.Plane.Dead.get ((w64 (zal - (1:Int))).toNat)))))
 (zg0 S2 a zal false)))
 (decide ((a.Plane.Dead.len:Int)<=(100:Int))))
def zfE (a:placed) (P2:Int->Bool) (zal:Int):Bool :=
  (cond (decide (zal < (a.Plane.Dead.len : Int)))
 (decide ((0<=zal/\zal < (a.Plane.Dead.len:Int))) &&
 (cond (!(s65 (a.Plane.Dead.get zal.toNat) (0:Int) (w64 (a.Plane.Strips - (1:Int)))))
 (zg1 P2 a zal true)
 (cond (decide (zal > (0:Int)))
 (decide ((0<=(w64 (zal - (1:Int)))/\(w64 (zal - (1:Int))) < (a.Plane.Dead.len:Int))) &&
 (zg1 P2 a zal (decide ((a.Plane.Dead.get zal.toNat)<=(a.Plane.Dead.get ((w64 (zal - (1:Int))).toNat))))))
 (zg1 P2 a zal false))))
 true)
def zel (a:placed):Nat->Int->Bool:=lpO (λ _=>default) (zfD a)
def zem (a:placed):Nat->Int->Bool:=lpO (λ _=>false) (zfE a)
def zvw (a:placed) (zal:Int):Bool:=zel a Fuel zal
def zvx (a:placed) (zal:Int):Bool:=zem a Fuel zal
def zpj (a:placed):Bool :=
  (zvw a (0:Int))
def zpk (a:placed):Bool :=
  (zvx a (0:Int))
def zg2 (a:placed) (zfA:Bool):Bool :=
  (cond zfA
 false
 (zpj a))
def zg3 (a:placed) (zfA:Bool):Bool :=
  (cond zfA
 true
 (zpk a))
def zCl (a:placed):Bool :=
  (cond (!(s65 (1:Int) (1:Int) (3:Int)))
 (zg2 a true)
 (cond (!(s88 (⟨(⟨(1:Int), a.Plane.View, a.Plane.Z, a.Plane.First, a.Plane.Pitch, a.Plane.Strips, a.Plane.Spill, a.Plane.Offset, a.Plane.Clock, a.Plane.Jitter, a.Plane.Least, a.Plane.Drift, a.Plane.Dead⟩ : Plane), a.index⟩ : placed)))
 (zg2 a true)
 (zg2 a (!(s85 (⟨(⟨(1:Int),a.Plane.View,a.Plane.Z,a.Plane.First,a.Plane.Pitch,a.Plane.Strips,a.Plane.Spill,a.Plane.Offset,a.Plane.Clock,a.Plane.Jitter,a.Plane.Least,a.Plane.Drift,a.Plane.Dead⟩:Plane),a.index⟩:placed))))))
def zCm (a:placed):Bool :=
  (cond (!(s65 (1:Int) (1:Int) (3:Int)))
 (zg3 a true)
 (cond (!(s88 (⟨(⟨(1:Int), a.Plane.View, a.Plane.Z, a.Plane.First, a.Plane.Pitch, a.Plane.Strips, a.Plane.Spill, a.Plane.Offset, a.Plane.Clock, a.Plane.Jitter, a.Plane.Least, a.Plane.Drift, a.Plane.Dead⟩ : Plane), a.index⟩ : placed)))
 (zg3 a true)
 (zg3 a (!(s85 (⟨(⟨(1:Int),a.Plane.View,a.Plane.Z,a.Plane.First,a.Plane.Pitch,a.Plane.Strips,a.Plane.Spill,a.Plane.Offset,a.Plane.Clock,a.Plane.Jitter,a.Plane.Least,a.Plane.Drift,a.Plane.Dead⟩:Plane),a.index⟩:placed))))))
end
section
variable {K:List PA->Prop}{a:placed}{zfA:Bool}{zal:Int}{X2:St->Prop}{P2:Int->Bool}{S2:Int->Bool}{zfB:Int}{zfC:Bool}
def zg4 (S2:Int->Bool) (a:placed) (zfB:Int) (zfC:Bool):Bool :=
  (cond zfC
 false
 (S2 (w64 (zfB+(1:Int)))))
def zg5 (P2:Int->Bool) (a:placed) (zfB:Int) (zfC:Bool):Bool :=
  (cond zfC
 true
 (P2 (w64 (zfB+(1:Int)))))
def zfF (a:placed) (S2:Int->Bool) (zal:Int):Bool :=
  (cond (decide (zal < (a.Plane.Dead.len : Int)))
 (cond (!(s65 (a.Plane.Dead.get zal.toNat) (0:Int) (w64 (a.Plane.Strips - (1:Int)))))
 (zg4 S2 a zal true)
 (cond (decide (zal > (0:Int)))
 (zg4 S2 a zal (decide ((a.Plane.Dead.get zal.toNat)<=(a.Plane.Dead.get ((w64 (zal - (1:Int))).toNat)))))
 (zg4 S2 a zal false)))
 (decide ((a.Plane.Dead.len:Int)<=(100:Int))))
def zfG (a:placed) (P2:Int->Bool) (zal:Int):Bool :=
  (cond (decide (zal < (a.Plane.Dead.len : Int)))
 (decide ((0<=zal/\zal < (a.Plane.Dead.len:Int))) &&
 (cond (!(s65 (a.Plane.Dead.get zal.toNat) (0:Int) (w64 (a.Plane.Strips - (1:Int)))))
 (zg5 P2 a zal true)
 (cond (decide (zal > (0:Int)))
 (decide ((0<=(w64 (zal - (1:Int)))/\(w64 (zal - (1:Int))) < (a.Plane.Dead.len:Int))) &&
 (zg5 P2 a zal (decide ((a.Plane.Dead.get zal.toNat)<=(a.Plane.Dead.get ((w64 (zal - (1:Int))).toNat))))))
 (zg5 P2 a zal false))))
 true)
def zen (a:placed):Nat->Int->Bool:=lpO (λ _=>default) (zfF a)
def zeo (a:placed):Nat->Int->Bool:=lpO (λ _=>false) (zfG a)
def zvy (a:placed) (zal:Int):Bool:=zen a Fuel zal
def zvz (a:placed) (zal:Int):Bool:=zeo a Fuel zal
def zpl (a:placed):Bool :=
  (zvy a (0:Int))
def zpm (a:placed):Bool :=
  (zvz a (0:Int))
def zg6 (a:placed) (zfA:Bool):Bool :=
  (cond zfA
 false
 (zpl a))
def zg7 (a:placed) (zfA:Bool):Bool :=
  (cond zfA
 true
 (zpm a))
def zCn (a:placed):Bool :=
  (cond (!(s65 (2:Int) (1:Int) (3:Int)))
 (zg6 a true)
 (cond (!(s88 (⟨(⟨(2:Int), a.Plane.View, a.Plane.Z, a.Plane.First, a.Plane.Pitch, a.Plane.Strips, a.Plane.Spill, a.Plane.Offset, a.Plane.Clock, a.Plane.Jitter, a.Plane.Least, a.Plane.Drift, a.Plane.Dead⟩ : Plane), a.index⟩ : placed)))
 (zg6 a true)
 (zg6 a (!(s86 (⟨(⟨(2:Int),a.Plane.View,a.Plane.Z,a.Plane.First,a.Plane.Pitch,a.Plane.Strips,a.Plane.Spill,a.Plane.Offset,a.Plane.Clock,a.Plane.Jitter,a.Plane.Least,a.Plane.Drift,a.Plane.Dead⟩:Plane),a.index⟩:placed))))))
def zCo (a:placed):Bool :=
  (cond (!(s65 (2:Int) (1:Int) (3:Int)))
 (zg7 a true)
 (cond (!(s88 (⟨(⟨(2:Int), a.Plane.View, a.Plane.Z, a.Plane.First, a.Plane.Pitch, a.Plane.Strips, a.Plane.Spill, a.Plane.Offset, a.Plane.Clock, a.Plane.Jitter, a.Plane.Least, a.Plane.Drift, a.Plane.Dead⟩ : Plane), a.index⟩ : placed)))
 (zg7 a true)
 (decide ((p86 (⟨(⟨(2:Int),a.Plane.View,a.Plane.Z,a.Plane.First,a.Plane.Pitch,a.Plane.Strips,a.Plane.Spill,a.Plane.Offset,a.Plane.Clock,a.Plane.Jitter,a.Plane.Least,a.Plane.Drift,a.Plane.Dead⟩:Plane),a.index⟩:placed)=true)) &&
 (zg7 a (!(s86 (⟨(⟨(2:Int),a.Plane.View,a.Plane.Z,a.Plane.First,a.Plane.Pitch,a.Plane.Strips,a.Plane.Spill,a.Plane.Offset,a.Plane.Clock,a.Plane.Jitter,a.Plane.Least,a.Plane.Drift,a.Plane.Dead⟩:Plane),a.index⟩:placed)))))))
end
section
variable {K:List PA->Prop}{a:placed}{zfA:Bool}{zal:Int}{X2:St->Prop}{P2:Int->Bool}{S2:Int->Bool}{zfB:Int}{zfC:Bool}
def zg8 (S2:Int->Bool) (a:placed) (zfB:Int) (zfC:Bool):Bool :=
  (cond zfC
 false
 (S2 (w64 (zfB+(1:Int)))))
def zg9 (P2:Int->Bool) (a:placed) (zfB:Int) (zfC:Bool):Bool :=
  (cond zfC
 true
 (P2 (w64 (zfB+(1:Int)))))
def zfH (a:placed) (S2:Int->Bool) (zal:Int):Bool :=
  (cond (decide (zal < (a.Plane.Dead.len : Int)))
 (cond (!(s65 (a.Plane.Dead.get zal.toNat) (0:Int) (w64 (a.Plane.Strips - (1:Int)))))
 (zg8 S2 a zal true)
 (cond (decide (zal > (0:Int)))
 (zg8 S2 a zal (decide ((a.Plane.Dead.get zal.toNat)<=(a.Plane.Dead.get ((w64 (zal - (1:Int))).toNat)))))
 (zg8 S2 a zal false)))
 (decide ((a.Plane.Dead.len:Int)<=(100:Int))))
def zfI (a:placed) (P2:Int->Bool) (zal:Int):Bool :=
  (cond (decide (zal < (a.Plane.Dead.len : Int)))
 (decide ((0<=zal/\zal < (a.Plane.Dead.len:Int))) &&
 (cond (!(s65 (a.Plane.Dead.get zal.toNat) (0:Int) (w64 (a.Plane.Strips - (1:Int)))))
 (zg9 P2 a zal true)
 (cond (decide (zal > (0:Int)))
 (decide ((0<=(w64 (zal - (1:Int)))/\(w64 (zal - (1:Int))) < (a.Plane.Dead.len:Int))) &&
 (zg9 P2 a zal (decide ((a.Plane.Dead.get zal.toNat)<=(a.Plane.Dead.get ((w64 (zal - (1:Int))).toNat))))))
 (zg9 P2 a zal false))))
 true)
def zep (a:placed):Nat->Int->Bool:=lpO (λ _=>default) (zfH a)
def zeq (a:placed):Nat->Int->Bool:=lpO (λ _=>false) (zfI a)
def zvA (a:placed) (zal:Int):Bool:=zep a Fuel zal
def zvB (a:placed) (zal:Int):Bool:=zeq a Fuel zal
def zpn (a:placed):Bool :=
  (zvA a (0:Int))
def zpo (a:placed):Bool :=
  (zvB a (0:Int))
def zha (a:placed) (zfA:Bool):Bool :=
  (cond zfA
 false
 (zpn a))
def zhb (a:placed) (zfA:Bool):Bool :=
  (cond zfA
 true
 (zpo a))
def zCp (a:placed):Bool :=
  (cond (!(s65 (3:Int) (1:Int) (3:Int)))
 (zha a true)
 (cond (!(s88 (⟨(⟨(3:Int), a.Plane.View, a.Plane.Z, a.Plane.First, a.Plane.Pitch, a.Plane.Strips, a.Plane.Spill, a.Plane.Offset, a.Plane.Clock, a.Plane.Jitter, a.Plane.Least, a.Plane.Drift, a.Plane.Dead⟩ : Plane), a.index⟩ : placed)))
 (zha a true)
 (zha a (!(s87 (⟨(⟨(3:Int),a.Plane.View,a.Plane.Z,a.Plane.First,a.Plane.Pitch,a.Plane.Strips,a.Plane.Spill,a.Plane.Offset,a.Plane.Clock,a.Plane.Jitter,a.Plane.Least,a.Plane.Drift,a.Plane.Dead⟩:Plane),a.index⟩:placed))))))
def zCq (a:placed):Bool :=
  (cond (!(s65 (3:Int) (1:Int) (3:Int)))
 (zhb a true)
 (cond (!(s88 (⟨(⟨(3:Int), a.Plane.View, a.Plane.Z, a.Plane.First, a.Plane.Pitch, a.Plane.Strips, a.Plane.Spill, a.Plane.Offset, a.Plane.Clock, a.Plane.Jitter, a.Plane.Least, a.Plane.Drift, a.Plane.Dead⟩ : Plane), a.index⟩ : placed)))
 (zhb a true)
 (zhb a (!(s87 (⟨(⟨(3:Int),a.Plane.View,a.Plane.Z,a.Plane.First,a.Plane.Pitch,a.Plane.Strips,a.Plane.Spill,a.Plane.Offset,a.Plane.Clock,a.Plane.Jitter,a.Plane.Least,a.Plane.Drift,a.Plane.Dead⟩:Plane),a.index⟩:placed))))))
end
def s64 (a:placed):Bool:=match a.Plane.Kind == 1 with | true=>zCl a | false=>match a.Plane.Kind == 2 with | true=>zCn a | false=>match a.Plane.Kind == 3 with | true=>zCp a | false=>false
def p64 (a:placed):Bool:=match a.Plane.Kind == 1 with | true=>zCm a | false=>match a.Plane.Kind == 2 with | true=>zCo a | false=>match a.Plane.Kind == 3 with | true=>zCq a | false=>false
section
variable {K:List PA->Prop}{s:Setup}{zkO:(Sl Plane)}{zek:Int}{zbc:Int}{sv0:(Sl Plane)}{zC4:Nat->List PV}{zvC:Nat->List PV}{X0:St->Prop}{P0:(Sl Plane)->Int->Int->(Sl Plane)->Bool}{S0:(Sl Plane)->Int->Int->(Sl Plane)->Bool}{zAj:(Sl Plane)}{zun:Int}{zvu:Int}{zvD:Bool}{sv1:(Sl Plane)}{zC5:Nat->List PV}{zvE:Nat->List PV}
def zk3 (S0:(Sl Plane)->Int->Int->(Sl Plane)->Bool) (zAj:(Sl Plane)) (zun:Int) (zvu:Int) (zvD:Bool) (sv1:(Sl Plane)):Bool :=
  (cond zvD
 false
 (S0 zAj zun (w64 (zvu+(1:Int))) sv1))
def zk4 (P0:(Sl Plane)->Int->Int->(Sl Plane)->Bool) (zAj:(Sl Plane)) (zun:Int) (zvu:Int) (zvD:Bool) (sv1:(Sl Plane)):Bool :=
  (cond zvD
 true
 (P0 zAj zun (w64 (zvu+(1:Int))) sv1))
def ziH (S0:(Sl Plane)->Int->Int->(Sl Plane)->Bool) (zkO:(Sl Plane)) (zek:Int) (zbc:Int) (sv0:(Sl Plane)):Bool :=
  (cond (decide (zbc < zek))
 (cond (!(s64 (⟨(zkO.get zbc.toNat), zbc⟩ : placed)))
 (zk3 S0 zkO zek zbc true sv0)
 (cond (decide (zbc > (0:Int)))
 (zk3 S0 zkO zek zbc (decide ((zkO.get zbc.toNat).Z<=(sv0.get ((w64 (zbc - (1:Int))).toNat)).Z)) sv0)
 (zk3 S0 zkO zek zbc false sv0)))
 (s65 (sv0.len:Int) (1:Int) (16:Int)))
def ziI (P0:(Sl Plane)->Int->Int->(Sl Plane)->Bool) (zkO:(Sl Plane)) (zek:Int) (zbc:Int) (sv0:(Sl Plane)):Bool :=
  (cond (decide (zbc < zek))
 (decide ((0<=zbc/\zbc < (zkO.len:Int))) &&
 (decide ((p64 (⟨(zkO.get zbc.toNat),zbc⟩:placed)=true)) &&
 (cond (!(s64 (⟨(zkO.get zbc.toNat), zbc⟩ : placed)))
 (zk4 P0 zkO zek zbc true sv0)
 (cond (decide (zbc > (0:Int)))
 (decide ((0<=(w64 (zbc - (1:Int)))/\(w64 (zbc - (1:Int))) < (sv0.len:Int))) &&
 (zk4 P0 zkO zek zbc (decide ((zkO.get zbc.toNat).Z<=(sv0.get ((w64 (zbc - (1:Int))).toNat)).Z)) sv0))
 (zk4 P0 zkO zek zbc false sv0)))))
 true)
def zga:Nat->(Sl Plane)->Int->Int->(Sl Plane)->Bool:=lpO (λ _ _ _ _=>default) (ziH)
def zgb:Nat->(Sl Plane)->Int->Int->(Sl Plane)->Bool:=lpO (λ _ _ _ _=>false) (ziI)
def zyh (zkO:(Sl Plane)) (zek:Int) (zbc:Int) (sv0:(Sl Plane)):Bool:=zga Fuel zkO zek zbc sv0
def zyi (zkO:(Sl Plane)) (zek:Int) (zbc:Int) (sv0:(Sl Plane)):Bool:=zgb Fuel zkO zek zbc sv0
def s36 (s:Setup):Bool :=
  (zyh s.Planes (s.Planes.len:Int) (0:Int) s.Planes)
def p36 (s:Setup):Bool :=
  (zyi s.Planes (s.Planes.len:Int) (0:Int) s.Planes)
end
section
variable {K:List PA->Prop}{s:Setup}{h:Hit}{zaR:Bool}{sv0:(Sl Plane)}{zvC:Nat->List PV}{sv1:(Sl Plane)}{zvE:Nat->List PV}{zvF:Bool}{zbs:Int}{zbB:Int}{zbC:Int}{zbD:Int}{zbE:Int}{zbF:Int}{zbG:Int}{zbH:Int}{zbI:Int}{zbJ:Int}{zaK:Int}{zaL:Int}{zaM:Int}{zaN:(Sl Drift)}{zaB:(Sl Int)}{zBw:Nat->List PV}{zBx:Nat->List PV}{zfJ:Int}{X4:St->Prop}{P4:Int->Bool}{S4:Int->(placed×Bool)}{zvG:Int}{zvH:Bool}
def zsN (h:Hit) (zbs:Int) (zbB:Int) (zbC:Int) (zbD:Int) (zbE:Int) (zbF:Int) (zbG:Int) (zbH:Int) (zbI:Int) (zbJ:Int) (zaK:Int) (zaL:Int) (zaM:Int) (zaN:(Sl Drift)) (zaB:(Sl Int)):(placed×Bool) :=
  (cond (h.Drift == (0:Int))
 (cond (zbs != (3:Int))
 ((⟨(⟨zbs,zbB,zbC,zbD,zbE,zbF,zbG,(⟨zbH,zbI⟩:Span),(⟨zbJ,zaK⟩:Span),zaL,zaM,zaN,zaB⟩:Plane),h.Plane⟩:placed),true)
 ((⟨(⟨zbs,zbB,zbC,zbD,zbE,zbF,zbG,(⟨zbH,zbI⟩:Span),(⟨zbJ,zaK⟩:Span),zaL,zaM,zaN,zaB⟩:Plane),h.Plane⟩:placed),(h.Time == (0:Int))))
 ((⟨(⟨zbs,zbB,zbC,zbD,zbE,zbF,zbG,(⟨zbH,zbI⟩:Span),(⟨zbJ,zaK⟩:Span),zaL,zaM,zaN,zaB⟩:Plane),h.Plane⟩:placed),false))
def zk5 (h:Hit) (zbs:Int) (zbB:Int) (zbC:Int) (zbD:Int) (zbE:Int) (zbF:Int) (zbG:Int) (zbH:Int) (zbI:Int) (zbJ:Int) (zaK:Int) (zaL:Int) (zaM:Int) (zaN:(Sl Drift)) (zaB:(Sl Int)):(placed×Bool) :=
  (cond (zbs == (2:Int))
 (cond (h.Many == (1:Int))
 ((⟨(⟨zbs,zbB,zbC,zbD,zbE,zbF,zbG,(⟨zbH,zbI⟩:Span),(⟨zbJ,zaK⟩:Span),zaL,zaM,zaN,zaB⟩:Plane),h.Plane⟩:placed),(s65 h.Drift (0:Int) (1000000:Int)))
 ((⟨(⟨zbs,zbB,zbC,zbD,zbE,zbF,zbG,(⟨zbH,zbI⟩:Span),(⟨zbJ,zaK⟩:Span),zaL,zaM,zaN,zaB⟩:Plane),h.Plane⟩:placed),false))
 (zsN h zbs zbB zbC zbD zbE zbF zbG zbH zbI zbJ zaK zaL zaM zaN zaB))
def zsO (S4:Int->(placed×Bool)) (h:Hit) (zbs:Int) (zbB:Int) (zbC:Int) (zbD:Int) (zbE:Int) (zbF:Int) (zbG:Int) (zbH:Int) (zbI:Int) (zbJ:Int) (zaK:Int) (zaL:Int) (zaM:Int) (zaN:(Sl Drift)) (zaB:(Sl Int)) (zvG:Int) (zvH:Bool):(placed×Bool) :=
  (cond zvH
 ((⟨(⟨zbs,zbB,zbC,zbD,zbE,zbF,zbG,(⟨zbH,zbI⟩:Span),(⟨zbJ,zaK⟩:Span),zaL,zaM,zaN,zaB⟩:Plane),h.Plane⟩:placed),false)
 (S4 (w64 (zvG+(1:Int)))))
def zsP (P4:Int->Bool) (h:Hit) (zbs:Int) (zbB:Int) (zbC:Int) (zbD:Int) (zbE:Int) (zbF:Int) (zbG:Int) (zbH:Int) (zbI:Int) (zbJ:Int) (zaK:Int) (zaL:Int) (zaM:Int) (zaN:(Sl Drift)) (zaB:(Sl Int)) (zvG:Int) (zvH:Bool):Bool :=
  (cond zvH
 true
 (P4 (w64 (zvG+(1:Int)))))
def ziJ (h:Hit) (zbs:Int) (zbB:Int) (zbC:Int) (zbD:Int) (zbE:Int) (zbF:Int) (zbG:Int) (zbH:Int) (zbI:Int) (zbJ:Int) (zaK:Int) (zaL:Int) (zaM:Int) (zaN:(Sl Drift)) (zaB:(Sl Int)) (S4:Int->(placed×Bool)) (zfJ:Int):(placed×Bool) :=
  (cond (decide (zfJ < (zaB.len : Int)))
 (zsO S4 h zbs zbB zbC zbD zbE zbF zbG zbH zbI zbJ zaK zaL zaM zaN zaB zfJ (s65 (zaB.get zfJ.toNat) h.Channel (w64 ((w64 (h.Channel+h.Many)) - (1:Int)))))
 (zk5 h zbs zbB zbC zbD zbE zbF zbG zbH zbI zbJ zaK zaL zaM zaN zaB))
def ziK (h:Hit) (zbs:Int) (zbB:Int) (zbC:Int) (zbD:Int) (zbE:Int) (zbF:Int) (zbG:Int) (zbH:Int) (zbI:Int) (zbJ:Int) (zaK:Int) (zaL:Int) (zaM:Int) (zaN:(Sl Drift)) (zaB:(Sl Int)) (P4:Int->Bool) (zfJ:Int):Bool :=
  (cond (decide (zfJ < (zaB.len : Int)))
 (decide ((0<=zfJ/\zfJ < (zaB.len:Int))) &&
 (zsP P4 h zbs zbB zbC zbD zbE zbF zbG zbH zbI zbJ zaK zaL zaM zaN zaB zfJ (s65 (zaB.get zfJ.toNat) h.Channel (w64 ((w64 (h.Channel+h.Many)) - (1:Int))))))
 true)
def zgc (h:Hit) (zbs:Int) (zbB:Int) (zbC:Int) (zbD:Int) (zbE:Int) (zbF:Int) (zbG:Int) (zbH:Int) (zbI:Int) (zbJ:Int) (zaK:Int) (zaL:Int) (zaM:Int) (zaN:(Sl Drift)) (zaB:(Sl Int)):Nat->Int->(placed×Bool):=lpO (λ _=>default) (ziJ h zbs zbB zbC zbD zbE zbF zbG zbH zbI zbJ zaK zaL zaM zaN zaB)
def zgd (h:Hit) (zbs:Int) (zbB:Int) (zbC:Int) (zbD:Int) (zbE:Int) (zbF:Int) (zbG:Int) (zbH:Int) (zbI:Int) (zbJ:Int) (zaK:Int) (zaL:Int) (zaM:Int) (zaN:(Sl Drift)) (zaB:(Sl Int)):Nat->Int->Bool:=lpO (λ _=>false) (ziK h zbs zbB zbC zbD zbE zbF zbG zbH zbI zbJ zaK zaL zaM zaN zaB)
def zsQ (h:Hit) (zbs:Int) (zbB:Int) (zbC:Int) (zbD:Int) (zbE:Int) (zbF:Int) (zbG:Int) (zbH:Int) (zbI:Int) (zbJ:Int) (zaK:Int) (zaL:Int) (zaM:Int) (zaN:(Sl Drift)) (zaB:(Sl Int)) (zfJ:Int):(placed×Bool):=zgc h zbs zbB zbC zbD zbE zbF zbG zbH zbI zbJ zaK zaL zaM zaN zaB Fuel zfJ
def zsR (h:Hit) (zbs:Int) (zbB:Int) (zbC:Int) (zbD:Int) (zbE:Int) (zbF:Int) (zbG:Int) (zbH:Int) (zbI:Int) (zbJ:Int) (zaK:Int) (zaL:Int) (zaM:Int) (zaN:(Sl Drift)) (zaB:(Sl Int)) (zfJ:Int):Bool:=zgd h zbs zbB zbC zbD zbE zbF zbG zbH zbI zbJ zaK zaL zaM zaN zaB Fuel zfJ
def zsS (h:Hit) (zbs:Int) (zbB:Int) (zbC:Int) (zbD:Int) (zbE:Int) (zbF:Int) (zbG:Int) (zbH:Int) (zbI:Int) (zbJ:Int) (zaK:Int) (zaL:Int) (zaM:Int) (zaN:(Sl Drift)) (zaB:(Sl Int)):(placed×Bool) :=
  (zsQ h zbs zbB zbC zbD zbE zbF zbG zbH zbI zbJ zaK zaL zaM zaN zaB (0:Int))
def zsU (h:Hit) (zbs:Int) (zbB:Int) (zbC:Int) (zbD:Int) (zbE:Int) (zbF:Int) (zbG:Int) (zbH:Int) (zbI:Int) (zbJ:Int) (zaK:Int) (zaL:Int) (zaM:Int) (zaN:(Sl Drift)) (zaB:(Sl Int)):Bool :=
  (zsR h zbs zbB zbC zbD zbE zbF zbG zbH zbI zbJ zaK zaL zaM zaN zaB (0:Int))
def ziL (h:Hit) (zvF:Bool) (zbs:Int) (zbB:Int) (zbC:Int) (zbD:Int) (zbE:Int) (zbF:Int) (zbG:Int) (zbH:Int) (zbI:Int) (zbJ:Int) (zaK:Int) (zaL:Int) (zaM:Int) (zaN:(Sl Drift)) (zaB:(Sl Int)):(placed×Bool) :=
  (cond zvF
 ((⟨(⟨zbs,zbB,zbC,zbD,zbE,zbF,zbG,(⟨zbH,zbI⟩:Span),(⟨zbJ,zaK⟩:Span),zaL,zaM,zaN,zaB⟩:Plane),h.Plane⟩:placed),false)
 (zsS h zbs zbB zbC zbD zbE zbF zbG zbH zbI zbJ zaK zaL zaM zaN zaB))
def ziM (h:Hit) (zvF:Bool) (zbs:Int) (zbB:Int) (zbC:Int) (zbD:Int) (zbE:Int) (zbF:Int) (zbG:Int) (zbH:Int) (zbI:Int) (zbJ:Int) (zaK:Int) (zaL:Int) (zaM:Int) (zaN:(Sl Drift)) (zaB:(Sl Int)):Bool :=
  (cond zvF
 true
 (zsU h zbs zbB zbC zbD zbE zbF zbG zbH zbI zbJ zaK zaL zaM zaN zaB))
def zsV (h:Hit) (sv1:(Sl Plane)):(placed×Bool) :=
  (cond (!(s65 h.Channel (0:Int) (w64 ((sv1.get h.Plane.toNat).Strips - (1:Int)))))
 (ziL h true ((sv1.get h.Plane.toNat).Kind) ((sv1.get h.Plane.toNat).View) ((sv1.get h.Plane.toNat).Z) ((sv1.get h.Plane.toNat).First) ((sv1.get h.Plane.toNat).Pitch) ((sv1.get h.Plane.toNat).Strips) ((sv1.get h.Plane.toNat).Spill) ((sv1.get h.Plane.toNat).Offset.Low) ((sv1.get h.Plane.toNat).Offset.High) ((sv1.get h.Plane.toNat).Clock.Low) ((sv1.get h.Plane.toNat).Clock.High) ((sv1.get h.Plane.toNat).Jitter) ((sv1.get h.Plane.toNat).Least) ((sv1.get h.Plane.toNat).Drift) ((sv1.get h.Plane.toNat).Dead))
 (cond (!(s65 h.Many (1:Int) (w64 ((sv1.get h.Plane.toNat).Strips - h.Channel))))
 (ziL h true ((sv1.get h.Plane.toNat).Kind) ((sv1.get h.Plane.toNat).View) ((sv1.get h.Plane.toNat).Z) ((sv1.get h.Plane.toNat).First) ((sv1.get h.Plane.toNat).Pitch) ((sv1.get h.Plane.toNat).Strips) ((sv1.get h.Plane.toNat).Spill) ((sv1.get h.Plane.toNat).Offset.Low) ((sv1.get h.Plane.toNat).Offset.High) ((sv1.get h.Plane.toNat).Clock.Low) ((sv1.get h.Plane.toNat).Clock.High) ((sv1.get h.Plane.toNat).Jitter) ((sv1.get h.Plane.toNat).Least) ((sv1.get h.Plane.toNat).Drift) ((sv1.get h.Plane.toNat).Dead))
 (cond (!(s65 h.Charge ((sv1.get h.Plane.toNat).Least) (1000000:Int)))
 (ziL h true ((sv1.get h.Plane.toNat).Kind) ((sv1.get h.Plane.toNat).View) ((sv1.get h.Plane.toNat).Z) ((sv1.get h.Plane.toNat).First) ((sv1.get h.Plane.toNat).Pitch) ((sv1.get h.Plane.toNat).Strips) ((sv1.get h.Plane.toNat).Spill) ((sv1.get h.Plane.toNat).Offset.Low) ((sv1.get h.Plane.toNat).Offset.High) ((sv1.get h.Plane.toNat).Clock.Low) ((sv1.get h.Plane.toNat).Clock.High) ((sv1.get h.Plane.toNat).Jitter) ((sv1.get h.Plane.toNat).Least) ((sv1.get h.Plane.toNat).Drift) ((sv1.get h.Plane.toNat).Dead))
 (ziL h (!(s65 h.Time (-1000000000:Int) (1000000000:Int))) ((sv1.get h.Plane.toNat).Kind) ((sv1.get h.Plane.toNat).View) ((sv1.get h.Plane.toNat).Z) ((sv1.get h.Plane.toNat).First) ((sv1.get h.Plane.toNat).Pitch) ((sv1.get h.Plane.toNat).Strips) ((sv1.get h.Plane.toNat).Spill) ((sv1.get h.Plane.toNat).Offset.Low) ((sv1.get h.Plane.toNat).Offset.High) ((sv1.get h.Plane.toNat).Clock.Low) ((sv1.get h.Plane.toNat).Clock.High) ((sv1.get h.Plane.toNat).Jitter) ((sv1.get h.Plane.toNat).Least) ((sv1.get h.Plane.toNat).Drift) ((sv1.get h.Plane.toNat).Dead)))))
def zsW (h:Hit) (sv1:(Sl Plane)):Bool :=
  (decide ((0<=h.Plane/\h.Plane < (sv1.len:Int))) &&
 (cond (!(s65 h.Channel (0:Int) (w64 ((sv1.get h.Plane.toNat).Strips - (1:Int)))))
 (ziM h true ((sv1.get h.Plane.toNat).Kind) ((sv1.get h.Plane.toNat).View) ((sv1.get h.Plane.toNat).Z) ((sv1.get h.Plane.toNat).First) ((sv1.get h.Plane.toNat).Pitch) ((sv1.get h.Plane.toNat).Strips) ((sv1.get h.Plane.toNat).Spill) ((sv1.get h.Plane.toNat).Offset.Low) ((sv1.get h.Plane.toNat).Offset.High) ((sv1.get h.Plane.toNat).Clock.Low) ((sv1.get h.Plane.toNat).Clock.High) ((sv1.get h.Plane.toNat).Jitter) ((sv1.get h.Plane.toNat).Least) ((sv1.get h.Plane.toNat).Drift) ((sv1.get h.Plane.toNat).Dead))
 (cond (!(s65 h.Many (1:Int) (w64 ((sv1.get h.Plane.toNat).Strips - h.Channel))))
 (ziM h true ((sv1.get h.Plane.toNat).Kind) ((sv1.get h.Plane.toNat).View) ((sv1.get h.Plane.toNat).Z) ((sv1.get h.Plane.toNat).First) ((sv1.get h.Plane.toNat).Pitch) ((sv1.get h.Plane.toNat).Strips) ((sv1.get h.Plane.toNat).Spill) ((sv1.get h.Plane.toNat).Offset.Low) ((sv1.get h.Plane.toNat).Offset.High) ((sv1.get h.Plane.toNat).Clock.Low) ((sv1.get h.Plane.toNat).Clock.High) ((sv1.get h.Plane.toNat).Jitter) ((sv1.get h.Plane.toNat).Least) ((sv1.get h.Plane.toNat).Drift) ((sv1.get h.Plane.toNat).Dead))
 (cond (!(s65 h.Charge ((sv1.get h.Plane.toNat).Least) (1000000:Int)))
 (ziM h true ((sv1.get h.Plane.toNat).Kind) ((sv1.get h.Plane.toNat).View) ((sv1.get h.Plane.toNat).Z) ((sv1.get h.Plane.toNat).First) ((sv1.get h.Plane.toNat).Pitch) ((sv1.get h.Plane.toNat).Strips) ((sv1.get h.Plane.toNat).Spill) ((sv1.get h.Plane.toNat).Offset.Low) ((sv1.get h.Plane.toNat).Offset.High) ((sv1.get h.Plane.toNat).Clock.Low) ((sv1.get h.Plane.toNat).Clock.High) ((sv1.get h.Plane.toNat).Jitter) ((sv1.get h.Plane.toNat).Least) ((sv1.get h.Plane.toNat).Drift) ((sv1.get h.Plane.toNat).Dead))
 (ziM h (!(s65 h.Time (-1000000000:Int) (1000000000:Int))) ((sv1.get h.Plane.toNat).Kind) ((sv1.get h.Plane.toNat).View) ((sv1.get h.Plane.toNat).Z) ((sv1.get h.Plane.toNat).First) ((sv1.get h.Plane.toNat).Pitch) ((sv1.get h.Plane.toNat).Strips) ((sv1.get h.Plane.toNat).Spill) ((sv1.get h.Plane.toNat).Offset.Low) ((sv1.get h.Plane.toNat).Offset.High) ((sv1.get h.Plane.toNat).Clock.Low) ((sv1.get h.Plane.toNat).Clock.High) ((sv1.get h.Plane.toNat).Jitter) ((sv1.get h.Plane.toNat).Least) ((sv1.get h.Plane.toNat).Drift) ((sv1.get h.Plane.toNat).Dead))))))
def zsX (h:Hit) (zaR:Bool) (sv0:(Sl Plane)):(placed×Bool) :=
  (cond zaR
 ((⟨(⟨(0:Int),(0:Int),(0:Int),(0:Int),(0:Int),(0:Int),(0:Int),(⟨(0:Int),(0:Int)⟩:Span),(⟨(0:Int),(0:Int)⟩:Span),(0:Int),(0:Int),(⟨0,λ _=>default⟩:(Sl Drift)),(⟨0,λ _=>default⟩:(Sl Int))⟩:Plane),(0:Int)⟩:placed),false)
 (zsV h sv0))
def zsY (h:Hit) (zaR:Bool) (sv0:(Sl Plane)):Bool :=
  (cond zaR
 true
 (zsW h sv0))
def s40 (s:Setup) (h:Hit):(placed×Bool) :=
  (zsX h (!(s65 h.Plane (0:Int) (w64 ((s.Planes.len:Int) - (1:Int))))) s.Planes)
def p40 (s:Setup) (h:Hit):Bool :=
  (zsY h (!(s65 h.Plane (0:Int) (w64 ((s.Planes.len:Int) - (1:Int))))) s.Planes)
end
section
variable {K:List PA->Prop}{s:Setup}{h:Hit}
def s39 (s:Setup) (h:Hit):Bool :=
  (cond (!(s36 s))
 false
 ((s40 s h).2))
def p39 (s:Setup) (h:Hit):Bool :=
  (decide ((p36 s=true)) &&
 (cond (!(s36 s))
 true
 (decide ((p40 s h=true)) &&
 true)))
end
abbrev T41:Tabs:=Tabs.nil
abbrev G41:Ctrs:=csm T41 (λ _ _=>[]) (λ _=>false)
def zCr:Ann:=⟨35,[(0,zK [2,3,4] [2,3,4]),(1,zK [2,3,4,8] [2,3,4]),(2,zK [4] [4]),(3,zK [4] [4])],
 [],
 [(3,zK [2,3,4] [2,3,4])],
 [],[]⟩
@[irreducible] def z41:=ptF Tryd.prog G41 zCr Tryd.f41
section
variable {K:List PA->Prop}{p:placed}{h:Hit}
def zsZ (p:placed) (h:Hit):Span :=
  (⟨(w64 ((w64 (h.Time - p.Plane.Clock.High)) - p.Plane.Jitter)),(w64 ((w64 (h.Time - p.Plane.Clock.Low))+p.Plane.Jitter))⟩:Span)
def s41 (p:placed) (h:Hit):Span :=
  (cond (p.Plane.Kind == (3:Int))
 p.Plane.Clock
 (zsZ p h))
end
abbrev T3:Tabs:=((((((((((Tabs.nil.addF 5 ctr5).addF 6 ctr6).addF 7 ctr7).addF 8 ctr8).addF 9 ctr9).addF 10 ctr10).addF 11 ctr11).addF 12 ctr12).addF 13 ctr13).addF 14 ctr14)
theorem zDv:TabsOk Tryd.prog T3:=((((((((((TabsOk.nil.addF ok5).addF ok6).addF ok7).addF ok8).addF ok9).addF ok10).addF ok11).addF ok12).addF ok13).addF ok14)
abbrev G3:Ctrs:=csm T3 (λ _ _=>[]) (λ _=>false)
def zCs:Ann:=⟨455,[(0,zK [1,2,3,4] [4]),(1,zK [1,2,3,4,65] [4]),(2,zK [8] []),(3,zK [1,2,3,4,9] [4,67]),(4,zK [1,2,3,4,9,10] [4,67]),(5,zK [1,2,3,4,9,10,72] [4,67]),(6,zK [1,2,3,4,9,10] [4,67]),(7,zK [1,2,3,4,9,10,11] [4,11,67]),(8,zK [1,2,3,4,9,10,11,111] [4,11,67]),(9,zK [8] []),(10,zK [1,2,3,4,9,10] [4,67]),(11,zK [2,3,4,9,12] [4,67]),(12,zK [2,3,4,9,12,13] [4,67]),(13,zK [2,3,4,9,12,13,14] [4,67]),(14,zK [2,3,4,9,12,13,14,15] [4,67]),(15,zK [2,3,4,9,12,13,14,15,133] [4,67,258,268,307]),(16,zK [2,3,4,9,12,13,14,15] [4,67,258,268,307]),(17,zK [2,3,4,9,12,13,14,15,16] [4,16,67,258,268,307]),(18,zK [2,3,4,9,12,13,14,15,16,210] [4,16,67,258,268,307]),(19,zK [8] []),(20,zK [2,3,4,9,12,13,14,15,16,17,18] [4,16,17,18,67,258,268,307]),(21,zK [2,3,4,9,12,13,14,15,16,17,18,252] [4,16,17,18,67,258,268,307]),(22,zK [8] []),(23,zK [2,3,4,9,12,13,14,15,16,17,18] [4,16,17,18,67,258,268,307]),(24,zK [2,3,4,9,12,13,14,15] [4,67,258,268,307]),(25,zK [4,9,13,14,19,20] [4,19,67,258,268]),(26,zK [4,9,13,14,19,318] [4,19,67,258,268]),(27,zK [8] []),(28,zK [4,9,13,14,19] [4,19,67,258,268,321]),(29,zK [4,9,13,14,19,21] [4,19,67,258,268,321]),(30,zK [4,9,13,14,19,21,22] [4,19,67,258,268,321]),(31,zK [4,9,13,14,19,21,22,327] [4,19,67,258,268,321,360]),(32,zK [4,9,13,14,19,21,22] [4,19,67,258,268,321,360]),(33,zK [4,9,13,14,19,21,22] [4,19,67,258,268,321,360]),(34,zK [4,9,13,14,19,21,22] [4,19,67,258,268,321,360]),(35,zK [4,9,13,14,19,21,23,24] [4,19,67,258,268,321,360]),(36,zK [4,9,13,14,21,23,380] [4,67,258,268,360]),(37,zK [8] []),(38,zK [4,9,13,14,21,23,25] [4,67,258,268,360]),(39,zK [4,9,13,14,21,23,25,384] [4,67,258,268,360]),(40,zK [4,9,13,14,21,23,25] [4,67,258,268,360]),(41,zK [4,9,13,14,21,23,25,408] [4,67,258,268,360]),(42,zK [8] []),(43,zK [13,14,26,27] [26,258,268]),(44,zK [13,14,26,418] [26,258,268]),(45,zK [8] []),(46,zK [13,14,26,28] [26,258,268]),(47,zK [13,14,26,28,422] [26,258,268]),(48,zK [13,14,26,28] [26,258,268]),(49,zK [13,14,26,28,29,30] [26,29,258,268]),(50,zK [13,14,26,28,453] [26,258,268]),(51,zK [8] []),(52,zK [8] [])],
 [(5,zK [1,2,3,4,9,10] [4,67]),(15,⟨[2,3,4,9,12,13,14,15],[4,67,258,268,307],[(12,307,45,λ _=>zeC default),(13,258,41,λ _=>zaS default),(14,268,3,λ _=>enc_3 default)],[],[],[],[]⟩),(31,⟨[4,9,13,14,19,21,22],[4,19,67,258,268,321,360],[(21,360,32,λ _=>zbN default)],[],[],[],[]⟩),(39,zK [4,9,13,14,21,23,25] [4,67,258,268,360]),(47,zK [13,14,26,28] [26,258,268])],
 [(2,zK [1,2,3,4,65] [4]),(3,zK [1,2,3,4] [4]),(10,zK [1,2,3,4,9,10,11] [4,11,67]),(11,zK [2,3,4,9] [4,67]),(20,zK [2,3,4,9,12,13,14,15,16] [4,16,67,258,268,307]),(25,zK [4,9,12,13,14] [4,67,258,268,307]),(21,zK [2,3,4,9,12,13,14,15,16,17,18] [4,16,17,18,67,258,268,307]),(26,zK [4,9,13,14,19,20] [4,19,67,258,268]),(22,zK [2,3,4,9,12,13,14,15,16,17,18,252] [4,16,17,18,67,258,268,307]),(28,zK [4,9,13,14,19] [4,19,67,258,268]),(23,zK [2,3,4,9,12,13,14,15,16,17,18] [4,16,17,18,67,258,268,307]),(35,zK [4,9,13,14,19,21] [4,19,67,258,268,321,360]),(36,zK [4,9,13,14,19,21,23,24] [4,19,67,258,268,321,360]),(37,zK [4,9,13,14,21,23,380] [4,67,258,268,360]),(38,zK [4,9,13,14,21,23] [4,67,258,268,360]),(43,zK [4,13,14,21,23] [4,258,268,360]),(44,zK [13,14,26,27] [26,258,268]),(46,zK [13,14,26] [26,258,268]),(50,zK [13,14,26,28,29,30] [26,29,258,268])],
 [],[]⟩
abbrev R3:=Bool
abbrev e3 (r:R3):List PA:=[.one (.bool r)]
@[irreducible] def z3:=ptF Tryd.prog G3 zCs Tryd.f3
def zAu (zac:(Sl Int)) (l_a2:(Sl Flown)) (play:Int) (iv2:Int) (sv2:(Sl Plane)) (zcT:(Sl Int)) (zme:Nat->List PV) (zdW:Nat->List PV):St:=⟨[(1,zS enc_3 1 zac),(2,zS enc_39 6 l_a2),(3,zI play),(4,zp 4 0),(9,zv 67),(10,zI iv2)],[(4,.box 24 [.p (.sl sv2.len 15 zme)]),(67,.vec 3 1 8 zcT.len zdW)],[]⟩
abbrev zCt (K:List PA->Prop) (zac:(Sl Int)) (l_a2:(Sl Flown)) (play:Int) (X:St->Prop) (P:Int->(Sl Plane)->(Sl Int)->Bool) (S:Int->(Sl Plane)->(Sl Int)->Bool):Prop:=∀ ⦃iv2:Int⦄ ⦃sv2:(Sl Plane)⦄ ⦃zcT:(Sl Int)⦄ ⦃zme:Nat->List PV⦄ ⦃zdW:Nat->List PV⦄,P iv2 sv2 zcT=true->K (e3 (S iv2 sv2 zcT))->zme=zg enc_35 sv2->zdW=zg enc_3 zcT->X (zAu zac l_a2 play iv2 sv2 zcT zme zdW)
def zAv (l_a2:(Sl Flown)) (play:Int) (iv5:Int) (sv5:(Sl Plane)) (zcU:(Sl Int)) (zbv:(Sl Hit)) (zbw:(Sl Int)) (zbx:(Sl Pulse)) (zmf:Nat->List PV) (zdX:Nat->List PV) (zc1:Nat->List PV) (zc2:Nat->List PV) (zc3:Nat->List PV):St:=⟨[(2,zS enc_39 6 l_a2),(3,zI play),(4,zp 4 0),(9,zv 67),(12,zv 307),(13,zv 258),(14,zv 268),(15,zI iv5)],[(4,.box 24 [.p (.sl sv5.len 15 zmf)]),(67,.vec 3 1 8 zcU.len zdX),(258,.vec 41 6 48 zbv.len zc1),(268,.vec 3 1 8 zbw.len zc2),(307,.vec 45 7 56 zbx.len zc3)],[]⟩
abbrev zze (K:List PA->Prop) (l_a2:(Sl Flown)) (play:Int) (X:St->Prop) (P:Int->(Sl Plane)->(Sl Int)->(Sl Hit)->(Sl Int)->(Sl Pulse)->Bool) (S:Int->(Sl Plane)->(Sl Int)->(Sl Hit)->(Sl Int)->(Sl Pulse)->Bool):Prop:=∀ ⦃iv5:Int⦄ ⦃sv5:(Sl Plane)⦄ ⦃zcU:(Sl Int)⦄ ⦃zbv:(Sl Hit)⦄ ⦃zbw:(Sl Int)⦄ ⦃zbx:(Sl Pulse)⦄ ⦃zmf:Nat->List PV⦄ ⦃zdX:Nat->List PV⦄ ⦃zc1:Nat->List PV⦄ ⦃zc2:Nat->List PV⦄ ⦃zc3:Nat->List PV⦄,P iv5 sv5 zcU zbv zbw zbx=true->K (e3 (S iv5 sv5 zcU zbv zbw zbx))->zmf=zg enc_35 sv5->zdX=zg enc_3 zcU->zc1=zg zaS zbv->zc2=zg enc_3 zbw->zc3=zg zeC zbx->X (zAv l_a2 play iv5 sv5 zcU zbv zbw zbx zmf zdX zc1 zc2 zc3)
def zwJ (zay:Int) (zcR:(Sl Plane)) (zaJ:(Sl Int)) (zao:(Sl Hit)) (zaq:(Sl Int)) (zdD:Int) (zaz:(Sl Tie)) (zaA:(Sl Span)) (zcn:Nat->List PV) (zco:Nat->List PV):St:=⟨[(4,zp 4 0),(9,zv 67),(13,zv 258),(14,zv 268),(19,zp 19 0),(21,zv 360),(22,zI zdD)],[(4,.box 24 (zm (enc_24 (⟨zcR⟩:Setup)))),(19,.box 48 [zi zay,.vec 321]),(67,.vec 3 1 8 zaJ.len (λ i=>enc_3 (zaJ.get i))),(258,.vec 41 6 48 zao.len (λ i=>zaS (zao.get i))),(268,.vec 3 1 8 zaq.len (λ i=>enc_3 (zaq.get i))),(321,.vec 54 4 32 zaz.len zcn),(360,.vec 32 2 16 zaA.len zco)],[]⟩
abbrev zAw (K:List PA->Prop) (zay:Int) (zcR:(Sl Plane)) (zaJ:(Sl Int)) (zao:(Sl Hit)) (zaq:(Sl Int)) (X:St->Prop) (P:Int->(Sl Tie)->(Sl Span)->Bool) (S:Int->(Sl Tie)->(Sl Span)->Bool):Prop:=∀ ⦃zdD:Int⦄ ⦃zaz:(Sl Tie)⦄ ⦃zaA:(Sl Span)⦄ ⦃zcn:Nat->List PV⦄ ⦃zco:Nat->List PV⦄,P zdD zaz zaA=true->K (e3 (S zdD zaz zaA))->zcn=zg zdg zaz->zco=zg zbN zaA->X (zwJ zay zcR zaJ zao zaq zdD zaz zaA zcn zco)
def zwK (za8:(Sl Span)) (zex:(Sl Plane)) (zax:(Sl Int)) (zar:(Sl Hit)) (zas:(Sl Int)) (zat:(Sl Span)) (zdE:Int):St:=⟨[(4,zp 4 0),(9,zv 67),(13,zv 258),(14,zv 268),(21,zv 360),(23,zS zbN 2 za8),(25,zI zdE)],[(4,.box 24 (zm (enc_24 (⟨zex⟩:Setup)))),(67,.vec 3 1 8 zax.len (λ i=>enc_3 (zax.get i))),(258,.vec 41 6 48 zar.len (λ i=>zaS (zar.get i))),(268,.vec 3 1 8 zas.len (λ i=>enc_3 (zas.get i))),(360,.vec 32 2 16 zat.len (λ i=>zbN (zat.get i)))],[]⟩
abbrev zAx (K:List PA->Prop) (za8:(Sl Span)) (zex:(Sl Plane)) (zax:(Sl Int)) (zar:(Sl Hit)) (zas:(Sl Int)) (zat:(Sl Span)) (X:St->Prop) (P:Int->Bool) (S:Int->Bool):Prop:=∀ ⦃zdE:Int⦄,P zdE=true->K (e3 (S zdE))->X (zwK za8 zex zax zar zas zat zdE)
def zwL (zcj:(Sl Plane)) (ze7:Int) (zaw:(Sl Hit)) (za2:(Sl Int)) (zcp:Nat->List PV) (zcq:Nat->List PV):St:=⟨[(13,zv 258),(14,zv 268),(26,zp 26 0),(28,zI ze7)],[(26,.box 24 (zm (enc_24 (⟨zcj⟩:Setup)))),(258,.vec 41 6 48 zaw.len zcp),(268,.vec 3 1 8 za2.len zcq)],[]⟩
abbrev zyj (K:List PA->Prop) (zcj:(Sl Plane)) (X:St->Prop) (P:Int->(Sl Hit)->(Sl Int)->Bool) (S:Int->(Sl Hit)->(Sl Int)->Bool):Prop:=∀ ⦃ze7:Int⦄ ⦃zaw:(Sl Hit)⦄ ⦃za2:(Sl Int)⦄ ⦃zcp:Nat->List PV⦄ ⦃zcq:Nat->List PV⦄,P ze7 zaw za2=true->K (e3 (S ze7 zaw za2))->zcp=zg zaS zaw->zcq=zg enc_3 za2->X (zwL zcj ze7 zaw za2 zcp zcq)
section
variable {K:List PA->Prop}{s:Setup}{zac:(Sl Int)}{l_a2:(Sl Flown)}{play:Int}{zoj:Bool}{sv0:(Sl Plane)}{zvC:Nat->List PV}{sv1:(Sl Plane)}{zvE:Nat->List PV}{iv2:Int}{sv2:(Sl Plane)}{zcT:(Sl Int)}{zme:Nat->List PV}{zdW:Nat->List PV}{X2:St->Prop}{P2:Int->(Sl Plane)->(Sl Int)->Bool}{S2:Int->(Sl Plane)->(Sl Int)->Bool}{iv3:Int}{sv3:(Sl Plane)}{ziN:Int}{zmg:Int}{zeZ:(Sl Int)}{zAy:Nat->List PV}{zs3:Nat->List PV}{sv4:(Sl Plane)}{zmh:(Sl Int)}{zAz:Nat->List PV}{zs4:Nat->List PV}{iv5:Int}{sv5:(Sl Plane)}{zcU:(Sl Int)}{zbv:(Sl Hit)}{zbw:(Sl Int)}{zbx:(Sl Pulse)}{zmf:Nat->List PV}{zdX:Nat->List PV}{zc1:Nat->List PV}{zc2:Nat->List PV}{zc3:Nat->List PV}{X5:St->Prop}{P5:Int->(Sl Plane)->(Sl Int)->(Sl Hit)->(Sl Int)->(Sl Pulse)->Bool}{S5:Int->(Sl Plane)->(Sl Int)->(Sl Hit)->(Sl Int)->(Sl Pulse)->Bool}{iv6:Int}{sv6:(Sl Plane)}{zbh:Int}{zbi:Int}{zbK:Int}{zdh:Int}{zdi:Int}{zdj:Int}{zbf:(Sl Int)}{zgx:(Sl Hit)}{zgy:(Sl Int)}{zgz:(Sl Pulse)}{zAA:Nat->List PV}{zs5:Nat->List PV}{zpp:Nat->List PV}{zpq:Nat->List PV}{zpr:Nat->List PV}{sv7:(Sl Plane)}{zmi:(Sl Int)}{zgA:(Sl Hit)}{zgB:(Sl Int)}{zc4:(Sl Pulse)}{zAB:Nat->List PV}{zs6:Nat->List PV}{zps:Nat->List PV}{zpt:Nat->List PV}{zpu:Nat->List PV}{iv8:Int}{sv8:(Sl Plane)}{zk6:Int}{zk7:Int}{zk8:Int}{zk9:Int}{zla:Int}{zlb:Int}{zbP:Int}{zbQ:Int}{zbR:Int}{zbS:Int}{zbT:Int}{zbu:Int}{zb5:Int}{zb6:Int}{zb7:Int}{zb8:Int}{zb9:Int}{zbU:Int}{zjt:(Sl Int)}{zeD:(Sl Hit)}{zeE:(Sl Int)}{zeF:(Sl Pulse)}{zAC:Nat->List PV}{zs7:Nat->List PV}{zpv:Nat->List PV}{zpw:Nat->List PV}{zpx:Nat->List PV}{ev9:Int}{sv9:(Sl Plane)}{zay:Int}{zdY:(Sl Tie)}{zmj:(Sl Int)}{zgC:(Sl Hit)}{zgD:(Sl Int)}{zAD:Nat->List PV}{zs8:Nat->List PV}{zs9:Nat->List PV}{zpy:Nat->List PV}{zpz:Nat->List PV}{zqs:Int}{ze0:Bool}{zwM:(Sl Plane)}{ziO:Int}{ziP:Int}{ziQ:Int}{ziR:Int}{ziS:Int}{ziT:Int}{zgE:(Sl Int)}{zdZ:(Sl Hit)}{zd0:(Sl Int)}{zd1:(Sl Pulse)}{zwN:Nat->List PV}{zpA:Nat->List PV}{zmk:Nat->List PV}{zml:Nat->List PV}{zmm:Nat->List PV}{zcR:(Sl Plane)}{zaJ:(Sl Int)}{zao:(Sl Hit)}{zaq:(Sl Int)}{zwO:Nat->List PV}{zpB:Nat->List PV}{zmn:Nat->List PV}{zmo:Nat->List PV}{zyk:Int}{zm7:(Sl Plane)}{zdk:Int}{zdl:Int}{zcx:Int}{zca:Int}{zmp:Int}{zmq:Int}{zgF:(Sl Int)}{zbV:(Sl Hit)}{zbW:(Sl Int)}{zbX:(Sl Pulse)}{zwP:Nat->List PV}{zpC:Nat->List PV}{zmr:Nat->List PV}{zms:Nat->List PV}{zmt:Nat->List PV}{zdD:Int}{zaz:(Sl Tie)}{zaA:(Sl Span)}{zcn:Nat->List PV}{zco:Nat->List PV}{X13:St->Prop}{P13:Int->(Sl Tie)->(Sl Span)->Bool}{S13:Int->(Sl Tie)->(Sl Span)->Bool}{zwQ:(Sl Plane)}{zgG:(Sl Int)}{zd2:(Sl Hit)}{zd3:(Sl Int)}{zaO:(Sl Tie)}{zd4:(Sl Span)}{zwR:Nat->List PV}{zpD:Nat->List PV}{zmu:Nat->List PV}{zmv:Nat->List PV}{zmw:Nat->List PV}{zmx:Nat->List PV}{za8:(Sl Span)}{zyl:Int}{zqu:(Sl Plane)}{zcb:(Sl Int)}{zct:(Sl Hit)}{zcu:(Sl Int)}{zcv:(Sl Span)}{zwS:Nat->List PV}{zwT:Nat->List PV}{zpE:Nat->List PV}{zmy:Nat->List PV}{zmz:Nat->List PV}{zmA:Nat->List PV}{ze1:Bool}{zwU:(Sl Plane)}{zgH:(Sl Int)}{zd5:(Sl Hit)}{zd6:(Sl Int)}{zd7:(Sl Span)}{zwV:Nat->List PV}{zpF:Nat->List PV}{zmB:Nat->List PV}{zmC:Nat->List PV}{zmD:Nat->List PV}{zex:(Sl Plane)}{zax:(Sl Int)}{zar:(Sl Hit)}{zas:(Sl Int)}{zat:(Sl Span)}{zwW:Nat->List PV}{zpG:Nat->List PV}{zmE:Nat->List PV}{zmF:Nat->List PV}{zmG:Nat->List PV}{zdE:Int}{X18:St->Prop}{P18:Int->Bool}{S18:Int->Bool}{zqv:(Sl Plane)}{zd8:(Sl Hit)}{zd9:(Sl Int)}{zcw:(Sl Span)}{zwX:Nat->List PV}{zmH:Nat->List PV}{zmI:Nat->List PV}{zmJ:Nat->List PV}{zym:Int}{zcj:(Sl Plane)}{zea:(Sl Hit)}{zeb:(Sl Int)}{zwY:Nat->List PV}{zmK:Nat->List PV}{zmL:Nat->List PV}{zec:(Sl Hit)}{zed:(Sl Int)}{zmM:Nat->List PV}{zmN:Nat->List PV}{ze7:Int}{zaw:(Sl Hit)}{za2:(Sl Int)}{zcp:Nat->List PV}{zcq:Nat->List PV}{X22:St->Prop}{P22:Int->(Sl Hit)->(Sl Int)->Bool}{S22:Int->(Sl Hit)->(Sl Int)->Bool}{zmO:Int}{zyn:Int}{ziU:Int}{ziV:Int}{zee:(Sl Hit)}{zbL:(Sl Int)}{zmP:Nat->List PV}{zmQ:Nat->List PV}
def zok (S22:Int->(Sl Hit)->(Sl Int)->Bool) (zcj:(Sl Plane)) (zmO:Int) (zyn:Int) (ziU:Int) (ziV:Int) (zee:(Sl Hit)) (zbL:(Sl Int)):Bool :=
  (cond (zyn != (0:Int))
 false
 (cond (decide ((zbL.get zmO.toNat) < ziU))
 false
 (cond (decide ((zbL.get zmO.toNat) > ziV))
 false
 (S22 (w64 (zmO+(1:Int))) zee zbL))))
def zol (P22:Int->(Sl Hit)->(Sl Int)->Bool) (zcj:(Sl Plane)) (zmO:Int) (zyn:Int) (ziU:Int) (ziV:Int) (zee:(Sl Hit)) (zbL:(Sl Int)):Bool :=
  (cond (zyn != (0:Int))
 true
 (decide ((0<=zmO/\zmO < (zbL.len:Int))) &&
 (decide ((zmO.toNat < zbL.len)) &&
 (cond (decide ((zbL.get zmO.toNat) < ziU))
 true
 (decide ((0<=zmO/\zmO < (zbL.len:Int))) &&
 (decide ((zmO.toNat < zbL.len)) &&
 (cond (decide ((zbL.get zmO.toNat) > ziV))
 true
 (P22 (w64 (zmO+(1:Int))) zee zbL))))))))
theorem zyo (hX22:zyj K zcj X22 P22 S22) (hs:zol P22 zcj zmO zyn ziU ziV zee zbL=true) (hk:K (e3 (zok S22 zcj zmO zyn ziU ziV zee zbL))) (zta:zmP=zg zaS zee) (ztb:zmQ=zg enc_3 zbL):z3 K [1,1,1,1,1,1,1,1,1,1,1,1,1,1,1,1,1,1,0,1,0,0,1,0,0,1] [X22] ⟨[(13,zv 258),(14,zv 268),(26,zp 26 0),(28,zI zmO),(29,zp 29 0),(30,zI zyn)],[(26,.box 24 (zm (enc_24 (⟨zcj⟩:Setup)))),(29,.box 32 (zm (zbN (⟨ziU,ziV⟩:Span)))),(258,.vec 41 6 48 zee.len zmP),(268,.vec 3 1 8 zbL.len zmQ)],[]⟩:=by subst zta;subst ztb;exact zgK (by kernel_rfl) (zc hs hk (λ hs hk=>hk) (λ hs hk=>(zcQ hs λ hc hs=>And.intro hc (zcQ hs λ hc hs=>And.intro hc (zc hs hk (λ hs hk=>hk) (λ hs hk=>(zcQ hs λ hc hs=>And.intro hc (zcQ hs λ hc hs=>And.intro hc (zc hs hk (λ hs hk=>hk) (λ hs hk=>(hX22 hs hk rfl rfl)))))))))))
def zge (zcj:(Sl Plane)) (S22:Int->(Sl Hit)->(Sl Int)->Bool) (ze7:Int) (zaw:(Sl Hit)) (za2:(Sl Int)):Bool :=
  (cond (decide (ze7 < (zaw.len : Int)))
 (zok S22 zcj ze7 ((s14 (⟨zcj⟩:Setup) (zaw.get ze7.toNat)).2) (((s14 (⟨zcj⟩:Setup) (zaw.get ze7.toNat)).1).Low) (((s14 (⟨zcj⟩:Setup) (zaw.get ze7.toNat)).1).High) zaw za2)
 true)
def zgf (zcj:(Sl Plane)) (P22:Int->(Sl Hit)->(Sl Int)->Bool) (ze7:Int) (zaw:(Sl Hit)) (za2:(Sl Int)):Bool :=
  (cond (decide (ze7 < (zaw.len : Int)))
 (decide ((0<=ze7/\ze7 < (zaw.len:Int))) &&
 (decide ((ze7.toNat < zaw.len)) &&
 (decide ((p14 (⟨zcj⟩:Setup) (zaw.get ze7.toNat)=true)) &&
 (zol P22 zcj ze7 ((s14 (⟨zcj⟩:Setup) (zaw.get ze7.toNat)).2) (((s14 (⟨zcj⟩:Setup) (zaw.get ze7.toNat)).1).Low) (((s14 (⟨zcj⟩:Setup) (zaw.get ze7.toNat)).1).High) zaw za2))))
 true)
def ze2 (zcj:(Sl Plane)):Nat->Int->(Sl Hit)->(Sl Int)->Bool:=lpO (λ _ _ _=>default) (zge zcj)
def ze3 (zcj:(Sl Plane)):Nat->Int->(Sl Hit)->(Sl Int)->Bool:=lpO (λ _ _ _=>false) (zgf zcj)
def ziW (zcj:(Sl Plane)) (ze7:Int) (zaw:(Sl Hit)) (za2:(Sl Int)):Bool:=ze2 zcj Fuel ze7 zaw za2
def ziX (zcj:(Sl Plane)) (ze7:Int) (zaw:(Sl Hit)) (za2:(Sl Int)):Bool:=ze3 zcj Fuel ze7 zaw za2
theorem zyp (hs:ziX zcj ze7 zaw za2=true) (hk:K (e3 (ziW zcj ze7 zaw za2))) (ziY:zcp=zg zaS zaw) (ziZ:zcq=zg enc_3 za2):z3 K [1,1,1,1,1,1,1,1,1,1,1,1,1,1,1,1,1,1,0,1,0] [] (zwL zcj ze7 zaw za2 zcp zcq) :=
  zl (λ X=>z3 K [1,1,1,1,1,1,1,1,1,1,1,1,1,1,1,1,1,1,0,1,0,0] [X]) (by kernel_rfl) λ X22 hX =>
  (show ∀ k, zyj K zcj X22 (ze3 zcj k) (ze2 zcj k) from zzc _ _ (zgf zcj) (zge zcj) (zyj K zcj X22)
 (by intro _ _ _ _ _ hs;exact absurd hs dqk)
 (by intro P22 S22 hX22 ze7 zaw za2 zcp zcq hs hk ziY ziZ;subst ziY;subst ziZ;exact hX _ (zgK (by kernel_rfl) (zc hs hk (λ hs hk=>(zcQ hs λ hc hs=>And.intro hc (zcQ hs λ hc hs=>And.intro hc (zcQ hs λ hc hs=>And.intro (And.intro (zE enc_35 15 zcj.get) hc) (zyo hX22 hs hk rfl rfl))))) (λ hs hk=>hk))))) _ hs hk ziY ziZ
def zom (zcj:(Sl Plane)) (zec:(Sl Hit)) (zed:(Sl Int)):Bool :=
  (ziW zcj (0:Int) zec zed)
def zon (zcj:(Sl Plane)) (zec:(Sl Hit)) (zed:(Sl Int)):Bool :=
  (ziX zcj (0:Int) zec zed)
theorem zyq (hs:zon zcj zec zed=true) (hk:K (e3 (zom zcj zec zed))) (ztc:zmM=zg zaS zec) (ztd:zmN=zg enc_3 zed):z3 K [1,1,1,1,1,1,1,1,1,1,1,1,1,1,1,1,1,1] [] ⟨[(13,zv 258),(14,zv 268),(26,zp 26 0)],[(26,.box 24 (zm (enc_24 (⟨zcj⟩:Setup)))),(258,.vec 41 6 48 zec.len zmM),(268,.vec 3 1 8 zed.len zmN)],[]⟩:=by subst ztc;subst ztd;exact zgK (by kernel_rfl) (zyp hs hk rfl rfl)
def zoo (zym:Int) (zcj:(Sl Plane)) (zea:(Sl Hit)) (zeb:(Sl Int)):Bool :=
  (cond (zym != (0:Int))
 false
 (zom zcj zea zeb))
def zop (zym:Int) (zcj:(Sl Plane)) (zea:(Sl Hit)) (zeb:(Sl Int)):Bool :=
  (cond (zym != (0:Int))
 true
 (zon zcj zea zeb))
theorem zyr (hs:zop zym zcj zea zeb=true) (hk:K (e3 (zoo zym zcj zea zeb))) (zAE:zwY=zg enc_35 zcj) (zte:zmK=zg zaS zea) (ztf:zmL=zg enc_3 zeb):z3 K [1,1,1,1,1,1,1,1,1,1,1,1,1,1,1,1,1] [] ⟨[(13,zv 258),(14,zv 268),(26,zp 26 0),(27,zI zym)],[(26,.box 24 [.p (.sl zcj.len 15 zwY)]),(258,.vec 41 6 48 zea.len zmK),(268,.vec 3 1 8 zeb.len zmL)],[]⟩:=by subst zAE;subst zte;subst ztf;exact zgK (by kernel_rfl) (zc hs hk (λ hs hk=>hk) (λ hs hk=>(zyq hs hk rfl rfl)))
def zi0 (za8:(Sl Span)) (zqv:(Sl Plane)) (zd8:(Sl Hit)) (zd9:(Sl Int)) (zcw:(Sl Span)):Bool :=
  (zoo ((s13 (⟨zqv⟩:Setup) zcw (⟨((za8.len:Int) - (1:Int)).toNat,(λ i=>za8.get (i+((1:Int).toNat)))⟩:(Sl Span))).2) (((s13 (⟨zqv⟩:Setup) zcw (⟨((za8.len:Int) - (1:Int)).toNat,(λ i=>za8.get (i+((1:Int).toNat)))⟩:(Sl Span))).1).Planes) zd8 zd9)
def zi1 (za8:(Sl Span)) (zqv:(Sl Plane)) (zd8:(Sl Hit)) (zd9:(Sl Int)) (zcw:(Sl Span)):Bool :=
  (decide ((0<=(1:Int)/\(1:Int)<=(za8.len:Int)/\(za8.len:Int)<=(za8.len:Int))) &&
 (decide ((p13 (⟨zqv⟩:Setup) zcw (⟨((za8.len:Int) - (1:Int)).toNat,(λ i=>za8.get (i+((1:Int).toNat)))⟩:(Sl Span))=true)) &&
 (zop ((s13 (⟨zqv⟩:Setup) zcw (⟨((za8.len:Int) - (1:Int)).toNat,(λ i=>za8.get (i+((1:Int).toNat)))⟩:(Sl Span))).2) (((s13 (⟨zqv⟩:Setup) zcw (⟨((za8.len:Int) - (1:Int)).toNat,(λ i=>za8.get (i+((1:Int).toNat)))⟩:(Sl Span))).1).Planes) zd8 zd9)))
theorem zys (hs:zi1 za8 zqv zd8 zd9 zcw=true) (hk:K (e3 (zi0 za8 zqv zd8 zd9 zcw))) (zAF:zwX=zg enc_35 zqv) (ztg:zmH=zg zaS zd8) (zth:zmI=zg enc_3 zd9) (zti:zmJ=zg zbN zcw):z3 K [1,1,1,1,1,1,1,1,1,1,1,1,1,1,1,1] [] ⟨[(4,zp 4 0),(13,zv 258),(14,zv 268),(21,zv 360),(23,zS zbN 2 za8)],[(4,.box 24 [.p (.sl zqv.len 15 zwX)]),(258,.vec 41 6 48 zd8.len zmH),(268,.vec 3 1 8 zd9.len zmI),(360,.vec 32 2 16 zcw.len zmJ)],[]⟩:=by subst zAF;subst ztg;subst zth;subst zti;exact zgK (by kernel_rfl) (zcQ hs λ hc hs=>And.intro hc (zcQ hs λ hc hs=>And.intro (And.intro (zE enc_35 15 zqv.get) (And.intro (zE zbN 2 zcw.get) (And.intro (isE:IsE zbN 2 2 (slG (λ i=>zbN (za8.get i)) ((1:Int).toNat))) hc))) (zyr hs hk rfl rfl rfl)))
def zgg (za8:(Sl Span)) (zex:(Sl Plane)) (zax:(Sl Int)) (zar:(Sl Hit)) (zas:(Sl Int)) (zat:(Sl Span)) (S18:Int->Bool) (zdE:Int):Bool :=
  (cond (decide (zdE < (za8.len : Int)))
 (cond (decide ((zax.get zdE.toNat) < (za8.get zdE.toNat).Low))
 false
 (cond (decide ((zax.get zdE.toNat) > (za8.get zdE.toNat).High))
 false
 (S18 (w64 (zdE+(1:Int))))))
 (zi0 za8 zex zar zas zat))
def zgh (za8:(Sl Span)) (zex:(Sl Plane)) (zax:(Sl Int)) (zar:(Sl Hit)) (zas:(Sl Int)) (zat:(Sl Span)) (P18:Int->Bool) (zdE:Int):Bool :=
  (cond (decide (zdE < (za8.len : Int)))
 (decide ((0<=zdE/\zdE < (zax.len:Int))) &&
 (decide ((zdE.toNat < zax.len)) &&
 (decide ((0<=zdE/\zdE < (za8.len:Int))) &&
 (cond (decide ((zax.get zdE.toNat) < (za8.get zdE.toNat).Low))
 true
 (decide ((0<=zdE/\zdE < (zax.len:Int))) &&
 (decide ((zdE.toNat < zax.len)) &&
 (decide ((0<=zdE/\zdE < (za8.len:Int))) &&
 (cond (decide ((zax.get zdE.toNat) > (za8.get zdE.toNat).High))
 true
 (P18 (w64 (zdE+(1:Int))))))))))))
 (zi1 za8 zex zar zas zat))
def zgi (za8:(Sl Span)) (zex:(Sl Plane)) (zax:(Sl Int)) (zar:(Sl Hit)) (zas:(Sl Int)) (zat:(Sl Span)):Nat->Int->Bool:=lpO (λ _=>default) (zgg za8 zex zax zar zas zat)
def zgj (za8:(Sl Span)) (zex:(Sl Plane)) (zax:(Sl Int)) (zar:(Sl Hit)) (zas:(Sl Int)) (zat:(Sl Span)):Nat->Int->Bool:=lpO (λ _=>false) (zgh za8 zex zax zar zas zat)
def zlc (za8:(Sl Span)) (zex:(Sl Plane)) (zax:(Sl Int)) (zar:(Sl Hit)) (zas:(Sl Int)) (zat:(Sl Span)) (zdE:Int):Bool:=zgi za8 zex zax zar zas zat Fuel zdE
def zld (za8:(Sl Span)) (zex:(Sl Plane)) (zax:(Sl Int)) (zar:(Sl Hit)) (zas:(Sl Int)) (zat:(Sl Span)) (zdE:Int):Bool:=zgj za8 zex zax zar zas zat Fuel zdE
theorem zyt (hs:zld za8 zex zax zar zas zat zdE=true) (hk:K (e3 (zlc za8 zex zax zar zas zat zdE))):z3 K [1,1,1,1,1,1,1,1,1,1,1,1,1,1,1,0,1,0] [] (zwK za8 zex zax zar zas zat zdE) :=
  zl (λ X=>z3 K [1,1,1,1,1,1,1,1,1,1,1,1,1,1,1,0,1,0,0] [X]) (by kernel_rfl) λ X18 hX =>
  (show ∀ k, zAx K za8 zex zax zar zas zat X18 (zgj za8 zex zax zar zas zat k) (zgi za8 zex zax zar zas zat k) from zzc _ _ (zgh za8 zex zax zar zas zat) (zgg za8 zex zax zar zas zat) (zAx K za8 zex zax zar zas zat X18)
 (by intro _ hs;exact absurd hs dqk)
 (by intro P18 S18 hX18 zdE hs hk;exact hX _ (zgK (by kernel_rfl) (zc hs hk (λ hs hk=>(zcQ hs λ hc hs=>And.intro hc (zcQ hs λ hc hs=>And.intro hc (zcQ hs λ hc hs=>And.intro hc (zc hs hk (λ hs hk=>hk) (λ hs hk=>(zcQ hs λ hc hs=>And.intro hc (zcQ hs λ hc hs=>And.intro hc (zcQ hs λ hc hs=>And.intro hc (zc hs hk (λ hs hk=>hk) (λ hs hk=>(hX18 hs hk)))))))))))) (λ hs hk=>(zys hs hk rfl rfl rfl rfl)))))) _ hs hk
def ztj (za8:(Sl Span)) (zex:(Sl Plane)) (zax:(Sl Int)) (zar:(Sl Hit)) (zas:(Sl Int)) (zat:(Sl Span)):Bool :=
  (zlc za8 zex zax zar zas zat (0:Int))
def ztk (za8:(Sl Span)) (zex:(Sl Plane)) (zax:(Sl Int)) (zar:(Sl Hit)) (zas:(Sl Int)) (zat:(Sl Span)):Bool :=
  (zld za8 zex zax zar zas zat (0:Int))
theorem zyu (hs:ztk za8 zex zax zar zas zat=true) (hk:K (e3 (ztj za8 zex zax zar zas zat))) (zAG:zwW=zg enc_35 zex) (zvI:zpG=zg enc_3 zax) (ztl:zmE=zg zaS zar) (ztm:zmF=zg enc_3 zas) (ztn:zmG=zg zbN zat):z3 K [1,1,1,1,1,1,1,1,1,1,1,1,1,1,1] [] ⟨[(4,zp 4 0),(9,zv 67),(13,zv 258),(14,zv 268),(21,zv 360),(23,zS zbN 2 za8)],[(4,.box 24 [.p (.sl zex.len 15 zwW)]),(67,.vec 3 1 8 zax.len zpG),(258,.vec 41 6 48 zar.len zmE),(268,.vec 3 1 8 zas.len zmF),(360,.vec 32 2 16 zat.len zmG)],[]⟩:=by subst zAG;subst zvI;subst ztl;subst ztm;subst ztn;exact zgK (by kernel_rfl) (zyt hs hk)
def zi2 (za8:(Sl Span)) (ze1:Bool) (zwU:(Sl Plane)) (zgH:(Sl Int)) (zd5:(Sl Hit)) (zd6:(Sl Int)) (zd7:(Sl Span)):Bool :=
  (cond ze1
 false
 (ztj za8 zwU zgH zd5 zd6 zd7))
def zi3 (za8:(Sl Span)) (ze1:Bool) (zwU:(Sl Plane)) (zgH:(Sl Int)) (zd5:(Sl Hit)) (zd6:(Sl Int)) (zd7:(Sl Span)):Bool :=
  (cond ze1
 true
 (ztk za8 zwU zgH zd5 zd6 zd7))
theorem zoq (hs:zi3 za8 ze1 zwU zgH zd5 zd6 zd7=true) (hk:K (e3 (zi2 za8 ze1 zwU zgH zd5 zd6 zd7))) (zAH:zwV=zg enc_35 zwU) (zvJ:zpF=zg enc_3 zgH) (zto:zmB=zg zaS zd5) (ztp:zmC=zg enc_3 zd6) (ztq:zmD=zg zbN zd7):z3 K [1,1,1,1,1,1,1,1,1,1,1,1,1,1,0,1] [] ⟨[(4,zp 4 0),(9,zv 67),(13,zv 258),(14,zv 268),(21,zv 360),(23,zS zbN 2 za8),(380,zB ze1)],[(4,.box 24 [.p (.sl zwU.len 15 zwV)]),(67,.vec 3 1 8 zgH.len zpF),(258,.vec 41 6 48 zd5.len zmB),(268,.vec 3 1 8 zd6.len zmC),(360,.vec 32 2 16 zd7.len zmD)],[]⟩:=by subst zAH;subst zvJ;subst zto;subst ztp;subst ztq;exact zgK (by kernel_rfl) (zc hs hk (λ hs hk=>hk) (λ hs hk=>(zyu hs hk rfl rfl rfl rfl rfl)))
def zor (zay:Int) (zaO:(Sl Tie)) (za8:(Sl Span)) (zyl:Int) (zqu:(Sl Plane)) (zcb:(Sl Int)) (zct:(Sl Hit)) (zcu:(Sl Int)) (zcv:(Sl Span)):Bool :=
  (cond (zyl != (0:Int))
 (zi2 za8 true zqu zcb zct zcu zcv)
 (cond (!(s12 (⟨zay, zaO⟩ : Net) zcb))
 (zi2 za8 true zqu zcb zct zcu zcv)
 (zi2 za8 ((za8.len:Int) != (zcb.len:Int)) zqu zcb zct zcu zcv)))
def zos (zay:Int) (zaO:(Sl Tie)) (za8:(Sl Span)) (zyl:Int) (zqu:(Sl Plane)) (zcb:(Sl Int)) (zct:(Sl Hit)) (zcu:(Sl Int)) (zcv:(Sl Span)):Bool :=
  (cond (zyl != (0:Int))
 (zi3 za8 true zqu zcb zct zcu zcv)
 (decide ((p12 (⟨zay,zaO⟩:Net) zcb=true)) &&
 (cond (!(s12 (⟨zay, zaO⟩ : Net) zcb))
 (zi3 za8 true zqu zcb zct zcu zcv)
 (zi3 za8 ((za8.len:Int) != (zcb.len:Int)) zqu zcb zct zcu zcv))))
theorem zyv (hs:zos zay zaO za8 zyl zqu zcb zct zcu zcv=true) (hk:K (e3 (zor zay zaO za8 zyl zqu zcb zct zcu zcv))) (zAI:zwS=zg zbN za8) (zAJ:zwT=zg enc_35 zqu) (zvK:zpE=zg enc_3 zcb) (ztr:zmy=zg zaS zct) (zts:zmz=zg enc_3 zcu) (ztt:zmA=zg zbN zcv):z3 K [1,1,1,1,1,1,1,1,1,1,1,1,1,1] [] ⟨[(4,zp 4 0),(9,zv 67),(13,zv 258),(14,zv 268),(19,zp 19 0),(21,zv 360),(23,zP (.sl za8.len 2 zwS)),(24,zI zyl)],[(4,.box 24 [.p (.sl zqu.len 15 zwT)]),(19,.box 48 [zi zay,.vec 321]),(67,.vec 3 1 8 zcb.len zpE),(258,.vec 41 6 48 zct.len zmy),(268,.vec 3 1 8 zcu.len zmz),(321,.fvec 4 zaO.len (λ i=>zdg (zaO.get i))),(360,.vec 32 2 16 zcv.len zmA)],[]⟩:=by subst zAI;subst zAJ;subst zvK;subst ztr;subst zts;subst ztt;exact zgK (by kernel_rfl) (zc hs hk (λ hs hk=>(zoq hs hk rfl rfl rfl rfl rfl)) (λ hs hk=>(zcQ hs λ hc hs=>And.intro (And.intro (zE zdg 4 zaO.get) (And.intro (zE enc_3 1 zcb.get) hc)) (zc hs hk (λ hs hk=>(zoq hs hk rfl rfl rfl rfl rfl)) (λ hs hk=>(zoq hs hk rfl rfl rfl rfl rfl))))))
def zi4 (zay:Int) (zwQ:(Sl Plane)) (zgG:(Sl Int)) (zd2:(Sl Hit)) (zd3:(Sl Int)) (zaO:(Sl Tie)) (zd4:(Sl Span)):Bool :=
  (zor zay zaO ((s11 (⟨zay,zaO⟩:Net)).1) ((s11 (⟨zay,zaO⟩:Net)).2) zwQ zgG zd2 zd3 zd4)
def zi5 (zay:Int) (zwQ:(Sl Plane)) (zgG:(Sl Int)) (zd2:(Sl Hit)) (zd3:(Sl Int)) (zaO:(Sl Tie)) (zd4:(Sl Span)):Bool :=
  (decide ((p11 (⟨zay,zaO⟩:Net)=true)) &&
 (zos zay zaO ((s11 (⟨zay,zaO⟩:Net)).1) ((s11 (⟨zay,zaO⟩:Net)).2) zwQ zgG zd2 zd3 zd4))
theorem zyw (hs:zi5 zay zwQ zgG zd2 zd3 zaO zd4=true) (hk:K (e3 (zi4 zay zwQ zgG zd2 zd3 zaO zd4))) (zAK:zwR=zg enc_35 zwQ) (zvL:zpD=zg enc_3 zgG) (ztu:zmu=zg zaS zd2) (ztv:zmv=zg enc_3 zd3) (ztw:zmw=zg zdg zaO) (ztx:zmx=zg zbN zd4):z3 K [1,1,1,1,1,1,1,1,1,1,1,1,1] [] ⟨[(4,zp 4 0),(9,zv 67),(13,zv 258),(14,zv 268),(19,zp 19 0),(21,zv 360)],[(4,.box 24 [.p (.sl zwQ.len 15 zwR)]),(19,.box 48 [zi zay,.vec 321]),(67,.vec 3 1 8 zgG.len zpD),(258,.vec 41 6 48 zd2.len zmu),(268,.vec 3 1 8 zd3.len zmv),(321,.vec 54 4 32 zaO.len zmw),(360,.vec 32 2 16 zd4.len zmx)],[]⟩:=by subst zAK;subst zvL;subst ztu;subst ztv;subst ztw;subst ztx;exact zgK (by kernel_rfl) (zcQ hs λ hc hs=>And.intro (And.intro (zE zdg 4 zaO.get) hc) (zyv hs hk rfl rfl rfl rfl rfl rfl))
def zgk (zay:Int) (zcR:(Sl Plane)) (zaJ:(Sl Int)) (zao:(Sl Hit)) (zaq:(Sl Int)) (S13:Int->(Sl Tie)->(Sl Span)->Bool) (zdD:Int) (zaz:(Sl Tie)) (zaA:(Sl Span)):Bool :=
  (cond (decide (zdD < (zcR.len : Int)))
 (S13 (w64 (zdD+(1:Int))) (⟨(zaz.len+1),(zdx zaz.len zaz.get (λ _=>(⟨(0:Int),(w64 (zdD+(1:Int))),(zcR.get zdD.toNat).Clock.Low,(zcR.get zdD.toNat).Clock.High⟩:Tie)))⟩:Sl Tie) (⟨(zaA.len+1),(zdx zaA.len zaA.get (λ _=>(zcR.get zdD.toNat).Offset))⟩:Sl Span))
 (zi4 zay zcR zaJ zao zaq zaz zaA))
def zgl (zay:Int) (zcR:(Sl Plane)) (zaJ:(Sl Int)) (zao:(Sl Hit)) (zaq:(Sl Int)) (P13:Int->(Sl Tie)->(Sl Span)->Bool) (zdD:Int) (zaz:(Sl Tie)) (zaA:(Sl Span)):Bool :=
  (cond (decide (zdD < (zcR.len : Int)))
 (decide ((0<=zdD/\zdD < (zcR.len:Int))) &&
 (decide ((0<=zdD/\zdD < (zcR.len:Int))) &&
 (decide (((zaz.len+1) * 32<=140737488355328/\zaz.len+1<=9223372036854775807)) &&
 (decide ((0<=zdD/\zdD < (zcR.len:Int))) &&
 (decide (((zaA.len+1) * 16<=140737488355328/\zaA.len+1<=9223372036854775807)) &&
 (P13 (w64 (zdD+(1:Int))) (⟨(zaz.len+1),(zdx zaz.len zaz.get (λ _=>(⟨(0:Int),(w64 (zdD+(1:Int))),(zcR.get zdD.toNat).Clock.Low,(zcR.get zdD.toNat).Clock.High⟩:Tie)))⟩:Sl Tie) (⟨(zaA.len+1),(zdx zaA.len zaA.get (λ _=>(zcR.get zdD.toNat).Offset))⟩:Sl Span)))))))
 (zi5 zay zcR zaJ zao zaq zaz zaA))
def ze4 (zay:Int) (zcR:(Sl Plane)) (zaJ:(Sl Int)) (zao:(Sl Hit)) (zaq:(Sl Int)):Nat->Int->(Sl Tie)->(Sl Span)->Bool:=lpO (λ _ _ _=>default) (zgk zay zcR zaJ zao zaq)
def ze5 (zay:Int) (zcR:(Sl Plane)) (zaJ:(Sl Int)) (zao:(Sl Hit)) (zaq:(Sl Int)):Nat->Int->(Sl Tie)->(Sl Span)->Bool:=lpO (λ _ _ _=>false) (zgl zay zcR zaJ zao zaq)
def zot (zay:Int) (zcR:(Sl Plane)) (zaJ:(Sl Int)) (zao:(Sl Hit)) (zaq:(Sl Int)) (zdD:Int) (zaz:(Sl Tie)) (zaA:(Sl Span)):Bool:=ze4 zay zcR zaJ zao zaq Fuel zdD zaz zaA
def zou (zay:Int) (zcR:(Sl Plane)) (zaJ:(Sl Int)) (zao:(Sl Hit)) (zaq:(Sl Int)) (zdD:Int) (zaz:(Sl Tie)) (zaA:(Sl Span)):Bool:=ze5 zay zcR zaJ zao zaq Fuel zdD zaz zaA
theorem zyx (hs:zou zay zcR zaJ zao zaq zdD zaz zaA=true) (hk:K (e3 (zot zay zcR zaJ zao zaq zdD zaz zaA))) (zi6:zcn=zg zdg zaz) (zi7:zco=zg zbN zaA):z3 K [1,1,1,1,1,1,1,1,1,1,1,1,0,1,0] [] (zwJ zay zcR zaJ zao zaq zdD zaz zaA zcn zco) :=
  zl (λ X=>z3 K [1,1,1,1,1,1,1,1,1,1,1,1,0,1,0,0] [X]) (by kernel_rfl) λ X13 hX =>
  (show ∀ k, zAw K zay zcR zaJ zao zaq X13 (ze5 zay zcR zaJ zao zaq k) (ze4 zay zcR zaJ zao zaq k) from zzc _ _ (zgl zay zcR zaJ zao zaq) (zgk zay zcR zaJ zao zaq) (zAw K zay zcR zaJ zao zaq X13)
 (by intro _ _ _ _ _ hs;exact absurd hs dqk)
 (by intro P13 S13 hX13 zdD zaz zaA zcn zco hs hk zi6 zi7;subst zi6;subst zi7;exact hX _ (zgK (by kernel_rfl) (zc hs hk (λ hs hk=>(zcQ hs λ hc hs=>And.intro hc (zcQ hs λ hc hs=>And.intro hc (zcQ hs λ hc hs=>And.intro hc (zcQ hs λ hc hs=>And.intro hc (zcQ hs λ hc hs=>And.intro hc (hX13 hs hk (zjT (enc:=zdg) (f:=zaz.get) (h:=(λ _=>(⟨(0:Int),(w64 (zdD+(1:Int))),(zcR.get zdD.toNat).Clock.Low,(zcR.get zdD.toNat).Clock.High⟩:Tie))) rfl rfl) (zjT (enc:=zbN) (f:=zaA.get) (h:=(λ _=>(zcR.get zdD.toNat).Offset)) rfl rfl)))))))) (λ hs hk=>(zyw hs hk rfl rfl rfl rfl rfl rfl)))))) _ hs hk zi6 zi7
def zty (S5:Int->(Sl Plane)->(Sl Int)->(Sl Hit)->(Sl Int)->(Sl Pulse)->Bool) (l_a2:(Sl Flown)) (play:Int) (zbP:Int) (zbQ:Int) (zbR:Int) (zbS:Int) (zbT:Int) (zbu:Int) (zb5:Int) (zb6:Int) (zb7:Int) (zb8:Int) (zb9:Int) (zbU:Int) (zyk:Int) (zm7:(Sl Plane)) (zdk:Int) (zdl:Int) (zcx:Int) (zca:Int) (zmp:Int) (zmq:Int) (zgF:(Sl Int)) (zbV:(Sl Hit)) (zbW:(Sl Int)) (zbX:(Sl Pulse)):Bool :=
  (S5 (w64 (zyk+(1:Int))) zm7 zgF (⟨(zbV.len+2),(zdx zbV.len zbV.get (zgQ (⟨zbP,zbQ,zbR,zbS,zbT,zbu⟩:Hit) [(⟨zbP,zbQ,zbR,zbS,zbT,zbu⟩:Hit),(⟨zb5,zb6,zb7,zb8,zb9,zbU⟩:Hit)]))⟩:Sl Hit) (⟨(zbW.len+2),(zdx zbW.len zbW.get (zgQ zcx [zcx,(w64 (zcx+zca))]))⟩:Sl Int) (⟨(zbX.len+1),(zdx zbX.len zbX.get (λ _=>(⟨(w64 (zdk+(1:Int))),(w64 (zdl+(1:Int))),zbu,zbU,(⟨(if (w64 (zca - play)) > (0:Int) then (w64 (zca - play)) else (0:Int)),(w64 (zca+play))⟩:Span),(w64 ((zm7.get zdk.toNat).Jitter+(zm7.get zdl.toNat).Jitter))⟩:Pulse)))⟩:Sl Pulse))
def ztz (P5:Int->(Sl Plane)->(Sl Int)->(Sl Hit)->(Sl Int)->(Sl Pulse)->Bool) (l_a2:(Sl Flown)) (play:Int) (zbP:Int) (zbQ:Int) (zbR:Int) (zbS:Int) (zbT:Int) (zbu:Int) (zb5:Int) (zb6:Int) (zb7:Int) (zb8:Int) (zb9:Int) (zbU:Int) (zyk:Int) (zm7:(Sl Plane)) (zdk:Int) (zdl:Int) (zcx:Int) (zca:Int) (zmp:Int) (zmq:Int) (zgF:(Sl Int)) (zbV:(Sl Hit)) (zbW:(Sl Int)) (zbX:(Sl Pulse)):Bool :=
  (decide (((zbV.len+2) * 48<=140737488355328/\zbV.len+2<=9223372036854775807)) &&
 (decide (((zbW.len+2) * 8<=140737488355328/\zbW.len+2<=9223372036854775807)) &&
 (decide ((0<=zdk/\zdk < (zm7.len:Int))) &&
 (decide ((0<=zdl/\zdl < (zm7.len:Int))) &&
 (decide (((zbX.len+1) * 56<=140737488355328/\zbX.len+1<=9223372036854775807)) &&
 (P5 (w64 (zyk+(1:Int))) zm7 zgF (⟨(zbV.len+2),(zdx zbV.len zbV.get (zgQ (⟨zbP,zbQ,zbR,zbS,zbT,zbu⟩:Hit) [(⟨zbP,zbQ,zbR,zbS,zbT,zbu⟩:Hit),(⟨zb5,zb6,zb7,zb8,zb9,zbU⟩:Hit)]))⟩:Sl Hit) (⟨(zbW.len+2),(zdx zbW.len zbW.get (zgQ zcx [zcx,(w64 (zcx+zca))]))⟩:Sl Int) (⟨(zbX.len+1),(zdx zbX.len zbX.get (λ _=>(⟨(w64 (zdk+(1:Int))),(w64 (zdl+(1:Int))),zbu,zbU,(⟨(if (w64 (zca - play)) > (0:Int) then (w64 (zca - play)) else (0:Int)),(w64 (zca+play))⟩:Span),(w64 ((zm7.get zdk.toNat).Jitter+(zm7.get zdl.toNat).Jitter))⟩:Pulse)))⟩:Sl Pulse)))))))
theorem zyy (hX5:zze K l_a2 play X5 P5 S5) (hs:ztz P5 l_a2 play zbP zbQ zbR zbS zbT zbu zb5 zb6 zb7 zb8 zb9 zbU zyk zm7 zdk zdl zcx zca zmp zmq zgF zbV zbW zbX=true) (hk:K (e3 (zty S5 l_a2 play zbP zbQ zbR zbS zbT zbu zb5 zb6 zb7 zb8 zb9 zbU zyk zm7 zdk zdl zcx zca zmp zmq zgF zbV zbW zbX))) (zAL:zwP=zg enc_35 zm7) (zvM:zpC=zg enc_3 zgF) (ztA:zmr=zg zaS zbV) (ztB:zms=zg enc_3 zbW) (ztC:zmt=zg zeC zbX):z3 K [1,1,1,1,1,1,1,0,1,0,0,1,0,0,1,1,1,1] [X5] ⟨[(2,zS enc_39 6 l_a2),(3,zI play),(4,zp 4 0),(9,zv 67),(12,zv 307),(13,zv 258),(14,zv 268),(15,zI zyk),(16,zp 16 0),(17,zp 17 0),(18,zp 18 0)],[(4,.box 24 [.p (.sl zm7.len 15 zwP)]),(16,.box 39 (zm (enc_39 (⟨zdk,zdl,zcx,zca,zmp,zmq⟩:Flown)))),(17,.box 41 (zm (zaS (⟨zbP,zbQ,zbR,zbS,zbT,zbu⟩:Hit)))),(18,.box 41 (zm (zaS (⟨zb5,zb6,zb7,zb8,zb9,zbU⟩:Hit)))),(67,.vec 3 1 8 zgF.len zpC),(258,.vec 41 6 48 zbV.len zmr),(268,.vec 3 1 8 zbW.len zms),(307,.vec 45 7 56 zbX.len zmt)],[]⟩:=by subst zAL;subst zvM;subst ztA;subst ztB;subst ztC;exact zgK (by kernel_rfl) (zcQ hs λ hc hs=>And.intro hc (zcQ hs λ hc hs=>And.intro hc (zcQ hs λ hc hs=>And.intro hc (zcQ hs λ hc hs=>And.intro hc (zcQ hs λ hc hs=>And.intro hc (hX5 hs hk rfl rfl (zjT (enc:=zaS) (f:=zbV.get) (h:=(zgQ (⟨zbP,zbQ,zbR,zbS,zbT,zbu⟩:Hit) [(⟨zbP,zbQ,zbR,zbS,zbT,zbu⟩:Hit),(⟨zb5,zb6,zb7,zb8,zb9,zbU⟩:Hit)])) rfl (zpd (enc:=zaS) (x:=(⟨zbP,zbQ,zbR,zbS,zbT,zbu⟩:Hit)) (y:=(⟨zb5,zb6,zb7,zb8,zb9,zbU⟩:Hit)) (r:=[]))) (zjT (enc:=enc_3) (f:=zbW.get) (h:=(zgQ zcx [zcx,(w64 (zcx+zca))])) rfl (zpd (enc:=enc_3) (x:=zcx) (y:=(w64 (zcx+zca))) (r:=[]))) (zjT (enc:=zeC) (f:=zbX.get) (h:=(λ _=>(⟨(w64 (zdk+(1:Int))),(w64 (zdl+(1:Int))),zbu,zbU,(⟨(if (w64 (zca - play)) > (0:Int) then (w64 (zca - play)) else (0:Int)),(w64 (zca+play))⟩:Span),(w64 ((zm7.get zdk.toNat).Jitter+(zm7.get zdl.toNat).Jitter))⟩:Pulse))) rfl rfl)))))))
def zi8 (zay:Int) (zdY:(Sl Tie)) (zcR:(Sl Plane)) (zaJ:(Sl Int)) (zao:(Sl Hit)) (zaq:(Sl Int)):Bool :=
  (zot zay zcR zaJ zao zaq (0:Int) zdY (⟨0,(λ _=>default)⟩:Sl Span))
def zi9 (zay:Int) (zdY:(Sl Tie)) (zcR:(Sl Plane)) (zaJ:(Sl Int)) (zao:(Sl Hit)) (zaq:(Sl Int)):Bool :=
  (decide ((zdY.len * 32<=140737488355328/\zdY.len<=9223372036854775807)) &&
 (zou zay zcR zaJ zao zaq (0:Int) zdY (⟨0,(λ _=>default)⟩:Sl Span)))
theorem zyz (hs:zi9 zay zdY zcR zaJ zao zaq=true) (hk:K (e3 (zi8 zay zdY zcR zaJ zao zaq))) (zAM:zwO=zg enc_35 zcR) (zvN:zpB=zg enc_3 zaJ) (ztD:zmn=zg zaS zao) (ztE:zmo=zg enc_3 zaq):z3 K [1,1,1,1,1,1,1,1,1,1] [] ⟨[(4,zp 4 0),(9,zv 67),(13,zv 258),(14,zv 268),(19,zp 19 0)],[(4,.box 24 [.p (.sl zcR.len 15 zwO)]),(19,.box 48 (zm (zz8 (⟨zay,zdY⟩:Net)))),(67,.vec 3 1 8 zaJ.len zpB),(258,.vec 41 6 48 zao.len zmn),(268,.vec 3 1 8 zaq.len zmo)],[]⟩:=by subst zAM;subst zvN;subst ztD;subst ztE;exact zgK (by kernel_rfl) (zcQ hs λ hc hs=>And.intro hc (zyx hs hk rfl rfl))
def zov (S5:Int->(Sl Plane)->(Sl Int)->(Sl Hit)->(Sl Int)->(Sl Pulse)->Bool) (l_a2:(Sl Flown)) (play:Int) (zbP:Int) (zbQ:Int) (zbR:Int) (zbS:Int) (zbT:Int) (zbu:Int) (zb5:Int) (zb6:Int) (zb7:Int) (zb8:Int) (zb9:Int) (zbU:Int) (zqs:Int) (ze0:Bool) (zwM:(Sl Plane)) (ziO:Int) (ziP:Int) (ziQ:Int) (ziR:Int) (ziS:Int) (ziT:Int) (zgE:(Sl Int)) (zdZ:(Sl Hit)) (zd0:(Sl Int)) (zd1:(Sl Pulse)):Bool :=
  (cond ze0
 true
 (zty S5 l_a2 play zbP zbQ zbR zbS zbT zbu zb5 zb6 zb7 zb8 zb9 zbU zqs zwM ziO ziP ziQ ziR ziS ziT zgE zdZ zd0 zd1))
def zow (P5:Int->(Sl Plane)->(Sl Int)->(Sl Hit)->(Sl Int)->(Sl Pulse)->Bool) (l_a2:(Sl Flown)) (play:Int) (zbP:Int) (zbQ:Int) (zbR:Int) (zbS:Int) (zbT:Int) (zbu:Int) (zb5:Int) (zb6:Int) (zb7:Int) (zb8:Int) (zb9:Int) (zbU:Int) (zqs:Int) (ze0:Bool) (zwM:(Sl Plane)) (ziO:Int) (ziP:Int) (ziQ:Int) (ziR:Int) (ziS:Int) (ziT:Int) (zgE:(Sl Int)) (zdZ:(Sl Hit)) (zd0:(Sl Int)) (zd1:(Sl Pulse)):Bool :=
  (cond ze0
 true
 (ztz P5 l_a2 play zbP zbQ zbR zbS zbT zbu zb5 zb6 zb7 zb8 zb9 zbU zqs zwM ziO ziP ziQ ziR ziS ziT zgE zdZ zd0 zd1))
theorem ztF (hX5:zze K l_a2 play X5 P5 S5) (hs:zow P5 l_a2 play zbP zbQ zbR zbS zbT zbu zb5 zb6 zb7 zb8 zb9 zbU zqs ze0 zwM ziO ziP ziQ ziR ziS ziT zgE zdZ zd0 zd1=true) (hk:K (e3 (zov S5 l_a2 play zbP zbQ zbR zbS zbT zbu zb5 zb6 zb7 zb8 zb9 zbU zqs ze0 zwM ziO ziP ziQ ziR ziS ziT zgE zdZ zd0 zd1))) (zAN:zwN=zg enc_35 zwM) (zvO:zpA=zg enc_3 zgE) (ztG:zmk=zg zaS zdZ) (ztH:zml=zg enc_3 zd0) (ztI:zmm=zg zeC zd1):z3 K [1,1,1,1,1,1,1,0,1,0,0,1,0,0,1,1,1,0,1] [X5] ⟨[(2,zS enc_39 6 l_a2),(3,zI play),(4,zp 4 0),(9,zv 67),(12,zv 307),(13,zv 258),(14,zv 268),(15,zI zqs),(16,zp 16 0),(17,zp 17 0),(18,zp 18 0),(252,zB ze0)],[(4,.box 24 [.p (.sl zwM.len 15 zwN)]),(16,.box 39 (zm (enc_39 (⟨ziO,ziP,ziQ,ziR,ziS,ziT⟩:Flown)))),(17,.box 41 (zm (zaS (⟨zbP,zbQ,zbR,zbS,zbT,zbu⟩:Hit)))),(18,.box 41 (zm (zaS (⟨zb5,zb6,zb7,zb8,zb9,zbU⟩:Hit)))),(67,.vec 3 1 8 zgE.len zpA),(258,.vec 41 6 48 zdZ.len zmk),(268,.vec 3 1 8 zd0.len zml),(307,.vec 45 7 56 zd1.len zmm)],[]⟩:=by subst zAN;subst zvO;subst ztG;subst ztH;subst ztI;exact zgK (by kernel_rfl) (zc hs hk (λ hs hk=>hk) (λ hs hk=>(zyy hX5 hs hk rfl rfl rfl rfl rfl)))
def ztJ (ev9:Int) (sv9:(Sl Plane)) (zay:Int) (zdY:(Sl Tie)) (zmj:(Sl Int)) (zgC:(Sl Hit)) (zgD:(Sl Int)):Bool :=
  (cond (ev9 != (0:Int))
 false
 (zi8 zay zdY sv9 zmj zgC zgD))
def ztK (ev9:Int) (sv9:(Sl Plane)) (zay:Int) (zdY:(Sl Tie)) (zmj:(Sl Int)) (zgC:(Sl Hit)) (zgD:(Sl Int)):Bool :=
  (cond (ev9 != (0:Int))
 true
 (zi9 zay zdY sv9 zmj zgC zgD))
theorem zAO (hs:ztK ev9 sv9 zay zdY zmj zgC zgD=true) (hk:K (e3 (ztJ ev9 sv9 zay zdY zmj zgC zgD))) (zCu:zAD=zg enc_35 sv9) (zyA:zs8=zg zdg zdY) (zyB:zs9=zg enc_3 zmj) (zvP:zpy=zg zaS zgC) (zvQ:zpz=zg enc_3 zgD):z3 K [1,1,1,1,1,1,1,1,1] [] ⟨[(4,zp 4 0),(9,zv 67),(13,zv 258),(14,zv 268),(19,zp 19 0),(20,zI ev9)],[(4,.box 24 [.p (.sl sv9.len 15 zAD)]),(19,.box 48 [zi zay,.p (.sl zdY.len 4 zs8)]),(67,.vec 3 1 8 zmj.len zs9),(258,.vec 41 6 48 zgC.len zpy),(268,.vec 3 1 8 zgD.len zpz)],[]⟩:=by subst zCu;subst zyA;subst zyB;subst zvP;subst zvQ;exact zgK (by kernel_rfl) (zc hs hk (λ hs hk=>hk) (λ hs hk=>(zyz hs hk rfl rfl rfl rfl)))
def zwZ (S5:Int->(Sl Plane)->(Sl Int)->(Sl Hit)->(Sl Int)->(Sl Pulse)->Bool) (l_a2:(Sl Flown)) (play:Int) (iv8:Int) (sv8:(Sl Plane)) (zk6:Int) (zk7:Int) (zk8:Int) (zk9:Int) (zla:Int) (zlb:Int) (zbP:Int) (zbQ:Int) (zbR:Int) (zbS:Int) (zbT:Int) (zbu:Int) (zb5:Int) (zb6:Int) (zb7:Int) (zb8:Int) (zb9:Int) (zbU:Int) (zjt:(Sl Int)) (zeD:(Sl Hit)) (zeE:(Sl Int)) (zeF:(Sl Pulse)):Bool :=
  (cond (!(s9 (⟨sv8⟩ : Setup) (⟨zbP, zbQ, zbR, zbS, zbT, zbu⟩ : Hit)))
 (zov S5 l_a2 play zbP zbQ zbR zbS zbT zbu zb5 zb6 zb7 zb8 zb9 zbU iv8 true sv8 zk6 zk7 zk8 zk9 zla zlb zjt zeD zeE zeF)
 (zov S5 l_a2 play zbP zbQ zbR zbS zbT zbu zb5 zb6 zb7 zb8 zb9 zbU iv8 (!(s9 (⟨sv8⟩:Setup) (⟨zb5,zb6,zb7,zb8,zb9,zbU⟩:Hit))) sv8 zk6 zk7 zk8 zk9 zla zlb zjt zeD zeE zeF))
def zw0 (P5:Int->(Sl Plane)->(Sl Int)->(Sl Hit)->(Sl Int)->(Sl Pulse)->Bool) (l_a2:(Sl Flown)) (play:Int) (iv8:Int) (sv8:(Sl Plane)) (zk6:Int) (zk7:Int) (zk8:Int) (zk9:Int) (zla:Int) (zlb:Int) (zbP:Int) (zbQ:Int) (zbR:Int) (zbS:Int) (zbT:Int) (zbu:Int) (zb5:Int) (zb6:Int) (zb7:Int) (zb8:Int) (zb9:Int) (zbU:Int) (zjt:(Sl Int)) (zeD:(Sl Hit)) (zeE:(Sl Int)) (zeF:(Sl Pulse)):Bool :=
  (decide ((p9 (⟨sv8⟩:Setup) (⟨zbP,zbQ,zbR,zbS,zbT,zbu⟩:Hit)=true)) &&
 (cond (!(s9 (⟨sv8⟩ : Setup) (⟨zbP, zbQ, zbR, zbS, zbT, zbu⟩ : Hit)))
 (zow P5 l_a2 play zbP zbQ zbR zbS zbT zbu zb5 zb6 zb7 zb8 zb9 zbU iv8 true sv8 zk6 zk7 zk8 zk9 zla zlb zjt zeD zeE zeF)
 (decide ((p9 (⟨sv8⟩:Setup) (⟨zb5,zb6,zb7,zb8,zb9,zbU⟩:Hit)=true)) &&
 (zow P5 l_a2 play zbP zbQ zbR zbS zbT zbu zb5 zb6 zb7 zb8 zb9 zbU iv8 (!(s9 (⟨sv8⟩:Setup) (⟨zb5,zb6,zb7,zb8,zb9,zbU⟩:Hit))) sv8 zk6 zk7 zk8 zk9 zla zlb zjt zeD zeE zeF))))
theorem zAP (hX5:zze K l_a2 play X5 P5 S5) (hs:zw0 P5 l_a2 play iv8 sv8 zk6 zk7 zk8 zk9 zla zlb zbP zbQ zbR zbS zbT zbu zb5 zb6 zb7 zb8 zb9 zbU zjt zeD zeE zeF=true) (hk:K (e3 (zwZ S5 l_a2 play iv8 sv8 zk6 zk7 zk8 zk9 zla zlb zbP zbQ zbR zbS zbT zbu zb5 zb6 zb7 zb8 zb9 zbU zjt zeD zeE zeF))) (zCv:zAC=zg enc_35 sv8) (zyC:zs7=zg enc_3 zjt) (zvR:zpv=zg zaS zeD) (zvS:zpw=zg enc_3 zeE) (zvT:zpx=zg zeC zeF):z3 K [1,1,1,1,1,1,1,0,1,0,0,1,0,0,1,1,1] [X5] ⟨[(2,zS enc_39 6 l_a2),(3,zI play),(4,zp 4 0),(9,zv 67),(12,zv 307),(13,zv 258),(14,zv 268),(15,zI iv8),(16,zp 16 0),(17,zp 17 0),(18,zp 18 0)],[(4,.box 24 [.p (.sl sv8.len 15 zAC)]),(16,.box 39 (zm (enc_39 (⟨zk6,zk7,zk8,zk9,zla,zlb⟩:Flown)))),(17,.box 41 (zm (zaS (⟨zbP,zbQ,zbR,zbS,zbT,zbu⟩:Hit)))),(18,.box 41 (zm (zaS (⟨zb5,zb6,zb7,zb8,zb9,zbU⟩:Hit)))),(67,.vec 3 1 8 zjt.len zs7),(258,.vec 41 6 48 zeD.len zpv),(268,.vec 3 1 8 zeE.len zpw),(307,.vec 45 7 56 zeF.len zpx)],[]⟩:=by subst zCv;subst zyC;subst zvR;subst zvS;subst zvT;exact zgK (by kernel_rfl) (zcQ hs λ hc hs=>And.intro (And.intro (zE enc_35 15 sv8.get) hc) (zc hs hk (λ hs hk=>(ztF hX5 hs hk rfl rfl rfl rfl rfl)) (λ hs hk=>(zcQ hs λ hc hs=>And.intro (And.intro (zE enc_35 15 sv8.get) hc) (ztF hX5 hs hk rfl rfl rfl rfl rfl)))))
def zmR (sv7:(Sl Plane)) (zmi:(Sl Int)) (zgA:(Sl Hit)) (zgB:(Sl Int)) (zc4:(Sl Pulse)):Bool :=
  (ztJ ((s10 (w64 ((sv7.len:Int)+(1:Int))) zc4).2) sv7 (((s10 (w64 ((sv7.len:Int)+(1:Int))) zc4).1).Nodes) (((s10 (w64 ((sv7.len:Int)+(1:Int))) zc4).1).Ties) zmi zgA zgB)
def zmS (sv7:(Sl Plane)) (zmi:(Sl Int)) (zgA:(Sl Hit)) (zgB:(Sl Int)) (zc4:(Sl Pulse)):Bool :=
  (decide ((p10 (w64 ((sv7.len:Int)+(1:Int))) zc4=true)) &&
 (ztK ((s10 (w64 ((sv7.len:Int)+(1:Int))) zc4).2) sv7 (((s10 (w64 ((sv7.len:Int)+(1:Int))) zc4).1).Nodes) (((s10 (w64 ((sv7.len:Int)+(1:Int))) zc4).1).Ties) zmi zgA zgB))
theorem zAQ (hs:zmS sv7 zmi zgA zgB zc4=true) (hk:K (e3 (zmR sv7 zmi zgA zgB zc4))) (zCw:zAB=zg enc_35 sv7) (zyD:zs6=zg enc_3 zmi) (zvU:zps=zg zaS zgA) (zvV:zpt=zg enc_3 zgB) (zvW:zpu=zg zeC zc4):z3 K [1,1,1,1,1,1,1,1] [] ⟨[(4,zp 4 0),(9,zv 67),(12,zv 307),(13,zv 258),(14,zv 268)],[(4,.box 24 [.p (.sl sv7.len 15 zAB)]),(67,.vec 3 1 8 zmi.len zs6),(258,.vec 41 6 48 zgA.len zps),(268,.vec 3 1 8 zgB.len zpt),(307,.vec 45 7 56 zc4.len zpu)],[]⟩:=by subst zCw;subst zyD;subst zvU;subst zvV;subst zvW;exact zgK (by kernel_rfl) (zcQ hs λ hc hs=>And.intro (And.intro (zE zeC 7 zc4.get) hc) (zAO hs hk rfl rfl rfl rfl rfl))
def zpH (S5:Int->(Sl Plane)->(Sl Int)->(Sl Hit)->(Sl Int)->(Sl Pulse)->Bool) (l_a2:(Sl Flown)) (play:Int) (iv6:Int) (sv6:(Sl Plane)) (zbh:Int) (zbi:Int) (zbK:Int) (zdh:Int) (zdi:Int) (zdj:Int) (zbf:(Sl Int)) (zgx:(Sl Hit)) (zgy:(Sl Int)) (zgz:(Sl Pulse)):Bool :=
  (zwZ S5 l_a2 play iv6 sv6 zbh zbi zbK zdh zdi zdj ((s8 (⟨sv6⟩:Setup) zbh zbK (zbf.get ((w64 (zbh+(1:Int))).toNat)) zdi).Plane) ((s8 (⟨sv6⟩:Setup) zbh zbK (zbf.get ((w64 (zbh+(1:Int))).toNat)) zdi).Channel) ((s8 (⟨sv6⟩:Setup) zbh zbK (zbf.get ((w64 (zbh+(1:Int))).toNat)) zdi).Many) ((s8 (⟨sv6⟩:Setup) zbh zbK (zbf.get ((w64 (zbh+(1:Int))).toNat)) zdi).Drift) ((s8 (⟨sv6⟩:Setup) zbh zbK (zbf.get ((w64 (zbh+(1:Int))).toNat)) zdi).Charge) ((s8 (⟨sv6⟩:Setup) zbh zbK (zbf.get ((w64 (zbh+(1:Int))).toNat)) zdi).Time) ((s8 (⟨sv6⟩:Setup) zbi (w64 (zbK+zdh)) (zbf.get ((w64 (zbi+(1:Int))).toNat)) zdj).Plane) ((s8 (⟨sv6⟩:Setup) zbi (w64 (zbK+zdh)) (zbf.get ((w64 (zbi+(1:Int))).toNat)) zdj).Channel) ((s8 (⟨sv6⟩:Setup) zbi (w64 (zbK+zdh)) (zbf.get ((w64 (zbi+(1:Int))).toNat)) zdj).Many) ((s8 (⟨sv6⟩:Setup) zbi (w64 (zbK+zdh)) (zbf.get ((w64 (zbi+(1:Int))).toNat)) zdj).Drift) ((s8 (⟨sv6⟩:Setup) zbi (w64 (zbK+zdh)) (zbf.get ((w64 (zbi+(1:Int))).toNat)) zdj).Charge) ((s8 (⟨sv6⟩:Setup) zbi (w64 (zbK+zdh)) (zbf.get ((w64 (zbi+(1:Int))).toNat)) zdj).Time) zbf zgx zgy zgz)
def zmT (P5:Int->(Sl Plane)->(Sl Int)->(Sl Hit)->(Sl Int)->(Sl Pulse)->Bool) (l_a2:(Sl Flown)) (play:Int) (iv6:Int) (sv6:(Sl Plane)) (zbh:Int) (zbi:Int) (zbK:Int) (zdh:Int) (zdi:Int) (zdj:Int) (zbf:(Sl Int)) (zgx:(Sl Hit)) (zgy:(Sl Int)) (zgz:(Sl Pulse)):Bool :=
  (decide ((0<=(w64 (zbh+(1:Int)))/\(w64 (zbh+(1:Int))) < (zbf.len:Int))) &&
 (decide (((w64 (zbh+(1:Int))).toNat < zbf.len)) &&
 (decide ((p8 (⟨sv6⟩:Setup) zbh zbK (zbf.get ((w64 (zbh+(1:Int))).toNat)) zdi=true)) &&
 (decide ((0<=(w64 (zbi+(1:Int)))/\(w64 (zbi+(1:Int))) < (zbf.len:Int))) &&
 (decide (((w64 (zbi+(1:Int))).toNat < zbf.len)) &&
 (decide ((p8 (⟨sv6⟩:Setup) zbi (w64 (zbK+zdh)) (zbf.get ((w64 (zbi+(1:Int))).toNat)) zdj=true)) &&
 (zw0 P5 l_a2 play iv6 sv6 zbh zbi zbK zdh zdi zdj ((s8 (⟨sv6⟩:Setup) zbh zbK (zbf.get ((w64 (zbh+(1:Int))).toNat)) zdi).Plane) ((s8 (⟨sv6⟩:Setup) zbh zbK (zbf.get ((w64 (zbh+(1:Int))).toNat)) zdi).Channel) ((s8 (⟨sv6⟩:Setup) zbh zbK (zbf.get ((w64 (zbh+(1:Int))).toNat)) zdi).Many) ((s8 (⟨sv6⟩:Setup) zbh zbK (zbf.get ((w64 (zbh+(1:Int))).toNat)) zdi).Drift) ((s8 (⟨sv6⟩:Setup) zbh zbK (zbf.get ((w64 (zbh+(1:Int))).toNat)) zdi).Charge) ((s8 (⟨sv6⟩:Setup) zbh zbK (zbf.get ((w64 (zbh+(1:Int))).toNat)) zdi).Time) ((s8 (⟨sv6⟩:Setup) zbi (w64 (zbK+zdh)) (zbf.get ((w64 (zbi+(1:Int))).toNat)) zdj).Plane) ((s8 (⟨sv6⟩:Setup) zbi (w64 (zbK+zdh)) (zbf.get ((w64 (zbi+(1:Int))).toNat)) zdj).Channel) ((s8 (⟨sv6⟩:Setup) zbi (w64 (zbK+zdh)) (zbf.get ((w64 (zbi+(1:Int))).toNat)) zdj).Many) ((s8 (⟨sv6⟩:Setup) zbi (w64 (zbK+zdh)) (zbf.get ((w64 (zbi+(1:Int))).toNat)) zdj).Drift) ((s8 (⟨sv6⟩:Setup) zbi (w64 (zbK+zdh)) (zbf.get ((w64 (zbi+(1:Int))).toNat)) zdj).Charge) ((s8 (⟨sv6⟩:Setup) zbi (w64 (zbK+zdh)) (zbf.get ((w64 (zbi+(1:Int))).toNat)) zdj).Time) zbf zgx zgy zgz)))))))
theorem zAR (hX5:zze K l_a2 play X5 P5 S5) (hs:zmT P5 l_a2 play iv6 sv6 zbh zbi zbK zdh zdi zdj zbf zgx zgy zgz=true) (hk:K (e3 (zpH S5 l_a2 play iv6 sv6 zbh zbi zbK zdh zdi zdj zbf zgx zgy zgz))) (zCx:zAA=zg enc_35 sv6) (zyE:zs5=zg enc_3 zbf) (zvX:zpp=zg zaS zgx) (zvY:zpq=zg enc_3 zgy) (zvZ:zpr=zg zeC zgz):z3 K [1,1,1,1,1,1,1,0,1,0,0,1,0,0,1,1] [X5] ⟨[(2,zS enc_39 6 l_a2),(3,zI play),(4,zp 4 0),(9,zv 67),(12,zv 307),(13,zv 258),(14,zv 268),(15,zI iv6),(16,zp 16 0)],[(4,.box 24 [.p (.sl sv6.len 15 zAA)]),(16,.box 39 (zm (enc_39 (⟨zbh,zbi,zbK,zdh,zdi,zdj⟩:Flown)))),(67,.vec 3 1 8 zbf.len zs5),(258,.vec 41 6 48 zgx.len zpp),(268,.vec 3 1 8 zgy.len zpq),(307,.vec 45 7 56 zgz.len zpr)],[]⟩:=by subst zCx;subst zyE;subst zvX;subst zvY;subst zvZ;exact zgK (by kernel_rfl) (zcQ hs λ hc hs=>And.intro hc (zcQ hs λ hc hs=>And.intro hc (zcQ hs λ hc hs=>And.intro (And.intro (zE enc_35 15 sv6.get) hc) (zcQ hs λ hc hs=>And.intro hc (zcQ hs λ hc hs=>And.intro hc (zcQ hs λ hc hs=>And.intro (And.intro (zE enc_35 15 sv6.get) hc) (zAP hX5 hs hk rfl rfl rfl rfl rfl)))))))
def zjV (l_a2:(Sl Flown)) (play:Int) (S5:Int->(Sl Plane)->(Sl Int)->(Sl Hit)->(Sl Int)->(Sl Pulse)->Bool) (iv5:Int) (sv5:(Sl Plane)) (zcU:(Sl Int)) (zbv:(Sl Hit)) (zbw:(Sl Int)) (zbx:(Sl Pulse)):Bool :=
  (cond (decide (iv5 < (l_a2.len : Int)))
 (cond (decide ((l_a2.get iv5.toNat).A < (0:Int)))
 true
 (cond (decide ((l_a2.get iv5.toNat).A >= (sv5.len : Int)))
 true
 (cond (decide ((l_a2.get iv5.toNat).B < (0:Int)))
 true
 (cond (decide ((l_a2.get iv5.toNat).B >= (sv5.len : Int)))
 true
 (cond ((l_a2.get iv5.toNat).A == (l_a2.get iv5.toNat).B)
 true
 (cond (decide ((l_a2.get iv5.toNat).Time < (-1000000:Int)))
 true
 (cond (decide ((l_a2.get iv5.toNat).Time > (1000000:Int)))
 true
 (cond (decide ((l_a2.get iv5.toNat).Flight < (0:Int)))
 true
 (cond (decide ((l_a2.get iv5.toNat).Flight > (1000000:Int)))
 true
 (cond (decide ((l_a2.get iv5.toNat).WrongA < (-100:Int)))
 true
 (cond (decide ((l_a2.get iv5.toNat).WrongA > (100:Int)))
 true
 (cond (decide ((l_a2.get iv5.toNat).WrongB < (-100:Int)))
 true
 (cond (decide ((l_a2.get iv5.toNat).WrongB > (100:Int)))
 true
 (zpH S5 l_a2 play iv5 sv5 ((l_a2.get iv5.toNat).A) ((l_a2.get iv5.toNat).B) ((l_a2.get iv5.toNat).Time) ((l_a2.get iv5.toNat).Flight) ((l_a2.get iv5.toNat).WrongA) ((l_a2.get iv5.toNat).WrongB) zcU zbv zbw zbx))))))))))))))
 (zmR sv5 zcU zbv zbw zbx))
def zjW (l_a2:(Sl Flown)) (play:Int) (P5:Int->(Sl Plane)->(Sl Int)->(Sl Hit)->(Sl Int)->(Sl Pulse)->Bool) (iv5:Int) (sv5:(Sl Plane)) (zcU:(Sl Int)) (zbv:(Sl Hit)) (zbw:(Sl Int)) (zbx:(Sl Pulse)):Bool :=
  (cond (decide (iv5 < (l_a2.len : Int)))
 (decide ((0<=iv5/\iv5 < (l_a2.len:Int))) &&
 (cond (decide ((l_a2.get iv5.toNat).A < (0:Int)))
 true
 (cond (decide ((l_a2.get iv5.toNat).A >= (sv5.len : Int)))
 true
 (cond (decide ((l_a2.get iv5.toNat).B < (0:Int)))
 true
 (cond (decide ((l_a2.get iv5.toNat).B >= (sv5.len : Int)))
 true
 (cond ((l_a2.get iv5.toNat).A == (l_a2.get iv5.toNat).B)
 true
 (cond (decide ((l_a2.get iv5.toNat).Time < (-1000000:Int)))
 true
 (cond (decide ((l_a2.get iv5.toNat).Time > (1000000:Int)))
 true
 (cond (decide ((l_a2.get iv5.toNat).Flight < (0:Int)))
 true
 (cond (decide ((l_a2.get iv5.toNat).Flight > (1000000:Int)))
 true
 (cond (decide ((l_a2.get iv5.toNat).WrongA < (-100:Int)))
 true
 (cond (decide ((l_a2.get iv5.toNat).WrongA > (100:Int)))
 true
 (cond (decide ((l_a2.get iv5.toNat).WrongB < (-100:Int)))
 true
 (cond (decide ((l_a2.get iv5.toNat).WrongB > (100:Int)))
 true
 (zmT P5 l_a2 play iv5 sv5 ((l_a2.get iv5.toNat).A) ((l_a2.get iv5.toNat).B) ((l_a2.get iv5.toNat).Time) ((l_a2.get iv5.toNat).Flight) ((l_a2.get iv5.toNat).WrongA) ((l_a2.get iv5.toNat).WrongB) zcU zbv zbw zbx)))))))))))))))
 (zmS sv5 zcU zbv zbw zbx))
def zja (l_a2:(Sl Flown)) (play:Int):Nat->Int->(Sl Plane)->(Sl Int)->(Sl Hit)->(Sl Int)->(Sl Pulse)->Bool:=lpO (λ _ _ _ _ _ _=>default) (zjV l_a2 play)
def zjb (l_a2:(Sl Flown)) (play:Int):Nat->Int->(Sl Plane)->(Sl Int)->(Sl Hit)->(Sl Int)->(Sl Pulse)->Bool:=lpO (λ _ _ _ _ _ _=>false) (zjW l_a2 play)
def ztL (l_a2:(Sl Flown)) (play:Int) (iv5:Int) (sv5:(Sl Plane)) (zcU:(Sl Int)) (zbv:(Sl Hit)) (zbw:(Sl Int)) (zbx:(Sl Pulse)):Bool:=zja l_a2 play Fuel iv5 sv5 zcU zbv zbw zbx
def ztM (l_a2:(Sl Flown)) (play:Int) (iv5:Int) (sv5:(Sl Plane)) (zcU:(Sl Int)) (zbv:(Sl Hit)) (zbw:(Sl Int)) (zbx:(Sl Pulse)):Bool:=zjb l_a2 play Fuel iv5 sv5 zcU zbv zbw zbx
theorem zAS (hs:ztM l_a2 play iv5 sv5 zcU zbv zbw zbx=true) (hk:K (e3 (ztL l_a2 play iv5 sv5 zcU zbv zbw zbx))) (zyF:zmf=zg enc_35 sv5) (zox:zdX=zg enc_3 zcU) (zle:zc1=zg zaS zbv) (zlf:zc2=zg enc_3 zbw) (zlg:zc3=zg zeC zbx):z3 K [1,1,1,1,1,1,1,0,1,0] [] (zAv l_a2 play iv5 sv5 zcU zbv zbw zbx zmf zdX zc1 zc2 zc3) :=
  zl (λ X=>z3 K [1,1,1,1,1,1,1,0,1,0,0] [X]) (by kernel_rfl) λ X5 hX =>
  (show ∀ k, zze K l_a2 play X5 (zjb l_a2 play k) (zja l_a2 play k) from zzc _ _ (zjW l_a2 play) (zjV l_a2 play) (zze K l_a2 play X5)
 (by intro _ _ _ _ _ _ _ _ _ _ _ hs;exact absurd hs dqk)
 (by intro P5 S5 hX5 iv5 sv5 zcU zbv zbw zbx zmf zdX zc1 zc2 zc3 hs hk zyF zox zle zlf zlg;subst zyF;subst zox;subst zle;subst zlf;subst zlg;exact hX _ (zgK (by kernel_rfl) (zc hs hk (λ hs hk=>(zcQ hs λ hc hs=>And.intro hc (zc hs hk (λ hs hk=>hk) (λ hs hk=>(zc hs hk (λ hs hk=>hk) (λ hs hk=>(zc hs hk (λ hs hk=>hk) (λ hs hk=>(zc hs hk (λ hs hk=>hk) (λ hs hk=>(zc hs hk (λ hs hk=>hk) (λ hs hk=>(zc hs hk (λ hs hk=>hk) (λ hs hk=>(zc hs hk (λ hs hk=>hk) (λ hs hk=>(zc hs hk (λ hs hk=>hk) (λ hs hk=>(zc hs hk (λ hs hk=>hk) (λ hs hk=>(zc hs hk (λ hs hk=>hk) (λ hs hk=>(zc hs hk (λ hs hk=>hk) (λ hs hk=>(zc hs hk (λ hs hk=>hk) (λ hs hk=>(zc hs hk (λ hs hk=>hk) (λ hs hk=>(zAR hX5 hs hk rfl rfl rfl rfl rfl))))))))))))))))))))))))))))) (λ hs hk=>(zAQ hs hk rfl rfl rfl rfl rfl)))))) _ hs hk zyF zox zle zlf zlg
def zmU (l_a2:(Sl Flown)) (play:Int) (sv4:(Sl Plane)) (zmh:(Sl Int)):Bool :=
  (ztL l_a2 play (0:Int) sv4 zmh (⟨0,(λ _=>default)⟩:Sl Hit) (⟨0,(λ _=>default)⟩:Sl Int) (⟨0,(λ _=>default)⟩:Sl Pulse))
def zmV (l_a2:(Sl Flown)) (play:Int) (sv4:(Sl Plane)) (zmh:(Sl Int)):Bool :=
  (ztM l_a2 play (0:Int) sv4 zmh (⟨0,(λ _=>default)⟩:Sl Hit) (⟨0,(λ _=>default)⟩:Sl Int) (⟨0,(λ _=>default)⟩:Sl Pulse))
theorem zAT (hs:zmV l_a2 play sv4 zmh=true) (hk:K (e3 (zmU l_a2 play sv4 zmh))) (zCy:zAz=zg enc_35 sv4) (zyG:zs4=zg enc_3 zmh):z3 K [1,1,1,1] [] ⟨[(2,zS enc_39 6 l_a2),(3,zI play),(4,zp 4 0),(9,zv 67)],[(4,.box 24 [.p (.sl sv4.len 15 zAz)]),(67,.vec 3 1 8 zmh.len zs4)],[]⟩:=by subst zCy;subst zyG;exact zgK (by kernel_rfl) (zAS hs hk rfl rfl rfl rfl rfl)
def ztN (S2:Int->(Sl Plane)->(Sl Int)->Bool) (zac:(Sl Int)) (l_a2:(Sl Flown)) (play:Int) (iv3:Int) (sv3:(Sl Plane)) (ziN:Int) (zmg:Int) (zeZ:(Sl Int)):Bool :=
  (S2 (w64 (iv3+(1:Int))) sv3 (⟨(zeZ.len+1),(zdx zeZ.len zeZ.get (λ _=>(w64 (ziN+(w64 ((w64 ((w64 (zmg - ziN)) * (zac.get iv3.toNat))).tdiv (100:Int)))))))⟩:Sl Int))
def ztO (P2:Int->(Sl Plane)->(Sl Int)->Bool) (zac:(Sl Int)) (l_a2:(Sl Flown)) (play:Int) (iv3:Int) (sv3:(Sl Plane)) (ziN:Int) (zmg:Int) (zeZ:(Sl Int)):Bool :=
  (decide ((0<=iv3/\iv3 < (zac.len:Int))) &&
 (decide (((100:Int) ≠ 0)) &&
 (decide (((zeZ.len+1) * 8<=140737488355328/\zeZ.len+1<=9223372036854775807)) &&
 (P2 (w64 (iv3+(1:Int))) sv3 (⟨(zeZ.len+1),(zdx zeZ.len zeZ.get (λ _=>(w64 (ziN+(w64 ((w64 ((w64 (zmg - ziN)) * (zac.get iv3.toNat))).tdiv (100:Int)))))))⟩:Sl Int)))))
theorem zAU (hX2:zCt K zac l_a2 play X2 P2 S2) (hs:ztO P2 zac l_a2 play iv3 sv3 ziN zmg zeZ=true) (hk:K (e3 (ztN S2 zac l_a2 play iv3 sv3 ziN zmg zeZ))) (zCz:zAy=zg enc_35 sv3) (zyH:zs3=zg enc_3 zeZ):z3 K [1,1,1,0,1,0,0,1,0,0,1,1] [X2] ⟨[(1,zS enc_3 1 zac),(2,zS enc_39 6 l_a2),(3,zI play),(4,zp 4 0),(9,zv 67),(10,zI iv3),(11,zp 11 0)],[(4,.box 24 [.p (.sl sv3.len 15 zAy)]),(11,.box 32 (zm (zbN (⟨ziN,zmg⟩:Span)))),(67,.vec 3 1 8 zeZ.len zs3)],[]⟩:=by subst zCz;subst zyH;exact zgK (by kernel_rfl) (zcQ hs λ hc hs=>And.intro hc (zcQ hs λ hc hs=>And.intro hc (zcQ hs λ hc hs=>And.intro hc (hX2 hs hk rfl (zjT (enc:=enc_3) (f:=zeZ.get) (h:=(λ _=>(w64 (ziN+(w64 ((w64 ((w64 (zmg - ziN)) * (zac.get iv3.toNat))).tdiv (100:Int))))))) rfl rfl)))))
def zjX (zac:(Sl Int)) (l_a2:(Sl Flown)) (play:Int) (S2:Int->(Sl Plane)->(Sl Int)->Bool) (iv2:Int) (sv2:(Sl Plane)) (zcT:(Sl Int)):Bool :=
  (cond (decide (iv2 < (sv2.len : Int)))
 (cond ((sv2.get iv2.toNat).Kind == (3:Int))
 true
 (cond (decide ((zac.get iv2.toNat) < (0:Int)))
 true
 (cond (decide ((zac.get iv2.toNat) > (100:Int)))
 true
 (cond (decide ((sv2.get iv2.toNat).Clock.Low < (-1000000:Int)))
 true
 (cond (decide ((sv2.get iv2.toNat).Clock.High > (1000000:Int)))
 true
 (ztN S2 zac l_a2 play iv2 sv2 ((sv2.get iv2.toNat).Clock.Low) ((sv2.get iv2.toNat).Clock.High) zcT))))))
 (zmU l_a2 play sv2 zcT))
def zjY (zac:(Sl Int)) (l_a2:(Sl Flown)) (play:Int) (P2:Int->(Sl Plane)->(Sl Int)->Bool) (iv2:Int) (sv2:(Sl Plane)) (zcT:(Sl Int)):Bool :=
  (cond (decide (iv2 < (sv2.len : Int)))
 (decide ((0<=iv2/\iv2 < (sv2.len:Int))) &&
 (decide ((0<=iv2/\iv2 < (sv2.len:Int))) &&
 (cond ((sv2.get iv2.toNat).Kind == (3:Int))
 true
 (decide ((0<=iv2/\iv2 < (zac.len:Int))) &&
 (cond (decide ((zac.get iv2.toNat) < (0:Int)))
 true
 (decide ((0<=iv2/\iv2 < (zac.len:Int))) &&
 (cond (decide ((zac.get iv2.toNat) > (100:Int)))
 true
 (cond (decide ((sv2.get iv2.toNat).Clock.Low < (-1000000:Int)))
 true
 (cond (decide ((sv2.get iv2.toNat).Clock.High > (1000000:Int)))
 true
 (ztO P2 zac l_a2 play iv2 sv2 ((sv2.get iv2.toNat).Clock.Low) ((sv2.get iv2.toNat).Clock.High) zcT))))))))))
 (zmV l_a2 play sv2 zcT))
def zjc (zac:(Sl Int)) (l_a2:(Sl Flown)) (play:Int):Nat->Int->(Sl Plane)->(Sl Int)->Bool:=lpO (λ _ _ _=>default) (zjX zac l_a2 play)
def zjd (zac:(Sl Int)) (l_a2:(Sl Flown)) (play:Int):Nat->Int->(Sl Plane)->(Sl Int)->Bool:=lpO (λ _ _ _=>false) (zjY zac l_a2 play)
def ztP (zac:(Sl Int)) (l_a2:(Sl Flown)) (play:Int) (iv2:Int) (sv2:(Sl Plane)) (zcT:(Sl Int)):Bool:=zjc zac l_a2 play Fuel iv2 sv2 zcT
def ztQ (zac:(Sl Int)) (l_a2:(Sl Flown)) (play:Int) (iv2:Int) (sv2:(Sl Plane)) (zcT:(Sl Int)):Bool:=zjd zac l_a2 play Fuel iv2 sv2 zcT
theorem zAV (hs:ztQ zac l_a2 play iv2 sv2 zcT=true) (hk:K (e3 (ztP zac l_a2 play iv2 sv2 zcT))) (zyI:zme=zg enc_35 sv2) (zoy:zdW=zg enc_3 zcT):z3 K [1,1,1,0,1,0] [] (zAu zac l_a2 play iv2 sv2 zcT zme zdW) :=
  zl (λ X=>z3 K [1,1,1,0,1,0,0] [X]) (by kernel_rfl) λ X2 hX =>
  (show ∀ k, zCt K zac l_a2 play X2 (zjd zac l_a2 play k) (zjc zac l_a2 play k) from zzc _ _ (zjY zac l_a2 play) (zjX zac l_a2 play) (zCt K zac l_a2 play X2)
 (by intro _ _ _ _ _ hs;exact absurd hs dqk)
 (by intro P2 S2 hX2 iv2 sv2 zcT zme zdW hs hk zyI zoy;subst zyI;subst zoy;exact hX _ (zgK (by kernel_rfl) (zc hs hk (λ hs hk=>(zcQ hs λ hc hs=>And.intro hc (zcQ hs λ hc hs=>And.intro hc (zc hs hk (λ hs hk=>hk) (λ hs hk=>(zcQ hs λ hc hs=>And.intro hc (zc hs hk (λ hs hk=>hk) (λ hs hk=>(zcQ hs λ hc hs=>And.intro hc (zc hs hk (λ hs hk=>hk) (λ hs hk=>(zc hs hk (λ hs hk=>hk) (λ hs hk=>(zc hs hk (λ hs hk=>hk) (λ hs hk=>(zAU hX2 hs hk rfl rfl)))))))))))))))) (λ hs hk=>(zAT hs hk rfl rfl)))))) _ hs hk zyI zoy
def zpI (zac:(Sl Int)) (l_a2:(Sl Flown)) (play:Int) (sv1:(Sl Plane)):Bool :=
  (ztP zac l_a2 play (0:Int) sv1 (⟨1,(λ _=>(0:Int))⟩:Sl Int))
def zpJ (zac:(Sl Int)) (l_a2:(Sl Flown)) (play:Int) (sv1:(Sl Plane)):Bool :=
  (ztQ zac l_a2 play (0:Int) sv1 (⟨1,(λ _=>(0:Int))⟩:Sl Int))
theorem zAW (hs:zpJ zac l_a2 play sv1=true) (hk:K (e3 (zpI zac l_a2 play sv1))) (zCA:zvE=zg enc_35 sv1):z3 K [1,1] [] ⟨[(1,zS enc_3 1 zac),(2,zS enc_39 6 l_a2),(3,zI play),(4,zp 4 0)],[(4,.box 24 [.p (.sl sv1.len 15 zvE)])],[]⟩:=by subst zCA;exact zgK (by kernel_rfl) (zAV hs hk rfl rfl)
def zcy (zac:(Sl Int)) (l_a2:(Sl Flown)) (play:Int) (zoj:Bool) (sv0:(Sl Plane)):Bool :=
  (cond zoj
 true
 (zpI zac l_a2 play sv0))
def zcz (zac:(Sl Int)) (l_a2:(Sl Flown)) (play:Int) (zoj:Bool) (sv0:(Sl Plane)):Bool :=
  (cond zoj
 true
 (zpJ zac l_a2 play sv0))
theorem zje (hs:zcz zac l_a2 play zoj sv0=true) (hk:K (e3 (zcy zac l_a2 play zoj sv0))) (zCB:zvC=zg enc_35 sv0):z3 K [1,0,1] [] ⟨[(1,zS enc_3 1 zac),(2,zS enc_39 6 l_a2),(3,zI play),(4,zp 4 0),(65,zB zoj)],[(4,.box 24 [.p (.sl sv0.len 15 zvC)])],[]⟩:=by subst zCB;exact zgK (by kernel_rfl) (zc hs hk (λ hs hk=>hk) (λ hs hk=>(zAW hs hk rfl)))
def s3 (s:Setup) (zac:(Sl Int)) (l_a2:(Sl Flown)) (play:Int):Bool :=
  (cond (!(s5 s))
 (zcy zac l_a2 play true s.Planes)
 (cond (!(s6 s))
 (zcy zac l_a2 play true s.Planes)
 (cond (decide ((s.Planes.len : Int) > (6:Int)))
 (zcy zac l_a2 play true s.Planes)
 (cond ((zac.len : Int) != (s.Planes.len : Int))
 (zcy zac l_a2 play true s.Planes)
 (cond (decide ((l_a2.len : Int) > (10:Int)))
 (zcy zac l_a2 play true s.Planes)
 (cond (decide (play < (0:Int)))
 (zcy zac l_a2 play true s.Planes)
 (zcy zac l_a2 play (decide (play > (1000:Int))) s.Planes)))))))
def p3 (s:Setup) (zac:(Sl Int)) (l_a2:(Sl Flown)) (play:Int):Bool :=
  (decide ((p5 s=true)) &&
 (cond (!(s5 s))
 (zcz zac l_a2 play true s.Planes)
 (decide ((p6 s=true)) &&
 (cond (!(s6 s))
 (zcz zac l_a2 play true s.Planes)
 (cond (decide ((s.Planes.len : Int) > (6:Int)))
 (zcz zac l_a2 play true s.Planes)
 (cond ((zac.len : Int) != (s.Planes.len : Int))
 (zcz zac l_a2 play true s.Planes)
 (cond (decide ((l_a2.len : Int) > (10:Int)))
 (zcz zac l_a2 play true s.Planes)
 (cond (decide (play < (0:Int)))
 (zcz zac l_a2 play true s.Planes)
 (zcz zac l_a2 play (decide (play > (1000:Int))) s.Planes)))))))))
end
theorem q3 (s:Setup) (zac:(Sl Int)) (l_a2:(Sl Flown)) (play:Int) (K:List PA->Prop) (hs:p3 s zac l_a2 play=true) (hk:K (e3 (s3 s zac l_a2 play))):vcFun Tryd.prog G3 zCs 3 [.agg (enc_24 s),.one (.sl zac.len 1 (λ i=>enc_3 (zac.get i))),.one (.sl l_a2.len 6 (λ i=>enc_39 (l_a2.get i))),.one (.int .i64 play)] K :=
  zgK (by kernel_rfl) (zcQ hs λ hc hs=>And.intro (And.intro (zE enc_35 15 s.Planes.get) hc) (zc hs hk (λ hs hk=>(zje hs hk rfl)) (λ hs hk=>(zcQ hs λ hc hs=>And.intro (And.intro (zE enc_35 15 s.Planes.get) hc) (zc hs hk (λ hs hk=>(zje hs hk rfl)) (λ hs hk=>(zc hs hk (λ hs hk=>(zje hs hk rfl)) (λ hs hk=>(zc hs hk (λ hs hk=>(zje hs hk rfl)) (λ hs hk=>(zc hs hk (λ hs hk=>(zje hs hk rfl)) (λ hs hk=>(zc hs hk (λ hs hk=>(zje hs hk rfl)) (λ hs hk=>(zje hs hk rfl)))))))))))))))
def zC6 : List PA → COut
  | [.agg [.sl zdA zjf zdB],.one (.sl zBy zC7 zBz),.one (.sl zwI zBv zvt),.one (.int .i64 a3)]=>.det (IsE enc_35 15 zjf zdB/\IsE enc_3 1 zC7 zBz/\IsE enc_39 6 zBv zvt/\p3 (⟨(⟨zdA,znR zdB⟩:(Sl Plane))⟩:Setup) (⟨zBy,zpe zBz⟩:(Sl Int)) (⟨zwI,znS zvt⟩:(Sl Flown)) a3=true) [.one (.bool (s3 (⟨(⟨zdA,znR zdB⟩:(Sl Plane))⟩:Setup) (⟨zBy,zpe zBz⟩:(Sl Int)) (⟨zwI,znS zvt⟩:(Sl Flown)) a3))]
  | _=>.no
theorem zCC:zaY Tryd.prog 3:=⟨_,rfl,rfl,by kernel_rfl⟩
theorem ok3:Ok Tryd.prog 3 zC6:=zzX zDv zCC λ args K h=>by
  unfold zC6 at h
  split at h
  · rename_i zdA zjf zdB zBy zC7 zBz zwI zBv zvt a3
    obtain⟨⟨⟨rfl,ze6,rfl⟩,⟨rfl,zCD,rfl⟩,⟨rfl,zCE,rfl⟩,hs⟩,hk⟩:=h
    try rw[zhY ze6] at hs
    try rw[zhY ze6] at hk
    try rw[zjU zCD] at hs
    try rw[zjU zCD] at hk
    try rw[zhZ zCE] at hs
    try rw[zhZ zCE] at hk
    exact⟨(λ _ _=>[]),(λ _=>false),zCs,q3 (⟨(⟨zdA,ze6⟩:(Sl Plane))⟩:Setup) (⟨zBy,zCD⟩:(Sl Int)) (⟨zwI,zCE⟩:(Sl Flown)) a3 K hs hk⟩
  · exact h.elim
end Go.Proofs
namespace Go.Proofs.YtldchibepobgnaaDoor
open Go Go.Pm Go.ChangeShapes
set_option maxRecDepth 100000
abbrev laid1 : List (String × DataW Unit) := [("overburden/align.never", Rows.laid_overburden_align_never)]
theorem zw1 : Tryd.prog.globalNamed "overburden/align.never" = some 0 := by kernel_rfl
theorem zAX:(Tryd.prog.globals[0]?).map (·.type)=some 98:=by kernel_rfl
theorem zAY:Tryd.prog.cellsOf 98=2:=by kernel_rfl
theorem zC8:Tryd.prog.cellsOf 3=1:=by kernel_rfl
theorem door_met (os:Os) (args:Array Value):laidMetH Tryd.prog laid1 ((World.doorLaid Tryd.prog 400 os).forCall (λ _ _=>0) ⟨#[],args,[]⟩).memory :=
 laidMetH_of_parts3 (fuel:=8) (laidMet_of_run' 8 (by kernel_rfl) (by kernel_rfl)) (by kernel_rfl) (by kernel_rfl)
theorem gl_of {W:World}(h:laidMetH Tryd.prog laid1 W):zdI (H0 W):=by
 rw[MakeChecks.laidMetH_plain _ _ _ (by kernel_rfl)] at h
 obtain⟨ps,⟨g0,t0,cs0,f0,p0,q0,hg0,ht0,hv0,hd0,_,_⟩,_,_⟩:=h
 obtain rfl:=Option.some.inj (zw1.symm.trans hg0)
 obtain rfl:=Option.some.inj (zAX.symm.trans ht0)
 obtain⟨y0,y1,n,hx,hl,h0,h1⟩:=trod_struct2 Tryd.underlying98 hd0
 simp only[dqh] at hx
 obtain⟨hx,-⟩:=hx
 simp only[Rows.laid_overburden_align_never,DataW.agg.injEq,dqy,and_true] at hx
 obtain⟨k0,e0,d0,_⟩:=DataW.trod_int Tryd.underlying3 h0
 obtain⟨k1,e1,d1,_⟩:=DataW.trod_int Tryd.underlying3 h1
 rw[zAY] at hl
 have e0':cs0.toList.take 1=[.int .i64 k0]:=by
  have:=e0
  rw[show Tryd.prog.cellsOf _=1 from zC8] at this
  simpa using this
 have e1':(cs0.toList.drop 1).take 1=[.int .i64 k1]:=by
  have:=e1
  rw[show Tryd.prog.cellsOf _=1 from zC8] at this
  simpa using this
 have hk0:k0=1000000000000:=by have:=hx.1;rw[d0] at this;injection this with a;injection a with _ a;exact a.symm
 have hk1:k1=0:=by have:=hx.2;rw[d1] at this;injection this with a;injection a with _ a;exact a.symm
 have hC:cs0.toList=[.int .i64 1000000000000,.int .i64 0]:=by
  have h2:cs0.toList=cs0.toList.take 1 ++ (cs0.toList.drop 1).take 1:=by
   rw[<- List.take_add,List.take_of_length_le (by omega)]
  rw[h2,e0',e1',hk0,hk1];rfl
 intro k l hk
 unfold World.var? at hv0
 rw[zw1] at hv0
 simp only[Option.bind_some] at hv0
 cases k with
 | succ k=>cases hk
 | zero =>
  obtain rfl:[PV.int .i64 1000000000000,.int .i64 0]=l:=Option.some.inj hk
  cases eo:W.heap[0]? with
  | none=>rw[eo] at hv0;cases hv0
  | some o =>
   rw[eo] at hv0
   cases o with
   | cells C ty fr =>
    simp only[dqa] at hv0
    subst hv0
    exact⟨_,ty,fr,by unfold H0;rw[eo];rfl,by rw[hC];exact⟨.int _ _,.int _ _,trivial⟩⟩
   | _=>cases hv0
end Go.Proofs.YtldchibepobgnaaDoor
namespace Go.Proofs.YtldchibepobgnaaDoor
set_option maxRecDepth 100000
def dc : Nat → Nat → List Char
  | 0,_=>[]
  | k+1,n=>Char.ofNat (n % 128) :: dc k (n / 128)
def ioR:List (List Char):=[dc 2 14945,dc 34 399756165113810860405123747561083598328709158383043168901083853636598639,dc 36 5698943799327879142190826543221619858489383843563469017403155196654508407663]
def ioN:List Char:=dc 151 1216020464194862402549110884685396001460281756945981333032886797653041051700143131070021235301297101403928754228893408613665257464122322425613818168264680399200632846679559902755390411465917260643571611089994848002700497141340089951518382775036556753014702842741720359283471273993859166266842389306905274727842080141544
theorem ioS:Tryd.prog.initOrder=String.ofList ioN:=by kernel_rfl
theorem ioL:Tryd.prog.initOrder.toList=ioN:=(congrArg String.toList ioS).trans String.toList_ofList
theorem ioW:wordsSigns Tryd.prog.initOrder.toList=(dc 7 509754063237352) :: (dc 64 280762073358578399723192560932519151918837521674807598191946440507161504529176939736918491805508981372431107812236517754624012463993520) :: (dc 3 1915619) :: ioR:=(congrArg wordsSigns ioL).trans (by kernel_rfl)
theorem ioB:behindMainWord (wordsSigns Tryd.prog.initOrder.toList)=(dc 3 1915619) :: ioR:=(congrArg behindMainWord ioW).trans (by kernel_rfl)
theorem zmW {P : Program} {l : List (List Char)} (h : behindMainWord (wordsSigns P.initOrder.toList) = l) : P.headLifts = (if (stripLifts liftWords l).2.head? == some "cut".toList then (stripLifts liftWords l).1 else []) := by subst h; rfl
theorem zyJ {P:Program}{rest:List (List Char)}(h:behindMainWord (wordsSigns P.initOrder.toList)=(dc 3 1915619) :: rest):P.make=some .cut:=by unfold Program.make;rw[h];rfl
theorem zv0 {P:Program}{rest:List (List Char)}(h:behindMainWord (wordsSigns P.initOrder.toList)=(dc 3 1915619) :: rest) (hl:P.headLifts=[]):P.liftsFinal=false:=by unfold Program.liftsFinal;rw[h,hl];rfl
theorem zyK {P : Program} {a b : List Char} {rest : List (List Char)} (h : wordsSigns P.initOrder.toList = a :: b :: rest) (hs : isSumSigns b = true) (ha : (a == "harness".toList) = true) : P.mainIs = some (true, b) := by unfold Program.mainIs; rw [h]; simp only [hs, ha]; rfl
theorem zv1 {P : Program} {c : List Char} {rest : List (List Char)} (h : behindMainWord (wordsSigns P.initOrder.toList) = c :: rest) (hst : (stripLifts liftWords (c :: rest)).2.head? = some "cut".toList)
    (hs1:(stripLifts liftWords (c :: rest)).1=[]) (hlay:P.laysLater=false) (hb:P.bearsReflect=false) (hd:P.doorFits []=true):P.mayEnter=true:=by
  unfold Program.mayEnter
  rw[h]
  simp[hst,hs1,hlay,hb,hd]
theorem ioH:Tryd.prog.headLifts=[]:=(zmW ioB).trans (by kernel_rfl)
theorem ioK:Tryd.prog.make=some .cut:=zyJ ioB
theorem ioF:Tryd.prog.liftsFinal=false:=zv0 ioB ioH
theorem ioM : Tryd.prog.mainIs = some (true, "0ee2cee5cbe110d46606f48aae4a85d8ffa3962fbd3c4f914a8f9a49086f8d81".toList) := (zyK ioW (by kernel_rfl) (by kernel_rfl)).trans (by kernel_rfl)
theorem ioE:Tryd.prog.mayEnter=true:=zv1 ioB (by kernel_rfl) (by kernel_rfl) (by kernel_rfl) (by kernel_rfl) (by kernel_rfl)
end Go.Proofs.YtldchibepobgnaaDoor
namespace Go.Pm
open Go

theorem zae {x:Int}(h1 : -9223372036854775808<=x) (h2:x<=9223372036854775807):w64 x=x:=by
 have hb:IntKind.i64.bits=64:=rfl
 have hs:IntKind.i64.signed=true:=rfl
 unfold w64 IntKind.wrap
 rw[hb,hs]
 simp only[Bool.true_and,decide_eq_true_eq]
 split <;> omega
theorem dqT {p:Prop} [Decidable p] (h:p):decide p=true:=decide_eq_true h
theorem dqF {p:Prop} [Decidable p] (h : ¬ p):decide p=false:=decide_eq_false h
theorem dqA {α:Type}(a b:α):cond true a b=a:=rfl
theorem dqB {α:Type}(a b:α):cond false a b=b:=rfl
theorem dqN (n:Nat):((n:Nat):Int).toNat=n:=Int.toNat_natCast n
theorem dqP {c:Prop}{h:Decidable c}(hc:c){α:Type}{t e:α} : ite c t e=t:=if_pos hc
theorem dqG {c:Prop}{h:Decidable c}(hc : ¬ c){α:Type}{t e:α} : ite c t e=e:=if_neg hc
def zC9 (c : Nat → Bool) : Nat → Nat → Nat
  | 0,i=>i
  | m+1,i=>match c i with | true=>i | false=>zC9 c m (i+1)
def fst (c:Nat->Bool) (n:Nat):Nat:=zC9 c n 0
theorem zbd {good : Nat → Bool} {fin : Bool} {n : Nat} {lpS lpP : Nat → Int → Bool}
    (hS:∀ (k i:Nat),i < n->lpS (k+1) (i:Int)=cond (good i) (lpS k (w64 ((i:Int)+(1:Int)))) false)
    (hE:∀ k,lpS (k+1) (n:Int)=fin)
    (hP:∀ (k i:Nat),i < n->lpP (k+1) (i:Int)=cond (good i) (lpP k (w64 ((i:Int)+(1:Int)))) true)
    (hPE:∀ k,lpP (k+1) (n:Int)=true) (hn:n<=9223372036854775807) :
    lpP Fuel 0=true/\(lpS Fuel 0=true↔(∀ i,i < n->good i=true)/\fin=true):=by
  have key:∀ (m k i:Nat),i+m=n->m < k->lpP k (i:Int)=true/\(lpS k (i:Int)=true↔(∀ j,i<=j->j < n->good j=true)/\fin=true):=by
    intro m
    induction m with
    | zero =>
      intro k i hi hk
      obtain⟨k,rfl⟩:∃ k',k=k'+1:=⟨k - 1,by omega⟩
      have:i=n:=by omega
      subst this
      rw[hE,hPE]
      exact⟨rfl,⟨λ h=>⟨λ j h1 h2=>absurd h2 (by omega),h⟩,λ h=>h.2⟩⟩
    | succ m ih =>
      intro k i hi hk
      obtain⟨k,rfl⟩:∃ k',k=k'+1:=⟨k - 1,by omega⟩
      rw[hS k i (by omega),hP k i (by omega)]
      have e3:w64 ((i:Int)+1)=((i+1:Nat):Int):=by rw[zae (by omega) (by omega)];omega
      rw[e3]
      obtain⟨h1,h2⟩:=ih k (i+1) (by omega) (by omega)
      cases hg:good i
      · refine ⟨rfl, ⟨fun h => (by cases h), fun h => ?_⟩⟩
        have:=h.1 i (dqt _) (by omega)
        rw[hg] at this;cases this
      · refine ⟨h1, h2.trans ⟨fun h => ⟨fun j hj1 hj2 => ?_, h.2⟩, fun h => ⟨fun j hj1 hj2 => h.1 j (by omega) hj2, h.2⟩⟩⟩
        by_cases hji:j=i
        · rw[hji];exact hg
        · exact h.1 j (by omega) hj2
  have:=key n Fuel 0 (by omega) (by simp only[Fuel];omega)
  simpa using this

end Go.Pm
namespace Go.Pm
open Go
theorem zfK {i n:Nat}(h:i < n) (hn:n<=9223372036854775807):w64 ((i:Int)+(1:Int))=((i+1:Nat):Int):=by
 rw[zae (by omega) (by omega)];omega
theorem zlh {β : Type} {good : Nat → Bool} {bad fin : β} {finP : Bool} {n : Nat} {lpS : Nat → Int → β} {lpP : Nat → Int → Bool}
    (hS:∀ (k i:Nat),i < n->lpS (k+1) (i:Int)=cond (good i) (lpS k (w64 ((i:Int)+(1:Int)))) bad)
    (hE:∀ k,lpS (k+1) (n:Int)=fin)
    (hP:∀ (k i:Nat),i < n->lpP (k+1) (i:Int)=cond (good i) (lpP k (w64 ((i:Int)+(1:Int)))) true)
    (hPE:∀ k,lpP (k+1) (n:Int)=finP) (hn:n<=9223372036854775807) :
    ((∀ i,i < n->good i=true)->lpP Fuel 0=finP/\lpS Fuel 0=fin)/\((¬ ∀ i,i < n->good i=true)->lpP Fuel 0=true/\lpS Fuel 0=bad):=by
  have key:∀ (m k i:Nat),i+m=n->m < k->((∀ j,i<=j->j < n->good j=true)->lpP k (i:Int)=finP/\lpS k (i:Int)=fin)/\((¬ ∀ j,i<=j->j < n->good j=true)->lpP k (i:Int)=true/\lpS k (i:Int)=bad):=by
    intro m
    induction m with
    | zero =>
      intro k i hi hk
      obtain⟨k,rfl⟩:∃ k',k=k'+1:=⟨k - 1,by omega⟩
      have:i=n:=by omega
      subst this
      rw[hE,hPE]
      exact⟨λ _=>⟨rfl,rfl⟩,λ h=>absurd (λ j h1 h2=>absurd h2 (by omega)) h⟩
    | succ m ih =>
      intro k i hi hk
      obtain⟨k,rfl⟩:∃ k',k=k'+1:=⟨k - 1,by omega⟩
      rw[hS k i (by omega),hP k i (by omega),zfK (n:=n) (by omega) hn]
      obtain⟨h1,h2⟩:=ih k (i+1) (by omega) (by omega)
      cases hg:good i
      · refine ⟨fun h => ?_, fun _ => ⟨rfl, rfl⟩⟩
        have:=h i (dqt _) (by omega)
        rw[hg] at this;cases this
      · refine ⟨fun h => h1 fun j a b => h j (by omega) b, fun h => h2 fun h' => h fun j a b => ?_⟩
        by_cases hji:j=i
        · rw[hji];exact hg
        · exact h' j (by omega) b
  have:=key n Fuel 0 (by omega) (by simp only[Fuel];omega)
  simpa using this
def zef {σ : Type} (step : Nat → σ → σ) : Nat → Nat → σ → σ
  | 0,_,s=>s
  | m+1,i,s=>zef step m (i+1) (step i s)
theorem zjg {σ β : Type} {step : Nat → σ → σ} {E : σ → β} {EP : σ → Bool} {Inv : Nat → σ → Prop} {a n : Nat} {lpS : Nat → σ → Int → β} {lpP : Nat → σ → Int → Bool}
    (hS:∀ (k i:Nat) (s:σ),a<=i->i < n->Inv i s->lpS (k+1) s (i:Int)=lpS k (step i s) (w64 ((i:Int)+(1:Int))))
    (hE:∀ k s,lpS (k+1) s (n:Int)=E s)
    (hP:∀ (k i:Nat) (s:σ),a<=i->i < n->Inv i s->lpP (k+1) s (i:Int)=lpP k (step i s) (w64 ((i:Int)+(1:Int))))
    (hPE:∀ k s,lpP (k+1) s (n:Int)=EP s)
    (hI:∀ i s,a<=i->i < n->Inv i s->Inv (i+1) (step i s)) (ha:a<=n) (hn:n<=9223372036854775807) (s:σ) (h0:Inv a s) :
    lpP Fuel s (a:Int)=EP (zef step (n - a) a s)/\lpS Fuel s (a:Int)=E (zef step (n - a) a s):=by
  have key:∀ (m k i:Nat) (s:σ),a<=i->i+m=n->m < k->Inv i s->lpP k s (i:Int)=EP (zef step m i s)/\lpS k s (i:Int)=E (zef step m i s):=by
    intro m
    induction m with
    | zero =>
      intro k i s h1 hi hk _
      obtain⟨k,rfl⟩:∃ k',k=k'+1:=⟨k - 1,by omega⟩
      have:i=n:=by omega
      subst this
      rw[hE,hPE]
      exact⟨rfl,rfl⟩
    | succ m ih =>
      intro k i s h1 hi hk hs
      obtain⟨k,rfl⟩:∃ k',k=k'+1:=⟨k - 1,by omega⟩
      rw[hS k i s h1 (by omega) hs,hP k i s h1 (by omega) hs,zfK (n:=n) (by omega) hn]
      exact ih k (i+1) (step i s) (by omega) (by omega) (by omega) (hI i s h1 (by omega) hs)
  exact key (n - a) Fuel a s (dqt _) (by omega) (by simp only[Fuel];omega) h0
end Go.Pm
namespace Go.Proofs
open Go Go.Pm
set_option maxRecDepth 100000
theorem zfL (n a b:Int):s31 n a b=decide (a<=n/\n<=b):=by
 unfold s31
 by_cases h:a<=n
 ·rw[dqT (show n >= a from h),dqA];exact decide_eq_decide.2 ⟨λ k=>⟨h,k⟩,λ k=>k.2⟩
 ·rw[dqF (show ¬ n >= a from h),dqB];exact (dqF (λ k=>h k.1)).symm
theorem zw2 (n:Net) (hn:n.Ties.len<=9223372036854775807):p32 n=true/\(s32 n=true↔(∀ i,i < n.Ties.len->s59 (n.Ties.get i) n.Nodes=true)/\(1<=n.Nodes/\n.Nodes<=40)/\n.Ties.len<=200):=by
  have := zbd (good := fun i => s59 (n.Ties.get i) n.Nodes) (fin := cond (s31 n.Nodes (1:Int) (40:Int)) (decide ((n.Ties.len : Int) ≤ (200:Int))) false) (n := n.Ties.len) (lpS := zh2 n) (lpP := zh3 n)
    (λ k i hi=>by
      show zh0 n (zh2 n k) (i:Int)=_
      generalize zh2 n k=S
      unfold zh0 zr8
      rw[dqT (show (i:Int) < (n.Ties.len:Int) by omega),dqA,dqN]
      cases s59 (n.Ties.get i) n.Nodes <;> rfl)
    (λ k=>by
      show zh0 n (zh2 n k) (n.Ties.len:Int)=_
      unfold zh0
      rw[dqF (show ¬ (n.Ties.len:Int) < (n.Ties.len:Int) by omega),dqB])
    (λ k i hi=>by
      show zh1 n (zh3 n k) (i:Int)=_
      generalize zh3 n k=S
      unfold zh1 zr9
      rw[dqT (show (i:Int) < (n.Ties.len:Int) by omega),dqA,dqN,dqT (show 0<=(i:Int)/\(i:Int) < (n.Ties.len:Int) by omega),Bool.true_and]
      cases s59 (n.Ties.get i) n.Nodes <;> rfl)
    (λ k=>by
      show zh1 n (zh3 n k) (n.Ties.len:Int)=_
      unfold zh1
      rw[dqF (show ¬ (n.Ties.len:Int) < (n.Ties.len:Int) by omega),dqB])
    hn
  refine⟨this.1,this.2.trans ?_⟩
  rw[zfL]
  by_cases h:1<=n.Nodes/\n.Nodes<=40
  · rw[dqT h,dqA,decide_eq_true_eq];exact⟨λ k=>⟨k.1,h,by omega⟩,λ k=>⟨k.1,by omega⟩⟩
  · rw[dqF h,dqB];exact⟨λ k=>absurd k.2 (by decide),λ k=>absurd k.2.1 h⟩
end Go.Proofs
namespace Go.Pm
open Go
theorem zli {σ β : Type} {good : Nat → Bool} {step : Nat → σ → σ} {bad : β} {E : σ → β} {EP : σ → Bool} {Inv : Nat → σ → Prop} {n : Nat} {lpS : Nat → σ → Int → β} {lpP : Nat → σ → Int → Bool}
    (hS:∀ (k i:Nat) (s:σ),i < n->Inv i s->lpS (k+1) s (i:Int)=cond (good i) (lpS k (step i s) (w64 ((i:Int)+(1:Int)))) bad)
    (hE:∀ k s,lpS (k+1) s (n:Int)=E s)
    (hP:∀ (k i:Nat) (s:σ),i < n->Inv i s->lpP (k+1) s (i:Int)=cond (good i) (lpP k (step i s) (w64 ((i:Int)+(1:Int)))) true)
    (hPE:∀ k s,lpP (k+1) s (n:Int)=EP s)
    (hI:∀ i s,i < n->Inv i s->Inv (i+1) (step i s)) (hn:n<=9223372036854775807) (s:σ) (h0:Inv 0 s) :
    ((∀ i,i < n->good i=true)->lpP Fuel s 0=EP (zef step n 0 s)/\lpS Fuel s 0=E (zef step n 0 s))/\((¬ ∀ i,i < n->good i=true)->lpP Fuel s 0=true/\lpS Fuel s 0=bad):=by
  have key:∀ (m k i:Nat) (s:σ),i+m=n->m < k->Inv i s->((∀ j,i<=j->j < n->good j=true)->lpP k s (i:Int)=EP (zef step m i s)/\lpS k s (i:Int)=E (zef step m i s))/\((¬ ∀ j,i<=j->j < n->good j=true)->lpP k s (i:Int)=true/\lpS k s (i:Int)=bad):=by
    intro m
    induction m with
    | zero =>
      intro k i s hi hk _
      obtain⟨k,rfl⟩:∃ k',k=k'+1:=⟨k - 1,by omega⟩
      have:i=n:=by omega
      subst this
      rw[hE,hPE]
      exact⟨λ _=>⟨rfl,rfl⟩,λ h=>absurd (λ j h1 h2=>absurd h2 (by omega)) h⟩
    | succ m ih =>
      intro k i s hi hk hs
      obtain⟨k,rfl⟩:∃ k',k=k'+1:=⟨k - 1,by omega⟩
      rw[hS k i s (by omega) hs,hP k i s (by omega) hs,zfK (n:=n) (by omega) hn]
      obtain⟨h1,h2⟩:=ih k (i+1) (step i s) (by omega) (by omega) (hI i s (by omega) hs)
      cases hg:good i
      · refine ⟨fun h => ?_, fun _ => ⟨rfl, rfl⟩⟩
        have:=h i (dqt _) (by omega)
        rw[hg] at this;cases this
      · refine ⟨fun h => h1 fun j a b => h j (by omega) b, fun h => h2 fun h' => h fun j a b => ?_⟩
        by_cases hji:j=i
        · rw[hji];exact hg
        · exact h' j (by omega) b
  have:=key n Fuel 0 s (by omega) (by simp only[Fuel];omega) h0
  simpa using this
end Go.Pm
namespace Go.Proofs
open Go Go.Pm
set_option maxRecDepth 100000
set_option linter.unusedVariables false
theorem cT (b y:Bool):cond (!b) false y=(b && y):=by cases b <;> rfl
theorem cF (b y:Bool):cond b false y=(!b && y):=by cases b <;> rfl
theorem zfM (n a b:Int):s23 n a b=decide (a<=n/\n<=b):=zfL n a b
theorem zfN (n a b:Int):s65 n a b=decide (a<=n/\n<=b):=zfL n a b
theorem zAZ (n:Int):s51 n=decide (-1000000<=n/\n<=1000000):=zfL n _ _
theorem ztR (x y:Int):s65 x (0:Int) y=(!decide (x < (0:Int)) && !decide (x > y)):=by
 rw[zfN]
 by_cases a:x < 0
 ·rw[dqT a,dqF (show ¬ (0<=x/\x<=y) by omega)];rfl
 ·rw [dqF a]
  by_cases b:x > y
  ·rw[dqT b,dqF (show ¬ (0<=x/\x<=y) by omega)];rfl
  ·rw[dqF b,dqT (show 0<=x/\x<=y by omega)];rfl
def drG (l:Sl Drift) (pt:Int) (i:Nat):Bool:=s23 (l.get i).Time (0:Int) (1000000:Int) && (!decide ((l.get i).Radius.Low < (0:Int)) && (!decide ((l.get i).Radius.Low > (l.get i).Radius.High) && (!decide ((l.get i).Radius.High > (w64 (pt.tdiv (2:Int)))) && cond (decide ((i:Int) > (0:Int))) (!decide ((l.get i).Time<=(l.get (w64 ((i:Int) - (1:Int))).toNat).Time) && (!decide ((l.get i).Radius.Low < (l.get (w64 ((i:Int) - (1:Int))).toNat).Radius.Low) && !decide ((l.get i).Radius.High < (l.get (w64 ((i:Int) - (1:Int))).toNat).Radius.High))) true)))
def ddG (l:Sl Int) (st:Int) (i:Nat):Bool:=s23 (l.get i) (0:Int) (w64 (st - (1:Int))) && cond (decide ((i:Int) > (0:Int))) (!decide (l.get i<=l.get (w64 ((i:Int) - (1:Int))).toNat)) true
def zBA (l:Sl Drift) (pt:Int):Prop:=(∀ i,i < l.len->drG l pt i=true)/\s23 (l.len:Int) (1:Int) (50:Int)=true
theorem zDa (l:Sl Drift) (pt:Int) (h:l.len<=9223372036854775807):p52 l pt=true/\(s52 l pt=true↔zBA l pt) :=
  zbd (good := (fun i => drG l pt i)) (fin := s23 (l.len : Int) (1:Int) (50:Int)) (n := l.len) (lpS := fun k i => zf2 l pt k i) (lpP := fun k i => zf3 l pt k i)
    (λ k i hi=>by
      show zh6 l pt (zf2 l pt k) (i:Int)=cond (drG l pt i) (zf2 l pt k (w64 ((i:Int)+(1:Int)))) false
      generalize zf2 l pt k=S
      unfold zh6
      rw[dqT (show (i:Int) < (l.len:Int) by omega),dqA,dqN]
      unfold zh4 zsa drG
      cases s23 (l.get i).Time (0:Int) (1000000:Int) <;> cases decide ((l.get i).Radius.Low < (0:Int)) <;> cases decide ((l.get i).Radius.Low > (l.get i).Radius.High) <;> cases decide ((l.get i).Radius.High > (w64 (pt.tdiv (2:Int)))) <;> cases decide ((i:Int) > (0:Int)) <;> try rfl
      all_goals cases decide ((l.get i).Time<=(l.get (w64 ((i:Int) - (1:Int))).toNat).Time) <;> cases decide ((l.get i).Radius.Low < (l.get (w64 ((i:Int) - (1:Int))).toNat).Radius.Low) <;> cases decide ((l.get i).Radius.High < (l.get (w64 ((i:Int) - (1:Int))).toNat).Radius.High) <;> rfl)
    (λ k=>by
      show zh6 l pt (zf2 l pt k) (l.len:Int)=_
      unfold zh6
      rw[dqF (show ¬ (l.len:Int) < (l.len:Int) by omega),dqB])
    (λ k i hi=>by
      show zh7 l pt (zf3 l pt k) (i:Int)=cond (drG l pt i) (zf3 l pt k (w64 ((i:Int)+(1:Int)))) true
      generalize zf3 l pt k=S
      unfold zh7
      rw[dqT (show (i:Int) < (l.len:Int) by omega),dqA,dqN,dqT (show 0<=(i:Int)/\(i:Int) < (l.len:Int) by omega),Bool.true_and]
      unfold zh5 zsb drG
      rw[dqT (show (2:Int) ≠ 0 by decide),Bool.true_and]
      by_cases h0:(i:Int) > 0
      · rw [dqT (show 0 ≤ w64 ((i : Int) - (1:Int)) ∧ w64 ((i : Int) - (1:Int)) < (l.len : Int) by rw [zae (by omega) (by omega)]; omega), dqT h0]
        cases s23 (l.get i).Time (0:Int) (1000000:Int) <;> cases decide ((l.get i).Radius.Low < (0:Int)) <;> cases decide ((l.get i).Radius.Low > (l.get i).Radius.High) <;> cases decide ((l.get i).Radius.High > (w64 (pt.tdiv (2:Int)))) <;> try rfl
        all_goals cases decide ((l.get i).Time<=(l.get (w64 ((i:Int) - (1:Int))).toNat).Time) <;> cases decide ((l.get i).Radius.Low < (l.get (w64 ((i:Int) - (1:Int))).toNat).Radius.Low) <;> cases decide ((l.get i).Radius.High < (l.get (w64 ((i:Int) - (1:Int))).toNat).Radius.High) <;> rfl
      · rw [dqF h0]
        cases s23 (l.get i).Time (0:Int) (1000000:Int) <;> cases decide ((l.get i).Radius.Low < (0:Int)) <;> cases decide ((l.get i).Radius.Low > (l.get i).Radius.High) <;> cases decide ((l.get i).Radius.High > (w64 (pt.tdiv (2:Int)))) <;> rfl)
    (λ k=>by
      show zh7 l pt (zf3 l pt k) (l.len:Int)=_
      unfold zh7
      rw[dqF (show ¬ (l.len:Int) < (l.len:Int) by omega),dqB])
    h
theorem zDw (p:placed) (h:p.Plane.Drift.len<=9223372036854775807):p86 p=true/\(s86 p=true↔zBA p.Plane.Drift p.Plane.Pitch) :=
  zbd (good := (fun i => drG p.Plane.Drift p.Plane.Pitch i)) (fin := s65 (p.Plane.Drift.len : Int) (1:Int) (50:Int)) (n := p.Plane.Drift.len) (lpS := fun k i => zf8 p k i) (lpP := fun k i => zf9 p k i)
    (λ k i hi=>by
      show ziE p (zf8 p k) (i:Int)=cond (drG p.Plane.Drift p.Plane.Pitch i) (zf8 p k (w64 ((i:Int)+(1:Int)))) false
      generalize zf8 p k=S
      unfold ziE
      rw[dqT (show (i:Int) < (p.Plane.Drift.len:Int) by omega),dqA,dqN]
      unfold zkZ zsH drG
      rw[show s65 (p.Plane.Drift.get i).Time (0:Int) (1000000:Int)=s23 (p.Plane.Drift.get i).Time (0:Int) (1000000:Int) from rfl]
      rw[show s65 (p.Plane.Drift.get i).Radius.Low (0:Int) (p.Plane.Drift.get i).Radius.High=(!decide ((p.Plane.Drift.get i).Radius.Low < (0:Int)) && !decide ((p.Plane.Drift.get i).Radius.Low > (p.Plane.Drift.get i).Radius.High)) from ztR _ _]
      cases s23 (p.Plane.Drift.get i).Time (0:Int) (1000000:Int) <;> cases decide ((p.Plane.Drift.get i).Radius.Low < (0:Int)) <;> cases decide ((p.Plane.Drift.get i).Radius.Low > (p.Plane.Drift.get i).Radius.High) <;> cases decide ((p.Plane.Drift.get i).Radius.High > (w64 (p.Plane.Pitch.tdiv (2:Int)))) <;> cases decide ((i:Int) > (0:Int)) <;> try rfl
      all_goals cases decide ((p.Plane.Drift.get i).Time<=(p.Plane.Drift.get (w64 ((i:Int) - (1:Int))).toNat).Time) <;> cases decide ((p.Plane.Drift.get i).Radius.Low < (p.Plane.Drift.get (w64 ((i:Int) - (1:Int))).toNat).Radius.Low) <;> cases decide ((p.Plane.Drift.get i).Radius.High < (p.Plane.Drift.get (w64 ((i:Int) - (1:Int))).toNat).Radius.High) <;> rfl)
    (λ k=>by
      show ziE p (zf8 p k) (p.Plane.Drift.len:Int)=_
      unfold ziE
      rw[dqF (show ¬ (p.Plane.Drift.len:Int) < (p.Plane.Drift.len:Int) by omega),dqB])
    (λ k i hi=>by
      show ziF p (zf9 p k) (i:Int)=cond (drG p.Plane.Drift p.Plane.Pitch i) (zf9 p k (w64 ((i:Int)+(1:Int)))) true
      generalize zf9 p k=S
      unfold ziF
      rw[dqT (show (i:Int) < (p.Plane.Drift.len:Int) by omega),dqA,dqN,dqT (show 0<=(i:Int)/\(i:Int) < (p.Plane.Drift.len:Int) by omega),Bool.true_and]
      unfold zk0 zsI drG
      rw[dqT (show (2:Int) ≠ 0 by decide),Bool.true_and]
      by_cases h0:(i:Int) > 0
      · rw [dqT (show 0 ≤ w64 ((i : Int) - (1:Int)) ∧ w64 ((i : Int) - (1:Int)) < (p.Plane.Drift.len : Int) by rw [zae (by omega) (by omega)]; omega), dqT h0]
        rw[show s65 (p.Plane.Drift.get i).Time (0:Int) (1000000:Int)=s23 (p.Plane.Drift.get i).Time (0:Int) (1000000:Int) from rfl]
        rw[show s65 (p.Plane.Drift.get i).Radius.Low (0:Int) (p.Plane.Drift.get i).Radius.High=(!decide ((p.Plane.Drift.get i).Radius.Low < (0:Int)) && !decide ((p.Plane.Drift.get i).Radius.Low > (p.Plane.Drift.get i).Radius.High)) from ztR _ _]
        cases s23 (p.Plane.Drift.get i).Time (0:Int) (1000000:Int) <;> cases decide ((p.Plane.Drift.get i).Radius.Low < (0:Int)) <;> cases decide ((p.Plane.Drift.get i).Radius.Low > (p.Plane.Drift.get i).Radius.High) <;> cases decide ((p.Plane.Drift.get i).Radius.High > (w64 (p.Plane.Pitch.tdiv (2:Int)))) <;> try rfl
        all_goals cases decide ((p.Plane.Drift.get i).Time<=(p.Plane.Drift.get (w64 ((i:Int) - (1:Int))).toNat).Time) <;> cases decide ((p.Plane.Drift.get i).Radius.Low < (p.Plane.Drift.get (w64 ((i:Int) - (1:Int))).toNat).Radius.Low) <;> cases decide ((p.Plane.Drift.get i).Radius.High < (p.Plane.Drift.get (w64 ((i:Int) - (1:Int))).toNat).Radius.High) <;> rfl
      · rw [dqF h0]
        rw[show s65 (p.Plane.Drift.get i).Time (0:Int) (1000000:Int)=s23 (p.Plane.Drift.get i).Time (0:Int) (1000000:Int) from rfl]
        rw[show s65 (p.Plane.Drift.get i).Radius.Low (0:Int) (p.Plane.Drift.get i).Radius.High=(!decide ((p.Plane.Drift.get i).Radius.Low < (0:Int)) && !decide ((p.Plane.Drift.get i).Radius.Low > (p.Plane.Drift.get i).Radius.High)) from ztR _ _]
        cases s23 (p.Plane.Drift.get i).Time (0:Int) (1000000:Int) <;> cases decide ((p.Plane.Drift.get i).Radius.Low < (0:Int)) <;> cases decide ((p.Plane.Drift.get i).Radius.Low > (p.Plane.Drift.get i).Radius.High) <;> cases decide ((p.Plane.Drift.get i).Radius.High > (w64 (p.Plane.Pitch.tdiv (2:Int)))) <;> rfl)
    (λ k=>by
      show ziF p (zf9 p k) (p.Plane.Drift.len:Int)=_
      unfold ziF
      rw[dqF (show ¬ (p.Plane.Drift.len:Int) < (p.Plane.Drift.len:Int) by omega),dqB])
    h
theorem zw3 (p:Plane) (h:p.Dead.len<=9223372036854775807):zsc p=true/\(znW p=true↔(∀ i,i < p.Dead.len->ddG p.Dead p.Strips i=true)/\true=true) :=
  zbd (good := (fun i => ddG p.Dead p.Strips i)) (fin := true) (n := p.Dead.len) (lpS := fun k i => zf4 p k i) (lpP := fun k i => zf5 p k i)
    (λ k i hi=>by
      show zh8 p (zf4 p k) (i:Int)=cond (ddG p.Dead p.Strips i) (zf4 p k (w64 ((i:Int)+(1:Int)))) false
      generalize zf4 p k=S
      unfold zh8
      rw[dqT (show (i:Int) < (p.Dead.len:Int) by omega),dqA,dqN]
      unfold zgY ddG
      cases s23 (p.Dead.get i) (0:Int) (w64 (p.Strips - (1:Int))) <;> cases decide ((i:Int) > (0:Int)) <;> cases decide (p.Dead.get i<=(p.Dead.get (w64 ((i:Int) - (1:Int))).toNat)) <;> rfl)
    (λ k=>by
      show zh8 p (zf4 p k) (p.Dead.len:Int)=_
      unfold zh8
      rw[dqF (show ¬ (p.Dead.len:Int) < (p.Dead.len:Int) by omega),dqB])
    (λ k i hi=>by
      show zh9 p (zf5 p k) (i:Int)=cond (ddG p.Dead p.Strips i) (zf5 p k (w64 ((i:Int)+(1:Int)))) true
      generalize zf5 p k=S
      unfold zh9
      rw[dqT (show (i:Int) < (p.Dead.len:Int) by omega),dqA,dqN,dqT (show 0<=(i:Int)/\(i:Int) < (p.Dead.len:Int) by omega),Bool.true_and]
      unfold zgZ ddG
      by_cases h0:(i:Int) > 0
      · rw [dqT (show 0 ≤ w64 ((i : Int) - (1:Int)) ∧ w64 ((i : Int) - (1:Int)) < (p.Dead.len : Int) by rw [zae (by omega) (by omega)]; omega), dqT h0]
        cases s23 (p.Dead.get i) (0:Int) (w64 (p.Strips - (1:Int))) <;> cases decide (p.Dead.get i<=(p.Dead.get (w64 ((i:Int) - (1:Int))).toNat)) <;> rfl
      · rw [dqF h0]
        cases s23 (p.Dead.get i) (0:Int) (w64 (p.Strips - (1:Int))) <;> rfl)
    (λ k=>by
      show zh9 p (zf5 p k) (p.Dead.len:Int)=_
      unfold zh9
      rw[dqF (show ¬ (p.Dead.len:Int) < (p.Dead.len:Int) by omega),dqB])
    h
theorem zyL (a:placed) (h:a.Plane.Dead.len<=9223372036854775807):zpk a=true/\(zpj a=true↔(∀ i,i < a.Plane.Dead.len->ddG a.Plane.Dead a.Plane.Strips i=true)/\decide ((a.Plane.Dead.len:Int)<=(100:Int))=true) :=
  zbd (good := (fun i => ddG a.Plane.Dead a.Plane.Strips i)) (fin := decide ((a.Plane.Dead.len : Int) ≤ (100:Int))) (n := a.Plane.Dead.len) (lpS := fun k i => zel a k i) (lpP := fun k i => zem a k i)
    (λ k i hi=>by
      show zfD a (zel a k) (i:Int)=cond (ddG a.Plane.Dead a.Plane.Strips i) (zel a k (w64 ((i:Int)+(1:Int)))) false
      generalize zel a k=S
      unfold zfD
      rw[dqT (show (i:Int) < (a.Plane.Dead.len:Int) by omega),dqA,dqN]
      unfold zg0 ddG
      rw[show s65 (a.Plane.Dead.get i) (0:Int) (w64 (a.Plane.Strips - (1:Int)))=s23 (a.Plane.Dead.get i) (0:Int) (w64 (a.Plane.Strips - (1:Int))) from rfl]
      cases s23 (a.Plane.Dead.get i) (0:Int) (w64 (a.Plane.Strips - (1:Int))) <;> cases decide ((i:Int) > (0:Int)) <;> cases decide (a.Plane.Dead.get i<=(a.Plane.Dead.get (w64 ((i:Int) - (1:Int))).toNat)) <;> rfl)
    (λ k=>by
      show zfD a (zel a k) (a.Plane.Dead.len:Int)=_
      unfold zfD
      rw[dqF (show ¬ (a.Plane.Dead.len:Int) < (a.Plane.Dead.len:Int) by omega),dqB])
    (λ k i hi=>by
      show zfE a (zem a k) (i:Int)=cond (ddG a.Plane.Dead a.Plane.Strips i) (zem a k (w64 ((i:Int)+(1:Int)))) true
      generalize zem a k=S
      unfold zfE
      rw[dqT (show (i:Int) < (a.Plane.Dead.len:Int) by omega),dqA,dqN,dqT (show 0<=(i:Int)/\(i:Int) < (a.Plane.Dead.len:Int) by omega),Bool.true_and]
      unfold zg1 ddG
      rw[show s65 (a.Plane.Dead.get i) (0:Int) (w64 (a.Plane.Strips - (1:Int)))=s23 (a.Plane.Dead.get i) (0:Int) (w64 (a.Plane.Strips - (1:Int))) from rfl]
      by_cases h0:(i:Int) > 0
      · rw [dqT (show 0 ≤ w64 ((i : Int) - (1:Int)) ∧ w64 ((i : Int) - (1:Int)) < (a.Plane.Dead.len : Int) by rw [zae (by omega) (by omega)]; omega), dqT h0]
        cases s23 (a.Plane.Dead.get i) (0:Int) (w64 (a.Plane.Strips - (1:Int))) <;> cases decide (a.Plane.Dead.get i<=(a.Plane.Dead.get (w64 ((i:Int) - (1:Int))).toNat)) <;> rfl
      · rw [dqF h0]
        cases s23 (a.Plane.Dead.get i) (0:Int) (w64 (a.Plane.Strips - (1:Int))) <;> rfl)
    (λ k=>by
      show zfE a (zem a k) (a.Plane.Dead.len:Int)=_
      unfold zfE
      rw[dqF (show ¬ (a.Plane.Dead.len:Int) < (a.Plane.Dead.len:Int) by omega),dqB])
    h
theorem zyM (a:placed) (h:a.Plane.Dead.len<=9223372036854775807):zpm a=true/\(zpl a=true↔(∀ i,i < a.Plane.Dead.len->ddG a.Plane.Dead a.Plane.Strips i=true)/\decide ((a.Plane.Dead.len:Int)<=(100:Int))=true) :=
  zbd (good := (fun i => ddG a.Plane.Dead a.Plane.Strips i)) (fin := decide ((a.Plane.Dead.len : Int) ≤ (100:Int))) (n := a.Plane.Dead.len) (lpS := fun k i => zen a k i) (lpP := fun k i => zeo a k i)
    (λ k i hi=>by
      show zfF a (zen a k) (i:Int)=cond (ddG a.Plane.Dead a.Plane.Strips i) (zen a k (w64 ((i:Int)+(1:Int)))) false
      generalize zen a k=S
      unfold zfF
      rw[dqT (show (i:Int) < (a.Plane.Dead.len:Int) by omega),dqA,dqN]
      unfold zg4 ddG
      rw[show s65 (a.Plane.Dead.get i) (0:Int) (w64 (a.Plane.Strips - (1:Int)))=s23 (a.Plane.Dead.get i) (0:Int) (w64 (a.Plane.Strips - (1:Int))) from rfl]
      cases s23 (a.Plane.Dead.get i) (0:Int) (w64 (a.Plane.Strips - (1:Int))) <;> cases decide ((i:Int) > (0:Int)) <;> cases decide (a.Plane.Dead.get i<=(a.Plane.Dead.get (w64 ((i:Int) - (1:Int))).toNat)) <;> rfl)
    (λ k=>by
      show zfF a (zen a k) (a.Plane.Dead.len:Int)=_
      unfold zfF
      rw[dqF (show ¬ (a.Plane.Dead.len:Int) < (a.Plane.Dead.len:Int) by omega),dqB])
    (λ k i hi=>by
      show zfG a (zeo a k) (i:Int)=cond (ddG a.Plane.Dead a.Plane.Strips i) (zeo a k (w64 ((i:Int)+(1:Int)))) true
      generalize zeo a k=S
      unfold zfG
      rw[dqT (show (i:Int) < (a.Plane.Dead.len:Int) by omega),dqA,dqN,dqT (show 0<=(i:Int)/\(i:Int) < (a.Plane.Dead.len:Int) by omega),Bool.true_and]
      unfold zg5 ddG
      rw[show s65 (a.Plane.Dead.get i) (0:Int) (w64 (a.Plane.Strips - (1:Int)))=s23 (a.Plane.Dead.get i) (0:Int) (w64 (a.Plane.Strips - (1:Int))) from rfl]
      by_cases h0:(i:Int) > 0
      · rw [dqT (show 0 ≤ w64 ((i : Int) - (1:Int)) ∧ w64 ((i : Int) - (1:Int)) < (a.Plane.Dead.len : Int) by rw [zae (by omega) (by omega)]; omega), dqT h0]
        cases s23 (a.Plane.Dead.get i) (0:Int) (w64 (a.Plane.Strips - (1:Int))) <;> cases decide (a.Plane.Dead.get i<=(a.Plane.Dead.get (w64 ((i:Int) - (1:Int))).toNat)) <;> rfl
      · rw [dqF h0]
        cases s23 (a.Plane.Dead.get i) (0:Int) (w64 (a.Plane.Strips - (1:Int))) <;> rfl)
    (λ k=>by
      show zfG a (zeo a k) (a.Plane.Dead.len:Int)=_
      unfold zfG
      rw[dqF (show ¬ (a.Plane.Dead.len:Int) < (a.Plane.Dead.len:Int) by omega),dqB])
    h
theorem zyN (a:placed) (h:a.Plane.Dead.len<=9223372036854775807):zpo a=true/\(zpn a=true↔(∀ i,i < a.Plane.Dead.len->ddG a.Plane.Dead a.Plane.Strips i=true)/\decide ((a.Plane.Dead.len:Int)<=(100:Int))=true) :=
  zbd (good := (fun i => ddG a.Plane.Dead a.Plane.Strips i)) (fin := decide ((a.Plane.Dead.len : Int) ≤ (100:Int))) (n := a.Plane.Dead.len) (lpS := fun k i => zep a k i) (lpP := fun k i => zeq a k i)
    (λ k i hi=>by
      show zfH a (zep a k) (i:Int)=cond (ddG a.Plane.Dead a.Plane.Strips i) (zep a k (w64 ((i:Int)+(1:Int)))) false
      generalize zep a k=S
      unfold zfH
      rw[dqT (show (i:Int) < (a.Plane.Dead.len:Int) by omega),dqA,dqN]
      unfold zg8 ddG
      rw[show s65 (a.Plane.Dead.get i) (0:Int) (w64 (a.Plane.Strips - (1:Int)))=s23 (a.Plane.Dead.get i) (0:Int) (w64 (a.Plane.Strips - (1:Int))) from rfl]
      cases s23 (a.Plane.Dead.get i) (0:Int) (w64 (a.Plane.Strips - (1:Int))) <;> cases decide ((i:Int) > (0:Int)) <;> cases decide (a.Plane.Dead.get i<=(a.Plane.Dead.get (w64 ((i:Int) - (1:Int))).toNat)) <;> rfl)
    (λ k=>by
      show zfH a (zep a k) (a.Plane.Dead.len:Int)=_
      unfold zfH
      rw[dqF (show ¬ (a.Plane.Dead.len:Int) < (a.Plane.Dead.len:Int) by omega),dqB])
    (λ k i hi=>by
      show zfI a (zeq a k) (i:Int)=cond (ddG a.Plane.Dead a.Plane.Strips i) (zeq a k (w64 ((i:Int)+(1:Int)))) true
      generalize zeq a k=S
      unfold zfI
      rw[dqT (show (i:Int) < (a.Plane.Dead.len:Int) by omega),dqA,dqN,dqT (show 0<=(i:Int)/\(i:Int) < (a.Plane.Dead.len:Int) by omega),Bool.true_and]
      unfold zg9 ddG
      rw[show s65 (a.Plane.Dead.get i) (0:Int) (w64 (a.Plane.Strips - (1:Int)))=s23 (a.Plane.Dead.get i) (0:Int) (w64 (a.Plane.Strips - (1:Int))) from rfl]
      by_cases h0:(i:Int) > 0
      · rw [dqT (show 0 ≤ w64 ((i : Int) - (1:Int)) ∧ w64 ((i : Int) - (1:Int)) < (a.Plane.Dead.len : Int) by rw [zae (by omega) (by omega)]; omega), dqT h0]
        cases s23 (a.Plane.Dead.get i) (0:Int) (w64 (a.Plane.Strips - (1:Int))) <;> cases decide (a.Plane.Dead.get i<=(a.Plane.Dead.get (w64 ((i:Int) - (1:Int))).toNat)) <;> rfl
      · rw [dqF h0]
        cases s23 (a.Plane.Dead.get i) (0:Int) (w64 (a.Plane.Strips - (1:Int))) <;> rfl)
    (λ k=>by
      show zfI a (zeq a k) (a.Plane.Dead.len:Int)=_
      unfold zfI
      rw[dqF (show ¬ (a.Plane.Dead.len:Int) < (a.Plane.Dead.len:Int) by omega),dqB])
    h
structure PlOk (p : Plane) : Prop where
  k:1<=p.Kind/\p.Kind<=3
  v:1<=p.View/\p.View<=2
  z:0<=p.Z/\p.Z<=100000
  f : -1000000<=p.First/\p.First<=1000000
  pt:2<=p.Pitch/\p.Pitch<=100000
  st:1<=p.Strips/\p.Strips<=2000
  sp:0<=p.Spill/\p.Spill<=100000
  o : -1000000<=p.Offset.Low/\p.Offset.Low<=p.Offset.High/\p.Offset.High<=1000000
  c : -1000000000<=p.Clock.Low/\p.Clock.Low<=p.Clock.High/\p.Clock.High<=1000000000
  j:0<=p.Jitter/\p.Jitter<=1000000
  l:0<=p.Least/\p.Least<=1000000
  e1 : -1000000<=w64 ((w64 ((w64 (p.First - p.Pitch)) - p.Spill))+p.Offset.Low)
  e2:w64 ((w64 ((w64 (p.First+(w64 ((w64 (p.Strips+(1:Int))) * p.Pitch))))+p.Spill))+p.Offset.High)<=1000000
  dr:p.Kind=2->zBA p.Drift p.Pitch
  nd:p.Kind ≠ 2->p.Drift.len=0
  dl:p.Dead.len<=100
  dd:∀ i,i < p.Dead.len->ddG p.Dead p.Strips i=true
theorem zA0 (p:Plane) (h1:p.Drift.len<=9223372036854775807) (h2:p.Dead.len<=9223372036854775807):p24 p=true:=by
 have h7:=(zw3 p h2).1
 have h6:∀ b,zdy p b=true:=λ b=>by unfold zdy;rw[h7];cases b <;> rfl
 have h5:znX p=true:=by
  unfold znX
  simp only[h6,(zDa p.Drift p.Pitch h1).1,decide_true,Bool.true_and,Bool.cond_self]
 have h4:∀ b,zf6 p b=true:=λ b=>by unfold zf6;rw[h5];cases b <;> rfl
 have h3:znY p=true:=by unfold znY;simp only[h4,Bool.cond_self]
 have h2:∀ b,zdV p b=true:=λ b=>by unfold zdV;rw[h3];cases b <;> rfl
 have h1:znZ p=true:=by unfold znZ;simp only[h2,Bool.cond_self]
 have h0:∀ b,zbO p b=true:=λ b=>by unfold zbO;rw[h1];cases b <;> rfl
 unfold p24 zsh
 simp only[h0,Bool.cond_self]
theorem zA1 (p:Plane) (h1:p.Drift.len<=9223372036854775807) (h2:p.Dead.len<=9223372036854775807) (h:s24 p=true):PlOk p:=by
 have hd:=(zw3 p h2).2
 have hr:=(zDa p.Drift p.Pitch h1).2
 unfold s24 zsg at h
 have a1 : ¬ p.Kind < 1:=λ k=>by rw[dqT k] at h;cases h
 rw[dqF a1,dqB] at h
 have a2 : ¬ p.Kind > 3:=λ k=>by rw[dqT k] at h;cases h
 rw[dqF a2,dqB] at h
 have hv:(1<=p.View/\p.View<=2)/\(cond (!(s23 p.Z (0:Int) (100000:Int))) (zbb p true) (cond (!(s51 p.First)) (zbb p true) (cond (!(s23 p.Pitch (2:Int) (100000:Int))) (zbb p true) (cond (!(s23 p.Strips (1:Int) (2000:Int))) (zbb p true) (zbb p (!(s23 p.Spill (0:Int) (100000:Int))))))))=true:=by
  by_cases v1:p.View=1
  ·rw [show (p.View != (1:Int)) = false by rw [v1]; rfl] at h
   exact⟨by omega,h⟩
  ·rw [show (p.View != (1:Int)) = true from bne_iff_ne.2 v1, dqA] at h
   by_cases v2:p.View=2
   ·rw [show (p.View != (2:Int)) = false by rw [v2]; rfl] at h
    exact⟨by omega,h⟩
   ·rw [show (p.View != (2:Int)) = true from bne_iff_ne.2 v2] at h
    cases h
 obtain⟨hv,h⟩:=hv
 unfold zbb zsf zeR zse zia at h
 simp only[dqA,cF,Bool.not_not,zfM,zAZ,dqm,decide_eq_true_eq,Bool.not_eq_true',decide_eq_false_iff_not] at h
 obtain⟨b1,b2,b3,b4,b5,b6,b7,b8,b9,b10,b11,b12,b13,b14,b15,h⟩:=h
 have hk:(p.Kind=2->zBA p.Drift p.Pitch)/\(p.Kind ≠ 2->p.Drift.len=0)/\p.Dead.len<=100/\znW p=true:=by
  unfold zsd zdU at h
  simp only[dqA,cF,Bool.not_not] at h
  by_cases k2:p.Kind=2
  ·rw [show (p.Kind == (2:Int)) = true from beq_iff_eq.2 k2, show (p.Kind != (2:Int)) = false by rw [k2]; rfl, dqA, dqB] at h
   simp only[dqm,Bool.not_eq_true',decide_eq_false_iff_not] at h
   exact⟨λ _=>hr.1 h.1,λ k=>absurd k2 k,by omega,h.2.2⟩
  ·rw [show (p.Kind == (2:Int)) = false from dqU.2 k2, show (p.Kind != (2:Int)) = true from bne_iff_ne.2 k2, dqA, dqB] at h
   simp only[dqm,Bool.not_eq_true',decide_eq_false_iff_not] at h
   exact⟨λ k=>absurd k k2,λ _=>by omega,by omega,h.2.2⟩
 obtain⟨k1,k2,k3,k4⟩:=hk
 exact⟨by omega,hv,b1,b2,b3,b4,b5,⟨b6.1,by omega,b7.2⟩,⟨b9.1,by omega,b10.2⟩,b12,b13,b14.1,b15.2,k1,k2,k3,(hd.1 k4).1⟩
theorem ztS {p:Plane}(h:PlOk p) (i:Int):s88 ⟨p,i⟩=true:=by
 obtain⟨h1,h2,h3,h4,h5,h6,h7,h8,h9,h10,h11,h12,h13,_,_,_,_⟩:=h
 unfold s88 zsM zk2 zsL zk1 zsK ziG zsJ zCk
 simp only[dqA,cF,Bool.not_not,zfN]
 rw[dqT (show 1<=p.View/\p.View<=2 from h2),dqT (show 0<=p.Z/\p.Z<=100000 from h3),dqT (show -1000000<=p.First/\p.First<=1000000 from h4),
  dqT (show 2<=p.Pitch/\p.Pitch<=100000 from h5),dqT (show 1<=p.Strips/\p.Strips<=2000 from h6),dqT (show 0<=p.Spill/\p.Spill<=100000 from h7),
  dqT (show w64 (0 - (1000000:Int))<=p.Offset.Low/\p.Offset.Low<=p.Offset.High from ⟨h8.1,h8.2.1⟩),dqT (show p.Offset.High<=(1000000:Int) from h8.2.2),
  dqT (show w64 (0 - (1000000000:Int))<=p.Clock.Low/\p.Clock.Low<=p.Clock.High from ⟨h9.1,h9.2.1⟩),dqT (show p.Clock.High<=(1000000000:Int) from h9.2.2),
  dqT (show 0<=p.Jitter/\p.Jitter<=1000000 from h10),dqT (show 0<=p.Least/\p.Least<=1000000 from h11),dqT h12,dqT h13]
 rfl
theorem zw4 {p:Plane}(h:PlOk p) (i:Int):p64 ⟨p,i⟩=true/\s64 ⟨p,i⟩=true:=by
 have hs:=ztS h i
 have hk:=h.k
 have hdl:=h.dl
 have hlen:(⟨p,i⟩:placed).Plane.Dead.len<=9223372036854775807:=by show p.Dead.len<=_;omega
 have keya:p.Kind=1->zCm ⟨p,i⟩=true/\zCl ⟨p,i⟩=true:=λ hk=>by
  obtain⟨d1,d2⟩:=zyL ⟨p,i⟩ hlen
  have d3:=d2.2 ⟨h.dd,dqT (by show (p.Dead.len:Int)<=100;omega)⟩
  have e:(⟨(⟨(1:Int),p.View,p.Z,p.First,p.Pitch,p.Strips,p.Spill,p.Offset,p.Clock,p.Jitter,p.Least,p.Drift,p.Dead⟩:Plane),i⟩:placed)=⟨p,i⟩:=by rw[<- hk]
  have f3:s85 ⟨p,i⟩=true:=beq_iff_eq.2 (by show (p.Drift.len:Int)=0;have:=h.nd (by omega);omega)
  unfold zCm zCl
  show cond (!(s65 (1:Int) (1:Int) (3:Int))) _ (cond (!(s88 ⟨(⟨(1:Int),p.View,p.Z,p.First,p.Pitch,p.Strips,p.Spill,p.Offset,p.Clock,p.Jitter,p.Least,p.Drift,p.Dead⟩:Plane),i⟩)) _ (zg3 ⟨p,i⟩ (!(s85 ⟨(⟨(1:Int),p.View,p.Z,p.First,p.Pitch,p.Strips,p.Spill,p.Offset,p.Clock,p.Jitter,p.Least,p.Drift,p.Dead⟩:Plane),i⟩))))=true/\cond (!(s65 (1:Int) (1:Int) (3:Int))) _ (cond (!(s88 ⟨(⟨(1:Int),p.View,p.Z,p.First,p.Pitch,p.Strips,p.Spill,p.Offset,p.Clock,p.Jitter,p.Least,p.Drift,p.Dead⟩:Plane),i⟩)) _ (zg2 ⟨p,i⟩ (!(s85 ⟨(⟨(1:Int),p.View,p.Z,p.First,p.Pitch,p.Strips,p.Spill,p.Offset,p.Clock,p.Jitter,p.Least,p.Drift,p.Dead⟩:Plane),i⟩))))=true
  rw[e,hs,show s65 (1:Int) (1:Int) (3:Int)=true from rfl,f3]
  exact⟨d1,d3⟩
 have keyb:p.Kind=2->zCo ⟨p,i⟩=true/\zCn ⟨p,i⟩=true:=λ hk=>by
  obtain⟨d1,d2⟩:=zyM ⟨p,i⟩ hlen
  have d3:=d2.2 ⟨h.dd,dqT (by show (p.Dead.len:Int)<=100;omega)⟩
  have e:(⟨(⟨(2:Int),p.View,p.Z,p.First,p.Pitch,p.Strips,p.Spill,p.Offset,p.Clock,p.Jitter,p.Least,p.Drift,p.Dead⟩:Plane),i⟩:placed)=⟨p,i⟩:=by rw[<- hk]
  obtain⟨f1,f2⟩:=zDw ⟨p,i⟩ (by show p.Drift.len<=_;have:=(h.dr hk).2;rw[zfM,decide_eq_true_eq] at this;omega)
  have f3:=f2.2 (h.dr hk)
  unfold zCo zCn
  show cond (!(s65 (2:Int) (1:Int) (3:Int))) _ (cond (!(s88 ⟨(⟨(2:Int),p.View,p.Z,p.First,p.Pitch,p.Strips,p.Spill,p.Offset,p.Clock,p.Jitter,p.Least,p.Drift,p.Dead⟩:Plane),i⟩)) _ (decide (p86 ⟨(⟨(2:Int),p.View,p.Z,p.First,p.Pitch,p.Strips,p.Spill,p.Offset,p.Clock,p.Jitter,p.Least,p.Drift,p.Dead⟩:Plane),i⟩=true) && zg7 ⟨p,i⟩ (!(s86 ⟨(⟨(2:Int),p.View,p.Z,p.First,p.Pitch,p.Strips,p.Spill,p.Offset,p.Clock,p.Jitter,p.Least,p.Drift,p.Dead⟩:Plane),i⟩))))=true/\cond (!(s65 (2:Int) (1:Int) (3:Int))) _ (cond (!(s88 ⟨(⟨(2:Int),p.View,p.Z,p.First,p.Pitch,p.Strips,p.Spill,p.Offset,p.Clock,p.Jitter,p.Least,p.Drift,p.Dead⟩:Plane),i⟩)) _ (zg6 ⟨p,i⟩ (!(s86 ⟨(⟨(2:Int),p.View,p.Z,p.First,p.Pitch,p.Strips,p.Spill,p.Offset,p.Clock,p.Jitter,p.Least,p.Drift,p.Dead⟩:Plane),i⟩))))=true
  rw[e,hs,show s65 (2:Int) (1:Int) (3:Int)=true from rfl,f3,f1]
  exact⟨d1,d3⟩
 have keyc:p.Kind=3->zCq ⟨p,i⟩=true/\zCp ⟨p,i⟩=true:=λ hk=>by
  obtain⟨d1,d2⟩:=zyN ⟨p,i⟩ hlen
  have d3:=d2.2 ⟨h.dd,dqT (by show (p.Dead.len:Int)<=100;omega)⟩
  have e:(⟨(⟨(3:Int),p.View,p.Z,p.First,p.Pitch,p.Strips,p.Spill,p.Offset,p.Clock,p.Jitter,p.Least,p.Drift,p.Dead⟩:Plane),i⟩:placed)=⟨p,i⟩:=by rw[<- hk]
  have f3:s87 ⟨p,i⟩=true:=beq_iff_eq.2 (by show (p.Drift.len:Int)=0;have:=h.nd (by omega);omega)
  unfold zCq zCp
  show cond (!(s65 (3:Int) (1:Int) (3:Int))) _ (cond (!(s88 ⟨(⟨(3:Int),p.View,p.Z,p.First,p.Pitch,p.Strips,p.Spill,p.Offset,p.Clock,p.Jitter,p.Least,p.Drift,p.Dead⟩:Plane),i⟩)) _ (zhb ⟨p,i⟩ (!(s87 ⟨(⟨(3:Int),p.View,p.Z,p.First,p.Pitch,p.Strips,p.Spill,p.Offset,p.Clock,p.Jitter,p.Least,p.Drift,p.Dead⟩:Plane),i⟩))))=true/\cond (!(s65 (3:Int) (1:Int) (3:Int))) _ (cond (!(s88 ⟨(⟨(3:Int),p.View,p.Z,p.First,p.Pitch,p.Strips,p.Spill,p.Offset,p.Clock,p.Jitter,p.Least,p.Drift,p.Dead⟩:Plane),i⟩)) _ (zha ⟨p,i⟩ (!(s87 ⟨(⟨(3:Int),p.View,p.Z,p.First,p.Pitch,p.Strips,p.Spill,p.Offset,p.Clock,p.Jitter,p.Least,p.Drift,p.Dead⟩:Plane),i⟩))))=true
  rw[e,hs,show s65 (3:Int) (1:Int) (3:Int)=true from rfl,f3]
  exact⟨d1,d3⟩
 unfold p64 s64
 by_cases k1:p.Kind=1
 ·rw[show ((⟨p,i⟩:placed).Plane.Kind == 1)=true from beq_iff_eq.2 k1];exact keya k1
 rw[show ((⟨p,i⟩:placed).Plane.Kind == 1)=false from dqU.2 k1]
 by_cases k2:p.Kind=2
 ·rw[show ((⟨p,i⟩:placed).Plane.Kind == 2)=true from beq_iff_eq.2 k2];exact keyb k2
 rw[show ((⟨p,i⟩:placed).Plane.Kind == 2)=false from dqU.2 k2]
 have k3:p.Kind=3:=by omega
 rw[show ((⟨p,i⟩:placed).Plane.Kind == 3)=true from beq_iff_eq.2 k3];exact keyc k3
end Go.Proofs
namespace Go.Proofs
open Go Go.Pm
set_option maxRecDepth 100000
set_option linter.unusedVariables false
theorem dlt (x y:Int):decide (x < y) = !decide (x >= y):=by
 by_cases h:x < y
 ·rw[dqT h,dqF (show ¬ x >= y by omega)];rfl
 ·rw[dqF h,dqT (show x >= y by omega)];rfl
theorem dgt (x y:Int):decide (x > y) = !decide (x<=y):=by
 by_cases h:x > y
 ·rw[dqT h,dqF (show ¬ x<=y by omega)];rfl
 ·rw[dqF h,dqT (show x<=y by omega)];rfl
structure TieOk (t : Tie) (nodes : Int) : Prop where
  f0:0<=t.From
  f1:t.From < nodes
  t0:0<=t.To
  t1:t.To < nodes
  ne:t.From ≠ t.To
  lo:t.Low = -1000000000000\/(-1000000000<=t.Low/\t.Low<=1000000000)
  hi:t.High=1000000000000\/(-1000000000<=t.High/\t.High<=1000000000)
  le:t.Low<=t.High
theorem ztT (t:Tie) (nodes:Int) (h1:1<=nodes) (h2:nodes<=40):s59 t nodes=true↔TieOk t nodes:=by
 have e:s59 t nodes=(decide (0<=t.From/\t.From < nodes) && (decide (0<=t.To/\t.To < nodes) && (!(t.From == t.To) && (((t.Low == (-1000000000000:Int)) || decide (-1000000000<=t.Low/\t.Low<=1000000000)) && (((t.High == (1000000000000:Int)) || decide (-1000000000<=t.High/\t.High<=1000000000)) && decide (t.Low<=t.High)))))):=by
  unfold s59 znV znU
  rw[zae (x:=nodes - 1) (by omega) (by omega)]
  simp only[zfL]
  rw[decide_eq_decide.2 (show (0<=t.From/\t.From<=nodes - 1)↔(0<=t.From/\t.From < nodes) by omega),decide_eq_decide.2 (show (0<=t.To/\t.To<=nodes - 1)↔(0<=t.To/\t.To < nodes) by omega)]
  simp only[bne]
  generalize decide (0<=t.From/\t.From < nodes)=a
  generalize decide (0<=t.To/\t.To < nodes)=b
  generalize (t.From == t.To)=c
  generalize (t.Low == (-1000000000000:Int))=d
  generalize (t.High == (1000000000000:Int))=e
  generalize decide (-1000000000<=t.Low/\t.Low<=1000000000)=f
  generalize decide (-1000000000<=t.High/\t.High<=1000000000)=g
  generalize decide (t.Low<=t.High)=h
  cases a <;> cases b <;> cases c <;> cases d <;> cases e <;> cases f <;> cases g <;> cases h <;> rfl
 rw[e]
 simp only[dqm,Bool.or_eq_true,decide_eq_true_eq,Bool.not_eq_true',dqU,beq_iff_eq]
 constructor
 ·rintro⟨⟨a,b⟩,⟨c,d⟩,e,f,g,h⟩;exact⟨a,b,c,d,e,f,g,h⟩
 ·rintro⟨a,b,c,d,e,f,g,h⟩;exact⟨⟨a,b⟩,⟨c,d⟩,e,f,g,h⟩
structure NetOk (n : Net) : Prop where
  n1:1<=n.Nodes
  n40:n.Nodes<=40
  len:n.Ties.len<=200
  tie:∀ i,i < n.Ties.len->TieOk (n.Ties.get i) n.Nodes
theorem zoz (n:Net) (hn:n.Ties.len<=9223372036854775807):p32 n=true/\(s32 n=true↔NetOk n):=by
 obtain⟨h1,h2⟩:=zw2 n hn
 refine⟨h1,h2.trans ?_⟩
 constructor
 ·rintro⟨a,⟨b,c⟩,d⟩;exact⟨b,c,by omega,λ i hi=>(ztT _ _ b c).1 (a i hi)⟩
 ·rintro⟨b,c,d,a⟩;exact⟨λ i hi=>(ztT _ _ b c).2 (a i hi),⟨b,c⟩,by omega⟩
structure ValOk (n : Net) (v : Sl Int) : Prop where
  len:(v.len:Int)=n.Nodes
  zero:v.get 0=0
  b:∀ i,i < v.len->-1000000000000<=v.get i/\v.get i<=1000000000000
def Keep (t:Tie) (v:Sl Int):Prop:=(t.Low = -1000000000000\/t.Low<=v.get t.To.toNat - v.get t.From.toNat)/\(t.High=1000000000000\/v.get t.To.toNat - v.get t.From.toNat<=t.High)
structure AgOk (n : Net) (v : Sl Int) : Prop where
  val:ValOk n v
  keep:∀ i,i < n.Ties.len->Keep (n.Ties.get i) v
def kpB (t:Tie) (zjj:Sl Int):Bool :=
  (cond (t.Low == (-1000000000000:Int))
   (cond (t.High == (1000000000000:Int))
    true
    (decide ((w64 ((zjj.get t.To.toNat) - (zjj.get t.From.toNat)))<=t.High)))
   (cond (decide ((w64 ((zjj.get t.To.toNat) - (zjj.get t.From.toNat))) ≥ t.Low))
    (cond (t.High == (1000000000000:Int))
     true
     (decide ((w64 ((zjj.get t.To.toNat) - (zjj.get t.From.toNat)))<=t.High)))
    false))
theorem ztU (t:Tie) (n:Net) (v:Sl Int) (ht:TieOk t n.Nodes) (hv:ValOk n v):kpB t v=true↔Keep t v:=by
 have h1:=hv.b t.To.toNat (by have:=ht.t0;have:=ht.t1;have:=hv.len;omega)
 have h2:=hv.b t.From.toNat (by have:=ht.f0;have:=ht.f1;have:=hv.len;omega)
 have:=ht.f0;have:=ht.f1;have:=ht.t0;have:=ht.t1;have:=hv.len
 ·unfold kpB Keep
  rw[zae (by omega) (by omega)]
  by_cases a:t.Low = -1000000000000
  ·rw [show (t.Low == (-1000000000000:Int)) = true from beq_iff_eq.2 a, dqA]
   by_cases b:t.High=1000000000000
   ·rw[show (t.High == (1000000000000:Int))=true from beq_iff_eq.2 b,dqA];exact⟨λ _=>⟨.inl a,.inl b⟩,λ _=>rfl⟩
   ·rw[show (t.High == (1000000000000:Int))=false from dqU.2 b,dqB,decide_eq_true_eq];exact⟨λ h=>⟨.inl a,.inr h⟩,λ h=>h.2.resolve_left b⟩
  ·rw [show (t.Low == (-1000000000000:Int)) = false from dqU.2 a, dqB]
   by_cases c:t.Low<=v.get t.To.toNat - v.get t.From.toNat
   ·rw [dqT (show v.get t.To.toNat - v.get t.From.toNat ≥ t.Low from c), dqA]
    by_cases b:t.High=1000000000000
    ·rw[show (t.High == (1000000000000:Int))=true from beq_iff_eq.2 b,dqA];exact⟨λ _=>⟨.inr c,.inl b⟩,λ _=>rfl⟩
    ·rw[show (t.High == (1000000000000:Int))=false from dqU.2 b,dqB,decide_eq_true_eq];exact⟨λ h=>⟨.inr c,.inr h⟩,λ h=>h.2.resolve_left b⟩
   ·rw [dqF (show ¬ v.get t.To.toNat - v.get t.From.toNat ≥ t.Low from c), dqB]
    exact⟨λ h=>absurd h dqk,λ h=>absurd (h.1.resolve_left a) c⟩
theorem zyO (n:Net) (v:Sl Int) (hn:NetOk n) (hg:s32 n=true) (hv:v.len<=9223372036854775807):p12 n v=true/\(s12 n v=true↔AgOk n v):=by
  have hlen:=hn.len
  have h1:=hn.n1
  unfold p12 s12
  rw[hg,(zw2 n (by omega)).1]
  by_cases a:(v.len:Int)=n.Nodes
  · rw [show ((v.len : Int) != n.Nodes) = false by rw [a]; exact bne_self_eq_false _]
    by_cases b:v.get 0=0
    · rw [show (v.get 0 != (0:Int)) = false by rw [b]; rfl, dqT (show 0 ≤ (0:Int) ∧ (0:Int) < (v.len : Int) by omega)]
      have key:(∀ i,i < v.len->-1000000000000<=v.get i/\v.get i<=1000000000000)->p12_at4 n v=true/\(s12_at4 n v=true↔∀ i,i < n.Ties.len->Keep (n.Ties.get i) v):=λ hb=>by
        have hV:ValOk n v:=⟨a,b,hb⟩
        have hl := zbd (good := fun i => kpB (n.Ties.get i) v) (fin := true) (n := n.Ties.len) (lpS := s12_lp5 n v) (lpP := p12_lp5 n v)
          (λ k i hi=>by
            show s12_st5 n v (s12_lp5 n v k) (i:Int)=_
            generalize s12_lp5 n v k=S
            unfold s12_st5 kpB
            rw[dqT (show (i:Int) < (n.Ties.len:Int) by omega),dqA,dqN]
            simp only[bne,dlt,dgt];cases (n.Ties.get i).Low == (-1000000000000:Int) <;> cases (n.Ties.get i).High == (1000000000000:Int) <;> cases decide (w64 (v.get (n.Ties.get i).To.toNat - v.get (n.Ties.get i).From.toNat) >= (n.Ties.get i).Low) <;> cases decide (w64 (v.get (n.Ties.get i).To.toNat - v.get (n.Ties.get i).From.toNat)<=(n.Ties.get i).High) <;> rfl)
          (λ k=>by
            show s12_st5 n v (s12_lp5 n v k) (n.Ties.len:Int)=_
            unfold s12_st5
            rw[dqF (show ¬ (n.Ties.len:Int) < (n.Ties.len:Int) by omega),dqB])
          (λ k i hi=>by
            show p12_st5 n v (p12_lp5 n v k) (i:Int)=_
            generalize p12_lp5 n v k=S
            unfold p12_st5 kpB
            rw[dqT (show (i:Int) < (n.Ties.len:Int) by omega),dqA,dqN,dqT (show 0<=(i:Int)/\(i:Int) < (n.Ties.len:Int) by omega),Bool.true_and,dqT (show 0<=(n.Ties.get i).To/\(n.Ties.get i).To < (v.len:Int) from ⟨(hn.tie i hi).t0,by rw[a];exact (hn.tie i hi).t1⟩),dqT (show 0<=(n.Ties.get i).From/\(n.Ties.get i).From < (v.len:Int) from ⟨(hn.tie i hi).f0,by rw[a];exact (hn.tie i hi).f1⟩),Bool.true_and,Bool.true_and]
            simp only[bne,dlt,dgt];cases (n.Ties.get i).Low == (-1000000000000:Int) <;> cases (n.Ties.get i).High == (1000000000000:Int) <;> cases decide (w64 (v.get (n.Ties.get i).To.toNat - v.get (n.Ties.get i).From.toNat) >= (n.Ties.get i).Low) <;> cases decide (w64 (v.get (n.Ties.get i).To.toNat - v.get (n.Ties.get i).From.toNat)<=(n.Ties.get i).High) <;> rfl)
          (λ k=>by
            show p12_st5 n v (p12_lp5 n v k) (n.Ties.len:Int)=_
            unfold p12_st5
            rw[dqF (show ¬ (n.Ties.len:Int) < (n.Ties.len:Int) by omega),dqB])
          (by omega)
        exact⟨hl.1,hl.2.trans ⟨λ h i hi=>(ztU _ n v (hn.tie i hi) hV).1 (h.1 i hi),λ h=>⟨λ i hi=>(ztU _ n v (hn.tie i hi) hV).2 (h i hi),rfl⟩⟩⟩
      by_cases hb:∀ i,i < v.len->-1000000000000<=v.get i/\v.get i<=1000000000000
      · obtain ⟨k1, k2⟩ := key hb
        have hl := zbd (good := fun i => s31 (v.get i) (-1000000000000:Int) (1000000000000:Int)) (fin := s12_at4 n v) (n := v.len) (lpS := s12_lp2 n v) (lpP := p12_lp2 n v)
          (λ k i hi=>by
            show s12_st2 n v (s12_lp2 n v k) (i:Int)=_
            generalize s12_lp2 n v k=S
            unfold s12_st2 s12_at3
            rw[dqT (show (i:Int) < (v.len:Int) by omega),dqA,dqN]
            cases s31 (v.get i) (-1000000000000:Int) (1000000000000:Int) <;> rfl)
          (λ k=>by
            show s12_st2 n v (s12_lp2 n v k) (v.len:Int)=_
            unfold s12_st2
            rw[dqF (show ¬ (v.len:Int) < (v.len:Int) by omega),dqB])
          (λ k i hi=>by
            show p12_st2 n v (p12_lp2 n v k) (i:Int)=_
            generalize p12_lp2 n v k=S
            unfold p12_st2 p12_at3
            rw[dqT (show (i:Int) < (v.len:Int) by omega),dqA,dqN,dqT (show 0<=(i:Int)/\(i:Int) < (v.len:Int) by omega),Bool.true_and]
            cases s31 (v.get i) (-1000000000000:Int) (1000000000000:Int) <;> rfl)
          (λ k=>by
            show p12_st2 n v (p12_lp2 n v k) (v.len:Int)=_
            unfold p12_st2
            rw[dqF (show ¬ (v.len:Int) < (v.len:Int) by omega),dqB];exact k1)
          hv
        refine⟨by unfold p12_at0 p12_at1 p12_at2;rw[hl.1];rfl,?_⟩
        unfold s12_at0 s12_at1 s12_at2
        refine Iff.trans (Iff.trans (by rfl) hl.2) ?_
        rw[k2]
        exact⟨λ h=>⟨⟨a,b,hb⟩,h.2⟩,λ h=>⟨λ i hi=>by rw[zfL];exact dqT (hb i hi),h.keep⟩⟩
      · have hb' : ¬ ∀ i, i < v.len → s31 (v.get i) (-1000000000000:Int) (1000000000000:Int) = true := fun h => hb fun i hi => by have := h i hi; rw [zfL] at this; exact of_decide_eq_true this
        have hl := zlh (good := fun i => s31 (v.get i) (-1000000000000:Int) (1000000000000:Int)) (bad := false) (fin := s12_at4 n v) (finP := p12_at4 n v) (n := v.len) (lpS := s12_lp2 n v) (lpP := p12_lp2 n v)
          (λ k i hi=>by
            show s12_st2 n v (s12_lp2 n v k) (i:Int)=_
            generalize s12_lp2 n v k=S
            unfold s12_st2 s12_at3
            rw[dqT (show (i:Int) < (v.len:Int) by omega),dqA,dqN]
            cases s31 (v.get i) (-1000000000000:Int) (1000000000000:Int) <;> rfl)
          (λ k=>by
            show s12_st2 n v (s12_lp2 n v k) (v.len:Int)=_
            unfold s12_st2
            rw[dqF (show ¬ (v.len:Int) < (v.len:Int) by omega),dqB])
          (λ k i hi=>by
            show p12_st2 n v (p12_lp2 n v k) (i:Int)=_
            generalize p12_lp2 n v k=S
            unfold p12_st2 p12_at3
            rw[dqT (show (i:Int) < (v.len:Int) by omega),dqA,dqN,dqT (show 0<=(i:Int)/\(i:Int) < (v.len:Int) by omega),Bool.true_and]
            cases s31 (v.get i) (-1000000000000:Int) (1000000000000:Int) <;> rfl)
          (λ k=>by
            show p12_st2 n v (p12_lp2 n v k) (v.len:Int)=_
            unfold p12_st2
            rw[dqF (show ¬ (v.len:Int) < (v.len:Int) by omega),dqB])
          hv
        obtain⟨k1,k2⟩:=hl.2 hb'
        refine⟨by unfold p12_at0 p12_at1 p12_at2;rw[k1];rfl,?_⟩
        unfold s12_at0 s12_at1 s12_at2
        rw[k2]
        exact⟨λ h=>absurd h dqk,λ h=>absurd h.val.b hb⟩
    · rw [show (v.get 0 != (0:Int)) = true from bne_iff_ne.2 b, dqT (show 0 ≤ (0:Int) ∧ (0:Int) < (v.len : Int) by omega)]
      exact⟨rfl,λ h=>absurd h dqk,λ h=>absurd h.val.zero b⟩
  · rw [show ((v.len : Int) != n.Nodes) = true from bne_iff_ne.2 a]
    exact⟨rfl,λ h=>absurd h dqk,λ h=>absurd h.val.len a⟩
end Go.Proofs
namespace Go.Pm
structure Ed where
  u:Nat
  v:Nat
  w:Int
def wt : List Ed → Int
  | []=>0
  | e :: l=>e.w+wt l
theorem zjZ (c d:List Ed):wt (c ++ d)=wt c+wt d:=by
 induction c with
 | nil=>show wt d=0+wt d;omega
 | cons e l ih=>show e.w+wt (l ++ d)=e.w+wt l+wt d;omega
theorem zmX (e:Ed):wt [e]=e.w:=Int.add_zero _
def zeG (E : List Ed) : Nat → List Ed → Nat → Prop
  | a,[],b=>a=b
  | a,e :: l,b=>e∈E/\e.u=a/\zeG E e.v l b
theorem zer {E:List Ed}{c d:List Ed}{a b:Nat} : zeG E a (c ++ d) b↔∃ m,zeG E a c m/\zeG E m d b:=by
 induction c generalizing a with
 | nil=>exact⟨λ h=>⟨a,rfl,h⟩,λ ⟨m,h1,h2⟩=>by cases h1;exact h2⟩
 | cons e l ih =>
  constructor
  ·rintro ⟨h1, h2, h3⟩
   obtain⟨m,k1,k2⟩:=ih.1 h3
   exact⟨m,⟨h1,h2,k1⟩,k2⟩
  ·rintro ⟨m, ⟨h1, h2, h3⟩, h4⟩
   exact⟨h1,h2,ih.2 ⟨m,h3,h4⟩⟩
theorem zfO {E:List Ed}{e:Ed}(h:e∈E):zeG E e.u [e] e.v:=⟨h,rfl,rfl⟩
def za4 (E:List Ed):Prop:=∀ a c,zeG E a c a->0<=wt c
abbrev zcf:=Nat->Option Int
def zpK (d:zcf) (v:Nat) (x:Int):zcf:=λ j=>if j=v then some x else d j
def ltO (x : Int) : Option Int → Bool
  | none=>true
  | some y=>decide (x < y)
def rlF (s:zcf×Bool) (e:Ed):zcf×Bool :=
 match s.1 e.u with
 | none=>s
 | some x=>cond (ltO (x+e.w) (s.1 e.v)) (zpK s.1 e.v (x+e.w),true) s
def Sat (d:zcf) (e:Ed):Prop:=∀ x,d e.u=some x->∃ y,d e.v=some y/\y<=x+e.w
theorem zmY {x:Int}{o:Option Int}(h:ltO x o=false):∃ y,o=some y/\y<=x:=by
 cases o with
 | none=>cases h
 | some y=>exact⟨y,rfl,Int.not_lt.1 (of_decide_eq_false h)⟩
theorem zA2 {x y:Int}(h:y<=x):ltO x (some y)=false:=dqF (Int.not_lt.2 h)
theorem ztV {d:zcf}{c:Bool}{e:Ed}(h:Sat d e):rlF (d,c) e=(d,c):=by
 unfold rlF
 cases hu:d e.u with
 | none=>simp only[hu]
 | some x =>
  obtain⟨y,h1,h2⟩:=h x hu
  simp only[hu,h1,zA2 h2,dqB]
theorem zyP {d:zcf}{c:Bool}{e:Ed}(h : ¬ Sat d e):(rlF (d,c) e).2=true:=by
 unfold rlF
 cases hu:d e.u with
 | none=>exact absurd (λ x hx=>by rw[hu] at hx;cases hx) h
 | some x =>
  simp only[hu]
  cases hl:ltO (x+e.w) (d e.v)
  ·obtain ⟨y, h1, h2⟩ := zmY hl
   exact absurd (λ x' hx'=>⟨y,h1,by rw[hu] at hx';cases hx';exact h2⟩) h
  ·rfl
theorem zv3 {s:zcf×Bool}{e:Ed}(h:s.2=true):(rlF s e).2=true:=by
 unfold rlF
 cases s.1 e.u with
 | none=>exact h
 | some x=>simp only[];cases ltO (x+e.w) (s.1 e.v) <;> first | exact h | rfl
theorem ztW {E:List Ed}{s:zcf×Bool}(h:s.2=true):(E.foldl rlF s).2=true:=by
 induction E generalizing s with
 | nil=>exact h
 | cons e l ih=>exact ih (zv3 h)
theorem zhc {E:List Ed}{d:zcf}{c:Bool}(h:∀ e∈E,Sat d e):E.foldl rlF (d,c)=(d,c):=by
 induction E with
 | nil=>rfl
 | cons e l ih =>
  show l.foldl rlF (rlF (d,c) e)=_
  rw[ztV (h e (dqj ..))]
  exact ih λ e he=>h e (dqf _ he)
theorem zgm {E:List Ed}{d:zcf}{c:Bool}(h:(E.foldl rlF (d,c)).2=false):∀ e∈E,Sat d e:=by
 induction E with
 | nil=>intro e he;cases he
 | cons e l ih =>
  have h':(l.foldl rlF (rlF (d,c) e)).2=false:=h
  have hs:Sat d e:=Classical.byContradiction λ hn=>by
   rw[ztW (zyP hn)] at h';cases h'
  rw[ztV hs] at h'
  intro e' he'
  rcases dqq.1 he' with rfl | hm
  ·exact hs
  ·exact ih h' e' hm
def leO (a b:Option Int):Prop:=∀ y,b=some y->∃ x,a=some x/\x<=y
theorem zes (a:Option Int):leO a a:=λ y h=>⟨y,h,Int.le_refl _⟩
theorem zeg {a b c:Option Int}(h1:leO a b) (h2:leO b c):leO a c:=λ y h=>by
 obtain⟨x,hx,hxy⟩:=h2 y h
 obtain⟨z,hz,hzx⟩:=h1 x hx
 exact⟨z,hz,Int.le_trans hzx hxy⟩
theorem ztX (s:zcf×Bool) (e:Ed) (v:Nat):leO ((rlF s e).1 v) (s.1 v):=by
 unfold rlF
 cases hu:s.1 e.u with
 | none=>exact zes _
 | some x =>
  simp only[]
  cases hl:ltO (x+e.w) (s.1 e.v)
  ·exact zes _
  ·show leO (zpK s.1 e.v (x + e.w) v) _
   unfold zpK
   by_cases hv:v=e.v
   ·rw [dqP hv]
    intro y hy
    refine⟨_,rfl,?_⟩
    rw[hv] at hy
    rw[hy] at hl
    exact Int.le_of_lt (of_decide_eq_true hl)
   ·rw[dqG hv];exact zes _
theorem ztY (E:List Ed) (s:zcf×Bool) (v:Nat):leO ((E.foldl rlF s).1 v) (s.1 v):=by
 induction E generalizing s with
 | nil=>exact zes _
 | cons e l ih=>exact zeg (ih (rlF s e)) (ztX s e v)
theorem zA3 {s:zcf×Bool}{e:Ed}{x:Int}(h:s.1 e.u=some x):leO ((rlF s e).1 e.v) (some (x+e.w)):=by
 unfold rlF
 simp only[h]
 cases hl:ltO (x+e.w) (s.1 e.v)
 ·obtain ⟨y, h1, h2⟩ := zmY hl
  intro z hz;cases hz
  exact⟨y,h1,h2⟩
 ·intro z hz; cases hz
  exact⟨x+e.w,by show zpK s.1 e.v (x+e.w) e.v=_;unfold zpK;rw[dqP rfl],Int.le_refl _⟩
theorem zv4 {E:List Ed}{s:zcf×Bool}{e:Ed}{x:Int}(he:e∈E) (h:s.1 e.u=some x):leO ((E.foldl rlF s).1 e.v) (some (x+e.w)):=by
 induction E generalizing s x with
 | nil=>cases he
 | cons f l ih =>
  rcases dqq.1 he with rfl | hm
  ·exact zeg (ztY l (rlF s e) e.v) (zA3 h)
  ·obtain ⟨x', h1, h2⟩ := ztX s f e.u x h
   intro z hz;cases hz
   obtain⟨y,k1,k2⟩:=ih hm h1 _ rfl
   exact⟨y,k1,by omega⟩
def rnd (E:List Ed) (d:zcf):zcf:=(E.foldl rlF (d,false)).1
def rds (E : List Ed) : Nat → zcf → zcf
  | 0,d=>d
  | k+1,d=>rds E k (rnd E d)
theorem zpL (E:List Ed) (k:Nat) (d:zcf) (v:Nat):leO (rds E k d v) (d v):=by
 induction k generalizing d with
 | zero=>exact zes _
 | succ k ih=>exact zeg (ih (rnd E d)) (ztY E (d,false) v)
theorem zA4 {E:List Ed}{c:List Ed} : ∀ {a b k:Nat}{d:zcf}{y:Int},zeG E a c b->d a=some y->c.length<=k->leO (rds E k d b) (some (y+wt c)):=by
 induction c with
 | nil =>
  intro a b k d y h hd _
  cases h
  intro z hz;cases hz
  obtain⟨x,h1,h2⟩:=zpL E k d a y hd
  exact⟨x,h1,by show x<=y+0;omega⟩
 | cons e l ih =>
  intro a b k d y h hd hk
  obtain⟨k,rfl⟩:∃ k',k=k'+1:=⟨k - 1,by simp only[dqr] at hk;omega⟩
  obtain⟨h1,h2,h3⟩:=h
  subst h2
  obtain⟨x,k1,k2⟩:=zv4 (s:=(d,false)) h1 hd _ rfl
  intro z hz;cases hz
  obtain⟨z,m1,m2⟩:=ih (k:=k) (d:=rnd E d) h3 k1 (by simp only[dqr] at hk;omega) _ rfl
  exact⟨z,m1,by show z<=y+(e.w+wt l);omega⟩
def Fix (E:List Ed) (d:zcf):Prop:=∀ e∈E,Sat d e
theorem zjh {E:List Ed}{d:zcf}(h:Fix E d):rnd E d=d:=by unfold rnd;rw[zhc h]
theorem ztZ {E:List Ed}{d:zcf}(h:Fix E d) (k:Nat):rds E k d=d:=by
 induction k with
 | zero=>rfl
 | succ k ih=>show rds E k (rnd E d)=d;rw[zjh h,ih]
theorem zmZ (n:Nat):∀ {l:List Nat},l.Nodup->(∀ x∈l,x < n)->l.length<=n:=by
 induction n with
 | zero =>
  intro l _ h
  cases l with
  | nil=>exact dqt _
  | cons x l=>exact absurd (h x (dqj ..)) (dqW _)
 | succ n ih =>
  intro l hd h
  have h1:=ih (l:=l.filter (λ x=>x != n)) (hd.filter _) (λ x hx=>by
   obtain⟨hx1,hx2⟩:=List.mem_filter.1 hx
   have:=h x hx1
   have:x ≠ n:=by simpa using hx2
   omega)
  have h2:l.length<=(l.filter (λ x=>x != n)).length+1:=by
   clear h1 ih h
   induction l with
   | nil=>exact Nat.zero_le _
   | cons x l ihl =>
    rw[List.nodup_cons] at hd
    by_cases hx:x=n
    ·subst hx
     have:l.filter (λ y=>y != x)=l:=List.filter_eq_self.2 λ y hy=>by
      have:y ≠ x:=λ e=>hd.1 (e ▸ hy)
      simpa using this
     rw[List.filter_cons_of_neg (by simp),this]
     exact dqt _
    ·rw [List.filter_cons_of_pos (by simpa using hx)]
     have:=ihl hd.2
     simp only[dqr];omega
  omega
def nodes (a:Nat) (c:List Ed):List Nat:=a :: c.map Ed.v
theorem zm0 (a:Nat) (c:List Ed):(nodes a c).length=c.length+1:=by simp[nodes]
theorem zv5 {E:List Ed}{c:List Ed} : ∀ {a b m:Nat},zeG E a c b->m∈nodes a c->∃ c1 c2,c=c1 ++ c2/\zeG E a c1 m/\zeG E m c2 b:=by
 induction c with
 | nil =>
  intro a b m h hm
  have:m=a:=by simpa [nodes] using hm
  subst this
  exact⟨[],[],rfl,rfl,h⟩
 | cons e l ih =>
  intro a b m h hm
  rcases dqq.1 hm with rfl | hm'
  ·exact⟨[],e :: l,rfl,rfl,h⟩
  ·obtain ⟨h1, h2, h3⟩ := h
   obtain⟨c1,c2,k1,k2,k3⟩:=ih h3 (m:=m) (by simpa [nodes] using hm')
   exact⟨e :: c1,c2,by rw[k1];rfl,⟨h1,h2,k2⟩,k3⟩
structure Att (E : List Ed) (Src : Nat → Prop) (d : zcf) (v : Nat) (x : Int) (a : Nat) (c : List Ed) : Prop where
  src:Src a
  ch:zeG E a c v
  wt:x=wt c
  nd:(nodes a c).Nodup
  pre:∀ c1 c2 m,c=c1 ++ c2->zeG E a c1 m->leO (d m) (some (Go.Pm.wt c1))
def Inv (E:List Ed) (Src:Nat->Prop) (d:zcf):Prop:=∀ v x,d v=some x->∃ a c,Att E Src d v x a c
theorem zA5 {d d':zcf}{E:List Ed}{Src:Nat->Prop}{v:Nat}{x:Int}{a:Nat}{c:List Ed}(h:Att E Src d v x a c) (hd:∀ m,leO (d' m) (d m)):Att E Src d' v x a c :=
 ⟨h.src,h.ch,h.wt,h.nd,λ c1 c2 m h1 h2=>zeg (hd m) (h.pre c1 c2 m h1 h2)⟩
theorem zpM {d:zcf}{E:List Ed}{Src:Nat->Prop}(hn:za4 E){e:Ed}(he:e∈E){x:Int}{a:Nat}{c:List Ed}(h:Att E Src d e.u x a c) (hm:e.v∈nodes a c):leO (d e.v) (some (x+e.w)):=by
 obtain⟨c1,c2,k1,k2,k3⟩:=zv5 h.ch hm
 have hc:=hn e.v (c2 ++ [e]) (zer.2 ⟨e.u,k3,zfO he⟩)
 rw[zjZ,zmX] at hc
 have hx:=h.wt
 rw[k1,zjZ] at hx
 obtain⟨y,m1,m2⟩:=h.pre c1 c2 e.v k1 k2 _ rfl
 intro z hz;cases hz
 exact⟨y,m1,by omega⟩
theorem zv6 {E:List Ed}{c:List Ed} : ∀ {a b b':Nat},zeG E a c b->zeG E a c b'->b=b':=by
 induction c with
 | nil=>intro a b b' h1 h2;cases h1;cases h2;rfl
 | cons e l ih=>rintro a b b' ⟨_,_,h1⟩ ⟨_,_,h2⟩;exact ih h1 h2
theorem zlj {c c1 c2:List Ed}{e:Ed}(h:c ++ [e]=c1 ++ c2):c1=c ++ [e]\/∃ c3,c=c1 ++ c3:=by
 rcases List.append_eq_append_iff.1 h with ⟨a',h1,h2⟩ | ⟨c',h1,_⟩
 ·cases a' with
  | nil=>exact .inr ⟨[],by rw[h1];simp⟩
  | cons f a'' =>
   have:a''=[]/\c2=[]:=by
    cases a'' with
    | nil=>simp at h2;exact⟨rfl,h2.2⟩
    | cons g b=>simp at h2
   obtain⟨rfl,rfl⟩:=this
   simp at h2
   exact .inl (by rw[h1,h2])
 ·exact .inr ⟨c',h1⟩
theorem zji {E:List Ed}{Src:Nat->Prop}(hn:za4 E){s:zcf×Bool}{e:Ed}(he:e∈E) (h:Inv E Src s.1):Inv E Src (rlF s e).1:=by
 intro v x hx
 have hle:=ztX s e
 unfold rlF at hx hle ⊢
 cases hu:s.1 e.u with
 | none =>
  simp only[hu] at hx ⊢
  obtain⟨a,c,hc⟩:=h v x hx
  exact⟨a,c,hc⟩
 | some y =>
  simp only[hu] at hx hle ⊢
  cases hl:ltO (y+e.w) (s.1 e.v) with
  | false =>
   simp only[hl,dqB] at hx ⊢
   exact h v x hx
  | true =>
   simp only[hl,dqA] at hx hle ⊢
   by_cases hv:v=e.v
   ·subst hv
    have hx':y+e.w=x:=by
     unfold zpK at hx;rw[dqP rfl] at hx;exact Option.some.inj hx
    obtain⟨a,c,hc⟩:=h e.u y hu
    have hnot:e.v ∉ nodes a c:=λ hm=>by
     obtain⟨z,h1,h2⟩:=zpM hn he hc hm _ rfl
     rw[h1] at hl
     have:=of_decide_eq_true hl
     omega
    refine⟨a,c ++ [e],hc.src,zer.2 ⟨e.u,hc.ch,zfO he⟩,by rw[zjZ,zmX,<- hc.wt];omega,?_,?_⟩
    ·show (a :: (c ++ [e]).map Ed.v).Nodup
     rw[List.map_append,<- List.cons_append]
     refine List.nodup_append.2 ⟨hc.nd,by simp,λ p hp q hq=>?_⟩
     have:q=e.v:=by simpa using hq
     subst this
     exact λ e'=>hnot (e' ▸ hp)
    ·intro c1 c2 m h1 h2
     rcases zlj h1 with rfl | ⟨c3,h3⟩
     ·have : m = e.v := zv6 h2 (zer.2 ⟨e.u, hc.ch, zfO he⟩)
      subst this
      intro z hz;cases hz
      refine⟨x,hx,?_⟩
      rw[zjZ,zmX,<- hc.wt];omega
     ·exact zeg (hle m) (hc.pre c1 c3 m h3 h2)
   ·have hx':s.1 v=some x:=by
     unfold zpK at hx;rw[dqG hv] at hx;exact hx
    obtain⟨a,c,hc⟩:=h v x hx'
    exact⟨a,c,zA5 hc hle⟩
theorem zlk {E F:List Ed}{Src:Nat->Prop}(hn:za4 E) (hF:∀ e∈F,e∈E){s:zcf×Bool}(h:Inv E Src s.1):Inv E Src (F.foldl rlF s).1:=by
 induction F generalizing s with
 | nil=>exact h
 | cons e l ih=>exact ih (λ e he=>hF e (dqf _ he)) (zji hn (hF e (dqj ..)) h)
theorem zt0 {E:List Ed}{Src:Nat->Prop}(hn:za4 E) (k:Nat){d:zcf}(h:Inv E Src d):Inv E Src (rds E k d):=by
 induction k generalizing d with
 | zero=>exact h
 | succ k ih=>exact ih (zlk hn (λ _ h=>h) (s:=(d,false)) h)
structure Start (Src : Nat → Prop) (d : zcf) : Prop where
  only:∀ v x,d v=Option.some x->Src v/\x=0
  src:∀ v,Src v->d v=Option.some 0
theorem zfP {E:List Ed}{Src:Nat->Prop}{d:zcf}(h:Start Src d):Inv E Src d:=λ v x hx=>by
 obtain⟨h1,h2⟩:=h.only v x hx
 refine⟨v,[],h1,rfl,h2,by simp[nodes],λ c1 c2 m e hc=>?_⟩
 have:c1=[]:=by
  cases c1 with
  | nil=>rfl
  | cons _ _=>cases e
 subst this
 cases hc
 rw[hx,h2]
 exact zes _
theorem zpN {E:List Ed}{n:Nat}(hE:∀ e∈E,e.u < n/\e.v < n){c:List Ed} : ∀ {a b:Nat},a < n->zeG E a c b->∀ x∈nodes a c,x < n:=by
  induction c with
  | nil => intro a b ha _ x hx; have : x = a := by simpa [nodes] using hx
           omega
  | cons e l ih =>
    rintro a b ha ⟨h1,h2,h3⟩ x hx
    rcases dqq.1 hx with rfl | hm
    · exact ha
    · exact ih (hE e h1).2 h3 x (by simpa [nodes] using hm)
theorem zyQ {E:List Ed}{n:Nat}{Src:Nat->Prop}(hE:∀ e∈E,e.u < n/\e.v < n) (hS:∀ a,Src a->a < n){d:zcf}{v:Nat}{x:Int}{a:Nat}{c:List Ed}(h:Att E Src d v x a c):c.length+1<=n:=by
 have:=zmZ n h.nd (zpN hE (hS a h.src) h.ch)
 rwa[zm0] at this
theorem zw5 {E:List Ed}{n:Nat}{Src:Nat->Prop}(hn:za4 E) (hE:∀ e∈E,e.u < n/\e.v < n) (hS:∀ a,Src a->a < n){d:zcf}(h0:Start Src d):Fix E (rds E (n - 1) d):=by
 intro e he x hx
 obtain⟨a,c,hc⟩:=zt0 hn (n - 1) (zfP (E:=E) h0) e.u x hx
 by_cases hm:e.v∈nodes a c
 ·exact zpM hn he hc hm _ rfl
 ·have hlen:(c ++ [e]).length<=n - 1:=by
   have hnd:(nodes a (c ++ [e])).Nodup:=by
    show (a :: (c ++ [e]).map Ed.v).Nodup
    rw[List.map_append,<- List.cons_append]
    refine List.nodup_append.2 ⟨hc.nd,by simp,λ p hp q hq=>?_⟩
    have:q=e.v:=by simpa using hq
    subst this
    exact λ e'=>hm (e' ▸ hp)
   have hch:zeG E a (c ++ [e]) e.v:=zer.2 ⟨e.u,hc.ch,zfO he⟩
   have:=zmZ n hnd (zpN hE (hS a hc.src) hch)
   rw[zm0] at this
   omega
  have:=zA4 (zer.2 ⟨e.u,hc.ch,zfO he⟩) (h0.src a hc.src) hlen _ rfl
  rw[zjZ,zmX,<- hc.wt] at this
  obtain⟨z,h1,h2⟩:=this
  exact⟨z,h1,by omega⟩
theorem zw6 {E:List Ed}{f:Nat->Int}(h:∀ e∈E,f e.v<=f e.u+e.w){c:List Ed} : ∀ {a b:Nat},zeG E a c b->f b<=f a+wt c:=by
 induction c with
 | nil=>intro a b hc;cases hc;show f a<=f a+0;omega
 | cons e l ih =>
  rintro a b ⟨h1,h2,h3⟩
  subst h2
  have:=ih h3
  have:=h e h1
  show f b<=f e.u+(e.w+wt l);omega
theorem zm1 {E:List Ed}{f:Nat->Int}(h:∀ e∈E,f e.v<=f e.u+e.w):za4 E:=λ a c hc=>by
 have:=zw6 h hc;omega
end Go.Pm
namespace Go.Pm
theorem zw7 {E:List Ed}{f:Ed->Ed}(hu:∀ e,(f e).u=e.u) (hv:∀ e,(f e).v=e.v){c:List Ed} : ∀ {a b:Nat},zeG (E.map f) a c b->∃ c0,c=c0.map f/\zeG E a c0 b:=by
 induction c with
 | nil=>intro a b h;exact⟨[],rfl,h⟩
 | cons e l ih =>
  rintro a b ⟨h1,h2,h3⟩
  obtain⟨e0,k1,rfl⟩:=dqz.1 h1
  obtain⟨c0,k2,k3⟩:=ih h3
  exact⟨e0 :: c0,by rw[k2];rfl,k1,by rw[<- hu];exact h2,by rw[<- hv];exact k3⟩
def edM (e:Ed):Ed:=⟨e.u,e.v,e.w * 1048576+1⟩
def edR (e:Ed):Ed:=⟨e.v,e.u,e.w⟩
theorem zDb (c:List Ed):wt (c.map edM)=wt c * 1048576+c.length:=by
 induction c with
 | nil=>rfl
 | cons e l ih =>
  show e.w * 1048576+1+wt (l.map edM)=(e.w+wt l) * 1048576+((l.length+1:Nat):Int)
  omega
theorem zDc (c:List Ed):wt (c.reverse.map edR)=wt c:=by
 induction c with
 | nil=>rfl
 | cons e l ih =>
  rw[List.reverse_cons,List.map_append,zjZ,ih]
  show wt l+wt [edR e]=e.w+wt l
  rw[zmX]
  show wt l+e.w=_
  omega
theorem zDd {E:List Ed}{c:List Ed} : ∀ {a b:Nat},zeG E a c b->zeG (E.map edR) b (c.reverse.map edR) a:=by
 induction c with
 | nil=>intro a b h;exact Eq.symm h
 | cons e l ih =>
  rintro a b ⟨h1,h2,h3⟩
  rw[List.reverse_cons,List.map_append]
  exact zer.2 ⟨e.v,ih h3,List.mem_map_of_mem h1,rfl,h2⟩
theorem zA6 (E:List Ed):(E.map edR).map edR=E:=by
 rw[List.map_map]
 exact (List.map_congr_left λ e _=>rfl).trans (List.map_id E)
theorem zA7 {E:List Ed}{c:List Ed}{a b:Nat}(h:zeG (E.map edR) a c b):∃ c0,zeG E b c0 a/\wt c0=wt c/\c0.length=c.length:=by
 have:=zDd h
 rw[zA6] at this
 exact⟨_,this,zDc c,by simp⟩
theorem zll {E:List Ed}(h:za4 E):za4 (E.map edR):=λ a c hc=>by
 obtain⟨c0,h1,h2,_⟩:=zA7 hc
 rw[<- h2];exact h a c0 h1
theorem zeh {E:List Ed}(h:za4 E):za4 (E.map edM):=λ a c hc=>by
 obtain⟨c0,rfl,h1⟩:=zw7 (f:=edM) (λ _=>rfl) (λ _=>rfl) hc
 rw[zDb]
 have:=h a c0 h1
 omega
def zBB : Option Int → Int × Int
  | none=>((1000000000000:Int),(0:Int))
  | some x=>(x / 1048576,x % 1048576)
theorem zoA {L U:Int}(h0:0<=U) (h1:U < 1048576):zBB (some (L * 1048576+U))=(L,U):=by
 show ((L * 1048576+U) / 1048576,(L * 1048576+U) % 1048576)=(L,U)
 rw[show (L * 1048576+U) / 1048576=L by omega,show (L * 1048576+U) % 1048576=U by omega]
def zt1 (s:Nat):zcf:=λ v=>if v=s then some 0 else none
theorem zet (s:Nat):Start (λ v=>v=s) (zt1 s) :=
 ⟨λ v x h=>(by
  unfold zt1 at h
  by_cases hv:v=s
  ·rw[dqP hv] at h;cases h;exact⟨hv,rfl⟩
  ·rw[dqG hv] at h;cases h),λ v h=>dqP h⟩
structure EdOk (E : List Ed) (n : Nat) : Prop where
  lt:∀ e∈E,e.u < n/\e.v < n
  w:∀ e∈E,-1000000000<=e.w/\e.w<=1000000000
  n1:1<=n
  n40:n<=40
theorem EdOk.R {E:List Ed}{n:Nat}(h:EdOk E n):EdOk (E.map edR) n :=
  ⟨λ e he=>(by obtain⟨f,h1,rfl⟩:=dqz.1 he;exact⟨(h.lt f h1).2,(h.lt f h1).1⟩),
   λ e he=>(by obtain⟨f,h1,rfl⟩:=dqz.1 he;exact h.w f h1),h.n1,h.n40⟩
theorem EdOk.ltM {E:List Ed}{n:Nat}(h:EdOk E n):∀ e∈E.map edM,e.u < n/\e.v < n :=
 λ e he=>by obtain⟨f,h1,rfl⟩:=dqz.1 he;exact h.lt f h1
theorem zpO {E:List Ed}{n:Nat}(h:EdOk E n){c:List Ed} : ∀ {a b:Nat},zeG E a c b->-1000000000 * (c.length:Int)<=wt c/\wt c<=1000000000 * (c.length:Int):=by
 induction c with
 | nil=>intro a b _;exact⟨(by show _<=(0:Int);simp),(by show (0:Int)<=_;simp)⟩
 | cons e l ih =>
  rintro a b ⟨h1,_,h3⟩
  have:=ih h3
  have:=h.w e h1
  show _<=e.w+wt l/\e.w+wt l<=_
  simp only[dqr]
  omega
structure Ent (E : List Ed) (n s v : Nat) (x L U : Int) (c : List Ed) : Prop where
  ch:zeG E s c v
  x:x=L * 1048576+U
  L:L=wt c
  U:U=c.length
  len:c.length < n
theorem zw8 {E:List Ed}{n:Nat}(hE:EdOk E n){s:Nat}(hs:s < n){d:zcf}(hd:Inv (E.map edM) (λ v=>v=s) d){v:Nat}{x:Int}(hx:d v=some x):∃ c,Ent E n s v x (wt c) c.length c:=by
 obtain⟨a,c,hc⟩:=hd v x hx
 have hl:=zyQ hE.ltM (λ a ha=>Nat.lt_of_le_of_lt (Nat.le_of_eq ha) hs) hc
 obtain⟨c0,rfl,h1⟩:=zw7 (f:=edM) (λ _=>rfl) (λ _=>rfl) hc.ch
 obtain rfl:a=s:=hc.src
 exact⟨c0,h1,by rw[hc.wt,zDb],rfl,rfl,by rw[List.length_map] at hl;omega⟩
def dst (E:List Ed) (n s:Nat):zcf:=rds (E.map edM) (n - 1) (zt1 s)
theorem zyR {E:List Ed}{n s:Nat}(hn:za4 E):Inv (E.map edM) (λ v=>v=s) (dst E n s):=zt0 (zeh hn) _ (zfP (zet s))
theorem zoB {E:List Ed}{n s:Nat}(hE:EdOk E n) (hn:za4 E) (hs:s < n):Fix (E.map edM) (dst E n s):=zw5 (zeh hn) hE.ltM (λ a ha=>Nat.lt_of_le_of_lt (Nat.le_of_eq ha) hs) (zet s)
theorem dst_at {E:List Ed}{n s v:Nat}(hE:EdOk E n) (hn:za4 E) (hs:s < n){x:Int}(hx:dst E n s v=some x):∃ c,Ent E n s v x (wt c) c.length c:=zw8 hE hs (zyR hn) hx
theorem zv7 {E:List Ed}{n s:Nat} : ∃ x,dst E n s s=some x:=by
 obtain⟨x,h,_⟩:=zpL (E.map edM) (n - 1) (zt1 s) s 0 (dqP rfl)
 exact⟨x,h⟩
theorem zt2 {E:List Ed}{n s:Nat}(hE:EdOk E n) (hn:za4 E) (hs:s < n){c:List Ed} : ∀ {a v:Nat}{x:Int},dst E n s a=some x->zeG E a c v->∃ y,dst E n s v=some y/\y / 1048576<=x / 1048576+wt c:=by
 induction c with
 | nil=>intro a v x hx h;cases h;exact⟨x,hx,by show _<=_+(0:Int);omega⟩
 | cons e l ih =>
  rintro a v x hx ⟨h1,h2,h3⟩
  subst h2
  obtain⟨y,k1,k2⟩:=zoB hE hn hs (edM e) (List.mem_map_of_mem h1) x hx
  obtain⟨z,m1,m2⟩:=ih (a:=e.v) k1 h3
  obtain⟨c1,hc1⟩:=dst_at hE hn hs hx
  obtain⟨c2,hc2⟩:=dst_at hE hn hs (show dst E n s e.v=some y from k1)
  refine⟨z,m1,?_⟩
  have k2':y<=x+(e.w * 1048576+1):=k2
  have:=hE.n40
  have:=hc1.len
  have:=hc1.x
  have:=hc2.len
  have:=hc2.x
  show _<=_+(e.w+wt l)
  omega
theorem zyS {E:List Ed}{n s v:Nat}(hE:EdOk E n) (hn:za4 E) (hs:s < n){c:List Ed}(hc:zeG E s c v):∃ x,dst E n s v=some x/\x / 1048576<=wt c:=by
 obtain⟨x0,h1⟩:=zv7 (E:=E) (n:=n) (s:=s)
 obtain⟨y,k1,k2⟩:=zt2 hE hn hs h1 hc
 have h3:x0<=0:=by
  obtain⟨x',h1',h2'⟩:=zpL (E.map edM) (n - 1) (zt1 s) s 0 (dqP rfl)
  have:x'=x0:=Option.some.inj (h1'.symm.trans h1)
  omega
 exact⟨y,k1,by omega⟩
def zw9 (o:Option Int):Int:=(zBB o).1
theorem zt3 {E:List Ed}{n s v:Nat}(hE:EdOk E n) (hn:za4 E) (hs:s < n){x:Int}(hx:dst E n s v=some x):∃ c,zeG E s c v/\zw9 (dst E n s v)=wt c/\c.length < n:=by
 obtain⟨c,hc⟩:=dst_at hE hn hs hx
 refine⟨c,hc.ch,?_,hc.len⟩
 rw[hx]
 show x / 1048576=_
 have:=hc.x;have:=hc.len;have:=hE.n40
 omega
theorem zlm {E:List Ed}{n s v:Nat}(hE:EdOk E n) (hn:za4 E) (hs:s < n){c:List Ed}(hc:zeG E s c v):zw9 (dst E n s v)<=wt c:=by
 obtain⟨x,h1,h2⟩:=zyS hE hn hs hc
 rw[h1];exact h2
theorem zcJ {E:List Ed}{n s v:Nat}(hE:EdOk E n) (hn:za4 E) (hs:s < n):(dst E n s v=none/\zw9 (dst E n s v)=1000000000000)\/∃ c,dst E n s v ≠ none/\zeG E s c v/\zw9 (dst E n s v)=wt c/\c.length < n/\-40000000000<=wt c/\wt c<=40000000000:=by
 cases h:dst E n s v with
 | none=>exact .inl ⟨rfl,rfl⟩
 | some x =>
  obtain⟨c,h1,h2,h3⟩:=zt3 hE hn hs h
  have:=zpO hE h1
  have:=hE.n40
  rw[h] at h2
  exact .inr ⟨c,(by intro h;cases h),h1,h2,h3,by omega,by omega⟩
theorem zv8 {E:List Ed}{n s v:Nat}(hE:EdOk E n) (hn:za4 E) (hs:s < n){f:Nat->Int}(hf:∀ e∈E,f e.v<=f e.u+e.w) (hd:dst E n s v ≠ none):f v<=f s+zw9 (dst E n s v):=by
 rcases zcJ (v:=v) hE hn hs with ⟨h,_⟩ | ⟨c,_,h1,h2,_⟩
 ·exact absurd h hd
 ·rw[h2];exact zw6 hf h1
end Go.Pm
namespace Go.Pm
def zln (E : List Ed) : Nat → zcf → Bool
  | 0,_=>true
  | k+1,d=>cond (E.foldl rlF (d,false)).2 (zln E k (rnd E d)) false
theorem zoC {E:List Ed}{k:Nat} : ∀ {m:Nat}{d:zcf},Fix E (rds E k d)->k < m->zln E m d=false:=by
 induction k with
 | zero =>
  intro m d h hm
  obtain⟨m,rfl⟩:∃ m',m=m'+1:=⟨m - 1,by omega⟩
  show cond (E.foldl rlF (d,false)).2 _ _=false
  rw[zhc (show ∀ e∈E,Sat d e from h)];rfl
 | succ k ih =>
  intro m d h hm
  obtain⟨m,rfl⟩:∃ m',m=m'+1:=⟨m - 1,by omega⟩
  show cond (E.foldl rlF (d,false)).2 (zln E m (rnd E d)) false=false
  rw[ih (m:=m) (d:=rnd E d) h (by omega)]
  cases (E.foldl rlF (d,false)).2 <;> rfl
theorem zv9 {E:List Ed}{m:Nat} : ∀ {d:zcf},zln E m d=false->∃ k,Fix E (rds E k d):=by
 induction m with
 | zero=>intro d h;cases h
 | succ m ih =>
  intro d h
  have h':cond (E.foldl rlF (d,false)).2 (zln E m (rnd E d)) false=false:=h
  cases hc:(E.foldl rlF (d,false)).2
  ·exact⟨0,zgm hc⟩
  ·rw [hc] at h'
   obtain⟨k,hk⟩:=ih h'
   exact⟨k+1,hk⟩
def zuo (n:Nat):zcf:=λ v=>if v < n then some 0 else none
theorem zqq (n:Nat):Start (λ v=>v < n) (zuo n) :=
 ⟨λ v x h=>(by
  unfold zuo at h
  by_cases hv:v < n
  ·rw[dqP hv] at h;cases h;exact⟨hv,rfl⟩
  ·rw[dqG hv] at h;cases h),λ v h=>dqP h⟩
theorem zwa {E:List Ed}{n:Nat}(hE:EdOk E n):zln E n (zuo n)=false↔za4 E:=by
 constructor
 ·intro h
  obtain⟨k,hk⟩:=zv9 h
  have hsome:∀ v,v < n->∃ x,rds E k (zuo n) v=some x:=λ v hv=>by
   obtain⟨x,hx,_⟩:=zpL E k (zuo n) v 0 (dqP hv)
   exact⟨x,hx⟩
  refine zm1 (f:=λ v=>(rds E k (zuo n) v).getD 0) λ e he=>?_
  obtain⟨x,hx⟩:=hsome e.u (hE.lt e he).1
  obtain⟨y,hy,hxy⟩:=hk e he x hx
  show (rds E k (zuo n) e.v).getD 0<=(rds E k (zuo n) e.u).getD 0+e.w
  rw[hx,hy];exact hxy
 ·intro h
  have:=hE.n1
  exact zoC (zw5 h hE.lt (λ a ha=>ha) (zqq n)) (by omega)
end Go.Pm
