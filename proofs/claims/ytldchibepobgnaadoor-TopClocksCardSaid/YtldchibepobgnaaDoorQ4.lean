/- Part 4 of what the proof rests on: a machine that runs functions of the program on pure values, proved sound; the functions that the law reaches, and what they compute. -/
import Derived.Test.YtldchibepobgnaaDoorQ3
import Derived.Sort.OwnSortedInts
import Derived.Lib.SlicesCompact
import Derived.Test.YtldchibepobgnaaDoorProg
import Derived.ProofKit
import Derived.Deep.Slices
import Derived.OpenShut
set_option linter.all false
namespace Go.Pm

structure Tabs where
  fn:List (Nat×(List PA->COut))
  own:List (Nat×OwnK)
  it:List (Nat×(List PA->Option (Prop×List (List PA))))
  mt:List (Nat×MK)
def zAQ : List (Nat × (List PA → COut)) → Nat → List PA → COut
  | [],_=>λ _=>.no
  | (k,c) :: r,n=>match Nat.beq k n with | true=>c | false=>zAQ r n
def zAR (l:List (Nat×OwnK)) (f:Nat):OwnK:=match lk l f with | some c=>c | none=>.none
def zJu (l:List (Nat×(List PA->Option (Prop×List (List PA))))) (f:Nat):List PA->Option (Prop×List (List PA)):=match lk l f with | some c=>c | none=>λ _=>none
def csm (T:Tabs) (memo:Nat->Int->List Int) (vv:Nat->Bool):Ctrs:=⟨zAQ T.fn,zAR T.own,zJu T.it,memo,vv,lk T.mt⟩
abbrev cs (T:Tabs):Ctrs:=csm T (λ _ _=>[]) (λ _=>false)
def Tabs.nil:Tabs:=⟨[],[],[],[]⟩
def Tabs.addF (T:Tabs) (f:Nat) (c:List PA->COut):Tabs:=⟨(f,c) :: T.fn,T.own,T.it,T.mt⟩
def Tabs.addO (T:Tabs) (f:Nat) (c:OwnK):Tabs:=⟨T.fn,(f,c) :: T.own,T.it,T.mt⟩
def Tabs.addI (T:Tabs) (f:Nat) (c:List PA->Option (Prop×List (List PA))):Tabs:=⟨T.fn,T.own,(f,c) :: T.it,T.mt⟩
theorem zSi {P:Program}{f:Nat} : Ok P f (λ _=>.no):=λ _ _ h=>h.elim
theorem zSj {P:Program}{f:Nat} : zE5 P f (λ _=>none):=λ _ _ _ h=>by cases h

structure TabsOk (P : Program) (T : Tabs) : Prop where
  fn:∀ x∈T.fn,Ok P x.1 x.2
  own:∀ x∈T.own,zq6 P x.1 x.2
  it:∀ x∈T.it,zE5 P x.1 x.2
  mt:∀ x∈T.mt,zN0 P x.1 x.2
theorem TabsOk.nil {P:Program} : TabsOk P .nil:=⟨λ _ h=>(by cases h),λ _ h=>(by cases h),λ _ h=>(by cases h),λ _ h=>(by cases h)⟩
theorem TabsOk.addF {P:Program}{T:Tabs}(h:TabsOk P T){f:Nat}{c:List PA->COut}(hc:Ok P f c):TabsOk P (T.addF f c) :=
 ⟨λ x hx=>(dqq.1 hx).elim (λ e=>by rw[e];exact hc) (λ hx=>h.fn x hx),h.own,h.it,h.mt⟩
theorem TabsOk.addO {P:Program}{T:Tabs}(h:TabsOk P T){f:Nat}{c:OwnK}(hc:zq6 P f c):TabsOk P (T.addO f c) :=
 ⟨h.fn,λ x hx=>(dqq.1 hx).elim (λ e=>by rw[e];exact hc) (λ hx=>h.own x hx),h.it,h.mt⟩
theorem TabsOk.addI {P:Program}{T:Tabs}(h:TabsOk P T){f:Nat}{c:List PA->Option (Prop×List (List PA))}(hc:zE5 P f c):TabsOk P (T.addI f c) :=
 ⟨h.fn,h.own,λ x hx=>(dqq.1 hx).elim (λ e=>by rw[e];exact hc) (λ hx=>h.it x hx),h.mt⟩
theorem TabsOk.all {P:Program}{T:Tabs}(h:TabsOk P T) (memo:Nat->Int->List Int) (vv:Nat->Bool):OkAll P (csm T memo vv):=by
 refine⟨λ f C hC=>h.mt _ (zcJ hC),λ f=>?_,λ f=>?_,λ f=>?_⟩
 ·show Ok P f (zAQ T.fn f)
  have key:∀ l:List (Nat×(List PA->COut)),(∀ x∈l,Ok P x.1 x.2)->Ok P f (zAQ l f):=by
   intro l
   induction l with
   | nil=>intro _;exact zSi
   | cons x l ih =>
    intro hl
    obtain⟨k,c⟩:=x
    simp only[zAQ]
    split
    ·rename_i e
     have:=hl (k,c) dqj
     rw[<- dqc e];exact this
    ·exact ih λ x hx=>hl x (dqf _ hx)
  exact key T.fn h.fn
 ·show zq6 P f (zAR T.own f)
  unfold zAR
  split
  ·rename_i c hc;exact h.own _ (zcJ hc)
  ·trivial
 ·show zE5 P f (zJu T.it f)
  unfold zJu
  split
  ·rename_i c hc;exact h.it _ (zcJ hc)
  ·exact zSj

theorem zbm {P : Program} {T : Tabs} (hT : TabsOk P T) {f : FuncId} {C : List PA → COut} (hc : zaj P f)
    (h:∀ args K,(C args).wp K->∃ memo vv ann,vcFun P (csm T memo vv) ann f args K):Ok P f C :=
  zFG (hT.all (λ _ _=>[]) (λ _=>false)) hc h
theorem zHy {P : Program} {T : Tabs} (hT : TabsOk P T) {f : FuncId} {C : List PA → Option (Prop × List (List PA))} (hc : zaj P f)
    (h:∀ l caps safe ys,C caps=some (safe,ys)->safe->∃ memo vv ann,vcIter P (csm T memo vv) ann f l caps ys):zE5 P f C :=
  zFK (hT.all (λ _ _=>[]) (λ _=>false)) hc h
theorem zrS {P : Program} {T : Tabs} (hT : TabsOk P T) {f : FuncId} {e s b : Nat} (hc : zaj P f)
    (h:∀ n get,n * b<=140737488355328->n<=9223372036854775807->∃ memo vv ann,zum P (csm T memo vv) ann f [.one (.sl n s get)] e s b n get):zq6 P f (.clone e s b) :=
  zun (hT.all (λ _ _=>[]) (λ _=>false)) hc h

structure Sl (α : Type) where
  len:Nat
  get:Nat->α
instance {α:Type} [Inhabited α]:Inhabited (Sl α):=⟨⟨0,λ _=>default⟩⟩
abbrev w64 (x:Int):Int:=IntKind.i64.wrap x

def IsE {α:Type}(enc:α->List PV) (size s:Nat) (g:Nat->List PV):Prop:=s=size/\∃ f:Nat->α,g=λ i=>enc (f i)
theorem isE {α:Type}{enc:α->List PV}{size:Nat}{f:Nat->α} : IsE enc size size (λ i=>enc (f i)):=⟨rfl,f,rfl⟩
theorem zFL {α:Type}{enc:α->List PV}{size:Nat}{x:α} : IsE enc size size (λ _=>enc x):=⟨rfl,λ _=>x,rfl⟩
def zfU {α:Type}(n:Nat) (get new:Nat->α):Nat->α:=λ j=>match Nat.ble n j with | true=>new (j - n) | false=>get j
theorem zFM {α:Type}{enc:α->List PV}{n:Nat}{f h:Nat->α} : appG n (λ i=>enc (f i)) (λ i=>enc (h i))=λ i=>enc (zfU n f h i):=by
 funext j;simp only[appG,zfU];cases Nat.ble n j <;> rfl
def zlh {α : Type} (x : α) : List α → Nat → α
  | [],_=>x
  | y :: _,0=>y
  | _ :: r,i+1=>zlh x r i
theorem zlY {α:Type}{enc:α->List PV}{x y:α}{r:List α} : zER (enc x :: enc y :: r.map enc)=λ i=>enc (zlh x (x :: y :: r) i):=by
 have key:∀ (l:List α) (i:Nat),(match (l.map enc)[i]? with | some z=>z | none=>enc x)=enc (zlh x l i):=by
  intro l
  induction l with
  | nil=>intro i;rfl
  | cons a l ih =>
   intro i
   cases i with
   | zero=>rfl
   | succ i=>simpa [zlh] using ih i
 funext i
 exact key (x :: y :: r) i
theorem zFN {b:Bool}{A B:Prop}{S S':Bool}{α:Type}{K:α->Prop}{x y:α}(h1:S=true->K x->A) (h2:S'=true->K y->B) (hs:cond b S S'=true) (hk:K (cond b x y)):zcr b A B:=by
 cases b
 ·exact h2 hs hk
 ·exact h1 hs hk
theorem zhT {b:Bool}{A B:Prop}{S S':Bool}{α β:Type}{f:α->β}{ys:List β}{x y:List α}(hs:cond b S S'=true) (hk:ys=(cond b x y).map f) (h1:S=true->ys=x.map f->A) (h2:S'=true->ys=y.map f->B):zcr b A B:=by
 cases b
 ·exact h2 hs hk
 ·exact h1 hs hk
theorem itY {α β:Type}{f:α->β}{ys:List β}{p:β}{x r:List α}{l:Nat}{A:List β->Prop}(hk:ys=x.map f) (e:x.map f=p :: r.map f) (h:∀ zs,zs=r.map f->A zs):l=l/\∃ z,ys=p :: z/\A z/\True :=
 ⟨rfl,_,hk.trans e,h _ rfl,trivial⟩
theorem zaX {C A:Prop} [d:Decidable C] {r:Bool}(hs:(decide C && r)=true) (k:C->r=true->A):A:=by
 rw[dqm] at hs
 exact k (of_decide_eq_true hs.1) hs.2
abbrev Fuel:Nat:=9223372036854775808
def setT {α:Type}(i:Nat) (v:α) (get:Nat->α):Nat->α:=λ j=>match Nat.beq j i with | true=>v | false=>get j
theorem zlq {α:Type}{enc:α->List PV}{n:Nat}{g g':Nat->List PV}{f h:Nat->α}(h1:g=λ i=>enc (f i)) (h2:g'=λ i=>enc (h i)):appG n g g'=λ i=>enc (zfU n f h i):=by
 subst h1;subst h2;exact zFM
theorem zOr {α:Type}{enc:α->List PV}{i k:Nat}{g:Nat->List PV}{f:Nat->α}{new:List PV}{v:α}(h1:g=λ i=>enc (f i)) (h2:spl (enc (f i)) k new=enc v):zlO i k g new=λ j=>enc (setT i v f j):=by
 subst h1
 funext j
 simp only[zlO,setT]
 cases e:Nat.beq j i
 ·rfl
 ·have := dqc e
  subst this;exact h2
theorem zxk {b:Bool}{A B:Prop}{α:Type}{K:α->Prop}{x y:α}(h1:K x->A) (h2:K y->B) (hk:K (cond b x y)):zcr b A B:=by
 cases b
 ·exact h2 hk
 ·exact h1 hk
def zVo (P:Program) (G:Ctrs) (ann:Ann) (hd:Nat) (ps:List Nat) (assign body:Code) (X:List (List PA)->St->Prop) (K:Exit->St->Prop) (y:List PA) (rest:List (List PA)) (s:St):Prop :=
 match lk ann.head hd with
 | some k=>match zjo ps y s.env with
  | some env=>vc P G ann assign (zI0 (vc P G ann body (zob P k (X rest) K)) λ _ _=>False) ⟨env,s.objs,[]⟩
  | none=>False
 | none=>False
end Go.Pm
namespace Go.Pm
open Go Go.Sort

/-! Nil slices are slices of length 0. -/
inductive PVle : PV → PV → Prop
  | rfl (p:PV):PVle p p
  | nil (s:Nat) (g:Nat->List PV):PVle .nils (.sl 0 s g)
  | nilm (q:MQ):PVle .nilm (.fm q 0 (λ _=>none))
inductive PAle : PA → PA → Prop
  | one {p q:PV} : PVle p q->PAle (.one p) (.one q)
  | agg {l m:List PV} : RL PVle l m->PAle (.agg l) (.agg m)
theorem zka {α β:Type}{R:α->β->Prop} : RL R [] []:=trivial
theorem zeC {α β:Type}{R:α->β->Prop}{a:α}{b:β}{l:List α}{m:List β}(h:R a b) (h':RL R l m):RL R (a :: l) (b :: m):=⟨h,h'⟩
theorem zib {α : Type} {R : α → α → Prop} (h : ∀ a, R a a) : ∀ l : List α, RL R l l
  | []=>trivial
  | a :: l=>⟨h a,zib h l⟩
theorem zg5 (a:PA):PAle a a:=by
 cases a with
 | one p=>exact .one (.rfl p)
 | agg l=>exact .agg (zib .rfl l)
def Wk (K:List PA->Prop) (l:List PA):Prop:=∃ l',RL PAle l l'/\K l'
theorem wk {K:List PA->Prop}{l l':List PA}(hk:K l') (h:RL PAle l l'):Wk K l:=⟨l',h,hk⟩
theorem zeW {K:List PA->Prop}{l:List PA}(hk:K l):Wk K l:=⟨l,zib zg5 l,hk⟩
theorem zOs {h:Fz}{p q:PV}{v:Value}(e:PVle p q) (r:Rep h p v):Rep h q v:=by
 cases e with
 | rfl=>exact r
 | nil s g=>cases r;exact .sl0 s g
 | nilm q=>cases r;exact .fmn q _ (λ _ _=>rfl)
theorem zFO {α β γ : Type} {R : α → β → Prop} {S : α → γ → Prop} {T : γ → β → Prop} (h : ∀ a b c, S a c → R a b → T c b) : ∀ (l : List α) (m : List β) (k : List γ), RL S l k → RL R l m → RL T k m
  | [],[],[],_,_=>trivial
  | a :: l,b :: m,c :: k,hs,hr=>⟨h a b c hs.1 hr.1,zFO h l m k hs.2 hr.2⟩
  | [],_ :: _,[],_,hr=>hr.elim
  | [],_,_ :: _,hs,_=>hs.elim
  | _ :: _,_,[],hs,_=>hs.elim
  | _ :: _,[],_ :: _,_,hr=>hr.elim
theorem zJv {h:Fz}{a b:PA}{v:Value}(e:PAle a b) (r:paR h a v):paR h b v:=by
 cases e with
 | one e=>exact zOs e r
 | agg e =>
  obtain⟨vs,rfl,hv⟩:=r
  exact⟨vs,rfl,zFO (R:=Rep h) (S:=PVle) (T:=Rep h) (λ _ _ _ e r=>zOs e r) _ _ _ e hv⟩
theorem zOt {h:Fz}{l m:List PA}{v:Value}(e:RL PAle l m) (r:zzo h l v):zzo h m v:=by
 match l,m,e,r with
 | [a],[b],e,r=>exact zJv e.1 r
 | [],[],_,r=>exact r
 | a :: b :: l,c :: d :: m,e,r =>
  obtain⟨vs,hv,hr⟩:=r
  exact⟨vs,hv,zFO (R:=paR h) (S:=PAle) (T:=paR h) (λ _ _ _ e r=>zJv e r) _ _ _ e hr⟩
 | [_],_ :: _ :: _,e,_=>exact e.2.elim
 | _ :: _ :: _,[_],e,_=>exact e.2.elim
 | [],_ :: _,e,_=>exact e.elim
 | _ :: _,[],e,_=>exact e.elim
theorem ziv {P : Program} {T : Tabs} (hT : TabsOk P T) {f : FuncId} {C : List PA → COut} (hc : zaj P f)
    (h:∀ args K,(C args).wp K->∃ args',RL PAle args args'/\∃ memo vv ann,vcFun P (csm T memo vv) ann f args' (Wk K)):Ok P f C:=by
  intro args K hK w h0 vs hvs hfz hgl
  obtain⟨args',hle,memo,vv,ann,hv⟩:=h args K hK
  refine⟨hc,(zAO (hT.all memo vv) hv (zFO (R:=paR h0) (S:=PAle) (T:=paR h0) (λ _ _ _ e r=>zJv e r) _ _ _ hle hvs) hfz hgl).mono ?_⟩
  rintro e w' ⟨h',rs,v,⟨rs',hr,hk⟩,he,hres,rest⟩
  exact⟨h',rs',v,hk,he,zOt hr hres,rest⟩
/-! Maps, as typed zas; the keys of a map. -/
structure Mp where
  n:Nat
  F:List Int->Option (List Int)
instance:Inhabited Mp:=⟨⟨0,λ _=>none⟩⟩

end Go.Pm
namespace Go.Pm

abbrev zI (x:Int):DV:=.one (.c (.p (.int .i64 x)))
abbrev zB (x:Bool):DV:=.one (.c (.p (.bool x)))
abbrev zP (x:PV):DV:=.one (.c (.p x))
abbrev zp (L k:Nat):DV:=.one (.c (.ptr L k))
abbrev zv (L:Nat):DV:=.one (.c (.vec L))
abbrev zs {α:Type}(enc:α->List PV) (s:Nat) (x:Sl α):PV:=.sl x.len s (λ i=>enc (x.get i))
abbrev zS {α:Type}(enc:α->List PV) (s:Nat) (x:Sl α):DV:=zP (zs enc s x)
abbrev zm (l:List PV):List Cl:=l.map Cl.p
abbrev zA (l:List PV):DV:=.one (.agg (zm l))
abbrev zi (x:Int):Cl:=.p (.int .i64 x)
abbrev zg {α:Type}(enc:α->List PV) (x:Sl α):Nat->List PV:=λ i=>enc (x.get i)
abbrev zK (a b:List Nat):Keep:=⟨a,b,[],[],[],[],[]⟩
theorem zE {α:Type}(enc:α->List PV) (size:Nat) (f:Nat->α):IsE enc size size (λ i=>enc (f i)):=⟨rfl,f,rfl⟩

@[reducible] def lpO {A : Type} (d : A) (st : A → A) : Nat → A
  | 0=>d
  | k+1=>st (lpO d st k)
theorem zgc {A B : Type} (a : A) (b : B) (p : A → A) (s : B → B) (M : A → B → Prop) (h0 : M a b) (h1 : ∀ P S, M P S → M (p P) (s S)) : ∀ k, M (lpO a p k) (lpO b s k)
  | 0=>h0
  | k+1=>h1 _ _ (zgc a b p s M h0 h1 k)
section
variable (P:Program) (Γ:Ctrs) (ann:Ann)
def pt : Code → (Exit → St → Prop) → List Nat → List (St → Prop) → St → Prop
  | .seq a b,K,i :: r,X=>match i with | 0=>pt a (sqK P Γ ann b K) r X | _=>pt b K r X
  | .cond _ a b,K,i :: r,X=>match i with | 0=>pt a K r X | _=>pt b K r X
  | .block id b,K,_ :: r,X=>pt b (zwP id K) r X
  | .loop b,K,_ :: r,x :: X=>pt b (zE1 P ann (zn3 b) x K) r X
  | .scope b,K,_ :: r,X=>pt b (zzz K) r X
  | c,K,_,_=>vc P Γ ann c K
def ptF (fn:Func) (K:List PA->Prop) (l:List Nat) (X:List (St->Prop)):St->Prop :=
 match fn.body with
 | some c=>pt P Γ ann c (zq4 P fn K) l X
 | none=>λ _=>False
end

section
variable (P:Program) (Γ:Ctrs) (ann:Ann)
def ptR : Code → (Exit → St → Prop) → List Nat → List (St → Prop) → Code × (Exit → St → Prop)
  | .seq a b,K,i :: r,X=>match i with | 0=>ptR a (sqK P Γ ann b K) r X | _=>ptR b K r X
  | .cond _ a b,K,i :: r,X=>match i with | 0=>ptR a K r X | _=>ptR b K r X
  | .block id b,K,_ :: r,X=>ptR b (zwP id K) r X
  | .loop b,K,_ :: r,x :: X=>ptR b (zE1 P ann (zn3 b) x K) r X
  | .scope b,K,_ :: r,X=>ptR b (zzz K) r X
  | c,K,_,_=>(c,K)
def exF (fn:Func) (K:List PA->Prop) (l:List Nat) (X:List (St->Prop)) (s:St):Prop :=
 match fn.body with
 | some c=>(ptR P Γ ann c (zq4 P fn K) l X).2 .normal s
 | none=>False
def rnF (fn:Func) (K:List PA->Prop) (l:List Nat) (X:List (St->Prop)) (Y:List (List PA)->St->Prop) (y:List PA) (rest:List (List PA)) (s:St):Prop :=
 match fn.body with
 | some c=>match (ptR P Γ ann c (zq4 P fn K) l X).1 with
  | .rangeFunc _ ps a b=>zVo P Γ ann (zUB a b) ps.toList a b Y (ptR P Γ ann c (zq4 P fn K) l X).2 y rest s
  | _=>False
 | none=>False
end
@[reducible] def lpR {A Y : Type} (a : A) (st : Y → A → A) : List Y → A
  | []=>a
  | y :: r=>st y (lpR a st r)
theorem zri {Y A B : Type} {enc : Y → List PA} {X : List (List PA) → St → Prop} (pe : B) (se : A) (ps : Y → B → B) (ss : Y → A → A) (M : (St → Prop) → B → A → Prop) (h0 : M (X []) pe se)
    (h1:∀ y rest P S,M (X rest) P S->M (X (enc y :: rest)) (ps y P) (ss y S)):∀ l:List Y,M (X (l.map enc)) (lpR pe ps l) (lpR se ss l)
  | []=>h0
  | y :: r=>h1 y (r.map enc) _ _ (zri pe se ps ss M h0 h1 r)
theorem zr {at_ sf : Prop} {Y : Type} {enc : Y → List PA} {ys : List Y} {g : St} (Ex : St → Prop) (Rn : (List (List PA) → St → Prop) → List PA → List (List PA) → St → Prop)
    (e:at_=(sf/\∀ X:List (List PA)->St->Prop,(∀ s,Ex s->X [] s)->(∀ y rest s,Rn X y rest s->X (y :: rest) s)->X (ys.map enc) g)) (hs:sf)
    (h:∀ X:List (List PA)->St->Prop,(∀ s,Ex s->X [] s)->(∀ y rest s,Rn X y rest s->X (y :: rest) s)->X (ys.map enc) g):at_:=e ▸ ⟨hs,h⟩

theorem zc {b:Bool}{A B:Prop}{S S':Bool}{α:Type}{e:α->List PA}{K:List PA->Prop}{x y:α}(hs:cond b S S'=true) (hk:K (e (cond b x y))) (h1:S=true->K (e x)->A) (h2:S'=true->K (e y)->B):zcr b A B:=by
 cases b
 ·exact h2 hs hk
 ·exact h1 hs hk
theorem zt {b:Bool}{A B:Prop}{α:Type}{e:α->List PA}{K:List PA->Prop}{x y:α}(hk:K (e (cond b x y))) (h1:K (e x)->A) (h2:K (e y)->B):zcr b A B:=by
 cases b
 ·exact h2 hk
 ·exact h1 hk
theorem zOu {b:Bool}{s:Prop}{r1 r2:List PA}{K:List PA->Prop}(h:(COut.alt b s r1 s r2).wp K):s/\K (cond b r1 r2):=by
 cases b
 ·exact h.2 rfl
 ·exact h.1 rfl
theorem zl {at_:Prop}{g:St}(B:(St->Prop)->St->Prop) (e:at_ = ∀ X:St->Prop,(∀ s,B X s->X s)->X g) (h:∀ X:St->Prop,(∀ s,B X s->X s)->X g):at_:=e ▸ h
end Go.Pm
namespace Go.Proofs
open Go Go.Pm
set_option maxRecDepth 100000
set_option linter.unusedVariables false
attribute [local irreducible] Go.Pm.vcFun Go.Pm.vc Go.Pm.vcIter
abbrev Tab:=Nat->Int
def tg (n:Nat) (F:Tab) (k:Nat):Int:=ztx (zm (zqZ 0 n F)) k
def ts (n:Nat) (F:Tab) (k:Nat) (vs:List Int):Tab:=zHe k vs (ztx (zm (zqZ 0 n F)))
abbrev enc_3 (x:Int):List PV:=[.int .i64 x]
def zSk : List PV → Int
  | [.int .i64 x]=>x
  | _=>default
def zcS (g:Nat->List PV):Nat->Int:=λ i=>zSk (g i)
theorem zbV (f:Nat->Int):zcS (λ i=>enc_3 (f i))=f:=rfl
abbrev zdK (x:Bool):List PV:=[.bool x]
def zSl : List PV → Bool
  | [.bool x]=>x
  | _=>default
def zbJ (g:Nat->List PV):Nat->Bool:=λ i=>zSl (g i)
theorem zoA (f:Nat->Bool):zbJ (λ i=>zdK (f i))=f:=rfl
abbrev zOv (x:Int):List PV:=[.int .i64 x]
abbrev zOw (x:Int):List PV:=[.int .i64 x]
structure Span where
  Low:Int
  High:Int
deriving Inhabited
abbrev za2 (x:Span):List PV:=[.int .i64 x.Low,.int .i64 x.High]
def zOx : List PV → Span
  | [.int .i64 x_Low,.int .i64 x_High]=>(⟨x_Low,x_High⟩:Span)
  | _=>default
def zgy (g:Nat->List PV):Nat->Span:=λ i=>zOx (g i)
theorem zgz (f:Nat->Span):zgy (λ i=>za2 (f i))=f:=rfl
structure Drift where
  Time:Int
  Radius:Span
deriving Inhabited
abbrev zbi (x:Drift):List PV:=[.int .i64 x.Time,.int .i64 x.Radius.Low,.int .i64 x.Radius.High]
def zJw : List PV → Drift
  | [.int .i64 x_Time,.int .i64 x_Radius_Low,.int .i64 x_Radius_High]=>(⟨x_Time,(⟨x_Radius_Low,x_Radius_High⟩:Span)⟩:Drift)
  | _=>default
def zcx (g:Nat->List PV):Nat->Drift:=λ i=>zJw (g i)
theorem zca (f:Nat->Drift):zcx (λ i=>zbi (f i))=f:=rfl
abbrev zOy (x:(Sl Drift)):List PV:=[.sl x.len 3 (λ i=>zbi (x.get i))]
abbrev zOz (x:(Sl Int)):List PV:=[.sl x.len 1 (λ i=>enc_3 (x.get i))]
structure Plane where
  Kind:Int
  View:Int
  Z:Int
  First:Int
  Pitch:Int
  Strips:Int
  Spill:Int
  Offset:Span
  Clock:Span
  Jitter:Int
  Least:Int
  Drift:(Sl Drift)
  Dead:(Sl Int)
deriving Inhabited
abbrev enc_35 (x:Plane):List PV:=[.int .i64 x.Kind,.int .i64 x.View,.int .i64 x.Z,.int .i64 x.First,.int .i64 x.Pitch,.int .i64 x.Strips,.int .i64 x.Spill,.int .i64 x.Offset.Low,.int .i64 x.Offset.High,.int .i64 x.Clock.Low,.int .i64 x.Clock.High,.int .i64 x.Jitter,.int .i64 x.Least,.sl x.Drift.len 3 (λ i=>zbi (x.Drift.get i)),.sl x.Dead.len 1 (λ i=>enc_3 (x.Dead.get i))]
def zOA : List PV → Plane
  | [.int .i64 x_Kind,.int .i64 x_View,.int .i64 x_Z,.int .i64 x_First,.int .i64 x_Pitch,.int .i64 x_Strips,.int .i64 x_Spill,.int .i64 x_Offset_Low,.int .i64 x_Offset_High,.int .i64 x_Clock_Low,.int .i64 x_Clock_High,.int .i64 x_Jitter,.int .i64 x_Least,.sl x_Drift_n _ x_Drift_g,.sl x_Dead_n _ x_Dead_g]=>(⟨x_Kind,x_View,x_Z,x_First,x_Pitch,x_Strips,x_Spill,(⟨x_Offset_Low,x_Offset_High⟩:Span),(⟨x_Clock_Low,x_Clock_High⟩:Span),x_Jitter,x_Least,(⟨x_Drift_n,zcx x_Drift_g⟩:(Sl Drift)),(⟨x_Dead_n,zcS x_Dead_g⟩:(Sl Int))⟩:Plane)
  | _=>default
def zbo (g:Nat->List PV):Nat->Plane:=λ i=>zOA (g i)
theorem zbG (f:Nat->Plane):zbo (λ i=>enc_35 (f i))=f:=rfl
abbrev zOB (x:(Sl Plane)):List PV:=[.sl x.len 15 (λ i=>enc_35 (x.get i))]
structure Setup where
  Planes:(Sl Plane)
deriving Inhabited
abbrev enc_24 (x:Setup):List PV:=[.sl x.Planes.len 15 (λ i=>enc_35 (x.Planes.get i))]
structure Flown where
  A:Int
  B:Int
  Time:Int
  Flight:Int
  WrongA:Int
  WrongB:Int
deriving Inhabited
abbrev enc_39 (x:Flown):List PV:=[.int .i64 x.A,.int .i64 x.B,.int .i64 x.Time,.int .i64 x.Flight,.int .i64 x.WrongA,.int .i64 x.WrongB]
def zOC : List PV → Flown
  | [.int .i64 x_A,.int .i64 x_B,.int .i64 x_Time,.int .i64 x_Flight,.int .i64 x_WrongA,.int .i64 x_WrongB]=>(⟨x_A,x_B,x_Time,x_Flight,x_WrongA,x_WrongB⟩:Flown)
  | _=>default
def zuo (g:Nat->List PV):Nat->Flown:=λ i=>zOC (g i)
theorem zm1 (f:Nat->Flown):zuo (λ i=>enc_39 (f i))=f:=rfl
abbrev zOD (x:(Sl Flown)):List PV:=[.sl x.len 6 (λ i=>enc_39 (x.get i))]
structure Pulse where
  A:Int
  B:Int
  TimeA:Int
  TimeB:Int
  Flight:Span
  Jitter:Int
deriving Inhabited
abbrev zdL (x:Pulse):List PV:=[.int .i64 x.A,.int .i64 x.B,.int .i64 x.TimeA,.int .i64 x.TimeB,.int .i64 x.Flight.Low,.int .i64 x.Flight.High,.int .i64 x.Jitter]
def zOE : List PV → Pulse
  | [.int .i64 x_A,.int .i64 x_B,.int .i64 x_TimeA,.int .i64 x_TimeB,.int .i64 x_Flight_Low,.int .i64 x_Flight_High,.int .i64 x_Jitter]=>(⟨x_A,x_B,x_TimeA,x_TimeB,(⟨x_Flight_Low,x_Flight_High⟩:Span),x_Jitter⟩:Pulse)
  | _=>default
def zkb (g:Nat->List PV):Nat->Pulse:=λ i=>zOE (g i)
theorem zm2 (f:Nat->Pulse):zkb (λ i=>zdL (f i))=f:=rfl
structure Hit where
  Plane:Int
  Channel:Int
  Many:Int
  Drift:Int
  Charge:Int
  Time:Int
deriving Inhabited
abbrev zbH (x:Hit):List PV:=[.int .i64 x.Plane,.int .i64 x.Channel,.int .i64 x.Many,.int .i64 x.Drift,.int .i64 x.Charge,.int .i64 x.Time]
structure Tie where
  From:Int
  To:Int
  Low:Int
  High:Int
deriving Inhabited
abbrev zbr (x:Tie):List PV:=[.int .i64 x.From,.int .i64 x.To,.int .i64 x.Low,.int .i64 x.High]
def zOF : List PV → Tie
  | [.int .i64 x_From,.int .i64 x_To,.int .i64 x_Low,.int .i64 x_High]=>(⟨x_From,x_To,x_Low,x_High⟩:Tie)
  | _=>default
def zbR (g:Nat->List PV):Nat->Tie:=λ i=>zOF (g i)
theorem zbp (f:Nat->Tie):zbR (λ i=>zbr (f i))=f:=rfl
structure Net where
  Nodes:Int
  Ties:(Sl Tie)
deriving Inhabited
abbrev zdk (x:Net):List PV:=[.int .i64 x.Nodes,.sl x.Ties.len 4 (λ i=>zbr (x.Ties.get i))]
structure Gate where
  Z:Int
  Low:Int
  High:Int
deriving Inhabited
structure Sight where
  Gates:(Sl Gate)
  Z:Int
  X:Int
  W:Int
  Y:Int
  Wrong:Int
deriving Inhabited
structure Frac where
  Num:Int
  Den:Int
deriving Inhabited
structure Line where
  Slope:Frac
  Start:Frac
deriving Inhabited
structure FluxRow where
  Energy:Int
  Rate:Span
deriving Inhabited
abbrev zbt (x:FluxRow):List PV:=[.int .i64 x.Energy,.int .i64 x.Rate.Low,.int .i64 x.Rate.High]
def zJx : List PV → FluxRow
  | [.int .i64 x_Energy,.int .i64 x_Rate_Low,.int .i64 x_Rate_High]=>(⟨x_Energy,(⟨x_Rate_Low,x_Rate_High⟩:Span)⟩:FluxRow)
  | _=>default
def zda (g:Nat->List PV):Nat->FluxRow:=λ i=>zJx (g i)
theorem zck (f:Nat->FluxRow):zda (λ i=>zbt (f i))=f:=rfl
abbrev zcG (x:(Sl FluxRow)):List PV:=[.sl x.len 3 (λ i=>zbt (x.get i))]
def zJy : List PV → (Sl FluxRow)
  | [.sl x_n _ x_g]=>(⟨x_n,zda x_g⟩:(Sl FluxRow))
  | _=>default
def zcT (g:Nat->List PV):Nat->(Sl FluxRow):=λ i=>zJy (g i)
theorem zcU (f:Nat->(Sl FluxRow)):zcT (λ i=>zcG (f i))=f:=rfl
structure Sky where
  Parts:Int
  Bins:(Sl (Sl FluxRow))
  Beta:Span
  Alpha:Span
deriving Inhabited
abbrev zrT (x:Sky):List PV:=[.int .i64 x.Parts,.sl x.Bins.len 1 (λ i=>zcG (x.Bins.get i)),.int .i64 x.Beta.Low,.int .i64 x.Beta.High,.int .i64 x.Alpha.Low,.int .i64 x.Alpha.High]
structure RangeRow where
  Energy:Int
  Range:Span
deriving Inhabited
abbrev za6 (x:RangeRow):List PV:=[.int .i64 x.Energy,.int .i64 x.Range.Low,.int .i64 x.Range.High]
def zJz : List PV → RangeRow
  | [.int .i64 x_Energy,.int .i64 x_Range_Low,.int .i64 x_Range_High]=>(⟨x_Energy,(⟨x_Range_Low,x_Range_High⟩:Span)⟩:RangeRow)
  | _=>default
def zbW (g:Nat->List PV):Nat->RangeRow:=λ i=>zJz (g i)
theorem zbn (f:Nat->RangeRow):zbW (λ i=>za6 (f i))=f:=rfl
structure web where
  Net:Net
  out:Mp
deriving Inhabited
abbrev zb5 (x:web):List PV:=[.int .i64 x.Net.Nodes,.sl x.Net.Ties.len 4 (λ i=>zbr (x.Net.Ties.get i)),.fm (false,1,false,[none]) x.out.n x.out.F]
structure far where
  length:Int
  uses:Int
deriving Inhabited
abbrev zeH (x:far):List PV:=[.int .i64 x.length,.int .i64 x.uses]
def zOG : List PV → far
  | [.int .i64 x_length,.int .i64 x_uses]=>(⟨x_length,x_uses⟩:far)
  | _=>default
def zpC (g:Nat->List PV):Nat->far:=λ i=>zOG (g i)
theorem zm3 (f:Nat->far):zpC (λ i=>zeH (f i))=f:=rfl
abbrev zcM (x:Tab):List PV:=zqZ 0 80 x
structure placed where
  Plane:Plane
  index:Int
deriving Inhabited
abbrev zbh (x:placed):List PV:=[.int .i64 x.Plane.Kind,.int .i64 x.Plane.View,.int .i64 x.Plane.Z,.int .i64 x.Plane.First,.int .i64 x.Plane.Pitch,.int .i64 x.Plane.Strips,.int .i64 x.Plane.Spill,.int .i64 x.Plane.Offset.Low,.int .i64 x.Plane.Offset.High,.int .i64 x.Plane.Clock.Low,.int .i64 x.Plane.Clock.High,.int .i64 x.Plane.Jitter,.int .i64 x.Plane.Least,.sl x.Plane.Drift.len 3 (λ i=>zbi (x.Plane.Drift.get i)),.sl x.Plane.Dead.len 1 (λ i=>enc_3 (x.Plane.Dead.get i)),.int .i64 x.index]
structure list where
  Gates:(Sl Gate)
deriving Inhabited
structure straight where
  slope:Int
  start:Int
  den:Int
deriving Inhabited
structure set where
  list:list
  corners:(Sl straight)
deriving Inhabited
structure ground where
  Sky:Sky
  table:(Sl RangeRow)
  known:(Int->List Int)
deriving Inhabited
abbrev zg6 (x:ground):List PV:=[.int .i64 x.Sky.Parts,.sl x.Sky.Bins.len 1 (λ i=>zcG (x.Sky.Bins.get i)),.int .i64 x.Sky.Beta.Low,.int .i64 x.Sky.Beta.High,.int .i64 x.Sky.Alpha.Low,.int .i64 x.Sky.Alpha.High,.sl x.table.len 3 (λ i=>za6 (x.table.get i)),.mp x.known]
structure Use where
  Tie:Int
  Back:Bool
deriving Inhabited
structure step where
  Use:Use
  from_:Int
  to:Int
  length:Int
deriving Inhabited
abbrev zd1 (x:step):List PV:=[.int .i64 x.Use.Tie,.bool x.Use.Back,.int .i64 x.from_,.int .i64 x.to,.int .i64 x.length]
abbrev zAS (x:Tab):List PV:=zqZ 0 40 x
structure tie where
  Tie:Tie
  index:Int
deriving Inhabited
abbrev zAT (x:tie):List PV:=[.int .i64 x.Tie.From,.int .i64 x.Tie.To,.int .i64 x.Tie.Low,.int .i64 x.Tie.High,.int .i64 x.index]
abbrev tL (T:Tab) (i:Int):Int:=tg 80 T (0+i.toNat * 2+0)
abbrev tU (T:Tab) (i:Int):Int:=tg 80 T (0+i.toNat * 2+0+1)
abbrev tV (T:Tab) (i:Int):Int:=tg 80 T (0+i.toNat * 2+1)
abbrev nvr (x y:Int):Bool:=match (x == (1000000000000:Int)) with | true=>(match (y == (0:Int)) with | true=>true | false=>false) | false=>false
end Go.Proofs
namespace Go.Pm
open Go Go.Deep

theorem zFP (b o i j:Nat):((⟨b,o,none⟩:Addr).add i).add j=⟨b,o+i+j,none⟩:=by
 simp only[Addr.add]
 by_cases h1:i=0
 ·subst h1
  by_cases h2:j=0
  ·subst h2;rfl
  ·rw[if_neg h2];rfl
 ·rw [if_neg h1]
  by_cases h2:j=0
  ·subst h2;rfl
  ·rw[if_neg h2]
def H0 (w:World):Fz:=λ b=>(w.heap[b]?).map .fz
theorem hw_H0 (w:World):Hw (H0 w) w:=by
 intro b x h
 unfold H0 at h
 cases e:w.heap[b]? with
 | none=>rw[e] at h;cases h
 | some o=>rw[e] at h;cases h;exact⟨o,rfl,rfl⟩
def wfI (x:Int):Prop:=-9223372036854775808<=x/\x<=9223372036854775807
section
variable {H:Type}{en:TypeId×Value->H}{P:Program}{w:World}{sp:Nat->Bool}{held:Bool}
def Rd (H:Type) (en:TypeId×Value->H) (P:Program) (w:World) (sp:Nat->Bool) (held:Bool) (t:TypeId){α:Type}(enc:α->List PV) (wf:α->Prop):Prop :=
 ∀ (fuel:Nat) (cs:List Value) (x:DataW H×List MemPlace),DataW.trod en P w 0 sp held fuel t cs=some x->∃ a:α,RL (Rep (H0 w)) (enc a) cs/\wf a
theorem zAU {t:TypeId}(ht:P.underlying t=some (.int .i64)):Rd H en P w sp held t (λ x=>[.int .i64 x]) wfI:=by
 intro fuel cs x h
 obtain⟨n,rfl,_,hw⟩:=DataW.trod_int ht h
 refine⟨n,⟨.int _ _,trivial⟩,?_⟩
 simp only[Lit.wf,dqm,decide_eq_true_eq] at hw
 exact⟨hw.1,hw.2⟩
theorem zg7 {t : TypeId} {fs : Array Field} (ht : P.underlying t = some (.struct fs)) {fuel : Nat} {cs : List Value} {x : DataW H × List MemPlace} (h : DataW.trod en P w 0 sp held fuel t cs = some x) :
  cs.length=P.cellsOf t/\∀ (i:Nat) (f:Field),fs[i]? = some f->∃ n y,DataW.trod en P w 0 sp held n f.type ((cs.drop f.offset).take (P.cellsOf f.type))=some y:=by
 obtain⟨xs,n,_,_,hl,hx,hf⟩:=DataW.trod_struct ht h
 refine⟨hl,λ i f hi=>?_⟩
 have hlt:i < xs.length:=by rw[hx];exact (dqp.1 hi).1
 exact⟨n,xs[i],by rw[hf i f hi,dqD hlt]⟩
theorem zlZ {t e : TypeId} {α : Type} [Inhabited α] {enc : α → List PV} {wf : α → Prop} {s : Nat} (ht : P.underlying t = some (.slice e)) (hc : P.cellsOf e = s) (hs : 0 < s) (hlen : ∀ a, (enc a).length = s)
    (hel:Rd H en P w sp held e enc wf):Rd H en P w sp held t (λ x:Sl α=>[.sl x.len s (λ i=>enc (x.get i))]) (λ x=>x.len<=9223372036854775807/\∀ i,i < x.len->wf (x.get i)):=by
  intro fuel cs x h
  rcases open_slice ht h with ⟨rfl,_⟩ | ⟨a,len,cap,m,n,D,Pl,rfl,_,hl,hm,hmm,_,hget⟩
  · exact⟨⟨0,default⟩,⟨.sl0 _ _,trivial⟩,Nat.zero_le _,λ i hi=>absurd hi (dqW i)⟩
  · by_cases h0 : len = 0
    · subst h0
      exact⟨⟨0,default⟩,⟨.sle _ _ _ _,trivial⟩,Nat.zero_le _,λ i hi=>absurd hi (dqW i)⟩
    · have hlm : len ≤ m := by rw [hmm]; split <;> omega
      rw[hc] at hget
      have hex:∀ i,i < len->∃ y:α,(∃ cs',w.cells? 0 (a.add (i * s)) s=some cs'/\RL (Rep (H0 w)) (enc y) cs')/\wf y:=by
        intro i hi
        obtain⟨cs',h1,h2⟩:=hget i (by omega)
        obtain⟨y,h3,h4⟩:=hel _ _ _ h2
        exact⟨y,⟨cs',h1,h3⟩,h4⟩
      have hch:∃ f:Nat->α,∀ i,i < len->(∃ cs',w.cells? 0 (a.add (i * s)) s=some cs'/\RL (Rep (H0 w)) (enc (f i)) cs')/\wf (f i):=by
        refine⟨λ i=>if hi:i < len then Classical.choose (hex i hi) else default,λ i hi=>?_⟩
        simp only[dif_pos hi]
        exact Classical.choose_spec (hex i hi)
      obtain⟨f,hf⟩:=hch
      -- the block
      have hcell:∀ i,i < len->∀ j,j < s->∃ cs',w.cells? 0 (a.add (i * s)) s=some cs'/\RL (Rep (H0 w)) (enc (f i)) cs'/\w.cell? ((a.add (i * s)).add j)=cs'[j]?/\cs'.length=s:=by
        intro i hi j hj
        obtain⟨⟨cs',h1,h2⟩,_⟩:=hf i hi
        obtain⟨_,h3,h4⟩:=World.cells?_some h1
        exact⟨cs',h1,h2,h4 j hj,h3⟩
      obtain⟨cs0,_,_,hc0,hl0⟩:=hcell 0 (by omega) 0 hs
      have ha0:w.cell? a=cs0[0]?:=by simpa [Addr.add] using hc0
      rw[dqD (by omega)] at ha0
      obtain⟨C,ty,fr,hblk,hspot⟩:∃ C ty fr,w.heap[a.block]? = some (.cells C ty fr)/\a.spot=none:=by
        unfold World.cell? at ha0
        split at ha0
        · rename_i C ty fr hb
          refine⟨C,ty,fr,hb,?_⟩
          cases hsp:a.spot with
          | none=>rfl
          | some k=>rw[hsp] at ha0;simp at ha0
        · cases ha0
      have ea:a=⟨a.block,a.off,none⟩:=by rw[<- hspot]
      have hat:∀ i j,i < len->j < s->∃ cs',RL (Rep (H0 w)) (enc (f i)) cs'/\C[a.off+i * s+j]? = cs'[j]?/\cs'.length=s:=by
        intro i j hi hj
        obtain⟨cs',_,h2,h3,h4⟩:=hcell i hi j hj
        refine⟨cs',h2,?_,h4⟩
        rw[<- h3]
        have e2:(a.add (i * s)).add j=⟨a.block,a.off+i * s+j,none⟩:=(congrArg (λ z:Addr=>(z.add (i * s)).add j) ea).trans (zFP _ _ _ _)
        rw[e2]
        simp[World.cell?,hblk]
      refine⟨⟨len,f⟩,⟨?_,trivial⟩,by simp only[maxLen] at hm;show len<=_;omega,λ i hi=>(hf i hi).2⟩
      rw[ea]
      refine .sl len s _ a.block a.off cap C ty fr (λ i j=>C.getD (a.off+i * s+j) undef) (by simp[H0,hblk]) hl (λ i _=>hlen _) ?_ ?_
      · intro i j x hi hx
        have hj:j < s:=by have:=(dqn.1 hx).1;rw[hlen] at this;exact this
        obtain⟨cs',h1,h2,h3⟩:=hat i j hi hj
        rw[dql,h2,dqD (by omega)]
        rfl
      · intro i j x hi hx
        have hj:j < s:=by have:=(dqn.1 hx).1;rw[hlen] at this;exact this
        obtain⟨cs',h1,h2,h3⟩:=hat i j hi hj
        obtain⟨v,hv,hr⟩:=h1.get j x hx
        rw[dql,h2,hv]
        exact hr
theorem zbA {α:Type}(l:List α) (o s:Nat):l.drop o=(l.drop o).take s ++ l.drop (o+s):=by
 rw[<- List.drop_drop]
 exact (List.take_append_drop s (l.drop o)).symm
theorem okWide_agg {t:TypeId}{fs:Array Field}{r:Reach}{base:Nat}{v:Value}(ht:P.underlying t=some (.struct fs)) (h:Value.okWide P w r base t v):∃ cs,v=.agg cs:=by
 unfold Value.okWide at h
 rw[ht] at h
 obtain⟨cs,hv,_⟩:=h
 exact⟨cs,hv⟩
def zSm : TypeDesc → Bool
  | .struct _=>false
  | .array _ _=>false
  | _=>true
theorem okWide_one {t:TypeId}{d:TypeDesc}{r:Reach}{base:Nat}{v:Value}(ht:P.underlying t=some d) (hd:zSm d=true) (h:Value.okWide P w r base t v):v.cells.toList=[v]:=by
 unfold Value.okWide at h
 rw[ht] at h
 cases v with
 | agg cs =>
  exfalso
  cases d <;> first | (cases hd;done) | (simp only[Cell.okWide,Cell.ok,ht] at h)
 | _=>rfl
theorem pa_one {h:Fz}{p:PV}{v:Value}(hv:v.cells.toList=[v]) (r:RL (Rep h) [p] v.cells.toList):paR h (.one p) v:=by
 rw[hv] at r
 exact r.1
theorem pa_agg {h:Fz}{l:List PV}{v:Value}(hv:∃ cs,v=.agg cs) (r:RL (Rep h) l v.cells.toList):paR h (.agg l) v:=by
 obtain⟨cs,rfl⟩:=hv
 exact⟨cs.toList,by simp,r⟩
theorem below_H0 {w':World}(b:Bel (H0 w) w.heap.size w w'):Go.RowKit.Below w.heap.size w w' :=
 ⟨b.os,b.tape,b.output,b.size,λ k hk=>b.block k hk λ F e=>by
  unfold H0 at e
  cases hb:w.heap[k]? <;> rw[hb] at e <;> cases e⟩
end
end Go.Pm
namespace Go.Proofs
open Go Go.Pm
set_option maxRecDepth 100000
set_option linter.unusedVariables false
attribute [local irreducible] Go.Pm.vcFun Go.Pm.vc Go.Pm.vcIter
theorem C_3:Tryd.prog.cellsOf 3=1:=by kernel_rfl
theorem zVp:Tryd.prog.cellsOf 22=1:=by kernel_rfl
theorem zVq:Tryd.prog.cellsOf 24=1:=by kernel_rfl
theorem zVr:Tryd.prog.cellsOf 25=1:=by kernel_rfl
theorem zVs:Tryd.prog.cellsOf 29=1:=by kernel_rfl
theorem zVt:Tryd.prog.cellsOf 30=1:=by kernel_rfl
theorem zRM:Tryd.prog.cellsOf 32=2:=by kernel_rfl
theorem zVu:Tryd.prog.cellsOf 33=1:=by kernel_rfl
theorem zUG:Tryd.prog.cellsOf 35=15:=by kernel_rfl
theorem zUH:Tryd.prog.cellsOf 39=6:=by kernel_rfl
theorem zOH:Tryd.prog.cellsOf 104=3:=by kernel_rfl
abbrev wf_3 (x:Int):Prop:=wfI x
theorem rd_3 {H:Type}{en:TypeId×Value->H}{w:World}{sp:Nat->Bool}{held:Bool} : Rd H en Tryd.prog w sp held 3 enc_3 wf_3:=zAU Tryd.underlying3
abbrev zOI (x:Int):Prop:=wfI x
theorem zSn {H:Type}{en:TypeId×Value->H}{w:World}{sp:Nat->Bool}{held:Bool} : Rd H en Tryd.prog w sp held 29 zOv zOI:=zAU Tryd.underlying29
abbrev zOJ (x:Int):Prop:=wfI x
theorem zSo {H:Type}{en:TypeId×Value->H}{w:World}{sp:Nat->Bool}{held:Bool} : Rd H en Tryd.prog w sp held 30 zOw zOJ:=zAU Tryd.underlying30
def zFQ (x:Span):Prop:=wf_3 x.Low/\wf_3 x.High
theorem zJA {H:Type}{en:TypeId×Value->H}{w:World}{sp:Nat->Bool}{held:Bool} : Rd H en Tryd.prog w sp held 32 za2 zFQ:=by
  intro fuel cs x h
  obtain⟨hl,hf⟩:=zg7 Tryd.underlying32 h
  rw[zRM] at hl
  obtain⟨n0,y0,g0⟩:=hf 0 _ rfl
  have g0:DataW.trod en Tryd.prog w 0 sp held n0 3 ((cs.drop 0).take (Tryd.prog.cellsOf 3))=some y0:=g0
  rw[C_3] at g0
  obtain⟨a0,r0,w0⟩:=rd_3 _ _ _ g0
  obtain⟨n1,y1,g1⟩:=hf 1 _ rfl
  have g1:DataW.trod en Tryd.prog w 0 sp held n1 3 ((cs.drop 1).take (Tryd.prog.cellsOf 3))=some y1:=g1
  rw[C_3] at g1
  obtain⟨a1,r1,w1⟩:=rd_3 _ _ _ g1
  have z:cs.drop 2=[]:=dqO (by omega)
  have R:=(r0.append (r1.append (show RL (Rep (H0 w)) [] (cs.drop 2) by rw[z];exact zka)))
  rw[<- (show cs.drop 1=(cs.drop 1).take 1 ++ cs.drop 2 from zbA cs 1 1)] at R
  rw[<- (show cs.drop 0=(cs.drop 0).take 1 ++ cs.drop 1 from zbA cs 0 1)] at R
  exact⟨⟨a0,a1⟩,R,⟨w0,w1⟩⟩
def zHz (x:Drift):Prop:=wf_3 x.Time/\zFQ x.Radius
theorem zOK {H:Type}{en:TypeId×Value->H}{w:World}{sp:Nat->Bool}{held:Bool} : Rd H en Tryd.prog w sp held 104 zbi zHz:=by
  intro fuel cs x h
  obtain⟨hl,hf⟩:=zg7 Tryd.underlying104 h
  rw[zOH] at hl
  obtain⟨n0,y0,g0⟩:=hf 0 _ rfl
  have g0:DataW.trod en Tryd.prog w 0 sp held n0 3 ((cs.drop 0).take (Tryd.prog.cellsOf 3))=some y0:=g0
  rw[C_3] at g0
  obtain⟨a0,r0,w0⟩:=rd_3 _ _ _ g0
  obtain⟨n1,y1,g1⟩:=hf 1 _ rfl
  have g1:DataW.trod en Tryd.prog w 0 sp held n1 32 ((cs.drop 1).take (Tryd.prog.cellsOf 32))=some y1:=g1
  rw[zRM] at g1
  obtain⟨a1,r1,w1⟩:=zJA _ _ _ g1
  have z:cs.drop 3=[]:=dqO (by omega)
  have R:=(r0.append (r1.append (show RL (Rep (H0 w)) [] (cs.drop 3) by rw[z];exact zka)))
  rw[<- (show cs.drop 1=(cs.drop 1).take 2 ++ cs.drop 3 from zbA cs 1 2)] at R
  rw[<- (show cs.drop 0=(cs.drop 0).take 1 ++ cs.drop 1 from zbA cs 0 1)] at R
  exact⟨⟨a0,a1⟩,R,⟨w0,w1⟩⟩
def zOL (x:(Sl Drift)):Prop:=x.len<=9223372036854775807/\∀ i,i < x.len->zHz (x.get i)
theorem zSp {H:Type}{en:TypeId×Value->H}{w:World}{sp:Nat->Bool}{held:Bool} : Rd H en Tryd.prog w sp held 33 zOy zOL:=zlZ Tryd.underlying33 zOH (by decide) (λ _=>rfl) zOK
def wf_25 (x:(Sl Int)):Prop:=x.len<=9223372036854775807/\∀ i,i < x.len->wf_3 (x.get i)
theorem rd_25 {H:Type}{en:TypeId×Value->H}{w:World}{sp:Nat->Bool}{held:Bool} : Rd H en Tryd.prog w sp held 25 zOz wf_25:=zlZ Tryd.underlying25 C_3 (by decide) (λ _=>rfl) rd_3
def zOM (x:Plane):Prop:=zOI x.Kind/\zOJ x.View/\wf_3 x.Z/\wf_3 x.First/\wf_3 x.Pitch/\wf_3 x.Strips/\wf_3 x.Spill/\zFQ x.Offset/\zFQ x.Clock/\wf_3 x.Jitter/\wf_3 x.Least/\zOL x.Drift/\wf_25 x.Dead
theorem zSq {H:Type}{en:TypeId×Value->H}{w:World}{sp:Nat->Bool}{held:Bool} : Rd H en Tryd.prog w sp held 35 enc_35 zOM:=by
  intro fuel cs x h
  obtain⟨hl,hf⟩:=zg7 Tryd.underlying35 h
  rw[zUG] at hl
  obtain⟨n0,y0,g0⟩:=hf 0 _ rfl
  have g0:DataW.trod en Tryd.prog w 0 sp held n0 29 ((cs.drop 0).take (Tryd.prog.cellsOf 29))=some y0:=g0
  rw[zVs] at g0
  obtain⟨a0,r0,w0⟩:=zSn _ _ _ g0
  obtain⟨n1,y1,g1⟩:=hf 1 _ rfl
  have g1:DataW.trod en Tryd.prog w 0 sp held n1 30 ((cs.drop 1).take (Tryd.prog.cellsOf 30))=some y1:=g1
  rw[zVt] at g1
  obtain⟨a1,r1,w1⟩:=zSo _ _ _ g1
  obtain⟨n2,y2,g2⟩:=hf 2 _ rfl
  have g2:DataW.trod en Tryd.prog w 0 sp held n2 3 ((cs.drop 2).take (Tryd.prog.cellsOf 3))=some y2:=g2
  rw[C_3] at g2
  obtain⟨a2,r2,w2⟩:=rd_3 _ _ _ g2
  obtain⟨n3,y3,g3⟩:=hf 3 _ rfl
  have g3:DataW.trod en Tryd.prog w 0 sp held n3 3 ((cs.drop 3).take (Tryd.prog.cellsOf 3))=some y3:=g3
  rw[C_3] at g3
  obtain⟨a3,r3,w3⟩:=rd_3 _ _ _ g3
  obtain⟨n4,y4,g4⟩:=hf 4 _ rfl
  have g4:DataW.trod en Tryd.prog w 0 sp held n4 3 ((cs.drop 4).take (Tryd.prog.cellsOf 3))=some y4:=g4
  rw[C_3] at g4
  obtain⟨a4,r4,w4⟩:=rd_3 _ _ _ g4
  obtain⟨n5,y5,g5⟩:=hf 5 _ rfl
  have g5:DataW.trod en Tryd.prog w 0 sp held n5 3 ((cs.drop 5).take (Tryd.prog.cellsOf 3))=some y5:=g5
  rw[C_3] at g5
  obtain⟨a5,r5,w5⟩:=rd_3 _ _ _ g5
  obtain⟨n6,y6,g6⟩:=hf 6 _ rfl
  have g6:DataW.trod en Tryd.prog w 0 sp held n6 3 ((cs.drop 6).take (Tryd.prog.cellsOf 3))=some y6:=g6
  rw[C_3] at g6
  obtain⟨a6,r6,w6⟩:=rd_3 _ _ _ g6
  obtain⟨n7,y7,g7⟩:=hf 7 _ rfl
  have g7:DataW.trod en Tryd.prog w 0 sp held n7 32 ((cs.drop 7).take (Tryd.prog.cellsOf 32))=some y7:=g7
  rw[zRM] at g7
  obtain⟨a7,r7,w7⟩:=zJA _ _ _ g7
  obtain⟨n8,y8,g8⟩:=hf 8 _ rfl
  have g8:DataW.trod en Tryd.prog w 0 sp held n8 32 ((cs.drop 9).take (Tryd.prog.cellsOf 32))=some y8:=g8
  rw[zRM] at g8
  obtain⟨a8,r8,w8⟩:=zJA _ _ _ g8
  obtain⟨n9,y9,g9⟩:=hf 9 _ rfl
  have g9:DataW.trod en Tryd.prog w 0 sp held n9 3 ((cs.drop 11).take (Tryd.prog.cellsOf 3))=some y9:=g9
  rw[C_3] at g9
  obtain⟨a9,r9,w9⟩:=rd_3 _ _ _ g9
  obtain⟨n10,y10,g10⟩:=hf 10 _ rfl
  have g10:DataW.trod en Tryd.prog w 0 sp held n10 3 ((cs.drop 12).take (Tryd.prog.cellsOf 3))=some y10:=g10
  rw[C_3] at g10
  obtain⟨a10,r10,w10⟩:=rd_3 _ _ _ g10
  obtain⟨n11,y11,g11⟩:=hf 11 _ rfl
  have g11:DataW.trod en Tryd.prog w 0 sp held n11 33 ((cs.drop 13).take (Tryd.prog.cellsOf 33))=some y11:=g11
  rw[zVu] at g11
  obtain⟨a11,r11,w11⟩:=zSp _ _ _ g11
  obtain⟨n12,y12,g12⟩:=hf 12 _ rfl
  have g12:DataW.trod en Tryd.prog w 0 sp held n12 25 ((cs.drop 14).take (Tryd.prog.cellsOf 25))=some y12:=g12
  rw[zVr] at g12
  obtain⟨a12,r12,w12⟩:=rd_25 _ _ _ g12
  have z:cs.drop 15=[]:=dqO (by omega)
  have R:=(r0.append (r1.append (r2.append (r3.append (r4.append (r5.append (r6.append (r7.append (r8.append (r9.append (r10.append (r11.append (r12.append (show RL (Rep (H0 w)) [] (cs.drop 15) by rw[z];exact zka))))))))))))))
  rw[<- (show cs.drop 14=(cs.drop 14).take 1 ++ cs.drop 15 from zbA cs 14 1)] at R
  rw[<- (show cs.drop 13=(cs.drop 13).take 1 ++ cs.drop 14 from zbA cs 13 1)] at R
  rw[<- (show cs.drop 12=(cs.drop 12).take 1 ++ cs.drop 13 from zbA cs 12 1)] at R
  rw[<- (show cs.drop 11=(cs.drop 11).take 1 ++ cs.drop 12 from zbA cs 11 1)] at R
  rw[<- (show cs.drop 9=(cs.drop 9).take 2 ++ cs.drop 11 from zbA cs 9 2)] at R
  rw[<- (show cs.drop 7=(cs.drop 7).take 2 ++ cs.drop 9 from zbA cs 7 2)] at R
  rw[<- (show cs.drop 6=(cs.drop 6).take 1 ++ cs.drop 7 from zbA cs 6 1)] at R
  rw[<- (show cs.drop 5=(cs.drop 5).take 1 ++ cs.drop 6 from zbA cs 5 1)] at R
  rw[<- (show cs.drop 4=(cs.drop 4).take 1 ++ cs.drop 5 from zbA cs 4 1)] at R
  rw[<- (show cs.drop 3=(cs.drop 3).take 1 ++ cs.drop 4 from zbA cs 3 1)] at R
  rw[<- (show cs.drop 2=(cs.drop 2).take 1 ++ cs.drop 3 from zbA cs 2 1)] at R
  rw[<- (show cs.drop 1=(cs.drop 1).take 1 ++ cs.drop 2 from zbA cs 1 1)] at R
  rw[<- (show cs.drop 0=(cs.drop 0).take 1 ++ cs.drop 1 from zbA cs 0 1)] at R
  exact⟨⟨a0,a1,a2,a3,a4,a5,a6,a7,a8,a9,a10,a11,a12⟩,R,⟨w0,w1,w2,w3,w4,w5,w6,w7,w8,w9,w10,w11,w12⟩⟩
def zON (x:(Sl Plane)):Prop:=x.len<=9223372036854775807/\∀ i,i < x.len->zOM (x.get i)
theorem zSr {H:Type}{en:TypeId×Value->H}{w:World}{sp:Nat->Bool}{held:Bool} : Rd H en Tryd.prog w sp held 22 zOB zON:=zlZ Tryd.underlying22 zUG (by decide) (λ _=>rfl) zSq
def wf_24 (x:Setup):Prop:=zON x.Planes
theorem rd_24 {H:Type}{en:TypeId×Value->H}{w:World}{sp:Nat->Bool}{held:Bool} : Rd H en Tryd.prog w sp held 24 enc_24 wf_24:=by
  intro fuel cs x h
  obtain⟨hl,hf⟩:=zg7 Tryd.underlying24 h
  rw[zVq] at hl
  obtain⟨n0,y0,g0⟩:=hf 0 _ rfl
  have g0:DataW.trod en Tryd.prog w 0 sp held n0 22 ((cs.drop 0).take (Tryd.prog.cellsOf 22))=some y0:=g0
  rw[zVp] at g0
  obtain⟨a0,r0,w0⟩:=zSr _ _ _ g0
  have z:cs.drop 1=[]:=dqO (by omega)
  have R:=(r0.append (show RL (Rep (H0 w)) [] (cs.drop 1) by rw[z];exact zka))
  rw[<- (show cs.drop 0=(cs.drop 0).take 1 ++ cs.drop 1 from zbA cs 0 1)] at R
  exact⟨⟨a0⟩,R,w0⟩
def zOO (x:Flown):Prop:=wf_3 x.A/\wf_3 x.B/\wf_3 x.Time/\wf_3 x.Flight/\wf_3 x.WrongA/\wf_3 x.WrongB
theorem zSs {H:Type}{en:TypeId×Value->H}{w:World}{sp:Nat->Bool}{held:Bool} : Rd H en Tryd.prog w sp held 39 enc_39 zOO:=by
  intro fuel cs x h
  obtain⟨hl,hf⟩:=zg7 Tryd.underlying39 h
  rw[zUH] at hl
  obtain⟨n0,y0,g0⟩:=hf 0 _ rfl
  have g0:DataW.trod en Tryd.prog w 0 sp held n0 3 ((cs.drop 0).take (Tryd.prog.cellsOf 3))=some y0:=g0
  rw[C_3] at g0
  obtain⟨a0,r0,w0⟩:=rd_3 _ _ _ g0
  obtain⟨n1,y1,g1⟩:=hf 1 _ rfl
  have g1:DataW.trod en Tryd.prog w 0 sp held n1 3 ((cs.drop 1).take (Tryd.prog.cellsOf 3))=some y1:=g1
  rw[C_3] at g1
  obtain⟨a1,r1,w1⟩:=rd_3 _ _ _ g1
  obtain⟨n2,y2,g2⟩:=hf 2 _ rfl
  have g2:DataW.trod en Tryd.prog w 0 sp held n2 3 ((cs.drop 2).take (Tryd.prog.cellsOf 3))=some y2:=g2
  rw[C_3] at g2
  obtain⟨a2,r2,w2⟩:=rd_3 _ _ _ g2
  obtain⟨n3,y3,g3⟩:=hf 3 _ rfl
  have g3:DataW.trod en Tryd.prog w 0 sp held n3 3 ((cs.drop 3).take (Tryd.prog.cellsOf 3))=some y3:=g3
  rw[C_3] at g3
  obtain⟨a3,r3,w3⟩:=rd_3 _ _ _ g3
  obtain⟨n4,y4,g4⟩:=hf 4 _ rfl
  have g4:DataW.trod en Tryd.prog w 0 sp held n4 3 ((cs.drop 4).take (Tryd.prog.cellsOf 3))=some y4:=g4
  rw[C_3] at g4
  obtain⟨a4,r4,w4⟩:=rd_3 _ _ _ g4
  obtain⟨n5,y5,g5⟩:=hf 5 _ rfl
  have g5:DataW.trod en Tryd.prog w 0 sp held n5 3 ((cs.drop 5).take (Tryd.prog.cellsOf 3))=some y5:=g5
  rw[C_3] at g5
  obtain⟨a5,r5,w5⟩:=rd_3 _ _ _ g5
  have z:cs.drop 6=[]:=dqO (by omega)
  have R:=(r0.append (r1.append (r2.append (r3.append (r4.append (r5.append (show RL (Rep (H0 w)) [] (cs.drop 6) by rw[z];exact zka)))))))
  rw[<- (show cs.drop 5=(cs.drop 5).take 1 ++ cs.drop 6 from zbA cs 5 1)] at R
  rw[<- (show cs.drop 4=(cs.drop 4).take 1 ++ cs.drop 5 from zbA cs 4 1)] at R
  rw[<- (show cs.drop 3=(cs.drop 3).take 1 ++ cs.drop 4 from zbA cs 3 1)] at R
  rw[<- (show cs.drop 2=(cs.drop 2).take 1 ++ cs.drop 3 from zbA cs 2 1)] at R
  rw[<- (show cs.drop 1=(cs.drop 1).take 1 ++ cs.drop 2 from zbA cs 1 1)] at R
  rw[<- (show cs.drop 0=(cs.drop 0).take 1 ++ cs.drop 1 from zbA cs 0 1)] at R
  exact⟨⟨a0,a1,a2,a3,a4,a5⟩,R,⟨w0,w1,w2,w3,w4,w5⟩⟩
def wf_26 (x:(Sl Flown)):Prop:=x.len<=9223372036854775807/\∀ i,i < x.len->zOO (x.get i)
theorem rd_26 {H:Type}{en:TypeId×Value->H}{w:World}{sp:Nat->Bool}{held:Bool} : Rd H en Tryd.prog w sp held 26 zOD wf_26:=zlZ Tryd.underlying26 zUH (by decide) (λ _=>rfl) zSs
end Go.Proofs
namespace Go.Proofs
open Go Go.Pm
set_option maxRecDepth 100000
set_option linter.unusedVariables false
attribute [local irreducible] Go.Pm.vcFun Go.Pm.vc Go.Pm.vcIter
abbrev T31:Tabs:=Tabs.nil
theorem zSt:TabsOk Tryd.prog T31:=TabsOk.nil
abbrev G31:Ctrs:=csm T31 (λ _ _=>[]) (λ _=>false)
def zOP:Ann:=⟨15,[(0,zK [0,1,2] []),(1,zK [6] [])],
 [],
 [],
 [],[]⟩
abbrev R31:=Bool
abbrev e31 (r:R31):List PA:=[.one (.bool r)]
section
variable {K:List PA->Prop}{n:Int}{low:Int}{high:Int}
def s31 (n:Int) (low:Int) (high:Int):Bool :=
  (cond (decide (n >= low))
 (decide (n<=high))
 false)
end
theorem q31 (n:Int) (low:Int) (high:Int) (K:List PA->Prop) (hk:K (e31 (s31 n low high))):vcFun Tryd.prog G31 zOP 31 [.one (.int .i64 n),.one (.int .i64 low),.one (.int .i64 high)] K :=
  zaK (by kernel_rfl) (zt hk (λ hk=>hk) (λ hk=>hk))
def zup : List PA → COut
  | [.one (.int .i64 a0),.one (.int .i64 a1),.one (.int .i64 a2)]=>.tot [.one (.bool (s31 a0 a1 a2))]
  | _=>.no
theorem zOQ:zaj Tryd.prog 31:=⟨_,rfl,rfl,by kernel_rfl⟩
theorem zOR:Ok Tryd.prog 31 zup:=zbm zSt zOQ λ args K h=>by
  unfold zup at h
  split at h
  · rename_i a0 a1 a2
    have hk:=h
    exact⟨(λ _ _=>[]),(λ _=>false),zOP,q31 a0 a1 a2 K hk⟩
  · exact h.elim
abbrev T59:Tabs:=(Tabs.nil.addF 31 zup)
theorem zSu:TabsOk Tryd.prog T59:=(TabsOk.nil.addF zOR)
abbrev G59:Ctrs:=csm T59 (λ _ _=>[]) (λ _=>false)
def zJB:Ann:=⟨55,[(0,zK [1,2] [2]),(1,zK [1,2,5] [2]),(2,zK [1,2,5,6] [2]),(3,zK [4] [])],
 [],
 [(2,zK [1,2,5] [2]),(3,zK [1,2,5,6] [2])],
 [],[]⟩
abbrev R59:=Bool
abbrev e59 (r:R59):List PA:=[.one (.bool r)]
@[irreducible] def z59:=ptF Tryd.prog G59 zJB Tryd.f59
section
variable {K:List PA->Prop}{t:Tie}{nodes:Int}{zpD:Bool}{zxl:Bool}
def zpE (t:Tie) (nodes:Int) (zpD:Bool) (zxl:Bool):Bool :=
  (cond (s31 t.From (0:Int) (w64 (nodes - (1:Int))))
 (cond (s31 t.To (0:Int) (w64 (nodes - (1:Int))))
 (cond (t.From != t.To)
 (cond zpD
 (cond zxl
 (decide (t.Low<=t.High))
 false)
 false)
 false)
 false)
 false)
theorem zAV (hk:K (e59 (zpE t nodes zpD zxl))):z59 K [1,1,1] [] ⟨[(1,zI nodes),(2,zp 2 0),(5,zB zpD),(6,zB zxl)],[(2,.box 54 (zm (zbr t)))],[]⟩:=zaK (by kernel_rfl) (zt hk (λ hk=>(zt hk (λ hk=>(zt hk (λ hk=>(zt hk (λ hk=>(zt hk (λ hk=>hk) (λ hk=>hk))) (λ hk=>hk))) (λ hk=>hk))) (λ hk=>hk))) (λ hk=>hk))
def zpF (t:Tie) (nodes:Int) (zpD:Bool):Bool :=
  (cond (t.High == (1000000000000:Int))
 (zpE t nodes zpD true)
 (zpE t nodes zpD (s31 t.High (-1000000000:Int) (1000000000:Int))))
theorem zAW (hk:K (e59 (zpF t nodes zpD))):z59 K [1,1] [] ⟨[(1,zI nodes),(2,zp 2 0),(5,zB zpD)],[(2,.box 54 (zm (zbr t)))],[]⟩:=zaK (by kernel_rfl) (zt hk (λ hk=>(zAV hk)) (λ hk=>(zAV hk)))
def s59 (t:Tie) (nodes:Int):Bool :=
  (cond (t.Low == (-1000000000000:Int))
 (zpF t nodes true)
 (zpF t nodes (s31 t.Low (-1000000000:Int) (1000000000:Int))))
end
theorem q59 (t:Tie) (nodes:Int) (K:List PA->Prop) (hk:K (e59 (s59 t nodes))):vcFun Tryd.prog G59 zJB 59 [.agg (zbr t),.one (.int .i64 nodes)] K :=
  zaK (by kernel_rfl) (zt hk (λ hk=>(zAW hk)) (λ hk=>(zAW hk)))
def zJC : List PA → COut
  | [.agg [.int .i64 zuq,.int .i64 zJD,.int .i64 zd2,.int .i64 zdb],.one (.int .i64 a1)]=>.tot [.one (.bool (s59 (⟨zuq,zJD,zd2,zdb⟩:Tie) a1))]
  | _=>.no
theorem zOS:zaj Tryd.prog 59:=⟨_,rfl,rfl,by kernel_rfl⟩
theorem zVv:Ok Tryd.prog 59 zJC:=zbm zSu zOS λ args K h=>by
  unfold zJC at h
  split at h
  · rename_i zuq zJD zd2 zdb a1
    have hk:=h
    exact⟨(λ _ _=>[]),(λ _=>false),zJB,q59 (⟨zuq,zJD,zd2,zdb⟩:Tie) a1 K hk⟩
  · exact h.elim
abbrev T32:Tabs:=((Tabs.nil.addF 31 zup).addF 59 zJC)
theorem zSv:TabsOk Tryd.prog T32:=((TabsOk.nil.addF zOR).addF zVv)
abbrev G32:Ctrs:=csm T32 (λ _ _=>[]) (λ _=>false)
def zFR:Ann:=⟨27,[(0,zK [1] [1]),(1,zK [1,6,7,8] [1]),(2,zK [1,6,7,8,9] [1]),(3,zK [1,4,6,7,8] [1,4]),(4,zK [1,6,7,8,16] [1]),(5,zK [2] []),(6,zK [1,6,7,8] [1]),(7,zK [2] [])],
 [(2,zK [1,6,7,8] [1])],
 [(5,zK [1,6,7,8,16] [1])],
 [],[]⟩
abbrev R32:=Bool
abbrev e32 (r:R32):List PA:=[.one (.bool r)]
@[irreducible] def z32:=ptF Tryd.prog G32 zFR Tryd.f32
def zHA (n:Net) (zaY:Int):St:=⟨[(1,zp 1 0),(6,zS zbr 4 n.Ties),(7,zI (n.Ties.len:Int)),(8,zI zaY)],[(1,.box 48 (zm (zdk n)))],[]⟩
abbrev zJE (K:List PA->Prop) (n:Net) (X:St->Prop) (P:Int->Bool) (S:Int->Bool):Prop:=∀ ⦃zaY:Int⦄,P zaY=true->K (e32 (S zaY))->X (zHA n zaY)
section
variable {K:List PA->Prop}{n:Net}{zaY:Int}{X0:St->Prop}{P0:Int->Bool}{S0:Int->Bool}{zet:Int}{zdc:Bool}
def zur (S0:Int->Bool) (n:Net) (zet:Int) (zdc:Bool):Bool :=
  (cond zdc
 false
 (S0 (w64 (zet+(1:Int)))))
def zus (P0:Int->Bool) (n:Net) (zet:Int) (zdc:Bool):Bool :=
  (cond zdc
 true
 (P0 (w64 (zet+(1:Int)))))
theorem zJF (hX0:zJE K n X0 P0 S0) (hs:zus P0 n zet zdc=true) (hk:K (e32 (zur S0 n zet zdc))):z32 K [1,0,1,0,0,1,1,0,0,1,1] [X0] ⟨[(1,zp 1 0),(6,zS zbr 4 n.Ties),(7,zI (n.Ties.len:Int)),(8,zI zet),(16,zB zdc)],[(1,.box 48 (zm (zdk n)))],[]⟩:=zaK (by kernel_rfl) (zc hs hk (λ hs hk=>hk) (λ hs hk=>(hX0 hs hk)))
def zkc (n:Net) (S0:Int->Bool) (zaY:Int):Bool :=
  (cond (decide (zaY < (n.Ties.len : Int)))
 (zur S0 n zaY (!(s59 (n.Ties.get zaY.toNat) n.Nodes)))
 (cond (s31 n.Nodes (1:Int) (40:Int))
 (decide ((n.Ties.len:Int)<=(200:Int)))
 false))
def zkd (n:Net) (P0:Int->Bool) (zaY:Int):Bool :=
  (cond (decide (zaY < (n.Ties.len : Int)))
 (decide ((0<=zaY/\zaY < (n.Ties.len:Int))) &&
 (zus P0 n zaY (!(s59 (n.Ties.get zaY.toNat) n.Nodes))))
 true)
def zke (n:Net):Nat->Int->Bool:=lpO (λ _=>default) (zkc n)
def zkf (n:Net):Nat->Int->Bool:=lpO (λ _=>false) (zkd n)
def zAX (n:Net) (zaY:Int):Bool:=zke n Fuel zaY
def zAY (n:Net) (zaY:Int):Bool:=zkf n Fuel zaY
theorem zJG (hs:zAY n zaY=true) (hk:K (e32 (zAX n zaY))):z32 K [1,0,1,0] [] (zHA n zaY) :=
  zl (λ X=>z32 K [1,0,1,0,0] [X]) (by kernel_rfl) λ X0 hX =>
  (show ∀ k, zJE K n X0 (zkf n k) (zke n k) from zgc _ _ (zkd n) (zkc n) (zJE K n X0)
 (by intro _ hs;exact absurd hs dqk)
 (by intro P0 S0 hX0 zaY hs hk;exact hX _ (zaK (by kernel_rfl) (zc hs hk (λ hs hk=>(zaX hs λ hc hs=>And.intro hc (zJF hX0 hs hk))) (λ hs hk=>(zt hk (λ hk=>hk) (λ hk=>hk))))))) _ hs hk
def s32 (n:Net):Bool :=
  (zAX n (0:Int))
def p32 (n:Net):Bool :=
  (zAY n (0:Int))
end
theorem q32 (n:Net) (K:List PA->Prop) (hs:p32 n=true) (hk:K (e32 (s32 n))):vcFun Tryd.prog G32 zFR 32 [.agg (zdk n)] K :=
  zaK (by kernel_rfl) (zJG hs hk)
def zAZ : List PA → COut
  | [.agg [.int .i64 za0,.sl za7 zcf zaZ]]=>.det (IsE zbr 4 zcf zaZ/\p32 (⟨za0,(⟨za7,zbR zaZ⟩:(Sl Tie))⟩:Net)=true) [.one (.bool (s32 (⟨za0,(⟨za7,zbR zaZ⟩:(Sl Tie))⟩:Net)))]
  | [.agg [.int .i64 za0,.nils]]=>.det (p32 (⟨za0,(⟨0,λ _=>default⟩:(Sl Tie))⟩:Net)=true) [.one (.bool (s32 (⟨za0,(⟨0,λ _=>default⟩:(Sl Tie))⟩:Net)))]
  | _=>.no
theorem zOT:zaj Tryd.prog 32:=⟨_,rfl,rfl,by kernel_rfl⟩
theorem ok32:Ok Tryd.prog 32 zAZ:=ziv zSv zOT λ args K h=>by
  unfold zAZ at h
  split at h
  · rename_i za0 za7 zcf zaZ
    obtain⟨⟨⟨rfl,zbS,rfl⟩,hs⟩,hk⟩:=h
    try rw[zbp zbS] at hs
    try rw[zbp zbS] at hk
    exact⟨_,zib zg5 _,(λ _ _=>[]),(λ _=>false),zFR,q32 (⟨za0,(⟨za7,zbS⟩:(Sl Tie))⟩:Net) (Wk K) hs (zeW hk)⟩
  · rename_i za0
    obtain⟨hs,hk⟩:=h
    exact⟨_,(zeC (.agg (zeC (.rfl _) (zeC (.nil _ _) zka))) zka),(λ _ _=>[]),(λ _=>false),zFR,q32 (⟨za0,(⟨0,λ _=>default⟩:(Sl Tie))⟩:Net) (Wk K) hs (zeW hk)⟩
  · exact h.elim
abbrev T10:Tabs:=((Tabs.nil.addF 31 zup).addF 32 zAZ)
theorem zSw:TabsOk Tryd.prog T10:=((TabsOk.nil.addF zOR).addF ok32)
abbrev G10:Ctrs:=csm T10 (λ _ _=>[]) (λ _=>false)
def zFS:Ann:=⟨99,[(0,zK [0,1,4] [4]),(1,zK [0,1,4,12] [4]),(2,zK [4,5] [4]),(3,zK [1,4,6] [4,6]),(4,zK [4,6,16,17,18] [4,6]),(5,zK [4,6,16,17,18,19] [4,6,91]),(6,zK [4,6,8,16,17,18] [4,6,8,91]),(7,zK [4,6,8,16,17,18,60] [4,6,8,91]),(8,zK [4,5] [4]),(9,zK [4,6,8,9,16,17,18] [4,6,8,91]),(10,zK [4,6,16,17,18] [4,6,91]),(11,zK [4,6,16,17,18] [4,6,91]),(12,zK [4,6,96] [4,6,91]),(13,zK [4,5] [4]),(14,zK [4,5] [4,91])],
 [(5,⟨[4,6,16,17,18],[4,6,91],[],[(6,1,91,54,λ _=>zbr default)],[],[],[]⟩)],
 [(3,zK [0,1,4] [4]),(8,zK [4,6,8,16,17,18,60] [4,6,8,91]),(13,zK [4,6,96] [4,6,91]),(9,zK [4,6,8,16,17,18] [4,6,8,91])],
 [],[]⟩
abbrev R10:=(Net×Int)
abbrev e10 (r:R10):List PA:=[.agg [.int .i64 r.1.Nodes,.sl r.1.Ties.len 4 (λ i=>zbr (r.1.Ties.get i))],.one (.int .i64 r.2)]
@[irreducible] def z10:=ptF Tryd.prog G10 zFS Tryd.f10
def zHB (nodes:Int) (pulses:(Sl Pulse)) (zaM:Int) (zdt:(Sl Tie)) (zg8:Nat->List PV):St:=⟨[(4,zp 4 0),(6,zp 6 0),(16,zS zdL 7 pulses),(17,zI (pulses.len:Int)),(18,zI zaM)],[(4,.box 48 [zi (0:Int),.p (.nils)]),(6,.box 48 [zi nodes,.vec 91]),(91,.vec 54 4 32 zdt.len zg8)],[]⟩
abbrev zFT (K:List PA->Prop) (nodes:Int) (pulses:(Sl Pulse)) (X:St->Prop) (P:Int->(Sl Tie)->Bool) (S:Int->(Sl Tie)->(Net×Int)):Prop:=∀ ⦃zaM:Int⦄ ⦃zdt:(Sl Tie)⦄ ⦃zg8:Nat->List PV⦄,P zaM zdt=true->K (e10 (S zaM zdt))->zg8=zg zbr zdt->X (zHB nodes pulses zaM zdt zg8)
section
variable {K:List PA->Prop}{nodes:Int}{pulses:(Sl Pulse)}{zaM:Int}{zdt:(Sl Tie)}{zg8:Nat->List PV}{X1:St->Prop}{P1:Int->(Sl Tie)->Bool}{S1:Int->(Sl Tie)->(Net×Int)}{zut:Int}{zuu:Bool}{zaP:Int}{zaR:Int}{zaS:Int}{zaT:Int}{zaU:Int}{zaV:Int}{zaW:Int}{zrU:(Sl Tie)}{zA0:Nat->List PV}{zFU:Bool}{zuv:(Sl Tie)}{zA1:Nat->List PV}{zuw:Int}{zrV:Int}{zrW:Int}{zm4:Int}{zm5:Int}{zrX:Int}{zrY:Int}{zm6:Int}{ziw:(Sl Tie)}{zA2:Nat->List PV}
def zux (S1:Int->(Sl Tie)->(Net×Int)) (nodes:Int) (pulses:(Sl Pulse)) (zuw:Int) (zrV:Int) (zrW:Int) (zm4:Int) (zm5:Int) (zrX:Int) (zrY:Int) (zm6:Int) (ziw:(Sl Tie)):(Net×Int) :=
  (S1 (w64 (zuw+(1:Int))) (⟨(ziw.len+1),(zfU ziw.len ziw.get (λ _=>(⟨zrV,zrW,(w64 ((w64 ((w64 (zm5 - zm4)) - zrY)) - zm6)),(w64 ((w64 ((w64 (zm5 - zm4)) - zrX))+zm6))⟩:Tie)))⟩:Sl Tie))
def zuy (P1:Int->(Sl Tie)->Bool) (nodes:Int) (pulses:(Sl Pulse)) (zuw:Int) (zrV:Int) (zrW:Int) (zm4:Int) (zm5:Int) (zrX:Int) (zrY:Int) (zm6:Int) (ziw:(Sl Tie)):Bool :=
  (decide (((ziw.len+1) * 32<=140737488355328/\ziw.len+1<=9223372036854775807)) &&
 (P1 (w64 (zuw+(1:Int))) (⟨(ziw.len+1),(zfU ziw.len ziw.get (λ _=>(⟨zrV,zrW,(w64 ((w64 ((w64 (zm5 - zm4)) - zrY)) - zm6)),(w64 ((w64 ((w64 (zm5 - zm4)) - zrX))+zm6))⟩:Tie)))⟩:Sl Tie)))
theorem zJH (hX1:zFT K nodes pulses X1 P1 S1) (hs:zuy P1 nodes pulses zuw zrV zrW zm4 zm5 zrX zrY zm6 ziw=true) (hk:K (e10 (zux S1 nodes pulses zuw zrV zrW zm4 zm5 zrX zrY zm6 ziw))) (zJI:zA2=zg zbr ziw):z10 (Wk K) [1,1,1,0,1,0,0,1,1,0,0,1,1] [X1] ⟨[(4,zp 4 0),(6,zp 6 0),(8,zp 8 0),(16,zS zdL 7 pulses),(17,zI (pulses.len:Int)),(18,zI zuw)],[(4,.box 48 [zi (0:Int),.p (.nils)]),(6,.box 48 [zi nodes,.vec 91]),(8,.box 45 (zm (zdL (⟨zrV,zrW,zm4,zm5,(⟨zrX,zrY⟩:Span),zm6⟩:Pulse)))),(91,.vec 54 4 32 ziw.len zA2)],[]⟩:=by subst zJI;exact zaK (by kernel_rfl) (zaX hs λ hc hs=>And.intro hc (hX1 hs hk (zlq (enc:=zbr) (f:=ziw.get) (h:=(λ _=>(⟨zrV,zrW,(w64 ((w64 ((w64 (zm5 - zm4)) - zrY)) - zm6)),(w64 ((w64 ((w64 (zm5 - zm4)) - zrX))+zm6))⟩:Tie))) rfl rfl)))
def zpG (nodes:Int) (zFU:Bool) (zuv:(Sl Tie)):(Net×Int) :=
  (cond zFU
 ((⟨(0:Int),(⟨0,λ _=>default⟩:(Sl Tie))⟩:Net),(2:Int))
 ((⟨nodes,zuv⟩:Net),(0:Int)))
theorem zJJ (hk:K (e10 (zpG nodes zFU zuv))) (zJK:zA1=zg zbr zuv):z10 (Wk K) [1,1,1,1,0,1] [] ⟨[(4,zp 4 0),(6,zp 6 0),(96,zB zFU)],[(4,.box 48 [zi (0:Int),.p (.nils)]),(6,.box 48 [zi nodes,.vec 91]),(91,.vec 54 4 32 zuv.len zA1)],[]⟩:=by subst zJK;exact zaK (by kernel_rfl) (zt hk (λ hk=>((wk hk (zeC (.agg (zeC (.rfl _) (zeC (.nil _ _) zka))) (zeC (.one (.rfl _)) zka))):Wk K [.agg [.int .i64 (0:Int),.nils],.one (.int .i64 (2:Int))])) (λ hk=>((zeW hk):Wk K [.agg [.int .i64 nodes,.sl zuv.len 4 (λ i=>zbr (zuv.get i))],.one (.int .i64 (0:Int))])))
def zg9 (S1:Int->(Sl Tie)->(Net×Int)) (nodes:Int) (pulses:(Sl Pulse)) (zut:Int) (zuu:Bool) (zaP:Int) (zaR:Int) (zaS:Int) (zaT:Int) (zaU:Int) (zaV:Int) (zaW:Int) (zrU:(Sl Tie)):(Net×Int) :=
  (cond zuu
 ((⟨(0:Int),(⟨0,λ _=>default⟩:(Sl Tie))⟩:Net),(2:Int))
 (zux S1 nodes pulses zut zaP zaR zaS zaT zaU zaV zaW zrU))
def zha (P1:Int->(Sl Tie)->Bool) (nodes:Int) (pulses:(Sl Pulse)) (zut:Int) (zuu:Bool) (zaP:Int) (zaR:Int) (zaS:Int) (zaT:Int) (zaU:Int) (zaV:Int) (zaW:Int) (zrU:(Sl Tie)):Bool :=
  (cond zuu
 true
 (zuy P1 nodes pulses zut zaP zaR zaS zaT zaU zaV zaW zrU))
theorem zkg (hX1:zFT K nodes pulses X1 P1 S1) (hs:zha P1 nodes pulses zut zuu zaP zaR zaS zaT zaU zaV zaW zrU=true) (hk:K (e10 (zg9 S1 nodes pulses zut zuu zaP zaR zaS zaT zaU zaV zaW zrU))) (zJL:zA0=zg zbr zrU):z10 (Wk K) [1,1,1,0,1,0,0,1,1,0,0,1,0,1] [X1] ⟨[(4,zp 4 0),(6,zp 6 0),(8,zp 8 0),(16,zS zdL 7 pulses),(17,zI (pulses.len:Int)),(18,zI zut),(60,zB zuu)],[(4,.box 48 [zi (0:Int),.p (.nils)]),(6,.box 48 [zi nodes,.vec 91]),(8,.box 45 (zm (zdL (⟨zaP,zaR,zaS,zaT,(⟨zaU,zaV⟩:Span),zaW⟩:Pulse)))),(91,.vec 54 4 32 zrU.len zA0)],[]⟩:=by subst zJL;exact zaK (by kernel_rfl) (zc hs hk (λ hs hk=>((wk hk (zeC (.agg (zeC (.rfl _) (zeC (.nil _ _) zka))) (zeC (.one (.rfl _)) zka))):Wk K [.agg [.int .i64 (0:Int),.nils],.one (.int .i64 (2:Int))])) (λ hs hk=>(zJH hX1 hs hk rfl)))
def zkh (nodes:Int) (pulses:(Sl Pulse)) (S1:Int->(Sl Tie)->(Net×Int)) (zaM:Int) (zdt:(Sl Tie)):(Net×Int) :=
  (cond (decide (zaM < (pulses.len : Int)))
 (cond ((pulses.get zaM.toNat).A == (pulses.get zaM.toNat).B)
 (zg9 S1 nodes pulses zaM true ((pulses.get zaM.toNat).A) ((pulses.get zaM.toNat).B) ((pulses.get zaM.toNat).TimeA) ((pulses.get zaM.toNat).TimeB) ((pulses.get zaM.toNat).Flight.Low) ((pulses.get zaM.toNat).Flight.High) ((pulses.get zaM.toNat).Jitter) zdt)
 (cond (!(s31 ((pulses.get zaM.toNat).TimeA) (-100000000:Int) (100000000:Int)))
 (zg9 S1 nodes pulses zaM true ((pulses.get zaM.toNat).A) ((pulses.get zaM.toNat).B) ((pulses.get zaM.toNat).TimeA) ((pulses.get zaM.toNat).TimeB) ((pulses.get zaM.toNat).Flight.Low) ((pulses.get zaM.toNat).Flight.High) ((pulses.get zaM.toNat).Jitter) zdt)
 (cond (!(s31 ((pulses.get zaM.toNat).TimeB) (-100000000:Int) (100000000:Int)))
 (zg9 S1 nodes pulses zaM true ((pulses.get zaM.toNat).A) ((pulses.get zaM.toNat).B) ((pulses.get zaM.toNat).TimeA) ((pulses.get zaM.toNat).TimeB) ((pulses.get zaM.toNat).Flight.Low) ((pulses.get zaM.toNat).Flight.High) ((pulses.get zaM.toNat).Jitter) zdt)
 (cond (!(s31 ((pulses.get zaM.toNat).Flight.Low) (0:Int) ((pulses.get zaM.toNat).Flight.High)))
 (zg9 S1 nodes pulses zaM true ((pulses.get zaM.toNat).A) ((pulses.get zaM.toNat).B) ((pulses.get zaM.toNat).TimeA) ((pulses.get zaM.toNat).TimeB) ((pulses.get zaM.toNat).Flight.Low) ((pulses.get zaM.toNat).Flight.High) ((pulses.get zaM.toNat).Jitter) zdt)
 (cond (decide ((pulses.get zaM.toNat).Flight.High > (100000000:Int)))
 (zg9 S1 nodes pulses zaM true ((pulses.get zaM.toNat).A) ((pulses.get zaM.toNat).B) ((pulses.get zaM.toNat).TimeA) ((pulses.get zaM.toNat).TimeB) ((pulses.get zaM.toNat).Flight.Low) ((pulses.get zaM.toNat).Flight.High) ((pulses.get zaM.toNat).Jitter) zdt)
 (zg9 S1 nodes pulses zaM (!(s31 ((pulses.get zaM.toNat).Jitter) (0:Int) (100000000:Int))) ((pulses.get zaM.toNat).A) ((pulses.get zaM.toNat).B) ((pulses.get zaM.toNat).TimeA) ((pulses.get zaM.toNat).TimeB) ((pulses.get zaM.toNat).Flight.Low) ((pulses.get zaM.toNat).Flight.High) ((pulses.get zaM.toNat).Jitter) zdt))))))
 (zpG nodes (!(s32 (⟨nodes,zdt⟩:Net))) zdt))
def zki (nodes:Int) (pulses:(Sl Pulse)) (P1:Int->(Sl Tie)->Bool) (zaM:Int) (zdt:(Sl Tie)):Bool :=
  (cond (decide (zaM < (pulses.len : Int)))
 (decide ((0<=zaM/\zaM < (pulses.len:Int))) &&
 (cond ((pulses.get zaM.toNat).A == (pulses.get zaM.toNat).B)
 (zha P1 nodes pulses zaM true ((pulses.get zaM.toNat).A) ((pulses.get zaM.toNat).B) ((pulses.get zaM.toNat).TimeA) ((pulses.get zaM.toNat).TimeB) ((pulses.get zaM.toNat).Flight.Low) ((pulses.get zaM.toNat).Flight.High) ((pulses.get zaM.toNat).Jitter) zdt)
 (cond (!(s31 ((pulses.get zaM.toNat).TimeA) (-100000000:Int) (100000000:Int)))
 (zha P1 nodes pulses zaM true ((pulses.get zaM.toNat).A) ((pulses.get zaM.toNat).B) ((pulses.get zaM.toNat).TimeA) ((pulses.get zaM.toNat).TimeB) ((pulses.get zaM.toNat).Flight.Low) ((pulses.get zaM.toNat).Flight.High) ((pulses.get zaM.toNat).Jitter) zdt)
 (cond (!(s31 ((pulses.get zaM.toNat).TimeB) (-100000000:Int) (100000000:Int)))
 (zha P1 nodes pulses zaM true ((pulses.get zaM.toNat).A) ((pulses.get zaM.toNat).B) ((pulses.get zaM.toNat).TimeA) ((pulses.get zaM.toNat).TimeB) ((pulses.get zaM.toNat).Flight.Low) ((pulses.get zaM.toNat).Flight.High) ((pulses.get zaM.toNat).Jitter) zdt)
 (cond (!(s31 ((pulses.get zaM.toNat).Flight.Low) (0:Int) ((pulses.get zaM.toNat).Flight.High)))
 (zha P1 nodes pulses zaM true ((pulses.get zaM.toNat).A) ((pulses.get zaM.toNat).B) ((pulses.get zaM.toNat).TimeA) ((pulses.get zaM.toNat).TimeB) ((pulses.get zaM.toNat).Flight.Low) ((pulses.get zaM.toNat).Flight.High) ((pulses.get zaM.toNat).Jitter) zdt)
 (cond (decide ((pulses.get zaM.toNat).Flight.High > (100000000:Int)))
 (zha P1 nodes pulses zaM true ((pulses.get zaM.toNat).A) ((pulses.get zaM.toNat).B) ((pulses.get zaM.toNat).TimeA) ((pulses.get zaM.toNat).TimeB) ((pulses.get zaM.toNat).Flight.Low) ((pulses.get zaM.toNat).Flight.High) ((pulses.get zaM.toNat).Jitter) zdt)
 (zha P1 nodes pulses zaM (!(s31 ((pulses.get zaM.toNat).Jitter) (0:Int) (100000000:Int))) ((pulses.get zaM.toNat).A) ((pulses.get zaM.toNat).B) ((pulses.get zaM.toNat).TimeA) ((pulses.get zaM.toNat).TimeB) ((pulses.get zaM.toNat).Flight.Low) ((pulses.get zaM.toNat).Flight.High) ((pulses.get zaM.toNat).Jitter) zdt)))))))
 (decide ((p32 (⟨nodes,zdt⟩:Net)=true)) &&
 true))
def zix (nodes:Int) (pulses:(Sl Pulse)):Nat->Int->(Sl Tie)->(Net×Int):=lpO (λ _ _=>default) (zkh nodes pulses)
def ziy (nodes:Int) (pulses:(Sl Pulse)):Nat->Int->(Sl Tie)->Bool:=lpO (λ _ _=>false) (zki nodes pulses)
def zA3 (nodes:Int) (pulses:(Sl Pulse)) (zaM:Int) (zdt:(Sl Tie)):(Net×Int):=zix nodes pulses Fuel zaM zdt
def zA4 (nodes:Int) (pulses:(Sl Pulse)) (zaM:Int) (zdt:(Sl Tie)):Bool:=ziy nodes pulses Fuel zaM zdt
theorem zJM (hs:zA4 nodes pulses zaM zdt=true) (hk:K (e10 (zA3 nodes pulses zaM zdt))) (zuz:zg8=zg zbr zdt):z10 (Wk K) [1,1,1,0,1,0] [] (zHB nodes pulses zaM zdt zg8) :=
  zl (λ X=>z10 (Wk K) [1,1,1,0,1,0,0] [X]) (by kernel_rfl) λ X1 hX =>
  (show ∀ k, zFT K nodes pulses X1 (ziy nodes pulses k) (zix nodes pulses k) from zgc _ _ (zki nodes pulses) (zkh nodes pulses) (zFT K nodes pulses X1)
 (by intro _ _ _ hs;exact absurd hs dqk)
 (by intro P1 S1 hX1 zaM zdt zg8 hs hk zuz;subst zuz;exact hX _ (zaK (by kernel_rfl) (zc hs hk (λ hs hk=>(zaX hs λ hc hs=>And.intro hc (zc hs hk (λ hs hk=>(zkg hX1 hs hk rfl)) (λ hs hk=>(zc hs hk (λ hs hk=>(zkg hX1 hs hk rfl)) (λ hs hk=>(zc hs hk (λ hs hk=>(zkg hX1 hs hk rfl)) (λ hs hk=>(zc hs hk (λ hs hk=>(zkg hX1 hs hk rfl)) (λ hs hk=>(zc hs hk (λ hs hk=>(zkg hX1 hs hk rfl)) (λ hs hk=>(zkg hX1 hs hk rfl))))))))))))) (λ hs hk=>(zaX hs λ hc hs=>And.intro (And.intro (zE zbr 4 zdt.get) hc) (zJJ hk rfl))))))) _ hs hk zuz
def zpH (nodes:Int) (pulses:(Sl Pulse)):(Net×Int) :=
  (zA3 nodes pulses (0:Int) (⟨0,(λ _=>default)⟩:Sl Tie))
def zpI (nodes:Int) (pulses:(Sl Pulse)):Bool :=
  (zA4 nodes pulses (0:Int) (⟨0,(λ _=>default)⟩:Sl Tie))
theorem zJN (hs:zpI nodes pulses=true) (hk:K (e10 (zpH nodes pulses))):z10 (Wk K) [1,1] [] ⟨[(0,zI nodes),(1,zS zdL 7 pulses),(4,zp 4 0)],[(4,.box 48 [zi (0:Int),.p (.nils)])],[]⟩:=zaK (by kernel_rfl) (zJM hs hk rfl)
def s10 (nodes:Int) (pulses:(Sl Pulse)):(Net×Int) :=
  (cond (decide ((pulses.len : Int) > (200:Int)))
 ((⟨(0:Int),(⟨0,λ _=>default⟩:(Sl Tie))⟩:Net),(3:Int))
 (zpH nodes pulses))
def p10 (nodes:Int) (pulses:(Sl Pulse)):Bool :=
  (cond (decide ((pulses.len : Int) > (200:Int)))
 true
 (zpI nodes pulses))
end
theorem q10 (nodes:Int) (pulses:(Sl Pulse)) (K:List PA->Prop) (hs:p10 nodes pulses=true) (hk:K (e10 (s10 nodes pulses))):vcFun Tryd.prog G10 zFS 10 [.one (.int .i64 nodes),.one (.sl pulses.len 7 (λ i=>zdL (pulses.get i)))] (Wk K) :=
  zaK (by kernel_rfl) (zc hs hk (λ hs hk=>((wk hk (zeC (.agg (zeC (.rfl _) (zeC (.nil _ _) zka))) (zeC (.one (.rfl _)) zka))):Wk K [.agg [.int .i64 (0:Int),.nils],.one (.int .i64 (3:Int))])) (λ hs hk=>(zJN hs hk)))
def zFV : List PA → COut
  | [.one (.int .i64 a0),.one (.sl zeO zl0 zeP)]=>.det (IsE zdL 7 zl0 zeP/\p10 a0 (⟨zeO,zkb zeP⟩:(Sl Pulse))=true) [.agg [.int .i64 (((s10 a0 (⟨zeO,zkb zeP⟩:(Sl Pulse))).1).Nodes),.sl (((s10 a0 (⟨zeO,zkb zeP⟩:(Sl Pulse))).1).Ties.len) 4 (λ i=>zbr (((s10 a0 (⟨zeO,zkb zeP⟩:(Sl Pulse))).1).Ties.get i))],.one (.int .i64 ((s10 a0 (⟨zeO,zkb zeP⟩:(Sl Pulse))).2))]
  | [.one (.int .i64 a0),.one (.nils)]=>.det (p10 a0 (⟨0,λ _=>default⟩:(Sl Pulse))=true) [.agg [.int .i64 (((s10 a0 (⟨0,λ _=>default⟩:(Sl Pulse))).1).Nodes),.sl (((s10 a0 (⟨0,λ _=>default⟩:(Sl Pulse))).1).Ties.len) 4 (λ i=>zbr (((s10 a0 (⟨0,λ _=>default⟩:(Sl Pulse))).1).Ties.get i))],.one (.int .i64 ((s10 a0 (⟨0,λ _=>default⟩:(Sl Pulse))).2))]
  | _=>.no
theorem call10:zaj Tryd.prog 10:=⟨_,rfl,rfl,by kernel_rfl⟩
theorem zUI:Ok Tryd.prog 10 zFV:=ziv zSw call10 λ args K h=>by
  unfold zFV at h
  split at h
  · rename_i a0 zeO zl0 zeP
    obtain⟨⟨⟨rfl,zic,rfl⟩,hs⟩,hk⟩:=h
    try rw[zm2 zic] at hs
    try rw[zm2 zic] at hk
    exact⟨_,zib zg5 _,(λ _ _=>[]),(λ _=>false),zFS,q10 a0 (⟨zeO,zic⟩:(Sl Pulse)) K hs hk⟩
  · rename_i a0
    obtain⟨hs,hk⟩:=h
    exact⟨_,(zeC (zg5 _) (zeC (.one (.nil _ _)) zka)),(λ _ _=>[]),(λ _=>false),zFS,q10 a0 (⟨0,λ _=>default⟩:(Sl Pulse)) K hs hk⟩
  · exact h.elim
abbrev zUJ:Tabs:=Tabs.nil
theorem zOU:TabsOk Tryd.prog zUJ:=TabsOk.nil
abbrev zVw:Ctrs:=csm zUJ (λ _ _=>[]) (λ _=>false)
def zHC:Ann:=⟨9,[(0,zK [1,2] [2]),(1,zK [3] [])],
 [],
 [],
 [],[]⟩
abbrev zVx:=Bool
abbrev zVy (r:zVx):List PA:=[.one (.bool r)]
section
variable {K:List PA->Prop}{c0:Span}{r_a0:FluxRow}
def zRN (c0:Span) (r_a0:FluxRow):Bool :=
  (decide (r_a0.Energy > c0.Low))
end
theorem zVz (c0:Span) (r_a0:FluxRow) (K:List PA->Prop) (hk:K (zVy (zRN c0 r_a0))):vcFun Tryd.prog zVw zHC 110 [.agg (zbt r_a0),.one (.fp (za2 c0) 0)] K :=
  zaK (by kernel_rfl) hk
def zA5 : List PA → COut
  | [.agg [.int .i64 zbj,.int .i64 zb4,.int .i64 zbK],.one (.fp [.int .i64 c0_Low,.int .i64 c0_High] 0)]=>.tot [.one (.bool (zRN (⟨c0_Low,c0_High⟩:Span) (⟨zbj,(⟨zb4,zbK⟩:Span)⟩:FluxRow)))]
  | _=>.no
theorem zJO:zaj Tryd.prog 110:=⟨_,rfl,rfl,by kernel_rfl⟩
theorem zSx:Ok Tryd.prog 110 zA5:=zbm zOU zJO λ args K h=>by
  unfold zA5 at h
  split at h
  · rename_i zbj zb4 zbK c0_Low c0_High
    have hk:=h
    exact⟨(λ _ _=>[]),(λ _=>false),zHC,zVz (⟨c0_Low,c0_High⟩:Span) (⟨zbj,(⟨zb4,zbK⟩:Span)⟩:FluxRow) K hk⟩
  · exact h.elim
abbrev zUK:Tabs:=Tabs.nil
theorem zOV:TabsOk Tryd.prog zUK:=TabsOk.nil
abbrev zVA:Ctrs:=csm zUK (λ _ _=>[]) (λ _=>false)
def zHD:Ann:=⟨9,[(0,zK [1,2] [2]),(1,zK [3] [])],
 [],
 [],
 [],[]⟩
abbrev zVB:=Bool
abbrev zVC (r:zVB):List PA:=[.one (.bool r)]
section
variable {K:List PA->Prop}{c0:Span}{r_a0:FluxRow}
def zRO (c0:Span) (r_a0:FluxRow):Bool :=
  (decide (r_a0.Energy >= c0.High))
end
theorem zVD (c0:Span) (r_a0:FluxRow) (K:List PA->Prop) (hk:K (zVC (zRO c0 r_a0))):vcFun Tryd.prog zVA zHD 111 [.agg (zbt r_a0),.one (.fp (za2 c0) 0)] K :=
  zaK (by kernel_rfl) hk
def zA6 : List PA → COut
  | [.agg [.int .i64 zbj,.int .i64 zb4,.int .i64 zbK],.one (.fp [.int .i64 c0_Low,.int .i64 c0_High] 0)]=>.tot [.one (.bool (zRO (⟨c0_Low,c0_High⟩:Span) (⟨zbj,(⟨zb4,zbK⟩:Span)⟩:FluxRow)))]
  | _=>.no
theorem zJP:zaj Tryd.prog 111:=⟨_,rfl,rfl,by kernel_rfl⟩
theorem zSy:Ok Tryd.prog 111 zA6:=zbm zOV zJP λ args K h=>by
  unfold zA6 at h
  split at h
  · rename_i zbj zb4 zbK c0_Low c0_High
    have hk:=h
    exact⟨(λ _ _=>[]),(λ _=>false),zHD,zVD (⟨c0_Low,c0_High⟩:Span) (⟨zbj,(⟨zb4,zbK⟩:Span)⟩:FluxRow) K hk⟩
  · exact h.elim
abbrev zSz:Tabs:=((Tabs.nil.addF 110 zA5).addF 111 zA6)
theorem zOW:TabsOk Tryd.prog zSz:=((TabsOk.nil.addF zSx).addF zSy)
abbrev zUL:Ctrs:=csm zSz (λ _ _=>[]) (λ _=>false)
def zA7:Ann:=⟨19,[(0,zK [0,1] []),(1,zK [0,1,7,8] []),(2,zK [0,1,7,8,9] []),(3,zK [0,1,5,7,8] []),(4,zK [0,1,5,7,8,16] []),(5,zK [4] []),(6,zK [0,1,7,8] []),(7,zK [4] [])],
 [(2,zK [0,1,7,8] [])],
 [(5,zK [0,1,5,7,8,16] [])],
 [],[]⟩
abbrev zVE:=Int
abbrev zRP (r:zVE):List PA:=[.one (.int .i64 r)]
@[irreducible] def z122:=ptF Tryd.prog zUL zA7 Tryd.f122
def zA8 (c0:Span) (sv0:(Sl FluxRow)) (zbX:Int) (zaY:Int) (zcb:Nat->List PV):St:=⟨[(0,zP (.sl sv0.len 3 zcb)),(1,zP (.fn 110 [] [.fp (za2 c0) 0])),(7,zI zbX),(8,zI zaY)],[],[]⟩
abbrev zA9 (K:List PA->Prop) (c0:Span) (X:St->Prop) (P:(Sl FluxRow)->Int->Int->Bool) (S:(Sl FluxRow)->Int->Int->Int):Prop:=∀ ⦃sv0:(Sl FluxRow)⦄ ⦃zbX:Int⦄ ⦃zaY:Int⦄ ⦃zcb:Nat->List PV⦄,P sv0 zbX zaY=true->K (zRP (S sv0 zbX zaY))->zcb=zg zbt sv0->X (zA8 c0 sv0 zbX zaY zcb)
section
variable {K:List PA->Prop}{c0:Span}{s:(Sl FluxRow)}{sv0:(Sl FluxRow)}{zbX:Int}{zaY:Int}{zcb:Nat->List PV}{X0:St->Prop}{P0:(Sl FluxRow)->Int->Int->Bool}{S0:(Sl FluxRow)->Int->Int->Int}{sv1:(Sl FluxRow)}{iv1:Int}{zfg:Int}{zet:Int}{zdc:Bool}{zd3:Nat->List PV}
def zxm (S0:(Sl FluxRow)->Int->Int->Int) (c0:Span) (sv1:(Sl FluxRow)) (iv1:Int) (zfg:Int) (zet:Int) (zdc:Bool):Int :=
  (cond zdc
 iv1
 (S0 sv1 zfg (w64 (zet+(1:Int)))))
def zxn (P0:(Sl FluxRow)->Int->Int->Bool) (c0:Span) (sv1:(Sl FluxRow)) (iv1:Int) (zfg:Int) (zet:Int) (zdc:Bool):Bool :=
  (cond zdc
 true
 (P0 sv1 zfg (w64 (zet+(1:Int)))))
theorem zFW (hX0:zA9 K c0 X0 P0 S0) (hs:zxn P0 c0 sv1 iv1 zfg zet zdc=true) (hk:K (zRP (zxm S0 c0 sv1 iv1 zfg zet zdc))) (zgA:zd3=zg zbt sv1):z122 K [1,0,1,0,0,1,1,0,0,1,1] [X0] ⟨[(0,zP (.sl sv1.len 3 zd3)),(1,zP (.fn 110 [] [.fp (za2 c0) 0])),(5,zI iv1),(7,zI zfg),(8,zI zet),(16,zB zdc)],[],[]⟩:=by subst zgA;exact zaK (by kernel_rfl) (zc hs hk (λ hs hk=>hk) (λ hs hk=>(hX0 hs hk rfl)))
def zxo (c0:Span) (S0:(Sl FluxRow)->Int->Int->Int) (sv0:(Sl FluxRow)) (zbX:Int) (zaY:Int):Int :=
  (cond (decide (zaY < zbX))
 (zxm S0 c0 sv0 zaY zbX zaY (zRN c0 (sv0.get zaY.toNat)))
 (-1:Int))
def zxp (c0:Span) (P0:(Sl FluxRow)->Int->Int->Bool) (sv0:(Sl FluxRow)) (zbX:Int) (zaY:Int):Bool :=
  (cond (decide (zaY < zbX))
 (decide ((0<=zaY/\zaY < (sv0.len:Int))) &&
 (zxn P0 c0 sv0 zaY zbX zaY (zRN c0 (sv0.get zaY.toNat))))
 true)
def zxq (c0:Span):Nat->(Sl FluxRow)->Int->Int->Int:=lpO (λ _ _ _=>default) (zxo c0)
def zxr (c0:Span):Nat->(Sl FluxRow)->Int->Int->Bool:=lpO (λ _ _ _=>false) (zxp c0)
def zxs (c0:Span) (sv0:(Sl FluxRow)) (zbX:Int) (zaY:Int):Int:=zxq c0 Fuel sv0 zbX zaY
def zxt (c0:Span) (sv0:(Sl FluxRow)) (zbX:Int) (zaY:Int):Bool:=zxr c0 Fuel sv0 zbX zaY
theorem zFX (hs:zxt c0 sv0 zbX zaY=true) (hk:K (zRP (zxs c0 sv0 zbX zaY))) (zdN:zcb=zg zbt sv0):z122 K [1,0,1,0] [] (zA8 c0 sv0 zbX zaY zcb) :=
  zl (λ X=>z122 K [1,0,1,0,0] [X]) (by kernel_rfl) λ X0 hX =>
  (show ∀ k, zA9 K c0 X0 (zxr c0 k) (zxq c0 k) from zgc _ _ (zxp c0) (zxo c0) (zA9 K c0 X0)
 (by intro _ _ _ _ hs;exact absurd hs dqk)
 (by intro P0 S0 hX0 sv0 zbX zaY zcb hs hk zdN;subst zdN;exact hX _ (zaK (by kernel_rfl) (zc hs hk (λ hs hk=>(zaX hs λ hc hs=>And.intro hc (zFW hX0 hs hk rfl))) (λ hs hk=>hk))))) _ hs hk zdN
def zRQ (c0:Span) (s:(Sl FluxRow)):Int :=
  (zxs c0 s (s.len:Int) (0:Int))
def zSA (c0:Span) (s:(Sl FluxRow)):Bool :=
  (zxt c0 s (s.len:Int) (0:Int))
end
theorem zVF (c0:Span) (s:(Sl FluxRow)) (K:List PA->Prop) (hs:zSA c0 s=true) (hk:K (zRP (zRQ c0 s))):vcFun Tryd.prog zUL zA7 122 [.one (.sl s.len 3 (λ i=>zbt (s.get i))),.one (.fn 110 [] [.fp (za2 c0) 0])] K :=
  zaK (by kernel_rfl) (zFX hs hk rfl)
abbrev zOX:Ctrs:=csm zSz (λ _ _=>[]) (λ _=>false)
def zuA:Ann:=⟨19,[(0,zK [0,1] []),(1,zK [0,1,7,8] []),(2,zK [0,1,7,8,9] []),(3,zK [0,1,5,7,8] []),(4,zK [0,1,5,7,8,16] []),(5,zK [4] []),(6,zK [0,1,7,8] []),(7,zK [4] [])],
 [(2,zK [0,1,7,8] [])],
 [(5,zK [0,1,5,7,8,16] [])],
 [],[]⟩
abbrev zSB:=Int
abbrev zFY (r:zSB):List PA:=[.one (.int .i64 r)]
@[irreducible] def z122a:=ptF Tryd.prog zOX zuA Tryd.f122
def zxu (c0:Span) (sv0:(Sl FluxRow)) (zbX:Int) (zaY:Int) (zcb:Nat->List PV):St:=⟨[(0,zP (.sl sv0.len 3 zcb)),(1,zP (.fn 111 [] [.fp (za2 c0) 0])),(7,zI zbX),(8,zI zaY)],[],[]⟩
abbrev zuB (K:List PA->Prop) (c0:Span) (X:St->Prop) (P:(Sl FluxRow)->Int->Int->Bool) (S:(Sl FluxRow)->Int->Int->Int):Prop:=∀ ⦃sv0:(Sl FluxRow)⦄ ⦃zbX:Int⦄ ⦃zaY:Int⦄ ⦃zcb:Nat->List PV⦄,P sv0 zbX zaY=true->K (zFY (S sv0 zbX zaY))->zcb=zg zbt sv0->X (zxu c0 sv0 zbX zaY zcb)
section
variable {K:List PA->Prop}{c0:Span}{s:(Sl FluxRow)}{sv0:(Sl FluxRow)}{zbX:Int}{zaY:Int}{zcb:Nat->List PV}{X0:St->Prop}{P0:(Sl FluxRow)->Int->Int->Bool}{S0:(Sl FluxRow)->Int->Int->Int}{sv1:(Sl FluxRow)}{iv1:Int}{zfg:Int}{zet:Int}{zdc:Bool}{zd3:Nat->List PV}
def zrZ (S0:(Sl FluxRow)->Int->Int->Int) (c0:Span) (sv1:(Sl FluxRow)) (iv1:Int) (zfg:Int) (zet:Int) (zdc:Bool):Int :=
  (cond zdc
 iv1
 (S0 sv1 zfg (w64 (zet+(1:Int)))))
def zr0 (P0:(Sl FluxRow)->Int->Int->Bool) (c0:Span) (sv1:(Sl FluxRow)) (iv1:Int) (zfg:Int) (zet:Int) (zdc:Bool):Bool :=
  (cond zdc
 true
 (P0 sv1 zfg (w64 (zet+(1:Int)))))
theorem zBa (hX0:zuB K c0 X0 P0 S0) (hs:zr0 P0 c0 sv1 iv1 zfg zet zdc=true) (hk:K (zFY (zrZ S0 c0 sv1 iv1 zfg zet zdc))) (zgA:zd3=zg zbt sv1):z122a K [1,0,1,0,0,1,1,0,0,1,1] [X0] ⟨[(0,zP (.sl sv1.len 3 zd3)),(1,zP (.fn 111 [] [.fp (za2 c0) 0])),(5,zI iv1),(7,zI zfg),(8,zI zet),(16,zB zdc)],[],[]⟩:=by subst zgA;exact zaK (by kernel_rfl) (zc hs hk (λ hs hk=>hk) (λ hs hk=>(hX0 hs hk rfl)))
def zr1 (c0:Span) (S0:(Sl FluxRow)->Int->Int->Int) (sv0:(Sl FluxRow)) (zbX:Int) (zaY:Int):Int :=
  (cond (decide (zaY < zbX))
 (zrZ S0 c0 sv0 zaY zbX zaY (zRO c0 (sv0.get zaY.toNat)))
 (-1:Int))
def zr2 (c0:Span) (P0:(Sl FluxRow)->Int->Int->Bool) (sv0:(Sl FluxRow)) (zbX:Int) (zaY:Int):Bool :=
  (cond (decide (zaY < zbX))
 (decide ((0<=zaY/\zaY < (sv0.len:Int))) &&
 (zr0 P0 c0 sv0 zaY zbX zaY (zRO c0 (sv0.get zaY.toNat))))
 true)
def zr3 (c0:Span):Nat->(Sl FluxRow)->Int->Int->Int:=lpO (λ _ _ _=>default) (zr1 c0)
def zr4 (c0:Span):Nat->(Sl FluxRow)->Int->Int->Bool:=lpO (λ _ _ _=>false) (zr2 c0)
def zr5 (c0:Span) (sv0:(Sl FluxRow)) (zbX:Int) (zaY:Int):Int:=zr3 c0 Fuel sv0 zbX zaY
def zr6 (c0:Span) (sv0:(Sl FluxRow)) (zbX:Int) (zaY:Int):Bool:=zr4 c0 Fuel sv0 zbX zaY
theorem zBb (hs:zr6 c0 sv0 zbX zaY=true) (hk:K (zFY (zr5 c0 sv0 zbX zaY))) (zdN:zcb=zg zbt sv0):z122a K [1,0,1,0] [] (zxu c0 sv0 zbX zaY zcb) :=
  zl (λ X=>z122a K [1,0,1,0,0] [X]) (by kernel_rfl) λ X0 hX =>
  (show ∀ k, zuB K c0 X0 (zr4 c0 k) (zr3 c0 k) from zgc _ _ (zr2 c0) (zr1 c0) (zuB K c0 X0)
 (by intro _ _ _ _ hs;exact absurd hs dqk)
 (by intro P0 S0 hX0 sv0 zbX zaY zcb hs hk zdN;subst zdN;exact hX _ (zaK (by kernel_rfl) (zc hs hk (λ hs hk=>(zaX hs λ hc hs=>And.intro hc (zBa hX0 hs hk rfl))) (λ hs hk=>hk))))) _ hs hk zdN
def zFZ (c0:Span) (s:(Sl FluxRow)):Int :=
  (zr5 c0 s (s.len:Int) (0:Int))
def zJQ (c0:Span) (s:(Sl FluxRow)):Bool :=
  (zr6 c0 s (s.len:Int) (0:Int))
end
theorem zSC (c0:Span) (s:(Sl FluxRow)) (K:List PA->Prop) (hs:zJQ c0 s=true) (hk:K (zFY (zFZ c0 s))):vcFun Tryd.prog zOX zuA 122 [.one (.sl s.len 3 (λ i=>zbt (s.get i))),.one (.fn 111 [] [.fp (za2 c0) 0])] K :=
  zaK (by kernel_rfl) (zBb hs hk rfl)
def zBc : List PA → COut
  | [.one (.sl zdi zfL zdj),.one (.fn 110 [] [.fp [.int .i64 c0_Low,.int .i64 c0_High] 0])]=>.det (IsE zbt 3 zfL zdj/\zSA (⟨c0_Low,c0_High⟩:Span) (⟨zdi,zda zdj⟩:(Sl FluxRow))=true) [.one (.int .i64 (zRQ (⟨c0_Low,c0_High⟩:Span) (⟨zdi,zda zdj⟩:(Sl FluxRow))))]
  | [.one (.sl zdi zfL zdj),.one (.fn 111 [] [.fp [.int .i64 c0_Low,.int .i64 c0_High] 0])]=>.det (IsE zbt 3 zfL zdj/\zJQ (⟨c0_Low,c0_High⟩:Span) (⟨zdi,zda zdj⟩:(Sl FluxRow))=true) [.one (.int .i64 (zFZ (⟨c0_Low,c0_High⟩:Span) (⟨zdi,zda zdj⟩:(Sl FluxRow))))]
  | _=>.no
theorem zJR:zaj Tryd.prog 122:=⟨_,rfl,rfl,by kernel_rfl⟩
theorem zSD:Ok Tryd.prog 122 zBc:=zbm zOW zJR λ args K h=>by
  unfold zBc at h
  split at h
  · rename_i zdi zfL zdj c0_Low c0_High
    obtain⟨⟨⟨rfl,zd4,rfl⟩,hs⟩,hk⟩:=h
    try rw[zck zd4] at hs
    try rw[zck zd4] at hk
    exact⟨(λ _ _=>[]),(λ _=>false),zA7,zVF (⟨c0_Low,c0_High⟩:Span) (⟨zdi,zd4⟩:(Sl FluxRow)) K hs hk⟩
  · rename_i zdi zfL zdj c0_Low c0_High
    obtain⟨⟨⟨rfl,zd4,rfl⟩,hs⟩,hk⟩:=h
    try rw[zck zd4] at hs
    try rw[zck zd4] at hk
    exact⟨(λ _ _=>[]),(λ _=>false),zuA,zSC (⟨c0_Low,c0_High⟩:Span) (⟨zdi,zd4⟩:(Sl FluxRow)) K hs hk⟩
  · exact h.elim
abbrev zSE:Tabs:=(Tabs.nil.addF 122 zBc)
theorem zOY:TabsOk Tryd.prog zSE:=(TabsOk.nil.addF zSD)
abbrev zVG:Ctrs:=csm zSE (λ _ _=>[]) (λ _=>false)
def zHE:Ann:=⟨14,[(0,zK [0,1] []),(1,zK [0,5] []),(2,zK [0,5,10] []),(3,zK [4] []),(4,zK [4] [])],
 [],
 [],
 [],[]⟩
abbrev zVH:=Int
abbrev e109 (r:zVH):List PA:=[.one (.int .i64 r)]
section
variable {K:List PA->Prop}{c0:Span}{rows:(Sl FluxRow)}
def zRR (c0:Span) (rows:(Sl FluxRow)):Int :=
  (cond (decide ((zRQ c0 rows) >= (0:Int)))
 (zRQ c0 rows)
 (rows.len:Int))
def zSF (c0:Span) (rows:(Sl FluxRow)):Bool :=
  (decide ((zSA c0 rows=true)) &&
 true)
end
theorem zVI (c0:Span) (rows:(Sl FluxRow)) (K:List PA->Prop) (hs:zSF c0 rows=true) (hk:K (e109 (zRR c0 rows))):vcFun Tryd.prog zVG zHE 109 [.one (.sl rows.len 3 (λ i=>zbt (rows.get i))),.one (.fn 110 [] [.fp (za2 c0) 0])] K :=
  zaK (by kernel_rfl) (zaX hs λ hc hs=>And.intro (And.intro (zE zbt 3 rows.get) hc) (zt hk (λ hk=>hk) (λ hk=>hk)))
abbrev zSG:Ctrs:=csm zSE (λ _ _=>[]) (λ _=>false)
def zBd:Ann:=⟨14,[(0,zK [0,1] []),(1,zK [0,5] []),(2,zK [0,5,10] []),(3,zK [4] []),(4,zK [4] [])],
 [],
 [],
 [],[]⟩
abbrev zSH:=Int
abbrev zSI (r:zSH):List PA:=[.one (.int .i64 r)]
section
variable {K:List PA->Prop}{c0:Span}{rows:(Sl FluxRow)}
def zF0 (c0:Span) (rows:(Sl FluxRow)):Int :=
  (cond (decide ((zFZ c0 rows) >= (0:Int)))
 (zFZ c0 rows)
 (rows.len:Int))
def zJS (c0:Span) (rows:(Sl FluxRow)):Bool :=
  (decide ((zJQ c0 rows=true)) &&
 true)
end
theorem zSJ (c0:Span) (rows:(Sl FluxRow)) (K:List PA->Prop) (hs:zJS c0 rows=true) (hk:K (zSI (zF0 c0 rows))):vcFun Tryd.prog zSG zBd 109 [.one (.sl rows.len 3 (λ i=>zbt (rows.get i))),.one (.fn 111 [] [.fp (za2 c0) 0])] K :=
  zaK (by kernel_rfl) (zaX hs λ hc hs=>And.intro (And.intro (zE zbt 3 rows.get) hc) (zt hk (λ hk=>hk) (λ hk=>hk)))
def zBe : List PA → COut
  | [.one (.sl zdi zfL zdj),.one (.fn 110 [] [.fp [.int .i64 c0_Low,.int .i64 c0_High] 0])]=>.det (IsE zbt 3 zfL zdj/\zSF (⟨c0_Low,c0_High⟩:Span) (⟨zdi,zda zdj⟩:(Sl FluxRow))=true) [.one (.int .i64 (zRR (⟨c0_Low,c0_High⟩:Span) (⟨zdi,zda zdj⟩:(Sl FluxRow))))]
  | [.one (.sl zdi zfL zdj),.one (.fn 111 [] [.fp [.int .i64 c0_Low,.int .i64 c0_High] 0])]=>.det (IsE zbt 3 zfL zdj/\zJS (⟨c0_Low,c0_High⟩:Span) (⟨zdi,zda zdj⟩:(Sl FluxRow))=true) [.one (.int .i64 (zF0 (⟨c0_Low,c0_High⟩:Span) (⟨zdi,zda zdj⟩:(Sl FluxRow))))]
  | _=>.no
theorem zJT:zaj Tryd.prog 109:=⟨_,rfl,rfl,by kernel_rfl⟩
theorem zSK:Ok Tryd.prog 109 zBe:=zbm zOY zJT λ args K h=>by
  unfold zBe at h
  split at h
  · rename_i zdi zfL zdj c0_Low c0_High
    obtain⟨⟨⟨rfl,zd4,rfl⟩,hs⟩,hk⟩:=h
    try rw[zck zd4] at hs
    try rw[zck zd4] at hk
    exact⟨(λ _ _=>[]),(λ _=>false),zHE,zVI (⟨c0_Low,c0_High⟩:Span) (⟨zdi,zd4⟩:(Sl FluxRow)) K hs hk⟩
  · rename_i zdi zfL zdj c0_Low c0_High
    obtain⟨⟨⟨rfl,zd4,rfl⟩,hs⟩,hk⟩:=h
    try rw[zck zd4] at hs
    try rw[zck zd4] at hk
    exact⟨(λ _ _=>[]),(λ _=>false),zBd,zSJ (⟨c0_Low,c0_High⟩:Span) (⟨zdi,zd4⟩:(Sl FluxRow)) K hs hk⟩
  · exact h.elim
abbrev T79:Tabs:=(Tabs.nil.addF 109 zBe)
theorem zSL:TabsOk Tryd.prog T79:=(TabsOk.nil.addF zSK)
abbrev G79:Ctrs:=csm T79 (λ _ _=>[]) (λ _=>false)
def zJU:Ann:=⟨46,[(0,zK [0,3,4] [3,4]),(1,zK [0,3,4,5] [3,4,5]),(2,zK [0,3,4,5,6] [3,4,5]),(3,zK [0,3,4,5,6,18] [3,4,5]),(4,zK [0,3,4,5] [3,4,5]),(5,zK [0,3,4,5,29] [3,4,5]),(6,zK [4] [4]),(7,zK [0,4,5,7] [4,5]),(8,zK [0,4,5,7,37] [4,5]),(9,zK [4,5] [4,5]),(10,zK [4] [4])],
 [],
 [(3,zK [0,3,4,5,6] [3,4,5]),(5,zK [0,3,4,5] [3,4,5]),(7,zK [0,3,4,5] [3,4,5]),(8,zK [0,4,5,7] [4,5])],
 [],[]⟩
abbrev R79:=Span
abbrev e79 (r:R79):List PA:=[.agg [.int .i64 r.Low,.int .i64 r.High]]
@[irreducible] def z79:=ptF Tryd.prog G79 zJU Tryd.f79
section
variable {K:List PA->Prop}{l_a0:(Sl FluxRow)}{t:Span}{iv0:Int}{zcN:Int}{iv3:Int}
def zBf (l_a0:(Sl FluxRow)) (zcN:Int) (iv3:Int):Span :=
  (cond (decide (iv3 < (l_a0.len : Int)))
 (⟨(l_a0.get iv3.toNat).Rate.Low,zcN⟩:Span)
 (⟨(0:Int),zcN⟩:Span))
def zBg (l_a0:(Sl FluxRow)) (zcN:Int) (iv3:Int):Bool :=
  (cond (decide (iv3 < (l_a0.len : Int)))
 (decide ((0<=iv3/\iv3 < (l_a0.len:Int))) &&
 true)
 true)
theorem zJV (hs:zBg l_a0 zcN iv3=true) (hk:K (e79 (zBf l_a0 zcN iv3))):z79 K [1,1,1,1,0,1] [] ⟨[(0,zS zbt 3 l_a0),(4,zp 4 0),(5,zp 5 0),(7,zI iv3)],[(4,.box 32 (zm (za2 (⟨(0:Int),(0:Int)⟩:Span)))),(5,.box 32 (zm (za2 (⟨(0:Int),zcN⟩:Span))))],[]⟩:=zaK (by kernel_rfl) (zc hs hk (λ hs hk=>(zaX hs λ hc hs=>And.intro hc hk)) (λ hs hk=>hk))
def zBh (l_a0:(Sl FluxRow)) (t:Span) (zcN:Int):Span :=
  (zBf l_a0 zcN (zF0 t l_a0))
def zBi (l_a0:(Sl FluxRow)) (t:Span) (zcN:Int):Bool :=
  (decide ((zJS t l_a0=true)) &&
 (zBg l_a0 zcN (zF0 t l_a0)))
theorem zJW (hs:zBi l_a0 t zcN=true) (hk:K (e79 (zBh l_a0 t zcN))):z79 K [1,1,1,1] [] ⟨[(0,zS zbt 3 l_a0),(3,zp 3 0),(4,zp 4 0),(5,zp 5 0)],[(3,.fbox (za2 t)),(4,.box 32 (zm (za2 (⟨(0:Int),(0:Int)⟩:Span)))),(5,.box 32 (zm (za2 (⟨(0:Int),zcN⟩:Span))))],[]⟩:=zaK (by kernel_rfl) (zaX hs λ hc hs=>And.intro (And.intro (zE zbt 3 l_a0.get) hc) (zJV hs hk))
def zuC (l_a0:(Sl FluxRow)) (t:Span) (zcN:Int):Span :=
  (cond (t.High == (-1:Int))
 (⟨(0:Int),zcN⟩:Span)
 (zBh l_a0 t zcN))
def zuD (l_a0:(Sl FluxRow)) (t:Span) (zcN:Int):Bool :=
  (cond (t.High == (-1:Int))
 true
 (zBi l_a0 t zcN))
theorem zBj (hs:zuD l_a0 t zcN=true) (hk:K (e79 (zuC l_a0 t zcN))):z79 K [1,1,1] [] ⟨[(0,zS zbt 3 l_a0),(3,zp 3 0),(4,zp 4 0),(5,zp 5 0)],[(3,.fbox (za2 t)),(4,.box 32 (zm (za2 (⟨(0:Int),(0:Int)⟩:Span)))),(5,.box 32 (zm (za2 (⟨(0:Int),zcN⟩:Span))))],[]⟩:=zaK (by kernel_rfl) (zc hs hk (λ hs hk=>hk) (λ hs hk=>(zJW hs hk)))
def zBk (l_a0:(Sl FluxRow)) (t:Span) (iv0:Int):Span :=
  (cond (decide (iv0 > (0:Int)))
 (zuC l_a0 t ((l_a0.get ((w64 (iv0 - (1:Int))).toNat)).Rate.High))
 (zuC l_a0 t ((l_a0.get 0).Rate.High)))
def zBl (l_a0:(Sl FluxRow)) (t:Span) (iv0:Int):Bool :=
  (cond (decide (iv0 > (0:Int)))
 (decide ((0<=(w64 (iv0 - (1:Int)))/\(w64 (iv0 - (1:Int))) < (l_a0.len:Int))) &&
 (zuD l_a0 t ((l_a0.get ((w64 (iv0 - (1:Int))).toNat)).Rate.High)))
 (zuD l_a0 t ((l_a0.get 0).Rate.High)))
theorem zJX (hs:zBl l_a0 t iv0=true) (hk:K (e79 (zBk l_a0 t iv0))):z79 K [1,1,0,1] [] ⟨[(0,zS zbt 3 l_a0),(3,zp 3 0),(4,zp 4 0),(5,zp 5 0),(6,zI iv0)],[(3,.fbox (za2 t)),(4,.box 32 (zm (za2 (⟨(0:Int),(0:Int)⟩:Span)))),(5,.box 32 (zm (za2 (⟨(0:Int),(l_a0.get 0).Rate.High⟩:Span))))],[]⟩:=zaK (by kernel_rfl) (zc hs hk (λ hs hk=>(zaX hs λ hc hs=>And.intro hc (zBj hs hk))) (λ hs hk=>(zBj hs hk)))
def s79 (l_a0:(Sl FluxRow)) (t:Span):Span :=
  (zBk l_a0 t (zRR t l_a0))
def p79 (l_a0:(Sl FluxRow)) (t:Span):Bool :=
  (decide ((0<=(0:Int)/\(0:Int) < (l_a0.len:Int))) &&
 (decide ((zSF t l_a0=true)) &&
 (zBl l_a0 t (zRR t l_a0))))
end
theorem q79 (l_a0:(Sl FluxRow)) (t:Span) (K:List PA->Prop) (hs:p79 l_a0 t=true) (hk:K (e79 (s79 l_a0 t))):vcFun Tryd.prog G79 zJU 79 [.one (.sl l_a0.len 3 (λ i=>zbt (l_a0.get i))),.agg (za2 t)] K :=
  zaK (by kernel_rfl) (zaX hs λ hc hs=>And.intro hc (zaX hs λ hc hs=>And.intro (And.intro (zE zbt 3 l_a0.get) hc) (zJX hs hk)))
def zF1 : List PA → COut
  | [.one (.sl zdi zfL zdj),.agg [.int .i64 zgd,.int .i64 zeu]]=>.det (IsE zbt 3 zfL zdj/\p79 (⟨zdi,zda zdj⟩:(Sl FluxRow)) (⟨zgd,zeu⟩:Span)=true) [.agg [.int .i64 ((s79 (⟨zdi,zda zdj⟩:(Sl FluxRow)) (⟨zgd,zeu⟩:Span)).Low),.int .i64 ((s79 (⟨zdi,zda zdj⟩:(Sl FluxRow)) (⟨zgd,zeu⟩:Span)).High)]]
  | _=>.no
theorem zOZ:zaj Tryd.prog 79:=⟨_,rfl,rfl,by kernel_rfl⟩
theorem zUM:Ok Tryd.prog 79 zF1:=zbm zSL zOZ λ args K h=>by
  unfold zF1 at h
  split at h
  · rename_i zdi zfL zdj zgd zeu
    obtain⟨⟨⟨rfl,zd4,rfl⟩,hs⟩,hk⟩:=h
    try rw[zck zd4] at hs
    try rw[zck zd4] at hk
    exact⟨(λ _ _=>[]),(λ _=>false),zJU,q79 (⟨zdi,zd4⟩:(Sl FluxRow)) (⟨zgd,zeu⟩:Span) K hs hk⟩
  · exact h.elim
abbrev zUN:Tabs:=Tabs.nil
theorem zO0:TabsOk Tryd.prog zUN:=TabsOk.nil
abbrev zVJ:Ctrs:=csm zUN (λ _ _=>[]) (λ _=>false)
def zHF:Ann:=⟨9,[(0,zK [1,2] [2]),(1,zK [3] [])],
 [],
 [],
 [],[]⟩
abbrev zVK:=Bool
abbrev zVL (r:zVK):List PA:=[.one (.bool r)]
section
variable {K:List PA->Prop}{c0:Int}{r_a0:RangeRow}
def zRS (c0:Int) (r_a0:RangeRow):Bool :=
  (decide (r_a0.Range.High >= c0))
end
theorem zVM (c0:Int) (r_a0:RangeRow) (K:List PA->Prop) (hk:K (zVL (zRS c0 r_a0))):vcFun Tryd.prog zVJ zHF 113 [.agg (za6 r_a0),.one (.fp (enc_3 c0) 0)] K :=
  zaK (by kernel_rfl) hk
def zBm : List PA → COut
  | [.agg [.int .i64 zbj,.int .i64 zbL,.int .i64 zbF],.one (.fp [.int .i64 c0] 0)]=>.tot [.one (.bool (zRS c0 (⟨zbj,(⟨zbL,zbF⟩:Span)⟩:RangeRow)))]
  | _=>.no
theorem zJY:zaj Tryd.prog 113:=⟨_,rfl,rfl,by kernel_rfl⟩
theorem zSM:Ok Tryd.prog 113 zBm:=zbm zO0 zJY λ args K h=>by
  unfold zBm at h
  split at h
  · rename_i zbj zbL zbF c0
    have hk:=h
    exact⟨(λ _ _=>[]),(λ _=>false),zHF,zVM c0 (⟨zbj,(⟨zbL,zbF⟩:Span)⟩:RangeRow) K hk⟩
  · exact h.elim
abbrev zUO:Tabs:=Tabs.nil
theorem zO1:TabsOk Tryd.prog zUO:=TabsOk.nil
abbrev zVN:Ctrs:=csm zUO (λ _ _=>[]) (λ _=>false)
def zHG:Ann:=⟨9,[(0,zK [1,2] [2]),(1,zK [3] [])],
 [],
 [],
 [],[]⟩
abbrev zVO:=Bool
abbrev zVP (r:zVO):List PA:=[.one (.bool r)]
section
variable {K:List PA->Prop}{c0:Int}{r_a0:RangeRow}
def zRT (c0:Int) (r_a0:RangeRow):Bool :=
  (decide (r_a0.Range.Low >= c0))
end
theorem zVQ (c0:Int) (r_a0:RangeRow) (K:List PA->Prop) (hk:K (zVP (zRT c0 r_a0))):vcFun Tryd.prog zVN zHG 114 [.agg (za6 r_a0),.one (.fp (enc_3 c0) 0)] K :=
  zaK (by kernel_rfl) hk
def zBn : List PA → COut
  | [.agg [.int .i64 zbj,.int .i64 zbL,.int .i64 zbF],.one (.fp [.int .i64 c0] 0)]=>.tot [.one (.bool (zRT c0 (⟨zbj,(⟨zbL,zbF⟩:Span)⟩:RangeRow)))]
  | _=>.no
theorem zJZ:zaj Tryd.prog 114:=⟨_,rfl,rfl,by kernel_rfl⟩
theorem zSN:Ok Tryd.prog 114 zBn:=zbm zO1 zJZ λ args K h=>by
  unfold zBn at h
  split at h
  · rename_i zbj zbL zbF c0
    have hk:=h
    exact⟨(λ _ _=>[]),(λ _=>false),zHG,zVQ c0 (⟨zbj,(⟨zbL,zbF⟩:Span)⟩:RangeRow) K hk⟩
  · exact h.elim
abbrev zSO:Tabs:=((Tabs.nil.addF 113 zBm).addF 114 zBn)
theorem zO2:TabsOk Tryd.prog zSO:=((TabsOk.nil.addF zSM).addF zSN)
abbrev zUP:Ctrs:=csm zSO (λ _ _=>[]) (λ _=>false)
def zBo:Ann:=⟨19,[(0,zK [0,1] []),(1,zK [0,1,7,8] []),(2,zK [0,1,7,8,9] []),(3,zK [0,1,5,7,8] []),(4,zK [0,1,5,7,8,16] []),(5,zK [4] []),(6,zK [0,1,7,8] []),(7,zK [4] [])],
 [(2,zK [0,1,7,8] [])],
 [(5,zK [0,1,5,7,8,16] [])],
 [],[]⟩
abbrev zVR:=Int
abbrev zRU (r:zVR):List PA:=[.one (.int .i64 r)]
@[irreducible] def z123:=ptF Tryd.prog zUP zBo Tryd.f123
def zBp (c0:Int) (sv0:(Sl RangeRow)) (zbX:Int) (zaY:Int) (zcb:Nat->List PV):St:=⟨[(0,zP (.sl sv0.len 3 zcb)),(1,zP (.fn 113 [] [.fp (enc_3 c0) 0])),(7,zI zbX),(8,zI zaY)],[],[]⟩
abbrev zBq (K:List PA->Prop) (c0:Int) (X:St->Prop) (P:(Sl RangeRow)->Int->Int->Bool) (S:(Sl RangeRow)->Int->Int->Int):Prop:=∀ ⦃sv0:(Sl RangeRow)⦄ ⦃zbX:Int⦄ ⦃zaY:Int⦄ ⦃zcb:Nat->List PV⦄,P sv0 zbX zaY=true->K (zRU (S sv0 zbX zaY))->zcb=zg za6 sv0->X (zBp c0 sv0 zbX zaY zcb)
section
variable {K:List PA->Prop}{c0:Int}{s:(Sl RangeRow)}{sv0:(Sl RangeRow)}{zbX:Int}{zaY:Int}{zcb:Nat->List PV}{X0:St->Prop}{P0:(Sl RangeRow)->Int->Int->Bool}{S0:(Sl RangeRow)->Int->Int->Int}{sv1:(Sl RangeRow)}{iv1:Int}{zfg:Int}{zet:Int}{zdc:Bool}{zd3:Nat->List PV}
def zxv (S0:(Sl RangeRow)->Int->Int->Int) (c0:Int) (sv1:(Sl RangeRow)) (iv1:Int) (zfg:Int) (zet:Int) (zdc:Bool):Int :=
  (cond zdc
 iv1
 (S0 sv1 zfg (w64 (zet+(1:Int)))))
def zxw (P0:(Sl RangeRow)->Int->Int->Bool) (c0:Int) (sv1:(Sl RangeRow)) (iv1:Int) (zfg:Int) (zet:Int) (zdc:Bool):Bool :=
  (cond zdc
 true
 (P0 sv1 zfg (w64 (zet+(1:Int)))))
theorem zF2 (hX0:zBq K c0 X0 P0 S0) (hs:zxw P0 c0 sv1 iv1 zfg zet zdc=true) (hk:K (zRU (zxv S0 c0 sv1 iv1 zfg zet zdc))) (zgA:zd3=zg za6 sv1):z123 K [1,0,1,0,0,1,1,0,0,1,1] [X0] ⟨[(0,zP (.sl sv1.len 3 zd3)),(1,zP (.fn 113 [] [.fp (enc_3 c0) 0])),(5,zI iv1),(7,zI zfg),(8,zI zet),(16,zB zdc)],[],[]⟩:=by subst zgA;exact zaK (by kernel_rfl) (zc hs hk (λ hs hk=>hk) (λ hs hk=>(hX0 hs hk rfl)))
def zxx (c0:Int) (S0:(Sl RangeRow)->Int->Int->Int) (sv0:(Sl RangeRow)) (zbX:Int) (zaY:Int):Int :=
  (cond (decide (zaY < zbX))
 (zxv S0 c0 sv0 zaY zbX zaY (zRS c0 (sv0.get zaY.toNat)))
 (-1:Int))
def zxy (c0:Int) (P0:(Sl RangeRow)->Int->Int->Bool) (sv0:(Sl RangeRow)) (zbX:Int) (zaY:Int):Bool :=
  (cond (decide (zaY < zbX))
 (decide ((0<=zaY/\zaY < (sv0.len:Int))) &&
 (zxw P0 c0 sv0 zaY zbX zaY (zRS c0 (sv0.get zaY.toNat))))
 true)
def zxz (c0:Int):Nat->(Sl RangeRow)->Int->Int->Int:=lpO (λ _ _ _=>default) (zxx c0)
def zxA (c0:Int):Nat->(Sl RangeRow)->Int->Int->Bool:=lpO (λ _ _ _=>false) (zxy c0)
def zxB (c0:Int) (sv0:(Sl RangeRow)) (zbX:Int) (zaY:Int):Int:=zxz c0 Fuel sv0 zbX zaY
def zxC (c0:Int) (sv0:(Sl RangeRow)) (zbX:Int) (zaY:Int):Bool:=zxA c0 Fuel sv0 zbX zaY
theorem zF3 (hs:zxC c0 sv0 zbX zaY=true) (hk:K (zRU (zxB c0 sv0 zbX zaY))) (zdN:zcb=zg za6 sv0):z123 K [1,0,1,0] [] (zBp c0 sv0 zbX zaY zcb) :=
  zl (λ X=>z123 K [1,0,1,0,0] [X]) (by kernel_rfl) λ X0 hX =>
  (show ∀ k, zBq K c0 X0 (zxA c0 k) (zxz c0 k) from zgc _ _ (zxy c0) (zxx c0) (zBq K c0 X0)
 (by intro _ _ _ _ hs;exact absurd hs dqk)
 (by intro P0 S0 hX0 sv0 zbX zaY zcb hs hk zdN;subst zdN;exact hX _ (zaK (by kernel_rfl) (zc hs hk (λ hs hk=>(zaX hs λ hc hs=>And.intro hc (zF2 hX0 hs hk rfl))) (λ hs hk=>hk))))) _ hs hk zdN
def zRV (c0:Int) (s:(Sl RangeRow)):Int :=
  (zxB c0 s (s.len:Int) (0:Int))
def zSP (c0:Int) (s:(Sl RangeRow)):Bool :=
  (zxC c0 s (s.len:Int) (0:Int))
end
theorem zVS (c0:Int) (s:(Sl RangeRow)) (K:List PA->Prop) (hs:zSP c0 s=true) (hk:K (zRU (zRV c0 s))):vcFun Tryd.prog zUP zBo 123 [.one (.sl s.len 3 (λ i=>za6 (s.get i))),.one (.fn 113 [] [.fp (enc_3 c0) 0])] K :=
  zaK (by kernel_rfl) (zF3 hs hk rfl)
abbrev zO3:Ctrs:=csm zSO (λ _ _=>[]) (λ _=>false)
def zuE:Ann:=⟨19,[(0,zK [0,1] []),(1,zK [0,1,7,8] []),(2,zK [0,1,7,8,9] []),(3,zK [0,1,5,7,8] []),(4,zK [0,1,5,7,8,16] []),(5,zK [4] []),(6,zK [0,1,7,8] []),(7,zK [4] [])],
 [(2,zK [0,1,7,8] [])],
 [(5,zK [0,1,5,7,8,16] [])],
 [],[]⟩
abbrev zSQ:=Int
abbrev zF4 (r:zSQ):List PA:=[.one (.int .i64 r)]
@[irreducible] def z123a:=ptF Tryd.prog zO3 zuE Tryd.f123
def zxD (c0:Int) (sv0:(Sl RangeRow)) (zbX:Int) (zaY:Int) (zcb:Nat->List PV):St:=⟨[(0,zP (.sl sv0.len 3 zcb)),(1,zP (.fn 114 [] [.fp (enc_3 c0) 0])),(7,zI zbX),(8,zI zaY)],[],[]⟩
abbrev zuF (K:List PA->Prop) (c0:Int) (X:St->Prop) (P:(Sl RangeRow)->Int->Int->Bool) (S:(Sl RangeRow)->Int->Int->Int):Prop:=∀ ⦃sv0:(Sl RangeRow)⦄ ⦃zbX:Int⦄ ⦃zaY:Int⦄ ⦃zcb:Nat->List PV⦄,P sv0 zbX zaY=true->K (zF4 (S sv0 zbX zaY))->zcb=zg za6 sv0->X (zxD c0 sv0 zbX zaY zcb)
section
variable {K:List PA->Prop}{c0:Int}{s:(Sl RangeRow)}{sv0:(Sl RangeRow)}{zbX:Int}{zaY:Int}{zcb:Nat->List PV}{X0:St->Prop}{P0:(Sl RangeRow)->Int->Int->Bool}{S0:(Sl RangeRow)->Int->Int->Int}{sv1:(Sl RangeRow)}{iv1:Int}{zfg:Int}{zet:Int}{zdc:Bool}{zd3:Nat->List PV}
def zr7 (S0:(Sl RangeRow)->Int->Int->Int) (c0:Int) (sv1:(Sl RangeRow)) (iv1:Int) (zfg:Int) (zet:Int) (zdc:Bool):Int :=
  (cond zdc
 iv1
 (S0 sv1 zfg (w64 (zet+(1:Int)))))
def zr8 (P0:(Sl RangeRow)->Int->Int->Bool) (c0:Int) (sv1:(Sl RangeRow)) (iv1:Int) (zfg:Int) (zet:Int) (zdc:Bool):Bool :=
  (cond zdc
 true
 (P0 sv1 zfg (w64 (zet+(1:Int)))))
theorem zBr (hX0:zuF K c0 X0 P0 S0) (hs:zr8 P0 c0 sv1 iv1 zfg zet zdc=true) (hk:K (zF4 (zr7 S0 c0 sv1 iv1 zfg zet zdc))) (zgA:zd3=zg za6 sv1):z123a K [1,0,1,0,0,1,1,0,0,1,1] [X0] ⟨[(0,zP (.sl sv1.len 3 zd3)),(1,zP (.fn 114 [] [.fp (enc_3 c0) 0])),(5,zI iv1),(7,zI zfg),(8,zI zet),(16,zB zdc)],[],[]⟩:=by subst zgA;exact zaK (by kernel_rfl) (zc hs hk (λ hs hk=>hk) (λ hs hk=>(hX0 hs hk rfl)))
def zr9 (c0:Int) (S0:(Sl RangeRow)->Int->Int->Int) (sv0:(Sl RangeRow)) (zbX:Int) (zaY:Int):Int :=
  (cond (decide (zaY < zbX))
 (zr7 S0 c0 sv0 zaY zbX zaY (zRT c0 (sv0.get zaY.toNat)))
 (-1:Int))
def zsa (c0:Int) (P0:(Sl RangeRow)->Int->Int->Bool) (sv0:(Sl RangeRow)) (zbX:Int) (zaY:Int):Bool :=
  (cond (decide (zaY < zbX))
 (decide ((0<=zaY/\zaY < (sv0.len:Int))) &&
 (zr8 P0 c0 sv0 zaY zbX zaY (zRT c0 (sv0.get zaY.toNat))))
 true)
def zsb (c0:Int):Nat->(Sl RangeRow)->Int->Int->Int:=lpO (λ _ _ _=>default) (zr9 c0)
def zsc (c0:Int):Nat->(Sl RangeRow)->Int->Int->Bool:=lpO (λ _ _ _=>false) (zsa c0)
def zsd (c0:Int) (sv0:(Sl RangeRow)) (zbX:Int) (zaY:Int):Int:=zsb c0 Fuel sv0 zbX zaY
def zse (c0:Int) (sv0:(Sl RangeRow)) (zbX:Int) (zaY:Int):Bool:=zsc c0 Fuel sv0 zbX zaY
theorem zBs (hs:zse c0 sv0 zbX zaY=true) (hk:K (zF4 (zsd c0 sv0 zbX zaY))) (zdN:zcb=zg za6 sv0):z123a K [1,0,1,0] [] (zxD c0 sv0 zbX zaY zcb) :=
  zl (λ X=>z123a K [1,0,1,0,0] [X]) (by kernel_rfl) λ X0 hX =>
  (show ∀ k, zuF K c0 X0 (zsc c0 k) (zsb c0 k) from zgc _ _ (zsa c0) (zr9 c0) (zuF K c0 X0)
 (by intro _ _ _ _ hs;exact absurd hs dqk)
 (by intro P0 S0 hX0 sv0 zbX zaY zcb hs hk zdN;subst zdN;exact hX _ (zaK (by kernel_rfl) (zc hs hk (λ hs hk=>(zaX hs λ hc hs=>And.intro hc (zBr hX0 hs hk rfl))) (λ hs hk=>hk))))) _ hs hk zdN
def zF5 (c0:Int) (s:(Sl RangeRow)):Int :=
  (zsd c0 s (s.len:Int) (0:Int))
def zJ0 (c0:Int) (s:(Sl RangeRow)):Bool :=
  (zse c0 s (s.len:Int) (0:Int))
end
theorem zSR (c0:Int) (s:(Sl RangeRow)) (K:List PA->Prop) (hs:zJ0 c0 s=true) (hk:K (zF4 (zF5 c0 s))):vcFun Tryd.prog zO3 zuE 123 [.one (.sl s.len 3 (λ i=>za6 (s.get i))),.one (.fn 114 [] [.fp (enc_3 c0) 0])] K :=
  zaK (by kernel_rfl) (zBs hs hk rfl)
def zBt : List PA → COut
  | [.one (.sl zdi zfL zdj),.one (.fn 113 [] [.fp [.int .i64 c0] 0])]=>.det (IsE za6 3 zfL zdj/\zSP c0 (⟨zdi,zbW zdj⟩:(Sl RangeRow))=true) [.one (.int .i64 (zRV c0 (⟨zdi,zbW zdj⟩:(Sl RangeRow))))]
  | [.one (.sl zdi zfL zdj),.one (.fn 114 [] [.fp [.int .i64 c0] 0])]=>.det (IsE za6 3 zfL zdj/\zJ0 c0 (⟨zdi,zbW zdj⟩:(Sl RangeRow))=true) [.one (.int .i64 (zF5 c0 (⟨zdi,zbW zdj⟩:(Sl RangeRow))))]
  | _=>.no
theorem zJ1:zaj Tryd.prog 123:=⟨_,rfl,rfl,by kernel_rfl⟩
theorem zSS:Ok Tryd.prog 123 zBt:=zbm zO2 zJ1 λ args K h=>by
  unfold zBt at h
  split at h
  · rename_i zdi zfL zdj c0
    obtain⟨⟨⟨rfl,zd4,rfl⟩,hs⟩,hk⟩:=h
    try rw[zbn zd4] at hs
    try rw[zbn zd4] at hk
    exact⟨(λ _ _=>[]),(λ _=>false),zBo,zVS c0 (⟨zdi,zd4⟩:(Sl RangeRow)) K hs hk⟩
  · rename_i zdi zfL zdj c0
    obtain⟨⟨⟨rfl,zd4,rfl⟩,hs⟩,hk⟩:=h
    try rw[zbn zd4] at hs
    try rw[zbn zd4] at hk
    exact⟨(λ _ _=>[]),(λ _=>false),zuE,zSR c0 (⟨zdi,zd4⟩:(Sl RangeRow)) K hs hk⟩
  · exact h.elim
abbrev zST:Tabs:=(Tabs.nil.addF 123 zBt)
theorem zO4:TabsOk Tryd.prog zST:=(TabsOk.nil.addF zSS)
abbrev zVT:Ctrs:=csm zST (λ _ _=>[]) (λ _=>false)
def zHH:Ann:=⟨14,[(0,zK [0,1] []),(1,zK [0,5] []),(2,zK [0,5,10] []),(3,zK [4] []),(4,zK [4] [])],
 [],
 [],
 [],[]⟩
abbrev zVU:=Int
abbrev zVV (r:zVU):List PA:=[.one (.int .i64 r)]
section
variable {K:List PA->Prop}{c0:Int}{rows:(Sl RangeRow)}
def zRW (c0:Int) (rows:(Sl RangeRow)):Int :=
  (cond (decide ((zRV c0 rows) >= (0:Int)))
 (zRV c0 rows)
 (rows.len:Int))
def zSU (c0:Int) (rows:(Sl RangeRow)):Bool :=
  (decide ((zSP c0 rows=true)) &&
 true)
end
theorem zVW (c0:Int) (rows:(Sl RangeRow)) (K:List PA->Prop) (hs:zSU c0 rows=true) (hk:K (zVV (zRW c0 rows))):vcFun Tryd.prog zVT zHH 112 [.one (.sl rows.len 3 (λ i=>za6 (rows.get i))),.one (.fn 113 [] [.fp (enc_3 c0) 0])] K :=
  zaK (by kernel_rfl) (zaX hs λ hc hs=>And.intro (And.intro (zE za6 3 rows.get) hc) (zt hk (λ hk=>hk) (λ hk=>hk)))
abbrev zSV:Ctrs:=csm zST (λ _ _=>[]) (λ _=>false)
def zBu:Ann:=⟨14,[(0,zK [0,1] []),(1,zK [0,5] []),(2,zK [0,5,10] []),(3,zK [4] []),(4,zK [4] [])],
 [],
 [],
 [],[]⟩
abbrev zSW:=Int
abbrev zSX (r:zSW):List PA:=[.one (.int .i64 r)]
section
variable {K:List PA->Prop}{c0:Int}{rows:(Sl RangeRow)}
def zF6 (c0:Int) (rows:(Sl RangeRow)):Int :=
  (cond (decide ((zF5 c0 rows) >= (0:Int)))
 (zF5 c0 rows)
 (rows.len:Int))
def zJ2 (c0:Int) (rows:(Sl RangeRow)):Bool :=
  (decide ((zJ0 c0 rows=true)) &&
 true)
end
theorem zSY (c0:Int) (rows:(Sl RangeRow)) (K:List PA->Prop) (hs:zJ2 c0 rows=true) (hk:K (zSX (zF6 c0 rows))):vcFun Tryd.prog zSV zBu 112 [.one (.sl rows.len 3 (λ i=>za6 (rows.get i))),.one (.fn 114 [] [.fp (enc_3 c0) 0])] K :=
  zaK (by kernel_rfl) (zaX hs λ hc hs=>And.intro (And.intro (zE za6 3 rows.get) hc) (zt hk (λ hk=>hk) (λ hk=>hk)))
def zBv : List PA → COut
  | [.one (.sl zdi zfL zdj),.one (.fn 113 [] [.fp [.int .i64 c0] 0])]=>.det (IsE za6 3 zfL zdj/\zSU c0 (⟨zdi,zbW zdj⟩:(Sl RangeRow))=true) [.one (.int .i64 (zRW c0 (⟨zdi,zbW zdj⟩:(Sl RangeRow))))]
  | [.one (.sl zdi zfL zdj),.one (.fn 114 [] [.fp [.int .i64 c0] 0])]=>.det (IsE za6 3 zfL zdj/\zJ2 c0 (⟨zdi,zbW zdj⟩:(Sl RangeRow))=true) [.one (.int .i64 (zF6 c0 (⟨zdi,zbW zdj⟩:(Sl RangeRow))))]
  | _=>.no
theorem zJ3:zaj Tryd.prog 112:=⟨_,rfl,rfl,by kernel_rfl⟩
theorem zSZ:Ok Tryd.prog 112 zBv:=zbm zO4 zJ3 λ args K h=>by
  unfold zBv at h
  split at h
  · rename_i zdi zfL zdj c0
    obtain⟨⟨⟨rfl,zd4,rfl⟩,hs⟩,hk⟩:=h
    try rw[zbn zd4] at hs
    try rw[zbn zd4] at hk
    exact⟨(λ _ _=>[]),(λ _=>false),zHH,zVW c0 (⟨zdi,zd4⟩:(Sl RangeRow)) K hs hk⟩
  · rename_i zdi zfL zdj c0
    obtain⟨⟨⟨rfl,zd4,rfl⟩,hs⟩,hk⟩:=h
    try rw[zbn zd4] at hs
    try rw[zbn zd4] at hk
    exact⟨(λ _ _=>[]),(λ _=>false),zBu,zSY c0 (⟨zdi,zd4⟩:(Sl RangeRow)) K hs hk⟩
  · exact h.elim
abbrev T80:Tabs:=(Tabs.nil.addF 112 zBv)
theorem zS0:TabsOk Tryd.prog T80:=(TabsOk.nil.addF zSZ)
abbrev G80:Ctrs:=csm T80 (λ _ _=>[]) (λ _=>false)
def zJ4:Ann:=⟨40,[(0,zK [0,3,4] [3,4]),(1,zK [0,3,4,5] [3,4,5]),(2,zK [0,3,4,5,10] [3,4,5]),(3,zK [4] [4]),(4,zK [0,3,4,5,6] [3,4,5]),(5,zK [0,3,4,5,6,16] [3,4,5]),(6,zK [0,3,4,5] [3,4,5]),(7,zK [0,3,4,5] [3,4,5]),(8,zK [0,4,5,7] [4,5]),(9,zK [0,4,5,7,32] [4,5]),(10,zK [4,5] [4,5]),(11,zK [4] [4])],
 [],
 [(4,zK [0,3,4,5] [3,4,5]),(5,zK [0,3,4,5,6] [3,4,5]),(7,zK [0,3,4,5] [3,4,5]),(9,zK [0,4,5,7] [4,5])],
 [],[]⟩
abbrev R80:=Span
abbrev e80 (r:R80):List PA:=[.agg [.int .i64 r.Low,.int .i64 r.High]]
@[irreducible] def z80:=ptF Tryd.prog G80 zJ4 Tryd.f80
section
variable {K:List PA->Prop}{t:(Sl RangeRow)}{opacity:Int}{iv1:Int}{zd5:Int}{iv3:Int}
def zBw (t:(Sl RangeRow)) (zd5:Int) (iv3:Int):Span :=
  (cond (decide (iv3 < (t.len : Int)))
 (⟨zd5,(t.get iv3.toNat).Energy⟩:Span)
 (⟨zd5,(-1:Int)⟩:Span))
def zBx (t:(Sl RangeRow)) (zd5:Int) (iv3:Int):Bool :=
  (cond (decide (iv3 < (t.len : Int)))
 (decide ((0<=iv3/\iv3 < (t.len:Int))) &&
 true)
 true)
theorem zJ5 (hs:zBx t zd5 iv3=true) (hk:K (e80 (zBw t zd5 iv3))):z80 K [1,1,1,1,1,0,1] [] ⟨[(0,zS za6 3 t),(4,zp 4 0),(5,zp 5 0),(7,zI iv3)],[(4,.box 32 (zm (za2 (⟨(0:Int),(0:Int)⟩:Span)))),(5,.box 32 (zm (za2 (⟨zd5,(-1:Int)⟩:Span))))],[]⟩:=zaK (by kernel_rfl) (zc hs hk (λ hs hk=>(zaX hs λ hc hs=>And.intro hc hk)) (λ hs hk=>hk))
def zuG (t:(Sl RangeRow)) (opacity:Int) (zd5:Int):Span :=
  (zBw t zd5 (zF6 opacity t))
def zuH (t:(Sl RangeRow)) (opacity:Int) (zd5:Int):Bool :=
  (decide ((zJ2 opacity t=true)) &&
 (zBx t zd5 (zF6 opacity t)))
theorem zBy (hs:zuH t opacity zd5=true) (hk:K (e80 (zuG t opacity zd5))):z80 K [1,1,1,1] [] ⟨[(0,zS za6 3 t),(3,zp 3 0),(4,zp 4 0),(5,zp 5 0)],[(3,.fbox [.int .i64 opacity]),(4,.box 32 (zm (za2 (⟨(0:Int),(0:Int)⟩:Span)))),(5,.box 32 (zm (za2 (⟨zd5,(1:Int)⟩:Span))))],[]⟩:=zaK (by kernel_rfl) (zaX hs λ hc hs=>And.intro (And.intro (zE za6 3 t.get) hc) (zJ5 hs hk))
def zBz (t:(Sl RangeRow)) (opacity:Int) (iv1:Int):Span :=
  (cond (decide (iv1 > (0:Int)))
 (zuG t opacity (w64 ((t.get ((w64 (iv1 - (1:Int))).toNat)).Energy+(1:Int))))
 (zuG t opacity (1:Int)))
def zBA (t:(Sl RangeRow)) (opacity:Int) (iv1:Int):Bool :=
  (cond (decide (iv1 > (0:Int)))
 (decide ((0<=(w64 (iv1 - (1:Int)))/\(w64 (iv1 - (1:Int))) < (t.len:Int))) &&
 (zuH t opacity (w64 ((t.get ((w64 (iv1 - (1:Int))).toNat)).Energy+(1:Int)))))
 (zuH t opacity (1:Int)))
theorem zJ6 (hs:zBA t opacity iv1=true) (hk:K (e80 (zBz t opacity iv1))):z80 K [1,1,1,0,1] [] ⟨[(0,zS za6 3 t),(3,zp 3 0),(4,zp 4 0),(5,zp 5 0),(6,zI iv1)],[(3,.fbox [.int .i64 opacity]),(4,.box 32 (zm (za2 (⟨(0:Int),(0:Int)⟩:Span)))),(5,.box 32 (zm (za2 (⟨(1:Int),(1:Int)⟩:Span))))],[]⟩:=zaK (by kernel_rfl) (zc hs hk (λ hs hk=>(zaX hs λ hc hs=>And.intro hc (zBy hs hk))) (λ hs hk=>(zBy hs hk)))
def zBB (t:(Sl RangeRow)) (opacity:Int):Span :=
  (zBz t opacity (zRW opacity t))
def zBC (t:(Sl RangeRow)) (opacity:Int):Bool :=
  (decide ((zSU opacity t=true)) &&
 (zBA t opacity (zRW opacity t)))
theorem zJ7 (hs:zBC t opacity=true) (hk:K (e80 (zBB t opacity))):z80 K [1,1,1] [] ⟨[(0,zS za6 3 t),(3,zp 3 0),(4,zp 4 0),(5,zp 5 0)],[(3,.box 3 [zi opacity]),(4,.box 32 (zm (za2 (⟨(0:Int),(0:Int)⟩:Span)))),(5,.box 32 (zm (za2 (⟨(1:Int),(1:Int)⟩:Span))))],[]⟩:=zaK (by kernel_rfl) (zaX hs λ hc hs=>And.intro (And.intro (zE za6 3 t.get) hc) (zJ6 hs hk))
def s80 (t:(Sl RangeRow)) (opacity:Int):Span :=
  (cond (opacity == (0:Int))
 (⟨(1:Int),(1:Int)⟩:Span)
 (zBB t opacity))
def p80 (t:(Sl RangeRow)) (opacity:Int):Bool :=
  (cond (opacity == (0:Int))
 true
 (zBC t opacity))
end
theorem q80 (t:(Sl RangeRow)) (opacity:Int) (K:List PA->Prop) (hs:p80 t opacity=true) (hk:K (e80 (s80 t opacity))):vcFun Tryd.prog G80 zJ4 80 [.one (.sl t.len 3 (λ i=>za6 (t.get i))),.one (.int .i64 opacity)] K :=
  zaK (by kernel_rfl) (zc hs hk (λ hs hk=>hk) (λ hs hk=>(zJ7 hs hk)))
def zF7 : List PA → COut
  | [.one (.sl zdi zfL zdj),.one (.int .i64 a1)]=>.det (IsE za6 3 zfL zdj/\p80 (⟨zdi,zbW zdj⟩:(Sl RangeRow)) a1=true) [.agg [.int .i64 ((s80 (⟨zdi,zbW zdj⟩:(Sl RangeRow)) a1).Low),.int .i64 ((s80 (⟨zdi,zbW zdj⟩:(Sl RangeRow)) a1).High)]]
  | _=>.no
theorem zO5:zaj Tryd.prog 80:=⟨_,rfl,rfl,by kernel_rfl⟩
theorem zUQ:Ok Tryd.prog 80 zF7:=zbm zS0 zO5 λ args K h=>by
  unfold zF7 at h
  split at h
  · rename_i zdi zfL zdj a1
    obtain⟨⟨⟨rfl,zd4,rfl⟩,hs⟩,hk⟩:=h
    try rw[zbn zd4] at hs
    try rw[zbn zd4] at hk
    exact⟨(λ _ _=>[]),(λ _=>false),zJ4,q80 (⟨zdi,zd4⟩:(Sl RangeRow)) a1 K hs hk⟩
  · exact h.elim
def ziz (s:Sky) (t:Sl RangeRow) (bin:Int) (j:Int):List Int:=[(s79 (s.Bins.get bin.toNat) (s80 t j)).Low,(s79 (s.Bins.get bin.toNat) (s80 t j)).High]
abbrev T54:Tabs:=((Tabs.nil.addF 79 zF1).addF 80 zF7)
theorem zS1:TabsOk Tryd.prog T54:=((TabsOk.nil.addF zUM).addF zUQ)
abbrev G54:Ctrs:=csm T54 (λ _ _=>[]) (λ _=>false)
def zJ8:Ann:=⟨42,[(0,zK [0,1,2,6] [6]),(1,zK [0,1,2,6,7,8] [6,7]),(2,zK [0,1,2,6,7,19] [6,7]),(3,zK [0,2,6,7] [6,7]),(4,zK [6,7] [6,7]),(5,zK [6] [6])],
 [],
 [],
 [],[]⟩
theorem zJ9 (xSky : Sky) (xtable : (Sl RangeRow)) (bin : Int) (opacity : Int) (K : List PA → Prop) :
  vcFun Tryd.prog G54 zJ8 54 [.one (.fp (zg6 (⟨xSky,xtable,(ziz xSky xtable bin)⟩:ground)) 0),.one (.int .i64 bin),.one (.int .i64 opacity)] K =
  ((True)/\(∃ r1:Bool,True)/\∀ r1:Bool,True ->
 (zcr (!r1)
 (((0<=bin/\bin < (xSky.Bins.len:Int))) /\
 ((IsE za6 3 3 (λ i=>za6 (xtable.get i))/\(p80 xtable opacity=true)) /\
 ((IsE zbt 3 3 (λ i=>zbt ((xSky.Bins.get bin.toNat).get i))/\(p79 (xSky.Bins.get bin.toNat) (s80 xtable opacity)=true)) /\
 ((([(s79 (xSky.Bins.get bin.toNat) (s80 xtable opacity)).Low,(s79 (xSky.Bins.get bin.toNat) (s80 xtable opacity)).High]=[(s79 (xSky.Bins.get bin.toNat) (s80 xtable opacity)).Low,(s79 (xSky.Bins.get bin.toNat) (s80 xtable opacity)).High])) /\
 (K [.agg [.int .i64 ((s79 (xSky.Bins.get bin.toNat) (s80 xtable opacity)).Low),.int .i64 ((s79 (xSky.Bins.get bin.toNat) (s80 xtable opacity)).High)]])))))
 (K [.agg [.int .i64 (match r1 with | true=>(s79 (xSky.Bins.get bin.toNat) (s80 xtable opacity)).Low | false=>0),.int .i64 (match r1 with | true=>(s79 (xSky.Bins.get bin.toNat) (s80 xtable opacity)).High | false=>0)]]))):=by kernel_rfl
abbrev R54:=Span
abbrev e54 (r:R54):List PA:=[.agg [.int .i64 r.Low,.int .i64 r.High]]
def s54 (xSky:Sky) (xtable:Sl RangeRow) (bin opacity:Int):R54:=s79 (xSky.Bins.get bin.toNat) (s80 xtable opacity)
def p54 (xSky:Sky) (xtable:Sl RangeRow) (bin opacity:Int):Bool:=decide (0<=bin/\bin < (xSky.Bins.len:Int)) && (p80 xtable opacity && p79 (xSky.Bins.get bin.toNat) (s80 xtable opacity))
theorem q54 (xSky : Sky) (xtable : Sl RangeRow) (bin opacity : Int) (K : List PA → Prop) (hs : p54 xSky xtable bin opacity = true) (hk : K (e54 (s54 xSky xtable bin opacity))) :
    vcFun Tryd.prog G54 zJ8 54 [.one (.fp (zg6 ⟨xSky,xtable,ziz xSky xtable bin⟩) 0),.one (.int .i64 bin),.one (.int .i64 opacity)] K:=by
  refine zaK (zJ9 xSky xtable bin opacity K) ⟨trivial,⟨true,trivial⟩,λ r1 _=>?_⟩
  unfold p54 at hs
  rw[dqm,dqm] at hs
  cases r1
  · exact⟨of_decide_eq_true hs.1,⟨isE,hs.2.1⟩,⟨isE,hs.2.2⟩,rfl,hk⟩
  · exact hk
def zF8 : List PA → COut
  | [.one (.fp [.int .i64 zdY,.sl zdu zjB zdv,.int .i64 zc0,.int .i64 zcO,.int .i64 zcP,.int .i64 zcF,.sl zfh zoB zfi,.mp zxE] 0),.one (.int .i64 a1),.one (.int .i64 a2)]=>.det (IsE zcG 1 zjB zdv/\IsE za6 3 zoB zfi/\zxE=(ziz (⟨zdY,(⟨zdu,zcT zdv⟩:(Sl (Sl FluxRow))),(⟨zc0,zcO⟩:Span),(⟨zcP,zcF⟩:Span)⟩:Sky) (⟨zfh,zbW zfi⟩:(Sl RangeRow)) a1)/\p54 (⟨zdY,(⟨zdu,zcT zdv⟩:(Sl (Sl FluxRow))),(⟨zc0,zcO⟩:Span),(⟨zcP,zcF⟩:Span)⟩:Sky) (⟨zfh,zbW zfi⟩:(Sl RangeRow)) a1 a2=true) [.agg [.int .i64 ((s54 (⟨zdY,(⟨zdu,zcT zdv⟩:(Sl (Sl FluxRow))),(⟨zc0,zcO⟩:Span),(⟨zcP,zcF⟩:Span)⟩:Sky) (⟨zfh,zbW zfi⟩:(Sl RangeRow)) a1 a2).Low),.int .i64 ((s54 (⟨zdY,(⟨zdu,zcT zdv⟩:(Sl (Sl FluxRow))),(⟨zc0,zcO⟩:Span),(⟨zcP,zcF⟩:Span)⟩:Sky) (⟨zfh,zbW zfi⟩:(Sl RangeRow)) a1 a2).High)]]
  | _=>.no
theorem zO6:zaj Tryd.prog 54:=⟨_,rfl,rfl,by kernel_rfl⟩
theorem zUR:Ok Tryd.prog 54 zF8:=zbm zS1 zO6 λ args K h=>by
  unfold zF8 at h
  split at h
  · rename_i zdY zdu zjB zdv zc0 zcO zcP zcF zfh zoB zfi zxE a1 a2
    obtain⟨⟨⟨rfl,ze6,rfl⟩,⟨rfl,zhU,rfl⟩,hF,hs⟩,hk⟩:=h
    try rw[zcU ze6] at hF
    try rw[zcU ze6] at hs
    try rw[zcU ze6] at hk
    try rw[zbn zhU] at hF
    try rw[zbn zhU] at hs
    try rw[zbn zhU] at hk
    subst hF
    exact⟨(λ _ _=>[]),(λ _=>false),zJ8,q54 (⟨zdY,(⟨zdu,ze6⟩:(Sl (Sl FluxRow))),(⟨zc0,zcO⟩:Span),(⟨zcP,zcF⟩:Span)⟩:Sky) (⟨zfh,zhU⟩:(Sl RangeRow)) a1 a2 K hs hk⟩
  · exact h.elim
abbrev T78:Tabs:=Tabs.nil
theorem zS2:TabsOk Tryd.prog T78:=TabsOk.nil
abbrev G78:Ctrs:=csm T78 (λ _ _=>[]) (λ _=>false)
def zO7:Ann:=⟨15,[(0,zK [0,1,2] []),(1,zK [6] [])],
 [],
 [],
 [],[]⟩
abbrev R78:=Bool
abbrev e78 (r:R78):List PA:=[.one (.bool r)]
section
variable {K:List PA->Prop}{n:Int}{low:Int}{high:Int}
def s78 (n:Int) (low:Int) (high:Int):Bool :=
  (cond (decide (n >= low))
 (decide (n<=high))
 false)
end
theorem q78 (n:Int) (low:Int) (high:Int) (K:List PA->Prop) (hk:K (e78 (s78 n low high))):vcFun Tryd.prog G78 zO7 78 [.one (.int .i64 n),.one (.int .i64 low),.one (.int .i64 high)] K :=
  zaK (by kernel_rfl) (zt hk (λ hk=>hk) (λ hk=>hk))
def zuI : List PA → COut
  | [.one (.int .i64 a0),.one (.int .i64 a1),.one (.int .i64 a2)]=>.tot [.one (.bool (s78 a0 a1 a2))]
  | _=>.no
theorem zO8:zaj Tryd.prog 78:=⟨_,rfl,rfl,by kernel_rfl⟩
theorem zO9:Ok Tryd.prog 78 zuI:=zbm zS2 zO8 λ args K h=>by
  unfold zuI at h
  split at h
  · rename_i a0 a1 a2
    have hk:=h
    exact⟨(λ _ _=>[]),(λ _=>false),zO7,q78 a0 a1 a2 K hk⟩
  · exact h.elim
abbrev zUS:Tabs:=(Tabs.nil.addF 78 zuI)
theorem zPa:TabsOk Tryd.prog zUS:=(TabsOk.nil.addF zO9)
abbrev zVX:Ctrs:=csm zUS (λ _ _=>[]) (λ _=>false)
def zHI:Ann:=⟨19,[(0,zK [1,2,3] [3]),(1,zK [6] [])],
 [],
 [],
 [],[]⟩
abbrev zVY:=Bool
abbrev zVZ (r:zVY):List PA:=[.one (.bool r)]
section
variable {K:List PA->Prop}{s:Span}{low:Int}{high:Int}
def zHJ (s:Span) (low:Int) (high:Int):Bool :=
  (cond (s78 s.Low low s.High)
 (decide (s.High<=high))
 false)
end
theorem zV1 (s:Span) (low:Int) (high:Int) (K:List PA->Prop) (hk:K (zVZ (zHJ s low high))):vcFun Tryd.prog zVX zHI 104 [.agg (za2 s),.one (.int .i64 low),.one (.int .i64 high)] K :=
  zaK (by kernel_rfl) (zt hk (λ hk=>hk) (λ hk=>hk))
def zsf : List PA → COut
  | [.agg [.int .i64 zd2,.int .i64 zdb],.one (.int .i64 a1),.one (.int .i64 a2)]=>.tot [.one (.bool (zHJ (⟨zd2,zdb⟩:Span) a1 a2))]
  | _=>.no
theorem zKa:zaj Tryd.prog 104:=⟨_,rfl,rfl,by kernel_rfl⟩
theorem zKb:Ok Tryd.prog 104 zsf:=zbm zPa zKa λ args K h=>by
  unfold zsf at h
  split at h
  · rename_i zd2 zdb a1 a2
    have hk:=h
    exact⟨(λ _ _=>[]),(λ _=>false),zHI,zV1 (⟨zd2,zdb⟩:Span) a1 a2 K hk⟩
  · exact h.elim
abbrev zUT:Tabs:=Tabs.nil
theorem zPb:TabsOk Tryd.prog zUT:=TabsOk.nil
abbrev zV2:Ctrs:=csm zUT (λ _ _=>[]) (λ _=>false)
def zHK:Ann:=⟨5,[(0,zK [1] [1]),(1,zK [2] [])],
 [],
 [],
 [],[]⟩
abbrev zV3:=Int
abbrev zV4 (r:zV3):List PA:=[.one (.int .i64 r)]
section
variable {K:List PA->Prop}{r_a0:FluxRow}
def zHL (r_a0:FluxRow):Int :=
  r_a0.Energy
end
theorem zV5 (r_a0:FluxRow) (K:List PA->Prop) (hk:K (zV4 (zHL r_a0))):vcFun Tryd.prog zV2 zHK 101 [.agg (zbt r_a0)] K :=
  zaK (by kernel_rfl) hk
def zBD : List PA → COut
  | [.agg [.int .i64 zbj,.int .i64 zb4,.int .i64 zbK]]=>.tot [.one (.int .i64 (zHL (⟨zbj,(⟨zb4,zbK⟩:Span)⟩:FluxRow)))]
  | _=>.no
theorem zKc:zaj Tryd.prog 101:=⟨_,rfl,rfl,by kernel_rfl⟩
theorem zS3:Ok Tryd.prog 101 zBD:=zbm zPb zKc λ args K h=>by
  unfold zBD at h
  split at h
  · rename_i zbj zb4 zbK
    have hk:=h
    exact⟨(λ _ _=>[]),(λ _=>false),zHK,zV5 (⟨zbj,(⟨zb4,zbK⟩:Span)⟩:FluxRow) K hk⟩
  · exact h.elim
abbrev zUU:Tabs:=Tabs.nil
theorem zPc:TabsOk Tryd.prog zUU:=TabsOk.nil
abbrev zV6:Ctrs:=csm zUU (λ _ _=>[]) (λ _=>false)
def zHM:Ann:=⟨5,[(0,zK [1,2] [1,2]),(1,zK [2] [2])],
 [],
 [],
 [],[]⟩
abbrev zV7:=Span
abbrev zV8 (r:zV7):List PA:=[.agg [.int .i64 r.Low,.int .i64 r.High]]
section
variable {K:List PA->Prop}{r_a0:FluxRow}
def zF9 (r_a0:FluxRow):Span :=
  r_a0.Rate
end
theorem zV9 (r_a0:FluxRow) (K:List PA->Prop) (hk:K (zV8 (zF9 r_a0))):vcFun Tryd.prog zV6 zHM 102 [.agg (zbt r_a0)] K :=
  zaK (by kernel_rfl) hk
def zBE : List PA → COut
  | [.agg [.int .i64 zbj,.int .i64 zb4,.int .i64 zbK]]=>.tot [.agg [.int .i64 ((zF9 (⟨zbj,(⟨zb4,zbK⟩:Span)⟩:FluxRow)).Low),.int .i64 ((zF9 (⟨zbj,(⟨zb4,zbK⟩:Span)⟩:FluxRow)).High)]]
  | _=>.no
theorem zKd:zaj Tryd.prog 102:=⟨_,rfl,rfl,by kernel_rfl⟩
theorem zS4:Ok Tryd.prog 102 zBE:=zbm zPc zKd λ args K h=>by
  unfold zBE at h
  split at h
  · rename_i zbj zb4 zbK
    have hk:=h
    exact⟨(λ _ _=>[]),(λ _=>false),zHM,zV9 (⟨zbj,(⟨zb4,zbK⟩:Span)⟩:FluxRow) K hk⟩
  · exact h.elim
abbrev zUV:Tabs:=Tabs.nil
theorem zPd:TabsOk Tryd.prog zUV:=TabsOk.nil
abbrev zWa:Ctrs:=csm zUV (λ _ _=>[]) (λ _=>false)
def zHN:Ann:=⟨17,[(0,zK [2,3] [2,3]),(1,zK [4] [])],
 [],
 [],
 [],[]⟩
abbrev zWb:=Bool
abbrev e108 (r:zWb):List PA:=[.one (.bool r)]
section
variable {K:List PA->Prop}{a:Span}{b:Span}
def zPe (a:Span) (b:Span):Bool :=
  (cond (decide (b.Low >= a.Low))
 (decide (b.High >= a.High))
 false)
end
theorem zWc (a:Span) (b:Span) (K:List PA->Prop) (hk:K (e108 (zPe a b))):vcFun Tryd.prog zWa zHN 108 [.agg (za2 a),.agg (za2 b)] K :=
  zaK (by kernel_rfl) (zt hk (λ hk=>hk) (λ hk=>hk))
def zxF : List PA → COut
  | [.agg [.int .i64 zd2,.int .i64 zdb],.agg [.int .i64 zgd,.int .i64 zeu]]=>.tot [.one (.bool (zPe (⟨zd2,zdb⟩:Span) (⟨zgd,zeu⟩:Span)))]
  | _=>.no
theorem zKe:zaj Tryd.prog 108:=⟨_,rfl,rfl,by kernel_rfl⟩
theorem zPf:Ok Tryd.prog 108 zxF:=zbm zPd zKe λ args K h=>by
  unfold zxF at h
  split at h
  · rename_i zd2 zdb zgd zeu
    have hk:=h
    exact⟨(λ _ _=>[]),(λ _=>false),zHN,zWc (⟨zd2,zdb⟩:Span) (⟨zgd,zeu⟩:Span) K hk⟩
  · exact h.elim
abbrev zUW:Tabs:=(Tabs.nil.addF 108 zxF)
theorem zPg:TabsOk Tryd.prog zUW:=(TabsOk.nil.addF zPf)
abbrev zWd:Ctrs:=csm zUW (λ _ _=>[]) (λ _=>false)
def zHO:Ann:=⟨8,[(0,zK [2,3] [2,3]),(1,zK [4] [])],
 [],
 [],
 [],[]⟩
abbrev zWe:=Bool
abbrev zWf (r:zWe):List PA:=[.one (.bool r)]
section
variable {K:List PA->Prop}{a:Span}{b:Span}
def zRX (a:Span) (b:Span):Bool :=
  (zPe b a)
end
theorem zWg (a:Span) (b:Span) (K:List PA->Prop) (hk:K (zWf (zRX a b))):vcFun Tryd.prog zWd zHO 103 [.agg (za2 a),.agg (za2 b)] K :=
  zaK (by kernel_rfl) hk
def zBF : List PA → COut
  | [.agg [.int .i64 zd2,.int .i64 zdb],.agg [.int .i64 zgd,.int .i64 zeu]]=>.tot [.one (.bool (zRX (⟨zd2,zdb⟩:Span) (⟨zgd,zeu⟩:Span)))]
  | _=>.no
theorem zKf:zaj Tryd.prog 103:=⟨_,rfl,rfl,by kernel_rfl⟩
theorem zS5:Ok Tryd.prog 103 zBF:=zbm zPg zKf λ args K h=>by
  unfold zBF at h
  split at h
  · rename_i zd2 zdb zgd zeu
    have hk:=h
    exact⟨(λ _ _=>[]),(λ _=>false),zHO,zWg (⟨zd2,zdb⟩:Span) (⟨zgd,zeu⟩:Span) K hk⟩
  · exact h.elim
abbrev zUX:Tabs:=(((((Tabs.nil.addF 78 zuI).addF 101 zBD).addF 102 zBE).addF 103 zBF).addF 104 zsf)
theorem zPh:TabsOk Tryd.prog zUX:=(((((TabsOk.nil.addF zO9).addF zS3).addF zS4).addF zS5).addF zKb)
abbrev zUY:Ctrs:=csm zUX (λ _ _=>[]) (λ _=>false)
def zBG:Ann:=⟨73,[(0,zK [0,1,2,3,4,5,6] []),(1,zK [0,1,2,3,4,5,6,17,18,19] []),(2,zK [0,1,2,3,4,5,6,17,18,19,20] []),(3,zK [0,1,2,3,4,5,6,15,16,17,18,19] [16]),(4,zK [0,1,2,3,4,5,6,15,16,17,18,19,38] [16]),(5,zK [14] []),(6,zK [0,1,2,3,4,5,6,17,18,19,68] []),(7,zK [14] []),(8,zK [0,1,2,3,4,5,6,17,18,19] []),(9,zK [14] [])],
 [(2,zK [0,1,2,3,4,5,6,17,18,19] [])],
 [(5,zK [0,1,2,3,4,5,6,15,16,17,18,19,38] [16]),(6,zK [0,1,2,3,4,5,6,15,16,17,18,19] [16]),(7,zK [0,1,2,3,4,5,6,17,18,19,68] [])],
 [],[]⟩
abbrev zWh:=Bool
abbrev zNF (r:zWh):List PA:=[.one (.bool r)]
@[irreducible] def z100:=ptF Tryd.prog zUY zBG Tryd.f100
def zBH (rows:(Sl FluxRow)) (zah:Int) (until_a2:Int) (most:Int) (zbu:Int):St:=⟨[(0,zS zbt 3 rows),(1,zI zah),(2,zI until_a2),(3,zP (.fn 101 [] [])),(4,zP (.fn 102 [] [])),(5,zI most),(6,zP (.fn 103 [] [])),(17,zS zbt 3 rows),(18,zI (rows.len:Int)),(19,zI zbu)],[],[]⟩
abbrev zsg (K:List PA->Prop) (rows:(Sl FluxRow)) (zah:Int) (until_a2:Int) (most:Int) (X:St->Prop) (P:Int->Bool) (S:Int->Bool):Prop:=∀ ⦃zbu:Int⦄,P zbu=true->K (zNF (S zbu))->X (zBH rows zah until_a2 most zbu)
section
variable {K:List PA->Prop}{rows:(Sl FluxRow)}{zah:Int}{until_a2:Int}{most:Int}{zbu:Int}{X0:St->Prop}{P0:Int->Bool}{S0:Int->Bool}{iv1:Int}{ziA:Int}{ziB:Bool}{ziC:Int}{ziD:Int}{ziE:Int}{iv2:Int}{zfr:Int}{zgB:Int}{zgC:Int}{zgD:Int}{ziF:Int}{ziG:Bool}
def zl1 (S0:Int->Bool) (rows:(Sl FluxRow)) (zah:Int) (until_a2:Int) (most:Int) (ziF:Int) (ziG:Bool):Bool :=
  (cond ziG
 false
 (S0 (w64 (ziF+(1:Int)))))
def zl2 (P0:Int->Bool) (rows:(Sl FluxRow)) (zah:Int) (until_a2:Int) (most:Int) (ziF:Int) (ziG:Bool):Bool :=
  (cond ziG
 true
 (P0 (w64 (ziF+(1:Int)))))
theorem zpJ (hX0:zsg K rows zah until_a2 most X0 P0 S0) (hs:zl2 P0 rows zah until_a2 most ziF ziG=true) (hk:K (zNF (zl1 S0 rows zah until_a2 most ziF ziG))):z100 K [1,0,1,0,0,1,1,0,0,1,1,1] [X0] ⟨[(0,zS zbt 3 rows),(1,zI zah),(2,zI until_a2),(3,zP (.fn 101 [] [])),(4,zP (.fn 102 [] [])),(5,zI most),(6,zP (.fn 103 [] [])),(17,zS zbt 3 rows),(18,zI (rows.len:Int)),(19,zI ziF),(68,zB ziG)],[],[]⟩:=zaK (by kernel_rfl) (zc hs hk (λ hs hk=>hk) (λ hs hk=>(hX0 hs hk)))
def zxG (S0:Int->Bool) (rows:(Sl FluxRow)) (zah:Int) (until_a2:Int) (most:Int) (iv2:Int) (zfr:Int) (zgB:Int) (zgC:Int) (zgD:Int):Bool :=
  (cond (decide (iv2 > (0:Int)))
 (cond (decide ((zHL (⟨zgB, (⟨zgC, zgD⟩ : Span)⟩ : FluxRow)) <= (zHL (rows.get ((w64 (iv2 - (1:Int))).toNat)))))
 (zl1 S0 rows zah until_a2 most zfr true)
 (zl1 S0 rows zah until_a2 most zfr (!(zRX (zF9 (rows.get ((w64 (iv2 - (1:Int))).toNat))) (zF9 (⟨zgB,(⟨zgC,zgD⟩:Span)⟩:FluxRow))))))
 (zl1 S0 rows zah until_a2 most zfr false))
def zxH (P0:Int->Bool) (rows:(Sl FluxRow)) (zah:Int) (until_a2:Int) (most:Int) (iv2:Int) (zfr:Int) (zgB:Int) (zgC:Int) (zgD:Int):Bool :=
  (cond (decide (iv2 > (0:Int)))
 (decide ((0<=(w64 (iv2 - (1:Int)))/\(w64 (iv2 - (1:Int))) < (rows.len:Int))) &&
 (cond (decide ((zHL (⟨zgB, (⟨zgC, zgD⟩ : Span)⟩ : FluxRow)) <= (zHL (rows.get ((w64 (iv2 - (1:Int))).toNat)))))
 (zl2 P0 rows zah until_a2 most zfr true)
 (decide ((0<=(w64 (iv2 - (1:Int)))/\(w64 (iv2 - (1:Int))) < (rows.len:Int))) &&
 (zl2 P0 rows zah until_a2 most zfr (!(zRX (zF9 (rows.get ((w64 (iv2 - (1:Int))).toNat))) (zF9 (⟨zgB,(⟨zgC,zgD⟩:Span)⟩:FluxRow))))))))
 (zl2 P0 rows zah until_a2 most zfr false))
theorem zGa (hX0:zsg K rows zah until_a2 most X0 P0 S0) (hs:zxH P0 rows zah until_a2 most iv2 zfr zgB zgC zgD=true) (hk:K (zNF (zxG S0 rows zah until_a2 most iv2 zfr zgB zgC zgD))):z100 K [1,0,1,0,0,1,1,0,0,1,1] [X0] ⟨[(0,zS zbt 3 rows),(1,zI zah),(2,zI until_a2),(3,zP (.fn 101 [] [])),(4,zP (.fn 102 [] [])),(5,zI most),(6,zP (.fn 103 [] [])),(15,zI iv2),(16,zp 16 0),(17,zS zbt 3 rows),(18,zI (rows.len:Int)),(19,zI zfr)],[(16,.box 134 [zi zgB,zi zgC,zi zgD])],[]⟩:=zaK (by kernel_rfl) (zc hs hk (λ hs hk=>(zaX hs λ hc hs=>And.intro hc (zc hs hk (λ hs hk=>(zpJ hX0 hs hk)) (λ hs hk=>(zaX hs λ hc hs=>And.intro hc (zpJ hX0 hs hk)))))) (λ hs hk=>(zpJ hX0 hs hk)))
def zpK (S0:Int->Bool) (rows:(Sl FluxRow)) (zah:Int) (until_a2:Int) (most:Int) (iv1:Int) (ziA:Int) (ziB:Bool) (ziC:Int) (ziD:Int) (ziE:Int):Bool :=
  (cond ziB
 false
 (zxG S0 rows zah until_a2 most iv1 ziA ziC ziD ziE))
def zpL (P0:Int->Bool) (rows:(Sl FluxRow)) (zah:Int) (until_a2:Int) (most:Int) (iv1:Int) (ziA:Int) (ziB:Bool) (ziC:Int) (ziD:Int) (ziE:Int):Bool :=
  (cond ziB
 true
 (zxH P0 rows zah until_a2 most iv1 ziA ziC ziD ziE))
theorem zxI (hX0:zsg K rows zah until_a2 most X0 P0 S0) (hs:zpL P0 rows zah until_a2 most iv1 ziA ziB ziC ziD ziE=true) (hk:K (zNF (zpK S0 rows zah until_a2 most iv1 ziA ziB ziC ziD ziE))):z100 K [1,0,1,0,0,1,1,0,0,1,0,1] [X0] ⟨[(0,zS zbt 3 rows),(1,zI zah),(2,zI until_a2),(3,zP (.fn 101 [] [])),(4,zP (.fn 102 [] [])),(5,zI most),(6,zP (.fn 103 [] [])),(15,zI iv1),(16,zp 16 0),(17,zS zbt 3 rows),(18,zI (rows.len:Int)),(19,zI ziA),(38,zB ziB)],[(16,.box 134 [zi ziC,zi ziD,zi ziE])],[]⟩:=zaK (by kernel_rfl) (zc hs hk (λ hs hk=>hk) (λ hs hk=>(zGa hX0 hs hk)))
def zxJ (rows:(Sl FluxRow)) (zah:Int) (until_a2:Int) (most:Int) (S0:Int->Bool) (zbu:Int):Bool :=
  (cond (decide (zbu < (rows.len : Int)))
 (cond (!(s78 (zHL (rows.get zbu.toNat)) zah until_a2))
 (zpK S0 rows zah until_a2 most zbu zbu true ((rows.get zbu.toNat).Energy) ((rows.get zbu.toNat).Rate.Low) ((rows.get zbu.toNat).Rate.High))
 (zpK S0 rows zah until_a2 most zbu zbu (!(zHJ (zF9 (rows.get zbu.toNat)) (0:Int) most)) ((rows.get zbu.toNat).Energy) ((rows.get zbu.toNat).Rate.Low) ((rows.get zbu.toNat).Rate.High)))
 (s78 (rows.len:Int) (1:Int) (40:Int)))
def zxK (rows:(Sl FluxRow)) (zah:Int) (until_a2:Int) (most:Int) (P0:Int->Bool) (zbu:Int):Bool :=
  (cond (decide (zbu < (rows.len : Int)))
 (decide ((0<=zbu/\zbu < (rows.len:Int))) &&
 (cond (!(s78 (zHL (rows.get zbu.toNat)) zah until_a2))
 (zpL P0 rows zah until_a2 most zbu zbu true ((rows.get zbu.toNat).Energy) ((rows.get zbu.toNat).Rate.Low) ((rows.get zbu.toNat).Rate.High))
 (zpL P0 rows zah until_a2 most zbu zbu (!(zHJ (zF9 (rows.get zbu.toNat)) (0:Int) most)) ((rows.get zbu.toNat).Energy) ((rows.get zbu.toNat).Rate.Low) ((rows.get zbu.toNat).Rate.High))))
 true)
def zxL (rows:(Sl FluxRow)) (zah:Int) (until_a2:Int) (most:Int):Nat->Int->Bool:=lpO (λ _=>default) (zxJ rows zah until_a2 most)
def zxM (rows:(Sl FluxRow)) (zah:Int) (until_a2:Int) (most:Int):Nat->Int->Bool:=lpO (λ _=>false) (zxK rows zah until_a2 most)
def zxN (rows:(Sl FluxRow)) (zah:Int) (until_a2:Int) (most:Int) (zbu:Int):Bool:=zxL rows zah until_a2 most Fuel zbu
def zxO (rows:(Sl FluxRow)) (zah:Int) (until_a2:Int) (most:Int) (zbu:Int):Bool:=zxM rows zah until_a2 most Fuel zbu
theorem zGb (hs:zxO rows zah until_a2 most zbu=true) (hk:K (zNF (zxN rows zah until_a2 most zbu))):z100 K [1,0,1,0] [] (zBH rows zah until_a2 most zbu) :=
  zl (λ X=>z100 K [1,0,1,0,0] [X]) (by kernel_rfl) λ X0 hX =>
  (show ∀ k, zsg K rows zah until_a2 most X0 (zxM rows zah until_a2 most k) (zxL rows zah until_a2 most k) from zgc _ _ (zxK rows zah until_a2 most) (zxJ rows zah until_a2 most) (zsg K rows zah until_a2 most X0)
 (by intro _ hs;exact absurd hs dqk)
 (by intro P0 S0 hX0 zbu hs hk;exact hX _ (zaK (by kernel_rfl) (zc hs hk (λ hs hk=>(zaX hs λ hc hs=>And.intro hc (zc hs hk (λ hs hk=>(zxI hX0 hs hk)) (λ hs hk=>(zxI hX0 hs hk))))) (λ hs hk=>hk))))) _ hs hk
def zRY (rows:(Sl FluxRow)) (zah:Int) (until_a2:Int) (most:Int):Bool :=
  (zxN rows zah until_a2 most (0:Int))
def zS6 (rows:(Sl FluxRow)) (zah:Int) (until_a2:Int) (most:Int):Bool :=
  (zxO rows zah until_a2 most (0:Int))
end
theorem zWi (rows:(Sl FluxRow)) (zah:Int) (until_a2:Int) (most:Int) (K:List PA->Prop) (hs:zS6 rows zah until_a2 most=true) (hk:K (zNF (zRY rows zah until_a2 most))):vcFun Tryd.prog zUY zBG 100 [.one (.sl rows.len 3 (λ i=>zbt (rows.get i))),.one (.int .i64 zah),.one (.int .i64 until_a2),.one (.fn 101 [] []),.one (.fn 102 [] []),.one (.int .i64 most),.one (.fn 103 [] [])] K :=
  zaK (by kernel_rfl) (zGb hs hk)
def zBI : List PA → COut
  | [.one (.sl zdi zfL zdj),.one (.int .i64 a1),.one (.int .i64 a2),.one (.fn 101 [] []),.one (.fn 102 [] []),.one (.int .i64 a5),.one (.fn 103 [] [])]=>.det (IsE zbt 3 zfL zdj/\zS6 (⟨zdi,zda zdj⟩:(Sl FluxRow)) a1 a2 a5=true) [.one (.bool (zRY (⟨zdi,zda zdj⟩:(Sl FluxRow)) a1 a2 a5))]
  | _=>.no
theorem zKg:zaj Tryd.prog 100:=⟨_,rfl,rfl,by kernel_rfl⟩
theorem zS7:Ok Tryd.prog 100 zBI:=zbm zPh zKg λ args K h=>by
  unfold zBI at h
  split at h
  · rename_i zdi zfL zdj a1 a2 a5
    obtain⟨⟨⟨rfl,zd4,rfl⟩,hs⟩,hk⟩:=h
    try rw[zck zd4] at hs
    try rw[zck zd4] at hk
    exact⟨(λ _ _=>[]),(λ _=>false),zBG,zWi (⟨zdi,zd4⟩:(Sl FluxRow)) a1 a2 a5 K hs hk⟩
  · exact h.elim
abbrev T76:Tabs:=(((Tabs.nil.addF 78 zuI).addF 100 zBI).addF 104 zsf)
theorem zS8:TabsOk Tryd.prog T76:=(((TabsOk.nil.addF zO9).addF zS7).addF zKb)
abbrev G76:Ctrs:=csm T76 (λ _ _=>[]) (λ _=>false)
def zKh:Ann:=⟨44,[(0,zK [1] [1]),(1,zK [1,6,7,8] [1]),(2,zK [1,6,7,8,9] [1]),(3,zK [1,4,6,7,8] [1]),(4,zK [1,6,7,8,23] [1]),(5,zK [2] []),(6,zK [1,6,7,8] [1]),(7,zK [2] [])],
 [(2,zK [1,6,7,8] [1])],
 [(5,zK [1,6,7,8,23] [1]),(7,zK [1] [1])],
 [],[]⟩
abbrev R76:=Bool
abbrev e76 (r:R76):List PA:=[.one (.bool r)]
@[irreducible] def z76:=ptF Tryd.prog G76 zKh Tryd.f76
def zHP (s:Sky) (zje:(Sl (Sl FluxRow))) (zbX:Int) (zaY:Int) (zfs:(Sl (Sl FluxRow))) (zlr:Nat->List PV) (zhb:Nat->List PV):St:=⟨[(1,zp 1 0),(6,zP (.sl zje.len 1 zlr)),(7,zI zbX),(8,zI zaY)],[(1,.box 85 (zm (zrT (⟨s.Parts,(⟨zfs.len,zcT zhb⟩:(Sl (Sl FluxRow))),s.Beta,s.Alpha⟩:Sky))))],[]⟩
abbrev zKi (K:List PA->Prop) (s:Sky) (X:St->Prop) (P:(Sl (Sl FluxRow))->Int->Int->(Sl (Sl FluxRow))->Bool) (S:(Sl (Sl FluxRow))->Int->Int->(Sl (Sl FluxRow))->Bool):Prop:=∀ ⦃zje:(Sl (Sl FluxRow))⦄ ⦃zbX:Int⦄ ⦃zaY:Int⦄ ⦃zfs:(Sl (Sl FluxRow))⦄ ⦃zlr:Nat->List PV⦄ ⦃zhb:Nat->List PV⦄,P zje zbX zaY zfs=true->K (e76 (S zje zbX zaY zfs))->zlr=zg zcG zje->zhb=zg zcG zfs->X (zHP s zje zbX zaY zfs zlr zhb)
section
variable {K:List PA->Prop}{s:Sky}{zje:(Sl (Sl FluxRow))}{zbX:Int}{zaY:Int}{zfs:(Sl (Sl FluxRow))}{zlr:Nat->List PV}{zhb:Nat->List PV}{X0:St->Prop}{P0:(Sl (Sl FluxRow))->Int->Int->(Sl (Sl FluxRow))->Bool}{S0:(Sl (Sl FluxRow))->Int->Int->(Sl (Sl FluxRow))->Bool}{zHQ:(Sl (Sl FluxRow))}{zfg:Int}{zet:Int}{zuJ:Bool}{zsh:(Sl (Sl FluxRow))}{zHR:Nat->List PV}{zBJ:Nat->List PV}{zBK:(Sl (Sl FluxRow))}{zBL:Nat->List PV}
def zBM (s:Sky) (zBK:(Sl (Sl FluxRow))):Bool :=
  (cond (s78 s.Parts (2:Int) (1000000:Int))
 (cond (s78 (zBK.len : Int) (1:Int) (20:Int))
 (cond (zHJ s.Beta (-100:Int) (100:Int))
 (zHJ s.Alpha (-100:Int) (100:Int))
 false)
 false)
 false)
theorem zKj (hk:K (e76 (zBM s zBK))) (zKk:zBL=zg zcG zBK):z76 K [1,1] [] ⟨[(1,zp 1 0)],[(1,.box 85 (zm (zrT (⟨s.Parts,(⟨zBK.len,zcT zBL⟩:(Sl (Sl FluxRow))),s.Beta,s.Alpha⟩:Sky))))],[]⟩:=by subst zKk;exact zaK (by kernel_rfl) (zt hk (λ hk=>(zt hk (λ hk=>(zt hk (λ hk=>hk) (λ hk=>hk))) (λ hk=>hk))) (λ hk=>hk))
def zuK (S0:(Sl (Sl FluxRow))->Int->Int->(Sl (Sl FluxRow))->Bool) (s:Sky) (zHQ:(Sl (Sl FluxRow))) (zfg:Int) (zet:Int) (zuJ:Bool) (zsh:(Sl (Sl FluxRow))):Bool :=
  (cond zuJ
 false
 (S0 zHQ zfg (w64 (zet+(1:Int))) zsh))
def zuL (P0:(Sl (Sl FluxRow))->Int->Int->(Sl (Sl FluxRow))->Bool) (s:Sky) (zHQ:(Sl (Sl FluxRow))) (zfg:Int) (zet:Int) (zuJ:Bool) (zsh:(Sl (Sl FluxRow))):Bool :=
  (cond zuJ
 true
 (P0 zHQ zfg (w64 (zet+(1:Int))) zsh))
theorem zBN (hX0:zKi K s X0 P0 S0) (hs:zuL P0 s zHQ zfg zet zuJ zsh=true) (hk:K (e76 (zuK S0 s zHQ zfg zet zuJ zsh))) (zPi:zHR=zg zcG zHQ) (zKl:zBJ=zg zcG zsh):z76 K [1,0,1,0,0,1,1,0,0,1,1] [X0] ⟨[(1,zp 1 0),(6,zP (.sl zHQ.len 1 zHR)),(7,zI zfg),(8,zI zet),(23,zB zuJ)],[(1,.box 85 (zm (zrT (⟨s.Parts,(⟨zsh.len,zcT zBJ⟩:(Sl (Sl FluxRow))),s.Beta,s.Alpha⟩:Sky))))],[]⟩:=by subst zPi;subst zKl;exact zaK (by kernel_rfl) (zc hs hk (λ hs hk=>hk) (λ hs hk=>(hX0 hs hk rfl rfl)))
def zBO (s:Sky) (S0:(Sl (Sl FluxRow))->Int->Int->(Sl (Sl FluxRow))->Bool) (zje:(Sl (Sl FluxRow))) (zbX:Int) (zaY:Int) (zfs:(Sl (Sl FluxRow))):Bool :=
  (cond (decide (zaY < zbX))
 (cond (!(zRY (zje.get zaY.toNat) (1:Int) (1000000:Int) s.Parts))
 (zuK S0 s zje zbX zaY true zfs)
 (zuK S0 s zje zbX zaY (((zje.get zaY.toNat).get 0).Energy != (1:Int)) zfs))
 (zBM s zfs))
def zBP (s:Sky) (P0:(Sl (Sl FluxRow))->Int->Int->(Sl (Sl FluxRow))->Bool) (zje:(Sl (Sl FluxRow))) (zbX:Int) (zaY:Int) (zfs:(Sl (Sl FluxRow))):Bool :=
  (cond (decide (zaY < zbX))
 (decide ((0<=zaY/\zaY < (zje.len:Int))) &&
 (decide ((zS6 (zje.get zaY.toNat) (1:Int) (1000000:Int) s.Parts=true)) &&
 (cond (!(zRY (zje.get zaY.toNat) (1:Int) (1000000:Int) s.Parts))
 (zuL P0 s zje zbX zaY true zfs)
 (decide ((0<=(0:Int)/\(0:Int) < ((zje.get zaY.toNat).len:Int))) &&
 (zuL P0 s zje zbX zaY (((zje.get zaY.toNat).get 0).Energy != (1:Int)) zfs)))))
 true)
def zBQ (s:Sky):Nat->(Sl (Sl FluxRow))->Int->Int->(Sl (Sl FluxRow))->Bool:=lpO (λ _ _ _ _=>default) (zBO s)
def zBR (s:Sky):Nat->(Sl (Sl FluxRow))->Int->Int->(Sl (Sl FluxRow))->Bool:=lpO (λ _ _ _ _=>false) (zBP s)
def zBS (s:Sky) (zje:(Sl (Sl FluxRow))) (zbX:Int) (zaY:Int) (zfs:(Sl (Sl FluxRow))):Bool:=zBQ s Fuel zje zbX zaY zfs
def zBT (s:Sky) (zje:(Sl (Sl FluxRow))) (zbX:Int) (zaY:Int) (zfs:(Sl (Sl FluxRow))):Bool:=zBR s Fuel zje zbX zaY zfs
theorem zKm (hs:zBT s zje zbX zaY zfs=true) (hk:K (e76 (zBS s zje zbX zaY zfs))) (zBU:zlr=zg zcG zje) (zuM:zhb=zg zcG zfs):z76 K [1,0,1,0] [] (zHP s zje zbX zaY zfs zlr zhb) :=
  zl (λ X=>z76 K [1,0,1,0,0] [X]) (by kernel_rfl) λ X0 hX =>
  (show ∀ k, zKi K s X0 (zBR s k) (zBQ s k) from zgc _ _ (zBP s) (zBO s) (zKi K s X0)
 (by intro _ _ _ _ _ _ hs;exact absurd hs dqk)
 (by intro P0 S0 hX0 zje zbX zaY zfs zlr zhb hs hk zBU zuM;subst zBU;subst zuM;exact hX _ (zaK (by kernel_rfl) (zc hs hk (λ hs hk=>(zaX hs λ hc hs=>And.intro hc (zaX hs λ hc hs=>And.intro (And.intro (zE zbt 3 ((zje.get zaY.toNat).get)) hc) (zc hs hk (λ hs hk=>(zBN hX0 hs hk rfl rfl)) (λ hs hk=>(zaX hs λ hc hs=>And.intro hc (zBN hX0 hs hk rfl rfl))))))) (λ hs hk=>(zKj hk rfl)))))) _ hs hk zBU zuM
def s76 (s:Sky):Bool :=
  (zBS s s.Bins (s.Bins.len:Int) (0:Int) s.Bins)
def p76 (s:Sky):Bool :=
  (zBT s s.Bins (s.Bins.len:Int) (0:Int) s.Bins)
end
theorem q76 (s:Sky) (K:List PA->Prop) (hs:p76 s=true) (hk:K (e76 (s76 s))):vcFun Tryd.prog G76 zKh 76 [.agg (zrT s)] K :=
  zaK (by kernel_rfl) (zKm hs hk rfl rfl)
def zKn : List PA → COut
  | [.agg [.int .i64 zcI,.sl zcn zeI zct,.int .i64 zbM,.int .i64 zbD,.int .i64 zbE,.int .i64 zbq]]=>.det (IsE zcG 1 zeI zct/\p76 (⟨zcI,(⟨zcn,zcT zct⟩:(Sl (Sl FluxRow))),(⟨zbM,zbD⟩:Span),(⟨zbE,zbq⟩:Span)⟩:Sky)=true) [.one (.bool (s76 (⟨zcI,(⟨zcn,zcT zct⟩:(Sl (Sl FluxRow))),(⟨zbM,zbD⟩:Span),(⟨zbE,zbq⟩:Span)⟩:Sky)))]
  | _=>.no
theorem zPj:zaj Tryd.prog 76:=⟨_,rfl,rfl,by kernel_rfl⟩
theorem zWj:Ok Tryd.prog 76 zKn:=zbm zS8 zPj λ args K h=>by
  unfold zKn at h
  split at h
  · rename_i zcI zcn zeI zct zbM zbD zbE zbq
    obtain⟨⟨⟨rfl,zde,rfl⟩,hs⟩,hk⟩:=h
    try rw[zcU zde] at hs
    try rw[zcU zde] at hk
    exact⟨(λ _ _=>[]),(λ _=>false),zKh,q76 (⟨zcI,(⟨zcn,zde⟩:(Sl (Sl FluxRow))),(⟨zbM,zbD⟩:Span),(⟨zbE,zbq⟩:Span)⟩:Sky) K hs hk⟩
  · exact h.elim
abbrev zUZ:Tabs:=Tabs.nil
theorem zPk:TabsOk Tryd.prog zUZ:=TabsOk.nil
abbrev zWk:Ctrs:=csm zUZ (λ _ _=>[]) (λ _=>false)
def zHS:Ann:=⟨5,[(0,zK [1] [1]),(1,zK [2] [])],
 [],
 [],
 [],[]⟩
abbrev zWl:=Int
abbrev zWm (r:zWl):List PA:=[.one (.int .i64 r)]
section
variable {K:List PA->Prop}{r_a0:RangeRow}
def zHT (r_a0:RangeRow):Int :=
  r_a0.Energy
end
theorem zWn (r_a0:RangeRow) (K:List PA->Prop) (hk:K (zWm (zHT r_a0))):vcFun Tryd.prog zWk zHS 106 [.agg (za6 r_a0)] K :=
  zaK (by kernel_rfl) hk
def zBV : List PA → COut
  | [.agg [.int .i64 zbj,.int .i64 zbL,.int .i64 zbF]]=>.tot [.one (.int .i64 (zHT (⟨zbj,(⟨zbL,zbF⟩:Span)⟩:RangeRow)))]
  | _=>.no
theorem zKo:zaj Tryd.prog 106:=⟨_,rfl,rfl,by kernel_rfl⟩
theorem zS9:Ok Tryd.prog 106 zBV:=zbm zPk zKo λ args K h=>by
  unfold zBV at h
  split at h
  · rename_i zbj zbL zbF
    have hk:=h
    exact⟨(λ _ _=>[]),(λ _=>false),zHS,zWn (⟨zbj,(⟨zbL,zbF⟩:Span)⟩:RangeRow) K hk⟩
  · exact h.elim
abbrev zU0:Tabs:=Tabs.nil
theorem zPl:TabsOk Tryd.prog zU0:=TabsOk.nil
abbrev zWo:Ctrs:=csm zU0 (λ _ _=>[]) (λ _=>false)
def zHU:Ann:=⟨5,[(0,zK [1,2] [1,2]),(1,zK [2] [2])],
 [],
 [],
 [],[]⟩
abbrev zWp:=Span
abbrev zWq (r:zWp):List PA:=[.agg [.int .i64 r.Low,.int .i64 r.High]]
section
variable {K:List PA->Prop}{r_a0:RangeRow}
def zGc (r_a0:RangeRow):Span :=
  r_a0.Range
end
theorem zWr (r_a0:RangeRow) (K:List PA->Prop) (hk:K (zWq (zGc r_a0))):vcFun Tryd.prog zWo zHU 107 [.agg (za6 r_a0)] K :=
  zaK (by kernel_rfl) hk
def zBW : List PA → COut
  | [.agg [.int .i64 zbj,.int .i64 zbL,.int .i64 zbF]]=>.tot [.agg [.int .i64 ((zGc (⟨zbj,(⟨zbL,zbF⟩:Span)⟩:RangeRow)).Low),.int .i64 ((zGc (⟨zbj,(⟨zbL,zbF⟩:Span)⟩:RangeRow)).High)]]
  | _=>.no
theorem zKp:zaj Tryd.prog 107:=⟨_,rfl,rfl,by kernel_rfl⟩
theorem zTa:Ok Tryd.prog 107 zBW:=zbm zPl zKp λ args K h=>by
  unfold zBW at h
  split at h
  · rename_i zbj zbL zbF
    have hk:=h
    exact⟨(λ _ _=>[]),(λ _=>false),zHU,zWr (⟨zbj,(⟨zbL,zbF⟩:Span)⟩:RangeRow) K hk⟩
  · exact h.elim
abbrev zU1:Tabs:=(((((Tabs.nil.addF 78 zuI).addF 104 zsf).addF 106 zBV).addF 107 zBW).addF 108 zxF)
theorem zPm:TabsOk Tryd.prog zU1:=(((((TabsOk.nil.addF zO9).addF zKb).addF zS9).addF zTa).addF zPf)
abbrev zU2:Ctrs:=csm zU1 (λ _ _=>[]) (λ _=>false)
def zBX:Ann:=⟨73,[(0,zK [0,1,2,3,4,5,6] []),(1,zK [0,1,2,3,4,5,6,17,18,19] []),(2,zK [0,1,2,3,4,5,6,17,18,19,20] []),(3,zK [0,1,2,3,4,5,6,15,16,17,18,19] [16]),(4,zK [0,1,2,3,4,5,6,15,16,17,18,19,38] [16]),(5,zK [14] []),(6,zK [0,1,2,3,4,5,6,17,18,19,68] []),(7,zK [14] []),(8,zK [0,1,2,3,4,5,6,17,18,19] []),(9,zK [14] [])],
 [(2,zK [0,1,2,3,4,5,6,17,18,19] [])],
 [(5,zK [0,1,2,3,4,5,6,15,16,17,18,19,38] [16]),(6,zK [0,1,2,3,4,5,6,15,16,17,18,19] [16]),(7,zK [0,1,2,3,4,5,6,17,18,19,68] [])],
 [],[]⟩
abbrev zWs:=Bool
abbrev zNG (r:zWs):List PA:=[.one (.bool r)]
@[irreducible] def z105:=ptF Tryd.prog zU2 zBX Tryd.f105
def zBY (rows:(Sl RangeRow)) (zah:Int) (until_a2:Int) (most:Int) (zbu:Int):St:=⟨[(0,zS za6 3 rows),(1,zI zah),(2,zI until_a2),(3,zP (.fn 106 [] [])),(4,zP (.fn 107 [] [])),(5,zI most),(6,zP (.fn 108 [] [])),(17,zS za6 3 rows),(18,zI (rows.len:Int)),(19,zI zbu)],[],[]⟩
abbrev zsi (K:List PA->Prop) (rows:(Sl RangeRow)) (zah:Int) (until_a2:Int) (most:Int) (X:St->Prop) (P:Int->Bool) (S:Int->Bool):Prop:=∀ ⦃zbu:Int⦄,P zbu=true->K (zNG (S zbu))->X (zBY rows zah until_a2 most zbu)
section
variable {K:List PA->Prop}{rows:(Sl RangeRow)}{zah:Int}{until_a2:Int}{most:Int}{zbu:Int}{X0:St->Prop}{P0:Int->Bool}{S0:Int->Bool}{iv1:Int}{ziA:Int}{ziB:Bool}{ziC:Int}{ziD:Int}{ziE:Int}{iv2:Int}{zfr:Int}{zgB:Int}{zgC:Int}{zgD:Int}{ziF:Int}{ziG:Bool}
def zl3 (S0:Int->Bool) (rows:(Sl RangeRow)) (zah:Int) (until_a2:Int) (most:Int) (ziF:Int) (ziG:Bool):Bool :=
  (cond ziG
 false
 (S0 (w64 (ziF+(1:Int)))))
def zl4 (P0:Int->Bool) (rows:(Sl RangeRow)) (zah:Int) (until_a2:Int) (most:Int) (ziF:Int) (ziG:Bool):Bool :=
  (cond ziG
 true
 (P0 (w64 (ziF+(1:Int)))))
theorem zpM (hX0:zsi K rows zah until_a2 most X0 P0 S0) (hs:zl4 P0 rows zah until_a2 most ziF ziG=true) (hk:K (zNG (zl3 S0 rows zah until_a2 most ziF ziG))):z105 K [1,0,1,0,0,1,1,0,0,1,1,1] [X0] ⟨[(0,zS za6 3 rows),(1,zI zah),(2,zI until_a2),(3,zP (.fn 106 [] [])),(4,zP (.fn 107 [] [])),(5,zI most),(6,zP (.fn 108 [] [])),(17,zS za6 3 rows),(18,zI (rows.len:Int)),(19,zI ziF),(68,zB ziG)],[],[]⟩:=zaK (by kernel_rfl) (zc hs hk (λ hs hk=>hk) (λ hs hk=>(hX0 hs hk)))
def zxP (S0:Int->Bool) (rows:(Sl RangeRow)) (zah:Int) (until_a2:Int) (most:Int) (iv2:Int) (zfr:Int) (zgB:Int) (zgC:Int) (zgD:Int):Bool :=
  (cond (decide (iv2 > (0:Int)))
 (cond (decide ((zHT (⟨zgB, (⟨zgC, zgD⟩ : Span)⟩ : RangeRow)) <= (zHT (rows.get ((w64 (iv2 - (1:Int))).toNat)))))
 (zl3 S0 rows zah until_a2 most zfr true)
 (zl3 S0 rows zah until_a2 most zfr (!(zPe (zGc (rows.get ((w64 (iv2 - (1:Int))).toNat))) (zGc (⟨zgB,(⟨zgC,zgD⟩:Span)⟩:RangeRow))))))
 (zl3 S0 rows zah until_a2 most zfr false))
def zxQ (P0:Int->Bool) (rows:(Sl RangeRow)) (zah:Int) (until_a2:Int) (most:Int) (iv2:Int) (zfr:Int) (zgB:Int) (zgC:Int) (zgD:Int):Bool :=
  (cond (decide (iv2 > (0:Int)))
 (decide ((0<=(w64 (iv2 - (1:Int)))/\(w64 (iv2 - (1:Int))) < (rows.len:Int))) &&
 (cond (decide ((zHT (⟨zgB, (⟨zgC, zgD⟩ : Span)⟩ : RangeRow)) <= (zHT (rows.get ((w64 (iv2 - (1:Int))).toNat)))))
 (zl4 P0 rows zah until_a2 most zfr true)
 (decide ((0<=(w64 (iv2 - (1:Int)))/\(w64 (iv2 - (1:Int))) < (rows.len:Int))) &&
 (zl4 P0 rows zah until_a2 most zfr (!(zPe (zGc (rows.get ((w64 (iv2 - (1:Int))).toNat))) (zGc (⟨zgB,(⟨zgC,zgD⟩:Span)⟩:RangeRow))))))))
 (zl4 P0 rows zah until_a2 most zfr false))
theorem zGd (hX0:zsi K rows zah until_a2 most X0 P0 S0) (hs:zxQ P0 rows zah until_a2 most iv2 zfr zgB zgC zgD=true) (hk:K (zNG (zxP S0 rows zah until_a2 most iv2 zfr zgB zgC zgD))):z105 K [1,0,1,0,0,1,1,0,0,1,1] [X0] ⟨[(0,zS za6 3 rows),(1,zI zah),(2,zI until_a2),(3,zP (.fn 106 [] [])),(4,zP (.fn 107 [] [])),(5,zI most),(6,zP (.fn 108 [] [])),(15,zI iv2),(16,zp 16 0),(17,zS za6 3 rows),(18,zI (rows.len:Int)),(19,zI zfr)],[(16,.box 137 [zi zgB,zi zgC,zi zgD])],[]⟩:=zaK (by kernel_rfl) (zc hs hk (λ hs hk=>(zaX hs λ hc hs=>And.intro hc (zc hs hk (λ hs hk=>(zpM hX0 hs hk)) (λ hs hk=>(zaX hs λ hc hs=>And.intro hc (zpM hX0 hs hk)))))) (λ hs hk=>(zpM hX0 hs hk)))
def zpN (S0:Int->Bool) (rows:(Sl RangeRow)) (zah:Int) (until_a2:Int) (most:Int) (iv1:Int) (ziA:Int) (ziB:Bool) (ziC:Int) (ziD:Int) (ziE:Int):Bool :=
  (cond ziB
 false
 (zxP S0 rows zah until_a2 most iv1 ziA ziC ziD ziE))
def zpO (P0:Int->Bool) (rows:(Sl RangeRow)) (zah:Int) (until_a2:Int) (most:Int) (iv1:Int) (ziA:Int) (ziB:Bool) (ziC:Int) (ziD:Int) (ziE:Int):Bool :=
  (cond ziB
 true
 (zxQ P0 rows zah until_a2 most iv1 ziA ziC ziD ziE))
theorem zxR (hX0:zsi K rows zah until_a2 most X0 P0 S0) (hs:zpO P0 rows zah until_a2 most iv1 ziA ziB ziC ziD ziE=true) (hk:K (zNG (zpN S0 rows zah until_a2 most iv1 ziA ziB ziC ziD ziE))):z105 K [1,0,1,0,0,1,1,0,0,1,0,1] [X0] ⟨[(0,zS za6 3 rows),(1,zI zah),(2,zI until_a2),(3,zP (.fn 106 [] [])),(4,zP (.fn 107 [] [])),(5,zI most),(6,zP (.fn 108 [] [])),(15,zI iv1),(16,zp 16 0),(17,zS za6 3 rows),(18,zI (rows.len:Int)),(19,zI ziA),(38,zB ziB)],[(16,.box 137 [zi ziC,zi ziD,zi ziE])],[]⟩:=zaK (by kernel_rfl) (zc hs hk (λ hs hk=>hk) (λ hs hk=>(zGd hX0 hs hk)))
def zxS (rows:(Sl RangeRow)) (zah:Int) (until_a2:Int) (most:Int) (S0:Int->Bool) (zbu:Int):Bool :=
  (cond (decide (zbu < (rows.len : Int)))
 (cond (!(s78 (zHT (rows.get zbu.toNat)) zah until_a2))
 (zpN S0 rows zah until_a2 most zbu zbu true ((rows.get zbu.toNat).Energy) ((rows.get zbu.toNat).Range.Low) ((rows.get zbu.toNat).Range.High))
 (zpN S0 rows zah until_a2 most zbu zbu (!(zHJ (zGc (rows.get zbu.toNat)) (0:Int) most)) ((rows.get zbu.toNat).Energy) ((rows.get zbu.toNat).Range.Low) ((rows.get zbu.toNat).Range.High)))
 (s78 (rows.len:Int) (1:Int) (40:Int)))
def zxT (rows:(Sl RangeRow)) (zah:Int) (until_a2:Int) (most:Int) (P0:Int->Bool) (zbu:Int):Bool :=
  (cond (decide (zbu < (rows.len : Int)))
 (decide ((0<=zbu/\zbu < (rows.len:Int))) &&
 (cond (!(s78 (zHT (rows.get zbu.toNat)) zah until_a2))
 (zpO P0 rows zah until_a2 most zbu zbu true ((rows.get zbu.toNat).Energy) ((rows.get zbu.toNat).Range.Low) ((rows.get zbu.toNat).Range.High))
 (zpO P0 rows zah until_a2 most zbu zbu (!(zHJ (zGc (rows.get zbu.toNat)) (0:Int) most)) ((rows.get zbu.toNat).Energy) ((rows.get zbu.toNat).Range.Low) ((rows.get zbu.toNat).Range.High))))
 true)
def zxU (rows:(Sl RangeRow)) (zah:Int) (until_a2:Int) (most:Int):Nat->Int->Bool:=lpO (λ _=>default) (zxS rows zah until_a2 most)
def zxV (rows:(Sl RangeRow)) (zah:Int) (until_a2:Int) (most:Int):Nat->Int->Bool:=lpO (λ _=>false) (zxT rows zah until_a2 most)
def zxW (rows:(Sl RangeRow)) (zah:Int) (until_a2:Int) (most:Int) (zbu:Int):Bool:=zxU rows zah until_a2 most Fuel zbu
def zxX (rows:(Sl RangeRow)) (zah:Int) (until_a2:Int) (most:Int) (zbu:Int):Bool:=zxV rows zah until_a2 most Fuel zbu
theorem zGe (hs:zxX rows zah until_a2 most zbu=true) (hk:K (zNG (zxW rows zah until_a2 most zbu))):z105 K [1,0,1,0] [] (zBY rows zah until_a2 most zbu) :=
  zl (λ X=>z105 K [1,0,1,0,0] [X]) (by kernel_rfl) λ X0 hX =>
  (show ∀ k, zsi K rows zah until_a2 most X0 (zxV rows zah until_a2 most k) (zxU rows zah until_a2 most k) from zgc _ _ (zxT rows zah until_a2 most) (zxS rows zah until_a2 most) (zsi K rows zah until_a2 most X0)
 (by intro _ hs;exact absurd hs dqk)
 (by intro P0 S0 hX0 zbu hs hk;exact hX _ (zaK (by kernel_rfl) (zc hs hk (λ hs hk=>(zaX hs λ hc hs=>And.intro hc (zc hs hk (λ hs hk=>(zxR hX0 hs hk)) (λ hs hk=>(zxR hX0 hs hk))))) (λ hs hk=>hk))))) _ hs hk
def zTb (rows:(Sl RangeRow)) (zah:Int) (until_a2:Int) (most:Int):Bool :=
  (zxW rows zah until_a2 most (0:Int))
def zTc (rows:(Sl RangeRow)) (zah:Int) (until_a2:Int) (most:Int):Bool :=
  (zxX rows zah until_a2 most (0:Int))
end
theorem zWt (rows:(Sl RangeRow)) (zah:Int) (until_a2:Int) (most:Int) (K:List PA->Prop) (hs:zTc rows zah until_a2 most=true) (hk:K (zNG (zTb rows zah until_a2 most))):vcFun Tryd.prog zU2 zBX 105 [.one (.sl rows.len 3 (λ i=>za6 (rows.get i))),.one (.int .i64 zah),.one (.int .i64 until_a2),.one (.fn 106 [] []),.one (.fn 107 [] []),.one (.int .i64 most),.one (.fn 108 [] [])] K :=
  zaK (by kernel_rfl) (zGe hs hk)
def zBZ : List PA → COut
  | [.one (.sl zdi zfL zdj),.one (.int .i64 a1),.one (.int .i64 a2),.one (.fn 106 [] []),.one (.fn 107 [] []),.one (.int .i64 a5),.one (.fn 108 [] [])]=>.det (IsE za6 3 zfL zdj/\zTc (⟨zdi,zbW zdj⟩:(Sl RangeRow)) a1 a2 a5=true) [.one (.bool (zTb (⟨zdi,zbW zdj⟩:(Sl RangeRow)) a1 a2 a5))]
  | _=>.no
theorem zKq:zaj Tryd.prog 105:=⟨_,rfl,rfl,by kernel_rfl⟩
theorem zTd:Ok Tryd.prog 105 zBZ:=zbm zPm zKq λ args K h=>by
  unfold zBZ at h
  split at h
  · rename_i zdi zfL zdj a1 a2 a5
    obtain⟨⟨⟨rfl,zd4,rfl⟩,hs⟩,hk⟩:=h
    try rw[zbn zd4] at hs
    try rw[zbn zd4] at hk
    exact⟨(λ _ _=>[]),(λ _=>false),zBX,zWt (⟨zdi,zd4⟩:(Sl RangeRow)) a1 a2 a5 K hs hk⟩
  · exact h.elim
abbrev T77:Tabs:=(Tabs.nil.addF 105 zBZ)
theorem zTe:TabsOk Tryd.prog T77:=(TabsOk.nil.addF zTd)
abbrev G77:Ctrs:=csm T77 (λ _ _=>[]) (λ _=>false)
def zPn:Ann:=⟨5,[(0,zK [0] []),(1,zK [2] [])],
 [],
 [],
 [],[]⟩
abbrev R77:=Bool
abbrev e77 (r:R77):List PA:=[.one (.bool r)]
section
variable {K:List PA->Prop}{t:(Sl RangeRow)}
def s77 (t:(Sl RangeRow)):Bool :=
  (zTb t (1:Int) (1000000:Int) (1000000:Int))
def p77 (t:(Sl RangeRow)):Bool :=
  (decide ((zTc t (1:Int) (1000000:Int) (1000000:Int)=true)) &&
 true)
end
theorem q77 (t:(Sl RangeRow)) (K:List PA->Prop) (hs:p77 t=true) (hk:K (e77 (s77 t))):vcFun Tryd.prog G77 zPn 77 [.one (.sl t.len 3 (λ i=>za6 (t.get i)))] K :=
  zaK (by kernel_rfl) (zaX hs λ hc hs=>And.intro (And.intro (zE za6 3 t.get) hc) hk)
def zKr : List PA → COut
  | [.one (.sl zdi zfL zdj)]=>.det (IsE za6 3 zfL zdj/\p77 (⟨zdi,zbW zdj⟩:(Sl RangeRow))=true) [.one (.bool (s77 (⟨zdi,zbW zdj⟩:(Sl RangeRow))))]
  | _=>.no
theorem zPo:zaj Tryd.prog 77:=⟨_,rfl,rfl,by kernel_rfl⟩
theorem zWu:Ok Tryd.prog 77 zKr:=zbm zTe zPo λ args K h=>by
  unfold zKr at h
  split at h
  · rename_i zdi zfL zdj
    obtain⟨⟨⟨rfl,zd4,rfl⟩,hs⟩,hk⟩:=h
    try rw[zbn zd4] at hs
    try rw[zbn zd4] at hk
    exact⟨(λ _ _=>[]),(λ _=>false),zPn,q77 (⟨zdi,zd4⟩:(Sl RangeRow)) K hs hk⟩
  · exact h.elim
abbrev T53:Tabs:=((((((Tabs.nil.addF 54 zF8).addF 76 zKn).addF 77 zKr).addF 78 zuI).addF 79 zF1).addF 80 zF7)
theorem zTf:TabsOk Tryd.prog T53:=((((((TabsOk.nil.addF zUR).addF zWj).addF zWu).addF zO9).addF zUM).addF zUQ)
abbrev G53 (s:Sky) (t:(Sl RangeRow)) (bin:Int):Ctrs:=csm T53 (λ _=>ziz s t bin) (λ _=>false)
def zKs:Ann:=⟨33,[(0,zK [1,2,3,4] [4]),(1,zK [8,9] [14])],
 [],
 [],
 [],[]⟩
theorem zKt (s : Sky) (t : (Sl RangeRow)) (bin : Int) (opacity : Int) (K : List PA → Prop) :
  vcFun Tryd.prog (G53 s t bin) zKs 53 [.agg [.int .i64 s.Parts,.sl s.Bins.len 1 (λ i=>zcG (s.Bins.get i)),.int .i64 s.Beta.Low,.int .i64 s.Beta.High,.int .i64 s.Alpha.Low,.int .i64 s.Alpha.High],.one (.sl t.len 3 (λ i=>za6 (t.get i))),.one (.int .i64 bin),.one (.int .i64 opacity)] K =
  (((True)) /\
 ((IsE zcG 1 1 (λ i=>zcG (s.Bins.get i))/\(p76 s=true)) /\
 (zcr (s76 s)
 ((IsE za6 3 3 (λ i=>za6 (t.get i))/\(p77 t=true)) /\
 (zcr (s77 t)
 (zcr (s78 bin (0:Int) (w64 ((s.Bins.len : Int) - (1:Int))))
 (K [.one (.fp (zg6 (⟨s,t,(ziz s t bin)⟩:ground)) 0),.one (.bool (s78 opacity (0:Int) (1000000:Int)))])
 (K [.one (.fp (zg6 (⟨s,t,(ziz s t bin)⟩:ground)) 0),.one (.bool false)]))
 (K [.one (.fp (zg6 (⟨s,t,(ziz s t bin)⟩:ground)) 0),.one (.bool false)])))
 (K [.one (.fp (zg6 (⟨s,t,(ziz s t bin)⟩:ground)) 0),.one (.bool false)])))):=by kernel_rfl
abbrev e53 (r:(ground×Bool)):List PA:=[.one (.fp (zg6 r.1) 0),.one (.bool r.2)]
def s53 (s:Sky) (t:(Sl RangeRow)) (bin:Int) (opacity:Int):(ground×Bool) :=
  (cond (s76 s)
 (cond (s77 t)
 (cond (s78 bin (0:Int) (w64 ((s.Bins.len : Int) - (1:Int))))
 ((⟨s,t,(ziz s t bin)⟩:ground),(s78 opacity (0:Int) (1000000:Int)))
 ((⟨s,t,(ziz s t bin)⟩:ground),false))
 ((⟨s,t,(ziz s t bin)⟩:ground),false))
 ((⟨s,t,(ziz s t bin)⟩:ground),false))
def p53 (s:Sky) (t:(Sl RangeRow)) (bin:Int) (opacity:Int):Bool :=
  (decide ((True)) &&
 (decide ((p76 s=true)) &&
 (cond (s76 s)
 (decide ((p77 t=true)) &&
 true)
 true)))
theorem q53 (s:Sky) (t:(Sl RangeRow)) (bin:Int) (opacity:Int) (K:List PA->Prop) (hs:p53 s t bin opacity=true) (hk:K (e53 (s53 s t bin opacity))):vcFun Tryd.prog (G53 s t bin) zKs 53 [.agg [.int .i64 s.Parts,.sl s.Bins.len 1 (λ i=>zcG (s.Bins.get i)),.int .i64 s.Beta.Low,.int .i64 s.Beta.High,.int .i64 s.Alpha.Low,.int .i64 s.Alpha.High],.one (.sl t.len 3 (λ i=>za6 (t.get i))),.one (.int .i64 bin),.one (.int .i64 opacity)] K:=by
  refine zaK (zKt s t bin opacity K) ?_
  unfold p53 at hs
  unfold s53 at hk
  exact (zaX hs λ hc hs => ⟨hc, (zaX hs λ hc hs => ⟨⟨isE, hc⟩, (zFN (K := λ r => K (e53 r))
 (λ hs hk => (zaX hs λ hc hs => ⟨⟨isE, hc⟩, (zxk (K := λ r => K (e53 r))
 (λ hk => (zxk (K := λ r => K (e53 r))
 (λ hk=>hk)
 (λ hk=>hk) hk))
 (λ hk=>hk) hk)⟩))
 (λ hs hk=>hk) hs hk)⟩)⟩)
theorem k53 (s:Sky) (t:Sl RangeRow) (bin opacity:Int):(s53 s t bin opacity).1.known=ziz (s53 s t bin opacity).1.Sky (s53 s t bin opacity).1.table bin:=by
  unfold s53
  generalize s76 s=b1
  generalize s77 t=b2
  cases b1
  · rfl
  · cases b2
    · rfl
    · generalize s78 bin _ _ = b3
      cases b3 <;> rfl
def zKu : List PA → COut
  | [.agg [.int .i64 zcI,.sl zcn zeI zct,.int .i64 zbM,.int .i64 zbD,.int .i64 zbE,.int .i64 zbq],.one (.sl zeO zl0 zeP),.one (.int .i64 a2),.one (.int .i64 a3)]=>.det (IsE zcG 1 zeI zct/\IsE za6 3 zl0 zeP/\p53 (⟨zcI,(⟨zcn,zcT zct⟩:(Sl (Sl FluxRow))),(⟨zbM,zbD⟩:Span),(⟨zbE,zbq⟩:Span)⟩:Sky) (⟨zeO,zbW zeP⟩:(Sl RangeRow)) a2 a3=true) [.one (.fp (zg6 ((s53 (⟨zcI,(⟨zcn,zcT zct⟩:(Sl (Sl FluxRow))),(⟨zbM,zbD⟩:Span),(⟨zbE,zbq⟩:Span)⟩:Sky) (⟨zeO,zbW zeP⟩:(Sl RangeRow)) a2 a3).1)) 0),.one (.bool ((s53 (⟨zcI,(⟨zcn,zcT zct⟩:(Sl (Sl FluxRow))),(⟨zbM,zbD⟩:Span),(⟨zbE,zbq⟩:Span)⟩:Sky) (⟨zeO,zbW zeP⟩:(Sl RangeRow)) a2 a3).2))]
  | _=>.no
theorem zPp:zaj Tryd.prog 53:=⟨_,rfl,rfl,by kernel_rfl⟩
theorem zWv:Ok Tryd.prog 53 zKu:=zbm zTf zPp λ args K h=>by
  unfold zKu at h
  split at h
  · rename_i zcI zcn zeI zct zbM zbD zbE zbq zeO zl0 zeP a2 a3
    obtain⟨⟨⟨rfl,zde,rfl⟩,⟨rfl,zic,rfl⟩,hs⟩,hk⟩:=h
    try rw[zcU zde] at hs
    try rw[zcU zde] at hk
    try rw[zbn zic] at hs
    try rw[zbn zic] at hk
    exact⟨(λ _=>ziz (⟨zcI,(⟨zcn,zde⟩:(Sl (Sl FluxRow))),(⟨zbM,zbD⟩:Span),(⟨zbE,zbq⟩:Span)⟩:Sky) (⟨zeO,zic⟩:(Sl RangeRow)) a2),(λ _=>false),zKs,q53 (⟨zcI,(⟨zcn,zde⟩:(Sl (Sl FluxRow))),(⟨zbM,zbD⟩:Span),(⟨zbE,zbq⟩:Span)⟩:Sky) (⟨zeO,zic⟩:(Sl RangeRow)) a2 a3 K hs hk⟩
  · exact h.elim
abbrev T25:Tabs:=((Tabs.nil.addF 53 zKu).addF 54 zF8)
theorem zTg:TabsOk Tryd.prog T25:=((TabsOk.nil.addF zWv).addF zUR)
abbrev G25:Ctrs:=csm T25 (λ _ _=>[]) (λ _=>false)
def zPq:Ann:=⟨27,[(0,zK [1,2,3,4,8] [4,8]),(1,zK [2,3,8,10,11] [8]),(2,zK [2,3,8,10,21] [8]),(3,zK [8,9] [8]),(4,zK [8,9] [8])],
 [],
 [],
 [],[]⟩
abbrev R25:=(Span×Int)
abbrev e25 (r:R25):List PA:=[.agg [.int .i64 r.1.Low,.int .i64 r.1.High],.one (.int .i64 r.2)]
section
variable {K:List PA->Prop}{s:Sky}{t:(Sl RangeRow)}{bin:Int}{opacity:Int}
def s25 (s:Sky) (t:(Sl RangeRow)) (bin:Int) (opacity:Int):(Span×Int) :=
  (cond (!((s53 s t bin opacity).2))
 ((⟨(0:Int),(0:Int)⟩:Span),(2:Int))
 ((s54 (((s53 s t bin opacity).1).Sky) (((s53 s t bin opacity).1).table) bin opacity),(0:Int)))
def p25 (s:Sky) (t:(Sl RangeRow)) (bin:Int) (opacity:Int):Bool :=
  (decide ((p53 s t bin opacity=true)) &&
 (cond (!((s53 s t bin opacity).2))
 true
 (decide ((p54 (((s53 s t bin opacity).1).Sky) (((s53 s t bin opacity).1).table) bin opacity=true)) &&
 true)))
end
theorem q25 (s:Sky) (t:(Sl RangeRow)) (bin:Int) (opacity:Int) (K:List PA->Prop) (hs:p25 s t bin opacity=true) (hk:K (e25 (s25 s t bin opacity))):vcFun Tryd.prog G25 zPq 25 [.agg (zrT s),.one (.sl t.len 3 (λ i=>za6 (t.get i))),.one (.int .i64 bin),.one (.int .i64 opacity)] K :=
  zaK (by kernel_rfl) (zaX hs λ hc hs=>And.intro (And.intro (zE zcG 1 s.Bins.get) (And.intro (zE za6 3 t.get) hc)) (zc hs hk (λ hs hk=>hk) (λ hs hk=>(zaX hs λ hc hs=>And.intro (And.intro (zE zcG 1 (((s53 s t bin opacity).1).Sky.Bins.get)) (And.intro (zE za6 3 (((s53 s t bin opacity).1).table.get)) (And.intro ((k53 s t bin opacity):((s53 s t bin opacity).1).known=(ziz (((s53 s t bin opacity).1).Sky) (((s53 s t bin opacity).1).table) bin)) hc))) hk))))
def zKv : List PA → COut
  | [.agg [.int .i64 zcI,.sl zcn zeI zct,.int .i64 zbM,.int .i64 zbD,.int .i64 zbE,.int .i64 zbq],.one (.sl zeO zl0 zeP),.one (.int .i64 a2),.one (.int .i64 a3)]=>.det (IsE zcG 1 zeI zct/\IsE za6 3 zl0 zeP/\p25 (⟨zcI,(⟨zcn,zcT zct⟩:(Sl (Sl FluxRow))),(⟨zbM,zbD⟩:Span),(⟨zbE,zbq⟩:Span)⟩:Sky) (⟨zeO,zbW zeP⟩:(Sl RangeRow)) a2 a3=true) [.agg [.int .i64 (((s25 (⟨zcI,(⟨zcn,zcT zct⟩:(Sl (Sl FluxRow))),(⟨zbM,zbD⟩:Span),(⟨zbE,zbq⟩:Span)⟩:Sky) (⟨zeO,zbW zeP⟩:(Sl RangeRow)) a2 a3).1).Low),.int .i64 (((s25 (⟨zcI,(⟨zcn,zcT zct⟩:(Sl (Sl FluxRow))),(⟨zbM,zbD⟩:Span),(⟨zbE,zbq⟩:Span)⟩:Sky) (⟨zeO,zbW zeP⟩:(Sl RangeRow)) a2 a3).1).High)],.one (.int .i64 ((s25 (⟨zcI,(⟨zcn,zcT zct⟩:(Sl (Sl FluxRow))),(⟨zbM,zbD⟩:Span),(⟨zbE,zbq⟩:Span)⟩:Sky) (⟨zeO,zbW zeP⟩:(Sl RangeRow)) a2 a3).2))]
  | _=>.no
theorem zPr:zaj Tryd.prog 25:=⟨_,rfl,rfl,by kernel_rfl⟩
theorem zWw:Ok Tryd.prog 25 zKv:=zbm zTg zPr λ args K h=>by
  unfold zKv at h
  split at h
  · rename_i zcI zcn zeI zct zbM zbD zbE zbq zeO zl0 zeP a2 a3
    obtain⟨⟨⟨rfl,zde,rfl⟩,⟨rfl,zic,rfl⟩,hs⟩,hk⟩:=h
    try rw[zcU zde] at hs
    try rw[zcU zde] at hk
    try rw[zbn zic] at hs
    try rw[zbn zic] at hk
    exact⟨(λ _ _=>[]),(λ _=>false),zPq,q25 (⟨zcI,(⟨zcn,zde⟩:(Sl (Sl FluxRow))),(⟨zbM,zbD⟩:Span),(⟨zbE,zbq⟩:Span)⟩:Sky) (⟨zeO,zic⟩:(Sl RangeRow)) a2 a3 K hs hk⟩
  · exact h.elim
abbrev T26:Tabs:=Tabs.nil
theorem zTh:TabsOk Tryd.prog T26:=TabsOk.nil
abbrev G26:Ctrs:=csm T26 (λ _ _=>[]) (λ _=>false)
def zPs:Ann:=⟨14,[(0,zK [0] [0]),(1,zK [0] [0,10])],
 [],
 [],
 [],[]⟩
abbrev R26:=Sky
abbrev e26 (r:R26):List PA:=[.agg [.int .i64 r.Parts,.sl r.Bins.len 1 (λ i=>zcG (r.Bins.get i)),.int .i64 r.Beta.Low,.int .i64 r.Beta.High,.int .i64 r.Alpha.Low,.int .i64 r.Alpha.High]]
section
variable {K:List PA->Prop}
def s26:Sky :=
  (⟨(1000:Int),(⟨1,λ _=>(⟨4,(zlh (⟨(1:Int),(⟨(400:Int),(500:Int)⟩:Span)⟩:FluxRow) [(⟨(1:Int),(⟨(400:Int),(500:Int)⟩:Span)⟩:FluxRow),(⟨(20:Int),(⟨(200:Int),(260:Int)⟩:Span)⟩:FluxRow),(⟨(50:Int),(⟨(80:Int),(100:Int)⟩:Span)⟩:FluxRow),(⟨(120:Int),(⟨(20:Int),(30:Int)⟩:Span)⟩:FluxRow)])⟩:(Sl FluxRow))⟩:(Sl (Sl FluxRow))),(⟨(2:Int),(3:Int)⟩:Span),(⟨(0:Int),(1:Int)⟩:Span)⟩:Sky)
end
theorem q26 (K:List PA->Prop) (hk:K (e26 (s26))):vcFun Tryd.prog G26 zPs 26 [] K :=
  zaK (by kernel_rfl) (Eq.mpr (congrArg K (congrArg (λ (g_:Nat->List PV)=>([.agg [.int .i64 (1000:Int),.sl 1 1 (λ _=>[.sl 4 3 g_]),.int .i64 (2:Int),.int .i64 (3:Int),.int .i64 (0:Int),.int .i64 (1:Int)]]:List PA)) (zlY (enc:=zbt) (x:=(⟨(1:Int),(⟨(400:Int),(500:Int)⟩:Span)⟩:FluxRow)) (y:=(⟨(20:Int),(⟨(200:Int),(260:Int)⟩:Span)⟩:FluxRow)) (r:=[(⟨(50:Int),(⟨(80:Int),(100:Int)⟩:Span)⟩:FluxRow),(⟨(120:Int),(⟨(20:Int),(30:Int)⟩:Span)⟩:FluxRow)])))) hk)
def zKw : List PA → COut
  | []=>.tot [.agg [.int .i64 ((s26).Parts),.sl ((s26).Bins.len) 1 (λ i=>zcG ((s26).Bins.get i)),.int .i64 ((s26).Beta.Low),.int .i64 ((s26).Beta.High),.int .i64 ((s26).Alpha.Low),.int .i64 ((s26).Alpha.High)]]
  | _=>.no
theorem zPt:zaj Tryd.prog 26:=⟨_,rfl,rfl,by kernel_rfl⟩
theorem zWx:Ok Tryd.prog 26 zKw:=zbm zTh zPt λ args K h=>by
  unfold zKw at h
  split at h
  · have hk := h
    exact⟨(λ _ _=>[]),(λ _=>false),zPs,q26 K hk⟩
  · exact h.elim
abbrev T27:Tabs:=Tabs.nil
theorem zTi:TabsOk Tryd.prog T27:=TabsOk.nil
abbrev G27:Ctrs:=csm T27 (λ _ _=>[]) (λ _=>false)
def zPu:Ann:=⟨8,[(0,zK [] []),(1,zK [0] [7])],
 [],
 [],
 [],[]⟩
abbrev R27:=(Sl RangeRow)
abbrev e27 (r:R27):List PA:=[.one (.sl r.len 3 (λ i=>za6 (r.get i)))]
section
variable {K:List PA->Prop}
def s27:(Sl RangeRow) :=
  (⟨3,(zlh (⟨(10:Int),(⟨(20:Int),(30:Int)⟩:Span)⟩:RangeRow) [(⟨(10:Int),(⟨(20:Int),(30:Int)⟩:Span)⟩:RangeRow),(⟨(40:Int),(⟨(90:Int),(120:Int)⟩:Span)⟩:RangeRow),(⟨(100:Int),(⟨(250:Int),(300:Int)⟩:Span)⟩:RangeRow)])⟩:(Sl RangeRow))
end
theorem q27 (K:List PA->Prop) (hk:K (e27 (s27))):vcFun Tryd.prog G27 zPu 27 [] K :=
  zaK (by kernel_rfl) (Eq.mpr (congrArg K (congrArg (λ (g_:Nat->List PV)=>([.one (.sl 3 3 g_)]:List PA)) (zlY (enc:=za6) (x:=(⟨(10:Int),(⟨(20:Int),(30:Int)⟩:Span)⟩:RangeRow)) (y:=(⟨(40:Int),(⟨(90:Int),(120:Int)⟩:Span)⟩:RangeRow)) (r:=[(⟨(100:Int),(⟨(250:Int),(300:Int)⟩:Span)⟩:RangeRow)])))) hk)
def zKx : List PA → COut
  | []=>.tot [.one (.sl ((s27).len) 3 (λ i=>za6 ((s27).get i)))]
  | _=>.no
theorem zPv:zaj Tryd.prog 27:=⟨_,rfl,rfl,by kernel_rfl⟩
theorem zWy:Ok Tryd.prog 27 zKx:=zbm zTi zPv λ args K h=>by
  unfold zKx at h
  split at h
  · have hk := h
    exact⟨(λ _ _=>[]),(λ _=>false),zPu,q27 K hk⟩
  · exact h.elim
abbrev T56:Tabs:=Tabs.nil
theorem zTj:TabsOk Tryd.prog T56:=TabsOk.nil
abbrev G56:Ctrs:=csm T56 (λ _ _=>[]) (λ _=>false)
def zPw:Ann:=⟨15,[(0,zK [0,1,2] []),(1,zK [6] [])],
 [],
 [],
 [],[]⟩
abbrev R56:=Bool
abbrev e56 (r:R56):List PA:=[.one (.bool r)]
section
variable {K:List PA->Prop}{n:Int}{low:Int}{high:Int}
def s56 (n:Int) (low:Int) (high:Int):Bool :=
  (cond (decide (n >= low))
 (decide (n<=high))
 false)
end
theorem q56 (n:Int) (low:Int) (high:Int) (K:List PA->Prop) (hk:K (e56 (s56 n low high))):vcFun Tryd.prog G56 zPw 56 [.one (.int .i64 n),.one (.int .i64 low),.one (.int .i64 high)] K :=
  zaK (by kernel_rfl) (zt hk (λ hk=>hk) (λ hk=>hk))
def zGf : List PA → COut
  | [.one (.int .i64 a0),.one (.int .i64 a1),.one (.int .i64 a2)]=>.tot [.one (.bool (s56 a0 a1 a2))]
  | _=>.no
theorem zPx:zaj Tryd.prog 56:=⟨_,rfl,rfl,by kernel_rfl⟩
theorem zU3:Ok Tryd.prog 56 zGf:=zbm zTj zPx λ args K h=>by
  unfold zGf at h
  split at h
  · rename_i a0 a1 a2
    have hk:=h
    exact⟨(λ _ _=>[]),(λ _=>false),zPw,q56 a0 a1 a2 K hk⟩
  · exact h.elim
abbrev T55:Tabs:=(Tabs.nil.addF 56 zGf)
theorem zTk:TabsOk Tryd.prog T55:=(TabsOk.nil.addF zU3)
abbrev G55:Ctrs:=csm T55 (λ _ _=>[]) (λ _=>false)
def zKz:Ann:=⟨28,[(0,zK [0,1] []),(1,zK [0,1,13] []),(2,zK [4,5] []),(3,zK [0,1,15] []),(4,zK [4,5] []),(5,zK [0,1,6] []),(6,zK [1,6,16,17] []),(7,zK [1,6,16,17,18] []),(8,zK [1,6,16,17,22] []),(9,zK [4,5] []),(10,zK [1,6,16,17] []),(11,zK [1,6,16,17] []),(12,zK [4,5] [])],
 [(7,zK [1,6,16,17] [])],
 [(2,zK [0,1,13] []),(3,zK [0,1] []),(5,zK [0,1] [])],
 [],[]⟩
abbrev R55:=(Int×Int)
abbrev e55 (r:R55):List PA:=[.one (.int .i64 r.1),.one (.int .i64 r.2)]
@[irreducible] def z55:=ptF Tryd.prog G55 zKz Tryd.f55
def zHV (slots:Int) (parts:Int) (nv3:Int) (zee:Int):St:=⟨[(1,zI parts),(6,zI nv3),(16,zI slots),(17,zI zee)],[],[]⟩
abbrev zPy (K:List PA->Prop) (slots:Int) (parts:Int) (X:St->Prop) (P:Int->Int->Bool) (S:Int->Int->(Int×Int)):Prop:=∀ ⦃nv3:Int⦄ ⦃zee:Int⦄,P nv3 zee=true->K (e55 (S nv3 zee))->X (zHV slots parts nv3 zee)
section
variable {K:List PA->Prop}{slots:Int}{parts:Int}{zuN:Bool}{nv3:Int}{zee:Int}{X3:St->Prop}{P3:Int->Int->Bool}{S3:Int->Int->(Int×Int)}
def zB0 (slots:Int) (parts:Int) (S3:Int->Int->(Int×Int)) (nv3:Int) (zee:Int):(Int×Int) :=
  (cond (decide (zee < slots))
 (cond (decide (nv3 > (w64 ((1152921504606846976:Int).tdiv parts))))
 ((0:Int),(3:Int))
 (S3 (w64 (nv3 * parts)) (w64 (zee+(1:Int)))))
 (nv3,(0:Int)))
def zB1 (slots:Int) (parts:Int) (P3:Int->Int->Bool) (nv3:Int) (zee:Int):Bool :=
  (cond (decide (zee < slots))
 (decide ((parts ≠ 0)) &&
 (cond (decide (nv3 > (w64 ((1152921504606846976:Int).tdiv parts))))
 true
 (P3 (w64 (nv3 * parts)) (w64 (zee+(1:Int))))))
 true)
def zB2 (slots:Int) (parts:Int):Nat->Int->Int->(Int×Int):=lpO (λ _ _=>default) (zB0 slots parts)
def zB3 (slots:Int) (parts:Int):Nat->Int->Int->Bool:=lpO (λ _ _=>false) (zB1 slots parts)
def zB4 (slots:Int) (parts:Int) (nv3:Int) (zee:Int):(Int×Int):=zB2 slots parts Fuel nv3 zee
def zB5 (slots:Int) (parts:Int) (nv3:Int) (zee:Int):Bool:=zB3 slots parts Fuel nv3 zee
theorem zKA (hs:zB5 slots parts nv3 zee=true) (hk:K (e55 (zB4 slots parts nv3 zee))):z55 K [1,1,1,1,0,1,0] [] (zHV slots parts nv3 zee) :=
  zl (λ X=>z55 K [1,1,1,1,0,1,0,0] [X]) (by kernel_rfl) λ X3 hX =>
  (show ∀ k, zPy K slots parts X3 (zB3 slots parts k) (zB2 slots parts k) from zgc _ _ (zB1 slots parts) (zB0 slots parts) (zPy K slots parts X3)
 (by intro _ _ hs;exact absurd hs dqk)
 (by intro P3 S3 hX3 nv3 zee hs hk;exact hX _ (zaK (by kernel_rfl) (zc hs hk (λ hs hk=>(zaX hs λ hc hs=>And.intro hc (zc hs hk (λ hs hk=>hk) (λ hs hk=>(hX3 hs hk))))) (λ hs hk=>hk))))) _ hs hk
def zB6 (slots:Int) (parts:Int):(Int×Int) :=
  (zB4 slots parts (1:Int) (0:Int))
def zB7 (slots:Int) (parts:Int):Bool :=
  (zB5 slots parts (1:Int) (0:Int))
theorem zKB (hs:zB7 slots parts=true) (hk:K (e55 (zB6 slots parts))):z55 K [1,1,1] [] ⟨[(0,zI slots),(1,zI parts)],[],[]⟩:=zaK (by kernel_rfl) (zKA hs hk)
def zB8 (slots:Int) (parts:Int):(Int×Int) :=
  (cond (decide (slots > (12:Int)))
 ((0:Int),(3:Int))
 (zB6 slots parts))
def zB9 (slots:Int) (parts:Int):Bool :=
  (cond (decide (slots > (12:Int)))
 true
 (zB7 slots parts))
theorem zKC (hs:zB9 slots parts=true) (hk:K (e55 (zB8 slots parts))):z55 K [1,1] [] ⟨[(0,zI slots),(1,zI parts)],[],[]⟩:=zaK (by kernel_rfl) (zc hs hk (λ hs hk=>hk) (λ hs hk=>(zKB hs hk)))
def zuO (slots:Int) (parts:Int) (zuN:Bool):(Int×Int) :=
  (cond zuN
 ((0:Int),(2:Int))
 (zB8 slots parts))
def zuP (slots:Int) (parts:Int) (zuN:Bool):Bool :=
  (cond zuN
 true
 (zB9 slots parts))
theorem zCa (hs:zuP slots parts zuN=true) (hk:K (e55 (zuO slots parts zuN))):z55 K [1,0,1] [] ⟨[(0,zI slots),(1,zI parts),(13,zB zuN)],[],[]⟩:=zaK (by kernel_rfl) (zc hs hk (λ hs hk=>hk) (λ hs hk=>(zKC hs hk)))
def s55 (slots:Int) (parts:Int):(Int×Int) :=
  (cond (!(s56 parts (2:Int) (1000:Int)))
 (zuO slots parts true)
 (zuO slots parts (decide (slots < (0:Int)))))
def p55 (slots:Int) (parts:Int):Bool :=
  (cond (!(s56 parts (2:Int) (1000:Int)))
 (zuP slots parts true)
 (zuP slots parts (decide (slots < (0:Int)))))
end
theorem q55 (slots:Int) (parts:Int) (K:List PA->Prop) (hs:p55 slots parts=true) (hk:K (e55 (s55 slots parts))):vcFun Tryd.prog G55 zKz 55 [.one (.int .i64 slots),.one (.int .i64 parts)] K :=
  zaK (by kernel_rfl) (zc hs hk (λ hs hk=>(zCa hs hk)) (λ hs hk=>(zCa hs hk)))
def zKD : List PA → COut
  | [.one (.int .i64 a0),.one (.int .i64 a1)]=>.det (p55 a0 a1=true) [.one (.int .i64 ((s55 a0 a1).1)),.one (.int .i64 ((s55 a0 a1).2))]
  | _=>.no
theorem zPz:zaj Tryd.prog 55:=⟨_,rfl,rfl,by kernel_rfl⟩
theorem zWz:Ok Tryd.prog 55 zKD:=zbm zTk zPz λ args K h=>by
  unfold zKD at h
  split at h
  · rename_i a0 a1
    obtain⟨hs,hk⟩:=h
    exact⟨(λ _ _=>[]),(λ _=>false),zKz,q55 a0 a1 K hs hk⟩
  · exact h.elim
abbrev T57:Tabs:=Tabs.nil
theorem zTl:TabsOk Tryd.prog T57:=TabsOk.nil
abbrev G57:Ctrs:=csm T57 (λ _ _=>[]) (λ _=>false)
def zKE:Ann:=⟨4,[(0,zK [1] [1]),(1,zK [2] [])],
 [],
 [],
 [],[]⟩
theorem zKF (slots : Int) (K : List PA → Prop) :
  vcFun Tryd.prog G57 zKE 57 [.one (.int .i64 slots)] K =
  (K [.one (.fn 81 [] [.fp (enc_3 slots) 0])]):=by kernel_rfl
theorem q57 (slots:Int) (K:List PA->Prop) (hk:K [.one (.fn 81 [] [.fp [.int .i64 slots] 0])]):vcFun Tryd.prog G57 zKE 57 [.one (.int .i64 slots)] K:=zaK (zKF slots K) hk
def zKG : List PA → COut
  | [.one (.int .i64 a0)]=>.det (True) [.one (.fn 81 [] [.fp [.int .i64 a0] 0])]
  | _=>.no
theorem zPA:zaj Tryd.prog 57:=⟨_,rfl,rfl,by kernel_rfl⟩
theorem zWA:Ok Tryd.prog 57 zKG:=zbm zTl zPA λ args K h=>by
  unfold zKG at h
  split at h
  · rename_i a0
    obtain⟨_,hk⟩:=h
    exact⟨λ _ _=>[],λ _=>false,zKE,q57 a0 K hk⟩
  · exact h.elim
abbrev T58:Tabs:=Tabs.nil
theorem zTm:TabsOk Tryd.prog T58:=TabsOk.nil
abbrev G58:Ctrs:=csm T58 (λ _ _=>[]) (λ _=>false)
def zKH:Ann:=⟨27,[(0,zK [0,1,2] []),(1,zK [0,1,2,7] []),(2,zK [1,2,7,10,11,12] []),(3,zK [1,2,7,10,11,12,13] []),(4,zK [1,2,7,9,10,11,12] []),(5,zK [1,2,7,10,11,12,16] []),(6,zK [1,2,7,10,11,12] []),(7,zK [1,2,7,10,11,12] []),(8,zK [1,2,7,10,11,12] []),(9,zK [6] [])],
 [(3,zK [1,2,7,10,11,12] [])],
 [],
 [],[]⟩
abbrev R58:=Int
abbrev e58 (r:R58):List PA:=[.one (.int .i64 r)]
@[irreducible] def z58:=ptF Tryd.prog G58 zKH Tryd.f58
def zHW (slots:(Sl Bool)) (parts:Int) (rate:Int) (nv0:Int) (zcH:Int):St:=⟨[(1,zI parts),(2,zI rate),(7,zI nv0),(10,zS zdK 1 slots),(11,zI (slots.len:Int)),(12,zI zcH)],[],[]⟩
abbrev zPB (K:List PA->Prop) (slots:(Sl Bool)) (parts:Int) (rate:Int) (X:St->Prop) (P:Int->Int->Bool) (S:Int->Int->Int):Prop:=∀ ⦃nv0:Int⦄ ⦃zcH:Int⦄,P nv0 zcH=true->K (e58 (S nv0 zcH))->X (zHW slots parts rate nv0 zcH)
section
variable {K:List PA->Prop}{slots:(Sl Bool)}{parts:Int}{rate:Int}{nv0:Int}{zcH:Int}{X0:St->Prop}{P0:Int->Int->Bool}{S0:Int->Int->Int}
def zCb (slots:(Sl Bool)) (parts:Int) (rate:Int) (S0:Int->Int->Int) (nv0:Int) (zcH:Int):Int :=
  (cond (decide (zcH < (slots.len : Int)))
 (cond (slots.get zcH.toNat)
 (S0 (w64 (nv0 * rate)) (w64 (zcH+(1:Int))))
 (S0 (w64 (nv0 * (w64 (parts - rate)))) (w64 (zcH+(1:Int)))))
 nv0)
def zCc (slots:(Sl Bool)) (parts:Int) (rate:Int) (P0:Int->Int->Bool) (nv0:Int) (zcH:Int):Bool :=
  (cond (decide (zcH < (slots.len : Int)))
 (decide ((0<=zcH/\zcH < (slots.len:Int))) &&
 (cond (slots.get zcH.toNat)
 (P0 (w64 (nv0 * rate)) (w64 (zcH+(1:Int))))
 (P0 (w64 (nv0 * (w64 (parts - rate)))) (w64 (zcH+(1:Int))))))
 true)
def zCd (slots:(Sl Bool)) (parts:Int) (rate:Int):Nat->Int->Int->Int:=lpO (λ _ _=>default) (zCb slots parts rate)
def zCe (slots:(Sl Bool)) (parts:Int) (rate:Int):Nat->Int->Int->Bool:=lpO (λ _ _=>false) (zCc slots parts rate)
def zCf (slots:(Sl Bool)) (parts:Int) (rate:Int) (nv0:Int) (zcH:Int):Int:=zCd slots parts rate Fuel nv0 zcH
def zCg (slots:(Sl Bool)) (parts:Int) (rate:Int) (nv0:Int) (zcH:Int):Bool:=zCe slots parts rate Fuel nv0 zcH
theorem zKI (hs:zCg slots parts rate nv0 zcH=true) (hk:K (e58 (zCf slots parts rate nv0 zcH))):z58 K [1,1,0,1,0] [] (zHW slots parts rate nv0 zcH) :=
  zl (λ X=>z58 K [1,1,0,1,0,0] [X]) (by kernel_rfl) λ X0 hX =>
  (show ∀ k, zPB K slots parts rate X0 (zCe slots parts rate k) (zCd slots parts rate k) from zgc _ _ (zCc slots parts rate) (zCb slots parts rate) (zPB K slots parts rate X0)
 (by intro _ _ hs;exact absurd hs dqk)
 (by intro P0 S0 hX0 nv0 zcH hs hk;exact hX _ (zaK (by kernel_rfl) (zc hs hk (λ hs hk=>(zaX hs λ hc hs=>And.intro hc (zc hs hk (λ hs hk=>(hX0 hs hk)) (λ hs hk=>(hX0 hs hk))))) (λ hs hk=>hk))))) _ hs hk
def s58 (slots:(Sl Bool)) (parts:Int) (rate:Int):Int :=
  (zCf slots parts rate (1:Int) (0:Int))
def p58 (slots:(Sl Bool)) (parts:Int) (rate:Int):Bool :=
  (zCg slots parts rate (1:Int) (0:Int))
end
theorem q58 (slots:(Sl Bool)) (parts:Int) (rate:Int) (K:List PA->Prop) (hs:p58 slots parts rate=true) (hk:K (e58 (s58 slots parts rate))):vcFun Tryd.prog G58 zKH 58 [.one (.sl slots.len 1 (λ i=>zdK (slots.get i))),.one (.int .i64 parts),.one (.int .i64 rate)] K :=
  zaK (by kernel_rfl) (zKI hs hk)
def zKJ : List PA → COut
  | [.one (.sl zdi zfL zdj),.one (.int .i64 a1),.one (.int .i64 a2)]=>.det (IsE zdK 1 zfL zdj/\p58 (⟨zdi,zbJ zdj⟩:(Sl Bool)) a1 a2=true) [.one (.int .i64 (s58 (⟨zdi,zbJ zdj⟩:(Sl Bool)) a1 a2))]
  | _=>.no
theorem zPC:zaj Tryd.prog 58:=⟨_,rfl,rfl,by kernel_rfl⟩
theorem zWB:Ok Tryd.prog 58 zKJ:=zbm zTm zPC λ args K h=>by
  unfold zKJ at h
  split at h
  · rename_i zdi zfL zdj a1 a2
    obtain⟨⟨⟨rfl,zd4,rfl⟩,hs⟩,hk⟩:=h
    try rw[zoA zd4] at hs
    try rw[zoA zd4] at hk
    exact⟨(λ _ _=>[]),(λ _=>false),zKH,q58 (⟨zdi,zd4⟩:(Sl Bool)) a1 a2 K hs hk⟩
  · exact h.elim
abbrev four (y:Bool×Bool×Bool×Bool):Nat->List PV:=zlO 3 0 (zlO 2 0 (zlO 1 0 (zlO 0 0 (λ _=>zdK false) (zdK y.1)) (zdK y.2.1)) (zdK y.2.2.1)) (zdK y.2.2.2)
theorem zcX {y:Bool×Bool×Bool×Bool} : IsE zdK 1 1 (four y):=⟨rfl,λ i=>match i with | 0=>y.1 | 1=>y.2.1 | 2=>y.2.2.1 | 3=>y.2.2.2 | _=>false,funext λ i=>match i with | 0=>rfl | 1=>rfl | 2=>rfl | 3=>rfl | _+4=>rfl⟩
abbrev T81:Tabs:=Tabs.nil
theorem zTn:TabsOk Tryd.prog T81:=TabsOk.nil
abbrev G81:Ctrs:=csm T81 (λ _ _=>[]) (λ _=>false)
def zsj:Ann:=⟨32,[(0,zK [0,1,7,8] []),(1,zK [0,1,7,8,9] []),(2,zK [0,1,3,7,8] []),(3,zK [0,1,3,4,7,8] [12]),(4,zK [0,1,3,4,7,8,14,15] [12]),(5,zK [0,1,3,4,7,8,14,15,16] [12]),(6,zK [0,1,3,4,5,7,8,14,15] [12]),(7,zK [0,1,3,4,7,8,14,15] [12]),(8,zK [0,1,3,4,7,8,14,15] [12]),(9,zK [0,1,7,8,30] []),(10,zK [0,1,7,8] [])],
 [(1,zK [0,1,7,8] [])],
 [(9,⟨[0,1,4,7,8],[],[],[],[],[],[(4,1,λ _=>zdK default)]⟩)],
 [(5,5,zK [0,1,3,4,7,8,14,15] [12])],[9]⟩
def zm7 (l:Nat) (zaY:Int):St:=⟨[(0,.one (.c (.p (.yl l)))),(1,.one (.c (.p (.fp [.int .i64 (4:Int)] 0)))),(7,.one (.c (.p (.int .i64 (zNy .i64 (1:Int) (4:Int)))))),(8,.one (.c (.p (.int .i64 zaY))))],[],[]⟩
def zm8 (l:Nat) (ys:List (List PA)) (zaY:Int):Prop:=vcY Tryd.prog G81 zsj l (cdF Tryd.f81 [1,0]) (zlj 0 ztH) ys false (zm7 l zaY)
theorem zKK (l : Nat) (ys : List (List PA)) :
  vcIter Tryd.prog G81 zsj 81 l [.one (.fp [.int .i64 (4:Int)] 0)] ys =
  (((0<=(4:Int))) /\
 (zm8 l ys (0:Int))):=by kernel_rfl
def zsk (l:Nat) (X0:List (List PA)->Bool->St->Prop) (ys:List (List PA)) (zaY:Int):Prop :=
  (zcr (decide (zaY < (zNy .i64 (1:Int) (4:Int))))
 (((0<=(4:Int)/\(4:Int)=(4:Int)/\(4:Int)<=1000000)) /\
 (((0<=(0:Int))) /\
 (((0<=(0:Int)/\(0:Int) < (4:Int))) /\
 (((0 < 4)) /\
 (((0<=(1:Int))) /\
 (((0<=(1:Int)/\(1:Int) < (4:Int))) /\
 (((1 < 4)) /\
 (((0<=(2:Int))) /\
 (((0<=(2:Int)/\(2:Int) < (4:Int))) /\
 (((2 < 4)) /\
 (((0<=(3:Int))) /\
 (((0<=(3:Int)/\(3:Int) < (4:Int))) /\
 (((3 < 4)) /\
 (l=l/\∃ r1,ys=[.one (.sl 4 1 (zlO 3 0 (zlO 2 0 (zlO 1 0 (zlO 0 0 (λ _=>(zdK false)) (zdK ((zEN .i64 (zEM .i64 zaY (0:Int)) (1:Int)) == (1:Int)))) (zdK ((zEN .i64 (zEM .i64 zaY (1:Int)) (1:Int)) == (1:Int)))) (zdK ((zEN .i64 (zEM .i64 zaY (2:Int)) (1:Int)) == (1:Int)))) (zdK ((zEN .i64 (zEM .i64 zaY (3:Int)) (1:Int)) == (1:Int)))))] :: r1 /\
 (X0 r1 false (zm7 l (w64 (zaY+(1:Int)))))/\True))))))))))))))
 (ys=[]))
theorem zuQ (l : Nat) (X0 : List (List PA) → Bool → St → Prop) (ys : List (List PA)) (zaY : Int) :
  vcY Tryd.prog G81 zsj l (cd (cdF Tryd.f81 [1,0]) [0]) (zyX Tryd.prog zsj 1 X0 (zlj 0 ztH)) ys false (zm7 l zaY) =
  zsk l X0 ys zaY:=by kernel_rfl
theorem zCh (l : Nat) (ys : List (List PA)) (zaY : Int)
  (h:∀ X0:List (List PA)->Bool->St->Prop,(∀ (ys:List (List PA)) (zaY:Int),zsk l X0 ys zaY->X0 ys false (zm7 l zaY))->X0 ys false (zm7 l zaY)) :
  zm8 l ys zaY:=by
  have e:zm8 l ys zaY=(∀ X:List (List PA)->Bool->St->Prop,(∀ ys q s,vcY Tryd.prog G81 zsj l (cd (cdF Tryd.f81 [1,0]) [0]) (zyX Tryd.prog zsj 1 X (zlj 0 ztH)) ys q s->X ys q s)->X ys false (zm7 l zaY)):=by kernel_rfl
  refine zaK e ?_
  intro X hX
  refine h X ?_
  intro ys zaY hs
  refine hX _ _ _ ?_
  have e2:=zuQ l X ys zaY
  rw[e2]
  exact hs
attribute [irreducible] zm8
def zuR (S0:Int->List (Bool×Bool×Bool×Bool)) (zaY:Int):List (Bool×Bool×Bool×Bool) :=
  (cond (decide (zaY < (zNy .i64 (1:Int) (4:Int))))
 ((((zEN .i64 (zEM .i64 zaY (0:Int)) (1:Int)) == (1:Int)),((zEN .i64 (zEM .i64 zaY (1:Int)) (1:Int)) == (1:Int)),((zEN .i64 (zEM .i64 zaY (2:Int)) (1:Int)) == (1:Int)),((zEN .i64 (zEM .i64 zaY (3:Int)) (1:Int)) == (1:Int))) :: (S0 (w64 (zaY+(1:Int)))))
 [])
def zuS (P0:Int->Bool) (zaY:Int):Bool :=
  (cond (decide (zaY < (zNy .i64 (1:Int) (4:Int))))
 (decide ((0<=(4:Int)/\(4:Int)=(4:Int)/\(4:Int)<=1000000)) &&
 (decide ((0<=(0:Int))) &&
 (decide ((0<=(0:Int)/\(0:Int) < (4:Int))) &&
 (decide ((0 < 4)) &&
 (decide ((0<=(1:Int))) &&
 (decide ((0<=(1:Int)/\(1:Int) < (4:Int))) &&
 (decide ((1 < 4)) &&
 (decide ((0<=(2:Int))) &&
 (decide ((0<=(2:Int)/\(2:Int) < (4:Int))) &&
 (decide ((2 < 4)) &&
 (decide ((0<=(3:Int))) &&
 (decide ((0<=(3:Int)/\(3:Int) < (4:Int))) &&
 (decide ((3 < 4)) &&
 (P0 (w64 (zaY+(1:Int)))))))))))))))))
 true)
def zm9 : Nat → Int → List (Bool × Bool × Bool × Bool)
  | 0=>λ _=>[]
  | k+1=>zuR (zm9 k)
def zna : Nat → Int → Bool
  | 0=>λ _=>false
  | k+1=>zuS (zna k)
def zCi (zaY:Int):List (Bool×Bool×Bool×Bool):=zm9 Fuel zaY
def zCj (zaY:Int):Bool:=zna Fuel zaY
theorem zKL (l:Nat) (ys:List (List PA)) (zaY:Int) (hs:zCj zaY=true) (hk:ys=(zCi zaY).map (λ y=>[.one (.sl 4 1 (four y))])):zm8 l ys zaY:=by
  refine zCh l ys zaY ?_
  intro X0 hstep
  have key:∀ (k:Nat) (ys:List (List PA)) (zaY:Int),zna k zaY=true->ys=(zm9 k zaY).map (λ y=>[.one (.sl 4 1 (four y))])->X0 ys false (zm7 l zaY):=by
    intro k
    induction k with
    | zero=>intro ys zaY hs;exact absurd hs dqk
    | succ k ih =>
      intro ys zaY hs hk
      refine hstep ys zaY ?_
      have hs:zuS (zna k) zaY=true:=hs
      have hk:ys=(zuR (zm9 k) zaY).map (λ y=>[.one (.sl 4 1 (four y))]):=hk
      unfold zuS at hs
      unfold zuR at hk
      generalize zm9 k=S0 at hk ih
      generalize zna k=P0 at hs ih
      have hX0:=ih
      exact (zhT hs hk
 (λ hs hk=>(zaX hs λ hc hs=>⟨hc,(zaX hs λ hc hs=>⟨hc,(zaX hs λ hc hs=>⟨hc,(zaX hs λ hc hs=>⟨hc,(zaX hs λ hc hs=>⟨hc,(zaX hs λ hc hs=>⟨hc,(zaX hs λ hc hs=>⟨hc,(zaX hs λ hc hs=>⟨hc,(zaX hs λ hc hs=>⟨hc,(zaX hs λ hc hs=>⟨hc,(zaX hs λ hc hs=>⟨hc,(zaX hs λ hc hs=>⟨hc,(zaX hs λ hc hs=>⟨hc,(itY hk rfl (λ _ hk=>(hX0 _ (w64 (zaY+(1:Int))) hs hk)))⟩)⟩)⟩)⟩)⟩)⟩)⟩)⟩)⟩)⟩)⟩)⟩)⟩))
 (fun hs hk=>hk))
  exact key _ _ zaY hs hk
def s81:List (Bool×Bool×Bool×Bool) :=
  (zCi (0:Int))
def p81:Bool :=
  (decide ((0<=(4:Int))) &&
 (zCj (0:Int)))
theorem q81 (l:Nat) (ys:List (List PA)) (hs:p81=true) (hk:ys=(s81).map (λ y=>[.one (.sl 4 1 (four y))])):vcIter Tryd.prog G81 zsj 81 l [.one (.fp [.int .i64 (4:Int)] 0)] ys:=by
  refine zaK (zKK l ys) ?_
  unfold p81 at hs
  unfold s81 at hk
  exact (zaX hs λ hc hs=>⟨hc,(zKL l _ (0:Int) hs hk)⟩)
def zTo : List PA → Option (Prop × List (List PA))
  | [.one (.fp [.int .i64 a] 0)]=>some (a=4/\p81=true,s81.map λ y=>[.one (.sl 4 1 (four y))])
  | _=>none
theorem zPD:zaj Tryd.prog 81:=⟨_,rfl,rfl,by kernel_rfl⟩
theorem zWC:zE5 Tryd.prog 81 zTo:=zHy zTn zPD λ l caps safe ys h hs=>by
  unfold zTo at h
  split at h
  · cases h
    obtain⟨rfl,hs⟩:=hs
    exact⟨λ _ _=>[],λ _=>false,zsj,q81 l _ hs rfl⟩
  · cases h
abbrev T28:Tabs:=(((((Tabs.nil.addF 55 zKD).addF 56 zGf).addF 57 zKG).addF 58 zKJ).addI 81 zTo)
theorem zTp:TabsOk Tryd.prog T28:=(((((TabsOk.nil.addF zWz).addF zU3).addF zWA).addF zWB).addI zWC)
abbrev G28:Ctrs:=csm T28 (λ _ _=>[]) (λ _=>false)
def zCk:Ann:=⟨60,[(0,zK [0,5,6,7] [5,6,7]),(1,zK [0,5,6,7,11] [5,6,7]),(2,zK [0,5,6,7,11,24] [5,6,7]),(3,zK [8,9] []),(4,zK [0,5,6,7,36] [5,6,7]),(5,zK [8,9] []),(6,zK [0,5,6,7,12] [5,6,7,12]),(7,zK [5,6,7,12,38] [5,6,7,12]),(8,zK [5,6,7,12,13,38] [5,6,7,12]),(9,zK [5,6,7,12,13,14,38] [5,6,7,12]),(10,zK [5,6,7,12,13,14,38,40,41,42] [5,6,7,12]),(11,zK [5,6,7,12,13,14,38,40,41,42,43] [5,6,7,12]),(12,zK [5,6,7,12,13,14,16,38,40,41,42] [5,6,7,12]),(13,zK [5,6,7,12,13,14,38,40,41,42,46] [5,6,7,12]),(14,zK [5,6,7,12,13,14,38,40,41,42] [5,6,7,12]),(15,zK [5,6,7,12,13,14,38,40,41,42] [5,6,7,12]),(16,zK [5,6,7,12,13,38,52] [5,6,7,12]),(17,zK [5,6,7,12,38] [5,6,7,12]),(18,zK [8,9] [])],
 [(8,zK [5,6,7,12,38] [5,6,7,12])],
 [],
 [(11,5,zK [5,6,7,12,13,14,38,40,41,42] [5,6,7,12])],[]⟩
abbrev R28:=(Int×Int)
abbrev e28 (r:R28):List PA:=[.one (.int .i64 r.1),.one (.int .i64 r.2)]
@[irreducible] def z28:=ptF Tryd.prog G28 zCk Tryd.f28
@[irreducible] def x28:=exF Tryd.prog G28 zCk Tryd.f28
@[irreducible] def y28:=rnF Tryd.prog G28 zCk Tryd.f28
def zCl (zbC:Int):St:=⟨[(5,zp 5 0),(6,zp 6 0),(7,zp 7 0),(12,zp 12 0),(38,zP (.fn 81 [] [.fp [.int .i64 (4:Int)] 0]))],[(5,.box 3 [zi (4:Int)]),(6,.box 3 [zi (1:Int)]),(7,.box 3 [zi (3:Int)]),(12,.box 3 [zi zbC])],[]⟩
abbrev zPE (K:List PA->Prop) (X:St->Prop) (P:Int->Bool) (S:Int->(Int×Int)):Prop:=∀ ⦃zbC:Int⦄,P zbC=true->K (e28 (S zbC))->X (zCl zbC)
section
variable {K:List PA->Prop}{zbC:Int}
def zKM (zbC:Int):(Int×Int) :=
  (zbC,(0:Int))
def zKN (zbC:Int):Bool :=
  true
def zCm (y0:(Bool×Bool×Bool×Bool)) (S0:Int->(Int×Int)) (zbC:Int):(Int×Int) :=
  (cond y0.1
 (cond y0.2.1
 (cond y0.2.2.1
 (cond y0.2.2.2
 (cond (decide ((4:Int) >= (3:Int)))
 (S0 (w64 (zbC+(s58 (⟨4,zbJ (four y0)⟩:(Sl Bool)) (4:Int) (1:Int)))))
 (S0 zbC))
 (cond (decide ((3:Int) >= (3:Int)))
 (S0 (w64 (zbC+(s58 (⟨4,zbJ (four y0)⟩:(Sl Bool)) (4:Int) (1:Int)))))
 (S0 zbC)))
 (cond y0.2.2.2
 (cond (decide ((3:Int) >= (3:Int)))
 (S0 (w64 (zbC+(s58 (⟨4,zbJ (four y0)⟩:(Sl Bool)) (4:Int) (1:Int)))))
 (S0 zbC))
 (cond (decide ((2:Int) >= (3:Int)))
 (S0 (w64 (zbC+(s58 (⟨4,zbJ (four y0)⟩:(Sl Bool)) (4:Int) (1:Int)))))
 (S0 zbC))))
 (cond y0.2.2.1
 (cond y0.2.2.2
 (cond (decide ((3:Int) >= (3:Int)))
 (S0 (w64 (zbC+(s58 (⟨4,zbJ (four y0)⟩:(Sl Bool)) (4:Int) (1:Int)))))
 (S0 zbC))
 (cond (decide ((2:Int) >= (3:Int)))
 (S0 (w64 (zbC+(s58 (⟨4,zbJ (four y0)⟩:(Sl Bool)) (4:Int) (1:Int)))))
 (S0 zbC)))
 (cond y0.2.2.2
 (cond (decide ((2:Int) >= (3:Int)))
 (S0 (w64 (zbC+(s58 (⟨4,zbJ (four y0)⟩:(Sl Bool)) (4:Int) (1:Int)))))
 (S0 zbC))
 (cond (decide ((1:Int) >= (3:Int)))
 (S0 (w64 (zbC+(s58 (⟨4,zbJ (four y0)⟩:(Sl Bool)) (4:Int) (1:Int)))))
 (S0 zbC)))))
 (cond y0.2.1
 (cond y0.2.2.1
 (cond y0.2.2.2
 (cond (decide ((3:Int) >= (3:Int)))
 (S0 (w64 (zbC+(s58 (⟨4,zbJ (four y0)⟩:(Sl Bool)) (4:Int) (1:Int)))))
 (S0 zbC))
 (cond (decide ((2:Int) >= (3:Int)))
 (S0 (w64 (zbC+(s58 (⟨4,zbJ (four y0)⟩:(Sl Bool)) (4:Int) (1:Int)))))
 (S0 zbC)))
 (cond y0.2.2.2
 (cond (decide ((2:Int) >= (3:Int)))
 (S0 (w64 (zbC+(s58 (⟨4,zbJ (four y0)⟩:(Sl Bool)) (4:Int) (1:Int)))))
 (S0 zbC))
 (cond (decide ((1:Int) >= (3:Int)))
 (S0 (w64 (zbC+(s58 (⟨4,zbJ (four y0)⟩:(Sl Bool)) (4:Int) (1:Int)))))
 (S0 zbC))))
 (cond y0.2.2.1
 (cond y0.2.2.2
 (cond (decide ((2:Int) >= (3:Int)))
 (S0 (w64 (zbC+(s58 (⟨4,zbJ (four y0)⟩:(Sl Bool)) (4:Int) (1:Int)))))
 (S0 zbC))
 (cond (decide ((1:Int) >= (3:Int)))
 (S0 (w64 (zbC+(s58 (⟨4,zbJ (four y0)⟩:(Sl Bool)) (4:Int) (1:Int)))))
 (S0 zbC)))
 (cond y0.2.2.2
 (cond (decide ((1:Int) >= (3:Int)))
 (S0 (w64 (zbC+(s58 (⟨4,zbJ (four y0)⟩:(Sl Bool)) (4:Int) (1:Int)))))
 (S0 zbC))
 (cond (decide ((0:Int) >= (3:Int)))
 (S0 (w64 (zbC+(s58 (⟨4,zbJ (four y0)⟩:(Sl Bool)) (4:Int) (1:Int)))))
 (S0 zbC))))))
def zCn (y0:(Bool×Bool×Bool×Bool)) (P0:Int->Bool) (zbC:Int):Bool :=
  (decide ((0<=(0:Int)/\(0:Int) < (4:Int))) &&
 (cond y0.1
 (decide ((0<=(1:Int)/\(1:Int) < (4:Int))) &&
 (cond y0.2.1
 (decide ((0<=(2:Int)/\(2:Int) < (4:Int))) &&
 (cond y0.2.2.1
 (decide ((0<=(3:Int)/\(3:Int) < (4:Int))) &&
 (cond y0.2.2.2
 (cond (decide ((4:Int) >= (3:Int)))
 (decide ((p58 (⟨4,zbJ (four y0)⟩:(Sl Bool)) (4:Int) (1:Int)=true)) &&
 (P0 (w64 (zbC+(s58 (⟨4,zbJ (four y0)⟩:(Sl Bool)) (4:Int) (1:Int))))))
 (P0 zbC))
 (cond (decide ((3:Int) >= (3:Int)))
 (decide ((p58 (⟨4,zbJ (four y0)⟩:(Sl Bool)) (4:Int) (1:Int)=true)) &&
 (P0 (w64 (zbC+(s58 (⟨4,zbJ (four y0)⟩:(Sl Bool)) (4:Int) (1:Int))))))
 (P0 zbC))))
 (decide ((0<=(3:Int)/\(3:Int) < (4:Int))) &&
 (cond y0.2.2.2
 (cond (decide ((3:Int) >= (3:Int)))
 (decide ((p58 (⟨4,zbJ (four y0)⟩:(Sl Bool)) (4:Int) (1:Int)=true)) &&
 (P0 (w64 (zbC+(s58 (⟨4,zbJ (four y0)⟩:(Sl Bool)) (4:Int) (1:Int))))))
 (P0 zbC))
 (cond (decide ((2:Int) >= (3:Int)))
 (decide ((p58 (⟨4,zbJ (four y0)⟩:(Sl Bool)) (4:Int) (1:Int)=true)) &&
 (P0 (w64 (zbC+(s58 (⟨4,zbJ (four y0)⟩:(Sl Bool)) (4:Int) (1:Int))))))
 (P0 zbC))))))
 (decide ((0<=(2:Int)/\(2:Int) < (4:Int))) &&
 (cond y0.2.2.1
 (decide ((0<=(3:Int)/\(3:Int) < (4:Int))) &&
 (cond y0.2.2.2
 (cond (decide ((3:Int) >= (3:Int)))
 (decide ((p58 (⟨4,zbJ (four y0)⟩:(Sl Bool)) (4:Int) (1:Int)=true)) &&
 (P0 (w64 (zbC+(s58 (⟨4,zbJ (four y0)⟩:(Sl Bool)) (4:Int) (1:Int))))))
 (P0 zbC))
 (cond (decide ((2:Int) >= (3:Int)))
 (decide ((p58 (⟨4,zbJ (four y0)⟩:(Sl Bool)) (4:Int) (1:Int)=true)) &&
 (P0 (w64 (zbC+(s58 (⟨4,zbJ (four y0)⟩:(Sl Bool)) (4:Int) (1:Int))))))
 (P0 zbC))))
 (decide ((0<=(3:Int)/\(3:Int) < (4:Int))) &&
 (cond y0.2.2.2
 (cond (decide ((2:Int) >= (3:Int)))
 (decide ((p58 (⟨4,zbJ (four y0)⟩:(Sl Bool)) (4:Int) (1:Int)=true)) &&
 (P0 (w64 (zbC+(s58 (⟨4,zbJ (four y0)⟩:(Sl Bool)) (4:Int) (1:Int))))))
 (P0 zbC))
 (cond (decide ((1:Int) >= (3:Int)))
 (decide ((p58 (⟨4,zbJ (four y0)⟩:(Sl Bool)) (4:Int) (1:Int)=true)) &&
 (P0 (w64 (zbC+(s58 (⟨4,zbJ (four y0)⟩:(Sl Bool)) (4:Int) (1:Int))))))
 (P0 zbC))))))))
 (decide ((0<=(1:Int)/\(1:Int) < (4:Int))) &&
 (cond y0.2.1
 (decide ((0<=(2:Int)/\(2:Int) < (4:Int))) &&
 (cond y0.2.2.1
 (decide ((0<=(3:Int)/\(3:Int) < (4:Int))) &&
 (cond y0.2.2.2
 (cond (decide ((3:Int) >= (3:Int)))
 (decide ((p58 (⟨4,zbJ (four y0)⟩:(Sl Bool)) (4:Int) (1:Int)=true)) &&
 (P0 (w64 (zbC+(s58 (⟨4,zbJ (four y0)⟩:(Sl Bool)) (4:Int) (1:Int))))))
 (P0 zbC))
 (cond (decide ((2:Int) >= (3:Int)))
 (decide ((p58 (⟨4,zbJ (four y0)⟩:(Sl Bool)) (4:Int) (1:Int)=true)) &&
 (P0 (w64 (zbC+(s58 (⟨4,zbJ (four y0)⟩:(Sl Bool)) (4:Int) (1:Int))))))
 (P0 zbC))))
 (decide ((0<=(3:Int)/\(3:Int) < (4:Int))) &&
 (cond y0.2.2.2
 (cond (decide ((2:Int) >= (3:Int)))
 (decide ((p58 (⟨4,zbJ (four y0)⟩:(Sl Bool)) (4:Int) (1:Int)=true)) &&
 (P0 (w64 (zbC+(s58 (⟨4,zbJ (four y0)⟩:(Sl Bool)) (4:Int) (1:Int))))))
 (P0 zbC))
 (cond (decide ((1:Int) >= (3:Int)))
 (decide ((p58 (⟨4,zbJ (four y0)⟩:(Sl Bool)) (4:Int) (1:Int)=true)) &&
 (P0 (w64 (zbC+(s58 (⟨4,zbJ (four y0)⟩:(Sl Bool)) (4:Int) (1:Int))))))
 (P0 zbC))))))
 (decide ((0<=(2:Int)/\(2:Int) < (4:Int))) &&
 (cond y0.2.2.1
 (decide ((0<=(3:Int)/\(3:Int) < (4:Int))) &&
 (cond y0.2.2.2
 (cond (decide ((2:Int) >= (3:Int)))
 (decide ((p58 (⟨4,zbJ (four y0)⟩:(Sl Bool)) (4:Int) (1:Int)=true)) &&
 (P0 (w64 (zbC+(s58 (⟨4,zbJ (four y0)⟩:(Sl Bool)) (4:Int) (1:Int))))))
 (P0 zbC))
 (cond (decide ((1:Int) >= (3:Int)))
 (decide ((p58 (⟨4,zbJ (four y0)⟩:(Sl Bool)) (4:Int) (1:Int)=true)) &&
 (P0 (w64 (zbC+(s58 (⟨4,zbJ (four y0)⟩:(Sl Bool)) (4:Int) (1:Int))))))
 (P0 zbC))))
 (decide ((0<=(3:Int)/\(3:Int) < (4:Int))) &&
 (cond y0.2.2.2
 (cond (decide ((1:Int) >= (3:Int)))
 (decide ((p58 (⟨4,zbJ (four y0)⟩:(Sl Bool)) (4:Int) (1:Int)=true)) &&
 (P0 (w64 (zbC+(s58 (⟨4,zbJ (four y0)⟩:(Sl Bool)) (4:Int) (1:Int))))))
 (P0 zbC))
 (cond (decide ((0:Int) >= (3:Int)))
 (decide ((p58 (⟨4,zbJ (four y0)⟩:(Sl Bool)) (4:Int) (1:Int)=true)) &&
 (P0 (w64 (zbC+(s58 (⟨4,zbJ (four y0)⟩:(Sl Bool)) (4:Int) (1:Int))))))
 (P0 zbC))))))))))
def zCo:List (Bool×Bool×Bool×Bool)->Int->(Int×Int):=lpR (zKM) (zCm)
def zCp:List (Bool×Bool×Bool×Bool)->Int->Bool:=lpR (zKN) (zCn)
def zCq (zbC:Int):(Int×Int):=zCo (s81) zbC
def zCr (zbC:Int):Bool:=decide ((p81=true)) && zCp (s81) zbC
theorem zKO (hs:zCr zbC=true) (hk:K (e28 (zCq zbC))):z28 K [1,1,1,1,0,1,0] [] (zCl zbC) :=
  zaX hs λ hc hs=>zr (enc:=(λ y:(Bool×Bool×Bool×Bool)=>[.one (.sl 4 1 (four y))])) (ys:=s81) (g:=(zCl zbC)) (x28 K [1,1,1,1,0,1,0] []) (y28 K [1,1,1,1,0,1,0] []) (by kernel_rfl) (And.intro (rfl:(4:Int)=4) hc) λ X0 hE hR =>
  (show ∀ l : List (Bool × Bool × Bool × Bool), zPE K (X0 (l.map (λ y : (Bool × Bool × Bool × Bool) => [.one (.sl 4 1 (four y))]))) (zCp l) (zCo l) from zri (X := X0) (enc := (λ y : (Bool × Bool × Bool × Bool) => [.one (.sl 4 1 (four y))])) _ _ (zCn) (zCm) (λ Z P S => zPE K Z P S)
 (by intro zbC hs hk;exact hE _ (zaK (by kernel_rfl) hk))
 (by intro y0 rest P0 S0 hX0 zbC hs hk;exact hR _ rest _ (zaK (by kernel_rfl) (zaX hs λ hc hs=>And.intro hc (zc hs hk (λ hs hk=>(zaX hs λ hc hs=>And.intro hc (zc hs hk (λ hs hk=>(zaX hs λ hc hs=>And.intro hc (zc hs hk (λ hs hk=>(zaX hs λ hc hs=>And.intro hc (zc hs hk (λ hs hk=>(zc hs hk (λ hs hk=>(zaX hs λ hc hs=>And.intro (And.intro (zcX:IsE zdK 1 1 (four y0)) hc) (hX0 hs hk))) (λ hs hk=>(hX0 hs hk)))) (λ hs hk=>(zc hs hk (λ hs hk=>(zaX hs λ hc hs=>And.intro (And.intro (zcX:IsE zdK 1 1 (four y0)) hc) (hX0 hs hk))) (λ hs hk=>(hX0 hs hk))))))) (λ hs hk=>(zaX hs λ hc hs=>And.intro hc (zc hs hk (λ hs hk=>(zc hs hk (λ hs hk=>(zaX hs λ hc hs=>And.intro (And.intro (zcX:IsE zdK 1 1 (four y0)) hc) (hX0 hs hk))) (λ hs hk=>(hX0 hs hk)))) (λ hs hk=>(zc hs hk (λ hs hk=>(zaX hs λ hc hs=>And.intro (And.intro (zcX:IsE zdK 1 1 (four y0)) hc) (hX0 hs hk))) (λ hs hk=>(hX0 hs hk)))))))))) (λ hs hk=>(zaX hs λ hc hs=>And.intro hc (zc hs hk (λ hs hk=>(zaX hs λ hc hs=>And.intro hc (zc hs hk (λ hs hk=>(zc hs hk (λ hs hk=>(zaX hs λ hc hs=>And.intro (And.intro (zcX:IsE zdK 1 1 (four y0)) hc) (hX0 hs hk))) (λ hs hk=>(hX0 hs hk)))) (λ hs hk=>(zc hs hk (λ hs hk=>(zaX hs λ hc hs=>And.intro (And.intro (zcX:IsE zdK 1 1 (four y0)) hc) (hX0 hs hk))) (λ hs hk=>(hX0 hs hk))))))) (λ hs hk=>(zaX hs λ hc hs=>And.intro hc (zc hs hk (λ hs hk=>(zc hs hk (λ hs hk=>(zaX hs λ hc hs=>And.intro (And.intro (zcX:IsE zdK 1 1 (four y0)) hc) (hX0 hs hk))) (λ hs hk=>(hX0 hs hk)))) (λ hs hk=>(zc hs hk (λ hs hk=>(zaX hs λ hc hs=>And.intro (And.intro (zcX:IsE zdK 1 1 (four y0)) hc) (hX0 hs hk))) (λ hs hk=>(hX0 hs hk))))))))))))) (λ hs hk=>(zaX hs λ hc hs=>And.intro hc (zc hs hk (λ hs hk=>(zaX hs λ hc hs=>And.intro hc (zc hs hk (λ hs hk=>(zaX hs λ hc hs=>And.intro hc (zc hs hk (λ hs hk=>(zc hs hk (λ hs hk=>(zaX hs λ hc hs=>And.intro (And.intro (zcX:IsE zdK 1 1 (four y0)) hc) (hX0 hs hk))) (λ hs hk=>(hX0 hs hk)))) (λ hs hk=>(zc hs hk (λ hs hk=>(zaX hs λ hc hs=>And.intro (And.intro (zcX:IsE zdK 1 1 (four y0)) hc) (hX0 hs hk))) (λ hs hk=>(hX0 hs hk))))))) (λ hs hk=>(zaX hs λ hc hs=>And.intro hc (zc hs hk (λ hs hk=>(zc hs hk (λ hs hk=>(zaX hs λ hc hs=>And.intro (And.intro (zcX:IsE zdK 1 1 (four y0)) hc) (hX0 hs hk))) (λ hs hk=>(hX0 hs hk)))) (λ hs hk=>(zc hs hk (λ hs hk=>(zaX hs λ hc hs=>And.intro (And.intro (zcX:IsE zdK 1 1 (four y0)) hc) (hX0 hs hk))) (λ hs hk=>(hX0 hs hk)))))))))) (λ hs hk=>(zaX hs λ hc hs=>And.intro hc (zc hs hk (λ hs hk=>(zaX hs λ hc hs=>And.intro hc (zc hs hk (λ hs hk=>(zc hs hk (λ hs hk=>(zaX hs λ hc hs=>And.intro (And.intro (zcX:IsE zdK 1 1 (four y0)) hc) (hX0 hs hk))) (λ hs hk=>(hX0 hs hk)))) (λ hs hk=>(zc hs hk (λ hs hk=>(zaX hs λ hc hs=>And.intro (And.intro (zcX:IsE zdK 1 1 (four y0)) hc) (hX0 hs hk))) (λ hs hk=>(hX0 hs hk))))))) (λ hs hk=>(zaX hs λ hc hs=>And.intro hc (zc hs hk (λ hs hk=>(zc hs hk (λ hs hk=>(zaX hs λ hc hs=>And.intro (And.intro (zcX:IsE zdK 1 1 (four y0)) hc) (hX0 hs hk))) (λ hs hk=>(hX0 hs hk)))) (λ hs hk=>(zc hs hk (λ hs hk=>(zaX hs λ hc hs=>And.intro (And.intro (zcX:IsE zdK 1 1 (four y0)) hc) (hX0 hs hk))) (λ hs hk=>(hX0 hs hk)))))))))))))))))) _ hs hk
def s28:(Int×Int) :=
  (cond (((s55 (4:Int) (4:Int)).2) != (0:Int))
 ((0:Int),((s55 (4:Int) (4:Int)).2))
 (cond (!(s56 (1:Int) (0:Int) (4:Int)))
 ((0:Int),(2:Int))
 (cond (!(s56 (3:Int) (0:Int) (5:Int)))
 ((0:Int),(2:Int))
 (zCq (0:Int)))))
def p28:Bool :=
  (decide ((p55 (4:Int) (4:Int)=true)) &&
 (cond (((s55 (4:Int) (4:Int)).2) != (0:Int))
 true
 (cond (!(s56 (1:Int) (0:Int) (4:Int)))
 true
 (cond (!(s56 (3:Int) (0:Int) (5:Int)))
 true
 (decide ((True)) &&
 (zCr (0:Int)))))))
end
theorem q28 (K:List PA->Prop) (hs:p28=true) (hk:K (e28 (s28))):vcFun Tryd.prog G28 zCk 28 [.one (.int .i64 (4:Int)),.one (.int .i64 (4:Int)),.one (.int .i64 (1:Int)),.one (.int .i64 (3:Int))] K :=
  zaK (by kernel_rfl) (zaX hs λ hc hs=>And.intro hc (zc hs hk (λ hs hk=>hk) (λ hs hk=>(zc hs hk (λ hs hk=>hk) (λ hs hk=>(zc hs hk (λ hs hk=>hk) (λ hs hk=>(zaX hs λ hc hs=>And.intro hc (zKO hs hk)))))))))
def zKP : List PA → COut
  | [.one (.int .i64 a0),.one (.int .i64 a1),.one (.int .i64 a2),.one (.int .i64 a3)]=>.det (a0=4/\a1=4/\a2=1/\a3=3/\p28=true) [.one (.int .i64 s28.1),.one (.int .i64 s28.2)]
  | _=>.no
theorem call28:zaj Tryd.prog 28:=⟨_,rfl,rfl,by kernel_rfl⟩
theorem zWD:Ok Tryd.prog 28 zKP:=zbm zTp call28 λ args K h=>by
  unfold zKP at h
  split at h
  · obtain ⟨⟨rfl, rfl, rfl, rfl, hs⟩, hk⟩ := h
    exact⟨λ _ _=>[],λ _=>false,zCk,q28 K hs hk⟩
  · exact h.elim
abbrev T29:Tabs:=Tabs.nil
theorem zTq:TabsOk Tryd.prog T29:=TabsOk.nil
abbrev G29:Ctrs:=csm T29 (λ _ _=>[]) (λ _=>false)
def zKQ:Ann:=⟨38,[(0,zK [2,3] [2,3]),(1,zK [2,3,19] [2,3]),(2,zK [4] []),(3,zK [2,3,5] [2,3]),(4,zK [2,3,5,24] [2,3]),(5,zK [2,3,5] [2,3]),(6,zK [2,3,5,37] [2,3]),(7,zK [4] []),(8,zK [4] [])],
 [(4,zK [2,3,5] [2,3])],
 [(3,zK [2,3] [2,3])],
 [],[]⟩
abbrev R29:=Bool
abbrev e29 (r:R29):List PA:=[.one (.bool r)]
@[irreducible] def z29:=ptF Tryd.prog G29 zKQ Tryd.f29
def zHX (a:Net) (b:Net) (iv1:Int):St:=⟨[(2,zp 2 0),(3,zp 3 0),(5,zI iv1)],[(2,.box 48 (zm (zdk a))),(3,.box 48 (zm (zdk b)))],[]⟩
abbrev zPF (K:List PA->Prop) (a:Net) (b:Net) (X:St->Prop) (P:Int->Bool) (S:Int->Bool):Prop:=∀ ⦃iv1:Int⦄,P iv1=true->K (e29 (S iv1))->X (zHX a b iv1)
section
variable {K:List PA->Prop}{a:Net}{b:Net}{iv1:Int}{X1:St->Prop}{P1:Int->Bool}{S1:Int->Bool}
def zCs (a:Net) (b:Net) (S1:Int->Bool) (iv1:Int):Bool :=
  (cond (decide (iv1 < (a.Ties.len : Int)))
 (cond (!(match ((a.Ties.get iv1.toNat).From == (b.Ties.get iv1.toNat).From) with | true => (match ((a.Ties.get iv1.toNat).To == (b.Ties.get iv1.toNat).To) with | true => (match ((a.Ties.get iv1.toNat).Low == (b.Ties.get iv1.toNat).Low) with | true => (match ((a.Ties.get iv1.toNat).High == (b.Ties.get iv1.toNat).High) with | true => true | false => false) | false => false) | false => false) | false => false))
 false
 (S1 (w64 (iv1+(1:Int)))))
 true)
def zCt (a:Net) (b:Net) (P1:Int->Bool) (iv1:Int):Bool :=
  (cond (decide (iv1 < (a.Ties.len : Int)))
 (decide ((0<=iv1/\iv1 < (a.Ties.len:Int))) &&
 (decide ((0<=iv1/\iv1 < (b.Ties.len:Int))) &&
 (cond (!(match ((a.Ties.get iv1.toNat).From == (b.Ties.get iv1.toNat).From) with | true => (match ((a.Ties.get iv1.toNat).To == (b.Ties.get iv1.toNat).To) with | true => (match ((a.Ties.get iv1.toNat).Low == (b.Ties.get iv1.toNat).Low) with | true => (match ((a.Ties.get iv1.toNat).High == (b.Ties.get iv1.toNat).High) with | true => true | false => false) | false => false) | false => false) | false => false))
 true
 (P1 (w64 (iv1+(1:Int)))))))
 true)
def zCu (a:Net) (b:Net):Nat->Int->Bool:=lpO (λ _=>default) (zCs a b)
def zCv (a:Net) (b:Net):Nat->Int->Bool:=lpO (λ _=>false) (zCt a b)
def zCw (a:Net) (b:Net) (iv1:Int):Bool:=zCu a b Fuel iv1
def zCx (a:Net) (b:Net) (iv1:Int):Bool:=zCv a b Fuel iv1
theorem zKR (hs:zCx a b iv1=true) (hk:K (e29 (zCw a b iv1))):z29 K [1,1,0,1,0] [] (zHX a b iv1) :=
  zl (λ X=>z29 K [1,1,0,1,0,0] [X]) (by kernel_rfl) λ X1 hX =>
  (show ∀ k, zPF K a b X1 (zCv a b k) (zCu a b k) from zgc _ _ (zCt a b) (zCs a b) (zPF K a b X1)
 (by intro _ hs;exact absurd hs dqk)
 (by intro P1 S1 hX1 iv1 hs hk;exact hX _ (zaK (by kernel_rfl) (zc hs hk (λ hs hk=>(zaX hs λ hc hs=>And.intro hc (zaX hs λ hc hs=>And.intro hc (zc hs hk (λ hs hk=>hk) (λ hs hk=>(hX1 hs hk)))))) (λ hs hk=>hk))))) _ hs hk
def zCy (a:Net) (b:Net):Bool :=
  (zCw a b (0:Int))
def zCz (a:Net) (b:Net):Bool :=
  (zCx a b (0:Int))
theorem zKS (hs:zCz a b=true) (hk:K (e29 (zCy a b))):z29 K [1,1] [] ⟨[(2,zp 2 0),(3,zp 3 0)],[(2,.box 48 (zm (zdk a))),(3,.box 48 (zm (zdk b)))],[]⟩:=zaK (by kernel_rfl) (zKR hs hk)
def s29 (a:Net) (b:Net):Bool :=
  (cond (a.Nodes != b.Nodes)
 false
 (cond ((a.Ties.len : Int) != (b.Ties.len : Int))
 false
 (zCy a b)))
def p29 (a:Net) (b:Net):Bool :=
  (cond (a.Nodes != b.Nodes)
 true
 (cond ((a.Ties.len : Int) != (b.Ties.len : Int))
 true
 (zCz a b)))
end
theorem q29 (a:Net) (b:Net) (K:List PA->Prop) (hs:p29 a b=true) (hk:K (e29 (s29 a b))):vcFun Tryd.prog G29 zKQ 29 [.agg (zdk a),.agg (zdk b)] K :=
  zaK (by kernel_rfl) (zc hs hk (λ hs hk=>hk) (λ hs hk=>(zc hs hk (λ hs hk=>hk) (λ hs hk=>(zKS hs hk)))))
def zKT : List PA → COut
  | [.agg [.int .i64 za0,.sl za7 zcf zaZ],.agg [.int .i64 zl5,.sl zjC zsl zjD]]=>.det (IsE zbr 4 zcf zaZ/\IsE zbr 4 zsl zjD/\p29 (⟨za0,(⟨za7,zbR zaZ⟩:(Sl Tie))⟩:Net) (⟨zl5,(⟨zjC,zbR zjD⟩:(Sl Tie))⟩:Net)=true) [.one (.bool (s29 (⟨za0,(⟨za7,zbR zaZ⟩:(Sl Tie))⟩:Net) (⟨zl5,(⟨zjC,zbR zjD⟩:(Sl Tie))⟩:Net)))]
  | _=>.no
theorem zPG:zaj Tryd.prog 29:=⟨_,rfl,rfl,by kernel_rfl⟩
theorem zWE:Ok Tryd.prog 29 zKT:=zbm zTq zPG λ args K h=>by
  unfold zKT at h
  split at h
  · rename_i za0 za7 zcf zaZ zl5 zjC zsl zjD
    obtain⟨⟨⟨rfl,zbS,rfl⟩,⟨rfl,znb,rfl⟩,hs⟩,hk⟩:=h
    try rw[zbp zbS] at hs
    try rw[zbp zbS] at hk
    try rw[zbp znb] at hs
    try rw[zbp znb] at hk
    exact⟨(λ _ _=>[]),(λ _=>false),zKQ,q29 (⟨za0,(⟨za7,zbS⟩:(Sl Tie))⟩:Net) (⟨zl5,(⟨zjC,znb⟩:(Sl Tie))⟩:Net) K hs hk⟩
  · exact h.elim
abbrev T7:Tabs:=((((((Tabs.nil.addF 10 zFV).addF 25 zKv).addF 26 zKw).addF 27 zKx).addF 28 zKP).addF 29 zKT)
theorem zWF:TabsOk Tryd.prog T7:=((((((TabsOk.nil.addF zUI).addF zWw).addF zWx).addF zWy).addF zWD).addF zWE)
abbrev G7:Ctrs:=csm T7 (λ _ _=>[]) (λ _=>false)
def zTr:Ann:=⟨50,[(0,zK [] []),(1,zK [1,2] [1]),(2,zK [1,2,3,4] [1,3]),(3,zK [1,2,3,4,5,6] [1,3]),(4,zK [0] [])],
 [],
 [(2,zK [1,2] [1]),(3,zK [1,2,3,4] [1,3]),(4,zK [1,2,3,4,5,6] [1,3])],
 [],[]⟩
abbrev R7:=Bool
abbrev e7 (r:R7):List PA:=[.one (.bool r)]
@[irreducible] def z7:=ptF Tryd.prog G7 zTr Tryd.f7
section
variable {K:List PA->Prop}{ev0:Int}{zfV:Int}{zft:(Sl Tie)}{zCA:Nat->List PV}{fv1:Int}{zfW:Int}{zfX:Int}
def zHY (ev0:Int) (zfV:Int) (zft:(Sl Tie)) (fv1:Int) (zfW:Int) (zfX:Int):Bool :=
  (cond (ev0 == (0:Int))
 (cond (fv1 == (0:Int))
 (cond (s28.2 == (0:Int))
 (cond (s29 (⟨zfV, zft⟩ : Net) (⟨(3:Int), (⟨1, λ _ => (⟨(0:Int), (2:Int), (21:Int), (29:Int)⟩ : Tie)⟩ : (Sl Tie))⟩ : Net))
 (cond (match (zfW == (20:Int)) with | true => (match (zfX == (500:Int)) with | true => true | false => false) | false => false)
 (s28.1 == (13:Int))
 false)
 false)
 false)
 false)
 false)
def zHZ (ev0:Int) (zfV:Int) (zft:(Sl Tie)) (fv1:Int) (zfW:Int) (zfX:Int):Bool :=
  (cond (ev0 == (0:Int))
 (cond (fv1 == (0:Int))
 (cond (s28.2 == (0:Int))
 (decide ((p29 (⟨zfV,zft⟩:Net) (⟨(3:Int),(⟨1,λ _=>(⟨(0:Int),(2:Int),(21:Int),(29:Int)⟩:Tie)⟩:(Sl Tie))⟩:Net)=true)) &&
 true)
 true)
 true)
 true)
theorem zPH (hs:zHZ ev0 zfV zft fv1 zfW zfX=true) (hk:K (e7 (zHY ev0 zfV zft fv1 zfW zfX))):z7 K [1,1,1,1] [] ⟨[(1,zp 1 0),(2,zI ev0),(3,zp 3 0),(4,zI fv1),(5,zI s28.1),(6,zI s28.2)],[(1,.box 48 (zm (zdk (⟨zfV,zft⟩:Net)))),(3,.box 32 (zm (za2 (⟨zfW,zfX⟩:Span))))],[]⟩:=zaK (by kernel_rfl) (zc hs hk (λ hs hk=>(zc hs hk (λ hs hk=>(zc hs hk (λ hs hk=>(zaX hs λ hc hs=>And.intro (And.intro (zE zbr 4 zft.get) (And.intro (zFL:IsE zbr 4 4 (λ _=>(zbr (⟨(0:Int),(2:Int),(21:Int),(29:Int)⟩:Tie)))) hc)) (zt hk (λ hk=>(zt hk (λ hk=>hk) (λ hk=>hk))) (λ hk=>hk)))) (λ hs hk=>hk))) (λ hs hk=>hk))) (λ hs hk=>hk))
def zH0 (ev0:Int) (zfV:Int) (zft:(Sl Tie)) (fv1:Int) (zfW:Int) (zfX:Int):Bool :=
  (zHY ev0 zfV zft fv1 zfW zfX)
def zH1 (ev0:Int) (zfV:Int) (zft:(Sl Tie)) (fv1:Int) (zfW:Int) (zfX:Int):Bool :=
  (decide ((p28=true)) &&
 (zHZ ev0 zfV zft fv1 zfW zfX))
theorem zPI (hs:zH1 ev0 zfV zft fv1 zfW zfX=true) (hk:K (e7 (zH0 ev0 zfV zft fv1 zfW zfX))):z7 K [1,1,1] [] ⟨[(1,zp 1 0),(2,zI ev0),(3,zp 3 0),(4,zI fv1)],[(1,.box 48 (zm (zdk (⟨zfV,zft⟩:Net)))),(3,.box 32 (zm (za2 (⟨zfW,zfX⟩:Span))))],[]⟩:=zaK (by kernel_rfl) (zaX hs λ hc hs=>And.intro (And.intro (rfl:(4:Int)=4) (And.intro (rfl:(4:Int)=4) (And.intro (rfl:(1:Int)=1) (And.intro (rfl:(3:Int)=3) hc)))) (zPH hs hk))
def zH2 (ev0:Int) (zfV:Int) (zft:(Sl Tie)):Bool :=
  (zH0 ev0 zfV zft ((s25 s26 s27 (0:Int) (100:Int)).2) (((s25 s26 s27 (0:Int) (100:Int)).1).Low) (((s25 s26 s27 (0:Int) (100:Int)).1).High))
def zH3 (ev0:Int) (zfV:Int) (zft:(Sl Tie)):Bool :=
  (decide ((p25 s26 s27 (0:Int) (100:Int)=true)) &&
 (zH1 ev0 zfV zft ((s25 s26 s27 (0:Int) (100:Int)).2) (((s25 s26 s27 (0:Int) (100:Int)).1).Low) (((s25 s26 s27 (0:Int) (100:Int)).1).High)))
theorem zPJ (hs:zH3 ev0 zfV zft=true) (hk:K (e7 (zH2 ev0 zfV zft))) (zKU:zCA=zg zbr zft):z7 K [1,1] [] ⟨[(1,zp 1 0),(2,zI ev0)],[(1,.box 48 [zi zfV,.p (.sl zft.len 4 zCA)])],[]⟩:=by subst zKU;exact zaK (by kernel_rfl) (zaX hs λ hc hs=>And.intro (And.intro (zE zcG 1 s26.Bins.get) (And.intro (zE za6 3 s27.get) hc)) (zPI hs hk))
def s7:Bool :=
  (zH2 ((s10 (3:Int) (⟨1,λ _=>(⟨(0:Int),(2:Int),(100:Int),(130:Int),(⟨(4:Int),(6:Int)⟩:Span),(3:Int)⟩:Pulse)⟩:(Sl Pulse))).2) (((s10 (3:Int) (⟨1,λ _=>(⟨(0:Int),(2:Int),(100:Int),(130:Int),(⟨(4:Int),(6:Int)⟩:Span),(3:Int)⟩:Pulse)⟩:(Sl Pulse))).1).Nodes) (((s10 (3:Int) (⟨1,λ _=>(⟨(0:Int),(2:Int),(100:Int),(130:Int),(⟨(4:Int),(6:Int)⟩:Span),(3:Int)⟩:Pulse)⟩:(Sl Pulse))).1).Ties))
def p7:Bool :=
  (decide ((p10 (3:Int) (⟨1,λ _=>(⟨(0:Int),(2:Int),(100:Int),(130:Int),(⟨(4:Int),(6:Int)⟩:Span),(3:Int)⟩:Pulse)⟩:(Sl Pulse))=true)) &&
 (zH3 ((s10 (3:Int) (⟨1,λ _=>(⟨(0:Int),(2:Int),(100:Int),(130:Int),(⟨(4:Int),(6:Int)⟩:Span),(3:Int)⟩:Pulse)⟩:(Sl Pulse))).2) (((s10 (3:Int) (⟨1,λ _=>(⟨(0:Int),(2:Int),(100:Int),(130:Int),(⟨(4:Int),(6:Int)⟩:Span),(3:Int)⟩:Pulse)⟩:(Sl Pulse))).1).Nodes) (((s10 (3:Int) (⟨1,λ _=>(⟨(0:Int),(2:Int),(100:Int),(130:Int),(⟨(4:Int),(6:Int)⟩:Span),(3:Int)⟩:Pulse)⟩:(Sl Pulse))).1).Ties)))
end
theorem q7 (K:List PA->Prop) (hs:p7=true) (hk:K (e7 (s7))):vcFun Tryd.prog G7 zTr 7 [] K :=
  zaK (by kernel_rfl) (zaX hs λ hc hs=>And.intro (And.intro (zFL:IsE zdL 7 7 (λ _=>(zdL (⟨(0:Int),(2:Int),(100:Int),(130:Int),(⟨(4:Int),(6:Int)⟩:Span),(3:Int)⟩:Pulse)))) hc) (zPJ hs hk rfl))
theorem zTs:p7=true:=by kernel_rfl
theorem zTt:s7=true:=by kernel_rfl
def zTu : List PA → COut
  | []=>.tot [.one (.bool true)]
  | _=>.no
theorem call7:zaj Tryd.prog 7:=⟨_,rfl,rfl,by kernel_rfl⟩
theorem ok7:Ok Tryd.prog 7 zTu:=zbm zWF call7 λ args K h=>by
  unfold zTu at h
  split at h
  · refine ⟨fun _ _ => [], fun _ => false, zTr, q7 K zTs ?_⟩
    show K [.one (.bool s7)]
    rw[zTt];exact h
  · exact h.elim
abbrev T5:Tabs:=Tabs.nil
theorem zWG:TabsOk Tryd.prog T5:=TabsOk.nil
abbrev G5:Ctrs:=csm T5 (λ _ _=>[]) (λ _=>false)
def zTv:Ann:=⟨33,[(0,zK [1] [1]),(1,zK [1,3] [1]),(2,zK [1,3,8] [1]),(3,zK [1,3] [1]),(4,zK [1,3,28] [1]),(5,zK [2] []),(6,zK [2] [])],
 [(2,zK [1,3] [1])],
 [],
 [],[]⟩
abbrev R5:=Bool
abbrev e5 (r:R5):List PA:=[.one (.bool r)]
@[irreducible] def z5:=ptF Tryd.prog G5 zTv Tryd.f5
def zPK (s:Setup) (iv0:Int):St:=⟨[(1,zp 1 0),(3,zI iv0)],[(1,.box 24 (zm (enc_24 s)))],[]⟩
abbrev zU4 (K:List PA->Prop) (s:Setup) (X:St->Prop) (P:Int->Bool) (S:Int->Bool):Prop:=∀ ⦃iv0:Int⦄,P iv0=true->K (e5 (S iv0))->X (zPK s iv0)
section
variable {K:List PA->Prop}{s:Setup}{iv0:Int}{X0:St->Prop}{P0:Int->Bool}{S0:Int->Bool}
def zoC (s:Setup) (S0:Int->Bool) (iv0:Int):Bool :=
  (cond (decide (iv0 < (s.Planes.len : Int)))
 (cond (decide (((s.Planes.get iv0.toNat).Drift.len : Int) > (60:Int)))
 false
 (cond (decide (((s.Planes.get iv0.toNat).Dead.len : Int) > (110:Int)))
 false
 (S0 (w64 (iv0+(1:Int))))))
 (decide ((s.Planes.len:Int)<=(20:Int))))
def zoD (s:Setup) (P0:Int->Bool) (iv0:Int):Bool :=
  (cond (decide (iv0 < (s.Planes.len : Int)))
 (decide ((0<=iv0/\iv0 < (s.Planes.len:Int))) &&
 (cond (decide (((s.Planes.get iv0.toNat).Drift.len : Int) > (60:Int)))
 true
 (decide ((0<=iv0/\iv0 < (s.Planes.len:Int))) &&
 (cond (decide (((s.Planes.get iv0.toNat).Dead.len : Int) > (110:Int)))
 true
 (P0 (w64 (iv0+(1:Int))))))))
 true)
def zoE (s:Setup):Nat->Int->Bool:=lpO (λ _=>default) (zoC s)
def zoF (s:Setup):Nat->Int->Bool:=lpO (λ _=>false) (zoD s)
def zH4 (s:Setup) (iv0:Int):Bool:=zoE s Fuel iv0
def zH5 (s:Setup) (iv0:Int):Bool:=zoF s Fuel iv0
theorem zPL (hs:zH5 s iv0=true) (hk:K (e5 (zH4 s iv0))):z5 K [1,0,1,0] [] (zPK s iv0) :=
  zl (λ X=>z5 K [1,0,1,0,0] [X]) (by kernel_rfl) λ X0 hX =>
  (show ∀ k, zU4 K s X0 (zoF s k) (zoE s k) from zgc _ _ (zoD s) (zoC s) (zU4 K s X0)
 (by intro _ hs;exact absurd hs dqk)
 (by intro P0 S0 hX0 iv0 hs hk;exact hX _ (zaK (by kernel_rfl) (zc hs hk (λ hs hk=>(zaX hs λ hc hs=>And.intro hc (zc hs hk (λ hs hk=>hk) (λ hs hk=>(zaX hs λ hc hs=>And.intro hc (zc hs hk (λ hs hk=>hk) (λ hs hk=>(hX0 hs hk)))))))) (λ hs hk=>hk))))) _ hs hk
def s5 (s:Setup):Bool :=
  (zH4 s (0:Int))
def p5 (s:Setup):Bool :=
  (zH5 s (0:Int))
end
theorem q5 (s:Setup) (K:List PA->Prop) (hs:p5 s=true) (hk:K (e5 (s5 s))):vcFun Tryd.prog G5 zTv 5 [.agg (enc_24 s)] K :=
  zaK (by kernel_rfl) (zPL hs hk)
def zTw : List PA → COut
  | [.agg [.sl zaa za8 zab]]=>.det (IsE enc_35 15 za8 zab/\p5 (⟨(⟨zaa,zbo zab⟩:(Sl Plane))⟩:Setup)=true) [.one (.bool (s5 (⟨(⟨zaa,zbo zab⟩:(Sl Plane))⟩:Setup)))]
  | _=>.no
theorem call5:zaj Tryd.prog 5:=⟨_,rfl,rfl,by kernel_rfl⟩
theorem ok5:Ok Tryd.prog 5 zTw:=zbm zWG call5 λ args K h=>by
  unfold zTw at h
  split at h
  · rename_i zaa za8 zab
    obtain⟨⟨⟨rfl,zaF,rfl⟩,hs⟩,hk⟩:=h
    try rw[zbG zaF] at hs
    try rw[zbG zaF] at hk
    exact⟨(λ _ _=>[]),(λ _=>false),zTv,q5 (⟨(⟨zaa,zaF⟩:(Sl Plane))⟩:Setup) K hs hk⟩
  · exact h.elim
abbrev T23:Tabs:=Tabs.nil
theorem zTx:TabsOk Tryd.prog T23:=TabsOk.nil
abbrev G23:Ctrs:=csm T23 (λ _ _=>[]) (λ _=>false)
def zPM:Ann:=⟨15,[(0,zK [0,1,2] []),(1,zK [6] [])],
 [],
 [],
 [],[]⟩
abbrev R23:=Bool
abbrev e23 (r:R23):List PA:=[.one (.bool r)]
section
variable {K:List PA->Prop}{x:Int}{low:Int}{high:Int}
def s23 (x:Int) (low:Int) (high:Int):Bool :=
  (cond (decide (x >= low))
 (decide (x<=high))
 false)
end
theorem q23 (x:Int) (low:Int) (high:Int) (K:List PA->Prop) (hk:K (e23 (s23 x low high))):vcFun Tryd.prog G23 zPM 23 [.one (.int .i64 x),.one (.int .i64 low),.one (.int .i64 high)] K :=
  zaK (by kernel_rfl) (zt hk (λ hk=>hk) (λ hk=>hk))
def zuT : List PA → COut
  | [.one (.int .i64 a0),.one (.int .i64 a1),.one (.int .i64 a2)]=>.tot [.one (.bool (s23 a0 a1 a2))]
  | _=>.no
theorem zPN:zaj Tryd.prog 23:=⟨_,rfl,rfl,by kernel_rfl⟩
theorem zPO:Ok Tryd.prog 23 zuT:=zbm zTx zPN λ args K h=>by
  unfold zuT at h
  split at h
  · rename_i a0 a1 a2
    have hk:=h
    exact⟨(λ _ _=>[]),(λ _=>false),zPM,q23 a0 a1 a2 K hk⟩
  · exact h.elim
abbrev T51:Tabs:=(Tabs.nil.addF 23 zuT)
theorem zTy:TabsOk Tryd.prog T51:=(TabsOk.nil.addF zPO)
abbrev G51:Ctrs:=csm T51 (λ _ _=>[]) (λ _=>false)
def zPP:Ann:=⟨5,[(0,zK [0] []),(1,zK [2] [])],
 [],
 [],
 [],[]⟩
abbrev R51:=Bool
abbrev e51 (r:R51):List PA:=[.one (.bool r)]
section
variable {K:List PA->Prop}{x:Int}
def s51 (x:Int):Bool :=
  (s23 x (-1000000:Int) (1000000:Int))
end
theorem q51 (x:Int) (K:List PA->Prop) (hk:K (e51 (s51 x))):vcFun Tryd.prog G51 zPP 51 [.one (.int .i64 x)] K :=
  zaK (by kernel_rfl) hk
def zKV : List PA → COut
  | [.one (.int .i64 a0)]=>.tot [.one (.bool (s51 a0))]
  | _=>.no
theorem zPQ:zaj Tryd.prog 51:=⟨_,rfl,rfl,by kernel_rfl⟩
theorem zWH:Ok Tryd.prog 51 zKV:=zbm zTy zPQ λ args K h=>by
  unfold zKV at h
  split at h
  · rename_i a0
    have hk:=h
    exact⟨(λ _ _=>[]),(λ _=>false),zPP,q51 a0 K hk⟩
  · exact h.elim
abbrev T52:Tabs:=(Tabs.nil.addF 23 zuT)
theorem zTz:TabsOk Tryd.prog T52:=(TabsOk.nil.addF zPO)
abbrev G52:Ctrs:=csm T52 (λ _ _=>[]) (λ _=>false)
def zKW:Ann:=⟨86,[(0,zK [0,1] []),(1,zK [0,1,5] []),(2,zK [0,1,5,10] []),(3,zK [0,1,5] []),(4,zK [0,1,5,6] [6]),(5,zK [0,1,5,6,43] [6]),(6,zK [4] []),(7,zK [0,1,5,82] []),(8,zK [4] []),(9,zK [4] [])],
 [(2,zK [0,1,5] [])],
 [(6,zK [0,1,5,6,43] [6]),(7,zK [0,1,5,6] [6])],
 [],[]⟩
abbrev R52:=Bool
abbrev e52 (r:R52):List PA:=[.one (.bool r)]
@[irreducible] def z52:=ptF Tryd.prog G52 zKW Tryd.f52
def zH6 (l_a0:(Sl Drift)) (pitch:Int) (iv0:Int):St:=⟨[(0,zS zbi 3 l_a0),(1,zI pitch),(5,zI iv0)],[],[]⟩
abbrev zGg (K:List PA->Prop) (l_a0:(Sl Drift)) (pitch:Int) (X:St->Prop) (P:Int->Bool) (S:Int->Bool):Prop:=∀ ⦃iv0:Int⦄,P iv0=true->K (e52 (S iv0))->X (zH6 l_a0 pitch iv0)
section
variable {K:List PA->Prop}{l_a0:(Sl Drift)}{pitch:Int}{iv0:Int}{X0:St->Prop}{P0:Int->Bool}{S0:Int->Bool}{iv1:Int}{zuU:Bool}{ziH:Int}{ziI:Int}{ziJ:Int}{iv2:Int}{ziK:Int}{ziL:Int}{ziM:Int}
def zuV (S0:Int->Bool) (l_a0:(Sl Drift)) (pitch:Int) (iv2:Int) (ziK:Int) (ziL:Int) (ziM:Int):Bool :=
  (cond (decide (iv2 > (0:Int)))
 (cond (decide (ziK <= (l_a0.get ((w64 (iv2 - (1:Int))).toNat)).Time))
 false
 (cond (decide (ziL < (l_a0.get ((w64 (iv2 - (1:Int))).toNat)).Radius.Low))
 false
 (cond (decide (ziM < (l_a0.get ((w64 (iv2 - (1:Int))).toNat)).Radius.High))
 false
 (S0 (w64 (iv2+(1:Int)))))))
 (S0 (w64 (iv2+(1:Int)))))
def zuW (P0:Int->Bool) (l_a0:(Sl Drift)) (pitch:Int) (iv2:Int) (ziK:Int) (ziL:Int) (ziM:Int):Bool :=
  (cond (decide (iv2 > (0:Int)))
 (decide ((0<=(w64 (iv2 - (1:Int)))/\(w64 (iv2 - (1:Int))) < (l_a0.len:Int))) &&
 (cond (decide (ziK <= (l_a0.get ((w64 (iv2 - (1:Int))).toNat)).Time))
 true
 (decide ((0<=(w64 (iv2 - (1:Int)))/\(w64 (iv2 - (1:Int))) < (l_a0.len:Int))) &&
 (cond (decide (ziL < (l_a0.get ((w64 (iv2 - (1:Int))).toNat)).Radius.Low))
 true
 (decide ((0<=(w64 (iv2 - (1:Int)))/\(w64 (iv2 - (1:Int))) < (l_a0.len:Int))) &&
 (cond (decide (ziM < (l_a0.get ((w64 (iv2 - (1:Int))).toNat)).Radius.High))
 true
 (P0 (w64 (iv2+(1:Int))))))))))
 (P0 (w64 (iv2+(1:Int)))))
theorem zKX (hX0:zGg K l_a0 pitch X0 P0 S0) (hs:zuW P0 l_a0 pitch iv2 ziK ziL ziM=true) (hk:K (e52 (zuV S0 l_a0 pitch iv2 ziK ziL ziM))):z52 K [1,0,1,0,0,1,0,0,1,1] [X0] ⟨[(0,zS zbi 3 l_a0),(1,zI pitch),(5,zI iv2),(6,zp 6 0)],[(6,.box 104 (zm (zbi (⟨ziK,(⟨ziL,ziM⟩:Span)⟩:Drift))))],[]⟩:=zaK (by kernel_rfl) (zc hs hk (λ hs hk=>(zaX hs λ hc hs=>And.intro hc (zc hs hk (λ hs hk=>hk) (λ hs hk=>(zaX hs λ hc hs=>And.intro hc (zc hs hk (λ hs hk=>hk) (λ hs hk=>(zaX hs λ hc hs=>And.intro hc (zc hs hk (λ hs hk=>hk) (λ hs hk=>(hX0 hs hk))))))))))) (λ hs hk=>(hX0 hs hk)))
def zkj (S0:Int->Bool) (l_a0:(Sl Drift)) (pitch:Int) (iv1:Int) (zuU:Bool) (ziH:Int) (ziI:Int) (ziJ:Int):Bool :=
  (cond zuU
 false
 (zuV S0 l_a0 pitch iv1 ziH ziI ziJ))
def zkk (P0:Int->Bool) (l_a0:(Sl Drift)) (pitch:Int) (iv1:Int) (zuU:Bool) (ziH:Int) (ziI:Int) (ziJ:Int):Bool :=
  (cond zuU
 true
 (zuW P0 l_a0 pitch iv1 ziH ziI ziJ))
theorem zpP (hX0:zGg K l_a0 pitch X0 P0 S0) (hs:zkk P0 l_a0 pitch iv1 zuU ziH ziI ziJ=true) (hk:K (e52 (zkj S0 l_a0 pitch iv1 zuU ziH ziI ziJ))):z52 K [1,0,1,0,0,1,0,0,1,0,1] [X0] ⟨[(0,zS zbi 3 l_a0),(1,zI pitch),(5,zI iv1),(6,zp 6 0),(43,zB zuU)],[(6,.box 104 (zm (zbi (⟨ziH,(⟨ziI,ziJ⟩:Span)⟩:Drift))))],[]⟩:=zaK (by kernel_rfl) (zc hs hk (λ hs hk=>hk) (λ hs hk=>(zKX hX0 hs hk)))
def zkl (l_a0:(Sl Drift)) (pitch:Int) (S0:Int->Bool) (iv0:Int):Bool :=
  (cond (decide (iv0 < (l_a0.len : Int)))
 (cond (!(s23 ((l_a0.get iv0.toNat).Time) (0:Int) (1000000:Int)))
 (zkj S0 l_a0 pitch iv0 true ((l_a0.get iv0.toNat).Time) ((l_a0.get iv0.toNat).Radius.Low) ((l_a0.get iv0.toNat).Radius.High))
 (cond (decide ((l_a0.get iv0.toNat).Radius.Low < (0:Int)))
 (zkj S0 l_a0 pitch iv0 true ((l_a0.get iv0.toNat).Time) ((l_a0.get iv0.toNat).Radius.Low) ((l_a0.get iv0.toNat).Radius.High))
 (cond (decide ((l_a0.get iv0.toNat).Radius.Low > (l_a0.get iv0.toNat).Radius.High))
 (zkj S0 l_a0 pitch iv0 true ((l_a0.get iv0.toNat).Time) ((l_a0.get iv0.toNat).Radius.Low) ((l_a0.get iv0.toNat).Radius.High))
 (zkj S0 l_a0 pitch iv0 (decide ((l_a0.get iv0.toNat).Radius.High > (w64 (pitch.tdiv (2:Int))))) ((l_a0.get iv0.toNat).Time) ((l_a0.get iv0.toNat).Radius.Low) ((l_a0.get iv0.toNat).Radius.High)))))
 (s23 (l_a0.len:Int) (1:Int) (50:Int)))
def zkm (l_a0:(Sl Drift)) (pitch:Int) (P0:Int->Bool) (iv0:Int):Bool :=
  (cond (decide (iv0 < (l_a0.len : Int)))
 (decide ((0<=iv0/\iv0 < (l_a0.len:Int))) &&
 (cond (!(s23 ((l_a0.get iv0.toNat).Time) (0:Int) (1000000:Int)))
 (zkk P0 l_a0 pitch iv0 true ((l_a0.get iv0.toNat).Time) ((l_a0.get iv0.toNat).Radius.Low) ((l_a0.get iv0.toNat).Radius.High))
 (cond (decide ((l_a0.get iv0.toNat).Radius.Low < (0:Int)))
 (zkk P0 l_a0 pitch iv0 true ((l_a0.get iv0.toNat).Time) ((l_a0.get iv0.toNat).Radius.Low) ((l_a0.get iv0.toNat).Radius.High))
 (cond (decide ((l_a0.get iv0.toNat).Radius.Low > (l_a0.get iv0.toNat).Radius.High))
 (zkk P0 l_a0 pitch iv0 true ((l_a0.get iv0.toNat).Time) ((l_a0.get iv0.toNat).Radius.Low) ((l_a0.get iv0.toNat).Radius.High))
 (decide (((2:Int) ≠ 0)) &&
 (zkk P0 l_a0 pitch iv0 (decide ((l_a0.get iv0.toNat).Radius.High > (w64 (pitch.tdiv (2:Int))))) ((l_a0.get iv0.toNat).Time) ((l_a0.get iv0.toNat).Radius.Low) ((l_a0.get iv0.toNat).Radius.High)))))))
 true)
def ziN (l_a0:(Sl Drift)) (pitch:Int):Nat->Int->Bool:=lpO (λ _=>default) (zkl l_a0 pitch)
def ziO (l_a0:(Sl Drift)) (pitch:Int):Nat->Int->Bool:=lpO (λ _=>false) (zkm l_a0 pitch)
def zCB (l_a0:(Sl Drift)) (pitch:Int) (iv0:Int):Bool:=ziN l_a0 pitch Fuel iv0
def zCC (l_a0:(Sl Drift)) (pitch:Int) (iv0:Int):Bool:=ziO l_a0 pitch Fuel iv0
theorem zKY (hs:zCC l_a0 pitch iv0=true) (hk:K (e52 (zCB l_a0 pitch iv0))):z52 K [1,0,1,0] [] (zH6 l_a0 pitch iv0) :=
  zl (λ X=>z52 K [1,0,1,0,0] [X]) (by kernel_rfl) λ X0 hX =>
  (show ∀ k, zGg K l_a0 pitch X0 (ziO l_a0 pitch k) (ziN l_a0 pitch k) from zgc _ _ (zkm l_a0 pitch) (zkl l_a0 pitch) (zGg K l_a0 pitch X0)
 (by intro _ hs;exact absurd hs dqk)
 (by intro P0 S0 hX0 iv0 hs hk;exact hX _ (zaK (by kernel_rfl) (zc hs hk (λ hs hk=>(zaX hs λ hc hs=>And.intro hc (zc hs hk (λ hs hk=>(zpP hX0 hs hk)) (λ hs hk=>(zc hs hk (λ hs hk=>(zpP hX0 hs hk)) (λ hs hk=>(zc hs hk (λ hs hk=>(zpP hX0 hs hk)) (λ hs hk=>(zaX hs λ hc hs=>And.intro hc (zpP hX0 hs hk)))))))))) (λ hs hk=>hk))))) _ hs hk
def s52 (l_a0:(Sl Drift)) (pitch:Int):Bool :=
  (zCB l_a0 pitch (0:Int))
def p52 (l_a0:(Sl Drift)) (pitch:Int):Bool :=
  (zCC l_a0 pitch (0:Int))
end
theorem q52 (l_a0:(Sl Drift)) (pitch:Int) (K:List PA->Prop) (hs:p52 l_a0 pitch=true) (hk:K (e52 (s52 l_a0 pitch))):vcFun Tryd.prog G52 zKW 52 [.one (.sl l_a0.len 3 (λ i=>zbi (l_a0.get i))),.one (.int .i64 pitch)] K :=
  zaK (by kernel_rfl) (zKY hs hk)
def zKZ : List PA → COut
  | [.one (.sl zdi zfL zdj),.one (.int .i64 a1)]=>.det (IsE zbi 3 zfL zdj/\p52 (⟨zdi,zcx zdj⟩:(Sl Drift)) a1=true) [.one (.bool (s52 (⟨zdi,zcx zdj⟩:(Sl Drift)) a1))]
  | _=>.no
theorem zPR:zaj Tryd.prog 52:=⟨_,rfl,rfl,by kernel_rfl⟩
theorem zWI:Ok Tryd.prog 52 zKZ:=zbm zTz zPR λ args K h=>by
  unfold zKZ at h
  split at h
  · rename_i zdi zfL zdj a1
    obtain⟨⟨⟨rfl,zd4,rfl⟩,hs⟩,hk⟩:=h
    try rw[zca zd4] at hs
    try rw[zca zd4] at hk
    exact⟨(λ _ _=>[]),(λ _=>false),zKW,q52 (⟨zdi,zd4⟩:(Sl Drift)) a1 K hs hk⟩
  · exact h.elim
abbrev T24:Tabs:=(((Tabs.nil.addF 23 zuT).addF 51 zKV).addF 52 zKZ)
theorem zTA:TabsOk Tryd.prog T24:=(((TabsOk.nil.addF zPO).addF zWH).addF zWI)
abbrev G24:Ctrs:=csm T24 (λ _ _=>[]) (λ _=>false)
def zn6:Ann:=⟨205,[(0,zK [1] [1]),(1,zK [1,51] [1]),(2,zK [2] []),(3,zK [1,95] [1]),(4,zK [2] []),(5,zK [1,141] [1]),(6,zK [2] []),(7,zK [1,169] [1]),(8,zK [2] []),(9,zK [1,3] [1]),(10,zK [1,3,174] [1]),(11,zK [1,3] [1]),(12,zK [1,3,204] [1]),(13,zK [2] []),(14,zK [2] [])],
 [(10,zK [1,3] [1])],
 [(1,zK [1] [1]),(2,zK [1,51] [1]),(3,zK [1] [1]),(4,zK [1,95] [1]),(5,zK [1] [1]),(6,zK [1,141] [1]),(7,zK [1] [1]),(8,zK [1,169] [1]),(9,zK [1] [1]),(13,zK [1,3,204] [1])],
 [],[]⟩
abbrev R24:=Bool
abbrev e24 (r:R24):List PA:=[.one (.bool r)]
@[irreducible] def z24:=ptF Tryd.prog G24 zn6 Tryd.f24
def zH7 (p:Plane) (iv9:Int):St:=⟨[(1,zp 1 0),(3,zI iv9)],[(1,.box 35 (zm (enc_35 p)))],[]⟩
abbrev zK1 (K:List PA->Prop) (p:Plane) (X:St->Prop) (P:Int->Bool) (S:Int->Bool):Prop:=∀ ⦃iv9:Int⦄,P iv9=true->K (e24 (S iv9))->X (zH7 p iv9)
abbrev k24 (K:List PA->Prop) (l:List Nat):Exit->St->Prop:=(ptR Tryd.prog G24 zn6 (cdF Tryd.f24 []) (zq4 Tryd.prog Tryd.f24 K) l []).2
section
variable {K:List PA->Prop}{p:Plane}{zuX:Bool}{zuY:Bool}{znc:Bool}{znd:Bool}{iv9:Int}{X9:St->Prop}{P9:Int->Bool}{S9:Int->Bool}{zuZ:Int}{ziP:Bool}
def zjE (S9:Int->Bool) (p:Plane) (zuZ:Int) (ziP:Bool):Bool :=
  (cond ziP
 false
 (S9 (w64 (zuZ+(1:Int)))))
def zjF (P9:Int->Bool) (p:Plane) (zuZ:Int) (ziP:Bool):Bool :=
  (cond ziP
 true
 (P9 (w64 (zuZ+(1:Int)))))
theorem zpQ (hX9:zK1 K p X9 P9 S9) (hs:zjF P9 p zuZ ziP=true) (hk:K (e24 (zjE S9 p zuZ ziP))):z24 K [1,1,1,1,1,0,1,0,0,1,0,0,1] [X9] ⟨[(1,zp 1 0),(3,zI zuZ),(204,zB ziP)],[(1,.box 35 (zm (enc_35 p)))],[]⟩:=zaK (by kernel_rfl) (zc hs hk (λ hs hk=>hk) (λ hs hk=>(hX9 hs hk)))
def zkn (p:Plane) (S9:Int->Bool) (iv9:Int):Bool :=
  (cond (decide (iv9 < (p.Dead.len : Int)))
 (cond (!(s23 (p.Dead.get iv9.toNat) (0:Int) (w64 (p.Strips - (1:Int)))))
 (zjE S9 p iv9 true)
 (cond (decide (iv9 > (0:Int)))
 (zjE S9 p iv9 (decide ((p.Dead.get iv9.toNat)<=(p.Dead.get ((w64 (iv9 - (1:Int))).toNat)))))
 (zjE S9 p iv9 false)))
 true)
def zko (p:Plane) (P9:Int->Bool) (iv9:Int):Bool :=
  (cond (decide (iv9 < (p.Dead.len : Int)))
 (decide ((0<=iv9/\iv9 < (p.Dead.len:Int))) &&
 (cond (!(s23 (p.Dead.get iv9.toNat) (0:Int) (w64 (p.Strips - (1:Int)))))
 (zjF P9 p iv9 true)
 (cond (decide (iv9 > (0:Int)))
 (decide ((0<=iv9/\iv9 < (p.Dead.len:Int))) &&
 (decide ((0<=(w64 (iv9 - (1:Int)))/\(w64 (iv9 - (1:Int))) < (p.Dead.len:Int))) &&
 (zjF P9 p iv9 (decide ((p.Dead.get iv9.toNat)<=(p.Dead.get ((w64 (iv9 - (1:Int))).toNat)))))))
 (zjF P9 p iv9 false))))
 true)
def ziQ (p:Plane):Nat->Int->Bool:=lpO (λ _=>default) (zkn p)
def ziR (p:Plane):Nat->Int->Bool:=lpO (λ _=>false) (zko p)
def zCD (p:Plane) (iv9:Int):Bool:=ziQ p Fuel iv9
def zCE (p:Plane) (iv9:Int):Bool:=ziR p Fuel iv9
theorem zK2 (hs:zCE p iv9=true) (hk:K (e24 (zCD p iv9))):z24 K [1,1,1,1,1,0,1,0] [] (zH7 p iv9) :=
  zl (λ X=>z24 K [1,1,1,1,1,0,1,0,0] [X]) (by kernel_rfl) λ X9 hX =>
  (show ∀ k, zK1 K p X9 (ziR p k) (ziQ p k) from zgc _ _ (zko p) (zkn p) (zK1 K p X9)
 (by intro _ hs;exact absurd hs dqk)
 (by intro P9 S9 hX9 iv9 hs hk;exact hX _ (zaK (by kernel_rfl) (zc hs hk (λ hs hk=>(zaX hs λ hc hs=>And.intro hc (zc hs hk (λ hs hk=>(zpQ hX9 hs hk)) (λ hs hk=>(zc hs hk (λ hs hk=>(zaX hs λ hc hs=>And.intro hc (zaX hs λ hc hs=>And.intro hc (zpQ hX9 hs hk)))) (λ hs hk=>(zpQ hX9 hs hk))))))) (λ hs hk=>hk))))) _ hs hk
def zpR (p:Plane):Bool :=
  (zCD p (0:Int))
def zu0 (p:Plane):Bool :=
  (zCE p (0:Int))
theorem zK3 (hs:zu0 p=true) (hk:K (e24 (zpR p))):z24 K [1,1,1,1,1] [] ⟨[(1,zp 1 0)],[(1,.box 35 (zm (enc_35 p)))],[]⟩:=zaK (by kernel_rfl) (zK2 hs hk)
def zgE (p:Plane) (znd:Bool):Bool :=
  (cond znd
 false
 (zpR p))
def zfY (p:Plane) (znd:Bool):Bool :=
  (cond znd
 true
 (zu0 p))
theorem ziS (hs:zfY p znd=true) (hk:K (e24 (zgE p znd))):z24 K [1,1,1,1,0,1] [] ⟨[(1,zp 1 0),(169,zB znd)],[(1,.box 35 (zm (enc_35 p)))],[]⟩:=zaK (by kernel_rfl) (zc hs hk (λ hs hk=>hk) (λ hs hk=>(zK3 hs hk)))
def zu1 (p:Plane):Bool :=
  (cond (p.Kind == (2:Int))
 (cond (!(s52 p.Drift p.Pitch))
 (zgE p true)
 (cond (p.Kind != (2:Int))
 (cond (decide ((p.Drift.len : Int) > (0:Int)))
 (zgE p true)
 (zgE p (decide ((p.Dead.len:Int) > (100:Int)))))
 (zgE p (decide ((p.Dead.len:Int) > (100:Int))))))
 (cond (p.Kind != (2:Int))
 (cond (decide ((p.Drift.len : Int) > (0:Int)))
 (zgE p true)
 (zgE p (decide ((p.Dead.len:Int) > (100:Int)))))
 (zgE p (decide ((p.Dead.len:Int) > (100:Int))))))
def zpS (p:Plane):Bool :=
  (cond (p.Kind == (2:Int))
 (decide ((p52 p.Drift p.Pitch=true)) &&
 (cond (!(s52 p.Drift p.Pitch))
 (zfY p true)
 (cond (p.Kind != (2:Int))
 (cond (decide ((p.Drift.len : Int) > (0:Int)))
 (zfY p true)
 (zfY p (decide ((p.Dead.len:Int) > (100:Int)))))
 (zfY p (decide ((p.Dead.len:Int) > (100:Int)))))))
 (cond (p.Kind != (2:Int))
 (cond (decide ((p.Drift.len : Int) > (0:Int)))
 (zfY p true)
 (zfY p (decide ((p.Dead.len:Int) > (100:Int)))))
 (zfY p (decide ((p.Dead.len:Int) > (100:Int))))))
theorem zK4 (hs:zpS p=true) (hk:K (e24 (zu1 p))):z24 K [1,1,1,1] [] ⟨[(1,zp 1 0)],[(1,.box 35 (zm (enc_35 p)))],[]⟩:=zaK (by kernel_rfl) (zc hs hk (λ hs hk=>(zaX hs λ hc hs=>And.intro (And.intro (zE zbi 3 p.Drift.get) hc) (zc hs hk (λ hs hk=>(ziS hs hk)) (λ hs hk=>(zc hs hk (λ hs hk=>(zc hs hk (λ hs hk=>(ziS hs hk)) (λ hs hk=>(ziS hs hk)))) (λ hs hk=>(ziS hs hk))))))) (λ hs hk=>(zc hs hk (λ hs hk=>(zc hs hk (λ hs hk=>(ziS hs hk)) (λ hs hk=>(ziS hs hk)))) (λ hs hk=>(ziS hs hk)))))
def zkp (p:Plane) (znc:Bool):Bool :=
  (cond znc
 false
 (zu1 p))
def ziT (p:Plane) (znc:Bool):Bool :=
  (cond znc
 true
 (zpS p))
theorem zpT (hs:ziT p znc=true) (hk:K (e24 (zkp p znc))):z24 K [1,1,1,0,1] [] ⟨[(1,zp 1 0),(141,zB znc)],[(1,.box 35 (zm (enc_35 p)))],[]⟩:=zaK (by kernel_rfl) (zc hs hk (λ hs hk=>hk) (λ hs hk=>(zK4 hs hk)))
def zu3 (p:Plane):Bool :=
  (cond (!(s23 p.Jitter (0:Int) (1000000:Int)))
 (zkp p true)
 (cond (!(s23 p.Least (0:Int) (1000000:Int)))
 (zkp p true)
 (cond (!(s51 (w64 ((w64 ((w64 (p.First - p.Pitch)) - p.Spill)) + p.Offset.Low))))
 (zkp p true)
 (zkp p (!(s51 (w64 ((w64 ((w64 (p.First+(w64 ((w64 (p.Strips+(1:Int))) * p.Pitch))))+p.Spill))+p.Offset.High))))))))
def zpU (p:Plane):Bool :=
  (cond (!(s23 p.Jitter (0:Int) (1000000:Int)))
 (ziT p true)
 (cond (!(s23 p.Least (0:Int) (1000000:Int)))
 (ziT p true)
 (cond (!(s51 (w64 ((w64 ((w64 (p.First - p.Pitch)) - p.Spill)) + p.Offset.Low))))
 (ziT p true)
 (ziT p (!(s51 (w64 ((w64 ((w64 (p.First+(w64 ((w64 (p.Strips+(1:Int))) * p.Pitch))))+p.Spill))+p.Offset.High))))))))
theorem zK5 (Kc : Exit → St → Prop) (p : Plane) : vc Tryd.prog G24 zn6 (cdF Tryd.f24 [1,1,1,0,0]) Kc ⟨[(1, zp 1 0)], [(1, .box 35 (zm (enc_35 p)))], []⟩ =
  (zcr (!(s23 p.Jitter (0:Int) (1000000:Int)))
 (Kc .normal ⟨[(1,zp 1 0),(141,zB true)],[(1,.box 35 (zm (enc_35 p)))],[]⟩)
 (zcr (!(s23 p.Least (0:Int) (1000000:Int)))
 (Kc .normal ⟨[(1,zp 1 0),(141,zB true)],[(1,.box 35 (zm (enc_35 p)))],[]⟩)
 (zcr (!(s51 (w64 ((w64 ((w64 (p.First - p.Pitch)) - p.Spill)) + p.Offset.Low))))
 (Kc .normal ⟨[(1,zp 1 0),(141,zB true)],[(1,.box 35 (zm (enc_35 p)))],[]⟩)
 (Kc .normal ⟨[(1,zp 1 0),(141,zB (!(s51 (w64 ((w64 ((w64 (p.First+(w64 ((w64 (p.Strips+(1:Int))) * p.Pitch))))+p.Spill))+p.Offset.High)))))],[(1,.box 35 (zm (enc_35 p)))],[]⟩)))):=by kernel_rfl
theorem zK6 (hs:zpU p=true) (hk:K (e24 (zu3 p))):z24 K [1,1,1] [] ⟨[(1,zp 1 0)],[(1,.box 35 (zm (enc_35 p)))],[]⟩:=zaK (show _=vc Tryd.prog G24 zn6 (cdF Tryd.f24 [1,1,1,0,0]) (k24 K [1,1,1,0,0]) ⟨[(1,zp 1 0)],[(1,.box 35 (zm (enc_35 p)))],[]⟩ by kernel_rfl) (zaK (zK5 _ p) (zc hs hk (λ hs hk=>(zaK (by kernel_rfl) (zpT hs hk))) (λ hs hk=>(zc hs hk (λ hs hk=>(zaK (by kernel_rfl) (zpT hs hk))) (λ hs hk=>(zc hs hk (λ hs hk=>(zaK (by kernel_rfl) (zpT hs hk))) (λ hs hk=>(zaK (by kernel_rfl) (zpT hs hk)))))))))
def zhc (p:Plane) (zuY:Bool):Bool :=
  (cond zuY
 false
 (zu3 p))
def zgF (p:Plane) (zuY:Bool):Bool :=
  (cond zuY
 true
 (zpU p))
theorem zkq (hs:zgF p zuY=true) (hk:K (e24 (zhc p zuY))):z24 K [1,1,0,1] [] ⟨[(1,zp 1 0),(95,zB zuY)],[(1,.box 35 (zm (enc_35 p)))],[]⟩:=zaK (by kernel_rfl) (zc hs hk (λ hs hk=>hk) (λ hs hk=>(zK6 hs hk)))
def zu4 (p:Plane):Bool :=
  (cond (!(s51 p.Offset.Low))
 (zhc p true)
 (cond (!(s51 p.Offset.High))
 (zhc p true)
 (cond (decide (p.Offset.Low > p.Offset.High))
 (zhc p true)
 (cond (!(s23 p.Clock.Low (-1000000000:Int) (1000000000:Int)))
 (zhc p true)
 (cond (!(s23 p.Clock.High (-1000000000:Int) (1000000000:Int)))
 (zhc p true)
 (zhc p (decide (p.Clock.Low > p.Clock.High))))))))
def zpV (p:Plane):Bool :=
  (cond (!(s51 p.Offset.Low))
 (zgF p true)
 (cond (!(s51 p.Offset.High))
 (zgF p true)
 (cond (decide (p.Offset.Low > p.Offset.High))
 (zgF p true)
 (cond (!(s23 p.Clock.Low (-1000000000:Int) (1000000000:Int)))
 (zgF p true)
 (cond (!(s23 p.Clock.High (-1000000000:Int) (1000000000:Int)))
 (zgF p true)
 (zgF p (decide (p.Clock.Low > p.Clock.High))))))))
theorem zK7 (Kc : Exit → St → Prop) (p : Plane) : vc Tryd.prog G24 zn6 (cdF Tryd.f24 [1,1,0,0]) Kc ⟨[(1, zp 1 0)], [(1, .box 35 (zm (enc_35 p)))], []⟩ =
  (zcr (!(s51 p.Offset.Low))
 (Kc .normal ⟨[(1,zp 1 0),(95,zB true)],[(1,.box 35 (zm (enc_35 p)))],[]⟩)
 (zcr (!(s51 p.Offset.High))
 (Kc .normal ⟨[(1,zp 1 0),(95,zB true)],[(1,.box 35 (zm (enc_35 p)))],[]⟩)
 (zcr (decide (p.Offset.Low > p.Offset.High))
 (Kc .normal ⟨[(1,zp 1 0),(95,zB true)],[(1,.box 35 (zm (enc_35 p)))],[]⟩)
 (zcr (!(s23 p.Clock.Low (-1000000000:Int) (1000000000:Int)))
 (Kc .normal ⟨[(1,zp 1 0),(95,zB true)],[(1,.box 35 (zm (enc_35 p)))],[]⟩)
 (zcr (!(s23 p.Clock.High (-1000000000:Int) (1000000000:Int)))
 (Kc .normal ⟨[(1,zp 1 0),(95,zB true)],[(1,.box 35 (zm (enc_35 p)))],[]⟩)
 (Kc .normal ⟨[(1,zp 1 0),(95,zB (decide (p.Clock.Low > p.Clock.High)))],[(1,.box 35 (zm (enc_35 p)))],[]⟩)))))):=by kernel_rfl
theorem zK8 (hs:zpV p=true) (hk:K (e24 (zu4 p))):z24 K [1,1] [] ⟨[(1,zp 1 0)],[(1,.box 35 (zm (enc_35 p)))],[]⟩:=zaK (show _=vc Tryd.prog G24 zn6 (cdF Tryd.f24 [1,1,0,0]) (k24 K [1,1,0,0]) ⟨[(1,zp 1 0)],[(1,.box 35 (zm (enc_35 p)))],[]⟩ by kernel_rfl) (zaK (zK7 _ p) (zc hs hk (λ hs hk=>(zaK (by kernel_rfl) (zkq hs hk))) (λ hs hk=>(zc hs hk (λ hs hk=>(zaK (by kernel_rfl) (zkq hs hk))) (λ hs hk=>(zc hs hk (λ hs hk=>(zaK (by kernel_rfl) (zkq hs hk))) (λ hs hk=>(zc hs hk (λ hs hk=>(zaK (by kernel_rfl) (zkq hs hk))) (λ hs hk=>(zc hs hk (λ hs hk=>(zaK (by kernel_rfl) (zkq hs hk))) (λ hs hk=>(zaK (by kernel_rfl) (zkq hs hk)))))))))))))
def zc1 (p:Plane) (zuX:Bool):Bool :=
  (cond zuX
 false
 (zu4 p))
def zdG (p:Plane) (zuX:Bool):Bool :=
  (cond zuX
 true
 (zpV p))
theorem zev (hs:zdG p zuX=true) (hk:K (e24 (zc1 p zuX))):z24 K [1,0,1] [] ⟨[(1,zp 1 0),(51,zB zuX)],[(1,.box 35 (zm (enc_35 p)))],[]⟩:=zaK (by kernel_rfl) (zc hs hk (λ hs hk=>hk) (λ hs hk=>(zK8 hs hk)))
def zu5 (p:Plane):Bool :=
  (cond (decide (p.Kind < (1:Int)))
 (zc1 p true)
 (cond (decide (p.Kind > (3:Int)))
 (zc1 p true)
 (cond (p.View != (1:Int))
 (cond (p.View != (2:Int))
 (zc1 p true)
 (cond (!(s23 p.Z (0:Int) (100000:Int)))
 (zc1 p true)
 (cond (!(s51 p.First))
 (zc1 p true)
 (cond (!(s23 p.Pitch (2:Int) (100000:Int)))
 (zc1 p true)
 (cond (!(s23 p.Strips (1:Int) (2000:Int)))
 (zc1 p true)
 (zc1 p (!(s23 p.Spill (0:Int) (100000:Int)))))))))
 (cond (!(s23 p.Z (0:Int) (100000:Int)))
 (zc1 p true)
 (cond (!(s51 p.First))
 (zc1 p true)
 (cond (!(s23 p.Pitch (2:Int) (100000:Int)))
 (zc1 p true)
 (cond (!(s23 p.Strips (1:Int) (2000:Int)))
 (zc1 p true)
 (zc1 p (!(s23 p.Spill (0:Int) (100000:Int)))))))))))
def zu6 (p:Plane):Bool :=
  (cond (decide (p.Kind < (1:Int)))
 (zdG p true)
 (cond (decide (p.Kind > (3:Int)))
 (zdG p true)
 (cond (p.View != (1:Int))
 (cond (p.View != (2:Int))
 (zdG p true)
 (cond (!(s23 p.Z (0:Int) (100000:Int)))
 (zdG p true)
 (cond (!(s51 p.First))
 (zdG p true)
 (cond (!(s23 p.Pitch (2:Int) (100000:Int)))
 (zdG p true)
 (cond (!(s23 p.Strips (1:Int) (2000:Int)))
 (zdG p true)
 (zdG p (!(s23 p.Spill (0:Int) (100000:Int)))))))))
 (cond (!(s23 p.Z (0:Int) (100000:Int)))
 (zdG p true)
 (cond (!(s51 p.First))
 (zdG p true)
 (cond (!(s23 p.Pitch (2:Int) (100000:Int)))
 (zdG p true)
 (cond (!(s23 p.Strips (1:Int) (2000:Int)))
 (zdG p true)
 (zdG p (!(s23 p.Spill (0:Int) (100000:Int)))))))))))
theorem zK9 (Kc : Exit → St → Prop) (p : Plane) : vc Tryd.prog G24 zn6 (cdF Tryd.f24 [1,0,0]) Kc ⟨[(1, zp 1 0)], [(1, .box 35 (zm (enc_35 p)))], []⟩ =
  (zcr (decide (p.Kind < (1:Int)))
 (Kc .normal ⟨[(1,zp 1 0),(51,zB true)],[(1,.box 35 (zm (enc_35 p)))],[]⟩)
 (zcr (decide (p.Kind > (3:Int)))
 (Kc .normal ⟨[(1,zp 1 0),(51,zB true)],[(1,.box 35 (zm (enc_35 p)))],[]⟩)
 (zcr (p.View != (1:Int))
 (zcr (p.View != (2:Int))
 (Kc .normal ⟨[(1,zp 1 0),(51,zB true)],[(1,.box 35 (zm (enc_35 p)))],[]⟩)
 (zcr (!(s23 p.Z (0:Int) (100000:Int)))
 (Kc .normal ⟨[(1,zp 1 0),(51,zB true)],[(1,.box 35 (zm (enc_35 p)))],[]⟩)
 (zcr (!(s51 p.First))
 (Kc .normal ⟨[(1,zp 1 0),(51,zB true)],[(1,.box 35 (zm (enc_35 p)))],[]⟩)
 (zcr (!(s23 p.Pitch (2:Int) (100000:Int)))
 (Kc .normal ⟨[(1,zp 1 0),(51,zB true)],[(1,.box 35 (zm (enc_35 p)))],[]⟩)
 (zcr (!(s23 p.Strips (1:Int) (2000:Int)))
 (Kc .normal ⟨[(1,zp 1 0),(51,zB true)],[(1,.box 35 (zm (enc_35 p)))],[]⟩)
 (Kc .normal ⟨[(1,zp 1 0),(51,zB (!(s23 p.Spill (0:Int) (100000:Int))))],[(1,.box 35 (zm (enc_35 p)))],[]⟩))))))
 (zcr (!(s23 p.Z (0:Int) (100000:Int)))
 (Kc .normal ⟨[(1,zp 1 0),(51,zB true)],[(1,.box 35 (zm (enc_35 p)))],[]⟩)
 (zcr (!(s51 p.First))
 (Kc .normal ⟨[(1,zp 1 0),(51,zB true)],[(1,.box 35 (zm (enc_35 p)))],[]⟩)
 (zcr (!(s23 p.Pitch (2:Int) (100000:Int)))
 (Kc .normal ⟨[(1,zp 1 0),(51,zB true)],[(1,.box 35 (zm (enc_35 p)))],[]⟩)
 (zcr (!(s23 p.Strips (1:Int) (2000:Int)))
 (Kc .normal ⟨[(1,zp 1 0),(51,zB true)],[(1,.box 35 (zm (enc_35 p)))],[]⟩)
 (Kc .normal ⟨[(1,zp 1 0),(51,zB (!(s23 p.Spill (0:Int) (100000:Int))))],[(1,.box 35 (zm (enc_35 p)))],[]⟩)))))))):=by kernel_rfl
theorem zLa (hs:zu6 p=true) (hk:K (e24 (zu5 p))):z24 K [1] [] ⟨[(1,zp 1 0)],[(1,.box 35 (zm (enc_35 p)))],[]⟩:=zaK (show _=vc Tryd.prog G24 zn6 (cdF Tryd.f24 [1,0,0]) (k24 K [1,0,0]) ⟨[(1,zp 1 0)],[(1,.box 35 (zm (enc_35 p)))],[]⟩ by kernel_rfl) (zaK (zK9 _ p) (zc hs hk (λ hs hk=>(zaK (by kernel_rfl) (zev hs hk))) (λ hs hk=>(zc hs hk (λ hs hk=>(zaK (by kernel_rfl) (zev hs hk))) (λ hs hk=>(zc hs hk (λ hs hk=>(zc hs hk (λ hs hk=>(zaK (by kernel_rfl) (zev hs hk))) (λ hs hk=>(zc hs hk (λ hs hk=>(zaK (by kernel_rfl) (zev hs hk))) (λ hs hk=>(zc hs hk (λ hs hk=>(zaK (by kernel_rfl) (zev hs hk))) (λ hs hk=>(zc hs hk (λ hs hk=>(zaK (by kernel_rfl) (zev hs hk))) (λ hs hk=>(zc hs hk (λ hs hk=>(zaK (by kernel_rfl) (zev hs hk))) (λ hs hk=>(zaK (by kernel_rfl) (zev hs hk))))))))))))) (λ hs hk=>(zc hs hk (λ hs hk=>(zaK (by kernel_rfl) (zev hs hk))) (λ hs hk=>(zc hs hk (λ hs hk=>(zaK (by kernel_rfl) (zev hs hk))) (λ hs hk=>(zc hs hk (λ hs hk=>(zaK (by kernel_rfl) (zev hs hk))) (λ hs hk=>(zc hs hk (λ hs hk=>(zaK (by kernel_rfl) (zev hs hk))) (λ hs hk=>(zaK (by kernel_rfl) (zev hs hk)))))))))))))))))
def s24 (p:Plane):Bool :=
  (zu5 p)
def p24 (p:Plane):Bool :=
  (zu6 p)
end
theorem q24 (p:Plane) (K:List PA->Prop) (hs:p24 p=true) (hk:K (e24 (s24 p))):vcFun Tryd.prog G24 zn6 24 [.agg (enc_35 p)] K :=
  (zaK (by kernel_rfl) (show z24 K [] [] ⟨zg0 0 [.agg (enc_35 p)],[],[]⟩ from zaK (by kernel_rfl) (show z24 K [] [] ⟨[(0,zA (enc_35 p))],[],[]⟩ from zaK (by kernel_rfl) (zLa hs hk))))
def zLb : List PA → COut
  | [.agg [.int .i64 zgG,.int .i64 zgH,.int .i64 zGh,.int .i64 ze7,.int .i64 ze8,.int .i64 zd6,.int .i64 ze9,.int .i64 zcy,.int .i64 zcq,.int .i64 zcV,.int .i64 zcz,.int .i64 zd7,.int .i64 zfa,.sl zdw zge zdx,.sl zd8 zhd zd9]]=>.det (IsE zbi 3 zge zdx/\IsE enc_3 1 zhd zd9/\p24 (⟨zgG,zgH,zGh,ze7,ze8,zd6,ze9,(⟨zcy,zcq⟩:Span),(⟨zcV,zcz⟩:Span),zd7,zfa,(⟨zdw,zcx zdx⟩:(Sl Drift)),(⟨zd8,zcS zd9⟩:(Sl Int))⟩:Plane)=true) [.one (.bool (s24 (⟨zgG,zgH,zGh,ze7,ze8,zd6,ze9,(⟨zcy,zcq⟩:Span),(⟨zcV,zcz⟩:Span),zd7,zfa,(⟨zdw,zcx zdx⟩:(Sl Drift)),(⟨zd8,zcS zd9⟩:(Sl Int))⟩:Plane)))]
  | _=>.no
theorem zPS:zaj Tryd.prog 24:=⟨_,rfl,rfl,by kernel_rfl⟩
theorem zWJ:Ok Tryd.prog 24 zLb:=zbm zTA zPS λ args K h=>by
  unfold zLb at h
  split at h
  · rename_i zgG zgH zGh ze7 ze8 zd6 ze9 zcy zcq zcV zcz zd7 zfa zdw zge zdx zd8 zhd zd9
    obtain⟨⟨⟨rfl,zew,rfl⟩,⟨rfl,zfu,rfl⟩,hs⟩,hk⟩:=h
    try rw[zca zew] at hs
    try rw[zca zew] at hk
    try rw[zbV zfu] at hs
    try rw[zbV zfu] at hk
    exact⟨(λ _ _=>[]),(λ _=>false),zn6,q24 (⟨zgG,zgH,zGh,ze7,ze8,zd6,ze9,(⟨zcy,zcq⟩:Span),(⟨zcV,zcz⟩:Span),zd7,zfa,(⟨zdw,zew⟩:(Sl Drift)),(⟨zd8,zfu⟩:(Sl Int))⟩:Plane) K hs hk⟩
  · exact h.elim
abbrev T6:Tabs:=((Tabs.nil.addF 23 zuT).addF 24 zLb)
theorem zWK:TabsOk Tryd.prog T6:=((TabsOk.nil.addF zPO).addF zWJ)
abbrev G6:Ctrs:=csm T6 (λ _ _=>[]) (λ _=>false)
def zTB:Ann:=⟨43,[(0,zK [1] [1]),(1,zK [1,8] [1]),(2,zK [2] []),(3,zK [1,3] [1]),(4,zK [1,3,13] [1]),(5,zK [1,3] [1]),(6,zK [1,3,42] [1]),(7,zK [2] []),(8,zK [2] [])],
 [(4,zK [1,3] [1])],
 [(2,zK [1,8] [1]),(3,zK [1] [1]),(7,zK [1,3,42] [1])],
 [],[]⟩
abbrev R6:=Bool
abbrev e6 (r:R6):List PA:=[.one (.bool r)]
@[irreducible] def z6:=ptF Tryd.prog G6 zTB Tryd.f6
def zPT (iv2:Int) (sv2:(Sl Plane)) (zhe:Nat->List PV):St:=⟨[(1,zp 1 0),(3,zI iv2)],[(1,.box 24 [.p (.sl sv2.len 15 zhe)])],[]⟩
abbrev zTC (K:List PA->Prop) (X:St->Prop) (P:Int->(Sl Plane)->Bool) (S:Int->(Sl Plane)->Bool):Prop:=∀ ⦃iv2:Int⦄ ⦃sv2:(Sl Plane)⦄ ⦃zhe:Nat->List PV⦄,P iv2 sv2=true->K (e6 (S iv2 sv2))->zhe=zg enc_35 sv2->X (zPT iv2 sv2 zhe)
section
variable {K:List PA->Prop}{s:Setup}{zaY:Bool}{sv0:(Sl Plane)}{zcb:Nat->List PV}{sv1:(Sl Plane)}{zd3:Nat->List PV}{iv2:Int}{sv2:(Sl Plane)}{zhe:Nat->List PV}{X2:St->Prop}{P2:Int->(Sl Plane)->Bool}{S2:Int->(Sl Plane)->Bool}{iv3:Int}{zu7:Bool}{sv3:(Sl Plane)}{zCF:Nat->List PV}
def zsm (S2:Int->(Sl Plane)->Bool) (iv3:Int) (zu7:Bool) (sv3:(Sl Plane)):Bool :=
  (cond zu7
 false
 (S2 (w64 (iv3+(1:Int))) sv3))
def zsn (P2:Int->(Sl Plane)->Bool) (iv3:Int) (zu7:Bool) (sv3:(Sl Plane)):Bool :=
  (cond zu7
 true
 (P2 (w64 (iv3+(1:Int))) sv3))
theorem zCG (hX2:zTC K X2 P2 S2) (hs:zsn P2 iv3 zu7 sv3=true) (hk:K (e6 (zsm S2 iv3 zu7 sv3))) (zLc:zCF=zg enc_35 sv3):z6 K [1,1,0,1,0,0,1,0,0,1] [X2] ⟨[(1,zp 1 0),(3,zI iv3),(42,zB zu7)],[(1,.box 24 [.p (.sl sv3.len 15 zCF)])],[]⟩:=by subst zLc;exact zaK (by kernel_rfl) (zc hs hk (λ hs hk=>hk) (λ hs hk=>(hX2 hs hk rfl)))
def zoG (S2:Int->(Sl Plane)->Bool) (iv2:Int) (sv2:(Sl Plane)):Bool :=
  (cond (decide (iv2 < (sv2.len : Int)))
 (cond (!(s24 (sv2.get iv2.toNat)))
 (zsm S2 iv2 true sv2)
 (cond (decide (iv2 > (0:Int)))
 (zsm S2 iv2 (decide ((sv2.get iv2.toNat).Z<=(sv2.get ((w64 (iv2 - (1:Int))).toNat)).Z)) sv2)
 (zsm S2 iv2 false sv2)))
 true)
def zoH (P2:Int->(Sl Plane)->Bool) (iv2:Int) (sv2:(Sl Plane)):Bool :=
  (cond (decide (iv2 < (sv2.len : Int)))
 (decide ((0<=iv2/\iv2 < (sv2.len:Int))) &&
 (decide ((p24 (sv2.get iv2.toNat)=true)) &&
 (cond (!(s24 (sv2.get iv2.toNat)))
 (zsn P2 iv2 true sv2)
 (cond (decide (iv2 > (0:Int)))
 (decide ((0<=iv2/\iv2 < (sv2.len:Int))) &&
 (decide ((0<=(w64 (iv2 - (1:Int)))/\(w64 (iv2 - (1:Int))) < (sv2.len:Int))) &&
 (zsn P2 iv2 (decide ((sv2.get iv2.toNat).Z<=(sv2.get ((w64 (iv2 - (1:Int))).toNat)).Z)) sv2)))
 (zsn P2 iv2 false sv2)))))
 true)
def zls:Nat->Int->(Sl Plane)->Bool:=lpO (λ _ _=>default) (zoG)
def zlt:Nat->Int->(Sl Plane)->Bool:=lpO (λ _ _=>false) (zoH)
def zCH (iv2:Int) (sv2:(Sl Plane)):Bool:=zls Fuel iv2 sv2
def zCI (iv2:Int) (sv2:(Sl Plane)):Bool:=zlt Fuel iv2 sv2
theorem zPU (hs:zCI iv2 sv2=true) (hk:K (e6 (zCH iv2 sv2))) (zu8:zhe=zg enc_35 sv2):z6 K [1,1,0,1,0] [] (zPT iv2 sv2 zhe) :=
  zl (λ X=>z6 K [1,1,0,1,0,0] [X]) (by kernel_rfl) λ X2 hX =>
  (show ∀ k, zTC K X2 (zlt k) (zls k) from zgc _ _ (zoH) (zoG) (zTC K X2)
 (by intro _ _ _ hs;exact absurd hs dqk)
 (by intro P2 S2 hX2 iv2 sv2 zhe hs hk zu8;subst zu8;exact hX _ (zaK (by kernel_rfl) (zc hs hk (λ hs hk=>(zaX hs λ hc hs=>And.intro hc (zaX hs λ hc hs=>And.intro (And.intro (zE zbi 3 ((sv2.get iv2.toNat).Drift.get)) (And.intro (zE enc_3 1 ((sv2.get iv2.toNat).Dead.get)) hc)) (zc hs hk (λ hs hk=>(zCG hX2 hs hk rfl)) (λ hs hk=>(zc hs hk (λ hs hk=>(zaX hs λ hc hs=>And.intro hc (zaX hs λ hc hs=>And.intro hc (zCG hX2 hs hk rfl)))) (λ hs hk=>(zCG hX2 hs hk rfl)))))))) (λ hs hk=>hk))))) _ hs hk zu8
def zCJ (sv1:(Sl Plane)):Bool :=
  (zCH (0:Int) sv1)
def zCK (sv1:(Sl Plane)):Bool :=
  (zCI (0:Int) sv1)
theorem zPV (hs:zCK sv1=true) (hk:K (e6 (zCJ sv1))) (zgA:zd3=zg enc_35 sv1):z6 K [1,1] [] ⟨[(1,zp 1 0)],[(1,.box 24 [.p (.sl sv1.len 15 zd3)])],[]⟩:=by subst zgA;exact zaK (by kernel_rfl) (zPU hs hk rfl)
def zCL (zaY:Bool) (sv0:(Sl Plane)):Bool :=
  (cond zaY
 false
 (zCJ sv0))
def zCM (zaY:Bool) (sv0:(Sl Plane)):Bool :=
  (cond zaY
 true
 (zCK sv0))
theorem zPW (hs:zCM zaY sv0=true) (hk:K (e6 (zCL zaY sv0))) (zdN:zcb=zg enc_35 sv0):z6 K [1,0,1] [] ⟨[(1,zp 1 0),(8,zB zaY)],[(1,.box 24 [.p (.sl sv0.len 15 zcb)])],[]⟩:=by subst zdN;exact zaK (by kernel_rfl) (zc hs hk (λ hs hk=>hk) (λ hs hk=>(zPV hs hk rfl)))
def s6 (s:Setup):Bool :=
  (zCL (!(s23 (s.Planes.len:Int) (1:Int) (16:Int))) s.Planes)
def p6 (s:Setup):Bool :=
  (zCM (!(s23 (s.Planes.len:Int) (1:Int) (16:Int))) s.Planes)
end
theorem q6 (s:Setup) (K:List PA->Prop) (hs:p6 s=true) (hk:K (e6 (s6 s))):vcFun Tryd.prog G6 zTB 6 [.agg (enc_24 s)] K :=
  zaK (by kernel_rfl) (zPW hs hk rfl)
def zTD : List PA → COut
  | [.agg [.sl zaa za8 zab]]=>.det (IsE enc_35 15 za8 zab/\p6 (⟨(⟨zaa,zbo zab⟩:(Sl Plane))⟩:Setup)=true) [.one (.bool (s6 (⟨(⟨zaa,zbo zab⟩:(Sl Plane))⟩:Setup)))]
  | _=>.no
theorem call6:zaj Tryd.prog 6:=⟨_,rfl,rfl,by kernel_rfl⟩
theorem ok6:Ok Tryd.prog 6 zTD:=zbm zWK call6 λ args K h=>by
  unfold zTD at h
  split at h
  · rename_i zaa za8 zab
    obtain⟨⟨⟨rfl,zaF,rfl⟩,hs⟩,hk⟩:=h
    try rw[zbG zaF] at hs
    try rw[zbG zaF] at hk
    exact⟨(λ _ _=>[]),(λ _=>false),zTB,q6 (⟨(⟨zaa,zaF⟩:(Sl Plane))⟩:Setup) K hs hk⟩
  · exact h.elim
abbrev T8:Tabs:=Tabs.nil
theorem zWL:TabsOk Tryd.prog T8:=TabsOk.nil
abbrev G8:Ctrs:=csm T8 (λ _ _=>[]) (λ _=>false)
def zU5:Ann:=⟨30,[(0,zK [1,2,3,4,5,10] [5,10]),(1,zK [1,2,3,4,10,11] [10,11]),(2,zK [10] [10])],
 [],
 [],
 [],[]⟩
abbrev R8:=Hit
abbrev e8 (r:R8):List PA:=[.agg [.int .i64 r.Plane,.int .i64 r.Channel,.int .i64 r.Many,.int .i64 r.Drift,.int .i64 r.Charge,.int .i64 r.Time]]
section
variable {K:List PA->Prop}{s:Setup}{at_a1:Int}{time:Int}{ahead:Int}{wrong:Int}
def s8 (s:Setup) (at_a1:Int) (time:Int) (ahead:Int) (wrong:Int):Hit :=
  (⟨at_a1,(0:Int),(1:Int),(0:Int),(s.Planes.get at_a1.toNat).Least,(w64 ((w64 (time+ahead))+(w64 ((w64 ((s.Planes.get at_a1.toNat).Jitter * wrong)).tdiv (100:Int)))))⟩:Hit)
def p8 (s:Setup) (at_a1:Int) (time:Int) (ahead:Int) (wrong:Int):Bool :=
  (decide ((0<=at_a1/\at_a1 < (s.Planes.len:Int))) &&
 (decide (((100:Int) ≠ 0)) &&
 true))
end
theorem q8 (s:Setup) (at_a1:Int) (time:Int) (ahead:Int) (wrong:Int) (K:List PA->Prop) (hs:p8 s at_a1 time ahead wrong=true) (hk:K (e8 (s8 s at_a1 time ahead wrong))):vcFun Tryd.prog G8 zU5 8 [.agg (enc_24 s),.one (.int .i64 at_a1),.one (.int .i64 time),.one (.int .i64 ahead),.one (.int .i64 wrong)] K :=
  zaK (by kernel_rfl) (zaX hs λ hc hs=>And.intro hc (zaX hs λ hc hs=>And.intro hc hk))
def zTE : List PA → COut
  | [.agg [.sl zaa za8 zab],.one (.int .i64 a1),.one (.int .i64 a2),.one (.int .i64 a3),.one (.int .i64 a4)]=>.det (IsE enc_35 15 za8 zab/\p8 (⟨(⟨zaa,zbo zab⟩:(Sl Plane))⟩:Setup) a1 a2 a3 a4=true) [.agg [.int .i64 ((s8 (⟨(⟨zaa,zbo zab⟩:(Sl Plane))⟩:Setup) a1 a2 a3 a4).Plane),.int .i64 ((s8 (⟨(⟨zaa,zbo zab⟩:(Sl Plane))⟩:Setup) a1 a2 a3 a4).Channel),.int .i64 ((s8 (⟨(⟨zaa,zbo zab⟩:(Sl Plane))⟩:Setup) a1 a2 a3 a4).Many),.int .i64 ((s8 (⟨(⟨zaa,zbo zab⟩:(Sl Plane))⟩:Setup) a1 a2 a3 a4).Drift),.int .i64 ((s8 (⟨(⟨zaa,zbo zab⟩:(Sl Plane))⟩:Setup) a1 a2 a3 a4).Charge),.int .i64 ((s8 (⟨(⟨zaa,zbo zab⟩:(Sl Plane))⟩:Setup) a1 a2 a3 a4).Time)]]
  | _=>.no
theorem call8:zaj Tryd.prog 8:=⟨_,rfl,rfl,by kernel_rfl⟩
theorem ok8:Ok Tryd.prog 8 zTE:=zbm zWL call8 λ args K h=>by
  unfold zTE at h
  split at h
  · rename_i zaa za8 zab a1 a2 a3 a4
    obtain⟨⟨⟨rfl,zaF,rfl⟩,hs⟩,hk⟩:=h
    try rw[zbG zaF] at hs
    try rw[zbG zaF] at hk
    exact⟨(λ _ _=>[]),(λ _=>false),zU5,q8 (⟨(⟨zaa,zaF⟩:(Sl Plane))⟩:Setup) a1 a2 a3 a4 K hs hk⟩
  · exact h.elim
abbrev T30:Tabs:=Tabs.nil
theorem zTF:TabsOk Tryd.prog T30:=TabsOk.nil
abbrev G30:Ctrs:=csm T30 (λ _ _=>[]) (λ _=>false)
def zLd:Ann:=⟨20,[(0,zK [1,2] [2]),(1,zK [1,2,5] [2]),(2,zK [1,2,5,10] [2]),(3,zK [1,2,5] [2]),(4,zK [1,2,5,19] [2]),(5,zK [4] []),(6,zK [4] [])],
 [(2,zK [1,2,5] [2])],
 [],
 [],[]⟩
abbrev R30:=Bool
abbrev e30 (r:R30):List PA:=[.one (.bool r)]
@[irreducible] def z30:=ptF Tryd.prog G30 zLd Tryd.f30
def zH8 (p:Plane) (channel:Int) (iv0:Int):St:=⟨[(1,zI channel),(2,zp 2 0),(5,zI iv0)],[(2,.box 35 (zm (enc_35 p)))],[]⟩
abbrev zPX (K:List PA->Prop) (p:Plane) (channel:Int) (X:St->Prop) (P:Int->Bool) (S:Int->Bool):Prop:=∀ ⦃iv0:Int⦄,P iv0=true->K (e30 (S iv0))->X (zH8 p channel iv0)
section
variable {K:List PA->Prop}{p:Plane}{channel:Int}{iv0:Int}{X0:St->Prop}{P0:Int->Bool}{S0:Int->Bool}
def zkr (p:Plane) (channel:Int) (S0:Int->Bool) (iv0:Int):Bool :=
  (cond (decide (iv0 < (p.Dead.len : Int)))
 (cond ((p.Dead.get iv0.toNat) == channel)
 true
 (S0 (w64 (iv0+(1:Int)))))
 false)
def zks (p:Plane) (channel:Int) (P0:Int->Bool) (iv0:Int):Bool :=
  (cond (decide (iv0 < (p.Dead.len : Int)))
 (decide ((0<=iv0/\iv0 < (p.Dead.len:Int))) &&
 (cond ((p.Dead.get iv0.toNat) == channel)
 true
 (P0 (w64 (iv0+(1:Int))))))
 true)
def zhf (p:Plane) (channel:Int):Nat->Int->Bool:=lpO (λ _=>default) (zkr p channel)
def ziU (p:Plane) (channel:Int):Nat->Int->Bool:=lpO (λ _=>false) (zks p channel)
def zu9 (p:Plane) (channel:Int) (iv0:Int):Bool:=zhf p channel Fuel iv0
def zva (p:Plane) (channel:Int) (iv0:Int):Bool:=ziU p channel Fuel iv0
theorem zLe (hs:zva p channel iv0=true) (hk:K (e30 (zu9 p channel iv0))):z30 K [1,0,1,0] [] (zH8 p channel iv0) :=
  zl (λ X=>z30 K [1,0,1,0,0] [X]) (by kernel_rfl) λ X0 hX =>
  (show ∀ k, zPX K p channel X0 (ziU p channel k) (zhf p channel k) from zgc _ _ (zks p channel) (zkr p channel) (zPX K p channel X0)
 (by intro _ hs;exact absurd hs dqk)
 (by intro P0 S0 hX0 iv0 hs hk;exact hX _ (zaK (by kernel_rfl) (zc hs hk (λ hs hk=>(zaX hs λ hc hs=>And.intro hc (zc hs hk (λ hs hk=>hk) (λ hs hk=>(hX0 hs hk))))) (λ hs hk=>hk))))) _ hs hk
def s30 (p:Plane) (channel:Int):Bool :=
  (zu9 p channel (0:Int))
def p30 (p:Plane) (channel:Int):Bool :=
  (zva p channel (0:Int))
end
theorem q30 (p:Plane) (channel:Int) (K:List PA->Prop) (hs:p30 p channel=true) (hk:K (e30 (s30 p channel))):vcFun Tryd.prog G30 zLd 30 [.agg (enc_35 p),.one (.int .i64 channel)] K :=
  zaK (by kernel_rfl) (zLe hs hk)
def zLf : List PA → COut
  | [.agg [.int .i64 zgG,.int .i64 zgH,.int .i64 zGh,.int .i64 ze7,.int .i64 ze8,.int .i64 zd6,.int .i64 ze9,.int .i64 zcy,.int .i64 zcq,.int .i64 zcV,.int .i64 zcz,.int .i64 zd7,.int .i64 zfa,.sl zdw zge zdx,.sl zd8 zhd zd9],.one (.int .i64 a1)]=>.det (IsE zbi 3 zge zdx/\IsE enc_3 1 zhd zd9/\p30 (⟨zgG,zgH,zGh,ze7,ze8,zd6,ze9,(⟨zcy,zcq⟩:Span),(⟨zcV,zcz⟩:Span),zd7,zfa,(⟨zdw,zcx zdx⟩:(Sl Drift)),(⟨zd8,zcS zd9⟩:(Sl Int))⟩:Plane) a1=true) [.one (.bool (s30 (⟨zgG,zgH,zGh,ze7,ze8,zd6,ze9,(⟨zcy,zcq⟩:Span),(⟨zcV,zcz⟩:Span),zd7,zfa,(⟨zdw,zcx zdx⟩:(Sl Drift)),(⟨zd8,zcS zd9⟩:(Sl Int))⟩:Plane) a1))]
  | _=>.no
theorem zPY:zaj Tryd.prog 30:=⟨_,rfl,rfl,by kernel_rfl⟩
theorem zWM:Ok Tryd.prog 30 zLf:=zbm zTF zPY λ args K h=>by
  unfold zLf at h
  split at h
  · rename_i zgG zgH zGh ze7 ze8 zd6 ze9 zcy zcq zcV zcz zd7 zfa zdw zge zdx zd8 zhd zd9 a1
    obtain⟨⟨⟨rfl,zew,rfl⟩,⟨rfl,zfu,rfl⟩,hs⟩,hk⟩:=h
    try rw[zca zew] at hs
    try rw[zca zew] at hk
    try rw[zbV zfu] at hs
    try rw[zbV zfu] at hk
    exact⟨(λ _ _=>[]),(λ _=>false),zLd,q30 (⟨zgG,zgH,zGh,ze7,ze8,zd6,ze9,(⟨zcy,zcq⟩:Span),(⟨zcV,zcz⟩:Span),zd7,zfa,(⟨zdw,zew⟩:(Sl Drift)),(⟨zd8,zfu⟩:(Sl Int))⟩:Plane) a1 K hs hk⟩
  · exact h.elim
end Go.Proofs
