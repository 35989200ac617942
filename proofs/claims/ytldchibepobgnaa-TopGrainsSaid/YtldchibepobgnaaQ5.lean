/- Part 5 of what the proof rests on: a machine that runs functions of the program on pure values, proved sound; the functions that the law reaches, and what they compute. -/
import Derived.Test.YtldchibepobgnaaQ4
import Derived.Sort.OwnSortedInts
import Derived.Lib.SlicesCompact
import Derived.Test.YtldchibepobgnaaProg
import Derived.ProofKit
import Derived.Deep.Slices
import Derived.OpenShut
set_option linter.all false
namespace Go.Pm
variable [DrawZ]

structure Tabs where
  fn:List (Nat×(List PA->COut))
  own:List (Nat×OwnK)
  it:List (Nat×(List PA->Option (Prop×List (List PA))))
  mt:List (Nat×MK)
  cf:List (Nat×(List PA->COut))
def zxr : List (Nat × (List PA → COut)) → Nat → List PA → COut
  | [],_=>λ _=>.no
  | (k,c) :: r,n=>match Nat.beq k n with | true=>c | false=>zxr r n
def zxs (l:List (Nat×OwnK)) (f:Nat):OwnK:=match lk l f with | some c=>c | none=>.none
def zGc (l:List (Nat×(List PA->Option (Prop×List (List PA))))) (f:Nat):List PA->Option (Prop×List (List PA)):=match lk l f with | some c=>c | none=>λ _=>none
def csm (T:Tabs) (memo:Nat->Int->List Int) (vv:Nat->Bool):Ctrs:=⟨zxr T.fn,zxs T.own,zGc T.it,memo,vv,lk T.mt,zxr T.cf⟩
abbrev cs (T:Tabs):Ctrs:=csm T (λ _ _=>[]) (λ _=>false)
def Tabs.nil:Tabs:=⟨[],[],[],[],[]⟩
def Tabs.addF (T:Tabs) (f:Nat) (c:List PA->COut):Tabs:=⟨(f,c) :: T.fn,T.own,T.it,T.mt,T.cf⟩
def Tabs.addO (T:Tabs) (f:Nat) (c:OwnK):Tabs:=⟨T.fn,(f,c) :: T.own,T.it,T.mt,T.cf⟩
def Tabs.addI (T:Tabs) (f:Nat) (c:List PA->Option (Prop×List (List PA))):Tabs:=⟨T.fn,T.own,(f,c) :: T.it,T.mt,T.cf⟩
def Tabs.addM (T:Tabs) (f:Nat) (c:MK):Tabs:=⟨T.fn,T.own,T.it,(f,c) :: T.mt,T.cf⟩
theorem zOh {P:Program}{f:Nat} : Ok P f (λ _=>.no):=λ _ _ h=>h.elim
theorem zOi {P:Program}{f:Nat} : zCI P f (λ _=>none):=λ _ _ _ h=>by cases h

structure TabsOk (P : Program) (T : Tabs) : Prop where
  fn:∀ x∈T.fn,Ok P x.1 x.2
  own:∀ x∈T.own,zrf P x.1 x.2
  it:∀ x∈T.it,zCI P x.1 x.2
  mt:∀ x∈T.mt,zFK P x.1 x.2
  cf:∀ x∈T.cf,@Ok ⟨1⟩ P x.1 x.2
theorem TabsOk.nil {P:Program} : TabsOk P .nil:=⟨λ _ h=>(by cases h),λ _ h=>(by cases h),λ _ h=>(by cases h),λ _ h=>(by cases h),λ _ h=>(by cases h)⟩
theorem TabsOk.addF {P:Program}{T:Tabs}(h:TabsOk P T){f:Nat}{c:List PA->COut}(hc:Ok P f c):TabsOk P (T.addF f c) :=
 ⟨λ x hx=>(dqq.1 hx).elim (λ e=>by rw[e];exact hc) (λ hx=>h.fn x hx),h.own,h.it,h.mt,h.cf⟩
theorem TabsOk.addO {P:Program}{T:Tabs}(h:TabsOk P T){f:Nat}{c:OwnK}(hc:zrf P f c):TabsOk P (T.addO f c) :=
 ⟨h.fn,λ x hx=>(dqq.1 hx).elim (λ e=>by rw[e];exact hc) (λ hx=>h.own x hx),h.it,h.mt,h.cf⟩
theorem TabsOk.addI {P:Program}{T:Tabs}(h:TabsOk P T){f:Nat}{c:List PA->Option (Prop×List (List PA))}(hc:zCI P f c):TabsOk P (T.addI f c) :=
 ⟨h.fn,h.own,λ x hx=>(dqq.1 hx).elim (λ e=>by rw[e];exact hc) (λ hx=>h.it x hx),h.mt,h.cf⟩
theorem TabsOk.addM {P:Program}{T:Tabs}(h:TabsOk P T){f:Nat}{c:MK}(hc:zFK P f c):TabsOk P (T.addM f c) :=
 ⟨h.fn,h.own,h.it,λ x hx=>(dqq.1 hx).elim (λ e=>by rw[e];exact hc) (λ hx=>h.mt x hx),h.cf⟩
theorem zo7 {P : Program} {f : Nat} : ∀ {l : List (Nat × (List PA → COut))}, (∀ x ∈ l, Ok P x.1 x.2) → Ok P f (zxr l f)
  | [],_=>zOh
  | (k,c) :: l,hl=>by
    simp only[zxr]
    split
    · rename_i e
      have:=hl (k,c) dqj
      rw[<- dqc e];exact this
    · exact zo7 λ x hx=>hl x (dqf _ hx)
theorem TabsOk.all {P:Program}{T:Tabs}(h:TabsOk P T) (memo:Nat->Int->List Int) (vv:Nat->Bool):OkAll P (csm T memo vv):=by
 refine⟨λ f C hC=>h.mt _ (zcP hC),λ f=>zo7 h.fn,λ f=>?_,λ f=>?_,λ f=>@zo7 ⟨1⟩ P f T.cf h.cf⟩
 ·show zrf P f (zxs T.own f)
  unfold zxs
  split
  ·rename_i c hc;exact h.own _ (zcP hc)
  ·trivial
 ·show zCI P f (zGc T.it f)
  unfold zGc
  split
  ·rename_i c hc;exact h.it _ (zcP hc)
  ·exact zOi

theorem za5 {P : Program} {T : Tabs} (hT : TabsOk P T) {f : FuncId} {C : List PA → COut} (hc : zal P f)
    (h:∀ args K,(C args).wp K->∃ memo vv ann,vcFun P (csm T memo vv) ann f args K):Ok P f C :=
  zDl (hT.all (λ _ _=>[]) (λ _=>false)) hc h
theorem zEv {P : Program} {T : Tabs} (hT : TabsOk P T) {f : FuncId} {C : List PA → Option (Prop × List (List PA))} (hc : zal P f)
    (h:∀ l caps safe ys,C caps=some (safe,ys)->safe->∃ memo vv ann,vcIter P (csm T memo vv) ann f l caps ys):zCI P f C :=
  zDp (hT.all (λ _ _=>[]) (λ _=>false)) hc h
theorem zGd {P : Program} {T : Tabs} (hT : TabsOk P T) {f : FuncId} {e s b : Nat} {F : List PA → Option (Prop × Nat × (Nat → List PV) × List PV)} (hc : zal P f)
    (h:∀ az p n get rs,F az=some (p,n,get,rs)->p->∃ az':List PA,(∀ (h:Fz) vs,RL (paR h) az vs->RL (paR h) az' vs)/\∃ memo vv ann,zCE P (csm T memo vv) ann f az' e s b (zJ1 n s get rs)):zrf P f (.mkv e s b F) :=
  zxq (hT.all (λ _ _=>[]) (λ _=>false)) hc h
structure Sl (α : Type) where
  len:Nat
  get:Nat->α
instance {α:Type} [Inhabited α]:Inhabited (Sl α):=⟨⟨0,λ _=>default⟩⟩
abbrev w64 (x:Int):Int:=IntKind.i64.wrap x

def IsE {α:Type}(enc:α->List PV) (size s:Nat) (g:Nat->List PV):Prop:=s=size/\∃ f:Nat->α,g=λ i=>enc (f i)
theorem isE {α:Type}{enc:α->List PV}{size:Nat}{f:Nat->α} : IsE enc size size (λ i=>enc (f i)):=⟨rfl,f,rfl⟩
theorem zKO {α:Type}{enc:α->List PV}{size:Nat}{x:α} : IsE enc size size (λ _=>enc x):=⟨rfl,λ _=>x,rfl⟩
def zo8 {α:Type}(n:Nat) (get new:Nat->α):Nat->α:=λ j=>match Nat.ble n j with | true=>new (j - n) | false=>get j
theorem zDq {α:Type}{enc:α->List PV}{n:Nat}{f h:Nat->α} : appG n (λ i=>enc (f i)) (λ i=>enc (h i))=λ i=>enc (zo8 n f h i):=by
 funext j;simp only[appG,zo8];cases Nat.ble n j <;> rfl
def zpK {α : Type} (x : α) : List α → Nat → α
  | [],_=>x
  | y :: _,0=>y
  | _ :: r,i+1=>zpK x r i
theorem zo9 {α:Type}{enc:α->List PV}{x y:α}{r:List α} : zCz (enc x :: enc y :: r.map enc)=λ i=>enc (zpK x (x :: y :: r) i):=by
 have key:∀ (l:List α) (i:Nat),(match (l.map enc)[i]? with | some z=>z | none=>enc x)=enc (zpK x l i):=by
  intro l
  induction l with
  | nil=>intro i;rfl
  | cons a l ih =>
   intro i
   cases i with
   | zero=>rfl
   | succ i=>simpa [zpK] using ih i
 funext i
 exact key (x :: y :: r) i
theorem zDr {b:Bool}{A B:Prop}{S S':Bool}{α:Type}{K:α->Prop}{x y:α}(h1:S=true->K x->A) (h2:S'=true->K y->B) (hs:cond b S S'=true) (hk:K (cond b x y)):zcJ b A B:=by
 cases b
 ·exact h2 hs hk
 ·exact h1 hs hk
theorem zua {b:Bool}{A B:Prop}{S S':Bool}{α β:Type}{f:α->β}{ys:List β}{x y:List α}(hs:cond b S S'=true) (hk:ys=(cond b x y).map f) (h1:S=true->ys=x.map f->A) (h2:S'=true->ys=y.map f->B):zcJ b A B:=by
 cases b
 ·exact h2 hs hk
 ·exact h1 hs hk
theorem itY {α β:Type}{f:α->β}{ys:List β}{p:β}{x r:List α}{l:Nat}{A:List β->Prop}(hk:ys=x.map f) (e:x.map f=p :: r.map f) (h:∀ zs,zs=r.map f->A zs):l=l/\∃ z,ys=p :: z/\A z/\True :=
 ⟨rfl,_,hk.trans e,h _ rfl,trivial⟩
theorem zaS {C A:Prop} [d:Decidable C] {r:Bool}(hs:(decide C && r)=true) (k:C->r=true->A):A:=by
 rw[dqm] at hs
 exact k (of_decide_eq_true hs.1) hs.2
abbrev Fuel:Nat:=9223372036854775808
def setT {α:Type}(i:Nat) (v:α) (get:Nat->α):Nat->α:=λ j=>match Nat.beq j i with | true=>v | false=>get j
theorem zn3 {α:Type}{enc:α->List PV}{n:Nat}{g g':Nat->List PV}{f h:Nat->α}(h1:g=λ i=>enc (f i)) (h2:g'=λ i=>enc (h i)):appG n g g'=λ i=>enc (zo8 n f h i):=by
 subst h1;subst h2;exact zDq
theorem ziE {α:Type}{enc:α->List PV}{i k:Nat}{g:Nat->List PV}{f:Nat->α}{new:List PV}{v:α}(h1:g=λ i=>enc (f i)) (h2:spl (enc (f i)) k new=enc v):zlE i k g new=λ j=>enc (setT i v f j):=by
 subst h1
 funext j
 simp only[zlE,setT]
 cases e:Nat.beq j i
 ·rfl
 ·have := dqc e
  subst this;exact h2
theorem zue {b:Bool}{A B:Prop}{α:Type}{K:α->Prop}{x y:α}(h1:K x->A) (h2:K y->B) (hk:K (cond b x y)):zcJ b A B:=by
 cases b
 ·exact h2 hk
 ·exact h1 hk
def zQJ (P:Program) (G:Ctrs) (ann:Ann) (hd:Nat) (ps:List Nat) (assign body:Code) (X:List (List PA)->St->Prop) (K:Exit->St->Prop) (y:List PA) (rest:List (List PA)) (s:St):Prop :=
 match lk ann.head hd with
 | some k=>match zjP ps y s.env with
  | some env=>vc P G ann assign (zFH (vc P G ann body (znB P k (X rest) K)) λ _ _=>False) ⟨env,s.objs,[]⟩
  | none=>False
 | none=>False
end Go.Pm
namespace Go.Pm
variable [DrawZ]
open Go Go.Sort

/-! Nil slices are slices of length 0. -/
inductive PVle : PV → PV → Prop
  | rfl (p:PV):PVle p p
  | nil (s:Nat) (g:Nat->List PV):PVle .nils (.sl 0 s g)
  | nilm (q:MQ):PVle .nilm (.fm q 0 (λ _=>none))
inductive PAle : PA → PA → Prop
  | one {p q:PV} : PVle p q->PAle (.one p) (.one q)
  | agg {l m:List PV} : RL PVle l m->PAle (.agg l) (.agg m)
theorem zlt {α β:Type}{R:α->β->Prop} : RL R [] []:=trivial
theorem zfj {α β:Type}{R:α->β->Prop}{a:α}{b:β}{l:List α}{m:List β}(h:R a b) (h':RL R l m):RL R (a :: l) (b :: m):=⟨h,h'⟩
theorem zhV {α : Type} {R : α → α → Prop} (h : ∀ a, R a a) : ∀ l : List α, RL R l l
  | []=>trivial
  | a :: l=>⟨h a,zhV h l⟩
theorem zj5 (a:PA):PAle a a:=by
 cases a with
 | one p=>exact .one (.rfl p)
 | agg l=>exact .agg (zhV .rfl l)
def Wk (K:List PA->Prop) (l:List PA):Prop:=∃ l',RL PAle l l'/\K l'
theorem wk {K:List PA->Prop}{l l':List PA}(hk:K l') (h:RL PAle l l'):Wk K l:=⟨l',h,hk⟩
theorem zeq {K:List PA->Prop}{l:List PA}(hk:K l):Wk K l:=⟨l,zhV zj5 l,hk⟩
theorem zKP {h:Fz}{p q:PV}{v:Value}(e:PVle p q) (r:Rep h p v):Rep h q v:=by
 cases e with
 | rfl=>exact r
 | nil s g=>cases r;exact .sl0 s g
 | nilm q=>cases r;exact .fmn q _ (λ _ _=>rfl)
theorem zDs {α β γ : Type} {R : α → β → Prop} {S : α → γ → Prop} {T : γ → β → Prop} (h : ∀ a b c, S a c → R a b → T c b) : ∀ (l : List α) (m : List β) (k : List γ), RL S l k → RL R l m → RL T k m
  | [],[],[],_,_=>trivial
  | a :: l,b :: m,c :: k,hs,hr=>⟨h a b c hs.1 hr.1,zDs h l m k hs.2 hr.2⟩
  | [],_ :: _,[],_,hr=>hr.elim
  | [],_,_ :: _,hs,_=>hs.elim
  | _ :: _,_,[],hs,_=>hs.elim
  | _ :: _,[],_ :: _,_,hr=>hr.elim
theorem zGe {h:Fz}{a b:PA}{v:Value}(e:PAle a b) (r:paR h a v):paR h b v:=by
 cases e with
 | one e=>exact zKP e r
 | agg e =>
  obtain⟨vs,rfl,hv⟩:=r
  exact⟨vs,rfl,zDs (R:=Rep h) (S:=PVle) (T:=Rep h) (λ _ _ _ e r=>zKP e r) _ _ _ e hv⟩
theorem zKQ {h:Fz}{l m:List PA}{v:Value}(e:RL PAle l m) (r:zvT h l v):zvT h m v:=by
 match l,m,e,r with
 | [a],[b],e,r=>exact zGe e.1 r
 | [],[],_,r=>exact r
 | a :: b :: l,c :: d :: m,e,r =>
  obtain⟨vs,hv,hr⟩:=r
  exact⟨vs,hv,zDs (R:=paR h) (S:=PAle) (T:=paR h) (λ _ _ _ e r=>zGe e r) _ _ _ e hr⟩
 | [_],_ :: _ :: _,e,_=>exact e.2.elim
 | _ :: _ :: _,[_],e,_=>exact e.2.elim
 | [],_ :: _,e,_=>exact e.elim
 | _ :: _,[],e,_=>exact e.elim
theorem zhW {P : Program} {T : Tabs} (hT : TabsOk P T) {f : FuncId} {C : List PA → COut} (hc : zal P f)
    (h:∀ args K,(C args).wp K->∃ args',RL PAle args args'/\∃ memo vv ann,vcFun P (csm T memo vv) ann f args' (Wk K)):Ok P f C:=by
  intro args K hK w h0 vs hvs hfz hgl
  obtain⟨args',hle,memo,vv,ann,hv⟩:=h args K hK
  refine⟨hc,(zxo (hT.all memo vv) hv (zDs (R:=paR h0) (S:=PAle) (T:=paR h0) (λ _ _ _ e r=>zGe e r) _ _ _ hle hvs) hfz hgl).mono ?_⟩
  rintro e w' ⟨h',rs,v,⟨rs',hr,hk⟩,he,hres,rest⟩
  exact⟨h',rs',v,hk,he,zKQ hr hres,rest⟩
/-! Maps, as typed zQF; the keys of a map. -/
structure Mp where
  n:Nat
  F:List Int->Option (List Int)
instance:Inhabited Mp:=⟨⟨0,λ _=>none⟩⟩

end Go.Pm
namespace Go.Pm
variable [DrawZ]

abbrev zI (x:Int):DV:=.one (.c (.p (.int .i64 x)))
abbrev zB (x:Bool):DV:=.one (.c (.p (.bool x)))
abbrev zP (x:PV):DV:=.one (.c (.p x))
abbrev zp (L k:Nat):DV:=.one (.c (.ptr L k))
abbrev zv (L:Nat):DV:=.one (.c (.vec L))
abbrev zs {α:Type}(enc:α->List PV) (s:Nat) (x:Sl α):PV:=.sl x.len s (λ i=>enc (x.get i))
abbrev zS {α:Type}(enc:α->List PV) (s:Nat) (x:Sl α):DV:=zP (zs enc s x)
abbrev zm (l:List PV):List Cl:=l.map Cl.p
abbrev zA (l:List PV):DV:=.one (.agg (zm l))
abbrev zi (x:Int):Cl:=.p (.int .i64 x)
abbrev zg {α:Type}(enc:α->List PV) (x:Sl α):Nat->List PV:=λ i=>enc (x.get i)
abbrev zK (a b:List Nat):Keep:=⟨a,b,[],[],[],[],[]⟩
theorem zE {α:Type}(enc:α->List PV) (size:Nat) (f:Nat->α):IsE enc size size (λ i=>enc (f i)):=⟨rfl,f,rfl⟩

@[reducible] def lpO {A : Type} (d : A) (st : A → A) : Nat → A
  | 0=>d
  | k+1=>st (lpO d st k)
theorem zg4 {A B : Type} (a : A) (b : B) (p : A → A) (s : B → B) (M : A → B → Prop) (h0 : M a b) (h1 : ∀ P S, M P S → M (p P) (s S)) : ∀ k, M (lpO a p k) (lpO b s k)
  | 0=>h0
  | k+1=>h1 _ _ (zg4 a b p s M h0 h1 k)
section
variable (P:Program) (Γ:Ctrs) (ann:Ann)
def pt : Code → (Exit → St → Prop) → List Nat → List (St → Prop) → St → Prop
  | .seq a b,K,i :: r,X=>match i with | 0=>pt a (sqK P Γ ann b K) r X | _=>pt b K r X
  | .cond _ a b,K,i :: r,X=>match i with | 0=>pt a K r X | _=>pt b K r X
  | .block id b,K,_ :: r,X=>pt b (ztE id K) r X
  | .loop b,K,_ :: r,x :: X=>pt b (zCC P ann (znp b) x K) r X
  | .scope b,K,_ :: r,X=>pt b (zv5 K) r X
  | c,K,_,_=>vc P Γ ann c K
def zQK (fn:Func) (e s b:Nat) (K:List PA->Prop) (l:List Nat) (X:List (St->Prop)):St->Prop :=
 match fn.body with
 | some c=>pt P Γ ann c (zv6 fn e s b K) l X
 | none=>λ _=>False
def ptF (fn:Func) (K:List PA->Prop) (l:List Nat) (X:List (St->Prop)):St->Prop :=
 match fn.body with
 | some c=>pt P Γ ann c (zpO P fn K) l X
 | none=>λ _=>False
end

section
variable (P:Program) (Γ:Ctrs) (ann:Ann)
def ptR : Code → (Exit → St → Prop) → List Nat → List (St → Prop) → Code × (Exit → St → Prop)
  | .seq a b,K,i :: r,X=>match i with | 0=>ptR a (sqK P Γ ann b K) r X | _=>ptR b K r X
  | .cond _ a b,K,i :: r,X=>match i with | 0=>ptR a K r X | _=>ptR b K r X
  | .block id b,K,_ :: r,X=>ptR b (ztE id K) r X
  | .loop b,K,_ :: r,x :: X=>ptR b (zCC P ann (znp b) x K) r X
  | .scope b,K,_ :: r,X=>ptR b (zv5 K) r X
  | c,K,_,_=>(c,K)
def exF (fn:Func) (K:List PA->Prop) (l:List Nat) (X:List (St->Prop)) (s:St):Prop :=
 match fn.body with
 | some c=>(ptR P Γ ann c (zpO P fn K) l X).2 .normal s
 | none=>False
def rnF (fn:Func) (K:List PA->Prop) (l:List Nat) (X:List (St->Prop)) (Y:List (List PA)->St->Prop) (y:List PA) (rest:List (List PA)) (s:St):Prop :=
 match fn.body with
 | some c=>match (ptR P Γ ann c (zpO P fn K) l X).1 with
  | .rangeFunc _ ps a b=>zQJ P Γ ann (zQf a b) ps.toList a b Y (ptR P Γ ann c (zpO P fn K) l X).2 y rest s
  | _=>False
 | none=>False
end
@[reducible] def lpR {A Y : Type} (a : A) (st : Y → A → A) : List Y → A
  | []=>a
  | y :: r=>st y (lpR a st r)
theorem zri {Y A B : Type} {enc : Y → List PA} {X : List (List PA) → St → Prop} (pe : B) (se : A) (ps : Y → B → B) (ss : Y → A → A) (M : (St → Prop) → B → A → Prop) (h0 : M (X []) pe se)
    (h1:∀ y rest P S,M (X rest) P S->M (X (enc y :: rest)) (ps y P) (ss y S)):∀ l:List Y,M (X (l.map enc)) (lpR pe ps l) (lpR se ss l)
  | []=>h0
  | y :: r=>h1 y (r.map enc) _ _ (zri pe se ps ss M h0 h1 r)
theorem zr {at_ sf : Prop} {Y : Type} {enc : Y → List PA} {ys : List Y} {g : St} (Ex : St → Prop) (Rn : (List (List PA) → St → Prop) → List PA → List (List PA) → St → Prop)
    (e:at_=(sf/\∀ X:List (List PA)->St->Prop,(∀ s,Ex s->X [] s)->(∀ y rest s,Rn X y rest s->X (y :: rest) s)->X (ys.map enc) g)) (hs:sf)
    (h:∀ X:List (List PA)->St->Prop,(∀ s,Ex s->X [] s)->(∀ y rest s,Rn X y rest s->X (y :: rest) s)->X (ys.map enc) g):at_:=e ▸ ⟨hs,h⟩

theorem zc {b:Bool}{A B:Prop}{S S':Bool}{α:Type}{e:α->List PA}{K:List PA->Prop}{x y:α}(hs:cond b S S'=true) (hk:K (e (cond b x y))) (h1:S=true->K (e x)->A) (h2:S'=true->K (e y)->B):zcJ b A B:=by
 cases b
 ·exact h2 hs hk
 ·exact h1 hs hk
theorem zt {b:Bool}{A B:Prop}{α:Type}{e:α->List PA}{K:List PA->Prop}{x y:α}(hk:K (e (cond b x y))) (h1:K (e x)->A) (h2:K (e y)->B):zcJ b A B:=by
 cases b
 ·exact h2 hk
 ·exact h1 hk
theorem zl {at_:Prop}{g:St}(B:(St->Prop)->St->Prop) (e:at_ = ∀ X:St->Prop,(∀ s,B X s->X s)->X g) (h:∀ X:St->Prop,(∀ s,B X s->X s)->X g):at_:=e ▸ h
end Go.Pm
namespace Go.Pm
instance dz0:DrawZ:=⟨0⟩
end Go.Pm
namespace Go.Proofs
open Go Go.Pm
set_option maxRecDepth 100000
set_option linter.unusedVariables false
attribute [local irreducible] Go.Pm.vcFun Go.Pm.vc Go.Pm.vcIter
abbrev zaB (x:Int):List PV:=[.int .i64 x]
def zOj : List PV → Int
  | [.int .i64 x]=>x
  | _=>default
def zbh (g:Nat->List PV):Nat->Int:=λ i=>zOj (g i)
theorem zaV (f:Nat->Int):zbh (λ i=>zaB (f i))=f:=rfl
abbrev enc_4 (x:Bool):List PV:=[.bool x]
def zOk : List PV → Bool
  | [.bool x]=>x
  | _=>default
def zbj (g:Nat->List PV):Nat->Bool:=λ i=>zOk (g i)
theorem zfz (f:Nat->Bool):zbj (λ i=>enc_4 (f i))=f:=rfl
abbrev zKR (x:Int):List PV:=[.int .i64 x]
abbrev zKS (x:Int):List PV:=[.int .i64 x]
structure Span where
  Low:Int
  High:Int
deriving Inhabited
abbrev zcb (x:Span):List PV:=[.int .i64 x.Low,.int .i64 x.High]
structure Drift where
  Time:Int
  Radius:Span
deriving Inhabited
abbrev zaz (x:Drift):List PV:=[.int .i64 x.Time,.int .i64 x.Radius.Low,.int .i64 x.Radius.High]
def zGf : List PV → Drift
  | [.int .i64 x_Time,.int .i64 x_Radius_Low,.int .i64 x_Radius_High]=>(⟨x_Time,(⟨x_Radius_Low,x_Radius_High⟩:Span)⟩:Drift)
  | _=>default
def zbn (g:Nat->List PV):Nat->Drift:=λ i=>zGf (g i)
theorem zbc (f:Nat->Drift):zbn (λ i=>zaz (f i))=f:=rfl
abbrev zEw (x:(Sl Drift)):List PV:=[.sl x.len 3 (λ i=>zaz (x.get i))]
abbrev ze6 (x:(Sl Int)):List PV:=[.sl x.len 1 (λ i=>zaB (x.get i))]
structure Plane where
  Kind:Int
  View:Int
  Z:Int
  First:Int
  Pitch:Int
  Strips:Int
  Spill:Int
  Offset:Span
  Clock:Span
  Jitter:Int
  Least:Int
  Drift:(Sl Drift)
  Dead:(Sl Int)
deriving Inhabited
abbrev enc_34 (x:Plane):List PV:=[.int .i64 x.Kind,.int .i64 x.View,.int .i64 x.Z,.int .i64 x.First,.int .i64 x.Pitch,.int .i64 x.Strips,.int .i64 x.Spill,.int .i64 x.Offset.Low,.int .i64 x.Offset.High,.int .i64 x.Clock.Low,.int .i64 x.Clock.High,.int .i64 x.Jitter,.int .i64 x.Least,.sl x.Drift.len 3 (λ i=>zaz (x.Drift.get i)),.sl x.Dead.len 1 (λ i=>zaB (x.Dead.get i))]
def zKT : List PV → Plane
  | [.int .i64 x_Kind,.int .i64 x_View,.int .i64 x_Z,.int .i64 x_First,.int .i64 x_Pitch,.int .i64 x_Strips,.int .i64 x_Spill,.int .i64 x_Offset_Low,.int .i64 x_Offset_High,.int .i64 x_Clock_Low,.int .i64 x_Clock_High,.int .i64 x_Jitter,.int .i64 x_Least,.sl x_Drift_n _ x_Drift_g,.sl x_Dead_n _ x_Dead_g]=>(⟨x_Kind,x_View,x_Z,x_First,x_Pitch,x_Strips,x_Spill,(⟨x_Offset_Low,x_Offset_High⟩:Span),(⟨x_Clock_Low,x_Clock_High⟩:Span),x_Jitter,x_Least,(⟨x_Drift_n,zbn x_Drift_g⟩:(Sl Drift)),(⟨x_Dead_n,zbh x_Dead_g⟩:(Sl Int))⟩:Plane)
  | _=>default
def zbA (g:Nat->List PV):Nat->Plane:=λ i=>zKT (g i)
theorem zbT (f:Nat->Plane):zbA (λ i=>enc_34 (f i))=f:=rfl
abbrev zKU (x:(Sl Plane)):List PV:=[.sl x.len 15 (λ i=>enc_34 (x.get i))]
structure Setup where
  Planes:(Sl Plane)
deriving Inhabited
abbrev enc_24 (x:Setup):List PV:=[.sl x.Planes.len 15 (λ i=>enc_34 (x.Planes.get i))]
abbrev zKV (x:(Sl Bool)):List PV:=[.sl x.len 1 (λ i=>enc_4 (x.get i))]
abbrev zaY (x:(Int×Int)):List PV:=[.int .i64 x.1,.int .i64 x.2]
def zKW : List PV → (Int × Int)
  | [.int .i64 x_0,.int .i64 x_1]=>(x_0,x_1)
  | _=>default
def zbL (g:Nat->List PV):Nat->(Int×Int):=λ i=>zKW (g i)
theorem zbB (f:Nat->(Int×Int)):zbL (λ i=>zaY (f i))=f:=rfl
abbrev za8 (x:(Bool×Bool)):List PV:=[.bool x.1,.bool x.2]
def zKX : List PV → (Bool × Bool)
  | [.bool x_0,.bool x_1]=>(x_0,x_1)
  | _=>default
def zb5 (g:Nat->List PV):Nat->(Bool×Bool):=λ i=>zKX (g i)
theorem zbU (f:Nat->(Bool×Bool)):zb5 (λ i=>za8 (f i))=f:=rfl
structure Scanner where
  Next:(Sl (Int×Int))
  Out:(Sl (Bool×Bool))
deriving Inhabited
abbrev ze7 (x:Scanner):List PV:=[.sl x.Next.len 2 (λ i=>zaY (x.Next.get i)),.sl x.Out.len 2 (λ i=>za8 (x.Out.get i))]
structure Hit where
  Plane:Int
  Channel:Int
  Many:Int
  Drift:Int
  Charge:Int
  Time:Int
deriving Inhabited
abbrev ze8 (x:Hit):List PV:=[.int .i64 x.Plane,.int .i64 x.Channel,.int .i64 x.Many,.int .i64 x.Drift,.int .i64 x.Charge,.int .i64 x.Time]
structure Gate where
  Z:Int
  Low:Int
  High:Int
deriving Inhabited
abbrev zeO (x:Gate):List PV:=[.int .i64 x.Z,.int .i64 x.Low,.int .i64 x.High]
structure Tie where
  From:Int
  To:Int
  Low:Int
  High:Int
deriving Inhabited
abbrev zdn (x:Tie):List PV:=[.int .i64 x.From,.int .i64 x.To,.int .i64 x.Low,.int .i64 x.High]
def zKY : List PV → Tie
  | [.int .i64 x_From,.int .i64 x_To,.int .i64 x_Low,.int .i64 x_High]=>(⟨x_From,x_To,x_Low,x_High⟩:Tie)
  | _=>default
def ziR (g:Nat->List PV):Nat->Tie:=λ i=>zKY (g i)
theorem zeP (f:Nat->Tie):ziR (λ i=>zdn (f i))=f:=rfl
structure Net where
  Nodes:Int
  Ties:(Sl Tie)
deriving Inhabited
abbrev zhX (x:Net):List PV:=[.int .i64 x.Nodes,.sl x.Ties.len 4 (λ i=>zdn (x.Ties.get i))]
structure FluxRow where
  Energy:Int
  Rate:Span
deriving Inhabited
abbrev zbZ (x:FluxRow):List PV:=[.int .i64 x.Energy,.int .i64 x.Rate.Low,.int .i64 x.Rate.High]
def zKZ : List PV → FluxRow
  | [.int .i64 x_Energy,.int .i64 x_Rate_Low,.int .i64 x_Rate_High]=>(⟨x_Energy,(⟨x_Rate_Low,x_Rate_High⟩:Span)⟩:FluxRow)
  | _=>default
def zd2 (g:Nat->List PV):Nat->FluxRow:=λ i=>zKZ (g i)
theorem zct (f:Nat->FluxRow):zd2 (λ i=>zbZ (f i))=f:=rfl
abbrev zdz (x:(Sl FluxRow)):List PV:=[.sl x.len 3 (λ i=>zbZ (x.get i))]
def zK1 : List PV → (Sl FluxRow)
  | [.sl x_n _ x_g]=>(⟨x_n,zd2 x_g⟩:(Sl FluxRow))
  | _=>default
def zdA (g:Nat->List PV):Nat->(Sl FluxRow):=λ i=>zK1 (g i)
theorem zdg (f:Nat->(Sl FluxRow)):zdA (λ i=>zdz (f i))=f:=rfl
structure Sky where
  Parts:Int
  Bins:(Sl (Sl FluxRow))
  Beta:Span
  Alpha:Span
deriving Inhabited
abbrev zqz (x:Sky):List PV:=[.int .i64 x.Parts,.sl x.Bins.len 1 (λ i=>zdz (x.Bins.get i)),.int .i64 x.Beta.Low,.int .i64 x.Beta.High,.int .i64 x.Alpha.Low,.int .i64 x.Alpha.High]
structure RangeRow where
  Energy:Int
  Range:Span
deriving Inhabited
abbrev zaO (x:RangeRow):List PV:=[.int .i64 x.Energy,.int .i64 x.Range.Low,.int .i64 x.Range.High]
def zGg : List PV → RangeRow
  | [.int .i64 x_Energy,.int .i64 x_Range_Low,.int .i64 x_Range_High]=>(⟨x_Energy,(⟨x_Range_Low,x_Range_High⟩:Span)⟩:RangeRow)
  | _=>default
def zbQ (g:Nat->List PV):Nat->RangeRow:=λ i=>zGg (g i)
theorem za6 (f:Nat->RangeRow):zbQ (λ i=>zaO (f i))=f:=rfl
structure placed where
  Plane:Plane
  index:Int
deriving Inhabited
abbrev zbg (x:placed):List PV:=[.int .i64 x.Plane.Kind,.int .i64 x.Plane.View,.int .i64 x.Plane.Z,.int .i64 x.Plane.First,.int .i64 x.Plane.Pitch,.int .i64 x.Plane.Strips,.int .i64 x.Plane.Spill,.int .i64 x.Plane.Offset.Low,.int .i64 x.Plane.Offset.High,.int .i64 x.Plane.Clock.Low,.int .i64 x.Plane.Clock.High,.int .i64 x.Plane.Jitter,.int .i64 x.Plane.Least,.sl x.Plane.Drift.len 3 (λ i=>zaz (x.Plane.Drift.get i)),.sl x.Plane.Dead.len 1 (λ i=>zaB (x.Plane.Dead.get i)),.int .i64 x.index]
structure Pulse where
  A:Int
  B:Int
  TimeA:Int
  TimeB:Int
  Flight:Span
  Jitter:Int
deriving Inhabited
abbrev zhY (x:Pulse):List PV:=[.int .i64 x.A,.int .i64 x.B,.int .i64 x.TimeA,.int .i64 x.TimeB,.int .i64 x.Flight.Low,.int .i64 x.Flight.High,.int .i64 x.Jitter]
def zK2 : List PV → Pulse
  | [.int .i64 x_A,.int .i64 x_B,.int .i64 x_TimeA,.int .i64 x_TimeB,.int .i64 x_Flight_Low,.int .i64 x_Flight_High,.int .i64 x_Jitter]=>(⟨x_A,x_B,x_TimeA,x_TimeB,(⟨x_Flight_Low,x_Flight_High⟩:Span),x_Jitter⟩:Pulse)
  | _=>default
def zkG (g:Nat->List PV):Nat->Pulse:=λ i=>zK2 (g i)
theorem zmL (f:Nat->Pulse):zkG (λ i=>zhY (f i))=f:=rfl
structure ground where
  Sky:Sky
  table:(Sl RangeRow)
  known:(Int->List Int)
deriving Inhabited
abbrev zhZ (x:ground):List PV:=[.int .i64 x.Sky.Parts,.sl x.Sky.Bins.len 1 (λ i=>zdz (x.Sky.Bins.get i)),.int .i64 x.Sky.Beta.Low,.int .i64 x.Sky.Beta.High,.int .i64 x.Sky.Alpha.Low,.int .i64 x.Sky.Alpha.High,.sl x.table.len 3 (λ i=>zaO (x.table.get i)),.mp x.known]
abbrev zGh (x:(Int×Int×Int)):List PV:=[.int .i64 x.1,.int .i64 x.2.1,.int .i64 x.2.2]
end Go.Proofs
namespace Go.Pm
variable [DrawZ]
open Go Go.Deep

theorem zDt (b o i j:Nat):((⟨b,o,none⟩:Addr).add i).add j=⟨b,o+i+j,none⟩:=by
 simp only[Addr.add]
 by_cases h1:i=0
 ·subst h1
  by_cases h2:j=0
  ·subst h2;rfl
  ·rw[if_neg h2];rfl
 ·rw [if_neg h1]
  by_cases h2:j=0
  ·subst h2;rfl
  ·rw[if_neg h2]
def H0 (w:World):Fz:=λ b=>(w.heap[b]?).map .fz
theorem hw_H0 (w:World):Hw (H0 w) w:=by
 intro b x h
 unfold H0 at h
 cases e:w.heap[b]? with
 | none=>rw[e] at h;cases h
 | some o=>rw[e] at h;cases h;exact⟨o,rfl,rfl⟩
def wfI (x:Int):Prop:=-9223372036854775808<=x/\x<=9223372036854775807
section
variable {H:Type}{en:TypeId×Value->H}{P:Program}{w:World}{sp:Nat->Bool}{held:Bool}
def Rd (H:Type) (en:TypeId×Value->H) (P:Program) (w:World) (sp:Nat->Bool) (held:Bool) (t:TypeId){α:Type}(enc:α->List PV) (wf:α->Prop):Prop :=
 ∀ (fuel:Nat) (cs:List Value) (x:DataW H×List MemPlace),DataW.trod en P w 0 sp held fuel t cs=some x->∃ a:α,RL (Rep (H0 w)) (enc a) cs/\wf a
theorem zxt {t:TypeId}(ht:P.underlying t=some (.int .i64)):Rd H en P w sp held t (λ x=>[.int .i64 x]) wfI:=by
 intro fuel cs x h
 obtain⟨n,rfl,_,hw⟩:=DataW.trod_int ht h
 refine⟨n,⟨.int _ _,trivial⟩,?_⟩
 simp only[Lit.wf,dqm,decide_eq_true_eq] at hw
 exact⟨hw.1,hw.2⟩
theorem zGi {t:TypeId}(ht:P.underlying t=some .bool):Rd H en P w sp held t (λ x=>[.bool x]) (λ _=>True):=by
 intro fuel cs x h
 obtain⟨b,rfl,_⟩:=DataW.trod_bool ht h
 exact⟨b,⟨.bool _,trivial⟩,trivial⟩
theorem zj6 {t : TypeId} {fs : Array Field} (ht : P.underlying t = some (.struct fs)) {fuel : Nat} {cs : List Value} {x : DataW H × List MemPlace} (h : DataW.trod en P w 0 sp held fuel t cs = some x) :
  cs.length=P.cellsOf t/\∀ (i:Nat) (f:Field),fs[i]? = some f->∃ n y,DataW.trod en P w 0 sp held n f.type ((cs.drop f.offset).take (P.cellsOf f.type))=some y:=by
 obtain⟨xs,n,_,_,hl,hx,hf⟩:=DataW.trod_struct ht h
 refine⟨hl,λ i f hi=>?_⟩
 have hlt:i < xs.length:=by rw[hx];exact (dqp.1 hi).1
 exact⟨n,xs[i],by rw[hf i f hi,dqD hlt]⟩
theorem zlR {t e : TypeId} {α : Type} [Inhabited α] {enc : α → List PV} {wf : α → Prop} {s : Nat} (ht : P.underlying t = some (.slice e)) (hc : P.cellsOf e = s) (hs : 0 < s) (hlen : ∀ a, (enc a).length = s)
    (hel:Rd H en P w sp held e enc wf):Rd H en P w sp held t (λ x:Sl α=>[.sl x.len s (λ i=>enc (x.get i))]) (λ x=>x.len<=9223372036854775807/\∀ i,i < x.len->wf (x.get i)):=by
  intro fuel cs x h
  rcases open_slice ht h with ⟨rfl,_⟩ | ⟨a,len,cap,m,n,D,Pl,rfl,_,hl,hm,hmm,_,hget⟩
  · exact⟨⟨0,default⟩,⟨.sl0 _ _,trivial⟩,Nat.zero_le _,λ i hi=>absurd hi (dqW i)⟩
  · by_cases h0 : len = 0
    · subst h0
      exact⟨⟨0,default⟩,⟨.sle _ _ _ _,trivial⟩,Nat.zero_le _,λ i hi=>absurd hi (dqW i)⟩
    · have hlm : len ≤ m := by rw [hmm]; split <;> omega
      rw[hc] at hget
      have hex:∀ i,i < len->∃ y:α,(∃ cs',w.cells? 0 (a.add (i * s)) s=some cs'/\RL (Rep (H0 w)) (enc y) cs')/\wf y:=by
        intro i hi
        obtain⟨cs',h1,h2⟩:=hget i (by omega)
        obtain⟨y,h3,h4⟩:=hel _ _ _ h2
        exact⟨y,⟨cs',h1,h3⟩,h4⟩
      have hch:∃ f:Nat->α,∀ i,i < len->(∃ cs',w.cells? 0 (a.add (i * s)) s=some cs'/\RL (Rep (H0 w)) (enc (f i)) cs')/\wf (f i):=by
        refine⟨λ i=>if hi:i < len then Classical.choose (hex i hi) else default,λ i hi=>?_⟩
        simp only[dif_pos hi]
        exact Classical.choose_spec (hex i hi)
      obtain⟨f,hf⟩:=hch
      -- the block
      have hcell:∀ i,i < len->∀ j,j < s->∃ cs',w.cells? 0 (a.add (i * s)) s=some cs'/\RL (Rep (H0 w)) (enc (f i)) cs'/\w.cell? ((a.add (i * s)).add j)=cs'[j]?/\cs'.length=s:=by
        intro i hi j hj
        obtain⟨⟨cs',h1,h2⟩,_⟩:=hf i hi
        obtain⟨_,h3,h4⟩:=World.cells?_some h1
        exact⟨cs',h1,h2,h4 j hj,h3⟩
      obtain⟨cs0,_,_,hc0,hl0⟩:=hcell 0 (by omega) 0 hs
      have ha0:w.cell? a=cs0[0]?:=by simpa [Addr.add] using hc0
      rw[dqD (by omega)] at ha0
      obtain⟨C,ty,fr,hblk,hspot⟩:∃ C ty fr,w.heap[a.block]? = some (.cells C ty fr)/\a.spot=none:=by
        unfold World.cell? at ha0
        split at ha0
        · rename_i C ty fr hb
          refine⟨C,ty,fr,hb,?_⟩
          cases hsp:a.spot with
          | none=>rfl
          | some k=>rw[hsp] at ha0;simp at ha0
        · cases ha0
      have ea:a=⟨a.block,a.off,none⟩:=by rw[<- hspot]
      have hat:∀ i j,i < len->j < s->∃ cs',RL (Rep (H0 w)) (enc (f i)) cs'/\C[a.off+i * s+j]? = cs'[j]?/\cs'.length=s:=by
        intro i j hi hj
        obtain⟨cs',_,h2,h3,h4⟩:=hcell i hi j hj
        refine⟨cs',h2,?_,h4⟩
        rw[<- h3]
        have e2:(a.add (i * s)).add j=⟨a.block,a.off+i * s+j,none⟩:=(congrArg (λ z:Addr=>(z.add (i * s)).add j) ea).trans (zDt _ _ _ _)
        rw[e2]
        simp[World.cell?,hblk]
      refine⟨⟨len,f⟩,⟨?_,trivial⟩,by simp only[maxLen] at hm;show len<=_;omega,λ i hi=>(hf i hi).2⟩
      rw[ea]
      refine .sl len s _ a.block a.off cap C ty fr (λ i j=>C.getD (a.off+i * s+j) undef) (by simp[H0,hblk]) hl (λ i _=>hlen _) ?_ ?_
      · intro i j x hi hx
        have hj:j < s:=by have:=(dqn.1 hx).1;rw[hlen] at this;exact this
        obtain⟨cs',h1,h2,h3⟩:=hat i j hi hj
        rw[dql,h2,dqD (by omega)]
        rfl
      · intro i j x hi hx
        have hj:j < s:=by have:=(dqn.1 hx).1;rw[hlen] at this;exact this
        obtain⟨cs',h1,h2,h3⟩:=hat i j hi hj
        obtain⟨v,hv,hr⟩:=h1.get j x hx
        rw[dql,h2,hv]
        exact hr
theorem zb0 {α:Type}(l:List α) (o s:Nat):l.drop o=(l.drop o).take s ++ l.drop (o+s):=by
 rw[<- List.drop_drop]
 exact (List.take_append_drop s (l.drop o)).symm
theorem okWide_agg {t:TypeId}{fs:Array Field}{r:Reach}{base:Nat}{v:Value}(ht:P.underlying t=some (.struct fs)) (h:Value.okWide P w r base t v):∃ cs,v=.agg cs:=by
 unfold Value.okWide at h
 rw[ht] at h
 obtain⟨cs,hv,_⟩:=h
 exact⟨cs,hv⟩
def zOl : TypeDesc → Bool
  | .struct _=>false
  | .array _ _=>false
  | _=>true
theorem okWide_one {t:TypeId}{d:TypeDesc}{r:Reach}{base:Nat}{v:Value}(ht:P.underlying t=some d) (hd:zOl d=true) (h:Value.okWide P w r base t v):v.cells.toList=[v]:=by
 unfold Value.okWide at h
 rw[ht] at h
 cases v with
 | agg cs =>
  exfalso
  cases d <;> first | (cases hd;done) | (simp only[Cell.okWide,Cell.ok,ht] at h)
 | _=>rfl
theorem pa_one {h:Fz}{p:PV}{v:Value}(hv:v.cells.toList=[v]) (r:RL (Rep h) [p] v.cells.toList):paR h (.one p) v:=by
 rw[hv] at r
 exact r.1
theorem pa_agg {h:Fz}{l:List PV}{v:Value}(hv:∃ cs,v=.agg cs) (r:RL (Rep h) l v.cells.toList):paR h (.agg l) v:=by
 obtain⟨cs,rfl⟩:=hv
 exact⟨cs.toList,by simp,r⟩
theorem below_H0 {w':World}(b:Bel (H0 w) w.heap.size w w'):Go.RowKit.Below w.heap.size w w' :=
 ⟨b.os,b.tape,b.output,b.size,λ k hk=>b.block k hk λ F e=>by
  unfold H0 at e
  cases hb:w.heap[k]? <;> rw[hb] at e <;> cases e⟩
end
end Go.Pm
namespace Go.Proofs
open Go Go.Pm
set_option maxRecDepth 100000
set_option linter.unusedVariables false
attribute [local irreducible] Go.Pm.vcFun Go.Pm.vc Go.Pm.vcIter
theorem C_3:Try.prog.cellsOf 3=1:=by kernel_rfl
theorem C_4:Try.prog.cellsOf 4=1:=by kernel_rfl
theorem zQL:Try.prog.cellsOf 22=1:=by kernel_rfl
theorem zQM:Try.prog.cellsOf 24=1:=by kernel_rfl
theorem zQN:Try.prog.cellsOf 27=1:=by kernel_rfl
theorem zQO:Try.prog.cellsOf 28=1:=by kernel_rfl
theorem zNR:Try.prog.cellsOf 30=2:=by kernel_rfl
theorem zQP:Try.prog.cellsOf 31=1:=by kernel_rfl
theorem zQQ:Try.prog.cellsOf 32=1:=by kernel_rfl
theorem zQj:Try.prog.cellsOf 34=15:=by kernel_rfl
theorem zK3:Try.prog.cellsOf 119=3:=by kernel_rfl
abbrev wf_3 (x:Int):Prop:=wfI x
theorem rd_3 {H:Type}{en:TypeId×Value->H}{w:World}{sp:Nat->Bool}{held:Bool} : Rd H en Try.prog w sp held 3 zaB wf_3:=zxt Try.underlying3
abbrev zK4 (x:Int):Prop:=wfI x
theorem zOm {H:Type}{en:TypeId×Value->H}{w:World}{sp:Nat->Bool}{held:Bool} : Rd H en Try.prog w sp held 27 zKR zK4:=zxt Try.underlying27
abbrev zK5 (x:Int):Prop:=wfI x
theorem zOn {H:Type}{en:TypeId×Value->H}{w:World}{sp:Nat->Bool}{held:Bool} : Rd H en Try.prog w sp held 28 zKS zK5:=zxt Try.underlying28
def zDu (x:Span):Prop:=wf_3 x.Low/\wf_3 x.High
theorem zGj {H:Type}{en:TypeId×Value->H}{w:World}{sp:Nat->Bool}{held:Bool} : Rd H en Try.prog w sp held 30 zcb zDu:=by
  intro fuel cs x h
  obtain⟨hl,hf⟩:=zj6 Try.underlying30 h
  rw[zNR] at hl
  obtain⟨n0,y0,g0⟩:=hf 0 _ rfl
  have g0:DataW.trod en Try.prog w 0 sp held n0 3 ((cs.drop 0).take (Try.prog.cellsOf 3))=some y0:=g0
  rw[C_3] at g0
  obtain⟨a0,r0,w0⟩:=rd_3 _ _ _ g0
  obtain⟨n1,y1,g1⟩:=hf 1 _ rfl
  have g1:DataW.trod en Try.prog w 0 sp held n1 3 ((cs.drop 1).take (Try.prog.cellsOf 3))=some y1:=g1
  rw[C_3] at g1
  obtain⟨a1,r1,w1⟩:=rd_3 _ _ _ g1
  have z:cs.drop 2=[]:=dqO (by omega)
  have R:=(r0.append (r1.append (show RL (Rep (H0 w)) [] (cs.drop 2) by rw[z];exact zlt)))
  rw[<- (show cs.drop 1=(cs.drop 1).take 1 ++ cs.drop 2 from zb0 cs 1 1)] at R
  rw[<- (show cs.drop 0=(cs.drop 0).take 1 ++ cs.drop 1 from zb0 cs 0 1)] at R
  exact⟨⟨a0,a1⟩,R,⟨w0,w1⟩⟩
def zEx (x:Drift):Prop:=wf_3 x.Time/\zDu x.Radius
theorem zK6 {H:Type}{en:TypeId×Value->H}{w:World}{sp:Nat->Bool}{held:Bool} : Rd H en Try.prog w sp held 119 zaz zEx:=by
  intro fuel cs x h
  obtain⟨hl,hf⟩:=zj6 Try.underlying119 h
  rw[zK3] at hl
  obtain⟨n0,y0,g0⟩:=hf 0 _ rfl
  have g0:DataW.trod en Try.prog w 0 sp held n0 3 ((cs.drop 0).take (Try.prog.cellsOf 3))=some y0:=g0
  rw[C_3] at g0
  obtain⟨a0,r0,w0⟩:=rd_3 _ _ _ g0
  obtain⟨n1,y1,g1⟩:=hf 1 _ rfl
  have g1:DataW.trod en Try.prog w 0 sp held n1 30 ((cs.drop 1).take (Try.prog.cellsOf 30))=some y1:=g1
  rw[zNR] at g1
  obtain⟨a1,r1,w1⟩:=zGj _ _ _ g1
  have z:cs.drop 3=[]:=dqO (by omega)
  have R:=(r0.append (r1.append (show RL (Rep (H0 w)) [] (cs.drop 3) by rw[z];exact zlt)))
  rw[<- (show cs.drop 1=(cs.drop 1).take 2 ++ cs.drop 3 from zb0 cs 1 2)] at R
  rw[<- (show cs.drop 0=(cs.drop 0).take 1 ++ cs.drop 1 from zb0 cs 0 1)] at R
  exact⟨⟨a0,a1⟩,R,⟨w0,w1⟩⟩
def zK7 (x:(Sl Drift)):Prop:=x.len<=9223372036854775807/\∀ i,i < x.len->zEx (x.get i)
theorem zOo {H:Type}{en:TypeId×Value->H}{w:World}{sp:Nat->Bool}{held:Bool} : Rd H en Try.prog w sp held 31 zEw zK7:=zlR Try.underlying31 zK3 (by decide) (λ _=>rfl) zK6
def zK8 (x:(Sl Int)):Prop:=x.len<=9223372036854775807/\∀ i,i < x.len->wf_3 (x.get i)
theorem zOp {H:Type}{en:TypeId×Value->H}{w:World}{sp:Nat->Bool}{held:Bool} : Rd H en Try.prog w sp held 32 ze6 zK8:=zlR Try.underlying32 C_3 (by decide) (λ _=>rfl) rd_3
def zK9 (x:Plane):Prop:=zK4 x.Kind/\zK5 x.View/\wf_3 x.Z/\wf_3 x.First/\wf_3 x.Pitch/\wf_3 x.Strips/\wf_3 x.Spill/\zDu x.Offset/\zDu x.Clock/\wf_3 x.Jitter/\wf_3 x.Least/\zK7 x.Drift/\zK8 x.Dead
theorem zOq {H:Type}{en:TypeId×Value->H}{w:World}{sp:Nat->Bool}{held:Bool} : Rd H en Try.prog w sp held 34 enc_34 zK9:=by
  intro fuel cs x h
  obtain⟨hl,hf⟩:=zj6 Try.underlying34 h
  rw[zQj] at hl
  obtain⟨n0,y0,g0⟩:=hf 0 _ rfl
  have g0:DataW.trod en Try.prog w 0 sp held n0 27 ((cs.drop 0).take (Try.prog.cellsOf 27))=some y0:=g0
  rw[zQN] at g0
  obtain⟨a0,r0,w0⟩:=zOm _ _ _ g0
  obtain⟨n1,y1,g1⟩:=hf 1 _ rfl
  have g1:DataW.trod en Try.prog w 0 sp held n1 28 ((cs.drop 1).take (Try.prog.cellsOf 28))=some y1:=g1
  rw[zQO] at g1
  obtain⟨a1,r1,w1⟩:=zOn _ _ _ g1
  obtain⟨n2,y2,g2⟩:=hf 2 _ rfl
  have g2:DataW.trod en Try.prog w 0 sp held n2 3 ((cs.drop 2).take (Try.prog.cellsOf 3))=some y2:=g2
  rw[C_3] at g2
  obtain⟨a2,r2,w2⟩:=rd_3 _ _ _ g2
  obtain⟨n3,y3,g3⟩:=hf 3 _ rfl
  have g3:DataW.trod en Try.prog w 0 sp held n3 3 ((cs.drop 3).take (Try.prog.cellsOf 3))=some y3:=g3
  rw[C_3] at g3
  obtain⟨a3,r3,w3⟩:=rd_3 _ _ _ g3
  obtain⟨n4,y4,g4⟩:=hf 4 _ rfl
  have g4:DataW.trod en Try.prog w 0 sp held n4 3 ((cs.drop 4).take (Try.prog.cellsOf 3))=some y4:=g4
  rw[C_3] at g4
  obtain⟨a4,r4,w4⟩:=rd_3 _ _ _ g4
  obtain⟨n5,y5,g5⟩:=hf 5 _ rfl
  have g5:DataW.trod en Try.prog w 0 sp held n5 3 ((cs.drop 5).take (Try.prog.cellsOf 3))=some y5:=g5
  rw[C_3] at g5
  obtain⟨a5,r5,w5⟩:=rd_3 _ _ _ g5
  obtain⟨n6,y6,g6⟩:=hf 6 _ rfl
  have g6:DataW.trod en Try.prog w 0 sp held n6 3 ((cs.drop 6).take (Try.prog.cellsOf 3))=some y6:=g6
  rw[C_3] at g6
  obtain⟨a6,r6,w6⟩:=rd_3 _ _ _ g6
  obtain⟨n7,y7,g7⟩:=hf 7 _ rfl
  have g7:DataW.trod en Try.prog w 0 sp held n7 30 ((cs.drop 7).take (Try.prog.cellsOf 30))=some y7:=g7
  rw[zNR] at g7
  obtain⟨a7,r7,w7⟩:=zGj _ _ _ g7
  obtain⟨n8,y8,g8⟩:=hf 8 _ rfl
  have g8:DataW.trod en Try.prog w 0 sp held n8 30 ((cs.drop 9).take (Try.prog.cellsOf 30))=some y8:=g8
  rw[zNR] at g8
  obtain⟨a8,r8,w8⟩:=zGj _ _ _ g8
  obtain⟨n9,y9,g9⟩:=hf 9 _ rfl
  have g9:DataW.trod en Try.prog w 0 sp held n9 3 ((cs.drop 11).take (Try.prog.cellsOf 3))=some y9:=g9
  rw[C_3] at g9
  obtain⟨a9,r9,w9⟩:=rd_3 _ _ _ g9
  obtain⟨n10,y10,g10⟩:=hf 10 _ rfl
  have g10:DataW.trod en Try.prog w 0 sp held n10 3 ((cs.drop 12).take (Try.prog.cellsOf 3))=some y10:=g10
  rw[C_3] at g10
  obtain⟨a10,r10,w10⟩:=rd_3 _ _ _ g10
  obtain⟨n11,y11,g11⟩:=hf 11 _ rfl
  have g11:DataW.trod en Try.prog w 0 sp held n11 31 ((cs.drop 13).take (Try.prog.cellsOf 31))=some y11:=g11
  rw[zQP] at g11
  obtain⟨a11,r11,w11⟩:=zOo _ _ _ g11
  obtain⟨n12,y12,g12⟩:=hf 12 _ rfl
  have g12:DataW.trod en Try.prog w 0 sp held n12 32 ((cs.drop 14).take (Try.prog.cellsOf 32))=some y12:=g12
  rw[zQQ] at g12
  obtain⟨a12,r12,w12⟩:=zOp _ _ _ g12
  have z:cs.drop 15=[]:=dqO (by omega)
  have R:=(r0.append (r1.append (r2.append (r3.append (r4.append (r5.append (r6.append (r7.append (r8.append (r9.append (r10.append (r11.append (r12.append (show RL (Rep (H0 w)) [] (cs.drop 15) by rw[z];exact zlt))))))))))))))
  rw[<- (show cs.drop 14=(cs.drop 14).take 1 ++ cs.drop 15 from zb0 cs 14 1)] at R
  rw[<- (show cs.drop 13=(cs.drop 13).take 1 ++ cs.drop 14 from zb0 cs 13 1)] at R
  rw[<- (show cs.drop 12=(cs.drop 12).take 1 ++ cs.drop 13 from zb0 cs 12 1)] at R
  rw[<- (show cs.drop 11=(cs.drop 11).take 1 ++ cs.drop 12 from zb0 cs 11 1)] at R
  rw[<- (show cs.drop 9=(cs.drop 9).take 2 ++ cs.drop 11 from zb0 cs 9 2)] at R
  rw[<- (show cs.drop 7=(cs.drop 7).take 2 ++ cs.drop 9 from zb0 cs 7 2)] at R
  rw[<- (show cs.drop 6=(cs.drop 6).take 1 ++ cs.drop 7 from zb0 cs 6 1)] at R
  rw[<- (show cs.drop 5=(cs.drop 5).take 1 ++ cs.drop 6 from zb0 cs 5 1)] at R
  rw[<- (show cs.drop 4=(cs.drop 4).take 1 ++ cs.drop 5 from zb0 cs 4 1)] at R
  rw[<- (show cs.drop 3=(cs.drop 3).take 1 ++ cs.drop 4 from zb0 cs 3 1)] at R
  rw[<- (show cs.drop 2=(cs.drop 2).take 1 ++ cs.drop 3 from zb0 cs 2 1)] at R
  rw[<- (show cs.drop 1=(cs.drop 1).take 1 ++ cs.drop 2 from zb0 cs 1 1)] at R
  rw[<- (show cs.drop 0=(cs.drop 0).take 1 ++ cs.drop 1 from zb0 cs 0 1)] at R
  exact⟨⟨a0,a1,a2,a3,a4,a5,a6,a7,a8,a9,a10,a11,a12⟩,R,⟨w0,w1,w2,w3,w4,w5,w6,w7,w8,w9,w10,w11,w12⟩⟩
def zLa (x:(Sl Plane)):Prop:=x.len<=9223372036854775807/\∀ i,i < x.len->zK9 (x.get i)
theorem zOr {H:Type}{en:TypeId×Value->H}{w:World}{sp:Nat->Bool}{held:Bool} : Rd H en Try.prog w sp held 22 zKU zLa:=zlR Try.underlying22 zQj (by decide) (λ _=>rfl) zOq
def wf_24 (x:Setup):Prop:=zLa x.Planes
theorem rd_24 {H:Type}{en:TypeId×Value->H}{w:World}{sp:Nat->Bool}{held:Bool} : Rd H en Try.prog w sp held 24 enc_24 wf_24:=by
  intro fuel cs x h
  obtain⟨hl,hf⟩:=zj6 Try.underlying24 h
  rw[zQM] at hl
  obtain⟨n0,y0,g0⟩:=hf 0 _ rfl
  have g0:DataW.trod en Try.prog w 0 sp held n0 22 ((cs.drop 0).take (Try.prog.cellsOf 22))=some y0:=g0
  rw[zQL] at g0
  obtain⟨a0,r0,w0⟩:=zOr _ _ _ g0
  have z:cs.drop 1=[]:=dqO (by omega)
  have R:=(r0.append (show RL (Rep (H0 w)) [] (cs.drop 1) by rw[z];exact zlt))
  rw[<- (show cs.drop 0=(cs.drop 0).take 1 ++ cs.drop 1 from zb0 cs 0 1)] at R
  exact⟨⟨a0⟩,R,w0⟩
abbrev zQk (_:Bool):Prop:=True
theorem zQR {H:Type}{en:TypeId×Value->H}{w:World}{sp:Nat->Bool}{held:Bool} : Rd H en Try.prog w sp held 4 enc_4 zQk:=zGi Try.underlying4
def wf_25 (x:(Sl Bool)):Prop:=x.len<=9223372036854775807/\∀ i,i < x.len->zQk (x.get i)
theorem rd_25 {H:Type}{en:TypeId×Value->H}{w:World}{sp:Nat->Bool}{held:Bool} : Rd H en Try.prog w sp held 25 zKV wf_25:=zlR Try.underlying25 C_4 (by decide) (λ _=>rfl) zQR
end Go.Proofs
namespace Go.Proofs
open Go Go.Pm
set_option maxRecDepth 100000
set_option linter.unusedVariables false
attribute [local irreducible] Go.Pm.vcFun Go.Pm.vc Go.Pm.vcIter
abbrev T31:Tabs:=Tabs.nil
theorem zOs:TabsOk Try.prog T31:=TabsOk.nil
abbrev G31:Ctrs:=csm T31 (λ _ _=>[]) (λ _=>false)
def zLb:Ann:=⟨15,[(0,zK [0,1,2] []),(1,zK [6] [])],
 [],
 [],
 [],[]⟩
abbrev R31:=Bool
abbrev e31 (r:R31):List PA:=[.one (.bool r)]
section
variable {K:List PA->Prop}{n:Int}{low:Int}{high:Int}
def s31 (n:Int) (low:Int) (high:Int):Bool :=
  (cond (decide (n >= low))
 (decide (n<=high))
 false)
end
theorem q31 (n:Int) (low:Int) (high:Int) (K:List PA->Prop) (hk:K (e31 (s31 n low high))):vcFun Try.prog G31 zLb 31 [.one (.int .i64 n),.one (.int .i64 low),.one (.int .i64 high)] K :=
  zaI (by kernel_rfl) (zt hk (λ hk=>hk) (λ hk=>hk))
def zxu : List PA → COut
  | [.one (.int .i64 a0),.one (.int .i64 a1),.one (.int .i64 a2)]=>.tot [.one (.bool (s31 a0 a1 a2))]
  | _=>.no
theorem zLc:zal Try.prog 31:=⟨_,rfl,rfl,by kernel_rfl⟩
theorem zOt:Ok Try.prog 31 zxu:=za5 zOs zLc λ args K h=>by
  unfold zxu at h
  split at h
  · rename_i a0 a1 a2
    have hk:=h
    exact⟨(λ _ _=>[]),(λ _=>false),zLb,q31 a0 a1 a2 K hk⟩
  · exact h.elim
abbrev T48:Tabs:=(Tabs.nil.addF 31 zxu)
theorem zOu:TabsOk Try.prog T48:=(TabsOk.nil.addF zOt)
abbrev G48:Ctrs:=csm T48 (λ _ _=>[]) (λ _=>false)
def zGk:Ann:=⟨55,[(0,zK [1,2] [2]),(1,zK [1,2,5] [2]),(2,zK [1,2,5,6] [2]),(3,zK [4] [])],
 [],
 [(2,zK [1,2,5] [2]),(3,zK [1,2,5,6] [2])],
 [],[]⟩
abbrev R48:=Bool
abbrev e48 (r:R48):List PA:=[.one (.bool r)]
@[irreducible] def z48:=ptF Try.prog G48 zGk Try.f48
section
variable {K:List PA->Prop}{t:Tie}{nodes:Int}{zej:Bool}{zuf:Bool}
def zrS (t:Tie) (nodes:Int) (zej:Bool) (zuf:Bool):Bool :=
  (cond (s31 t.From (0:Int) (w64 (nodes - (1:Int))))
 (cond (s31 t.To (0:Int) (w64 (nodes - (1:Int))))
 (cond (t.From != t.To)
 (cond zej
 (cond zuf
 (decide (t.Low<=t.High))
 false)
 false)
 false)
 false)
 false)
theorem zxv (hk:K (e48 (zrS t nodes zej zuf))):z48 K [1,1,1] [] ⟨[(1,zI nodes),(2,zp 2 0),(5,zB zej),(6,zB zuf)],[(2,.box 75 (zm (zdn t)))],[]⟩:=zaI (by kernel_rfl) (zt hk (λ hk=>(zt hk (λ hk=>(zt hk (λ hk=>(zt hk (λ hk=>(zt hk (λ hk=>hk) (λ hk=>hk))) (λ hk=>hk))) (λ hk=>hk))) (λ hk=>hk))) (λ hk=>hk))
def zrT (t:Tie) (nodes:Int) (zej:Bool):Bool :=
  (cond (t.High == (1000000000000:Int))
 (zrS t nodes zej true)
 (zrS t nodes zej (s31 t.High (-1000000000:Int) (1000000000:Int))))
theorem zxw (hk:K (e48 (zrT t nodes zej))):z48 K [1,1] [] ⟨[(1,zI nodes),(2,zp 2 0),(5,zB zej)],[(2,.box 75 (zm (zdn t)))],[]⟩:=zaI (by kernel_rfl) (zt hk (λ hk=>(zxv hk)) (λ hk=>(zxv hk)))
def s48 (t:Tie) (nodes:Int):Bool :=
  (cond (t.Low == (-1000000000000:Int))
 (zrT t nodes true)
 (zrT t nodes (s31 t.Low (-1000000000:Int) (1000000000:Int))))
end
theorem q48 (t:Tie) (nodes:Int) (K:List PA->Prop) (hk:K (e48 (s48 t nodes))):vcFun Try.prog G48 zGk 48 [.agg (zdn t),.one (.int .i64 nodes)] K :=
  zaI (by kernel_rfl) (zt hk (λ hk=>(zxw hk)) (λ hk=>(zxw hk)))
def zGl : List PA → COut
  | [.agg [.int .i64 zrU,.int .i64 zGm,.int .i64 zer,.int .i64 zdh],.one (.int .i64 a1)]=>.tot [.one (.bool (s48 (⟨zrU,zGm,zer,zdh⟩:Tie) a1))]
  | _=>.no
theorem zLd:zal Try.prog 48:=⟨_,rfl,rfl,by kernel_rfl⟩
theorem zQS:Ok Try.prog 48 zGl:=za5 zOu zLd λ args K h=>by
  unfold zGl at h
  split at h
  · rename_i zrU zGm zer zdh a1
    have hk:=h
    exact⟨(λ _ _=>[]),(λ _=>false),zGk,q48 (⟨zrU,zGm,zer,zdh⟩:Tie) a1 K hk⟩
  · exact h.elim
abbrev T32:Tabs:=((Tabs.nil.addF 31 zxu).addF 48 zGl)
theorem zOv:TabsOk Try.prog T32:=((TabsOk.nil.addF zOt).addF zQS)
abbrev G32:Ctrs:=csm T32 (λ _ _=>[]) (λ _=>false)
def zDv:Ann:=⟨27,[(0,zK [1] [1]),(1,zK [1,6,7,8] [1]),(2,zK [1,6,7,8,9] [1]),(3,zK [1,4,6,7,8] [1,4]),(4,zK [1,6,7,8,16] [1]),(5,zK [2] []),(6,zK [1,6,7,8] [1]),(7,zK [2] [])],
 [(2,zK [1,6,7,8] [1])],
 [(5,zK [1,6,7,8,16] [1])],
 [],[]⟩
abbrev R32:=Bool
abbrev e32 (r:R32):List PA:=[.one (.bool r)]
@[irreducible] def z32:=ptF Try.prog G32 zDv Try.f32
def zEy (n:Net) (zaJ:Int):St:=⟨[(1,zp 1 0),(6,zS zdn 4 n.Ties),(7,zI (n.Ties.len:Int)),(8,zI zaJ)],[(1,.box 58 (zm (zhX n)))],[]⟩
abbrev zGn (K:List PA->Prop) (n:Net) (X:St->Prop) (P:Int->Bool) (S:Int->Bool):Prop:=∀ ⦃zaJ:Int⦄,P zaJ=true->K (e32 (S zaJ))->X (zEy n zaJ)
section
variable {K:List PA->Prop}{n:Net}{zaJ:Int}{X0:St->Prop}{P0:Int->Bool}{S0:Int->Bool}{zd3:Int}{zdi:Bool}
def zxx (S0:Int->Bool) (n:Net) (zd3:Int) (zdi:Bool):Bool :=
  (cond zdi
 false
 (S0 (w64 (zd3+(1:Int)))))
def zxy (P0:Int->Bool) (n:Net) (zd3:Int) (zdi:Bool):Bool :=
  (cond zdi
 true
 (P0 (w64 (zd3+(1:Int)))))
theorem zGo (hX0:zGn K n X0 P0 S0) (hs:zxy P0 n zd3 zdi=true) (hk:K (e32 (zxx S0 n zd3 zdi))):z32 K [1,0,1,0,0,1,1,0,0,1,1] [X0] ⟨[(1,zp 1 0),(6,zS zdn 4 n.Ties),(7,zI (n.Ties.len:Int)),(8,zI zd3),(16,zB zdi)],[(1,.box 58 (zm (zhX n)))],[]⟩:=zaI (by kernel_rfl) (zc hs hk (λ hs hk=>hk) (λ hs hk=>(hX0 hs hk)))
def zxz (n:Net) (S0:Int->Bool) (zaJ:Int):Bool :=
  (cond (decide (zaJ < (n.Ties.len : Int)))
 (zxx S0 n zaJ (!(s48 (n.Ties.get zaJ.toNat) n.Nodes)))
 (cond (s31 n.Nodes (1:Int) (40:Int))
 (decide ((n.Ties.len:Int)<=(200:Int)))
 false))
def zxA (n:Net) (P0:Int->Bool) (zaJ:Int):Bool :=
  (cond (decide (zaJ < (n.Ties.len : Int)))
 (decide ((0<=zaJ/\zaJ < (n.Ties.len:Int))) &&
 (zxy P0 n zaJ (!(s48 (n.Ties.get zaJ.toNat) n.Nodes))))
 true)
def zxB (n:Net):Nat->Int->Bool:=lpO (λ _=>default) (zxz n)
def zxC (n:Net):Nat->Int->Bool:=lpO (λ _=>false) (zxA n)
def zxD (n:Net) (zaJ:Int):Bool:=zxB n Fuel zaJ
def zxE (n:Net) (zaJ:Int):Bool:=zxC n Fuel zaJ
theorem zGp (hs:zxE n zaJ=true) (hk:K (e32 (zxD n zaJ))):z32 K [1,0,1,0] [] (zEy n zaJ) :=
  zl (λ X=>z32 K [1,0,1,0,0] [X]) (by kernel_rfl) λ X0 hX =>
  (show ∀ k, zGn K n X0 (zxC n k) (zxB n k) from zg4 _ _ (zxA n) (zxz n) (zGn K n X0)
 (by intro _ hs;exact absurd hs dqk)
 (by intro P0 S0 hX0 zaJ hs hk;exact hX _ (zaI (by kernel_rfl) (zc hs hk (λ hs hk=>(zaS hs λ hc hs=>And.intro hc (zGo hX0 hs hk))) (λ hs hk=>(zt hk (λ hk=>hk) (λ hk=>hk))))))) _ hs hk
def s32 (n:Net):Bool :=
  (zxD n (0:Int))
def p32 (n:Net):Bool :=
  (zxE n (0:Int))
end
theorem q32 (n:Net) (K:List PA->Prop) (hs:p32 n=true) (hk:K (e32 (s32 n))):vcFun Try.prog G32 zDv 32 [.agg (zhX n)] K :=
  zaI (by kernel_rfl) (zGp hs hk)
def zGq : List PA → COut
  | [.agg [.int .i64 zdq,.sl zes zh0 zet]]=>.det (IsE zdn 4 zh0 zet/\p32 (⟨zdq,(⟨zes,ziR zet⟩:(Sl Tie))⟩:Net)=true) [.one (.bool (s32 (⟨zdq,(⟨zes,ziR zet⟩:(Sl Tie))⟩:Net)))]
  | [.agg [.int .i64 zdq,.nils]]=>.det (p32 (⟨zdq,(⟨0,λ _=>default⟩:(Sl Tie))⟩:Net)=true) [.one (.bool (s32 (⟨zdq,(⟨0,λ _=>default⟩:(Sl Tie))⟩:Net)))]
  | _=>.no
theorem zLe:zal Try.prog 32:=⟨_,rfl,rfl,by kernel_rfl⟩
theorem ok32:Ok Try.prog 32 zGq:=zhW zOv zLe λ args K h=>by
  unfold zGq at h
  split at h
  · rename_i zdq zes zh0 zet
    obtain⟨⟨⟨rfl,zfM,rfl⟩,hs⟩,hk⟩:=h
    try rw[zeP zfM] at hs
    try rw[zeP zfM] at hk
    exact⟨_,zhV zj5 _,(λ _ _=>[]),(λ _=>false),zDv,q32 (⟨zdq,(⟨zes,zfM⟩:(Sl Tie))⟩:Net) (Wk K) hs (zeq hk)⟩
  · rename_i zdq
    obtain⟨hs,hk⟩:=h
    exact⟨_,(zfj (.agg (zfj (.rfl _) (zfj (.nil _ _) zlt))) zlt),(λ _ _=>[]),(λ _=>false),zDv,q32 (⟨zdq,(⟨0,λ _=>default⟩:(Sl Tie))⟩:Net) (Wk K) hs (zeq hk)⟩
  · exact h.elim
abbrev T15:Tabs:=((Tabs.nil.addF 31 zxu).addF 32 zGq)
theorem zOw:TabsOk Try.prog T15:=((TabsOk.nil.addF zOt).addF ok32)
abbrev G15:Ctrs:=csm T15 (λ _ _=>[]) (λ _=>false)
def zGr:Ann:=⟨99,[(0,zK [0,1,4] [4]),(1,zK [0,1,4,12] [4]),(2,zK [4,5] [4]),(3,zK [1,4,6] [4,6]),(4,zK [4,6,16,17,18] [4,6]),(5,zK [4,6,16,17,18,19] [4,6,91]),(6,zK [4,6,8,16,17,18] [4,6,8,91]),(7,zK [4,6,8,16,17,18,60] [4,6,8,91]),(8,zK [4,5] [4]),(9,zK [4,6,8,9,16,17,18] [4,6,8,91]),(10,zK [4,6,16,17,18] [4,6,91]),(11,zK [4,6,16,17,18] [4,6,91]),(12,zK [4,6,96] [4,6,91]),(13,zK [4,5] [4]),(14,zK [4,5] [4,91])],
 [(5,⟨[4,6,16,17,18],[4,6,91],[],[(6,1,91,75,λ _=>zdn default)],[],[],[]⟩)],
 [(3,zK [0,1,4] [4]),(8,zK [4,6,8,16,17,18,60] [4,6,8,91]),(13,zK [4,6,96] [4,6,91]),(9,zK [4,6,8,16,17,18] [4,6,8,91])],
 [],[]⟩
abbrev R15:=(Net×Int)
abbrev e15 (r:R15):List PA:=[.agg [.int .i64 r.1.Nodes,.sl r.1.Ties.len 4 (λ i=>zdn (r.1.Ties.get i))],.one (.int .i64 r.2)]
@[irreducible] def z15:=ptF Try.prog G15 zGr Try.f15
def zEz (nodes:Int) (pulses:(Sl Pulse)) (zaL:Int) (zdI:(Sl Tie)) (zh1:Nat->List PV):St:=⟨[(4,zp 4 0),(6,zp 6 0),(16,zS zhY 7 pulses),(17,zI (pulses.len:Int)),(18,zI zaL)],[(4,.box 58 [zi (0:Int),.p (.nils)]),(6,.box 58 [zi nodes,.vec 91]),(91,.vec 75 4 32 zdI.len zh1)],[]⟩
abbrev zDw (K:List PA->Prop) (nodes:Int) (pulses:(Sl Pulse)) (X:St->Prop) (P:Int->(Sl Tie)->Bool) (S:Int->(Sl Tie)->(Net×Int)):Prop:=∀ ⦃zaL:Int⦄ ⦃zdI:(Sl Tie)⦄ ⦃zh1:Nat->List PV⦄,P zaL zdI=true->K (e15 (S zaL zdI))->zh1=zg zdn zdI->X (zEz nodes pulses zaL zdI zh1)
section
variable {K:List PA->Prop}{nodes:Int}{pulses:(Sl Pulse)}{zaL:Int}{zdI:(Sl Tie)}{zh1:Nat->List PV}{X1:St->Prop}{P1:Int->(Sl Tie)->Bool}{S1:Int->(Sl Tie)->(Net×Int)}{zrV:Int}{zrW:Bool}{zbu:Int}{zbC:Int}{zbD:Int}{zbE:Int}{zbF:Int}{zbG:Int}{zbH:Int}{zqA:(Sl Tie)}{zxF:Nat->List PV}{zDx:Bool}{zrX:(Sl Tie)}{zxG:Nat->List PV}{zh2:Int}{zqB:Int}{zqC:Int}{zmM:Int}{zmN:Int}{zqD:Int}{zqE:Int}{zmO:Int}{ziS:(Sl Tie)}{zxH:Nat->List PV}
def zxI (S1:Int->(Sl Tie)->(Net×Int)) (nodes:Int) (pulses:(Sl Pulse)) (zh2:Int) (zqB:Int) (zqC:Int) (zmM:Int) (zmN:Int) (zqD:Int) (zqE:Int) (zmO:Int) (ziS:(Sl Tie)):(Net×Int) :=
  (S1 (w64 (zh2+(1:Int))) (⟨(ziS.len+1),(zo8 ziS.len ziS.get (λ _=>(⟨zqB,zqC,(w64 ((w64 ((w64 (zmN - zmM)) - zqE)) - zmO)),(w64 ((w64 ((w64 (zmN - zmM)) - zqD))+zmO))⟩:Tie)))⟩:Sl Tie))
def zxJ (P1:Int->(Sl Tie)->Bool) (nodes:Int) (pulses:(Sl Pulse)) (zh2:Int) (zqB:Int) (zqC:Int) (zmM:Int) (zmN:Int) (zqD:Int) (zqE:Int) (zmO:Int) (ziS:(Sl Tie)):Bool :=
  (decide (((ziS.len+1) * 32<=140737488355328/\ziS.len+1<=9223372036854775807)) &&
 (P1 (w64 (zh2+(1:Int))) (⟨(ziS.len+1),(zo8 ziS.len ziS.get (λ _=>(⟨zqB,zqC,(w64 ((w64 ((w64 (zmN - zmM)) - zqE)) - zmO)),(w64 ((w64 ((w64 (zmN - zmM)) - zqD))+zmO))⟩:Tie)))⟩:Sl Tie)))
theorem zGs (hX1:zDw K nodes pulses X1 P1 S1) (hs:zxJ P1 nodes pulses zh2 zqB zqC zmM zmN zqD zqE zmO ziS=true) (hk:K (e15 (zxI S1 nodes pulses zh2 zqB zqC zmM zmN zqD zqE zmO ziS))) (zGt:zxH=zg zdn ziS):z15 (Wk K) [1,1,1,0,1,0,0,1,1,0,0,1,1] [X1] ⟨[(4,zp 4 0),(6,zp 6 0),(8,zp 8 0),(16,zS zhY 7 pulses),(17,zI (pulses.len:Int)),(18,zI zh2)],[(4,.box 58 [zi (0:Int),.p (.nils)]),(6,.box 58 [zi nodes,.vec 91]),(8,.box 62 (zm (zhY (⟨zqB,zqC,zmM,zmN,(⟨zqD,zqE⟩:Span),zmO⟩:Pulse)))),(91,.vec 75 4 32 ziS.len zxH)],[]⟩:=by subst zGt;exact zaI (by kernel_rfl) (zaS hs λ hc hs=>And.intro hc (hX1 hs hk (zn3 (enc:=zdn) (f:=ziS.get) (h:=(λ _=>(⟨zqB,zqC,(w64 ((w64 ((w64 (zmN - zmM)) - zqE)) - zmO)),(w64 ((w64 ((w64 (zmN - zmM)) - zqD))+zmO))⟩:Tie))) rfl rfl)))
def zxK (nodes:Int) (zDx:Bool) (zrX:(Sl Tie)):(Net×Int) :=
  (cond zDx
 ((⟨(0:Int),(⟨0,λ _=>default⟩:(Sl Tie))⟩:Net),(2:Int))
 ((⟨nodes,zrX⟩:Net),(0:Int)))
theorem zGu (hk:K (e15 (zxK nodes zDx zrX))) (zGv:zxG=zg zdn zrX):z15 (Wk K) [1,1,1,1,0,1] [] ⟨[(4,zp 4 0),(6,zp 6 0),(96,zB zDx)],[(4,.box 58 [zi (0:Int),.p (.nils)]),(6,.box 58 [zi nodes,.vec 91]),(91,.vec 75 4 32 zrX.len zxG)],[]⟩:=by subst zGv;exact zaI (by kernel_rfl) (zt hk (λ hk=>((wk hk (zfj (.agg (zfj (.rfl _) (zfj (.nil _ _) zlt))) (zfj (.one (.rfl _)) zlt))):Wk K [.agg [.int .i64 (0:Int),.nils],.one (.int .i64 (2:Int))])) (λ hk=>((zeq hk):Wk K [.agg [.int .i64 nodes,.sl zrX.len 4 (λ i=>zdn (zrX.get i))],.one (.int .i64 (0:Int))])))
def ziT (S1:Int->(Sl Tie)->(Net×Int)) (nodes:Int) (pulses:(Sl Pulse)) (zrV:Int) (zrW:Bool) (zbu:Int) (zbC:Int) (zbD:Int) (zbE:Int) (zbF:Int) (zbG:Int) (zbH:Int) (zqA:(Sl Tie)):(Net×Int) :=
  (cond zrW
 ((⟨(0:Int),(⟨0,λ _=>default⟩:(Sl Tie))⟩:Net),(2:Int))
 (zxI S1 nodes pulses zrV zbu zbC zbD zbE zbF zbG zbH zqA))
def ziU (P1:Int->(Sl Tie)->Bool) (nodes:Int) (pulses:(Sl Pulse)) (zrV:Int) (zrW:Bool) (zbu:Int) (zbC:Int) (zbD:Int) (zbE:Int) (zbF:Int) (zbG:Int) (zbH:Int) (zqA:(Sl Tie)):Bool :=
  (cond zrW
 true
 (zxJ P1 nodes pulses zrV zbu zbC zbD zbE zbF zbG zbH zqA))
theorem zkH (hX1:zDw K nodes pulses X1 P1 S1) (hs:ziU P1 nodes pulses zrV zrW zbu zbC zbD zbE zbF zbG zbH zqA=true) (hk:K (e15 (ziT S1 nodes pulses zrV zrW zbu zbC zbD zbE zbF zbG zbH zqA))) (zGw:zxF=zg zdn zqA):z15 (Wk K) [1,1,1,0,1,0,0,1,1,0,0,1,0,1] [X1] ⟨[(4,zp 4 0),(6,zp 6 0),(8,zp 8 0),(16,zS zhY 7 pulses),(17,zI (pulses.len:Int)),(18,zI zrV),(60,zB zrW)],[(4,.box 58 [zi (0:Int),.p (.nils)]),(6,.box 58 [zi nodes,.vec 91]),(8,.box 62 (zm (zhY (⟨zbu,zbC,zbD,zbE,(⟨zbF,zbG⟩:Span),zbH⟩:Pulse)))),(91,.vec 75 4 32 zqA.len zxF)],[]⟩:=by subst zGw;exact zaI (by kernel_rfl) (zc hs hk (λ hs hk=>((wk hk (zfj (.agg (zfj (.rfl _) (zfj (.nil _ _) zlt))) (zfj (.one (.rfl _)) zlt))):Wk K [.agg [.int .i64 (0:Int),.nils],.one (.int .i64 (2:Int))])) (λ hs hk=>(zGs hX1 hs hk rfl)))
def zxL (nodes:Int) (pulses:(Sl Pulse)) (S1:Int->(Sl Tie)->(Net×Int)) (zaL:Int) (zdI:(Sl Tie)):(Net×Int) :=
  (cond (decide (zaL < (pulses.len : Int)))
 (cond ((pulses.get zaL.toNat).A == (pulses.get zaL.toNat).B)
 (ziT S1 nodes pulses zaL true ((pulses.get zaL.toNat).A) ((pulses.get zaL.toNat).B) ((pulses.get zaL.toNat).TimeA) ((pulses.get zaL.toNat).TimeB) ((pulses.get zaL.toNat).Flight.Low) ((pulses.get zaL.toNat).Flight.High) ((pulses.get zaL.toNat).Jitter) zdI)
 (cond (!(s31 ((pulses.get zaL.toNat).TimeA) (-100000000:Int) (100000000:Int)))
 (ziT S1 nodes pulses zaL true ((pulses.get zaL.toNat).A) ((pulses.get zaL.toNat).B) ((pulses.get zaL.toNat).TimeA) ((pulses.get zaL.toNat).TimeB) ((pulses.get zaL.toNat).Flight.Low) ((pulses.get zaL.toNat).Flight.High) ((pulses.get zaL.toNat).Jitter) zdI)
 (cond (!(s31 ((pulses.get zaL.toNat).TimeB) (-100000000:Int) (100000000:Int)))
 (ziT S1 nodes pulses zaL true ((pulses.get zaL.toNat).A) ((pulses.get zaL.toNat).B) ((pulses.get zaL.toNat).TimeA) ((pulses.get zaL.toNat).TimeB) ((pulses.get zaL.toNat).Flight.Low) ((pulses.get zaL.toNat).Flight.High) ((pulses.get zaL.toNat).Jitter) zdI)
 (cond (!(s31 ((pulses.get zaL.toNat).Flight.Low) (0:Int) ((pulses.get zaL.toNat).Flight.High)))
 (ziT S1 nodes pulses zaL true ((pulses.get zaL.toNat).A) ((pulses.get zaL.toNat).B) ((pulses.get zaL.toNat).TimeA) ((pulses.get zaL.toNat).TimeB) ((pulses.get zaL.toNat).Flight.Low) ((pulses.get zaL.toNat).Flight.High) ((pulses.get zaL.toNat).Jitter) zdI)
 (cond (decide ((pulses.get zaL.toNat).Flight.High > (100000000:Int)))
 (ziT S1 nodes pulses zaL true ((pulses.get zaL.toNat).A) ((pulses.get zaL.toNat).B) ((pulses.get zaL.toNat).TimeA) ((pulses.get zaL.toNat).TimeB) ((pulses.get zaL.toNat).Flight.Low) ((pulses.get zaL.toNat).Flight.High) ((pulses.get zaL.toNat).Jitter) zdI)
 (ziT S1 nodes pulses zaL (!(s31 ((pulses.get zaL.toNat).Jitter) (0:Int) (100000000:Int))) ((pulses.get zaL.toNat).A) ((pulses.get zaL.toNat).B) ((pulses.get zaL.toNat).TimeA) ((pulses.get zaL.toNat).TimeB) ((pulses.get zaL.toNat).Flight.Low) ((pulses.get zaL.toNat).Flight.High) ((pulses.get zaL.toNat).Jitter) zdI))))))
 (zxK nodes (!(s32 (⟨nodes,zdI⟩:Net))) zdI))
def zxM (nodes:Int) (pulses:(Sl Pulse)) (P1:Int->(Sl Tie)->Bool) (zaL:Int) (zdI:(Sl Tie)):Bool :=
  (cond (decide (zaL < (pulses.len : Int)))
 (decide ((0<=zaL/\zaL < (pulses.len:Int))) &&
 (cond ((pulses.get zaL.toNat).A == (pulses.get zaL.toNat).B)
 (ziU P1 nodes pulses zaL true ((pulses.get zaL.toNat).A) ((pulses.get zaL.toNat).B) ((pulses.get zaL.toNat).TimeA) ((pulses.get zaL.toNat).TimeB) ((pulses.get zaL.toNat).Flight.Low) ((pulses.get zaL.toNat).Flight.High) ((pulses.get zaL.toNat).Jitter) zdI)
 (cond (!(s31 ((pulses.get zaL.toNat).TimeA) (-100000000:Int) (100000000:Int)))
 (ziU P1 nodes pulses zaL true ((pulses.get zaL.toNat).A) ((pulses.get zaL.toNat).B) ((pulses.get zaL.toNat).TimeA) ((pulses.get zaL.toNat).TimeB) ((pulses.get zaL.toNat).Flight.Low) ((pulses.get zaL.toNat).Flight.High) ((pulses.get zaL.toNat).Jitter) zdI)
 (cond (!(s31 ((pulses.get zaL.toNat).TimeB) (-100000000:Int) (100000000:Int)))
 (ziU P1 nodes pulses zaL true ((pulses.get zaL.toNat).A) ((pulses.get zaL.toNat).B) ((pulses.get zaL.toNat).TimeA) ((pulses.get zaL.toNat).TimeB) ((pulses.get zaL.toNat).Flight.Low) ((pulses.get zaL.toNat).Flight.High) ((pulses.get zaL.toNat).Jitter) zdI)
 (cond (!(s31 ((pulses.get zaL.toNat).Flight.Low) (0:Int) ((pulses.get zaL.toNat).Flight.High)))
 (ziU P1 nodes pulses zaL true ((pulses.get zaL.toNat).A) ((pulses.get zaL.toNat).B) ((pulses.get zaL.toNat).TimeA) ((pulses.get zaL.toNat).TimeB) ((pulses.get zaL.toNat).Flight.Low) ((pulses.get zaL.toNat).Flight.High) ((pulses.get zaL.toNat).Jitter) zdI)
 (cond (decide ((pulses.get zaL.toNat).Flight.High > (100000000:Int)))
 (ziU P1 nodes pulses zaL true ((pulses.get zaL.toNat).A) ((pulses.get zaL.toNat).B) ((pulses.get zaL.toNat).TimeA) ((pulses.get zaL.toNat).TimeB) ((pulses.get zaL.toNat).Flight.Low) ((pulses.get zaL.toNat).Flight.High) ((pulses.get zaL.toNat).Jitter) zdI)
 (ziU P1 nodes pulses zaL (!(s31 ((pulses.get zaL.toNat).Jitter) (0:Int) (100000000:Int))) ((pulses.get zaL.toNat).A) ((pulses.get zaL.toNat).B) ((pulses.get zaL.toNat).TimeA) ((pulses.get zaL.toNat).TimeB) ((pulses.get zaL.toNat).Flight.Low) ((pulses.get zaL.toNat).Flight.High) ((pulses.get zaL.toNat).Jitter) zdI)))))))
 (decide ((p32 (⟨nodes,zdI⟩:Net)=true)) &&
 true))
def zxN (nodes:Int) (pulses:(Sl Pulse)):Nat->Int->(Sl Tie)->(Net×Int):=lpO (λ _ _=>default) (zxL nodes pulses)
def zxO (nodes:Int) (pulses:(Sl Pulse)):Nat->Int->(Sl Tie)->Bool:=lpO (λ _ _=>false) (zxM nodes pulses)
def zxP (nodes:Int) (pulses:(Sl Pulse)) (zaL:Int) (zdI:(Sl Tie)):(Net×Int):=zxN nodes pulses Fuel zaL zdI
def zxQ (nodes:Int) (pulses:(Sl Pulse)) (zaL:Int) (zdI:(Sl Tie)):Bool:=zxO nodes pulses Fuel zaL zdI
theorem zGx (hs:zxQ nodes pulses zaL zdI=true) (hk:K (e15 (zxP nodes pulses zaL zdI))) (zrY:zh1=zg zdn zdI):z15 (Wk K) [1,1,1,0,1,0] [] (zEz nodes pulses zaL zdI zh1) :=
  zl (λ X=>z15 (Wk K) [1,1,1,0,1,0,0] [X]) (by kernel_rfl) λ X1 hX =>
  (show ∀ k, zDw K nodes pulses X1 (zxO nodes pulses k) (zxN nodes pulses k) from zg4 _ _ (zxM nodes pulses) (zxL nodes pulses) (zDw K nodes pulses X1)
 (by intro _ _ _ hs;exact absurd hs dqk)
 (by intro P1 S1 hX1 zaL zdI zh1 hs hk zrY;subst zrY;exact hX _ (zaI (by kernel_rfl) (zc hs hk (λ hs hk=>(zaS hs λ hc hs=>And.intro hc (zc hs hk (λ hs hk=>(zkH hX1 hs hk rfl)) (λ hs hk=>(zc hs hk (λ hs hk=>(zkH hX1 hs hk rfl)) (λ hs hk=>(zc hs hk (λ hs hk=>(zkH hX1 hs hk rfl)) (λ hs hk=>(zc hs hk (λ hs hk=>(zkH hX1 hs hk rfl)) (λ hs hk=>(zc hs hk (λ hs hk=>(zkH hX1 hs hk rfl)) (λ hs hk=>(zkH hX1 hs hk rfl))))))))))))) (λ hs hk=>(zaS hs λ hc hs=>And.intro (And.intro (zE zdn 4 zdI.get) hc) (zGu hk rfl))))))) _ hs hk zrY
def zxR (nodes:Int) (pulses:(Sl Pulse)):(Net×Int) :=
  (zxP nodes pulses (0:Int) (⟨0,(λ _=>default)⟩:Sl Tie))
def zxS (nodes:Int) (pulses:(Sl Pulse)):Bool :=
  (zxQ nodes pulses (0:Int) (⟨0,(λ _=>default)⟩:Sl Tie))
theorem zGy (hs:zxS nodes pulses=true) (hk:K (e15 (zxR nodes pulses))):z15 (Wk K) [1,1] [] ⟨[(0,zI nodes),(1,zS zhY 7 pulses),(4,zp 4 0)],[(4,.box 58 [zi (0:Int),.p (.nils)])],[]⟩:=zaI (by kernel_rfl) (zGx hs hk rfl)
def s15 (nodes:Int) (pulses:(Sl Pulse)):(Net×Int) :=
  (cond (decide ((pulses.len : Int) > (200:Int)))
 ((⟨(0:Int),(⟨0,λ _=>default⟩:(Sl Tie))⟩:Net),(3:Int))
 (zxR nodes pulses))
def p15 (nodes:Int) (pulses:(Sl Pulse)):Bool :=
  (cond (decide ((pulses.len : Int) > (200:Int)))
 true
 (zxS nodes pulses))
end
theorem q15 (nodes:Int) (pulses:(Sl Pulse)) (K:List PA->Prop) (hs:p15 nodes pulses=true) (hk:K (e15 (s15 nodes pulses))):vcFun Try.prog G15 zGr 15 [.one (.int .i64 nodes),.one (.sl pulses.len 7 (λ i=>zhY (pulses.get i)))] (Wk K) :=
  zaI (by kernel_rfl) (zc hs hk (λ hs hk=>((wk hk (zfj (.agg (zfj (.rfl _) (zfj (.nil _ _) zlt))) (zfj (.one (.rfl _)) zlt))):Wk K [.agg [.int .i64 (0:Int),.nils],.one (.int .i64 (3:Int))])) (λ hs hk=>(zGy hs hk)))
def zGz : List PA → COut
  | [.one (.int .i64 a0),.one (.sl zkr zxT zkI)]=>.det (IsE zhY 7 zxT zkI/\p15 a0 (⟨zkr,zkG zkI⟩:(Sl Pulse))=true) [.agg [.int .i64 (((s15 a0 (⟨zkr,zkG zkI⟩:(Sl Pulse))).1).Nodes),.sl (((s15 a0 (⟨zkr,zkG zkI⟩:(Sl Pulse))).1).Ties.len) 4 (λ i=>zdn (((s15 a0 (⟨zkr,zkG zkI⟩:(Sl Pulse))).1).Ties.get i))],.one (.int .i64 ((s15 a0 (⟨zkr,zkG zkI⟩:(Sl Pulse))).2))]
  | _=>.no
theorem zLf:zal Try.prog 15:=⟨_,rfl,rfl,by kernel_rfl⟩
theorem zQT:Ok Try.prog 15 zGz:=zhW zOw zLf λ args K h=>by
  unfold zGz at h
  split at h
  · rename_i a0 zkr zxT zkI
    obtain⟨⟨⟨rfl,zq4,rfl⟩,hs⟩,hk⟩:=h
    try rw[zmL zq4] at hs
    try rw[zmL zq4] at hk
    exact⟨_,zhV zj5 _,(λ _ _=>[]),(λ _=>false),zGr,q15 a0 (⟨zkr,zq4⟩:(Sl Pulse)) K hs hk⟩
  · exact h.elim
abbrev T67:Tabs:=Tabs.nil
theorem zOx:TabsOk Try.prog T67:=TabsOk.nil
abbrev G67:Ctrs:=csm T67 (λ _ _=>[]) (λ _=>false)
def zLg:Ann:=⟨9,[(0,zK [1,2] [2]),(1,zK [3] [])],
 [],
 [],
 [],[]⟩
abbrev R67:=Bool
abbrev e67 (r:R67):List PA:=[.one (.bool r)]
section
variable {K:List PA->Prop}{c0:Span}{r_a0:FluxRow}
def s67 (c0:Span) (r_a0:FluxRow):Bool :=
  (decide (r_a0.Energy > c0.Low))
end
theorem q67 (c0:Span) (r_a0:FluxRow) (K:List PA->Prop) (hk:K (e67 (s67 c0 r_a0))):vcFun Try.prog G67 zLg 67 [.agg (zbZ r_a0),.one (.fp (zcb c0) 0)] K :=
  zaI (by kernel_rfl) hk
def zGA : List PA → COut
  | [.agg [.int .i64 zaZ,.int .i64 zbV,.int .i64 zby],.one (.fp [.int .i64 c0_Low,.int .i64 c0_High] 0)]=>.tot [.one (.bool (s67 (⟨c0_Low,c0_High⟩:Span) (⟨zaZ,(⟨zbV,zby⟩:Span)⟩:FluxRow)))]
  | _=>.no
theorem zLh:zal Try.prog 67:=⟨_,rfl,rfl,by kernel_rfl⟩
theorem zQU:Ok Try.prog 67 zGA:=za5 zOx zLh λ args K h=>by
  unfold zGA at h
  split at h
  · rename_i zaZ zbV zby c0_Low c0_High
    have hk:=h
    exact⟨(λ _ _=>[]),(λ _=>false),zLg,q67 (⟨c0_Low,c0_High⟩:Span) (⟨zaZ,(⟨zbV,zby⟩:Span)⟩:FluxRow) K hk⟩
  · exact h.elim
abbrev T68:Tabs:=Tabs.nil
theorem zOy:TabsOk Try.prog T68:=TabsOk.nil
abbrev G68:Ctrs:=csm T68 (λ _ _=>[]) (λ _=>false)
def zLi:Ann:=⟨9,[(0,zK [1,2] [2]),(1,zK [3] [])],
 [],
 [],
 [],[]⟩
abbrev R68:=Bool
abbrev e68 (r:R68):List PA:=[.one (.bool r)]
section
variable {K:List PA->Prop}{c0:Span}{r_a0:FluxRow}
def s68 (c0:Span) (r_a0:FluxRow):Bool :=
  (decide (r_a0.Energy >= c0.High))
end
theorem q68 (c0:Span) (r_a0:FluxRow) (K:List PA->Prop) (hk:K (e68 (s68 c0 r_a0))):vcFun Try.prog G68 zLi 68 [.agg (zbZ r_a0),.one (.fp (zcb c0) 0)] K :=
  zaI (by kernel_rfl) hk
def zGB : List PA → COut
  | [.agg [.int .i64 zaZ,.int .i64 zbV,.int .i64 zby],.one (.fp [.int .i64 c0_Low,.int .i64 c0_High] 0)]=>.tot [.one (.bool (s68 (⟨c0_Low,c0_High⟩:Span) (⟨zaZ,(⟨zbV,zby⟩:Span)⟩:FluxRow)))]
  | _=>.no
theorem zLj:zal Try.prog 68:=⟨_,rfl,rfl,by kernel_rfl⟩
theorem zQV:Ok Try.prog 68 zGB:=za5 zOy zLj λ args K h=>by
  unfold zGB at h
  split at h
  · rename_i zaZ zbV zby c0_Low c0_High
    have hk:=h
    exact⟨(λ _ _=>[]),(λ _=>false),zLi,q68 (⟨c0_Low,c0_High⟩:Span) (⟨zaZ,(⟨zbV,zby⟩:Span)⟩:FluxRow) K hk⟩
  · exact h.elim
abbrev T77:Tabs:=((Tabs.nil.addF 67 zGA).addF 68 zGB)
theorem zOz:TabsOk Try.prog T77:=((TabsOk.nil.addF zQU).addF zQV)
abbrev G77:Ctrs:=csm T77 (λ _ _=>[]) (λ _=>false)
def zGC:Ann:=⟨19,[(0,zK [0,1] []),(1,zK [0,1,7,8] []),(2,zK [0,1,7,8,9] []),(3,zK [0,1,5,7,8] []),(4,zK [0,1,5,7,8,16] []),(5,zK [4] []),(6,zK [0,1,7,8] []),(7,zK [4] [])],
 [(2,zK [0,1,7,8] [])],
 [(5,zK [0,1,5,7,8,16] [])],
 [],[]⟩
abbrev R77:=Int
abbrev e77 (r:R77):List PA:=[.one (.int .i64 r)]
@[irreducible] def z77:=ptF Try.prog G77 zGC Try.f77
def zEA (c0:Span) (sv0:(Sl FluxRow)) (zbp:Int) (zaJ:Int) (zci:Nat->List PV):St:=⟨[(0,zP (.sl sv0.len 3 zci)),(1,zP (.fn 67 [] [.fp (zcb c0) 0])),(7,zI zbp),(8,zI zaJ)],[],[]⟩
abbrev zGD (K:List PA->Prop) (c0:Span) (X:St->Prop) (P:(Sl FluxRow)->Int->Int->Bool) (S:(Sl FluxRow)->Int->Int->Int):Prop:=∀ ⦃sv0:(Sl FluxRow)⦄ ⦃zbp:Int⦄ ⦃zaJ:Int⦄ ⦃zci:Nat->List PV⦄,P sv0 zbp zaJ=true->K (e77 (S sv0 zbp zaJ))->zci=zg zbZ sv0->X (zEA c0 sv0 zbp zaJ zci)
section
variable {K:List PA->Prop}{c0:Span}{s:(Sl FluxRow)}{sv0:(Sl FluxRow)}{zbp:Int}{zaJ:Int}{zci:Nat->List PV}{X0:St->Prop}{P0:(Sl FluxRow)->Int->Int->Bool}{S0:(Sl FluxRow)->Int->Int->Int}{sv1:(Sl FluxRow)}{iv1:Int}{zeG:Int}{zd3:Int}{zdi:Bool}{zfN:Nat->List PV}
def zxU (S0:(Sl FluxRow)->Int->Int->Int) (c0:Span) (sv1:(Sl FluxRow)) (iv1:Int) (zeG:Int) (zd3:Int) (zdi:Bool):Int :=
  (cond zdi
 iv1
 (S0 sv1 zeG (w64 (zd3+(1:Int)))))
def zxV (P0:(Sl FluxRow)->Int->Int->Bool) (c0:Span) (sv1:(Sl FluxRow)) (iv1:Int) (zeG:Int) (zd3:Int) (zdi:Bool):Bool :=
  (cond zdi
 true
 (P0 sv1 zeG (w64 (zd3+(1:Int)))))
theorem zGE (hX0:zGD K c0 X0 P0 S0) (hs:zxV P0 c0 sv1 iv1 zeG zd3 zdi=true) (hk:K (e77 (zxU S0 c0 sv1 iv1 zeG zd3 zdi))) (ziV:zfN=zg zbZ sv1):z77 K [1,0,1,0,0,1,1,0,0,1,1] [X0] ⟨[(0,zP (.sl sv1.len 3 zfN)),(1,zP (.fn 67 [] [.fp (zcb c0) 0])),(5,zI iv1),(7,zI zeG),(8,zI zd3),(16,zB zdi)],[],[]⟩:=by subst ziV;exact zaI (by kernel_rfl) (zc hs hk (λ hs hk=>hk) (λ hs hk=>(hX0 hs hk rfl)))
def zxW (c0:Span) (S0:(Sl FluxRow)->Int->Int->Int) (sv0:(Sl FluxRow)) (zbp:Int) (zaJ:Int):Int :=
  (cond (decide (zaJ < zbp))
 (zxU S0 c0 sv0 zaJ zbp zaJ (s67 c0 (sv0.get zaJ.toNat)))
 (-1:Int))
def zxX (c0:Span) (P0:(Sl FluxRow)->Int->Int->Bool) (sv0:(Sl FluxRow)) (zbp:Int) (zaJ:Int):Bool :=
  (cond (decide (zaJ < zbp))
 (decide ((0<=zaJ/\zaJ < (sv0.len:Int))) &&
 (zxV P0 c0 sv0 zaJ zbp zaJ (s67 c0 (sv0.get zaJ.toNat))))
 true)
def zxY (c0:Span):Nat->(Sl FluxRow)->Int->Int->Int:=lpO (λ _ _ _=>default) (zxW c0)
def zxZ (c0:Span):Nat->(Sl FluxRow)->Int->Int->Bool:=lpO (λ _ _ _=>false) (zxX c0)
def zx0 (c0:Span) (sv0:(Sl FluxRow)) (zbp:Int) (zaJ:Int):Int:=zxY c0 Fuel sv0 zbp zaJ
def zx1 (c0:Span) (sv0:(Sl FluxRow)) (zbp:Int) (zaJ:Int):Bool:=zxZ c0 Fuel sv0 zbp zaJ
theorem zGF (hs:zx1 c0 sv0 zbp zaJ=true) (hk:K (e77 (zx0 c0 sv0 zbp zaJ))) (zeQ:zci=zg zbZ sv0):z77 K [1,0,1,0] [] (zEA c0 sv0 zbp zaJ zci) :=
  zl (λ X=>z77 K [1,0,1,0,0] [X]) (by kernel_rfl) λ X0 hX =>
  (show ∀ k, zGD K c0 X0 (zxZ c0 k) (zxY c0 k) from zg4 _ _ (zxX c0) (zxW c0) (zGD K c0 X0)
 (by intro _ _ _ _ hs;exact absurd hs dqk)
 (by intro P0 S0 hX0 sv0 zbp zaJ zci hs hk zeQ;subst zeQ;exact hX _ (zaI (by kernel_rfl) (zc hs hk (λ hs hk=>(zaS hs λ hc hs=>And.intro hc (zGE hX0 hs hk rfl))) (λ hs hk=>hk))))) _ hs hk zeQ
def s77 (c0:Span) (s:(Sl FluxRow)):Int :=
  (zx0 c0 s (s.len:Int) (0:Int))
def p77 (c0:Span) (s:(Sl FluxRow)):Bool :=
  (zx1 c0 s (s.len:Int) (0:Int))
end
theorem q77 (c0:Span) (s:(Sl FluxRow)) (K:List PA->Prop) (hs:p77 c0 s=true) (hk:K (e77 (s77 c0 s))):vcFun Try.prog G77 zGC 77 [.one (.sl s.len 3 (λ i=>zbZ (s.get i))),.one (.fn 67 [] [.fp (zcb c0) 0])] K :=
  zaI (by kernel_rfl) (zGF hs hk rfl)
abbrev zQl:Ctrs:=csm T77 (λ _ _=>[]) (λ _=>false)
def zx2:Ann:=⟨19,[(0,zK [0,1] []),(1,zK [0,1,7,8] []),(2,zK [0,1,7,8,9] []),(3,zK [0,1,5,7,8] []),(4,zK [0,1,5,7,8,16] []),(5,zK [4] []),(6,zK [0,1,7,8] []),(7,zK [4] [])],
 [(2,zK [0,1,7,8] [])],
 [(5,zK [0,1,5,7,8,16] [])],
 [],[]⟩
abbrev zQW:=Int
abbrev zNS (r:zQW):List PA:=[.one (.int .i64 r)]
@[irreducible] def z77a:=ptF Try.prog zQl zx2 Try.f77
def zx3 (c0:Span) (sv0:(Sl FluxRow)) (zbp:Int) (zaJ:Int) (zci:Nat->List PV):St:=⟨[(0,zP (.sl sv0.len 3 zci)),(1,zP (.fn 68 [] [.fp (zcb c0) 0])),(7,zI zbp),(8,zI zaJ)],[],[]⟩
abbrev zx4 (K:List PA->Prop) (c0:Span) (X:St->Prop) (P:(Sl FluxRow)->Int->Int->Bool) (S:(Sl FluxRow)->Int->Int->Int):Prop:=∀ ⦃sv0:(Sl FluxRow)⦄ ⦃zbp:Int⦄ ⦃zaJ:Int⦄ ⦃zci:Nat->List PV⦄,P sv0 zbp zaJ=true->K (zNS (S sv0 zbp zaJ))->zci=zg zbZ sv0->X (zx3 c0 sv0 zbp zaJ zci)
section
variable {K:List PA->Prop}{c0:Span}{s:(Sl FluxRow)}{sv0:(Sl FluxRow)}{zbp:Int}{zaJ:Int}{zci:Nat->List PV}{X0:St->Prop}{P0:(Sl FluxRow)->Int->Int->Bool}{S0:(Sl FluxRow)->Int->Int->Int}{sv1:(Sl FluxRow)}{iv1:Int}{zeG:Int}{zd3:Int}{zdi:Bool}{zfN:Nat->List PV}
def zug (S0:(Sl FluxRow)->Int->Int->Int) (c0:Span) (sv1:(Sl FluxRow)) (iv1:Int) (zeG:Int) (zd3:Int) (zdi:Bool):Int :=
  (cond zdi
 iv1
 (S0 sv1 zeG (w64 (zd3+(1:Int)))))
def zuh (P0:(Sl FluxRow)->Int->Int->Bool) (c0:Span) (sv1:(Sl FluxRow)) (iv1:Int) (zeG:Int) (zd3:Int) (zdi:Bool):Bool :=
  (cond zdi
 true
 (P0 sv1 zeG (w64 (zd3+(1:Int)))))
theorem zDy (hX0:zx4 K c0 X0 P0 S0) (hs:zuh P0 c0 sv1 iv1 zeG zd3 zdi=true) (hk:K (zNS (zug S0 c0 sv1 iv1 zeG zd3 zdi))) (ziV:zfN=zg zbZ sv1):z77a K [1,0,1,0,0,1,1,0,0,1,1] [X0] ⟨[(0,zP (.sl sv1.len 3 zfN)),(1,zP (.fn 68 [] [.fp (zcb c0) 0])),(5,zI iv1),(7,zI zeG),(8,zI zd3),(16,zB zdi)],[],[]⟩:=by subst ziV;exact zaI (by kernel_rfl) (zc hs hk (λ hs hk=>hk) (λ hs hk=>(hX0 hs hk rfl)))
def zui (c0:Span) (S0:(Sl FluxRow)->Int->Int->Int) (sv0:(Sl FluxRow)) (zbp:Int) (zaJ:Int):Int :=
  (cond (decide (zaJ < zbp))
 (zug S0 c0 sv0 zaJ zbp zaJ (s68 c0 (sv0.get zaJ.toNat)))
 (-1:Int))
def zuj (c0:Span) (P0:(Sl FluxRow)->Int->Int->Bool) (sv0:(Sl FluxRow)) (zbp:Int) (zaJ:Int):Bool :=
  (cond (decide (zaJ < zbp))
 (decide ((0<=zaJ/\zaJ < (sv0.len:Int))) &&
 (zuh P0 c0 sv0 zaJ zbp zaJ (s68 c0 (sv0.get zaJ.toNat))))
 true)
def zuk (c0:Span):Nat->(Sl FluxRow)->Int->Int->Int:=lpO (λ _ _ _=>default) (zui c0)
def zul (c0:Span):Nat->(Sl FluxRow)->Int->Int->Bool:=lpO (λ _ _ _=>false) (zuj c0)
def zum (c0:Span) (sv0:(Sl FluxRow)) (zbp:Int) (zaJ:Int):Int:=zuk c0 Fuel sv0 zbp zaJ
def zun (c0:Span) (sv0:(Sl FluxRow)) (zbp:Int) (zaJ:Int):Bool:=zul c0 Fuel sv0 zbp zaJ
theorem zDz (hs:zun c0 sv0 zbp zaJ=true) (hk:K (zNS (zum c0 sv0 zbp zaJ))) (zeQ:zci=zg zbZ sv0):z77a K [1,0,1,0] [] (zx3 c0 sv0 zbp zaJ zci) :=
  zl (λ X=>z77a K [1,0,1,0,0] [X]) (by kernel_rfl) λ X0 hX =>
  (show ∀ k, zx4 K c0 X0 (zul c0 k) (zuk c0 k) from zg4 _ _ (zuj c0) (zui c0) (zx4 K c0 X0)
 (by intro _ _ _ _ hs;exact absurd hs dqk)
 (by intro P0 S0 hX0 sv0 zbp zaJ zci hs hk zeQ;subst zeQ;exact hX _ (zaI (by kernel_rfl) (zc hs hk (λ hs hk=>(zaS hs λ hc hs=>And.intro hc (zDy hX0 hs hk rfl))) (λ hs hk=>hk))))) _ hs hk zeQ
def zNT (c0:Span) (s:(Sl FluxRow)):Int :=
  (zum c0 s (s.len:Int) (0:Int))
def zOA (c0:Span) (s:(Sl FluxRow)):Bool :=
  (zun c0 s (s.len:Int) (0:Int))
end
theorem zQX (c0:Span) (s:(Sl FluxRow)) (K:List PA->Prop) (hs:zOA c0 s=true) (hk:K (zNS (zNT c0 s))):vcFun Try.prog zQl zx2 77 [.one (.sl s.len 3 (λ i=>zbZ (s.get i))),.one (.fn 68 [] [.fp (zcb c0) 0])] K :=
  zaI (by kernel_rfl) (zDz hs hk rfl)
def zGG : List PA → COut
  | [.one (.sl zdd zfO zde),.one (.fn 67 [] [.fp [.int .i64 c0_Low,.int .i64 c0_High] 0])]=>.det (IsE zbZ 3 zfO zde/\p77 (⟨c0_Low,c0_High⟩:Span) (⟨zdd,zd2 zde⟩:(Sl FluxRow))=true) [.one (.int .i64 (s77 (⟨c0_Low,c0_High⟩:Span) (⟨zdd,zd2 zde⟩:(Sl FluxRow))))]
  | [.one (.sl zdd zfO zde),.one (.fn 68 [] [.fp [.int .i64 c0_Low,.int .i64 c0_High] 0])]=>.det (IsE zbZ 3 zfO zde/\zOA (⟨c0_Low,c0_High⟩:Span) (⟨zdd,zd2 zde⟩:(Sl FluxRow))=true) [.one (.int .i64 (zNT (⟨c0_Low,c0_High⟩:Span) (⟨zdd,zd2 zde⟩:(Sl FluxRow))))]
  | _=>.no
theorem zLk:zal Try.prog 77:=⟨_,rfl,rfl,by kernel_rfl⟩
theorem zQY:Ok Try.prog 77 zGG:=za5 zOz zLk λ args K h=>by
  unfold zGG at h
  split at h
  · rename_i zdd zfO zde c0_Low c0_High
    obtain⟨⟨⟨rfl,zd7,rfl⟩,hs⟩,hk⟩:=h
    try rw[zct zd7] at hs
    try rw[zct zd7] at hk
    exact⟨(λ _ _=>[]),(λ _=>false),zGC,q77 (⟨c0_Low,c0_High⟩:Span) (⟨zdd,zd7⟩:(Sl FluxRow)) K hs hk⟩
  · rename_i zdd zfO zde c0_Low c0_High
    obtain⟨⟨⟨rfl,zd7,rfl⟩,hs⟩,hk⟩:=h
    try rw[zct zd7] at hs
    try rw[zct zd7] at hk
    exact⟨(λ _ _=>[]),(λ _=>false),zx2,zQX (⟨c0_Low,c0_High⟩:Span) (⟨zdd,zd7⟩:(Sl FluxRow)) K hs hk⟩
  · exact h.elim
abbrev T66:Tabs:=(Tabs.nil.addF 77 zGG)
theorem zOB:TabsOk Try.prog T66:=(TabsOk.nil.addF zQY)
abbrev G66:Ctrs:=csm T66 (λ _ _=>[]) (λ _=>false)
def zLl:Ann:=⟨14,[(0,zK [0,1] []),(1,zK [0,5] []),(2,zK [0,5,10] []),(3,zK [4] []),(4,zK [4] [])],
 [],
 [],
 [],[]⟩
abbrev R66:=Int
abbrev e66 (r:R66):List PA:=[.one (.int .i64 r)]
section
variable {K:List PA->Prop}{c0:Span}{rows:(Sl FluxRow)}
def s66 (c0:Span) (rows:(Sl FluxRow)):Int :=
  (cond (decide ((s77 c0 rows) >= (0:Int)))
 (s77 c0 rows)
 (rows.len:Int))
def p66 (c0:Span) (rows:(Sl FluxRow)):Bool :=
  (decide ((p77 c0 rows=true)) &&
 true)
end
theorem q66 (c0:Span) (rows:(Sl FluxRow)) (K:List PA->Prop) (hs:p66 c0 rows=true) (hk:K (e66 (s66 c0 rows))):vcFun Try.prog G66 zLl 66 [.one (.sl rows.len 3 (λ i=>zbZ (rows.get i))),.one (.fn 67 [] [.fp (zcb c0) 0])] K :=
  zaI (by kernel_rfl) (zaS hs λ hc hs=>And.intro (And.intro (zE zbZ 3 rows.get) hc) (zt hk (λ hk=>hk) (λ hk=>hk)))
abbrev zQZ:Ctrs:=csm T66 (λ _ _=>[]) (λ _=>false)
def zEB:Ann:=⟨14,[(0,zK [0,1] []),(1,zK [0,5] []),(2,zK [0,5,10] []),(3,zK [4] []),(4,zK [4] [])],
 [],
 [],
 [],[]⟩
abbrev zQ0:=Int
abbrev zQ1 (r:zQ0):List PA:=[.one (.int .i64 r)]
section
variable {K:List PA->Prop}{c0:Span}{rows:(Sl FluxRow)}
def zNU (c0:Span) (rows:(Sl FluxRow)):Int :=
  (cond (decide ((zNT c0 rows) >= (0:Int)))
 (zNT c0 rows)
 (rows.len:Int))
def zOC (c0:Span) (rows:(Sl FluxRow)):Bool :=
  (decide ((zOA c0 rows=true)) &&
 true)
end
theorem zQ2 (c0:Span) (rows:(Sl FluxRow)) (K:List PA->Prop) (hs:zOC c0 rows=true) (hk:K (zQ1 (zNU c0 rows))):vcFun Try.prog zQZ zEB 66 [.one (.sl rows.len 3 (λ i=>zbZ (rows.get i))),.one (.fn 68 [] [.fp (zcb c0) 0])] K :=
  zaI (by kernel_rfl) (zaS hs λ hc hs=>And.intro (And.intro (zE zbZ 3 rows.get) hc) (zt hk (λ hk=>hk) (λ hk=>hk)))
def zGH : List PA → COut
  | [.one (.sl zdd zfO zde),.one (.fn 67 [] [.fp [.int .i64 c0_Low,.int .i64 c0_High] 0])]=>.det (IsE zbZ 3 zfO zde/\p66 (⟨c0_Low,c0_High⟩:Span) (⟨zdd,zd2 zde⟩:(Sl FluxRow))=true) [.one (.int .i64 (s66 (⟨c0_Low,c0_High⟩:Span) (⟨zdd,zd2 zde⟩:(Sl FluxRow))))]
  | [.one (.sl zdd zfO zde),.one (.fn 68 [] [.fp [.int .i64 c0_Low,.int .i64 c0_High] 0])]=>.det (IsE zbZ 3 zfO zde/\zOC (⟨c0_Low,c0_High⟩:Span) (⟨zdd,zd2 zde⟩:(Sl FluxRow))=true) [.one (.int .i64 (zNU (⟨c0_Low,c0_High⟩:Span) (⟨zdd,zd2 zde⟩:(Sl FluxRow))))]
  | _=>.no
theorem zLm:zal Try.prog 66:=⟨_,rfl,rfl,by kernel_rfl⟩
theorem zQ3:Ok Try.prog 66 zGH:=za5 zOB zLm λ args K h=>by
  unfold zGH at h
  split at h
  · rename_i zdd zfO zde c0_Low c0_High
    obtain⟨⟨⟨rfl,zd7,rfl⟩,hs⟩,hk⟩:=h
    try rw[zct zd7] at hs
    try rw[zct zd7] at hk
    exact⟨(λ _ _=>[]),(λ _=>false),zLl,q66 (⟨c0_Low,c0_High⟩:Span) (⟨zdd,zd7⟩:(Sl FluxRow)) K hs hk⟩
  · rename_i zdd zfO zde c0_Low c0_High
    obtain⟨⟨⟨rfl,zd7,rfl⟩,hs⟩,hk⟩:=h
    try rw[zct zd7] at hs
    try rw[zct zd7] at hk
    exact⟨(λ _ _=>[]),(λ _=>false),zEB,zQ2 (⟨c0_Low,c0_High⟩:Span) (⟨zdd,zd7⟩:(Sl FluxRow)) K hs hk⟩
  · exact h.elim
abbrev T52:Tabs:=(Tabs.nil.addF 66 zGH)
theorem zOD:TabsOk Try.prog T52:=(TabsOk.nil.addF zQ3)
abbrev G52:Ctrs:=csm T52 (λ _ _=>[]) (λ _=>false)
def zGI:Ann:=⟨46,[(0,zK [0,3,4] [3,4]),(1,zK [0,3,4,5] [3,4,5]),(2,zK [0,3,4,5,6] [3,4,5]),(3,zK [0,3,4,5,6,18] [3,4,5]),(4,zK [0,3,4,5] [3,4,5]),(5,zK [0,3,4,5,29] [3,4,5]),(6,zK [4] [4]),(7,zK [0,4,5,7] [4,5]),(8,zK [0,4,5,7,37] [4,5]),(9,zK [4,5] [4,5]),(10,zK [4] [4])],
 [],
 [(3,zK [0,3,4,5,6] [3,4,5]),(5,zK [0,3,4,5] [3,4,5]),(7,zK [0,3,4,5] [3,4,5]),(8,zK [0,4,5,7] [4,5])],
 [],[]⟩
abbrev R52:=Span
abbrev e52 (r:R52):List PA:=[.agg [.int .i64 r.Low,.int .i64 r.High]]
@[irreducible] def z52:=ptF Try.prog G52 zGI Try.f52
section
variable {K:List PA->Prop}{l_a0:(Sl FluxRow)}{t:Span}{iv0:Int}{zcR:Int}{iv3:Int}
def zx5 (l_a0:(Sl FluxRow)) (zcR:Int) (iv3:Int):Span :=
  (cond (decide (iv3 < (l_a0.len : Int)))
 (⟨(l_a0.get iv3.toNat).Rate.Low,zcR⟩:Span)
 (⟨(0:Int),zcR⟩:Span))
def zx6 (l_a0:(Sl FluxRow)) (zcR:Int) (iv3:Int):Bool :=
  (cond (decide (iv3 < (l_a0.len : Int)))
 (decide ((0<=iv3/\iv3 < (l_a0.len:Int))) &&
 true)
 true)
theorem zGJ (hs:zx6 l_a0 zcR iv3=true) (hk:K (e52 (zx5 l_a0 zcR iv3))):z52 K [1,1,1,1,0,1] [] ⟨[(0,zS zbZ 3 l_a0),(4,zp 4 0),(5,zp 5 0),(7,zI iv3)],[(4,.box 30 (zm (zcb (⟨(0:Int),(0:Int)⟩:Span)))),(5,.box 30 (zm (zcb (⟨(0:Int),zcR⟩:Span))))],[]⟩:=zaI (by kernel_rfl) (zc hs hk (λ hs hk=>(zaS hs λ hc hs=>And.intro hc hk)) (λ hs hk=>hk))
def zx7 (l_a0:(Sl FluxRow)) (t:Span) (zcR:Int):Span :=
  (zx5 l_a0 zcR (zNU t l_a0))
def zx8 (l_a0:(Sl FluxRow)) (t:Span) (zcR:Int):Bool :=
  (decide ((zOC t l_a0=true)) &&
 (zx6 l_a0 zcR (zNU t l_a0)))
theorem zGK (hs:zx8 l_a0 t zcR=true) (hk:K (e52 (zx7 l_a0 t zcR))):z52 K [1,1,1,1] [] ⟨[(0,zS zbZ 3 l_a0),(3,zp 3 0),(4,zp 4 0),(5,zp 5 0)],[(3,.fbox (zcb t)),(4,.box 30 (zm (zcb (⟨(0:Int),(0:Int)⟩:Span)))),(5,.box 30 (zm (zcb (⟨(0:Int),zcR⟩:Span))))],[]⟩:=zaI (by kernel_rfl) (zaS hs λ hc hs=>And.intro (And.intro (zE zbZ 3 l_a0.get) hc) (zGJ hs hk))
def zrZ (l_a0:(Sl FluxRow)) (t:Span) (zcR:Int):Span :=
  (cond (t.High == (-1:Int))
 (⟨(0:Int),zcR⟩:Span)
 (zx7 l_a0 t zcR))
def zr0 (l_a0:(Sl FluxRow)) (t:Span) (zcR:Int):Bool :=
  (cond (t.High == (-1:Int))
 true
 (zx8 l_a0 t zcR))
theorem zx9 (hs:zr0 l_a0 t zcR=true) (hk:K (e52 (zrZ l_a0 t zcR))):z52 K [1,1,1] [] ⟨[(0,zS zbZ 3 l_a0),(3,zp 3 0),(4,zp 4 0),(5,zp 5 0)],[(3,.fbox (zcb t)),(4,.box 30 (zm (zcb (⟨(0:Int),(0:Int)⟩:Span)))),(5,.box 30 (zm (zcb (⟨(0:Int),zcR⟩:Span))))],[]⟩:=zaI (by kernel_rfl) (zc hs hk (λ hs hk=>hk) (λ hs hk=>(zGK hs hk)))
def zya (l_a0:(Sl FluxRow)) (t:Span) (iv0:Int):Span :=
  (cond (decide (iv0 > (0:Int)))
 (zrZ l_a0 t ((l_a0.get ((w64 (iv0 - (1:Int))).toNat)).Rate.High))
 (zrZ l_a0 t ((l_a0.get 0).Rate.High)))
def zyb (l_a0:(Sl FluxRow)) (t:Span) (iv0:Int):Bool :=
  (cond (decide (iv0 > (0:Int)))
 (decide ((0<=(w64 (iv0 - (1:Int)))/\(w64 (iv0 - (1:Int))) < (l_a0.len:Int))) &&
 (zr0 l_a0 t ((l_a0.get ((w64 (iv0 - (1:Int))).toNat)).Rate.High)))
 (zr0 l_a0 t ((l_a0.get 0).Rate.High)))
theorem zGL (hs:zyb l_a0 t iv0=true) (hk:K (e52 (zya l_a0 t iv0))):z52 K [1,1,0,1] [] ⟨[(0,zS zbZ 3 l_a0),(3,zp 3 0),(4,zp 4 0),(5,zp 5 0),(6,zI iv0)],[(3,.fbox (zcb t)),(4,.box 30 (zm (zcb (⟨(0:Int),(0:Int)⟩:Span)))),(5,.box 30 (zm (zcb (⟨(0:Int),(l_a0.get 0).Rate.High⟩:Span))))],[]⟩:=zaI (by kernel_rfl) (zc hs hk (λ hs hk=>(zaS hs λ hc hs=>And.intro hc (zx9 hs hk))) (λ hs hk=>(zx9 hs hk)))
def s52 (l_a0:(Sl FluxRow)) (t:Span):Span :=
  (zya l_a0 t (s66 t l_a0))
def p52 (l_a0:(Sl FluxRow)) (t:Span):Bool :=
  (decide ((0<=(0:Int)/\(0:Int) < (l_a0.len:Int))) &&
 (decide ((p66 t l_a0=true)) &&
 (zyb l_a0 t (s66 t l_a0))))
end
theorem q52 (l_a0:(Sl FluxRow)) (t:Span) (K:List PA->Prop) (hs:p52 l_a0 t=true) (hk:K (e52 (s52 l_a0 t))):vcFun Try.prog G52 zGI 52 [.one (.sl l_a0.len 3 (λ i=>zbZ (l_a0.get i))),.agg (zcb t)] K :=
  zaI (by kernel_rfl) (zaS hs λ hc hs=>And.intro hc (zaS hs λ hc hs=>And.intro (And.intro (zE zbZ 3 l_a0.get) hc) (zGL hs hk)))
def zDA : List PA → COut
  | [.one (.sl zdd zfO zde),.agg [.int .i64 zgt,.int .i64 zeR]]=>.det (IsE zbZ 3 zfO zde/\p52 (⟨zdd,zd2 zde⟩:(Sl FluxRow)) (⟨zgt,zeR⟩:Span)=true) [.agg [.int .i64 ((s52 (⟨zdd,zd2 zde⟩:(Sl FluxRow)) (⟨zgt,zeR⟩:Span)).Low),.int .i64 ((s52 (⟨zdd,zd2 zde⟩:(Sl FluxRow)) (⟨zgt,zeR⟩:Span)).High)]]
  | _=>.no
theorem zLn:zal Try.prog 52:=⟨_,rfl,rfl,by kernel_rfl⟩
theorem zQm:Ok Try.prog 52 zDA:=za5 zOD zLn λ args K h=>by
  unfold zDA at h
  split at h
  · rename_i zdd zfO zde zgt zeR
    obtain⟨⟨⟨rfl,zd7,rfl⟩,hs⟩,hk⟩:=h
    try rw[zct zd7] at hs
    try rw[zct zd7] at hk
    exact⟨(λ _ _=>[]),(λ _=>false),zGI,q52 (⟨zdd,zd7⟩:(Sl FluxRow)) (⟨zgt,zeR⟩:Span) K hs hk⟩
  · exact h.elim
abbrev T70:Tabs:=Tabs.nil
theorem zOE:TabsOk Try.prog T70:=TabsOk.nil
abbrev G70:Ctrs:=csm T70 (λ _ _=>[]) (λ _=>false)
def zLo:Ann:=⟨9,[(0,zK [1,2] [2]),(1,zK [3] [])],
 [],
 [],
 [],[]⟩
abbrev R70:=Bool
abbrev e70 (r:R70):List PA:=[.one (.bool r)]
section
variable {K:List PA->Prop}{c0:Int}{r_a0:RangeRow}
def s70 (c0:Int) (r_a0:RangeRow):Bool :=
  (decide (r_a0.Range.High >= c0))
end
theorem q70 (c0:Int) (r_a0:RangeRow) (K:List PA->Prop) (hk:K (e70 (s70 c0 r_a0))):vcFun Try.prog G70 zLo 70 [.agg (zaO r_a0),.one (.fp (zaB c0) 0)] K :=
  zaI (by kernel_rfl) hk
def zGM : List PA → COut
  | [.agg [.int .i64 zaZ,.int .i64 zbz,.int .i64 zbo],.one (.fp [.int .i64 c0] 0)]=>.tot [.one (.bool (s70 c0 (⟨zaZ,(⟨zbz,zbo⟩:Span)⟩:RangeRow)))]
  | _=>.no
theorem zLp:zal Try.prog 70:=⟨_,rfl,rfl,by kernel_rfl⟩
theorem zQ4:Ok Try.prog 70 zGM:=za5 zOE zLp λ args K h=>by
  unfold zGM at h
  split at h
  · rename_i zaZ zbz zbo c0
    have hk:=h
    exact⟨(λ _ _=>[]),(λ _=>false),zLo,q70 c0 (⟨zaZ,(⟨zbz,zbo⟩:Span)⟩:RangeRow) K hk⟩
  · exact h.elim
abbrev T71:Tabs:=Tabs.nil
theorem zOF:TabsOk Try.prog T71:=TabsOk.nil
abbrev G71:Ctrs:=csm T71 (λ _ _=>[]) (λ _=>false)
def zLq:Ann:=⟨9,[(0,zK [1,2] [2]),(1,zK [3] [])],
 [],
 [],
 [],[]⟩
abbrev R71:=Bool
abbrev e71 (r:R71):List PA:=[.one (.bool r)]
section
variable {K:List PA->Prop}{c0:Int}{r_a0:RangeRow}
def s71 (c0:Int) (r_a0:RangeRow):Bool :=
  (decide (r_a0.Range.Low >= c0))
end
theorem q71 (c0:Int) (r_a0:RangeRow) (K:List PA->Prop) (hk:K (e71 (s71 c0 r_a0))):vcFun Try.prog G71 zLq 71 [.agg (zaO r_a0),.one (.fp (zaB c0) 0)] K :=
  zaI (by kernel_rfl) hk
def zGN : List PA → COut
  | [.agg [.int .i64 zaZ,.int .i64 zbz,.int .i64 zbo],.one (.fp [.int .i64 c0] 0)]=>.tot [.one (.bool (s71 c0 (⟨zaZ,(⟨zbz,zbo⟩:Span)⟩:RangeRow)))]
  | _=>.no
theorem zLr:zal Try.prog 71:=⟨_,rfl,rfl,by kernel_rfl⟩
theorem zQ5:Ok Try.prog 71 zGN:=za5 zOF zLr λ args K h=>by
  unfold zGN at h
  split at h
  · rename_i zaZ zbz zbo c0
    have hk:=h
    exact⟨(λ _ _=>[]),(λ _=>false),zLq,q71 c0 (⟨zaZ,(⟨zbz,zbo⟩:Span)⟩:RangeRow) K hk⟩
  · exact h.elim
abbrev T78:Tabs:=((Tabs.nil.addF 70 zGM).addF 71 zGN)
theorem zOG:TabsOk Try.prog T78:=((TabsOk.nil.addF zQ4).addF zQ5)
abbrev G78:Ctrs:=csm T78 (λ _ _=>[]) (λ _=>false)
def zGO:Ann:=⟨19,[(0,zK [0,1] []),(1,zK [0,1,7,8] []),(2,zK [0,1,7,8,9] []),(3,zK [0,1,5,7,8] []),(4,zK [0,1,5,7,8,16] []),(5,zK [4] []),(6,zK [0,1,7,8] []),(7,zK [4] [])],
 [(2,zK [0,1,7,8] [])],
 [(5,zK [0,1,5,7,8,16] [])],
 [],[]⟩
abbrev R78:=Int
abbrev e78 (r:R78):List PA:=[.one (.int .i64 r)]
@[irreducible] def z78:=ptF Try.prog G78 zGO Try.f78
def zEC (c0:Int) (sv0:(Sl RangeRow)) (zbp:Int) (zaJ:Int) (zci:Nat->List PV):St:=⟨[(0,zP (.sl sv0.len 3 zci)),(1,zP (.fn 70 [] [.fp (zaB c0) 0])),(7,zI zbp),(8,zI zaJ)],[],[]⟩
abbrev zGP (K:List PA->Prop) (c0:Int) (X:St->Prop) (P:(Sl RangeRow)->Int->Int->Bool) (S:(Sl RangeRow)->Int->Int->Int):Prop:=∀ ⦃sv0:(Sl RangeRow)⦄ ⦃zbp:Int⦄ ⦃zaJ:Int⦄ ⦃zci:Nat->List PV⦄,P sv0 zbp zaJ=true->K (e78 (S sv0 zbp zaJ))->zci=zg zaO sv0->X (zEC c0 sv0 zbp zaJ zci)
section
variable {K:List PA->Prop}{c0:Int}{s:(Sl RangeRow)}{sv0:(Sl RangeRow)}{zbp:Int}{zaJ:Int}{zci:Nat->List PV}{X0:St->Prop}{P0:(Sl RangeRow)->Int->Int->Bool}{S0:(Sl RangeRow)->Int->Int->Int}{sv1:(Sl RangeRow)}{iv1:Int}{zeG:Int}{zd3:Int}{zdi:Bool}{zfN:Nat->List PV}
def zyc (S0:(Sl RangeRow)->Int->Int->Int) (c0:Int) (sv1:(Sl RangeRow)) (iv1:Int) (zeG:Int) (zd3:Int) (zdi:Bool):Int :=
  (cond zdi
 iv1
 (S0 sv1 zeG (w64 (zd3+(1:Int)))))
def zyd (P0:(Sl RangeRow)->Int->Int->Bool) (c0:Int) (sv1:(Sl RangeRow)) (iv1:Int) (zeG:Int) (zd3:Int) (zdi:Bool):Bool :=
  (cond zdi
 true
 (P0 sv1 zeG (w64 (zd3+(1:Int)))))
theorem zGQ (hX0:zGP K c0 X0 P0 S0) (hs:zyd P0 c0 sv1 iv1 zeG zd3 zdi=true) (hk:K (e78 (zyc S0 c0 sv1 iv1 zeG zd3 zdi))) (ziV:zfN=zg zaO sv1):z78 K [1,0,1,0,0,1,1,0,0,1,1] [X0] ⟨[(0,zP (.sl sv1.len 3 zfN)),(1,zP (.fn 70 [] [.fp (zaB c0) 0])),(5,zI iv1),(7,zI zeG),(8,zI zd3),(16,zB zdi)],[],[]⟩:=by subst ziV;exact zaI (by kernel_rfl) (zc hs hk (λ hs hk=>hk) (λ hs hk=>(hX0 hs hk rfl)))
def zye (c0:Int) (S0:(Sl RangeRow)->Int->Int->Int) (sv0:(Sl RangeRow)) (zbp:Int) (zaJ:Int):Int :=
  (cond (decide (zaJ < zbp))
 (zyc S0 c0 sv0 zaJ zbp zaJ (s70 c0 (sv0.get zaJ.toNat)))
 (-1:Int))
def zyf (c0:Int) (P0:(Sl RangeRow)->Int->Int->Bool) (sv0:(Sl RangeRow)) (zbp:Int) (zaJ:Int):Bool :=
  (cond (decide (zaJ < zbp))
 (decide ((0<=zaJ/\zaJ < (sv0.len:Int))) &&
 (zyd P0 c0 sv0 zaJ zbp zaJ (s70 c0 (sv0.get zaJ.toNat))))
 true)
def zyg (c0:Int):Nat->(Sl RangeRow)->Int->Int->Int:=lpO (λ _ _ _=>default) (zye c0)
def zyh (c0:Int):Nat->(Sl RangeRow)->Int->Int->Bool:=lpO (λ _ _ _=>false) (zyf c0)
def zyi (c0:Int) (sv0:(Sl RangeRow)) (zbp:Int) (zaJ:Int):Int:=zyg c0 Fuel sv0 zbp zaJ
def zyj (c0:Int) (sv0:(Sl RangeRow)) (zbp:Int) (zaJ:Int):Bool:=zyh c0 Fuel sv0 zbp zaJ
theorem zGR (hs:zyj c0 sv0 zbp zaJ=true) (hk:K (e78 (zyi c0 sv0 zbp zaJ))) (zeQ:zci=zg zaO sv0):z78 K [1,0,1,0] [] (zEC c0 sv0 zbp zaJ zci) :=
  zl (λ X=>z78 K [1,0,1,0,0] [X]) (by kernel_rfl) λ X0 hX =>
  (show ∀ k, zGP K c0 X0 (zyh c0 k) (zyg c0 k) from zg4 _ _ (zyf c0) (zye c0) (zGP K c0 X0)
 (by intro _ _ _ _ hs;exact absurd hs dqk)
 (by intro P0 S0 hX0 sv0 zbp zaJ zci hs hk zeQ;subst zeQ;exact hX _ (zaI (by kernel_rfl) (zc hs hk (λ hs hk=>(zaS hs λ hc hs=>And.intro hc (zGQ hX0 hs hk rfl))) (λ hs hk=>hk))))) _ hs hk zeQ
def s78 (c0:Int) (s:(Sl RangeRow)):Int :=
  (zyi c0 s (s.len:Int) (0:Int))
def p78 (c0:Int) (s:(Sl RangeRow)):Bool :=
  (zyj c0 s (s.len:Int) (0:Int))
end
theorem q78 (c0:Int) (s:(Sl RangeRow)) (K:List PA->Prop) (hs:p78 c0 s=true) (hk:K (e78 (s78 c0 s))):vcFun Try.prog G78 zGO 78 [.one (.sl s.len 3 (λ i=>zaO (s.get i))),.one (.fn 70 [] [.fp (zaB c0) 0])] K :=
  zaI (by kernel_rfl) (zGR hs hk rfl)
abbrev zQn:Ctrs:=csm T78 (λ _ _=>[]) (λ _=>false)
def zyk:Ann:=⟨19,[(0,zK [0,1] []),(1,zK [0,1,7,8] []),(2,zK [0,1,7,8,9] []),(3,zK [0,1,5,7,8] []),(4,zK [0,1,5,7,8,16] []),(5,zK [4] []),(6,zK [0,1,7,8] []),(7,zK [4] [])],
 [(2,zK [0,1,7,8] [])],
 [(5,zK [0,1,5,7,8,16] [])],
 [],[]⟩
abbrev zQ6:=Int
abbrev zNV (r:zQ6):List PA:=[.one (.int .i64 r)]
@[irreducible] def z78a:=ptF Try.prog zQn zyk Try.f78
def zyl (c0:Int) (sv0:(Sl RangeRow)) (zbp:Int) (zaJ:Int) (zci:Nat->List PV):St:=⟨[(0,zP (.sl sv0.len 3 zci)),(1,zP (.fn 71 [] [.fp (zaB c0) 0])),(7,zI zbp),(8,zI zaJ)],[],[]⟩
abbrev zym (K:List PA->Prop) (c0:Int) (X:St->Prop) (P:(Sl RangeRow)->Int->Int->Bool) (S:(Sl RangeRow)->Int->Int->Int):Prop:=∀ ⦃sv0:(Sl RangeRow)⦄ ⦃zbp:Int⦄ ⦃zaJ:Int⦄ ⦃zci:Nat->List PV⦄,P sv0 zbp zaJ=true->K (zNV (S sv0 zbp zaJ))->zci=zg zaO sv0->X (zyl c0 sv0 zbp zaJ zci)
section
variable {K:List PA->Prop}{c0:Int}{s:(Sl RangeRow)}{sv0:(Sl RangeRow)}{zbp:Int}{zaJ:Int}{zci:Nat->List PV}{X0:St->Prop}{P0:(Sl RangeRow)->Int->Int->Bool}{S0:(Sl RangeRow)->Int->Int->Int}{sv1:(Sl RangeRow)}{iv1:Int}{zeG:Int}{zd3:Int}{zdi:Bool}{zfN:Nat->List PV}
def zuo (S0:(Sl RangeRow)->Int->Int->Int) (c0:Int) (sv1:(Sl RangeRow)) (iv1:Int) (zeG:Int) (zd3:Int) (zdi:Bool):Int :=
  (cond zdi
 iv1
 (S0 sv1 zeG (w64 (zd3+(1:Int)))))
def zup (P0:(Sl RangeRow)->Int->Int->Bool) (c0:Int) (sv1:(Sl RangeRow)) (iv1:Int) (zeG:Int) (zd3:Int) (zdi:Bool):Bool :=
  (cond zdi
 true
 (P0 sv1 zeG (w64 (zd3+(1:Int)))))
theorem zDB (hX0:zym K c0 X0 P0 S0) (hs:zup P0 c0 sv1 iv1 zeG zd3 zdi=true) (hk:K (zNV (zuo S0 c0 sv1 iv1 zeG zd3 zdi))) (ziV:zfN=zg zaO sv1):z78a K [1,0,1,0,0,1,1,0,0,1,1] [X0] ⟨[(0,zP (.sl sv1.len 3 zfN)),(1,zP (.fn 71 [] [.fp (zaB c0) 0])),(5,zI iv1),(7,zI zeG),(8,zI zd3),(16,zB zdi)],[],[]⟩:=by subst ziV;exact zaI (by kernel_rfl) (zc hs hk (λ hs hk=>hk) (λ hs hk=>(hX0 hs hk rfl)))
def zuq (c0:Int) (S0:(Sl RangeRow)->Int->Int->Int) (sv0:(Sl RangeRow)) (zbp:Int) (zaJ:Int):Int :=
  (cond (decide (zaJ < zbp))
 (zuo S0 c0 sv0 zaJ zbp zaJ (s71 c0 (sv0.get zaJ.toNat)))
 (-1:Int))
def zur (c0:Int) (P0:(Sl RangeRow)->Int->Int->Bool) (sv0:(Sl RangeRow)) (zbp:Int) (zaJ:Int):Bool :=
  (cond (decide (zaJ < zbp))
 (decide ((0<=zaJ/\zaJ < (sv0.len:Int))) &&
 (zup P0 c0 sv0 zaJ zbp zaJ (s71 c0 (sv0.get zaJ.toNat))))
 true)
def zus (c0:Int):Nat->(Sl RangeRow)->Int->Int->Int:=lpO (λ _ _ _=>default) (zuq c0)
def zut (c0:Int):Nat->(Sl RangeRow)->Int->Int->Bool:=lpO (λ _ _ _=>false) (zur c0)
def zuu (c0:Int) (sv0:(Sl RangeRow)) (zbp:Int) (zaJ:Int):Int:=zus c0 Fuel sv0 zbp zaJ
def zuv (c0:Int) (sv0:(Sl RangeRow)) (zbp:Int) (zaJ:Int):Bool:=zut c0 Fuel sv0 zbp zaJ
theorem zDC (hs:zuv c0 sv0 zbp zaJ=true) (hk:K (zNV (zuu c0 sv0 zbp zaJ))) (zeQ:zci=zg zaO sv0):z78a K [1,0,1,0] [] (zyl c0 sv0 zbp zaJ zci) :=
  zl (λ X=>z78a K [1,0,1,0,0] [X]) (by kernel_rfl) λ X0 hX =>
  (show ∀ k, zym K c0 X0 (zut c0 k) (zus c0 k) from zg4 _ _ (zur c0) (zuq c0) (zym K c0 X0)
 (by intro _ _ _ _ hs;exact absurd hs dqk)
 (by intro P0 S0 hX0 sv0 zbp zaJ zci hs hk zeQ;subst zeQ;exact hX _ (zaI (by kernel_rfl) (zc hs hk (λ hs hk=>(zaS hs λ hc hs=>And.intro hc (zDB hX0 hs hk rfl))) (λ hs hk=>hk))))) _ hs hk zeQ
def zNW (c0:Int) (s:(Sl RangeRow)):Int :=
  (zuu c0 s (s.len:Int) (0:Int))
def zOH (c0:Int) (s:(Sl RangeRow)):Bool :=
  (zuv c0 s (s.len:Int) (0:Int))
end
theorem zQ7 (c0:Int) (s:(Sl RangeRow)) (K:List PA->Prop) (hs:zOH c0 s=true) (hk:K (zNV (zNW c0 s))):vcFun Try.prog zQn zyk 78 [.one (.sl s.len 3 (λ i=>zaO (s.get i))),.one (.fn 71 [] [.fp (zaB c0) 0])] K :=
  zaI (by kernel_rfl) (zDC hs hk rfl)
def zGS : List PA → COut
  | [.one (.sl zdd zfO zde),.one (.fn 70 [] [.fp [.int .i64 c0] 0])]=>.det (IsE zaO 3 zfO zde/\p78 c0 (⟨zdd,zbQ zde⟩:(Sl RangeRow))=true) [.one (.int .i64 (s78 c0 (⟨zdd,zbQ zde⟩:(Sl RangeRow))))]
  | [.one (.sl zdd zfO zde),.one (.fn 71 [] [.fp [.int .i64 c0] 0])]=>.det (IsE zaO 3 zfO zde/\zOH c0 (⟨zdd,zbQ zde⟩:(Sl RangeRow))=true) [.one (.int .i64 (zNW c0 (⟨zdd,zbQ zde⟩:(Sl RangeRow))))]
  | _=>.no
theorem zLs:zal Try.prog 78:=⟨_,rfl,rfl,by kernel_rfl⟩
theorem zQ8:Ok Try.prog 78 zGS:=za5 zOG zLs λ args K h=>by
  unfold zGS at h
  split at h
  · rename_i zdd zfO zde c0
    obtain⟨⟨⟨rfl,zd7,rfl⟩,hs⟩,hk⟩:=h
    try rw[za6 zd7] at hs
    try rw[za6 zd7] at hk
    exact⟨(λ _ _=>[]),(λ _=>false),zGO,q78 c0 (⟨zdd,zd7⟩:(Sl RangeRow)) K hs hk⟩
  · rename_i zdd zfO zde c0
    obtain⟨⟨⟨rfl,zd7,rfl⟩,hs⟩,hk⟩:=h
    try rw[za6 zd7] at hs
    try rw[za6 zd7] at hk
    exact⟨(λ _ _=>[]),(λ _=>false),zyk,zQ7 c0 (⟨zdd,zd7⟩:(Sl RangeRow)) K hs hk⟩
  · exact h.elim
abbrev T69:Tabs:=(Tabs.nil.addF 78 zGS)
theorem zOI:TabsOk Try.prog T69:=(TabsOk.nil.addF zQ8)
abbrev G69:Ctrs:=csm T69 (λ _ _=>[]) (λ _=>false)
def zLt:Ann:=⟨14,[(0,zK [0,1] []),(1,zK [0,5] []),(2,zK [0,5,10] []),(3,zK [4] []),(4,zK [4] [])],
 [],
 [],
 [],[]⟩
abbrev R69:=Int
abbrev e69 (r:R69):List PA:=[.one (.int .i64 r)]
section
variable {K:List PA->Prop}{c0:Int}{rows:(Sl RangeRow)}
def s69 (c0:Int) (rows:(Sl RangeRow)):Int :=
  (cond (decide ((s78 c0 rows) >= (0:Int)))
 (s78 c0 rows)
 (rows.len:Int))
def p69 (c0:Int) (rows:(Sl RangeRow)):Bool :=
  (decide ((p78 c0 rows=true)) &&
 true)
end
theorem q69 (c0:Int) (rows:(Sl RangeRow)) (K:List PA->Prop) (hs:p69 c0 rows=true) (hk:K (e69 (s69 c0 rows))):vcFun Try.prog G69 zLt 69 [.one (.sl rows.len 3 (λ i=>zaO (rows.get i))),.one (.fn 70 [] [.fp (zaB c0) 0])] K :=
  zaI (by kernel_rfl) (zaS hs λ hc hs=>And.intro (And.intro (zE zaO 3 rows.get) hc) (zt hk (λ hk=>hk) (λ hk=>hk)))
abbrev zQ9:Ctrs:=csm T69 (λ _ _=>[]) (λ _=>false)
def zED:Ann:=⟨14,[(0,zK [0,1] []),(1,zK [0,5] []),(2,zK [0,5,10] []),(3,zK [4] []),(4,zK [4] [])],
 [],
 [],
 [],[]⟩
abbrev zRa:=Int
abbrev zRb (r:zRa):List PA:=[.one (.int .i64 r)]
section
variable {K:List PA->Prop}{c0:Int}{rows:(Sl RangeRow)}
def zNX (c0:Int) (rows:(Sl RangeRow)):Int :=
  (cond (decide ((zNW c0 rows) >= (0:Int)))
 (zNW c0 rows)
 (rows.len:Int))
def zOJ (c0:Int) (rows:(Sl RangeRow)):Bool :=
  (decide ((zOH c0 rows=true)) &&
 true)
end
theorem zRc (c0:Int) (rows:(Sl RangeRow)) (K:List PA->Prop) (hs:zOJ c0 rows=true) (hk:K (zRb (zNX c0 rows))):vcFun Try.prog zQ9 zED 69 [.one (.sl rows.len 3 (λ i=>zaO (rows.get i))),.one (.fn 71 [] [.fp (zaB c0) 0])] K :=
  zaI (by kernel_rfl) (zaS hs λ hc hs=>And.intro (And.intro (zE zaO 3 rows.get) hc) (zt hk (λ hk=>hk) (λ hk=>hk)))
def zGT : List PA → COut
  | [.one (.sl zdd zfO zde),.one (.fn 70 [] [.fp [.int .i64 c0] 0])]=>.det (IsE zaO 3 zfO zde/\p69 c0 (⟨zdd,zbQ zde⟩:(Sl RangeRow))=true) [.one (.int .i64 (s69 c0 (⟨zdd,zbQ zde⟩:(Sl RangeRow))))]
  | [.one (.sl zdd zfO zde),.one (.fn 71 [] [.fp [.int .i64 c0] 0])]=>.det (IsE zaO 3 zfO zde/\zOJ c0 (⟨zdd,zbQ zde⟩:(Sl RangeRow))=true) [.one (.int .i64 (zNX c0 (⟨zdd,zbQ zde⟩:(Sl RangeRow))))]
  | _=>.no
theorem zLu:zal Try.prog 69:=⟨_,rfl,rfl,by kernel_rfl⟩
theorem zRd:Ok Try.prog 69 zGT:=za5 zOI zLu λ args K h=>by
  unfold zGT at h
  split at h
  · rename_i zdd zfO zde c0
    obtain⟨⟨⟨rfl,zd7,rfl⟩,hs⟩,hk⟩:=h
    try rw[za6 zd7] at hs
    try rw[za6 zd7] at hk
    exact⟨(λ _ _=>[]),(λ _=>false),zLt,q69 c0 (⟨zdd,zd7⟩:(Sl RangeRow)) K hs hk⟩
  · rename_i zdd zfO zde c0
    obtain⟨⟨⟨rfl,zd7,rfl⟩,hs⟩,hk⟩:=h
    try rw[za6 zd7] at hs
    try rw[za6 zd7] at hk
    exact⟨(λ _ _=>[]),(λ _=>false),zED,zRc c0 (⟨zdd,zd7⟩:(Sl RangeRow)) K hs hk⟩
  · exact h.elim
abbrev T53:Tabs:=(Tabs.nil.addF 69 zGT)
theorem zOK:TabsOk Try.prog T53:=(TabsOk.nil.addF zRd)
abbrev G53:Ctrs:=csm T53 (λ _ _=>[]) (λ _=>false)
def zGU:Ann:=⟨40,[(0,zK [0,3,4] [3,4]),(1,zK [0,3,4,5] [3,4,5]),(2,zK [0,3,4,5,10] [3,4,5]),(3,zK [4] [4]),(4,zK [0,3,4,5,6] [3,4,5]),(5,zK [0,3,4,5,6,16] [3,4,5]),(6,zK [0,3,4,5] [3,4,5]),(7,zK [0,3,4,5] [3,4,5]),(8,zK [0,4,5,7] [4,5]),(9,zK [0,4,5,7,32] [4,5]),(10,zK [4,5] [4,5]),(11,zK [4] [4])],
 [],
 [(4,zK [0,3,4,5] [3,4,5]),(5,zK [0,3,4,5,6] [3,4,5]),(7,zK [0,3,4,5] [3,4,5]),(9,zK [0,4,5,7] [4,5])],
 [],[]⟩
abbrev R53:=Span
abbrev e53 (r:R53):List PA:=[.agg [.int .i64 r.Low,.int .i64 r.High]]
@[irreducible] def z53:=ptF Try.prog G53 zGU Try.f53
section
variable {K:List PA->Prop}{t:(Sl RangeRow)}{opacity:Int}{iv1:Int}{zeu:Int}{iv3:Int}
def zyn (t:(Sl RangeRow)) (zeu:Int) (iv3:Int):Span :=
  (cond (decide (iv3 < (t.len : Int)))
 (⟨zeu,(t.get iv3.toNat).Energy⟩:Span)
 (⟨zeu,(-1:Int)⟩:Span))
def zyo (t:(Sl RangeRow)) (zeu:Int) (iv3:Int):Bool :=
  (cond (decide (iv3 < (t.len : Int)))
 (decide ((0<=iv3/\iv3 < (t.len:Int))) &&
 true)
 true)
theorem zGV (hs:zyo t zeu iv3=true) (hk:K (e53 (zyn t zeu iv3))):z53 K [1,1,1,1,1,0,1] [] ⟨[(0,zS zaO 3 t),(4,zp 4 0),(5,zp 5 0),(7,zI iv3)],[(4,.box 30 (zm (zcb (⟨(0:Int),(0:Int)⟩:Span)))),(5,.box 30 (zm (zcb (⟨zeu,(-1:Int)⟩:Span))))],[]⟩:=zaI (by kernel_rfl) (zc hs hk (λ hs hk=>(zaS hs λ hc hs=>And.intro hc hk)) (λ hs hk=>hk))
def zr1 (t:(Sl RangeRow)) (opacity:Int) (zeu:Int):Span :=
  (zyn t zeu (zNX opacity t))
def zr2 (t:(Sl RangeRow)) (opacity:Int) (zeu:Int):Bool :=
  (decide ((zOJ opacity t=true)) &&
 (zyo t zeu (zNX opacity t)))
theorem zyp (hs:zr2 t opacity zeu=true) (hk:K (e53 (zr1 t opacity zeu))):z53 K [1,1,1,1] [] ⟨[(0,zS zaO 3 t),(3,zp 3 0),(4,zp 4 0),(5,zp 5 0)],[(3,.fbox [.int .i64 opacity]),(4,.box 30 (zm (zcb (⟨(0:Int),(0:Int)⟩:Span)))),(5,.box 30 (zm (zcb (⟨zeu,(1:Int)⟩:Span))))],[]⟩:=zaI (by kernel_rfl) (zaS hs λ hc hs=>And.intro (And.intro (zE zaO 3 t.get) hc) (zGV hs hk))
def zyq (t:(Sl RangeRow)) (opacity:Int) (iv1:Int):Span :=
  (cond (decide (iv1 > (0:Int)))
 (zr1 t opacity (w64 ((t.get ((w64 (iv1 - (1:Int))).toNat)).Energy+(1:Int))))
 (zr1 t opacity (1:Int)))
def zyr (t:(Sl RangeRow)) (opacity:Int) (iv1:Int):Bool :=
  (cond (decide (iv1 > (0:Int)))
 (decide ((0<=(w64 (iv1 - (1:Int)))/\(w64 (iv1 - (1:Int))) < (t.len:Int))) &&
 (zr2 t opacity (w64 ((t.get ((w64 (iv1 - (1:Int))).toNat)).Energy+(1:Int)))))
 (zr2 t opacity (1:Int)))
theorem zGW (hs:zyr t opacity iv1=true) (hk:K (e53 (zyq t opacity iv1))):z53 K [1,1,1,0,1] [] ⟨[(0,zS zaO 3 t),(3,zp 3 0),(4,zp 4 0),(5,zp 5 0),(6,zI iv1)],[(3,.fbox [.int .i64 opacity]),(4,.box 30 (zm (zcb (⟨(0:Int),(0:Int)⟩:Span)))),(5,.box 30 (zm (zcb (⟨(1:Int),(1:Int)⟩:Span))))],[]⟩:=zaI (by kernel_rfl) (zc hs hk (λ hs hk=>(zaS hs λ hc hs=>And.intro hc (zyp hs hk))) (λ hs hk=>(zyp hs hk)))
def zys (t:(Sl RangeRow)) (opacity:Int):Span :=
  (zyq t opacity (s69 opacity t))
def zyt (t:(Sl RangeRow)) (opacity:Int):Bool :=
  (decide ((p69 opacity t=true)) &&
 (zyr t opacity (s69 opacity t)))
theorem zGX (hs:zyt t opacity=true) (hk:K (e53 (zys t opacity))):z53 K [1,1,1] [] ⟨[(0,zS zaO 3 t),(3,zp 3 0),(4,zp 4 0),(5,zp 5 0)],[(3,.box 3 [zi opacity]),(4,.box 30 (zm (zcb (⟨(0:Int),(0:Int)⟩:Span)))),(5,.box 30 (zm (zcb (⟨(1:Int),(1:Int)⟩:Span))))],[]⟩:=zaI (by kernel_rfl) (zaS hs λ hc hs=>And.intro (And.intro (zE zaO 3 t.get) hc) (zGW hs hk))
def s53 (t:(Sl RangeRow)) (opacity:Int):Span :=
  (cond (opacity == (0:Int))
 (⟨(1:Int),(1:Int)⟩:Span)
 (zys t opacity))
def p53 (t:(Sl RangeRow)) (opacity:Int):Bool :=
  (cond (opacity == (0:Int))
 true
 (zyt t opacity))
end
theorem q53 (t:(Sl RangeRow)) (opacity:Int) (K:List PA->Prop) (hs:p53 t opacity=true) (hk:K (e53 (s53 t opacity))):vcFun Try.prog G53 zGU 53 [.one (.sl t.len 3 (λ i=>zaO (t.get i))),.one (.int .i64 opacity)] K :=
  zaI (by kernel_rfl) (zc hs hk (λ hs hk=>hk) (λ hs hk=>(zGX hs hk)))
def zDD : List PA → COut
  | [.one (.sl zdd zfO zde),.one (.int .i64 a1)]=>.det (IsE zaO 3 zfO zde/\p53 (⟨zdd,zbQ zde⟩:(Sl RangeRow)) a1=true) [.agg [.int .i64 ((s53 (⟨zdd,zbQ zde⟩:(Sl RangeRow)) a1).Low),.int .i64 ((s53 (⟨zdd,zbQ zde⟩:(Sl RangeRow)) a1).High)]]
  | _=>.no
theorem zLv:zal Try.prog 53:=⟨_,rfl,rfl,by kernel_rfl⟩
theorem zQo:Ok Try.prog 53 zDD:=za5 zOK zLv λ args K h=>by
  unfold zDD at h
  split at h
  · rename_i zdd zfO zde a1
    obtain⟨⟨⟨rfl,zd7,rfl⟩,hs⟩,hk⟩:=h
    try rw[za6 zd7] at hs
    try rw[za6 zd7] at hk
    exact⟨(λ _ _=>[]),(λ _=>false),zGU,q53 (⟨zdd,zd7⟩:(Sl RangeRow)) a1 K hs hk⟩
  · exact h.elim
def ziW (s:Sky) (t:Sl RangeRow) (bin:Int) (j:Int):List Int:=[(s52 (s.Bins.get bin.toNat) (s53 t j)).Low,(s52 (s.Bins.get bin.toNat) (s53 t j)).High]
abbrev T34:Tabs:=((Tabs.nil.addF 52 zDA).addF 53 zDD)
theorem zOL:TabsOk Try.prog T34:=((TabsOk.nil.addF zQm).addF zQo)
abbrev G34:Ctrs:=csm T34 (λ _ _=>[]) (λ _=>false)
def zGY:Ann:=⟨42,[(0,zK [0,1,2,6] [6]),(1,zK [0,1,2,6,7,8] [6,7]),(2,zK [0,1,2,6,7,19] [6,7]),(3,zK [0,2,6,7] [6,7]),(4,zK [6,7] [6,7]),(5,zK [6] [6])],
 [],
 [],
 [],[]⟩
theorem zGZ (xSky : Sky) (xtable : (Sl RangeRow)) (bin : Int) (opacity : Int) (K : List PA → Prop) :
  vcFun Try.prog G34 zGY 34 [.one (.fp (zhZ (⟨xSky,xtable,(ziW xSky xtable bin)⟩:ground)) 0),.one (.int .i64 bin),.one (.int .i64 opacity)] K =
  ((True)/\(∃ r1:Bool,True)/\∀ r1:Bool,True ->
 (zcJ (!r1)
 (((0<=bin/\bin < (xSky.Bins.len:Int))) /\
 ((IsE zaO 3 3 (λ i=>zaO (xtable.get i))/\(p53 xtable opacity=true)) /\
 ((IsE zbZ 3 3 (λ i=>zbZ ((xSky.Bins.get bin.toNat).get i))/\(p52 (xSky.Bins.get bin.toNat) (s53 xtable opacity)=true)) /\
 ((([(s52 (xSky.Bins.get bin.toNat) (s53 xtable opacity)).Low,(s52 (xSky.Bins.get bin.toNat) (s53 xtable opacity)).High]=[(s52 (xSky.Bins.get bin.toNat) (s53 xtable opacity)).Low,(s52 (xSky.Bins.get bin.toNat) (s53 xtable opacity)).High])) /\
 (K [.agg [.int .i64 ((s52 (xSky.Bins.get bin.toNat) (s53 xtable opacity)).Low),.int .i64 ((s52 (xSky.Bins.get bin.toNat) (s53 xtable opacity)).High)]])))))
 (K [.agg [.int .i64 (match r1 with | true=>(s52 (xSky.Bins.get bin.toNat) (s53 xtable opacity)).Low | false=>0),.int .i64 (match r1 with | true=>(s52 (xSky.Bins.get bin.toNat) (s53 xtable opacity)).High | false=>0)]]))):=by kernel_rfl
abbrev R34:=Span
abbrev e34 (r:R34):List PA:=[.agg [.int .i64 r.Low,.int .i64 r.High]]
def s34 (xSky:Sky) (xtable:Sl RangeRow) (bin opacity:Int):R34:=s52 (xSky.Bins.get bin.toNat) (s53 xtable opacity)
def p34 (xSky:Sky) (xtable:Sl RangeRow) (bin opacity:Int):Bool:=decide (0<=bin/\bin < (xSky.Bins.len:Int)) && (p53 xtable opacity && p52 (xSky.Bins.get bin.toNat) (s53 xtable opacity))
theorem q34 (xSky : Sky) (xtable : Sl RangeRow) (bin opacity : Int) (K : List PA → Prop) (hs : p34 xSky xtable bin opacity = true) (hk : K (e34 (s34 xSky xtable bin opacity))) :
    vcFun Try.prog G34 zGY 34 [.one (.fp (zhZ ⟨xSky,xtable,ziW xSky xtable bin⟩) 0),.one (.int .i64 bin),.one (.int .i64 opacity)] K:=by
  refine zaI (zGZ xSky xtable bin opacity K) ⟨trivial,⟨true,trivial⟩,λ r1 _=>?_⟩
  unfold p34 at hs
  rw[dqm,dqm] at hs
  cases r1
  · exact⟨of_decide_eq_true hs.1,⟨isE,hs.2.1⟩,⟨isE,hs.2.2⟩,rfl,hk⟩
  · exact hk
def zDE : List PA → COut
  | [.one (.fp [.int .i64 zd8,.sl zdJ zj7 zdK,.int .i64 zc7,.int .i64 zcT,.int .i64 zcU,.int .i64 zcI,.sl zfA zn4 zfB,.mp zuw] 0),.one (.int .i64 a1),.one (.int .i64 a2)]=>.det (IsE zdz 1 zj7 zdK/\IsE zaO 3 zn4 zfB/\zuw=(ziW (⟨zd8,(⟨zdJ,zdA zdK⟩:(Sl (Sl FluxRow))),(⟨zc7,zcT⟩:Span),(⟨zcU,zcI⟩:Span)⟩:Sky) (⟨zfA,zbQ zfB⟩:(Sl RangeRow)) a1)/\p34 (⟨zd8,(⟨zdJ,zdA zdK⟩:(Sl (Sl FluxRow))),(⟨zc7,zcT⟩:Span),(⟨zcU,zcI⟩:Span)⟩:Sky) (⟨zfA,zbQ zfB⟩:(Sl RangeRow)) a1 a2=true) [.agg [.int .i64 ((s34 (⟨zd8,(⟨zdJ,zdA zdK⟩:(Sl (Sl FluxRow))),(⟨zc7,zcT⟩:Span),(⟨zcU,zcI⟩:Span)⟩:Sky) (⟨zfA,zbQ zfB⟩:(Sl RangeRow)) a1 a2).Low),.int .i64 ((s34 (⟨zd8,(⟨zdJ,zdA zdK⟩:(Sl (Sl FluxRow))),(⟨zc7,zcT⟩:Span),(⟨zcU,zcI⟩:Span)⟩:Sky) (⟨zfA,zbQ zfB⟩:(Sl RangeRow)) a1 a2).High)]]
  | _=>.no
theorem zLw:zal Try.prog 34:=⟨_,rfl,rfl,by kernel_rfl⟩
theorem zQp:Ok Try.prog 34 zDE:=za5 zOL zLw λ args K h=>by
  unfold zDE at h
  split at h
  · rename_i zd8 zdJ zj7 zdK zc7 zcT zcU zcI zfA zn4 zfB zuw a1 a2
    obtain⟨⟨⟨rfl,zfp,rfl⟩,⟨rfl,ziv,rfl⟩,hF,hs⟩,hk⟩:=h
    try rw[zdg zfp] at hF
    try rw[zdg zfp] at hs
    try rw[zdg zfp] at hk
    try rw[za6 ziv] at hF
    try rw[za6 ziv] at hs
    try rw[za6 ziv] at hk
    subst hF
    exact⟨(λ _ _=>[]),(λ _=>false),zGY,q34 (⟨zd8,(⟨zdJ,zfp⟩:(Sl (Sl FluxRow))),(⟨zc7,zcT⟩:Span),(⟨zcU,zcI⟩:Span)⟩:Sky) (⟨zfA,ziv⟩:(Sl RangeRow)) a1 a2 K hs hk⟩
  · exact h.elim
abbrev T51:Tabs:=Tabs.nil
theorem zOM:TabsOk Try.prog T51:=TabsOk.nil
abbrev G51:Ctrs:=csm T51 (λ _ _=>[]) (λ _=>false)
def zLx:Ann:=⟨15,[(0,zK [0,1,2] []),(1,zK [6] [])],
 [],
 [],
 [],[]⟩
abbrev R51:=Bool
abbrev e51 (r:R51):List PA:=[.one (.bool r)]
section
variable {K:List PA->Prop}{n:Int}{low:Int}{high:Int}
def s51 (n:Int) (low:Int) (high:Int):Bool :=
  (cond (decide (n >= low))
 (decide (n<=high))
 false)
end
theorem q51 (n:Int) (low:Int) (high:Int) (K:List PA->Prop) (hk:K (e51 (s51 n low high))):vcFun Try.prog G51 zLx 51 [.one (.int .i64 n),.one (.int .i64 low),.one (.int .i64 high)] K :=
  zaI (by kernel_rfl) (zt hk (λ hk=>hk) (λ hk=>hk))
def zr3 : List PA → COut
  | [.one (.int .i64 a0),.one (.int .i64 a1),.one (.int .i64 a2)]=>.tot [.one (.bool (s51 a0 a1 a2))]
  | _=>.no
theorem zLy:zal Try.prog 51:=⟨_,rfl,rfl,by kernel_rfl⟩
theorem zLz:Ok Try.prog 51 zr3:=za5 zOM zLy λ args K h=>by
  unfold zr3 at h
  split at h
  · rename_i a0 a1 a2
    have hk:=h
    exact⟨(λ _ _=>[]),(λ _=>false),zLx,q51 a0 a1 a2 K hk⟩
  · exact h.elim
abbrev T61:Tabs:=(Tabs.nil.addF 51 zr3)
theorem zON:TabsOk Try.prog T61:=(TabsOk.nil.addF zLz)
abbrev G61:Ctrs:=csm T61 (λ _ _=>[]) (λ _=>false)
def zLA:Ann:=⟨19,[(0,zK [1,2,3] [3]),(1,zK [6] [])],
 [],
 [],
 [],[]⟩
abbrev R61:=Bool
abbrev e61 (r:R61):List PA:=[.one (.bool r)]
section
variable {K:List PA->Prop}{s:Span}{low:Int}{high:Int}
def s61 (s:Span) (low:Int) (high:Int):Bool :=
  (cond (s51 s.Low low s.High)
 (decide (s.High<=high))
 false)
end
theorem q61 (s:Span) (low:Int) (high:Int) (K:List PA->Prop) (hk:K (e61 (s61 s low high))):vcFun Try.prog G61 zLA 61 [.agg (zcb s),.one (.int .i64 low),.one (.int .i64 high)] K :=
  zaI (by kernel_rfl) (zt hk (λ hk=>hk) (λ hk=>hk))
def zyu : List PA → COut
  | [.agg [.int .i64 zer,.int .i64 zdh],.one (.int .i64 a1),.one (.int .i64 a2)]=>.tot [.one (.bool (s61 (⟨zer,zdh⟩:Span) a1 a2))]
  | _=>.no
theorem zLB:zal Try.prog 61:=⟨_,rfl,rfl,by kernel_rfl⟩
theorem zOO:Ok Try.prog 61 zyu:=za5 zON zLB λ args K h=>by
  unfold zyu at h
  split at h
  · rename_i zer zdh a1 a2
    have hk:=h
    exact⟨(λ _ _=>[]),(λ _=>false),zLA,q61 (⟨zer,zdh⟩:Span) a1 a2 K hk⟩
  · exact h.elim
abbrev T58:Tabs:=Tabs.nil
theorem zOP:TabsOk Try.prog T58:=TabsOk.nil
abbrev G58:Ctrs:=csm T58 (λ _ _=>[]) (λ _=>false)
def zLC:Ann:=⟨5,[(0,zK [1] [1]),(1,zK [2] [])],
 [],
 [],
 [],[]⟩
abbrev R58:=Int
abbrev e58 (r:R58):List PA:=[.one (.int .i64 r)]
section
variable {K:List PA->Prop}{r_a0:FluxRow}
def s58 (r_a0:FluxRow):Int :=
  r_a0.Energy
end
theorem q58 (r_a0:FluxRow) (K:List PA->Prop) (hk:K (e58 (s58 r_a0))):vcFun Try.prog G58 zLC 58 [.agg (zbZ r_a0)] K :=
  zaI (by kernel_rfl) hk
def zG0 : List PA → COut
  | [.agg [.int .i64 zaZ,.int .i64 zbV,.int .i64 zby]]=>.tot [.one (.int .i64 (s58 (⟨zaZ,(⟨zbV,zby⟩:Span)⟩:FluxRow)))]
  | _=>.no
theorem zLD:zal Try.prog 58:=⟨_,rfl,rfl,by kernel_rfl⟩
theorem zRe:Ok Try.prog 58 zG0:=za5 zOP zLD λ args K h=>by
  unfold zG0 at h
  split at h
  · rename_i zaZ zbV zby
    have hk:=h
    exact⟨(λ _ _=>[]),(λ _=>false),zLC,q58 (⟨zaZ,(⟨zbV,zby⟩:Span)⟩:FluxRow) K hk⟩
  · exact h.elim
abbrev T59:Tabs:=Tabs.nil
theorem zOQ:TabsOk Try.prog T59:=TabsOk.nil
abbrev G59:Ctrs:=csm T59 (λ _ _=>[]) (λ _=>false)
def zLE:Ann:=⟨5,[(0,zK [1,2] [1,2]),(1,zK [2] [2])],
 [],
 [],
 [],[]⟩
abbrev R59:=Span
abbrev e59 (r:R59):List PA:=[.agg [.int .i64 r.Low,.int .i64 r.High]]
section
variable {K:List PA->Prop}{r_a0:FluxRow}
def s59 (r_a0:FluxRow):Span :=
  r_a0.Rate
end
theorem q59 (r_a0:FluxRow) (K:List PA->Prop) (hk:K (e59 (s59 r_a0))):vcFun Try.prog G59 zLE 59 [.agg (zbZ r_a0)] K :=
  zaI (by kernel_rfl) hk
def zG1 : List PA → COut
  | [.agg [.int .i64 zaZ,.int .i64 zbV,.int .i64 zby]]=>.tot [.agg [.int .i64 ((s59 (⟨zaZ,(⟨zbV,zby⟩:Span)⟩:FluxRow)).Low),.int .i64 ((s59 (⟨zaZ,(⟨zbV,zby⟩:Span)⟩:FluxRow)).High)]]
  | _=>.no
theorem zLF:zal Try.prog 59:=⟨_,rfl,rfl,by kernel_rfl⟩
theorem zRf:Ok Try.prog 59 zG1:=za5 zOQ zLF λ args K h=>by
  unfold zG1 at h
  split at h
  · rename_i zaZ zbV zby
    have hk:=h
    exact⟨(λ _ _=>[]),(λ _=>false),zLE,q59 (⟨zaZ,(⟨zbV,zby⟩:Span)⟩:FluxRow) K hk⟩
  · exact h.elim
abbrev T65:Tabs:=Tabs.nil
theorem zOR:TabsOk Try.prog T65:=TabsOk.nil
abbrev G65:Ctrs:=csm T65 (λ _ _=>[]) (λ _=>false)
def zLG:Ann:=⟨17,[(0,zK [2,3] [2,3]),(1,zK [4] [])],
 [],
 [],
 [],[]⟩
abbrev R65:=Bool
abbrev e65 (r:R65):List PA:=[.one (.bool r)]
section
variable {K:List PA->Prop}{a:Span}{b:Span}
def s65 (a:Span) (b:Span):Bool :=
  (cond (decide (b.Low >= a.Low))
 (decide (b.High >= a.High))
 false)
end
theorem q65 (a:Span) (b:Span) (K:List PA->Prop) (hk:K (e65 (s65 a b))):vcFun Try.prog G65 zLG 65 [.agg (zcb a),.agg (zcb b)] K :=
  zaI (by kernel_rfl) (zt hk (λ hk=>hk) (λ hk=>hk))
def zDF : List PA → COut
  | [.agg [.int .i64 zer,.int .i64 zdh],.agg [.int .i64 zgt,.int .i64 zeR]]=>.tot [.one (.bool (s65 (⟨zer,zdh⟩:Span) (⟨zgt,zeR⟩:Span)))]
  | _=>.no
theorem zLH:zal Try.prog 65:=⟨_,rfl,rfl,by kernel_rfl⟩
theorem zQq:Ok Try.prog 65 zDF:=za5 zOR zLH λ args K h=>by
  unfold zDF at h
  split at h
  · rename_i zer zdh zgt zeR
    have hk:=h
    exact⟨(λ _ _=>[]),(λ _=>false),zLG,q65 (⟨zer,zdh⟩:Span) (⟨zgt,zeR⟩:Span) K hk⟩
  · exact h.elim
abbrev T60:Tabs:=(Tabs.nil.addF 65 zDF)
theorem zOS:TabsOk Try.prog T60:=(TabsOk.nil.addF zQq)
abbrev G60:Ctrs:=csm T60 (λ _ _=>[]) (λ _=>false)
def zLI:Ann:=⟨8,[(0,zK [2,3] [2,3]),(1,zK [4] [])],
 [],
 [],
 [],[]⟩
abbrev R60:=Bool
abbrev e60 (r:R60):List PA:=[.one (.bool r)]
section
variable {K:List PA->Prop}{a:Span}{b:Span}
def s60 (a:Span) (b:Span):Bool :=
  (s65 b a)
end
theorem q60 (a:Span) (b:Span) (K:List PA->Prop) (hk:K (e60 (s60 a b))):vcFun Try.prog G60 zLI 60 [.agg (zcb a),.agg (zcb b)] K :=
  zaI (by kernel_rfl) hk
def zG2 : List PA → COut
  | [.agg [.int .i64 zer,.int .i64 zdh],.agg [.int .i64 zgt,.int .i64 zeR]]=>.tot [.one (.bool (s60 (⟨zer,zdh⟩:Span) (⟨zgt,zeR⟩:Span)))]
  | _=>.no
theorem zLJ:zal Try.prog 60:=⟨_,rfl,rfl,by kernel_rfl⟩
theorem zRg:Ok Try.prog 60 zG2:=za5 zOS zLJ λ args K h=>by
  unfold zG2 at h
  split at h
  · rename_i zer zdh zgt zeR
    have hk:=h
    exact⟨(λ _ _=>[]),(λ _=>false),zLI,q60 (⟨zer,zdh⟩:Span) (⟨zgt,zeR⟩:Span) K hk⟩
  · exact h.elim
abbrev T57:Tabs:=(((((Tabs.nil.addF 51 zr3).addF 58 zG0).addF 59 zG1).addF 60 zG2).addF 61 zyu)
theorem zOT:TabsOk Try.prog T57:=(((((TabsOk.nil.addF zLz).addF zRe).addF zRf).addF zRg).addF zOO)
abbrev G57:Ctrs:=csm T57 (λ _ _=>[]) (λ _=>false)
def zG3:Ann:=⟨73,[(0,zK [0,1,2,3,4,5,6] []),(1,zK [0,1,2,3,4,5,6,17,18,19] []),(2,zK [0,1,2,3,4,5,6,17,18,19,20] []),(3,zK [0,1,2,3,4,5,6,15,16,17,18,19] [16]),(4,zK [0,1,2,3,4,5,6,15,16,17,18,19,38] [16]),(5,zK [14] []),(6,zK [0,1,2,3,4,5,6,17,18,19,68] []),(7,zK [14] []),(8,zK [0,1,2,3,4,5,6,17,18,19] []),(9,zK [14] [])],
 [(2,zK [0,1,2,3,4,5,6,17,18,19] [])],
 [(5,zK [0,1,2,3,4,5,6,15,16,17,18,19,38] [16]),(6,zK [0,1,2,3,4,5,6,15,16,17,18,19] [16]),(7,zK [0,1,2,3,4,5,6,17,18,19,68] [])],
 [],[]⟩
abbrev R57:=Bool
abbrev e57 (r:R57):List PA:=[.one (.bool r)]
@[irreducible] def z57:=ptF Try.prog G57 zG3 Try.f57
def zEE (rows:(Sl FluxRow)) (zak:Int) (until_a2:Int) (most:Int) (za7:Int):St:=⟨[(0,zS zbZ 3 rows),(1,zI zak),(2,zI until_a2),(3,zP (.fn 58 [] [])),(4,zP (.fn 59 [] [])),(5,zI most),(6,zP (.fn 60 [] [])),(17,zS zbZ 3 rows),(18,zI (rows.len:Int)),(19,zI za7)],[],[]⟩
abbrev zyv (K:List PA->Prop) (rows:(Sl FluxRow)) (zak:Int) (until_a2:Int) (most:Int) (X:St->Prop) (P:Int->Bool) (S:Int->Bool):Prop:=∀ ⦃za7:Int⦄,P za7=true->K (e57 (S za7))->X (zEE rows zak until_a2 most za7)
section
variable {K:List PA->Prop}{rows:(Sl FluxRow)}{zak:Int}{until_a2:Int}{most:Int}{za7:Int}{X0:St->Prop}{P0:Int->Bool}{S0:Int->Bool}{iv1:Int}{ziX:Int}{ziY:Bool}{ziZ:Int}{zi0:Int}{zi1:Int}{iv2:Int}{zfP:Int}{zg5:Int}{zg6:Int}{zg7:Int}{zi2:Int}{zi3:Bool}
def zpa (S0:Int->Bool) (rows:(Sl FluxRow)) (zak:Int) (until_a2:Int) (most:Int) (zi2:Int) (zi3:Bool):Bool :=
  (cond zi3
 false
 (S0 (w64 (zi2+(1:Int)))))
def zpb (P0:Int->Bool) (rows:(Sl FluxRow)) (zak:Int) (until_a2:Int) (most:Int) (zi2:Int) (zi3:Bool):Bool :=
  (cond zi3
 true
 (P0 (w64 (zi2+(1:Int)))))
theorem zr4 (hX0:zyv K rows zak until_a2 most X0 P0 S0) (hs:zpb P0 rows zak until_a2 most zi2 zi3=true) (hk:K (e57 (zpa S0 rows zak until_a2 most zi2 zi3))):z57 K [1,0,1,0,0,1,1,0,0,1,1,1] [X0] ⟨[(0,zS zbZ 3 rows),(1,zI zak),(2,zI until_a2),(3,zP (.fn 58 [] [])),(4,zP (.fn 59 [] [])),(5,zI most),(6,zP (.fn 60 [] [])),(17,zS zbZ 3 rows),(18,zI (rows.len:Int)),(19,zI zi2),(68,zB zi3)],[],[]⟩:=zaI (by kernel_rfl) (zc hs hk (λ hs hk=>hk) (λ hs hk=>(hX0 hs hk)))
def zyw (S0:Int->Bool) (rows:(Sl FluxRow)) (zak:Int) (until_a2:Int) (most:Int) (iv2:Int) (zfP:Int) (zg5:Int) (zg6:Int) (zg7:Int):Bool :=
  (cond (decide (iv2 > (0:Int)))
 (cond (decide ((s58 (⟨zg5, (⟨zg6, zg7⟩ : Span)⟩ : FluxRow)) <= (s58 (rows.get ((w64 (iv2 - (1:Int))).toNat)))))
 (zpa S0 rows zak until_a2 most zfP true)
 (zpa S0 rows zak until_a2 most zfP (!(s60 (s59 (rows.get ((w64 (iv2 - (1:Int))).toNat))) (s59 (⟨zg5,(⟨zg6,zg7⟩:Span)⟩:FluxRow))))))
 (zpa S0 rows zak until_a2 most zfP false))
def zyx (P0:Int->Bool) (rows:(Sl FluxRow)) (zak:Int) (until_a2:Int) (most:Int) (iv2:Int) (zfP:Int) (zg5:Int) (zg6:Int) (zg7:Int):Bool :=
  (cond (decide (iv2 > (0:Int)))
 (decide ((0<=(w64 (iv2 - (1:Int)))/\(w64 (iv2 - (1:Int))) < (rows.len:Int))) &&
 (cond (decide ((s58 (⟨zg5, (⟨zg6, zg7⟩ : Span)⟩ : FluxRow)) <= (s58 (rows.get ((w64 (iv2 - (1:Int))).toNat)))))
 (zpb P0 rows zak until_a2 most zfP true)
 (decide ((0<=(w64 (iv2 - (1:Int)))/\(w64 (iv2 - (1:Int))) < (rows.len:Int))) &&
 (zpb P0 rows zak until_a2 most zfP (!(s60 (s59 (rows.get ((w64 (iv2 - (1:Int))).toNat))) (s59 (⟨zg5,(⟨zg6,zg7⟩:Span)⟩:FluxRow))))))))
 (zpb P0 rows zak until_a2 most zfP false))
theorem zG4 (hX0:zyv K rows zak until_a2 most X0 P0 S0) (hs:zyx P0 rows zak until_a2 most iv2 zfP zg5 zg6 zg7=true) (hk:K (e57 (zyw S0 rows zak until_a2 most iv2 zfP zg5 zg6 zg7))):z57 K [1,0,1,0,0,1,1,0,0,1,1] [X0] ⟨[(0,zS zbZ 3 rows),(1,zI zak),(2,zI until_a2),(3,zP (.fn 58 [] [])),(4,zP (.fn 59 [] [])),(5,zI most),(6,zP (.fn 60 [] [])),(15,zI iv2),(16,zp 16 0),(17,zS zbZ 3 rows),(18,zI (rows.len:Int)),(19,zI zfP)],[(16,.box 97 [zi zg5,zi zg6,zi zg7])],[]⟩:=zaI (by kernel_rfl) (zc hs hk (λ hs hk=>(zaS hs λ hc hs=>And.intro hc (zc hs hk (λ hs hk=>(zr4 hX0 hs hk)) (λ hs hk=>(zaS hs λ hc hs=>And.intro hc (zr4 hX0 hs hk)))))) (λ hs hk=>(zr4 hX0 hs hk)))
def zr5 (S0:Int->Bool) (rows:(Sl FluxRow)) (zak:Int) (until_a2:Int) (most:Int) (iv1:Int) (ziX:Int) (ziY:Bool) (ziZ:Int) (zi0:Int) (zi1:Int):Bool :=
  (cond ziY
 false
 (zyw S0 rows zak until_a2 most iv1 ziX ziZ zi0 zi1))
def zr6 (P0:Int->Bool) (rows:(Sl FluxRow)) (zak:Int) (until_a2:Int) (most:Int) (iv1:Int) (ziX:Int) (ziY:Bool) (ziZ:Int) (zi0:Int) (zi1:Int):Bool :=
  (cond ziY
 true
 (zyx P0 rows zak until_a2 most iv1 ziX ziZ zi0 zi1))
theorem zyy (hX0:zyv K rows zak until_a2 most X0 P0 S0) (hs:zr6 P0 rows zak until_a2 most iv1 ziX ziY ziZ zi0 zi1=true) (hk:K (e57 (zr5 S0 rows zak until_a2 most iv1 ziX ziY ziZ zi0 zi1))):z57 K [1,0,1,0,0,1,1,0,0,1,0,1] [X0] ⟨[(0,zS zbZ 3 rows),(1,zI zak),(2,zI until_a2),(3,zP (.fn 58 [] [])),(4,zP (.fn 59 [] [])),(5,zI most),(6,zP (.fn 60 [] [])),(15,zI iv1),(16,zp 16 0),(17,zS zbZ 3 rows),(18,zI (rows.len:Int)),(19,zI ziX),(38,zB ziY)],[(16,.box 97 [zi ziZ,zi zi0,zi zi1])],[]⟩:=zaI (by kernel_rfl) (zc hs hk (λ hs hk=>hk) (λ hs hk=>(zG4 hX0 hs hk)))
def zyz (rows:(Sl FluxRow)) (zak:Int) (until_a2:Int) (most:Int) (S0:Int->Bool) (za7:Int):Bool :=
  (cond (decide (za7 < (rows.len : Int)))
 (cond (!(s51 (s58 (rows.get za7.toNat)) zak until_a2))
 (zr5 S0 rows zak until_a2 most za7 za7 true ((rows.get za7.toNat).Energy) ((rows.get za7.toNat).Rate.Low) ((rows.get za7.toNat).Rate.High))
 (zr5 S0 rows zak until_a2 most za7 za7 (!(s61 (s59 (rows.get za7.toNat)) (0:Int) most)) ((rows.get za7.toNat).Energy) ((rows.get za7.toNat).Rate.Low) ((rows.get za7.toNat).Rate.High)))
 (s51 (rows.len:Int) (1:Int) (40:Int)))
def zyA (rows:(Sl FluxRow)) (zak:Int) (until_a2:Int) (most:Int) (P0:Int->Bool) (za7:Int):Bool :=
  (cond (decide (za7 < (rows.len : Int)))
 (decide ((0<=za7/\za7 < (rows.len:Int))) &&
 (cond (!(s51 (s58 (rows.get za7.toNat)) zak until_a2))
 (zr6 P0 rows zak until_a2 most za7 za7 true ((rows.get za7.toNat).Energy) ((rows.get za7.toNat).Rate.Low) ((rows.get za7.toNat).Rate.High))
 (zr6 P0 rows zak until_a2 most za7 za7 (!(s61 (s59 (rows.get za7.toNat)) (0:Int) most)) ((rows.get za7.toNat).Energy) ((rows.get za7.toNat).Rate.Low) ((rows.get za7.toNat).Rate.High))))
 true)
def zyB (rows:(Sl FluxRow)) (zak:Int) (until_a2:Int) (most:Int):Nat->Int->Bool:=lpO (λ _=>default) (zyz rows zak until_a2 most)
def zyC (rows:(Sl FluxRow)) (zak:Int) (until_a2:Int) (most:Int):Nat->Int->Bool:=lpO (λ _=>false) (zyA rows zak until_a2 most)
def zyD (rows:(Sl FluxRow)) (zak:Int) (until_a2:Int) (most:Int) (za7:Int):Bool:=zyB rows zak until_a2 most Fuel za7
def zyE (rows:(Sl FluxRow)) (zak:Int) (until_a2:Int) (most:Int) (za7:Int):Bool:=zyC rows zak until_a2 most Fuel za7
theorem zG5 (hs:zyE rows zak until_a2 most za7=true) (hk:K (e57 (zyD rows zak until_a2 most za7))):z57 K [1,0,1,0] [] (zEE rows zak until_a2 most za7) :=
  zl (λ X=>z57 K [1,0,1,0,0] [X]) (by kernel_rfl) λ X0 hX =>
  (show ∀ k, zyv K rows zak until_a2 most X0 (zyC rows zak until_a2 most k) (zyB rows zak until_a2 most k) from zg4 _ _ (zyA rows zak until_a2 most) (zyz rows zak until_a2 most) (zyv K rows zak until_a2 most X0)
 (by intro _ hs;exact absurd hs dqk)
 (by intro P0 S0 hX0 za7 hs hk;exact hX _ (zaI (by kernel_rfl) (zc hs hk (λ hs hk=>(zaS hs λ hc hs=>And.intro hc (zc hs hk (λ hs hk=>(zyy hX0 hs hk)) (λ hs hk=>(zyy hX0 hs hk))))) (λ hs hk=>hk))))) _ hs hk
def s57 (rows:(Sl FluxRow)) (zak:Int) (until_a2:Int) (most:Int):Bool :=
  (zyD rows zak until_a2 most (0:Int))
def p57 (rows:(Sl FluxRow)) (zak:Int) (until_a2:Int) (most:Int):Bool :=
  (zyE rows zak until_a2 most (0:Int))
end
theorem q57 (rows:(Sl FluxRow)) (zak:Int) (until_a2:Int) (most:Int) (K:List PA->Prop) (hs:p57 rows zak until_a2 most=true) (hk:K (e57 (s57 rows zak until_a2 most))):vcFun Try.prog G57 zG3 57 [.one (.sl rows.len 3 (λ i=>zbZ (rows.get i))),.one (.int .i64 zak),.one (.int .i64 until_a2),.one (.fn 58 [] []),.one (.fn 59 [] []),.one (.int .i64 most),.one (.fn 60 [] [])] K :=
  zaI (by kernel_rfl) (zG5 hs hk)
def zG6 : List PA → COut
  | [.one (.sl zdd zfO zde),.one (.int .i64 a1),.one (.int .i64 a2),.one (.fn 58 [] []),.one (.fn 59 [] []),.one (.int .i64 a5),.one (.fn 60 [] [])]=>.det (IsE zbZ 3 zfO zde/\p57 (⟨zdd,zd2 zde⟩:(Sl FluxRow)) a1 a2 a5=true) [.one (.bool (s57 (⟨zdd,zd2 zde⟩:(Sl FluxRow)) a1 a2 a5))]
  | _=>.no
theorem zLK:zal Try.prog 57:=⟨_,rfl,rfl,by kernel_rfl⟩
theorem zRh:Ok Try.prog 57 zG6:=za5 zOT zLK λ args K h=>by
  unfold zG6 at h
  split at h
  · rename_i zdd zfO zde a1 a2 a5
    obtain⟨⟨⟨rfl,zd7,rfl⟩,hs⟩,hk⟩:=h
    try rw[zct zd7] at hs
    try rw[zct zd7] at hk
    exact⟨(λ _ _=>[]),(λ _=>false),zG3,q57 (⟨zdd,zd7⟩:(Sl FluxRow)) a1 a2 a5 K hs hk⟩
  · exact h.elim
abbrev T49:Tabs:=(((Tabs.nil.addF 51 zr3).addF 57 zG6).addF 61 zyu)
theorem zOU:TabsOk Try.prog T49:=(((TabsOk.nil.addF zLz).addF zRh).addF zOO)
abbrev G49:Ctrs:=csm T49 (λ _ _=>[]) (λ _=>false)
def zG7:Ann:=⟨44,[(0,zK [1] [1]),(1,zK [1,6,7,8] [1]),(2,zK [1,6,7,8,9] [1]),(3,zK [1,4,6,7,8] [1]),(4,zK [1,6,7,8,23] [1]),(5,zK [2] []),(6,zK [1,6,7,8] [1]),(7,zK [2] [])],
 [(2,zK [1,6,7,8] [1])],
 [(5,zK [1,6,7,8,23] [1]),(7,zK [1] [1])],
 [],[]⟩
abbrev R49:=Bool
abbrev e49 (r:R49):List PA:=[.one (.bool r)]
@[irreducible] def z49:=ptF Try.prog G49 zG7 Try.f49
def zEF (s:Sky) (zeC:(Sl (Sl FluxRow))) (zbp:Int) (zaJ:Int) (zbO:(Sl (Sl FluxRow))) (ze9:Nat->List PV) (zcL:Nat->List PV):St:=⟨[(1,zp 1 0),(6,zP (.sl zeC.len 1 ze9)),(7,zI zbp),(8,zI zaJ)],[(1,.box 67 (zm (zqz (⟨s.Parts,(⟨zbO.len,zdA zcL⟩:(Sl (Sl FluxRow))),s.Beta,s.Alpha⟩:Sky))))],[]⟩
abbrev zG8 (K:List PA->Prop) (s:Sky) (X:St->Prop) (P:(Sl (Sl FluxRow))->Int->Int->(Sl (Sl FluxRow))->Bool) (S:(Sl (Sl FluxRow))->Int->Int->(Sl (Sl FluxRow))->Bool):Prop:=∀ ⦃zeC:(Sl (Sl FluxRow))⦄ ⦃zbp:Int⦄ ⦃zaJ:Int⦄ ⦃zbO:(Sl (Sl FluxRow))⦄ ⦃ze9:Nat->List PV⦄ ⦃zcL:Nat->List PV⦄,P zeC zbp zaJ zbO=true->K (e49 (S zeC zbp zaJ zbO))->ze9=zg zdz zeC->zcL=zg zdz zbO->X (zEF s zeC zbp zaJ zbO ze9 zcL)
section
variable {K:List PA->Prop}{s:Sky}{zeC:(Sl (Sl FluxRow))}{zbp:Int}{zaJ:Int}{zbO:(Sl (Sl FluxRow))}{ze9:Nat->List PV}{zcL:Nat->List PV}{X0:St->Prop}{P0:(Sl (Sl FluxRow))->Int->Int->(Sl (Sl FluxRow))->Bool}{S0:(Sl (Sl FluxRow))->Int->Int->(Sl (Sl FluxRow))->Bool}{zqF:(Sl (Sl FluxRow))}{zeG:Int}{zd3:Int}{zr7:Bool}{zdB:(Sl (Sl FluxRow))}{zqG:Nat->List PV}{zfQ:Nat->List PV}{zc8:(Sl (Sl FluxRow))}{zdC:Nat->List PV}
def zyF (s:Sky) (zc8:(Sl (Sl FluxRow))):Bool :=
  (cond (s51 s.Parts (2:Int) (1000000:Int))
 (cond (s51 (zc8.len : Int) (1:Int) (20:Int))
 (cond (s61 s.Beta (-100:Int) (100:Int))
 (s61 s.Alpha (-100:Int) (100:Int))
 false)
 false)
 false)
theorem zG9 (hk:K (e49 (zyF s zc8))) (zg8:zdC=zg zdz zc8):z49 K [1,1] [] ⟨[(1,zp 1 0)],[(1,.box 67 (zm (zqz (⟨s.Parts,(⟨zc8.len,zdA zdC⟩:(Sl (Sl FluxRow))),s.Beta,s.Alpha⟩:Sky))))],[]⟩:=by subst zg8;exact zaI (by kernel_rfl) (zt hk (λ hk=>(zt hk (λ hk=>(zt hk (λ hk=>hk) (λ hk=>hk))) (λ hk=>hk))) (λ hk=>hk))
def zr8 (S0:(Sl (Sl FluxRow))->Int->Int->(Sl (Sl FluxRow))->Bool) (s:Sky) (zqF:(Sl (Sl FluxRow))) (zeG:Int) (zd3:Int) (zr7:Bool) (zdB:(Sl (Sl FluxRow))):Bool :=
  (cond zr7
 false
 (S0 zqF zeG (w64 (zd3+(1:Int))) zdB))
def zr9 (P0:(Sl (Sl FluxRow))->Int->Int->(Sl (Sl FluxRow))->Bool) (s:Sky) (zqF:(Sl (Sl FluxRow))) (zeG:Int) (zd3:Int) (zr7:Bool) (zdB:(Sl (Sl FluxRow))):Bool :=
  (cond zr7
 true
 (P0 zqF zeG (w64 (zd3+(1:Int))) zdB))
theorem zyG (hX0:zG8 K s X0 P0 S0) (hs:zr9 P0 s zqF zeG zd3 zr7 zdB=true) (hk:K (e49 (zr8 S0 s zqF zeG zd3 zr7 zdB))) (zyH:zqG=zg zdz zqF) (zi4:zfQ=zg zdz zdB):z49 K [1,0,1,0,0,1,1,0,0,1,1] [X0] ⟨[(1,zp 1 0),(6,zP (.sl zqF.len 1 zqG)),(7,zI zeG),(8,zI zd3),(23,zB zr7)],[(1,.box 67 (zm (zqz (⟨s.Parts,(⟨zdB.len,zdA zfQ⟩:(Sl (Sl FluxRow))),s.Beta,s.Alpha⟩:Sky))))],[]⟩:=by subst zyH;subst zi4;exact zaI (by kernel_rfl) (zc hs hk (λ hs hk=>hk) (λ hs hk=>(hX0 hs hk rfl rfl)))
def zyI (s:Sky) (S0:(Sl (Sl FluxRow))->Int->Int->(Sl (Sl FluxRow))->Bool) (zeC:(Sl (Sl FluxRow))) (zbp:Int) (zaJ:Int) (zbO:(Sl (Sl FluxRow))):Bool :=
  (cond (decide (zaJ < zbp))
 (cond (!(s57 (zeC.get zaJ.toNat) (1:Int) (1000000:Int) s.Parts))
 (zr8 S0 s zeC zbp zaJ true zbO)
 (zr8 S0 s zeC zbp zaJ (((zeC.get zaJ.toNat).get 0).Energy != (1:Int)) zbO))
 (zyF s zbO))
def zyJ (s:Sky) (P0:(Sl (Sl FluxRow))->Int->Int->(Sl (Sl FluxRow))->Bool) (zeC:(Sl (Sl FluxRow))) (zbp:Int) (zaJ:Int) (zbO:(Sl (Sl FluxRow))):Bool :=
  (cond (decide (zaJ < zbp))
 (decide ((0<=zaJ/\zaJ < (zeC.len:Int))) &&
 (decide ((p57 (zeC.get zaJ.toNat) (1:Int) (1000000:Int) s.Parts=true)) &&
 (cond (!(s57 (zeC.get zaJ.toNat) (1:Int) (1000000:Int) s.Parts))
 (zr9 P0 s zeC zbp zaJ true zbO)
 (decide ((0<=(0:Int)/\(0:Int) < ((zeC.get zaJ.toNat).len:Int))) &&
 (zr9 P0 s zeC zbp zaJ (((zeC.get zaJ.toNat).get 0).Energy != (1:Int)) zbO)))))
 true)
def zyK (s:Sky):Nat->(Sl (Sl FluxRow))->Int->Int->(Sl (Sl FluxRow))->Bool:=lpO (λ _ _ _ _=>default) (zyI s)
def zyL (s:Sky):Nat->(Sl (Sl FluxRow))->Int->Int->(Sl (Sl FluxRow))->Bool:=lpO (λ _ _ _ _=>false) (zyJ s)
def zyM (s:Sky) (zeC:(Sl (Sl FluxRow))) (zbp:Int) (zaJ:Int) (zbO:(Sl (Sl FluxRow))):Bool:=zyK s Fuel zeC zbp zaJ zbO
def zyN (s:Sky) (zeC:(Sl (Sl FluxRow))) (zbp:Int) (zaJ:Int) (zbO:(Sl (Sl FluxRow))):Bool:=zyL s Fuel zeC zbp zaJ zbO
theorem zHa (hs:zyN s zeC zbp zaJ zbO=true) (hk:K (e49 (zyM s zeC zbp zaJ zbO))) (zmP:ze9=zg zdz zeC) (zfR:zcL=zg zdz zbO):z49 K [1,0,1,0] [] (zEF s zeC zbp zaJ zbO ze9 zcL) :=
  zl (λ X=>z49 K [1,0,1,0,0] [X]) (by kernel_rfl) λ X0 hX =>
  (show ∀ k, zG8 K s X0 (zyL s k) (zyK s k) from zg4 _ _ (zyJ s) (zyI s) (zG8 K s X0)
 (by intro _ _ _ _ _ _ hs;exact absurd hs dqk)
 (by intro P0 S0 hX0 zeC zbp zaJ zbO ze9 zcL hs hk zmP zfR;subst zmP;subst zfR;exact hX _ (zaI (by kernel_rfl) (zc hs hk (λ hs hk=>(zaS hs λ hc hs=>And.intro hc (zaS hs λ hc hs=>And.intro (And.intro (zE zbZ 3 ((zeC.get zaJ.toNat).get)) hc) (zc hs hk (λ hs hk=>(zyG hX0 hs hk rfl rfl)) (λ hs hk=>(zaS hs λ hc hs=>And.intro hc (zyG hX0 hs hk rfl rfl))))))) (λ hs hk=>(zG9 hk rfl)))))) _ hs hk zmP zfR
def s49 (s:Sky):Bool :=
  (zyM s s.Bins (s.Bins.len:Int) (0:Int) s.Bins)
def p49 (s:Sky):Bool :=
  (zyN s s.Bins (s.Bins.len:Int) (0:Int) s.Bins)
end
theorem q49 (s:Sky) (K:List PA->Prop) (hs:p49 s=true) (hk:K (e49 (s49 s))):vcFun Try.prog G49 zG7 49 [.agg (zqz s)] K :=
  zaI (by kernel_rfl) (zHa hs hk rfl rfl)
def zHb : List PA → COut
  | [.agg [.int .i64 zcM,.sl zcj zfa zcp,.int .i64 zbI,.int .i64 zbl,.int .i64 zbm,.int .i64 zbb]]=>.det (IsE zdz 1 zfa zcp/\p49 (⟨zcM,(⟨zcj,zdA zcp⟩:(Sl (Sl FluxRow))),(⟨zbI,zbl⟩:Span),(⟨zbm,zbb⟩:Span)⟩:Sky)=true) [.one (.bool (s49 (⟨zcM,(⟨zcj,zdA zcp⟩:(Sl (Sl FluxRow))),(⟨zbI,zbl⟩:Span),(⟨zbm,zbb⟩:Span)⟩:Sky)))]
  | _=>.no
theorem zLL:zal Try.prog 49:=⟨_,rfl,rfl,by kernel_rfl⟩
theorem zRi:Ok Try.prog 49 zHb:=za5 zOU zLL λ args K h=>by
  unfold zHb at h
  split at h
  · rename_i zcM zcj zfa zcp zbI zbl zbm zbb
    obtain⟨⟨⟨rfl,zdo,rfl⟩,hs⟩,hk⟩:=h
    try rw[zdg zdo] at hs
    try rw[zdg zdo] at hk
    exact⟨(λ _ _=>[]),(λ _=>false),zG7,q49 (⟨zcM,(⟨zcj,zdo⟩:(Sl (Sl FluxRow))),(⟨zbI,zbl⟩:Span),(⟨zbm,zbb⟩:Span)⟩:Sky) K hs hk⟩
  · exact h.elim
abbrev T63:Tabs:=Tabs.nil
theorem zOV:TabsOk Try.prog T63:=TabsOk.nil
abbrev G63:Ctrs:=csm T63 (λ _ _=>[]) (λ _=>false)
def zLM:Ann:=⟨5,[(0,zK [1] [1]),(1,zK [2] [])],
 [],
 [],
 [],[]⟩
abbrev R63:=Int
abbrev e63 (r:R63):List PA:=[.one (.int .i64 r)]
section
variable {K:List PA->Prop}{r_a0:RangeRow}
def s63 (r_a0:RangeRow):Int :=
  r_a0.Energy
end
theorem q63 (r_a0:RangeRow) (K:List PA->Prop) (hk:K (e63 (s63 r_a0))):vcFun Try.prog G63 zLM 63 [.agg (zaO r_a0)] K :=
  zaI (by kernel_rfl) hk
def zHc : List PA → COut
  | [.agg [.int .i64 zaZ,.int .i64 zbz,.int .i64 zbo]]=>.tot [.one (.int .i64 (s63 (⟨zaZ,(⟨zbz,zbo⟩:Span)⟩:RangeRow)))]
  | _=>.no
theorem zLN:zal Try.prog 63:=⟨_,rfl,rfl,by kernel_rfl⟩
theorem zRj:Ok Try.prog 63 zHc:=za5 zOV zLN λ args K h=>by
  unfold zHc at h
  split at h
  · rename_i zaZ zbz zbo
    have hk:=h
    exact⟨(λ _ _=>[]),(λ _=>false),zLM,q63 (⟨zaZ,(⟨zbz,zbo⟩:Span)⟩:RangeRow) K hk⟩
  · exact h.elim
abbrev T64:Tabs:=Tabs.nil
theorem zOW:TabsOk Try.prog T64:=TabsOk.nil
abbrev G64:Ctrs:=csm T64 (λ _ _=>[]) (λ _=>false)
def zLO:Ann:=⟨5,[(0,zK [1,2] [1,2]),(1,zK [2] [2])],
 [],
 [],
 [],[]⟩
abbrev R64:=Span
abbrev e64 (r:R64):List PA:=[.agg [.int .i64 r.Low,.int .i64 r.High]]
section
variable {K:List PA->Prop}{r_a0:RangeRow}
def s64 (r_a0:RangeRow):Span :=
  r_a0.Range
end
theorem q64 (r_a0:RangeRow) (K:List PA->Prop) (hk:K (e64 (s64 r_a0))):vcFun Try.prog G64 zLO 64 [.agg (zaO r_a0)] K :=
  zaI (by kernel_rfl) hk
def zHd : List PA → COut
  | [.agg [.int .i64 zaZ,.int .i64 zbz,.int .i64 zbo]]=>.tot [.agg [.int .i64 ((s64 (⟨zaZ,(⟨zbz,zbo⟩:Span)⟩:RangeRow)).Low),.int .i64 ((s64 (⟨zaZ,(⟨zbz,zbo⟩:Span)⟩:RangeRow)).High)]]
  | _=>.no
theorem zLP:zal Try.prog 64:=⟨_,rfl,rfl,by kernel_rfl⟩
theorem zRk:Ok Try.prog 64 zHd:=za5 zOW zLP λ args K h=>by
  unfold zHd at h
  split at h
  · rename_i zaZ zbz zbo
    have hk:=h
    exact⟨(λ _ _=>[]),(λ _=>false),zLO,q64 (⟨zaZ,(⟨zbz,zbo⟩:Span)⟩:RangeRow) K hk⟩
  · exact h.elim
abbrev T62:Tabs:=(((((Tabs.nil.addF 51 zr3).addF 61 zyu).addF 63 zHc).addF 64 zHd).addF 65 zDF)
theorem zOX:TabsOk Try.prog T62:=(((((TabsOk.nil.addF zLz).addF zOO).addF zRj).addF zRk).addF zQq)
abbrev G62:Ctrs:=csm T62 (λ _ _=>[]) (λ _=>false)
def zHe:Ann:=⟨73,[(0,zK [0,1,2,3,4,5,6] []),(1,zK [0,1,2,3,4,5,6,17,18,19] []),(2,zK [0,1,2,3,4,5,6,17,18,19,20] []),(3,zK [0,1,2,3,4,5,6,15,16,17,18,19] [16]),(4,zK [0,1,2,3,4,5,6,15,16,17,18,19,38] [16]),(5,zK [14] []),(6,zK [0,1,2,3,4,5,6,17,18,19,68] []),(7,zK [14] []),(8,zK [0,1,2,3,4,5,6,17,18,19] []),(9,zK [14] [])],
 [(2,zK [0,1,2,3,4,5,6,17,18,19] [])],
 [(5,zK [0,1,2,3,4,5,6,15,16,17,18,19,38] [16]),(6,zK [0,1,2,3,4,5,6,15,16,17,18,19] [16]),(7,zK [0,1,2,3,4,5,6,17,18,19,68] [])],
 [],[]⟩
abbrev R62:=Bool
abbrev e62 (r:R62):List PA:=[.one (.bool r)]
@[irreducible] def z62:=ptF Try.prog G62 zHe Try.f62
def zEG (rows:(Sl RangeRow)) (zak:Int) (until_a2:Int) (most:Int) (za7:Int):St:=⟨[(0,zS zaO 3 rows),(1,zI zak),(2,zI until_a2),(3,zP (.fn 63 [] [])),(4,zP (.fn 64 [] [])),(5,zI most),(6,zP (.fn 65 [] [])),(17,zS zaO 3 rows),(18,zI (rows.len:Int)),(19,zI za7)],[],[]⟩
abbrev zyO (K:List PA->Prop) (rows:(Sl RangeRow)) (zak:Int) (until_a2:Int) (most:Int) (X:St->Prop) (P:Int->Bool) (S:Int->Bool):Prop:=∀ ⦃za7:Int⦄,P za7=true->K (e62 (S za7))->X (zEG rows zak until_a2 most za7)
section
variable {K:List PA->Prop}{rows:(Sl RangeRow)}{zak:Int}{until_a2:Int}{most:Int}{za7:Int}{X0:St->Prop}{P0:Int->Bool}{S0:Int->Bool}{iv1:Int}{ziX:Int}{ziY:Bool}{ziZ:Int}{zi0:Int}{zi1:Int}{iv2:Int}{zfP:Int}{zg5:Int}{zg6:Int}{zg7:Int}{zi2:Int}{zi3:Bool}
def zpc (S0:Int->Bool) (rows:(Sl RangeRow)) (zak:Int) (until_a2:Int) (most:Int) (zi2:Int) (zi3:Bool):Bool :=
  (cond zi3
 false
 (S0 (w64 (zi2+(1:Int)))))
def zpd (P0:Int->Bool) (rows:(Sl RangeRow)) (zak:Int) (until_a2:Int) (most:Int) (zi2:Int) (zi3:Bool):Bool :=
  (cond zi3
 true
 (P0 (w64 (zi2+(1:Int)))))
theorem zsa (hX0:zyO K rows zak until_a2 most X0 P0 S0) (hs:zpd P0 rows zak until_a2 most zi2 zi3=true) (hk:K (e62 (zpc S0 rows zak until_a2 most zi2 zi3))):z62 K [1,0,1,0,0,1,1,0,0,1,1,1] [X0] ⟨[(0,zS zaO 3 rows),(1,zI zak),(2,zI until_a2),(3,zP (.fn 63 [] [])),(4,zP (.fn 64 [] [])),(5,zI most),(6,zP (.fn 65 [] [])),(17,zS zaO 3 rows),(18,zI (rows.len:Int)),(19,zI zi2),(68,zB zi3)],[],[]⟩:=zaI (by kernel_rfl) (zc hs hk (λ hs hk=>hk) (λ hs hk=>(hX0 hs hk)))
def zyP (S0:Int->Bool) (rows:(Sl RangeRow)) (zak:Int) (until_a2:Int) (most:Int) (iv2:Int) (zfP:Int) (zg5:Int) (zg6:Int) (zg7:Int):Bool :=
  (cond (decide (iv2 > (0:Int)))
 (cond (decide ((s63 (⟨zg5, (⟨zg6, zg7⟩ : Span)⟩ : RangeRow)) <= (s63 (rows.get ((w64 (iv2 - (1:Int))).toNat)))))
 (zpc S0 rows zak until_a2 most zfP true)
 (zpc S0 rows zak until_a2 most zfP (!(s65 (s64 (rows.get ((w64 (iv2 - (1:Int))).toNat))) (s64 (⟨zg5,(⟨zg6,zg7⟩:Span)⟩:RangeRow))))))
 (zpc S0 rows zak until_a2 most zfP false))
def zyQ (P0:Int->Bool) (rows:(Sl RangeRow)) (zak:Int) (until_a2:Int) (most:Int) (iv2:Int) (zfP:Int) (zg5:Int) (zg6:Int) (zg7:Int):Bool :=
  (cond (decide (iv2 > (0:Int)))
 (decide ((0<=(w64 (iv2 - (1:Int)))/\(w64 (iv2 - (1:Int))) < (rows.len:Int))) &&
 (cond (decide ((s63 (⟨zg5, (⟨zg6, zg7⟩ : Span)⟩ : RangeRow)) <= (s63 (rows.get ((w64 (iv2 - (1:Int))).toNat)))))
 (zpd P0 rows zak until_a2 most zfP true)
 (decide ((0<=(w64 (iv2 - (1:Int)))/\(w64 (iv2 - (1:Int))) < (rows.len:Int))) &&
 (zpd P0 rows zak until_a2 most zfP (!(s65 (s64 (rows.get ((w64 (iv2 - (1:Int))).toNat))) (s64 (⟨zg5,(⟨zg6,zg7⟩:Span)⟩:RangeRow))))))))
 (zpd P0 rows zak until_a2 most zfP false))
theorem zHf (hX0:zyO K rows zak until_a2 most X0 P0 S0) (hs:zyQ P0 rows zak until_a2 most iv2 zfP zg5 zg6 zg7=true) (hk:K (e62 (zyP S0 rows zak until_a2 most iv2 zfP zg5 zg6 zg7))):z62 K [1,0,1,0,0,1,1,0,0,1,1] [X0] ⟨[(0,zS zaO 3 rows),(1,zI zak),(2,zI until_a2),(3,zP (.fn 63 [] [])),(4,zP (.fn 64 [] [])),(5,zI most),(6,zP (.fn 65 [] [])),(15,zI iv2),(16,zp 16 0),(17,zS zaO 3 rows),(18,zI (rows.len:Int)),(19,zI zfP)],[(16,.box 100 [zi zg5,zi zg6,zi zg7])],[]⟩:=zaI (by kernel_rfl) (zc hs hk (λ hs hk=>(zaS hs λ hc hs=>And.intro hc (zc hs hk (λ hs hk=>(zsa hX0 hs hk)) (λ hs hk=>(zaS hs λ hc hs=>And.intro hc (zsa hX0 hs hk)))))) (λ hs hk=>(zsa hX0 hs hk)))
def zsb (S0:Int->Bool) (rows:(Sl RangeRow)) (zak:Int) (until_a2:Int) (most:Int) (iv1:Int) (ziX:Int) (ziY:Bool) (ziZ:Int) (zi0:Int) (zi1:Int):Bool :=
  (cond ziY
 false
 (zyP S0 rows zak until_a2 most iv1 ziX ziZ zi0 zi1))
def zsc (P0:Int->Bool) (rows:(Sl RangeRow)) (zak:Int) (until_a2:Int) (most:Int) (iv1:Int) (ziX:Int) (ziY:Bool) (ziZ:Int) (zi0:Int) (zi1:Int):Bool :=
  (cond ziY
 true
 (zyQ P0 rows zak until_a2 most iv1 ziX ziZ zi0 zi1))
theorem zyR (hX0:zyO K rows zak until_a2 most X0 P0 S0) (hs:zsc P0 rows zak until_a2 most iv1 ziX ziY ziZ zi0 zi1=true) (hk:K (e62 (zsb S0 rows zak until_a2 most iv1 ziX ziY ziZ zi0 zi1))):z62 K [1,0,1,0,0,1,1,0,0,1,0,1] [X0] ⟨[(0,zS zaO 3 rows),(1,zI zak),(2,zI until_a2),(3,zP (.fn 63 [] [])),(4,zP (.fn 64 [] [])),(5,zI most),(6,zP (.fn 65 [] [])),(15,zI iv1),(16,zp 16 0),(17,zS zaO 3 rows),(18,zI (rows.len:Int)),(19,zI ziX),(38,zB ziY)],[(16,.box 100 [zi ziZ,zi zi0,zi zi1])],[]⟩:=zaI (by kernel_rfl) (zc hs hk (λ hs hk=>hk) (λ hs hk=>(zHf hX0 hs hk)))
def zyS (rows:(Sl RangeRow)) (zak:Int) (until_a2:Int) (most:Int) (S0:Int->Bool) (za7:Int):Bool :=
  (cond (decide (za7 < (rows.len : Int)))
 (cond (!(s51 (s63 (rows.get za7.toNat)) zak until_a2))
 (zsb S0 rows zak until_a2 most za7 za7 true ((rows.get za7.toNat).Energy) ((rows.get za7.toNat).Range.Low) ((rows.get za7.toNat).Range.High))
 (zsb S0 rows zak until_a2 most za7 za7 (!(s61 (s64 (rows.get za7.toNat)) (0:Int) most)) ((rows.get za7.toNat).Energy) ((rows.get za7.toNat).Range.Low) ((rows.get za7.toNat).Range.High)))
 (s51 (rows.len:Int) (1:Int) (40:Int)))
def zyT (rows:(Sl RangeRow)) (zak:Int) (until_a2:Int) (most:Int) (P0:Int->Bool) (za7:Int):Bool :=
  (cond (decide (za7 < (rows.len : Int)))
 (decide ((0<=za7/\za7 < (rows.len:Int))) &&
 (cond (!(s51 (s63 (rows.get za7.toNat)) zak until_a2))
 (zsc P0 rows zak until_a2 most za7 za7 true ((rows.get za7.toNat).Energy) ((rows.get za7.toNat).Range.Low) ((rows.get za7.toNat).Range.High))
 (zsc P0 rows zak until_a2 most za7 za7 (!(s61 (s64 (rows.get za7.toNat)) (0:Int) most)) ((rows.get za7.toNat).Energy) ((rows.get za7.toNat).Range.Low) ((rows.get za7.toNat).Range.High))))
 true)
def zyU (rows:(Sl RangeRow)) (zak:Int) (until_a2:Int) (most:Int):Nat->Int->Bool:=lpO (λ _=>default) (zyS rows zak until_a2 most)
def zyV (rows:(Sl RangeRow)) (zak:Int) (until_a2:Int) (most:Int):Nat->Int->Bool:=lpO (λ _=>false) (zyT rows zak until_a2 most)
def zyW (rows:(Sl RangeRow)) (zak:Int) (until_a2:Int) (most:Int) (za7:Int):Bool:=zyU rows zak until_a2 most Fuel za7
def zyX (rows:(Sl RangeRow)) (zak:Int) (until_a2:Int) (most:Int) (za7:Int):Bool:=zyV rows zak until_a2 most Fuel za7
theorem zHg (hs:zyX rows zak until_a2 most za7=true) (hk:K (e62 (zyW rows zak until_a2 most za7))):z62 K [1,0,1,0] [] (zEG rows zak until_a2 most za7) :=
  zl (λ X=>z62 K [1,0,1,0,0] [X]) (by kernel_rfl) λ X0 hX =>
  (show ∀ k, zyO K rows zak until_a2 most X0 (zyV rows zak until_a2 most k) (zyU rows zak until_a2 most k) from zg4 _ _ (zyT rows zak until_a2 most) (zyS rows zak until_a2 most) (zyO K rows zak until_a2 most X0)
 (by intro _ hs;exact absurd hs dqk)
 (by intro P0 S0 hX0 za7 hs hk;exact hX _ (zaI (by kernel_rfl) (zc hs hk (λ hs hk=>(zaS hs λ hc hs=>And.intro hc (zc hs hk (λ hs hk=>(zyR hX0 hs hk)) (λ hs hk=>(zyR hX0 hs hk))))) (λ hs hk=>hk))))) _ hs hk
def s62 (rows:(Sl RangeRow)) (zak:Int) (until_a2:Int) (most:Int):Bool :=
  (zyW rows zak until_a2 most (0:Int))
def p62 (rows:(Sl RangeRow)) (zak:Int) (until_a2:Int) (most:Int):Bool :=
  (zyX rows zak until_a2 most (0:Int))
end
theorem q62 (rows:(Sl RangeRow)) (zak:Int) (until_a2:Int) (most:Int) (K:List PA->Prop) (hs:p62 rows zak until_a2 most=true) (hk:K (e62 (s62 rows zak until_a2 most))):vcFun Try.prog G62 zHe 62 [.one (.sl rows.len 3 (λ i=>zaO (rows.get i))),.one (.int .i64 zak),.one (.int .i64 until_a2),.one (.fn 63 [] []),.one (.fn 64 [] []),.one (.int .i64 most),.one (.fn 65 [] [])] K :=
  zaI (by kernel_rfl) (zHg hs hk)
def zHh : List PA → COut
  | [.one (.sl zdd zfO zde),.one (.int .i64 a1),.one (.int .i64 a2),.one (.fn 63 [] []),.one (.fn 64 [] []),.one (.int .i64 a5),.one (.fn 65 [] [])]=>.det (IsE zaO 3 zfO zde/\p62 (⟨zdd,zbQ zde⟩:(Sl RangeRow)) a1 a2 a5=true) [.one (.bool (s62 (⟨zdd,zbQ zde⟩:(Sl RangeRow)) a1 a2 a5))]
  | _=>.no
theorem zLQ:zal Try.prog 62:=⟨_,rfl,rfl,by kernel_rfl⟩
theorem zRl:Ok Try.prog 62 zHh:=za5 zOX zLQ λ args K h=>by
  unfold zHh at h
  split at h
  · rename_i zdd zfO zde a1 a2 a5
    obtain⟨⟨⟨rfl,zd7,rfl⟩,hs⟩,hk⟩:=h
    try rw[za6 zd7] at hs
    try rw[za6 zd7] at hk
    exact⟨(λ _ _=>[]),(λ _=>false),zHe,q62 (⟨zdd,zd7⟩:(Sl RangeRow)) a1 a2 a5 K hs hk⟩
  · exact h.elim
abbrev T50:Tabs:=(Tabs.nil.addF 62 zHh)
theorem zOY:TabsOk Try.prog T50:=(TabsOk.nil.addF zRl)
abbrev G50:Ctrs:=csm T50 (λ _ _=>[]) (λ _=>false)
def zLR:Ann:=⟨5,[(0,zK [0] []),(1,zK [2] [])],
 [],
 [],
 [],[]⟩
abbrev R50:=Bool
abbrev e50 (r:R50):List PA:=[.one (.bool r)]
section
variable {K:List PA->Prop}{t:(Sl RangeRow)}
def s50 (t:(Sl RangeRow)):Bool :=
  (s62 t (1:Int) (1000000:Int) (1000000:Int))
def p50 (t:(Sl RangeRow)):Bool :=
  (decide ((p62 t (1:Int) (1000000:Int) (1000000:Int)=true)) &&
 true)
end
theorem q50 (t:(Sl RangeRow)) (K:List PA->Prop) (hs:p50 t=true) (hk:K (e50 (s50 t))):vcFun Try.prog G50 zLR 50 [.one (.sl t.len 3 (λ i=>zaO (t.get i)))] K :=
  zaI (by kernel_rfl) (zaS hs λ hc hs=>And.intro (And.intro (zE zaO 3 t.get) hc) hk)
def zHi : List PA → COut
  | [.one (.sl zdd zfO zde)]=>.det (IsE zaO 3 zfO zde/\p50 (⟨zdd,zbQ zde⟩:(Sl RangeRow))=true) [.one (.bool (s50 (⟨zdd,zbQ zde⟩:(Sl RangeRow))))]
  | _=>.no
theorem zLS:zal Try.prog 50:=⟨_,rfl,rfl,by kernel_rfl⟩
theorem zRm:Ok Try.prog 50 zHi:=za5 zOY zLS λ args K h=>by
  unfold zHi at h
  split at h
  · rename_i zdd zfO zde
    obtain⟨⟨⟨rfl,zd7,rfl⟩,hs⟩,hk⟩:=h
    try rw[za6 zd7] at hs
    try rw[za6 zd7] at hk
    exact⟨(λ _ _=>[]),(λ _=>false),zLR,q50 (⟨zdd,zd7⟩:(Sl RangeRow)) K hs hk⟩
  · exact h.elim
abbrev T33:Tabs:=((((((Tabs.nil.addF 34 zDE).addF 49 zHb).addF 50 zHi).addF 51 zr3).addF 52 zDA).addF 53 zDD)
theorem zOZ:TabsOk Try.prog T33:=((((((TabsOk.nil.addF zQp).addF zRi).addF zRm).addF zLz).addF zQm).addF zQo)
abbrev G33 (s:Sky) (t:(Sl RangeRow)) (bin:Int):Ctrs:=csm T33 (λ _=>ziW s t bin) (λ _=>false)
def zHj:Ann:=⟨33,[(0,zK [1,2,3,4] [4]),(1,zK [8,9] [14])],
 [],
 [],
 [],[]⟩
theorem zHk (s : Sky) (t : (Sl RangeRow)) (bin : Int) (opacity : Int) (K : List PA → Prop) :
  vcFun Try.prog (G33 s t bin) zHj 33 [.agg [.int .i64 s.Parts,.sl s.Bins.len 1 (λ i=>zdz (s.Bins.get i)),.int .i64 s.Beta.Low,.int .i64 s.Beta.High,.int .i64 s.Alpha.Low,.int .i64 s.Alpha.High],.one (.sl t.len 3 (λ i=>zaO (t.get i))),.one (.int .i64 bin),.one (.int .i64 opacity)] K =
  (((True)) /\
 ((IsE zdz 1 1 (λ i=>zdz (s.Bins.get i))/\(p49 s=true)) /\
 (zcJ (s49 s)
 ((IsE zaO 3 3 (λ i=>zaO (t.get i))/\(p50 t=true)) /\
 (zcJ (s50 t)
 (zcJ (s51 bin (0:Int) (w64 ((s.Bins.len : Int) - (1:Int))))
 (K [.one (.fp (zhZ (⟨s,t,(ziW s t bin)⟩:ground)) 0),.one (.bool (s51 opacity (0:Int) (1000000:Int)))])
 (K [.one (.fp (zhZ (⟨s,t,(ziW s t bin)⟩:ground)) 0),.one (.bool false)]))
 (K [.one (.fp (zhZ (⟨s,t,(ziW s t bin)⟩:ground)) 0),.one (.bool false)])))
 (K [.one (.fp (zhZ (⟨s,t,(ziW s t bin)⟩:ground)) 0),.one (.bool false)])))):=by kernel_rfl
abbrev e33 (r:(ground×Bool)):List PA:=[.one (.fp (zhZ r.1) 0),.one (.bool r.2)]
def s33 (s:Sky) (t:(Sl RangeRow)) (bin:Int) (opacity:Int):(ground×Bool) :=
  (cond (s49 s)
 (cond (s50 t)
 (cond (s51 bin (0:Int) (w64 ((s.Bins.len : Int) - (1:Int))))
 ((⟨s,t,(ziW s t bin)⟩:ground),(s51 opacity (0:Int) (1000000:Int)))
 ((⟨s,t,(ziW s t bin)⟩:ground),false))
 ((⟨s,t,(ziW s t bin)⟩:ground),false))
 ((⟨s,t,(ziW s t bin)⟩:ground),false))
def p33 (s:Sky) (t:(Sl RangeRow)) (bin:Int) (opacity:Int):Bool :=
  (decide ((True)) &&
 (decide ((p49 s=true)) &&
 (cond (s49 s)
 (decide ((p50 t=true)) &&
 true)
 true)))
theorem q33 (s:Sky) (t:(Sl RangeRow)) (bin:Int) (opacity:Int) (K:List PA->Prop) (hs:p33 s t bin opacity=true) (hk:K (e33 (s33 s t bin opacity))):vcFun Try.prog (G33 s t bin) zHj 33 [.agg [.int .i64 s.Parts,.sl s.Bins.len 1 (λ i=>zdz (s.Bins.get i)),.int .i64 s.Beta.Low,.int .i64 s.Beta.High,.int .i64 s.Alpha.Low,.int .i64 s.Alpha.High],.one (.sl t.len 3 (λ i=>zaO (t.get i))),.one (.int .i64 bin),.one (.int .i64 opacity)] K:=by
  refine zaI (zHk s t bin opacity K) ?_
  unfold p33 at hs
  unfold s33 at hk
  exact (zaS hs λ hc hs => ⟨hc, (zaS hs λ hc hs => ⟨⟨isE, hc⟩, (zDr (K := λ r => K (e33 r))
 (λ hs hk => (zaS hs λ hc hs => ⟨⟨isE, hc⟩, (zue (K := λ r => K (e33 r))
 (λ hk => (zue (K := λ r => K (e33 r))
 (λ hk=>hk)
 (λ hk=>hk) hk))
 (λ hk=>hk) hk)⟩))
 (λ hs hk=>hk) hs hk)⟩)⟩)
theorem k33 (s:Sky) (t:Sl RangeRow) (bin opacity:Int):(s33 s t bin opacity).1.known=ziW (s33 s t bin opacity).1.Sky (s33 s t bin opacity).1.table bin:=by
  unfold s33
  generalize s49 s=b1
  generalize s50 t=b2
  cases b1
  · rfl
  · cases b2
    · rfl
    · generalize s51 bin _ _ = b3
      cases b3 <;> rfl
def zHl : List PA → COut
  | [.agg [.int .i64 zcM,.sl zcj zfa zcp,.int .i64 zbI,.int .i64 zbl,.int .i64 zbm,.int .i64 zbb],.one (.sl zkr zxT zkI),.one (.int .i64 a2),.one (.int .i64 a3)]=>.det (IsE zdz 1 zfa zcp/\IsE zaO 3 zxT zkI/\p33 (⟨zcM,(⟨zcj,zdA zcp⟩:(Sl (Sl FluxRow))),(⟨zbI,zbl⟩:Span),(⟨zbm,zbb⟩:Span)⟩:Sky) (⟨zkr,zbQ zkI⟩:(Sl RangeRow)) a2 a3=true) [.one (.fp (zhZ ((s33 (⟨zcM,(⟨zcj,zdA zcp⟩:(Sl (Sl FluxRow))),(⟨zbI,zbl⟩:Span),(⟨zbm,zbb⟩:Span)⟩:Sky) (⟨zkr,zbQ zkI⟩:(Sl RangeRow)) a2 a3).1)) 0),.one (.bool ((s33 (⟨zcM,(⟨zcj,zdA zcp⟩:(Sl (Sl FluxRow))),(⟨zbI,zbl⟩:Span),(⟨zbm,zbb⟩:Span)⟩:Sky) (⟨zkr,zbQ zkI⟩:(Sl RangeRow)) a2 a3).2))]
  | _=>.no
theorem zLT:zal Try.prog 33:=⟨_,rfl,rfl,by kernel_rfl⟩
theorem zRn:Ok Try.prog 33 zHl:=za5 zOZ zLT λ args K h=>by
  unfold zHl at h
  split at h
  · rename_i zcM zcj zfa zcp zbI zbl zbm zbb zkr zxT zkI a2 a3
    obtain⟨⟨⟨rfl,zdo,rfl⟩,⟨rfl,zq4,rfl⟩,hs⟩,hk⟩:=h
    try rw[zdg zdo] at hs
    try rw[zdg zdo] at hk
    try rw[za6 zq4] at hs
    try rw[za6 zq4] at hk
    exact⟨(λ _=>ziW (⟨zcM,(⟨zcj,zdo⟩:(Sl (Sl FluxRow))),(⟨zbI,zbl⟩:Span),(⟨zbm,zbb⟩:Span)⟩:Sky) (⟨zkr,zq4⟩:(Sl RangeRow)) a2),(λ _=>false),zHj,q33 (⟨zcM,(⟨zcj,zdo⟩:(Sl (Sl FluxRow))),(⟨zbI,zbl⟩:Span),(⟨zbm,zbb⟩:Span)⟩:Sky) (⟨zkr,zq4⟩:(Sl RangeRow)) a2 a3 K hs hk⟩
  · exact h.elim
abbrev T16:Tabs:=((Tabs.nil.addF 33 zHl).addF 34 zDE)
theorem zO0:TabsOk Try.prog T16:=((TabsOk.nil.addF zRn).addF zQp)
abbrev G16:Ctrs:=csm T16 (λ _ _=>[]) (λ _=>false)
def zLU:Ann:=⟨27,[(0,zK [1,2,3,4,8] [4,8]),(1,zK [2,3,8,10,11] [8]),(2,zK [2,3,8,10,21] [8]),(3,zK [8,9] [8]),(4,zK [8,9] [8])],
 [],
 [],
 [],[]⟩
abbrev R16:=(Span×Int)
abbrev e16 (r:R16):List PA:=[.agg [.int .i64 r.1.Low,.int .i64 r.1.High],.one (.int .i64 r.2)]
section
variable {K:List PA->Prop}{s:Sky}{t:(Sl RangeRow)}{bin:Int}{opacity:Int}
def s16 (s:Sky) (t:(Sl RangeRow)) (bin:Int) (opacity:Int):(Span×Int) :=
  (cond (!((s33 s t bin opacity).2))
 ((⟨(0:Int),(0:Int)⟩:Span),(2:Int))
 ((s34 (((s33 s t bin opacity).1).Sky) (((s33 s t bin opacity).1).table) bin opacity),(0:Int)))
def p16 (s:Sky) (t:(Sl RangeRow)) (bin:Int) (opacity:Int):Bool :=
  (decide ((p33 s t bin opacity=true)) &&
 (cond (!((s33 s t bin opacity).2))
 true
 (decide ((p34 (((s33 s t bin opacity).1).Sky) (((s33 s t bin opacity).1).table) bin opacity=true)) &&
 true)))
end
theorem q16 (s:Sky) (t:(Sl RangeRow)) (bin:Int) (opacity:Int) (K:List PA->Prop) (hs:p16 s t bin opacity=true) (hk:K (e16 (s16 s t bin opacity))):vcFun Try.prog G16 zLU 16 [.agg (zqz s),.one (.sl t.len 3 (λ i=>zaO (t.get i))),.one (.int .i64 bin),.one (.int .i64 opacity)] K :=
  zaI (by kernel_rfl) (zaS hs λ hc hs=>And.intro (And.intro (zE zdz 1 s.Bins.get) (And.intro (zE zaO 3 t.get) hc)) (zc hs hk (λ hs hk=>hk) (λ hs hk=>(zaS hs λ hc hs=>And.intro (And.intro (zE zdz 1 (((s33 s t bin opacity).1).Sky.Bins.get)) (And.intro (zE zaO 3 (((s33 s t bin opacity).1).table.get)) (And.intro ((k33 s t bin opacity):((s33 s t bin opacity).1).known=(ziW (((s33 s t bin opacity).1).Sky) (((s33 s t bin opacity).1).table) bin)) hc))) hk))))
def zHm : List PA → COut
  | [.agg [.int .i64 zcM,.sl zcj zfa zcp,.int .i64 zbI,.int .i64 zbl,.int .i64 zbm,.int .i64 zbb],.one (.sl zkr zxT zkI),.one (.int .i64 a2),.one (.int .i64 a3)]=>.det (IsE zdz 1 zfa zcp/\IsE zaO 3 zxT zkI/\p16 (⟨zcM,(⟨zcj,zdA zcp⟩:(Sl (Sl FluxRow))),(⟨zbI,zbl⟩:Span),(⟨zbm,zbb⟩:Span)⟩:Sky) (⟨zkr,zbQ zkI⟩:(Sl RangeRow)) a2 a3=true) [.agg [.int .i64 (((s16 (⟨zcM,(⟨zcj,zdA zcp⟩:(Sl (Sl FluxRow))),(⟨zbI,zbl⟩:Span),(⟨zbm,zbb⟩:Span)⟩:Sky) (⟨zkr,zbQ zkI⟩:(Sl RangeRow)) a2 a3).1).Low),.int .i64 (((s16 (⟨zcM,(⟨zcj,zdA zcp⟩:(Sl (Sl FluxRow))),(⟨zbI,zbl⟩:Span),(⟨zbm,zbb⟩:Span)⟩:Sky) (⟨zkr,zbQ zkI⟩:(Sl RangeRow)) a2 a3).1).High)],.one (.int .i64 ((s16 (⟨zcM,(⟨zcj,zdA zcp⟩:(Sl (Sl FluxRow))),(⟨zbI,zbl⟩:Span),(⟨zbm,zbb⟩:Span)⟩:Sky) (⟨zkr,zbQ zkI⟩:(Sl RangeRow)) a2 a3).2))]
  | _=>.no
theorem call16:zal Try.prog 16:=⟨_,rfl,rfl,by kernel_rfl⟩
theorem ok16:Ok Try.prog 16 zHm:=za5 zO0 call16 λ args K h=>by
  unfold zHm at h
  split at h
  · rename_i zcM zcj zfa zcp zbI zbl zbm zbb zkr zxT zkI a2 a3
    obtain⟨⟨⟨rfl,zdo,rfl⟩,⟨rfl,zq4,rfl⟩,hs⟩,hk⟩:=h
    try rw[zdg zdo] at hs
    try rw[zdg zdo] at hk
    try rw[za6 zq4] at hs
    try rw[za6 zq4] at hk
    exact⟨(λ _ _=>[]),(λ _=>false),zLU,q16 (⟨zcM,(⟨zcj,zdo⟩:(Sl (Sl FluxRow))),(⟨zbI,zbl⟩:Span),(⟨zbm,zbb⟩:Span)⟩:Sky) (⟨zkr,zq4⟩:(Sl RangeRow)) a2 a3 K hs hk⟩
  · exact h.elim
abbrev T17:Tabs:=Tabs.nil
theorem zO1:TabsOk Try.prog T17:=TabsOk.nil
abbrev G17:Ctrs:=csm T17 (λ _ _=>[]) (λ _=>false)
def zLV:Ann:=⟨14,[(0,zK [0] [0]),(1,zK [0] [0,10])],
 [],
 [],
 [],[]⟩
abbrev R17:=Sky
abbrev e17 (r:R17):List PA:=[.agg [.int .i64 r.Parts,.sl r.Bins.len 1 (λ i=>zdz (r.Bins.get i)),.int .i64 r.Beta.Low,.int .i64 r.Beta.High,.int .i64 r.Alpha.Low,.int .i64 r.Alpha.High]]
section
variable {K:List PA->Prop}
def s17:Sky :=
  (⟨(1000:Int),(⟨1,λ _=>(⟨4,(zpK (⟨(1:Int),(⟨(400:Int),(500:Int)⟩:Span)⟩:FluxRow) [(⟨(1:Int),(⟨(400:Int),(500:Int)⟩:Span)⟩:FluxRow),(⟨(20:Int),(⟨(200:Int),(260:Int)⟩:Span)⟩:FluxRow),(⟨(50:Int),(⟨(80:Int),(100:Int)⟩:Span)⟩:FluxRow),(⟨(120:Int),(⟨(20:Int),(30:Int)⟩:Span)⟩:FluxRow)])⟩:(Sl FluxRow))⟩:(Sl (Sl FluxRow))),(⟨(2:Int),(3:Int)⟩:Span),(⟨(0:Int),(1:Int)⟩:Span)⟩:Sky)
end
theorem q17 (K:List PA->Prop) (hk:K (e17 (s17))):vcFun Try.prog G17 zLV 17 [] K :=
  zaI (by kernel_rfl) (Eq.mpr (congrArg K (congrArg (λ (g_:Nat->List PV)=>([.agg [.int .i64 (1000:Int),.sl 1 1 (λ _=>[.sl 4 3 g_]),.int .i64 (2:Int),.int .i64 (3:Int),.int .i64 (0:Int),.int .i64 (1:Int)]]:List PA)) (zo9 (enc:=zbZ) (x:=(⟨(1:Int),(⟨(400:Int),(500:Int)⟩:Span)⟩:FluxRow)) (y:=(⟨(20:Int),(⟨(200:Int),(260:Int)⟩:Span)⟩:FluxRow)) (r:=[(⟨(50:Int),(⟨(80:Int),(100:Int)⟩:Span)⟩:FluxRow),(⟨(120:Int),(⟨(20:Int),(30:Int)⟩:Span)⟩:FluxRow)])))) hk)
def zHn : List PA → COut
  | []=>.tot [.agg [.int .i64 ((s17).Parts),.sl ((s17).Bins.len) 1 (λ i=>zdz ((s17).Bins.get i)),.int .i64 ((s17).Beta.Low),.int .i64 ((s17).Beta.High),.int .i64 ((s17).Alpha.Low),.int .i64 ((s17).Alpha.High)]]
  | _=>.no
theorem zLW:zal Try.prog 17:=⟨_,rfl,rfl,by kernel_rfl⟩
theorem zRo:Ok Try.prog 17 zHn:=za5 zO1 zLW λ args K h=>by
  unfold zHn at h
  split at h
  · have hk := h
    exact⟨(λ _ _=>[]),(λ _=>false),zLV,q17 K hk⟩
  · exact h.elim
abbrev T18:Tabs:=Tabs.nil
theorem zO2:TabsOk Try.prog T18:=TabsOk.nil
abbrev G18:Ctrs:=csm T18 (λ _ _=>[]) (λ _=>false)
def zLX:Ann:=⟨8,[(0,zK [] []),(1,zK [0] [7])],
 [],
 [],
 [],[]⟩
abbrev R18:=(Sl RangeRow)
abbrev e18 (r:R18):List PA:=[.one (.sl r.len 3 (λ i=>zaO (r.get i)))]
section
variable {K:List PA->Prop}
def s18:(Sl RangeRow) :=
  (⟨3,(zpK (⟨(10:Int),(⟨(20:Int),(30:Int)⟩:Span)⟩:RangeRow) [(⟨(10:Int),(⟨(20:Int),(30:Int)⟩:Span)⟩:RangeRow),(⟨(40:Int),(⟨(90:Int),(120:Int)⟩:Span)⟩:RangeRow),(⟨(100:Int),(⟨(250:Int),(300:Int)⟩:Span)⟩:RangeRow)])⟩:(Sl RangeRow))
end
theorem q18 (K:List PA->Prop) (hk:K (e18 (s18))):vcFun Try.prog G18 zLX 18 [] K :=
  zaI (by kernel_rfl) (Eq.mpr (congrArg K (congrArg (λ (g_:Nat->List PV)=>([.one (.sl 3 3 g_)]:List PA)) (zo9 (enc:=zaO) (x:=(⟨(10:Int),(⟨(20:Int),(30:Int)⟩:Span)⟩:RangeRow)) (y:=(⟨(40:Int),(⟨(90:Int),(120:Int)⟩:Span)⟩:RangeRow)) (r:=[(⟨(100:Int),(⟨(250:Int),(300:Int)⟩:Span)⟩:RangeRow)])))) hk)
def zHo : List PA → COut
  | []=>.tot [.one (.sl ((s18).len) 3 (λ i=>zaO ((s18).get i)))]
  | _=>.no
theorem zLY:zal Try.prog 18:=⟨_,rfl,rfl,by kernel_rfl⟩
theorem zRp:Ok Try.prog 18 zHo:=za5 zO2 zLY λ args K h=>by
  unfold zHo at h
  split at h
  · have hk := h
    exact⟨(λ _ _=>[]),(λ _=>false),zLX,q18 K hk⟩
  · exact h.elim
abbrev T36:Tabs:=Tabs.nil
theorem zO3:TabsOk Try.prog T36:=TabsOk.nil
abbrev G36:Ctrs:=csm T36 (λ _ _=>[]) (λ _=>false)
def zLZ:Ann:=⟨15,[(0,zK [0,1,2] []),(1,zK [6] [])],
 [],
 [],
 [],[]⟩
abbrev R36:=Bool
abbrev e36 (r:R36):List PA:=[.one (.bool r)]
section
variable {K:List PA->Prop}{n:Int}{low:Int}{high:Int}
def s36 (n:Int) (low:Int) (high:Int):Bool :=
  (cond (decide (n >= low))
 (decide (n<=high))
 false)
end
theorem q36 (n:Int) (low:Int) (high:Int) (K:List PA->Prop) (hk:K (e36 (s36 n low high))):vcFun Try.prog G36 zLZ 36 [.one (.int .i64 n),.one (.int .i64 low),.one (.int .i64 high)] K :=
  zaI (by kernel_rfl) (zt hk (λ hk=>hk) (λ hk=>hk))
def zDG : List PA → COut
  | [.one (.int .i64 a0),.one (.int .i64 a1),.one (.int .i64 a2)]=>.tot [.one (.bool (s36 a0 a1 a2))]
  | _=>.no
theorem zL0:zal Try.prog 36:=⟨_,rfl,rfl,by kernel_rfl⟩
theorem zQr:Ok Try.prog 36 zDG:=za5 zO3 zL0 λ args K h=>by
  unfold zDG at h
  split at h
  · rename_i a0 a1 a2
    have hk:=h
    exact⟨(λ _ _=>[]),(λ _=>false),zLZ,q36 a0 a1 a2 K hk⟩
  · exact h.elim
abbrev T35:Tabs:=(Tabs.nil.addF 36 zDG)
theorem zO4:TabsOk Try.prog T35:=(TabsOk.nil.addF zQr)
abbrev G35:Ctrs:=csm T35 (λ _ _=>[]) (λ _=>false)
def zHp:Ann:=⟨28,[(0,zK [0,1] []),(1,zK [0,1,13] []),(2,zK [4,5] []),(3,zK [0,1,15] []),(4,zK [4,5] []),(5,zK [0,1,6] []),(6,zK [1,6,16,17] []),(7,zK [1,6,16,17,18] []),(8,zK [1,6,16,17,22] []),(9,zK [4,5] []),(10,zK [1,6,16,17] []),(11,zK [1,6,16,17] []),(12,zK [4,5] [])],
 [(7,zK [1,6,16,17] [])],
 [(2,zK [0,1,13] []),(3,zK [0,1] []),(5,zK [0,1] [])],
 [],[]⟩
abbrev R35:=(Int×Int)
abbrev e35 (r:R35):List PA:=[.one (.int .i64 r.1),.one (.int .i64 r.2)]
@[irreducible] def z35:=ptF Try.prog G35 zHp Try.f35
def zEH (slots:Int) (parts:Int) (nv3:Int) (zgu:Int):St:=⟨[(1,zI parts),(6,zI nv3),(16,zI slots),(17,zI zgu)],[],[]⟩
abbrev zL1 (K:List PA->Prop) (slots:Int) (parts:Int) (X:St->Prop) (P:Int->Int->Bool) (S:Int->Int->(Int×Int)):Prop:=∀ ⦃nv3:Int⦄ ⦃zgu:Int⦄,P nv3 zgu=true->K (e35 (S nv3 zgu))->X (zEH slots parts nv3 zgu)
section
variable {K:List PA->Prop}{slots:Int}{parts:Int}{zsd:Bool}{nv3:Int}{zgu:Int}{X3:St->Prop}{P3:Int->Int->Bool}{S3:Int->Int->(Int×Int)}
def zyY (slots:Int) (parts:Int) (S3:Int->Int->(Int×Int)) (nv3:Int) (zgu:Int):(Int×Int) :=
  (cond (decide (zgu < slots))
 (cond (decide (nv3 > (w64 ((1152921504606846976:Int).tdiv parts))))
 ((0:Int),(3:Int))
 (S3 (w64 (nv3 * parts)) (w64 (zgu+(1:Int)))))
 (nv3,(0:Int)))
def zyZ (slots:Int) (parts:Int) (P3:Int->Int->Bool) (nv3:Int) (zgu:Int):Bool :=
  (cond (decide (zgu < slots))
 (decide ((parts ≠ 0)) &&
 (cond (decide (nv3 > (w64 ((1152921504606846976:Int).tdiv parts))))
 true
 (P3 (w64 (nv3 * parts)) (w64 (zgu+(1:Int))))))
 true)
def zy0 (slots:Int) (parts:Int):Nat->Int->Int->(Int×Int):=lpO (λ _ _=>default) (zyY slots parts)
def zy1 (slots:Int) (parts:Int):Nat->Int->Int->Bool:=lpO (λ _ _=>false) (zyZ slots parts)
def zy2 (slots:Int) (parts:Int) (nv3:Int) (zgu:Int):(Int×Int):=zy0 slots parts Fuel nv3 zgu
def zy3 (slots:Int) (parts:Int) (nv3:Int) (zgu:Int):Bool:=zy1 slots parts Fuel nv3 zgu
theorem zHq (hs:zy3 slots parts nv3 zgu=true) (hk:K (e35 (zy2 slots parts nv3 zgu))):z35 K [1,1,1,1,0,1,0] [] (zEH slots parts nv3 zgu) :=
  zl (λ X=>z35 K [1,1,1,1,0,1,0,0] [X]) (by kernel_rfl) λ X3 hX =>
  (show ∀ k, zL1 K slots parts X3 (zy1 slots parts k) (zy0 slots parts k) from zg4 _ _ (zyZ slots parts) (zyY slots parts) (zL1 K slots parts X3)
 (by intro _ _ hs;exact absurd hs dqk)
 (by intro P3 S3 hX3 nv3 zgu hs hk;exact hX _ (zaI (by kernel_rfl) (zc hs hk (λ hs hk=>(zaS hs λ hc hs=>And.intro hc (zc hs hk (λ hs hk=>hk) (λ hs hk=>(hX3 hs hk))))) (λ hs hk=>hk))))) _ hs hk
def zy4 (slots:Int) (parts:Int):(Int×Int) :=
  (zy2 slots parts (1:Int) (0:Int))
def zy5 (slots:Int) (parts:Int):Bool :=
  (zy3 slots parts (1:Int) (0:Int))
theorem zHr (hs:zy5 slots parts=true) (hk:K (e35 (zy4 slots parts))):z35 K [1,1,1] [] ⟨[(0,zI slots),(1,zI parts)],[],[]⟩:=zaI (by kernel_rfl) (zHq hs hk)
def zy6 (slots:Int) (parts:Int):(Int×Int) :=
  (cond (decide (slots > (12:Int)))
 ((0:Int),(3:Int))
 (zy4 slots parts))
def zy7 (slots:Int) (parts:Int):Bool :=
  (cond (decide (slots > (12:Int)))
 true
 (zy5 slots parts))
theorem zHs (hs:zy7 slots parts=true) (hk:K (e35 (zy6 slots parts))):z35 K [1,1] [] ⟨[(0,zI slots),(1,zI parts)],[],[]⟩:=zaI (by kernel_rfl) (zc hs hk (λ hs hk=>hk) (λ hs hk=>(zHr hs hk)))
def zse (slots:Int) (parts:Int) (zsd:Bool):(Int×Int) :=
  (cond zsd
 ((0:Int),(2:Int))
 (zy6 slots parts))
def zsf (slots:Int) (parts:Int) (zsd:Bool):Bool :=
  (cond zsd
 true
 (zy7 slots parts))
theorem zy8 (hs:zsf slots parts zsd=true) (hk:K (e35 (zse slots parts zsd))):z35 K [1,0,1] [] ⟨[(0,zI slots),(1,zI parts),(13,zB zsd)],[],[]⟩:=zaI (by kernel_rfl) (zc hs hk (λ hs hk=>hk) (λ hs hk=>(zHs hs hk)))
def s35 (slots:Int) (parts:Int):(Int×Int) :=
  (cond (!(s36 parts (2:Int) (1000:Int)))
 (zse slots parts true)
 (zse slots parts (decide (slots < (0:Int)))))
def p35 (slots:Int) (parts:Int):Bool :=
  (cond (!(s36 parts (2:Int) (1000:Int)))
 (zsf slots parts true)
 (zsf slots parts (decide (slots < (0:Int)))))
end
theorem q35 (slots:Int) (parts:Int) (K:List PA->Prop) (hs:p35 slots parts=true) (hk:K (e35 (s35 slots parts))):vcFun Try.prog G35 zHp 35 [.one (.int .i64 slots),.one (.int .i64 parts)] K :=
  zaI (by kernel_rfl) (zc hs hk (λ hs hk=>(zy8 hs hk)) (λ hs hk=>(zy8 hs hk)))
def zHt : List PA → COut
  | [.one (.int .i64 a0),.one (.int .i64 a1)]=>.det (p35 a0 a1=true) [.one (.int .i64 ((s35 a0 a1).1)),.one (.int .i64 ((s35 a0 a1).2))]
  | _=>.no
theorem zL2:zal Try.prog 35:=⟨_,rfl,rfl,by kernel_rfl⟩
theorem zRq:Ok Try.prog 35 zHt:=za5 zO4 zL2 λ args K h=>by
  unfold zHt at h
  split at h
  · rename_i a0 a1
    obtain⟨hs,hk⟩:=h
    exact⟨(λ _ _=>[]),(λ _=>false),zHp,q35 a0 a1 K hs hk⟩
  · exact h.elim
abbrev T37:Tabs:=Tabs.nil
theorem zO5:TabsOk Try.prog T37:=TabsOk.nil
abbrev G37:Ctrs:=csm T37 (λ _ _=>[]) (λ _=>false)
def zHu:Ann:=⟨4,[(0,zK [1] [1]),(1,zK [2] [])],
 [],
 [],
 [],[]⟩
theorem zHv (slots : Int) (K : List PA → Prop) :
  vcFun Try.prog G37 zHu 37 [.one (.int .i64 slots)] K =
  (K [.one (.fn 54 [] [.fp (zaB slots) 0])]):=by kernel_rfl
theorem q37 (slots:Int) (K:List PA->Prop) (hk:K [.one (.fn 54 [] [.fp [.int .i64 slots] 0])]):vcFun Try.prog G37 zHu 37 [.one (.int .i64 slots)] K:=zaI (zHv slots K) hk
def zHw : List PA → COut
  | [.one (.int .i64 a0)]=>.det (True) [.one (.fn 54 [] [.fp [.int .i64 a0] 0])]
  | _=>.no
theorem zL3:zal Try.prog 37:=⟨_,rfl,rfl,by kernel_rfl⟩
theorem zRr:Ok Try.prog 37 zHw:=za5 zO5 zL3 λ args K h=>by
  unfold zHw at h
  split at h
  · rename_i a0
    obtain⟨_,hk⟩:=h
    exact⟨λ _ _=>[],λ _=>false,zHu,q37 a0 K hk⟩
  · exact h.elim
abbrev T38:Tabs:=Tabs.nil
theorem zO6:TabsOk Try.prog T38:=TabsOk.nil
abbrev G38:Ctrs:=csm T38 (λ _ _=>[]) (λ _=>false)
def zHx:Ann:=⟨27,[(0,zK [0,1,2] []),(1,zK [0,1,2,7] []),(2,zK [1,2,7,10,11,12] []),(3,zK [1,2,7,10,11,12,13] []),(4,zK [1,2,7,9,10,11,12] []),(5,zK [1,2,7,10,11,12,16] []),(6,zK [1,2,7,10,11,12] []),(7,zK [1,2,7,10,11,12] []),(8,zK [1,2,7,10,11,12] []),(9,zK [6] [])],
 [(3,zK [1,2,7,10,11,12] [])],
 [],
 [],[]⟩
abbrev R38:=Int
abbrev e38 (r:R38):List PA:=[.one (.int .i64 r)]
@[irreducible] def z38:=ptF Try.prog G38 zHx Try.f38
def zEI (slots:(Sl Bool)) (parts:Int) (rate:Int) (nv0:Int) (zdL:Int):St:=⟨[(1,zI parts),(2,zI rate),(7,zI nv0),(10,zS enc_4 1 slots),(11,zI (slots.len:Int)),(12,zI zdL)],[],[]⟩
abbrev zL4 (K:List PA->Prop) (slots:(Sl Bool)) (parts:Int) (rate:Int) (X:St->Prop) (P:Int->Int->Bool) (S:Int->Int->Int):Prop:=∀ ⦃nv0:Int⦄ ⦃zdL:Int⦄,P nv0 zdL=true->K (e38 (S nv0 zdL))->X (zEI slots parts rate nv0 zdL)
section
variable {K:List PA->Prop}{slots:(Sl Bool)}{parts:Int}{rate:Int}{nv0:Int}{zdL:Int}{X0:St->Prop}{P0:Int->Int->Bool}{S0:Int->Int->Int}
def zy9 (slots:(Sl Bool)) (parts:Int) (rate:Int) (S0:Int->Int->Int) (nv0:Int) (zdL:Int):Int :=
  (cond (decide (zdL < (slots.len : Int)))
 (cond (slots.get zdL.toNat)
 (S0 (w64 (nv0 * rate)) (w64 (zdL+(1:Int))))
 (S0 (w64 (nv0 * (w64 (parts - rate)))) (w64 (zdL+(1:Int)))))
 nv0)
def zza (slots:(Sl Bool)) (parts:Int) (rate:Int) (P0:Int->Int->Bool) (nv0:Int) (zdL:Int):Bool :=
  (cond (decide (zdL < (slots.len : Int)))
 (decide ((0<=zdL/\zdL < (slots.len:Int))) &&
 (cond (slots.get zdL.toNat)
 (P0 (w64 (nv0 * rate)) (w64 (zdL+(1:Int))))
 (P0 (w64 (nv0 * (w64 (parts - rate)))) (w64 (zdL+(1:Int))))))
 true)
def zzb (slots:(Sl Bool)) (parts:Int) (rate:Int):Nat->Int->Int->Int:=lpO (λ _ _=>default) (zy9 slots parts rate)
def zzc (slots:(Sl Bool)) (parts:Int) (rate:Int):Nat->Int->Int->Bool:=lpO (λ _ _=>false) (zza slots parts rate)
def zzd (slots:(Sl Bool)) (parts:Int) (rate:Int) (nv0:Int) (zdL:Int):Int:=zzb slots parts rate Fuel nv0 zdL
def zze (slots:(Sl Bool)) (parts:Int) (rate:Int) (nv0:Int) (zdL:Int):Bool:=zzc slots parts rate Fuel nv0 zdL
theorem zHy (hs:zze slots parts rate nv0 zdL=true) (hk:K (e38 (zzd slots parts rate nv0 zdL))):z38 K [1,1,0,1,0] [] (zEI slots parts rate nv0 zdL) :=
  zl (λ X=>z38 K [1,1,0,1,0,0] [X]) (by kernel_rfl) λ X0 hX =>
  (show ∀ k, zL4 K slots parts rate X0 (zzc slots parts rate k) (zzb slots parts rate k) from zg4 _ _ (zza slots parts rate) (zy9 slots parts rate) (zL4 K slots parts rate X0)
 (by intro _ _ hs;exact absurd hs dqk)
 (by intro P0 S0 hX0 nv0 zdL hs hk;exact hX _ (zaI (by kernel_rfl) (zc hs hk (λ hs hk=>(zaS hs λ hc hs=>And.intro hc (zc hs hk (λ hs hk=>(hX0 hs hk)) (λ hs hk=>(hX0 hs hk))))) (λ hs hk=>hk))))) _ hs hk
def s38 (slots:(Sl Bool)) (parts:Int) (rate:Int):Int :=
  (zzd slots parts rate (1:Int) (0:Int))
def p38 (slots:(Sl Bool)) (parts:Int) (rate:Int):Bool :=
  (zze slots parts rate (1:Int) (0:Int))
end
theorem q38 (slots:(Sl Bool)) (parts:Int) (rate:Int) (K:List PA->Prop) (hs:p38 slots parts rate=true) (hk:K (e38 (s38 slots parts rate))):vcFun Try.prog G38 zHx 38 [.one (.sl slots.len 1 (λ i=>enc_4 (slots.get i))),.one (.int .i64 parts),.one (.int .i64 rate)] K :=
  zaI (by kernel_rfl) (zHy hs hk)
def zHz : List PA → COut
  | [.one (.sl zdd zfO zde),.one (.int .i64 a1),.one (.int .i64 a2)]=>.det (IsE enc_4 1 zfO zde/\p38 (⟨zdd,zbj zde⟩:(Sl Bool)) a1 a2=true) [.one (.int .i64 (s38 (⟨zdd,zbj zde⟩:(Sl Bool)) a1 a2))]
  | _=>.no
theorem zL5:zal Try.prog 38:=⟨_,rfl,rfl,by kernel_rfl⟩
theorem zRs:Ok Try.prog 38 zHz:=za5 zO6 zL5 λ args K h=>by
  unfold zHz at h
  split at h
  · rename_i zdd zfO zde a1 a2
    obtain⟨⟨⟨rfl,zd7,rfl⟩,hs⟩,hk⟩:=h
    try rw[zfz zd7] at hs
    try rw[zfz zd7] at hk
    exact⟨(λ _ _=>[]),(λ _=>false),zHx,q38 (⟨zdd,zd7⟩:(Sl Bool)) a1 a2 K hs hk⟩
  · exact h.elim
abbrev four (y:Bool×Bool×Bool×Bool):Nat->List PV:=zlE 3 0 (zlE 2 0 (zlE 1 0 (zlE 0 0 (λ _=>enc_4 false) (enc_4 y.1)) (enc_4 y.2.1)) (enc_4 y.2.2.1)) (enc_4 y.2.2.2)
theorem zc5 {y:Bool×Bool×Bool×Bool} : IsE enc_4 1 1 (four y):=⟨rfl,λ i=>match i with | 0=>y.1 | 1=>y.2.1 | 2=>y.2.2.1 | 3=>y.2.2.2 | _=>false,funext λ i=>match i with | 0=>rfl | 1=>rfl | 2=>rfl | 3=>rfl | _+4=>rfl⟩
abbrev T54:Tabs:=Tabs.nil
theorem zO7:TabsOk Try.prog T54:=TabsOk.nil
abbrev G54:Ctrs:=csm T54 (λ _ _=>[]) (λ _=>false)
def zqH:Ann:=⟨32,[(0,zK [0,1,7,8] []),(1,zK [0,1,7,8,9] []),(2,zK [0,1,3,7,8] []),(3,zK [0,1,3,4,7,8] [12]),(4,zK [0,1,3,4,7,8,14,15] [12]),(5,zK [0,1,3,4,7,8,14,15,16] [12]),(6,zK [0,1,3,4,5,7,8,14,15] [12]),(7,zK [0,1,3,4,7,8,14,15] [12]),(8,zK [0,1,3,4,7,8,14,15] [12]),(9,zK [0,1,7,8,30] []),(10,zK [0,1,7,8] [])],
 [(1,zK [0,1,7,8] [])],
 [(9,⟨[0,1,4,7,8],[],[],[],[],[],[(4,1,λ _=>enc_4 default)]⟩)],
 [(5,5,zK [0,1,3,4,7,8,14,15] [12])],[9]⟩
def zmQ (l:Nat) (zaJ:Int):St:=⟨[(0,.one (.c (.p (.yl l)))),(1,.one (.c (.p (.fp [.int .i64 (4:Int)] 0)))),(7,.one (.c (.p (.int .i64 (zvQ .i64 (1:Int) (4:Int)))))),(8,.one (.c (.p (.int .i64 zaJ))))],[],[]⟩
def zmR (l:Nat) (ys:List (List PA)) (zaJ:Int):Prop:=vcY Try.prog G54 zqH l (cdF Try.f54 [1,0]) (zlb 0 zre) ys false (zmQ l zaJ)
theorem zHA (l : Nat) (ys : List (List PA)) :
  vcIter Try.prog G54 zqH 54 l [.one (.fp [.int .i64 (4:Int)] 0)] ys =
  (((0<=(4:Int))) /\
 (zmR l ys (0:Int))):=by kernel_rfl
def zqI (l:Nat) (X0:List (List PA)->Bool->St->Prop) (ys:List (List PA)) (zaJ:Int):Prop :=
  (zcJ (decide (zaJ < (zvQ .i64 (1:Int) (4:Int))))
 (((0<=(4:Int)/\(4:Int)=(4:Int)/\(4:Int)<=1000000)) /\
 (((0<=(0:Int))) /\
 (((0<=(0:Int)/\(0:Int) < (4:Int))) /\
 (((0 < 4)) /\
 (((0<=(1:Int))) /\
 (((0<=(1:Int)/\(1:Int) < (4:Int))) /\
 (((1 < 4)) /\
 (((0<=(2:Int))) /\
 (((0<=(2:Int)/\(2:Int) < (4:Int))) /\
 (((2 < 4)) /\
 (((0<=(3:Int))) /\
 (((0<=(3:Int)/\(3:Int) < (4:Int))) /\
 (((3 < 4)) /\
 (l=l/\∃ r1,ys=[.one (.sl 4 1 (zlE 3 0 (zlE 2 0 (zlE 1 0 (zlE 0 0 (λ _=>(enc_4 false)) (enc_4 ((zu3 .i64 (ztA .i64 zaJ (0:Int)) (1:Int)) == (1:Int)))) (enc_4 ((zu3 .i64 (ztA .i64 zaJ (1:Int)) (1:Int)) == (1:Int)))) (enc_4 ((zu3 .i64 (ztA .i64 zaJ (2:Int)) (1:Int)) == (1:Int)))) (enc_4 ((zu3 .i64 (ztA .i64 zaJ (3:Int)) (1:Int)) == (1:Int)))))] :: r1 /\
 (X0 r1 false (zmQ l (w64 (zaJ+(1:Int)))))/\True))))))))))))))
 (ys=[]))
theorem zsg (l : Nat) (X0 : List (List PA) → Bool → St → Prop) (ys : List (List PA)) (zaJ : Int) :
  vcY Try.prog G54 zqH l (cd (cdF Try.f54 [1,0]) [0]) (zvc Try.prog zqH 1 X0 (zlb 0 zre)) ys false (zmQ l zaJ) =
  zqI l X0 ys zaJ:=by kernel_rfl
theorem zzf (l : Nat) (ys : List (List PA)) (zaJ : Int)
  (h:∀ X0:List (List PA)->Bool->St->Prop,(∀ (ys:List (List PA)) (zaJ:Int),zqI l X0 ys zaJ->X0 ys false (zmQ l zaJ))->X0 ys false (zmQ l zaJ)) :
  zmR l ys zaJ:=by
  have e:zmR l ys zaJ=(∀ X:List (List PA)->Bool->St->Prop,(∀ ys q s,vcY Try.prog G54 zqH l (cd (cdF Try.f54 [1,0]) [0]) (zvc Try.prog zqH 1 X (zlb 0 zre)) ys q s->X ys q s)->X ys false (zmQ l zaJ)):=by kernel_rfl
  refine zaI e ?_
  intro X hX
  refine h X ?_
  intro ys zaJ hs
  refine hX _ _ _ ?_
  have e2:=zsg l X ys zaJ
  rw[e2]
  exact hs
attribute [irreducible] zmR
def zsh (S0:Int->List (Bool×Bool×Bool×Bool)) (zaJ:Int):List (Bool×Bool×Bool×Bool) :=
  (cond (decide (zaJ < (zvQ .i64 (1:Int) (4:Int))))
 ((((zu3 .i64 (ztA .i64 zaJ (0:Int)) (1:Int)) == (1:Int)),((zu3 .i64 (ztA .i64 zaJ (1:Int)) (1:Int)) == (1:Int)),((zu3 .i64 (ztA .i64 zaJ (2:Int)) (1:Int)) == (1:Int)),((zu3 .i64 (ztA .i64 zaJ (3:Int)) (1:Int)) == (1:Int))) :: (S0 (w64 (zaJ+(1:Int)))))
 [])
def zsi (P0:Int->Bool) (zaJ:Int):Bool :=
  (cond (decide (zaJ < (zvQ .i64 (1:Int) (4:Int))))
 (decide ((0<=(4:Int)/\(4:Int)=(4:Int)/\(4:Int)<=1000000)) &&
 (decide ((0<=(0:Int))) &&
 (decide ((0<=(0:Int)/\(0:Int) < (4:Int))) &&
 (decide ((0 < 4)) &&
 (decide ((0<=(1:Int))) &&
 (decide ((0<=(1:Int)/\(1:Int) < (4:Int))) &&
 (decide ((1 < 4)) &&
 (decide ((0<=(2:Int))) &&
 (decide ((0<=(2:Int)/\(2:Int) < (4:Int))) &&
 (decide ((2 < 4)) &&
 (decide ((0<=(3:Int))) &&
 (decide ((0<=(3:Int)/\(3:Int) < (4:Int))) &&
 (decide ((3 < 4)) &&
 (P0 (w64 (zaJ+(1:Int)))))))))))))))))
 true)
def zmS : Nat → Int → List (Bool × Bool × Bool × Bool)
  | 0=>λ _=>[]
  | k+1=>zsh (zmS k)
def zmT : Nat → Int → Bool
  | 0=>λ _=>false
  | k+1=>zsi (zmT k)
def zzg (zaJ:Int):List (Bool×Bool×Bool×Bool):=zmS Fuel zaJ
def zzh (zaJ:Int):Bool:=zmT Fuel zaJ
theorem zHB (l:Nat) (ys:List (List PA)) (zaJ:Int) (hs:zzh zaJ=true) (hk:ys=(zzg zaJ).map (λ y=>[.one (.sl 4 1 (four y))])):zmR l ys zaJ:=by
  refine zzf l ys zaJ ?_
  intro X0 hstep
  have key:∀ (k:Nat) (ys:List (List PA)) (zaJ:Int),zmT k zaJ=true->ys=(zmS k zaJ).map (λ y=>[.one (.sl 4 1 (four y))])->X0 ys false (zmQ l zaJ):=by
    intro k
    induction k with
    | zero=>intro ys zaJ hs;exact absurd hs dqk
    | succ k ih =>
      intro ys zaJ hs hk
      refine hstep ys zaJ ?_
      have hs:zsi (zmT k) zaJ=true:=hs
      have hk:ys=(zsh (zmS k) zaJ).map (λ y=>[.one (.sl 4 1 (four y))]):=hk
      unfold zsi at hs
      unfold zsh at hk
      generalize zmS k=S0 at hk ih
      generalize zmT k=P0 at hs ih
      have hX0:=ih
      exact (zua hs hk
 (λ hs hk=>(zaS hs λ hc hs=>⟨hc,(zaS hs λ hc hs=>⟨hc,(zaS hs λ hc hs=>⟨hc,(zaS hs λ hc hs=>⟨hc,(zaS hs λ hc hs=>⟨hc,(zaS hs λ hc hs=>⟨hc,(zaS hs λ hc hs=>⟨hc,(zaS hs λ hc hs=>⟨hc,(zaS hs λ hc hs=>⟨hc,(zaS hs λ hc hs=>⟨hc,(zaS hs λ hc hs=>⟨hc,(zaS hs λ hc hs=>⟨hc,(zaS hs λ hc hs=>⟨hc,(itY hk rfl (λ _ hk=>(hX0 _ (w64 (zaJ+(1:Int))) hs hk)))⟩)⟩)⟩)⟩)⟩)⟩)⟩)⟩)⟩)⟩)⟩)⟩)⟩))
 (fun hs hk=>hk))
  exact key _ _ zaJ hs hk
def s54:List (Bool×Bool×Bool×Bool) :=
  (zzg (0:Int))
def p54:Bool :=
  (decide ((0<=(4:Int))) &&
 (zzh (0:Int)))
theorem q54 (l:Nat) (ys:List (List PA)) (hs:p54=true) (hk:ys=(s54).map (λ y=>[.one (.sl 4 1 (four y))])):vcIter Try.prog G54 zqH 54 l [.one (.fp [.int .i64 (4:Int)] 0)] ys:=by
  refine zaI (zHA l ys) ?_
  unfold p54 at hs
  unfold s54 at hk
  exact (zaS hs λ hc hs=>⟨hc,(zHB l _ (0:Int) hs hk)⟩)
def zO8 : List PA → Option (Prop × List (List PA))
  | [.one (.fp [.int .i64 a] 0)]=>some (a=4/\p54=true,s54.map λ y=>[.one (.sl 4 1 (four y))])
  | _=>none
theorem zL6:zal Try.prog 54:=⟨_,rfl,rfl,by kernel_rfl⟩
theorem zRt:zCI Try.prog 54 zO8:=zEv zO7 zL6 λ l caps safe ys h hs=>by
  unfold zO8 at h
  split at h
  · cases h
    obtain⟨rfl,hs⟩:=hs
    exact⟨λ _ _=>[],λ _=>false,zqH,q54 l _ hs rfl⟩
  · cases h
abbrev T19:Tabs:=(((((Tabs.nil.addF 35 zHt).addF 36 zDG).addF 37 zHw).addF 38 zHz).addI 54 zO8)
theorem zO9:TabsOk Try.prog T19:=(((((TabsOk.nil.addF zRq).addF zQr).addF zRr).addF zRs).addI zRt)
abbrev G19:Ctrs:=csm T19 (λ _ _=>[]) (λ _=>false)
def zzi:Ann:=⟨60,[(0,zK [0,5,6,7] [5,6,7]),(1,zK [0,5,6,7,11] [5,6,7]),(2,zK [0,5,6,7,11,24] [5,6,7]),(3,zK [8,9] []),(4,zK [0,5,6,7,36] [5,6,7]),(5,zK [8,9] []),(6,zK [0,5,6,7,12] [5,6,7,12]),(7,zK [5,6,7,12,38] [5,6,7,12]),(8,zK [5,6,7,12,13,38] [5,6,7,12]),(9,zK [5,6,7,12,13,14,38] [5,6,7,12]),(10,zK [5,6,7,12,13,14,38,40,41,42] [5,6,7,12]),(11,zK [5,6,7,12,13,14,38,40,41,42,43] [5,6,7,12]),(12,zK [5,6,7,12,13,14,16,38,40,41,42] [5,6,7,12]),(13,zK [5,6,7,12,13,14,38,40,41,42,46] [5,6,7,12]),(14,zK [5,6,7,12,13,14,38,40,41,42] [5,6,7,12]),(15,zK [5,6,7,12,13,14,38,40,41,42] [5,6,7,12]),(16,zK [5,6,7,12,13,38,52] [5,6,7,12]),(17,zK [5,6,7,12,38] [5,6,7,12]),(18,zK [8,9] [])],
 [(8,zK [5,6,7,12,38] [5,6,7,12])],
 [],
 [(11,5,zK [5,6,7,12,13,14,38,40,41,42] [5,6,7,12])],[]⟩
abbrev R19:=(Int×Int)
abbrev e19 (r:R19):List PA:=[.one (.int .i64 r.1),.one (.int .i64 r.2)]
@[irreducible] def z19:=ptF Try.prog G19 zzi Try.f19
@[irreducible] def x19:=exF Try.prog G19 zzi Try.f19
@[irreducible] def y19:=rnF Try.prog G19 zzi Try.f19
def zzj (zbk:Int):St:=⟨[(5,zp 5 0),(6,zp 6 0),(7,zp 7 0),(12,zp 12 0),(38,zP (.fn 54 [] [.fp [.int .i64 (4:Int)] 0]))],[(5,.box 3 [zi (4:Int)]),(6,.box 3 [zi (1:Int)]),(7,.box 3 [zi (3:Int)]),(12,.box 3 [zi zbk])],[]⟩
abbrev zL7 (K:List PA->Prop) (X:St->Prop) (P:Int->Bool) (S:Int->(Int×Int)):Prop:=∀ ⦃zbk:Int⦄,P zbk=true->K (e19 (S zbk))->X (zzj zbk)
section
variable {K:List PA->Prop}{zbk:Int}
def zHC (zbk:Int):(Int×Int) :=
  (zbk,(0:Int))
def zHD (zbk:Int):Bool :=
  true
def zzk (y0:(Bool×Bool×Bool×Bool)) (S0:Int->(Int×Int)) (zbk:Int):(Int×Int) :=
  (cond y0.1
 (cond y0.2.1
 (cond y0.2.2.1
 (cond y0.2.2.2
 (cond (decide ((4:Int) >= (3:Int)))
 (S0 (w64 (zbk+(s38 (⟨4,zbj (four y0)⟩:(Sl Bool)) (4:Int) (1:Int)))))
 (S0 zbk))
 (cond (decide ((3:Int) >= (3:Int)))
 (S0 (w64 (zbk+(s38 (⟨4,zbj (four y0)⟩:(Sl Bool)) (4:Int) (1:Int)))))
 (S0 zbk)))
 (cond y0.2.2.2
 (cond (decide ((3:Int) >= (3:Int)))
 (S0 (w64 (zbk+(s38 (⟨4,zbj (four y0)⟩:(Sl Bool)) (4:Int) (1:Int)))))
 (S0 zbk))
 (cond (decide ((2:Int) >= (3:Int)))
 (S0 (w64 (zbk+(s38 (⟨4,zbj (four y0)⟩:(Sl Bool)) (4:Int) (1:Int)))))
 (S0 zbk))))
 (cond y0.2.2.1
 (cond y0.2.2.2
 (cond (decide ((3:Int) >= (3:Int)))
 (S0 (w64 (zbk+(s38 (⟨4,zbj (four y0)⟩:(Sl Bool)) (4:Int) (1:Int)))))
 (S0 zbk))
 (cond (decide ((2:Int) >= (3:Int)))
 (S0 (w64 (zbk+(s38 (⟨4,zbj (four y0)⟩:(Sl Bool)) (4:Int) (1:Int)))))
 (S0 zbk)))
 (cond y0.2.2.2
 (cond (decide ((2:Int) >= (3:Int)))
 (S0 (w64 (zbk+(s38 (⟨4,zbj (four y0)⟩:(Sl Bool)) (4:Int) (1:Int)))))
 (S0 zbk))
 (cond (decide ((1:Int) >= (3:Int)))
 (S0 (w64 (zbk+(s38 (⟨4,zbj (four y0)⟩:(Sl Bool)) (4:Int) (1:Int)))))
 (S0 zbk)))))
 (cond y0.2.1
 (cond y0.2.2.1
 (cond y0.2.2.2
 (cond (decide ((3:Int) >= (3:Int)))
 (S0 (w64 (zbk+(s38 (⟨4,zbj (four y0)⟩:(Sl Bool)) (4:Int) (1:Int)))))
 (S0 zbk))
 (cond (decide ((2:Int) >= (3:Int)))
 (S0 (w64 (zbk+(s38 (⟨4,zbj (four y0)⟩:(Sl Bool)) (4:Int) (1:Int)))))
 (S0 zbk)))
 (cond y0.2.2.2
 (cond (decide ((2:Int) >= (3:Int)))
 (S0 (w64 (zbk+(s38 (⟨4,zbj (four y0)⟩:(Sl Bool)) (4:Int) (1:Int)))))
 (S0 zbk))
 (cond (decide ((1:Int) >= (3:Int)))
 (S0 (w64 (zbk+(s38 (⟨4,zbj (four y0)⟩:(Sl Bool)) (4:Int) (1:Int)))))
 (S0 zbk))))
 (cond y0.2.2.1
 (cond y0.2.2.2
 (cond (decide ((2:Int) >= (3:Int)))
 (S0 (w64 (zbk+(s38 (⟨4,zbj (four y0)⟩:(Sl Bool)) (4:Int) (1:Int)))))
 (S0 zbk))
 (cond (decide ((1:Int) >= (3:Int)))
 (S0 (w64 (zbk+(s38 (⟨4,zbj (four y0)⟩:(Sl Bool)) (4:Int) (1:Int)))))
 (S0 zbk)))
 (cond y0.2.2.2
 (cond (decide ((1:Int) >= (3:Int)))
 (S0 (w64 (zbk+(s38 (⟨4,zbj (four y0)⟩:(Sl Bool)) (4:Int) (1:Int)))))
 (S0 zbk))
 (cond (decide ((0:Int) >= (3:Int)))
 (S0 (w64 (zbk+(s38 (⟨4,zbj (four y0)⟩:(Sl Bool)) (4:Int) (1:Int)))))
 (S0 zbk))))))
def zzl (y0:(Bool×Bool×Bool×Bool)) (P0:Int->Bool) (zbk:Int):Bool :=
  (decide ((0<=(0:Int)/\(0:Int) < (4:Int))) &&
 (cond y0.1
 (decide ((0<=(1:Int)/\(1:Int) < (4:Int))) &&
 (cond y0.2.1
 (decide ((0<=(2:Int)/\(2:Int) < (4:Int))) &&
 (cond y0.2.2.1
 (decide ((0<=(3:Int)/\(3:Int) < (4:Int))) &&
 (cond y0.2.2.2
 (cond (decide ((4:Int) >= (3:Int)))
 (decide ((p38 (⟨4,zbj (four y0)⟩:(Sl Bool)) (4:Int) (1:Int)=true)) &&
 (P0 (w64 (zbk+(s38 (⟨4,zbj (four y0)⟩:(Sl Bool)) (4:Int) (1:Int))))))
 (P0 zbk))
 (cond (decide ((3:Int) >= (3:Int)))
 (decide ((p38 (⟨4,zbj (four y0)⟩:(Sl Bool)) (4:Int) (1:Int)=true)) &&
 (P0 (w64 (zbk+(s38 (⟨4,zbj (four y0)⟩:(Sl Bool)) (4:Int) (1:Int))))))
 (P0 zbk))))
 (decide ((0<=(3:Int)/\(3:Int) < (4:Int))) &&
 (cond y0.2.2.2
 (cond (decide ((3:Int) >= (3:Int)))
 (decide ((p38 (⟨4,zbj (four y0)⟩:(Sl Bool)) (4:Int) (1:Int)=true)) &&
 (P0 (w64 (zbk+(s38 (⟨4,zbj (four y0)⟩:(Sl Bool)) (4:Int) (1:Int))))))
 (P0 zbk))
 (cond (decide ((2:Int) >= (3:Int)))
 (decide ((p38 (⟨4,zbj (four y0)⟩:(Sl Bool)) (4:Int) (1:Int)=true)) &&
 (P0 (w64 (zbk+(s38 (⟨4,zbj (four y0)⟩:(Sl Bool)) (4:Int) (1:Int))))))
 (P0 zbk))))))
 (decide ((0<=(2:Int)/\(2:Int) < (4:Int))) &&
 (cond y0.2.2.1
 (decide ((0<=(3:Int)/\(3:Int) < (4:Int))) &&
 (cond y0.2.2.2
 (cond (decide ((3:Int) >= (3:Int)))
 (decide ((p38 (⟨4,zbj (four y0)⟩:(Sl Bool)) (4:Int) (1:Int)=true)) &&
 (P0 (w64 (zbk+(s38 (⟨4,zbj (four y0)⟩:(Sl Bool)) (4:Int) (1:Int))))))
 (P0 zbk))
 (cond (decide ((2:Int) >= (3:Int)))
 (decide ((p38 (⟨4,zbj (four y0)⟩:(Sl Bool)) (4:Int) (1:Int)=true)) &&
 (P0 (w64 (zbk+(s38 (⟨4,zbj (four y0)⟩:(Sl Bool)) (4:Int) (1:Int))))))
 (P0 zbk))))
 (decide ((0<=(3:Int)/\(3:Int) < (4:Int))) &&
 (cond y0.2.2.2
 (cond (decide ((2:Int) >= (3:Int)))
 (decide ((p38 (⟨4,zbj (four y0)⟩:(Sl Bool)) (4:Int) (1:Int)=true)) &&
 (P0 (w64 (zbk+(s38 (⟨4,zbj (four y0)⟩:(Sl Bool)) (4:Int) (1:Int))))))
 (P0 zbk))
 (cond (decide ((1:Int) >= (3:Int)))
 (decide ((p38 (⟨4,zbj (four y0)⟩:(Sl Bool)) (4:Int) (1:Int)=true)) &&
 (P0 (w64 (zbk+(s38 (⟨4,zbj (four y0)⟩:(Sl Bool)) (4:Int) (1:Int))))))
 (P0 zbk))))))))
 (decide ((0<=(1:Int)/\(1:Int) < (4:Int))) &&
 (cond y0.2.1
 (decide ((0<=(2:Int)/\(2:Int) < (4:Int))) &&
 (cond y0.2.2.1
 (decide ((0<=(3:Int)/\(3:Int) < (4:Int))) &&
 (cond y0.2.2.2
 (cond (decide ((3:Int) >= (3:Int)))
 (decide ((p38 (⟨4,zbj (four y0)⟩:(Sl Bool)) (4:Int) (1:Int)=true)) &&
 (P0 (w64 (zbk+(s38 (⟨4,zbj (four y0)⟩:(Sl Bool)) (4:Int) (1:Int))))))
 (P0 zbk))
 (cond (decide ((2:Int) >= (3:Int)))
 (decide ((p38 (⟨4,zbj (four y0)⟩:(Sl Bool)) (4:Int) (1:Int)=true)) &&
 (P0 (w64 (zbk+(s38 (⟨4,zbj (four y0)⟩:(Sl Bool)) (4:Int) (1:Int))))))
 (P0 zbk))))
 (decide ((0<=(3:Int)/\(3:Int) < (4:Int))) &&
 (cond y0.2.2.2
 (cond (decide ((2:Int) >= (3:Int)))
 (decide ((p38 (⟨4,zbj (four y0)⟩:(Sl Bool)) (4:Int) (1:Int)=true)) &&
 (P0 (w64 (zbk+(s38 (⟨4,zbj (four y0)⟩:(Sl Bool)) (4:Int) (1:Int))))))
 (P0 zbk))
 (cond (decide ((1:Int) >= (3:Int)))
 (decide ((p38 (⟨4,zbj (four y0)⟩:(Sl Bool)) (4:Int) (1:Int)=true)) &&
 (P0 (w64 (zbk+(s38 (⟨4,zbj (four y0)⟩:(Sl Bool)) (4:Int) (1:Int))))))
 (P0 zbk))))))
 (decide ((0<=(2:Int)/\(2:Int) < (4:Int))) &&
 (cond y0.2.2.1
 (decide ((0<=(3:Int)/\(3:Int) < (4:Int))) &&
 (cond y0.2.2.2
 (cond (decide ((2:Int) >= (3:Int)))
 (decide ((p38 (⟨4,zbj (four y0)⟩:(Sl Bool)) (4:Int) (1:Int)=true)) &&
 (P0 (w64 (zbk+(s38 (⟨4,zbj (four y0)⟩:(Sl Bool)) (4:Int) (1:Int))))))
 (P0 zbk))
 (cond (decide ((1:Int) >= (3:Int)))
 (decide ((p38 (⟨4,zbj (four y0)⟩:(Sl Bool)) (4:Int) (1:Int)=true)) &&
 (P0 (w64 (zbk+(s38 (⟨4,zbj (four y0)⟩:(Sl Bool)) (4:Int) (1:Int))))))
 (P0 zbk))))
 (decide ((0<=(3:Int)/\(3:Int) < (4:Int))) &&
 (cond y0.2.2.2
 (cond (decide ((1:Int) >= (3:Int)))
 (decide ((p38 (⟨4,zbj (four y0)⟩:(Sl Bool)) (4:Int) (1:Int)=true)) &&
 (P0 (w64 (zbk+(s38 (⟨4,zbj (four y0)⟩:(Sl Bool)) (4:Int) (1:Int))))))
 (P0 zbk))
 (cond (decide ((0:Int) >= (3:Int)))
 (decide ((p38 (⟨4,zbj (four y0)⟩:(Sl Bool)) (4:Int) (1:Int)=true)) &&
 (P0 (w64 (zbk+(s38 (⟨4,zbj (four y0)⟩:(Sl Bool)) (4:Int) (1:Int))))))
 (P0 zbk))))))))))
def zzm:List (Bool×Bool×Bool×Bool)->Int->(Int×Int):=lpR (zHC) (zzk)
def zzn:List (Bool×Bool×Bool×Bool)->Int->Bool:=lpR (zHD) (zzl)
def zzo (zbk:Int):(Int×Int):=zzm (s54) zbk
def zzp (zbk:Int):Bool:=decide ((p54=true)) && zzn (s54) zbk
theorem zHE (hs:zzp zbk=true) (hk:K (e19 (zzo zbk))):z19 K [1,1,1,1,0,1,0] [] (zzj zbk) :=
  zaS hs λ hc hs=>zr (enc:=(λ y:(Bool×Bool×Bool×Bool)=>[.one (.sl 4 1 (four y))])) (ys:=s54) (g:=(zzj zbk)) (x19 K [1,1,1,1,0,1,0] []) (y19 K [1,1,1,1,0,1,0] []) (by kernel_rfl) (And.intro (rfl:(4:Int)=4) hc) λ X0 hE hR =>
  (show ∀ l : List (Bool × Bool × Bool × Bool), zL7 K (X0 (l.map (λ y : (Bool × Bool × Bool × Bool) => [.one (.sl 4 1 (four y))]))) (zzn l) (zzm l) from zri (X := X0) (enc := (λ y : (Bool × Bool × Bool × Bool) => [.one (.sl 4 1 (four y))])) _ _ (zzl) (zzk) (λ Z P S => zL7 K Z P S)
 (by intro zbk hs hk;exact hE _ (zaI (by kernel_rfl) hk))
 (by intro y0 rest P0 S0 hX0 zbk hs hk;exact hR _ rest _ (zaI (by kernel_rfl) (zaS hs λ hc hs=>And.intro hc (zc hs hk (λ hs hk=>(zaS hs λ hc hs=>And.intro hc (zc hs hk (λ hs hk=>(zaS hs λ hc hs=>And.intro hc (zc hs hk (λ hs hk=>(zaS hs λ hc hs=>And.intro hc (zc hs hk (λ hs hk=>(zc hs hk (λ hs hk=>(zaS hs λ hc hs=>And.intro (And.intro (zc5:IsE enc_4 1 1 (four y0)) hc) (hX0 hs hk))) (λ hs hk=>(hX0 hs hk)))) (λ hs hk=>(zc hs hk (λ hs hk=>(zaS hs λ hc hs=>And.intro (And.intro (zc5:IsE enc_4 1 1 (four y0)) hc) (hX0 hs hk))) (λ hs hk=>(hX0 hs hk))))))) (λ hs hk=>(zaS hs λ hc hs=>And.intro hc (zc hs hk (λ hs hk=>(zc hs hk (λ hs hk=>(zaS hs λ hc hs=>And.intro (And.intro (zc5:IsE enc_4 1 1 (four y0)) hc) (hX0 hs hk))) (λ hs hk=>(hX0 hs hk)))) (λ hs hk=>(zc hs hk (λ hs hk=>(zaS hs λ hc hs=>And.intro (And.intro (zc5:IsE enc_4 1 1 (four y0)) hc) (hX0 hs hk))) (λ hs hk=>(hX0 hs hk)))))))))) (λ hs hk=>(zaS hs λ hc hs=>And.intro hc (zc hs hk (λ hs hk=>(zaS hs λ hc hs=>And.intro hc (zc hs hk (λ hs hk=>(zc hs hk (λ hs hk=>(zaS hs λ hc hs=>And.intro (And.intro (zc5:IsE enc_4 1 1 (four y0)) hc) (hX0 hs hk))) (λ hs hk=>(hX0 hs hk)))) (λ hs hk=>(zc hs hk (λ hs hk=>(zaS hs λ hc hs=>And.intro (And.intro (zc5:IsE enc_4 1 1 (four y0)) hc) (hX0 hs hk))) (λ hs hk=>(hX0 hs hk))))))) (λ hs hk=>(zaS hs λ hc hs=>And.intro hc (zc hs hk (λ hs hk=>(zc hs hk (λ hs hk=>(zaS hs λ hc hs=>And.intro (And.intro (zc5:IsE enc_4 1 1 (four y0)) hc) (hX0 hs hk))) (λ hs hk=>(hX0 hs hk)))) (λ hs hk=>(zc hs hk (λ hs hk=>(zaS hs λ hc hs=>And.intro (And.intro (zc5:IsE enc_4 1 1 (four y0)) hc) (hX0 hs hk))) (λ hs hk=>(hX0 hs hk))))))))))))) (λ hs hk=>(zaS hs λ hc hs=>And.intro hc (zc hs hk (λ hs hk=>(zaS hs λ hc hs=>And.intro hc (zc hs hk (λ hs hk=>(zaS hs λ hc hs=>And.intro hc (zc hs hk (λ hs hk=>(zc hs hk (λ hs hk=>(zaS hs λ hc hs=>And.intro (And.intro (zc5:IsE enc_4 1 1 (four y0)) hc) (hX0 hs hk))) (λ hs hk=>(hX0 hs hk)))) (λ hs hk=>(zc hs hk (λ hs hk=>(zaS hs λ hc hs=>And.intro (And.intro (zc5:IsE enc_4 1 1 (four y0)) hc) (hX0 hs hk))) (λ hs hk=>(hX0 hs hk))))))) (λ hs hk=>(zaS hs λ hc hs=>And.intro hc (zc hs hk (λ hs hk=>(zc hs hk (λ hs hk=>(zaS hs λ hc hs=>And.intro (And.intro (zc5:IsE enc_4 1 1 (four y0)) hc) (hX0 hs hk))) (λ hs hk=>(hX0 hs hk)))) (λ hs hk=>(zc hs hk (λ hs hk=>(zaS hs λ hc hs=>And.intro (And.intro (zc5:IsE enc_4 1 1 (four y0)) hc) (hX0 hs hk))) (λ hs hk=>(hX0 hs hk)))))))))) (λ hs hk=>(zaS hs λ hc hs=>And.intro hc (zc hs hk (λ hs hk=>(zaS hs λ hc hs=>And.intro hc (zc hs hk (λ hs hk=>(zc hs hk (λ hs hk=>(zaS hs λ hc hs=>And.intro (And.intro (zc5:IsE enc_4 1 1 (four y0)) hc) (hX0 hs hk))) (λ hs hk=>(hX0 hs hk)))) (λ hs hk=>(zc hs hk (λ hs hk=>(zaS hs λ hc hs=>And.intro (And.intro (zc5:IsE enc_4 1 1 (four y0)) hc) (hX0 hs hk))) (λ hs hk=>(hX0 hs hk))))))) (λ hs hk=>(zaS hs λ hc hs=>And.intro hc (zc hs hk (λ hs hk=>(zc hs hk (λ hs hk=>(zaS hs λ hc hs=>And.intro (And.intro (zc5:IsE enc_4 1 1 (four y0)) hc) (hX0 hs hk))) (λ hs hk=>(hX0 hs hk)))) (λ hs hk=>(zc hs hk (λ hs hk=>(zaS hs λ hc hs=>And.intro (And.intro (zc5:IsE enc_4 1 1 (four y0)) hc) (hX0 hs hk))) (λ hs hk=>(hX0 hs hk)))))))))))))))))) _ hs hk
def s19:(Int×Int) :=
  (cond (((s35 (4:Int) (4:Int)).2) != (0:Int))
 ((0:Int),((s35 (4:Int) (4:Int)).2))
 (cond (!(s36 (1:Int) (0:Int) (4:Int)))
 ((0:Int),(2:Int))
 (cond (!(s36 (3:Int) (0:Int) (5:Int)))
 ((0:Int),(2:Int))
 (zzo (0:Int)))))
def p19:Bool :=
  (decide ((p35 (4:Int) (4:Int)=true)) &&
 (cond (((s35 (4:Int) (4:Int)).2) != (0:Int))
 true
 (cond (!(s36 (1:Int) (0:Int) (4:Int)))
 true
 (cond (!(s36 (3:Int) (0:Int) (5:Int)))
 true
 (decide ((True)) &&
 (zzp (0:Int)))))))
end
theorem q19 (K:List PA->Prop) (hs:p19=true) (hk:K (e19 (s19))):vcFun Try.prog G19 zzi 19 [.one (.int .i64 (4:Int)),.one (.int .i64 (4:Int)),.one (.int .i64 (1:Int)),.one (.int .i64 (3:Int))] K :=
  zaI (by kernel_rfl) (zaS hs λ hc hs=>And.intro hc (zc hs hk (λ hs hk=>hk) (λ hs hk=>(zc hs hk (λ hs hk=>hk) (λ hs hk=>(zc hs hk (λ hs hk=>hk) (λ hs hk=>(zaS hs λ hc hs=>And.intro hc (zHE hs hk)))))))))
def zHF : List PA → COut
  | [.one (.int .i64 a0),.one (.int .i64 a1),.one (.int .i64 a2),.one (.int .i64 a3)]=>.det (a0=4/\a1=4/\a2=1/\a3=3/\p19=true) [.one (.int .i64 s19.1),.one (.int .i64 s19.2)]
  | _=>.no
theorem zL8:zal Try.prog 19:=⟨_,rfl,rfl,by kernel_rfl⟩
theorem zRu:Ok Try.prog 19 zHF:=za5 zO9 zL8 λ args K h=>by
  unfold zHF at h
  split at h
  · obtain ⟨⟨rfl, rfl, rfl, rfl, hs⟩, hk⟩ := h
    exact⟨λ _ _=>[],λ _=>false,zzi,q19 K hs hk⟩
  · exact h.elim
abbrev T20:Tabs:=Tabs.nil
theorem zPa:TabsOk Try.prog T20:=TabsOk.nil
abbrev G20:Ctrs:=csm T20 (λ _ _=>[]) (λ _=>false)
def zHG:Ann:=⟨38,[(0,zK [2,3] [2,3]),(1,zK [2,3,19] [2,3]),(2,zK [4] []),(3,zK [2,3,5] [2,3]),(4,zK [2,3,5,24] [2,3]),(5,zK [2,3,5] [2,3]),(6,zK [2,3,5,37] [2,3]),(7,zK [4] []),(8,zK [4] [])],
 [(4,zK [2,3,5] [2,3])],
 [(3,zK [2,3] [2,3])],
 [],[]⟩
abbrev R20:=Bool
abbrev e20 (r:R20):List PA:=[.one (.bool r)]
@[irreducible] def z20:=ptF Try.prog G20 zHG Try.f20
def zEJ (a:Net) (b:Net) (iv1:Int):St:=⟨[(2,zp 2 0),(3,zp 3 0),(5,zI iv1)],[(2,.box 58 (zm (zhX a))),(3,.box 58 (zm (zhX b)))],[]⟩
abbrev zL9 (K:List PA->Prop) (a:Net) (b:Net) (X:St->Prop) (P:Int->Bool) (S:Int->Bool):Prop:=∀ ⦃iv1:Int⦄,P iv1=true->K (e20 (S iv1))->X (zEJ a b iv1)
section
variable {K:List PA->Prop}{a:Net}{b:Net}{iv1:Int}{X1:St->Prop}{P1:Int->Bool}{S1:Int->Bool}
def zzq (a:Net) (b:Net) (S1:Int->Bool) (iv1:Int):Bool :=
  (cond (decide (iv1 < (a.Ties.len : Int)))
 (cond (!(match ((a.Ties.get iv1.toNat).From == (b.Ties.get iv1.toNat).From) with | true => (match ((a.Ties.get iv1.toNat).To == (b.Ties.get iv1.toNat).To) with | true => (match ((a.Ties.get iv1.toNat).Low == (b.Ties.get iv1.toNat).Low) with | true => (match ((a.Ties.get iv1.toNat).High == (b.Ties.get iv1.toNat).High) with | true => true | false => false) | false => false) | false => false) | false => false))
 false
 (S1 (w64 (iv1+(1:Int)))))
 true)
def zzr (a:Net) (b:Net) (P1:Int->Bool) (iv1:Int):Bool :=
  (cond (decide (iv1 < (a.Ties.len : Int)))
 (decide ((0<=iv1/\iv1 < (a.Ties.len:Int))) &&
 (decide ((0<=iv1/\iv1 < (b.Ties.len:Int))) &&
 (cond (!(match ((a.Ties.get iv1.toNat).From == (b.Ties.get iv1.toNat).From) with | true => (match ((a.Ties.get iv1.toNat).To == (b.Ties.get iv1.toNat).To) with | true => (match ((a.Ties.get iv1.toNat).Low == (b.Ties.get iv1.toNat).Low) with | true => (match ((a.Ties.get iv1.toNat).High == (b.Ties.get iv1.toNat).High) with | true => true | false => false) | false => false) | false => false) | false => false))
 true
 (P1 (w64 (iv1+(1:Int)))))))
 true)
def zzs (a:Net) (b:Net):Nat->Int->Bool:=lpO (λ _=>default) (zzq a b)
def zzt (a:Net) (b:Net):Nat->Int->Bool:=lpO (λ _=>false) (zzr a b)
def zzu (a:Net) (b:Net) (iv1:Int):Bool:=zzs a b Fuel iv1
def zzv (a:Net) (b:Net) (iv1:Int):Bool:=zzt a b Fuel iv1
theorem zHH (hs:zzv a b iv1=true) (hk:K (e20 (zzu a b iv1))):z20 K [1,1,0,1,0] [] (zEJ a b iv1) :=
  zl (λ X=>z20 K [1,1,0,1,0,0] [X]) (by kernel_rfl) λ X1 hX =>
  (show ∀ k, zL9 K a b X1 (zzt a b k) (zzs a b k) from zg4 _ _ (zzr a b) (zzq a b) (zL9 K a b X1)
 (by intro _ hs;exact absurd hs dqk)
 (by intro P1 S1 hX1 iv1 hs hk;exact hX _ (zaI (by kernel_rfl) (zc hs hk (λ hs hk=>(zaS hs λ hc hs=>And.intro hc (zaS hs λ hc hs=>And.intro hc (zc hs hk (λ hs hk=>hk) (λ hs hk=>(hX1 hs hk)))))) (λ hs hk=>hk))))) _ hs hk
def zzw (a:Net) (b:Net):Bool :=
  (zzu a b (0:Int))
def zzx (a:Net) (b:Net):Bool :=
  (zzv a b (0:Int))
theorem zHI (hs:zzx a b=true) (hk:K (e20 (zzw a b))):z20 K [1,1] [] ⟨[(2,zp 2 0),(3,zp 3 0)],[(2,.box 58 (zm (zhX a))),(3,.box 58 (zm (zhX b)))],[]⟩:=zaI (by kernel_rfl) (zHH hs hk)
def s20 (a:Net) (b:Net):Bool :=
  (cond (a.Nodes != b.Nodes)
 false
 (cond ((a.Ties.len : Int) != (b.Ties.len : Int))
 false
 (zzw a b)))
def p20 (a:Net) (b:Net):Bool :=
  (cond (a.Nodes != b.Nodes)
 true
 (cond ((a.Ties.len : Int) != (b.Ties.len : Int))
 true
 (zzx a b)))
end
theorem q20 (a:Net) (b:Net) (K:List PA->Prop) (hs:p20 a b=true) (hk:K (e20 (s20 a b))):vcFun Try.prog G20 zHG 20 [.agg (zhX a),.agg (zhX b)] K :=
  zaI (by kernel_rfl) (zc hs hk (λ hs hk=>hk) (λ hs hk=>(zc hs hk (λ hs hk=>hk) (λ hs hk=>(zHI hs hk)))))
def zHJ : List PA → COut
  | [.agg [.int .i64 zdq,.sl zes zh0 zet],.agg [.int .i64 zlS,.sl zj8 zqJ zj9]]=>.det (IsE zdn 4 zh0 zet/\IsE zdn 4 zqJ zj9/\p20 (⟨zdq,(⟨zes,ziR zet⟩:(Sl Tie))⟩:Net) (⟨zlS,(⟨zj8,ziR zj9⟩:(Sl Tie))⟩:Net)=true) [.one (.bool (s20 (⟨zdq,(⟨zes,ziR zet⟩:(Sl Tie))⟩:Net) (⟨zlS,(⟨zj8,ziR zj9⟩:(Sl Tie))⟩:Net)))]
  | _=>.no
theorem zMa:zal Try.prog 20:=⟨_,rfl,rfl,by kernel_rfl⟩
theorem zRv:Ok Try.prog 20 zHJ:=za5 zPa zMa λ args K h=>by
  unfold zHJ at h
  split at h
  · rename_i zdq zes zh0 zet zlS zj8 zqJ zj9
    obtain⟨⟨⟨rfl,zfM,rfl⟩,⟨rfl,zmU,rfl⟩,hs⟩,hk⟩:=h
    try rw[zeP zfM] at hs
    try rw[zeP zfM] at hk
    try rw[zeP zmU] at hs
    try rw[zeP zmU] at hk
    exact⟨(λ _ _=>[]),(λ _=>false),zHG,q20 (⟨zdq,(⟨zes,zfM⟩:(Sl Tie))⟩:Net) (⟨zlS,(⟨zj8,zmU⟩:(Sl Tie))⟩:Net) K hs hk⟩
  · exact h.elim
abbrev T6:Tabs:=((((((Tabs.nil.addF 15 zGz).addF 16 zHm).addF 17 zHn).addF 18 zHo).addF 19 zHF).addF 20 zHJ)
theorem zRw:TabsOk Try.prog T6:=((((((TabsOk.nil.addF zQT).addF ok16).addF zRo).addF zRp).addF zRu).addF zRv)
abbrev G6:Ctrs:=csm T6 (λ _ _=>[]) (λ _=>false)
def zPb:Ann:=⟨50,[(0,zK [] []),(1,zK [1,2] [1]),(2,zK [1,2,3,4] [1,3]),(3,zK [1,2,3,4,5,6] [1,3]),(4,zK [0] [])],
 [],
 [(2,zK [1,2] [1]),(3,zK [1,2,3,4] [1,3]),(4,zK [1,2,3,4,5,6] [1,3])],
 [],[]⟩
abbrev R6:=Bool
abbrev e6 (r:R6):List PA:=[.one (.bool r)]
@[irreducible] def z6:=ptF Try.prog G6 zPb Try.f6
section
variable {K:List PA->Prop}{ev0:Int}{zgl:Int}{zfS:(Sl Tie)}{zzy:Nat->List PV}{fv1:Int}{zkJ:Int}{zkK:Int}
def zEK (ev0:Int) (zgl:Int) (zfS:(Sl Tie)) (fv1:Int) (zkJ:Int) (zkK:Int):Bool :=
  (cond (ev0 == (0:Int))
 (cond (fv1 == (0:Int))
 (cond (s19.2 == (0:Int))
 (cond (s20 (⟨zgl, zfS⟩ : Net) (⟨(3:Int), (⟨1, λ _ => (⟨(0:Int), (2:Int), (21:Int), (29:Int)⟩ : Tie)⟩ : (Sl Tie))⟩ : Net))
 (cond (match (zkJ == (20:Int)) with | true => (match (zkK == (500:Int)) with | true => true | false => false) | false => false)
 (s19.1 == (13:Int))
 false)
 false)
 false)
 false)
 false)
def zEL (ev0:Int) (zgl:Int) (zfS:(Sl Tie)) (fv1:Int) (zkJ:Int) (zkK:Int):Bool :=
  (cond (ev0 == (0:Int))
 (cond (fv1 == (0:Int))
 (cond (s19.2 == (0:Int))
 (decide ((p20 (⟨zgl,zfS⟩:Net) (⟨(3:Int),(⟨1,λ _=>(⟨(0:Int),(2:Int),(21:Int),(29:Int)⟩:Tie)⟩:(Sl Tie))⟩:Net)=true)) &&
 true)
 true)
 true)
 true)
theorem zMb (hs:zEL ev0 zgl zfS fv1 zkJ zkK=true) (hk:K (e6 (zEK ev0 zgl zfS fv1 zkJ zkK))):z6 K [1,1,1,1] [] ⟨[(1,zp 1 0),(2,zI ev0),(3,zp 3 0),(4,zI fv1),(5,zI s19.1),(6,zI s19.2)],[(1,.box 58 (zm (zhX (⟨zgl,zfS⟩:Net)))),(3,.box 30 (zm (zcb (⟨zkJ,zkK⟩:Span))))],[]⟩:=zaI (by kernel_rfl) (zc hs hk (λ hs hk=>(zc hs hk (λ hs hk=>(zc hs hk (λ hs hk=>(zaS hs λ hc hs=>And.intro (And.intro (zE zdn 4 zfS.get) (And.intro (zKO:IsE zdn 4 4 (λ _=>(zdn (⟨(0:Int),(2:Int),(21:Int),(29:Int)⟩:Tie)))) hc)) (zt hk (λ hk=>(zt hk (λ hk=>hk) (λ hk=>hk))) (λ hk=>hk)))) (λ hs hk=>hk))) (λ hs hk=>hk))) (λ hs hk=>hk))
def zEM (ev0:Int) (zgl:Int) (zfS:(Sl Tie)) (fv1:Int) (zkJ:Int) (zkK:Int):Bool :=
  (zEK ev0 zgl zfS fv1 zkJ zkK)
def zEN (ev0:Int) (zgl:Int) (zfS:(Sl Tie)) (fv1:Int) (zkJ:Int) (zkK:Int):Bool :=
  (decide ((p19=true)) &&
 (zEL ev0 zgl zfS fv1 zkJ zkK))
theorem zMc (hs:zEN ev0 zgl zfS fv1 zkJ zkK=true) (hk:K (e6 (zEM ev0 zgl zfS fv1 zkJ zkK))):z6 K [1,1,1] [] ⟨[(1,zp 1 0),(2,zI ev0),(3,zp 3 0),(4,zI fv1)],[(1,.box 58 (zm (zhX (⟨zgl,zfS⟩:Net)))),(3,.box 30 (zm (zcb (⟨zkJ,zkK⟩:Span))))],[]⟩:=zaI (by kernel_rfl) (zaS hs λ hc hs=>And.intro (And.intro (rfl:(4:Int)=4) (And.intro (rfl:(4:Int)=4) (And.intro (rfl:(1:Int)=1) (And.intro (rfl:(3:Int)=3) hc)))) (zMb hs hk))
def zEO (ev0:Int) (zgl:Int) (zfS:(Sl Tie)):Bool :=
  (zEM ev0 zgl zfS ((s16 s17 s18 (0:Int) (100:Int)).2) (((s16 s17 s18 (0:Int) (100:Int)).1).Low) (((s16 s17 s18 (0:Int) (100:Int)).1).High))
def zEP (ev0:Int) (zgl:Int) (zfS:(Sl Tie)):Bool :=
  (decide ((p16 s17 s18 (0:Int) (100:Int)=true)) &&
 (zEN ev0 zgl zfS ((s16 s17 s18 (0:Int) (100:Int)).2) (((s16 s17 s18 (0:Int) (100:Int)).1).Low) (((s16 s17 s18 (0:Int) (100:Int)).1).High)))
theorem zMd (hs:zEP ev0 zgl zfS=true) (hk:K (e6 (zEO ev0 zgl zfS))) (zHK:zzy=zg zdn zfS):z6 K [1,1] [] ⟨[(1,zp 1 0),(2,zI ev0)],[(1,.box 58 [zi zgl,.p (.sl zfS.len 4 zzy)])],[]⟩:=by subst zHK;exact zaI (by kernel_rfl) (zaS hs λ hc hs=>And.intro (And.intro (zE zdz 1 s17.Bins.get) (And.intro (zE zaO 3 s18.get) hc)) (zMc hs hk))
def s6:Bool :=
  (zEO ((s15 (3:Int) (⟨1,λ _=>(⟨(0:Int),(2:Int),(100:Int),(130:Int),(⟨(4:Int),(6:Int)⟩:Span),(3:Int)⟩:Pulse)⟩:(Sl Pulse))).2) (((s15 (3:Int) (⟨1,λ _=>(⟨(0:Int),(2:Int),(100:Int),(130:Int),(⟨(4:Int),(6:Int)⟩:Span),(3:Int)⟩:Pulse)⟩:(Sl Pulse))).1).Nodes) (((s15 (3:Int) (⟨1,λ _=>(⟨(0:Int),(2:Int),(100:Int),(130:Int),(⟨(4:Int),(6:Int)⟩:Span),(3:Int)⟩:Pulse)⟩:(Sl Pulse))).1).Ties))
def p6:Bool :=
  (decide ((p15 (3:Int) (⟨1,λ _=>(⟨(0:Int),(2:Int),(100:Int),(130:Int),(⟨(4:Int),(6:Int)⟩:Span),(3:Int)⟩:Pulse)⟩:(Sl Pulse))=true)) &&
 (zEP ((s15 (3:Int) (⟨1,λ _=>(⟨(0:Int),(2:Int),(100:Int),(130:Int),(⟨(4:Int),(6:Int)⟩:Span),(3:Int)⟩:Pulse)⟩:(Sl Pulse))).2) (((s15 (3:Int) (⟨1,λ _=>(⟨(0:Int),(2:Int),(100:Int),(130:Int),(⟨(4:Int),(6:Int)⟩:Span),(3:Int)⟩:Pulse)⟩:(Sl Pulse))).1).Nodes) (((s15 (3:Int) (⟨1,λ _=>(⟨(0:Int),(2:Int),(100:Int),(130:Int),(⟨(4:Int),(6:Int)⟩:Span),(3:Int)⟩:Pulse)⟩:(Sl Pulse))).1).Ties)))
end
theorem q6 (K:List PA->Prop) (hs:p6=true) (hk:K (e6 (s6))):vcFun Try.prog G6 zPb 6 [] K :=
  zaI (by kernel_rfl) (zaS hs λ hc hs=>And.intro (And.intro (zKO:IsE zhY 7 7 (λ _=>(zhY (⟨(0:Int),(2:Int),(100:Int),(130:Int),(⟨(4:Int),(6:Int)⟩:Span),(3:Int)⟩:Pulse)))) hc) (zMd hs hk rfl))
theorem zPc:p6=true:=by kernel_rfl
theorem zPd:s6=true:=by kernel_rfl
def zPe : List PA → COut
  | []=>.tot [.one (.bool true)]
  | _=>.no
theorem call6:zal Try.prog 6:=⟨_,rfl,rfl,by kernel_rfl⟩
theorem ok6:Ok Try.prog 6 zPe:=za5 zRw call6 λ args K h=>by
  unfold zPe at h
  split at h
  · refine ⟨fun _ _ => [], fun _ => false, zPb, q6 K zPc ?_⟩
    show K [.one (.bool s6)]
    rw[zPd];exact h
  · exact h.elim
abbrev T4:Tabs:=Tabs.nil
theorem zRx:TabsOk Try.prog T4:=TabsOk.nil
abbrev G4:Ctrs:=csm T4 (λ _ _=>[]) (λ _=>false)
def zPf:Ann:=⟨33,[(0,zK [1] [1]),(1,zK [1,3] [1]),(2,zK [1,3,8] [1]),(3,zK [1,3] [1]),(4,zK [1,3,28] [1]),(5,zK [2] []),(6,zK [2] [])],
 [(2,zK [1,3] [1])],
 [],
 [],[]⟩
abbrev R4:=Bool
abbrev e4 (r:R4):List PA:=[.one (.bool r)]
@[irreducible] def z4:=ptF Try.prog G4 zPf Try.f4
def zMe (s:Setup) (iv0:Int):St:=⟨[(1,zp 1 0),(3,zI iv0)],[(1,.box 24 (zm (enc_24 s)))],[]⟩
abbrev zQs (K:List PA->Prop) (s:Setup) (X:St->Prop) (P:Int->Bool) (S:Int->Bool):Prop:=∀ ⦃iv0:Int⦄,P iv0=true->K (e4 (S iv0))->X (zMe s iv0)
section
variable {K:List PA->Prop}{s:Setup}{iv0:Int}{X0:St->Prop}{P0:Int->Bool}{S0:Int->Bool}
def zn5 (s:Setup) (S0:Int->Bool) (iv0:Int):Bool :=
  (cond (decide (iv0 < (s.Planes.len : Int)))
 (cond (decide (((s.Planes.get iv0.toNat).Drift.len : Int) > (60:Int)))
 false
 (cond (decide (((s.Planes.get iv0.toNat).Dead.len : Int) > (110:Int)))
 false
 (S0 (w64 (iv0+(1:Int))))))
 (decide ((s.Planes.len:Int)<=(20:Int))))
def zn6 (s:Setup) (P0:Int->Bool) (iv0:Int):Bool :=
  (cond (decide (iv0 < (s.Planes.len : Int)))
 (decide ((0<=iv0/\iv0 < (s.Planes.len:Int))) &&
 (cond (decide (((s.Planes.get iv0.toNat).Drift.len : Int) > (60:Int)))
 true
 (decide ((0<=iv0/\iv0 < (s.Planes.len:Int))) &&
 (cond (decide (((s.Planes.get iv0.toNat).Dead.len : Int) > (110:Int)))
 true
 (P0 (w64 (iv0+(1:Int))))))))
 true)
def zn7 (s:Setup):Nat->Int->Bool:=lpO (λ _=>default) (zn5 s)
def zn8 (s:Setup):Nat->Int->Bool:=lpO (λ _=>false) (zn6 s)
def zEQ (s:Setup) (iv0:Int):Bool:=zn7 s Fuel iv0
def zER (s:Setup) (iv0:Int):Bool:=zn8 s Fuel iv0
theorem zMf (hs:zER s iv0=true) (hk:K (e4 (zEQ s iv0))):z4 K [1,0,1,0] [] (zMe s iv0) :=
  zl (λ X=>z4 K [1,0,1,0,0] [X]) (by kernel_rfl) λ X0 hX =>
  (show ∀ k, zQs K s X0 (zn8 s k) (zn7 s k) from zg4 _ _ (zn6 s) (zn5 s) (zQs K s X0)
 (by intro _ hs;exact absurd hs dqk)
 (by intro P0 S0 hX0 iv0 hs hk;exact hX _ (zaI (by kernel_rfl) (zc hs hk (λ hs hk=>(zaS hs λ hc hs=>And.intro hc (zc hs hk (λ hs hk=>hk) (λ hs hk=>(zaS hs λ hc hs=>And.intro hc (zc hs hk (λ hs hk=>hk) (λ hs hk=>(hX0 hs hk)))))))) (λ hs hk=>hk))))) _ hs hk
def s4 (s:Setup):Bool :=
  (zEQ s (0:Int))
def p4 (s:Setup):Bool :=
  (zER s (0:Int))
end
theorem q4 (s:Setup) (K:List PA->Prop) (hs:p4 s=true) (hk:K (e4 (s4 s))):vcFun Try.prog G4 zPf 4 [.agg (enc_24 s)] K :=
  zaI (by kernel_rfl) (zMf hs hk)
def zPg : List PA → COut
  | [.agg [.sl zar zba zas]]=>.det (IsE enc_34 15 zba zas/\p4 (⟨(⟨zar,zbA zas⟩:(Sl Plane))⟩:Setup)=true) [.one (.bool (s4 (⟨(⟨zar,zbA zas⟩:(Sl Plane))⟩:Setup)))]
  | _=>.no
theorem call4:zal Try.prog 4:=⟨_,rfl,rfl,by kernel_rfl⟩
theorem ok4:Ok Try.prog 4 zPg:=za5 zRx call4 λ args K h=>by
  unfold zPg at h
  split at h
  · rename_i zar zba zas
    obtain⟨⟨⟨rfl,zaM,rfl⟩,hs⟩,hk⟩:=h
    try rw[zbT zaM] at hs
    try rw[zbT zaM] at hk
    exact⟨(λ _ _=>[]),(λ _=>false),zPf,q4 (⟨(⟨zar,zaM⟩:(Sl Plane))⟩:Setup) K hs hk⟩
  · exact h.elim
abbrev T13:Tabs:=Tabs.nil
theorem zPh:TabsOk Try.prog T13:=TabsOk.nil
abbrev G13:Ctrs:=csm T13 (λ _ _=>[]) (λ _=>false)
def zMg:Ann:=⟨15,[(0,zK [0,1,2] []),(1,zK [6] [])],
 [],
 [],
 [],[]⟩
abbrev R13:=Bool
abbrev e13 (r:R13):List PA:=[.one (.bool r)]
section
variable {K:List PA->Prop}{x:Int}{low:Int}{high:Int}
def s13 (x:Int) (low:Int) (high:Int):Bool :=
  (cond (decide (x >= low))
 (decide (x<=high))
 false)
end
theorem q13 (x:Int) (low:Int) (high:Int) (K:List PA->Prop) (hk:K (e13 (s13 x low high))):vcFun Try.prog G13 zMg 13 [.one (.int .i64 x),.one (.int .i64 low),.one (.int .i64 high)] K :=
  zaI (by kernel_rfl) (zt hk (λ hk=>hk) (λ hk=>hk))
def zvD : List PA → COut
  | [.one (.int .i64 a0),.one (.int .i64 a1),.one (.int .i64 a2)]=>.tot [.one (.bool (s13 a0 a1 a2))]
  | _=>.no
theorem zMh:zal Try.prog 13:=⟨_,rfl,rfl,by kernel_rfl⟩
theorem zNY:Ok Try.prog 13 zvD:=za5 zPh zMh λ args K h=>by
  unfold zvD at h
  split at h
  · rename_i a0 a1 a2
    have hk:=h
    exact⟨(λ _ _=>[]),(λ _=>false),zMg,q13 a0 a1 a2 K hk⟩
  · exact h.elim
abbrev T29:Tabs:=(Tabs.nil.addF 13 zvD)
theorem zPi:TabsOk Try.prog T29:=(TabsOk.nil.addF zNY)
abbrev G29:Ctrs:=csm T29 (λ _ _=>[]) (λ _=>false)
def zMi:Ann:=⟨5,[(0,zK [0] []),(1,zK [2] [])],
 [],
 [],
 [],[]⟩
abbrev R29:=Bool
abbrev e29 (r:R29):List PA:=[.one (.bool r)]
section
variable {K:List PA->Prop}{x:Int}
def s29 (x:Int):Bool :=
  (s13 x (-1000000:Int) (1000000:Int))
end
theorem q29 (x:Int) (K:List PA->Prop) (hk:K (e29 (s29 x))):vcFun Try.prog G29 zMi 29 [.one (.int .i64 x)] K :=
  zaI (by kernel_rfl) hk
def zHL : List PA → COut
  | [.one (.int .i64 a0)]=>.tot [.one (.bool (s29 a0))]
  | _=>.no
theorem zMj:zal Try.prog 29:=⟨_,rfl,rfl,by kernel_rfl⟩
theorem zRy:Ok Try.prog 29 zHL:=za5 zPi zMj λ args K h=>by
  unfold zHL at h
  split at h
  · rename_i a0
    have hk:=h
    exact⟨(λ _ _=>[]),(λ _=>false),zMi,q29 a0 K hk⟩
  · exact h.elim
abbrev T30:Tabs:=(Tabs.nil.addF 13 zvD)
theorem zPj:TabsOk Try.prog T30:=(TabsOk.nil.addF zNY)
abbrev G30:Ctrs:=csm T30 (λ _ _=>[]) (λ _=>false)
def zHM:Ann:=⟨86,[(0,zK [0,1] []),(1,zK [0,1,5] []),(2,zK [0,1,5,10] []),(3,zK [0,1,5] []),(4,zK [0,1,5,6] [6]),(5,zK [0,1,5,6,43] [6]),(6,zK [4] []),(7,zK [0,1,5,82] []),(8,zK [4] []),(9,zK [4] [])],
 [(2,zK [0,1,5] [])],
 [(6,zK [0,1,5,6,43] [6]),(7,zK [0,1,5,6] [6])],
 [],[]⟩
abbrev R30:=Bool
abbrev e30 (r:R30):List PA:=[.one (.bool r)]
@[irreducible] def z30:=ptF Try.prog G30 zHM Try.f30
def zES (l_a0:(Sl Drift)) (pitch:Int) (iv0:Int):St:=⟨[(0,zS zaz 3 l_a0),(1,zI pitch),(5,zI iv0)],[],[]⟩
abbrev zDH (K:List PA->Prop) (l_a0:(Sl Drift)) (pitch:Int) (X:St->Prop) (P:Int->Bool) (S:Int->Bool):Prop:=∀ ⦃iv0:Int⦄,P iv0=true->K (e30 (S iv0))->X (zES l_a0 pitch iv0)
section
variable {K:List PA->Prop}{l_a0:(Sl Drift)}{pitch:Int}{iv0:Int}{X0:St->Prop}{P0:Int->Bool}{S0:Int->Bool}{iv1:Int}{zsj:Bool}{zi5:Int}{zi6:Int}{zi7:Int}{iv2:Int}{zi8:Int}{zi9:Int}{zja:Int}
def zsk (S0:Int->Bool) (l_a0:(Sl Drift)) (pitch:Int) (iv2:Int) (zi8:Int) (zi9:Int) (zja:Int):Bool :=
  (cond (decide (iv2 > (0:Int)))
 (cond (decide (zi8 <= (l_a0.get ((w64 (iv2 - (1:Int))).toNat)).Time))
 false
 (cond (decide (zi9 < (l_a0.get ((w64 (iv2 - (1:Int))).toNat)).Radius.Low))
 false
 (cond (decide (zja < (l_a0.get ((w64 (iv2 - (1:Int))).toNat)).Radius.High))
 false
 (S0 (w64 (iv2+(1:Int)))))))
 (S0 (w64 (iv2+(1:Int)))))
def zsl (P0:Int->Bool) (l_a0:(Sl Drift)) (pitch:Int) (iv2:Int) (zi8:Int) (zi9:Int) (zja:Int):Bool :=
  (cond (decide (iv2 > (0:Int)))
 (decide ((0<=(w64 (iv2 - (1:Int)))/\(w64 (iv2 - (1:Int))) < (l_a0.len:Int))) &&
 (cond (decide (zi8 <= (l_a0.get ((w64 (iv2 - (1:Int))).toNat)).Time))
 true
 (decide ((0<=(w64 (iv2 - (1:Int)))/\(w64 (iv2 - (1:Int))) < (l_a0.len:Int))) &&
 (cond (decide (zi9 < (l_a0.get ((w64 (iv2 - (1:Int))).toNat)).Radius.Low))
 true
 (decide ((0<=(w64 (iv2 - (1:Int)))/\(w64 (iv2 - (1:Int))) < (l_a0.len:Int))) &&
 (cond (decide (zja < (l_a0.get ((w64 (iv2 - (1:Int))).toNat)).Radius.High))
 true
 (P0 (w64 (iv2+(1:Int))))))))))
 (P0 (w64 (iv2+(1:Int)))))
theorem zHN (hX0:zDH K l_a0 pitch X0 P0 S0) (hs:zsl P0 l_a0 pitch iv2 zi8 zi9 zja=true) (hk:K (e30 (zsk S0 l_a0 pitch iv2 zi8 zi9 zja))):z30 K [1,0,1,0,0,1,0,0,1,1] [X0] ⟨[(0,zS zaz 3 l_a0),(1,zI pitch),(5,zI iv2),(6,zp 6 0)],[(6,.box 119 (zm (zaz (⟨zi8,(⟨zi9,zja⟩:Span)⟩:Drift))))],[]⟩:=zaI (by kernel_rfl) (zc hs hk (λ hs hk=>(zaS hs λ hc hs=>And.intro hc (zc hs hk (λ hs hk=>hk) (λ hs hk=>(zaS hs λ hc hs=>And.intro hc (zc hs hk (λ hs hk=>hk) (λ hs hk=>(zaS hs λ hc hs=>And.intro hc (zc hs hk (λ hs hk=>hk) (λ hs hk=>(hX0 hs hk))))))))))) (λ hs hk=>(hX0 hs hk)))
def zkL (S0:Int->Bool) (l_a0:(Sl Drift)) (pitch:Int) (iv1:Int) (zsj:Bool) (zi5:Int) (zi6:Int) (zi7:Int):Bool :=
  (cond zsj
 false
 (zsk S0 l_a0 pitch iv1 zi5 zi6 zi7))
def zkM (P0:Int->Bool) (l_a0:(Sl Drift)) (pitch:Int) (iv1:Int) (zsj:Bool) (zi5:Int) (zi6:Int) (zi7:Int):Bool :=
  (cond zsj
 true
 (zsl P0 l_a0 pitch iv1 zi5 zi6 zi7))
theorem zpe (hX0:zDH K l_a0 pitch X0 P0 S0) (hs:zkM P0 l_a0 pitch iv1 zsj zi5 zi6 zi7=true) (hk:K (e30 (zkL S0 l_a0 pitch iv1 zsj zi5 zi6 zi7))):z30 K [1,0,1,0,0,1,0,0,1,0,1] [X0] ⟨[(0,zS zaz 3 l_a0),(1,zI pitch),(5,zI iv1),(6,zp 6 0),(43,zB zsj)],[(6,.box 119 (zm (zaz (⟨zi5,(⟨zi6,zi7⟩:Span)⟩:Drift))))],[]⟩:=zaI (by kernel_rfl) (zc hs hk (λ hs hk=>hk) (λ hs hk=>(zHN hX0 hs hk)))
def zkN (l_a0:(Sl Drift)) (pitch:Int) (S0:Int->Bool) (iv0:Int):Bool :=
  (cond (decide (iv0 < (l_a0.len : Int)))
 (cond (!(s13 ((l_a0.get iv0.toNat).Time) (0:Int) (1000000:Int)))
 (zkL S0 l_a0 pitch iv0 true ((l_a0.get iv0.toNat).Time) ((l_a0.get iv0.toNat).Radius.Low) ((l_a0.get iv0.toNat).Radius.High))
 (cond (decide ((l_a0.get iv0.toNat).Radius.Low < (0:Int)))
 (zkL S0 l_a0 pitch iv0 true ((l_a0.get iv0.toNat).Time) ((l_a0.get iv0.toNat).Radius.Low) ((l_a0.get iv0.toNat).Radius.High))
 (cond (decide ((l_a0.get iv0.toNat).Radius.Low > (l_a0.get iv0.toNat).Radius.High))
 (zkL S0 l_a0 pitch iv0 true ((l_a0.get iv0.toNat).Time) ((l_a0.get iv0.toNat).Radius.Low) ((l_a0.get iv0.toNat).Radius.High))
 (zkL S0 l_a0 pitch iv0 (decide ((l_a0.get iv0.toNat).Radius.High > (w64 (pitch.tdiv (2:Int))))) ((l_a0.get iv0.toNat).Time) ((l_a0.get iv0.toNat).Radius.Low) ((l_a0.get iv0.toNat).Radius.High)))))
 (s13 (l_a0.len:Int) (1:Int) (50:Int)))
def zkO (l_a0:(Sl Drift)) (pitch:Int) (P0:Int->Bool) (iv0:Int):Bool :=
  (cond (decide (iv0 < (l_a0.len : Int)))
 (decide ((0<=iv0/\iv0 < (l_a0.len:Int))) &&
 (cond (!(s13 ((l_a0.get iv0.toNat).Time) (0:Int) (1000000:Int)))
 (zkM P0 l_a0 pitch iv0 true ((l_a0.get iv0.toNat).Time) ((l_a0.get iv0.toNat).Radius.Low) ((l_a0.get iv0.toNat).Radius.High))
 (cond (decide ((l_a0.get iv0.toNat).Radius.Low < (0:Int)))
 (zkM P0 l_a0 pitch iv0 true ((l_a0.get iv0.toNat).Time) ((l_a0.get iv0.toNat).Radius.Low) ((l_a0.get iv0.toNat).Radius.High))
 (cond (decide ((l_a0.get iv0.toNat).Radius.Low > (l_a0.get iv0.toNat).Radius.High))
 (zkM P0 l_a0 pitch iv0 true ((l_a0.get iv0.toNat).Time) ((l_a0.get iv0.toNat).Radius.Low) ((l_a0.get iv0.toNat).Radius.High))
 (decide (((2:Int) ≠ 0)) &&
 (zkM P0 l_a0 pitch iv0 (decide ((l_a0.get iv0.toNat).Radius.High > (w64 (pitch.tdiv (2:Int))))) ((l_a0.get iv0.toNat).Time) ((l_a0.get iv0.toNat).Radius.Low) ((l_a0.get iv0.toNat).Radius.High)))))))
 true)
def zjb (l_a0:(Sl Drift)) (pitch:Int):Nat->Int->Bool:=lpO (λ _=>default) (zkN l_a0 pitch)
def zjc (l_a0:(Sl Drift)) (pitch:Int):Nat->Int->Bool:=lpO (λ _=>false) (zkO l_a0 pitch)
def zzz (l_a0:(Sl Drift)) (pitch:Int) (iv0:Int):Bool:=zjb l_a0 pitch Fuel iv0
def zzA (l_a0:(Sl Drift)) (pitch:Int) (iv0:Int):Bool:=zjc l_a0 pitch Fuel iv0
theorem zHO (hs:zzA l_a0 pitch iv0=true) (hk:K (e30 (zzz l_a0 pitch iv0))):z30 K [1,0,1,0] [] (zES l_a0 pitch iv0) :=
  zl (λ X=>z30 K [1,0,1,0,0] [X]) (by kernel_rfl) λ X0 hX =>
  (show ∀ k, zDH K l_a0 pitch X0 (zjc l_a0 pitch k) (zjb l_a0 pitch k) from zg4 _ _ (zkO l_a0 pitch) (zkN l_a0 pitch) (zDH K l_a0 pitch X0)
 (by intro _ hs;exact absurd hs dqk)
 (by intro P0 S0 hX0 iv0 hs hk;exact hX _ (zaI (by kernel_rfl) (zc hs hk (λ hs hk=>(zaS hs λ hc hs=>And.intro hc (zc hs hk (λ hs hk=>(zpe hX0 hs hk)) (λ hs hk=>(zc hs hk (λ hs hk=>(zpe hX0 hs hk)) (λ hs hk=>(zc hs hk (λ hs hk=>(zpe hX0 hs hk)) (λ hs hk=>(zaS hs λ hc hs=>And.intro hc (zpe hX0 hs hk)))))))))) (λ hs hk=>hk))))) _ hs hk
def s30 (l_a0:(Sl Drift)) (pitch:Int):Bool :=
  (zzz l_a0 pitch (0:Int))
def p30 (l_a0:(Sl Drift)) (pitch:Int):Bool :=
  (zzA l_a0 pitch (0:Int))
end
theorem q30 (l_a0:(Sl Drift)) (pitch:Int) (K:List PA->Prop) (hs:p30 l_a0 pitch=true) (hk:K (e30 (s30 l_a0 pitch))):vcFun Try.prog G30 zHM 30 [.one (.sl l_a0.len 3 (λ i=>zaz (l_a0.get i))),.one (.int .i64 pitch)] K :=
  zaI (by kernel_rfl) (zHO hs hk)
def zHP : List PA → COut
  | [.one (.sl zdd zfO zde),.one (.int .i64 a1)]=>.det (IsE zaz 3 zfO zde/\p30 (⟨zdd,zbn zde⟩:(Sl Drift)) a1=true) [.one (.bool (s30 (⟨zdd,zbn zde⟩:(Sl Drift)) a1))]
  | _=>.no
theorem zMk:zal Try.prog 30:=⟨_,rfl,rfl,by kernel_rfl⟩
theorem zRz:Ok Try.prog 30 zHP:=za5 zPj zMk λ args K h=>by
  unfold zHP at h
  split at h
  · rename_i zdd zfO zde a1
    obtain⟨⟨⟨rfl,zd7,rfl⟩,hs⟩,hk⟩:=h
    try rw[zbc zd7] at hs
    try rw[zbc zd7] at hk
    exact⟨(λ _ _=>[]),(λ _=>false),zHM,q30 (⟨zdd,zd7⟩:(Sl Drift)) a1 K hs hk⟩
  · exact h.elim
abbrev T14:Tabs:=(((Tabs.nil.addF 13 zvD).addF 29 zHL).addF 30 zHP)
theorem zPk:TabsOk Try.prog T14:=(((TabsOk.nil.addF zNY).addF zRy).addF zRz)
abbrev G14:Ctrs:=csm T14 (λ _ _=>[]) (λ _=>false)
def zns:Ann:=⟨205,[(0,zK [1] [1]),(1,zK [1,51] [1]),(2,zK [2] []),(3,zK [1,95] [1]),(4,zK [2] []),(5,zK [1,141] [1]),(6,zK [2] []),(7,zK [1,169] [1]),(8,zK [2] []),(9,zK [1,3] [1]),(10,zK [1,3,174] [1]),(11,zK [1,3] [1]),(12,zK [1,3,204] [1]),(13,zK [2] []),(14,zK [2] [])],
 [(10,zK [1,3] [1])],
 [(1,zK [1] [1]),(2,zK [1,51] [1]),(3,zK [1] [1]),(4,zK [1,95] [1]),(5,zK [1] [1]),(6,zK [1,141] [1]),(7,zK [1] [1]),(8,zK [1,169] [1]),(9,zK [1] [1]),(13,zK [1,3,204] [1])],
 [],[]⟩
abbrev R14:=Bool
abbrev e14 (r:R14):List PA:=[.one (.bool r)]
@[irreducible] def z14:=ptF Try.prog G14 zns Try.f14
def zET (p:Plane) (iv9:Int):St:=⟨[(1,zp 1 0),(3,zI iv9)],[(1,.box 34 (zm (enc_34 p)))],[]⟩
abbrev zHQ (K:List PA->Prop) (p:Plane) (X:St->Prop) (P:Int->Bool) (S:Int->Bool):Prop:=∀ ⦃iv9:Int⦄,P iv9=true->K (e14 (S iv9))->X (zET p iv9)
abbrev k14 (K:List PA->Prop) (l:List Nat):Exit->St->Prop:=(ptR Try.prog G14 zns (cdF Try.f14 []) (zpO Try.prog Try.f14 K) l []).2
section
variable {K:List PA->Prop}{p:Plane}{zsm:Bool}{zsn:Bool}{zmV:Bool}{zmW:Bool}{iv9:Int}{X9:St->Prop}{P9:Int->Bool}{S9:Int->Bool}{zHR:Int}{zjd:Bool}
def zka (S9:Int->Bool) (p:Plane) (zHR:Int) (zjd:Bool):Bool :=
  (cond zjd
 false
 (S9 (w64 (zHR+(1:Int)))))
def zkb (P9:Int->Bool) (p:Plane) (zHR:Int) (zjd:Bool):Bool :=
  (cond zjd
 true
 (P9 (w64 (zHR+(1:Int)))))
theorem zpf (hX9:zHQ K p X9 P9 S9) (hs:zkb P9 p zHR zjd=true) (hk:K (e14 (zka S9 p zHR zjd))):z14 K [1,1,1,1,1,0,1,0,0,1,0,0,1] [X9] ⟨[(1,zp 1 0),(3,zI zHR),(204,zB zjd)],[(1,.box 34 (zm (enc_34 p)))],[]⟩:=zaI (by kernel_rfl) (zc hs hk (λ hs hk=>hk) (λ hs hk=>(hX9 hs hk)))
def zkP (p:Plane) (S9:Int->Bool) (iv9:Int):Bool :=
  (cond (decide (iv9 < (p.Dead.len : Int)))
 (cond (!(s13 (p.Dead.get iv9.toNat) (0:Int) (w64 (p.Strips - (1:Int)))))
 (zka S9 p iv9 true)
 (cond (decide (iv9 > (0:Int)))
 (zka S9 p iv9 (decide ((p.Dead.get iv9.toNat)<=(p.Dead.get ((w64 (iv9 - (1:Int))).toNat)))))
 (zka S9 p iv9 false)))
 true)
def zkQ (p:Plane) (P9:Int->Bool) (iv9:Int):Bool :=
  (cond (decide (iv9 < (p.Dead.len : Int)))
 (decide ((0<=iv9/\iv9 < (p.Dead.len:Int))) &&
 (cond (!(s13 (p.Dead.get iv9.toNat) (0:Int) (w64 (p.Strips - (1:Int)))))
 (zkb P9 p iv9 true)
 (cond (decide (iv9 > (0:Int)))
 (decide ((0<=iv9/\iv9 < (p.Dead.len:Int))) &&
 (decide ((0<=(w64 (iv9 - (1:Int)))/\(w64 (iv9 - (1:Int))) < (p.Dead.len:Int))) &&
 (zkb P9 p iv9 (decide ((p.Dead.get iv9.toNat)<=(p.Dead.get ((w64 (iv9 - (1:Int))).toNat)))))))
 (zkb P9 p iv9 false))))
 true)
def zje (p:Plane):Nat->Int->Bool:=lpO (λ _=>default) (zkP p)
def zjf (p:Plane):Nat->Int->Bool:=lpO (λ _=>false) (zkQ p)
def zzB (p:Plane) (iv9:Int):Bool:=zje p Fuel iv9
def zzC (p:Plane) (iv9:Int):Bool:=zjf p Fuel iv9
theorem zHS (hs:zzC p iv9=true) (hk:K (e14 (zzB p iv9))):z14 K [1,1,1,1,1,0,1,0] [] (zET p iv9) :=
  zl (λ X=>z14 K [1,1,1,1,1,0,1,0,0] [X]) (by kernel_rfl) λ X9 hX =>
  (show ∀ k, zHQ K p X9 (zjf p k) (zje p k) from zg4 _ _ (zkQ p) (zkP p) (zHQ K p X9)
 (by intro _ hs;exact absurd hs dqk)
 (by intro P9 S9 hX9 iv9 hs hk;exact hX _ (zaI (by kernel_rfl) (zc hs hk (λ hs hk=>(zaS hs λ hc hs=>And.intro hc (zc hs hk (λ hs hk=>(zpf hX9 hs hk)) (λ hs hk=>(zc hs hk (λ hs hk=>(zaS hs λ hc hs=>And.intro hc (zaS hs λ hc hs=>And.intro hc (zpf hX9 hs hk)))) (λ hs hk=>(zpf hX9 hs hk))))))) (λ hs hk=>hk))))) _ hs hk
def zpg (p:Plane):Bool :=
  (zzB p (0:Int))
def zso (p:Plane):Bool :=
  (zzC p (0:Int))
theorem zHT (hs:zso p=true) (hk:K (e14 (zpg p))):z14 K [1,1,1,1,1] [] ⟨[(1,zp 1 0)],[(1,.box 34 (zm (enc_34 p)))],[]⟩:=zaI (by kernel_rfl) (zHS hs hk)
def zg9 (p:Plane) (zmW:Bool):Bool :=
  (cond zmW
 false
 (zpg p))
def zgm (p:Plane) (zmW:Bool):Bool :=
  (cond zmW
 true
 (zso p))
theorem zjg (hs:zgm p zmW=true) (hk:K (e14 (zg9 p zmW))):z14 K [1,1,1,1,0,1] [] ⟨[(1,zp 1 0),(169,zB zmW)],[(1,.box 34 (zm (enc_34 p)))],[]⟩:=zaI (by kernel_rfl) (zc hs hk (λ hs hk=>hk) (λ hs hk=>(zHT hs hk)))
def zsp (p:Plane):Bool :=
  (cond (p.Kind == (2:Int))
 (cond (!(s30 p.Drift p.Pitch))
 (zg9 p true)
 (cond (p.Kind != (2:Int))
 (cond (decide ((p.Drift.len : Int) > (0:Int)))
 (zg9 p true)
 (zg9 p (decide ((p.Dead.len:Int) > (100:Int)))))
 (zg9 p (decide ((p.Dead.len:Int) > (100:Int))))))
 (cond (p.Kind != (2:Int))
 (cond (decide ((p.Drift.len : Int) > (0:Int)))
 (zg9 p true)
 (zg9 p (decide ((p.Dead.len:Int) > (100:Int)))))
 (zg9 p (decide ((p.Dead.len:Int) > (100:Int))))))
def zph (p:Plane):Bool :=
  (cond (p.Kind == (2:Int))
 (decide ((p30 p.Drift p.Pitch=true)) &&
 (cond (!(s30 p.Drift p.Pitch))
 (zgm p true)
 (cond (p.Kind != (2:Int))
 (cond (decide ((p.Drift.len : Int) > (0:Int)))
 (zgm p true)
 (zgm p (decide ((p.Dead.len:Int) > (100:Int)))))
 (zgm p (decide ((p.Dead.len:Int) > (100:Int)))))))
 (cond (p.Kind != (2:Int))
 (cond (decide ((p.Drift.len : Int) > (0:Int)))
 (zgm p true)
 (zgm p (decide ((p.Dead.len:Int) > (100:Int)))))
 (zgm p (decide ((p.Dead.len:Int) > (100:Int))))))
theorem zHU (hs:zph p=true) (hk:K (e14 (zsp p))):z14 K [1,1,1,1] [] ⟨[(1,zp 1 0)],[(1,.box 34 (zm (enc_34 p)))],[]⟩:=zaI (by kernel_rfl) (zc hs hk (λ hs hk=>(zaS hs λ hc hs=>And.intro (And.intro (zE zaz 3 p.Drift.get) hc) (zc hs hk (λ hs hk=>(zjg hs hk)) (λ hs hk=>(zc hs hk (λ hs hk=>(zc hs hk (λ hs hk=>(zjg hs hk)) (λ hs hk=>(zjg hs hk)))) (λ hs hk=>(zjg hs hk))))))) (λ hs hk=>(zc hs hk (λ hs hk=>(zc hs hk (λ hs hk=>(zjg hs hk)) (λ hs hk=>(zjg hs hk)))) (λ hs hk=>(zjg hs hk)))))
def zkR (p:Plane) (zmV:Bool):Bool :=
  (cond zmV
 false
 (zsp p))
def zjh (p:Plane) (zmV:Bool):Bool :=
  (cond zmV
 true
 (zph p))
theorem zpi (hs:zjh p zmV=true) (hk:K (e14 (zkR p zmV))):z14 K [1,1,1,0,1] [] ⟨[(1,zp 1 0),(141,zB zmV)],[(1,.box 34 (zm (enc_34 p)))],[]⟩:=zaI (by kernel_rfl) (zc hs hk (λ hs hk=>hk) (λ hs hk=>(zHU hs hk)))
def zsq (p:Plane):Bool :=
  (cond (!(s13 p.Jitter (0:Int) (1000000:Int)))
 (zkR p true)
 (cond (!(s13 p.Least (0:Int) (1000000:Int)))
 (zkR p true)
 (cond (!(s29 (w64 ((w64 ((w64 (p.First - p.Pitch)) - p.Spill)) + p.Offset.Low))))
 (zkR p true)
 (zkR p (!(s29 (w64 ((w64 ((w64 (p.First+(w64 ((w64 (p.Strips+(1:Int))) * p.Pitch))))+p.Spill))+p.Offset.High))))))))
def zpj (p:Plane):Bool :=
  (cond (!(s13 p.Jitter (0:Int) (1000000:Int)))
 (zjh p true)
 (cond (!(s13 p.Least (0:Int) (1000000:Int)))
 (zjh p true)
 (cond (!(s29 (w64 ((w64 ((w64 (p.First - p.Pitch)) - p.Spill)) + p.Offset.Low))))
 (zjh p true)
 (zjh p (!(s29 (w64 ((w64 ((w64 (p.First+(w64 ((w64 (p.Strips+(1:Int))) * p.Pitch))))+p.Spill))+p.Offset.High))))))))
theorem zHV (Kc : Exit → St → Prop) (p : Plane) : vc Try.prog G14 zns (cdF Try.f14 [1,1,1,0,0]) Kc ⟨[(1, zp 1 0)], [(1, .box 34 (zm (enc_34 p)))], []⟩ =
  (zcJ (!(s13 p.Jitter (0:Int) (1000000:Int)))
 (Kc .normal ⟨[(1,zp 1 0),(141,zB true)],[(1,.box 34 (zm (enc_34 p)))],[]⟩)
 (zcJ (!(s13 p.Least (0:Int) (1000000:Int)))
 (Kc .normal ⟨[(1,zp 1 0),(141,zB true)],[(1,.box 34 (zm (enc_34 p)))],[]⟩)
 (zcJ (!(s29 (w64 ((w64 ((w64 (p.First - p.Pitch)) - p.Spill)) + p.Offset.Low))))
 (Kc .normal ⟨[(1,zp 1 0),(141,zB true)],[(1,.box 34 (zm (enc_34 p)))],[]⟩)
 (Kc .normal ⟨[(1,zp 1 0),(141,zB (!(s29 (w64 ((w64 ((w64 (p.First+(w64 ((w64 (p.Strips+(1:Int))) * p.Pitch))))+p.Spill))+p.Offset.High)))))],[(1,.box 34 (zm (enc_34 p)))],[]⟩)))):=by kernel_rfl
theorem zHW (hs:zpj p=true) (hk:K (e14 (zsq p))):z14 K [1,1,1] [] ⟨[(1,zp 1 0)],[(1,.box 34 (zm (enc_34 p)))],[]⟩:=zaI (show _=vc Try.prog G14 zns (cdF Try.f14 [1,1,1,0,0]) (k14 K [1,1,1,0,0]) ⟨[(1,zp 1 0)],[(1,.box 34 (zm (enc_34 p)))],[]⟩ by kernel_rfl) (zaI (zHV _ p) (zc hs hk (λ hs hk=>(zaI (by kernel_rfl) (zpi hs hk))) (λ hs hk=>(zc hs hk (λ hs hk=>(zaI (by kernel_rfl) (zpi hs hk))) (λ hs hk=>(zc hs hk (λ hs hk=>(zaI (by kernel_rfl) (zpi hs hk))) (λ hs hk=>(zaI (by kernel_rfl) (zpi hs hk)))))))))
def zh3 (p:Plane) (zsn:Bool):Bool :=
  (cond zsn
 false
 (zsq p))
def zha (p:Plane) (zsn:Bool):Bool :=
  (cond zsn
 true
 (zpj p))
theorem zkS (hs:zha p zsn=true) (hk:K (e14 (zh3 p zsn))):z14 K [1,1,0,1] [] ⟨[(1,zp 1 0),(95,zB zsn)],[(1,.box 34 (zm (enc_34 p)))],[]⟩:=zaI (by kernel_rfl) (zc hs hk (λ hs hk=>hk) (λ hs hk=>(zHW hs hk)))
def zsr (p:Plane):Bool :=
  (cond (!(s29 p.Offset.Low))
 (zh3 p true)
 (cond (!(s29 p.Offset.High))
 (zh3 p true)
 (cond (decide (p.Offset.Low > p.Offset.High))
 (zh3 p true)
 (cond (!(s13 p.Clock.Low (-1000000000:Int) (1000000000:Int)))
 (zh3 p true)
 (cond (!(s13 p.Clock.High (-1000000000:Int) (1000000000:Int)))
 (zh3 p true)
 (zh3 p (decide (p.Clock.Low > p.Clock.High))))))))
def zpk (p:Plane):Bool :=
  (cond (!(s29 p.Offset.Low))
 (zha p true)
 (cond (!(s29 p.Offset.High))
 (zha p true)
 (cond (decide (p.Offset.Low > p.Offset.High))
 (zha p true)
 (cond (!(s13 p.Clock.Low (-1000000000:Int) (1000000000:Int)))
 (zha p true)
 (cond (!(s13 p.Clock.High (-1000000000:Int) (1000000000:Int)))
 (zha p true)
 (zha p (decide (p.Clock.Low > p.Clock.High))))))))
theorem zHX (Kc : Exit → St → Prop) (p : Plane) : vc Try.prog G14 zns (cdF Try.f14 [1,1,0,0]) Kc ⟨[(1, zp 1 0)], [(1, .box 34 (zm (enc_34 p)))], []⟩ =
  (zcJ (!(s29 p.Offset.Low))
 (Kc .normal ⟨[(1,zp 1 0),(95,zB true)],[(1,.box 34 (zm (enc_34 p)))],[]⟩)
 (zcJ (!(s29 p.Offset.High))
 (Kc .normal ⟨[(1,zp 1 0),(95,zB true)],[(1,.box 34 (zm (enc_34 p)))],[]⟩)
 (zcJ (decide (p.Offset.Low > p.Offset.High))
 (Kc .normal ⟨[(1,zp 1 0),(95,zB true)],[(1,.box 34 (zm (enc_34 p)))],[]⟩)
 (zcJ (!(s13 p.Clock.Low (-1000000000:Int) (1000000000:Int)))
 (Kc .normal ⟨[(1,zp 1 0),(95,zB true)],[(1,.box 34 (zm (enc_34 p)))],[]⟩)
 (zcJ (!(s13 p.Clock.High (-1000000000:Int) (1000000000:Int)))
 (Kc .normal ⟨[(1,zp 1 0),(95,zB true)],[(1,.box 34 (zm (enc_34 p)))],[]⟩)
 (Kc .normal ⟨[(1,zp 1 0),(95,zB (decide (p.Clock.Low > p.Clock.High)))],[(1,.box 34 (zm (enc_34 p)))],[]⟩)))))):=by kernel_rfl
theorem zHY (hs:zpk p=true) (hk:K (e14 (zsr p))):z14 K [1,1] [] ⟨[(1,zp 1 0)],[(1,.box 34 (zm (enc_34 p)))],[]⟩:=zaI (show _=vc Try.prog G14 zns (cdF Try.f14 [1,1,0,0]) (k14 K [1,1,0,0]) ⟨[(1,zp 1 0)],[(1,.box 34 (zm (enc_34 p)))],[]⟩ by kernel_rfl) (zaI (zHX _ p) (zc hs hk (λ hs hk=>(zaI (by kernel_rfl) (zkS hs hk))) (λ hs hk=>(zc hs hk (λ hs hk=>(zaI (by kernel_rfl) (zkS hs hk))) (λ hs hk=>(zc hs hk (λ hs hk=>(zaI (by kernel_rfl) (zkS hs hk))) (λ hs hk=>(zc hs hk (λ hs hk=>(zaI (by kernel_rfl) (zkS hs hk))) (λ hs hk=>(zc hs hk (λ hs hk=>(zaI (by kernel_rfl) (zkS hs hk))) (λ hs hk=>(zaI (by kernel_rfl) (zkS hs hk)))))))))))))
def zc9 (p:Plane) (zsm:Bool):Bool :=
  (cond zsm
 false
 (zsr p))
def zdW (p:Plane) (zsm:Bool):Bool :=
  (cond zsm
 true
 (zpk p))
theorem zeS (hs:zdW p zsm=true) (hk:K (e14 (zc9 p zsm))):z14 K [1,0,1] [] ⟨[(1,zp 1 0),(51,zB zsm)],[(1,.box 34 (zm (enc_34 p)))],[]⟩:=zaI (by kernel_rfl) (zc hs hk (λ hs hk=>hk) (λ hs hk=>(zHY hs hk)))
def zss (p:Plane):Bool :=
  (cond (decide (p.Kind < (1:Int)))
 (zc9 p true)
 (cond (decide (p.Kind > (3:Int)))
 (zc9 p true)
 (cond (p.View != (1:Int))
 (cond (p.View != (2:Int))
 (zc9 p true)
 (cond (!(s13 p.Z (0:Int) (100000:Int)))
 (zc9 p true)
 (cond (!(s29 p.First))
 (zc9 p true)
 (cond (!(s13 p.Pitch (2:Int) (100000:Int)))
 (zc9 p true)
 (cond (!(s13 p.Strips (1:Int) (2000:Int)))
 (zc9 p true)
 (zc9 p (!(s13 p.Spill (0:Int) (100000:Int)))))))))
 (cond (!(s13 p.Z (0:Int) (100000:Int)))
 (zc9 p true)
 (cond (!(s29 p.First))
 (zc9 p true)
 (cond (!(s13 p.Pitch (2:Int) (100000:Int)))
 (zc9 p true)
 (cond (!(s13 p.Strips (1:Int) (2000:Int)))
 (zc9 p true)
 (zc9 p (!(s13 p.Spill (0:Int) (100000:Int)))))))))))
def zst (p:Plane):Bool :=
  (cond (decide (p.Kind < (1:Int)))
 (zdW p true)
 (cond (decide (p.Kind > (3:Int)))
 (zdW p true)
 (cond (p.View != (1:Int))
 (cond (p.View != (2:Int))
 (zdW p true)
 (cond (!(s13 p.Z (0:Int) (100000:Int)))
 (zdW p true)
 (cond (!(s29 p.First))
 (zdW p true)
 (cond (!(s13 p.Pitch (2:Int) (100000:Int)))
 (zdW p true)
 (cond (!(s13 p.Strips (1:Int) (2000:Int)))
 (zdW p true)
 (zdW p (!(s13 p.Spill (0:Int) (100000:Int)))))))))
 (cond (!(s13 p.Z (0:Int) (100000:Int)))
 (zdW p true)
 (cond (!(s29 p.First))
 (zdW p true)
 (cond (!(s13 p.Pitch (2:Int) (100000:Int)))
 (zdW p true)
 (cond (!(s13 p.Strips (1:Int) (2000:Int)))
 (zdW p true)
 (zdW p (!(s13 p.Spill (0:Int) (100000:Int)))))))))))
theorem zHZ (Kc : Exit → St → Prop) (p : Plane) : vc Try.prog G14 zns (cdF Try.f14 [1,0,0]) Kc ⟨[(1, zp 1 0)], [(1, .box 34 (zm (enc_34 p)))], []⟩ =
  (zcJ (decide (p.Kind < (1:Int)))
 (Kc .normal ⟨[(1,zp 1 0),(51,zB true)],[(1,.box 34 (zm (enc_34 p)))],[]⟩)
 (zcJ (decide (p.Kind > (3:Int)))
 (Kc .normal ⟨[(1,zp 1 0),(51,zB true)],[(1,.box 34 (zm (enc_34 p)))],[]⟩)
 (zcJ (p.View != (1:Int))
 (zcJ (p.View != (2:Int))
 (Kc .normal ⟨[(1,zp 1 0),(51,zB true)],[(1,.box 34 (zm (enc_34 p)))],[]⟩)
 (zcJ (!(s13 p.Z (0:Int) (100000:Int)))
 (Kc .normal ⟨[(1,zp 1 0),(51,zB true)],[(1,.box 34 (zm (enc_34 p)))],[]⟩)
 (zcJ (!(s29 p.First))
 (Kc .normal ⟨[(1,zp 1 0),(51,zB true)],[(1,.box 34 (zm (enc_34 p)))],[]⟩)
 (zcJ (!(s13 p.Pitch (2:Int) (100000:Int)))
 (Kc .normal ⟨[(1,zp 1 0),(51,zB true)],[(1,.box 34 (zm (enc_34 p)))],[]⟩)
 (zcJ (!(s13 p.Strips (1:Int) (2000:Int)))
 (Kc .normal ⟨[(1,zp 1 0),(51,zB true)],[(1,.box 34 (zm (enc_34 p)))],[]⟩)
 (Kc .normal ⟨[(1,zp 1 0),(51,zB (!(s13 p.Spill (0:Int) (100000:Int))))],[(1,.box 34 (zm (enc_34 p)))],[]⟩))))))
 (zcJ (!(s13 p.Z (0:Int) (100000:Int)))
 (Kc .normal ⟨[(1,zp 1 0),(51,zB true)],[(1,.box 34 (zm (enc_34 p)))],[]⟩)
 (zcJ (!(s29 p.First))
 (Kc .normal ⟨[(1,zp 1 0),(51,zB true)],[(1,.box 34 (zm (enc_34 p)))],[]⟩)
 (zcJ (!(s13 p.Pitch (2:Int) (100000:Int)))
 (Kc .normal ⟨[(1,zp 1 0),(51,zB true)],[(1,.box 34 (zm (enc_34 p)))],[]⟩)
 (zcJ (!(s13 p.Strips (1:Int) (2000:Int)))
 (Kc .normal ⟨[(1,zp 1 0),(51,zB true)],[(1,.box 34 (zm (enc_34 p)))],[]⟩)
 (Kc .normal ⟨[(1,zp 1 0),(51,zB (!(s13 p.Spill (0:Int) (100000:Int))))],[(1,.box 34 (zm (enc_34 p)))],[]⟩)))))))):=by kernel_rfl
theorem zH0 (hs:zst p=true) (hk:K (e14 (zss p))):z14 K [1] [] ⟨[(1,zp 1 0)],[(1,.box 34 (zm (enc_34 p)))],[]⟩:=zaI (show _=vc Try.prog G14 zns (cdF Try.f14 [1,0,0]) (k14 K [1,0,0]) ⟨[(1,zp 1 0)],[(1,.box 34 (zm (enc_34 p)))],[]⟩ by kernel_rfl) (zaI (zHZ _ p) (zc hs hk (λ hs hk=>(zaI (by kernel_rfl) (zeS hs hk))) (λ hs hk=>(zc hs hk (λ hs hk=>(zaI (by kernel_rfl) (zeS hs hk))) (λ hs hk=>(zc hs hk (λ hs hk=>(zc hs hk (λ hs hk=>(zaI (by kernel_rfl) (zeS hs hk))) (λ hs hk=>(zc hs hk (λ hs hk=>(zaI (by kernel_rfl) (zeS hs hk))) (λ hs hk=>(zc hs hk (λ hs hk=>(zaI (by kernel_rfl) (zeS hs hk))) (λ hs hk=>(zc hs hk (λ hs hk=>(zaI (by kernel_rfl) (zeS hs hk))) (λ hs hk=>(zc hs hk (λ hs hk=>(zaI (by kernel_rfl) (zeS hs hk))) (λ hs hk=>(zaI (by kernel_rfl) (zeS hs hk))))))))))))) (λ hs hk=>(zc hs hk (λ hs hk=>(zaI (by kernel_rfl) (zeS hs hk))) (λ hs hk=>(zc hs hk (λ hs hk=>(zaI (by kernel_rfl) (zeS hs hk))) (λ hs hk=>(zc hs hk (λ hs hk=>(zaI (by kernel_rfl) (zeS hs hk))) (λ hs hk=>(zc hs hk (λ hs hk=>(zaI (by kernel_rfl) (zeS hs hk))) (λ hs hk=>(zaI (by kernel_rfl) (zeS hs hk)))))))))))))))))
def s14 (p:Plane):Bool :=
  (zss p)
def p14 (p:Plane):Bool :=
  (zst p)
end
theorem q14 (p:Plane) (K:List PA->Prop) (hs:p14 p=true) (hk:K (e14 (s14 p))):vcFun Try.prog G14 zns 14 [.agg (enc_34 p)] K :=
  (zaI (by kernel_rfl) (show z14 K [] [] ⟨zhM 0 [.agg (enc_34 p)],[],[]⟩ from zaI (by kernel_rfl) (show z14 K [] [] ⟨[(0,zA (enc_34 p))],[],[]⟩ from zaI (by kernel_rfl) (zH0 hs hk))))
def zH1 : List PA → COut
  | [.agg [.int .i64 zhb,.int .i64 zhc,.int .i64 zDI,.int .i64 zfq,.int .i64 zfr,.int .i64 zev,.int .i64 zfs,.int .i64 zcD,.int .i64 zcn,.int .i64 zcY,.int .i64 zcE,.int .i64 zew,.int .i64 zft,.sl zdM zgv zdN,.sl zex zh4 zey]]=>.det (IsE zaz 3 zgv zdN/\IsE zaB 1 zh4 zey/\p14 (⟨zhb,zhc,zDI,zfq,zfr,zev,zfs,(⟨zcD,zcn⟩:Span),(⟨zcY,zcE⟩:Span),zew,zft,(⟨zdM,zbn zdN⟩:(Sl Drift)),(⟨zex,zbh zey⟩:(Sl Int))⟩:Plane)=true) [.one (.bool (s14 (⟨zhb,zhc,zDI,zfq,zfr,zev,zfs,(⟨zcD,zcn⟩:Span),(⟨zcY,zcE⟩:Span),zew,zft,(⟨zdM,zbn zdN⟩:(Sl Drift)),(⟨zex,zbh zey⟩:(Sl Int))⟩:Plane)))]
  | _=>.no
theorem call14:zal Try.prog 14:=⟨_,rfl,rfl,by kernel_rfl⟩
theorem zRA:Ok Try.prog 14 zH1:=za5 zPk call14 λ args K h=>by
  unfold zH1 at h
  split at h
  · rename_i zhb zhc zDI zfq zfr zev zfs zcD zcn zcY zcE zew zft zdM zgv zdN zex zh4 zey
    obtain⟨⟨⟨rfl,zeT,rfl⟩,⟨rfl,zfT,rfl⟩,hs⟩,hk⟩:=h
    try rw[zbc zeT] at hs
    try rw[zbc zeT] at hk
    try rw[zaV zfT] at hs
    try rw[zaV zfT] at hk
    exact⟨(λ _ _=>[]),(λ _=>false),zns,q14 (⟨zhb,zhc,zDI,zfq,zfr,zev,zfs,(⟨zcD,zcn⟩:Span),(⟨zcY,zcE⟩:Span),zew,zft,(⟨zdM,zeT⟩:(Sl Drift)),(⟨zex,zfT⟩:(Sl Int))⟩:Plane) K hs hk⟩
  · exact h.elim
abbrev T5:Tabs:=((Tabs.nil.addF 13 zvD).addF 14 zH1)
theorem zRB:TabsOk Try.prog T5:=((TabsOk.nil.addF zNY).addF zRA)
abbrev G5:Ctrs:=csm T5 (λ _ _=>[]) (λ _=>false)
def zPl:Ann:=⟨43,[(0,zK [1] [1]),(1,zK [1,8] [1]),(2,zK [2] []),(3,zK [1,3] [1]),(4,zK [1,3,13] [1]),(5,zK [1,3] [1]),(6,zK [1,3,42] [1]),(7,zK [2] []),(8,zK [2] [])],
 [(4,zK [1,3] [1])],
 [(2,zK [1,8] [1]),(3,zK [1] [1]),(7,zK [1,3,42] [1])],
 [],[]⟩
abbrev R5:=Bool
abbrev e5 (r:R5):List PA:=[.one (.bool r)]
@[irreducible] def z5:=ptF Try.prog G5 zPl Try.f5
def zMl (iv2:Int) (sv2:(Sl Plane)) (zmX:Nat->List PV):St:=⟨[(1,zp 1 0),(3,zI iv2)],[(1,.box 24 [.p (.sl sv2.len 15 zmX)])],[]⟩
abbrev zPm (K:List PA->Prop) (X:St->Prop) (P:Int->(Sl Plane)->Bool) (S:Int->(Sl Plane)->Bool):Prop:=∀ ⦃iv2:Int⦄ ⦃sv2:(Sl Plane)⦄ ⦃zmX:Nat->List PV⦄,P iv2 sv2=true->K (e5 (S iv2 sv2))->zmX=zg enc_34 sv2->X (zMl iv2 sv2 zmX)
section
variable {K:List PA->Prop}{s:Setup}{zaJ:Bool}{sv0:(Sl Plane)}{zci:Nat->List PV}{sv1:(Sl Plane)}{zfN:Nat->List PV}{iv2:Int}{sv2:(Sl Plane)}{zmX:Nat->List PV}{X2:St->Prop}{P2:Int->(Sl Plane)->Bool}{S2:Int->(Sl Plane)->Bool}{iv3:Int}{zsu:Bool}{sv3:(Sl Plane)}{zzD:Nat->List PV}
def zqK (S2:Int->(Sl Plane)->Bool) (iv3:Int) (zsu:Bool) (sv3:(Sl Plane)):Bool :=
  (cond zsu
 false
 (S2 (w64 (iv3+(1:Int))) sv3))
def zqL (P2:Int->(Sl Plane)->Bool) (iv3:Int) (zsu:Bool) (sv3:(Sl Plane)):Bool :=
  (cond zsu
 true
 (P2 (w64 (iv3+(1:Int))) sv3))
theorem zzE (hX2:zPm K X2 P2 S2) (hs:zqL P2 iv3 zsu sv3=true) (hk:K (e5 (zqK S2 iv3 zsu sv3))) (zH2:zzD=zg enc_34 sv3):z5 K [1,1,0,1,0,0,1,0,0,1] [X2] ⟨[(1,zp 1 0),(3,zI iv3),(42,zB zsu)],[(1,.box 24 [.p (.sl sv3.len 15 zzD)])],[]⟩:=by subst zH2;exact zaI (by kernel_rfl) (zc hs hk (λ hs hk=>hk) (λ hs hk=>(hX2 hs hk rfl)))
def zn9 (S2:Int->(Sl Plane)->Bool) (iv2:Int) (sv2:(Sl Plane)):Bool :=
  (cond (decide (iv2 < (sv2.len : Int)))
 (cond (!(s14 (sv2.get iv2.toNat)))
 (zqK S2 iv2 true sv2)
 (cond (decide (iv2 > (0:Int)))
 (zqK S2 iv2 (decide ((sv2.get iv2.toNat).Z<=(sv2.get ((w64 (iv2 - (1:Int))).toNat)).Z)) sv2)
 (zqK S2 iv2 false sv2)))
 true)
def zoa (P2:Int->(Sl Plane)->Bool) (iv2:Int) (sv2:(Sl Plane)):Bool :=
  (cond (decide (iv2 < (sv2.len : Int)))
 (decide ((0<=iv2/\iv2 < (sv2.len:Int))) &&
 (decide ((p14 (sv2.get iv2.toNat)=true)) &&
 (cond (!(s14 (sv2.get iv2.toNat)))
 (zqL P2 iv2 true sv2)
 (cond (decide (iv2 > (0:Int)))
 (decide ((0<=iv2/\iv2 < (sv2.len:Int))) &&
 (decide ((0<=(w64 (iv2 - (1:Int)))/\(w64 (iv2 - (1:Int))) < (sv2.len:Int))) &&
 (zqL P2 iv2 (decide ((sv2.get iv2.toNat).Z<=(sv2.get ((w64 (iv2 - (1:Int))).toNat)).Z)) sv2)))
 (zqL P2 iv2 false sv2)))))
 true)
def zli:Nat->Int->(Sl Plane)->Bool:=lpO (λ _ _=>default) (zn9)
def zlj:Nat->Int->(Sl Plane)->Bool:=lpO (λ _ _=>false) (zoa)
def zzF (iv2:Int) (sv2:(Sl Plane)):Bool:=zli Fuel iv2 sv2
def zzG (iv2:Int) (sv2:(Sl Plane)):Bool:=zlj Fuel iv2 sv2
theorem zMm (hs:zzG iv2 sv2=true) (hk:K (e5 (zzF iv2 sv2))) (zzH:zmX=zg enc_34 sv2):z5 K [1,1,0,1,0] [] (zMl iv2 sv2 zmX) :=
  zl (λ X=>z5 K [1,1,0,1,0,0] [X]) (by kernel_rfl) λ X2 hX =>
  (show ∀ k, zPm K X2 (zlj k) (zli k) from zg4 _ _ (zoa) (zn9) (zPm K X2)
 (by intro _ _ _ hs;exact absurd hs dqk)
 (by intro P2 S2 hX2 iv2 sv2 zmX hs hk zzH;subst zzH;exact hX _ (zaI (by kernel_rfl) (zc hs hk (λ hs hk=>(zaS hs λ hc hs=>And.intro hc (zaS hs λ hc hs=>And.intro (And.intro (zE zaz 3 ((sv2.get iv2.toNat).Drift.get)) (And.intro (zE zaB 1 ((sv2.get iv2.toNat).Dead.get)) hc)) (zc hs hk (λ hs hk=>(zzE hX2 hs hk rfl)) (λ hs hk=>(zc hs hk (λ hs hk=>(zaS hs λ hc hs=>And.intro hc (zaS hs λ hc hs=>And.intro hc (zzE hX2 hs hk rfl)))) (λ hs hk=>(zzE hX2 hs hk rfl)))))))) (λ hs hk=>hk))))) _ hs hk zzH
def zzI (sv1:(Sl Plane)):Bool :=
  (zzF (0:Int) sv1)
def zzJ (sv1:(Sl Plane)):Bool :=
  (zzG (0:Int) sv1)
theorem zMn (hs:zzJ sv1=true) (hk:K (e5 (zzI sv1))) (ziV:zfN=zg enc_34 sv1):z5 K [1,1] [] ⟨[(1,zp 1 0)],[(1,.box 24 [.p (.sl sv1.len 15 zfN)])],[]⟩:=by subst ziV;exact zaI (by kernel_rfl) (zMm hs hk rfl)
def zzK (zaJ:Bool) (sv0:(Sl Plane)):Bool :=
  (cond zaJ
 false
 (zzI sv0))
def zzL (zaJ:Bool) (sv0:(Sl Plane)):Bool :=
  (cond zaJ
 true
 (zzJ sv0))
theorem zMo (hs:zzL zaJ sv0=true) (hk:K (e5 (zzK zaJ sv0))) (zeQ:zci=zg enc_34 sv0):z5 K [1,0,1] [] ⟨[(1,zp 1 0),(8,zB zaJ)],[(1,.box 24 [.p (.sl sv0.len 15 zci)])],[]⟩:=by subst zeQ;exact zaI (by kernel_rfl) (zc hs hk (λ hs hk=>hk) (λ hs hk=>(zMn hs hk rfl)))
def s5 (s:Setup):Bool :=
  (zzK (!(s13 (s.Planes.len:Int) (1:Int) (16:Int))) s.Planes)
def p5 (s:Setup):Bool :=
  (zzL (!(s13 (s.Planes.len:Int) (1:Int) (16:Int))) s.Planes)
end
theorem q5 (s:Setup) (K:List PA->Prop) (hs:p5 s=true) (hk:K (e5 (s5 s))):vcFun Try.prog G5 zPl 5 [.agg (enc_24 s)] K :=
  zaI (by kernel_rfl) (zMo hs hk rfl)
def zPn : List PA → COut
  | [.agg [.sl zar zba zas]]=>.det (IsE enc_34 15 zba zas/\p5 (⟨(⟨zar,zbA zas⟩:(Sl Plane))⟩:Setup)=true) [.one (.bool (s5 (⟨(⟨zar,zbA zas⟩:(Sl Plane))⟩:Setup)))]
  | _=>.no
theorem call5:zal Try.prog 5:=⟨_,rfl,rfl,by kernel_rfl⟩
theorem ok5:Ok Try.prog 5 zPn:=za5 zRB call5 λ args K h=>by
  unfold zPn at h
  split at h
  · rename_i zar zba zas
    obtain⟨⟨⟨rfl,zaM,rfl⟩,hs⟩,hk⟩:=h
    try rw[zbT zaM] at hs
    try rw[zbT zaM] at hk
    exact⟨(λ _ _=>[]),(λ _=>false),zPl,q5 (⟨(⟨zar,zaM⟩:(Sl Plane))⟩:Setup) K hs hk⟩
  · exact h.elim
abbrev T21:Tabs:=Tabs.nil
theorem zPo:TabsOk Try.prog T21:=TabsOk.nil
abbrev G21:Ctrs:=csm T21 (λ _ _=>[]) (λ _=>false)
def zMp:Ann:=⟨15,[(0,zK [0,1,2] []),(1,zK [6] [])],
 [],
 [],
 [],[]⟩
abbrev R21:=Bool
abbrev e21 (r:R21):List PA:=[.one (.bool r)]
section
variable {K:List PA->Prop}{n:Int}{low:Int}{high:Int}
def s21 (n:Int) (low:Int) (high:Int):Bool :=
  (cond (decide (n >= low))
 (decide (n<=high))
 false)
end
theorem q21 (n:Int) (low:Int) (high:Int) (K:List PA->Prop) (hk:K (e21 (s21 n low high))):vcFun Try.prog G21 zMp 21 [.one (.int .i64 n),.one (.int .i64 low),.one (.int .i64 high)] K :=
  zaI (by kernel_rfl) (zt hk (λ hk=>hk) (λ hk=>hk))
def zDJ : List PA → COut
  | [.one (.int .i64 a0),.one (.int .i64 a1),.one (.int .i64 a2)]=>.tot [.one (.bool (s21 a0 a1 a2))]
  | _=>.no
theorem zMq:zal Try.prog 21:=⟨_,rfl,rfl,by kernel_rfl⟩
theorem zQt:Ok Try.prog 21 zDJ:=za5 zPo zMq λ args K h=>by
  unfold zDJ at h
  split at h
  · rename_i a0 a1 a2
    have hk:=h
    exact⟨(λ _ _=>[]),(λ _=>false),zMp,q21 a0 a1 a2 K hk⟩
  · exact h.elim
abbrev T22:Tabs:=Tabs.nil
theorem zPp:TabsOk Try.prog T22:=TabsOk.nil
abbrev G22:Ctrs:=csm T22 (λ _ _=>[]) (λ _=>false)
def zMr:Ann:=⟨13,[(0,zK [0,1,2] []),(1,zK [4] [])],
 [],
 [],
 [],[]⟩
abbrev R22:=Int
abbrev e22 (r:R22):List PA:=[.one (.int .i64 r)]
section
variable {K:List PA->Prop}{c0:Int}{c1:Int}{bit:Int}
def s22 (c0:Int) (c1:Int) (bit:Int):Int :=
  (zu3 .i64 (orW .i64 (zvQ .i64 c0 (1:Int)) bit) (w64 ((zvQ .i64 (1:Int) c1) - (1:Int))))
def p22 (c0:Int) (c1:Int) (bit:Int):Bool :=
  (decide ((0<=(1:Int))) &&
 (decide ((0<=c1)) &&
 true))
end
theorem q22 (c0:Int) (c1:Int) (bit:Int) (K:List PA->Prop) (hs:p22 c0 c1 bit=true) (hk:K (e22 (s22 c0 c1 bit))):vcFun Try.prog G22 zMr 22 [.one (.int .i64 bit),.one (.fp (zaB c0) 0),.one (.fp (zaB c1) 0)] K :=
  zaI (by kernel_rfl) (zaS hs λ hc hs=>And.intro hc (zaS hs λ hc hs=>And.intro hc hk))
def zH3 : List PA → COut
  | [.one (.int .i64 a0),.one (.fp [.int .i64 c0] 0),.one (.fp [.int .i64 c1] 0)]=>.det (p22 c0 c1 a0=true) [.one (.int .i64 (s22 c0 c1 a0))]
  | _=>.no
theorem zMs:zal Try.prog 22:=⟨_,rfl,rfl,by kernel_rfl⟩
theorem zRC:Ok Try.prog 22 zH3:=za5 zPp zMs λ args K h=>by
  unfold zH3 at h
  split at h
  · rename_i a0 c0 c1
    obtain⟨hs,hk⟩:=h
    exact⟨(λ _ _=>[]),(λ _=>false),zMr,q22 c0 c1 a0 K hs hk⟩
  · exact h.elim
abbrev T39:Tabs:=Tabs.nil
theorem zPq:TabsOk Try.prog T39:=TabsOk.nil
abbrev G39:Ctrs:=csm T39 (λ _ _=>[]) (λ l=>Nat.beq l 31)
def zH4:Ann:=⟨46,[(0,zK [1] [1]),(1,zK [1,3] [1,8]),(2,zK [1,3,4] [1,8,12]),(3,zK [1,3,4] [1,8,12]),(4,zK [1,3,4,5] [1,8,12]),(5,zK [1,3,4,5,18] [1,8,12]),(6,zK [1,3,4,5] [1,8,12]),(7,zK [1,3,4,5,28,29] [1,8,12]),(8,zK [1,3,4,5,28,29,30] [1,8,12]),(9,zK [1,3,4,5,7,28,29] [1,8,12]),(10,zK [1,3,4,5,7,28,29,36] [1,8,12]),(11,zK [1,3,4,5,7,28,29] [1,8,12]),(12,zK [1,3,4,5,28,29] [1,8,12]),(13,zK [1,3,4,5,28,29] [1,8,12]),(14,zK [2] [8])],
 [(5,zK [1,3,4,5] [1,8,12]),(8,zK [1,3,4,5,28,29] [1,8,12])],
 [],
 [],[]⟩
abbrev R39:=(Sl Int)
abbrev e39 (r:R39):List PA:=[.one (.sl r.len 1 (λ i=>zaB (r.get i)))]
@[irreducible] def z39:=ptF Try.prog G39 zH4 Try.f39
def zEU (s:Scanner) (iv0:Int) (zji:(Sl Int)) (zgw:(Sl Bool)) (zlk:Nat->List PV) (zh5:Nat->List PV):St:=⟨[(1,zp 1 0),(3,zv 8),(4,zv 12),(5,zI iv0)],[(1,.box 39 (zm (ze7 s))),(8,.vec 3 1 8 zji.len zlk),(12,.vec 4 1 1 zgw.len zh5)],[]⟩
abbrev zH5 (K:List PA->Prop) (s:Scanner) (X:St->Prop) (P:Int->(Sl Int)->(Sl Bool)->Bool) (S:Int->(Sl Int)->(Sl Bool)->(Sl Int)):Prop:=∀ ⦃iv0:Int⦄ ⦃zji:(Sl Int)⦄ ⦃zgw:(Sl Bool)⦄ ⦃zlk:Nat->List PV⦄ ⦃zh5:Nat->List PV⦄,P iv0 zji zgw=true->K (e39 (S iv0 zji zgw))->zlk=zg zaB zji->zh5=zg enc_4 zgw->X (zEU s iv0 zji zgw zlk zh5)
def zEV (s:Scanner) (iv1:Int) (zbR:Int) (zbS:Int) (zcN:Int) (zjj:(Sl Int)) (zdX:(Sl Bool)) (zll:Nat->List PV) (zh6:Nat->List PV):St:=⟨[(1,zp 1 0),(3,zv 8),(4,zv 12),(5,zI iv1),(28,zA (zaY (zbR,zbS))),(29,zI zcN)],[(1,.box 39 (zm (ze7 s))),(8,.vec 3 1 8 zjj.len zll),(12,.vec 4 1 1 zdX.len zh6)],[]⟩
abbrev zMt (K:List PA->Prop) (s:Scanner) (X:St->Prop) (P:Int->Int->Int->Int->(Sl Int)->(Sl Bool)->Bool) (S:Int->Int->Int->Int->(Sl Int)->(Sl Bool)->(Sl Int)):Prop:=∀ ⦃iv1:Int⦄ ⦃zbR:Int⦄ ⦃zbS:Int⦄ ⦃zcN:Int⦄ ⦃zjj:(Sl Int)⦄ ⦃zdX:(Sl Bool)⦄ ⦃zll:Nat->List PV⦄ ⦃zh6:Nat->List PV⦄,P iv1 zbR zbS zcN zjj zdX=true->K (e39 (S iv1 zbR zbS zcN zjj zdX))->zll=zg zaB zjj->zh6=zg enc_4 zdX->X (zEV s iv1 zbR zbS zcN zjj zdX zll zh6)
section
variable {K:List PA->Prop}{s:Scanner}{iv0:Int}{zji:(Sl Int)}{zgw:(Sl Bool)}{zlk:Nat->List PV}{zh5:Nat->List PV}{X0:St->Prop}{P0:Int->(Sl Int)->(Sl Bool)->Bool}{S0:Int->(Sl Int)->(Sl Bool)->(Sl Int)}{iv1:Int}{zbR:Int}{zbS:Int}{zcN:Int}{zjj:(Sl Int)}{zdX:(Sl Bool)}{zll:Nat->List PV}{zh6:Nat->List PV}{X1:St->Prop}{P1:Int->Int->Int->Int->(Sl Int)->(Sl Bool)->Bool}{S1:Int->Int->Int->Int->(Sl Int)->(Sl Bool)->(Sl Int)}
def zzM (S0:Int->(Sl Int)->(Sl Bool)->(Sl Int)) (s:Scanner) (S1:Int->Int->Int->Int->(Sl Int)->(Sl Bool)->(Sl Int)) (iv1:Int) (zbR:Int) (zbS:Int) (zcN:Int) (zjj:(Sl Int)) (zdX:(Sl Bool)):(Sl Int) :=
  (cond (decide (zcN < (2:Int)))
 (cond (!(zdX.get ((zkt [Cl.p (.int .i64 zbR), Cl.p (.int .i64 zbS)] (0 + zcN.toNat * 1 + 0)).toNat)))
 (S1 iv1 zbR zbS (w64 (zcN+(1:Int))) (⟨(zjj.len+1),(zo8 zjj.len zjj.get (λ _=>(zkt [Cl.p (.int .i64 zbR),Cl.p (.int .i64 zbS)] (0+zcN.toNat * 1+0))))⟩:Sl Int) (⟨zdX.len,(setT ((zkt [Cl.p (.int .i64 zbR),Cl.p (.int .i64 zbS)] (0+zcN.toNat * 1+0)).toNat) true zdX.get)⟩:Sl Bool))
 (S1 iv1 zbR zbS (w64 (zcN+(1:Int))) zjj zdX))
 (S0 (w64 (iv1+(1:Int))) zjj zdX))
def zzN (P0:Int->(Sl Int)->(Sl Bool)->Bool) (s:Scanner) (P1:Int->Int->Int->Int->(Sl Int)->(Sl Bool)->Bool) (iv1:Int) (zbR:Int) (zbS:Int) (zcN:Int) (zjj:(Sl Int)) (zdX:(Sl Bool)):Bool :=
  (cond (decide (zcN < (2:Int)))
 (decide ((0<=zcN/\zcN < (2:Int))) &&
 (decide ((0<=(zkt [Cl.p (.int .i64 zbR),Cl.p (.int .i64 zbS)] (0+zcN.toNat * 1+0))/\(zkt [Cl.p (.int .i64 zbR),Cl.p (.int .i64 zbS)] (0+zcN.toNat * 1+0)) < (zdX.len:Int))) &&
 (decide (((zkt [Cl.p (.int .i64 zbR),Cl.p (.int .i64 zbS)] (0+zcN.toNat * 1+0)).toNat < zdX.len)) &&
 (cond (!(zdX.get ((zkt [Cl.p (.int .i64 zbR), Cl.p (.int .i64 zbS)] (0 + zcN.toNat * 1 + 0)).toNat)))
 (decide ((0<=(zkt [Cl.p (.int .i64 zbR),Cl.p (.int .i64 zbS)] (0+zcN.toNat * 1+0))/\(zkt [Cl.p (.int .i64 zbR),Cl.p (.int .i64 zbS)] (0+zcN.toNat * 1+0)) < (zdX.len:Int))) &&
 (decide (((zkt [Cl.p (.int .i64 zbR),Cl.p (.int .i64 zbS)] (0+zcN.toNat * 1+0)).toNat < zdX.len)) &&
 (decide (((zjj.len+1) * 8<=140737488355328/\zjj.len+1<=9223372036854775807)) &&
 (P1 iv1 zbR zbS (w64 (zcN+(1:Int))) (⟨(zjj.len+1),(zo8 zjj.len zjj.get (λ _=>(zkt [Cl.p (.int .i64 zbR),Cl.p (.int .i64 zbS)] (0+zcN.toNat * 1+0))))⟩:Sl Int) (⟨zdX.len,(setT ((zkt [Cl.p (.int .i64 zbR),Cl.p (.int .i64 zbS)] (0+zcN.toNat * 1+0)).toNat) true zdX.get)⟩:Sl Bool)))))
 (P1 iv1 zbR zbS (w64 (zcN+(1:Int))) zjj zdX)))))
 (P0 (w64 (iv1+(1:Int))) zjj zdX))
def zzO (S0:Int->(Sl Int)->(Sl Bool)->(Sl Int)) (s:Scanner):Nat->Int->Int->Int->Int->(Sl Int)->(Sl Bool)->(Sl Int):=lpO (λ _ _ _ _ _ _=>default) (zzM S0 s)
def zzP (P0:Int->(Sl Int)->(Sl Bool)->Bool) (s:Scanner):Nat->Int->Int->Int->Int->(Sl Int)->(Sl Bool)->Bool:=lpO (λ _ _ _ _ _ _=>false) (zzN P0 s)
def zzQ (S0:Int->(Sl Int)->(Sl Bool)->(Sl Int)) (s:Scanner) (iv1:Int) (zbR:Int) (zbS:Int) (zcN:Int) (zjj:(Sl Int)) (zdX:(Sl Bool)):(Sl Int):=zzO S0 s Fuel iv1 zbR zbS zcN zjj zdX
def zzR (P0:Int->(Sl Int)->(Sl Bool)->Bool) (s:Scanner) (iv1:Int) (zbR:Int) (zbS:Int) (zcN:Int) (zjj:(Sl Int)) (zdX:(Sl Bool)):Bool:=zzP P0 s Fuel iv1 zbR zbS zcN zjj zdX
theorem zH6 (hX0:zH5 K s X0 P0 S0) (hs:zzR P0 s iv1 zbR zbS zcN zjj zdX=true) (hk:K (e39 (zzQ S0 s iv1 zbR zbS zcN zjj zdX))) (zzS:zll=zg zaB zjj) (zsv:zh6=zg enc_4 zdX):z39 K [1,1,1,1,0,1,0,0,1,0,0,1,0] [X0] (zEV s iv1 zbR zbS zcN zjj zdX zll zh6) :=
  zl (λ X=>z39 K [1,1,1,1,0,1,0,0,1,0,0,1,0,0] [X0,X]) (by kernel_rfl) λ X1 hX =>
  (show ∀ k, zMt K s X1 (zzP P0 s k) (zzO S0 s k) from zg4 _ _ (zzN P0 s) (zzM S0 s) (zMt K s X1)
 (by intro _ _ _ _ _ _ _ _ hs;exact absurd hs dqk)
 (by intro P1 S1 hX1 iv1 zbR zbS zcN zjj zdX zll zh6 hs hk zzS zsv;subst zzS;subst zsv;exact hX _ (zaI (by kernel_rfl) (zc hs hk (λ hs hk=>(zaS hs λ hc hs=>And.intro hc (zaS hs λ hc hs=>And.intro hc (zaS hs λ hc hs=>And.intro hc (zc hs hk (λ hs hk=>(zaS hs λ hc hs=>And.intro hc (zaS hs λ hc hs=>And.intro hc (zaS hs λ hc hs=>And.intro hc (hX1 hs hk (zn3 (enc:=zaB) (f:=zjj.get) (h:=(λ _=>(zkt [Cl.p (.int .i64 zbR),Cl.p (.int .i64 zbS)] (0+zcN.toNat * 1+0)))) rfl rfl) (ziE (enc:=enc_4) (i:=(zkt [Cl.p (.int .i64 zbR),Cl.p (.int .i64 zbS)] (0+zcN.toNat * 1+0)).toNat) (k:=0) (f:=zdX.get) (new:=(enc_4 true)) (v:=true) rfl rfl)))))) (λ hs hk=>(hX1 hs hk rfl rfl))))))) (λ hs hk=>(hX0 hs hk rfl rfl)))))) _ hs hk zzS zsv
def zzT (s:Scanner) (S0:Int->(Sl Int)->(Sl Bool)->(Sl Int)) (iv0:Int) (zji:(Sl Int)) (zgw:(Sl Bool)):(Sl Int) :=
  (cond (decide (iv0 < (zji.len : Int)))
 (zzQ S0 s iv0 ((s.Next.get ((zji.get iv0.toNat).toNat)).1) ((s.Next.get ((zji.get iv0.toNat).toNat)).2) (0:Int) zji zgw)
 zji)
def zzU (s:Scanner) (P0:Int->(Sl Int)->(Sl Bool)->Bool) (iv0:Int) (zji:(Sl Int)) (zgw:(Sl Bool)):Bool :=
  (cond (decide (iv0 < (zji.len : Int)))
 (decide ((0<=iv0/\iv0 < (zji.len:Int))) &&
 (decide ((iv0.toNat < zji.len)) &&
 (decide ((0<=(zji.get iv0.toNat)/\(zji.get iv0.toNat) < (s.Next.len:Int))) &&
 (zzR P0 s iv0 ((s.Next.get ((zji.get iv0.toNat).toNat)).1) ((s.Next.get ((zji.get iv0.toNat).toNat)).2) (0:Int) zji zgw))))
 true)
def zzV (s:Scanner):Nat->Int->(Sl Int)->(Sl Bool)->(Sl Int):=lpO (λ _ _ _=>default) (zzT s)
def zzW (s:Scanner):Nat->Int->(Sl Int)->(Sl Bool)->Bool:=lpO (λ _ _ _=>false) (zzU s)
def zzX (s:Scanner) (iv0:Int) (zji:(Sl Int)) (zgw:(Sl Bool)):(Sl Int):=zzV s Fuel iv0 zji zgw
def zzY (s:Scanner) (iv0:Int) (zji:(Sl Int)) (zgw:(Sl Bool)):Bool:=zzW s Fuel iv0 zji zgw
theorem zH7 (hs:zzY s iv0 zji zgw=true) (hk:K (e39 (zzX s iv0 zji zgw))) (zzZ:zlk=zg zaB zji) (zsw:zh5=zg enc_4 zgw):z39 K [1,1,1,1,0,1,0] [] (zEU s iv0 zji zgw zlk zh5) :=
  zl (λ X=>z39 K [1,1,1,1,0,1,0,0] [X]) (by kernel_rfl) λ X0 hX =>
  (show ∀ k, zH5 K s X0 (zzW s k) (zzV s k) from zg4 _ _ (zzU s) (zzT s) (zH5 K s X0)
 (by intro _ _ _ _ _ hs;exact absurd hs dqk)
 (by intro P0 S0 hX0 iv0 zji zgw zlk zh5 hs hk zzZ zsw;subst zzZ;subst zsw;exact hX _ (zaI (by kernel_rfl) (zc hs hk (λ hs hk=>(zaS hs λ hc hs=>And.intro hc (zaS hs λ hc hs=>And.intro hc (zaS hs λ hc hs=>And.intro hc (zH6 hX0 hs hk rfl rfl))))) (λ hs hk=>hk))))) _ hs hk zzZ zsw
def s39 (s:Scanner):(Sl Int) :=
  (zzX s (0:Int) (⟨1,(λ _=>(0:Int))⟩:Sl Int) (⟨(s.Next.len:Int).toNat,(setT 0 true (λ _=>false))⟩:Sl Bool))
def p39 (s:Scanner):Bool :=
  (decide ((0<=(s.Next.len:Int)/\(s.Next.len:Int)=(s.Next.len:Int)/\(s.Next.len:Int)<=1000000)) &&
 (decide ((0<=(0:Int)/\(0:Int) < ((s.Next.len:Int).toNat:Int))) &&
 (decide ((0 < (s.Next.len:Int).toNat)) &&
 (zzY s (0:Int) (⟨1,(λ _=>(0:Int))⟩:Sl Int) (⟨(s.Next.len:Int).toNat,(setT 0 true (λ _=>false))⟩:Sl Bool)))))
end
theorem q39 (s:Scanner) (K:List PA->Prop) (hs:p39 s=true) (hk:K (e39 (s39 s))):vcFun Try.prog G39 zH4 39 [.agg (ze7 s)] K :=
  zaI (by kernel_rfl) (zaS hs λ hc hs=>And.intro hc (zaS hs λ hc hs=>And.intro hc (zaS hs λ hc hs=>And.intro hc (zH7 hs hk rfl (ziE (enc:=enc_4) (i:=0) (k:=0) (f:=(λ _=>false)) (new:=(enc_4 true)) (v:=true) rfl rfl)))))
def zH8 : List PA → COut
  | [.agg [.sl za0 zcZ za1,.sl zb2 zez zb3]]=>.det (IsE zaY 2 zcZ za1/\IsE za8 2 zez zb3/\p39 (⟨(⟨za0,zbL za1⟩:(Sl (Int×Int))),(⟨zb2,zb5 zb3⟩:(Sl (Bool×Bool)))⟩:Scanner)=true) [.one (.sl ((s39 (⟨(⟨za0,zbL za1⟩:(Sl (Int×Int))),(⟨zb2,zb5 zb3⟩:(Sl (Bool×Bool)))⟩:Scanner)).len) 1 (λ i=>zaB ((s39 (⟨(⟨za0,zbL za1⟩:(Sl (Int×Int))),(⟨zb2,zb5 zb3⟩:(Sl (Bool×Bool)))⟩:Scanner)).get i)))]
  | _=>.no
theorem zMu:zal Try.prog 39:=⟨_,rfl,rfl,by kernel_rfl⟩
theorem zRD:Ok Try.prog 39 zH8:=za5 zPq zMu λ args K h=>by
  unfold zH8 at h
  split at h
  · rename_i za0 zcZ za1 zb2 zez zb3
    obtain⟨⟨⟨rfl,zcc,rfl⟩,⟨rfl,zdj,rfl⟩,hs⟩,hk⟩:=h
    try rw[zbB zcc] at hs
    try rw[zbB zcc] at hk
    try rw[zbU zdj] at hs
    try rw[zbU zdj] at hk
    exact⟨(λ _ _=>[]),(λ l=>Nat.beq l 31),zH4,q39 (⟨(⟨za0,zcc⟩:(Sl (Int×Int))),(⟨zb2,zdj⟩:(Sl (Bool×Bool)))⟩:Scanner) K hs hk⟩
  · exact h.elim
abbrev T41:Tabs:=Tabs.nil
theorem zPr:TabsOk Try.prog T41:=TabsOk.nil
abbrev G41:Ctrs:=csm T41 (λ _ _=>[]) (λ _=>false)
def zMv:Ann:=⟨13,[(0,zK [0,1,2,4] [4]),(1,zK [4] [4])],
 [],
 [],
 [],[]⟩
abbrev R41:=(Bool×Bool)
abbrev e41 (r:R41):List PA:=[.agg [.bool r.1,.bool r.2]]
section
variable {K:List PA->Prop}{c0:Scanner}{c1:(Sl Int)}{i_a0:Int}
def s41 (c0:Scanner) (c1:(Sl Int)) (i_a0:Int):(Bool×Bool) :=
  (c0.Out.get ((c1.get i_a0.toNat).toNat))
def p41 (c0:Scanner) (c1:(Sl Int)) (i_a0:Int):Bool :=
  (decide ((0<=i_a0/\i_a0 < (c1.len:Int))) &&
 (decide ((0<=(c1.get i_a0.toNat)/\(c1.get i_a0.toNat) < (c0.Out.len:Int))) &&
 true))
end
theorem q41 (c0:Scanner) (c1:(Sl Int)) (i_a0:Int) (K:List PA->Prop) (hs:p41 c0 c1 i_a0=true) (hk:K (e41 (s41 c0 c1 i_a0))):vcFun Try.prog G41 zMv 41 [.one (.int .i64 i_a0),.one (.fp (ze7 c0) 0),.one (.fp (ze6 c1) 0)] K :=
  zaI (by kernel_rfl) (zaS hs λ hc hs=>And.intro hc (zaS hs λ hc hs=>And.intro hc hk))
def zH9 : List PA → COut
  | [.one (.int .i64 a0),.one (.fp [.sl c0_Next_n c0_Next_s c0_Next_g,.sl c0_Out_n c0_Out_s c0_Out_g] 0),.one (.fp [.sl c1_n c1_s c1_g] 0)]=>.det (IsE zaY 2 c0_Next_s c0_Next_g/\IsE za8 2 c0_Out_s c0_Out_g/\IsE zaB 1 c1_s c1_g/\p41 (⟨(⟨c0_Next_n,zbL c0_Next_g⟩:(Sl (Int×Int))),(⟨c0_Out_n,zb5 c0_Out_g⟩:(Sl (Bool×Bool)))⟩:Scanner) (⟨c1_n,zbh c1_g⟩:(Sl Int)) a0=true) [.agg [.bool ((s41 (⟨(⟨c0_Next_n,zbL c0_Next_g⟩:(Sl (Int×Int))),(⟨c0_Out_n,zb5 c0_Out_g⟩:(Sl (Bool×Bool)))⟩:Scanner) (⟨c1_n,zbh c1_g⟩:(Sl Int)) a0).1),.bool ((s41 (⟨(⟨c0_Next_n,zbL c0_Next_g⟩:(Sl (Int×Int))),(⟨c0_Out_n,zb5 c0_Out_g⟩:(Sl (Bool×Bool)))⟩:Scanner) (⟨c1_n,zbh c1_g⟩:(Sl Int)) a0).2)]]
  | _=>.no
theorem zMw:zal Try.prog 41:=⟨_,rfl,rfl,by kernel_rfl⟩
theorem zRE:Ok Try.prog 41 zH9:=za5 zPr zMw λ args K h=>by
  unfold zH9 at h
  split at h
  · rename_i a0 c0_Next_n c0_Next_s c0_Next_g c0_Out_n c0_Out_s c0_Out_g c1_n c1_s c1_g
    obtain⟨⟨⟨rfl,c0_Next_f,rfl⟩,⟨rfl,c0_Out_f,rfl⟩,⟨rfl,c1_f,rfl⟩,hs⟩,hk⟩:=h
    try rw[zbB c0_Next_f] at hs
    try rw[zbB c0_Next_f] at hk
    try rw[zbU c0_Out_f] at hs
    try rw[zbU c0_Out_f] at hk
    try rw[zaV c1_f] at hs
    try rw[zaV c1_f] at hk
    exact⟨(λ _ _=>[]),(λ _=>false),zMv,q41 (⟨(⟨c0_Next_n,c0_Next_f⟩:(Sl (Int×Int))),(⟨c0_Out_n,c0_Out_f⟩:(Sl (Bool×Bool)))⟩:Scanner) (⟨c1_n,c1_f⟩:(Sl Int)) a0 K hs hk⟩
  · exact h.elim
abbrev T40:Tabs:=(Tabs.nil.addF 41 zH9)
theorem zPs:TabsOk Try.prog T40:=(TabsOk.nil.addF zRE)
abbrev G40:Ctrs:=csm T40 (λ _ _=>[]) (λ l=>Nat.beq l 12)
def zIa:Ann:=⟨44,[(0,zK [0,1] []),(1,zK [0,1,6] [12]),(2,zK [1,6,7] [12,14]),(3,zK [1,6,7,16,17] [12,14]),(4,zK [1,6,7,16,17,18] [12,14]),(5,zK [1,6,7,8,16,17] [12,14]),(6,zK [1,6,7,8,9,16,17] [9,12,14]),(7,zK [1,6,7,8,9,10,11,16,17] [9,12,14]),(8,zK [1,6,7,8,9,10,16,17,30] [9,12,14]),(9,zK [1,6,7,8,9,10,16,17] [9,12,14]),(10,zK [1,6,7,8,10,16,17] [12,14]),(11,zK [1,6,7,16,17] [12,14]),(12,zK [1,6,7,16,17] [12,14]),(13,zK [4,5] [14])],
 [(4,zK [1,6,7,16,17] [12,14])],
 [(7,zK [1,6,7,8,9,16,17] [9,12,14])],
 [],[]⟩
abbrev R40:=((Sl Int)×Int)
abbrev e40 (r:R40):List PA:=[.one (.sl r.1.len 1 (λ i=>zaB (r.1.get i))),.one (.int .i64 r.2)]
@[irreducible] def z40:=ptF Try.prog G40 zIa Try.f40
def zEW (c0:Scanner) (c1:(Sl Int)) (n:Int) (zcd:Int) (zc2:(Sl Int)) (zbq:Nat) (zbJ:(List Int->Option (List Int))) (zdD:Nat->List PV):St:=⟨[(1,zP (.fn 41 [] [.fp (ze7 c0) 0,.fp (ze6 c1) 0])),(6,.one (.c (.mo 12))),(7,zv 14),(16,zI (n.toNat:Int)),(17,zI zcd)],[(12,.mo 79 3 (KF.bools,2,false,[some .i64]) zbq zbJ),(14,.vec 3 1 8 zc2.len zdD)],[]⟩
abbrev zIb (K:List PA->Prop) (c0:Scanner) (c1:(Sl Int)) (n:Int) (X:St->Prop) (P:Int->(Sl Int)->Nat->(List Int->Option (List Int))->Bool) (S:Int->(Sl Int)->Nat->(List Int->Option (List Int))->((Sl Int)×Int)):Prop:=∀ ⦃zcd:Int⦄ ⦃zc2:(Sl Int)⦄ ⦃zbq:Nat⦄ ⦃zbJ:(List Int->Option (List Int))⦄ ⦃zdD:Nat->List PV⦄,P zcd zc2 zbq zbJ=true->K (e40 (S zcd zc2 zbq zbJ))->zdD=zg zaB zc2->X (zEW c0 c1 n zcd zc2 zbq zbJ zdD)
section
variable {K:List PA->Prop}{c0:Scanner}{c1:(Sl Int)}{n:Int}{zcd:Int}{zc2:(Sl Int)}{zbq:Nat}{zbJ:(List Int->Option (List Int))}{zdD:Nat->List PV}{X0:St->Prop}{P0:Int->(Sl Int)->Nat->(List Int->Option (List Int))->Bool}{S0:Int->(Sl Int)->Nat->(List Int->Option (List Int))->((Sl Int)×Int)}{iv1:Int}{zhd:Int}{zd4:Bool}{zd5:Bool}{zda:(Sl Int)}{zb6:Nat}{zbP:(List Int->Option (List Int))}{zmY:Nat->List PV}
def zz0 (S0:Int->(Sl Int)->Nat->(List Int->Option (List Int))->((Sl Int)×Int)) (c0:Scanner) (c1:(Sl Int)) (n:Int) (iv1:Int) (zhd:Int) (zd4:Bool) (zd5:Bool) (zda:(Sl Int)) (zb6:Nat) (zbP:(List Int->Option (List Int))):((Sl Int)×Int) :=
  (cond (!(zbP [(zno zd4), (zno zd5)]).isSome)
 (S0 (w64 (zhd+(1:Int))) (⟨zda.len,(setT iv1.toNat (zb6:Int) zda.get)⟩:Sl Int) (addN (zbP [(zno zd4),(zno zd5)]) zb6) (ztB [(zno zd4),(zno zd5)] [(zb6:Int)] zbP))
 (S0 (w64 (zhd+(1:Int))) (⟨zda.len,(setT iv1.toNat (zvS (zbP [(zno zd4),(zno zd5)]) 0) zda.get)⟩:Sl Int) zb6 zbP))
def zz1 (P0:Int->(Sl Int)->Nat->(List Int->Option (List Int))->Bool) (c0:Scanner) (c1:(Sl Int)) (n:Int) (iv1:Int) (zhd:Int) (zd4:Bool) (zd5:Bool) (zda:(Sl Int)) (zb6:Nat) (zbP:(List Int->Option (List Int))):Bool :=
  (cond (!(zbP [(zno zd4), (zno zd5)]).isSome)
 (decide ((0<=iv1/\iv1 < (zda.len:Int))) &&
 (decide ((iv1.toNat < zda.len)) &&
 (P0 (w64 (zhd+(1:Int))) (⟨zda.len,(setT iv1.toNat (zb6:Int) zda.get)⟩:Sl Int) (addN (zbP [(zno zd4),(zno zd5)]) zb6) (ztB [(zno zd4),(zno zd5)] [(zb6:Int)] zbP))))
 (decide ((0<=iv1/\iv1 < (zda.len:Int))) &&
 (decide ((iv1.toNat < zda.len)) &&
 (P0 (w64 (zhd+(1:Int))) (⟨zda.len,(setT iv1.toNat (zvS (zbP [(zno zd4),(zno zd5)]) 0) zda.get)⟩:Sl Int) zb6 zbP))))
theorem zIc (hX0:zIb K c0 c1 n X0 P0 S0) (hs:zz1 P0 c0 c1 n iv1 zhd zd4 zd5 zda zb6 zbP=true) (hk:K (e40 (zz0 S0 c0 c1 n iv1 zhd zd4 zd5 zda zb6 zbP))) (zsx:zmY=zg zaB zda):z40 K [1,1,1,0,1,0,0,1,1,0,0,1,1] [X0] ⟨[(1,zP (.fn 41 [] [.fp (ze7 c0) 0,.fp (ze6 c1) 0])),(6,.one (.c (.mo 12))),(7,zv 14),(8,zI iv1),(9,zp 9 0),(16,zI (n.toNat:Int)),(17,zI zhd)],[(9,.box 79 (zm (za8 (zd4,zd5)))),(12,.mo 79 3 (KF.bools,2,false,[some .i64]) zb6 zbP),(14,.vec 3 1 8 zda.len zmY)],[]⟩:=by subst zsx;exact zaI (by kernel_rfl) (zc hs hk (λ hs hk=>(zaS hs λ hc hs=>And.intro hc (zaS hs λ hc hs=>And.intro hc (hX0 hs hk (ziE (enc:=zaB) (i:=iv1.toNat) (k:=0) (f:=zda.get) (new:=(zaB (zb6:Int))) (v:=(zb6:Int)) rfl rfl))))) (λ hs hk=>(zaS hs λ hc hs=>And.intro hc (zaS hs λ hc hs=>And.intro hc (hX0 hs hk (ziE (enc:=zaB) (i:=iv1.toNat) (k:=0) (f:=zda.get) (new:=(zaB (zvS (zbP [(zno zd4),(zno zd5)]) 0))) (v:=(zvS (zbP [(zno zd4),(zno zd5)]) 0)) rfl rfl))))))
def zz2 (c0:Scanner) (c1:(Sl Int)) (n:Int) (S0:Int->(Sl Int)->Nat->(List Int->Option (List Int))->((Sl Int)×Int)) (zcd:Int) (zc2:(Sl Int)) (zbq:Nat) (zbJ:(List Int->Option (List Int))):((Sl Int)×Int) :=
  (cond (decide (zcd < (n.toNat : Int)))
 (zz0 S0 c0 c1 n zcd zcd ((s41 c0 c1 zcd).1) ((s41 c0 c1 zcd).2) zc2 zbq zbJ)
 (zc2,(zbq:Int)))
def zz3 (c0:Scanner) (c1:(Sl Int)) (n:Int) (P0:Int->(Sl Int)->Nat->(List Int->Option (List Int))->Bool) (zcd:Int) (zc2:(Sl Int)) (zbq:Nat) (zbJ:(List Int->Option (List Int))):Bool :=
  (cond (decide (zcd < (n.toNat : Int)))
 (decide ((p41 c0 c1 zcd=true)) &&
 (zz1 P0 c0 c1 n zcd zcd ((s41 c0 c1 zcd).1) ((s41 c0 c1 zcd).2) zc2 zbq zbJ))
 true)
def zz4 (c0:Scanner) (c1:(Sl Int)) (n:Int):Nat->Int->(Sl Int)->Nat->(List Int->Option (List Int))->((Sl Int)×Int):=lpO (λ _ _ _ _=>default) (zz2 c0 c1 n)
def zz5 (c0:Scanner) (c1:(Sl Int)) (n:Int):Nat->Int->(Sl Int)->Nat->(List Int->Option (List Int))->Bool:=lpO (λ _ _ _ _=>false) (zz3 c0 c1 n)
def zz6 (c0:Scanner) (c1:(Sl Int)) (n:Int) (zcd:Int) (zc2:(Sl Int)) (zbq:Nat) (zbJ:(List Int->Option (List Int))):((Sl Int)×Int):=zz4 c0 c1 n Fuel zcd zc2 zbq zbJ
def zz7 (c0:Scanner) (c1:(Sl Int)) (n:Int) (zcd:Int) (zc2:(Sl Int)) (zbq:Nat) (zbJ:(List Int->Option (List Int))):Bool:=zz5 c0 c1 n Fuel zcd zc2 zbq zbJ
theorem zId (hs:zz7 c0 c1 n zcd zc2 zbq zbJ=true) (hk:K (e40 (zz6 c0 c1 n zcd zc2 zbq zbJ))) (zjk:zdD=zg zaB zc2):z40 K [1,1,1,0,1,0] [] (zEW c0 c1 n zcd zc2 zbq zbJ zdD) :=
  zl (λ X=>z40 K [1,1,1,0,1,0,0] [X]) (by kernel_rfl) λ X0 hX =>
  (show ∀ k, zIb K c0 c1 n X0 (zz5 c0 c1 n k) (zz4 c0 c1 n k) from zg4 _ _ (zz3 c0 c1 n) (zz2 c0 c1 n) (zIb K c0 c1 n X0)
 (by intro _ _ _ _ _ hs;exact absurd hs dqk)
 (by intro P0 S0 hX0 zcd zc2 zbq zbJ zdD hs hk zjk;subst zjk;exact hX _ (zaI (by kernel_rfl) (zc hs hk (λ hs hk=>(zaS hs λ hc hs=>And.intro (And.intro (zE zaY 2 c0.Next.get) (And.intro (zE za8 2 c0.Out.get) (And.intro (zE zaB 1 c1.get) hc))) (zIc hX0 hs hk rfl))) (λ hs hk=>hk))))) _ hs hk zjk
def s40 (c0:Scanner) (c1:(Sl Int)) (n:Int):((Sl Int)×Int) :=
  (zz6 c0 c1 n (0:Int) (⟨n.toNat,(λ _=>(0:Int))⟩:Sl Int) 0 (λ _=>none))
def p40 (c0:Scanner) (c1:(Sl Int)) (n:Int):Bool :=
  (decide ((0<=n/\n=n/\n<=1000000)) &&
 (zz7 c0 c1 n (0:Int) (⟨n.toNat,(λ _=>(0:Int))⟩:Sl Int) 0 (λ _=>none)))
end
theorem q40 (c0:Scanner) (c1:(Sl Int)) (n:Int) (K:List PA->Prop) (hs:p40 c0 c1 n=true) (hk:K (e40 (s40 c0 c1 n))):vcFun Try.prog G40 zIa 40 [.one (.int .i64 n),.one (.fn 41 [] [.fp (ze7 c0) 0,.fp (ze6 c1) 0])] K :=
  zaI (by kernel_rfl) (zaS hs λ hc hs=>And.intro hc (zId hs hk rfl))
def zIe : List PA → COut
  | [.one (.int .i64 a0),.one (.fn 41 [] [.fp [.sl c0_Next_n c0_Next_s c0_Next_g,.sl c0_Out_n c0_Out_s c0_Out_g] 0,.fp [.sl c1_n c1_s c1_g] 0])]=>.det (IsE zaY 2 c0_Next_s c0_Next_g/\IsE za8 2 c0_Out_s c0_Out_g/\IsE zaB 1 c1_s c1_g/\p40 (⟨(⟨c0_Next_n,zbL c0_Next_g⟩:(Sl (Int×Int))),(⟨c0_Out_n,zb5 c0_Out_g⟩:(Sl (Bool×Bool)))⟩:Scanner) (⟨c1_n,zbh c1_g⟩:(Sl Int)) a0=true) [.one (.sl (((s40 (⟨(⟨c0_Next_n,zbL c0_Next_g⟩:(Sl (Int×Int))),(⟨c0_Out_n,zb5 c0_Out_g⟩:(Sl (Bool×Bool)))⟩:Scanner) (⟨c1_n,zbh c1_g⟩:(Sl Int)) a0).1).len) 1 (λ i=>zaB (((s40 (⟨(⟨c0_Next_n,zbL c0_Next_g⟩:(Sl (Int×Int))),(⟨c0_Out_n,zb5 c0_Out_g⟩:(Sl (Bool×Bool)))⟩:Scanner) (⟨c1_n,zbh c1_g⟩:(Sl Int)) a0).1).get i))),.one (.int .i64 ((s40 (⟨(⟨c0_Next_n,zbL c0_Next_g⟩:(Sl (Int×Int))),(⟨c0_Out_n,zb5 c0_Out_g⟩:(Sl (Bool×Bool)))⟩:Scanner) (⟨c1_n,zbh c1_g⟩:(Sl Int)) a0).2))]
  | _=>.no
theorem zMx:zal Try.prog 40:=⟨_,rfl,rfl,by kernel_rfl⟩
theorem zRF:Ok Try.prog 40 zIe:=za5 zPs zMx λ args K h=>by
  unfold zIe at h
  split at h
  · rename_i a0 c0_Next_n c0_Next_s c0_Next_g c0_Out_n c0_Out_s c0_Out_g c1_n c1_s c1_g
    obtain⟨⟨⟨rfl,c0_Next_f,rfl⟩,⟨rfl,c0_Out_f,rfl⟩,⟨rfl,c1_f,rfl⟩,hs⟩,hk⟩:=h
    try rw[zbB c0_Next_f] at hs
    try rw[zbB c0_Next_f] at hk
    try rw[zbU c0_Out_f] at hs
    try rw[zbU c0_Out_f] at hk
    try rw[zaV c1_f] at hs
    try rw[zaV c1_f] at hk
    exact⟨(λ _ _=>[]),(λ l=>Nat.beq l 12),zIa,q40 (⟨(⟨c0_Next_n,c0_Next_f⟩:(Sl (Int×Int))),(⟨c0_Out_n,c0_Out_f⟩:(Sl (Bool×Bool)))⟩:Scanner) (⟨c1_n,c1_f⟩:(Sl Int)) a0 K hs hk⟩
  · exact h.elim
abbrev T43:Tabs:=Tabs.nil
theorem zPt:TabsOk Try.prog T43:=TabsOk.nil
abbrev G43:Ctrs:=csm T43 (λ _ _=>[]) (λ _=>false)
def zMy:Ann:=⟨31,[(0,zK [0,1,2,3,4,6] [6]),(1,zK [0,3,4,6,7] [6,7]),(2,zK [6] [6])],
 [],
 [],
 [],[]⟩
abbrev R43:=(Int×Int×Int)
abbrev e43 (r:R43):List PA:=[.agg [.int .i64 r.1,.int .i64 r.2.1,.int .i64 r.2.2]]
section
variable {K:List PA->Prop}{c0:Scanner}{c1:(Sl Int)}{c2:(Sl Int)}{c3:(Sl Int)}{i_a0:Int}
def s43 (c0:Scanner) (c1:(Sl Int)) (c2:(Sl Int)) (c3:(Sl Int)) (i_a0:Int):(Int×Int×Int) :=
  ((c2.get i_a0.toNat),(c3.get (((c0.Next.get ((c1.get i_a0.toNat).toNat)).1).toNat)),(c3.get (((c0.Next.get ((c1.get i_a0.toNat).toNat)).2).toNat)))
def p43 (c0:Scanner) (c1:(Sl Int)) (c2:(Sl Int)) (c3:(Sl Int)) (i_a0:Int):Bool :=
  (decide ((0<=i_a0/\i_a0 < (c1.len:Int))) &&
 (decide ((0<=(c1.get i_a0.toNat)/\(c1.get i_a0.toNat) < (c0.Next.len:Int))) &&
 (decide ((0<=i_a0/\i_a0 < (c2.len:Int))) &&
 (decide ((0<=(c0.Next.get ((c1.get i_a0.toNat).toNat)).1/\(c0.Next.get ((c1.get i_a0.toNat).toNat)).1 < (c3.len:Int))) &&
 (decide ((0<=(c0.Next.get ((c1.get i_a0.toNat).toNat)).2/\(c0.Next.get ((c1.get i_a0.toNat).toNat)).2 < (c3.len:Int))) &&
 true)))))
end
theorem q43 (c0:Scanner) (c1:(Sl Int)) (c2:(Sl Int)) (c3:(Sl Int)) (i_a0:Int) (K:List PA->Prop) (hs:p43 c0 c1 c2 c3 i_a0=true) (hk:K (e43 (s43 c0 c1 c2 c3 i_a0))):vcFun Try.prog G43 zMy 43 [.one (.int .i64 i_a0),.one (.fp (ze7 c0) 0),.one (.fp (ze6 c1) 0),.one (.fp (ze6 c2) 0),.one (.fp (ze6 c3) 0)] K :=
  zaI (by kernel_rfl) (zaS hs λ hc hs=>And.intro hc (zaS hs λ hc hs=>And.intro hc (zaS hs λ hc hs=>And.intro hc (zaS hs λ hc hs=>And.intro hc (zaS hs λ hc hs=>And.intro hc hk)))))
def zIf : List PA → COut
  | [.one (.int .i64 a0),.one (.fp [.sl c0_Next_n c0_Next_s c0_Next_g,.sl c0_Out_n c0_Out_s c0_Out_g] 0),.one (.fp [.sl c1_n c1_s c1_g] 0),.one (.fp [.sl c2_n c2_s c2_g] 0),.one (.fp [.sl c3_n c3_s c3_g] 0)]=>.det (IsE zaY 2 c0_Next_s c0_Next_g/\IsE za8 2 c0_Out_s c0_Out_g/\IsE zaB 1 c1_s c1_g/\IsE zaB 1 c2_s c2_g/\IsE zaB 1 c3_s c3_g/\p43 (⟨(⟨c0_Next_n,zbL c0_Next_g⟩:(Sl (Int×Int))),(⟨c0_Out_n,zb5 c0_Out_g⟩:(Sl (Bool×Bool)))⟩:Scanner) (⟨c1_n,zbh c1_g⟩:(Sl Int)) (⟨c2_n,zbh c2_g⟩:(Sl Int)) (⟨c3_n,zbh c3_g⟩:(Sl Int)) a0=true) [.agg [.int .i64 ((s43 (⟨(⟨c0_Next_n,zbL c0_Next_g⟩:(Sl (Int×Int))),(⟨c0_Out_n,zb5 c0_Out_g⟩:(Sl (Bool×Bool)))⟩:Scanner) (⟨c1_n,zbh c1_g⟩:(Sl Int)) (⟨c2_n,zbh c2_g⟩:(Sl Int)) (⟨c3_n,zbh c3_g⟩:(Sl Int)) a0).1),.int .i64 ((s43 (⟨(⟨c0_Next_n,zbL c0_Next_g⟩:(Sl (Int×Int))),(⟨c0_Out_n,zb5 c0_Out_g⟩:(Sl (Bool×Bool)))⟩:Scanner) (⟨c1_n,zbh c1_g⟩:(Sl Int)) (⟨c2_n,zbh c2_g⟩:(Sl Int)) (⟨c3_n,zbh c3_g⟩:(Sl Int)) a0).2.1),.int .i64 ((s43 (⟨(⟨c0_Next_n,zbL c0_Next_g⟩:(Sl (Int×Int))),(⟨c0_Out_n,zb5 c0_Out_g⟩:(Sl (Bool×Bool)))⟩:Scanner) (⟨c1_n,zbh c1_g⟩:(Sl Int)) (⟨c2_n,zbh c2_g⟩:(Sl Int)) (⟨c3_n,zbh c3_g⟩:(Sl Int)) a0).2.2)]]
  | _=>.no
theorem zMz:zal Try.prog 43:=⟨_,rfl,rfl,by kernel_rfl⟩
theorem zRG:Ok Try.prog 43 zIf:=za5 zPt zMz λ args K h=>by
  unfold zIf at h
  split at h
  · rename_i a0 c0_Next_n c0_Next_s c0_Next_g c0_Out_n c0_Out_s c0_Out_g c1_n c1_s c1_g c2_n c2_s c2_g c3_n c3_s c3_g
    obtain⟨⟨⟨rfl,c0_Next_f,rfl⟩,⟨rfl,c0_Out_f,rfl⟩,⟨rfl,c1_f,rfl⟩,⟨rfl,c2_f,rfl⟩,⟨rfl,c3_f,rfl⟩,hs⟩,hk⟩:=h
    try rw[zbB c0_Next_f] at hs
    try rw[zbB c0_Next_f] at hk
    try rw[zbU c0_Out_f] at hs
    try rw[zbU c0_Out_f] at hk
    try rw[zaV c1_f] at hs
    try rw[zaV c1_f] at hk
    try rw[zaV c2_f] at hs
    try rw[zaV c2_f] at hk
    try rw[zaV c3_f] at hs
    try rw[zaV c3_f] at hk
    exact⟨(λ _ _=>[]),(λ _=>false),zMy,q43 (⟨(⟨c0_Next_n,c0_Next_f⟩:(Sl (Int×Int))),(⟨c0_Out_n,c0_Out_f⟩:(Sl (Bool×Bool)))⟩:Scanner) (⟨c1_n,c1_f⟩:(Sl Int)) (⟨c2_n,c2_f⟩:(Sl Int)) (⟨c3_n,c3_f⟩:(Sl Int)) a0 K hs hk⟩
  · exact h.elim
end Go.Proofs
