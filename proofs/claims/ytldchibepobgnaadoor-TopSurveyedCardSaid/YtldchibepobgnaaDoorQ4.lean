/- Part 4 of what the proof rests on: a machine that runs functions of the program on pure values, proved sound; the functions that the law reaches, and what they compute. -/
import Derived.Test.YtldchibepobgnaaDoorQ3
import Derived.Sort.OwnSortedInts
import Derived.Lib.SlicesCompact
import Derived.Test.YtldchibepobgnaaDoorProg
import Derived.ProofKit
import Derived.Deep.Slices
import Derived.OpenShut
set_option linter.all false
namespace Go.Pm

structure Tabs where
  fn:List (Nat×(List PA->COut))
  own:List (Nat×OwnK)
  it:List (Nat×(List PA->Option (Prop×List (List PA))))
  mt:List (Nat×MK)
def zxC : List (Nat × (List PA → COut)) → Nat → List PA → COut
  | [],_=>λ _=>.no
  | (k,c) :: r,n=>match Nat.beq k n with | true=>c | false=>zxC r n
def zxD (l:List (Nat×OwnK)) (f:Nat):OwnK:=match lk l f with | some c=>c | none=>.none
def zFP (l:List (Nat×(List PA->Option (Prop×List (List PA))))) (f:Nat):List PA->Option (Prop×List (List PA)):=match lk l f with | some c=>c | none=>λ _=>none
def csm (T:Tabs) (memo:Nat->Int->List Int) (vv:Nat->Bool):Ctrs:=⟨zxC T.fn,zxD T.own,zFP T.it,memo,vv,lk T.mt⟩
abbrev cs (T:Tabs):Ctrs:=csm T (λ _ _=>[]) (λ _=>false)
def Tabs.nil:Tabs:=⟨[],[],[],[]⟩
def Tabs.addF (T:Tabs) (f:Nat) (c:List PA->COut):Tabs:=⟨(f,c) :: T.fn,T.own,T.it,T.mt⟩
def Tabs.addI (T:Tabs) (f:Nat) (c:List PA->Option (Prop×List (List PA))):Tabs:=⟨T.fn,T.own,(f,c) :: T.it,T.mt⟩
theorem zO8 {P:Program}{f:Nat} : Ok P f (λ _=>.no):=λ _ _ h=>h.elim
theorem zO9 {P:Program}{f:Nat} : zBA P f (λ _=>none):=λ _ _ _ h=>by cases h

structure TabsOk (P : Program) (T : Tabs) : Prop where
  fn:∀ x∈T.fn,Ok P x.1 x.2
  own:∀ x∈T.own,zFn P x.1 x.2
  it:∀ x∈T.it,zBA P x.1 x.2
  mt:∀ x∈T.mt,zKA P x.1 x.2
theorem TabsOk.nil {P:Program} : TabsOk P .nil:=⟨λ _ h=>(by cases h),λ _ h=>(by cases h),λ _ h=>(by cases h),λ _ h=>(by cases h)⟩
theorem TabsOk.addF {P:Program}{T:Tabs}(h:TabsOk P T){f:Nat}{c:List PA->COut}(hc:Ok P f c):TabsOk P (T.addF f c) :=
 ⟨λ x hx=>(dqq.1 hx).elim (λ e=>by rw[e];exact hc) (λ hx=>h.fn x hx),h.own,h.it,h.mt⟩
theorem TabsOk.addI {P:Program}{T:Tabs}(h:TabsOk P T){f:Nat}{c:List PA->Option (Prop×List (List PA))}(hc:zBA P f c):TabsOk P (T.addI f c) :=
 ⟨h.fn,h.own,λ x hx=>(dqq.1 hx).elim (λ e=>by rw[e];exact hc) (λ hx=>h.it x hx),h.mt⟩
theorem TabsOk.all {P:Program}{T:Tabs}(h:TabsOk P T) (memo:Nat->Int->List Int) (vv:Nat->Bool):OkAll P (csm T memo vv):=by
 refine⟨λ f C hC=>h.mt _ (zcn hC),λ f=>?_,λ f=>?_,λ f=>?_⟩
 ·show Ok P f (zxC T.fn f)
  have key:∀ l:List (Nat×(List PA->COut)),(∀ x∈l,Ok P x.1 x.2)->Ok P f (zxC l f):=by
   intro l
   induction l with
   | nil=>intro _;exact zO8
   | cons x l ih =>
    intro hl
    obtain⟨k,c⟩:=x
    simp only[zxC]
    split
    ·rename_i e
     have:=hl (k,c) dqj
     rw[<- dqc e];exact this
    ·exact ih λ x hx=>hl x (dqf _ hx)
  exact key T.fn h.fn
 ·show zFn P f (zxD T.own f)
  unfold zxD
  split
  ·rename_i c hc;exact h.own _ (zcn hc)
  ·trivial
 ·show zBA P f (zFP T.it f)
  unfold zFP
  split
  ·rename_i c hc;exact h.it _ (zcn hc)
  ·exact zO9

theorem zau {P : Program} {T : Tabs} (hT : TabsOk P T) {f : FuncId} {C : List PA → COut} (hc : zac P f)
    (h:∀ args K,(C args).wp K->∃ memo vv ann,vcFun P (csm T memo vv) ann f args K):Ok P f C :=
  zCm (hT.all (λ _ _=>[]) (λ _=>false)) hc h
theorem zxE {P : Program} {T : Tabs} (hT : TabsOk P T) {f : FuncId} {C : List PA → Option (Prop × List (List PA))} (hc : zac P f)
    (h:∀ l caps safe ys,C caps=some (safe,ys)->safe->∃ memo vv ann,vcIter P (csm T memo vv) ann f l caps ys):zBA P f C :=
  zCq (hT.all (λ _ _=>[]) (λ _=>false)) hc h
structure Sl (α : Type) where
  len:Nat
  get:Nat->α
instance {α:Type} [Inhabited α]:Inhabited (Sl α):=⟨⟨0,λ _=>default⟩⟩
abbrev w64 (x:Int):Int:=IntKind.i64.wrap x

def IsE {α:Type}(enc:α->List PV) (size s:Nat) (g:Nat->List PV):Prop:=s=size/\∃ f:Nat->α,g=λ i=>enc (f i)
theorem isE {α:Type}{enc:α->List PV}{size:Nat}{f:Nat->α} : IsE enc size size (λ i=>enc (f i)):=⟨rfl,f,rfl⟩
theorem zxF {α:Type}{enc:α->List PV}{size:Nat}{x:α} : IsE enc size size (λ _=>enc x):=⟨rfl,λ _=>x,rfl⟩
def zh3 {α:Type}(n:Nat) (get new:Nat->α):Nat->α:=λ j=>match Nat.ble n j with | true=>new (j - n) | false=>get j
theorem znj {α:Type}{enc:α->List PV}{n:Nat}{f h:Nat->α} : appG n (λ i=>enc (f i)) (λ i=>enc (h i))=λ i=>enc (zh3 n f h i):=by
 funext j;simp only[appG,zh3];cases Nat.ble n j <;> rfl
theorem zFQ {α:Type}{enc:α->List PV}{size n:Nat}{g h:Nat->List PV}(hg:IsE enc size size g) (hh:IsE enc size size h):IsE enc size size (appG n g h):=by
 obtain⟨_,f,rfl⟩:=hg
 obtain⟨_,f',rfl⟩:=hh
 exact⟨rfl,_,znj⟩
def zqn {α : Type} (x : α) : List α → Nat → α
  | [],_=>x
  | y :: _,0=>y
  | _ :: r,i+1=>zqn x r i
theorem znk {α:Type}{enc:α->List PV}{x y:α}{r:List α} : zfY (enc x :: enc y :: r.map enc)=λ i=>enc (zqn x (x :: y :: r) i):=by
 have key:∀ (l:List α) (i:Nat),(match (l.map enc)[i]? with | some z=>z | none=>enc x)=enc (zqn x l i):=by
  intro l
  induction l with
  | nil=>intro i;rfl
  | cons a l ih =>
   intro i
   cases i with
   | zero=>rfl
   | succ i=>simpa [zqn] using ih i
 funext i
 exact key (x :: y :: r) i
theorem znl {α:Type}{enc:α->List PV}{size:Nat}{x y:α}(r:List α):IsE enc size size (zfY (enc x :: enc y :: r.map enc)):=⟨rfl,_,znk⟩

theorem zCr {b:Bool}{A B:Prop}{S S':Bool}{α:Type}{K:α->Prop}{x y:α}(h1:S=true->K x->A) (h2:S'=true->K y->B) (hs:cond b S S'=true) (hk:K (cond b x y)):zdK b A B:=by
 cases b
 ·exact h2 hs hk
 ·exact h1 hs hk
theorem zec {b:Bool}{A B:Prop}{S S':Bool}{α β:Type}{f:α->β}{ys:List β}{x y:List α}(hs:cond b S S'=true) (hk:ys=(cond b x y).map f) (h1:S=true->ys=x.map f->A) (h2:S'=true->ys=y.map f->B):zdK b A B:=by
 cases b
 ·exact h2 hs hk
 ·exact h1 hs hk
theorem itY {α β:Type}{f:α->β}{ys:List β}{p:β}{x r:List α}{l:Nat}{A:List β->Prop}(hk:ys=x.map f) (e:x.map f=p :: r.map f) (h:∀ zs,zs=r.map f->A zs):l=l/\∃ z,ys=p :: z/\A z/\True :=
 ⟨rfl,_,hk.trans e,h _ rfl,trivial⟩
theorem zaJ {C A:Prop} [d:Decidable C] {r:Bool}(hs:(decide C && r)=true) (k:C->r=true->A):A:=by
 rw[dqm] at hs
 exact k (of_decide_eq_true hs.1) hs.2
abbrev Fuel:Nat:=9223372036854775808
def setT {α:Type}(i:Nat) (v:α) (get:Nat->α):Nat->α:=λ j=>match Nat.beq j i with | true=>v | false=>get j
theorem zpr {α:Type}{enc:α->List PV}{n:Nat}{g g':Nat->List PV}{f h:Nat->α}(h1:g=λ i=>enc (f i)) (h2:g'=λ i=>enc (h i)):appG n g g'=λ i=>enc (zh3 n f h i):=by
 subst h1;subst h2;exact znj
theorem zt2 {b:Bool}{A B:Prop}{α:Type}{K:α->Prop}{x y:α}(h1:K x->A) (h2:K y->B) (hk:K (cond b x y)):zdK b A B:=by
 cases b
 ·exact h2 hk
 ·exact h1 hk
def zSk (P:Program) (G:Ctrs) (ann:Ann) (hd:Nat) (ps:List Nat) (assign body:Code) (X:List (List PA)->St->Prop) (K:Exit->St->Prop) (y:List PA) (rest:List (List PA)) (s:St):Prop :=
 match lk ann.head hd with
 | some k=>match zhQ ps y s.env with
  | some env=>vc P G ann assign (zFk (vc P G ann body (zlX P k (X rest) K)) λ _ _=>False) ⟨env,s.objs,[]⟩
  | none=>False
 | none=>False
end Go.Pm
namespace Go.Pm
open Go Go.Sort

/-! Nil slices are slices of length 0. -/
inductive PVle : PV → PV → Prop
  | rfl (p:PV):PVle p p
  | nil (s:Nat) (g:Nat->List PV):PVle .nils (.sl 0 s g)
  | nilm (q:MQ):PVle .nilm (.fm q 0 (λ _=>none))
inductive PAle : PA → PA → Prop
  | one {p q:PV} : PVle p q->PAle (.one p) (.one q)
  | agg {l m:List PV} : RL PVle l m->PAle (.agg l) (.agg m)
theorem zka {α β:Type}{R:α->β->Prop} : RL R [] []:=trivial
theorem ze4 {α β:Type}{R:α->β->Prop}{a:α}{b:β}{l:List α}{m:List β}(h:R a b) (h':RL R l m):RL R (a :: l) (b :: m):=⟨h,h'⟩
theorem zg8 {α : Type} {R : α → α → Prop} (h : ∀ a, R a a) : ∀ l : List α, RL R l l
  | []=>trivial
  | a :: l=>⟨h a,zg8 h l⟩
theorem zfW (a:PA):PAle a a:=by
 cases a with
 | one p=>exact .one (.rfl p)
 | agg l=>exact .agg (zg8 .rfl l)
def Wk (K:List PA->Prop) (l:List PA):Prop:=∃ l',RL PAle l l'/\K l'
theorem wk {K:List PA->Prop}{l l':List PA}(hk:K l') (h:RL PAle l l'):Wk K l:=⟨l',h,hk⟩
theorem zfX {K:List PA->Prop}{l:List PA}(hk:K l):Wk K l:=⟨l,zg8 zfW l,hk⟩
theorem zK2 {h:Fz}{p q:PV}{v:Value}(e:PVle p q) (r:Rep h p v):Rep h q v:=by
 cases e with
 | rfl=>exact r
 | nil s g=>cases r;exact .sl0 s g
 | nilm q=>cases r;exact .fmn q _ (λ _ _=>rfl)
theorem zCs {α β γ : Type} {R : α → β → Prop} {S : α → γ → Prop} {T : γ → β → Prop} (h : ∀ a b c, S a c → R a b → T c b) : ∀ (l : List α) (m : List β) (k : List γ), RL S l k → RL R l m → RL T k m
  | [],[],[],_,_=>trivial
  | a :: l,b :: m,c :: k,hs,hr=>⟨h a b c hs.1 hr.1,zCs h l m k hs.2 hr.2⟩
  | [],_ :: _,[],_,hr=>hr.elim
  | [],_,_ :: _,hs,_=>hs.elim
  | _ :: _,_,[],hs,_=>hs.elim
  | _ :: _,[],_ :: _,_,hr=>hr.elim
theorem zFR {h:Fz}{a b:PA}{v:Value}(e:PAle a b) (r:paR h a v):paR h b v:=by
 cases e with
 | one e=>exact zK2 e r
 | agg e =>
  obtain⟨vs,rfl,hv⟩:=r
  exact⟨vs,rfl,zCs (R:=Rep h) (S:=PVle) (T:=Rep h) (λ _ _ _ e r=>zK2 e r) _ _ _ e hv⟩
theorem zK3 {h:Fz}{l m:List PA}{v:Value}(e:RL PAle l m) (r:zwa h l v):zwa h m v:=by
 match l,m,e,r with
 | [a],[b],e,r=>exact zFR e.1 r
 | [],[],_,r=>exact r
 | a :: b :: l,c :: d :: m,e,r =>
  obtain⟨vs,hv,hr⟩:=r
  exact⟨vs,hv,zCs (R:=paR h) (S:=PAle) (T:=paR h) (λ _ _ _ e r=>zFR e r) _ _ _ e hr⟩
 | [_],_ :: _ :: _,e,_=>exact e.2.elim
 | _ :: _ :: _,[_],e,_=>exact e.2.elim
 | [],_ :: _,e,_=>exact e.elim
 | _ :: _,[],e,_=>exact e.elim
theorem zhl {P : Program} {T : Tabs} (hT : TabsOk P T) {f : FuncId} {C : List PA → COut} (hc : zac P f)
    (h:∀ args K,(C args).wp K->∃ args',RL PAle args args'/\∃ memo vv ann,vcFun P (csm T memo vv) ann f args' (Wk K)):Ok P f C:=by
  intro args K hK w h0 vs hvs hfz hgl
  obtain⟨args',hle,memo,vv,ann,hv⟩:=h args K hK
  refine⟨hc,(zxA (hT.all memo vv) hv (zCs (R:=paR h0) (S:=PAle) (T:=paR h0) (λ _ _ _ e r=>zFR e r) _ _ _ hle hvs) hfz hgl).mono ?_⟩
  rintro e w' ⟨h',rs,v,⟨rs',hr,hk⟩,he,hres,rest⟩
  exact⟨h',rs',v,hk,he,zK3 hr hres,rest⟩
/-! Maps, as typed zaf; the keys of a map. -/
structure Mp where
  n:Nat
  F:List Int->Option (List Int)
instance:Inhabited Mp:=⟨⟨0,λ _=>none⟩⟩

end Go.Pm
namespace Go.Pm

abbrev zI (x:Int):DV:=.one (.c (.p (.int .i64 x)))
abbrev zB (x:Bool):DV:=.one (.c (.p (.bool x)))
abbrev zP (x:PV):DV:=.one (.c (.p x))
abbrev zp (L k:Nat):DV:=.one (.c (.ptr L k))
abbrev zv (L:Nat):DV:=.one (.c (.vec L))
abbrev zs {α:Type}(enc:α->List PV) (s:Nat) (x:Sl α):PV:=.sl x.len s (λ i=>enc (x.get i))
abbrev zS {α:Type}(enc:α->List PV) (s:Nat) (x:Sl α):DV:=zP (zs enc s x)
abbrev zm (l:List PV):List Cl:=l.map Cl.p
abbrev zi (x:Int):Cl:=.p (.int .i64 x)
abbrev zg {α:Type}(enc:α->List PV) (x:Sl α):Nat->List PV:=λ i=>enc (x.get i)
abbrev zK (a b:List Nat):Keep:=⟨a,b,[],[],[],[],[]⟩
theorem zE {α:Type}(enc:α->List PV) (size:Nat) (f:Nat->α):IsE enc size size (λ i=>enc (f i)):=⟨rfl,f,rfl⟩

@[reducible] def lpO {A : Type} (d : A) (st : A → A) : Nat → A
  | 0=>d
  | k+1=>st (lpO d st k)
theorem zgd {A B : Type} (a : A) (b : B) (p : A → A) (s : B → B) (M : A → B → Prop) (h0 : M a b) (h1 : ∀ P S, M P S → M (p P) (s S)) : ∀ k, M (lpO a p k) (lpO b s k)
  | 0=>h0
  | k+1=>h1 _ _ (zgd a b p s M h0 h1 k)
section
variable (P:Program) (Γ:Ctrs) (ann:Ann)
def pt : Code → (Exit → St → Prop) → List Nat → List (St → Prop) → St → Prop
  | .seq a b,K,i :: r,X=>match i with | 0=>pt a (sqK P Γ ann b K) r X | _=>pt b K r X
  | .cond _ a b,K,i :: r,X=>match i with | 0=>pt a K r X | _=>pt b K r X
  | .block id b,K,_ :: r,X=>pt b (ztx id K) r X
  | .loop b,K,_ :: r,x :: X=>pt b (zBI P ann (zlN b) x K) r X
  | .scope b,K,_ :: r,X=>pt b (zwj K) r X
  | c,K,_,_=>vc P Γ ann c K
def ptF (fn:Func) (K:List PA->Prop) (l:List Nat) (X:List (St->Prop)):St->Prop :=
 match fn.body with
 | some c=>pt P Γ ann c (zvz P fn K) l X
 | none=>λ _=>False
end

section
variable (P:Program) (Γ:Ctrs) (ann:Ann)
def ptR : Code → (Exit → St → Prop) → List Nat → List (St → Prop) → Code × (Exit → St → Prop)
  | .seq a b,K,i :: r,X=>match i with | 0=>ptR a (sqK P Γ ann b K) r X | _=>ptR b K r X
  | .cond _ a b,K,i :: r,X=>match i with | 0=>ptR a K r X | _=>ptR b K r X
  | .block id b,K,_ :: r,X=>ptR b (ztx id K) r X
  | .loop b,K,_ :: r,x :: X=>ptR b (zBI P ann (zlN b) x K) r X
  | .scope b,K,_ :: r,X=>ptR b (zwj K) r X
  | c,K,_,_=>(c,K)
def exF (fn:Func) (K:List PA->Prop) (l:List Nat) (X:List (St->Prop)) (s:St):Prop :=
 match fn.body with
 | some c=>(ptR P Γ ann c (zvz P fn K) l X).2 .normal s
 | none=>False
def rnF (fn:Func) (K:List PA->Prop) (l:List Nat) (X:List (St->Prop)) (Y:List (List PA)->St->Prop) (y:List PA) (rest:List (List PA)) (s:St):Prop :=
 match fn.body with
 | some c=>match (ptR P Γ ann c (zvz P fn K) l X).1 with
  | .rangeFunc _ ps a b=>zSk P Γ ann (zRu a b) ps.toList a b Y (ptR P Γ ann c (zvz P fn K) l X).2 y rest s
  | _=>False
 | none=>False
end
@[reducible] def lpR {A Y : Type} (a : A) (st : Y → A → A) : List Y → A
  | []=>a
  | y :: r=>st y (lpR a st r)
theorem zri {Y A B : Type} {enc : Y → List PA} {X : List (List PA) → St → Prop} (pe : B) (se : A) (ps : Y → B → B) (ss : Y → A → A) (M : (St → Prop) → B → A → Prop) (h0 : M (X []) pe se)
    (h1:∀ y rest P S,M (X rest) P S->M (X (enc y :: rest)) (ps y P) (ss y S)):∀ l:List Y,M (X (l.map enc)) (lpR pe ps l) (lpR se ss l)
  | []=>h0
  | y :: r=>h1 y (r.map enc) _ _ (zri pe se ps ss M h0 h1 r)
theorem zr {at_ sf : Prop} {Y : Type} {enc : Y → List PA} {ys : List Y} {g : St} (Ex : St → Prop) (Rn : (List (List PA) → St → Prop) → List PA → List (List PA) → St → Prop)
    (e:at_=(sf/\∀ X:List (List PA)->St->Prop,(∀ s,Ex s->X [] s)->(∀ y rest s,Rn X y rest s->X (y :: rest) s)->X (ys.map enc) g)) (hs:sf)
    (h:∀ X:List (List PA)->St->Prop,(∀ s,Ex s->X [] s)->(∀ y rest s,Rn X y rest s->X (y :: rest) s)->X (ys.map enc) g):at_:=e ▸ ⟨hs,h⟩

theorem zc {b:Bool}{A B:Prop}{S S':Bool}{α:Type}{e:α->List PA}{K:List PA->Prop}{x y:α}(hs:cond b S S'=true) (hk:K (e (cond b x y))) (h1:S=true->K (e x)->A) (h2:S'=true->K (e y)->B):zdK b A B:=by
 cases b
 ·exact h2 hs hk
 ·exact h1 hs hk
theorem zt {b:Bool}{A B:Prop}{α:Type}{e:α->List PA}{K:List PA->Prop}{x y:α}(hk:K (e (cond b x y))) (h1:K (e x)->A) (h2:K (e y)->B):zdK b A B:=by
 cases b
 ·exact h2 hk
 ·exact h1 hk
theorem zK4 {b:Bool}{s:Prop}{r1 r2:List PA}{K:List PA->Prop}(h:(COut.alt b s r1 s r2).wp K):s/\K (cond b r1 r2):=by
 cases b
 ·exact h.2 rfl
 ·exact h.1 rfl
theorem zl {at_:Prop}{g:St}(B:(St->Prop)->St->Prop) (e:at_ = ∀ X:St->Prop,(∀ s,B X s->X s)->X g) (h:∀ X:St->Prop,(∀ s,B X s->X s)->X g):at_:=e ▸ h
end Go.Pm
namespace Go.Proofs
open Go Go.Pm
set_option maxRecDepth 100000
set_option linter.unusedVariables false
attribute [local irreducible] Go.Pm.vcFun Go.Pm.vc Go.Pm.vcIter
abbrev Tab:=Nat->Int
def tg (n:Nat) (F:Tab) (k:Nat):Int:=zql (zm (zoF 0 n F)) k
def ts (n:Nat) (F:Tab) (k:Nat) (vs:List Int):Tab:=zDG k vs (zql (zm (zoF 0 n F)))
abbrev zaL (x:Int):List PV:=[.int .i64 x]
def zPa : List PV → Int
  | [.int .i64 x]=>x
  | _=>default
def zbZ (g:Nat->List PV):Nat->Int:=λ i=>zPa (g i)
theorem zeo (f:Nat->Int):zbZ (λ i=>zaL (f i))=f:=rfl
abbrev zdk (x:Bool):List PV:=[.bool x]
def zPb : List PV → Bool
  | [.bool x]=>x
  | _=>default
def zbj (g:Nat->List PV):Nat->Bool:=λ i=>zPb (g i)
theorem zmm (f:Nat->Bool):zbj (λ i=>zdk (f i))=f:=rfl
structure Span where
  Low:Int
  High:Int
deriving Inhabited
abbrev zbh (x:Span):List PV:=[.int .i64 x.Low,.int .i64 x.High]
structure Drift where
  Time:Int
  Radius:Span
deriving Inhabited
structure Plane where
  Kind:Int
  View:Int
  Z:Int
  First:Int
  Pitch:Int
  Strips:Int
  Spill:Int
  Offset:Span
  Clock:Span
  Jitter:Int
  Least:Int
  Drift:(Sl Drift)
  Dead:(Sl Int)
deriving Inhabited
structure Setup where
  Planes:(Sl Plane)
deriving Inhabited
structure Flown where
  A:Int
  B:Int
  Time:Int
  Flight:Int
  WrongA:Int
  WrongB:Int
deriving Inhabited
structure Pulse where
  A:Int
  B:Int
  TimeA:Int
  TimeB:Int
  Flight:Span
  Jitter:Int
deriving Inhabited
abbrev zge (x:Pulse):List PV:=[.int .i64 x.A,.int .i64 x.B,.int .i64 x.TimeA,.int .i64 x.TimeB,.int .i64 x.Flight.Low,.int .i64 x.Flight.High,.int .i64 x.Jitter]
def zK5 : List PV → Pulse
  | [.int .i64 x_A,.int .i64 x_B,.int .i64 x_TimeA,.int .i64 x_TimeB,.int .i64 x_Flight_Low,.int .i64 x_Flight_High,.int .i64 x_Jitter]=>(⟨x_A,x_B,x_TimeA,x_TimeB,(⟨x_Flight_Low,x_Flight_High⟩:Span),x_Jitter⟩:Pulse)
  | _=>default
def ziA (g:Nat->List PV):Nat->Pulse:=λ i=>zK5 (g i)
theorem zk9 (f:Nat->Pulse):ziA (λ i=>zge (f i))=f:=rfl
structure Hit where
  Plane:Int
  Channel:Int
  Many:Int
  Drift:Int
  Charge:Int
  Time:Int
deriving Inhabited
structure Tie where
  From:Int
  To:Int
  Low:Int
  High:Int
deriving Inhabited
abbrev zao (x:Tie):List PV:=[.int .i64 x.From,.int .i64 x.To,.int .i64 x.Low,.int .i64 x.High]
def zK6 : List PV → Tie
  | [.int .i64 x_From,.int .i64 x_To,.int .i64 x_Low,.int .i64 x_High]=>(⟨x_From,x_To,x_Low,x_High⟩:Tie)
  | _=>default
def za6 (g:Nat->List PV):Nat->Tie:=λ i=>zK6 (g i)
theorem zaN (f:Nat->Tie):za6 (λ i=>zao (f i))=f:=rfl
structure Net where
  Nodes:Int
  Ties:(Sl Tie)
deriving Inhabited
abbrev zc7 (x:Net):List PV:=[.int .i64 x.Nodes,.sl x.Ties.len 4 (λ i=>zao (x.Ties.get i))]
structure Gate where
  Z:Int
  Low:Int
  High:Int
deriving Inhabited
abbrev zad (x:Gate):List PV:=[.int .i64 x.Z,.int .i64 x.Low,.int .i64 x.High]
def zFS : List PV → Gate
  | [.int .i64 x_Z,.int .i64 x_Low,.int .i64 x_High]=>(⟨x_Z,x_Low,x_High⟩:Gate)
  | _=>default
def zaj (g:Nat->List PV):Nat->Gate:=λ i=>zFS (g i)
theorem zae (f:Nat->Gate):zaj (λ i=>zad (f i))=f:=rfl
abbrev zK7 (x:(Sl Gate)):List PV:=[.sl x.len 3 (λ i=>zad (x.get i))]
structure Sight where
  Gates:(Sl Gate)
  Z:Int
  X:Int
  W:Int
  Y:Int
  Wrong:Int
deriving Inhabited
abbrev enc_66 (x:Sight):List PV:=[.sl x.Gates.len 3 (λ i=>zad (x.Gates.get i)),.int .i64 x.Z,.int .i64 x.X,.int .i64 x.W,.int .i64 x.Y,.int .i64 x.Wrong]
def zK8 : List PV → Sight
  | [.sl x_Gates_n _ x_Gates_g,.int .i64 x_Z,.int .i64 x_X,.int .i64 x_W,.int .i64 x_Y,.int .i64 x_Wrong]=>(⟨(⟨x_Gates_n,zaj x_Gates_g⟩:(Sl Gate)),x_Z,x_X,x_W,x_Y,x_Wrong⟩:Sight)
  | _=>default
def zq9 (g:Nat->List PV):Nat->Sight:=λ i=>zK8 (g i)
theorem zla (f:Nat->Sight):zq9 (λ i=>enc_66 (f i))=f:=rfl
abbrev zK9 (x:(Sl Sight)):List PV:=[.sl x.len 6 (λ i=>enc_66 (x.get i))]
structure Frac where
  Num:Int
  Den:Int
deriving Inhabited
abbrev zaR (x:Frac):List PV:=[.int .i64 x.Num,.int .i64 x.Den]
def zLa : List PV → Frac
  | [.int .i64 x_Num,.int .i64 x_Den]=>(⟨x_Num,x_Den⟩:Frac)
  | _=>default
def zhm (g:Nat->List PV):Nat->Frac:=λ i=>zLa (g i)
theorem zft (f:Nat->Frac):zhm (λ i=>zaR (f i))=f:=rfl
structure Line where
  Slope:Frac
  Start:Frac
deriving Inhabited
abbrev zgf (x:Line):List PV:=[.int .i64 x.Slope.Num,.int .i64 x.Slope.Den,.int .i64 x.Start.Num,.int .i64 x.Start.Den]
structure FluxRow where
  Energy:Int
  Rate:Span
deriving Inhabited
abbrev zaZ (x:FluxRow):List PV:=[.int .i64 x.Energy,.int .i64 x.Rate.Low,.int .i64 x.Rate.High]
def zFT : List PV → FluxRow
  | [.int .i64 x_Energy,.int .i64 x_Rate_Low,.int .i64 x_Rate_High]=>(⟨x_Energy,(⟨x_Rate_Low,x_Rate_High⟩:Span)⟩:FluxRow)
  | _=>default
def zcQ (g:Nat->List PV):Nat->FluxRow:=λ i=>zFT (g i)
theorem zbS (f:Nat->FluxRow):zcQ (λ i=>zaZ (f i))=f:=rfl
abbrev zcl (x:(Sl FluxRow)):List PV:=[.sl x.len 3 (λ i=>zaZ (x.get i))]
def zFU : List PV → (Sl FluxRow)
  | [.sl x_n _ x_g]=>(⟨x_n,zcQ x_g⟩:(Sl FluxRow))
  | _=>default
def zcv (g:Nat->List PV):Nat->(Sl FluxRow):=λ i=>zFU (g i)
theorem zcw (f:Nat->(Sl FluxRow)):zcv (λ i=>zcl (f i))=f:=rfl
structure Sky where
  Parts:Int
  Bins:(Sl (Sl FluxRow))
  Beta:Span
  Alpha:Span
deriving Inhabited
abbrev zps (x:Sky):List PV:=[.int .i64 x.Parts,.sl x.Bins.len 1 (λ i=>zcl (x.Bins.get i)),.int .i64 x.Beta.Low,.int .i64 x.Beta.High,.int .i64 x.Alpha.Low,.int .i64 x.Alpha.High]
structure RangeRow where
  Energy:Int
  Range:Span
deriving Inhabited
abbrev zaz (x:RangeRow):List PV:=[.int .i64 x.Energy,.int .i64 x.Range.Low,.int .i64 x.Range.High]
def zFV : List PV → RangeRow
  | [.int .i64 x_Energy,.int .i64 x_Range_Low,.int .i64 x_Range_High]=>(⟨x_Energy,(⟨x_Range_Low,x_Range_High⟩:Span)⟩:RangeRow)
  | _=>default
def zbB (g:Nat->List PV):Nat->RangeRow:=λ i=>zFV (g i)
theorem zaQ (f:Nat->RangeRow):zbB (λ i=>zaz (f i))=f:=rfl
structure web where
  Net:Net
  out:Mp
deriving Inhabited
abbrev zbG (x:web):List PV:=[.int .i64 x.Net.Nodes,.sl x.Net.Ties.len 4 (λ i=>zao (x.Net.Ties.get i)),.fm (false,1,false,[none]) x.out.n x.out.F]
structure far where
  length:Int
  uses:Int
deriving Inhabited
abbrev zdX (x:far):List PV:=[.int .i64 x.length,.int .i64 x.uses]
def zLb : List PV → far
  | [.int .i64 x_length,.int .i64 x_uses]=>(⟨x_length,x_uses⟩:far)
  | _=>default
def znm (g:Nat->List PV):Nat->far:=λ i=>zLb (g i)
theorem zlb (f:Nat->far):znm (λ i=>zdX (f i))=f:=rfl
abbrev zcG (x:Tab):List PV:=zoF 0 80 x
structure placed where
  Plane:Plane
  index:Int
deriving Inhabited
structure list where
  Gates:(Sl Gate)
deriving Inhabited
abbrev zdi (x:list):List PV:=[.sl x.Gates.len 3 (λ i=>zad (x.Gates.get i))]
structure straight where
  slope:Int
  start:Int
  den:Int
deriving Inhabited
abbrev zaS (x:straight):List PV:=[.int .i64 x.slope,.int .i64 x.start,.int .i64 x.den]
def zFW : List PV → straight
  | [.int .i64 x_slope,.int .i64 x_start,.int .i64 x_den]=>(⟨x_slope,x_start,x_den⟩:straight)
  | _=>default
def zcR (g:Nat->List PV):Nat->straight:=λ i=>zFW (g i)
theorem zcN (f:Nat->straight):zcR (λ i=>zaS (f i))=f:=rfl
structure set where
  list:list
  corners:(Sl straight)
deriving Inhabited
abbrev znn (x:set):List PV:=[.sl x.list.Gates.len 3 (λ i=>zad (x.list.Gates.get i)),.sl x.corners.len 3 (λ i=>zaS (x.corners.get i))]
structure ground where
  Sky:Sky
  table:(Sl RangeRow)
  known:(Int->List Int)
deriving Inhabited
abbrev zgg (x:ground):List PV:=[.int .i64 x.Sky.Parts,.sl x.Sky.Bins.len 1 (λ i=>zcl (x.Sky.Bins.get i)),.int .i64 x.Sky.Beta.Low,.int .i64 x.Sky.Beta.High,.int .i64 x.Sky.Alpha.Low,.int .i64 x.Sky.Alpha.High,.sl x.table.len 3 (λ i=>zaz (x.table.get i)),.mp x.known]
structure Use where
  Tie:Int
  Back:Bool
deriving Inhabited
structure step where
  Use:Use
  from_:Int
  to:Int
  length:Int
deriving Inhabited
abbrev zdz (x:step):List PV:=[.int .i64 x.Use.Tie,.bool x.Use.Back,.int .i64 x.from_,.int .i64 x.to,.int .i64 x.length]
abbrev zxG (x:Tab):List PV:=zoF 0 40 x
structure tie where
  Tie:Tie
  index:Int
deriving Inhabited
abbrev zxH (x:tie):List PV:=[.int .i64 x.Tie.From,.int .i64 x.Tie.To,.int .i64 x.Tie.Low,.int .i64 x.Tie.High,.int .i64 x.index]
abbrev tL (T:Tab) (i:Int):Int:=tg 80 T (0+i.toNat * 2+0)
abbrev tU (T:Tab) (i:Int):Int:=tg 80 T (0+i.toNat * 2+0+1)
abbrev tV (T:Tab) (i:Int):Int:=tg 80 T (0+i.toNat * 2+1)
abbrev nvr (x y:Int):Bool:=match (x == (1000000000000:Int)) with | true=>(match (y == (0:Int)) with | true=>true | false=>false) | false=>false
end Go.Proofs
namespace Go.Pm
open Go Go.Deep

theorem zCt (b o i j:Nat):((⟨b,o,none⟩:Addr).add i).add j=⟨b,o+i+j,none⟩:=by
 simp only[Addr.add]
 by_cases h1:i=0
 ·subst h1
  by_cases h2:j=0
  ·subst h2;rfl
  ·rw[if_neg h2];rfl
 ·rw [if_neg h1]
  by_cases h2:j=0
  ·subst h2;rfl
  ·rw[if_neg h2]
def H0 (w:World):Fz:=λ b=>(w.heap[b]?).map .fz
theorem hw_H0 (w:World):Hw (H0 w) w:=by
 intro b x h
 unfold H0 at h
 cases e:w.heap[b]? with
 | none=>rw[e] at h;cases h
 | some o=>rw[e] at h;cases h;exact⟨o,rfl,rfl⟩
def wfI (x:Int):Prop:=-9223372036854775808<=x/\x<=9223372036854775807
section
variable {H:Type}{en:TypeId×Value->H}{P:Program}{w:World}{sp:Nat->Bool}{held:Bool}
def Rd (H:Type) (en:TypeId×Value->H) (P:Program) (w:World) (sp:Nat->Bool) (held:Bool) (t:TypeId){α:Type}(enc:α->List PV) (wf:α->Prop):Prop :=
 ∀ (fuel:Nat) (cs:List Value) (x:DataW H×List MemPlace),DataW.trod en P w 0 sp held fuel t cs=some x->∃ a:α,RL (Rep (H0 w)) (enc a) cs/\wf a
theorem zLc {t:TypeId}(ht:P.underlying t=some (.int .i64)):Rd H en P w sp held t (λ x=>[.int .i64 x]) wfI:=by
 intro fuel cs x h
 obtain⟨n,rfl,_,hw⟩:=DataW.trod_int ht h
 refine⟨n,⟨.int _ _,trivial⟩,?_⟩
 simp only[Lit.wf,dqm,decide_eq_true_eq] at hw
 exact⟨hw.1,hw.2⟩
theorem zpt {t : TypeId} {fs : Array Field} (ht : P.underlying t = some (.struct fs)) {fuel : Nat} {cs : List Value} {x : DataW H × List MemPlace} (h : DataW.trod en P w 0 sp held fuel t cs = some x) :
  cs.length=P.cellsOf t/\∀ (i:Nat) (f:Field),fs[i]? = some f->∃ n y,DataW.trod en P w 0 sp held n f.type ((cs.drop f.offset).take (P.cellsOf f.type))=some y:=by
 obtain⟨xs,n,_,_,hl,hx,hf⟩:=DataW.trod_struct ht h
 refine⟨hl,λ i f hi=>?_⟩
 have hlt:i < xs.length:=by rw[hx];exact (dqp.1 hi).1
 exact⟨n,xs[i],by rw[hf i f hi,dqD hlt]⟩
theorem zt3 {t e : TypeId} {α : Type} [Inhabited α] {enc : α → List PV} {wf : α → Prop} {s : Nat} (ht : P.underlying t = some (.slice e)) (hc : P.cellsOf e = s) (hs : 0 < s) (hlen : ∀ a, (enc a).length = s)
    (hel:Rd H en P w sp held e enc wf):Rd H en P w sp held t (λ x:Sl α=>[.sl x.len s (λ i=>enc (x.get i))]) (λ x=>x.len<=9223372036854775807/\∀ i,i < x.len->wf (x.get i)):=by
  intro fuel cs x h
  rcases open_slice ht h with ⟨rfl,_⟩ | ⟨a,len,cap,m,n,D,Pl,rfl,_,hl,hm,hmm,_,hget⟩
  · exact⟨⟨0,default⟩,⟨.sl0 _ _,trivial⟩,Nat.zero_le _,λ i hi=>absurd hi (dqW i)⟩
  · by_cases h0 : len = 0
    · subst h0
      exact⟨⟨0,default⟩,⟨.sle _ _ _ _,trivial⟩,Nat.zero_le _,λ i hi=>absurd hi (dqW i)⟩
    · have hlm : len ≤ m := by rw [hmm]; split <;> omega
      rw[hc] at hget
      have hex:∀ i,i < len->∃ y:α,(∃ cs',w.cells? 0 (a.add (i * s)) s=some cs'/\RL (Rep (H0 w)) (enc y) cs')/\wf y:=by
        intro i hi
        obtain⟨cs',h1,h2⟩:=hget i (by omega)
        obtain⟨y,h3,h4⟩:=hel _ _ _ h2
        exact⟨y,⟨cs',h1,h3⟩,h4⟩
      have hch:∃ f:Nat->α,∀ i,i < len->(∃ cs',w.cells? 0 (a.add (i * s)) s=some cs'/\RL (Rep (H0 w)) (enc (f i)) cs')/\wf (f i):=by
        refine⟨λ i=>if hi:i < len then Classical.choose (hex i hi) else default,λ i hi=>?_⟩
        simp only[dif_pos hi]
        exact Classical.choose_spec (hex i hi)
      obtain⟨f,hf⟩:=hch
      -- the block
      have hcell:∀ i,i < len->∀ j,j < s->∃ cs',w.cells? 0 (a.add (i * s)) s=some cs'/\RL (Rep (H0 w)) (enc (f i)) cs'/\w.cell? ((a.add (i * s)).add j)=cs'[j]?/\cs'.length=s:=by
        intro i hi j hj
        obtain⟨⟨cs',h1,h2⟩,_⟩:=hf i hi
        obtain⟨_,h3,h4⟩:=World.cells?_some h1
        exact⟨cs',h1,h2,h4 j hj,h3⟩
      obtain⟨cs0,_,_,hc0,hl0⟩:=hcell 0 (by omega) 0 hs
      have ha0:w.cell? a=cs0[0]?:=by simpa [Addr.add] using hc0
      rw[dqD (by omega)] at ha0
      obtain⟨C,ty,fr,hblk,hspot⟩:∃ C ty fr,w.heap[a.block]? = some (.cells C ty fr)/\a.spot=none:=by
        unfold World.cell? at ha0
        split at ha0
        · rename_i C ty fr hb
          refine⟨C,ty,fr,hb,?_⟩
          cases hsp:a.spot with
          | none=>rfl
          | some k=>rw[hsp] at ha0;simp at ha0
        · cases ha0
      have ea:a=⟨a.block,a.off,none⟩:=by rw[<- hspot]
      have hat:∀ i j,i < len->j < s->∃ cs',RL (Rep (H0 w)) (enc (f i)) cs'/\C[a.off+i * s+j]? = cs'[j]?/\cs'.length=s:=by
        intro i j hi hj
        obtain⟨cs',_,h2,h3,h4⟩:=hcell i hi j hj
        refine⟨cs',h2,?_,h4⟩
        rw[<- h3]
        have e2:(a.add (i * s)).add j=⟨a.block,a.off+i * s+j,none⟩:=(congrArg (λ z:Addr=>(z.add (i * s)).add j) ea).trans (zCt _ _ _ _)
        rw[e2]
        simp[World.cell?,hblk]
      refine⟨⟨len,f⟩,⟨?_,trivial⟩,by simp only[maxLen] at hm;show len<=_;omega,λ i hi=>(hf i hi).2⟩
      rw[ea]
      refine .sl len s _ a.block a.off cap C ty fr (λ i j=>C.getD (a.off+i * s+j) undef) (by simp[H0,hblk]) hl (λ i _=>hlen _) ?_ ?_
      · intro i j x hi hx
        have hj:j < s:=by have:=(dqn.1 hx).1;rw[hlen] at this;exact this
        obtain⟨cs',h1,h2,h3⟩:=hat i j hi hj
        rw[dql,h2,dqD (by omega)]
        rfl
      · intro i j x hi hx
        have hj:j < s:=by have:=(dqn.1 hx).1;rw[hlen] at this;exact this
        obtain⟨cs',h1,h2,h3⟩:=hat i j hi hj
        obtain⟨v,hv,hr⟩:=h1.get j x hx
        rw[dql,h2,hv]
        exact hr
theorem zdb {α:Type}(l:List α) (o s:Nat):l.drop o=(l.drop o).take s ++ l.drop (o+s):=by
 rw[<- List.drop_drop]
 exact (List.take_append_drop s (l.drop o)).symm
def zPc : TypeDesc → Bool
  | .struct _=>false
  | .array _ _=>false
  | _=>true
theorem okWide_one {t:TypeId}{d:TypeDesc}{r:Reach}{base:Nat}{v:Value}(ht:P.underlying t=some d) (hd:zPc d=true) (h:Value.okWide P w r base t v):v.cells.toList=[v]:=by
 unfold Value.okWide at h
 rw[ht] at h
 cases v with
 | agg cs =>
  exfalso
  cases d <;> first | (cases hd;done) | (simp only[Cell.okWide,Cell.ok,ht] at h)
 | _=>rfl
theorem pa_one {h:Fz}{p:PV}{v:Value}(hv:v.cells.toList=[v]) (r:RL (Rep h) [p] v.cells.toList):paR h (.one p) v:=by
 rw[hv] at r
 exact r.1
theorem below_H0 {w':World}(b:Bel (H0 w) w.heap.size w w'):Go.RowKit.Below w.heap.size w w' :=
 ⟨b.os,b.tape,b.output,b.size,λ k hk=>b.block k hk λ F e=>by
  unfold H0 at e
  cases hb:w.heap[k]? <;> rw[hb] at e <;> cases e⟩
end
end Go.Pm
namespace Go.Proofs
open Go Go.Pm
set_option maxRecDepth 100000
set_option linter.unusedVariables false
attribute [local irreducible] Go.Pm.vcFun Go.Pm.vc Go.Pm.vcIter
theorem C_3:Tryd.prog.cellsOf 3=1:=by kernel_rfl
theorem zSl:Tryd.prog.cellsOf 64=1:=by kernel_rfl
theorem zRw:Tryd.prog.cellsOf 66=6:=by kernel_rfl
theorem zLd:Tryd.prog.cellsOf 113=3:=by kernel_rfl
abbrev wf_3 (x:Int):Prop:=wfI x
theorem rd_3 {H:Type}{en:TypeId×Value->H}{w:World}{sp:Nat->Bool}{held:Bool} : Rd H en Tryd.prog w sp held 3 zaL wf_3:=zLc Tryd.underlying3
def zD0 (x:Gate):Prop:=wf_3 x.Z/\wf_3 x.Low/\wf_3 x.High
theorem zLe {H:Type}{en:TypeId×Value->H}{w:World}{sp:Nat->Bool}{held:Bool} : Rd H en Tryd.prog w sp held 113 zad zD0:=by
  intro fuel cs x h
  obtain⟨hl,hf⟩:=zpt Tryd.underlying113 h
  rw[zLd] at hl
  obtain⟨n0,y0,g0⟩:=hf 0 _ rfl
  have g0:DataW.trod en Tryd.prog w 0 sp held n0 3 ((cs.drop 0).take (Tryd.prog.cellsOf 3))=some y0:=g0
  rw[C_3] at g0
  obtain⟨a0,r0,w0⟩:=rd_3 _ _ _ g0
  obtain⟨n1,y1,g1⟩:=hf 1 _ rfl
  have g1:DataW.trod en Tryd.prog w 0 sp held n1 3 ((cs.drop 1).take (Tryd.prog.cellsOf 3))=some y1:=g1
  rw[C_3] at g1
  obtain⟨a1,r1,w1⟩:=rd_3 _ _ _ g1
  obtain⟨n2,y2,g2⟩:=hf 2 _ rfl
  have g2:DataW.trod en Tryd.prog w 0 sp held n2 3 ((cs.drop 2).take (Tryd.prog.cellsOf 3))=some y2:=g2
  rw[C_3] at g2
  obtain⟨a2,r2,w2⟩:=rd_3 _ _ _ g2
  have z:cs.drop 3=[]:=dqO (by omega)
  have R:=(r0.append (r1.append (r2.append (show RL (Rep (H0 w)) [] (cs.drop 3) by rw[z];exact zka))))
  rw[<- (show cs.drop 2=(cs.drop 2).take 1 ++ cs.drop 3 from zdb cs 2 1)] at R
  rw[<- (show cs.drop 1=(cs.drop 1).take 1 ++ cs.drop 2 from zdb cs 1 1)] at R
  rw[<- (show cs.drop 0=(cs.drop 0).take 1 ++ cs.drop 1 from zdb cs 0 1)] at R
  exact⟨⟨a0,a1,a2⟩,R,⟨w0,w1,w2⟩⟩
def zLf (x:(Sl Gate)):Prop:=x.len<=9223372036854775807/\∀ i,i < x.len->zD0 (x.get i)
theorem zPd {H:Type}{en:TypeId×Value->H}{w:World}{sp:Nat->Bool}{held:Bool} : Rd H en Tryd.prog w sp held 64 zK7 zLf:=zt3 Tryd.underlying64 zLd (by decide) (λ _=>rfl) zLe
def zLg (x:Sight):Prop:=zLf x.Gates/\wf_3 x.Z/\wf_3 x.X/\wf_3 x.W/\wf_3 x.Y/\wf_3 x.Wrong
theorem zPe {H:Type}{en:TypeId×Value->H}{w:World}{sp:Nat->Bool}{held:Bool} : Rd H en Tryd.prog w sp held 66 enc_66 zLg:=by
  intro fuel cs x h
  obtain⟨hl,hf⟩:=zpt Tryd.underlying66 h
  rw[zRw] at hl
  obtain⟨n0,y0,g0⟩:=hf 0 _ rfl
  have g0:DataW.trod en Tryd.prog w 0 sp held n0 64 ((cs.drop 0).take (Tryd.prog.cellsOf 64))=some y0:=g0
  rw[zSl] at g0
  obtain⟨a0,r0,w0⟩:=zPd _ _ _ g0
  obtain⟨n1,y1,g1⟩:=hf 1 _ rfl
  have g1:DataW.trod en Tryd.prog w 0 sp held n1 3 ((cs.drop 1).take (Tryd.prog.cellsOf 3))=some y1:=g1
  rw[C_3] at g1
  obtain⟨a1,r1,w1⟩:=rd_3 _ _ _ g1
  obtain⟨n2,y2,g2⟩:=hf 2 _ rfl
  have g2:DataW.trod en Tryd.prog w 0 sp held n2 3 ((cs.drop 2).take (Tryd.prog.cellsOf 3))=some y2:=g2
  rw[C_3] at g2
  obtain⟨a2,r2,w2⟩:=rd_3 _ _ _ g2
  obtain⟨n3,y3,g3⟩:=hf 3 _ rfl
  have g3:DataW.trod en Tryd.prog w 0 sp held n3 3 ((cs.drop 3).take (Tryd.prog.cellsOf 3))=some y3:=g3
  rw[C_3] at g3
  obtain⟨a3,r3,w3⟩:=rd_3 _ _ _ g3
  obtain⟨n4,y4,g4⟩:=hf 4 _ rfl
  have g4:DataW.trod en Tryd.prog w 0 sp held n4 3 ((cs.drop 4).take (Tryd.prog.cellsOf 3))=some y4:=g4
  rw[C_3] at g4
  obtain⟨a4,r4,w4⟩:=rd_3 _ _ _ g4
  obtain⟨n5,y5,g5⟩:=hf 5 _ rfl
  have g5:DataW.trod en Tryd.prog w 0 sp held n5 3 ((cs.drop 5).take (Tryd.prog.cellsOf 3))=some y5:=g5
  rw[C_3] at g5
  obtain⟨a5,r5,w5⟩:=rd_3 _ _ _ g5
  have z:cs.drop 6=[]:=dqO (by omega)
  have R:=(r0.append (r1.append (r2.append (r3.append (r4.append (r5.append (show RL (Rep (H0 w)) [] (cs.drop 6) by rw[z];exact zka)))))))
  rw[<- (show cs.drop 5=(cs.drop 5).take 1 ++ cs.drop 6 from zdb cs 5 1)] at R
  rw[<- (show cs.drop 4=(cs.drop 4).take 1 ++ cs.drop 5 from zdb cs 4 1)] at R
  rw[<- (show cs.drop 3=(cs.drop 3).take 1 ++ cs.drop 4 from zdb cs 3 1)] at R
  rw[<- (show cs.drop 2=(cs.drop 2).take 1 ++ cs.drop 3 from zdb cs 2 1)] at R
  rw[<- (show cs.drop 1=(cs.drop 1).take 1 ++ cs.drop 2 from zdb cs 1 1)] at R
  rw[<- (show cs.drop 0=(cs.drop 0).take 1 ++ cs.drop 1 from zdb cs 0 1)] at R
  exact⟨⟨a0,a1,a2,a3,a4,a5⟩,R,⟨w0,w1,w2,w3,w4,w5⟩⟩
def wf_63 (x:(Sl Sight)):Prop:=x.len<=9223372036854775807/\∀ i,i < x.len->zLg (x.get i)
theorem rd_63 {H:Type}{en:TypeId×Value->H}{w:World}{sp:Nat->Bool}{held:Bool} : Rd H en Tryd.prog w sp held 63 zK9 wf_63:=zt3 Tryd.underlying63 zRw (by decide) (λ _=>rfl) zPe
end Go.Proofs
namespace Go.Proofs
open Go Go.Pm
set_option maxRecDepth 100000
set_option linter.unusedVariables false
attribute [local irreducible] Go.Pm.vcFun Go.Pm.vc Go.Pm.vcIter
abbrev T31:Tabs:=Tabs.nil
theorem zPf:TabsOk Tryd.prog T31:=TabsOk.nil
abbrev G31:Ctrs:=csm T31 (λ _ _=>[]) (λ _=>false)
def zLh:Ann:=⟨15,[(0,zK [0,1,2] []),(1,zK [6] [])],
 [],
 [],
 [],[]⟩
abbrev R31:=Bool
abbrev e31 (r:R31):List PA:=[.one (.bool r)]
section
variable {K:List PA->Prop}{n:Int}{low:Int}{high:Int}
def s31 (n:Int) (low:Int) (high:Int):Bool :=
  (cond (decide (n >= low))
 (decide (n<=high))
 false)
end
theorem q31 (n:Int) (low:Int) (high:Int) (K:List PA->Prop) (hk:K (e31 (s31 n low high))):vcFun Tryd.prog G31 zLh 31 [.one (.int .i64 n),.one (.int .i64 low),.one (.int .i64 high)] K :=
  zaE (by kernel_rfl) (zt hk (λ hk=>hk) (λ hk=>hk))
def zra : List PA → COut
  | [.one (.int .i64 a0),.one (.int .i64 a1),.one (.int .i64 a2)]=>.tot [.one (.bool (s31 a0 a1 a2))]
  | _=>.no
theorem zLi:zac Tryd.prog 31:=⟨_,rfl,rfl,by kernel_rfl⟩
theorem zLj:Ok Tryd.prog 31 zra:=zau zPf zLi λ args K h=>by
  unfold zra at h
  split at h
  · rename_i a0 a1 a2
    have hk:=h
    exact⟨(λ _ _=>[]),(λ _=>false),zLh,q31 a0 a1 a2 K hk⟩
  · exact h.elim
abbrev T59:Tabs:=(Tabs.nil.addF 31 zra)
theorem zPg:TabsOk Tryd.prog T59:=(TabsOk.nil.addF zLj)
abbrev G59:Ctrs:=csm T59 (λ _ _=>[]) (λ _=>false)
def zFX:Ann:=⟨55,[(0,zK [1,2] [2]),(1,zK [1,2,5] [2]),(2,zK [1,2,5,6] [2]),(3,zK [4] [])],
 [],
 [(2,zK [1,2,5] [2]),(3,zK [1,2,5,6] [2])],
 [],[]⟩
abbrev R59:=Bool
abbrev e59 (r:R59):List PA:=[.one (.bool r)]
@[irreducible] def z59:=ptF Tryd.prog G59 zFX Tryd.f59
section
variable {K:List PA->Prop}{t:Tie}{nodes:Int}{zno:Bool}{zt4:Bool}
def znp (t:Tie) (nodes:Int) (zno:Bool) (zt4:Bool):Bool :=
  (cond (s31 t.From (0:Int) (w64 (nodes - (1:Int))))
 (cond (s31 t.To (0:Int) (w64 (nodes - (1:Int))))
 (cond (t.From != t.To)
 (cond zno
 (cond zt4
 (decide (t.Low<=t.High))
 false)
 false)
 false)
 false)
 false)
theorem zxI (hk:K (e59 (znp t nodes zno zt4))):z59 K [1,1,1] [] ⟨[(1,zI nodes),(2,zp 2 0),(5,zB zno),(6,zB zt4)],[(2,.box 54 (zm (zao t)))],[]⟩:=zaE (by kernel_rfl) (zt hk (λ hk=>(zt hk (λ hk=>(zt hk (λ hk=>(zt hk (λ hk=>(zt hk (λ hk=>hk) (λ hk=>hk))) (λ hk=>hk))) (λ hk=>hk))) (λ hk=>hk))) (λ hk=>hk))
def znq (t:Tie) (nodes:Int) (zno:Bool):Bool :=
  (cond (t.High == (1000000000000:Int))
 (znp t nodes zno true)
 (znp t nodes zno (s31 t.High (-1000000000:Int) (1000000000:Int))))
theorem zxJ (hk:K (e59 (znq t nodes zno))):z59 K [1,1] [] ⟨[(1,zI nodes),(2,zp 2 0),(5,zB zno)],[(2,.box 54 (zm (zao t)))],[]⟩:=zaE (by kernel_rfl) (zt hk (λ hk=>(zxI hk)) (λ hk=>(zxI hk)))
def s59 (t:Tie) (nodes:Int):Bool :=
  (cond (t.Low == (-1000000000000:Int))
 (znq t nodes true)
 (znq t nodes (s31 t.Low (-1000000000:Int) (1000000000:Int))))
end
theorem q59 (t:Tie) (nodes:Int) (K:List PA->Prop) (hk:K (e59 (s59 t nodes))):vcFun Tryd.prog G59 zFX 59 [.agg (zao t),.one (.int .i64 nodes)] K :=
  zaE (by kernel_rfl) (zt hk (λ hk=>(zxJ hk)) (λ hk=>(zxJ hk)))
def zFY : List PA → COut
  | [.agg [.int .i64 zrb,.int .i64 zFZ,.int .i64 zch,.int .i64 zbH],.one (.int .i64 a1)]=>.tot [.one (.bool (s59 (⟨zrb,zFZ,zch,zbH⟩:Tie) a1))]
  | _=>.no
theorem zLk:zac Tryd.prog 59:=⟨_,rfl,rfl,by kernel_rfl⟩
theorem zSm:Ok Tryd.prog 59 zFY:=zau zPg zLk λ args K h=>by
  unfold zFY at h
  split at h
  · rename_i zrb zFZ zch zbH a1
    have hk:=h
    exact⟨(λ _ _=>[]),(λ _=>false),zFX,q59 (⟨zrb,zFZ,zch,zbH⟩:Tie) a1 K hk⟩
  · exact h.elim
abbrev T32:Tabs:=((Tabs.nil.addF 31 zra).addF 59 zFY)
theorem zPh:TabsOk Tryd.prog T32:=((TabsOk.nil.addF zLj).addF zSm)
abbrev G32:Ctrs:=csm T32 (λ _ _=>[]) (λ _=>false)
def zCu:Ann:=⟨27,[(0,zK [1] [1]),(1,zK [1,6,7,8] [1]),(2,zK [1,6,7,8,9] [1]),(3,zK [1,4,6,7,8] [1,4]),(4,zK [1,6,7,8,16] [1]),(5,zK [2] []),(6,zK [1,6,7,8] [1]),(7,zK [2] [])],
 [(2,zK [1,6,7,8] [1])],
 [(5,zK [1,6,7,8,16] [1])],
 [],[]⟩
abbrev R32:=Bool
abbrev e32 (r:R32):List PA:=[.one (.bool r)]
@[irreducible] def z32:=ptF Tryd.prog G32 zCu Tryd.f32
def zD1 (n:Net) (zaq:Int):St:=⟨[(1,zp 1 0),(6,zS zao 4 n.Ties),(7,zI (n.Ties.len:Int)),(8,zI zaq)],[(1,.box 48 (zm (zc7 n)))],[]⟩
abbrev zF0 (K:List PA->Prop) (n:Net) (X:St->Prop) (P:Int->Bool) (S:Int->Bool):Prop:=∀ ⦃zaq:Int⦄,P zaq=true->K (e32 (S zaq))->X (zD1 n zaq)
section
variable {K:List PA->Prop}{n:Net}{zaq:Int}{X0:St->Prop}{P0:Int->Bool}{S0:Int->Bool}{zdp:Int}{zbY:Bool}
def zrd (S0:Int->Bool) (n:Net) (zdp:Int) (zbY:Bool):Bool :=
  (cond zbY
 false
 (S0 (w64 (zdp+(1:Int)))))
def zre (P0:Int->Bool) (n:Net) (zdp:Int) (zbY:Bool):Bool :=
  (cond zbY
 true
 (P0 (w64 (zdp+(1:Int)))))
theorem zF1 (hX0:zF0 K n X0 P0 S0) (hs:zre P0 n zdp zbY=true) (hk:K (e32 (zrd S0 n zdp zbY))):z32 K [1,0,1,0,0,1,1,0,0,1,1] [X0] ⟨[(1,zp 1 0),(6,zS zao 4 n.Ties),(7,zI (n.Ties.len:Int)),(8,zI zdp),(16,zB zbY)],[(1,.box 48 (zm (zc7 n)))],[]⟩:=zaE (by kernel_rfl) (zc hs hk (λ hs hk=>hk) (λ hs hk=>(hX0 hs hk)))
def ziB (n:Net) (S0:Int->Bool) (zaq:Int):Bool :=
  (cond (decide (zaq < (n.Ties.len : Int)))
 (zrd S0 n zaq (!(s59 (n.Ties.get zaq.toNat) n.Nodes)))
 (cond (s31 n.Nodes (1:Int) (40:Int))
 (decide ((n.Ties.len:Int)<=(200:Int)))
 false))
def ziC (n:Net) (P0:Int->Bool) (zaq:Int):Bool :=
  (cond (decide (zaq < (n.Ties.len : Int)))
 (decide ((0<=zaq/\zaq < (n.Ties.len:Int))) &&
 (zre P0 n zaq (!(s59 (n.Ties.get zaq.toNat) n.Nodes))))
 true)
def ziD (n:Net):Nat->Int->Bool:=lpO (λ _=>default) (ziB n)
def ziE (n:Net):Nat->Int->Bool:=lpO (λ _=>false) (ziC n)
def zxK (n:Net) (zaq:Int):Bool:=ziD n Fuel zaq
def zxL (n:Net) (zaq:Int):Bool:=ziE n Fuel zaq
theorem zF2 (hs:zxL n zaq=true) (hk:K (e32 (zxK n zaq))):z32 K [1,0,1,0] [] (zD1 n zaq) :=
  zl (λ X=>z32 K [1,0,1,0,0] [X]) (by kernel_rfl) λ X0 hX =>
  (show ∀ k, zF0 K n X0 (ziE n k) (ziD n k) from zgd _ _ (ziC n) (ziB n) (zF0 K n X0)
 (by intro _ hs;exact absurd hs dqk)
 (by intro P0 S0 hX0 zaq hs hk;exact hX _ (zaE (by kernel_rfl) (zc hs hk (λ hs hk=>(zaJ hs λ hc hs=>And.intro hc (zF1 hX0 hs hk))) (λ hs hk=>(zt hk (λ hk=>hk) (λ hk=>hk))))))) _ hs hk
def s32 (n:Net):Bool :=
  (zxK n (0:Int))
def p32 (n:Net):Bool :=
  (zxL n (0:Int))
end
theorem q32 (n:Net) (K:List PA->Prop) (hs:p32 n=true) (hk:K (e32 (s32 n))):vcFun Tryd.prog G32 zCu 32 [.agg (zc7 n)] K :=
  zaE (by kernel_rfl) (zF2 hs hk)
def zxM : List PA → COut
  | [.agg [.int .i64 zaw,.sl zaA zbP zav]]=>.det (IsE zao 4 zbP zav/\p32 (⟨zaw,(⟨zaA,za6 zav⟩:(Sl Tie))⟩:Net)=true) [.one (.bool (s32 (⟨zaw,(⟨zaA,za6 zav⟩:(Sl Tie))⟩:Net)))]
  | [.agg [.int .i64 zaw,.nils]]=>.det (p32 (⟨zaw,(⟨0,λ _=>default⟩:(Sl Tie))⟩:Net)=true) [.one (.bool (s32 (⟨zaw,(⟨0,λ _=>default⟩:(Sl Tie))⟩:Net)))]
  | _=>.no
theorem zLl:zac Tryd.prog 32:=⟨_,rfl,rfl,by kernel_rfl⟩
theorem ok32:Ok Tryd.prog 32 zxM:=zhl zPh zLl λ args K h=>by
  unfold zxM at h
  split at h
  · rename_i zaw zaA zbP zav
    obtain⟨⟨⟨rfl,zbv,rfl⟩,hs⟩,hk⟩:=h
    try rw[zaN zbv] at hs
    try rw[zaN zbv] at hk
    exact⟨_,zg8 zfW _,(λ _ _=>[]),(λ _=>false),zCu,q32 (⟨zaw,(⟨zaA,zbv⟩:(Sl Tie))⟩:Net) (Wk K) hs (zfX hk)⟩
  · rename_i zaw
    obtain⟨hs,hk⟩:=h
    exact⟨_,(ze4 (.agg (ze4 (.rfl _) (ze4 (.nil _ _) zka))) zka),(λ _ _=>[]),(λ _=>false),zCu,q32 (⟨zaw,(⟨0,λ _=>default⟩:(Sl Tie))⟩:Net) (Wk K) hs (zfX hk)⟩
  · exact h.elim
abbrev T10:Tabs:=((Tabs.nil.addF 31 zra).addF 32 zxM)
theorem zPi:TabsOk Tryd.prog T10:=((TabsOk.nil.addF zLj).addF ok32)
abbrev G10:Ctrs:=csm T10 (λ _ _=>[]) (λ _=>false)
def zCv:Ann:=⟨99,[(0,zK [0,1,4] [4]),(1,zK [0,1,4,12] [4]),(2,zK [4,5] [4]),(3,zK [1,4,6] [4,6]),(4,zK [4,6,16,17,18] [4,6]),(5,zK [4,6,16,17,18,19] [4,6,91]),(6,zK [4,6,8,16,17,18] [4,6,8,91]),(7,zK [4,6,8,16,17,18,60] [4,6,8,91]),(8,zK [4,5] [4]),(9,zK [4,6,8,9,16,17,18] [4,6,8,91]),(10,zK [4,6,16,17,18] [4,6,91]),(11,zK [4,6,16,17,18] [4,6,91]),(12,zK [4,6,96] [4,6,91]),(13,zK [4,5] [4]),(14,zK [4,5] [4,91])],
 [(5,⟨[4,6,16,17,18],[4,6,91],[],[(6,1,91,54,λ _=>zao default)],[],[],[]⟩)],
 [(3,zK [0,1,4] [4]),(8,zK [4,6,8,16,17,18,60] [4,6,8,91]),(13,zK [4,6,96] [4,6,91]),(9,zK [4,6,8,16,17,18] [4,6,8,91])],
 [],[]⟩
abbrev R10:=(Net×Int)
abbrev e10 (r:R10):List PA:=[.agg [.int .i64 r.1.Nodes,.sl r.1.Ties.len 4 (λ i=>zao (r.1.Ties.get i))],.one (.int .i64 r.2)]
@[irreducible] def z10:=ptF Tryd.prog G10 zCv Tryd.f10
def zD2 (nodes:Int) (pulses:(Sl Pulse)) (zan:Int) (zdc:(Sl Tie)) (zgh:Nat->List PV):St:=⟨[(4,zp 4 0),(6,zp 6 0),(16,zS zge 7 pulses),(17,zI (pulses.len:Int)),(18,zI zan)],[(4,.box 48 [zi (0:Int),.p (.nils)]),(6,.box 48 [zi nodes,.vec 91]),(91,.vec 54 4 32 zdc.len zgh)],[]⟩
abbrev zCw (K:List PA->Prop) (nodes:Int) (pulses:(Sl Pulse)) (X:St->Prop) (P:Int->(Sl Tie)->Bool) (S:Int->(Sl Tie)->(Net×Int)):Prop:=∀ ⦃zan:Int⦄ ⦃zdc:(Sl Tie)⦄ ⦃zgh:Nat->List PV⦄,P zan zdc=true->K (e10 (S zan zdc))->zgh=zg zao zdc->X (zD2 nodes pulses zan zdc zgh)
section
variable {K:List PA->Prop}{nodes:Int}{pulses:(Sl Pulse)}{zan:Int}{zdc:(Sl Tie)}{zgh:Nat->List PV}{X1:St->Prop}{P1:Int->(Sl Tie)->Bool}{S1:Int->(Sl Tie)->(Net×Int)}{zrf:Int}{zrg:Bool}{zrh:Int}{zrj:Int}{zrk:Int}{zrl:Int}{zrm:Int}{zrn:Int}{zro:Int}{zpu:(Sl Tie)}{zxN:Nat->List PV}{zCx:Bool}{zrp:(Sl Tie)}{zxO:Nat->List PV}{zrq:Int}{zpv:Int}{zpw:Int}{zlc:Int}{zld:Int}{zpx:Int}{zpy:Int}{zle:Int}{zhn:(Sl Tie)}{zxP:Nat->List PV}
def zxQ (S1:Int->(Sl Tie)->(Net×Int)) (nodes:Int) (pulses:(Sl Pulse)) (zrq:Int) (zpv:Int) (zpw:Int) (zlc:Int) (zld:Int) (zpx:Int) (zpy:Int) (zle:Int) (zhn:(Sl Tie)):(Net×Int) :=
  (S1 (w64 (zrq+(1:Int))) (⟨(zhn.len+1),(zh3 zhn.len zhn.get (λ _=>(⟨zpv,zpw,(w64 ((w64 ((w64 (zld - zlc)) - zpy)) - zle)),(w64 ((w64 ((w64 (zld - zlc)) - zpx))+zle))⟩:Tie)))⟩:Sl Tie))
def zxR (P1:Int->(Sl Tie)->Bool) (nodes:Int) (pulses:(Sl Pulse)) (zrq:Int) (zpv:Int) (zpw:Int) (zlc:Int) (zld:Int) (zpx:Int) (zpy:Int) (zle:Int) (zhn:(Sl Tie)):Bool :=
  (decide (((zhn.len+1) * 32<=140737488355328/\zhn.len+1<=9223372036854775807)) &&
 (P1 (w64 (zrq+(1:Int))) (⟨(zhn.len+1),(zh3 zhn.len zhn.get (λ _=>(⟨zpv,zpw,(w64 ((w64 ((w64 (zld - zlc)) - zpy)) - zle)),(w64 ((w64 ((w64 (zld - zlc)) - zpx))+zle))⟩:Tie)))⟩:Sl Tie)))
theorem zF3 (hX1:zCw K nodes pulses X1 P1 S1) (hs:zxR P1 nodes pulses zrq zpv zpw zlc zld zpx zpy zle zhn=true) (hk:K (e10 (zxQ S1 nodes pulses zrq zpv zpw zlc zld zpx zpy zle zhn))) (zF4:zxP=zg zao zhn):z10 (Wk K) [1,1,1,0,1,0,0,1,1,0,0,1,1] [X1] ⟨[(4,zp 4 0),(6,zp 6 0),(8,zp 8 0),(16,zS zge 7 pulses),(17,zI (pulses.len:Int)),(18,zI zrq)],[(4,.box 48 [zi (0:Int),.p (.nils)]),(6,.box 48 [zi nodes,.vec 91]),(8,.box 45 (zm (zge (⟨zpv,zpw,zlc,zld,(⟨zpx,zpy⟩:Span),zle⟩:Pulse)))),(91,.vec 54 4 32 zhn.len zxP)],[]⟩:=by subst zF4;exact zaE (by kernel_rfl) (zaJ hs λ hc hs=>And.intro hc (hX1 hs hk (zpr (enc:=zao) (f:=zhn.get) (h:=(λ _=>(⟨zpv,zpw,(w64 ((w64 ((w64 (zld - zlc)) - zpy)) - zle)),(w64 ((w64 ((w64 (zld - zlc)) - zpx))+zle))⟩:Tie))) rfl rfl)))
def zxS (nodes:Int) (zCx:Bool) (zrp:(Sl Tie)):(Net×Int) :=
  (cond zCx
 ((⟨(0:Int),(⟨0,λ _=>default⟩:(Sl Tie))⟩:Net),(2:Int))
 ((⟨nodes,zrp⟩:Net),(0:Int)))
theorem zF5 (hk:K (e10 (zxS nodes zCx zrp))) (zF6:zxO=zg zao zrp):z10 (Wk K) [1,1,1,1,0,1] [] ⟨[(4,zp 4 0),(6,zp 6 0),(96,zB zCx)],[(4,.box 48 [zi (0:Int),.p (.nils)]),(6,.box 48 [zi nodes,.vec 91]),(91,.vec 54 4 32 zrp.len zxO)],[]⟩:=by subst zF6;exact zaE (by kernel_rfl) (zt hk (λ hk=>((wk hk (ze4 (.agg (ze4 (.rfl _) (ze4 (.nil _ _) zka))) (ze4 (.one (.rfl _)) zka))):Wk K [.agg [.int .i64 (0:Int),.nils],.one (.int .i64 (2:Int))])) (λ hk=>((zfX hk):Wk K [.agg [.int .i64 nodes,.sl zrp.len 4 (λ i=>zao (zrp.get i))],.one (.int .i64 (0:Int))])))
def zho (S1:Int->(Sl Tie)->(Net×Int)) (nodes:Int) (pulses:(Sl Pulse)) (zrf:Int) (zrg:Bool) (zrh:Int) (zrj:Int) (zrk:Int) (zrl:Int) (zrm:Int) (zrn:Int) (zro:Int) (zpu:(Sl Tie)):(Net×Int) :=
  (cond zrg
 ((⟨(0:Int),(⟨0,λ _=>default⟩:(Sl Tie))⟩:Net),(2:Int))
 (zxQ S1 nodes pulses zrf zrh zrj zrk zrl zrm zrn zro zpu))
def zhp (P1:Int->(Sl Tie)->Bool) (nodes:Int) (pulses:(Sl Pulse)) (zrf:Int) (zrg:Bool) (zrh:Int) (zrj:Int) (zrk:Int) (zrl:Int) (zrm:Int) (zrn:Int) (zro:Int) (zpu:(Sl Tie)):Bool :=
  (cond zrg
 true
 (zxR P1 nodes pulses zrf zrh zrj zrk zrl zrm zrn zro zpu))
theorem ziF (hX1:zCw K nodes pulses X1 P1 S1) (hs:zhp P1 nodes pulses zrf zrg zrh zrj zrk zrl zrm zrn zro zpu=true) (hk:K (e10 (zho S1 nodes pulses zrf zrg zrh zrj zrk zrl zrm zrn zro zpu))) (zF7:zxN=zg zao zpu):z10 (Wk K) [1,1,1,0,1,0,0,1,1,0,0,1,0,1] [X1] ⟨[(4,zp 4 0),(6,zp 6 0),(8,zp 8 0),(16,zS zge 7 pulses),(17,zI (pulses.len:Int)),(18,zI zrf),(60,zB zrg)],[(4,.box 48 [zi (0:Int),.p (.nils)]),(6,.box 48 [zi nodes,.vec 91]),(8,.box 45 (zm (zge (⟨zrh,zrj,zrk,zrl,(⟨zrm,zrn⟩:Span),zro⟩:Pulse)))),(91,.vec 54 4 32 zpu.len zxN)],[]⟩:=by subst zF7;exact zaE (by kernel_rfl) (zc hs hk (λ hs hk=>((wk hk (ze4 (.agg (ze4 (.rfl _) (ze4 (.nil _ _) zka))) (ze4 (.one (.rfl _)) zka))):Wk K [.agg [.int .i64 (0:Int),.nils],.one (.int .i64 (2:Int))])) (λ hs hk=>(zF3 hX1 hs hk rfl)))
def zxT (nodes:Int) (pulses:(Sl Pulse)) (S1:Int->(Sl Tie)->(Net×Int)) (zan:Int) (zdc:(Sl Tie)):(Net×Int) :=
  (cond (decide (zan < (pulses.len : Int)))
 (cond ((pulses.get zan.toNat).A == (pulses.get zan.toNat).B)
 (zho S1 nodes pulses zan true ((pulses.get zan.toNat).A) ((pulses.get zan.toNat).B) ((pulses.get zan.toNat).TimeA) ((pulses.get zan.toNat).TimeB) ((pulses.get zan.toNat).Flight.Low) ((pulses.get zan.toNat).Flight.High) ((pulses.get zan.toNat).Jitter) zdc)
 (cond (!(s31 ((pulses.get zan.toNat).TimeA) (-100000000:Int) (100000000:Int)))
 (zho S1 nodes pulses zan true ((pulses.get zan.toNat).A) ((pulses.get zan.toNat).B) ((pulses.get zan.toNat).TimeA) ((pulses.get zan.toNat).TimeB) ((pulses.get zan.toNat).Flight.Low) ((pulses.get zan.toNat).Flight.High) ((pulses.get zan.toNat).Jitter) zdc)
 (cond (!(s31 ((pulses.get zan.toNat).TimeB) (-100000000:Int) (100000000:Int)))
 (zho S1 nodes pulses zan true ((pulses.get zan.toNat).A) ((pulses.get zan.toNat).B) ((pulses.get zan.toNat).TimeA) ((pulses.get zan.toNat).TimeB) ((pulses.get zan.toNat).Flight.Low) ((pulses.get zan.toNat).Flight.High) ((pulses.get zan.toNat).Jitter) zdc)
 (cond (!(s31 ((pulses.get zan.toNat).Flight.Low) (0:Int) ((pulses.get zan.toNat).Flight.High)))
 (zho S1 nodes pulses zan true ((pulses.get zan.toNat).A) ((pulses.get zan.toNat).B) ((pulses.get zan.toNat).TimeA) ((pulses.get zan.toNat).TimeB) ((pulses.get zan.toNat).Flight.Low) ((pulses.get zan.toNat).Flight.High) ((pulses.get zan.toNat).Jitter) zdc)
 (cond (decide ((pulses.get zan.toNat).Flight.High > (100000000:Int)))
 (zho S1 nodes pulses zan true ((pulses.get zan.toNat).A) ((pulses.get zan.toNat).B) ((pulses.get zan.toNat).TimeA) ((pulses.get zan.toNat).TimeB) ((pulses.get zan.toNat).Flight.Low) ((pulses.get zan.toNat).Flight.High) ((pulses.get zan.toNat).Jitter) zdc)
 (zho S1 nodes pulses zan (!(s31 ((pulses.get zan.toNat).Jitter) (0:Int) (100000000:Int))) ((pulses.get zan.toNat).A) ((pulses.get zan.toNat).B) ((pulses.get zan.toNat).TimeA) ((pulses.get zan.toNat).TimeB) ((pulses.get zan.toNat).Flight.Low) ((pulses.get zan.toNat).Flight.High) ((pulses.get zan.toNat).Jitter) zdc))))))
 (zxS nodes (!(s32 (⟨nodes,zdc⟩:Net))) zdc))
def zxU (nodes:Int) (pulses:(Sl Pulse)) (P1:Int->(Sl Tie)->Bool) (zan:Int) (zdc:(Sl Tie)):Bool :=
  (cond (decide (zan < (pulses.len : Int)))
 (decide ((0<=zan/\zan < (pulses.len:Int))) &&
 (cond ((pulses.get zan.toNat).A == (pulses.get zan.toNat).B)
 (zhp P1 nodes pulses zan true ((pulses.get zan.toNat).A) ((pulses.get zan.toNat).B) ((pulses.get zan.toNat).TimeA) ((pulses.get zan.toNat).TimeB) ((pulses.get zan.toNat).Flight.Low) ((pulses.get zan.toNat).Flight.High) ((pulses.get zan.toNat).Jitter) zdc)
 (cond (!(s31 ((pulses.get zan.toNat).TimeA) (-100000000:Int) (100000000:Int)))
 (zhp P1 nodes pulses zan true ((pulses.get zan.toNat).A) ((pulses.get zan.toNat).B) ((pulses.get zan.toNat).TimeA) ((pulses.get zan.toNat).TimeB) ((pulses.get zan.toNat).Flight.Low) ((pulses.get zan.toNat).Flight.High) ((pulses.get zan.toNat).Jitter) zdc)
 (cond (!(s31 ((pulses.get zan.toNat).TimeB) (-100000000:Int) (100000000:Int)))
 (zhp P1 nodes pulses zan true ((pulses.get zan.toNat).A) ((pulses.get zan.toNat).B) ((pulses.get zan.toNat).TimeA) ((pulses.get zan.toNat).TimeB) ((pulses.get zan.toNat).Flight.Low) ((pulses.get zan.toNat).Flight.High) ((pulses.get zan.toNat).Jitter) zdc)
 (cond (!(s31 ((pulses.get zan.toNat).Flight.Low) (0:Int) ((pulses.get zan.toNat).Flight.High)))
 (zhp P1 nodes pulses zan true ((pulses.get zan.toNat).A) ((pulses.get zan.toNat).B) ((pulses.get zan.toNat).TimeA) ((pulses.get zan.toNat).TimeB) ((pulses.get zan.toNat).Flight.Low) ((pulses.get zan.toNat).Flight.High) ((pulses.get zan.toNat).Jitter) zdc)
 (cond (decide ((pulses.get zan.toNat).Flight.High > (100000000:Int)))
 (zhp P1 nodes pulses zan true ((pulses.get zan.toNat).A) ((pulses.get zan.toNat).B) ((pulses.get zan.toNat).TimeA) ((pulses.get zan.toNat).TimeB) ((pulses.get zan.toNat).Flight.Low) ((pulses.get zan.toNat).Flight.High) ((pulses.get zan.toNat).Jitter) zdc)
 (zhp P1 nodes pulses zan (!(s31 ((pulses.get zan.toNat).Jitter) (0:Int) (100000000:Int))) ((pulses.get zan.toNat).A) ((pulses.get zan.toNat).B) ((pulses.get zan.toNat).TimeA) ((pulses.get zan.toNat).TimeB) ((pulses.get zan.toNat).Flight.Low) ((pulses.get zan.toNat).Flight.High) ((pulses.get zan.toNat).Jitter) zdc)))))))
 (decide ((p32 (⟨nodes,zdc⟩:Net)=true)) &&
 true))
def zxV (nodes:Int) (pulses:(Sl Pulse)):Nat->Int->(Sl Tie)->(Net×Int):=lpO (λ _ _=>default) (zxT nodes pulses)
def zxW (nodes:Int) (pulses:(Sl Pulse)):Nat->Int->(Sl Tie)->Bool:=lpO (λ _ _=>false) (zxU nodes pulses)
def zxX (nodes:Int) (pulses:(Sl Pulse)) (zan:Int) (zdc:(Sl Tie)):(Net×Int):=zxV nodes pulses Fuel zan zdc
def zxY (nodes:Int) (pulses:(Sl Pulse)) (zan:Int) (zdc:(Sl Tie)):Bool:=zxW nodes pulses Fuel zan zdc
theorem zF8 (hs:zxY nodes pulses zan zdc=true) (hk:K (e10 (zxX nodes pulses zan zdc))) (zrr:zgh=zg zao zdc):z10 (Wk K) [1,1,1,0,1,0] [] (zD2 nodes pulses zan zdc zgh) :=
  zl (λ X=>z10 (Wk K) [1,1,1,0,1,0,0] [X]) (by kernel_rfl) λ X1 hX =>
  (show ∀ k, zCw K nodes pulses X1 (zxW nodes pulses k) (zxV nodes pulses k) from zgd _ _ (zxU nodes pulses) (zxT nodes pulses) (zCw K nodes pulses X1)
 (by intro _ _ _ hs;exact absurd hs dqk)
 (by intro P1 S1 hX1 zan zdc zgh hs hk zrr;subst zrr;exact hX _ (zaE (by kernel_rfl) (zc hs hk (λ hs hk=>(zaJ hs λ hc hs=>And.intro hc (zc hs hk (λ hs hk=>(ziF hX1 hs hk rfl)) (λ hs hk=>(zc hs hk (λ hs hk=>(ziF hX1 hs hk rfl)) (λ hs hk=>(zc hs hk (λ hs hk=>(ziF hX1 hs hk rfl)) (λ hs hk=>(zc hs hk (λ hs hk=>(ziF hX1 hs hk rfl)) (λ hs hk=>(zc hs hk (λ hs hk=>(ziF hX1 hs hk rfl)) (λ hs hk=>(ziF hX1 hs hk rfl))))))))))))) (λ hs hk=>(zaJ hs λ hc hs=>And.intro (And.intro (zE zao 4 zdc.get) hc) (zF5 hk rfl))))))) _ hs hk zrr
def zxZ (nodes:Int) (pulses:(Sl Pulse)):(Net×Int) :=
  (zxX nodes pulses (0:Int) (⟨0,(λ _=>default)⟩:Sl Tie))
def zx0 (nodes:Int) (pulses:(Sl Pulse)):Bool :=
  (zxY nodes pulses (0:Int) (⟨0,(λ _=>default)⟩:Sl Tie))
theorem zF9 (hs:zx0 nodes pulses=true) (hk:K (e10 (zxZ nodes pulses))):z10 (Wk K) [1,1] [] ⟨[(0,zI nodes),(1,zS zge 7 pulses),(4,zp 4 0)],[(4,.box 48 [zi (0:Int),.p (.nils)])],[]⟩:=zaE (by kernel_rfl) (zF8 hs hk rfl)
def s10 (nodes:Int) (pulses:(Sl Pulse)):(Net×Int) :=
  (cond (decide ((pulses.len : Int) > (200:Int)))
 ((⟨(0:Int),(⟨0,λ _=>default⟩:(Sl Tie))⟩:Net),(3:Int))
 (zxZ nodes pulses))
def p10 (nodes:Int) (pulses:(Sl Pulse)):Bool :=
  (cond (decide ((pulses.len : Int) > (200:Int)))
 true
 (zx0 nodes pulses))
end
theorem q10 (nodes:Int) (pulses:(Sl Pulse)) (K:List PA->Prop) (hs:p10 nodes pulses=true) (hk:K (e10 (s10 nodes pulses))):vcFun Tryd.prog G10 zCv 10 [.one (.int .i64 nodes),.one (.sl pulses.len 7 (λ i=>zge (pulses.get i)))] (Wk K) :=
  zaE (by kernel_rfl) (zc hs hk (λ hs hk=>((wk hk (ze4 (.agg (ze4 (.rfl _) (ze4 (.nil _ _) zka))) (ze4 (.one (.rfl _)) zka))):Wk K [.agg [.int .i64 (0:Int),.nils],.one (.int .i64 (3:Int))])) (λ hs hk=>(zF9 hs hk)))
def zGa : List PA → COut
  | [.one (.int .i64 a0),.one (.sl zeK zlQ zeL)]=>.det (IsE zge 7 zlQ zeL/\p10 a0 (⟨zeK,ziA zeL⟩:(Sl Pulse))=true) [.agg [.int .i64 (((s10 a0 (⟨zeK,ziA zeL⟩:(Sl Pulse))).1).Nodes),.sl (((s10 a0 (⟨zeK,ziA zeL⟩:(Sl Pulse))).1).Ties.len) 4 (λ i=>zao (((s10 a0 (⟨zeK,ziA zeL⟩:(Sl Pulse))).1).Ties.get i))],.one (.int .i64 ((s10 a0 (⟨zeK,ziA zeL⟩:(Sl Pulse))).2))]
  | [.one (.int .i64 a0),.one (.nils)]=>.det (p10 a0 (⟨0,λ _=>default⟩:(Sl Pulse))=true) [.agg [.int .i64 (((s10 a0 (⟨0,λ _=>default⟩:(Sl Pulse))).1).Nodes),.sl (((s10 a0 (⟨0,λ _=>default⟩:(Sl Pulse))).1).Ties.len) 4 (λ i=>zao (((s10 a0 (⟨0,λ _=>default⟩:(Sl Pulse))).1).Ties.get i))],.one (.int .i64 ((s10 a0 (⟨0,λ _=>default⟩:(Sl Pulse))).2))]
  | _=>.no
theorem call10:zac Tryd.prog 10:=⟨_,rfl,rfl,by kernel_rfl⟩
theorem zSn:Ok Tryd.prog 10 zGa:=zhl zPi call10 λ args K h=>by
  unfold zGa at h
  split at h
  · rename_i a0 zeK zlQ zeL
    obtain⟨⟨⟨rfl,zin,rfl⟩,hs⟩,hk⟩:=h
    try rw[zk9 zin] at hs
    try rw[zk9 zin] at hk
    exact⟨_,zg8 zfW _,(λ _ _=>[]),(λ _=>false),zCv,q10 a0 (⟨zeK,zin⟩:(Sl Pulse)) K hs hk⟩
  · rename_i a0
    obtain⟨hs,hk⟩:=h
    exact⟨_,(ze4 (zfW _) (ze4 (.one (.nil _ _)) zka)),(λ _ _=>[]),(λ _=>false),zCv,q10 a0 (⟨0,λ _=>default⟩:(Sl Pulse)) K hs hk⟩
  · exact h.elim
abbrev zRx:Tabs:=Tabs.nil
theorem zLm:TabsOk Tryd.prog zRx:=TabsOk.nil
abbrev zSo:Ctrs:=csm zRx (λ _ _=>[]) (λ _=>false)
def zD3:Ann:=⟨9,[(0,zK [1,2] [2]),(1,zK [3] [])],
 [],
 [],
 [],[]⟩
abbrev zSp:=Bool
abbrev zSq (r:zSp):List PA:=[.one (.bool r)]
section
variable {K:List PA->Prop}{c0:Span}{r_a0:FluxRow}
def zOE (c0:Span) (r_a0:FluxRow):Bool :=
  (decide (r_a0.Energy > c0.Low))
end
theorem zSr (c0:Span) (r_a0:FluxRow) (K:List PA->Prop) (hk:K (zSq (zOE c0 r_a0))):vcFun Tryd.prog zSo zD3 110 [.agg (zaZ r_a0),.one (.fp (zbh c0) 0)] K :=
  zaE (by kernel_rfl) hk
def zx1 : List PA → COut
  | [.agg [.int .i64 zaM,.int .i64 zbF,.int .i64 zbm],.one (.fp [.int .i64 c0_Low,.int .i64 c0_High] 0)]=>.tot [.one (.bool (zOE (⟨c0_Low,c0_High⟩:Span) (⟨zaM,(⟨zbF,zbm⟩:Span)⟩:FluxRow)))]
  | _=>.no
theorem zGb:zac Tryd.prog 110:=⟨_,rfl,rfl,by kernel_rfl⟩
theorem zPj:Ok Tryd.prog 110 zx1:=zau zLm zGb λ args K h=>by
  unfold zx1 at h
  split at h
  · rename_i zaM zbF zbm c0_Low c0_High
    have hk:=h
    exact⟨(λ _ _=>[]),(λ _=>false),zD3,zSr (⟨c0_Low,c0_High⟩:Span) (⟨zaM,(⟨zbF,zbm⟩:Span)⟩:FluxRow) K hk⟩
  · exact h.elim
abbrev zRy:Tabs:=Tabs.nil
theorem zLn:TabsOk Tryd.prog zRy:=TabsOk.nil
abbrev zSs:Ctrs:=csm zRy (λ _ _=>[]) (λ _=>false)
def zD4:Ann:=⟨9,[(0,zK [1,2] [2]),(1,zK [3] [])],
 [],
 [],
 [],[]⟩
abbrev zSt:=Bool
abbrev zSu (r:zSt):List PA:=[.one (.bool r)]
section
variable {K:List PA->Prop}{c0:Span}{r_a0:FluxRow}
def zOF (c0:Span) (r_a0:FluxRow):Bool :=
  (decide (r_a0.Energy >= c0.High))
end
theorem zSv (c0:Span) (r_a0:FluxRow) (K:List PA->Prop) (hk:K (zSu (zOF c0 r_a0))):vcFun Tryd.prog zSs zD4 111 [.agg (zaZ r_a0),.one (.fp (zbh c0) 0)] K :=
  zaE (by kernel_rfl) hk
def zx2 : List PA → COut
  | [.agg [.int .i64 zaM,.int .i64 zbF,.int .i64 zbm],.one (.fp [.int .i64 c0_Low,.int .i64 c0_High] 0)]=>.tot [.one (.bool (zOF (⟨c0_Low,c0_High⟩:Span) (⟨zaM,(⟨zbF,zbm⟩:Span)⟩:FluxRow)))]
  | _=>.no
theorem zGc:zac Tryd.prog 111:=⟨_,rfl,rfl,by kernel_rfl⟩
theorem zPk:Ok Tryd.prog 111 zx2:=zau zLn zGc λ args K h=>by
  unfold zx2 at h
  split at h
  · rename_i zaM zbF zbm c0_Low c0_High
    have hk:=h
    exact⟨(λ _ _=>[]),(λ _=>false),zD4,zSv (⟨c0_Low,c0_High⟩:Span) (⟨zaM,(⟨zbF,zbm⟩:Span)⟩:FluxRow) K hk⟩
  · exact h.elim
abbrev zPl:Tabs:=((Tabs.nil.addF 110 zx1).addF 111 zx2)
theorem zLo:TabsOk Tryd.prog zPl:=((TabsOk.nil.addF zPj).addF zPk)
abbrev zRz:Ctrs:=csm zPl (λ _ _=>[]) (λ _=>false)
def zx3:Ann:=⟨19,[(0,zK [0,1] []),(1,zK [0,1,7,8] []),(2,zK [0,1,7,8,9] []),(3,zK [0,1,5,7,8] []),(4,zK [0,1,5,7,8,16] []),(5,zK [4] []),(6,zK [0,1,7,8] []),(7,zK [4] [])],
 [(2,zK [0,1,7,8] [])],
 [(5,zK [0,1,5,7,8,16] [])],
 [],[]⟩
abbrev zSw:=Int
abbrev zOG (r:zSw):List PA:=[.one (.int .i64 r)]
@[irreducible] def z122:=ptF Tryd.prog zRz zx3 Tryd.f122
def zx4 (c0:Span) (sv0:(Sl FluxRow)) (za7:Int) (zaq:Int) (zb5:Nat->List PV):St:=⟨[(0,zP (.sl sv0.len 3 zb5)),(1,zP (.fn 110 [] [.fp (zbh c0) 0])),(7,zI za7),(8,zI zaq)],[],[]⟩
abbrev zx5 (K:List PA->Prop) (c0:Span) (X:St->Prop) (P:(Sl FluxRow)->Int->Int->Bool) (S:(Sl FluxRow)->Int->Int->Int):Prop:=∀ ⦃sv0:(Sl FluxRow)⦄ ⦃za7:Int⦄ ⦃zaq:Int⦄ ⦃zb5:Nat->List PV⦄,P sv0 za7 zaq=true->K (zOG (S sv0 za7 zaq))->zb5=zg zaZ sv0->X (zx4 c0 sv0 za7 zaq zb5)
section
variable {K:List PA->Prop}{c0:Span}{s:(Sl FluxRow)}{sv0:(Sl FluxRow)}{za7:Int}{zaq:Int}{zb5:Nat->List PV}{X0:St->Prop}{P0:(Sl FluxRow)->Int->Int->Bool}{S0:(Sl FluxRow)->Int->Int->Int}{sv1:(Sl FluxRow)}{iv1:Int}{zdq:Int}{zdp:Int}{zbY:Bool}{zgi:Nat->List PV}
def zt5 (S0:(Sl FluxRow)->Int->Int->Int) (c0:Span) (sv1:(Sl FluxRow)) (iv1:Int) (zdq:Int) (zdp:Int) (zbY:Bool):Int :=
  (cond zbY
 iv1
 (S0 sv1 zdq (w64 (zdp+(1:Int)))))
def zt6 (P0:(Sl FluxRow)->Int->Int->Bool) (c0:Span) (sv1:(Sl FluxRow)) (iv1:Int) (zdq:Int) (zdp:Int) (zbY:Bool):Bool :=
  (cond zbY
 true
 (P0 sv1 zdq (w64 (zdp+(1:Int)))))
theorem zCy (hX0:zx5 K c0 X0 P0 S0) (hs:zt6 P0 c0 sv1 iv1 zdq zdp zbY=true) (hk:K (zOG (zt5 S0 c0 sv1 iv1 zdq zdp zbY))) (zlf:zgi=zg zaZ sv1):z122 K [1,0,1,0,0,1,1,0,0,1,1] [X0] ⟨[(0,zP (.sl sv1.len 3 zgi)),(1,zP (.fn 110 [] [.fp (zbh c0) 0])),(5,zI iv1),(7,zI zdq),(8,zI zdp),(16,zB zbY)],[],[]⟩:=by subst zlf;exact zaE (by kernel_rfl) (zc hs hk (λ hs hk=>hk) (λ hs hk=>(hX0 hs hk rfl)))
def zt7 (c0:Span) (S0:(Sl FluxRow)->Int->Int->Int) (sv0:(Sl FluxRow)) (za7:Int) (zaq:Int):Int :=
  (cond (decide (zaq < za7))
 (zt5 S0 c0 sv0 zaq za7 zaq (zOE c0 (sv0.get zaq.toNat)))
 (-1:Int))
def zt8 (c0:Span) (P0:(Sl FluxRow)->Int->Int->Bool) (sv0:(Sl FluxRow)) (za7:Int) (zaq:Int):Bool :=
  (cond (decide (zaq < za7))
 (decide ((0<=zaq/\zaq < (sv0.len:Int))) &&
 (zt6 P0 c0 sv0 zaq za7 zaq (zOE c0 (sv0.get zaq.toNat))))
 true)
def zt9 (c0:Span):Nat->(Sl FluxRow)->Int->Int->Int:=lpO (λ _ _ _=>default) (zt7 c0)
def zua (c0:Span):Nat->(Sl FluxRow)->Int->Int->Bool:=lpO (λ _ _ _=>false) (zt8 c0)
def zue (c0:Span) (sv0:(Sl FluxRow)) (za7:Int) (zaq:Int):Int:=zt9 c0 Fuel sv0 za7 zaq
def zuf (c0:Span) (sv0:(Sl FluxRow)) (za7:Int) (zaq:Int):Bool:=zua c0 Fuel sv0 za7 zaq
theorem zCz (hs:zuf c0 sv0 za7 zaq=true) (hk:K (zOG (zue c0 sv0 za7 zaq))) (zex:zb5=zg zaZ sv0):z122 K [1,0,1,0] [] (zx4 c0 sv0 za7 zaq zb5) :=
  zl (λ X=>z122 K [1,0,1,0,0] [X]) (by kernel_rfl) λ X0 hX =>
  (show ∀ k, zx5 K c0 X0 (zua c0 k) (zt9 c0 k) from zgd _ _ (zt8 c0) (zt7 c0) (zx5 K c0 X0)
 (by intro _ _ _ _ hs;exact absurd hs dqk)
 (by intro P0 S0 hX0 sv0 za7 zaq zb5 hs hk zex;subst zex;exact hX _ (zaE (by kernel_rfl) (zc hs hk (λ hs hk=>(zaJ hs λ hc hs=>And.intro hc (zCy hX0 hs hk rfl))) (λ hs hk=>hk))))) _ hs hk zex
def zOH (c0:Span) (s:(Sl FluxRow)):Int :=
  (zue c0 s (s.len:Int) (0:Int))
def zPm (c0:Span) (s:(Sl FluxRow)):Bool :=
  (zuf c0 s (s.len:Int) (0:Int))
end
theorem zSx (c0:Span) (s:(Sl FluxRow)) (K:List PA->Prop) (hs:zPm c0 s=true) (hk:K (zOG (zOH c0 s))):vcFun Tryd.prog zRz zx3 122 [.one (.sl s.len 3 (λ i=>zaZ (s.get i))),.one (.fn 110 [] [.fp (zbh c0) 0])] K :=
  zaE (by kernel_rfl) (zCz hs hk rfl)
abbrev zLp:Ctrs:=csm zPl (λ _ _=>[]) (λ _=>false)
def zrt:Ann:=⟨19,[(0,zK [0,1] []),(1,zK [0,1,7,8] []),(2,zK [0,1,7,8,9] []),(3,zK [0,1,5,7,8] []),(4,zK [0,1,5,7,8,16] []),(5,zK [4] []),(6,zK [0,1,7,8] []),(7,zK [4] [])],
 [(2,zK [0,1,7,8] [])],
 [(5,zK [0,1,5,7,8,16] [])],
 [],[]⟩
abbrev zPn:=Int
abbrev zCA (r:zPn):List PA:=[.one (.int .i64 r)]
@[irreducible] def z122a:=ptF Tryd.prog zLp zrt Tryd.f122
def zug (c0:Span) (sv0:(Sl FluxRow)) (za7:Int) (zaq:Int) (zb5:Nat->List PV):St:=⟨[(0,zP (.sl sv0.len 3 zb5)),(1,zP (.fn 111 [] [.fp (zbh c0) 0])),(7,zI za7),(8,zI zaq)],[],[]⟩
abbrev zru (K:List PA->Prop) (c0:Span) (X:St->Prop) (P:(Sl FluxRow)->Int->Int->Bool) (S:(Sl FluxRow)->Int->Int->Int):Prop:=∀ ⦃sv0:(Sl FluxRow)⦄ ⦃za7:Int⦄ ⦃zaq:Int⦄ ⦃zb5:Nat->List PV⦄,P sv0 za7 zaq=true->K (zCA (S sv0 za7 zaq))->zb5=zg zaZ sv0->X (zug c0 sv0 za7 zaq zb5)
section
variable {K:List PA->Prop}{c0:Span}{s:(Sl FluxRow)}{sv0:(Sl FluxRow)}{za7:Int}{zaq:Int}{zb5:Nat->List PV}{X0:St->Prop}{P0:(Sl FluxRow)->Int->Int->Bool}{S0:(Sl FluxRow)->Int->Int->Int}{sv1:(Sl FluxRow)}{iv1:Int}{zdq:Int}{zdp:Int}{zbY:Bool}{zgi:Nat->List PV}
def zpz (S0:(Sl FluxRow)->Int->Int->Int) (c0:Span) (sv1:(Sl FluxRow)) (iv1:Int) (zdq:Int) (zdp:Int) (zbY:Bool):Int :=
  (cond zbY
 iv1
 (S0 sv1 zdq (w64 (zdp+(1:Int)))))
def zpA (P0:(Sl FluxRow)->Int->Int->Bool) (c0:Span) (sv1:(Sl FluxRow)) (iv1:Int) (zdq:Int) (zdp:Int) (zbY:Bool):Bool :=
  (cond zbY
 true
 (P0 sv1 zdq (w64 (zdp+(1:Int)))))
theorem zx6 (hX0:zru K c0 X0 P0 S0) (hs:zpA P0 c0 sv1 iv1 zdq zdp zbY=true) (hk:K (zCA (zpz S0 c0 sv1 iv1 zdq zdp zbY))) (zlf:zgi=zg zaZ sv1):z122a K [1,0,1,0,0,1,1,0,0,1,1] [X0] ⟨[(0,zP (.sl sv1.len 3 zgi)),(1,zP (.fn 111 [] [.fp (zbh c0) 0])),(5,zI iv1),(7,zI zdq),(8,zI zdp),(16,zB zbY)],[],[]⟩:=by subst zlf;exact zaE (by kernel_rfl) (zc hs hk (λ hs hk=>hk) (λ hs hk=>(hX0 hs hk rfl)))
def zpB (c0:Span) (S0:(Sl FluxRow)->Int->Int->Int) (sv0:(Sl FluxRow)) (za7:Int) (zaq:Int):Int :=
  (cond (decide (zaq < za7))
 (zpz S0 c0 sv0 zaq za7 zaq (zOF c0 (sv0.get zaq.toNat)))
 (-1:Int))
def zpC (c0:Span) (P0:(Sl FluxRow)->Int->Int->Bool) (sv0:(Sl FluxRow)) (za7:Int) (zaq:Int):Bool :=
  (cond (decide (zaq < za7))
 (decide ((0<=zaq/\zaq < (sv0.len:Int))) &&
 (zpA P0 c0 sv0 zaq za7 zaq (zOF c0 (sv0.get zaq.toNat))))
 true)
def zpD (c0:Span):Nat->(Sl FluxRow)->Int->Int->Int:=lpO (λ _ _ _=>default) (zpB c0)
def zpE (c0:Span):Nat->(Sl FluxRow)->Int->Int->Bool:=lpO (λ _ _ _=>false) (zpC c0)
def zpF (c0:Span) (sv0:(Sl FluxRow)) (za7:Int) (zaq:Int):Int:=zpD c0 Fuel sv0 za7 zaq
def zpG (c0:Span) (sv0:(Sl FluxRow)) (za7:Int) (zaq:Int):Bool:=zpE c0 Fuel sv0 za7 zaq
theorem zx7 (hs:zpG c0 sv0 za7 zaq=true) (hk:K (zCA (zpF c0 sv0 za7 zaq))) (zex:zb5=zg zaZ sv0):z122a K [1,0,1,0] [] (zug c0 sv0 za7 zaq zb5) :=
  zl (λ X=>z122a K [1,0,1,0,0] [X]) (by kernel_rfl) λ X0 hX =>
  (show ∀ k, zru K c0 X0 (zpE c0 k) (zpD c0 k) from zgd _ _ (zpC c0) (zpB c0) (zru K c0 X0)
 (by intro _ _ _ _ hs;exact absurd hs dqk)
 (by intro P0 S0 hX0 sv0 za7 zaq zb5 hs hk zex;subst zex;exact hX _ (zaE (by kernel_rfl) (zc hs hk (λ hs hk=>(zaJ hs λ hc hs=>And.intro hc (zx6 hX0 hs hk rfl))) (λ hs hk=>hk))))) _ hs hk zex
def zCB (c0:Span) (s:(Sl FluxRow)):Int :=
  (zpF c0 s (s.len:Int) (0:Int))
def zGd (c0:Span) (s:(Sl FluxRow)):Bool :=
  (zpG c0 s (s.len:Int) (0:Int))
end
theorem zPo (c0:Span) (s:(Sl FluxRow)) (K:List PA->Prop) (hs:zGd c0 s=true) (hk:K (zCA (zCB c0 s))):vcFun Tryd.prog zLp zrt 122 [.one (.sl s.len 3 (λ i=>zaZ (s.get i))),.one (.fn 111 [] [.fp (zbh c0) 0])] K :=
  zaE (by kernel_rfl) (zx7 hs hk rfl)
def zx8 : List PA → COut
  | [.one (.sl zbq zcO zbr),.one (.fn 110 [] [.fp [.int .i64 c0_Low,.int .i64 c0_High] 0])]=>.det (IsE zaZ 3 zcO zbr/\zPm (⟨c0_Low,c0_High⟩:Span) (⟨zbq,zcQ zbr⟩:(Sl FluxRow))=true) [.one (.int .i64 (zOH (⟨c0_Low,c0_High⟩:Span) (⟨zbq,zcQ zbr⟩:(Sl FluxRow))))]
  | [.one (.sl zbq zcO zbr),.one (.fn 111 [] [.fp [.int .i64 c0_Low,.int .i64 c0_High] 0])]=>.det (IsE zaZ 3 zcO zbr/\zGd (⟨c0_Low,c0_High⟩:Span) (⟨zbq,zcQ zbr⟩:(Sl FluxRow))=true) [.one (.int .i64 (zCB (⟨c0_Low,c0_High⟩:Span) (⟨zbq,zcQ zbr⟩:(Sl FluxRow))))]
  | _=>.no
theorem zGe:zac Tryd.prog 122:=⟨_,rfl,rfl,by kernel_rfl⟩
theorem zPp:Ok Tryd.prog 122 zx8:=zau zLo zGe λ args K h=>by
  unfold zx8 at h
  split at h
  · rename_i zbq zcO zbr c0_Low c0_High
    obtain⟨⟨⟨rfl,zb6,rfl⟩,hs⟩,hk⟩:=h
    try rw[zbS zb6] at hs
    try rw[zbS zb6] at hk
    exact⟨(λ _ _=>[]),(λ _=>false),zx3,zSx (⟨c0_Low,c0_High⟩:Span) (⟨zbq,zb6⟩:(Sl FluxRow)) K hs hk⟩
  · rename_i zbq zcO zbr c0_Low c0_High
    obtain⟨⟨⟨rfl,zb6,rfl⟩,hs⟩,hk⟩:=h
    try rw[zbS zb6] at hs
    try rw[zbS zb6] at hk
    exact⟨(λ _ _=>[]),(λ _=>false),zrt,zPo (⟨c0_Low,c0_High⟩:Span) (⟨zbq,zb6⟩:(Sl FluxRow)) K hs hk⟩
  · exact h.elim
abbrev zPq:Tabs:=(Tabs.nil.addF 122 zx8)
theorem zLq:TabsOk Tryd.prog zPq:=(TabsOk.nil.addF zPp)
abbrev zSy:Ctrs:=csm zPq (λ _ _=>[]) (λ _=>false)
def zD5:Ann:=⟨14,[(0,zK [0,1] []),(1,zK [0,5] []),(2,zK [0,5,10] []),(3,zK [4] []),(4,zK [4] [])],
 [],
 [],
 [],[]⟩
abbrev zSz:=Int
abbrev e109 (r:zSz):List PA:=[.one (.int .i64 r)]
section
variable {K:List PA->Prop}{c0:Span}{rows:(Sl FluxRow)}
def zOI (c0:Span) (rows:(Sl FluxRow)):Int :=
  (cond (decide ((zOH c0 rows) >= (0:Int)))
 (zOH c0 rows)
 (rows.len:Int))
def zPr (c0:Span) (rows:(Sl FluxRow)):Bool :=
  (decide ((zPm c0 rows=true)) &&
 true)
end
theorem zSA (c0:Span) (rows:(Sl FluxRow)) (K:List PA->Prop) (hs:zPr c0 rows=true) (hk:K (e109 (zOI c0 rows))):vcFun Tryd.prog zSy zD5 109 [.one (.sl rows.len 3 (λ i=>zaZ (rows.get i))),.one (.fn 110 [] [.fp (zbh c0) 0])] K :=
  zaE (by kernel_rfl) (zaJ hs λ hc hs=>And.intro (And.intro (zE zaZ 3 rows.get) hc) (zt hk (λ hk=>hk) (λ hk=>hk)))
abbrev zPs:Ctrs:=csm zPq (λ _ _=>[]) (λ _=>false)
def zx9:Ann:=⟨14,[(0,zK [0,1] []),(1,zK [0,5] []),(2,zK [0,5,10] []),(3,zK [4] []),(4,zK [4] [])],
 [],
 [],
 [],[]⟩
abbrev zPt:=Int
abbrev zPu (r:zPt):List PA:=[.one (.int .i64 r)]
section
variable {K:List PA->Prop}{c0:Span}{rows:(Sl FluxRow)}
def zCC (c0:Span) (rows:(Sl FluxRow)):Int :=
  (cond (decide ((zCB c0 rows) >= (0:Int)))
 (zCB c0 rows)
 (rows.len:Int))
def zGf (c0:Span) (rows:(Sl FluxRow)):Bool :=
  (decide ((zGd c0 rows=true)) &&
 true)
end
theorem zPv (c0:Span) (rows:(Sl FluxRow)) (K:List PA->Prop) (hs:zGf c0 rows=true) (hk:K (zPu (zCC c0 rows))):vcFun Tryd.prog zPs zx9 109 [.one (.sl rows.len 3 (λ i=>zaZ (rows.get i))),.one (.fn 111 [] [.fp (zbh c0) 0])] K :=
  zaE (by kernel_rfl) (zaJ hs λ hc hs=>And.intro (And.intro (zE zaZ 3 rows.get) hc) (zt hk (λ hk=>hk) (λ hk=>hk)))
def zya : List PA → COut
  | [.one (.sl zbq zcO zbr),.one (.fn 110 [] [.fp [.int .i64 c0_Low,.int .i64 c0_High] 0])]=>.det (IsE zaZ 3 zcO zbr/\zPr (⟨c0_Low,c0_High⟩:Span) (⟨zbq,zcQ zbr⟩:(Sl FluxRow))=true) [.one (.int .i64 (zOI (⟨c0_Low,c0_High⟩:Span) (⟨zbq,zcQ zbr⟩:(Sl FluxRow))))]
  | [.one (.sl zbq zcO zbr),.one (.fn 111 [] [.fp [.int .i64 c0_Low,.int .i64 c0_High] 0])]=>.det (IsE zaZ 3 zcO zbr/\zGf (⟨c0_Low,c0_High⟩:Span) (⟨zbq,zcQ zbr⟩:(Sl FluxRow))=true) [.one (.int .i64 (zCC (⟨c0_Low,c0_High⟩:Span) (⟨zbq,zcQ zbr⟩:(Sl FluxRow))))]
  | _=>.no
theorem zGg:zac Tryd.prog 109:=⟨_,rfl,rfl,by kernel_rfl⟩
theorem zPw:Ok Tryd.prog 109 zya:=zau zLq zGg λ args K h=>by
  unfold zya at h
  split at h
  · rename_i zbq zcO zbr c0_Low c0_High
    obtain⟨⟨⟨rfl,zb6,rfl⟩,hs⟩,hk⟩:=h
    try rw[zbS zb6] at hs
    try rw[zbS zb6] at hk
    exact⟨(λ _ _=>[]),(λ _=>false),zD5,zSA (⟨c0_Low,c0_High⟩:Span) (⟨zbq,zb6⟩:(Sl FluxRow)) K hs hk⟩
  · rename_i zbq zcO zbr c0_Low c0_High
    obtain⟨⟨⟨rfl,zb6,rfl⟩,hs⟩,hk⟩:=h
    try rw[zbS zb6] at hs
    try rw[zbS zb6] at hk
    exact⟨(λ _ _=>[]),(λ _=>false),zx9,zPv (⟨c0_Low,c0_High⟩:Span) (⟨zbq,zb6⟩:(Sl FluxRow)) K hs hk⟩
  · exact h.elim
abbrev T79:Tabs:=(Tabs.nil.addF 109 zya)
theorem zPx:TabsOk Tryd.prog T79:=(TabsOk.nil.addF zPw)
abbrev G79:Ctrs:=csm T79 (λ _ _=>[]) (λ _=>false)
def zGh:Ann:=⟨46,[(0,zK [0,3,4] [3,4]),(1,zK [0,3,4,5] [3,4,5]),(2,zK [0,3,4,5,6] [3,4,5]),(3,zK [0,3,4,5,6,18] [3,4,5]),(4,zK [0,3,4,5] [3,4,5]),(5,zK [0,3,4,5,29] [3,4,5]),(6,zK [4] [4]),(7,zK [0,4,5,7] [4,5]),(8,zK [0,4,5,7,37] [4,5]),(9,zK [4,5] [4,5]),(10,zK [4] [4])],
 [],
 [(3,zK [0,3,4,5,6] [3,4,5]),(5,zK [0,3,4,5] [3,4,5]),(7,zK [0,3,4,5] [3,4,5]),(8,zK [0,4,5,7] [4,5])],
 [],[]⟩
abbrev R79:=Span
abbrev e79 (r:R79):List PA:=[.agg [.int .i64 r.Low,.int .i64 r.High]]
@[irreducible] def z79:=ptF Tryd.prog G79 zGh Tryd.f79
section
variable {K:List PA->Prop}{l_a0:(Sl FluxRow)}{t:Span}{iv0:Int}{zbk:Int}{iv3:Int}
def zyb (l_a0:(Sl FluxRow)) (zbk:Int) (iv3:Int):Span :=
  (cond (decide (iv3 < (l_a0.len : Int)))
 (⟨(l_a0.get iv3.toNat).Rate.Low,zbk⟩:Span)
 (⟨(0:Int),zbk⟩:Span))
def zyc (l_a0:(Sl FluxRow)) (zbk:Int) (iv3:Int):Bool :=
  (cond (decide (iv3 < (l_a0.len : Int)))
 (decide ((0<=iv3/\iv3 < (l_a0.len:Int))) &&
 true)
 true)
theorem zGi (hs:zyc l_a0 zbk iv3=true) (hk:K (e79 (zyb l_a0 zbk iv3))):z79 K [1,1,1,1,0,1] [] ⟨[(0,zS zaZ 3 l_a0),(4,zp 4 0),(5,zp 5 0),(7,zI iv3)],[(4,.box 32 (zm (zbh (⟨(0:Int),(0:Int)⟩:Span)))),(5,.box 32 (zm (zbh (⟨(0:Int),zbk⟩:Span))))],[]⟩:=zaE (by kernel_rfl) (zc hs hk (λ hs hk=>(zaJ hs λ hc hs=>And.intro hc hk)) (λ hs hk=>hk))
def zyd (l_a0:(Sl FluxRow)) (t:Span) (zbk:Int):Span :=
  (zyb l_a0 zbk (zCC t l_a0))
def zye (l_a0:(Sl FluxRow)) (t:Span) (zbk:Int):Bool :=
  (decide ((zGf t l_a0=true)) &&
 (zyc l_a0 zbk (zCC t l_a0)))
theorem zGj (hs:zye l_a0 t zbk=true) (hk:K (e79 (zyd l_a0 t zbk))):z79 K [1,1,1,1] [] ⟨[(0,zS zaZ 3 l_a0),(3,zp 3 0),(4,zp 4 0),(5,zp 5 0)],[(3,.fbox (zbh t)),(4,.box 32 (zm (zbh (⟨(0:Int),(0:Int)⟩:Span)))),(5,.box 32 (zm (zbh (⟨(0:Int),zbk⟩:Span))))],[]⟩:=zaE (by kernel_rfl) (zaJ hs λ hc hs=>And.intro (And.intro (zE zaZ 3 l_a0.get) hc) (zGi hs hk))
def zrv (l_a0:(Sl FluxRow)) (t:Span) (zbk:Int):Span :=
  (cond (t.High == (-1:Int))
 (⟨(0:Int),zbk⟩:Span)
 (zyd l_a0 t zbk))
def zrx (l_a0:(Sl FluxRow)) (t:Span) (zbk:Int):Bool :=
  (cond (t.High == (-1:Int))
 true
 (zye l_a0 t zbk))
theorem zyf (hs:zrx l_a0 t zbk=true) (hk:K (e79 (zrv l_a0 t zbk))):z79 K [1,1,1] [] ⟨[(0,zS zaZ 3 l_a0),(3,zp 3 0),(4,zp 4 0),(5,zp 5 0)],[(3,.fbox (zbh t)),(4,.box 32 (zm (zbh (⟨(0:Int),(0:Int)⟩:Span)))),(5,.box 32 (zm (zbh (⟨(0:Int),zbk⟩:Span))))],[]⟩:=zaE (by kernel_rfl) (zc hs hk (λ hs hk=>hk) (λ hs hk=>(zGj hs hk)))
def zyg (l_a0:(Sl FluxRow)) (t:Span) (iv0:Int):Span :=
  (cond (decide (iv0 > (0:Int)))
 (zrv l_a0 t ((l_a0.get ((w64 (iv0 - (1:Int))).toNat)).Rate.High))
 (zrv l_a0 t ((l_a0.get 0).Rate.High)))
def zyh (l_a0:(Sl FluxRow)) (t:Span) (iv0:Int):Bool :=
  (cond (decide (iv0 > (0:Int)))
 (decide ((0<=(w64 (iv0 - (1:Int)))/\(w64 (iv0 - (1:Int))) < (l_a0.len:Int))) &&
 (zrx l_a0 t ((l_a0.get ((w64 (iv0 - (1:Int))).toNat)).Rate.High)))
 (zrx l_a0 t ((l_a0.get 0).Rate.High)))
theorem zGk (hs:zyh l_a0 t iv0=true) (hk:K (e79 (zyg l_a0 t iv0))):z79 K [1,1,0,1] [] ⟨[(0,zS zaZ 3 l_a0),(3,zp 3 0),(4,zp 4 0),(5,zp 5 0),(6,zI iv0)],[(3,.fbox (zbh t)),(4,.box 32 (zm (zbh (⟨(0:Int),(0:Int)⟩:Span)))),(5,.box 32 (zm (zbh (⟨(0:Int),(l_a0.get 0).Rate.High⟩:Span))))],[]⟩:=zaE (by kernel_rfl) (zc hs hk (λ hs hk=>(zaJ hs λ hc hs=>And.intro hc (zyf hs hk))) (λ hs hk=>(zyf hs hk)))
def s79 (l_a0:(Sl FluxRow)) (t:Span):Span :=
  (zyg l_a0 t (zOI t l_a0))
def p79 (l_a0:(Sl FluxRow)) (t:Span):Bool :=
  (decide ((0<=(0:Int)/\(0:Int) < (l_a0.len:Int))) &&
 (decide ((zPr t l_a0=true)) &&
 (zyh l_a0 t (zOI t l_a0))))
end
theorem q79 (l_a0:(Sl FluxRow)) (t:Span) (K:List PA->Prop) (hs:p79 l_a0 t=true) (hk:K (e79 (s79 l_a0 t))):vcFun Tryd.prog G79 zGh 79 [.one (.sl l_a0.len 3 (λ i=>zaZ (l_a0.get i))),.agg (zbh t)] K :=
  zaE (by kernel_rfl) (zaJ hs λ hc hs=>And.intro hc (zaJ hs λ hc hs=>And.intro (And.intro (zE zaZ 3 l_a0.get) hc) (zGk hs hk)))
def zCD : List PA → COut
  | [.one (.sl zbq zcO zbr),.agg [.int .i64 zdl,.int .i64 zcz]]=>.det (IsE zaZ 3 zcO zbr/\p79 (⟨zbq,zcQ zbr⟩:(Sl FluxRow)) (⟨zdl,zcz⟩:Span)=true) [.agg [.int .i64 ((s79 (⟨zbq,zcQ zbr⟩:(Sl FluxRow)) (⟨zdl,zcz⟩:Span)).Low),.int .i64 ((s79 (⟨zbq,zcQ zbr⟩:(Sl FluxRow)) (⟨zdl,zcz⟩:Span)).High)]]
  | _=>.no
theorem zLr:zac Tryd.prog 79:=⟨_,rfl,rfl,by kernel_rfl⟩
theorem zRA:Ok Tryd.prog 79 zCD:=zau zPx zLr λ args K h=>by
  unfold zCD at h
  split at h
  · rename_i zbq zcO zbr zdl zcz
    obtain⟨⟨⟨rfl,zb6,rfl⟩,hs⟩,hk⟩:=h
    try rw[zbS zb6] at hs
    try rw[zbS zb6] at hk
    exact⟨(λ _ _=>[]),(λ _=>false),zGh,q79 (⟨zbq,zb6⟩:(Sl FluxRow)) (⟨zdl,zcz⟩:Span) K hs hk⟩
  · exact h.elim
abbrev zRB:Tabs:=Tabs.nil
theorem zLs:TabsOk Tryd.prog zRB:=TabsOk.nil
abbrev zSB:Ctrs:=csm zRB (λ _ _=>[]) (λ _=>false)
def zD6:Ann:=⟨9,[(0,zK [1,2] [2]),(1,zK [3] [])],
 [],
 [],
 [],[]⟩
abbrev zSC:=Bool
abbrev zSD (r:zSC):List PA:=[.one (.bool r)]
section
variable {K:List PA->Prop}{c0:Int}{r_a0:RangeRow}
def zOJ (c0:Int) (r_a0:RangeRow):Bool :=
  (decide (r_a0.Range.High >= c0))
end
theorem zSE (c0:Int) (r_a0:RangeRow) (K:List PA->Prop) (hk:K (zSD (zOJ c0 r_a0))):vcFun Tryd.prog zSB zD6 113 [.agg (zaz r_a0),.one (.fp (zaL c0) 0)] K :=
  zaE (by kernel_rfl) hk
def zyi : List PA → COut
  | [.agg [.int .i64 zaM,.int .i64 zbn,.int .i64 zbc],.one (.fp [.int .i64 c0] 0)]=>.tot [.one (.bool (zOJ c0 (⟨zaM,(⟨zbn,zbc⟩:Span)⟩:RangeRow)))]
  | _=>.no
theorem zGl:zac Tryd.prog 113:=⟨_,rfl,rfl,by kernel_rfl⟩
theorem zPy:Ok Tryd.prog 113 zyi:=zau zLs zGl λ args K h=>by
  unfold zyi at h
  split at h
  · rename_i zaM zbn zbc c0
    have hk:=h
    exact⟨(λ _ _=>[]),(λ _=>false),zD6,zSE c0 (⟨zaM,(⟨zbn,zbc⟩:Span)⟩:RangeRow) K hk⟩
  · exact h.elim
abbrev zRC:Tabs:=Tabs.nil
theorem zLt:TabsOk Tryd.prog zRC:=TabsOk.nil
abbrev zSF:Ctrs:=csm zRC (λ _ _=>[]) (λ _=>false)
def zD7:Ann:=⟨9,[(0,zK [1,2] [2]),(1,zK [3] [])],
 [],
 [],
 [],[]⟩
abbrev zSG:=Bool
abbrev zSH (r:zSG):List PA:=[.one (.bool r)]
section
variable {K:List PA->Prop}{c0:Int}{r_a0:RangeRow}
def zOK (c0:Int) (r_a0:RangeRow):Bool :=
  (decide (r_a0.Range.Low >= c0))
end
theorem zSI (c0:Int) (r_a0:RangeRow) (K:List PA->Prop) (hk:K (zSH (zOK c0 r_a0))):vcFun Tryd.prog zSF zD7 114 [.agg (zaz r_a0),.one (.fp (zaL c0) 0)] K :=
  zaE (by kernel_rfl) hk
def zyj : List PA → COut
  | [.agg [.int .i64 zaM,.int .i64 zbn,.int .i64 zbc],.one (.fp [.int .i64 c0] 0)]=>.tot [.one (.bool (zOK c0 (⟨zaM,(⟨zbn,zbc⟩:Span)⟩:RangeRow)))]
  | _=>.no
theorem zGm:zac Tryd.prog 114:=⟨_,rfl,rfl,by kernel_rfl⟩
theorem zPz:Ok Tryd.prog 114 zyj:=zau zLt zGm λ args K h=>by
  unfold zyj at h
  split at h
  · rename_i zaM zbn zbc c0
    have hk:=h
    exact⟨(λ _ _=>[]),(λ _=>false),zD7,zSI c0 (⟨zaM,(⟨zbn,zbc⟩:Span)⟩:RangeRow) K hk⟩
  · exact h.elim
abbrev zPA:Tabs:=((Tabs.nil.addF 113 zyi).addF 114 zyj)
theorem zLu:TabsOk Tryd.prog zPA:=((TabsOk.nil.addF zPy).addF zPz)
abbrev zRD:Ctrs:=csm zPA (λ _ _=>[]) (λ _=>false)
def zyk:Ann:=⟨19,[(0,zK [0,1] []),(1,zK [0,1,7,8] []),(2,zK [0,1,7,8,9] []),(3,zK [0,1,5,7,8] []),(4,zK [0,1,5,7,8,16] []),(5,zK [4] []),(6,zK [0,1,7,8] []),(7,zK [4] [])],
 [(2,zK [0,1,7,8] [])],
 [(5,zK [0,1,5,7,8,16] [])],
 [],[]⟩
abbrev zSJ:=Int
abbrev zOL (r:zSJ):List PA:=[.one (.int .i64 r)]
@[irreducible] def z123:=ptF Tryd.prog zRD zyk Tryd.f123
def zyl (c0:Int) (sv0:(Sl RangeRow)) (za7:Int) (zaq:Int) (zb5:Nat->List PV):St:=⟨[(0,zP (.sl sv0.len 3 zb5)),(1,zP (.fn 113 [] [.fp (zaL c0) 0])),(7,zI za7),(8,zI zaq)],[],[]⟩
abbrev zym (K:List PA->Prop) (c0:Int) (X:St->Prop) (P:(Sl RangeRow)->Int->Int->Bool) (S:(Sl RangeRow)->Int->Int->Int):Prop:=∀ ⦃sv0:(Sl RangeRow)⦄ ⦃za7:Int⦄ ⦃zaq:Int⦄ ⦃zb5:Nat->List PV⦄,P sv0 za7 zaq=true->K (zOL (S sv0 za7 zaq))->zb5=zg zaz sv0->X (zyl c0 sv0 za7 zaq zb5)
section
variable {K:List PA->Prop}{c0:Int}{s:(Sl RangeRow)}{sv0:(Sl RangeRow)}{za7:Int}{zaq:Int}{zb5:Nat->List PV}{X0:St->Prop}{P0:(Sl RangeRow)->Int->Int->Bool}{S0:(Sl RangeRow)->Int->Int->Int}{sv1:(Sl RangeRow)}{iv1:Int}{zdq:Int}{zdp:Int}{zbY:Bool}{zgi:Nat->List PV}
def zuh (S0:(Sl RangeRow)->Int->Int->Int) (c0:Int) (sv1:(Sl RangeRow)) (iv1:Int) (zdq:Int) (zdp:Int) (zbY:Bool):Int :=
  (cond zbY
 iv1
 (S0 sv1 zdq (w64 (zdp+(1:Int)))))
def zui (P0:(Sl RangeRow)->Int->Int->Bool) (c0:Int) (sv1:(Sl RangeRow)) (iv1:Int) (zdq:Int) (zdp:Int) (zbY:Bool):Bool :=
  (cond zbY
 true
 (P0 sv1 zdq (w64 (zdp+(1:Int)))))
theorem zCE (hX0:zym K c0 X0 P0 S0) (hs:zui P0 c0 sv1 iv1 zdq zdp zbY=true) (hk:K (zOL (zuh S0 c0 sv1 iv1 zdq zdp zbY))) (zlf:zgi=zg zaz sv1):z123 K [1,0,1,0,0,1,1,0,0,1,1] [X0] ⟨[(0,zP (.sl sv1.len 3 zgi)),(1,zP (.fn 113 [] [.fp (zaL c0) 0])),(5,zI iv1),(7,zI zdq),(8,zI zdp),(16,zB zbY)],[],[]⟩:=by subst zlf;exact zaE (by kernel_rfl) (zc hs hk (λ hs hk=>hk) (λ hs hk=>(hX0 hs hk rfl)))
def zuj (c0:Int) (S0:(Sl RangeRow)->Int->Int->Int) (sv0:(Sl RangeRow)) (za7:Int) (zaq:Int):Int :=
  (cond (decide (zaq < za7))
 (zuh S0 c0 sv0 zaq za7 zaq (zOJ c0 (sv0.get zaq.toNat)))
 (-1:Int))
def zuk (c0:Int) (P0:(Sl RangeRow)->Int->Int->Bool) (sv0:(Sl RangeRow)) (za7:Int) (zaq:Int):Bool :=
  (cond (decide (zaq < za7))
 (decide ((0<=zaq/\zaq < (sv0.len:Int))) &&
 (zui P0 c0 sv0 zaq za7 zaq (zOJ c0 (sv0.get zaq.toNat))))
 true)
def zul (c0:Int):Nat->(Sl RangeRow)->Int->Int->Int:=lpO (λ _ _ _=>default) (zuj c0)
def zum (c0:Int):Nat->(Sl RangeRow)->Int->Int->Bool:=lpO (λ _ _ _=>false) (zuk c0)
def zun (c0:Int) (sv0:(Sl RangeRow)) (za7:Int) (zaq:Int):Int:=zul c0 Fuel sv0 za7 zaq
def zuo (c0:Int) (sv0:(Sl RangeRow)) (za7:Int) (zaq:Int):Bool:=zum c0 Fuel sv0 za7 zaq
theorem zCF (hs:zuo c0 sv0 za7 zaq=true) (hk:K (zOL (zun c0 sv0 za7 zaq))) (zex:zb5=zg zaz sv0):z123 K [1,0,1,0] [] (zyl c0 sv0 za7 zaq zb5) :=
  zl (λ X=>z123 K [1,0,1,0,0] [X]) (by kernel_rfl) λ X0 hX =>
  (show ∀ k, zym K c0 X0 (zum c0 k) (zul c0 k) from zgd _ _ (zuk c0) (zuj c0) (zym K c0 X0)
 (by intro _ _ _ _ hs;exact absurd hs dqk)
 (by intro P0 S0 hX0 sv0 za7 zaq zb5 hs hk zex;subst zex;exact hX _ (zaE (by kernel_rfl) (zc hs hk (λ hs hk=>(zaJ hs λ hc hs=>And.intro hc (zCE hX0 hs hk rfl))) (λ hs hk=>hk))))) _ hs hk zex
def zOM (c0:Int) (s:(Sl RangeRow)):Int :=
  (zun c0 s (s.len:Int) (0:Int))
def zPB (c0:Int) (s:(Sl RangeRow)):Bool :=
  (zuo c0 s (s.len:Int) (0:Int))
end
theorem zSK (c0:Int) (s:(Sl RangeRow)) (K:List PA->Prop) (hs:zPB c0 s=true) (hk:K (zOL (zOM c0 s))):vcFun Tryd.prog zRD zyk 123 [.one (.sl s.len 3 (λ i=>zaz (s.get i))),.one (.fn 113 [] [.fp (zaL c0) 0])] K :=
  zaE (by kernel_rfl) (zCF hs hk rfl)
abbrev zLv:Ctrs:=csm zPA (λ _ _=>[]) (λ _=>false)
def zry:Ann:=⟨19,[(0,zK [0,1] []),(1,zK [0,1,7,8] []),(2,zK [0,1,7,8,9] []),(3,zK [0,1,5,7,8] []),(4,zK [0,1,5,7,8,16] []),(5,zK [4] []),(6,zK [0,1,7,8] []),(7,zK [4] [])],
 [(2,zK [0,1,7,8] [])],
 [(5,zK [0,1,5,7,8,16] [])],
 [],[]⟩
abbrev zPC:=Int
abbrev zCG (r:zPC):List PA:=[.one (.int .i64 r)]
@[irreducible] def z123a:=ptF Tryd.prog zLv zry Tryd.f123
def zup (c0:Int) (sv0:(Sl RangeRow)) (za7:Int) (zaq:Int) (zb5:Nat->List PV):St:=⟨[(0,zP (.sl sv0.len 3 zb5)),(1,zP (.fn 114 [] [.fp (zaL c0) 0])),(7,zI za7),(8,zI zaq)],[],[]⟩
abbrev zrz (K:List PA->Prop) (c0:Int) (X:St->Prop) (P:(Sl RangeRow)->Int->Int->Bool) (S:(Sl RangeRow)->Int->Int->Int):Prop:=∀ ⦃sv0:(Sl RangeRow)⦄ ⦃za7:Int⦄ ⦃zaq:Int⦄ ⦃zb5:Nat->List PV⦄,P sv0 za7 zaq=true->K (zCG (S sv0 za7 zaq))->zb5=zg zaz sv0->X (zup c0 sv0 za7 zaq zb5)
section
variable {K:List PA->Prop}{c0:Int}{s:(Sl RangeRow)}{sv0:(Sl RangeRow)}{za7:Int}{zaq:Int}{zb5:Nat->List PV}{X0:St->Prop}{P0:(Sl RangeRow)->Int->Int->Bool}{S0:(Sl RangeRow)->Int->Int->Int}{sv1:(Sl RangeRow)}{iv1:Int}{zdq:Int}{zdp:Int}{zbY:Bool}{zgi:Nat->List PV}
def zpH (S0:(Sl RangeRow)->Int->Int->Int) (c0:Int) (sv1:(Sl RangeRow)) (iv1:Int) (zdq:Int) (zdp:Int) (zbY:Bool):Int :=
  (cond zbY
 iv1
 (S0 sv1 zdq (w64 (zdp+(1:Int)))))
def zpI (P0:(Sl RangeRow)->Int->Int->Bool) (c0:Int) (sv1:(Sl RangeRow)) (iv1:Int) (zdq:Int) (zdp:Int) (zbY:Bool):Bool :=
  (cond zbY
 true
 (P0 sv1 zdq (w64 (zdp+(1:Int)))))
theorem zyn (hX0:zrz K c0 X0 P0 S0) (hs:zpI P0 c0 sv1 iv1 zdq zdp zbY=true) (hk:K (zCG (zpH S0 c0 sv1 iv1 zdq zdp zbY))) (zlf:zgi=zg zaz sv1):z123a K [1,0,1,0,0,1,1,0,0,1,1] [X0] ⟨[(0,zP (.sl sv1.len 3 zgi)),(1,zP (.fn 114 [] [.fp (zaL c0) 0])),(5,zI iv1),(7,zI zdq),(8,zI zdp),(16,zB zbY)],[],[]⟩:=by subst zlf;exact zaE (by kernel_rfl) (zc hs hk (λ hs hk=>hk) (λ hs hk=>(hX0 hs hk rfl)))
def zpJ (c0:Int) (S0:(Sl RangeRow)->Int->Int->Int) (sv0:(Sl RangeRow)) (za7:Int) (zaq:Int):Int :=
  (cond (decide (zaq < za7))
 (zpH S0 c0 sv0 zaq za7 zaq (zOK c0 (sv0.get zaq.toNat)))
 (-1:Int))
def zpK (c0:Int) (P0:(Sl RangeRow)->Int->Int->Bool) (sv0:(Sl RangeRow)) (za7:Int) (zaq:Int):Bool :=
  (cond (decide (zaq < za7))
 (decide ((0<=zaq/\zaq < (sv0.len:Int))) &&
 (zpI P0 c0 sv0 zaq za7 zaq (zOK c0 (sv0.get zaq.toNat))))
 true)
def zpL (c0:Int):Nat->(Sl RangeRow)->Int->Int->Int:=lpO (λ _ _ _=>default) (zpJ c0)
def zpM (c0:Int):Nat->(Sl RangeRow)->Int->Int->Bool:=lpO (λ _ _ _=>false) (zpK c0)
def zpN (c0:Int) (sv0:(Sl RangeRow)) (za7:Int) (zaq:Int):Int:=zpL c0 Fuel sv0 za7 zaq
def zpO (c0:Int) (sv0:(Sl RangeRow)) (za7:Int) (zaq:Int):Bool:=zpM c0 Fuel sv0 za7 zaq
theorem zyo (hs:zpO c0 sv0 za7 zaq=true) (hk:K (zCG (zpN c0 sv0 za7 zaq))) (zex:zb5=zg zaz sv0):z123a K [1,0,1,0] [] (zup c0 sv0 za7 zaq zb5) :=
  zl (λ X=>z123a K [1,0,1,0,0] [X]) (by kernel_rfl) λ X0 hX =>
  (show ∀ k, zrz K c0 X0 (zpM c0 k) (zpL c0 k) from zgd _ _ (zpK c0) (zpJ c0) (zrz K c0 X0)
 (by intro _ _ _ _ hs;exact absurd hs dqk)
 (by intro P0 S0 hX0 sv0 za7 zaq zb5 hs hk zex;subst zex;exact hX _ (zaE (by kernel_rfl) (zc hs hk (λ hs hk=>(zaJ hs λ hc hs=>And.intro hc (zyn hX0 hs hk rfl))) (λ hs hk=>hk))))) _ hs hk zex
def zCH (c0:Int) (s:(Sl RangeRow)):Int :=
  (zpN c0 s (s.len:Int) (0:Int))
def zGn (c0:Int) (s:(Sl RangeRow)):Bool :=
  (zpO c0 s (s.len:Int) (0:Int))
end
theorem zPD (c0:Int) (s:(Sl RangeRow)) (K:List PA->Prop) (hs:zGn c0 s=true) (hk:K (zCG (zCH c0 s))):vcFun Tryd.prog zLv zry 123 [.one (.sl s.len 3 (λ i=>zaz (s.get i))),.one (.fn 114 [] [.fp (zaL c0) 0])] K :=
  zaE (by kernel_rfl) (zyo hs hk rfl)
def zyp : List PA → COut
  | [.one (.sl zbq zcO zbr),.one (.fn 113 [] [.fp [.int .i64 c0] 0])]=>.det (IsE zaz 3 zcO zbr/\zPB c0 (⟨zbq,zbB zbr⟩:(Sl RangeRow))=true) [.one (.int .i64 (zOM c0 (⟨zbq,zbB zbr⟩:(Sl RangeRow))))]
  | [.one (.sl zbq zcO zbr),.one (.fn 114 [] [.fp [.int .i64 c0] 0])]=>.det (IsE zaz 3 zcO zbr/\zGn c0 (⟨zbq,zbB zbr⟩:(Sl RangeRow))=true) [.one (.int .i64 (zCH c0 (⟨zbq,zbB zbr⟩:(Sl RangeRow))))]
  | _=>.no
theorem zGo:zac Tryd.prog 123:=⟨_,rfl,rfl,by kernel_rfl⟩
theorem zPE:Ok Tryd.prog 123 zyp:=zau zLu zGo λ args K h=>by
  unfold zyp at h
  split at h
  · rename_i zbq zcO zbr c0
    obtain⟨⟨⟨rfl,zb6,rfl⟩,hs⟩,hk⟩:=h
    try rw[zaQ zb6] at hs
    try rw[zaQ zb6] at hk
    exact⟨(λ _ _=>[]),(λ _=>false),zyk,zSK c0 (⟨zbq,zb6⟩:(Sl RangeRow)) K hs hk⟩
  · rename_i zbq zcO zbr c0
    obtain⟨⟨⟨rfl,zb6,rfl⟩,hs⟩,hk⟩:=h
    try rw[zaQ zb6] at hs
    try rw[zaQ zb6] at hk
    exact⟨(λ _ _=>[]),(λ _=>false),zry,zPD c0 (⟨zbq,zb6⟩:(Sl RangeRow)) K hs hk⟩
  · exact h.elim
abbrev zPF:Tabs:=(Tabs.nil.addF 123 zyp)
theorem zLw:TabsOk Tryd.prog zPF:=(TabsOk.nil.addF zPE)
abbrev zSL:Ctrs:=csm zPF (λ _ _=>[]) (λ _=>false)
def zD8:Ann:=⟨14,[(0,zK [0,1] []),(1,zK [0,5] []),(2,zK [0,5,10] []),(3,zK [4] []),(4,zK [4] [])],
 [],
 [],
 [],[]⟩
abbrev zSM:=Int
abbrev zSN (r:zSM):List PA:=[.one (.int .i64 r)]
section
variable {K:List PA->Prop}{c0:Int}{rows:(Sl RangeRow)}
def zON (c0:Int) (rows:(Sl RangeRow)):Int :=
  (cond (decide ((zOM c0 rows) >= (0:Int)))
 (zOM c0 rows)
 (rows.len:Int))
def zPG (c0:Int) (rows:(Sl RangeRow)):Bool :=
  (decide ((zPB c0 rows=true)) &&
 true)
end
theorem zSO (c0:Int) (rows:(Sl RangeRow)) (K:List PA->Prop) (hs:zPG c0 rows=true) (hk:K (zSN (zON c0 rows))):vcFun Tryd.prog zSL zD8 112 [.one (.sl rows.len 3 (λ i=>zaz (rows.get i))),.one (.fn 113 [] [.fp (zaL c0) 0])] K :=
  zaE (by kernel_rfl) (zaJ hs λ hc hs=>And.intro (And.intro (zE zaz 3 rows.get) hc) (zt hk (λ hk=>hk) (λ hk=>hk)))
abbrev zPH:Ctrs:=csm zPF (λ _ _=>[]) (λ _=>false)
def zyq:Ann:=⟨14,[(0,zK [0,1] []),(1,zK [0,5] []),(2,zK [0,5,10] []),(3,zK [4] []),(4,zK [4] [])],
 [],
 [],
 [],[]⟩
abbrev zPI:=Int
abbrev zPJ (r:zPI):List PA:=[.one (.int .i64 r)]
section
variable {K:List PA->Prop}{c0:Int}{rows:(Sl RangeRow)}
def zCI (c0:Int) (rows:(Sl RangeRow)):Int :=
  (cond (decide ((zCH c0 rows) >= (0:Int)))
 (zCH c0 rows)
 (rows.len:Int))
def zGp (c0:Int) (rows:(Sl RangeRow)):Bool :=
  (decide ((zGn c0 rows=true)) &&
 true)
end
theorem zPK (c0:Int) (rows:(Sl RangeRow)) (K:List PA->Prop) (hs:zGp c0 rows=true) (hk:K (zPJ (zCI c0 rows))):vcFun Tryd.prog zPH zyq 112 [.one (.sl rows.len 3 (λ i=>zaz (rows.get i))),.one (.fn 114 [] [.fp (zaL c0) 0])] K :=
  zaE (by kernel_rfl) (zaJ hs λ hc hs=>And.intro (And.intro (zE zaz 3 rows.get) hc) (zt hk (λ hk=>hk) (λ hk=>hk)))
def zyr : List PA → COut
  | [.one (.sl zbq zcO zbr),.one (.fn 113 [] [.fp [.int .i64 c0] 0])]=>.det (IsE zaz 3 zcO zbr/\zPG c0 (⟨zbq,zbB zbr⟩:(Sl RangeRow))=true) [.one (.int .i64 (zON c0 (⟨zbq,zbB zbr⟩:(Sl RangeRow))))]
  | [.one (.sl zbq zcO zbr),.one (.fn 114 [] [.fp [.int .i64 c0] 0])]=>.det (IsE zaz 3 zcO zbr/\zGp c0 (⟨zbq,zbB zbr⟩:(Sl RangeRow))=true) [.one (.int .i64 (zCI c0 (⟨zbq,zbB zbr⟩:(Sl RangeRow))))]
  | _=>.no
theorem zGq:zac Tryd.prog 112:=⟨_,rfl,rfl,by kernel_rfl⟩
theorem zPL:Ok Tryd.prog 112 zyr:=zau zLw zGq λ args K h=>by
  unfold zyr at h
  split at h
  · rename_i zbq zcO zbr c0
    obtain⟨⟨⟨rfl,zb6,rfl⟩,hs⟩,hk⟩:=h
    try rw[zaQ zb6] at hs
    try rw[zaQ zb6] at hk
    exact⟨(λ _ _=>[]),(λ _=>false),zD8,zSO c0 (⟨zbq,zb6⟩:(Sl RangeRow)) K hs hk⟩
  · rename_i zbq zcO zbr c0
    obtain⟨⟨⟨rfl,zb6,rfl⟩,hs⟩,hk⟩:=h
    try rw[zaQ zb6] at hs
    try rw[zaQ zb6] at hk
    exact⟨(λ _ _=>[]),(λ _=>false),zyq,zPK c0 (⟨zbq,zb6⟩:(Sl RangeRow)) K hs hk⟩
  · exact h.elim
abbrev T80:Tabs:=(Tabs.nil.addF 112 zyr)
theorem zPM:TabsOk Tryd.prog T80:=(TabsOk.nil.addF zPL)
abbrev G80:Ctrs:=csm T80 (λ _ _=>[]) (λ _=>false)
def zGr:Ann:=⟨40,[(0,zK [0,3,4] [3,4]),(1,zK [0,3,4,5] [3,4,5]),(2,zK [0,3,4,5,10] [3,4,5]),(3,zK [4] [4]),(4,zK [0,3,4,5,6] [3,4,5]),(5,zK [0,3,4,5,6,16] [3,4,5]),(6,zK [0,3,4,5] [3,4,5]),(7,zK [0,3,4,5] [3,4,5]),(8,zK [0,4,5,7] [4,5]),(9,zK [0,4,5,7,32] [4,5]),(10,zK [4,5] [4,5]),(11,zK [4] [4])],
 [],
 [(4,zK [0,3,4,5] [3,4,5]),(5,zK [0,3,4,5,6] [3,4,5]),(7,zK [0,3,4,5] [3,4,5]),(9,zK [0,4,5,7] [4,5])],
 [],[]⟩
abbrev R80:=Span
abbrev e80 (r:R80):List PA:=[.agg [.int .i64 r.Low,.int .i64 r.High]]
@[irreducible] def z80:=ptF Tryd.prog G80 zGr Tryd.f80
section
variable {K:List PA->Prop}{t:(Sl RangeRow)}{opacity:Int}{iv1:Int}{zdA:Int}{iv3:Int}
def zys (t:(Sl RangeRow)) (zdA:Int) (iv3:Int):Span :=
  (cond (decide (iv3 < (t.len : Int)))
 (⟨zdA,(t.get iv3.toNat).Energy⟩:Span)
 (⟨zdA,(-1:Int)⟩:Span))
def zyt (t:(Sl RangeRow)) (zdA:Int) (iv3:Int):Bool :=
  (cond (decide (iv3 < (t.len : Int)))
 (decide ((0<=iv3/\iv3 < (t.len:Int))) &&
 true)
 true)
theorem zGs (hs:zyt t zdA iv3=true) (hk:K (e80 (zys t zdA iv3))):z80 K [1,1,1,1,1,0,1] [] ⟨[(0,zS zaz 3 t),(4,zp 4 0),(5,zp 5 0),(7,zI iv3)],[(4,.box 32 (zm (zbh (⟨(0:Int),(0:Int)⟩:Span)))),(5,.box 32 (zm (zbh (⟨zdA,(-1:Int)⟩:Span))))],[]⟩:=zaE (by kernel_rfl) (zc hs hk (λ hs hk=>(zaJ hs λ hc hs=>And.intro hc hk)) (λ hs hk=>hk))
def zrA (t:(Sl RangeRow)) (opacity:Int) (zdA:Int):Span :=
  (zys t zdA (zCI opacity t))
def zrB (t:(Sl RangeRow)) (opacity:Int) (zdA:Int):Bool :=
  (decide ((zGp opacity t=true)) &&
 (zyt t zdA (zCI opacity t)))
theorem zyu (hs:zrB t opacity zdA=true) (hk:K (e80 (zrA t opacity zdA))):z80 K [1,1,1,1] [] ⟨[(0,zS zaz 3 t),(3,zp 3 0),(4,zp 4 0),(5,zp 5 0)],[(3,.fbox [.int .i64 opacity]),(4,.box 32 (zm (zbh (⟨(0:Int),(0:Int)⟩:Span)))),(5,.box 32 (zm (zbh (⟨zdA,(1:Int)⟩:Span))))],[]⟩:=zaE (by kernel_rfl) (zaJ hs λ hc hs=>And.intro (And.intro (zE zaz 3 t.get) hc) (zGs hs hk))
def zyv (t:(Sl RangeRow)) (opacity:Int) (iv1:Int):Span :=
  (cond (decide (iv1 > (0:Int)))
 (zrA t opacity (w64 ((t.get ((w64 (iv1 - (1:Int))).toNat)).Energy+(1:Int))))
 (zrA t opacity (1:Int)))
def zyw (t:(Sl RangeRow)) (opacity:Int) (iv1:Int):Bool :=
  (cond (decide (iv1 > (0:Int)))
 (decide ((0<=(w64 (iv1 - (1:Int)))/\(w64 (iv1 - (1:Int))) < (t.len:Int))) &&
 (zrB t opacity (w64 ((t.get ((w64 (iv1 - (1:Int))).toNat)).Energy+(1:Int)))))
 (zrB t opacity (1:Int)))
theorem zGt (hs:zyw t opacity iv1=true) (hk:K (e80 (zyv t opacity iv1))):z80 K [1,1,1,0,1] [] ⟨[(0,zS zaz 3 t),(3,zp 3 0),(4,zp 4 0),(5,zp 5 0),(6,zI iv1)],[(3,.fbox [.int .i64 opacity]),(4,.box 32 (zm (zbh (⟨(0:Int),(0:Int)⟩:Span)))),(5,.box 32 (zm (zbh (⟨(1:Int),(1:Int)⟩:Span))))],[]⟩:=zaE (by kernel_rfl) (zc hs hk (λ hs hk=>(zaJ hs λ hc hs=>And.intro hc (zyu hs hk))) (λ hs hk=>(zyu hs hk)))
def zyx (t:(Sl RangeRow)) (opacity:Int):Span :=
  (zyv t opacity (zON opacity t))
def zyy (t:(Sl RangeRow)) (opacity:Int):Bool :=
  (decide ((zPG opacity t=true)) &&
 (zyw t opacity (zON opacity t)))
theorem zGu (hs:zyy t opacity=true) (hk:K (e80 (zyx t opacity))):z80 K [1,1,1] [] ⟨[(0,zS zaz 3 t),(3,zp 3 0),(4,zp 4 0),(5,zp 5 0)],[(3,.box 3 [zi opacity]),(4,.box 32 (zm (zbh (⟨(0:Int),(0:Int)⟩:Span)))),(5,.box 32 (zm (zbh (⟨(1:Int),(1:Int)⟩:Span))))],[]⟩:=zaE (by kernel_rfl) (zaJ hs λ hc hs=>And.intro (And.intro (zE zaz 3 t.get) hc) (zGt hs hk))
def s80 (t:(Sl RangeRow)) (opacity:Int):Span :=
  (cond (opacity == (0:Int))
 (⟨(1:Int),(1:Int)⟩:Span)
 (zyx t opacity))
def p80 (t:(Sl RangeRow)) (opacity:Int):Bool :=
  (cond (opacity == (0:Int))
 true
 (zyy t opacity))
end
theorem q80 (t:(Sl RangeRow)) (opacity:Int) (K:List PA->Prop) (hs:p80 t opacity=true) (hk:K (e80 (s80 t opacity))):vcFun Tryd.prog G80 zGr 80 [.one (.sl t.len 3 (λ i=>zaz (t.get i))),.one (.int .i64 opacity)] K :=
  zaE (by kernel_rfl) (zc hs hk (λ hs hk=>hk) (λ hs hk=>(zGu hs hk)))
def zCJ : List PA → COut
  | [.one (.sl zbq zcO zbr),.one (.int .i64 a1)]=>.det (IsE zaz 3 zcO zbr/\p80 (⟨zbq,zbB zbr⟩:(Sl RangeRow)) a1=true) [.agg [.int .i64 ((s80 (⟨zbq,zbB zbr⟩:(Sl RangeRow)) a1).Low),.int .i64 ((s80 (⟨zbq,zbB zbr⟩:(Sl RangeRow)) a1).High)]]
  | _=>.no
theorem zLx:zac Tryd.prog 80:=⟨_,rfl,rfl,by kernel_rfl⟩
theorem zRE:Ok Tryd.prog 80 zCJ:=zau zPM zLx λ args K h=>by
  unfold zCJ at h
  split at h
  · rename_i zbq zcO zbr a1
    obtain⟨⟨⟨rfl,zb6,rfl⟩,hs⟩,hk⟩:=h
    try rw[zaQ zb6] at hs
    try rw[zaQ zb6] at hk
    exact⟨(λ _ _=>[]),(λ _=>false),zGr,q80 (⟨zbq,zb6⟩:(Sl RangeRow)) a1 K hs hk⟩
  · exact h.elim
def zhq (s:Sky) (t:Sl RangeRow) (bin:Int) (j:Int):List Int:=[(s79 (s.Bins.get bin.toNat) (s80 t j)).Low,(s79 (s.Bins.get bin.toNat) (s80 t j)).High]
abbrev T54:Tabs:=((Tabs.nil.addF 79 zCD).addF 80 zCJ)
theorem zPN:TabsOk Tryd.prog T54:=((TabsOk.nil.addF zRA).addF zRE)
abbrev G54:Ctrs:=csm T54 (λ _ _=>[]) (λ _=>false)
def zGv:Ann:=⟨42,[(0,zK [0,1,2,6] [6]),(1,zK [0,1,2,6,7,8] [6,7]),(2,zK [0,1,2,6,7,19] [6,7]),(3,zK [0,2,6,7] [6,7]),(4,zK [6,7] [6,7]),(5,zK [6] [6])],
 [],
 [],
 [],[]⟩
theorem zGw (xSky : Sky) (xtable : (Sl RangeRow)) (bin : Int) (opacity : Int) (K : List PA → Prop) :
  vcFun Tryd.prog G54 zGv 54 [.one (.fp (zgg (⟨xSky,xtable,(zhq xSky xtable bin)⟩:ground)) 0),.one (.int .i64 bin),.one (.int .i64 opacity)] K =
  ((True)/\(∃ r1:Bool,True)/\∀ r1:Bool,True ->
 (zdK (!r1)
 (((0<=bin/\bin < (xSky.Bins.len:Int))) /\
 ((IsE zaz 3 3 (λ i=>zaz (xtable.get i))/\(p80 xtable opacity=true)) /\
 ((IsE zaZ 3 3 (λ i=>zaZ ((xSky.Bins.get bin.toNat).get i))/\(p79 (xSky.Bins.get bin.toNat) (s80 xtable opacity)=true)) /\
 ((([(s79 (xSky.Bins.get bin.toNat) (s80 xtable opacity)).Low,(s79 (xSky.Bins.get bin.toNat) (s80 xtable opacity)).High]=[(s79 (xSky.Bins.get bin.toNat) (s80 xtable opacity)).Low,(s79 (xSky.Bins.get bin.toNat) (s80 xtable opacity)).High])) /\
 (K [.agg [.int .i64 ((s79 (xSky.Bins.get bin.toNat) (s80 xtable opacity)).Low),.int .i64 ((s79 (xSky.Bins.get bin.toNat) (s80 xtable opacity)).High)]])))))
 (K [.agg [.int .i64 (match r1 with | true=>(s79 (xSky.Bins.get bin.toNat) (s80 xtable opacity)).Low | false=>0),.int .i64 (match r1 with | true=>(s79 (xSky.Bins.get bin.toNat) (s80 xtable opacity)).High | false=>0)]]))):=by kernel_rfl
abbrev R54:=Span
abbrev e54 (r:R54):List PA:=[.agg [.int .i64 r.Low,.int .i64 r.High]]
def s54 (xSky:Sky) (xtable:Sl RangeRow) (bin opacity:Int):R54:=s79 (xSky.Bins.get bin.toNat) (s80 xtable opacity)
def p54 (xSky:Sky) (xtable:Sl RangeRow) (bin opacity:Int):Bool:=decide (0<=bin/\bin < (xSky.Bins.len:Int)) && (p80 xtable opacity && p79 (xSky.Bins.get bin.toNat) (s80 xtable opacity))
theorem q54 (xSky : Sky) (xtable : Sl RangeRow) (bin opacity : Int) (K : List PA → Prop) (hs : p54 xSky xtable bin opacity = true) (hk : K (e54 (s54 xSky xtable bin opacity))) :
    vcFun Tryd.prog G54 zGv 54 [.one (.fp (zgg ⟨xSky,xtable,zhq xSky xtable bin⟩) 0),.one (.int .i64 bin),.one (.int .i64 opacity)] K:=by
  refine zaE (zGw xSky xtable bin opacity K) ⟨trivial,⟨true,trivial⟩,λ r1 _=>?_⟩
  unfold p54 at hs
  rw[dqm,dqm] at hs
  cases r1
  · exact⟨of_decide_eq_true hs.1,⟨isE,hs.2.1⟩,⟨isE,hs.2.2⟩,rfl,hk⟩
  · exact hk
def zCK : List PA → COut
  | [.one (.fp [.int .i64 zdu,.sl zdd zh4 zde,.int .i64 zcH,.int .i64 zcr,.int .i64 zcs,.int .i64 zcj,.sl zep zmn zeq,.mp zuq] 0),.one (.int .i64 a1),.one (.int .i64 a2)]=>.det (IsE zcl 1 zh4 zde/\IsE zaz 3 zmn zeq/\zuq=(zhq (⟨zdu,(⟨zdd,zcv zde⟩:(Sl (Sl FluxRow))),(⟨zcH,zcr⟩:Span),(⟨zcs,zcj⟩:Span)⟩:Sky) (⟨zep,zbB zeq⟩:(Sl RangeRow)) a1)/\p54 (⟨zdu,(⟨zdd,zcv zde⟩:(Sl (Sl FluxRow))),(⟨zcH,zcr⟩:Span),(⟨zcs,zcj⟩:Span)⟩:Sky) (⟨zep,zbB zeq⟩:(Sl RangeRow)) a1 a2=true) [.agg [.int .i64 ((s54 (⟨zdu,(⟨zdd,zcv zde⟩:(Sl (Sl FluxRow))),(⟨zcH,zcr⟩:Span),(⟨zcs,zcj⟩:Span)⟩:Sky) (⟨zep,zbB zeq⟩:(Sl RangeRow)) a1 a2).Low),.int .i64 ((s54 (⟨zdu,(⟨zdd,zcv zde⟩:(Sl (Sl FluxRow))),(⟨zcH,zcr⟩:Span),(⟨zcs,zcj⟩:Span)⟩:Sky) (⟨zep,zbB zeq⟩:(Sl RangeRow)) a1 a2).High)]]
  | _=>.no
theorem zLy:zac Tryd.prog 54:=⟨_,rfl,rfl,by kernel_rfl⟩
theorem zRF:Ok Tryd.prog 54 zCK:=zau zPN zLy λ args K h=>by
  unfold zCK at h
  split at h
  · rename_i zdu zdd zh4 zde zcH zcr zcs zcj zep zmn zeq zuq a1 a2
    obtain⟨⟨⟨rfl,zed,rfl⟩,⟨rfl,zgL,rfl⟩,hF,hs⟩,hk⟩:=h
    try rw[zcw zed] at hF
    try rw[zcw zed] at hs
    try rw[zcw zed] at hk
    try rw[zaQ zgL] at hF
    try rw[zaQ zgL] at hs
    try rw[zaQ zgL] at hk
    subst hF
    exact⟨(λ _ _=>[]),(λ _=>false),zGv,q54 (⟨zdu,(⟨zdd,zed⟩:(Sl (Sl FluxRow))),(⟨zcH,zcr⟩:Span),(⟨zcs,zcj⟩:Span)⟩:Sky) (⟨zep,zgL⟩:(Sl RangeRow)) a1 a2 K hs hk⟩
  · exact h.elim
abbrev T78:Tabs:=Tabs.nil
theorem zPO:TabsOk Tryd.prog T78:=TabsOk.nil
abbrev G78:Ctrs:=csm T78 (λ _ _=>[]) (λ _=>false)
def zLz:Ann:=⟨15,[(0,zK [0,1,2] []),(1,zK [6] [])],
 [],
 [],
 [],[]⟩
abbrev R78:=Bool
abbrev e78 (r:R78):List PA:=[.one (.bool r)]
section
variable {K:List PA->Prop}{n:Int}{low:Int}{high:Int}
def s78 (n:Int) (low:Int) (high:Int):Bool :=
  (cond (decide (n >= low))
 (decide (n<=high))
 false)
end
theorem q78 (n:Int) (low:Int) (high:Int) (K:List PA->Prop) (hk:K (e78 (s78 n low high))):vcFun Tryd.prog G78 zLz 78 [.one (.int .i64 n),.one (.int .i64 low),.one (.int .i64 high)] K :=
  zaE (by kernel_rfl) (zt hk (λ hk=>hk) (λ hk=>hk))
def zrC : List PA → COut
  | [.one (.int .i64 a0),.one (.int .i64 a1),.one (.int .i64 a2)]=>.tot [.one (.bool (s78 a0 a1 a2))]
  | _=>.no
theorem zLA:zac Tryd.prog 78:=⟨_,rfl,rfl,by kernel_rfl⟩
theorem zLB:Ok Tryd.prog 78 zrC:=zau zPO zLA λ args K h=>by
  unfold zrC at h
  split at h
  · rename_i a0 a1 a2
    have hk:=h
    exact⟨(λ _ _=>[]),(λ _=>false),zLz,q78 a0 a1 a2 K hk⟩
  · exact h.elim
abbrev zRG:Tabs:=(Tabs.nil.addF 78 zrC)
theorem zLC:TabsOk Tryd.prog zRG:=(TabsOk.nil.addF zLB)
abbrev zSP:Ctrs:=csm zRG (λ _ _=>[]) (λ _=>false)
def zD9:Ann:=⟨19,[(0,zK [1,2,3] [3]),(1,zK [6] [])],
 [],
 [],
 [],[]⟩
abbrev zSQ:=Bool
abbrev zSR (r:zSQ):List PA:=[.one (.bool r)]
section
variable {K:List PA->Prop}{s:Span}{low:Int}{high:Int}
def zEa (s:Span) (low:Int) (high:Int):Bool :=
  (cond (s78 s.Low low s.High)
 (decide (s.High<=high))
 false)
end
theorem zSS (s:Span) (low:Int) (high:Int) (K:List PA->Prop) (hk:K (zSR (zEa s low high))):vcFun Tryd.prog zSP zD9 104 [.agg (zbh s),.one (.int .i64 low),.one (.int .i64 high)] K :=
  zaE (by kernel_rfl) (zt hk (λ hk=>hk) (λ hk=>hk))
def zpP : List PA → COut
  | [.agg [.int .i64 zch,.int .i64 zbH],.one (.int .i64 a1),.one (.int .i64 a2)]=>.tot [.one (.bool (zEa (⟨zch,zbH⟩:Span) a1 a2))]
  | _=>.no
theorem zGx:zac Tryd.prog 104:=⟨_,rfl,rfl,by kernel_rfl⟩
theorem zGy:Ok Tryd.prog 104 zpP:=zau zLC zGx λ args K h=>by
  unfold zpP at h
  split at h
  · rename_i zch zbH a1 a2
    have hk:=h
    exact⟨(λ _ _=>[]),(λ _=>false),zD9,zSS (⟨zch,zbH⟩:Span) a1 a2 K hk⟩
  · exact h.elim
abbrev zRH:Tabs:=Tabs.nil
theorem zLD:TabsOk Tryd.prog zRH:=TabsOk.nil
abbrev zST:Ctrs:=csm zRH (λ _ _=>[]) (λ _=>false)
def zEb:Ann:=⟨5,[(0,zK [1] [1]),(1,zK [2] [])],
 [],
 [],
 [],[]⟩
abbrev zSU:=Int
abbrev zSV (r:zSU):List PA:=[.one (.int .i64 r)]
section
variable {K:List PA->Prop}{r_a0:FluxRow}
def zEc (r_a0:FluxRow):Int :=
  r_a0.Energy
end
theorem zSW (r_a0:FluxRow) (K:List PA->Prop) (hk:K (zSV (zEc r_a0))):vcFun Tryd.prog zST zEb 101 [.agg (zaZ r_a0)] K :=
  zaE (by kernel_rfl) hk
def zyz : List PA → COut
  | [.agg [.int .i64 zaM,.int .i64 zbF,.int .i64 zbm]]=>.tot [.one (.int .i64 (zEc (⟨zaM,(⟨zbF,zbm⟩:Span)⟩:FluxRow)))]
  | _=>.no
theorem zGz:zac Tryd.prog 101:=⟨_,rfl,rfl,by kernel_rfl⟩
theorem zPP:Ok Tryd.prog 101 zyz:=zau zLD zGz λ args K h=>by
  unfold zyz at h
  split at h
  · rename_i zaM zbF zbm
    have hk:=h
    exact⟨(λ _ _=>[]),(λ _=>false),zEb,zSW (⟨zaM,(⟨zbF,zbm⟩:Span)⟩:FluxRow) K hk⟩
  · exact h.elim
abbrev zRI:Tabs:=Tabs.nil
theorem zLE:TabsOk Tryd.prog zRI:=TabsOk.nil
abbrev zSX:Ctrs:=csm zRI (λ _ _=>[]) (λ _=>false)
def zEd:Ann:=⟨5,[(0,zK [1,2] [1,2]),(1,zK [2] [2])],
 [],
 [],
 [],[]⟩
abbrev zSY:=Span
abbrev zSZ (r:zSY):List PA:=[.agg [.int .i64 r.Low,.int .i64 r.High]]
section
variable {K:List PA->Prop}{r_a0:FluxRow}
def zCL (r_a0:FluxRow):Span :=
  r_a0.Rate
end
theorem zS0 (r_a0:FluxRow) (K:List PA->Prop) (hk:K (zSZ (zCL r_a0))):vcFun Tryd.prog zSX zEd 102 [.agg (zaZ r_a0)] K :=
  zaE (by kernel_rfl) hk
def zyA : List PA → COut
  | [.agg [.int .i64 zaM,.int .i64 zbF,.int .i64 zbm]]=>.tot [.agg [.int .i64 ((zCL (⟨zaM,(⟨zbF,zbm⟩:Span)⟩:FluxRow)).Low),.int .i64 ((zCL (⟨zaM,(⟨zbF,zbm⟩:Span)⟩:FluxRow)).High)]]
  | _=>.no
theorem zGA:zac Tryd.prog 102:=⟨_,rfl,rfl,by kernel_rfl⟩
theorem zPQ:Ok Tryd.prog 102 zyA:=zau zLE zGA λ args K h=>by
  unfold zyA at h
  split at h
  · rename_i zaM zbF zbm
    have hk:=h
    exact⟨(λ _ _=>[]),(λ _=>false),zEd,zS0 (⟨zaM,(⟨zbF,zbm⟩:Span)⟩:FluxRow) K hk⟩
  · exact h.elim
abbrev zRJ:Tabs:=Tabs.nil
theorem zLF:TabsOk Tryd.prog zRJ:=TabsOk.nil
abbrev zS1:Ctrs:=csm zRJ (λ _ _=>[]) (λ _=>false)
def zEe:Ann:=⟨17,[(0,zK [2,3] [2,3]),(1,zK [4] [])],
 [],
 [],
 [],[]⟩
abbrev zS2:=Bool
abbrev e108 (r:zS2):List PA:=[.one (.bool r)]
section
variable {K:List PA->Prop}{a:Span}{b:Span}
def zLG (a:Span) (b:Span):Bool :=
  (cond (decide (b.Low >= a.Low))
 (decide (b.High >= a.High))
 false)
end
theorem zS3 (a:Span) (b:Span) (K:List PA->Prop) (hk:K (e108 (zLG a b))):vcFun Tryd.prog zS1 zEe 108 [.agg (zbh a),.agg (zbh b)] K :=
  zaE (by kernel_rfl) (zt hk (λ hk=>hk) (λ hk=>hk))
def zur : List PA → COut
  | [.agg [.int .i64 zch,.int .i64 zbH],.agg [.int .i64 zdl,.int .i64 zcz]]=>.tot [.one (.bool (zLG (⟨zch,zbH⟩:Span) (⟨zdl,zcz⟩:Span)))]
  | _=>.no
theorem zGB:zac Tryd.prog 108:=⟨_,rfl,rfl,by kernel_rfl⟩
theorem zLH:Ok Tryd.prog 108 zur:=zau zLF zGB λ args K h=>by
  unfold zur at h
  split at h
  · rename_i zch zbH zdl zcz
    have hk:=h
    exact⟨(λ _ _=>[]),(λ _=>false),zEe,zS3 (⟨zch,zbH⟩:Span) (⟨zdl,zcz⟩:Span) K hk⟩
  · exact h.elim
abbrev zRK:Tabs:=(Tabs.nil.addF 108 zur)
theorem zLI:TabsOk Tryd.prog zRK:=(TabsOk.nil.addF zLH)
abbrev zS4:Ctrs:=csm zRK (λ _ _=>[]) (λ _=>false)
def zEf:Ann:=⟨8,[(0,zK [2,3] [2,3]),(1,zK [4] [])],
 [],
 [],
 [],[]⟩
abbrev zS5:=Bool
abbrev zS6 (r:zS5):List PA:=[.one (.bool r)]
section
variable {K:List PA->Prop}{a:Span}{b:Span}
def zOO (a:Span) (b:Span):Bool :=
  (zLG b a)
end
theorem zS7 (a:Span) (b:Span) (K:List PA->Prop) (hk:K (zS6 (zOO a b))):vcFun Tryd.prog zS4 zEf 103 [.agg (zbh a),.agg (zbh b)] K :=
  zaE (by kernel_rfl) hk
def zyB : List PA → COut
  | [.agg [.int .i64 zch,.int .i64 zbH],.agg [.int .i64 zdl,.int .i64 zcz]]=>.tot [.one (.bool (zOO (⟨zch,zbH⟩:Span) (⟨zdl,zcz⟩:Span)))]
  | _=>.no
theorem zGC:zac Tryd.prog 103:=⟨_,rfl,rfl,by kernel_rfl⟩
theorem zPR:Ok Tryd.prog 103 zyB:=zau zLI zGC λ args K h=>by
  unfold zyB at h
  split at h
  · rename_i zch zbH zdl zcz
    have hk:=h
    exact⟨(λ _ _=>[]),(λ _=>false),zEf,zS7 (⟨zch,zbH⟩:Span) (⟨zdl,zcz⟩:Span) K hk⟩
  · exact h.elim
abbrev zRL:Tabs:=(((((Tabs.nil.addF 78 zrC).addF 101 zyz).addF 102 zyA).addF 103 zyB).addF 104 zpP)
theorem zLJ:TabsOk Tryd.prog zRL:=(((((TabsOk.nil.addF zLB).addF zPP).addF zPQ).addF zPR).addF zGy)
abbrev zRM:Ctrs:=csm zRL (λ _ _=>[]) (λ _=>false)
def zyC:Ann:=⟨73,[(0,zK [0,1,2,3,4,5,6] []),(1,zK [0,1,2,3,4,5,6,17,18,19] []),(2,zK [0,1,2,3,4,5,6,17,18,19,20] []),(3,zK [0,1,2,3,4,5,6,15,16,17,18,19] [16]),(4,zK [0,1,2,3,4,5,6,15,16,17,18,19,38] [16]),(5,zK [14] []),(6,zK [0,1,2,3,4,5,6,17,18,19,68] []),(7,zK [14] []),(8,zK [0,1,2,3,4,5,6,17,18,19] []),(9,zK [14] [])],
 [(2,zK [0,1,2,3,4,5,6,17,18,19] [])],
 [(5,zK [0,1,2,3,4,5,6,15,16,17,18,19,38] [16]),(6,zK [0,1,2,3,4,5,6,15,16,17,18,19] [16]),(7,zK [0,1,2,3,4,5,6,17,18,19,68] [])],
 [],[]⟩
abbrev zS8:=Bool
abbrev zKh (r:zS8):List PA:=[.one (.bool r)]
@[irreducible] def z100:=ptF Tryd.prog zRM zyC Tryd.f100
def zyD (rows:(Sl FluxRow)) (zab:Int) (until_a2:Int) (most:Int) (za0:Int):St:=⟨[(0,zS zaZ 3 rows),(1,zI zab),(2,zI until_a2),(3,zP (.fn 101 [] [])),(4,zP (.fn 102 [] [])),(5,zI most),(6,zP (.fn 103 [] [])),(17,zS zaZ 3 rows),(18,zI (rows.len:Int)),(19,zI za0)],[],[]⟩
abbrev zpQ (K:List PA->Prop) (rows:(Sl FluxRow)) (zab:Int) (until_a2:Int) (most:Int) (X:St->Prop) (P:Int->Bool) (S:Int->Bool):Prop:=∀ ⦃za0:Int⦄,P za0=true->K (zKh (S za0))->X (zyD rows zab until_a2 most za0)
section
variable {K:List PA->Prop}{rows:(Sl FluxRow)}{zab:Int}{until_a2:Int}{most:Int}{za0:Int}{X0:St->Prop}{P0:Int->Bool}{S0:Int->Bool}{iv1:Int}{zhr:Int}{zhs:Bool}{zht:Int}{zhu:Int}{zhv:Int}{iv2:Int}{zey:Int}{zfu:Int}{zfv:Int}{zfw:Int}{zhw:Int}{zhx:Bool}
def zkb (S0:Int->Bool) (rows:(Sl FluxRow)) (zab:Int) (until_a2:Int) (most:Int) (zhw:Int) (zhx:Bool):Bool :=
  (cond zhx
 false
 (S0 (w64 (zhw+(1:Int)))))
def zkc (P0:Int->Bool) (rows:(Sl FluxRow)) (zab:Int) (until_a2:Int) (most:Int) (zhw:Int) (zhx:Bool):Bool :=
  (cond zhx
 true
 (P0 (w64 (zhw+(1:Int)))))
theorem znr (hX0:zpQ K rows zab until_a2 most X0 P0 S0) (hs:zkc P0 rows zab until_a2 most zhw zhx=true) (hk:K (zKh (zkb S0 rows zab until_a2 most zhw zhx))):z100 K [1,0,1,0,0,1,1,0,0,1,1,1] [X0] ⟨[(0,zS zaZ 3 rows),(1,zI zab),(2,zI until_a2),(3,zP (.fn 101 [] [])),(4,zP (.fn 102 [] [])),(5,zI most),(6,zP (.fn 103 [] [])),(17,zS zaZ 3 rows),(18,zI (rows.len:Int)),(19,zI zhw),(68,zB zhx)],[],[]⟩:=zaE (by kernel_rfl) (zc hs hk (λ hs hk=>hk) (λ hs hk=>(hX0 hs hk)))
def zus (S0:Int->Bool) (rows:(Sl FluxRow)) (zab:Int) (until_a2:Int) (most:Int) (iv2:Int) (zey:Int) (zfu:Int) (zfv:Int) (zfw:Int):Bool :=
  (cond (decide (iv2 > (0:Int)))
 (cond (decide ((zEc (⟨zfu, (⟨zfv, zfw⟩ : Span)⟩ : FluxRow)) <= (zEc (rows.get ((w64 (iv2 - (1:Int))).toNat)))))
 (zkb S0 rows zab until_a2 most zey true)
 (zkb S0 rows zab until_a2 most zey (!(zOO (zCL (rows.get ((w64 (iv2 - (1:Int))).toNat))) (zCL (⟨zfu,(⟨zfv,zfw⟩:Span)⟩:FluxRow))))))
 (zkb S0 rows zab until_a2 most zey false))
def zut (P0:Int->Bool) (rows:(Sl FluxRow)) (zab:Int) (until_a2:Int) (most:Int) (iv2:Int) (zey:Int) (zfu:Int) (zfv:Int) (zfw:Int):Bool :=
  (cond (decide (iv2 > (0:Int)))
 (decide ((0<=(w64 (iv2 - (1:Int)))/\(w64 (iv2 - (1:Int))) < (rows.len:Int))) &&
 (cond (decide ((zEc (⟨zfu, (⟨zfv, zfw⟩ : Span)⟩ : FluxRow)) <= (zEc (rows.get ((w64 (iv2 - (1:Int))).toNat)))))
 (zkc P0 rows zab until_a2 most zey true)
 (decide ((0<=(w64 (iv2 - (1:Int)))/\(w64 (iv2 - (1:Int))) < (rows.len:Int))) &&
 (zkc P0 rows zab until_a2 most zey (!(zOO (zCL (rows.get ((w64 (iv2 - (1:Int))).toNat))) (zCL (⟨zfu,(⟨zfv,zfw⟩:Span)⟩:FluxRow))))))))
 (zkc P0 rows zab until_a2 most zey false))
theorem zCM (hX0:zpQ K rows zab until_a2 most X0 P0 S0) (hs:zut P0 rows zab until_a2 most iv2 zey zfu zfv zfw=true) (hk:K (zKh (zus S0 rows zab until_a2 most iv2 zey zfu zfv zfw))):z100 K [1,0,1,0,0,1,1,0,0,1,1] [X0] ⟨[(0,zS zaZ 3 rows),(1,zI zab),(2,zI until_a2),(3,zP (.fn 101 [] [])),(4,zP (.fn 102 [] [])),(5,zI most),(6,zP (.fn 103 [] [])),(15,zI iv2),(16,zp 16 0),(17,zS zaZ 3 rows),(18,zI (rows.len:Int)),(19,zI zey)],[(16,.box 134 [zi zfu,zi zfv,zi zfw])],[]⟩:=zaE (by kernel_rfl) (zc hs hk (λ hs hk=>(zaJ hs λ hc hs=>And.intro hc (zc hs hk (λ hs hk=>(znr hX0 hs hk)) (λ hs hk=>(zaJ hs λ hc hs=>And.intro hc (znr hX0 hs hk)))))) (λ hs hk=>(znr hX0 hs hk)))
def zns (S0:Int->Bool) (rows:(Sl FluxRow)) (zab:Int) (until_a2:Int) (most:Int) (iv1:Int) (zhr:Int) (zhs:Bool) (zht:Int) (zhu:Int) (zhv:Int):Bool :=
  (cond zhs
 false
 (zus S0 rows zab until_a2 most iv1 zhr zht zhu zhv))
def znt (P0:Int->Bool) (rows:(Sl FluxRow)) (zab:Int) (until_a2:Int) (most:Int) (iv1:Int) (zhr:Int) (zhs:Bool) (zht:Int) (zhu:Int) (zhv:Int):Bool :=
  (cond zhs
 true
 (zut P0 rows zab until_a2 most iv1 zhr zht zhu zhv))
theorem zuu (hX0:zpQ K rows zab until_a2 most X0 P0 S0) (hs:znt P0 rows zab until_a2 most iv1 zhr zhs zht zhu zhv=true) (hk:K (zKh (zns S0 rows zab until_a2 most iv1 zhr zhs zht zhu zhv))):z100 K [1,0,1,0,0,1,1,0,0,1,0,1] [X0] ⟨[(0,zS zaZ 3 rows),(1,zI zab),(2,zI until_a2),(3,zP (.fn 101 [] [])),(4,zP (.fn 102 [] [])),(5,zI most),(6,zP (.fn 103 [] [])),(15,zI iv1),(16,zp 16 0),(17,zS zaZ 3 rows),(18,zI (rows.len:Int)),(19,zI zhr),(38,zB zhs)],[(16,.box 134 [zi zht,zi zhu,zi zhv])],[]⟩:=zaE (by kernel_rfl) (zc hs hk (λ hs hk=>hk) (λ hs hk=>(zCM hX0 hs hk)))
def zuv (rows:(Sl FluxRow)) (zab:Int) (until_a2:Int) (most:Int) (S0:Int->Bool) (za0:Int):Bool :=
  (cond (decide (za0 < (rows.len : Int)))
 (cond (!(s78 (zEc (rows.get za0.toNat)) zab until_a2))
 (zns S0 rows zab until_a2 most za0 za0 true ((rows.get za0.toNat).Energy) ((rows.get za0.toNat).Rate.Low) ((rows.get za0.toNat).Rate.High))
 (zns S0 rows zab until_a2 most za0 za0 (!(zEa (zCL (rows.get za0.toNat)) (0:Int) most)) ((rows.get za0.toNat).Energy) ((rows.get za0.toNat).Rate.Low) ((rows.get za0.toNat).Rate.High)))
 (s78 (rows.len:Int) (1:Int) (40:Int)))
def zuw (rows:(Sl FluxRow)) (zab:Int) (until_a2:Int) (most:Int) (P0:Int->Bool) (za0:Int):Bool :=
  (cond (decide (za0 < (rows.len : Int)))
 (decide ((0<=za0/\za0 < (rows.len:Int))) &&
 (cond (!(s78 (zEc (rows.get za0.toNat)) zab until_a2))
 (znt P0 rows zab until_a2 most za0 za0 true ((rows.get za0.toNat).Energy) ((rows.get za0.toNat).Rate.Low) ((rows.get za0.toNat).Rate.High))
 (znt P0 rows zab until_a2 most za0 za0 (!(zEa (zCL (rows.get za0.toNat)) (0:Int) most)) ((rows.get za0.toNat).Energy) ((rows.get za0.toNat).Rate.Low) ((rows.get za0.toNat).Rate.High))))
 true)
def zux (rows:(Sl FluxRow)) (zab:Int) (until_a2:Int) (most:Int):Nat->Int->Bool:=lpO (λ _=>default) (zuv rows zab until_a2 most)
def zuy (rows:(Sl FluxRow)) (zab:Int) (until_a2:Int) (most:Int):Nat->Int->Bool:=lpO (λ _=>false) (zuw rows zab until_a2 most)
def zuz (rows:(Sl FluxRow)) (zab:Int) (until_a2:Int) (most:Int) (za0:Int):Bool:=zux rows zab until_a2 most Fuel za0
def zuA (rows:(Sl FluxRow)) (zab:Int) (until_a2:Int) (most:Int) (za0:Int):Bool:=zuy rows zab until_a2 most Fuel za0
theorem zCN (hs:zuA rows zab until_a2 most za0=true) (hk:K (zKh (zuz rows zab until_a2 most za0))):z100 K [1,0,1,0] [] (zyD rows zab until_a2 most za0) :=
  zl (λ X=>z100 K [1,0,1,0,0] [X]) (by kernel_rfl) λ X0 hX =>
  (show ∀ k, zpQ K rows zab until_a2 most X0 (zuy rows zab until_a2 most k) (zux rows zab until_a2 most k) from zgd _ _ (zuw rows zab until_a2 most) (zuv rows zab until_a2 most) (zpQ K rows zab until_a2 most X0)
 (by intro _ hs;exact absurd hs dqk)
 (by intro P0 S0 hX0 za0 hs hk;exact hX _ (zaE (by kernel_rfl) (zc hs hk (λ hs hk=>(zaJ hs λ hc hs=>And.intro hc (zc hs hk (λ hs hk=>(zuu hX0 hs hk)) (λ hs hk=>(zuu hX0 hs hk))))) (λ hs hk=>hk))))) _ hs hk
def zOP (rows:(Sl FluxRow)) (zab:Int) (until_a2:Int) (most:Int):Bool :=
  (zuz rows zab until_a2 most (0:Int))
def zPS (rows:(Sl FluxRow)) (zab:Int) (until_a2:Int) (most:Int):Bool :=
  (zuA rows zab until_a2 most (0:Int))
end
theorem zS9 (rows:(Sl FluxRow)) (zab:Int) (until_a2:Int) (most:Int) (K:List PA->Prop) (hs:zPS rows zab until_a2 most=true) (hk:K (zKh (zOP rows zab until_a2 most))):vcFun Tryd.prog zRM zyC 100 [.one (.sl rows.len 3 (λ i=>zaZ (rows.get i))),.one (.int .i64 zab),.one (.int .i64 until_a2),.one (.fn 101 [] []),.one (.fn 102 [] []),.one (.int .i64 most),.one (.fn 103 [] [])] K :=
  zaE (by kernel_rfl) (zCN hs hk)
def zyE : List PA → COut
  | [.one (.sl zbq zcO zbr),.one (.int .i64 a1),.one (.int .i64 a2),.one (.fn 101 [] []),.one (.fn 102 [] []),.one (.int .i64 a5),.one (.fn 103 [] [])]=>.det (IsE zaZ 3 zcO zbr/\zPS (⟨zbq,zcQ zbr⟩:(Sl FluxRow)) a1 a2 a5=true) [.one (.bool (zOP (⟨zbq,zcQ zbr⟩:(Sl FluxRow)) a1 a2 a5))]
  | _=>.no
theorem zGD:zac Tryd.prog 100:=⟨_,rfl,rfl,by kernel_rfl⟩
theorem zPT:Ok Tryd.prog 100 zyE:=zau zLJ zGD λ args K h=>by
  unfold zyE at h
  split at h
  · rename_i zbq zcO zbr a1 a2 a5
    obtain⟨⟨⟨rfl,zb6,rfl⟩,hs⟩,hk⟩:=h
    try rw[zbS zb6] at hs
    try rw[zbS zb6] at hk
    exact⟨(λ _ _=>[]),(λ _=>false),zyC,zS9 (⟨zbq,zb6⟩:(Sl FluxRow)) a1 a2 a5 K hs hk⟩
  · exact h.elim
abbrev T76:Tabs:=(((Tabs.nil.addF 78 zrC).addF 100 zyE).addF 104 zpP)
theorem zPU:TabsOk Tryd.prog T76:=(((TabsOk.nil.addF zLB).addF zPT).addF zGy)
abbrev G76:Ctrs:=csm T76 (λ _ _=>[]) (λ _=>false)
def zGE:Ann:=⟨44,[(0,zK [1] [1]),(1,zK [1,6,7,8] [1]),(2,zK [1,6,7,8,9] [1]),(3,zK [1,4,6,7,8] [1]),(4,zK [1,6,7,8,23] [1]),(5,zK [2] []),(6,zK [1,6,7,8] [1]),(7,zK [2] [])],
 [(2,zK [1,6,7,8] [1])],
 [(5,zK [1,6,7,8,23] [1]),(7,zK [1] [1])],
 [],[]⟩
abbrev R76:=Bool
abbrev e76 (r:R76):List PA:=[.one (.bool r)]
@[irreducible] def z76:=ptF Tryd.prog G76 zGE Tryd.f76
def zEg (s:Sky) (zhG:(Sl (Sl FluxRow))) (za7:Int) (zaq:Int) (zez:(Sl (Sl FluxRow))) (zjK:Nat->List PV) (zgj:Nat->List PV):St:=⟨[(1,zp 1 0),(6,zP (.sl zhG.len 1 zjK)),(7,zI za7),(8,zI zaq)],[(1,.box 85 (zm (zps (⟨s.Parts,(⟨zez.len,zcv zgj⟩:(Sl (Sl FluxRow))),s.Beta,s.Alpha⟩:Sky))))],[]⟩
abbrev zGF (K:List PA->Prop) (s:Sky) (X:St->Prop) (P:(Sl (Sl FluxRow))->Int->Int->(Sl (Sl FluxRow))->Bool) (S:(Sl (Sl FluxRow))->Int->Int->(Sl (Sl FluxRow))->Bool):Prop:=∀ ⦃zhG:(Sl (Sl FluxRow))⦄ ⦃za7:Int⦄ ⦃zaq:Int⦄ ⦃zez:(Sl (Sl FluxRow))⦄ ⦃zjK:Nat->List PV⦄ ⦃zgj:Nat->List PV⦄,P zhG za7 zaq zez=true->K (e76 (S zhG za7 zaq zez))->zjK=zg zcl zhG->zgj=zg zcl zez->X (zEg s zhG za7 zaq zez zjK zgj)
section
variable {K:List PA->Prop}{s:Sky}{zhG:(Sl (Sl FluxRow))}{za7:Int}{zaq:Int}{zez:(Sl (Sl FluxRow))}{zjK:Nat->List PV}{zgj:Nat->List PV}{X0:St->Prop}{P0:(Sl (Sl FluxRow))->Int->Int->(Sl (Sl FluxRow))->Bool}{S0:(Sl (Sl FluxRow))->Int->Int->(Sl (Sl FluxRow))->Bool}{zEh:(Sl (Sl FluxRow))}{zdq:Int}{zdp:Int}{zaY:Bool}{zpR:(Sl (Sl FluxRow))}{zEi:Nat->List PV}{zyF:Nat->List PV}{zh5:(Sl (Sl FluxRow))}{zlg:Nat->List PV}
def zyG (s:Sky) (zh5:(Sl (Sl FluxRow))):Bool :=
  (cond (s78 s.Parts (2:Int) (1000000:Int))
 (cond (s78 (zh5.len : Int) (1:Int) (20:Int))
 (cond (zEa s.Beta (-100:Int) (100:Int))
 (zEa s.Alpha (-100:Int) (100:Int))
 false)
 false)
 false)
theorem zGG (hk:K (e76 (zyG s zh5))) (zrD:zlg=zg zcl zh5):z76 K [1,1] [] ⟨[(1,zp 1 0)],[(1,.box 85 (zm (zps (⟨s.Parts,(⟨zh5.len,zcv zlg⟩:(Sl (Sl FluxRow))),s.Beta,s.Alpha⟩:Sky))))],[]⟩:=by subst zrD;exact zaE (by kernel_rfl) (zt hk (λ hk=>(zt hk (λ hk=>(zt hk (λ hk=>hk) (λ hk=>hk))) (λ hk=>hk))) (λ hk=>hk))
def zrE (S0:(Sl (Sl FluxRow))->Int->Int->(Sl (Sl FluxRow))->Bool) (s:Sky) (zEh:(Sl (Sl FluxRow))) (zdq:Int) (zdp:Int) (zaY:Bool) (zpR:(Sl (Sl FluxRow))):Bool :=
  (cond zaY
 false
 (S0 zEh zdq (w64 (zdp+(1:Int))) zpR))
def zrF (P0:(Sl (Sl FluxRow))->Int->Int->(Sl (Sl FluxRow))->Bool) (s:Sky) (zEh:(Sl (Sl FluxRow))) (zdq:Int) (zdp:Int) (zaY:Bool) (zpR:(Sl (Sl FluxRow))):Bool :=
  (cond zaY
 true
 (P0 zEh zdq (w64 (zdp+(1:Int))) zpR))
theorem zyH (hX0:zGF K s X0 P0 S0) (hs:zrF P0 s zEh zdq zdp zaY zpR=true) (hk:K (e76 (zrE S0 s zEh zdq zdp zaY zpR))) (zLK:zEi=zg zcl zEh) (zGH:zyF=zg zcl zpR):z76 K [1,0,1,0,0,1,1,0,0,1,1] [X0] ⟨[(1,zp 1 0),(6,zP (.sl zEh.len 1 zEi)),(7,zI zdq),(8,zI zdp),(23,zB zaY)],[(1,.box 85 (zm (zps (⟨s.Parts,(⟨zpR.len,zcv zyF⟩:(Sl (Sl FluxRow))),s.Beta,s.Alpha⟩:Sky))))],[]⟩:=by subst zLK;subst zGH;exact zaE (by kernel_rfl) (zc hs hk (λ hs hk=>hk) (λ hs hk=>(hX0 hs hk rfl rfl)))
def zyI (s:Sky) (S0:(Sl (Sl FluxRow))->Int->Int->(Sl (Sl FluxRow))->Bool) (zhG:(Sl (Sl FluxRow))) (za7:Int) (zaq:Int) (zez:(Sl (Sl FluxRow))):Bool :=
  (cond (decide (zaq < za7))
 (cond (!(zOP (zhG.get zaq.toNat) (1:Int) (1000000:Int) s.Parts))
 (zrE S0 s zhG za7 zaq true zez)
 (zrE S0 s zhG za7 zaq (((zhG.get zaq.toNat).get 0).Energy != (1:Int)) zez))
 (zyG s zez))
def zyJ (s:Sky) (P0:(Sl (Sl FluxRow))->Int->Int->(Sl (Sl FluxRow))->Bool) (zhG:(Sl (Sl FluxRow))) (za7:Int) (zaq:Int) (zez:(Sl (Sl FluxRow))):Bool :=
  (cond (decide (zaq < za7))
 (decide ((0<=zaq/\zaq < (zhG.len:Int))) &&
 (decide ((zPS (zhG.get zaq.toNat) (1:Int) (1000000:Int) s.Parts=true)) &&
 (cond (!(zOP (zhG.get zaq.toNat) (1:Int) (1000000:Int) s.Parts))
 (zrF P0 s zhG za7 zaq true zez)
 (decide ((0<=(0:Int)/\(0:Int) < ((zhG.get zaq.toNat).len:Int))) &&
 (zrF P0 s zhG za7 zaq (((zhG.get zaq.toNat).get 0).Energy != (1:Int)) zez)))))
 true)
def zyK (s:Sky):Nat->(Sl (Sl FluxRow))->Int->Int->(Sl (Sl FluxRow))->Bool:=lpO (λ _ _ _ _=>default) (zyI s)
def zyL (s:Sky):Nat->(Sl (Sl FluxRow))->Int->Int->(Sl (Sl FluxRow))->Bool:=lpO (λ _ _ _ _=>false) (zyJ s)
def zyM (s:Sky) (zhG:(Sl (Sl FluxRow))) (za7:Int) (zaq:Int) (zez:(Sl (Sl FluxRow))):Bool:=zyK s Fuel zhG za7 zaq zez
def zyN (s:Sky) (zhG:(Sl (Sl FluxRow))) (za7:Int) (zaq:Int) (zez:(Sl (Sl FluxRow))):Bool:=zyL s Fuel zhG za7 zaq zez
theorem zGI (hs:zyN s zhG za7 zaq zez=true) (hk:K (e76 (zyM s zhG za7 zaq zez))) (zyO:zjK=zg zcl zhG) (zrG:zgj=zg zcl zez):z76 K [1,0,1,0] [] (zEg s zhG za7 zaq zez zjK zgj) :=
  zl (λ X=>z76 K [1,0,1,0,0] [X]) (by kernel_rfl) λ X0 hX =>
  (show ∀ k, zGF K s X0 (zyL s k) (zyK s k) from zgd _ _ (zyJ s) (zyI s) (zGF K s X0)
 (by intro _ _ _ _ _ _ hs;exact absurd hs dqk)
 (by intro P0 S0 hX0 zhG za7 zaq zez zjK zgj hs hk zyO zrG;subst zyO;subst zrG;exact hX _ (zaE (by kernel_rfl) (zc hs hk (λ hs hk=>(zaJ hs λ hc hs=>And.intro hc (zaJ hs λ hc hs=>And.intro (And.intro (zE zaZ 3 ((zhG.get zaq.toNat).get)) hc) (zc hs hk (λ hs hk=>(zyH hX0 hs hk rfl rfl)) (λ hs hk=>(zaJ hs λ hc hs=>And.intro hc (zyH hX0 hs hk rfl rfl))))))) (λ hs hk=>(zGG hk rfl)))))) _ hs hk zyO zrG
def s76 (s:Sky):Bool :=
  (zyM s s.Bins (s.Bins.len:Int) (0:Int) s.Bins)
def p76 (s:Sky):Bool :=
  (zyN s s.Bins (s.Bins.len:Int) (0:Int) s.Bins)
end
theorem q76 (s:Sky) (K:List PA->Prop) (hs:p76 s=true) (hk:K (e76 (s76 s))):vcFun Tryd.prog G76 zGE 76 [.agg (zps s)] K :=
  zaE (by kernel_rfl) (zGI hs hk rfl rfl)
def zGJ : List PA → COut
  | [.agg [.int .i64 zcm,.sl zbV zdY zb7,.int .i64 zbo,.int .i64 zba,.int .i64 zbb,.int .i64 zaT]]=>.det (IsE zcl 1 zdY zb7/\p76 (⟨zcm,(⟨zbV,zcv zb7⟩:(Sl (Sl FluxRow))),(⟨zbo,zba⟩:Span),(⟨zbb,zaT⟩:Span)⟩:Sky)=true) [.one (.bool (s76 (⟨zcm,(⟨zbV,zcv zb7⟩:(Sl (Sl FluxRow))),(⟨zbo,zba⟩:Span),(⟨zbb,zaT⟩:Span)⟩:Sky)))]
  | _=>.no
theorem zLL:zac Tryd.prog 76:=⟨_,rfl,rfl,by kernel_rfl⟩
theorem zTa:Ok Tryd.prog 76 zGJ:=zau zPU zLL λ args K h=>by
  unfold zGJ at h
  split at h
  · rename_i zcm zbV zdY zb7 zbo zba zbb zaT
    obtain⟨⟨⟨rfl,zcU,rfl⟩,hs⟩,hk⟩:=h
    try rw[zcw zcU] at hs
    try rw[zcw zcU] at hk
    exact⟨(λ _ _=>[]),(λ _=>false),zGE,q76 (⟨zcm,(⟨zbV,zcU⟩:(Sl (Sl FluxRow))),(⟨zbo,zba⟩:Span),(⟨zbb,zaT⟩:Span)⟩:Sky) K hs hk⟩
  · exact h.elim
abbrev zRN:Tabs:=Tabs.nil
theorem zLM:TabsOk Tryd.prog zRN:=TabsOk.nil
abbrev zTb:Ctrs:=csm zRN (λ _ _=>[]) (λ _=>false)
def zEj:Ann:=⟨5,[(0,zK [1] [1]),(1,zK [2] [])],
 [],
 [],
 [],[]⟩
abbrev zTc:=Int
abbrev zTd (r:zTc):List PA:=[.one (.int .i64 r)]
section
variable {K:List PA->Prop}{r_a0:RangeRow}
def zEk (r_a0:RangeRow):Int :=
  r_a0.Energy
end
theorem zTe (r_a0:RangeRow) (K:List PA->Prop) (hk:K (zTd (zEk r_a0))):vcFun Tryd.prog zTb zEj 106 [.agg (zaz r_a0)] K :=
  zaE (by kernel_rfl) hk
def zyP : List PA → COut
  | [.agg [.int .i64 zaM,.int .i64 zbn,.int .i64 zbc]]=>.tot [.one (.int .i64 (zEk (⟨zaM,(⟨zbn,zbc⟩:Span)⟩:RangeRow)))]
  | _=>.no
theorem zGK:zac Tryd.prog 106:=⟨_,rfl,rfl,by kernel_rfl⟩
theorem zPV:Ok Tryd.prog 106 zyP:=zau zLM zGK λ args K h=>by
  unfold zyP at h
  split at h
  · rename_i zaM zbn zbc
    have hk:=h
    exact⟨(λ _ _=>[]),(λ _=>false),zEj,zTe (⟨zaM,(⟨zbn,zbc⟩:Span)⟩:RangeRow) K hk⟩
  · exact h.elim
abbrev zRO:Tabs:=Tabs.nil
theorem zLN:TabsOk Tryd.prog zRO:=TabsOk.nil
abbrev zTf:Ctrs:=csm zRO (λ _ _=>[]) (λ _=>false)
def zEl:Ann:=⟨5,[(0,zK [1,2] [1,2]),(1,zK [2] [2])],
 [],
 [],
 [],[]⟩
abbrev zTg:=Span
abbrev zTh (r:zTg):List PA:=[.agg [.int .i64 r.Low,.int .i64 r.High]]
section
variable {K:List PA->Prop}{r_a0:RangeRow}
def zCO (r_a0:RangeRow):Span :=
  r_a0.Range
end
theorem zTi (r_a0:RangeRow) (K:List PA->Prop) (hk:K (zTh (zCO r_a0))):vcFun Tryd.prog zTf zEl 107 [.agg (zaz r_a0)] K :=
  zaE (by kernel_rfl) hk
def zyQ : List PA → COut
  | [.agg [.int .i64 zaM,.int .i64 zbn,.int .i64 zbc]]=>.tot [.agg [.int .i64 ((zCO (⟨zaM,(⟨zbn,zbc⟩:Span)⟩:RangeRow)).Low),.int .i64 ((zCO (⟨zaM,(⟨zbn,zbc⟩:Span)⟩:RangeRow)).High)]]
  | _=>.no
theorem zGL:zac Tryd.prog 107:=⟨_,rfl,rfl,by kernel_rfl⟩
theorem zPW:Ok Tryd.prog 107 zyQ:=zau zLN zGL λ args K h=>by
  unfold zyQ at h
  split at h
  · rename_i zaM zbn zbc
    have hk:=h
    exact⟨(λ _ _=>[]),(λ _=>false),zEl,zTi (⟨zaM,(⟨zbn,zbc⟩:Span)⟩:RangeRow) K hk⟩
  · exact h.elim
abbrev zRP:Tabs:=(((((Tabs.nil.addF 78 zrC).addF 104 zpP).addF 106 zyP).addF 107 zyQ).addF 108 zur)
theorem zLO:TabsOk Tryd.prog zRP:=(((((TabsOk.nil.addF zLB).addF zGy).addF zPV).addF zPW).addF zLH)
abbrev zRQ:Ctrs:=csm zRP (λ _ _=>[]) (λ _=>false)
def zyR:Ann:=⟨73,[(0,zK [0,1,2,3,4,5,6] []),(1,zK [0,1,2,3,4,5,6,17,18,19] []),(2,zK [0,1,2,3,4,5,6,17,18,19,20] []),(3,zK [0,1,2,3,4,5,6,15,16,17,18,19] [16]),(4,zK [0,1,2,3,4,5,6,15,16,17,18,19,38] [16]),(5,zK [14] []),(6,zK [0,1,2,3,4,5,6,17,18,19,68] []),(7,zK [14] []),(8,zK [0,1,2,3,4,5,6,17,18,19] []),(9,zK [14] [])],
 [(2,zK [0,1,2,3,4,5,6,17,18,19] [])],
 [(5,zK [0,1,2,3,4,5,6,15,16,17,18,19,38] [16]),(6,zK [0,1,2,3,4,5,6,15,16,17,18,19] [16]),(7,zK [0,1,2,3,4,5,6,17,18,19,68] [])],
 [],[]⟩
abbrev zTj:=Bool
abbrev zKi (r:zTj):List PA:=[.one (.bool r)]
@[irreducible] def z105:=ptF Tryd.prog zRQ zyR Tryd.f105
def zyS (rows:(Sl RangeRow)) (zab:Int) (until_a2:Int) (most:Int) (za0:Int):St:=⟨[(0,zS zaz 3 rows),(1,zI zab),(2,zI until_a2),(3,zP (.fn 106 [] [])),(4,zP (.fn 107 [] [])),(5,zI most),(6,zP (.fn 108 [] [])),(17,zS zaz 3 rows),(18,zI (rows.len:Int)),(19,zI za0)],[],[]⟩
abbrev zpS (K:List PA->Prop) (rows:(Sl RangeRow)) (zab:Int) (until_a2:Int) (most:Int) (X:St->Prop) (P:Int->Bool) (S:Int->Bool):Prop:=∀ ⦃za0:Int⦄,P za0=true->K (zKi (S za0))->X (zyS rows zab until_a2 most za0)
section
variable {K:List PA->Prop}{rows:(Sl RangeRow)}{zab:Int}{until_a2:Int}{most:Int}{za0:Int}{X0:St->Prop}{P0:Int->Bool}{S0:Int->Bool}{iv1:Int}{zhr:Int}{zhs:Bool}{zht:Int}{zhu:Int}{zhv:Int}{iv2:Int}{zey:Int}{zfu:Int}{zfv:Int}{zfw:Int}{zhw:Int}{zhx:Bool}
def zkd (S0:Int->Bool) (rows:(Sl RangeRow)) (zab:Int) (until_a2:Int) (most:Int) (zhw:Int) (zhx:Bool):Bool :=
  (cond zhx
 false
 (S0 (w64 (zhw+(1:Int)))))
def zke (P0:Int->Bool) (rows:(Sl RangeRow)) (zab:Int) (until_a2:Int) (most:Int) (zhw:Int) (zhx:Bool):Bool :=
  (cond zhx
 true
 (P0 (w64 (zhw+(1:Int)))))
theorem znu (hX0:zpS K rows zab until_a2 most X0 P0 S0) (hs:zke P0 rows zab until_a2 most zhw zhx=true) (hk:K (zKi (zkd S0 rows zab until_a2 most zhw zhx))):z105 K [1,0,1,0,0,1,1,0,0,1,1,1] [X0] ⟨[(0,zS zaz 3 rows),(1,zI zab),(2,zI until_a2),(3,zP (.fn 106 [] [])),(4,zP (.fn 107 [] [])),(5,zI most),(6,zP (.fn 108 [] [])),(17,zS zaz 3 rows),(18,zI (rows.len:Int)),(19,zI zhw),(68,zB zhx)],[],[]⟩:=zaE (by kernel_rfl) (zc hs hk (λ hs hk=>hk) (λ hs hk=>(hX0 hs hk)))
def zuB (S0:Int->Bool) (rows:(Sl RangeRow)) (zab:Int) (until_a2:Int) (most:Int) (iv2:Int) (zey:Int) (zfu:Int) (zfv:Int) (zfw:Int):Bool :=
  (cond (decide (iv2 > (0:Int)))
 (cond (decide ((zEk (⟨zfu, (⟨zfv, zfw⟩ : Span)⟩ : RangeRow)) <= (zEk (rows.get ((w64 (iv2 - (1:Int))).toNat)))))
 (zkd S0 rows zab until_a2 most zey true)
 (zkd S0 rows zab until_a2 most zey (!(zLG (zCO (rows.get ((w64 (iv2 - (1:Int))).toNat))) (zCO (⟨zfu,(⟨zfv,zfw⟩:Span)⟩:RangeRow))))))
 (zkd S0 rows zab until_a2 most zey false))
def zuC (P0:Int->Bool) (rows:(Sl RangeRow)) (zab:Int) (until_a2:Int) (most:Int) (iv2:Int) (zey:Int) (zfu:Int) (zfv:Int) (zfw:Int):Bool :=
  (cond (decide (iv2 > (0:Int)))
 (decide ((0<=(w64 (iv2 - (1:Int)))/\(w64 (iv2 - (1:Int))) < (rows.len:Int))) &&
 (cond (decide ((zEk (⟨zfu, (⟨zfv, zfw⟩ : Span)⟩ : RangeRow)) <= (zEk (rows.get ((w64 (iv2 - (1:Int))).toNat)))))
 (zke P0 rows zab until_a2 most zey true)
 (decide ((0<=(w64 (iv2 - (1:Int)))/\(w64 (iv2 - (1:Int))) < (rows.len:Int))) &&
 (zke P0 rows zab until_a2 most zey (!(zLG (zCO (rows.get ((w64 (iv2 - (1:Int))).toNat))) (zCO (⟨zfu,(⟨zfv,zfw⟩:Span)⟩:RangeRow))))))))
 (zke P0 rows zab until_a2 most zey false))
theorem zCP (hX0:zpS K rows zab until_a2 most X0 P0 S0) (hs:zuC P0 rows zab until_a2 most iv2 zey zfu zfv zfw=true) (hk:K (zKi (zuB S0 rows zab until_a2 most iv2 zey zfu zfv zfw))):z105 K [1,0,1,0,0,1,1,0,0,1,1] [X0] ⟨[(0,zS zaz 3 rows),(1,zI zab),(2,zI until_a2),(3,zP (.fn 106 [] [])),(4,zP (.fn 107 [] [])),(5,zI most),(6,zP (.fn 108 [] [])),(15,zI iv2),(16,zp 16 0),(17,zS zaz 3 rows),(18,zI (rows.len:Int)),(19,zI zey)],[(16,.box 137 [zi zfu,zi zfv,zi zfw])],[]⟩:=zaE (by kernel_rfl) (zc hs hk (λ hs hk=>(zaJ hs λ hc hs=>And.intro hc (zc hs hk (λ hs hk=>(znu hX0 hs hk)) (λ hs hk=>(zaJ hs λ hc hs=>And.intro hc (znu hX0 hs hk)))))) (λ hs hk=>(znu hX0 hs hk)))
def znv (S0:Int->Bool) (rows:(Sl RangeRow)) (zab:Int) (until_a2:Int) (most:Int) (iv1:Int) (zhr:Int) (zhs:Bool) (zht:Int) (zhu:Int) (zhv:Int):Bool :=
  (cond zhs
 false
 (zuB S0 rows zab until_a2 most iv1 zhr zht zhu zhv))
def znw (P0:Int->Bool) (rows:(Sl RangeRow)) (zab:Int) (until_a2:Int) (most:Int) (iv1:Int) (zhr:Int) (zhs:Bool) (zht:Int) (zhu:Int) (zhv:Int):Bool :=
  (cond zhs
 true
 (zuC P0 rows zab until_a2 most iv1 zhr zht zhu zhv))
theorem zuD (hX0:zpS K rows zab until_a2 most X0 P0 S0) (hs:znw P0 rows zab until_a2 most iv1 zhr zhs zht zhu zhv=true) (hk:K (zKi (znv S0 rows zab until_a2 most iv1 zhr zhs zht zhu zhv))):z105 K [1,0,1,0,0,1,1,0,0,1,0,1] [X0] ⟨[(0,zS zaz 3 rows),(1,zI zab),(2,zI until_a2),(3,zP (.fn 106 [] [])),(4,zP (.fn 107 [] [])),(5,zI most),(6,zP (.fn 108 [] [])),(15,zI iv1),(16,zp 16 0),(17,zS zaz 3 rows),(18,zI (rows.len:Int)),(19,zI zhr),(38,zB zhs)],[(16,.box 137 [zi zht,zi zhu,zi zhv])],[]⟩:=zaE (by kernel_rfl) (zc hs hk (λ hs hk=>hk) (λ hs hk=>(zCP hX0 hs hk)))
def zuE (rows:(Sl RangeRow)) (zab:Int) (until_a2:Int) (most:Int) (S0:Int->Bool) (za0:Int):Bool :=
  (cond (decide (za0 < (rows.len : Int)))
 (cond (!(s78 (zEk (rows.get za0.toNat)) zab until_a2))
 (znv S0 rows zab until_a2 most za0 za0 true ((rows.get za0.toNat).Energy) ((rows.get za0.toNat).Range.Low) ((rows.get za0.toNat).Range.High))
 (znv S0 rows zab until_a2 most za0 za0 (!(zEa (zCO (rows.get za0.toNat)) (0:Int) most)) ((rows.get za0.toNat).Energy) ((rows.get za0.toNat).Range.Low) ((rows.get za0.toNat).Range.High)))
 (s78 (rows.len:Int) (1:Int) (40:Int)))
def zuF (rows:(Sl RangeRow)) (zab:Int) (until_a2:Int) (most:Int) (P0:Int->Bool) (za0:Int):Bool :=
  (cond (decide (za0 < (rows.len : Int)))
 (decide ((0<=za0/\za0 < (rows.len:Int))) &&
 (cond (!(s78 (zEk (rows.get za0.toNat)) zab until_a2))
 (znw P0 rows zab until_a2 most za0 za0 true ((rows.get za0.toNat).Energy) ((rows.get za0.toNat).Range.Low) ((rows.get za0.toNat).Range.High))
 (znw P0 rows zab until_a2 most za0 za0 (!(zEa (zCO (rows.get za0.toNat)) (0:Int) most)) ((rows.get za0.toNat).Energy) ((rows.get za0.toNat).Range.Low) ((rows.get za0.toNat).Range.High))))
 true)
def zuG (rows:(Sl RangeRow)) (zab:Int) (until_a2:Int) (most:Int):Nat->Int->Bool:=lpO (λ _=>default) (zuE rows zab until_a2 most)
def zuH (rows:(Sl RangeRow)) (zab:Int) (until_a2:Int) (most:Int):Nat->Int->Bool:=lpO (λ _=>false) (zuF rows zab until_a2 most)
def zuI (rows:(Sl RangeRow)) (zab:Int) (until_a2:Int) (most:Int) (za0:Int):Bool:=zuG rows zab until_a2 most Fuel za0
def zuJ (rows:(Sl RangeRow)) (zab:Int) (until_a2:Int) (most:Int) (za0:Int):Bool:=zuH rows zab until_a2 most Fuel za0
theorem zCQ (hs:zuJ rows zab until_a2 most za0=true) (hk:K (zKi (zuI rows zab until_a2 most za0))):z105 K [1,0,1,0] [] (zyS rows zab until_a2 most za0) :=
  zl (λ X=>z105 K [1,0,1,0,0] [X]) (by kernel_rfl) λ X0 hX =>
  (show ∀ k, zpS K rows zab until_a2 most X0 (zuH rows zab until_a2 most k) (zuG rows zab until_a2 most k) from zgd _ _ (zuF rows zab until_a2 most) (zuE rows zab until_a2 most) (zpS K rows zab until_a2 most X0)
 (by intro _ hs;exact absurd hs dqk)
 (by intro P0 S0 hX0 za0 hs hk;exact hX _ (zaE (by kernel_rfl) (zc hs hk (λ hs hk=>(zaJ hs λ hc hs=>And.intro hc (zc hs hk (λ hs hk=>(zuD hX0 hs hk)) (λ hs hk=>(zuD hX0 hs hk))))) (λ hs hk=>hk))))) _ hs hk
def zPX (rows:(Sl RangeRow)) (zab:Int) (until_a2:Int) (most:Int):Bool :=
  (zuI rows zab until_a2 most (0:Int))
def zPY (rows:(Sl RangeRow)) (zab:Int) (until_a2:Int) (most:Int):Bool :=
  (zuJ rows zab until_a2 most (0:Int))
end
theorem zTk (rows:(Sl RangeRow)) (zab:Int) (until_a2:Int) (most:Int) (K:List PA->Prop) (hs:zPY rows zab until_a2 most=true) (hk:K (zKi (zPX rows zab until_a2 most))):vcFun Tryd.prog zRQ zyR 105 [.one (.sl rows.len 3 (λ i=>zaz (rows.get i))),.one (.int .i64 zab),.one (.int .i64 until_a2),.one (.fn 106 [] []),.one (.fn 107 [] []),.one (.int .i64 most),.one (.fn 108 [] [])] K :=
  zaE (by kernel_rfl) (zCQ hs hk)
def zyT : List PA → COut
  | [.one (.sl zbq zcO zbr),.one (.int .i64 a1),.one (.int .i64 a2),.one (.fn 106 [] []),.one (.fn 107 [] []),.one (.int .i64 a5),.one (.fn 108 [] [])]=>.det (IsE zaz 3 zcO zbr/\zPY (⟨zbq,zbB zbr⟩:(Sl RangeRow)) a1 a2 a5=true) [.one (.bool (zPX (⟨zbq,zbB zbr⟩:(Sl RangeRow)) a1 a2 a5))]
  | _=>.no
theorem zGM:zac Tryd.prog 105:=⟨_,rfl,rfl,by kernel_rfl⟩
theorem zPZ:Ok Tryd.prog 105 zyT:=zau zLO zGM λ args K h=>by
  unfold zyT at h
  split at h
  · rename_i zbq zcO zbr a1 a2 a5
    obtain⟨⟨⟨rfl,zb6,rfl⟩,hs⟩,hk⟩:=h
    try rw[zaQ zb6] at hs
    try rw[zaQ zb6] at hk
    exact⟨(λ _ _=>[]),(λ _=>false),zyR,zTk (⟨zbq,zb6⟩:(Sl RangeRow)) a1 a2 a5 K hs hk⟩
  · exact h.elim
abbrev T77:Tabs:=(Tabs.nil.addF 105 zyT)
theorem zP0:TabsOk Tryd.prog T77:=(TabsOk.nil.addF zPZ)
abbrev G77:Ctrs:=csm T77 (λ _ _=>[]) (λ _=>false)
def zLP:Ann:=⟨5,[(0,zK [0] []),(1,zK [2] [])],
 [],
 [],
 [],[]⟩
abbrev R77:=Bool
abbrev e77 (r:R77):List PA:=[.one (.bool r)]
section
variable {K:List PA->Prop}{t:(Sl RangeRow)}
def s77 (t:(Sl RangeRow)):Bool :=
  (zPX t (1:Int) (1000000:Int) (1000000:Int))
def p77 (t:(Sl RangeRow)):Bool :=
  (decide ((zPY t (1:Int) (1000000:Int) (1000000:Int)=true)) &&
 true)
end
theorem q77 (t:(Sl RangeRow)) (K:List PA->Prop) (hs:p77 t=true) (hk:K (e77 (s77 t))):vcFun Tryd.prog G77 zLP 77 [.one (.sl t.len 3 (λ i=>zaz (t.get i)))] K :=
  zaE (by kernel_rfl) (zaJ hs λ hc hs=>And.intro (And.intro (zE zaz 3 t.get) hc) hk)
def zGN : List PA → COut
  | [.one (.sl zbq zcO zbr)]=>.det (IsE zaz 3 zcO zbr/\p77 (⟨zbq,zbB zbr⟩:(Sl RangeRow))=true) [.one (.bool (s77 (⟨zbq,zbB zbr⟩:(Sl RangeRow))))]
  | _=>.no
theorem zLQ:zac Tryd.prog 77:=⟨_,rfl,rfl,by kernel_rfl⟩
theorem zTl:Ok Tryd.prog 77 zGN:=zau zP0 zLQ λ args K h=>by
  unfold zGN at h
  split at h
  · rename_i zbq zcO zbr
    obtain⟨⟨⟨rfl,zb6,rfl⟩,hs⟩,hk⟩:=h
    try rw[zaQ zb6] at hs
    try rw[zaQ zb6] at hk
    exact⟨(λ _ _=>[]),(λ _=>false),zLP,q77 (⟨zbq,zb6⟩:(Sl RangeRow)) K hs hk⟩
  · exact h.elim
abbrev T53:Tabs:=((((((Tabs.nil.addF 54 zCK).addF 76 zGJ).addF 77 zGN).addF 78 zrC).addF 79 zCD).addF 80 zCJ)
theorem zP1:TabsOk Tryd.prog T53:=((((((TabsOk.nil.addF zRF).addF zTa).addF zTl).addF zLB).addF zRA).addF zRE)
abbrev G53 (s:Sky) (t:(Sl RangeRow)) (bin:Int):Ctrs:=csm T53 (λ _=>zhq s t bin) (λ _=>false)
def zGO:Ann:=⟨33,[(0,zK [1,2,3,4] [4]),(1,zK [8,9] [14])],
 [],
 [],
 [],[]⟩
theorem zGP (s : Sky) (t : (Sl RangeRow)) (bin : Int) (opacity : Int) (K : List PA → Prop) :
  vcFun Tryd.prog (G53 s t bin) zGO 53 [.agg [.int .i64 s.Parts,.sl s.Bins.len 1 (λ i=>zcl (s.Bins.get i)),.int .i64 s.Beta.Low,.int .i64 s.Beta.High,.int .i64 s.Alpha.Low,.int .i64 s.Alpha.High],.one (.sl t.len 3 (λ i=>zaz (t.get i))),.one (.int .i64 bin),.one (.int .i64 opacity)] K =
  (((True)) /\
 ((IsE zcl 1 1 (λ i=>zcl (s.Bins.get i))/\(p76 s=true)) /\
 (zdK (s76 s)
 ((IsE zaz 3 3 (λ i=>zaz (t.get i))/\(p77 t=true)) /\
 (zdK (s77 t)
 (zdK (s78 bin (0:Int) (w64 ((s.Bins.len : Int) - (1:Int))))
 (K [.one (.fp (zgg (⟨s,t,(zhq s t bin)⟩:ground)) 0),.one (.bool (s78 opacity (0:Int) (1000000:Int)))])
 (K [.one (.fp (zgg (⟨s,t,(zhq s t bin)⟩:ground)) 0),.one (.bool false)]))
 (K [.one (.fp (zgg (⟨s,t,(zhq s t bin)⟩:ground)) 0),.one (.bool false)])))
 (K [.one (.fp (zgg (⟨s,t,(zhq s t bin)⟩:ground)) 0),.one (.bool false)])))):=by kernel_rfl
abbrev e53 (r:(ground×Bool)):List PA:=[.one (.fp (zgg r.1) 0),.one (.bool r.2)]
def s53 (s:Sky) (t:(Sl RangeRow)) (bin:Int) (opacity:Int):(ground×Bool) :=
  (cond (s76 s)
 (cond (s77 t)
 (cond (s78 bin (0:Int) (w64 ((s.Bins.len : Int) - (1:Int))))
 ((⟨s,t,(zhq s t bin)⟩:ground),(s78 opacity (0:Int) (1000000:Int)))
 ((⟨s,t,(zhq s t bin)⟩:ground),false))
 ((⟨s,t,(zhq s t bin)⟩:ground),false))
 ((⟨s,t,(zhq s t bin)⟩:ground),false))
def p53 (s:Sky) (t:(Sl RangeRow)) (bin:Int) (opacity:Int):Bool :=
  (decide ((True)) &&
 (decide ((p76 s=true)) &&
 (cond (s76 s)
 (decide ((p77 t=true)) &&
 true)
 true)))
theorem q53 (s:Sky) (t:(Sl RangeRow)) (bin:Int) (opacity:Int) (K:List PA->Prop) (hs:p53 s t bin opacity=true) (hk:K (e53 (s53 s t bin opacity))):vcFun Tryd.prog (G53 s t bin) zGO 53 [.agg [.int .i64 s.Parts,.sl s.Bins.len 1 (λ i=>zcl (s.Bins.get i)),.int .i64 s.Beta.Low,.int .i64 s.Beta.High,.int .i64 s.Alpha.Low,.int .i64 s.Alpha.High],.one (.sl t.len 3 (λ i=>zaz (t.get i))),.one (.int .i64 bin),.one (.int .i64 opacity)] K:=by
  refine zaE (zGP s t bin opacity K) ?_
  unfold p53 at hs
  unfold s53 at hk
  exact (zaJ hs λ hc hs => ⟨hc, (zaJ hs λ hc hs => ⟨⟨isE, hc⟩, (zCr (K := λ r => K (e53 r))
 (λ hs hk => (zaJ hs λ hc hs => ⟨⟨isE, hc⟩, (zt2 (K := λ r => K (e53 r))
 (λ hk => (zt2 (K := λ r => K (e53 r))
 (λ hk=>hk)
 (λ hk=>hk) hk))
 (λ hk=>hk) hk)⟩))
 (λ hs hk=>hk) hs hk)⟩)⟩)
theorem k53 (s:Sky) (t:Sl RangeRow) (bin opacity:Int):(s53 s t bin opacity).1.known=zhq (s53 s t bin opacity).1.Sky (s53 s t bin opacity).1.table bin:=by
  unfold s53
  generalize s76 s=b1
  generalize s77 t=b2
  cases b1
  · rfl
  · cases b2
    · rfl
    · generalize s78 bin _ _ = b3
      cases b3 <;> rfl
def zGQ : List PA → COut
  | [.agg [.int .i64 zcm,.sl zbV zdY zb7,.int .i64 zbo,.int .i64 zba,.int .i64 zbb,.int .i64 zaT],.one (.sl zeK zlQ zeL),.one (.int .i64 a2),.one (.int .i64 a3)]=>.det (IsE zcl 1 zdY zb7/\IsE zaz 3 zlQ zeL/\p53 (⟨zcm,(⟨zbV,zcv zb7⟩:(Sl (Sl FluxRow))),(⟨zbo,zba⟩:Span),(⟨zbb,zaT⟩:Span)⟩:Sky) (⟨zeK,zbB zeL⟩:(Sl RangeRow)) a2 a3=true) [.one (.fp (zgg ((s53 (⟨zcm,(⟨zbV,zcv zb7⟩:(Sl (Sl FluxRow))),(⟨zbo,zba⟩:Span),(⟨zbb,zaT⟩:Span)⟩:Sky) (⟨zeK,zbB zeL⟩:(Sl RangeRow)) a2 a3).1)) 0),.one (.bool ((s53 (⟨zcm,(⟨zbV,zcv zb7⟩:(Sl (Sl FluxRow))),(⟨zbo,zba⟩:Span),(⟨zbb,zaT⟩:Span)⟩:Sky) (⟨zeK,zbB zeL⟩:(Sl RangeRow)) a2 a3).2))]
  | _=>.no
theorem zLR:zac Tryd.prog 53:=⟨_,rfl,rfl,by kernel_rfl⟩
theorem zTm:Ok Tryd.prog 53 zGQ:=zau zP1 zLR λ args K h=>by
  unfold zGQ at h
  split at h
  · rename_i zcm zbV zdY zb7 zbo zba zbb zaT zeK zlQ zeL a2 a3
    obtain⟨⟨⟨rfl,zcU,rfl⟩,⟨rfl,zin,rfl⟩,hs⟩,hk⟩:=h
    try rw[zcw zcU] at hs
    try rw[zcw zcU] at hk
    try rw[zaQ zin] at hs
    try rw[zaQ zin] at hk
    exact⟨(λ _=>zhq (⟨zcm,(⟨zbV,zcU⟩:(Sl (Sl FluxRow))),(⟨zbo,zba⟩:Span),(⟨zbb,zaT⟩:Span)⟩:Sky) (⟨zeK,zin⟩:(Sl RangeRow)) a2),(λ _=>false),zGO,q53 (⟨zcm,(⟨zbV,zcU⟩:(Sl (Sl FluxRow))),(⟨zbo,zba⟩:Span),(⟨zbb,zaT⟩:Span)⟩:Sky) (⟨zeK,zin⟩:(Sl RangeRow)) a2 a3 K hs hk⟩
  · exact h.elim
abbrev T25:Tabs:=((Tabs.nil.addF 53 zGQ).addF 54 zCK)
theorem zP2:TabsOk Tryd.prog T25:=((TabsOk.nil.addF zTm).addF zRF)
abbrev G25:Ctrs:=csm T25 (λ _ _=>[]) (λ _=>false)
def zLS:Ann:=⟨27,[(0,zK [1,2,3,4,8] [4,8]),(1,zK [2,3,8,10,11] [8]),(2,zK [2,3,8,10,21] [8]),(3,zK [8,9] [8]),(4,zK [8,9] [8])],
 [],
 [],
 [],[]⟩
abbrev R25:=(Span×Int)
abbrev e25 (r:R25):List PA:=[.agg [.int .i64 r.1.Low,.int .i64 r.1.High],.one (.int .i64 r.2)]
section
variable {K:List PA->Prop}{s:Sky}{t:(Sl RangeRow)}{bin:Int}{opacity:Int}
def s25 (s:Sky) (t:(Sl RangeRow)) (bin:Int) (opacity:Int):(Span×Int) :=
  (cond (!((s53 s t bin opacity).2))
 ((⟨(0:Int),(0:Int)⟩:Span),(2:Int))
 ((s54 (((s53 s t bin opacity).1).Sky) (((s53 s t bin opacity).1).table) bin opacity),(0:Int)))
def p25 (s:Sky) (t:(Sl RangeRow)) (bin:Int) (opacity:Int):Bool :=
  (decide ((p53 s t bin opacity=true)) &&
 (cond (!((s53 s t bin opacity).2))
 true
 (decide ((p54 (((s53 s t bin opacity).1).Sky) (((s53 s t bin opacity).1).table) bin opacity=true)) &&
 true)))
end
theorem q25 (s:Sky) (t:(Sl RangeRow)) (bin:Int) (opacity:Int) (K:List PA->Prop) (hs:p25 s t bin opacity=true) (hk:K (e25 (s25 s t bin opacity))):vcFun Tryd.prog G25 zLS 25 [.agg (zps s),.one (.sl t.len 3 (λ i=>zaz (t.get i))),.one (.int .i64 bin),.one (.int .i64 opacity)] K :=
  zaE (by kernel_rfl) (zaJ hs λ hc hs=>And.intro (And.intro (zE zcl 1 s.Bins.get) (And.intro (zE zaz 3 t.get) hc)) (zc hs hk (λ hs hk=>hk) (λ hs hk=>(zaJ hs λ hc hs=>And.intro (And.intro (zE zcl 1 (((s53 s t bin opacity).1).Sky.Bins.get)) (And.intro (zE zaz 3 (((s53 s t bin opacity).1).table.get)) (And.intro ((k53 s t bin opacity):((s53 s t bin opacity).1).known=(zhq (((s53 s t bin opacity).1).Sky) (((s53 s t bin opacity).1).table) bin)) hc))) hk))))
def zGR : List PA → COut
  | [.agg [.int .i64 zcm,.sl zbV zdY zb7,.int .i64 zbo,.int .i64 zba,.int .i64 zbb,.int .i64 zaT],.one (.sl zeK zlQ zeL),.one (.int .i64 a2),.one (.int .i64 a3)]=>.det (IsE zcl 1 zdY zb7/\IsE zaz 3 zlQ zeL/\p25 (⟨zcm,(⟨zbV,zcv zb7⟩:(Sl (Sl FluxRow))),(⟨zbo,zba⟩:Span),(⟨zbb,zaT⟩:Span)⟩:Sky) (⟨zeK,zbB zeL⟩:(Sl RangeRow)) a2 a3=true) [.agg [.int .i64 (((s25 (⟨zcm,(⟨zbV,zcv zb7⟩:(Sl (Sl FluxRow))),(⟨zbo,zba⟩:Span),(⟨zbb,zaT⟩:Span)⟩:Sky) (⟨zeK,zbB zeL⟩:(Sl RangeRow)) a2 a3).1).Low),.int .i64 (((s25 (⟨zcm,(⟨zbV,zcv zb7⟩:(Sl (Sl FluxRow))),(⟨zbo,zba⟩:Span),(⟨zbb,zaT⟩:Span)⟩:Sky) (⟨zeK,zbB zeL⟩:(Sl RangeRow)) a2 a3).1).High)],.one (.int .i64 ((s25 (⟨zcm,(⟨zbV,zcv zb7⟩:(Sl (Sl FluxRow))),(⟨zbo,zba⟩:Span),(⟨zbb,zaT⟩:Span)⟩:Sky) (⟨zeK,zbB zeL⟩:(Sl RangeRow)) a2 a3).2))]
  | _=>.no
theorem zLT:zac Tryd.prog 25:=⟨_,rfl,rfl,by kernel_rfl⟩
theorem zTn:Ok Tryd.prog 25 zGR:=zau zP2 zLT λ args K h=>by
  unfold zGR at h
  split at h
  · rename_i zcm zbV zdY zb7 zbo zba zbb zaT zeK zlQ zeL a2 a3
    obtain⟨⟨⟨rfl,zcU,rfl⟩,⟨rfl,zin,rfl⟩,hs⟩,hk⟩:=h
    try rw[zcw zcU] at hs
    try rw[zcw zcU] at hk
    try rw[zaQ zin] at hs
    try rw[zaQ zin] at hk
    exact⟨(λ _ _=>[]),(λ _=>false),zLS,q25 (⟨zcm,(⟨zbV,zcU⟩:(Sl (Sl FluxRow))),(⟨zbo,zba⟩:Span),(⟨zbb,zaT⟩:Span)⟩:Sky) (⟨zeK,zin⟩:(Sl RangeRow)) a2 a3 K hs hk⟩
  · exact h.elim
abbrev T26:Tabs:=Tabs.nil
theorem zP3:TabsOk Tryd.prog T26:=TabsOk.nil
abbrev G26:Ctrs:=csm T26 (λ _ _=>[]) (λ _=>false)
def zLU:Ann:=⟨14,[(0,zK [0] [0]),(1,zK [0] [0,10])],
 [],
 [],
 [],[]⟩
abbrev R26:=Sky
abbrev e26 (r:R26):List PA:=[.agg [.int .i64 r.Parts,.sl r.Bins.len 1 (λ i=>zcl (r.Bins.get i)),.int .i64 r.Beta.Low,.int .i64 r.Beta.High,.int .i64 r.Alpha.Low,.int .i64 r.Alpha.High]]
section
variable {K:List PA->Prop}
def s26:Sky :=
  (⟨(1000:Int),(⟨1,λ _=>(⟨4,(zqn (⟨(1:Int),(⟨(400:Int),(500:Int)⟩:Span)⟩:FluxRow) [(⟨(1:Int),(⟨(400:Int),(500:Int)⟩:Span)⟩:FluxRow),(⟨(20:Int),(⟨(200:Int),(260:Int)⟩:Span)⟩:FluxRow),(⟨(50:Int),(⟨(80:Int),(100:Int)⟩:Span)⟩:FluxRow),(⟨(120:Int),(⟨(20:Int),(30:Int)⟩:Span)⟩:FluxRow)])⟩:(Sl FluxRow))⟩:(Sl (Sl FluxRow))),(⟨(2:Int),(3:Int)⟩:Span),(⟨(0:Int),(1:Int)⟩:Span)⟩:Sky)
end
theorem q26 (K:List PA->Prop) (hk:K (e26 (s26))):vcFun Tryd.prog G26 zLU 26 [] K :=
  zaE (by kernel_rfl) (Eq.mpr (congrArg K (congrArg (λ (g_:Nat->List PV)=>([.agg [.int .i64 (1000:Int),.sl 1 1 (λ _=>[.sl 4 3 g_]),.int .i64 (2:Int),.int .i64 (3:Int),.int .i64 (0:Int),.int .i64 (1:Int)]]:List PA)) (znk (enc:=zaZ) (x:=(⟨(1:Int),(⟨(400:Int),(500:Int)⟩:Span)⟩:FluxRow)) (y:=(⟨(20:Int),(⟨(200:Int),(260:Int)⟩:Span)⟩:FluxRow)) (r:=[(⟨(50:Int),(⟨(80:Int),(100:Int)⟩:Span)⟩:FluxRow),(⟨(120:Int),(⟨(20:Int),(30:Int)⟩:Span)⟩:FluxRow)])))) hk)
def zGS : List PA → COut
  | []=>.tot [.agg [.int .i64 ((s26).Parts),.sl ((s26).Bins.len) 1 (λ i=>zcl ((s26).Bins.get i)),.int .i64 ((s26).Beta.Low),.int .i64 ((s26).Beta.High),.int .i64 ((s26).Alpha.Low),.int .i64 ((s26).Alpha.High)]]
  | _=>.no
theorem zLV:zac Tryd.prog 26:=⟨_,rfl,rfl,by kernel_rfl⟩
theorem zTo:Ok Tryd.prog 26 zGS:=zau zP3 zLV λ args K h=>by
  unfold zGS at h
  split at h
  · have hk := h
    exact⟨(λ _ _=>[]),(λ _=>false),zLU,q26 K hk⟩
  · exact h.elim
abbrev T27:Tabs:=Tabs.nil
theorem zP4:TabsOk Tryd.prog T27:=TabsOk.nil
abbrev G27:Ctrs:=csm T27 (λ _ _=>[]) (λ _=>false)
def zLW:Ann:=⟨8,[(0,zK [] []),(1,zK [0] [7])],
 [],
 [],
 [],[]⟩
abbrev R27:=(Sl RangeRow)
abbrev e27 (r:R27):List PA:=[.one (.sl r.len 3 (λ i=>zaz (r.get i)))]
section
variable {K:List PA->Prop}
def s27:(Sl RangeRow) :=
  (⟨3,(zqn (⟨(10:Int),(⟨(20:Int),(30:Int)⟩:Span)⟩:RangeRow) [(⟨(10:Int),(⟨(20:Int),(30:Int)⟩:Span)⟩:RangeRow),(⟨(40:Int),(⟨(90:Int),(120:Int)⟩:Span)⟩:RangeRow),(⟨(100:Int),(⟨(250:Int),(300:Int)⟩:Span)⟩:RangeRow)])⟩:(Sl RangeRow))
end
theorem q27 (K:List PA->Prop) (hk:K (e27 (s27))):vcFun Tryd.prog G27 zLW 27 [] K :=
  zaE (by kernel_rfl) (Eq.mpr (congrArg K (congrArg (λ (g_:Nat->List PV)=>([.one (.sl 3 3 g_)]:List PA)) (znk (enc:=zaz) (x:=(⟨(10:Int),(⟨(20:Int),(30:Int)⟩:Span)⟩:RangeRow)) (y:=(⟨(40:Int),(⟨(90:Int),(120:Int)⟩:Span)⟩:RangeRow)) (r:=[(⟨(100:Int),(⟨(250:Int),(300:Int)⟩:Span)⟩:RangeRow)])))) hk)
def zGT : List PA → COut
  | []=>.tot [.one (.sl ((s27).len) 3 (λ i=>zaz ((s27).get i)))]
  | _=>.no
theorem zLX:zac Tryd.prog 27:=⟨_,rfl,rfl,by kernel_rfl⟩
theorem zTp:Ok Tryd.prog 27 zGT:=zau zP4 zLX λ args K h=>by
  unfold zGT at h
  split at h
  · have hk := h
    exact⟨(λ _ _=>[]),(λ _=>false),zLW,q27 K hk⟩
  · exact h.elim
abbrev T56:Tabs:=Tabs.nil
theorem zP5:TabsOk Tryd.prog T56:=TabsOk.nil
abbrev G56:Ctrs:=csm T56 (λ _ _=>[]) (λ _=>false)
def zLY:Ann:=⟨15,[(0,zK [0,1,2] []),(1,zK [6] [])],
 [],
 [],
 [],[]⟩
abbrev R56:=Bool
abbrev e56 (r:R56):List PA:=[.one (.bool r)]
section
variable {K:List PA->Prop}{n:Int}{low:Int}{high:Int}
def s56 (n:Int) (low:Int) (high:Int):Bool :=
  (cond (decide (n >= low))
 (decide (n<=high))
 false)
end
theorem q56 (n:Int) (low:Int) (high:Int) (K:List PA->Prop) (hk:K (e56 (s56 n low high))):vcFun Tryd.prog G56 zLY 56 [.one (.int .i64 n),.one (.int .i64 low),.one (.int .i64 high)] K :=
  zaE (by kernel_rfl) (zt hk (λ hk=>hk) (λ hk=>hk))
def zCR : List PA → COut
  | [.one (.int .i64 a0),.one (.int .i64 a1),.one (.int .i64 a2)]=>.tot [.one (.bool (s56 a0 a1 a2))]
  | _=>.no
theorem zLZ:zac Tryd.prog 56:=⟨_,rfl,rfl,by kernel_rfl⟩
theorem zRR:Ok Tryd.prog 56 zCR:=zau zP5 zLZ λ args K h=>by
  unfold zCR at h
  split at h
  · rename_i a0 a1 a2
    have hk:=h
    exact⟨(λ _ _=>[]),(λ _=>false),zLY,q56 a0 a1 a2 K hk⟩
  · exact h.elim
abbrev T55:Tabs:=(Tabs.nil.addF 56 zCR)
theorem zP6:TabsOk Tryd.prog T55:=(TabsOk.nil.addF zRR)
abbrev G55:Ctrs:=csm T55 (λ _ _=>[]) (λ _=>false)
def zGU:Ann:=⟨28,[(0,zK [0,1] []),(1,zK [0,1,13] []),(2,zK [4,5] []),(3,zK [0,1,15] []),(4,zK [4,5] []),(5,zK [0,1,6] []),(6,zK [1,6,16,17] []),(7,zK [1,6,16,17,18] []),(8,zK [1,6,16,17,22] []),(9,zK [4,5] []),(10,zK [1,6,16,17] []),(11,zK [1,6,16,17] []),(12,zK [4,5] [])],
 [(7,zK [1,6,16,17] [])],
 [(2,zK [0,1,13] []),(3,zK [0,1] []),(5,zK [0,1] [])],
 [],[]⟩
abbrev R55:=(Int×Int)
abbrev e55 (r:R55):List PA:=[.one (.int .i64 r.1),.one (.int .i64 r.2)]
@[irreducible] def z55:=ptF Tryd.prog G55 zGU Tryd.f55
def zEm (slots:Int) (parts:Int) (nv3:Int) (zdI:Int):St:=⟨[(1,zI parts),(6,zI nv3),(16,zI slots),(17,zI zdI)],[],[]⟩
abbrev zL0 (K:List PA->Prop) (slots:Int) (parts:Int) (X:St->Prop) (P:Int->Int->Bool) (S:Int->Int->(Int×Int)):Prop:=∀ ⦃nv3:Int⦄ ⦃zdI:Int⦄,P nv3 zdI=true->K (e55 (S nv3 zdI))->X (zEm slots parts nv3 zdI)
section
variable {K:List PA->Prop}{slots:Int}{parts:Int}{zhy:Bool}{nv3:Int}{zdI:Int}{X3:St->Prop}{P3:Int->Int->Bool}{S3:Int->Int->(Int×Int)}
def zyU (slots:Int) (parts:Int) (S3:Int->Int->(Int×Int)) (nv3:Int) (zdI:Int):(Int×Int) :=
  (cond (decide (zdI < slots))
 (cond (decide (nv3 > (w64 ((1152921504606846976:Int).tdiv parts))))
 ((0:Int),(3:Int))
 (S3 (w64 (nv3 * parts)) (w64 (zdI+(1:Int)))))
 (nv3,(0:Int)))
def zyV (slots:Int) (parts:Int) (P3:Int->Int->Bool) (nv3:Int) (zdI:Int):Bool :=
  (cond (decide (zdI < slots))
 (decide ((parts ≠ 0)) &&
 (cond (decide (nv3 > (w64 ((1152921504606846976:Int).tdiv parts))))
 true
 (P3 (w64 (nv3 * parts)) (w64 (zdI+(1:Int))))))
 true)
def zyW (slots:Int) (parts:Int):Nat->Int->Int->(Int×Int):=lpO (λ _ _=>default) (zyU slots parts)
def zyX (slots:Int) (parts:Int):Nat->Int->Int->Bool:=lpO (λ _ _=>false) (zyV slots parts)
def zyY (slots:Int) (parts:Int) (nv3:Int) (zdI:Int):(Int×Int):=zyW slots parts Fuel nv3 zdI
def zyZ (slots:Int) (parts:Int) (nv3:Int) (zdI:Int):Bool:=zyX slots parts Fuel nv3 zdI
theorem zGV (hs:zyZ slots parts nv3 zdI=true) (hk:K (e55 (zyY slots parts nv3 zdI))):z55 K [1,1,1,1,0,1,0] [] (zEm slots parts nv3 zdI) :=
  zl (λ X=>z55 K [1,1,1,1,0,1,0,0] [X]) (by kernel_rfl) λ X3 hX =>
  (show ∀ k, zL0 K slots parts X3 (zyX slots parts k) (zyW slots parts k) from zgd _ _ (zyV slots parts) (zyU slots parts) (zL0 K slots parts X3)
 (by intro _ _ hs;exact absurd hs dqk)
 (by intro P3 S3 hX3 nv3 zdI hs hk;exact hX _ (zaE (by kernel_rfl) (zc hs hk (λ hs hk=>(zaJ hs λ hc hs=>And.intro hc (zc hs hk (λ hs hk=>hk) (λ hs hk=>(hX3 hs hk))))) (λ hs hk=>hk))))) _ hs hk
def zy0 (slots:Int) (parts:Int):(Int×Int) :=
  (zyY slots parts (1:Int) (0:Int))
def zy1 (slots:Int) (parts:Int):Bool :=
  (zyZ slots parts (1:Int) (0:Int))
theorem zGW (hs:zy1 slots parts=true) (hk:K (e55 (zy0 slots parts))):z55 K [1,1,1] [] ⟨[(0,zI slots),(1,zI parts)],[],[]⟩:=zaE (by kernel_rfl) (zGV hs hk)
def zy2 (slots:Int) (parts:Int):(Int×Int) :=
  (cond (decide (slots > (12:Int)))
 ((0:Int),(3:Int))
 (zy0 slots parts))
def zy3 (slots:Int) (parts:Int):Bool :=
  (cond (decide (slots > (12:Int)))
 true
 (zy1 slots parts))
theorem zGX (hs:zy3 slots parts=true) (hk:K (e55 (zy2 slots parts))):z55 K [1,1] [] ⟨[(0,zI slots),(1,zI parts)],[],[]⟩:=zaE (by kernel_rfl) (zc hs hk (λ hs hk=>hk) (λ hs hk=>(zGW hs hk)))
def zrH (slots:Int) (parts:Int) (zhy:Bool):(Int×Int) :=
  (cond zhy
 ((0:Int),(2:Int))
 (zy2 slots parts))
def zrI (slots:Int) (parts:Int) (zhy:Bool):Bool :=
  (cond zhy
 true
 (zy3 slots parts))
theorem zy4 (hs:zrI slots parts zhy=true) (hk:K (e55 (zrH slots parts zhy))):z55 K [1,0,1] [] ⟨[(0,zI slots),(1,zI parts),(13,zB zhy)],[],[]⟩:=zaE (by kernel_rfl) (zc hs hk (λ hs hk=>hk) (λ hs hk=>(zGX hs hk)))
def s55 (slots:Int) (parts:Int):(Int×Int) :=
  (cond (!(s56 parts (2:Int) (1000:Int)))
 (zrH slots parts true)
 (zrH slots parts (decide (slots < (0:Int)))))
def p55 (slots:Int) (parts:Int):Bool :=
  (cond (!(s56 parts (2:Int) (1000:Int)))
 (zrI slots parts true)
 (zrI slots parts (decide (slots < (0:Int)))))
end
theorem q55 (slots:Int) (parts:Int) (K:List PA->Prop) (hs:p55 slots parts=true) (hk:K (e55 (s55 slots parts))):vcFun Tryd.prog G55 zGU 55 [.one (.int .i64 slots),.one (.int .i64 parts)] K :=
  zaE (by kernel_rfl) (zc hs hk (λ hs hk=>(zy4 hs hk)) (λ hs hk=>(zy4 hs hk)))
def zGY : List PA → COut
  | [.one (.int .i64 a0),.one (.int .i64 a1)]=>.det (p55 a0 a1=true) [.one (.int .i64 ((s55 a0 a1).1)),.one (.int .i64 ((s55 a0 a1).2))]
  | _=>.no
theorem zL1:zac Tryd.prog 55:=⟨_,rfl,rfl,by kernel_rfl⟩
theorem zTq:Ok Tryd.prog 55 zGY:=zau zP6 zL1 λ args K h=>by
  unfold zGY at h
  split at h
  · rename_i a0 a1
    obtain⟨hs,hk⟩:=h
    exact⟨(λ _ _=>[]),(λ _=>false),zGU,q55 a0 a1 K hs hk⟩
  · exact h.elim
abbrev T57:Tabs:=Tabs.nil
theorem zP7:TabsOk Tryd.prog T57:=TabsOk.nil
abbrev G57:Ctrs:=csm T57 (λ _ _=>[]) (λ _=>false)
def zGZ:Ann:=⟨4,[(0,zK [1] [1]),(1,zK [2] [])],
 [],
 [],
 [],[]⟩
theorem zG0 (slots : Int) (K : List PA → Prop) :
  vcFun Tryd.prog G57 zGZ 57 [.one (.int .i64 slots)] K =
  (K [.one (.fn 81 [] [.fp (zaL slots) 0])]):=by kernel_rfl
theorem q57 (slots:Int) (K:List PA->Prop) (hk:K [.one (.fn 81 [] [.fp [.int .i64 slots] 0])]):vcFun Tryd.prog G57 zGZ 57 [.one (.int .i64 slots)] K:=zaE (zG0 slots K) hk
def zG1 : List PA → COut
  | [.one (.int .i64 a0)]=>.det (True) [.one (.fn 81 [] [.fp [.int .i64 a0] 0])]
  | _=>.no
theorem zL2:zac Tryd.prog 57:=⟨_,rfl,rfl,by kernel_rfl⟩
theorem zTr:Ok Tryd.prog 57 zG1:=zau zP7 zL2 λ args K h=>by
  unfold zG1 at h
  split at h
  · rename_i a0
    obtain⟨_,hk⟩:=h
    exact⟨λ _ _=>[],λ _=>false,zGZ,q57 a0 K hk⟩
  · exact h.elim
abbrev T58:Tabs:=Tabs.nil
theorem zP8:TabsOk Tryd.prog T58:=TabsOk.nil
abbrev G58:Ctrs:=csm T58 (λ _ _=>[]) (λ _=>false)
def zG2:Ann:=⟨27,[(0,zK [0,1,2] []),(1,zK [0,1,2,7] []),(2,zK [1,2,7,10,11,12] []),(3,zK [1,2,7,10,11,12,13] []),(4,zK [1,2,7,9,10,11,12] []),(5,zK [1,2,7,10,11,12,16] []),(6,zK [1,2,7,10,11,12] []),(7,zK [1,2,7,10,11,12] []),(8,zK [1,2,7,10,11,12] []),(9,zK [6] [])],
 [(3,zK [1,2,7,10,11,12] [])],
 [],
 [],[]⟩
abbrev R58:=Int
abbrev e58 (r:R58):List PA:=[.one (.int .i64 r)]
@[irreducible] def z58:=ptF Tryd.prog G58 zG2 Tryd.f58
def zEn (slots:(Sl Bool)) (parts:Int) (rate:Int) (nv0:Int) (zaI:Int):St:=⟨[(1,zI parts),(2,zI rate),(7,zI nv0),(10,zS zdk 1 slots),(11,zI (slots.len:Int)),(12,zI zaI)],[],[]⟩
abbrev zL3 (K:List PA->Prop) (slots:(Sl Bool)) (parts:Int) (rate:Int) (X:St->Prop) (P:Int->Int->Bool) (S:Int->Int->Int):Prop:=∀ ⦃nv0:Int⦄ ⦃zaI:Int⦄,P nv0 zaI=true->K (e58 (S nv0 zaI))->X (zEn slots parts rate nv0 zaI)
section
variable {K:List PA->Prop}{slots:(Sl Bool)}{parts:Int}{rate:Int}{nv0:Int}{zaI:Int}{X0:St->Prop}{P0:Int->Int->Bool}{S0:Int->Int->Int}
def zy5 (slots:(Sl Bool)) (parts:Int) (rate:Int) (S0:Int->Int->Int) (nv0:Int) (zaI:Int):Int :=
  (cond (decide (zaI < (slots.len : Int)))
 (cond (slots.get zaI.toNat)
 (S0 (w64 (nv0 * rate)) (w64 (zaI+(1:Int))))
 (S0 (w64 (nv0 * (w64 (parts - rate)))) (w64 (zaI+(1:Int)))))
 nv0)
def zy6 (slots:(Sl Bool)) (parts:Int) (rate:Int) (P0:Int->Int->Bool) (nv0:Int) (zaI:Int):Bool :=
  (cond (decide (zaI < (slots.len : Int)))
 (decide ((0<=zaI/\zaI < (slots.len:Int))) &&
 (cond (slots.get zaI.toNat)
 (P0 (w64 (nv0 * rate)) (w64 (zaI+(1:Int))))
 (P0 (w64 (nv0 * (w64 (parts - rate)))) (w64 (zaI+(1:Int))))))
 true)
def zy7 (slots:(Sl Bool)) (parts:Int) (rate:Int):Nat->Int->Int->Int:=lpO (λ _ _=>default) (zy5 slots parts rate)
def zy8 (slots:(Sl Bool)) (parts:Int) (rate:Int):Nat->Int->Int->Bool:=lpO (λ _ _=>false) (zy6 slots parts rate)
def zy9 (slots:(Sl Bool)) (parts:Int) (rate:Int) (nv0:Int) (zaI:Int):Int:=zy7 slots parts rate Fuel nv0 zaI
def zza (slots:(Sl Bool)) (parts:Int) (rate:Int) (nv0:Int) (zaI:Int):Bool:=zy8 slots parts rate Fuel nv0 zaI
theorem zG3 (hs:zza slots parts rate nv0 zaI=true) (hk:K (e58 (zy9 slots parts rate nv0 zaI))):z58 K [1,1,0,1,0] [] (zEn slots parts rate nv0 zaI) :=
  zl (λ X=>z58 K [1,1,0,1,0,0] [X]) (by kernel_rfl) λ X0 hX =>
  (show ∀ k, zL3 K slots parts rate X0 (zy8 slots parts rate k) (zy7 slots parts rate k) from zgd _ _ (zy6 slots parts rate) (zy5 slots parts rate) (zL3 K slots parts rate X0)
 (by intro _ _ hs;exact absurd hs dqk)
 (by intro P0 S0 hX0 nv0 zaI hs hk;exact hX _ (zaE (by kernel_rfl) (zc hs hk (λ hs hk=>(zaJ hs λ hc hs=>And.intro hc (zc hs hk (λ hs hk=>(hX0 hs hk)) (λ hs hk=>(hX0 hs hk))))) (λ hs hk=>hk))))) _ hs hk
def s58 (slots:(Sl Bool)) (parts:Int) (rate:Int):Int :=
  (zy9 slots parts rate (1:Int) (0:Int))
def p58 (slots:(Sl Bool)) (parts:Int) (rate:Int):Bool :=
  (zza slots parts rate (1:Int) (0:Int))
end
theorem q58 (slots:(Sl Bool)) (parts:Int) (rate:Int) (K:List PA->Prop) (hs:p58 slots parts rate=true) (hk:K (e58 (s58 slots parts rate))):vcFun Tryd.prog G58 zG2 58 [.one (.sl slots.len 1 (λ i=>zdk (slots.get i))),.one (.int .i64 parts),.one (.int .i64 rate)] K :=
  zaE (by kernel_rfl) (zG3 hs hk)
def zG4 : List PA → COut
  | [.one (.sl zbq zcO zbr),.one (.int .i64 a1),.one (.int .i64 a2)]=>.det (IsE zdk 1 zcO zbr/\p58 (⟨zbq,zbj zbr⟩:(Sl Bool)) a1 a2=true) [.one (.int .i64 (s58 (⟨zbq,zbj zbr⟩:(Sl Bool)) a1 a2))]
  | _=>.no
theorem zL4:zac Tryd.prog 58:=⟨_,rfl,rfl,by kernel_rfl⟩
theorem zTs:Ok Tryd.prog 58 zG4:=zau zP8 zL4 λ args K h=>by
  unfold zG4 at h
  split at h
  · rename_i zbq zcO zbr a1 a2
    obtain⟨⟨⟨rfl,zb6,rfl⟩,hs⟩,hk⟩:=h
    try rw[zmm zb6] at hs
    try rw[zmm zb6] at hk
    exact⟨(λ _ _=>[]),(λ _=>false),zG2,q58 (⟨zbq,zb6⟩:(Sl Bool)) a1 a2 K hs hk⟩
  · exact h.elim
abbrev four (y:Bool×Bool×Bool×Bool):Nat->List PV:=zlH 3 0 (zlH 2 0 (zlH 1 0 (zlH 0 0 (λ _=>zdk false) (zdk y.1)) (zdk y.2.1)) (zdk y.2.2.1)) (zdk y.2.2.2)
theorem zcD {y:Bool×Bool×Bool×Bool} : IsE zdk 1 1 (four y):=⟨rfl,λ i=>match i with | 0=>y.1 | 1=>y.2.1 | 2=>y.2.2.1 | 3=>y.2.2.2 | _=>false,funext λ i=>match i with | 0=>rfl | 1=>rfl | 2=>rfl | 3=>rfl | _+4=>rfl⟩
abbrev T81:Tabs:=Tabs.nil
theorem zP9:TabsOk Tryd.prog T81:=TabsOk.nil
abbrev G81:Ctrs:=csm T81 (λ _ _=>[]) (λ _=>false)
def zpT:Ann:=⟨32,[(0,zK [0,1,7,8] []),(1,zK [0,1,7,8,9] []),(2,zK [0,1,3,7,8] []),(3,zK [0,1,3,4,7,8] [12]),(4,zK [0,1,3,4,7,8,14,15] [12]),(5,zK [0,1,3,4,7,8,14,15,16] [12]),(6,zK [0,1,3,4,5,7,8,14,15] [12]),(7,zK [0,1,3,4,7,8,14,15] [12]),(8,zK [0,1,3,4,7,8,14,15] [12]),(9,zK [0,1,7,8,30] []),(10,zK [0,1,7,8] [])],
 [(1,zK [0,1,7,8] [])],
 [(9,⟨[0,1,4,7,8],[],[],[],[],[],[(4,1,λ _=>zdk default)]⟩)],
 [(5,5,zK [0,1,3,4,7,8,14,15] [12])],[9]⟩
def zlh (l:Nat) (zaq:Int):St:=⟨[(0,.one (.c (.p (.yl l)))),(1,.one (.c (.p (.fp [.int .i64 (4:Int)] 0)))),(7,.one (.c (.p (.int .i64 (zKa .i64 (1:Int) (4:Int)))))),(8,.one (.c (.p (.int .i64 zaq))))],[],[]⟩
def zli (l:Nat) (ys:List (List PA)) (zaq:Int):Prop:=vcY Tryd.prog G81 zpT l (cdF Tryd.f81 [1,0]) (zc2 0 zgY) ys false (zlh l zaq)
theorem zG5 (l : Nat) (ys : List (List PA)) :
  vcIter Tryd.prog G81 zpT 81 l [.one (.fp [.int .i64 (4:Int)] 0)] ys =
  (((0<=(4:Int))) /\
 (zli l ys (0:Int))):=by kernel_rfl
def zpU (l:Nat) (X0:List (List PA)->Bool->St->Prop) (ys:List (List PA)) (zaq:Int):Prop :=
  (zdK (decide (zaq < (zKa .i64 (1:Int) (4:Int))))
 (((0<=(4:Int)/\(4:Int)=(4:Int)/\(4:Int)<=1000000)) /\
 (((0<=(0:Int))) /\
 (((0<=(0:Int)/\(0:Int) < (4:Int))) /\
 (((0 < 4)) /\
 (((0<=(1:Int))) /\
 (((0<=(1:Int)/\(1:Int) < (4:Int))) /\
 (((1 < 4)) /\
 (((0<=(2:Int))) /\
 (((0<=(2:Int)/\(2:Int) < (4:Int))) /\
 (((2 < 4)) /\
 (((0<=(3:Int))) /\
 (((0<=(3:Int)/\(3:Int) < (4:Int))) /\
 (((3 < 4)) /\
 (l=l/\∃ r1,ys=[.one (.sl 4 1 (zlH 3 0 (zlH 2 0 (zlH 1 0 (zlH 0 0 (λ _=>(zdk false)) (zdk ((zBw .i64 (zBv .i64 zaq (0:Int)) (1:Int)) == (1:Int)))) (zdk ((zBw .i64 (zBv .i64 zaq (1:Int)) (1:Int)) == (1:Int)))) (zdk ((zBw .i64 (zBv .i64 zaq (2:Int)) (1:Int)) == (1:Int)))) (zdk ((zBw .i64 (zBv .i64 zaq (3:Int)) (1:Int)) == (1:Int)))))] :: r1 /\
 (X0 r1 false (zlh l (w64 (zaq+(1:Int)))))/\True))))))))))))))
 (ys=[]))
theorem zrJ (l : Nat) (X0 : List (List PA) → Bool → St → Prop) (ys : List (List PA)) (zaq : Int) :
  vcY Tryd.prog G81 zpT l (cd (cdF Tryd.f81 [1,0]) [0]) (zgX Tryd.prog zpT 1 X0 (zc2 0 zgY)) ys false (zlh l zaq) =
  zpU l X0 ys zaq:=by kernel_rfl
theorem zzb (l : Nat) (ys : List (List PA)) (zaq : Int)
  (h:∀ X0:List (List PA)->Bool->St->Prop,(∀ (ys:List (List PA)) (zaq:Int),zpU l X0 ys zaq->X0 ys false (zlh l zaq))->X0 ys false (zlh l zaq)) :
  zli l ys zaq:=by
  have e:zli l ys zaq=(∀ X:List (List PA)->Bool->St->Prop,(∀ ys q s,vcY Tryd.prog G81 zpT l (cd (cdF Tryd.f81 [1,0]) [0]) (zgX Tryd.prog zpT 1 X (zc2 0 zgY)) ys q s->X ys q s)->X ys false (zlh l zaq)):=by kernel_rfl
  refine zaE e ?_
  intro X hX
  refine h X ?_
  intro ys zaq hs
  refine hX _ _ _ ?_
  have e2:=zrJ l X ys zaq
  rw[e2]
  exact hs
attribute [irreducible] zli
def zrK (S0:Int->List (Bool×Bool×Bool×Bool)) (zaq:Int):List (Bool×Bool×Bool×Bool) :=
  (cond (decide (zaq < (zKa .i64 (1:Int) (4:Int))))
 ((((zBw .i64 (zBv .i64 zaq (0:Int)) (1:Int)) == (1:Int)),((zBw .i64 (zBv .i64 zaq (1:Int)) (1:Int)) == (1:Int)),((zBw .i64 (zBv .i64 zaq (2:Int)) (1:Int)) == (1:Int)),((zBw .i64 (zBv .i64 zaq (3:Int)) (1:Int)) == (1:Int))) :: (S0 (w64 (zaq+(1:Int)))))
 [])
def zrL (P0:Int->Bool) (zaq:Int):Bool :=
  (cond (decide (zaq < (zKa .i64 (1:Int) (4:Int))))
 (decide ((0<=(4:Int)/\(4:Int)=(4:Int)/\(4:Int)<=1000000)) &&
 (decide ((0<=(0:Int))) &&
 (decide ((0<=(0:Int)/\(0:Int) < (4:Int))) &&
 (decide ((0 < 4)) &&
 (decide ((0<=(1:Int))) &&
 (decide ((0<=(1:Int)/\(1:Int) < (4:Int))) &&
 (decide ((1 < 4)) &&
 (decide ((0<=(2:Int))) &&
 (decide ((0<=(2:Int)/\(2:Int) < (4:Int))) &&
 (decide ((2 < 4)) &&
 (decide ((0<=(3:Int))) &&
 (decide ((0<=(3:Int)/\(3:Int) < (4:Int))) &&
 (decide ((3 < 4)) &&
 (P0 (w64 (zaq+(1:Int)))))))))))))))))
 true)
def zlj : Nat → Int → List (Bool × Bool × Bool × Bool)
  | 0=>λ _=>[]
  | k+1=>zrK (zlj k)
def zlk : Nat → Int → Bool
  | 0=>λ _=>false
  | k+1=>zrL (zlk k)
def zzc (zaq:Int):List (Bool×Bool×Bool×Bool):=zlj Fuel zaq
def zzd (zaq:Int):Bool:=zlk Fuel zaq
theorem zG6 (l:Nat) (ys:List (List PA)) (zaq:Int) (hs:zzd zaq=true) (hk:ys=(zzc zaq).map (λ y=>[.one (.sl 4 1 (four y))])):zli l ys zaq:=by
  refine zzb l ys zaq ?_
  intro X0 hstep
  have key:∀ (k:Nat) (ys:List (List PA)) (zaq:Int),zlk k zaq=true->ys=(zlj k zaq).map (λ y=>[.one (.sl 4 1 (four y))])->X0 ys false (zlh l zaq):=by
    intro k
    induction k with
    | zero=>intro ys zaq hs;exact absurd hs dqk
    | succ k ih =>
      intro ys zaq hs hk
      refine hstep ys zaq ?_
      have hs:zrL (zlk k) zaq=true:=hs
      have hk:ys=(zrK (zlj k) zaq).map (λ y=>[.one (.sl 4 1 (four y))]):=hk
      unfold zrL at hs
      unfold zrK at hk
      generalize zlj k=S0 at hk ih
      generalize zlk k=P0 at hs ih
      have hX0:=ih
      exact (zec hs hk
 (λ hs hk=>(zaJ hs λ hc hs=>⟨hc,(zaJ hs λ hc hs=>⟨hc,(zaJ hs λ hc hs=>⟨hc,(zaJ hs λ hc hs=>⟨hc,(zaJ hs λ hc hs=>⟨hc,(zaJ hs λ hc hs=>⟨hc,(zaJ hs λ hc hs=>⟨hc,(zaJ hs λ hc hs=>⟨hc,(zaJ hs λ hc hs=>⟨hc,(zaJ hs λ hc hs=>⟨hc,(zaJ hs λ hc hs=>⟨hc,(zaJ hs λ hc hs=>⟨hc,(zaJ hs λ hc hs=>⟨hc,(itY hk rfl (λ _ hk=>(hX0 _ (w64 (zaq+(1:Int))) hs hk)))⟩)⟩)⟩)⟩)⟩)⟩)⟩)⟩)⟩)⟩)⟩)⟩)⟩))
 (fun hs hk=>hk))
  exact key _ _ zaq hs hk
def s81:List (Bool×Bool×Bool×Bool) :=
  (zzc (0:Int))
def p81:Bool :=
  (decide ((0<=(4:Int))) &&
 (zzd (0:Int)))
theorem q81 (l:Nat) (ys:List (List PA)) (hs:p81=true) (hk:ys=(s81).map (λ y=>[.one (.sl 4 1 (four y))])):vcIter Tryd.prog G81 zpT 81 l [.one (.fp [.int .i64 (4:Int)] 0)] ys:=by
  refine zaE (zG5 l ys) ?_
  unfold p81 at hs
  unfold s81 at hk
  exact (zaJ hs λ hc hs=>⟨hc,(zG6 l _ (0:Int) hs hk)⟩)
def zQa : List PA → Option (Prop × List (List PA))
  | [.one (.fp [.int .i64 a] 0)]=>some (a=4/\p81=true,s81.map λ y=>[.one (.sl 4 1 (four y))])
  | _=>none
theorem zL5:zac Tryd.prog 81:=⟨_,rfl,rfl,by kernel_rfl⟩
theorem zTt:zBA Tryd.prog 81 zQa:=zxE zP9 zL5 λ l caps safe ys h hs=>by
  unfold zQa at h
  split at h
  · cases h
    obtain⟨rfl,hs⟩:=hs
    exact⟨λ _ _=>[],λ _=>false,zpT,q81 l _ hs rfl⟩
  · cases h
abbrev T28:Tabs:=(((((Tabs.nil.addF 55 zGY).addF 56 zCR).addF 57 zG1).addF 58 zG4).addI 81 zQa)
theorem zQb:TabsOk Tryd.prog T28:=(((((TabsOk.nil.addF zTq).addF zRR).addF zTr).addF zTs).addI zTt)
abbrev G28:Ctrs:=csm T28 (λ _ _=>[]) (λ _=>false)
def zze:Ann:=⟨60,[(0,zK [0,5,6,7] [5,6,7]),(1,zK [0,5,6,7,11] [5,6,7]),(2,zK [0,5,6,7,11,24] [5,6,7]),(3,zK [8,9] []),(4,zK [0,5,6,7,36] [5,6,7]),(5,zK [8,9] []),(6,zK [0,5,6,7,12] [5,6,7,12]),(7,zK [5,6,7,12,38] [5,6,7,12]),(8,zK [5,6,7,12,13,38] [5,6,7,12]),(9,zK [5,6,7,12,13,14,38] [5,6,7,12]),(10,zK [5,6,7,12,13,14,38,40,41,42] [5,6,7,12]),(11,zK [5,6,7,12,13,14,38,40,41,42,43] [5,6,7,12]),(12,zK [5,6,7,12,13,14,16,38,40,41,42] [5,6,7,12]),(13,zK [5,6,7,12,13,14,38,40,41,42,46] [5,6,7,12]),(14,zK [5,6,7,12,13,14,38,40,41,42] [5,6,7,12]),(15,zK [5,6,7,12,13,14,38,40,41,42] [5,6,7,12]),(16,zK [5,6,7,12,13,38,52] [5,6,7,12]),(17,zK [5,6,7,12,38] [5,6,7,12]),(18,zK [8,9] [])],
 [(8,zK [5,6,7,12,38] [5,6,7,12])],
 [],
 [(11,5,zK [5,6,7,12,13,14,38,40,41,42] [5,6,7,12])],[]⟩
abbrev R28:=(Int×Int)
abbrev e28 (r:R28):List PA:=[.one (.int .i64 r.1),.one (.int .i64 r.2)]
@[irreducible] def z28:=ptF Tryd.prog G28 zze Tryd.f28
@[irreducible] def x28:=exF Tryd.prog G28 zze Tryd.f28
@[irreducible] def y28:=rnF Tryd.prog G28 zze Tryd.f28
def zzf (za9:Int):St:=⟨[(5,zp 5 0),(6,zp 6 0),(7,zp 7 0),(12,zp 12 0),(38,zP (.fn 81 [] [.fp [.int .i64 (4:Int)] 0]))],[(5,.box 3 [zi (4:Int)]),(6,.box 3 [zi (1:Int)]),(7,.box 3 [zi (3:Int)]),(12,.box 3 [zi za9])],[]⟩
abbrev zL6 (K:List PA->Prop) (X:St->Prop) (P:Int->Bool) (S:Int->(Int×Int)):Prop:=∀ ⦃za9:Int⦄,P za9=true->K (e28 (S za9))->X (zzf za9)
section
variable {K:List PA->Prop}{za9:Int}
def zG7 (za9:Int):(Int×Int) :=
  (za9,(0:Int))
def zG8 (za9:Int):Bool :=
  true
def zzg (y0:(Bool×Bool×Bool×Bool)) (S0:Int->(Int×Int)) (za9:Int):(Int×Int) :=
  (cond y0.1
 (cond y0.2.1
 (cond y0.2.2.1
 (cond y0.2.2.2
 (cond (decide ((4:Int) >= (3:Int)))
 (S0 (w64 (za9+(s58 (⟨4,zbj (four y0)⟩:(Sl Bool)) (4:Int) (1:Int)))))
 (S0 za9))
 (cond (decide ((3:Int) >= (3:Int)))
 (S0 (w64 (za9+(s58 (⟨4,zbj (four y0)⟩:(Sl Bool)) (4:Int) (1:Int)))))
 (S0 za9)))
 (cond y0.2.2.2
 (cond (decide ((3:Int) >= (3:Int)))
 (S0 (w64 (za9+(s58 (⟨4,zbj (four y0)⟩:(Sl Bool)) (4:Int) (1:Int)))))
 (S0 za9))
 (cond (decide ((2:Int) >= (3:Int)))
 (S0 (w64 (za9+(s58 (⟨4,zbj (four y0)⟩:(Sl Bool)) (4:Int) (1:Int)))))
 (S0 za9))))
 (cond y0.2.2.1
 (cond y0.2.2.2
 (cond (decide ((3:Int) >= (3:Int)))
 (S0 (w64 (za9+(s58 (⟨4,zbj (four y0)⟩:(Sl Bool)) (4:Int) (1:Int)))))
 (S0 za9))
 (cond (decide ((2:Int) >= (3:Int)))
 (S0 (w64 (za9+(s58 (⟨4,zbj (four y0)⟩:(Sl Bool)) (4:Int) (1:Int)))))
 (S0 za9)))
 (cond y0.2.2.2
 (cond (decide ((2:Int) >= (3:Int)))
 (S0 (w64 (za9+(s58 (⟨4,zbj (four y0)⟩:(Sl Bool)) (4:Int) (1:Int)))))
 (S0 za9))
 (cond (decide ((1:Int) >= (3:Int)))
 (S0 (w64 (za9+(s58 (⟨4,zbj (four y0)⟩:(Sl Bool)) (4:Int) (1:Int)))))
 (S0 za9)))))
 (cond y0.2.1
 (cond y0.2.2.1
 (cond y0.2.2.2
 (cond (decide ((3:Int) >= (3:Int)))
 (S0 (w64 (za9+(s58 (⟨4,zbj (four y0)⟩:(Sl Bool)) (4:Int) (1:Int)))))
 (S0 za9))
 (cond (decide ((2:Int) >= (3:Int)))
 (S0 (w64 (za9+(s58 (⟨4,zbj (four y0)⟩:(Sl Bool)) (4:Int) (1:Int)))))
 (S0 za9)))
 (cond y0.2.2.2
 (cond (decide ((2:Int) >= (3:Int)))
 (S0 (w64 (za9+(s58 (⟨4,zbj (four y0)⟩:(Sl Bool)) (4:Int) (1:Int)))))
 (S0 za9))
 (cond (decide ((1:Int) >= (3:Int)))
 (S0 (w64 (za9+(s58 (⟨4,zbj (four y0)⟩:(Sl Bool)) (4:Int) (1:Int)))))
 (S0 za9))))
 (cond y0.2.2.1
 (cond y0.2.2.2
 (cond (decide ((2:Int) >= (3:Int)))
 (S0 (w64 (za9+(s58 (⟨4,zbj (four y0)⟩:(Sl Bool)) (4:Int) (1:Int)))))
 (S0 za9))
 (cond (decide ((1:Int) >= (3:Int)))
 (S0 (w64 (za9+(s58 (⟨4,zbj (four y0)⟩:(Sl Bool)) (4:Int) (1:Int)))))
 (S0 za9)))
 (cond y0.2.2.2
 (cond (decide ((1:Int) >= (3:Int)))
 (S0 (w64 (za9+(s58 (⟨4,zbj (four y0)⟩:(Sl Bool)) (4:Int) (1:Int)))))
 (S0 za9))
 (cond (decide ((0:Int) >= (3:Int)))
 (S0 (w64 (za9+(s58 (⟨4,zbj (four y0)⟩:(Sl Bool)) (4:Int) (1:Int)))))
 (S0 za9))))))
def zzh (y0:(Bool×Bool×Bool×Bool)) (P0:Int->Bool) (za9:Int):Bool :=
  (decide ((0<=(0:Int)/\(0:Int) < (4:Int))) &&
 (cond y0.1
 (decide ((0<=(1:Int)/\(1:Int) < (4:Int))) &&
 (cond y0.2.1
 (decide ((0<=(2:Int)/\(2:Int) < (4:Int))) &&
 (cond y0.2.2.1
 (decide ((0<=(3:Int)/\(3:Int) < (4:Int))) &&
 (cond y0.2.2.2
 (cond (decide ((4:Int) >= (3:Int)))
 (decide ((p58 (⟨4,zbj (four y0)⟩:(Sl Bool)) (4:Int) (1:Int)=true)) &&
 (P0 (w64 (za9+(s58 (⟨4,zbj (four y0)⟩:(Sl Bool)) (4:Int) (1:Int))))))
 (P0 za9))
 (cond (decide ((3:Int) >= (3:Int)))
 (decide ((p58 (⟨4,zbj (four y0)⟩:(Sl Bool)) (4:Int) (1:Int)=true)) &&
 (P0 (w64 (za9+(s58 (⟨4,zbj (four y0)⟩:(Sl Bool)) (4:Int) (1:Int))))))
 (P0 za9))))
 (decide ((0<=(3:Int)/\(3:Int) < (4:Int))) &&
 (cond y0.2.2.2
 (cond (decide ((3:Int) >= (3:Int)))
 (decide ((p58 (⟨4,zbj (four y0)⟩:(Sl Bool)) (4:Int) (1:Int)=true)) &&
 (P0 (w64 (za9+(s58 (⟨4,zbj (four y0)⟩:(Sl Bool)) (4:Int) (1:Int))))))
 (P0 za9))
 (cond (decide ((2:Int) >= (3:Int)))
 (decide ((p58 (⟨4,zbj (four y0)⟩:(Sl Bool)) (4:Int) (1:Int)=true)) &&
 (P0 (w64 (za9+(s58 (⟨4,zbj (four y0)⟩:(Sl Bool)) (4:Int) (1:Int))))))
 (P0 za9))))))
 (decide ((0<=(2:Int)/\(2:Int) < (4:Int))) &&
 (cond y0.2.2.1
 (decide ((0<=(3:Int)/\(3:Int) < (4:Int))) &&
 (cond y0.2.2.2
 (cond (decide ((3:Int) >= (3:Int)))
 (decide ((p58 (⟨4,zbj (four y0)⟩:(Sl Bool)) (4:Int) (1:Int)=true)) &&
 (P0 (w64 (za9+(s58 (⟨4,zbj (four y0)⟩:(Sl Bool)) (4:Int) (1:Int))))))
 (P0 za9))
 (cond (decide ((2:Int) >= (3:Int)))
 (decide ((p58 (⟨4,zbj (four y0)⟩:(Sl Bool)) (4:Int) (1:Int)=true)) &&
 (P0 (w64 (za9+(s58 (⟨4,zbj (four y0)⟩:(Sl Bool)) (4:Int) (1:Int))))))
 (P0 za9))))
 (decide ((0<=(3:Int)/\(3:Int) < (4:Int))) &&
 (cond y0.2.2.2
 (cond (decide ((2:Int) >= (3:Int)))
 (decide ((p58 (⟨4,zbj (four y0)⟩:(Sl Bool)) (4:Int) (1:Int)=true)) &&
 (P0 (w64 (za9+(s58 (⟨4,zbj (four y0)⟩:(Sl Bool)) (4:Int) (1:Int))))))
 (P0 za9))
 (cond (decide ((1:Int) >= (3:Int)))
 (decide ((p58 (⟨4,zbj (four y0)⟩:(Sl Bool)) (4:Int) (1:Int)=true)) &&
 (P0 (w64 (za9+(s58 (⟨4,zbj (four y0)⟩:(Sl Bool)) (4:Int) (1:Int))))))
 (P0 za9))))))))
 (decide ((0<=(1:Int)/\(1:Int) < (4:Int))) &&
 (cond y0.2.1
 (decide ((0<=(2:Int)/\(2:Int) < (4:Int))) &&
 (cond y0.2.2.1
 (decide ((0<=(3:Int)/\(3:Int) < (4:Int))) &&
 (cond y0.2.2.2
 (cond (decide ((3:Int) >= (3:Int)))
 (decide ((p58 (⟨4,zbj (four y0)⟩:(Sl Bool)) (4:Int) (1:Int)=true)) &&
 (P0 (w64 (za9+(s58 (⟨4,zbj (four y0)⟩:(Sl Bool)) (4:Int) (1:Int))))))
 (P0 za9))
 (cond (decide ((2:Int) >= (3:Int)))
 (decide ((p58 (⟨4,zbj (four y0)⟩:(Sl Bool)) (4:Int) (1:Int)=true)) &&
 (P0 (w64 (za9+(s58 (⟨4,zbj (four y0)⟩:(Sl Bool)) (4:Int) (1:Int))))))
 (P0 za9))))
 (decide ((0<=(3:Int)/\(3:Int) < (4:Int))) &&
 (cond y0.2.2.2
 (cond (decide ((2:Int) >= (3:Int)))
 (decide ((p58 (⟨4,zbj (four y0)⟩:(Sl Bool)) (4:Int) (1:Int)=true)) &&
 (P0 (w64 (za9+(s58 (⟨4,zbj (four y0)⟩:(Sl Bool)) (4:Int) (1:Int))))))
 (P0 za9))
 (cond (decide ((1:Int) >= (3:Int)))
 (decide ((p58 (⟨4,zbj (four y0)⟩:(Sl Bool)) (4:Int) (1:Int)=true)) &&
 (P0 (w64 (za9+(s58 (⟨4,zbj (four y0)⟩:(Sl Bool)) (4:Int) (1:Int))))))
 (P0 za9))))))
 (decide ((0<=(2:Int)/\(2:Int) < (4:Int))) &&
 (cond y0.2.2.1
 (decide ((0<=(3:Int)/\(3:Int) < (4:Int))) &&
 (cond y0.2.2.2
 (cond (decide ((2:Int) >= (3:Int)))
 (decide ((p58 (⟨4,zbj (four y0)⟩:(Sl Bool)) (4:Int) (1:Int)=true)) &&
 (P0 (w64 (za9+(s58 (⟨4,zbj (four y0)⟩:(Sl Bool)) (4:Int) (1:Int))))))
 (P0 za9))
 (cond (decide ((1:Int) >= (3:Int)))
 (decide ((p58 (⟨4,zbj (four y0)⟩:(Sl Bool)) (4:Int) (1:Int)=true)) &&
 (P0 (w64 (za9+(s58 (⟨4,zbj (four y0)⟩:(Sl Bool)) (4:Int) (1:Int))))))
 (P0 za9))))
 (decide ((0<=(3:Int)/\(3:Int) < (4:Int))) &&
 (cond y0.2.2.2
 (cond (decide ((1:Int) >= (3:Int)))
 (decide ((p58 (⟨4,zbj (four y0)⟩:(Sl Bool)) (4:Int) (1:Int)=true)) &&
 (P0 (w64 (za9+(s58 (⟨4,zbj (four y0)⟩:(Sl Bool)) (4:Int) (1:Int))))))
 (P0 za9))
 (cond (decide ((0:Int) >= (3:Int)))
 (decide ((p58 (⟨4,zbj (four y0)⟩:(Sl Bool)) (4:Int) (1:Int)=true)) &&
 (P0 (w64 (za9+(s58 (⟨4,zbj (four y0)⟩:(Sl Bool)) (4:Int) (1:Int))))))
 (P0 za9))))))))))
def zzi:List (Bool×Bool×Bool×Bool)->Int->(Int×Int):=lpR (zG7) (zzg)
def zzj:List (Bool×Bool×Bool×Bool)->Int->Bool:=lpR (zG8) (zzh)
def zzk (za9:Int):(Int×Int):=zzi (s81) za9
def zzl (za9:Int):Bool:=decide ((p81=true)) && zzj (s81) za9
theorem zG9 (hs:zzl za9=true) (hk:K (e28 (zzk za9))):z28 K [1,1,1,1,0,1,0] [] (zzf za9) :=
  zaJ hs λ hc hs=>zr (enc:=(λ y:(Bool×Bool×Bool×Bool)=>[.one (.sl 4 1 (four y))])) (ys:=s81) (g:=(zzf za9)) (x28 K [1,1,1,1,0,1,0] []) (y28 K [1,1,1,1,0,1,0] []) (by kernel_rfl) (And.intro (rfl:(4:Int)=4) hc) λ X0 hE hR =>
  (show ∀ l : List (Bool × Bool × Bool × Bool), zL6 K (X0 (l.map (λ y : (Bool × Bool × Bool × Bool) => [.one (.sl 4 1 (four y))]))) (zzj l) (zzi l) from zri (X := X0) (enc := (λ y : (Bool × Bool × Bool × Bool) => [.one (.sl 4 1 (four y))])) _ _ (zzh) (zzg) (λ Z P S => zL6 K Z P S)
 (by intro za9 hs hk;exact hE _ (zaE (by kernel_rfl) hk))
 (by intro y0 rest P0 S0 hX0 za9 hs hk;exact hR _ rest _ (zaE (by kernel_rfl) (zaJ hs λ hc hs=>And.intro hc (zc hs hk (λ hs hk=>(zaJ hs λ hc hs=>And.intro hc (zc hs hk (λ hs hk=>(zaJ hs λ hc hs=>And.intro hc (zc hs hk (λ hs hk=>(zaJ hs λ hc hs=>And.intro hc (zc hs hk (λ hs hk=>(zc hs hk (λ hs hk=>(zaJ hs λ hc hs=>And.intro (And.intro (zcD:IsE zdk 1 1 (four y0)) hc) (hX0 hs hk))) (λ hs hk=>(hX0 hs hk)))) (λ hs hk=>(zc hs hk (λ hs hk=>(zaJ hs λ hc hs=>And.intro (And.intro (zcD:IsE zdk 1 1 (four y0)) hc) (hX0 hs hk))) (λ hs hk=>(hX0 hs hk))))))) (λ hs hk=>(zaJ hs λ hc hs=>And.intro hc (zc hs hk (λ hs hk=>(zc hs hk (λ hs hk=>(zaJ hs λ hc hs=>And.intro (And.intro (zcD:IsE zdk 1 1 (four y0)) hc) (hX0 hs hk))) (λ hs hk=>(hX0 hs hk)))) (λ hs hk=>(zc hs hk (λ hs hk=>(zaJ hs λ hc hs=>And.intro (And.intro (zcD:IsE zdk 1 1 (four y0)) hc) (hX0 hs hk))) (λ hs hk=>(hX0 hs hk)))))))))) (λ hs hk=>(zaJ hs λ hc hs=>And.intro hc (zc hs hk (λ hs hk=>(zaJ hs λ hc hs=>And.intro hc (zc hs hk (λ hs hk=>(zc hs hk (λ hs hk=>(zaJ hs λ hc hs=>And.intro (And.intro (zcD:IsE zdk 1 1 (four y0)) hc) (hX0 hs hk))) (λ hs hk=>(hX0 hs hk)))) (λ hs hk=>(zc hs hk (λ hs hk=>(zaJ hs λ hc hs=>And.intro (And.intro (zcD:IsE zdk 1 1 (four y0)) hc) (hX0 hs hk))) (λ hs hk=>(hX0 hs hk))))))) (λ hs hk=>(zaJ hs λ hc hs=>And.intro hc (zc hs hk (λ hs hk=>(zc hs hk (λ hs hk=>(zaJ hs λ hc hs=>And.intro (And.intro (zcD:IsE zdk 1 1 (four y0)) hc) (hX0 hs hk))) (λ hs hk=>(hX0 hs hk)))) (λ hs hk=>(zc hs hk (λ hs hk=>(zaJ hs λ hc hs=>And.intro (And.intro (zcD:IsE zdk 1 1 (four y0)) hc) (hX0 hs hk))) (λ hs hk=>(hX0 hs hk))))))))))))) (λ hs hk=>(zaJ hs λ hc hs=>And.intro hc (zc hs hk (λ hs hk=>(zaJ hs λ hc hs=>And.intro hc (zc hs hk (λ hs hk=>(zaJ hs λ hc hs=>And.intro hc (zc hs hk (λ hs hk=>(zc hs hk (λ hs hk=>(zaJ hs λ hc hs=>And.intro (And.intro (zcD:IsE zdk 1 1 (four y0)) hc) (hX0 hs hk))) (λ hs hk=>(hX0 hs hk)))) (λ hs hk=>(zc hs hk (λ hs hk=>(zaJ hs λ hc hs=>And.intro (And.intro (zcD:IsE zdk 1 1 (four y0)) hc) (hX0 hs hk))) (λ hs hk=>(hX0 hs hk))))))) (λ hs hk=>(zaJ hs λ hc hs=>And.intro hc (zc hs hk (λ hs hk=>(zc hs hk (λ hs hk=>(zaJ hs λ hc hs=>And.intro (And.intro (zcD:IsE zdk 1 1 (four y0)) hc) (hX0 hs hk))) (λ hs hk=>(hX0 hs hk)))) (λ hs hk=>(zc hs hk (λ hs hk=>(zaJ hs λ hc hs=>And.intro (And.intro (zcD:IsE zdk 1 1 (four y0)) hc) (hX0 hs hk))) (λ hs hk=>(hX0 hs hk)))))))))) (λ hs hk=>(zaJ hs λ hc hs=>And.intro hc (zc hs hk (λ hs hk=>(zaJ hs λ hc hs=>And.intro hc (zc hs hk (λ hs hk=>(zc hs hk (λ hs hk=>(zaJ hs λ hc hs=>And.intro (And.intro (zcD:IsE zdk 1 1 (four y0)) hc) (hX0 hs hk))) (λ hs hk=>(hX0 hs hk)))) (λ hs hk=>(zc hs hk (λ hs hk=>(zaJ hs λ hc hs=>And.intro (And.intro (zcD:IsE zdk 1 1 (four y0)) hc) (hX0 hs hk))) (λ hs hk=>(hX0 hs hk))))))) (λ hs hk=>(zaJ hs λ hc hs=>And.intro hc (zc hs hk (λ hs hk=>(zc hs hk (λ hs hk=>(zaJ hs λ hc hs=>And.intro (And.intro (zcD:IsE zdk 1 1 (four y0)) hc) (hX0 hs hk))) (λ hs hk=>(hX0 hs hk)))) (λ hs hk=>(zc hs hk (λ hs hk=>(zaJ hs λ hc hs=>And.intro (And.intro (zcD:IsE zdk 1 1 (four y0)) hc) (hX0 hs hk))) (λ hs hk=>(hX0 hs hk)))))))))))))))))) _ hs hk
def s28:(Int×Int) :=
  (cond (((s55 (4:Int) (4:Int)).2) != (0:Int))
 ((0:Int),((s55 (4:Int) (4:Int)).2))
 (cond (!(s56 (1:Int) (0:Int) (4:Int)))
 ((0:Int),(2:Int))
 (cond (!(s56 (3:Int) (0:Int) (5:Int)))
 ((0:Int),(2:Int))
 (zzk (0:Int)))))
def p28:Bool :=
  (decide ((p55 (4:Int) (4:Int)=true)) &&
 (cond (((s55 (4:Int) (4:Int)).2) != (0:Int))
 true
 (cond (!(s56 (1:Int) (0:Int) (4:Int)))
 true
 (cond (!(s56 (3:Int) (0:Int) (5:Int)))
 true
 (decide ((True)) &&
 (zzl (0:Int)))))))
end
theorem q28 (K:List PA->Prop) (hs:p28=true) (hk:K (e28 (s28))):vcFun Tryd.prog G28 zze 28 [.one (.int .i64 (4:Int)),.one (.int .i64 (4:Int)),.one (.int .i64 (1:Int)),.one (.int .i64 (3:Int))] K :=
  zaE (by kernel_rfl) (zaJ hs λ hc hs=>And.intro hc (zc hs hk (λ hs hk=>hk) (λ hs hk=>(zc hs hk (λ hs hk=>hk) (λ hs hk=>(zc hs hk (λ hs hk=>hk) (λ hs hk=>(zaJ hs λ hc hs=>And.intro hc (zG9 hs hk)))))))))
def zHa : List PA → COut
  | [.one (.int .i64 a0),.one (.int .i64 a1),.one (.int .i64 a2),.one (.int .i64 a3)]=>.det (a0=4/\a1=4/\a2=1/\a3=3/\p28=true) [.one (.int .i64 s28.1),.one (.int .i64 s28.2)]
  | _=>.no
theorem call28:zac Tryd.prog 28:=⟨_,rfl,rfl,by kernel_rfl⟩
theorem zTu:Ok Tryd.prog 28 zHa:=zau zQb call28 λ args K h=>by
  unfold zHa at h
  split at h
  · obtain ⟨⟨rfl, rfl, rfl, rfl, hs⟩, hk⟩ := h
    exact⟨λ _ _=>[],λ _=>false,zze,q28 K hs hk⟩
  · exact h.elim
abbrev T29:Tabs:=Tabs.nil
theorem zQc:TabsOk Tryd.prog T29:=TabsOk.nil
abbrev G29:Ctrs:=csm T29 (λ _ _=>[]) (λ _=>false)
def zHb:Ann:=⟨38,[(0,zK [2,3] [2,3]),(1,zK [2,3,19] [2,3]),(2,zK [4] []),(3,zK [2,3,5] [2,3]),(4,zK [2,3,5,24] [2,3]),(5,zK [2,3,5] [2,3]),(6,zK [2,3,5,37] [2,3]),(7,zK [4] []),(8,zK [4] [])],
 [(4,zK [2,3,5] [2,3])],
 [(3,zK [2,3] [2,3])],
 [],[]⟩
abbrev R29:=Bool
abbrev e29 (r:R29):List PA:=[.one (.bool r)]
@[irreducible] def z29:=ptF Tryd.prog G29 zHb Tryd.f29
def zEo (a:Net) (b:Net) (iv1:Int):St:=⟨[(2,zp 2 0),(3,zp 3 0),(5,zI iv1)],[(2,.box 48 (zm (zc7 a))),(3,.box 48 (zm (zc7 b)))],[]⟩
abbrev zL7 (K:List PA->Prop) (a:Net) (b:Net) (X:St->Prop) (P:Int->Bool) (S:Int->Bool):Prop:=∀ ⦃iv1:Int⦄,P iv1=true->K (e29 (S iv1))->X (zEo a b iv1)
section
variable {K:List PA->Prop}{a:Net}{b:Net}{iv1:Int}{X1:St->Prop}{P1:Int->Bool}{S1:Int->Bool}
def zzm (a:Net) (b:Net) (S1:Int->Bool) (iv1:Int):Bool :=
  (cond (decide (iv1 < (a.Ties.len : Int)))
 (cond (!(match ((a.Ties.get iv1.toNat).From == (b.Ties.get iv1.toNat).From) with | true => (match ((a.Ties.get iv1.toNat).To == (b.Ties.get iv1.toNat).To) with | true => (match ((a.Ties.get iv1.toNat).Low == (b.Ties.get iv1.toNat).Low) with | true => (match ((a.Ties.get iv1.toNat).High == (b.Ties.get iv1.toNat).High) with | true => true | false => false) | false => false) | false => false) | false => false))
 false
 (S1 (w64 (iv1+(1:Int)))))
 true)
def zzn (a:Net) (b:Net) (P1:Int->Bool) (iv1:Int):Bool :=
  (cond (decide (iv1 < (a.Ties.len : Int)))
 (decide ((0<=iv1/\iv1 < (a.Ties.len:Int))) &&
 (decide ((0<=iv1/\iv1 < (b.Ties.len:Int))) &&
 (cond (!(match ((a.Ties.get iv1.toNat).From == (b.Ties.get iv1.toNat).From) with | true => (match ((a.Ties.get iv1.toNat).To == (b.Ties.get iv1.toNat).To) with | true => (match ((a.Ties.get iv1.toNat).Low == (b.Ties.get iv1.toNat).Low) with | true => (match ((a.Ties.get iv1.toNat).High == (b.Ties.get iv1.toNat).High) with | true => true | false => false) | false => false) | false => false) | false => false))
 true
 (P1 (w64 (iv1+(1:Int)))))))
 true)
def zzo (a:Net) (b:Net):Nat->Int->Bool:=lpO (λ _=>default) (zzm a b)
def zzp (a:Net) (b:Net):Nat->Int->Bool:=lpO (λ _=>false) (zzn a b)
def zzq (a:Net) (b:Net) (iv1:Int):Bool:=zzo a b Fuel iv1
def zzr (a:Net) (b:Net) (iv1:Int):Bool:=zzp a b Fuel iv1
theorem zHc (hs:zzr a b iv1=true) (hk:K (e29 (zzq a b iv1))):z29 K [1,1,0,1,0] [] (zEo a b iv1) :=
  zl (λ X=>z29 K [1,1,0,1,0,0] [X]) (by kernel_rfl) λ X1 hX =>
  (show ∀ k, zL7 K a b X1 (zzp a b k) (zzo a b k) from zgd _ _ (zzn a b) (zzm a b) (zL7 K a b X1)
 (by intro _ hs;exact absurd hs dqk)
 (by intro P1 S1 hX1 iv1 hs hk;exact hX _ (zaE (by kernel_rfl) (zc hs hk (λ hs hk=>(zaJ hs λ hc hs=>And.intro hc (zaJ hs λ hc hs=>And.intro hc (zc hs hk (λ hs hk=>hk) (λ hs hk=>(hX1 hs hk)))))) (λ hs hk=>hk))))) _ hs hk
def zzs (a:Net) (b:Net):Bool :=
  (zzq a b (0:Int))
def zzt (a:Net) (b:Net):Bool :=
  (zzr a b (0:Int))
theorem zHd (hs:zzt a b=true) (hk:K (e29 (zzs a b))):z29 K [1,1] [] ⟨[(2,zp 2 0),(3,zp 3 0)],[(2,.box 48 (zm (zc7 a))),(3,.box 48 (zm (zc7 b)))],[]⟩:=zaE (by kernel_rfl) (zHc hs hk)
def s29 (a:Net) (b:Net):Bool :=
  (cond (a.Nodes != b.Nodes)
 false
 (cond ((a.Ties.len : Int) != (b.Ties.len : Int))
 false
 (zzs a b)))
def p29 (a:Net) (b:Net):Bool :=
  (cond (a.Nodes != b.Nodes)
 true
 (cond ((a.Ties.len : Int) != (b.Ties.len : Int))
 true
 (zzt a b)))
end
theorem q29 (a:Net) (b:Net) (K:List PA->Prop) (hs:p29 a b=true) (hk:K (e29 (s29 a b))):vcFun Tryd.prog G29 zHb 29 [.agg (zc7 a),.agg (zc7 b)] K :=
  zaE (by kernel_rfl) (zc hs hk (λ hs hk=>hk) (λ hs hk=>(zc hs hk (λ hs hk=>hk) (λ hs hk=>(zHd hs hk)))))
def zHe : List PA → COut
  | [.agg [.int .i64 zaw,.sl zaA zbP zav],.agg [.int .i64 zkf,.sl zh6 zpV zh7]]=>.det (IsE zao 4 zbP zav/\IsE zao 4 zpV zh7/\p29 (⟨zaw,(⟨zaA,za6 zav⟩:(Sl Tie))⟩:Net) (⟨zkf,(⟨zh6,za6 zh7⟩:(Sl Tie))⟩:Net)=true) [.one (.bool (s29 (⟨zaw,(⟨zaA,za6 zav⟩:(Sl Tie))⟩:Net) (⟨zkf,(⟨zh6,za6 zh7⟩:(Sl Tie))⟩:Net)))]
  | _=>.no
theorem zL8:zac Tryd.prog 29:=⟨_,rfl,rfl,by kernel_rfl⟩
theorem zTv:Ok Tryd.prog 29 zHe:=zau zQc zL8 λ args K h=>by
  unfold zHe at h
  split at h
  · rename_i zaw zaA zbP zav zkf zh6 zpV zh7
    obtain⟨⟨⟨rfl,zbv,rfl⟩,⟨rfl,zll,rfl⟩,hs⟩,hk⟩:=h
    try rw[zaN zbv] at hs
    try rw[zaN zbv] at hk
    try rw[zaN zll] at hs
    try rw[zaN zll] at hk
    exact⟨(λ _ _=>[]),(λ _=>false),zHb,q29 (⟨zaw,(⟨zaA,zbv⟩:(Sl Tie))⟩:Net) (⟨zkf,(⟨zh6,zll⟩:(Sl Tie))⟩:Net) K hs hk⟩
  · exact h.elim
abbrev T7:Tabs:=((((((Tabs.nil.addF 10 zGa).addF 25 zGR).addF 26 zGS).addF 27 zGT).addF 28 zHa).addF 29 zHe)
theorem zTw:TabsOk Tryd.prog T7:=((((((TabsOk.nil.addF zSn).addF zTn).addF zTo).addF zTp).addF zTu).addF zTv)
abbrev G7:Ctrs:=csm T7 (λ _ _=>[]) (λ _=>false)
def zQd:Ann:=⟨50,[(0,zK [] []),(1,zK [1,2] [1]),(2,zK [1,2,3,4] [1,3]),(3,zK [1,2,3,4,5,6] [1,3]),(4,zK [0] [])],
 [],
 [(2,zK [1,2] [1]),(3,zK [1,2,3,4] [1,3]),(4,zK [1,2,3,4,5,6] [1,3])],
 [],[]⟩
abbrev R7:=Bool
abbrev e7 (r:R7):List PA:=[.one (.bool r)]
@[irreducible] def z7:=ptF Tryd.prog G7 zQd Tryd.f7
section
variable {K:List PA->Prop}{ev0:Int}{zeX:Int}{zeA:(Sl Tie)}{zzu:Nat->List PV}{fv1:Int}{zcX:Int}{zcY:Int}
def zEp (ev0:Int) (zeX:Int) (zeA:(Sl Tie)) (fv1:Int) (zcX:Int) (zcY:Int):Bool :=
  (cond (ev0 == (0:Int))
 (cond (fv1 == (0:Int))
 (cond (s28.2 == (0:Int))
 (cond (s29 (⟨zeX, zeA⟩ : Net) (⟨(3:Int), (⟨1, λ _ => (⟨(0:Int), (2:Int), (21:Int), (29:Int)⟩ : Tie)⟩ : (Sl Tie))⟩ : Net))
 (cond (match (zcX == (20:Int)) with | true => (match (zcY == (500:Int)) with | true => true | false => false) | false => false)
 (s28.1 == (13:Int))
 false)
 false)
 false)
 false)
 false)
def zEq (ev0:Int) (zeX:Int) (zeA:(Sl Tie)) (fv1:Int) (zcX:Int) (zcY:Int):Bool :=
  (cond (ev0 == (0:Int))
 (cond (fv1 == (0:Int))
 (cond (s28.2 == (0:Int))
 (decide ((p29 (⟨zeX,zeA⟩:Net) (⟨(3:Int),(⟨1,λ _=>(⟨(0:Int),(2:Int),(21:Int),(29:Int)⟩:Tie)⟩:(Sl Tie))⟩:Net)=true)) &&
 true)
 true)
 true)
 true)
theorem zL9 (hs:zEq ev0 zeX zeA fv1 zcX zcY=true) (hk:K (e7 (zEp ev0 zeX zeA fv1 zcX zcY))):z7 K [1,1,1,1] [] ⟨[(1,zp 1 0),(2,zI ev0),(3,zp 3 0),(4,zI fv1),(5,zI s28.1),(6,zI s28.2)],[(1,.box 48 (zm (zc7 (⟨zeX,zeA⟩:Net)))),(3,.box 32 (zm (zbh (⟨zcX,zcY⟩:Span))))],[]⟩:=zaE (by kernel_rfl) (zc hs hk (λ hs hk=>(zc hs hk (λ hs hk=>(zc hs hk (λ hs hk=>(zaJ hs λ hc hs=>And.intro (And.intro (zE zao 4 zeA.get) (And.intro (zxF:IsE zao 4 4 (λ _=>(zao (⟨(0:Int),(2:Int),(21:Int),(29:Int)⟩:Tie)))) hc)) (zt hk (λ hk=>(zt hk (λ hk=>hk) (λ hk=>hk))) (λ hk=>hk)))) (λ hs hk=>hk))) (λ hs hk=>hk))) (λ hs hk=>hk))
def zEr (ev0:Int) (zeX:Int) (zeA:(Sl Tie)) (fv1:Int) (zcX:Int) (zcY:Int):Bool :=
  (zEp ev0 zeX zeA fv1 zcX zcY)
def zEs (ev0:Int) (zeX:Int) (zeA:(Sl Tie)) (fv1:Int) (zcX:Int) (zcY:Int):Bool :=
  (decide ((p28=true)) &&
 (zEq ev0 zeX zeA fv1 zcX zcY))
theorem zMa (hs:zEs ev0 zeX zeA fv1 zcX zcY=true) (hk:K (e7 (zEr ev0 zeX zeA fv1 zcX zcY))):z7 K [1,1,1] [] ⟨[(1,zp 1 0),(2,zI ev0),(3,zp 3 0),(4,zI fv1)],[(1,.box 48 (zm (zc7 (⟨zeX,zeA⟩:Net)))),(3,.box 32 (zm (zbh (⟨zcX,zcY⟩:Span))))],[]⟩:=zaE (by kernel_rfl) (zaJ hs λ hc hs=>And.intro (And.intro (rfl:(4:Int)=4) (And.intro (rfl:(4:Int)=4) (And.intro (rfl:(1:Int)=1) (And.intro (rfl:(3:Int)=3) hc)))) (zL9 hs hk))
def zEt (ev0:Int) (zeX:Int) (zeA:(Sl Tie)):Bool :=
  (zEr ev0 zeX zeA ((s25 s26 s27 (0:Int) (100:Int)).2) (((s25 s26 s27 (0:Int) (100:Int)).1).Low) (((s25 s26 s27 (0:Int) (100:Int)).1).High))
def zEu (ev0:Int) (zeX:Int) (zeA:(Sl Tie)):Bool :=
  (decide ((p25 s26 s27 (0:Int) (100:Int)=true)) &&
 (zEs ev0 zeX zeA ((s25 s26 s27 (0:Int) (100:Int)).2) (((s25 s26 s27 (0:Int) (100:Int)).1).Low) (((s25 s26 s27 (0:Int) (100:Int)).1).High)))
theorem zMb (hs:zEu ev0 zeX zeA=true) (hk:K (e7 (zEt ev0 zeX zeA))) (zHf:zzu=zg zao zeA):z7 K [1,1] [] ⟨[(1,zp 1 0),(2,zI ev0)],[(1,.box 48 [zi zeX,.p (.sl zeA.len 4 zzu)])],[]⟩:=by subst zHf;exact zaE (by kernel_rfl) (zaJ hs λ hc hs=>And.intro (And.intro (zE zcl 1 s26.Bins.get) (And.intro (zE zaz 3 s27.get) hc)) (zMa hs hk))
def s7:Bool :=
  (zEt ((s10 (3:Int) (⟨1,λ _=>(⟨(0:Int),(2:Int),(100:Int),(130:Int),(⟨(4:Int),(6:Int)⟩:Span),(3:Int)⟩:Pulse)⟩:(Sl Pulse))).2) (((s10 (3:Int) (⟨1,λ _=>(⟨(0:Int),(2:Int),(100:Int),(130:Int),(⟨(4:Int),(6:Int)⟩:Span),(3:Int)⟩:Pulse)⟩:(Sl Pulse))).1).Nodes) (((s10 (3:Int) (⟨1,λ _=>(⟨(0:Int),(2:Int),(100:Int),(130:Int),(⟨(4:Int),(6:Int)⟩:Span),(3:Int)⟩:Pulse)⟩:(Sl Pulse))).1).Ties))
def p7:Bool :=
  (decide ((p10 (3:Int) (⟨1,λ _=>(⟨(0:Int),(2:Int),(100:Int),(130:Int),(⟨(4:Int),(6:Int)⟩:Span),(3:Int)⟩:Pulse)⟩:(Sl Pulse))=true)) &&
 (zEu ((s10 (3:Int) (⟨1,λ _=>(⟨(0:Int),(2:Int),(100:Int),(130:Int),(⟨(4:Int),(6:Int)⟩:Span),(3:Int)⟩:Pulse)⟩:(Sl Pulse))).2) (((s10 (3:Int) (⟨1,λ _=>(⟨(0:Int),(2:Int),(100:Int),(130:Int),(⟨(4:Int),(6:Int)⟩:Span),(3:Int)⟩:Pulse)⟩:(Sl Pulse))).1).Nodes) (((s10 (3:Int) (⟨1,λ _=>(⟨(0:Int),(2:Int),(100:Int),(130:Int),(⟨(4:Int),(6:Int)⟩:Span),(3:Int)⟩:Pulse)⟩:(Sl Pulse))).1).Ties)))
end
theorem q7 (K:List PA->Prop) (hs:p7=true) (hk:K (e7 (s7))):vcFun Tryd.prog G7 zQd 7 [] K :=
  zaE (by kernel_rfl) (zaJ hs λ hc hs=>And.intro (And.intro (zxF:IsE zge 7 7 (λ _=>(zge (⟨(0:Int),(2:Int),(100:Int),(130:Int),(⟨(4:Int),(6:Int)⟩:Span),(3:Int)⟩:Pulse)))) hc) (zMb hs hk rfl))
theorem zQe:p7=true:=by kernel_rfl
theorem zQf:s7=true:=by kernel_rfl
def zQg : List PA → COut
  | []=>.tot [.one (.bool true)]
  | _=>.no
theorem call7:zac Tryd.prog 7:=⟨_,rfl,rfl,by kernel_rfl⟩
theorem ok7:Ok Tryd.prog 7 zQg:=zau zTw call7 λ args K h=>by
  unfold zQg at h
  split at h
  · refine ⟨fun _ _ => [], fun _ => false, zQd, q7 K zQe ?_⟩
    show K [.one (.bool s7)]
    rw[zQf];exact h
  · exact h.elim
abbrev T12:Tabs:=((Tabs.nil.addF 31 zra).addF 32 zxM)
theorem zQh:TabsOk Tryd.prog T12:=((TabsOk.nil.addF zLj).addF ok32)
abbrev G12:Ctrs:=csm T12 (λ _ _=>[]) (λ _=>false)
def zCS:Ann:=⟨75,[(0,zK [1,2] [2]),(1,zK [1,2,25] [2]),(2,zK [4] []),(3,zK [1,2,26,27,28] [2]),(4,zK [1,2,26,27,28,29] [2]),(5,zK [1,2,6,26,27,28] [2]),(6,zK [1,2,26,27,28,34] [2]),(7,zK [4] []),(8,zK [1,2,26,27,28] [2]),(9,zK [1,37,38,39] []),(10,zK [1,37,38,39,40] []),(11,zK [1,8,37,38,39] [8]),(12,zK [1,8,9,37,38,39] [8]),(13,zK [1,37,38,39,73] []),(14,zK [4] []),(15,zK [1,37,38,39] []),(16,zK [4] [])],
 [(4,zK [1,2,26,27,28] [2]),(10,zK [1,37,38,39] [])],
 [(2,zK [1,2,25] [2]),(3,zK [1,2] [2]),(7,zK [1,2,26,27,28,34] [2]),(9,zK [1,2] [2])],
 [],[]⟩
abbrev R12:=Bool
abbrev e12 (r:R12):List PA:=[.one (.bool r)]
@[irreducible] def z12:=ptF Tryd.prog G12 zCS Tryd.f12
def zEv (n:Net) (zaf:(Sl Int)) (zee:Int):St:=⟨[(1,zS zaL 1 zaf),(2,zp 2 0),(26,zS zaL 1 zaf),(27,zI (zaf.len:Int)),(28,zI zee)],[(2,.box 48 (zm (zc7 n)))],[]⟩
abbrev zHg (K:List PA->Prop) (n:Net) (zaf:(Sl Int)) (X:St->Prop) (P:Int->Bool) (S:Int->Bool):Prop:=∀ ⦃zee:Int⦄,P zee=true->K (e12 (S zee))->X (zEv n zaf zee)
def zEw (n:Net) (zaf:(Sl Int)) (zbW:Int):St:=⟨[(1,zS zaL 1 zaf),(37,zS zao 4 n.Ties),(38,zI (n.Ties.len:Int)),(39,zI zbW)],[],[]⟩
abbrev zMc (K:List PA->Prop) (n:Net) (zaf:(Sl Int)) (X:St->Prop) (P:Int->Bool) (S:Int->Bool):Prop:=∀ ⦃zbW:Int⦄,P zbW=true->K (e12 (S zbW))->X (zEw n zaf zbW)
section
variable {K:List PA->Prop}{n:Net}{zaf:(Sl Int)}{zrM:Bool}{zee:Int}{X2:St->Prop}{P2:Int->Bool}{S2:Int->Bool}{zrN:Int}{zrO:Bool}{zbW:Int}{X5:St->Prop}{P5:Int->Bool}{S5:Int->Bool}
def ziG (n:Net) (zaf:(Sl Int)) (S5:Int->Bool) (zbW:Int):Bool :=
  (cond (decide (zbW < (n.Ties.len : Int)))
 (cond ((n.Ties.get zbW.toNat).Low != (-1000000000000:Int))
 (cond (decide ((w64 ((zaf.get (((n.Ties.get zbW.toNat).To).toNat)) - (zaf.get (((n.Ties.get zbW.toNat).From).toNat)))) < (n.Ties.get zbW.toNat).Low))
 false
 (cond ((n.Ties.get zbW.toNat).High != (1000000000000:Int))
 (cond (decide ((w64 ((zaf.get (((n.Ties.get zbW.toNat).To).toNat)) - (zaf.get (((n.Ties.get zbW.toNat).From).toNat)))) > (n.Ties.get zbW.toNat).High))
 false
 (S5 (w64 (zbW+(1:Int)))))
 (S5 (w64 (zbW+(1:Int))))))
 (cond ((n.Ties.get zbW.toNat).High != (1000000000000:Int))
 (cond (decide ((w64 ((zaf.get (((n.Ties.get zbW.toNat).To).toNat)) - (zaf.get (((n.Ties.get zbW.toNat).From).toNat)))) > (n.Ties.get zbW.toNat).High))
 false
 (S5 (w64 (zbW+(1:Int)))))
 (S5 (w64 (zbW+(1:Int))))))
 true)
def ziH (n:Net) (zaf:(Sl Int)) (P5:Int->Bool) (zbW:Int):Bool :=
  (cond (decide (zbW < (n.Ties.len : Int)))
 (decide ((0<=zbW/\zbW < (n.Ties.len:Int))) &&
 (decide ((0<=(n.Ties.get zbW.toNat).To/\(n.Ties.get zbW.toNat).To < (zaf.len:Int))) &&
 (decide ((0<=(n.Ties.get zbW.toNat).From/\(n.Ties.get zbW.toNat).From < (zaf.len:Int))) &&
 (cond ((n.Ties.get zbW.toNat).Low != (-1000000000000:Int))
 (cond (decide ((w64 ((zaf.get (((n.Ties.get zbW.toNat).To).toNat)) - (zaf.get (((n.Ties.get zbW.toNat).From).toNat)))) < (n.Ties.get zbW.toNat).Low))
 true
 (cond ((n.Ties.get zbW.toNat).High != (1000000000000:Int))
 (cond (decide ((w64 ((zaf.get (((n.Ties.get zbW.toNat).To).toNat)) - (zaf.get (((n.Ties.get zbW.toNat).From).toNat)))) > (n.Ties.get zbW.toNat).High))
 true
 (P5 (w64 (zbW+(1:Int)))))
 (P5 (w64 (zbW+(1:Int))))))
 (cond ((n.Ties.get zbW.toNat).High != (1000000000000:Int))
 (cond (decide ((w64 ((zaf.get (((n.Ties.get zbW.toNat).To).toNat)) - (zaf.get (((n.Ties.get zbW.toNat).From).toNat)))) > (n.Ties.get zbW.toNat).High))
 true
 (P5 (w64 (zbW+(1:Int)))))
 (P5 (w64 (zbW+(1:Int)))))))))
 true)
def ziI (n:Net) (zaf:(Sl Int)):Nat->Int->Bool:=lpO (λ _=>default) (ziG n zaf)
def ziJ (n:Net) (zaf:(Sl Int)):Nat->Int->Bool:=lpO (λ _=>false) (ziH n zaf)
def zzv (n:Net) (zaf:(Sl Int)) (zbW:Int):Bool:=ziI n zaf Fuel zbW
def zzw (n:Net) (zaf:(Sl Int)) (zbW:Int):Bool:=ziJ n zaf Fuel zbW
theorem zHh (hs:zzw n zaf zbW=true) (hk:K (e12 (zzv n zaf zbW))):z12 K [1,1,1,0,1,0] [] (zEw n zaf zbW) :=
  zl (λ X=>z12 K [1,1,1,0,1,0,0] [X]) (by kernel_rfl) λ X5 hX =>
  (show ∀ k, zMc K n zaf X5 (ziJ n zaf k) (ziI n zaf k) from zgd _ _ (ziH n zaf) (ziG n zaf) (zMc K n zaf X5)
 (by intro _ hs;exact absurd hs dqk)
 (by intro P5 S5 hX5 zbW hs hk;exact hX _ (zaE (by kernel_rfl) (zc hs hk (λ hs hk=>(zaJ hs λ hc hs=>And.intro hc (zaJ hs λ hc hs=>And.intro hc (zaJ hs λ hc hs=>And.intro hc (zc hs hk (λ hs hk=>(zc hs hk (λ hs hk=>hk) (λ hs hk=>(zc hs hk (λ hs hk=>(zc hs hk (λ hs hk=>hk) (λ hs hk=>(hX5 hs hk)))) (λ hs hk=>(hX5 hs hk)))))) (λ hs hk=>(zc hs hk (λ hs hk=>(zc hs hk (λ hs hk=>hk) (λ hs hk=>(hX5 hs hk)))) (λ hs hk=>(hX5 hs hk))))))))) (λ hs hk=>hk))))) _ hs hk
def zlm (n:Net) (zaf:(Sl Int)):Bool :=
  (zzv n zaf (0:Int))
def znx (n:Net) (zaf:(Sl Int)):Bool :=
  (zzw n zaf (0:Int))
theorem zHi (hs:znx n zaf=true) (hk:K (e12 (zlm n zaf))):z12 K [1,1,1] [] ⟨[(1,zS zaL 1 zaf),(2,zp 2 0)],[(2,.box 48 (zm (zc7 n)))],[]⟩:=zaE (by kernel_rfl) (zHh hs hk)
def zny (S2:Int->Bool) (n:Net) (zaf:(Sl Int)) (zrN:Int) (zrO:Bool):Bool :=
  (cond zrO
 false
 (S2 (w64 (zrN+(1:Int)))))
def znz (P2:Int->Bool) (n:Net) (zaf:(Sl Int)) (zrN:Int) (zrO:Bool):Bool :=
  (cond zrO
 true
 (P2 (w64 (zrN+(1:Int)))))
theorem zHj (hX2:zHg K n zaf X2 P2 S2) (hs:znz P2 n zaf zrN zrO=true) (hk:K (e12 (zny S2 n zaf zrN zrO))):z12 K [1,1,0,1,0,0,1,1,0,0,1,1] [X2] ⟨[(1,zS zaL 1 zaf),(2,zp 2 0),(26,zS zaL 1 zaf),(27,zI (zaf.len:Int)),(28,zI zrN),(34,zB zrO)],[(2,.box 48 (zm (zc7 n)))],[]⟩:=zaE (by kernel_rfl) (zc hs hk (λ hs hk=>hk) (λ hs hk=>(hX2 hs hk)))
def zeY (n:Net) (zaf:(Sl Int)) (S2:Int->Bool) (zee:Int):Bool :=
  (cond (decide (zee < (zaf.len : Int)))
 (zny S2 n zaf zee (!(s31 (zaf.get zee.toNat) (-1000000000000:Int) (1000000000000:Int))))
 (zlm n zaf))
def zeZ (n:Net) (zaf:(Sl Int)) (P2:Int->Bool) (zee:Int):Bool :=
  (cond (decide (zee < (zaf.len : Int)))
 (decide ((0<=zee/\zee < (zaf.len:Int))) &&
 (znz P2 n zaf zee (!(s31 (zaf.get zee.toNat) (-1000000000000:Int) (1000000000000:Int)))))
 (znx n zaf))
def ze0 (n:Net) (zaf:(Sl Int)):Nat->Int->Bool:=lpO (λ _=>default) (zeY n zaf)
def ze1 (n:Net) (zaf:(Sl Int)):Nat->Int->Bool:=lpO (λ _=>false) (zeZ n zaf)
def znA (n:Net) (zaf:(Sl Int)) (zee:Int):Bool:=ze0 n zaf Fuel zee
def znB (n:Net) (zaf:(Sl Int)) (zee:Int):Bool:=ze1 n zaf Fuel zee
theorem zHk (hs:znB n zaf zee=true) (hk:K (e12 (znA n zaf zee))):z12 K [1,1,0,1,0] [] (zEv n zaf zee) :=
  zl (λ X=>z12 K [1,1,0,1,0,0] [X]) (by kernel_rfl) λ X2 hX =>
  (show ∀ k, zHg K n zaf X2 (ze1 n zaf k) (ze0 n zaf k) from zgd _ _ (zeZ n zaf) (zeY n zaf) (zHg K n zaf X2)
 (by intro _ hs;exact absurd hs dqk)
 (by intro P2 S2 hX2 zee hs hk;exact hX _ (zaE (by kernel_rfl) (zc hs hk (λ hs hk=>(zaJ hs λ hc hs=>And.intro hc (zHj hX2 hs hk))) (λ hs hk=>(zHi hs hk)))))) _ hs hk
def znC (n:Net) (zaf:(Sl Int)):Bool :=
  (znA n zaf (0:Int))
def znD (n:Net) (zaf:(Sl Int)):Bool :=
  (znB n zaf (0:Int))
theorem zHl (hs:znD n zaf=true) (hk:K (e12 (znC n zaf))):z12 K [1,1] [] ⟨[(1,zS zaL 1 zaf),(2,zp 2 0)],[(2,.box 48 (zm (zc7 n)))],[]⟩:=zaE (by kernel_rfl) (zHk hs hk)
def ziK (n:Net) (zaf:(Sl Int)) (zrM:Bool):Bool :=
  (cond zrM
 false
 (znC n zaf))
def ziL (n:Net) (zaf:(Sl Int)) (zrM:Bool):Bool :=
  (cond zrM
 true
 (znD n zaf))
theorem zrP (hs:ziL n zaf zrM=true) (hk:K (e12 (ziK n zaf zrM))):z12 K [1,0,1] [] ⟨[(1,zS zaL 1 zaf),(2,zp 2 0),(25,zB zrM)],[(2,.box 48 (zm (zc7 n)))],[]⟩:=zaE (by kernel_rfl) (zc hs hk (λ hs hk=>hk) (λ hs hk=>(zHl hs hk)))
def s12 (n:Net) (zaf:(Sl Int)):Bool :=
  (cond (!(s32 n))
 (ziK n zaf true)
 (cond ((zaf.len : Int) != n.Nodes)
 (ziK n zaf true)
 (ziK n zaf ((zaf.get 0) != (0:Int)))))
def p12 (n:Net) (zaf:(Sl Int)):Bool :=
  (decide ((p32 n=true)) &&
 (cond (!(s32 n))
 (ziL n zaf true)
 (cond ((zaf.len : Int) != n.Nodes)
 (ziL n zaf true)
 (decide ((0<=(0:Int)/\(0:Int) < (zaf.len:Int))) &&
 (ziL n zaf ((zaf.get 0) != (0:Int)))))))
end
theorem q12 (n:Net) (zaf:(Sl Int)) (K:List PA->Prop) (hs:p12 n zaf=true) (hk:K (e12 (s12 n zaf))):vcFun Tryd.prog G12 zCS 12 [.agg (zc7 n),.one (.sl zaf.len 1 (λ i=>zaL (zaf.get i)))] K :=
  zaE (by kernel_rfl) (zaJ hs λ hc hs=>And.intro (And.intro (zE zao 4 n.Ties.get) hc) (zc hs hk (λ hs hk=>(zrP hs hk)) (λ hs hk=>(zc hs hk (λ hs hk=>(zrP hs hk)) (λ hs hk=>(zaJ hs λ hc hs=>And.intro hc (zrP hs hk)))))))
def zHm : List PA → COut
  | [.agg [.int .i64 zaw,.sl zaA zbP zav],.one (.sl zeK zlQ zeL)]=>.det (IsE zao 4 zbP zav/\IsE zaL 1 zlQ zeL/\p12 (⟨zaw,(⟨zaA,za6 zav⟩:(Sl Tie))⟩:Net) (⟨zeK,zbZ zeL⟩:(Sl Int))=true) [.one (.bool (s12 (⟨zaw,(⟨zaA,za6 zav⟩:(Sl Tie))⟩:Net) (⟨zeK,zbZ zeL⟩:(Sl Int))))]
  | [.agg [.int .i64 zaw,.nils],.one (.sl zeK zlQ zeL)]=>.det (IsE zaL 1 zlQ zeL/\p12 (⟨zaw,(⟨0,λ _=>default⟩:(Sl Tie))⟩:Net) (⟨zeK,zbZ zeL⟩:(Sl Int))=true) [.one (.bool (s12 (⟨zaw,(⟨0,λ _=>default⟩:(Sl Tie))⟩:Net) (⟨zeK,zbZ zeL⟩:(Sl Int))))]
  | _=>.no
theorem call12:zac Tryd.prog 12:=⟨_,rfl,rfl,by kernel_rfl⟩
theorem zTx:Ok Tryd.prog 12 zHm:=zhl zQh call12 λ args K h=>by
  unfold zHm at h
  split at h
  · rename_i zaw zaA zbP zav zeK zlQ zeL
    obtain⟨⟨⟨rfl,zbv,rfl⟩,⟨rfl,zin,rfl⟩,hs⟩,hk⟩:=h
    try rw[zaN zbv] at hs
    try rw[zaN zbv] at hk
    try rw[zeo zin] at hs
    try rw[zeo zin] at hk
    exact⟨_,zg8 zfW _,(λ _ _=>[]),(λ _=>false),zCS,q12 (⟨zaw,(⟨zaA,zbv⟩:(Sl Tie))⟩:Net) (⟨zeK,zin⟩:(Sl Int)) (Wk K) hs (zfX hk)⟩
  · rename_i zaw zeK zlQ zeL
    obtain⟨⟨⟨rfl,zin,rfl⟩,hs⟩,hk⟩:=h
    try rw[zeo zin] at hs
    try rw[zeo zin] at hk
    exact⟨_,(ze4 (.agg (ze4 (.rfl _) (ze4 (.nil _ _) zka))) (ze4 (zfW _) zka)),(λ _ _=>[]),(λ _=>false),zCS,q12 (⟨zaw,(⟨0,λ _=>default⟩:(Sl Tie))⟩:Net) (⟨zeK,zin⟩:(Sl Int)) (Wk K) hs (zfX hk)⟩
  · exact h.elim
abbrev T43:Tabs:=Tabs.nil
theorem zQi:TabsOk Tryd.prog T43:=TabsOk.nil
abbrev G43:Ctrs:=csm T43 (λ _ _=>[]) (λ _=>false)
def zMd:Ann:=⟨15,[(0,zK [0,1,2] []),(1,zK [6] [])],
 [],
 [],
 [],[]⟩
abbrev R43:=Bool
abbrev e43 (r:R43):List PA:=[.one (.bool r)]
section
variable {K:List PA->Prop}{n:Int}{low:Int}{high:Int}
def s43 (n:Int) (low:Int) (high:Int):Bool :=
  (cond (decide (n >= low))
 (decide (n<=high))
 false)
end
theorem q43 (n:Int) (low:Int) (high:Int) (K:List PA->Prop) (hk:K (e43 (s43 n low high))):vcFun Tryd.prog G43 zMd 43 [.one (.int .i64 n),.one (.int .i64 low),.one (.int .i64 high)] K :=
  zaE (by kernel_rfl) (zt hk (λ hk=>hk) (λ hk=>hk))
def zCT : List PA → COut
  | [.one (.int .i64 a0),.one (.int .i64 a1),.one (.int .i64 a2)]=>.tot [.one (.bool (s43 a0 a1 a2))]
  | _=>.no
theorem zMe:zac Tryd.prog 43:=⟨_,rfl,rfl,by kernel_rfl⟩
theorem zRS:Ok Tryd.prog 43 zCT:=zau zQi zMe λ args K h=>by
  unfold zCT at h
  split at h
  · rename_i a0 a1 a2
    have hk:=h
    exact⟨(λ _ _=>[]),(λ _=>false),zMd,q43 a0 a1 a2 K hk⟩
  · exact h.elim
abbrev T42:Tabs:=(Tabs.nil.addF 43 zCT)
theorem zQj:TabsOk Tryd.prog T42:=(TabsOk.nil.addF zRS)
abbrev G42:Ctrs:=csm T42 (λ _ _=>[]) (λ _=>false)
def zMf:Ann:=⟨18,[(0,zK [1] [1]),(1,zK [2] [])],
 [],
 [],
 [],[]⟩
abbrev R42:=Bool
abbrev e42 (r:R42):List PA:=[.one (.bool r)]
section
variable {K:List PA->Prop}{g:Gate}
def s42 (g:Gate):Bool :=
  (cond (s43 g.Z (0:Int) (100000:Int))
 (cond (s43 g.Low (-1000000:Int) g.High)
 (decide (g.High<=(1000000:Int)))
 false)
 false)
end
theorem q42 (g:Gate) (K:List PA->Prop) (hk:K (e42 (s42 g))):vcFun Tryd.prog G42 zMf 42 [.agg (zad g)] K :=
  zaE (by kernel_rfl) (zt hk (λ hk=>(zt hk (λ hk=>hk) (λ hk=>hk))) (λ hk=>hk))
def zHn : List PA → COut
  | [.agg [.int .i64 zqp,.int .i64 zch,.int .i64 zbH]]=>.tot [.one (.bool (s42 (⟨zqp,zch,zbH⟩:Gate)))]
  | _=>.no
theorem zMg:zac Tryd.prog 42:=⟨_,rfl,rfl,by kernel_rfl⟩
theorem zTy:Ok Tryd.prog 42 zHn:=zau zQj zMg λ args K h=>by
  unfold zHn at h
  split at h
  · rename_i zqp zch zbH
    have hk:=h
    exact⟨(λ _ _=>[]),(λ _=>false),zMf,q42 (⟨zqp,zch,zbH⟩:Gate) K hk⟩
  · exact h.elim
abbrev T15:Tabs:=((Tabs.nil.addF 42 zHn).addF 43 zCT)
theorem zQk:TabsOk Tryd.prog T15:=((TabsOk.nil.addF zTy).addF zRS)
abbrev G15:Ctrs:=csm T15 (λ _ _=>[]) (λ _=>false)
def zHo:Ann:=⟨19,[(0,zK [0] []),(1,zK [0,3] []),(2,zK [0,3,7] []),(3,zK [0,3] []),(4,zK [0,3,15] []),(5,zK [2] []),(6,zK [2] [])],
 [(2,zK [0,3] [])],
 [(5,zK [0,3,15] [])],
 [],[]⟩
abbrev R15:=Bool
abbrev e15 (r:R15):List PA:=[.one (.bool r)]
@[irreducible] def z15:=ptF Tryd.prog G15 zHo Tryd.f15
def zEx (l_a0:(Sl Gate)) (iv0:Int):St:=⟨[(0,zS zad 3 l_a0),(3,zI iv0)],[],[]⟩
abbrev zHp (K:List PA->Prop) (l_a0:(Sl Gate)) (X:St->Prop) (P:Int->Bool) (S:Int->Bool):Prop:=∀ ⦃iv0:Int⦄,P iv0=true->K (e15 (S iv0))->X (zEx l_a0 iv0)
section
variable {K:List PA->Prop}{l_a0:(Sl Gate)}{iv0:Int}{X0:St->Prop}{P0:Int->Bool}{S0:Int->Bool}{iv1:Int}{zrQ:Bool}
def zrR (S0:Int->Bool) (l_a0:(Sl Gate)) (iv1:Int) (zrQ:Bool):Bool :=
  (cond zrQ
 false
 (S0 (w64 (iv1+(1:Int)))))
def zrS (P0:Int->Bool) (l_a0:(Sl Gate)) (iv1:Int) (zrQ:Bool):Bool :=
  (cond zrQ
 true
 (P0 (w64 (iv1+(1:Int)))))
theorem zHq (hX0:zHp K l_a0 X0 P0 S0) (hs:zrS P0 l_a0 iv1 zrQ=true) (hk:K (e15 (zrR S0 l_a0 iv1 zrQ))):z15 K [1,0,1,0,0,1,0,0,1] [X0] ⟨[(0,zS zad 3 l_a0),(3,zI iv1),(15,zB zrQ)],[],[]⟩:=zaE (by kernel_rfl) (zc hs hk (λ hs hk=>hk) (λ hs hk=>(hX0 hs hk)))
def ziM (l_a0:(Sl Gate)) (S0:Int->Bool) (iv0:Int):Bool :=
  (cond (decide (iv0 < (l_a0.len : Int)))
 (zrR S0 l_a0 iv0 (!(s42 (l_a0.get iv0.toNat))))
 (s43 (l_a0.len:Int) (1:Int) (24:Int)))
def ziN (l_a0:(Sl Gate)) (P0:Int->Bool) (iv0:Int):Bool :=
  (cond (decide (iv0 < (l_a0.len : Int)))
 (decide ((0<=iv0/\iv0 < (l_a0.len:Int))) &&
 (zrS P0 l_a0 iv0 (!(s42 (l_a0.get iv0.toNat)))))
 true)
def ziO (l_a0:(Sl Gate)):Nat->Int->Bool:=lpO (λ _=>default) (ziM l_a0)
def ziP (l_a0:(Sl Gate)):Nat->Int->Bool:=lpO (λ _=>false) (ziN l_a0)
def zzx (l_a0:(Sl Gate)) (iv0:Int):Bool:=ziO l_a0 Fuel iv0
def zzy (l_a0:(Sl Gate)) (iv0:Int):Bool:=ziP l_a0 Fuel iv0
theorem zHr (hs:zzy l_a0 iv0=true) (hk:K (e15 (zzx l_a0 iv0))):z15 K [1,0,1,0] [] (zEx l_a0 iv0) :=
  zl (λ X=>z15 K [1,0,1,0,0] [X]) (by kernel_rfl) λ X0 hX =>
  (show ∀ k, zHp K l_a0 X0 (ziP l_a0 k) (ziO l_a0 k) from zgd _ _ (ziN l_a0) (ziM l_a0) (zHp K l_a0 X0)
 (by intro _ hs;exact absurd hs dqk)
 (by intro P0 S0 hX0 iv0 hs hk;exact hX _ (zaE (by kernel_rfl) (zc hs hk (λ hs hk=>(zaJ hs λ hc hs=>And.intro hc (zHq hX0 hs hk))) (λ hs hk=>hk))))) _ hs hk
def s15 (l_a0:(Sl Gate)):Bool :=
  (zzx l_a0 (0:Int))
def p15 (l_a0:(Sl Gate)):Bool :=
  (zzy l_a0 (0:Int))
end
theorem q15 (l_a0:(Sl Gate)) (K:List PA->Prop) (hs:p15 l_a0=true) (hk:K (e15 (s15 l_a0))):vcFun Tryd.prog G15 zHo 15 [.one (.sl l_a0.len 3 (λ i=>zad (l_a0.get i)))] K :=
  zaE (by kernel_rfl) (zHr hs hk)
def zHs : List PA → COut
  | [.one (.sl zbq zcO zbr)]=>.det (IsE zad 3 zcO zbr/\p15 (⟨zbq,zaj zbr⟩:(Sl Gate))=true) [.one (.bool (s15 (⟨zbq,zaj zbr⟩:(Sl Gate))))]
  | _=>.no
theorem zMh:zac Tryd.prog 15:=⟨_,rfl,rfl,by kernel_rfl⟩
theorem zTz:Ok Tryd.prog 15 zHs:=zau zQk zMh λ args K h=>by
  unfold zHs at h
  split at h
  · rename_i zbq zcO zbr
    obtain⟨⟨⟨rfl,zb6,rfl⟩,hs⟩,hk⟩:=h
    try rw[zae zb6] at hs
    try rw[zae zb6] at hk
    exact⟨(λ _ _=>[]),(λ _=>false),zHo,q15 (⟨zbq,zb6⟩:(Sl Gate)) K hs hk⟩
  · exact h.elim
abbrev T16:Tabs:=Tabs.nil
theorem zQl:TabsOk Tryd.prog T16:=TabsOk.nil
abbrev G16:Ctrs:=csm T16 (λ _ _=>[]) (λ _=>false)
def zHt:Ann:=⟨20,[(0,zK [0] []),(1,zK [0,3] []),(2,zK [0,3,7] []),(3,zK [0,3] []),(4,zK [0,3,19] []),(5,zK [2] []),(6,zK [2] [])],
 [(2,zK [0,3] [])],
 [],
 [],[]⟩
abbrev R16:=Bool
abbrev e16 (r:R16):List PA:=[.one (.bool r)]
@[irreducible] def z16:=ptF Tryd.prog G16 zHt Tryd.f16
def zEy (zaa:(Sl Gate)) (iv0:Int):St:=⟨[(0,zS zad 3 zaa),(3,zI iv0)],[],[]⟩
abbrev zMi (K:List PA->Prop) (zaa:(Sl Gate)) (X:St->Prop) (P:Int->Bool) (S:Int->Bool):Prop:=∀ ⦃iv0:Int⦄,P iv0=true->K (e16 (S iv0))->X (zEy zaa iv0)
section
variable {K:List PA->Prop}{zaa:(Sl Gate)}{iv0:Int}{X0:St->Prop}{P0:Int->Bool}{S0:Int->Bool}
def ziQ (zaa:(Sl Gate)) (S0:Int->Bool) (iv0:Int):Bool :=
  (cond (decide (iv0 < (zaa.len : Int)))
 (cond ((zaa.get iv0.toNat).Z != (zaa.get 0).Z)
 false
 (S0 (w64 (iv0+(1:Int)))))
 true)
def ziR (zaa:(Sl Gate)) (P0:Int->Bool) (iv0:Int):Bool :=
  (cond (decide (iv0 < (zaa.len : Int)))
 (decide ((0<=iv0/\iv0 < (zaa.len:Int))) &&
 (decide ((0<=(0:Int)/\(0:Int) < (zaa.len:Int))) &&
 (cond ((zaa.get iv0.toNat).Z != (zaa.get 0).Z)
 true
 (P0 (w64 (iv0+(1:Int)))))))
 true)
def ziS (zaa:(Sl Gate)):Nat->Int->Bool:=lpO (λ _=>default) (ziQ zaa)
def ziT (zaa:(Sl Gate)):Nat->Int->Bool:=lpO (λ _=>false) (ziR zaa)
def zzz (zaa:(Sl Gate)) (iv0:Int):Bool:=ziS zaa Fuel iv0
def zzA (zaa:(Sl Gate)) (iv0:Int):Bool:=ziT zaa Fuel iv0
theorem zHu (hs:zzA zaa iv0=true) (hk:K (e16 (zzz zaa iv0))):z16 K [1,0,1,0] [] (zEy zaa iv0) :=
  zl (λ X=>z16 K [1,0,1,0,0] [X]) (by kernel_rfl) λ X0 hX =>
  (show ∀ k, zMi K zaa X0 (ziT zaa k) (ziS zaa k) from zgd _ _ (ziR zaa) (ziQ zaa) (zMi K zaa X0)
 (by intro _ hs;exact absurd hs dqk)
 (by intro P0 S0 hX0 iv0 hs hk;exact hX _ (zaE (by kernel_rfl) (zc hs hk (λ hs hk=>(zaJ hs λ hc hs=>And.intro hc (zaJ hs λ hc hs=>And.intro hc (zc hs hk (λ hs hk=>hk) (λ hs hk=>(hX0 hs hk)))))) (λ hs hk=>hk))))) _ hs hk
def s16 (zaa:(Sl Gate)):Bool :=
  (zzz zaa (1:Int))
def p16 (zaa:(Sl Gate)):Bool :=
  (zzA zaa (1:Int))
end
theorem q16 (zaa:(Sl Gate)) (K:List PA->Prop) (hs:p16 zaa=true) (hk:K (e16 (s16 zaa))):vcFun Tryd.prog G16 zHt 16 [.one (.sl zaa.len 3 (λ i=>zad (zaa.get i)))] K :=
  zaE (by kernel_rfl) (zHu hs hk)
def zHv : List PA → COut
  | [.one (.sl zbq zcO zbr)]=>.det (IsE zad 3 zcO zbr/\p16 (⟨zbq,zaj zbr⟩:(Sl Gate))=true) [.one (.bool (s16 (⟨zbq,zaj zbr⟩:(Sl Gate))))]
  | _=>.no
theorem call16:zac Tryd.prog 16:=⟨_,rfl,rfl,by kernel_rfl⟩
theorem ok16:Ok Tryd.prog 16 zHv:=zau zQl call16 λ args K h=>by
  unfold zHv at h
  split at h
  · rename_i zbq zcO zbr
    obtain⟨⟨⟨rfl,zb6,rfl⟩,hs⟩,hk⟩:=h
    try rw[zae zb6] at hs
    try rw[zae zb6] at hk
    exact⟨(λ _ _=>[]),(λ _=>false),zHt,q16 (⟨zbq,zb6⟩:(Sl Gate)) K hs hk⟩
  · exact h.elim
abbrev T46:Tabs:=Tabs.nil
theorem zQm:TabsOk Tryd.prog T46:=TabsOk.nil
abbrev G46:Ctrs:=csm T46 (λ _ _=>[]) (λ _=>false)
def zHw:Ann:=⟨12,[(0,zK [0,1] []),(1,zK [0,1,6] []),(2,zK [0,1] []),(3,zK [4] [])],
 [(1,zK [0,1] [])],
 [],
 [],[]⟩
abbrev R46:=Int
abbrev e46 (r:R46):List PA:=[.one (.int .i64 r)]
@[irreducible] def z46:=ptF Tryd.prog G46 zHw Tryd.f46
def zEz (av0:Int) (bv0:Int):St:=⟨[(0,zI av0),(1,zI bv0)],[],[]⟩
abbrev zMj (K:List PA->Prop) (X:St->Prop) (P:Int->Int->Bool) (S:Int->Int->Int):Prop:=∀ ⦃av0:Int⦄ ⦃bv0:Int⦄,P av0 bv0=true->K (e46 (S av0 bv0))->X (zEz av0 bv0)
section
variable {K:List PA->Prop}{a:Int}{b:Int}{av0:Int}{bv0:Int}{X0:St->Prop}{P0:Int->Int->Bool}{S0:Int->Int->Int}
def znE (S0:Int->Int->Int) (av0:Int) (bv0:Int):Int :=
  (cond (bv0 != (0:Int))
 (S0 bv0 (av0.tmod bv0))
 av0)
def znF (P0:Int->Int->Bool) (av0:Int) (bv0:Int):Bool :=
  (cond (bv0 != (0:Int))
 (decide ((bv0 ≠ 0)) &&
 (P0 bv0 (av0.tmod bv0)))
 true)
def znG:Nat->Int->Int->Int:=lpO (λ _ _=>default) (znE)
def znH:Nat->Int->Int->Bool:=lpO (λ _ _=>false) (znF)
def zzB (av0:Int) (bv0:Int):Int:=znG Fuel av0 bv0
def zzC (av0:Int) (bv0:Int):Bool:=znH Fuel av0 bv0
theorem zHx (hs:zzC av0 bv0=true) (hk:K (e46 (zzB av0 bv0))):z46 K [1,0,0] [] (zEz av0 bv0) :=
  zl (λ X=>z46 K [1,0,0,0] [X]) (by kernel_rfl) λ X0 hX =>
  (show ∀ k, zMj K X0 (znH k) (znG k) from zgd _ _ (znF) (znE) (zMj K X0)
 (by intro _ _ hs;exact absurd hs dqk)
 (by intro P0 S0 hX0 av0 bv0 hs hk;exact hX _ (zaE (by kernel_rfl) (zc hs hk (λ hs hk=>(zaJ hs λ hc hs=>And.intro hc (hX0 hs hk))) (λ hs hk=>hk))))) _ hs hk
def s46 (a:Int) (b:Int):Int :=
  (zzB a b)
def p46 (a:Int) (b:Int):Bool :=
  (zzC a b)
end
theorem q46 (a:Int) (b:Int) (K:List PA->Prop) (hs:p46 a b=true) (hk:K (e46 (s46 a b))):vcFun Tryd.prog G46 zHw 46 [.one (.int .i64 a),.one (.int .i64 b)] K :=
  zaE (by kernel_rfl) (zHx hs hk)
def zCU : List PA → COut
  | [.one (.int .i64 a0),.one (.int .i64 a1)]=>.det (p46 a0 a1=true) [.one (.int .i64 (s46 a0 a1))]
  | _=>.no
theorem zMk:zac Tryd.prog 46:=⟨_,rfl,rfl,by kernel_rfl⟩
theorem zRT:Ok Tryd.prog 46 zCU:=zau zQm zMk λ args K h=>by
  unfold zCU at h
  split at h
  · rename_i a0 a1
    obtain⟨hs,hk⟩:=h
    exact⟨(λ _ _=>[]),(λ _=>false),zHw,q46 a0 a1 K hs hk⟩
  · exact h.elim
abbrev T44:Tabs:=(Tabs.nil.addF 46 zCU)
theorem zQn:TabsOk Tryd.prog T44:=(TabsOk.nil.addF zRT)
abbrev G44:Ctrs:=csm T44 (λ _ _=>[]) (λ _=>false)
def zMl:Ann:=⟨19,[(0,zK [0,1,4] [4]),(1,zK [0,1,4,5] [4]),(2,zK [4] [4])],
 [],
 [],
 [],[]⟩
abbrev R44:=Frac
abbrev e44 (r:R44):List PA:=[.agg [.int .i64 r.Num,.int .i64 r.Den]]
section
variable {K:List PA->Prop}{num:Int}{den:Int}
def s44 (num:Int) (den:Int):Frac :=
  (⟨(w64 (num.tdiv (s46 (if (w64 (0 - num)) > num then (w64 (0 - num)) else num) den))),(w64 (den.tdiv (s46 (if (w64 (0 - num)) > num then (w64 (0 - num)) else num) den)))⟩:Frac)
def p44 (num:Int) (den:Int):Bool :=
  (decide ((p46 (if (w64 (0 - num)) > num then (w64 (0 - num)) else num) den=true)) &&
 (decide (((s46 (if (w64 (0 - num)) > num then (w64 (0 - num)) else num) den) ≠ 0)) &&
 (decide (((s46 (if (w64 (0 - num)) > num then (w64 (0 - num)) else num) den) ≠ 0)) &&
 true)))
end
theorem q44 (num:Int) (den:Int) (K:List PA->Prop) (hs:p44 num den=true) (hk:K (e44 (s44 num den))):vcFun Tryd.prog G44 zMl 44 [.one (.int .i64 num),.one (.int .i64 den)] K :=
  zaE (by kernel_rfl) (zaJ hs λ hc hs=>And.intro hc (zaJ hs λ hc hs=>And.intro hc (zaJ hs λ hc hs=>And.intro hc hk)))
def zCV : List PA → COut
  | [.one (.int .i64 a0),.one (.int .i64 a1)]=>.det (p44 a0 a1=true) [.agg [.int .i64 ((s44 a0 a1).Num),.int .i64 ((s44 a0 a1).Den)]]
  | _=>.no
theorem zMm:zac Tryd.prog 44:=⟨_,rfl,rfl,by kernel_rfl⟩
theorem zRU:Ok Tryd.prog 44 zCV:=zau zQn zMm λ args K h=>by
  unfold zCV at h
  split at h
  · rename_i a0 a1
    obtain⟨hs,hk⟩:=h
    exact⟨(λ _ _=>[]),(λ _=>false),zMl,q44 a0 a1 K hs hk⟩
  · exact h.elim
abbrev T17:Tabs:=(Tabs.nil.addF 44 zCV)
theorem zQo:TabsOk Tryd.prog T17:=(TabsOk.nil.addF zRU)
abbrev G17:Ctrs:=csm T17 (λ _ _=>[]) (λ _=>false)
def zHy:Ann:=⟨35,[(0,zK [0,1,2,3,8] [8]),(1,zK [0,1,2,3,8,11] [8]),(2,zK [0,1,2,3,8] [8]),(3,zK [8] [8])],
 [],
 [(3,zK [0,1,2,3,8] [8])],
 [],[]⟩
abbrev R17:=Line
abbrev e17 (r:R17):List PA:=[.agg [.int .i64 r.Slope.Num,.int .i64 r.Slope.Den,.int .i64 r.Start.Num,.int .i64 r.Start.Den]]
@[irreducible] def z17:=ptF Tryd.prog G17 zHy Tryd.f17
section
variable {K:List PA->Prop}{z:Int}{x:Int}{w:Int}{y_a3:Int}{zv0:Int}{xv0:Int}{wv0:Int}{yv0:Int}
def znI (zv0:Int) (xv0:Int) (wv0:Int) (yv0:Int):Line :=
  (⟨(s44 (w64 (yv0 - xv0)) (w64 (wv0 - zv0))),(s44 (w64 ((w64 (xv0 * wv0)) - (w64 (yv0 * zv0)))) (w64 (wv0 - zv0)))⟩:Line)
def znJ (zv0:Int) (xv0:Int) (wv0:Int) (yv0:Int):Bool :=
  (decide ((p44 (w64 (yv0 - xv0)) (w64 (wv0 - zv0))=true)) &&
 (decide ((p44 (w64 ((w64 (xv0 * wv0)) - (w64 (yv0 * zv0)))) (w64 (wv0 - zv0))=true)) &&
 true))
theorem zzD (hs:znJ zv0 xv0 wv0 yv0=true) (hk:K (e17 (znI zv0 xv0 wv0 yv0))):z17 K [1,1] [] ⟨[(0,zI zv0),(1,zI xv0),(2,zI wv0),(3,zI yv0),(8,zp 8 0)],[(8,.box 71 (zm (zgf (⟨(⟨(0:Int),(0:Int)⟩:Frac),(⟨(0:Int),(0:Int)⟩:Frac)⟩:Line))))],[]⟩:=zaE (by kernel_rfl) (zaJ hs λ hc hs=>And.intro hc (zaJ hs λ hc hs=>And.intro hc hk))
def s17 (z:Int) (x:Int) (w:Int) (y_a3:Int):Line :=
  (cond (decide (w < z))
 (znI w y_a3 z x)
 (znI z x w y_a3))
def p17 (z:Int) (x:Int) (w:Int) (y_a3:Int):Bool :=
  (cond (decide (w < z))
 (znJ w y_a3 z x)
 (znJ z x w y_a3))
end
theorem q17 (z:Int) (x:Int) (w:Int) (y_a3:Int) (K:List PA->Prop) (hs:p17 z x w y_a3=true) (hk:K (e17 (s17 z x w y_a3))):vcFun Tryd.prog G17 zHy 17 [.one (.int .i64 z),.one (.int .i64 x),.one (.int .i64 w),.one (.int .i64 y_a3)] K :=
  zaE (by kernel_rfl) (zc hs hk (λ hs hk=>(zzD hs hk)) (λ hs hk=>(zzD hs hk)))
def zHz : List PA → COut
  | [.one (.int .i64 a0),.one (.int .i64 a1),.one (.int .i64 a2),.one (.int .i64 a3)]=>.det (p17 a0 a1 a2 a3=true) [.agg [.int .i64 ((s17 a0 a1 a2 a3).Slope.Num),.int .i64 ((s17 a0 a1 a2 a3).Slope.Den),.int .i64 ((s17 a0 a1 a2 a3).Start.Num),.int .i64 ((s17 a0 a1 a2 a3).Start.Den)]]
  | _=>.no
theorem zMn:zac Tryd.prog 17:=⟨_,rfl,rfl,by kernel_rfl⟩
theorem zTA:Ok Tryd.prog 17 zHz:=zau zQo zMn λ args K h=>by
  unfold zHz at h
  split at h
  · rename_i a0 a1 a2 a3
    obtain⟨hs,hk⟩:=h
    exact⟨(λ _ _=>[]),(λ _=>false),zHy,q17 a0 a1 a2 a3 K hs hk⟩
  · exact h.elim
abbrev T66:Tabs:=Tabs.nil
theorem zQp:TabsOk Tryd.prog T66:=TabsOk.nil
abbrev G66:Ctrs:=csm T66 (λ _ _=>[]) (λ _=>false)
def zMo:Ann:=⟨30,[(0,zK [1,2] [2]),(1,zK [4,5] [])],
 [],
 [],
 [],[]⟩
abbrev R66:=(Int×Int)
abbrev e66 (r:R66):List PA:=[.one (.int .i64 r.1),.one (.int .i64 r.2)]
section
variable {K:List PA->Prop}{l_a0:Line}{z:Int}
def s66 (l_a0:Line) (z:Int):(Int×Int) :=
  ((w64 ((w64 (l_a0.Start.Num * l_a0.Slope.Den))+(w64 ((w64 (l_a0.Slope.Num * z)) * l_a0.Start.Den)))),(w64 (l_a0.Start.Den * l_a0.Slope.Den)))
end
theorem q66 (l_a0:Line) (z:Int) (K:List PA->Prop) (hk:K (e66 (s66 l_a0 z))):vcFun Tryd.prog G66 zMo 66 [.agg (zgf l_a0),.one (.int .i64 z)] K :=
  zaE (by kernel_rfl) hk
def zHA : List PA → COut
  | [.agg [.int .i64 zaU,.int .i64 zaV,.int .i64 zaW,.int .i64 zaX],.one (.int .i64 a1)]=>.tot [.one (.int .i64 ((s66 (⟨(⟨zaU,zaV⟩:Frac),(⟨zaW,zaX⟩:Frac)⟩:Line) a1).1)),.one (.int .i64 ((s66 (⟨(⟨zaU,zaV⟩:Frac),(⟨zaW,zaX⟩:Frac)⟩:Line) a1).2))]
  | _=>.no
theorem zMp:zac Tryd.prog 66:=⟨_,rfl,rfl,by kernel_rfl⟩
theorem zTB:Ok Tryd.prog 66 zHA:=zau zQp zMp λ args K h=>by
  unfold zHA at h
  split at h
  · rename_i zaU zaV zaW zaX a1
    have hk:=h
    exact⟨(λ _ _=>[]),(λ _=>false),zMo,q66 (⟨(⟨zaU,zaV⟩:Frac),(⟨zaW,zaX⟩:Frac)⟩:Line) a1 K hk⟩
  · exact h.elim
abbrev T45:Tabs:=(Tabs.nil.addF 66 zHA)
theorem zQq:TabsOk Tryd.prog T45:=(TabsOk.nil.addF zTB)
abbrev G45:Ctrs:=csm T45 (λ _ _=>[]) (λ _=>false)
def zMq:Ann:=⟨28,[(0,zK [2,3] [2,3]),(1,zK [3,5,6] [3]),(2,zK [4] [])],
 [],
 [],
 [],[]⟩
abbrev R45:=Bool
abbrev e45 (r:R45):List PA:=[.one (.bool r)]
section
variable {K:List PA->Prop}{l_a0:Line}{g:Gate}
def s45 (l_a0:Line) (g:Gate):Bool :=
  (cond (decide ((w64 (g.Low * ((s66 l_a0 g.Z).2))) <= ((s66 l_a0 g.Z).1)))
 (decide (((s66 l_a0 g.Z).1)<=(w64 (g.High * ((s66 l_a0 g.Z).2)))))
 false)
end
theorem q45 (l_a0:Line) (g:Gate) (K:List PA->Prop) (hk:K (e45 (s45 l_a0 g))):vcFun Tryd.prog G45 zMq 45 [.agg (zgf l_a0),.agg (zad g)] K :=
  zaE (by kernel_rfl) (zt hk (λ hk=>hk) (λ hk=>hk))
def zHB : List PA → COut
  | [.agg [.int .i64 zaU,.int .i64 zaV,.int .i64 zaW,.int .i64 zaX],.agg [.int .i64 zHC,.int .i64 zdl,.int .i64 zcz]]=>.tot [.one (.bool (s45 (⟨(⟨zaU,zaV⟩:Frac),(⟨zaW,zaX⟩:Frac)⟩:Line) (⟨zHC,zdl,zcz⟩:Gate)))]
  | _=>.no
theorem zMr:zac Tryd.prog 45:=⟨_,rfl,rfl,by kernel_rfl⟩
theorem zTC:Ok Tryd.prog 45 zHB:=zau zQq zMr λ args K h=>by
  unfold zHB at h
  split at h
  · rename_i zaU zaV zaW zaX zHC zdl zcz
    have hk:=h
    exact⟨(λ _ _=>[]),(λ _=>false),zMq,q45 (⟨(⟨zaU,zaV⟩:Frac),(⟨zaW,zaX⟩:Frac)⟩:Line) (⟨zHC,zdl,zcz⟩:Gate) K hk⟩
  · exact h.elim
abbrev T18:Tabs:=(Tabs.nil.addF 45 zHB)
theorem zQr:TabsOk Tryd.prog T18:=(TabsOk.nil.addF zTC)
abbrev G18:Ctrs:=csm T18 (λ _ _=>[]) (λ _=>false)
def zHD:Ann:=⟨24,[(0,zK [1,2] [2]),(1,zK [1,2,5] [2]),(2,zK [1,2,5,6] [2]),(3,zK [1,2,5,6,10] [2,22]),(4,zK [1,2,5,6] [2,22]),(5,zK [1,2,5,6,18] [2,22]),(6,zK [1,2,5,6] [2,22]),(7,zK [4] [22])],
 [(3,⟨[1,2,5,6],[2,22],[(5,22,3,λ _=>zaL default)],[],[],[],[]⟩)],
 [(6,zK [1,2,5,6,18] [2,22])],
 [],[]⟩
abbrev R18:=(Sl Int)
abbrev e18 (r:R18):List PA:=[.one (.sl r.len 1 (λ i=>zaL (r.get i)))]
@[irreducible] def z18:=ptF Tryd.prog G18 zHD Tryd.f18
def zEA (l_a0:Line) (zaa:(Sl Gate)) (iv0:Int) (ze2:(Sl Int)) (zgk:Nat->List PV):St:=⟨[(1,zS zad 3 zaa),(2,zp 2 0),(5,zv 22),(6,zI iv0)],[(2,.box 71 (zm (zgf l_a0))),(22,.vec 3 1 8 ze2.len zgk)],[]⟩
abbrev zHE (K:List PA->Prop) (l_a0:Line) (zaa:(Sl Gate)) (X:St->Prop) (P:Int->(Sl Int)->Bool) (S:Int->(Sl Int)->(Sl Int)):Prop:=∀ ⦃iv0:Int⦄ ⦃ze2:(Sl Int)⦄ ⦃zgk:Nat->List PV⦄,P iv0 ze2=true->K (e18 (S iv0 ze2))->zgk=zg zaL ze2->X (zEA l_a0 zaa iv0 ze2 zgk)
section
variable {K:List PA->Prop}{l_a0:Line}{zaa:(Sl Gate)}{iv0:Int}{ze2:(Sl Int)}{zgk:Nat->List PV}{X0:St->Prop}{P0:Int->(Sl Int)->Bool}{S0:Int->(Sl Int)->(Sl Int)}{iv1:Int}{zan:Bool}{zgl:(Sl Int)}{zzE:Nat->List PV}
def zrT (S0:Int->(Sl Int)->(Sl Int)) (l_a0:Line) (zaa:(Sl Gate)) (iv1:Int) (zan:Bool) (zgl:(Sl Int)):(Sl Int) :=
  (cond zan
 (S0 (w64 (iv1+(1:Int))) (⟨(zgl.len+1),(zh3 zgl.len zgl.get (λ _=>iv1))⟩:Sl Int))
 (S0 (w64 (iv1+(1:Int))) zgl))
def zrU (P0:Int->(Sl Int)->Bool) (l_a0:Line) (zaa:(Sl Gate)) (iv1:Int) (zan:Bool) (zgl:(Sl Int)):Bool :=
  (cond zan
 (decide (((zgl.len+1) * 8<=140737488355328/\zgl.len+1<=9223372036854775807)) &&
 (P0 (w64 (iv1+(1:Int))) (⟨(zgl.len+1),(zh3 zgl.len zgl.get (λ _=>iv1))⟩:Sl Int)))
 (P0 (w64 (iv1+(1:Int))) zgl))
theorem zHF (hX0:zHE K l_a0 zaa X0 P0 S0) (hs:zrU P0 l_a0 zaa iv1 zan zgl=true) (hk:K (e18 (zrT S0 l_a0 zaa iv1 zan zgl))) (zHG:zzE=zg zaL zgl):z18 K [1,1,0,1,0,0,1,0,0,1] [X0] ⟨[(1,zS zad 3 zaa),(2,zp 2 0),(5,zv 22),(6,zI iv1),(18,zB zan)],[(2,.box 71 (zm (zgf l_a0))),(22,.vec 3 1 8 zgl.len zzE)],[]⟩:=by subst zHG;exact zaE (by kernel_rfl) (zc hs hk (λ hs hk=>(zaJ hs λ hc hs=>And.intro hc (hX0 hs hk (zpr (enc:=zaL) (f:=zgl.get) (h:=(λ _=>iv1)) rfl rfl)))) (λ hs hk=>(hX0 hs hk rfl)))
def ziU (l_a0:Line) (zaa:(Sl Gate)) (S0:Int->(Sl Int)->(Sl Int)) (iv0:Int) (ze2:(Sl Int)):(Sl Int) :=
  (cond (decide (iv0 < (zaa.len : Int)))
 (zrT S0 l_a0 zaa iv0 (s45 l_a0 (zaa.get iv0.toNat)) ze2)
 ze2)
def ziV (l_a0:Line) (zaa:(Sl Gate)) (P0:Int->(Sl Int)->Bool) (iv0:Int) (ze2:(Sl Int)):Bool :=
  (cond (decide (iv0 < (zaa.len : Int)))
 (decide ((0<=iv0/\iv0 < (zaa.len:Int))) &&
 (zrU P0 l_a0 zaa iv0 (s45 l_a0 (zaa.get iv0.toNat)) ze2))
 true)
def ziW (l_a0:Line) (zaa:(Sl Gate)):Nat->Int->(Sl Int)->(Sl Int):=lpO (λ _ _=>default) (ziU l_a0 zaa)
def ziX (l_a0:Line) (zaa:(Sl Gate)):Nat->Int->(Sl Int)->Bool:=lpO (λ _ _=>false) (ziV l_a0 zaa)
def zzF (l_a0:Line) (zaa:(Sl Gate)) (iv0:Int) (ze2:(Sl Int)):(Sl Int):=ziW l_a0 zaa Fuel iv0 ze2
def zzG (l_a0:Line) (zaa:(Sl Gate)) (iv0:Int) (ze2:(Sl Int)):Bool:=ziX l_a0 zaa Fuel iv0 ze2
theorem zHH (hs:zzG l_a0 zaa iv0 ze2=true) (hk:K (e18 (zzF l_a0 zaa iv0 ze2))) (zrV:zgk=zg zaL ze2):z18 K [1,1,0,1,0] [] (zEA l_a0 zaa iv0 ze2 zgk) :=
  zl (λ X=>z18 K [1,1,0,1,0,0] [X]) (by kernel_rfl) λ X0 hX =>
  (show ∀ k, zHE K l_a0 zaa X0 (ziX l_a0 zaa k) (ziW l_a0 zaa k) from zgd _ _ (ziV l_a0 zaa) (ziU l_a0 zaa) (zHE K l_a0 zaa X0)
 (by intro _ _ _ hs;exact absurd hs dqk)
 (by intro P0 S0 hX0 iv0 ze2 zgk hs hk zrV;subst zrV;exact hX _ (zaE (by kernel_rfl) (zc hs hk (λ hs hk=>(zaJ hs λ hc hs=>And.intro hc (zHF hX0 hs hk rfl))) (λ hs hk=>hk))))) _ hs hk zrV
def s18 (l_a0:Line) (zaa:(Sl Gate)):(Sl Int) :=
  (zzF l_a0 zaa (0:Int) (⟨0,(λ _=>default)⟩:Sl Int))
def p18 (l_a0:Line) (zaa:(Sl Gate)):Bool :=
  (zzG l_a0 zaa (0:Int) (⟨0,(λ _=>default)⟩:Sl Int))
end
theorem q18 (l_a0:Line) (zaa:(Sl Gate)) (K:List PA->Prop) (hs:p18 l_a0 zaa=true) (hk:K (e18 (s18 l_a0 zaa))):vcFun Tryd.prog G18 zHD 18 [.agg (zgf l_a0),.one (.sl zaa.len 3 (λ i=>zad (zaa.get i)))] K :=
  zaE (by kernel_rfl) (zHH hs hk rfl)
def zHI : List PA → COut
  | [.agg [.int .i64 zaU,.int .i64 zaV,.int .i64 zaW,.int .i64 zaX],.one (.sl zeK zlQ zeL)]=>.det (IsE zad 3 zlQ zeL/\p18 (⟨(⟨zaU,zaV⟩:Frac),(⟨zaW,zaX⟩:Frac)⟩:Line) (⟨zeK,zaj zeL⟩:(Sl Gate))=true) [.one (.sl ((s18 (⟨(⟨zaU,zaV⟩:Frac),(⟨zaW,zaX⟩:Frac)⟩:Line) (⟨zeK,zaj zeL⟩:(Sl Gate))).len) 1 (λ i=>zaL ((s18 (⟨(⟨zaU,zaV⟩:Frac),(⟨zaW,zaX⟩:Frac)⟩:Line) (⟨zeK,zaj zeL⟩:(Sl Gate))).get i)))]
  | _=>.no
theorem zMs:zac Tryd.prog 18:=⟨_,rfl,rfl,by kernel_rfl⟩
theorem zTD:Ok Tryd.prog 18 zHI:=zau zQr zMs λ args K h=>by
  unfold zHI at h
  split at h
  · rename_i zaU zaV zaW zaX zeK zlQ zeL
    obtain⟨⟨⟨rfl,zin,rfl⟩,hs⟩,hk⟩:=h
    try rw[zae zin] at hs
    try rw[zae zin] at hk
    exact⟨(λ _ _=>[]),(λ _=>false),zHD,q18 (⟨(⟨zaU,zaV⟩:Frac),(⟨zaW,zaX⟩:Frac)⟩:Line) (⟨zeK,zin⟩:(Sl Gate)) K hs hk⟩
  · exact h.elim
abbrev T19:Tabs:=Tabs.nil
theorem zQs:TabsOk Tryd.prog T19:=TabsOk.nil
abbrev G19:Ctrs:=csm T19 (λ _ _=>[]) (λ _=>false)
def zMt:Ann:=⟨19,[(0,zK [1] [1]),(1,zK [1,3] [1]),(2,zK [3,15] []),(3,zK [3] []),(4,zK [2] [])],
 [],
 [],
 [],[]⟩
abbrev R19:=Int
abbrev e19 (r:R19):List PA:=[.one (.int .i64 r)]
section
variable {K:List PA->Prop}{f:Frac}
def s19 (f:Frac):Int :=
  (cond (decide ((w64 ((w64 (f.Num.tdiv f.Den)) * f.Den)) > f.Num))
 (w64 ((w64 (f.Num.tdiv f.Den)) - (1:Int)))
 (w64 (f.Num.tdiv f.Den)))
def p19 (f:Frac):Bool :=
  (decide ((f.Den ≠ 0)) &&
 true)
end
theorem q19 (f:Frac) (K:List PA->Prop) (hs:p19 f=true) (hk:K (e19 (s19 f))):vcFun Tryd.prog G19 zMt 19 [.agg (zaR f)] K :=
  zaE (by kernel_rfl) (zaJ hs λ hc hs=>And.intro hc (zt hk (λ hk=>hk) (λ hk=>hk)))
def zHJ : List PA → COut
  | [.agg [.int .i64 zd2,.int .i64 zd3]]=>.det (p19 (⟨zd2,zd3⟩:Frac)=true) [.one (.int .i64 (s19 (⟨zd2,zd3⟩:Frac)))]
  | _=>.no
theorem zMu:zac Tryd.prog 19:=⟨_,rfl,rfl,by kernel_rfl⟩
theorem zTE:Ok Tryd.prog 19 zHJ:=zau zQs zMu λ args K h=>by
  unfold zHJ at h
  split at h
  · rename_i zd2 zd3
    obtain⟨hs,hk⟩:=h
    exact⟨(λ _ _=>[]),(λ _=>false),zMt,q19 (⟨zd2,zd3⟩:Frac) K hs hk⟩
  · exact h.elim
abbrev T20:Tabs:=((Tabs.nil.addF 44 zCV).addF 46 zCU)
theorem zQt:TabsOk Tryd.prog T20:=((TabsOk.nil.addF zRU).addF zRT)
abbrev G20:Ctrs:=csm T20 (λ _ _=>[]) (λ _=>false)
def zHK:Ann:=⟨44,[(0,zK [1,2,4] [2,4]),(1,zK [1,2,4,5] [2,4]),(2,zK [4] [4])],
 [],
 [(2,zK [1,2,4,5] [2,4])],
 [],[]⟩
abbrev R20:=Frac
abbrev e20 (r:R20):List PA:=[.agg [.int .i64 r.Num,.int .i64 r.Den]]
@[irreducible] def z20:=ptF Tryd.prog G20 zHK Tryd.f20
section
variable {K:List PA->Prop}{l_a0:Line}{z:Int}{dv0:Int}
def zrW (l_a0:Line) (z:Int) (dv0:Int):Frac :=
  (s44 (w64 ((w64 (l_a0.Start.Num * (w64 (dv0.tdiv l_a0.Start.Den))))+(w64 ((w64 (l_a0.Slope.Num * (w64 (dv0.tdiv l_a0.Slope.Den)))) * z)))) dv0)
def zrX (l_a0:Line) (z:Int) (dv0:Int):Bool :=
  (decide ((l_a0.Start.Den ≠ 0)) &&
 (decide ((l_a0.Slope.Den ≠ 0)) &&
 (decide ((p44 (w64 ((w64 (l_a0.Start.Num * (w64 (dv0.tdiv l_a0.Start.Den))))+(w64 ((w64 (l_a0.Slope.Num * (w64 (dv0.tdiv l_a0.Slope.Den)))) * z)))) dv0=true)) &&
 true)))
theorem zHL (hs:zrX l_a0 z dv0=true) (hk:K (e20 (zrW l_a0 z dv0))):z20 K [1,1] [] ⟨[(1,zI z),(2,zp 2 0),(4,zp 4 0),(5,zI dv0)],[(2,.box 71 (zm (zgf l_a0))),(4,.box 69 (zm (zaR (⟨(0:Int),(0:Int)⟩:Frac))))],[]⟩:=zaE (by kernel_rfl) (zaJ hs λ hc hs=>And.intro hc (zaJ hs λ hc hs=>And.intro hc (zaJ hs λ hc hs=>And.intro hc hk)))
def s20 (l_a0:Line) (z:Int):Frac :=
  (zrW l_a0 z (w64 ((w64 (l_a0.Start.Den.tdiv (s46 l_a0.Start.Den l_a0.Slope.Den))) * l_a0.Slope.Den)))
def p20 (l_a0:Line) (z:Int):Bool :=
  (decide ((p46 l_a0.Start.Den l_a0.Slope.Den=true)) &&
 (decide (((s46 l_a0.Start.Den l_a0.Slope.Den) ≠ 0)) &&
 (zrX l_a0 z (w64 ((w64 (l_a0.Start.Den.tdiv (s46 l_a0.Start.Den l_a0.Slope.Den))) * l_a0.Slope.Den)))))
end
theorem q20 (l_a0:Line) (z:Int) (K:List PA->Prop) (hs:p20 l_a0 z=true) (hk:K (e20 (s20 l_a0 z))):vcFun Tryd.prog G20 zHK 20 [.agg (zgf l_a0),.one (.int .i64 z)] K :=
  zaE (by kernel_rfl) (zaJ hs λ hc hs=>And.intro hc (zaJ hs λ hc hs=>And.intro hc (zHL hs hk)))
def zHM : List PA → COut
  | [.agg [.int .i64 zaU,.int .i64 zaV,.int .i64 zaW,.int .i64 zaX],.one (.int .i64 a1)]=>.det (p20 (⟨(⟨zaU,zaV⟩:Frac),(⟨zaW,zaX⟩:Frac)⟩:Line) a1=true) [.agg [.int .i64 ((s20 (⟨(⟨zaU,zaV⟩:Frac),(⟨zaW,zaX⟩:Frac)⟩:Line) a1).Num),.int .i64 ((s20 (⟨(⟨zaU,zaV⟩:Frac),(⟨zaW,zaX⟩:Frac)⟩:Line) a1).Den)]]
  | _=>.no
theorem zMv:zac Tryd.prog 20:=⟨_,rfl,rfl,by kernel_rfl⟩
theorem zTF:Ok Tryd.prog 20 zHM:=zau zQt zMv λ args K h=>by
  unfold zHM at h
  split at h
  · rename_i zaU zaV zaW zaX a1
    obtain⟨hs,hk⟩:=h
    exact⟨(λ _ _=>[]),(λ _=>false),zHK,q20 (⟨(⟨zaU,zaV⟩:Frac),(⟨zaW,zaX⟩:Frac)⟩:Line) a1 K hs hk⟩
  · exact h.elim
abbrev T47:Tabs:=Tabs.nil
theorem zQu:TabsOk Tryd.prog T47:=TabsOk.nil
abbrev G47:Ctrs:=csm T47 (λ _ _=>[]) (λ _=>false)
def zMw:Ann:=⟨15,[(0,zK [0,1,2] []),(1,zK [6] [])],
 [],
 [],
 [],[]⟩
abbrev R47:=Bool
abbrev e47 (r:R47):List PA:=[.one (.bool r)]
section
variable {K:List PA->Prop}{x:Int}{low:Int}{high:Int}
def s47 (x:Int) (low:Int) (high:Int):Bool :=
  (cond (decide (x >= low))
 (decide (x<=high))
 false)
end
theorem q47 (x:Int) (low:Int) (high:Int) (K:List PA->Prop) (hk:K (e47 (s47 x low high))):vcFun Tryd.prog G47 zMw 47 [.one (.int .i64 x),.one (.int .i64 low),.one (.int .i64 high)] K :=
  zaE (by kernel_rfl) (zt hk (λ hk=>hk) (λ hk=>hk))
def zvZ : List PA → COut
  | [.one (.int .i64 a0),.one (.int .i64 a1),.one (.int .i64 a2)]=>.tot [.one (.bool (s47 a0 a1 a2))]
  | _=>.no
theorem zMx:zac Tryd.prog 47:=⟨_,rfl,rfl,by kernel_rfl⟩
theorem zOQ:Ok Tryd.prog 47 zvZ:=zau zQu zMx λ args K h=>by
  unfold zvZ at h
  split at h
  · rename_i a0 a1 a2
    have hk:=h
    exact⟨(λ _ _=>[]),(λ _=>false),zMw,q47 a0 a1 a2 K hk⟩
  · exact h.elim
abbrev T49:Tabs:=Tabs.nil
theorem zQv:TabsOk Tryd.prog T49:=TabsOk.nil
abbrev G49:Ctrs:=csm T49 (λ _ _=>[]) (λ _=>false)
def zMy:Ann:=⟨11,[(0,zK [1,2] [2]),(1,zK [3] [])],
 [],
 [],
 [],[]⟩
abbrev R49:=Bool
abbrev e49 (r:R49):List PA:=[.one (.bool r)]
section
variable {K:List PA->Prop}{c0:Int}{l_a0:list}
def s49 (c0:Int) (l_a0:list):Bool :=
  ((l_a0.Gates.get 0).Z == c0)
def p49 (c0:Int) (l_a0:list):Bool :=
  (decide ((0<=(0:Int)/\(0:Int) < (l_a0.Gates.len:Int))) &&
 true)
end
theorem q49 (c0:Int) (l_a0:list) (K:List PA->Prop) (hs:p49 c0 l_a0=true) (hk:K (e49 (s49 c0 l_a0))):vcFun Tryd.prog G49 zMy 49 [.agg (zdi l_a0),.one (.fp (zaL c0) 0)] K :=
  zaE (by kernel_rfl) (zaJ hs λ hc hs=>And.intro hc hk)
def zHN : List PA → COut
  | [.agg [.sl zbC zcI zbD],.one (.fp [.int .i64 c0] 0)]=>.det (IsE zad 3 zcI zbD/\p49 c0 (⟨(⟨zbC,zaj zbD⟩:(Sl Gate))⟩:list)=true) [.one (.bool (s49 c0 (⟨(⟨zbC,zaj zbD⟩:(Sl Gate))⟩:list)))]
  | _=>.no
theorem zMz:zac Tryd.prog 49:=⟨_,rfl,rfl,by kernel_rfl⟩
theorem zTG:Ok Tryd.prog 49 zHN:=zau zQv zMz λ args K h=>by
  unfold zHN at h
  split at h
  · rename_i zbC zcI zbD c0
    obtain⟨⟨⟨rfl,zcb,rfl⟩,hs⟩,hk⟩:=h
    try rw[zae zcb] at hs
    try rw[zae zcb] at hk
    exact⟨(λ _ _=>[]),(λ _=>false),zMy,q49 c0 (⟨(⟨zbC,zcb⟩:(Sl Gate))⟩:list) K hs hk⟩
  · exact h.elim
abbrev T89:Tabs:=(Tabs.nil.addF 47 zvZ)
theorem zQw:TabsOk Tryd.prog T89:=(TabsOk.nil.addF zOQ)
abbrev G89:Ctrs:=csm T89 (λ _ _=>[]) (λ _=>false)
def zMA:Ann:=⟨23,[(0,zK [1] [1]),(1,zK [2] [])],
 [],
 [],
 [],[]⟩
abbrev R89:=Bool
abbrev e89 (r:R89):List PA:=[.one (.bool r)]
section
variable {K:List PA->Prop}{g:Gate}
def s89 (g:Gate):Bool :=
  (cond (s47 g.Z (0:Int) (100000:Int))
 (cond (decide (g.Low >= (-1000000:Int)))
 (cond (decide (g.Low <= g.High))
 (decide (g.High<=(1000000:Int)))
 false)
 false)
 false)
end
theorem q89 (g:Gate) (K:List PA->Prop) (hk:K (e89 (s89 g))):vcFun Tryd.prog G89 zMA 89 [.agg (zad g)] K :=
  zaE (by kernel_rfl) (zt hk (λ hk=>(zt hk (λ hk=>(zt hk (λ hk=>hk) (λ hk=>hk))) (λ hk=>hk))) (λ hk=>hk))
def zHO : List PA → COut
  | [.agg [.int .i64 zqp,.int .i64 zch,.int .i64 zbH]]=>.tot [.one (.bool (s89 (⟨zqp,zch,zbH⟩:Gate)))]
  | _=>.no
theorem zMB:zac Tryd.prog 89:=⟨_,rfl,rfl,by kernel_rfl⟩
theorem zTH:Ok Tryd.prog 89 zHO:=zau zQw zMB λ args K h=>by
  unfold zHO at h
  split at h
  · rename_i zqp zch zbH
    have hk:=h
    exact⟨(λ _ _=>[]),(λ _=>false),zMA,q89 (⟨zqp,zch,zbH⟩:Gate) K hk⟩
  · exact h.elim
abbrev T67:Tabs:=((Tabs.nil.addF 47 zvZ).addF 89 zHO)
theorem zQx:TabsOk Tryd.prog T67:=((TabsOk.nil.addF zOQ).addF zTH)
abbrev G67:Ctrs:=csm T67 (λ _ _=>[]) (λ _=>false)
def zHP:Ann:=⟨18,[(0,zK [0] []),(1,zK [0,5,6,7] []),(2,zK [0,5,6,7,8] []),(3,zK [0,4,5,6,7] [4]),(4,zK [0,5,6,7,13] []),(5,zK [2] []),(6,zK [0,5,6,7] []),(7,zK [2] [])],
 [(2,zK [0,5,6,7] [])],
 [(5,zK [0,5,6,7,13] [])],
 [],[]⟩
abbrev R67:=Bool
abbrev e67 (r:R67):List PA:=[.one (.bool r)]
@[irreducible] def z67:=ptF Tryd.prog G67 zHP Tryd.f67
def zEB (zaa:(Sl Gate)) (za7:Int):St:=⟨[(0,zS zad 3 zaa),(5,zS zad 3 zaa),(6,zI (zaa.len:Int)),(7,zI za7)],[],[]⟩
abbrev zHQ (K:List PA->Prop) (zaa:(Sl Gate)) (X:St->Prop) (P:Int->Bool) (S:Int->Bool):Prop:=∀ ⦃za7:Int⦄,P za7=true->K (e67 (S za7))->X (zEB zaa za7)
section
variable {K:List PA->Prop}{zaa:(Sl Gate)}{za7:Int}{X0:St->Prop}{P0:Int->Bool}{S0:Int->Bool}{zdq:Int}{zrY:Bool}
def zrZ (S0:Int->Bool) (zaa:(Sl Gate)) (zdq:Int) (zrY:Bool):Bool :=
  (cond zrY
 false
 (S0 (w64 (zdq+(1:Int)))))
def zr0 (P0:Int->Bool) (zaa:(Sl Gate)) (zdq:Int) (zrY:Bool):Bool :=
  (cond zrY
 true
 (P0 (w64 (zdq+(1:Int)))))
theorem zHR (hX0:zHQ K zaa X0 P0 S0) (hs:zr0 P0 zaa zdq zrY=true) (hk:K (e67 (zrZ S0 zaa zdq zrY))):z67 K [1,0,1,0,0,1,1,0,0,1,1] [X0] ⟨[(0,zS zad 3 zaa),(5,zS zad 3 zaa),(6,zI (zaa.len:Int)),(7,zI zdq),(13,zB zrY)],[],[]⟩:=zaE (by kernel_rfl) (zc hs hk (λ hs hk=>hk) (λ hs hk=>(hX0 hs hk)))
def ziY (zaa:(Sl Gate)) (S0:Int->Bool) (za7:Int):Bool :=
  (cond (decide (za7 < (zaa.len : Int)))
 (zrZ S0 zaa za7 (!(s89 (zaa.get za7.toNat))))
 (s47 (zaa.len:Int) (1:Int) (24:Int)))
def ziZ (zaa:(Sl Gate)) (P0:Int->Bool) (za7:Int):Bool :=
  (cond (decide (za7 < (zaa.len : Int)))
 (decide ((0<=za7/\za7 < (zaa.len:Int))) &&
 (zr0 P0 zaa za7 (!(s89 (zaa.get za7.toNat)))))
 true)
def zi0 (zaa:(Sl Gate)):Nat->Int->Bool:=lpO (λ _=>default) (ziY zaa)
def zi1 (zaa:(Sl Gate)):Nat->Int->Bool:=lpO (λ _=>false) (ziZ zaa)
def zzH (zaa:(Sl Gate)) (za7:Int):Bool:=zi0 zaa Fuel za7
def zzI (zaa:(Sl Gate)) (za7:Int):Bool:=zi1 zaa Fuel za7
theorem zHS (hs:zzI zaa za7=true) (hk:K (e67 (zzH zaa za7))):z67 K [1,0,1,0] [] (zEB zaa za7) :=
  zl (λ X=>z67 K [1,0,1,0,0] [X]) (by kernel_rfl) λ X0 hX =>
  (show ∀ k, zHQ K zaa X0 (zi1 zaa k) (zi0 zaa k) from zgd _ _ (ziZ zaa) (ziY zaa) (zHQ K zaa X0)
 (by intro _ hs;exact absurd hs dqk)
 (by intro P0 S0 hX0 za7 hs hk;exact hX _ (zaE (by kernel_rfl) (zc hs hk (λ hs hk=>(zaJ hs λ hc hs=>And.intro hc (zHR hX0 hs hk))) (λ hs hk=>hk))))) _ hs hk
def s67 (zaa:(Sl Gate)):Bool :=
  (zzH zaa (0:Int))
def p67 (zaa:(Sl Gate)):Bool :=
  (zzI zaa (0:Int))
end
theorem q67 (zaa:(Sl Gate)) (K:List PA->Prop) (hs:p67 zaa=true) (hk:K (e67 (s67 zaa))):vcFun Tryd.prog G67 zHP 67 [.one (.sl zaa.len 3 (λ i=>zad (zaa.get i)))] K :=
  zaE (by kernel_rfl) (zHS hs hk)
def zHT : List PA → COut
  | [.one (.sl zbq zcO zbr)]=>.det (IsE zad 3 zcO zbr/\p67 (⟨zbq,zaj zbr⟩:(Sl Gate))=true) [.one (.bool (s67 (⟨zbq,zaj zbr⟩:(Sl Gate))))]
  | _=>.no
theorem zMC:zac Tryd.prog 67:=⟨_,rfl,rfl,by kernel_rfl⟩
theorem zTI:Ok Tryd.prog 67 zHT:=zau zQx zMC λ args K h=>by
  unfold zHT at h
  split at h
  · rename_i zbq zcO zbr
    obtain⟨⟨⟨rfl,zb6,rfl⟩,hs⟩,hk⟩:=h
    try rw[zae zb6] at hs
    try rw[zae zb6] at hk
    exact⟨(λ _ _=>[]),(λ _=>false),zHP,q67 (⟨zbq,zb6⟩:(Sl Gate)) K hs hk⟩
  · exact h.elim
abbrev T94:Tabs:=Tabs.nil
theorem zQy:TabsOk Tryd.prog T94:=TabsOk.nil
abbrev G94:Ctrs:=csm T94 (λ _ _=>[]) (λ _=>false)
def zMD:Ann:=⟨12,[(0,zK [1,2] [2]),(1,zK [3] [])],
 [],
 [],
 [],[]⟩
abbrev R94:=Bool
abbrev e94 (r:R94):List PA:=[.one (.bool r)]
section
variable {K:List PA->Prop}{c0:list}{g:Gate}
def s94 (c0:list) (g:Gate):Bool :=
  (g.Z != (c0.Gates.get 0).Z)
def p94 (c0:list) (g:Gate):Bool :=
  (decide ((0<=(0:Int)/\(0:Int) < (c0.Gates.len:Int))) &&
 true)
end
theorem q94 (c0:list) (g:Gate) (K:List PA->Prop) (hs:p94 c0 g=true) (hk:K (e94 (s94 c0 g))):vcFun Tryd.prog G94 zMD 94 [.agg (zad g),.one (.fp (zdi c0) 0)] K :=
  zaE (by kernel_rfl) (zaJ hs λ hc hs=>And.intro hc hk)
def zHU : List PA → COut
  | [.agg [.int .i64 zqp,.int .i64 zch,.int .i64 zbH],.one (.fp [.sl c0_Gates_n c0_Gates_s c0_Gates_g] 0)]=>.det (IsE zad 3 c0_Gates_s c0_Gates_g/\p94 (⟨(⟨c0_Gates_n,zaj c0_Gates_g⟩:(Sl Gate))⟩:list) (⟨zqp,zch,zbH⟩:Gate)=true) [.one (.bool (s94 (⟨(⟨c0_Gates_n,zaj c0_Gates_g⟩:(Sl Gate))⟩:list) (⟨zqp,zch,zbH⟩:Gate)))]
  | _=>.no
theorem zME:zac Tryd.prog 94:=⟨_,rfl,rfl,by kernel_rfl⟩
theorem zTJ:Ok Tryd.prog 94 zHU:=zau zQy zME λ args K h=>by
  unfold zHU at h
  split at h
  · rename_i zqp zch zbH c0_Gates_n c0_Gates_s c0_Gates_g
    obtain⟨⟨⟨rfl,c0_Gates_f,rfl⟩,hs⟩,hk⟩:=h
    try rw[zae c0_Gates_f] at hs
    try rw[zae c0_Gates_f] at hk
    exact⟨(λ _ _=>[]),(λ _=>false),zMD,q94 (⟨(⟨c0_Gates_n,c0_Gates_f⟩:(Sl Gate))⟩:list) (⟨zqp,zch,zbH⟩:Gate) K hs hk⟩
  · exact h.elim
abbrev zRV:Tabs:=(Tabs.nil.addF 47 zvZ)
theorem zMF:TabsOk Tryd.prog zRV:=(TabsOk.nil.addF zOQ)
abbrev zTK:Ctrs:=csm zRV (λ _ _=>[]) (λ _=>false)
def zEC:Ann:=⟨24,[(0,zK [2,3] [2,3]),(1,zK [4] [])],
 [],
 [],
 [],[]⟩
abbrev zTL:=Bool
abbrev e119 (r:zTL):List PA:=[.one (.bool r)]
section
variable {K:List PA->Prop}{s:straight}{g:Gate}
def zHV (s:straight) (g:Gate):Bool :=
  (s47 (w64 (s.start+(w64 (s.slope * g.Z)))) (w64 (g.Low * s.den)) (w64 (g.High * s.den)))
end
theorem zTM (s:straight) (g:Gate) (K:List PA->Prop) (hk:K (e119 (zHV s g))):vcFun Tryd.prog zTK zEC 119 [.agg (zaS s),.agg (zad g)] K :=
  zaE (by kernel_rfl) hk
def zzJ : List PA → COut
  | [.agg [.int .i64 zb0,.int .i64 zb1,.int .i64 zdm],.agg [.int .i64 zHC,.int .i64 zdl,.int .i64 zcz]]=>.tot [.one (.bool (zHV (⟨zb0,zb1,zdm⟩:straight) (⟨zHC,zdl,zcz⟩:Gate)))]
  | _=>.no
theorem zHW:zac Tryd.prog 119:=⟨_,rfl,rfl,by kernel_rfl⟩
theorem zQz:Ok Tryd.prog 119 zzJ:=zau zMF zHW λ args K h=>by
  unfold zzJ at h
  split at h
  · rename_i zb0 zb1 zdm zHC zdl zcz
    have hk:=h
    exact⟨(λ _ _=>[]),(λ _=>false),zEC,zTM (⟨zb0,zb1,zdm⟩:straight) (⟨zHC,zdl,zcz⟩:Gate) K hk⟩
  · exact h.elim
abbrev zRW:Tabs:=(Tabs.nil.addF 119 zzJ)
theorem zMG:TabsOk Tryd.prog zRW:=(TabsOk.nil.addF zQz)
abbrev zTN:Ctrs:=csm zRW (λ _ _=>[]) (λ _=>false)
def zED:Ann:=⟨8,[(0,zK [1,2] [2]),(1,zK [3] [])],
 [],
 [],
 [],[]⟩
abbrev zTO:=Bool
abbrev e118 (r:zTO):List PA:=[.one (.bool r)]
section
variable {K:List PA->Prop}{c0:straight}{g:Gate}
def zHX (c0:straight) (g:Gate):Bool :=
  (!(zHV c0 g))
end
theorem zTP (c0:straight) (g:Gate) (K:List PA->Prop) (hk:K (e118 (zHX c0 g))):vcFun Tryd.prog zTN zED 118 [.agg (zad g),.one (.fp (zaS c0) 0)] K :=
  zaE (by kernel_rfl) hk
def zzK : List PA → COut
  | [.agg [.int .i64 zqp,.int .i64 zch,.int .i64 zbH],.one (.fp [.int .i64 c0_slope,.int .i64 c0_start,.int .i64 c0_den] 0)]=>.tot [.one (.bool (zHX (⟨c0_slope,c0_start,c0_den⟩:straight) (⟨zqp,zch,zbH⟩:Gate)))]
  | _=>.no
theorem zHY:zac Tryd.prog 118:=⟨_,rfl,rfl,by kernel_rfl⟩
theorem zQA:Ok Tryd.prog 118 zzK:=zau zMG zHY λ args K h=>by
  unfold zzK at h
  split at h
  · rename_i zqp zch zbH c0_slope c0_start c0_den
    have hk:=h
    exact⟨(λ _ _=>[]),(λ _=>false),zED,zTP (⟨c0_slope,c0_start,c0_den⟩:straight) (⟨zqp,zch,zbH⟩:Gate) K hk⟩
  · exact h.elim
abbrev zQB:Tabs:=((Tabs.nil.addF 94 zHU).addF 118 zzK)
theorem zMH:TabsOk Tryd.prog zQB:=((TabsOk.nil.addF zTJ).addF zQA)
abbrev zRX:Ctrs:=csm zQB (λ _ _=>[]) (λ _=>false)
def zzL:Ann:=⟨19,[(0,zK [0,1] []),(1,zK [0,1,7,8] []),(2,zK [0,1,7,8,9] []),(3,zK [0,1,5,7,8] []),(4,zK [0,1,5,7,8,16] []),(5,zK [4] []),(6,zK [0,1,7,8] []),(7,zK [4] [])],
 [(2,zK [0,1,7,8] [])],
 [(5,zK [0,1,5,7,8,16] [])],
 [],[]⟩
abbrev zTQ:=Int
abbrev e120 (r:zTQ):List PA:=[.one (.int .i64 r)]
@[irreducible] def z120:=ptF Tryd.prog zRX zzL Tryd.f120
def zzM (c0:list) (sv0:(Sl Gate)) (za7:Int) (zaq:Int) (zb5:Nat->List PV):St:=⟨[(0,zP (.sl sv0.len 3 zb5)),(1,zP (.fn 94 [] [.fp (zdi c0) 0])),(7,zI za7),(8,zI zaq)],[],[]⟩
abbrev zzN (K:List PA->Prop) (c0:list) (X:St->Prop) (P:(Sl Gate)->Int->Int->Bool) (S:(Sl Gate)->Int->Int->Int):Prop:=∀ ⦃sv0:(Sl Gate)⦄ ⦃za7:Int⦄ ⦃zaq:Int⦄ ⦃zb5:Nat->List PV⦄,P sv0 za7 zaq=true->K (e120 (S sv0 za7 zaq))->zb5=zg zad sv0->X (zzM c0 sv0 za7 zaq zb5)
section
variable {K:List PA->Prop}{c0:list}{s:(Sl Gate)}{sv0:(Sl Gate)}{za7:Int}{zaq:Int}{zb5:Nat->List PV}{X0:St->Prop}{P0:(Sl Gate)->Int->Int->Bool}{S0:(Sl Gate)->Int->Int->Int}{sv1:(Sl Gate)}{iv1:Int}{zdq:Int}{zdp:Int}{zbY:Bool}{zgi:Nat->List PV}
def znK (S0:(Sl Gate)->Int->Int->Int) (c0:list) (sv1:(Sl Gate)) (iv1:Int) (zdq:Int) (zdp:Int) (zbY:Bool):Int :=
  (cond zbY
 iv1
 (S0 sv1 zdq (w64 (zdp+(1:Int)))))
def znL (P0:(Sl Gate)->Int->Int->Bool) (c0:list) (sv1:(Sl Gate)) (iv1:Int) (zdq:Int) (zdp:Int) (zbY:Bool):Bool :=
  (cond zbY
 true
 (P0 sv1 zdq (w64 (zdp+(1:Int)))))
theorem zCW (hX0:zzN K c0 X0 P0 S0) (hs:znL P0 c0 sv1 iv1 zdq zdp zbY=true) (hk:K (e120 (znK S0 c0 sv1 iv1 zdq zdp zbY))) (zlf:zgi=zg zad sv1):z120 K [1,0,1,0,0,1,1,0,0,1,1] [X0] ⟨[(0,zP (.sl sv1.len 3 zgi)),(1,zP (.fn 94 [] [.fp (zdi c0) 0])),(5,zI iv1),(7,zI zdq),(8,zI zdp),(16,zB zbY)],[],[]⟩:=by subst zlf;exact zaE (by kernel_rfl) (zc hs hk (λ hs hk=>hk) (λ hs hk=>(hX0 hs hk rfl)))
def zkg (c0:list) (S0:(Sl Gate)->Int->Int->Int) (sv0:(Sl Gate)) (za7:Int) (zaq:Int):Int :=
  (cond (decide (zaq < za7))
 (znK S0 c0 sv0 zaq za7 zaq (s94 c0 (sv0.get zaq.toNat)))
 (-1:Int))
def zkh (c0:list) (P0:(Sl Gate)->Int->Int->Bool) (sv0:(Sl Gate)) (za7:Int) (zaq:Int):Bool :=
  (cond (decide (zaq < za7))
 (decide ((0<=zaq/\zaq < (sv0.len:Int))) &&
 (decide ((p94 c0 (sv0.get zaq.toNat)=true)) &&
 (znL P0 c0 sv0 zaq za7 zaq (s94 c0 (sv0.get zaq.toNat)))))
 true)
def zki (c0:list):Nat->(Sl Gate)->Int->Int->Int:=lpO (λ _ _ _=>default) (zkg c0)
def zkj (c0:list):Nat->(Sl Gate)->Int->Int->Bool:=lpO (λ _ _ _=>false) (zkh c0)
def zuK (c0:list) (sv0:(Sl Gate)) (za7:Int) (zaq:Int):Int:=zki c0 Fuel sv0 za7 zaq
def zuL (c0:list) (sv0:(Sl Gate)) (za7:Int) (zaq:Int):Bool:=zkj c0 Fuel sv0 za7 zaq
theorem zCX (hs:zuL c0 sv0 za7 zaq=true) (hk:K (e120 (zuK c0 sv0 za7 zaq))) (zex:zb5=zg zad sv0):z120 K [1,0,1,0] [] (zzM c0 sv0 za7 zaq zb5) :=
  zl (λ X=>z120 K [1,0,1,0,0] [X]) (by kernel_rfl) λ X0 hX =>
  (show ∀ k, zzN K c0 X0 (zkj c0 k) (zki c0 k) from zgd _ _ (zkh c0) (zkg c0) (zzN K c0 X0)
 (by intro _ _ _ _ hs;exact absurd hs dqk)
 (by intro P0 S0 hX0 sv0 za7 zaq zb5 hs hk zex;subst zex;exact hX _ (zaE (by kernel_rfl) (zc hs hk (λ hs hk=>(zaJ hs λ hc hs=>And.intro hc (zaJ hs λ hc hs=>And.intro (And.intro (zE zad 3 c0.Gates.get) hc) (zCW hX0 hs hk rfl)))) (λ hs hk=>hk))))) _ hs hk zex
def zMI (c0:list) (s:(Sl Gate)):Int :=
  (zuK c0 s (s.len:Int) (0:Int))
def zMJ (c0:list) (s:(Sl Gate)):Bool :=
  (zuL c0 s (s.len:Int) (0:Int))
end
theorem zTR (c0:list) (s:(Sl Gate)) (K:List PA->Prop) (hs:zMJ c0 s=true) (hk:K (e120 (zMI c0 s))):vcFun Tryd.prog zRX zzL 120 [.one (.sl s.len 3 (λ i=>zad (s.get i))),.one (.fn 94 [] [.fp (zdi c0) 0])] K :=
  zaE (by kernel_rfl) (zCX hs hk rfl)
abbrev zMK:Ctrs:=csm zQB (λ _ _=>[]) (λ _=>false)
def zr1:Ann:=⟨19,[(0,zK [0,1] []),(1,zK [0,1,7,8] []),(2,zK [0,1,7,8,9] []),(3,zK [0,1,5,7,8] []),(4,zK [0,1,5,7,8,16] []),(5,zK [4] []),(6,zK [0,1,7,8] []),(7,zK [4] [])],
 [(2,zK [0,1,7,8] [])],
 [(5,zK [0,1,5,7,8,16] [])],
 [],[]⟩
abbrev zQC:=Int
abbrev zCY (r:zQC):List PA:=[.one (.int .i64 r)]
@[irreducible] def z120a:=ptF Tryd.prog zMK zr1 Tryd.f120
def zuM (c0:straight) (sv0:(Sl Gate)) (za7:Int) (zaq:Int) (zb5:Nat->List PV):St:=⟨[(0,zP (.sl sv0.len 3 zb5)),(1,zP (.fn 118 [] [.fp (zaS c0) 0])),(7,zI za7),(8,zI zaq)],[],[]⟩
abbrev zr2 (K:List PA->Prop) (c0:straight) (X:St->Prop) (P:(Sl Gate)->Int->Int->Bool) (S:(Sl Gate)->Int->Int->Int):Prop:=∀ ⦃sv0:(Sl Gate)⦄ ⦃za7:Int⦄ ⦃zaq:Int⦄ ⦃zb5:Nat->List PV⦄,P sv0 za7 zaq=true->K (zCY (S sv0 za7 zaq))->zb5=zg zad sv0->X (zuM c0 sv0 za7 zaq zb5)
section
variable {K:List PA->Prop}{c0:straight}{s:(Sl Gate)}{sv0:(Sl Gate)}{za7:Int}{zaq:Int}{zb5:Nat->List PV}{X0:St->Prop}{P0:(Sl Gate)->Int->Int->Bool}{S0:(Sl Gate)->Int->Int->Int}{sv1:(Sl Gate)}{iv1:Int}{zdq:Int}{zdp:Int}{zbY:Bool}{zgi:Nat->List PV}
def zln (S0:(Sl Gate)->Int->Int->Int) (c0:straight) (sv1:(Sl Gate)) (iv1:Int) (zdq:Int) (zdp:Int) (zbY:Bool):Int :=
  (cond zbY
 iv1
 (S0 sv1 zdq (w64 (zdp+(1:Int)))))
def zlo (P0:(Sl Gate)->Int->Int->Bool) (c0:straight) (sv1:(Sl Gate)) (iv1:Int) (zdq:Int) (zdp:Int) (zbY:Bool):Bool :=
  (cond zbY
 true
 (P0 sv1 zdq (w64 (zdp+(1:Int)))))
theorem zzO (hX0:zr2 K c0 X0 P0 S0) (hs:zlo P0 c0 sv1 iv1 zdq zdp zbY=true) (hk:K (zCY (zln S0 c0 sv1 iv1 zdq zdp zbY))) (zlf:zgi=zg zad sv1):z120a K [1,0,1,0,0,1,1,0,0,1,1] [X0] ⟨[(0,zP (.sl sv1.len 3 zgi)),(1,zP (.fn 118 [] [.fp (zaS c0) 0])),(5,zI iv1),(7,zI zdq),(8,zI zdp),(16,zB zbY)],[],[]⟩:=by subst zlf;exact zaE (by kernel_rfl) (zc hs hk (λ hs hk=>hk) (λ hs hk=>(hX0 hs hk rfl)))
def zh8 (c0:straight) (S0:(Sl Gate)->Int->Int->Int) (sv0:(Sl Gate)) (za7:Int) (zaq:Int):Int :=
  (cond (decide (zaq < za7))
 (zln S0 c0 sv0 zaq za7 zaq (zHX c0 (sv0.get zaq.toNat)))
 (-1:Int))
def zh9 (c0:straight) (P0:(Sl Gate)->Int->Int->Bool) (sv0:(Sl Gate)) (za7:Int) (zaq:Int):Bool :=
  (cond (decide (zaq < za7))
 (decide ((0<=zaq/\zaq < (sv0.len:Int))) &&
 (zlo P0 c0 sv0 zaq za7 zaq (zHX c0 (sv0.get zaq.toNat))))
 true)
def zia (c0:straight):Nat->(Sl Gate)->Int->Int->Int:=lpO (λ _ _ _=>default) (zh8 c0)
def zib (c0:straight):Nat->(Sl Gate)->Int->Int->Bool:=lpO (λ _ _ _=>false) (zh9 c0)
def zpW (c0:straight) (sv0:(Sl Gate)) (za7:Int) (zaq:Int):Int:=zia c0 Fuel sv0 za7 zaq
def zpX (c0:straight) (sv0:(Sl Gate)) (za7:Int) (zaq:Int):Bool:=zib c0 Fuel sv0 za7 zaq
theorem zzP (hs:zpX c0 sv0 za7 zaq=true) (hk:K (zCY (zpW c0 sv0 za7 zaq))) (zex:zb5=zg zad sv0):z120a K [1,0,1,0] [] (zuM c0 sv0 za7 zaq zb5) :=
  zl (λ X=>z120a K [1,0,1,0,0] [X]) (by kernel_rfl) λ X0 hX =>
  (show ∀ k, zr2 K c0 X0 (zib c0 k) (zia c0 k) from zgd _ _ (zh9 c0) (zh8 c0) (zr2 K c0 X0)
 (by intro _ _ _ _ hs;exact absurd hs dqk)
 (by intro P0 S0 hX0 sv0 za7 zaq zb5 hs hk zex;subst zex;exact hX _ (zaE (by kernel_rfl) (zc hs hk (λ hs hk=>(zaJ hs λ hc hs=>And.intro hc (zzO hX0 hs hk rfl))) (λ hs hk=>hk))))) _ hs hk zex
def zzQ (c0:straight) (s:(Sl Gate)):Int :=
  (zpW c0 s (s.len:Int) (0:Int))
def zzR (c0:straight) (s:(Sl Gate)):Bool :=
  (zpX c0 s (s.len:Int) (0:Int))
end
theorem zQD (c0:straight) (s:(Sl Gate)) (K:List PA->Prop) (hs:zzR c0 s=true) (hk:K (zCY (zzQ c0 s))):vcFun Tryd.prog zMK zr1 120 [.one (.sl s.len 3 (λ i=>zad (s.get i))),.one (.fn 118 [] [.fp (zaS c0) 0])] K :=
  zaE (by kernel_rfl) (zzP hs hk rfl)
def zzS : List PA → COut
  | [.one (.sl zbq zcO zbr),.one (.fn 94 [] [.fp [.sl c0_Gates_n c0_Gates_s c0_Gates_g] 0])]=>.det (IsE zad 3 zcO zbr/\IsE zad 3 c0_Gates_s c0_Gates_g/\zMJ (⟨(⟨c0_Gates_n,zaj c0_Gates_g⟩:(Sl Gate))⟩:list) (⟨zbq,zaj zbr⟩:(Sl Gate))=true) [.one (.int .i64 (zMI (⟨(⟨c0_Gates_n,zaj c0_Gates_g⟩:(Sl Gate))⟩:list) (⟨zbq,zaj zbr⟩:(Sl Gate))))]
  | [.one (.sl zbq zcO zbr),.one (.fn 118 [] [.fp [.int .i64 c0_slope,.int .i64 c0_start,.int .i64 c0_den] 0])]=>.det (IsE zad 3 zcO zbr/\zzR (⟨c0_slope,c0_start,c0_den⟩:straight) (⟨zbq,zaj zbr⟩:(Sl Gate))=true) [.one (.int .i64 (zzQ (⟨c0_slope,c0_start,c0_den⟩:straight) (⟨zbq,zaj zbr⟩:(Sl Gate))))]
  | _=>.no
theorem zHZ:zac Tryd.prog 120:=⟨_,rfl,rfl,by kernel_rfl⟩
theorem zQE:Ok Tryd.prog 120 zzS:=zau zMH zHZ λ args K h=>by
  unfold zzS at h
  split at h
  · rename_i zbq zcO zbr c0_Gates_n c0_Gates_s c0_Gates_g
    obtain⟨⟨⟨rfl,zb6,rfl⟩,⟨rfl,c0_Gates_f,rfl⟩,hs⟩,hk⟩:=h
    try rw[zae zb6] at hs
    try rw[zae zb6] at hk
    try rw[zae c0_Gates_f] at hs
    try rw[zae c0_Gates_f] at hk
    exact⟨(λ _ _=>[]),(λ _=>false),zzL,zTR (⟨(⟨c0_Gates_n,c0_Gates_f⟩:(Sl Gate))⟩:list) (⟨zbq,zb6⟩:(Sl Gate)) K hs hk⟩
  · rename_i zbq zcO zbr c0_slope c0_start c0_den
    obtain⟨⟨⟨rfl,zb6,rfl⟩,hs⟩,hk⟩:=h
    try rw[zae zb6] at hs
    try rw[zae zb6] at hk
    exact⟨(λ _ _=>[]),(λ _=>false),zr1,zQD (⟨c0_slope,c0_start,c0_den⟩:straight) (⟨zbq,zb6⟩:(Sl Gate)) K hs hk⟩
  · exact h.elim
abbrev T93:Tabs:=(Tabs.nil.addF 120 zzS)
theorem zQF:TabsOk Tryd.prog T93:=(TabsOk.nil.addF zQE)
abbrev G93:Ctrs:=csm T93 (λ _ _=>[]) (λ _=>false)
def zML:Ann:=⟨9,[(0,zK [0,1] []),(1,zK [4] [])],
 [],
 [],
 [],[]⟩
abbrev R93:=Bool
abbrev e93 (r:R93):List PA:=[.one (.bool r)]
section
variable {K:List PA->Prop}{c0:list}{s:(Sl Gate)}
def s93 (c0:list) (s:(Sl Gate)):Bool :=
  (decide ((zMI c0 s) >= (0:Int)))
def p93 (c0:list) (s:(Sl Gate)):Bool :=
  (decide ((zMJ c0 s=true)) &&
 true)
end
theorem q93 (c0:list) (s:(Sl Gate)) (K:List PA->Prop) (hs:p93 c0 s=true) (hk:K (e93 (s93 c0 s))):vcFun Tryd.prog G93 zML 93 [.one (.sl s.len 3 (λ i=>zad (s.get i))),.one (.fn 94 [] [.fp (zdi c0) 0])] K :=
  zaE (by kernel_rfl) (zaJ hs λ hc hs=>And.intro (And.intro (zE zad 3 s.get) (And.intro (zE zad 3 c0.Gates.get) hc)) hk)
abbrev zTS:Ctrs:=csm T93 (λ _ _=>[]) (λ _=>false)
def zEE:Ann:=⟨9,[(0,zK [0,1] []),(1,zK [4] [])],
 [],
 [],
 [],[]⟩
abbrev zTT:=Bool
abbrev zTU (r:zTT):List PA:=[.one (.bool r)]
section
variable {K:List PA->Prop}{c0:straight}{s:(Sl Gate)}
def zOR (c0:straight) (s:(Sl Gate)):Bool :=
  (decide ((zzQ c0 s) >= (0:Int)))
def zOS (c0:straight) (s:(Sl Gate)):Bool :=
  (decide ((zzR c0 s=true)) &&
 true)
end
theorem zTV (c0:straight) (s:(Sl Gate)) (K:List PA->Prop) (hs:zOS c0 s=true) (hk:K (zTU (zOR c0 s))):vcFun Tryd.prog zTS zEE 93 [.one (.sl s.len 3 (λ i=>zad (s.get i))),.one (.fn 118 [] [.fp (zaS c0) 0])] K :=
  zaE (by kernel_rfl) (zaJ hs λ hc hs=>And.intro (And.intro (zE zad 3 s.get) hc) hk)
def zCZ : List PA → COut
  | [.one (.sl zbq zcO zbr),.one (.fn 94 [] [.fp [.sl c0_Gates_n c0_Gates_s c0_Gates_g] 0])]=>.det (IsE zad 3 zcO zbr/\IsE zad 3 c0_Gates_s c0_Gates_g/\p93 (⟨(⟨c0_Gates_n,zaj c0_Gates_g⟩:(Sl Gate))⟩:list) (⟨zbq,zaj zbr⟩:(Sl Gate))=true) [.one (.bool (s93 (⟨(⟨c0_Gates_n,zaj c0_Gates_g⟩:(Sl Gate))⟩:list) (⟨zbq,zaj zbr⟩:(Sl Gate))))]
  | [.one (.sl zbq zcO zbr),.one (.fn 118 [] [.fp [.int .i64 c0_slope,.int .i64 c0_start,.int .i64 c0_den] 0])]=>.det (IsE zad 3 zcO zbr/\zOS (⟨c0_slope,c0_start,c0_den⟩:straight) (⟨zbq,zaj zbr⟩:(Sl Gate))=true) [.one (.bool (zOR (⟨c0_slope,c0_start,c0_den⟩:straight) (⟨zbq,zaj zbr⟩:(Sl Gate))))]
  | _=>.no
theorem zMM:zac Tryd.prog 93:=⟨_,rfl,rfl,by kernel_rfl⟩
theorem zRY:Ok Tryd.prog 93 zCZ:=zau zQF zMM λ args K h=>by
  unfold zCZ at h
  split at h
  · rename_i zbq zcO zbr c0_Gates_n c0_Gates_s c0_Gates_g
    obtain⟨⟨⟨rfl,zb6,rfl⟩,⟨rfl,c0_Gates_f,rfl⟩,hs⟩,hk⟩:=h
    try rw[zae zb6] at hs
    try rw[zae zb6] at hk
    try rw[zae c0_Gates_f] at hs
    try rw[zae c0_Gates_f] at hk
    exact⟨(λ _ _=>[]),(λ _=>false),zML,q93 (⟨(⟨c0_Gates_n,c0_Gates_f⟩:(Sl Gate))⟩:list) (⟨zbq,zb6⟩:(Sl Gate)) K hs hk⟩
  · rename_i zbq zcO zbr c0_slope c0_start c0_den
    obtain⟨⟨⟨rfl,zb6,rfl⟩,hs⟩,hk⟩:=h
    try rw[zae zb6] at hs
    try rw[zae zb6] at hk
    exact⟨(λ _ _=>[]),(λ _=>false),zEE,zTV (⟨c0_slope,c0_start,c0_den⟩:straight) (⟨zbq,zb6⟩:(Sl Gate)) K hs hk⟩
  · exact h.elim
abbrev T70:Tabs:=(Tabs.nil.addF 93 zCZ)
theorem zQG:TabsOk Tryd.prog T70:=(TabsOk.nil.addF zRY)
abbrev G70:Ctrs:=csm T70 (λ _ _=>[]) (λ _=>false)
def zMN:Ann:=⟨8,[(0,zK [1] [1]),(1,zK [2] [])],
 [],
 [],
 [],[]⟩
abbrev R70:=Bool
abbrev e70 (r:R70):List PA:=[.one (.bool r)]
section
variable {K:List PA->Prop}{l_a0:list}
def s70 (l_a0:list):Bool :=
  (!(s93 l_a0 l_a0.Gates))
def p70 (l_a0:list):Bool :=
  (decide ((p93 l_a0 l_a0.Gates=true)) &&
 true)
end
theorem q70 (l_a0:list) (K:List PA->Prop) (hs:p70 l_a0=true) (hk:K (e70 (s70 l_a0))):vcFun Tryd.prog G70 zMN 70 [.agg (zdi l_a0)] K :=
  zaE (by kernel_rfl) (zaJ hs λ hc hs=>And.intro (And.intro (zE zad 3 l_a0.Gates.get) (And.intro (zE zad 3 l_a0.Gates.get) hc)) hk)
def zv1 : List PA → COut
  | [.agg [.sl zbC zcI zbD]]=>.det (IsE zad 3 zcI zbD/\p70 (⟨(⟨zbC,zaj zbD⟩:(Sl Gate))⟩:list)=true) [.one (.bool (s70 (⟨(⟨zbC,zaj zbD⟩:(Sl Gate))⟩:list)))]
  | _=>.no
theorem zMO:zac Tryd.prog 70:=⟨_,rfl,rfl,by kernel_rfl⟩
theorem zOT:Ok Tryd.prog 70 zv1:=zau zQG zMO λ args K h=>by
  unfold zv1 at h
  split at h
  · rename_i zbC zcI zbD
    obtain⟨⟨⟨rfl,zcb,rfl⟩,hs⟩,hk⟩:=h
    try rw[zae zcb] at hs
    try rw[zae zcb] at hk
    exact⟨(λ _ _=>[]),(λ _=>false),zMN,q70 (⟨(⟨zbC,zcb⟩:(Sl Gate))⟩:list) K hs hk⟩
  · exact h.elim
abbrev T90:Tabs:=Tabs.nil
theorem zQH:TabsOk Tryd.prog T90:=TabsOk.nil
abbrev G90:Ctrs:=csm T90 (λ _ _=>[]) (λ _=>false)
def zH0:Ann:=⟨4,[(0,zK [1] [1]),(1,zK [2] [])],
 [],
 [],
 [],[]⟩
theorem zH1 (l_a0 : list) (K : List PA → Prop) :
  vcFun Tryd.prog G90 zH0 90 [.agg [.sl l_a0.Gates.len 3 (λ i=>zad (l_a0.Gates.get i))]] K =
  (K [.one (.fn 116 [] [.fp (zdi l_a0) 0])]):=by kernel_rfl
theorem q90 (l_a0:list) (K:List PA->Prop) (hk:K [.one (.fn 116 [] [.fp (zdi l_a0) 0])]):vcFun Tryd.prog G90 zH0 90 [.agg [.sl l_a0.Gates.len 3 (λ i=>zad (l_a0.Gates.get i))]] K:=zaE (zH1 l_a0 K) hk
def zH2 : List PA → COut
  | [.agg [.sl zbC zcI zbD]]=>.det (IsE zad 3 zcI zbD) [.one (.fn 116 [] [.fp (zdi (⟨(⟨zbC,zaj zbD⟩:(Sl Gate))⟩:list)) 0])]
  | _=>.no
theorem zMP:zac Tryd.prog 90:=⟨_,rfl,rfl,by kernel_rfl⟩
theorem zTW:Ok Tryd.prog 90 zH2:=zau zQH zMP λ args K h=>by
  unfold zH2 at h
  split at h
  · rename_i zbC zcI zbD
    obtain⟨⟨rfl,zcb,rfl⟩,hk⟩:=h
    try rw[zae zcb] at hk
    exact⟨λ _ _=>[],λ _=>false,zH0,q90 (⟨(⟨zbC,zcb⟩:(Sl Gate))⟩:list) K hk⟩
  · exact h.elim
abbrev T95:Tabs:=Tabs.nil
theorem zQI:TabsOk Tryd.prog T95:=TabsOk.nil
abbrev G95:Ctrs:=csm T95 (λ _ _=>[]) (λ _=>false)
def zH3:Ann:=⟨12,[(0,zK [0,1] []),(1,zK [0,1,6] []),(2,zK [0,1] []),(3,zK [4] [])],
 [(1,zK [0,1] [])],
 [],
 [],[]⟩
abbrev R95:=Int
abbrev e95 (r:R95):List PA:=[.one (.int .i64 r)]
@[irreducible] def z95:=ptF Tryd.prog G95 zH3 Tryd.f95
def zEF (av0:Int) (bv0:Int):St:=⟨[(0,zI av0),(1,zI bv0)],[],[]⟩
abbrev zMQ (K:List PA->Prop) (X:St->Prop) (P:Int->Int->Bool) (S:Int->Int->Int):Prop:=∀ ⦃av0:Int⦄ ⦃bv0:Int⦄,P av0 bv0=true->K (e95 (S av0 bv0))->X (zEF av0 bv0)
section
variable {K:List PA->Prop}{a:Int}{b:Int}{av0:Int}{bv0:Int}{X0:St->Prop}{P0:Int->Int->Bool}{S0:Int->Int->Int}
def znM (S0:Int->Int->Int) (av0:Int) (bv0:Int):Int :=
  (cond (decide (bv0 > (0:Int)))
 (S0 bv0 (av0.tmod bv0))
 av0)
def znN (P0:Int->Int->Bool) (av0:Int) (bv0:Int):Bool :=
  (cond (decide (bv0 > (0:Int)))
 (decide ((bv0 ≠ 0)) &&
 (P0 bv0 (av0.tmod bv0)))
 true)
def znO:Nat->Int->Int->Int:=lpO (λ _ _=>default) (znM)
def znP:Nat->Int->Int->Bool:=lpO (λ _ _=>false) (znN)
def zzT (av0:Int) (bv0:Int):Int:=znO Fuel av0 bv0
def zzU (av0:Int) (bv0:Int):Bool:=znP Fuel av0 bv0
theorem zH4 (hs:zzU av0 bv0=true) (hk:K (e95 (zzT av0 bv0))):z95 K [1,0,0] [] (zEF av0 bv0) :=
  zl (λ X=>z95 K [1,0,0,0] [X]) (by kernel_rfl) λ X0 hX =>
  (show ∀ k, zMQ K X0 (znP k) (znO k) from zgd _ _ (znN) (znM) (zMQ K X0)
 (by intro _ _ hs;exact absurd hs dqk)
 (by intro P0 S0 hX0 av0 bv0 hs hk;exact hX _ (zaE (by kernel_rfl) (zc hs hk (λ hs hk=>(zaJ hs λ hc hs=>And.intro hc (hX0 hs hk))) (λ hs hk=>hk))))) _ hs hk
def s95 (a:Int) (b:Int):Int :=
  (zzT a b)
def p95 (a:Int) (b:Int):Bool :=
  (zzU a b)
end
theorem q95 (a:Int) (b:Int) (K:List PA->Prop) (hs:p95 a b=true) (hk:K (e95 (s95 a b))):vcFun Tryd.prog G95 zH3 95 [.one (.int .i64 a),.one (.int .i64 b)] K :=
  zaE (by kernel_rfl) (zH4 hs hk)
def zH5 : List PA → COut
  | [.one (.int .i64 a0),.one (.int .i64 a1)]=>.det (p95 a0 a1=true) [.one (.int .i64 (s95 a0 a1))]
  | _=>.no
theorem zMR:zac Tryd.prog 95:=⟨_,rfl,rfl,by kernel_rfl⟩
theorem zTX:Ok Tryd.prog 95 zH5:=zau zQI zMR λ args K h=>by
  unfold zH5 at h
  split at h
  · rename_i a0 a1
    obtain⟨hs,hk⟩:=h
    exact⟨(λ _ _=>[]),(λ _=>false),zH3,q95 a0 a1 K hs hk⟩
  · exact h.elim
end Go.Proofs
