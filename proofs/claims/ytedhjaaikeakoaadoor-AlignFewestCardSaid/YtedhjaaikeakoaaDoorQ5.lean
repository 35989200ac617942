/- Part 5 of what the proof rests on: a machine that runs functions of the program on pure values, proved sound; the functions that the law reaches, and what they compute. -/
import Derived.Test.YtedhjaaikeakoaaDoorQ4
import Derived.Sort.OwnSortedInts
import Derived.Lib.SlicesCompact
import Derived.Test.YtedhjaaikeakoaaDoorProg
import Derived.ProofKit
import Derived.Deep.Slices
import Derived.OpenShut
import Derived.Shelf.SlIterI.Nil
import Derived.Shelf.SortM.Plain
import Derived.Shelf.SortM.SortNone
import Derived.Ground.GgzProg
import Derived.Ground.SlgmProg
import Derived.Tactics
import Derived.Tactics2
import Derived.Recover
import Derived.RecoverIn
import Derived.TacticsInMore
set_option linter.all false
namespace Go.Pm

structure Tabs where
  fn:List (Nat×(List PA->COut))
  own:List (Nat×OwnK)
  it:List (Nat×(List PA->Option (Prop×List (List PA))))
  mt:List (Nat×MK)
def zu6 : List (Nat × (List PA → COut)) → Nat → List PA → COut
  | [],_=>λ _=>.no
  | (k,c) :: r,n=>match Nat.beq k n with | true=>c | false=>zu6 r n
def zu7 (l:List (Nat×OwnK)) (f:Nat):OwnK:=match lk l f with | some c=>c | none=>.none
def zCA (l:List (Nat×(List PA->Option (Prop×List (List PA))))) (f:Nat):List PA->Option (Prop×List (List PA)):=match lk l f with | some c=>c | none=>λ _=>none
def csm (T:Tabs) (memo:Nat->Int->List Int) (vv:Nat->Bool):Ctrs:=⟨zu6 T.fn,zu7 T.own,zCA T.it,memo,vv,lk T.mt⟩
abbrev cs (T:Tabs):Ctrs:=csm T (λ _ _=>[]) (λ _=>false)
def Tabs.nil:Tabs:=⟨[],[],[],[]⟩
def Tabs.addF (T:Tabs) (f:Nat) (c:List PA->COut):Tabs:=⟨(f,c) :: T.fn,T.own,T.it,T.mt⟩
def Tabs.addO (T:Tabs) (f:Nat) (c:OwnK):Tabs:=⟨T.fn,(f,c) :: T.own,T.it,T.mt⟩
def Tabs.addI (T:Tabs) (f:Nat) (c:List PA->Option (Prop×List (List PA))):Tabs:=⟨T.fn,T.own,(f,c) :: T.it,T.mt⟩
def Tabs.addM (T:Tabs) (f:Nat) (c:MK):Tabs:=⟨T.fn,T.own,T.it,(f,c) :: T.mt⟩

theorem zI4 {P:Program}{f:Nat} : Ok P f (λ _=>.no):=λ _ _ h=>h.elim
theorem zI5 {P:Program}{f:Nat} : zAI P f (λ _=>none):=λ _ _ _ h=>by cases h

structure TabsOk (P : Program) (T : Tabs) : Prop where
  fn:∀ x∈T.fn,Ok P x.1 x.2
  own:∀ x∈T.own,znB P x.1 x.2
  it:∀ x∈T.it,zAI P x.1 x.2
  mt:∀ x∈T.mt,ziW P x.1 x.2
theorem TabsOk.nil {P:Program} : TabsOk P .nil:=⟨λ _ h=>(by cases h),λ _ h=>(by cases h),λ _ h=>(by cases h),λ _ h=>(by cases h)⟩
theorem TabsOk.addF {P:Program}{T:Tabs}(h:TabsOk P T){f:Nat}{c:List PA->COut}(hc:Ok P f c):TabsOk P (T.addF f c) :=
 ⟨λ x hx=>(dqq.1 hx).elim (λ e=>by rw[e];exact hc) (λ hx=>h.fn x hx),h.own,h.it,h.mt⟩
theorem TabsOk.addO {P:Program}{T:Tabs}(h:TabsOk P T){f:Nat}{c:OwnK}(hc:znB P f c):TabsOk P (T.addO f c) :=
 ⟨h.fn,λ x hx=>(dqq.1 hx).elim (λ e=>by rw[e];exact hc) (λ hx=>h.own x hx),h.it,h.mt⟩
theorem TabsOk.addI {P:Program}{T:Tabs}(h:TabsOk P T){f:Nat}{c:List PA->Option (Prop×List (List PA))}(hc:zAI P f c):TabsOk P (T.addI f c) :=
 ⟨h.fn,h.own,λ x hx=>(dqq.1 hx).elim (λ e=>by rw[e];exact hc) (λ hx=>h.it x hx),h.mt⟩
theorem TabsOk.addM {P:Program}{T:Tabs}(h:TabsOk P T){f:Nat}{c:MK}(hc:ziW P f c):TabsOk P (T.addM f c) :=
 ⟨h.fn,h.own,h.it,λ x hx=>(dqq.1 hx).elim (λ e=>by rw[e];exact hc) (λ hx=>h.mt x hx)⟩
theorem TabsOk.all {P:Program}{T:Tabs}(h:TabsOk P T) (memo:Nat->Int->List Int) (vv:Nat->Bool):OkAll P (csm T memo vv):=by
 refine⟨λ f C hC=>h.mt _ (zbG hC),λ f=>?_,λ f=>?_,λ f=>?_⟩
 ·show Ok P f (zu6 T.fn f)
  have key:∀ l:List (Nat×(List PA->COut)),(∀ x∈l,Ok P x.1 x.2)->Ok P f (zu6 l f):=by
   intro l
   induction l with
   | nil=>intro _;exact zI4
   | cons x l ih =>
    intro hl
    obtain⟨k,c⟩:=x
    simp only[zu6]
    split
    ·rename_i e
     have:=hl (k,c) dqj
     rw[<- dqc e];exact this
    ·exact ih λ x hx=>hl x (dqf _ hx)
  exact key T.fn h.fn
 ·show znB P f (zu7 T.own f)
  unfold zu7
  split
  ·rename_i c hc;exact h.own _ (zbG hc)
  ·trivial
 ·show zAI P f (zCA T.it f)
  unfold zCA
  split
  ·rename_i c hc;exact h.it _ (zbG hc)
  ·exact zI5

theorem zbs {P : Program} {T : Tabs} (hT : TabsOk P T) {f : FuncId} {C : List PA → COut} (hc : zas P f)
    (h:∀ args K,(C args).wp K->∃ memo vv ann,vcFun P (csm T memo vv) ann f args K):Ok P f C :=
  zzy (hT.all (λ _ _=>[]) (λ _=>false)) hc h
theorem zCB {P : Program} {T : Tabs} (hT : TabsOk P T) {f : FuncId} {C : MK} (hc : zas P f)
    (h:∀ xs safe rs ys,C xs=some (safe,rs,ys)->safe->∀ K:List PA->List XA->Prop,K rs ys->∃ memo vv ann,zkf P (csm T memo vv) ann f xs K):ziW P f C :=
  zu5 (hT.all (λ _ _=>[]) (λ _=>false)) hc h
theorem zGj {P : Program} {T : Tabs} (hT : TabsOk P T) {f : FuncId} {C : List PA → Option (Prop × List (List PA))} (hc : zas P f)
    (h:∀ l caps safe ys,C caps=some (safe,ys)->safe->∃ memo vv ann,vcIter P (csm T memo vv) ann f l caps ys):zAI P f C :=
  zzC (hT.all (λ _ _=>[]) (λ _=>false)) hc h
structure Sl (α : Type) where
  len:Nat
  get:Nat->α
instance {α:Type} [Inhabited α]:Inhabited (Sl α):=⟨⟨0,λ _=>default⟩⟩
abbrev w64 (x:Int):Int:=IntKind.i64.wrap x

def IsE {α:Type}(enc:α->List PV) (size s:Nat) (g:Nat->List PV):Prop:=s=size/\∃ f:Nat->α,g=λ i=>enc (f i)
theorem isE {α:Type}{enc:α->List PV}{size:Nat}{f:Nat->α} : IsE enc size size (λ i=>enc (f i)):=⟨rfl,f,rfl⟩
theorem zu8 {α:Type}{enc:α->List PV}{size:Nat}{x:α} : IsE enc size size (λ _=>enc x):=⟨rfl,λ _=>x,rfl⟩
def zfn {α:Type}(n:Nat) (get new:Nat->α):Nat->α:=λ j=>match Nat.ble n j with | true=>new (j - n) | false=>get j
theorem zzG {α:Type}{enc:α->List PV}{n:Nat}{f h:Nat->α} : appG n (λ i=>enc (f i)) (λ i=>enc (h i))=λ i=>enc (zfn n f h i):=by
 funext j;simp only[appG,zfn];cases Nat.ble n j <;> rfl
def zoY {α : Type} (x : α) : List α → Nat → α
  | [],_=>x
  | y :: _,0=>y
  | _ :: r,i+1=>zoY x r i
theorem zrL {α:Type}{enc:α->List PV}{x y:α}{r:List α} : zbv (enc x :: enc y :: r.map enc)=λ i=>enc (zoY x (x :: y :: r) i):=by
 have key:∀ (l:List α) (i:Nat),(match (l.map enc)[i]? with | some z=>z | none=>enc x)=enc (zoY x l i):=by
  intro l
  induction l with
  | nil=>intro i;rfl
  | cons a l ih =>
   intro i
   cases i with
   | zero=>rfl
   | succ i=>simpa [zoY] using ih i
 funext i
 exact key (x :: y :: r) i
theorem zd6 {α:Type}{enc:α->List PV}{size:Nat}{x y:α}(r:List α):IsE enc size size (zbv (enc x :: enc y :: r.map enc)):=⟨rfl,_,zrL⟩

theorem zeU {b:Bool}{A B:Prop}{S S':Bool}{α:Type}{K:α->Prop}{x y:α}(h1:S=true->K x->A) (h2:S'=true->K y->B) (hs:cond b S S'=true) (hk:K (cond b x y)):zdl b A B:=by
 cases b
 ·exact h2 hs hk
 ·exact h1 hs hk
theorem zha {b:Bool}{A B:Prop}{S S':Bool}{α β:Type}{f:α->β}{ys:List β}{x y:List α}(hs:cond b S S'=true) (hk:ys=(cond b x y).map f) (h1:S=true->ys=x.map f->A) (h2:S'=true->ys=y.map f->B):zdl b A B:=by
 cases b
 ·exact h2 hs hk
 ·exact h1 hs hk
theorem itY {α β:Type}{f:α->β}{ys:List β}{p:β}{x r:List α}{l:Nat}{A:List β->Prop}(hk:ys=x.map f) (e:x.map f=p :: r.map f) (h:∀ zs,zs=r.map f->A zs):l=l/\∃ z,ys=p :: z/\A z/\True :=
 ⟨rfl,_,hk.trans e,h _ rfl,trivial⟩
theorem zaR {C A:Prop} [d:Decidable C] {r:Bool}(hs:(decide C && r)=true) (k:C->r=true->A):A:=by
 rw[dqm] at hs
 exact k (of_decide_eq_true hs.1) hs.2
abbrev Fuel:Nat:=9223372036854775808
def setT {α:Type}(i:Nat) (v:α) (get:Nat->α):Nat->α:=λ j=>match Nat.beq j i with | true=>v | false=>get j
theorem zkj {α:Type}{enc:α->List PV}{n:Nat}{g g':Nat->List PV}{f h:Nat->α}(h1:g=λ i=>enc (f i)) (h2:g'=λ i=>enc (h i)):appG n g g'=λ i=>enc (zfn n f h i):=by
 subst h1;subst h2;exact zzG
theorem ziJ {α:Type}{enc:α->List PV}{i k:Nat}{g:Nat->List PV}{f:Nat->α}{new:List PV}{v:α}(h1:g=λ i=>enc (f i)) (h2:spl (enc (f i)) k new=enc v):zoO i k g new=λ j=>enc (setT i v f j):=by
 subst h1
 funext j
 simp only[zoO,setT]
 cases e:Nat.beq j i
 ·rfl
 ·have := dqc e
  subst this;exact h2
def zI6 (P:Program) (G:Ctrs) (ann:Ann) (hd:Nat) (ps:List Nat) (assign body:Code) (X:List (List PA)->St->Prop) (K:Exit->St->Prop) (y:List PA) (rest:List (List PA)) (s:St):Prop :=
 match lk ann.head hd with
 | some k=>match zgX ps y s.env with
  | some env=>vc P G ann assign (zyU (vc P G ann body (zlc P k (X rest) K)) λ _ _=>False) ⟨env,s.objs,[]⟩
  | none=>False
 | none=>False
end Go.Pm
namespace Go.Pm
open Go Go.Sort

/-! Nil slices are slices of length 0. -/
inductive PVle : PV → PV → Prop
  | rfl (p:PV):PVle p p
  | nil (s:Nat) (g:Nat->List PV):PVle .nils (.sl 0 s g)
  | nilm (q:MQ):PVle .nilm (.fm q 0 (λ _=>none))
inductive PAle : PA → PA → Prop
  | one {p q:PV} : PVle p q->PAle (.one p) (.one q)
  | agg {l m:List PV} : RL PVle l m->PAle (.agg l) (.agg m)
theorem znq {α β:Type}{R:α->β->Prop} : RL R [] []:=trivial
theorem zgM {α β:Type}{R:α->β->Prop}{a:α}{b:β}{l:List α}{m:List β}(h:R a b) (h':RL R l m):RL R (a :: l) (b :: m):=⟨h,h'⟩
theorem zfo {α : Type} {R : α → α → Prop} (h : ∀ a, R a a) : ∀ l : List α, RL R l l
  | []=>trivial
  | a :: l=>⟨h a,zfo h l⟩
theorem zgl (a:PA):PAle a a:=by
 cases a with
 | one p=>exact .one (.rfl p)
 | agg l=>exact .agg (zfo .rfl l)
def Wk (K:List PA->Prop) (l:List PA):Prop:=∃ l',RL PAle l l'/\K l'
theorem wk {K:List PA->Prop}{l l':List PA}(hk:K l') (h:RL PAle l l'):Wk K l:=⟨l',h,hk⟩
theorem zgm {K:List PA->Prop}{l:List PA}(hk:K l):Wk K l:=⟨l,zfo zgl l,hk⟩
theorem zGk {h:Fz}{p q:PV}{v:Value}(e:PVle p q) (r:Rep h p v):Rep h q v:=by
 cases e with
 | rfl=>exact r
 | nil s g=>cases r;exact .sl0 s g
 | nilm q=>cases r;exact .fmn q _ (λ _ _=>rfl)
theorem zu9 {α β γ : Type} {R : α → β → Prop} {S : α → γ → Prop} {T : γ → β → Prop} (h : ∀ a b c, S a c → R a b → T c b) : ∀ (l : List α) (m : List β) (k : List γ), RL S l k → RL R l m → RL T k m
  | [],[],[],_,_=>trivial
  | a :: l,b :: m,c :: k,hs,hr=>⟨h a b c hs.1 hr.1,zu9 h l m k hs.2 hr.2⟩
  | [],_ :: _,[],_,hr=>hr.elim
  | [],_,_ :: _,hs,_=>hs.elim
  | _ :: _,_,[],hs,_=>hs.elim
  | _ :: _,[],_ :: _,_,hr=>hr.elim
theorem zzH {h:Fz}{a b:PA}{v:Value}(e:PAle a b) (r:paR h a v):paR h b v:=by
 cases e with
 | one e=>exact zGk e r
 | agg e =>
  obtain⟨vs,rfl,hv⟩:=r
  exact⟨vs,rfl,zu9 (R:=Rep h) (S:=PVle) (T:=Rep h) (λ _ _ _ e r=>zGk e r) _ _ _ e hv⟩
theorem zva {h:Fz}{l m:List PA}{v:Value}(e:RL PAle l m) (r:zlY h l v):zlY h m v:=by
 match l,m,e,r with
 | [a],[b],e,r=>exact zzH e.1 r
 | [],[],_,r=>exact r
 | a :: b :: l,c :: d :: m,e,r =>
  obtain⟨vs,hv,hr⟩:=r
  exact⟨vs,hv,zu9 (R:=paR h) (S:=PAle) (T:=paR h) (λ _ _ _ e r=>zzH e r) _ _ _ e hr⟩
 | [_],_ :: _ :: _,e,_=>exact e.2.elim
 | _ :: _ :: _,[_],e,_=>exact e.2.elim
 | [],_ :: _,e,_=>exact e.elim
 | _ :: _,[],e,_=>exact e.elim
theorem zhB {P : Program} {T : Tabs} (hT : TabsOk P T) {f : FuncId} {C : List PA → COut} (hc : zas P f)
    (h:∀ args K,(C args).wp K->∃ args',RL PAle args args'/\∃ memo vv ann,vcFun P (csm T memo vv) ann f args' (Wk K)):Ok P f C:=by
  intro args K hK w h0 vs hvs hfz hgl
  obtain⟨args',hle,memo,vv,ann,hv⟩:=h args K hK
  refine⟨hc,(zuX (hT.all memo vv) hv (zu9 (R:=paR h0) (S:=PAle) (T:=paR h0) (λ _ _ _ e r=>zzH e r) _ _ _ hle hvs) hfz hgl).mono ?_⟩
  rintro e w' ⟨h',rs,v,⟨rs',hr,hk⟩,he,hres,rest⟩
  exact⟨h',rs',v,hk,he,zva hr hres,rest⟩
theorem zzI {P : Program} {T : Tabs} (hT : TabsOk P T) {f : FuncId} {C : MK} (hc : zas P f)
    (h:∀ xs safe rs ys,C xs=some (safe,rs,ys)->safe->∀ K:List PA->List XA->Prop,K rs ys->∃ memo vv ann,zkf P (csm T memo vv) ann f xs (λ a b=>Wk (λ a'=>K a' b) a)):ziW P f C:=by
  intro xs ys safe rs hC hs w h0 base vs hvs hn hK hw hgl hB
  obtain⟨memo,vv,ann,hv⟩:=h xs safe rs ys hC hs (λ l zs=>l=rs/\zs=ys) ⟨rfl,rfl⟩
  refine⟨hc,(zu4 (hT.all memo vv) hv hvs hn hK hw hgl hB).mono ?_⟩
  rintro e w' ⟨h',v,rs',ys',⟨rs2,hr,rfl,rfl⟩,he,hres,r⟩
  exact⟨h',v,he,zva hr hres,r⟩
def WkM (K:List PA×List XA->Prop) (p:List PA×List XA):Prop:=Wk (λ a=>K (a,p.2)) p.1
theorem wkM {K:List PA×List XA->Prop}{l l':List PA}{b:List XA}(hk:K (l',b)) (h:RL PAle l l'):WkM K (l,b):=⟨l',h,hk⟩
theorem zvb {K:List PA×List XA->Prop}{p:List PA×List XA}(hk:K p):WkM K p:=⟨p.1,zfo zgl p.1,hk⟩
/-! Maps, as typed zK8; the keys of a map. -/
structure Mp where
  n:Nat
  F:List Int->Option (List Int)
instance:Inhabited Mp:=⟨⟨0,λ _=>none⟩⟩

def nodupB : List (List Int) → Bool
  | []=>true
  | y :: r=>!r.contains y && nodupB r
def keysB (m n:Nat) (F:List Int->Option (List Int)) (ys:List (List Int)):Bool :=
 Nat.beq ys.length n && ys.all (λ y=>Nat.beq y.length m && (F y).isSome) && nodupB ys
end Go.Pm
namespace Go.Pm

abbrev zI (x:Int):DV:=.one (.c (.p (.int .i64 x)))
abbrev zB (x:Bool):DV:=.one (.c (.p (.bool x)))
abbrev zP (x:PV):DV:=.one (.c (.p x))
abbrev zp (L k:Nat):DV:=.one (.c (.ptr L k))
abbrev zv (L:Nat):DV:=.one (.c (.vec L))
abbrev zs {α:Type}(enc:α->List PV) (s:Nat) (x:Sl α):PV:=.sl x.len s (λ i=>enc (x.get i))
abbrev zS {α:Type}(enc:α->List PV) (s:Nat) (x:Sl α):DV:=zP (zs enc s x)
abbrev zm (l:List PV):List Cl:=l.map Cl.p
abbrev zi (x:Int):Cl:=.p (.int .i64 x)
abbrev zg {α:Type}(enc:α->List PV) (x:Sl α):Nat->List PV:=λ i=>enc (x.get i)
abbrev zK (a b:List Nat):Keep:=⟨a,b,[],[],[],[],[]⟩
theorem zE {α:Type}(enc:α->List PV) (size:Nat) (f:Nat->α):IsE enc size size (λ i=>enc (f i)):=⟨rfl,f,rfl⟩

theorem zvc {α : Type} : ∀ (new l pre : List α), l.length = new.length → spl (pre ++ l) pre.length new = pre ++ new
  | [],l,pre,h=>by
    have:l=[]:=List.eq_nil_of_length_eq_zero h
    subst this;rfl
  | x :: r,[],pre,h=>by simp at h
  | x :: r,y :: l,pre,h=>by
    have e:=zvc r l (pre ++ [x]) (by simpa using h)
    simp only[spl,List.append_assoc,List.singleton_append,dqu,List.length_singleton] at e ⊢
    rw[List.set_append_right _ _ (dqt _),Nat.sub_self,List.set_cons_zero]
    exact e
theorem zmy {n:Nat}{F G:Nat->Int} : spl (zgR 0 n F) 0 (zgR 0 n G)=zgR 0 n G:=by
 have h:=zvc (zgR 0 n G) (zgR 0 n F) [] (by rw[zeJ,zeJ])
 simpa using h
theorem zhb {n:Nat}{F:Nat->Int} : zgR 0 n F=zgR 0 n (zk8 (zm (zgR 0 n F))):=by
 refine List.ext_getElem? λ k=>?_
 by_cases hk:k < n
 ·rw [zfR n 0 F k hk, zfR n 0 _ k hk, Nat.zero_add]
  congr 2
  have h:(zm (zgR 0 n F))[k]? = some (.p (.int .i64 (F k))):=by
   rw[zm,dqH,zfR n 0 F k hk,Nat.zero_add];rfl
  unfold zk8
  rw[h]
 ·rw[dqM (by rw[zeJ];omega),dqM (by rw[zeJ];omega)]

@[reducible] def lpO {A : Type} (d : A) (st : A → A) : Nat → A
  | 0=>d
  | k+1=>st (lpO d st k)
theorem zfc {A B : Type} (a : A) (b : B) (p : A → A) (s : B → B) (M : A → B → Prop) (h0 : M a b) (h1 : ∀ P S, M P S → M (p P) (s S)) : ∀ k, M (lpO a p k) (lpO b s k)
  | 0=>h0
  | k+1=>h1 _ _ (zfc a b p s M h0 h1 k)
def xcm (l:List PV):List XC:=l.map .p
def unX : List XC → List PV
  | []=>[]
  | .p v :: r=>v :: unX r
  | _ :: r=>.nilp :: unX r
theorem zvd : ∀ l : List PV, unX (xcm l) = l
  | []=>rfl
  | v :: r=>by show v :: unX (xcm r)=v :: r;rw[zvd r]
theorem zCC {n:Nat}{F:Nat->Int} : xcm (zgR 0 n F)=xcm (zgR 0 n (zk8 (zm (unX (xcm (zgR 0 n F)))))):=by
 rw[zvd,<- zhb]

section
variable (P:Program) (Γ:Ctrs) (ann:Ann)
def pt : Code → (Exit → St → Prop) → List Nat → List (St → Prop) → St → Prop
  | .seq a b,K,i :: r,X=>match i with | 0=>pt a (sqK P Γ ann b K) r X | _=>pt b K r X
  | .cond _ a b,K,i :: r,X=>match i with | 0=>pt a K r X | _=>pt b K r X
  | .block id b,K,_ :: r,X=>pt b (ze4 id K) r X
  | .loop b,K,_ :: r,x :: X=>pt b (zsN P ann (zkY b) x K) r X
  | .scope b,K,_ :: r,X=>pt b (ztG K) r X
  | c,K,_,_=>vc P Γ ann c K
def ptF (fn:Func) (K:List PA->Prop) (l:List Nat) (X:List (St->Prop)):St->Prop :=
 match fn.body with
 | some c=>pt P Γ ann c (znx P fn K) l X
 | none=>λ _=>False
end

section
variable (P:Program) (Γ:Ctrs) (ann:Ann)
def ptR : Code → (Exit → St → Prop) → List Nat → List (St → Prop) → Code × (Exit → St → Prop)
  | .seq a b,K,i :: r,X=>match i with | 0=>ptR a (sqK P Γ ann b K) r X | _=>ptR b K r X
  | .cond _ a b,K,i :: r,X=>match i with | 0=>ptR a K r X | _=>ptR b K r X
  | .block id b,K,_ :: r,X=>ptR b (ze4 id K) r X
  | .loop b,K,_ :: r,x :: X=>ptR b (zsN P ann (zkY b) x K) r X
  | .scope b,K,_ :: r,X=>ptR b (ztG K) r X
  | c,K,_,_=>(c,K)
def exF (fn:Func) (K:List PA->Prop) (l:List Nat) (X:List (St->Prop)) (s:St):Prop :=
 match fn.body with
 | some c=>(ptR P Γ ann c (znx P fn K) l X).2 .normal s
 | none=>False
def rnF (fn:Func) (K:List PA->Prop) (l:List Nat) (X:List (St->Prop)) (Y:List (List PA)->St->Prop) (y:List PA) (rest:List (List PA)) (s:St):Prop :=
 match fn.body with
 | some c=>match (ptR P Γ ann c (znx P fn K) l X).1 with
  | .rangeFunc _ ps a b=>zI6 P Γ ann (zKu a b) ps.toList a b Y (ptR P Γ ann c (znx P fn K) l X).2 y rest s
  | _=>False
 | none=>False
end
@[reducible] def lpR {A Y : Type} (a : A) (st : Y → A → A) : List Y → A
  | []=>a
  | y :: r=>st y (lpR a st r)
theorem zri {Y A B : Type} {enc : Y → List PA} {X : List (List PA) → St → Prop} (pe : B) (se : A) (ps : Y → B → B) (ss : Y → A → A) (M : (St → Prop) → B → A → Prop) (h0 : M (X []) pe se)
    (h1:∀ y rest P S,M (X rest) P S->M (X (enc y :: rest)) (ps y P) (ss y S)):∀ l:List Y,M (X (l.map enc)) (lpR pe ps l) (lpR se ss l)
  | []=>h0
  | y :: r=>h1 y (r.map enc) _ _ (zri pe se ps ss M h0 h1 r)
theorem zr {at_ sf : Prop} {Y : Type} {enc : Y → List PA} {ys : List Y} {g : St} (Ex : St → Prop) (Rn : (List (List PA) → St → Prop) → List PA → List (List PA) → St → Prop)
    (e:at_=(sf/\∀ X:List (List PA)->St->Prop,(∀ s,Ex s->X [] s)->(∀ y rest s,Rn X y rest s->X (y :: rest) s)->X (ys.map enc) g)) (hs:sf)
    (h:∀ X:List (List PA)->St->Prop,(∀ s,Ex s->X [] s)->(∀ y rest s,Rn X y rest s->X (y :: rest) s)->X (ys.map enc) g):at_:=e ▸ ⟨hs,h⟩

theorem zc {b:Bool}{A B:Prop}{S S':Bool}{α:Type}{e:α->List PA}{K:List PA->Prop}{x y:α}(hs:cond b S S'=true) (hk:K (e (cond b x y))) (h1:S=true->K (e x)->A) (h2:S'=true->K (e y)->B):zdl b A B:=by
 cases b
 ·exact h2 hs hk
 ·exact h1 hs hk
theorem zt {b:Bool}{A B:Prop}{α:Type}{e:α->List PA}{K:List PA->Prop}{x y:α}(hk:K (e (cond b x y))) (h1:K (e x)->A) (h2:K (e y)->B):zdl b A B:=by
 cases b
 ·exact h2 hk
 ·exact h1 hk
theorem zGl {b:Bool}{s:Prop}{r1 r2:List PA}{K:List PA->Prop}(h:(COut.alt b s r1 s r2).wp K):s/\K (cond b r1 r2):=by
 cases b
 ·exact h.2 rfl
 ·exact h.1 rfl
theorem zl {at_:Prop}{g:St}(B:(St->Prop)->St->Prop) (e:at_ = ∀ X:St->Prop,(∀ s,B X s->X s)->X g) (h:∀ X:St->Prop,(∀ s,B X s->X s)->X g):at_:=e ▸ h
end Go.Pm
namespace Go.Proofs
open Go Go.Pm
set_option maxRecDepth 100000
set_option linter.unusedVariables false
attribute [local irreducible] Go.Pm.vcFun Go.Pm.vc Go.Pm.vcIter
abbrev Tab:=Nat->Int
def tg (n:Nat) (F:Tab) (k:Nat):Int:=zk8 (zm (zgR 0 n F)) k
def ts (n:Nat) (F:Tab) (k:Nat) (vs:List Int):Tab:=zAD k vs (zk8 (zm (zgR 0 n F)))
abbrev zab (x:Int):List PV:=[.int .i64 x]
def zI7 : List PV → Int
  | [.int .i64 x]=>x
  | _=>default
def zau (g:Nat->List PV):Nat->Int:=λ i=>zI7 (g i)
theorem zbp (f:Nat->Int):zau (λ i=>zab (f i))=f:=rfl
structure Tie where
  From:Int
  To:Int
  Low:Int
  High:Int
deriving Inhabited
abbrev enc_40 (x:Tie):List PV:=[.int .i64 x.From,.int .i64 x.To,.int .i64 x.Low,.int .i64 x.High]
def zGm : List PV → Tie
  | [.int .i64 x_From,.int .i64 x_To,.int .i64 x_Low,.int .i64 x_High]=>(⟨x_From,x_To,x_Low,x_High⟩:Tie)
  | _=>default
def zam (g:Nat->List PV):Nat->Tie:=λ i=>zGm (g i)
theorem zan (f:Nat->Tie):zam (λ i=>enc_40 (f i))=f:=rfl
abbrev zGn (x:(Sl Tie)):List PV:=[.sl x.len 4 (λ i=>enc_40 (x.get i))]
structure Net where
  Nodes:Int
  Ties:(Sl Tie)
deriving Inhabited
abbrev enc_24 (x:Net):List PV:=[.int .i64 x.Nodes,.sl x.Ties.len 4 (λ i=>enc_40 (x.Ties.get i))]
abbrev zbT (x:(Sl Int)):List PV:=[.sl x.len 1 (λ i=>zab (x.get i))]
def zGo : List PV → (Sl Int)
  | [.sl x_n _ x_g]=>(⟨x_n,zau x_g⟩:(Sl Int))
  | _=>default
def zmz (g:Nat->List PV):Nat->(Sl Int):=λ i=>zGo (g i)
theorem zkk (f:Nat->(Sl Int)):zmz (λ i=>zbT (f i))=f:=rfl
structure Span where
  Low:Int
  High:Int
deriving Inhabited
abbrev zbw (x:Span):List PV:=[.int .i64 x.Low,.int .i64 x.High]
def zGp : List PV → Span
  | [.int .i64 x_Low,.int .i64 x_High]=>(⟨x_Low,x_High⟩:Span)
  | _=>default
def zfp (g:Nat->List PV):Nat->Span:=λ i=>zGp (g i)
theorem zeV (f:Nat->Span):zfp (λ i=>zbw (f i))=f:=rfl
structure Pulse where
  A:Int
  B:Int
  TimeA:Int
  TimeB:Int
  Flight:Span
  Jitter:Int
deriving Inhabited
structure Use where
  Tie:Int
  Back:Bool
deriving Inhabited
abbrev zaP (x:Use):List PV:=[.int .i64 x.Tie,.bool x.Back]
def zGq : List PV → Use
  | [.int .i64 x_Tie,.bool x_Back]=>(⟨x_Tie,x_Back⟩:Use)
  | _=>default
def zcV (g:Nat->List PV):Nat->Use:=λ i=>zGq (g i)
theorem zcW (f:Nat->Use):zcV (λ i=>zaP (f i))=f:=rfl
structure Flash where
  A:Int
  B:Int
  Time:Int
  Flight:Int
  Wrong:Int
deriving Inhabited
structure web where
  Net:Net
  out:Mp
deriving Inhabited
abbrev zaz (x:web):List PV:=[.int .i64 x.Net.Nodes,.sl x.Net.Ties.len 4 (λ i=>enc_40 (x.Net.Ties.get i)),.fm (false,1,false,[none]) x.out.n x.out.F]
structure far where
  length:Int
  uses:Int
deriving Inhabited
abbrev zb4 (x:far):List PV:=[.int .i64 x.length,.int .i64 x.uses]
def zCD : List PV → far
  | [.int .i64 x_length,.int .i64 x_uses]=>(⟨x_length,x_uses⟩:far)
  | _=>default
def zi9 (g:Nat->List PV):Nat->far:=λ i=>zCD (g i)
theorem ziK (f:Nat->far):zi9 (λ i=>zb4 (f i))=f:=rfl
abbrev zak (x:Tab):List PV:=zgR 0 80 x
def zaD (l:List PV):Tab:=zk8 (zm l)
structure Step where
  From:Int
  To:Int
  Length:Int
  Use:Use
deriving Inhabited
structure step where
  Use:Use
  from_:Int
  to:Int
  length:Int
deriving Inhabited
abbrev zaB (x:step):List PV:=[.int .i64 x.Use.Tie,.bool x.Use.Back,.int .i64 x.from_,.int .i64 x.to,.int .i64 x.length]
def zCE : List PV → step
  | [.int .i64 x_Use_Tie,.bool x_Use_Back,.int .i64 x_from_,.int .i64 x_to,.int .i64 x_length]=>(⟨(⟨x_Use_Tie,x_Use_Back⟩:Use),x_from_,x_to,x_length⟩:step)
  | _=>default
def zhc (g:Nat->List PV):Nat->step:=λ i=>zCE (g i)
theorem zd7 (f:Nat->step):zhc (λ i=>zaB (f i))=f:=rfl
structure tie where
  Tie:Tie
  index:Int
deriving Inhabited
abbrev zve (x:tie):List PV:=[.int .i64 x.Tie.From,.int .i64 x.Tie.To,.int .i64 x.Tie.Low,.int .i64 x.Tie.High,.int .i64 x.index]
abbrev zvf (x:Tab):List PV:=zgR 0 40 x
abbrev zcC (x:(Sl Tab)):List PV:=[.sl x.len 80 (λ i=>zak (x.get i))]
abbrev tL (T:Tab) (i:Int):Int:=tg 80 T (0+i.toNat * 2+0)
abbrev tU (T:Tab) (i:Int):Int:=tg 80 T (0+i.toNat * 2+0+1)
abbrev tV (T:Tab) (i:Int):Int:=tg 80 T (0+i.toNat * 2+1)
abbrev nvr (x y:Int):Bool:=match (x == (1000000000000:Int)) with | true=>(match (y == (0:Int)) with | true=>true | false=>false) | false=>false
end Go.Proofs
namespace Go.Pm
open Go Go.Deep

theorem zzJ (b o i j:Nat):((⟨b,o,none⟩:Addr).add i).add j=⟨b,o+i+j,none⟩:=by
 simp only[Addr.add]
 by_cases h1:i=0
 ·subst h1
  by_cases h2:j=0
  ·subst h2;rfl
  ·rw[if_neg h2];rfl
 ·rw [if_neg h1]
  by_cases h2:j=0
  ·subst h2;rfl
  ·rw[if_neg h2]
def H0 (w:World):Fz:=λ b=>(w.heap[b]?).map .fz
theorem hw_H0 (w:World):Hw (H0 w) w:=by
 intro b x h
 unfold H0 at h
 cases e:w.heap[b]? with
 | none=>rw[e] at h;cases h
 | some o=>rw[e] at h;cases h;exact⟨o,rfl,rfl⟩
def wfI (x:Int):Prop:=-9223372036854775808<=x/\x<=9223372036854775807
section
variable {H:Type}{en:TypeId×Value->H}{P:Program}{w:World}{sp:Nat->Bool}{held:Bool}
def Rd (H:Type) (en:TypeId×Value->H) (P:Program) (w:World) (sp:Nat->Bool) (held:Bool) (t:TypeId){α:Type}(enc:α->List PV) (wf:α->Prop):Prop :=
 ∀ (fuel:Nat) (cs:List Value) (x:DataW H×List MemPlace),DataW.trod en P w 0 sp held fuel t cs=some x->∃ a:α,RL (Rep (H0 w)) (enc a) cs/\wf a
theorem zGr {t:TypeId}(ht:P.underlying t=some (.int .i64)):Rd H en P w sp held t (λ x=>[.int .i64 x]) wfI:=by
 intro fuel cs x h
 obtain⟨n,rfl,_,hw⟩:=DataW.trod_int ht h
 refine⟨n,⟨.int _ _,trivial⟩,?_⟩
 simp only[Lit.wf,dqm,decide_eq_true_eq] at hw
 exact⟨hw.1,hw.2⟩
theorem zoj {t : TypeId} {fs : Array Field} (ht : P.underlying t = some (.struct fs)) {fuel : Nat} {cs : List Value} {x : DataW H × List MemPlace} (h : DataW.trod en P w 0 sp held fuel t cs = some x) :
  cs.length=P.cellsOf t/\∀ (i:Nat) (f:Field),fs[i]? = some f->∃ n y,DataW.trod en P w 0 sp held n f.type ((cs.drop f.offset).take (P.cellsOf f.type))=some y:=by
 obtain⟨xs,n,_,_,hl,hx,hf⟩:=DataW.trod_struct ht h
 refine⟨hl,λ i f hi=>?_⟩
 have hlt:i < xs.length:=by rw[hx];exact (dqp.1 hi).1
 exact⟨n,xs[i],by rw[hf i f hi,dqD hlt]⟩
theorem zzK {t e : TypeId} {α : Type} [Inhabited α] {enc : α → List PV} {wf : α → Prop} {s : Nat} (ht : P.underlying t = some (.slice e)) (hc : P.cellsOf e = s) (hs : 0 < s) (hlen : ∀ a, (enc a).length = s)
    (hel:Rd H en P w sp held e enc wf):Rd H en P w sp held t (λ x:Sl α=>[.sl x.len s (λ i=>enc (x.get i))]) (λ x=>x.len<=9223372036854775807/\∀ i,i < x.len->wf (x.get i)):=by
  intro fuel cs x h
  rcases open_slice ht h with ⟨rfl,_⟩ | ⟨a,len,cap,m,n,D,Pl,rfl,_,hl,hm,hmm,_,hget⟩
  · exact⟨⟨0,default⟩,⟨.sl0 _ _,trivial⟩,Nat.zero_le _,λ i hi=>absurd hi (dqW i)⟩
  · by_cases h0 : len = 0
    · subst h0
      exact⟨⟨0,default⟩,⟨.sle _ _ _ _,trivial⟩,Nat.zero_le _,λ i hi=>absurd hi (dqW i)⟩
    · have hlm : len ≤ m := by rw [hmm]; split <;> omega
      rw[hc] at hget
      have hex:∀ i,i < len->∃ y:α,(∃ cs',w.cells? 0 (a.add (i * s)) s=some cs'/\RL (Rep (H0 w)) (enc y) cs')/\wf y:=by
        intro i hi
        obtain⟨cs',h1,h2⟩:=hget i (by omega)
        obtain⟨y,h3,h4⟩:=hel _ _ _ h2
        exact⟨y,⟨cs',h1,h3⟩,h4⟩
      have hch:∃ f:Nat->α,∀ i,i < len->(∃ cs',w.cells? 0 (a.add (i * s)) s=some cs'/\RL (Rep (H0 w)) (enc (f i)) cs')/\wf (f i):=by
        refine⟨λ i=>if hi:i < len then Classical.choose (hex i hi) else default,λ i hi=>?_⟩
        simp only[dif_pos hi]
        exact Classical.choose_spec (hex i hi)
      obtain⟨f,hf⟩:=hch
      -- the block
      have hcell:∀ i,i < len->∀ j,j < s->∃ cs',w.cells? 0 (a.add (i * s)) s=some cs'/\RL (Rep (H0 w)) (enc (f i)) cs'/\w.cell? ((a.add (i * s)).add j)=cs'[j]?/\cs'.length=s:=by
        intro i hi j hj
        obtain⟨⟨cs',h1,h2⟩,_⟩:=hf i hi
        obtain⟨_,h3,h4⟩:=World.cells?_some h1
        exact⟨cs',h1,h2,h4 j hj,h3⟩
      obtain⟨cs0,_,_,hc0,hl0⟩:=hcell 0 (by omega) 0 hs
      have ha0:w.cell? a=cs0[0]?:=by simpa [Addr.add] using hc0
      rw[dqD (by omega)] at ha0
      obtain⟨C,ty,fr,hblk,hspot⟩:∃ C ty fr,w.heap[a.block]? = some (.cells C ty fr)/\a.spot=none:=by
        unfold World.cell? at ha0
        split at ha0
        · rename_i C ty fr hb
          refine⟨C,ty,fr,hb,?_⟩
          cases hsp:a.spot with
          | none=>rfl
          | some k=>rw[hsp] at ha0;simp at ha0
        · cases ha0
      have ea:a=⟨a.block,a.off,none⟩:=by rw[<- hspot]
      have hat:∀ i j,i < len->j < s->∃ cs',RL (Rep (H0 w)) (enc (f i)) cs'/\C[a.off+i * s+j]? = cs'[j]?/\cs'.length=s:=by
        intro i j hi hj
        obtain⟨cs',_,h2,h3,h4⟩:=hcell i hi j hj
        refine⟨cs',h2,?_,h4⟩
        rw[<- h3]
        have e2:(a.add (i * s)).add j=⟨a.block,a.off+i * s+j,none⟩:=(congrArg (λ z:Addr=>(z.add (i * s)).add j) ea).trans (zzJ _ _ _ _)
        rw[e2]
        simp[World.cell?,hblk]
      refine⟨⟨len,f⟩,⟨?_,trivial⟩,by simp only[maxLen] at hm;show len<=_;omega,λ i hi=>(hf i hi).2⟩
      rw[ea]
      refine .sl len s _ a.block a.off cap C ty fr (λ i j=>C.getD (a.off+i * s+j) undef) (by simp[H0,hblk]) hl (λ i _=>hlen _) ?_ ?_
      · intro i j x hi hx
        have hj:j < s:=by have:=(dqn.1 hx).1;rw[hlen] at this;exact this
        obtain⟨cs',h1,h2,h3⟩:=hat i j hi hj
        rw[dql,h2,dqD (by omega)]
        rfl
      · intro i j x hi hx
        have hj:j < s:=by have:=(dqn.1 hx).1;rw[hlen] at this;exact this
        obtain⟨cs',h1,h2,h3⟩:=hat i j hi hj
        obtain⟨v,hv,hr⟩:=h1.get j x hx
        rw[dql,h2,hv]
        exact hr
theorem zdD {α:Type}(l:List α) (o s:Nat):l.drop o=(l.drop o).take s ++ l.drop (o+s):=by
 rw[<- List.drop_drop]
 exact (List.take_append_drop s (l.drop o)).symm
theorem okWide_agg {t:TypeId}{fs:Array Field}{r:Reach}{base:Nat}{v:Value}(ht:P.underlying t=some (.struct fs)) (h:Value.okWide P w r base t v):∃ cs,v=.agg cs:=by
 unfold Value.okWide at h
 rw[ht] at h
 obtain⟨cs,hv,_⟩:=h
 exact⟨cs,hv⟩
def zI8 : TypeDesc → Bool
  | .struct _=>false
  | .array _ _=>false
  | _=>true
theorem okWide_one {t:TypeId}{d:TypeDesc}{r:Reach}{base:Nat}{v:Value}(ht:P.underlying t=some d) (hd:zI8 d=true) (h:Value.okWide P w r base t v):v.cells.toList=[v]:=by
 unfold Value.okWide at h
 rw[ht] at h
 cases v with
 | agg cs =>
  exfalso
  cases d <;> first | (cases hd;done) | (simp only[Cell.okWide,Cell.ok,ht] at h)
 | _=>rfl
theorem pa_one {h:Fz}{p:PV}{v:Value}(hv:v.cells.toList=[v]) (r:RL (Rep h) [p] v.cells.toList):paR h (.one p) v:=by
 rw[hv] at r
 exact r.1
theorem pa_agg {h:Fz}{l:List PV}{v:Value}(hv:∃ cs,v=.agg cs) (r:RL (Rep h) l v.cells.toList):paR h (.agg l) v:=by
 obtain⟨cs,rfl⟩:=hv
 exact⟨cs.toList,by simp,r⟩
theorem below_H0 {w':World}(b:Bel (H0 w) w.heap.size w w'):Go.RowKit.Below w.heap.size w w' :=
 ⟨b.os,b.tape,b.output,b.size,λ k hk=>b.block k hk λ F e=>by
  unfold H0 at e
  cases hb:w.heap[k]? <;> rw[hb] at e <;> cases e⟩
end
end Go.Pm
namespace Go.Proofs
open Go Go.Pm
set_option maxRecDepth 100000
set_option linter.unusedVariables false
attribute [local irreducible] Go.Pm.vcFun Go.Pm.vc Go.Pm.vcIter
theorem C_3:Tryd.prog.cellsOf 3=1:=by kernel_rfl
theorem zLb:Tryd.prog.cellsOf 22=1:=by kernel_rfl
theorem zLc:Tryd.prog.cellsOf 24=2:=by kernel_rfl
theorem zKA:Tryd.prog.cellsOf 40=4:=by kernel_rfl
abbrev wf_3 (x:Int):Prop:=wfI x
theorem rd_3 {H:Type}{en:TypeId×Value->H}{w:World}{sp:Nat->Bool}{held:Bool} : Rd H en Tryd.prog w sp held 3 zab wf_3:=zGr Tryd.underlying3
def zGs (x:Tie):Prop:=wf_3 x.From/\wf_3 x.To/\wf_3 x.Low/\wf_3 x.High
theorem zI9 {H:Type}{en:TypeId×Value->H}{w:World}{sp:Nat->Bool}{held:Bool} : Rd H en Tryd.prog w sp held 40 enc_40 zGs:=by
  intro fuel cs x h
  obtain⟨hl,hf⟩:=zoj Tryd.underlying40 h
  rw[zKA] at hl
  obtain⟨n0,y0,g0⟩:=hf 0 _ rfl
  have g0:DataW.trod en Tryd.prog w 0 sp held n0 3 ((cs.drop 0).take (Tryd.prog.cellsOf 3))=some y0:=g0
  rw[C_3] at g0
  obtain⟨a0,r0,w0⟩:=rd_3 _ _ _ g0
  obtain⟨n1,y1,g1⟩:=hf 1 _ rfl
  have g1:DataW.trod en Tryd.prog w 0 sp held n1 3 ((cs.drop 1).take (Tryd.prog.cellsOf 3))=some y1:=g1
  rw[C_3] at g1
  obtain⟨a1,r1,w1⟩:=rd_3 _ _ _ g1
  obtain⟨n2,y2,g2⟩:=hf 2 _ rfl
  have g2:DataW.trod en Tryd.prog w 0 sp held n2 3 ((cs.drop 2).take (Tryd.prog.cellsOf 3))=some y2:=g2
  rw[C_3] at g2
  obtain⟨a2,r2,w2⟩:=rd_3 _ _ _ g2
  obtain⟨n3,y3,g3⟩:=hf 3 _ rfl
  have g3:DataW.trod en Tryd.prog w 0 sp held n3 3 ((cs.drop 3).take (Tryd.prog.cellsOf 3))=some y3:=g3
  rw[C_3] at g3
  obtain⟨a3,r3,w3⟩:=rd_3 _ _ _ g3
  have z:cs.drop 4=[]:=dqO (by omega)
  have R:=(r0.append (r1.append (r2.append (r3.append (show RL (Rep (H0 w)) [] (cs.drop 4) by rw[z];exact znq)))))
  rw[<- (show cs.drop 3=(cs.drop 3).take 1 ++ cs.drop 4 from zdD cs 3 1)] at R
  rw[<- (show cs.drop 2=(cs.drop 2).take 1 ++ cs.drop 3 from zdD cs 2 1)] at R
  rw[<- (show cs.drop 1=(cs.drop 1).take 1 ++ cs.drop 2 from zdD cs 1 1)] at R
  rw[<- (show cs.drop 0=(cs.drop 0).take 1 ++ cs.drop 1 from zdD cs 0 1)] at R
  exact⟨⟨a0,a1,a2,a3⟩,R,⟨w0,w1,w2,w3⟩⟩
def zGt (x:(Sl Tie)):Prop:=x.len<=9223372036854775807/\∀ i,i < x.len->zGs (x.get i)
theorem zJa {H:Type}{en:TypeId×Value->H}{w:World}{sp:Nat->Bool}{held:Bool} : Rd H en Tryd.prog w sp held 22 zGn zGt:=zzK Tryd.underlying22 zKA (by decide) (λ _=>rfl) zI9
def wf_24 (x:Net):Prop:=wf_3 x.Nodes/\zGt x.Ties
theorem rd_24 {H:Type}{en:TypeId×Value->H}{w:World}{sp:Nat->Bool}{held:Bool} : Rd H en Tryd.prog w sp held 24 enc_24 wf_24:=by
  intro fuel cs x h
  obtain⟨hl,hf⟩:=zoj Tryd.underlying24 h
  rw[zLc] at hl
  obtain⟨n0,y0,g0⟩:=hf 0 _ rfl
  have g0:DataW.trod en Tryd.prog w 0 sp held n0 3 ((cs.drop 0).take (Tryd.prog.cellsOf 3))=some y0:=g0
  rw[C_3] at g0
  obtain⟨a0,r0,w0⟩:=rd_3 _ _ _ g0
  obtain⟨n1,y1,g1⟩:=hf 1 _ rfl
  have g1:DataW.trod en Tryd.prog w 0 sp held n1 22 ((cs.drop 1).take (Tryd.prog.cellsOf 22))=some y1:=g1
  rw[zLb] at g1
  obtain⟨a1,r1,w1⟩:=zJa _ _ _ g1
  have z:cs.drop 2=[]:=dqO (by omega)
  have R:=(r0.append (r1.append (show RL (Rep (H0 w)) [] (cs.drop 2) by rw[z];exact znq)))
  rw[<- (show cs.drop 1=(cs.drop 1).take 1 ++ cs.drop 2 from zdD cs 1 1)] at R
  rw[<- (show cs.drop 0=(cs.drop 0).take 1 ++ cs.drop 1 from zdD cs 0 1)] at R
  exact⟨⟨a0,a1⟩,R,⟨w0,w1⟩⟩
end Go.Proofs
namespace Go.Proofs
open Go Go.Pm
set_option maxRecDepth 100000
set_option linter.unusedVariables false
attribute [local irreducible] Go.Pm.vcFun Go.Pm.vc Go.Pm.vcIter
abbrev T81:Tabs:=Tabs.nil
theorem zJb:TabsOk Tryd.prog T81:=TabsOk.nil
abbrev G81:Ctrs:=csm T81 (λ _ _=>[]) (λ _=>false)
def zGu:Ann:=⟨15,[(0,zK [0,1,2] []),(1,zK [6] [])],
 [],
 [],
 [],[]⟩
abbrev R81:=Bool
abbrev e81 (r:R81):List PA:=[.one (.bool r)]
section
variable {K:List PA->Prop}{n:Int}{low:Int}{high:Int}
def s81 (n:Int) (low:Int) (high:Int):Bool :=
  (cond (decide (n >= low))
 (decide (n<=high))
 false)
end
theorem q81 (n:Int) (low:Int) (high:Int) (K:List PA->Prop) (hk:K (e81 (s81 n low high))):vcFun Tryd.prog G81 zGu 81 [.one (.int .i64 n),.one (.int .i64 low),.one (.int .i64 high)] K :=
  za4 (by kernel_rfl) (zt hk (λ hk=>hk) (λ hk=>hk))
def zvg : List PA → COut
  | [.one (.int .i64 a0),.one (.int .i64 a1),.one (.int .i64 a2)]=>.tot [.one (.bool (s81 a0 a1 a2))]
  | _=>.no
theorem zGv:zas Tryd.prog 81:=⟨_,rfl,rfl,by kernel_rfl⟩
theorem zJc:Ok Tryd.prog 81 zvg:=zbs zJb zGv λ args K h=>by
  unfold zvg at h
  split at h
  · rename_i a0 a1 a2
    have hk:=h
    exact⟨(λ _ _=>[]),(λ _=>false),zGu,q81 a0 a1 a2 K hk⟩
  · exact h.elim
abbrev T78:Tabs:=(Tabs.nil.addF 81 zvg)
theorem zJd:TabsOk Tryd.prog T78:=(TabsOk.nil.addF zJc)
abbrev G78:Ctrs:=csm T78 (λ _ _=>[]) (λ _=>false)
def zCF:Ann:=⟨55,[(0,zK [1,2] [2]),(1,zK [1,2,5] [2]),(2,zK [1,2,5,6] [2]),(3,zK [4] [])],
 [],
 [(2,zK [1,2,5] [2]),(3,zK [1,2,5,6] [2])],
 [],[]⟩
abbrev R78:=Bool
abbrev e78 (r:R78):List PA:=[.one (.bool r)]
@[irreducible] def z78:=ptF Tryd.prog G78 zCF Tryd.f78
section
variable {K:List PA->Prop}{t:Tie}{nodes:Int}{zmA:Bool}{zrM:Bool}
def zkl (t:Tie) (nodes:Int) (zmA:Bool) (zrM:Bool):Bool :=
  (cond (s81 t.From (0:Int) (w64 (nodes - (1:Int))))
 (cond (s81 t.To (0:Int) (w64 (nodes - (1:Int))))
 (cond (t.From != t.To)
 (cond zmA
 (cond zrM
 (decide (t.Low<=t.High))
 false)
 false)
 false)
 false)
 false)
theorem zvh (hk:K (e78 (zkl t nodes zmA zrM))):z78 K [1,1,1] [] ⟨[(1,zI nodes),(2,zp 2 0),(5,zB zmA),(6,zB zrM)],[(2,.box 40 (zm (enc_40 t)))],[]⟩:=za4 (by kernel_rfl) (zt hk (λ hk=>(zt hk (λ hk=>(zt hk (λ hk=>(zt hk (λ hk=>(zt hk (λ hk=>hk) (λ hk=>hk))) (λ hk=>hk))) (λ hk=>hk))) (λ hk=>hk))) (λ hk=>hk))
def zkm (t:Tie) (nodes:Int) (zmA:Bool):Bool :=
  (cond (t.High == (1000000000000:Int))
 (zkl t nodes zmA true)
 (zkl t nodes zmA (s81 t.High (-1000000000:Int) (1000000000:Int))))
theorem zvi (hk:K (e78 (zkm t nodes zmA))):z78 K [1,1] [] ⟨[(1,zI nodes),(2,zp 2 0),(5,zB zmA)],[(2,.box 40 (zm (enc_40 t)))],[]⟩:=za4 (by kernel_rfl) (zt hk (λ hk=>(zvh hk)) (λ hk=>(zvh hk)))
def s78 (t:Tie) (nodes:Int):Bool :=
  (cond (t.Low == (-1000000000000:Int))
 (zkm t nodes true)
 (zkm t nodes (s81 t.Low (-1000000000:Int) (1000000000:Int))))
end
theorem q78 (t:Tie) (nodes:Int) (K:List PA->Prop) (hk:K (e78 (s78 t nodes))):vcFun Tryd.prog G78 zCF 78 [.agg (enc_40 t),.one (.int .i64 nodes)] K :=
  za4 (by kernel_rfl) (zt hk (λ hk=>(zvi hk)) (λ hk=>(zvi hk)))
def zCG : List PA → COut
  | [.agg [.int .i64 zpz,.int .i64 zCH,.int .i64 zvj,.int .i64 zpA],.one (.int .i64 a1)]=>.tot [.one (.bool (s78 (⟨zpz,zCH,zvj,zpA⟩:Tie) a1))]
  | _=>.no
theorem zGw:zas Tryd.prog 78:=⟨_,rfl,rfl,by kernel_rfl⟩
theorem zLd:Ok Tryd.prog 78 zCG:=zbs zJd zGw λ args K h=>by
  unfold zCG at h
  split at h
  · rename_i zpz zCH zvj zpA a1
    have hk:=h
    exact⟨(λ _ _=>[]),(λ _=>false),zCF,q78 (⟨zpz,zCH,zvj,zpA⟩:Tie) a1 K hk⟩
  · exact h.elim
abbrev T67:Tabs:=((Tabs.nil.addF 78 zCG).addF 81 zvg)
theorem zJe:TabsOk Tryd.prog T67:=((TabsOk.nil.addF zLd).addF zJc)
abbrev G67:Ctrs:=csm T67 (λ _ _=>[]) (λ _=>false)
def zzL:Ann:=⟨27,[(0,zK [1] [1]),(1,zK [1,6,7,8] [1]),(2,zK [1,6,7,8,9] [1]),(3,zK [1,4,6,7,8] [1,4]),(4,zK [1,6,7,8,16] [1]),(5,zK [2] []),(6,zK [1,6,7,8] [1]),(7,zK [2] [])],
 [(2,zK [1,6,7,8] [1])],
 [(5,zK [1,6,7,8,16] [1])],
 [],[]⟩
abbrev R67:=Bool
abbrev e67 (r:R67):List PA:=[.one (.bool r)]
@[irreducible] def z67:=ptF Tryd.prog G67 zzL Tryd.f67
def zA0 (n:Net) (zdq:Int):St:=⟨[(1,zp 1 0),(6,zS enc_40 4 n.Ties),(7,zI (n.Ties.len:Int)),(8,zI zdq)],[(1,.box 24 (zm (enc_24 n)))],[]⟩
abbrev zCI (K:List PA->Prop) (n:Net) (X:St->Prop) (P:Int->Bool) (S:Int->Bool):Prop:=∀ ⦃zdq:Int⦄,P zdq=true->K (e67 (S zdq))->X (zA0 n zdq)
section
variable {K:List PA->Prop}{n:Net}{zdq:Int}{X0:St->Prop}{P0:Int->Bool}{S0:Int->Bool}{zCJ:Int}{zpB:Bool}
def zpC (S0:Int->Bool) (n:Net) (zCJ:Int) (zpB:Bool):Bool :=
  (cond zpB
 false
 (S0 (w64 (zCJ+(1:Int)))))
def zpD (P0:Int->Bool) (n:Net) (zCJ:Int) (zpB:Bool):Bool :=
  (cond zpB
 true
 (P0 (w64 (zCJ+(1:Int)))))
theorem zCK (hX0:zCI K n X0 P0 S0) (hs:zpD P0 n zCJ zpB=true) (hk:K (e67 (zpC S0 n zCJ zpB))):z67 K [1,0,1,0,0,1,1,0,0,1,1] [X0] ⟨[(1,zp 1 0),(6,zS enc_40 4 n.Ties),(7,zI (n.Ties.len:Int)),(8,zI zCJ),(16,zB zpB)],[(1,.box 24 (zm (enc_24 n)))],[]⟩:=za4 (by kernel_rfl) (zc hs hk (λ hs hk=>hk) (λ hs hk=>(hX0 hs hk)))
def zhC (n:Net) (S0:Int->Bool) (zdq:Int):Bool :=
  (cond (decide (zdq < (n.Ties.len : Int)))
 (zpC S0 n zdq (!(s78 (n.Ties.get zdq.toNat) n.Nodes)))
 (cond (s81 n.Nodes (1:Int) (40:Int))
 (decide ((n.Ties.len:Int)<=(200:Int)))
 false))
def zhD (n:Net) (P0:Int->Bool) (zdq:Int):Bool :=
  (cond (decide (zdq < (n.Ties.len : Int)))
 (decide ((0<=zdq/\zdq < (n.Ties.len:Int))) &&
 (zpD P0 n zdq (!(s78 (n.Ties.get zdq.toNat) n.Nodes))))
 true)
def zhE (n:Net):Nat->Int->Bool:=lpO (λ _=>default) (zhC n)
def zhF (n:Net):Nat->Int->Bool:=lpO (λ _=>false) (zhD n)
def zvk (n:Net) (zdq:Int):Bool:=zhE n Fuel zdq
def zvl (n:Net) (zdq:Int):Bool:=zhF n Fuel zdq
theorem zCL (hs:zvl n zdq=true) (hk:K (e67 (zvk n zdq))):z67 K [1,0,1,0] [] (zA0 n zdq) :=
  zl (λ X=>z67 K [1,0,1,0,0] [X]) (by kernel_rfl) λ X0 hX =>
  (show ∀ k, zCI K n X0 (zhF n k) (zhE n k) from zfc _ _ (zhD n) (zhC n) (zCI K n X0)
 (by intro _ hs;exact absurd hs dqk)
 (by intro P0 S0 hX0 zdq hs hk;exact hX _ (za4 (by kernel_rfl) (zc hs hk (λ hs hk=>(zaR hs λ hc hs=>And.intro hc (zCK hX0 hs hk))) (λ hs hk=>(zt hk (λ hk=>hk) (λ hk=>hk))))))) _ hs hk
def s67 (n:Net):Bool :=
  (zvk n (0:Int))
def p67 (n:Net):Bool :=
  (zvl n (0:Int))
end
theorem q67 (n:Net) (K:List PA->Prop) (hs:p67 n=true) (hk:K (e67 (s67 n))):vcFun Tryd.prog G67 zzL 67 [.agg (enc_24 n)] K :=
  za4 (by kernel_rfl) (zCL hs hk)
def zvm : List PA → COut
  | [.agg [.int .i64 zal,.sl zai zaH zah]]=>.det (IsE enc_40 4 zaH zah/\p67 (⟨zal,(⟨zai,zam zah⟩:(Sl Tie))⟩:Net)=true) [.one (.bool (s67 (⟨zal,(⟨zai,zam zah⟩:(Sl Tie))⟩:Net)))]
  | [.agg [.int .i64 zal,.nils]]=>.det (p67 (⟨zal,(⟨0,λ _=>default⟩:(Sl Tie))⟩:Net)=true) [.one (.bool (s67 (⟨zal,(⟨0,λ _=>default⟩:(Sl Tie))⟩:Net)))]
  | _=>.no
theorem zGx:zas Tryd.prog 67:=⟨_,rfl,rfl,by kernel_rfl⟩
theorem zJf:Ok Tryd.prog 67 zvm:=zhB zJe zGx λ args K h=>by
  unfold zvm at h
  split at h
  · rename_i zal zai zaH zah
    obtain⟨⟨⟨rfl,zax,rfl⟩,hs⟩,hk⟩:=h
    try rw[zan zax] at hs
    try rw[zan zax] at hk
    exact⟨_,zfo zgl _,(λ _ _=>[]),(λ _=>false),zzL,q67 (⟨zal,(⟨zai,zax⟩:(Sl Tie))⟩:Net) (Wk K) hs (zgm hk)⟩
  · rename_i zal
    obtain⟨hs,hk⟩:=h
    exact⟨_,(zgM (.agg (zgM (.rfl _) (zgM (.nil _ _) znq))) znq),(λ _ _=>[]),(λ _=>false),zzL,q67 (⟨zal,(⟨0,λ _=>default⟩:(Sl Tie))⟩:Net) (Wk K) hs (zgm hk)⟩
  · exact h.elim
abbrev T93:Tabs:=Tabs.nil
theorem zJg:TabsOk Tryd.prog T93:=TabsOk.nil
abbrev G93:Ctrs:=csm T93 (λ _ _=>[]) (λ _=>false)
def zCM:Ann:=⟨4,[(0,zK [1] [1]),(1,zK [2] [])],
 [],
 [],
 [],[]⟩
theorem zCN (w : web) (K : List PA → Prop) :
  vcFun Tryd.prog G93 zCM 93 [.one (.fp (zaz w) 0)] K =
  (K [.one (.fn 110 [] [.fp [.fp (zaz w) 0] 0])]):=by kernel_rfl
theorem q93 (w:web) (K:List PA->Prop) (hk:K [.one (.fn 110 [] [.fp [.fp (zaz w) 0] 0])]):vcFun Tryd.prog G93 zCM 93 [.one (.fp (zaz w) 0)] K:=za4 (zCN w K) hk
def zok : List PA → COut
  | [.one (.fp [.int .i64 zaj,.sl zae zay zaf,.fm za6 zaE zaF] 0)]=>.det (IsE enc_40 4 zay zaf/\za6=(false,1,false,[none])) [.one (.fn 110 [] [.fp [.fp (zaz (⟨(⟨(⟨zaj,(⟨zae,zam zaf⟩:(Sl Tie))⟩:Net),(⟨zaE,zaF⟩:Mp)⟩:web).Net,((⟨(⟨zaj,(⟨zae,zam zaf⟩:(Sl Tie))⟩:Net),(⟨zaE,zaF⟩:Mp)⟩:web).out)⟩:web)) 0] 0])]
  | _=>.no
theorem zGy:zas Tryd.prog 93:=⟨_,rfl,rfl,by kernel_rfl⟩
theorem zFD:Ok Tryd.prog 93 zok:=zbs zJg zGy λ args K h=>by
  unfold zok at h
  split at h
  · rename_i zaj zae zay zaf za6 zaE zaF
    obtain⟨⟨⟨rfl,zaq,rfl⟩,rfl⟩,hk⟩:=h
    try rw[zan zaq] at hk
    exact⟨λ _ _=>[],λ _=>false,zCM,q93 (⟨(⟨zaj,(⟨zae,zaq⟩:(Sl Tie))⟩:Net),(⟨zaE,zaF⟩:Mp)⟩:web) K hk⟩
  · exact h.elim
abbrev T94:Tabs:=Tabs.nil
theorem zJh:TabsOk Tryd.prog T94:=TabsOk.nil
abbrev G94:Ctrs:=csm T94 (λ _ _=>[]) (λ _=>false)
def zGz:Ann:=⟨21,[(0,zK [1,2] [1,2]),(1,zK [2,3] [2])],
 [],
 [],
 [],[]⟩
abbrev R94:=(step×Bool)
abbrev e94 (r:R94):List PA:=[.agg [.int .i64 r.1.Use.Tie,.bool r.1.Use.Back,.int .i64 r.1.from_,.int .i64 r.1.to,.int .i64 r.1.length],.one (.bool r.2)]
section
variable {K:List PA->Prop}{t:tie}
def s94 (t:tie):(step×Bool) :=
  ((⟨(⟨t.index,false⟩:Use),t.Tie.From,t.Tie.To,t.Tie.High⟩:step),(t.Tie.High != (1000000000000:Int)))
end
theorem q94 (t:tie) (K:List PA->Prop) (hk:K (e94 (s94 t))):vcFun Tryd.prog G94 zGz 94 [.agg (zve t)] K :=
  za4 (by kernel_rfl) hk
def zCO : List PA → COut
  | [.agg [.int .i64 za9,.int .i64 zbz,.int .i64 zbl,.int .i64 zba,.int .i64 zbL]]=>.tot [.agg [.int .i64 (((s94 (⟨(⟨za9,zbz,zbl,zba⟩:Tie),zbL⟩:tie)).1).Use.Tie),.bool (((s94 (⟨(⟨za9,zbz,zbl,zba⟩:Tie),zbL⟩:tie)).1).Use.Back),.int .i64 (((s94 (⟨(⟨za9,zbz,zbl,zba⟩:Tie),zbL⟩:tie)).1).from_),.int .i64 (((s94 (⟨(⟨za9,zbz,zbl,zba⟩:Tie),zbL⟩:tie)).1).to),.int .i64 (((s94 (⟨(⟨za9,zbz,zbl,zba⟩:Tie),zbL⟩:tie)).1).length)],.one (.bool ((s94 (⟨(⟨za9,zbz,zbl,zba⟩:Tie),zbL⟩:tie)).2))]
  | _=>.no
theorem zGA:zas Tryd.prog 94:=⟨_,rfl,rfl,by kernel_rfl⟩
theorem zLe:Ok Tryd.prog 94 zCO:=zbs zJh zGA λ args K h=>by
  unfold zCO at h
  split at h
  · rename_i za9 zbz zbl zba zbL
    have hk:=h
    exact⟨(λ _ _=>[]),(λ _=>false),zGz,q94 (⟨(⟨za9,zbz,zbl,zba⟩:Tie),zbL⟩:tie) K hk⟩
  · exact h.elim
abbrev T95:Tabs:=Tabs.nil
theorem zJi:TabsOk Tryd.prog T95:=TabsOk.nil
abbrev G95:Ctrs:=csm T95 (λ _ _=>[]) (λ _=>false)
def zGB:Ann:=⟨22,[(0,zK [1,2] [1,2]),(1,zK [2,3] [2])],
 [],
 [],
 [],[]⟩
abbrev R95:=(step×Bool)
abbrev e95 (r:R95):List PA:=[.agg [.int .i64 r.1.Use.Tie,.bool r.1.Use.Back,.int .i64 r.1.from_,.int .i64 r.1.to,.int .i64 r.1.length],.one (.bool r.2)]
section
variable {K:List PA->Prop}{t:tie}
def s95 (t:tie):(step×Bool) :=
  ((⟨(⟨t.index,true⟩:Use),t.Tie.To,t.Tie.From,(w64 (0 - t.Tie.Low))⟩:step),(t.Tie.Low != (-1000000000000:Int)))
end
theorem q95 (t:tie) (K:List PA->Prop) (hk:K (e95 (s95 t))):vcFun Tryd.prog G95 zGB 95 [.agg (zve t)] K :=
  za4 (by kernel_rfl) hk
def zCP : List PA → COut
  | [.agg [.int .i64 za9,.int .i64 zbz,.int .i64 zbl,.int .i64 zba,.int .i64 zbL]]=>.tot [.agg [.int .i64 (((s95 (⟨(⟨za9,zbz,zbl,zba⟩:Tie),zbL⟩:tie)).1).Use.Tie),.bool (((s95 (⟨(⟨za9,zbz,zbl,zba⟩:Tie),zbL⟩:tie)).1).Use.Back),.int .i64 (((s95 (⟨(⟨za9,zbz,zbl,zba⟩:Tie),zbL⟩:tie)).1).from_),.int .i64 (((s95 (⟨(⟨za9,zbz,zbl,zba⟩:Tie),zbL⟩:tie)).1).to),.int .i64 (((s95 (⟨(⟨za9,zbz,zbl,zba⟩:Tie),zbL⟩:tie)).1).length)],.one (.bool ((s95 (⟨(⟨za9,zbz,zbl,zba⟩:Tie),zbL⟩:tie)).2))]
  | _=>.no
theorem zGC:zas Tryd.prog 95:=⟨_,rfl,rfl,by kernel_rfl⟩
theorem zLf:Ok Tryd.prog 95 zCP:=zbs zJi zGC λ args K h=>by
  unfold zCP at h
  split at h
  · rename_i za9 zbz zbl zba zbL
    have hk:=h
    exact⟨(λ _ _=>[]),(λ _=>false),zGB,q95 (⟨(⟨za9,zbz,zbl,zba⟩:Tie),zbL⟩:tie) K hk⟩
  · exact h.elim
abbrev zKB:Tabs:=((Tabs.nil.addF 94 zCO).addF 95 zCP)
theorem zGD:TabsOk Tryd.prog zKB:=((TabsOk.nil.addF zLe).addF zLf)
abbrev zGE:Ctrs:=csm zKB (λ _ _=>[]) (λ _=>false)
def ziL:Ann:=⟨52,[(0,zK [0,1,14,15,16] []),(1,zK [0,1,14,15,16,17] []),(2,zK [0,1,3,4,14,15,16] [4]),(3,zK [0,1,3,4,14,15,16,26] [4]),(4,zK [0,1,5,14,15,16] [5]),(5,zK [0,1,14,15,16,34,35] []),(6,zK [0,1,14,15,16,34,35,36] []),(7,zK [0,1,7,14,15,16,34,35] []),(8,zK [0,1,8,9,14,15,16,34,35] [8]),(9,zK [0,1,14,15,16,34,35,49] []),(10,zK [0,1,14,15,16,34,35] []),(11,zK [0,1,14,15,16] [])],
 [(1,zK [0,1,14,15,16] [])],
 [],
 [(6,3,zK [0,1,14,15,16,34,35] [])],[9]⟩
def zdK (l:Nat) (a:web) (zaI:Int):St:=⟨[(0,.one (.c (.p (.yl l)))),(1,.one (.c (.p (.fp [.fp (zaz a) 0] 0)))),(14,.one (.c (.p (.sl a.Net.Ties.len 4 (λ i=>enc_40 (a.Net.Ties.get i)))))),(15,.one (.c (.p (.int .i64 (a.Net.Ties.len:Int))))),(16,.one (.c (.p (.int .i64 zaI))))],[],[]⟩
def zhd (l:Nat) (ys:List (List PA)) (a:web) (zaI:Int):Prop:=vcY Tryd.prog zGE ziL l (cdF Tryd.f110 [1,0]) (zny 0 zyY) ys false (zdK l a zaI)
theorem zzM (l : Nat) (a : web) (ys : List (List PA)) :
  vcIter Tryd.prog zGE ziL 110 l [.one (.fp [.fp (zaz a) 0] 0)] ys =
  (zhd l ys a (0:Int)):=by kernel_rfl
def zlD (l:Nat) (X0:List (List PA)->Bool->St->Prop) (ys:List (List PA)) (a:web) (zaI:Int):Prop :=
  (zdl (decide (zaI < (a.Net.Ties.len : Int)))
 (((0<=zaI/\zaI < (a.Net.Ties.len:Int))) /\
 (zdl ((zoW (a.out.F [zaI]) 0) != 0)
 (X0 ys false (zdK l a (w64 (zaI+(1:Int)))))
 (zdl ((s94 (⟨(a.Net.Ties.get zaI.toNat), zaI⟩ : tie)).2)
 (l=l/\∃ r1,ys=[.agg [.int .i64 (((s94 (⟨(a.Net.Ties.get zaI.toNat),zaI⟩:tie)).1).Use.Tie),.bool (((s94 (⟨(a.Net.Ties.get zaI.toNat),zaI⟩:tie)).1).Use.Back),.int .i64 (((s94 (⟨(a.Net.Ties.get zaI.toNat),zaI⟩:tie)).1).from_),.int .i64 (((s94 (⟨(a.Net.Ties.get zaI.toNat),zaI⟩:tie)).1).to),.int .i64 (((s94 (⟨(a.Net.Ties.get zaI.toNat),zaI⟩:tie)).1).length)]] :: r1 /\
 (zdl ((s95 (⟨(a.Net.Ties.get zaI.toNat), zaI⟩ : tie)).2)
 (l=l/\∃ r2,r1=[.agg [.int .i64 (((s95 (⟨(a.Net.Ties.get zaI.toNat),zaI⟩:tie)).1).Use.Tie),.bool (((s95 (⟨(a.Net.Ties.get zaI.toNat),zaI⟩:tie)).1).Use.Back),.int .i64 (((s95 (⟨(a.Net.Ties.get zaI.toNat),zaI⟩:tie)).1).from_),.int .i64 (((s95 (⟨(a.Net.Ties.get zaI.toNat),zaI⟩:tie)).1).to),.int .i64 (((s95 (⟨(a.Net.Ties.get zaI.toNat),zaI⟩:tie)).1).length)]] :: r2 /\
 (X0 r2 false (zdK l a (w64 (zaI+(1:Int)))))/\True)
 (X0 r1 false (zdK l a (w64 (zaI+(1:Int))))))/\True)
 (zdl ((s95 (⟨(a.Net.Ties.get zaI.toNat), zaI⟩ : tie)).2)
 (l=l/\∃ r3,ys=[.agg [.int .i64 (((s95 (⟨(a.Net.Ties.get zaI.toNat),zaI⟩:tie)).1).Use.Tie),.bool (((s95 (⟨(a.Net.Ties.get zaI.toNat),zaI⟩:tie)).1).Use.Back),.int .i64 (((s95 (⟨(a.Net.Ties.get zaI.toNat),zaI⟩:tie)).1).from_),.int .i64 (((s95 (⟨(a.Net.Ties.get zaI.toNat),zaI⟩:tie)).1).to),.int .i64 (((s95 (⟨(a.Net.Ties.get zaI.toNat),zaI⟩:tie)).1).length)]] :: r3 /\
 (X0 r3 false (zdK l a (w64 (zaI+(1:Int)))))/\True)
 (X0 ys false (zdK l a (w64 (zaI+(1:Int)))))))))
 (ys=[]))
theorem zol (l : Nat) (X0 : List (List PA) → Bool → St → Prop) (ys : List (List PA)) (a : web) (zaI : Int) :
  vcY Tryd.prog zGE ziL l (cd (cdF Tryd.f110 [1,0]) [0]) (zyW Tryd.prog ziL 1 X0 (zny 0 zyY)) ys false (zdK l a zaI) =
  zlD l X0 ys a zaI:=by kernel_rfl
theorem zti (l : Nat) (ys : List (List PA)) (a : web) (zaI : Int)
  (h:∀ X0:List (List PA)->Bool->St->Prop,(∀ (ys:List (List PA)) (zaI:Int),zlD l X0 ys a zaI->X0 ys false (zdK l a zaI))->X0 ys false (zdK l a zaI)) :
  zhd l ys a zaI:=by
  have e:zhd l ys a zaI=(∀ X:List (List PA)->Bool->St->Prop,(∀ ys q s,vcY Tryd.prog zGE ziL l (cd (cdF Tryd.f110 [1,0]) [0]) (zyW Tryd.prog ziL 1 X (zny 0 zyY)) ys q s->X ys q s)->X ys false (zdK l a zaI)):=by kernel_rfl
  refine za4 e ?_
  intro X hX
  refine h X ?_
  intro ys zaI hs
  refine hX _ _ _ ?_
  have e2:=zol l X ys a zaI
  rw[e2]
  exact hs
attribute [irreducible] zhd
def zeW (a:web) (S0:Int->List step) (zaI:Int):List step :=
  (cond (decide (zaI < (a.Net.Ties.len : Int)))
 (cond ((zoW (a.out.F [zaI]) 0) != 0)
 (S0 (w64 (zaI+(1:Int))))
 (cond ((s94 (⟨(a.Net.Ties.get zaI.toNat), zaI⟩ : tie)).2)
 (((s94 (⟨(a.Net.Ties.get zaI.toNat), zaI⟩ : tie)).1) :: (cond ((s95 (⟨(a.Net.Ties.get zaI.toNat), zaI⟩ : tie)).2)
 (((s95 (⟨(a.Net.Ties.get zaI.toNat),zaI⟩:tie)).1) :: (S0 (w64 (zaI+(1:Int)))))
 (S0 (w64 (zaI+(1:Int))))))
 (cond ((s95 (⟨(a.Net.Ties.get zaI.toNat), zaI⟩ : tie)).2)
 (((s95 (⟨(a.Net.Ties.get zaI.toNat),zaI⟩:tie)).1) :: (S0 (w64 (zaI+(1:Int)))))
 (S0 (w64 (zaI+(1:Int)))))))
 [])
def zeX (a:web) (P0:Int->Bool) (zaI:Int):Bool :=
  (cond (decide (zaI < (a.Net.Ties.len : Int)))
 (decide ((0<=zaI/\zaI < (a.Net.Ties.len:Int))) &&
 (cond ((zoW (a.out.F [zaI]) 0) != 0)
 (P0 (w64 (zaI+(1:Int))))
 (cond ((s94 (⟨(a.Net.Ties.get zaI.toNat), zaI⟩ : tie)).2)
 (cond ((s95 (⟨(a.Net.Ties.get zaI.toNat), zaI⟩ : tie)).2)
 (P0 (w64 (zaI+(1:Int))))
 (P0 (w64 (zaI+(1:Int)))))
 (cond ((s95 (⟨(a.Net.Ties.get zaI.toNat), zaI⟩ : tie)).2)
 (P0 (w64 (zaI+(1:Int))))
 (P0 (w64 (zaI+(1:Int))))))))
 true)
def zd8 (a : web) : Nat → Int → List step
  | 0=>λ _=>[]
  | k+1=>zeW a (zd8 a k)
def zd9 (a : web) : Nat → Int → Bool
  | 0=>λ _=>false
  | k+1=>zeX a (zd9 a k)
def zrN (a:web) (zaI:Int):List step:=zd8 a Fuel zaI
def zrO (a:web) (zaI:Int):Bool:=zd9 a Fuel zaI
theorem zzN (l:Nat) (a:web) (ys:List (List PA)) (zaI:Int) (hs:zrO a zaI=true) (hk:ys=(zrN a zaI).map (λ y=>[.agg (zaB y)])):zhd l ys a zaI:=by
  refine zti l ys a zaI ?_
  intro X0 hstep
  have key:∀ (k:Nat) (ys:List (List PA)) (zaI:Int),zd9 a k zaI=true->ys=(zd8 a k zaI).map (λ y=>[.agg (zaB y)])->X0 ys false (zdK l a zaI):=by
    intro k
    induction k with
    | zero=>intro ys zaI hs;exact absurd hs dqk
    | succ k ih =>
      intro ys zaI hs hk
      refine hstep ys zaI ?_
      have hs:zeX a (zd9 a k) zaI=true:=hs
      have hk:ys=(zeW a (zd8 a k) zaI).map (λ y=>[.agg (zaB y)]):=hk
      unfold zeX at hs
      unfold zeW at hk
      generalize zd8 a k=S0 at hk ih
      generalize zd9 a k=P0 at hs ih
      have hX0:=ih
      exact (zha hs hk
 (λ hs hk => (zaR hs λ hc hs => ⟨hc, (zha hs hk
 (λ hs hk=>(hX0 _ (w64 (zaI+(1:Int))) hs hk))
 (λ hs hk => (zha hs hk
 (λ hs hk => (itY hk rfl (λ _ hk => (zha hs hk
 (λ hs hk=>(itY hk rfl (λ _ hk=>(hX0 _ (w64 (zaI+(1:Int))) hs hk))))
 (λ hs hk=>(hX0 _ (w64 (zaI+(1:Int))) hs hk))))))
 (λ hs hk => (zha hs hk
 (λ hs hk=>(itY hk rfl (λ _ hk=>(hX0 _ (w64 (zaI+(1:Int))) hs hk))))
 (λ hs hk=>(hX0 _ (w64 (zaI+(1:Int))) hs hk)))))))⟩))
 (fun hs hk=>hk))
  exact key _ _ zaI hs hk
def zkn (a:web):List step :=
  (zrN a (0:Int))
def ztt (a:web):Bool :=
  (zrO a (0:Int))
theorem zLg (l:Nat) (a:web) (ys:List (List PA)) (hs:ztt a=true) (hk:ys=(zkn a).map (λ y=>[.agg (zaB y)])):vcIter Tryd.prog zGE ziL 110 l [.one (.fp [.fp (zaz a) 0] 0)] ys:=by
  refine za4 (zzM l a ys) ?_
  unfold ztt at hs
  unfold zkn at hk
  exact (zzN l a _ (0:Int) hs hk)
def zom : List PA → Option (Prop × List (List PA))
  | [.one (.fp [.fp [.int .i64 a_Net_Nodes,.sl a_Net_Ties_n a_Net_Ties_s a_Net_Ties_g,.fm a_out_q a_out_n a_out_F] 0] 0)]=>some (IsE enc_40 4 a_Net_Ties_s a_Net_Ties_g/\a_out_q=(false,1,false,[none])/\ztt (⟨(⟨a_Net_Nodes,(⟨a_Net_Ties_n,zam a_Net_Ties_g⟩:(Sl Tie))⟩:Net),(⟨a_out_n,a_out_F⟩:Mp)⟩:web)=true,(zkn (⟨(⟨a_Net_Nodes,(⟨a_Net_Ties_n,zam a_Net_Ties_g⟩:(Sl Tie))⟩:Net),(⟨a_out_n,a_out_F⟩:Mp)⟩:web)).map λ y=>[.agg (zaB y)])
  | _=>none
theorem zCQ:zas Tryd.prog 110:=⟨_,rfl,rfl,by kernel_rfl⟩
theorem ztj:zAI Tryd.prog 110 zom:=zGj zGD zCQ λ l caps safe ys h hs=>by
  unfold zom at h
  split at h
  · rename_i a_Net_Nodes a_Net_Ties_n a_Net_Ties_s a_Net_Ties_g a_out_q a_out_n a_out_F
    cases h
    obtain⟨⟨rfl,a_Net_Ties_f,rfl⟩,rfl,hs⟩:=hs
    try rw[zan a_Net_Ties_f] at hs
    try rw[zan a_Net_Ties_f]
    exact⟨λ _ _=>[],λ _=>false,ziL,zLg l (⟨(⟨a_Net_Nodes,(⟨a_Net_Ties_n,a_Net_Ties_f⟩:(Sl Tie))⟩:Net),(⟨a_out_n,a_out_F⟩:Mp)⟩:web) _ hs rfl⟩
  · cases h
abbrev T88:Tabs:=((Tabs.nil.addF 93 zok).addI 110 zom)
theorem zJj:TabsOk Tryd.prog T88:=((TabsOk.nil.addF zFD).addI ztj)
abbrev G88:Ctrs:=csm T88 (λ _ _=>[]) (λ _=>false)
def zvn:Ann:=⟨37,[(0,zK [0] []),(1,zK [0,3] [3]),(2,zK [0,3,11,12] [3]),(3,zK [0,3,11,12,13] [3]),(4,zK [0,3,4,11,12] [3,4]),(5,zK [0,3,4,11,12,15] [3,4]),(6,zK [0,3,4,5,11,12,15] [3,4,5]),(7,zK [0,3,4,5,6,11,12,15] [3,4,5]),(8,zK [0,3,4,5,6,11,12,15,29] [3,4,5]),(9,zK [0,3,4,11,12,15] [3,4]),(10,zK [0,3,4,11,12,15] [3,4]),(11,zK [0,3,11,12,35] [3]),(12,zK [2] []),(13,zK [0,3,11,12] [3]),(14,zK [2] [])],
 [(3,zK [0,3,11,12] [3]),(6,zK [0,3,4,11,12,15] [3,4])],
 [],
 [],[]⟩
abbrev R88:=Bool
abbrev e88 (r:R88):List PA:=[.one (.bool r)]
@[irreducible] def z88:=ptF Tryd.prog G88 zvn Tryd.f88
@[irreducible] def x88:=exF Tryd.prog G88 zvn Tryd.f88
@[irreducible] def y88:=rnF Tryd.prog G88 zvn Tryd.f88
def zA1 (w:web) (zbU:Int) (dt0:Tab):St:=⟨[(0,zP (.fp (zaz w) 0)),(3,zp 3 0),(11,zI w.Net.Nodes),(12,zI zbU)],[(3,.box 157 (zm (zvf dt0)))],[]⟩
abbrev zCR (K:List PA->Prop) (w:web) (X:St->Prop) (P:Int->Tab->Bool) (S:Int->Tab->Bool):Prop:=∀ ⦃zbU:Int⦄ ⦃dt0:Tab⦄,P zbU dt0=true->K (e88 (S zbU dt0))->X (zA1 w zbU dt0)
def zvo (w:web) (zbV:Int) (za7:Bool) (dt1:Tab):St:=⟨[(0,zP (.fp (zaz w) 0)),(3,zp 3 0),(4,zp 4 0),(11,zI w.Net.Nodes),(12,zI zbV),(15,zP (.fn 110 [] [.fp [.fp (zaz w) 0] 0]))],[(3,.box 157 (zm (zvf dt1))),(4,.box 4 [.p (.bool za7)])],[]⟩
abbrev zGF (K:List PA->Prop) (w:web) (X:St->Prop) (P:Int->Bool->Tab->Bool) (S:Int->Bool->Tab->Bool):Prop:=∀ ⦃zbV:Int⦄ ⦃za7:Bool⦄ ⦃dt1:Tab⦄,P zbV za7 dt1=true->K (e88 (S zbV za7 dt1))->X (zvo w zbV za7 dt1)
section
variable {K:List PA->Prop}{w:web}{zbU:Int}{dt0:Tab}{X0:St->Prop}{P0:Int->Tab->Bool}{S0:Int->Tab->Bool}{zbV:Int}{za7:Bool}{dt1:Tab}
def zmB (S0:Int->Tab->Bool) (w:web) (zbV:Int) (za7:Bool) (dt1:Tab):Bool :=
  (cond (!za7)
 false
 (S0 (w64 (zbV+(1:Int))) dt1))
def zmC (P0:Int->Tab->Bool) (w:web) (zbV:Int) (za7:Bool) (dt1:Tab):Bool :=
  (cond (!za7)
 true
 (P0 (w64 (zbV+(1:Int))) dt1))
def zmD (S0:Int->Tab->Bool) (w:web) (y1:step) (S1:Int->Bool->Tab->Bool) (zbV:Int) (za7:Bool) (dt1:Tab):Bool :=
  (cond (decide ((w64 ((tg 40 dt1 (0 + y1.from_.toNat * 1 + 0)) + y1.length)) < (tg 40 dt1 (0 + y1.to.toNat * 1 + 0))))
 (S1 zbV true (ts 40 dt1 (0+y1.to.toNat * 1+0) [(w64 ((tg 40 dt1 (0+y1.from_.toNat * 1+0))+y1.length))]))
 (S1 zbV za7 dt1))
def zmE (P0:Int->Tab->Bool) (w:web) (y1:step) (P1:Int->Bool->Tab->Bool) (zbV:Int) (za7:Bool) (dt1:Tab):Bool :=
  (decide ((0<=y1.from_/\y1.from_ < (40:Int))) &&
 (decide ((0<=y1.to/\y1.to < (40:Int))) &&
 (cond (decide ((w64 ((tg 40 dt1 (0 + y1.from_.toNat * 1 + 0)) + y1.length)) < (tg 40 dt1 (0 + y1.to.toNat * 1 + 0))))
 (decide ((0<=y1.to/\y1.to < (40:Int))) &&
 (P1 zbV true (ts 40 dt1 (0+y1.to.toNat * 1+0) [(w64 ((tg 40 dt1 (0+y1.from_.toNat * 1+0))+y1.length))])))
 (P1 zbV za7 dt1))))
def zfq (S0:Int->Tab->Bool) (w:web):List step->Int->Bool->Tab->Bool:=lpR (zmB S0 w) (zmD S0 w)
def zfr (P0:Int->Tab->Bool) (w:web):List step->Int->Bool->Tab->Bool:=lpR (zmC P0 w) (zmE P0 w)
def zpE (S0:Int->Tab->Bool) (w:web) (zbV:Int) (za7:Bool) (dt1:Tab):Bool:=zfq S0 w (zkn w) zbV za7 dt1
def zpF (P0:Int->Tab->Bool) (w:web) (zbV:Int) (za7:Bool) (dt1:Tab):Bool:=decide ((ztt w=true)) && zfr P0 w (zkn w) zbV za7 dt1
theorem zCS (hX0:zCR K w X0 P0 S0) (hs:zpF P0 w zbV za7 dt1=true) (hk:K (e88 (zpE S0 w zbV za7 dt1))):z88 K [1,1,0,1,0,0,1,1,0,0,1,0,1,0] [X0] (zvo w zbV za7 dt1) :=
  zaR hs λ hc hs=>zr (enc:=(λ y:step=>[.agg (zaB y)])) (ys:=zkn w) (g:=(zvo w zbV za7 dt1)) (x88 K [1,1,0,1,0,0,1,1,0,0,1,0,1,0] [X0]) (y88 K [1,1,0,1,0,0,1,1,0,0,1,0,1,0] [X0]) (by kernel_rfl) (And.intro (zE enc_40 4 w.Net.Ties.get) (And.intro (rfl:((false,1,false,[none]):MQ)=(false,1,false,[none])) hc)) λ X1 hE hR =>
  (show ∀ l : List step, zGF K w (X1 (l.map (λ y : step => [.agg (zaB y)]))) (zfr P0 w l) (zfq S0 w l) from zri (X := X1) (enc := (λ y : step => [.agg (zaB y)])) _ _ (zmE P0 w) (zmD S0 w) (λ Z P S => zGF K w Z P S)
 (by intro zbV za7 dt1 hs hk;exact hE _ (za4 (by kernel_rfl) (zc hs hk (λ hs hk=>hk) (λ hs hk=>(hX0 hs hk)))))
 (by intro y1 rest P1 S1 hX1 zbV za7 dt1 hs hk;exact hR _ rest _ (za4 (by kernel_rfl) (zaR hs λ hc hs=>And.intro hc (zaR hs λ hc hs=>And.intro hc (zc hs hk (λ hs hk=>(zaR hs λ hc hs=>And.intro hc (hX1 hs hk))) (λ hs hk=>(hX1 hs hk)))))))) _ hs hk
def zhG (w:web) (S0:Int->Tab->Bool) (zbU:Int) (dt0:Tab):Bool :=
  (cond (decide (zbU < w.Net.Nodes))
 (zpE S0 w zbU false dt0)
 true)
def zhH (w:web) (P0:Int->Tab->Bool) (zbU:Int) (dt0:Tab):Bool :=
  (cond (decide (zbU < w.Net.Nodes))
 (zpF P0 w zbU false dt0)
 true)
def zhI (w:web):Nat->Int->Tab->Bool:=lpO (λ _ _=>default) (zhG w)
def zhJ (w:web):Nat->Int->Tab->Bool:=lpO (λ _ _=>false) (zhH w)
def zvp (w:web) (zbU:Int) (dt0:Tab):Bool:=zhI w Fuel zbU dt0
def zvq (w:web) (zbU:Int) (dt0:Tab):Bool:=zhJ w Fuel zbU dt0
theorem zCT (hs:zvq w zbU dt0=true) (hk:K (e88 (zvp w zbU dt0))):z88 K [1,1,0,1,0] [] (zA1 w zbU dt0) :=
  zl (λ X=>z88 K [1,1,0,1,0,0] [X]) (by kernel_rfl) λ X0 hX =>
  (show ∀ k, zCR K w X0 (zhJ w k) (zhI w k) from zfc _ _ (zhH w) (zhG w) (zCR K w X0)
 (by intro _ _ hs;exact absurd hs dqk)
 (by intro P0 S0 hX0 zbU dt0 hs hk;exact hX _ (za4 (by kernel_rfl) (zc hs hk (λ hs hk=>(And.intro (And.intro (zE enc_40 4 w.Net.Ties.get) (rfl:((false,1,false,[none]):MQ)=(false,1,false,[none]))) (zCS hX0 hs hk))) (λ hs hk=>hk))))) _ hs hk
def s88 (w:web):Bool :=
  (zvp w (0:Int) (λ _=>(0:Int)))
def p88 (w:web):Bool :=
  (zvq w (0:Int) (λ _=>(0:Int)))
end
theorem q88 (w:web) (K:List PA->Prop) (hs:p88 w=true) (hk:K (e88 (s88 w))):vcFun Tryd.prog G88 zvn 88 [.one (.fp (zaz w) 0)] K :=
  za4 (by kernel_rfl) (zCT hs hk)
def zvr : List PA → COut
  | [.one (.fp [.int .i64 zaj,.sl zae zay zaf,.fm za6 zaE zaF] 0)]=>.det (IsE enc_40 4 zay zaf/\za6=(false,1,false,[none])/\p88 (⟨(⟨zaj,(⟨zae,zam zaf⟩:(Sl Tie))⟩:Net),(⟨zaE,zaF⟩:Mp)⟩:web)=true) [.one (.bool (s88 (⟨(⟨zaj,(⟨zae,zam zaf⟩:(Sl Tie))⟩:Net),(⟨zaE,zaF⟩:Mp)⟩:web)))]
  | _=>.no
theorem zGG:zas Tryd.prog 88:=⟨_,rfl,rfl,by kernel_rfl⟩
theorem zJk:Ok Tryd.prog 88 zvr:=zbs zJj zGG λ args K h=>by
  unfold zvr at h
  split at h
  · rename_i zaj zae zay zaf za6 zaE zaF
    obtain⟨⟨⟨rfl,zaq,rfl⟩,rfl,hs⟩,hk⟩:=h
    try rw[zan zaq] at hs
    try rw[zan zaq] at hk
    exact⟨(λ _ _=>[]),(λ _=>false),zvn,q88 (⟨(⟨zaj,(⟨zae,zaq⟩:(Sl Tie))⟩:Net),(⟨zaE,zaF⟩:Mp)⟩:web) K hs hk⟩
  · exact h.elim
abbrev zKC:Tabs:=Tabs.nil
theorem zGH:TabsOk Tryd.prog zKC:=TabsOk.nil
abbrev zLh:Ctrs:=csm zKC (λ _ _=>[]) (λ _=>false)
def zA2:Ann:=⟨24,[(0,zK [2,3] [2,3]),(1,zK [4] [])],
 [],
 [],
 [],[]⟩
abbrev zLi:=Bool
abbrev zLj (r:zLi):List PA:=[.one (.bool r)]
section
variable {K:List PA->Prop}{a:far}{b:far}
def zzO (a:far) (b:far):Bool :=
  (cond (decide (a.length < b.length))
 true
 (cond (a.length == b.length)
 (decide (a.uses < b.uses))
 false))
end
theorem zLk (a:far) (b:far) (K:List PA->Prop) (hk:K (zLj (zzO a b))):vcFun Tryd.prog zLh zA2 105 [.agg (zb4 a),.agg (zb4 b)] K :=
  za4 (by kernel_rfl) (zt hk (λ hk=>hk) (λ hk=>(zt hk (λ hk=>hk) (λ hk=>hk))))
def zvs : List PA → COut
  | [.agg [.int .i64 zb7,.int .i64 zpG],.agg [.int .i64 zbM,.int .i64 zeY]]=>.tot [.one (.bool (zzO (⟨zb7,zpG⟩:far) (⟨zbM,zeY⟩:far)))]
  | _=>.no
theorem zCU:zas Tryd.prog 105:=⟨_,rfl,rfl,by kernel_rfl⟩
theorem zJl:Ok Tryd.prog 105 zvs:=zbs zGH zCU λ args K h=>by
  unfold zvs at h
  split at h
  · rename_i zb7 zpG zbM zeY
    have hk:=h
    exact⟨(λ _ _=>[]),(λ _=>false),zA2,zLk (⟨zb7,zpG⟩:far) (⟨zbM,zeY⟩:far) K hk⟩
  · exact h.elim
abbrev zKD:Tabs:=(Tabs.nil.addF 105 zvs)
theorem zGI:TabsOk Tryd.prog zKD:=(TabsOk.nil.addF zJl)
abbrev zKE:Ctrs:=csm zKD (λ _ _=>[]) (λ _=>false)
def zvt:Ann:=⟨22,[(0,zK [0,2,4,6] [4,6]),(1,zK [0,4,6,9,10,11] [4,6]),(2,zK [0,4,6,9,10,11,12] [4,6]),(3,zK [0,4,6,8,9,10,11] [4,6,8]),(4,zK [0,4,6,8,9,10,11,18] [4,6,8]),(5,zK [0,4,6,9,10,11] [4,6]),(6,zK [0,4,6,9,10,11] [4,6]),(7,zK [6] [6])],
 [(2,zK [0,4,6,9,10,11] [4,6])],
 [(5,zK [0,4,6,8,9,10,11,18] [4,6,8])],
 [],[]⟩
abbrev zLl:=far
abbrev zIQ (r:zLl):List PA:=[.agg [.int .i64 r.length,.int .i64 r.uses]]
@[irreducible] def z104:=ptF Tryd.prog zKE zvt Tryd.f104
def zvu (others:(Sl far)) (zaQ:Int) (zbd:Int) (zbe:Int):St:=⟨[(0,zP (.fn 105 [] [])),(4,zp 4 0),(6,zp 6 0),(9,zS zb4 2 others),(10,zI (others.len:Int)),(11,zI zaQ)],[(4,.box 114 (zm (zb4 (⟨zbd,zbe⟩:far)))),(6,.box 114 (zm (zb4 (⟨(0:Int),(0:Int)⟩:far))))],[]⟩
abbrev zvv (K:List PA->Prop) (others:(Sl far)) (X:St->Prop) (P:Int->Int->Int->Bool) (S:Int->Int->Int->far):Prop:=∀ ⦃zaQ:Int⦄ ⦃zbd:Int⦄ ⦃zbe:Int⦄,P zaQ zbd zbe=true->K (zIQ (S zaQ zbd zbe))->X (zvu others zaQ zbd zbe)
section
variable {K:List PA->Prop}{first:far}{others:(Sl far)}{zaQ:Int}{zbd:Int}{zbe:Int}{X0:St->Prop}{P0:Int->Int->Int->Bool}{S0:Int->Int->Int->far}{zcu:Int}{zcQ:Bool}{zdL:Int}{zdM:Int}{zpH:Int}{zpI:Int}
def zmF (S0:Int->Int->Int->far) (others:(Sl far)) (zcu:Int) (zcQ:Bool) (zdL:Int) (zdM:Int) (zpH:Int) (zpI:Int):far :=
  (cond zcQ
 (S0 (w64 (zcu+(1:Int))) zpH zpI)
 (S0 (w64 (zcu+(1:Int))) zdL zdM))
def zmG (P0:Int->Int->Int->Bool) (others:(Sl far)) (zcu:Int) (zcQ:Bool) (zdL:Int) (zdM:Int) (zpH:Int) (zpI:Int):Bool :=
  (cond zcQ
 (P0 (w64 (zcu+(1:Int))) zpH zpI)
 (P0 (w64 (zcu+(1:Int))) zdL zdM))
theorem zzP (hX0:zvv K others X0 P0 S0) (hs:zmG P0 others zcu zcQ zdL zdM zpH zpI=true) (hk:K (zIQ (zmF S0 others zcu zcQ zdL zdM zpH zpI))):z104 K [1,0,1,0,0,1,1,0,0,1,1] [X0] ⟨[(0,zP (.fn 105 [] [])),(4,zp 4 0),(6,zp 6 0),(8,zp 8 0),(9,zS zb4 2 others),(10,zI (others.len:Int)),(11,zI zcu),(18,zB zcQ)],[(4,.box 114 (zm (zb4 (⟨zdL,zdM⟩:far)))),(6,.box 114 (zm (zb4 (⟨(0:Int),(0:Int)⟩:far)))),(8,.box 114 (zm (zb4 (⟨zpH,zpI⟩:far))))],[]⟩:=za4 (by kernel_rfl) (zc hs hk (λ hs hk=>(hX0 hs hk)) (λ hs hk=>(hX0 hs hk)))
def zfV (others:(Sl far)) (S0:Int->Int->Int->far) (zaQ:Int) (zbd:Int) (zbe:Int):far :=
  (cond (decide (zaQ < (others.len : Int)))
 (zmF S0 others zaQ (zzO (others.get zaQ.toNat) (⟨zbd,zbe⟩:far)) zbd zbe ((others.get zaQ.toNat).length) ((others.get zaQ.toNat).uses))
 (⟨zbd,zbe⟩:far))
def zfW (others:(Sl far)) (P0:Int->Int->Int->Bool) (zaQ:Int) (zbd:Int) (zbe:Int):Bool :=
  (cond (decide (zaQ < (others.len : Int)))
 (decide ((0<=zaQ/\zaQ < (others.len:Int))) &&
 (zmG P0 others zaQ (zzO (others.get zaQ.toNat) (⟨zbd,zbe⟩:far)) zbd zbe ((others.get zaQ.toNat).length) ((others.get zaQ.toNat).uses)))
 true)
def zfX (others:(Sl far)):Nat->Int->Int->Int->far:=lpO (λ _ _ _=>default) (zfV others)
def zfY (others:(Sl far)):Nat->Int->Int->Int->Bool:=lpO (λ _ _ _=>false) (zfW others)
def zmH (others:(Sl far)) (zaQ:Int) (zbd:Int) (zbe:Int):far:=zfX others Fuel zaQ zbd zbe
def zmI (others:(Sl far)) (zaQ:Int) (zbd:Int) (zbe:Int):Bool:=zfY others Fuel zaQ zbd zbe
theorem zzQ (hs:zmI others zaQ zbd zbe=true) (hk:K (zIQ (zmH others zaQ zbd zbe))):z104 K [1,0,1,0] [] (zvu others zaQ zbd zbe) :=
  zl (λ X=>z104 K [1,0,1,0,0] [X]) (by kernel_rfl) λ X0 hX =>
  (show ∀ k, zvv K others X0 (zfY others k) (zfX others k) from zfc _ _ (zfW others) (zfV others) (zvv K others X0)
 (by intro _ _ _ hs;exact absurd hs dqk)
 (by intro P0 S0 hX0 zaQ zbd zbe hs hk;exact hX _ (za4 (by kernel_rfl) (zc hs hk (λ hs hk=>(zaR hs λ hc hs=>And.intro hc (zzP hX0 hs hk))) (λ hs hk=>hk))))) _ hs hk
def zcw (first:far) (others:(Sl far)):far :=
  (zmH others (0:Int) first.length first.uses)
def zyJ (first:far) (others:(Sl far)):Bool :=
  (zmI others (0:Int) first.length first.uses)
end
theorem zLm (first:far) (others:(Sl far)) (K:List PA->Prop) (hs:zyJ first others=true) (hk:K (zIQ (zcw first others))):vcFun Tryd.prog zKE zvt 104 [.one (.fn 105 [] []),.agg (zb4 first),.one (.sl others.len 2 (λ i=>zb4 (others.get i)))] K :=
  za4 (by kernel_rfl) (zzQ hs hk)
def zon : List PA → COut
  | [.one (.fn 105 [] []),.agg [.int .i64 zbM,.int .i64 zeY],.one (.sl zGJ zKF zGK)]=>.det (IsE zb4 2 zKF zGK/\zyJ (⟨zbM,zeY⟩:far) (⟨zGJ,zi9 zGK⟩:(Sl far))=true) [.agg [.int .i64 ((zcw (⟨zbM,zeY⟩:far) (⟨zGJ,zi9 zGK⟩:(Sl far))).length),.int .i64 ((zcw (⟨zbM,zeY⟩:far) (⟨zGJ,zi9 zGK⟩:(Sl far))).uses)]]
  | _=>.no
theorem zCV:zas Tryd.prog 104:=⟨_,rfl,rfl,by kernel_rfl⟩
theorem zCW:Ok Tryd.prog 104 zon:=zbs zGI zCV λ args K h=>by
  unfold zon at h
  split at h
  · rename_i zbM zeY zGJ zKF zGK
    obtain⟨⟨⟨rfl,zJm,rfl⟩,hs⟩,hk⟩:=h
    try rw[ziK zJm] at hs
    try rw[ziK zJm] at hk
    exact⟨(λ _ _=>[]),(λ _=>false),zvt,zLm (⟨zbM,zeY⟩:far) (⟨zGJ,zJm⟩:(Sl far)) K hs hk⟩
  · exact h.elim
abbrev zKG:Tabs:=(((Tabs.nil.addF 93 zok).addF 104 zon).addI 110 zom)
theorem zGL:TabsOk Tryd.prog zKG:=(((TabsOk.nil.addF zFD).addF zCW).addI ztj)
abbrev zIR:Ctrs:=csm zKG (λ _ _=>[]) (λ _=>false)
def zoo:Ann:=⟨91,[(0,zK [0,2,4] [4]),(1,zK [0,2,4,7] [4,7,15]),(2,zK [0,2,4,7,17,18] [4,7,15]),(3,zK [0,2,4,7,17,18,19] [4,7,15]),(4,zK [0,2,4,7,8,17,18] [4,7,15]),(5,zK [0,2,4,7,8,17,18,21] [4,7,15]),(6,zK [0,2,4,7,8,17,18,21,22] [4,7,15]),(7,zK [0,2,4,7,8,9,17,18,21] [4,7,15]),(8,zK [0,2,4,7,8,17,18,21] [4,7,15]),(9,zK [0,2,4,7,8,17,18,21] [4,7,15]),(10,zK [0,2,4,7,17,18] [4,7,15]),(11,zK [0,2,4,7] [4,7,15]),(12,zK [0,2,4,7,10] [4,7,10,15]),(13,zK [0,2,4,7,10,39] [4,7,10,15]),(14,zK [0,2,4,7,10] [4,7,10,15]),(15,zK [0,2,4,7,10,43] [4,7,10,15]),(16,zK [0,2,4,7,10,11,43] [4,7,10,11,15]),(17,zK [0,2,4,7,10,11,12,43] [4,7,10,11,12,15]),(18,zK [0,2,4,7,10,11,12,43,67] [4,7,10,11,12,15]),(19,zK [0,2,4,7,10,43] [4,7,10,15]),(20,zK [0,2,4,7,89] [4,7,15]),(21,zK [0,2,4,7,10] [4,7,10,15]),(22,zK [6] [15])],
 [(3,zK [0,2,4,7,17,18] [4,7,15]),(6,zK [0,2,4,7,8,17,18,21] [4,7,15]),(13,zK [0,2,4,7,10] [4,7,10,15]),(16,zK [0,2,4,7,10,43] [4,7,10,15])],
 [(11,zK [0,2,4,7] [4,7,15])],
 [],[]⟩
abbrev zLn:=(Sl Tab)
abbrev zyK (r:zLn):List PA:=[.one (.sl r.len 80 (λ i=>zak (r.get i)))]
@[irreducible] def z106:=ptF Tryd.prog zIR zoo Tryd.f106
@[irreducible] def x106:=exF Tryd.prog zIR zoo Tryd.f106
@[irreducible] def y106:=rnF Tryd.prog zIR zoo Tryd.f106
def zvw (w:web) (node:Int) (uses:Int) (zdV:Int) (zdW:(Sl Tab)) (zfs:Nat->List PV):St:=⟨[(0,zP (.fp (zaz w) 0)),(2,zI uses),(4,zp 4 0),(7,zp 7 0),(17,zI ((w64 (uses+(1:Int))).toNat:Int)),(18,zI zdV)],[(4,.box 3 [zi node]),(7,.box 159 [.vec 15]),(15,.vec 116 80 640 zdW.len zfs)],[]⟩
abbrev zvx (K:List PA->Prop) (w:web) (node:Int) (uses:Int) (X:St->Prop) (P:Int->(Sl Tab)->Bool) (S:Int->(Sl Tab)->(Sl Tab)):Prop:=∀ ⦃zdV:Int⦄ ⦃zdW:(Sl Tab)⦄ ⦃zfs:Nat->List PV⦄,P zdV zdW=true->K (zyK (S zdV zdW))->zfs=zg zak zdW->X (zvw w node uses zdV zdW zfs)
def zvy (w:web) (node:Int) (uses:Int) (iv1:Int) (zcQ:Int) (zdf:Int) (zcD:(Sl Tab)) (zft:Nat->List PV):St:=⟨[(0,zP (.fp (zaz w) 0)),(2,zI uses),(4,zp 4 0),(7,zp 7 0),(8,zI iv1),(17,zI ((w64 (uses+(1:Int))).toNat:Int)),(18,zI zcQ),(21,zI zdf)],[(4,.box 3 [zi node]),(7,.box 159 [.vec 15]),(15,.vec 116 80 640 zcD.len zft)],[]⟩
abbrev zA3 (K:List PA->Prop) (w:web) (node:Int) (uses:Int) (X:St->Prop) (P:Int->Int->Int->(Sl Tab)->Bool) (S:Int->Int->Int->(Sl Tab)->(Sl Tab)):Prop:=∀ ⦃iv1:Int⦄ ⦃zcQ:Int⦄ ⦃zdf:Int⦄ ⦃zcD:(Sl Tab)⦄ ⦃zft:Nat->List PV⦄,P iv1 zcQ zdf zcD=true->K (zyK (S iv1 zcQ zdf zcD))->zft=zg zak zcD->X (zvy w node uses iv1 zcQ zdf zcD zft)
def zvz (w:web) (node:Int) (uses:Int) (kv3:Int) (zeh:(Sl Tab)) (zfu:Nat->List PV):St:=⟨[(0,zP (.fp (zaz w) 0)),(2,zI uses),(4,zp 4 0),(7,zp 7 0),(10,zp 10 0)],[(4,.box 3 [zi node]),(7,.box 159 [.vec 15]),(10,.box 3 [zi kv3]),(15,.vec 116 80 640 zeh.len zfu)],[]⟩
abbrev zvA (K:List PA->Prop) (w:web) (node:Int) (uses:Int) (X:St->Prop) (P:Int->(Sl Tab)->Bool) (S:Int->(Sl Tab)->(Sl Tab)):Prop:=∀ ⦃kv3:Int⦄ ⦃zeh:(Sl Tab)⦄ ⦃zfu:Nat->List PV⦄,P kv3 zeh=true->K (zyK (S kv3 zeh))->zfu=zg zak zeh->X (zvz w node uses kv3 zeh zfu)
def zpJ (w:web) (node:Int) (uses:Int) (kv4:Int) (za3:(Sl Tab)) (zei:Nat->List PV):St:=⟨[(0,zP (.fp (zaz w) 0)),(2,zI uses),(4,zp 4 0),(7,zp 7 0),(10,zp 10 0),(43,zP (.fn 110 [] [.fp [.fp (zaz w) 0] 0]))],[(4,.box 3 [zi node]),(7,.box 159 [.vec 15]),(10,.box 3 [zi kv4]),(15,.vec 116 80 640 za3.len zei)],[]⟩
abbrev zA4 (K:List PA->Prop) (w:web) (node:Int) (uses:Int) (X:St->Prop) (P:Int->(Sl Tab)->Bool) (S:Int->(Sl Tab)->(Sl Tab)):Prop:=∀ ⦃kv4:Int⦄ ⦃za3:(Sl Tab)⦄ ⦃zei:Nat->List PV⦄,P kv4 za3=true->K (zyK (S kv4 za3))->zei=zg zak za3->X (zpJ w node uses kv4 za3 zei)
section
variable {K:List PA->Prop}{w:web}{node:Int}{uses:Int}{zdV:Int}{zdW:(Sl Tab)}{zfs:Nat->List PV}{X0:St->Prop}{P0:Int->(Sl Tab)->Bool}{S0:Int->(Sl Tab)->(Sl Tab)}{iv1:Int}{zcQ:Int}{zdf:Int}{zcD:(Sl Tab)}{zft:Nat->List PV}{X1:St->Prop}{P1:Int->Int->Int->(Sl Tab)->Bool}{S1:Int->Int->Int->(Sl Tab)->(Sl Tab)}{zfv:(Sl Tab)}{zvB:Nat->List PV}{kv3:Int}{zeh:(Sl Tab)}{zfu:Nat->List PV}{X3:St->Prop}{P3:Int->(Sl Tab)->Bool}{S3:Int->(Sl Tab)->(Sl Tab)}{kv4:Int}{za3:(Sl Tab)}{zei:Nat->List PV}
def zzR (S3:Int->(Sl Tab)->(Sl Tab)) (w:web) (node:Int) (uses:Int) (kv4:Int) (za3:(Sl Tab)):(Sl Tab) :=
  (S3 (w64 (kv4+(1:Int))) za3)
def zzS (P3:Int->(Sl Tab)->Bool) (w:web) (node:Int) (uses:Int) (kv4:Int) (za3:(Sl Tab)):Bool :=
  (P3 (w64 (kv4+(1:Int))) za3)
def zja (S3:Int->(Sl Tab)->(Sl Tab)) (w:web) (node:Int) (uses:Int) (y4:step) (S4:Int->(Sl Tab)->(Sl Tab)) (kv4:Int) (za3:(Sl Tab)):(Sl Tab) :=
  (cond (decide (y4.from_ >= node))
 (cond (decide (y4.to >= node))
 (cond (!(nvr (tg 80 (za3.get ((w64 (kv4 - (1:Int))).toNat)) (0 + y4.to.toNat * 2 + 0)) (tg 80 (za3.get ((w64 (kv4 - (1:Int))).toNat)) (0 + y4.to.toNat * 2 + 0 + 1))))
 (S4 kv4 (⟨za3.len,(setT kv4.toNat (ts 80 (za3.get kv4.toNat) (0+y4.from_.toNat * 2+0) [(zcw (⟨(tL (za3.get kv4.toNat) y4.from_),(tU (za3.get kv4.toNat) y4.from_)⟩:far) (⟨1,λ _=>(⟨(w64 ((tg 80 (za3.get ((w64 (kv4 - (1:Int))).toNat)) (0+y4.to.toNat * 2+0))+y4.length)),(0:Int)⟩:far)⟩:(Sl far))).length,(zcw (⟨(tL (za3.get kv4.toNat) y4.from_),(tU (za3.get kv4.toNat) y4.from_)⟩:far) (⟨1,λ _=>(⟨(w64 ((tg 80 (za3.get ((w64 (kv4 - (1:Int))).toNat)) (0+y4.to.toNat * 2+0))+y4.length)),(0:Int)⟩:far)⟩:(Sl far))).uses]) za3.get)⟩:Sl Tab))
 (S4 kv4 za3))
 (S4 kv4 za3))
 (S4 kv4 za3))
def zjb (P3:Int->(Sl Tab)->Bool) (w:web) (node:Int) (uses:Int) (y4:step) (P4:Int->(Sl Tab)->Bool) (kv4:Int) (za3:(Sl Tab)):Bool :=
  (decide ((0<=(w64 (kv4 - (1:Int)))/\(w64 (kv4 - (1:Int))) < (za3.len:Int))) &&
 (decide ((0<=y4.to/\y4.to < (40:Int))) &&
 (decide (((w64 (kv4 - (1:Int))).toNat < za3.len)) &&
 (cond (decide (y4.from_ >= node))
 (cond (decide (y4.to >= node))
 (cond (!(nvr (tg 80 (za3.get ((w64 (kv4 - (1:Int))).toNat)) (0 + y4.to.toNat * 2 + 0)) (tg 80 (za3.get ((w64 (kv4 - (1:Int))).toNat)) (0 + y4.to.toNat * 2 + 0 + 1))))
 (decide ((0<=kv4/\kv4 < (za3.len:Int))) &&
 (decide ((0<=y4.from_/\y4.from_ < (40:Int))) &&
 (decide ((kv4.toNat < za3.len)) &&
 (decide ((zyJ (⟨(tL (za3.get kv4.toNat) y4.from_),(tU (za3.get kv4.toNat) y4.from_)⟩:far) (⟨1,λ _=>(⟨(w64 ((tg 80 (za3.get ((w64 (kv4 - (1:Int))).toNat)) (0+y4.to.toNat * 2+0))+y4.length)),(0:Int)⟩:far)⟩:(Sl far))=true)) &&
 (decide ((0<=kv4/\kv4 < (za3.len:Int))) &&
 (decide ((0<=y4.from_/\y4.from_ < (40:Int))) &&
 (decide ((kv4.toNat < za3.len)) &&
 (P4 kv4 (⟨za3.len,(setT kv4.toNat (ts 80 (za3.get kv4.toNat) (0+y4.from_.toNat * 2+0) [(zcw (⟨(tL (za3.get kv4.toNat) y4.from_),(tU (za3.get kv4.toNat) y4.from_)⟩:far) (⟨1,λ _=>(⟨(w64 ((tg 80 (za3.get ((w64 (kv4 - (1:Int))).toNat)) (0+y4.to.toNat * 2+0))+y4.length)),(0:Int)⟩:far)⟩:(Sl far))).length,(zcw (⟨(tL (za3.get kv4.toNat) y4.from_),(tU (za3.get kv4.toNat) y4.from_)⟩:far) (⟨1,λ _=>(⟨(w64 ((tg 80 (za3.get ((w64 (kv4 - (1:Int))).toNat)) (0+y4.to.toNat * 2+0))+y4.length)),(0:Int)⟩:far)⟩:(Sl far))).uses]) za3.get)⟩:Sl Tab)))))))))
 (P4 kv4 za3))
 (P4 kv4 za3))
 (P4 kv4 za3)))))
def zjc (S3:Int->(Sl Tab)->(Sl Tab)) (w:web) (node:Int) (uses:Int):List step->Int->(Sl Tab)->(Sl Tab):=lpR (zzR S3 w node uses) (zja S3 w node uses)
def zjd (P3:Int->(Sl Tab)->Bool) (w:web) (node:Int) (uses:Int):List step->Int->(Sl Tab)->Bool:=lpR (zzS P3 w node uses) (zjb P3 w node uses)
def zmJ (S3:Int->(Sl Tab)->(Sl Tab)) (w:web) (node:Int) (uses:Int) (kv4:Int) (za3:(Sl Tab)):(Sl Tab):=zjc S3 w node uses (zkn w) kv4 za3
def zmK (P3:Int->(Sl Tab)->Bool) (w:web) (node:Int) (uses:Int) (kv4:Int) (za3:(Sl Tab)):Bool:=decide ((ztt w=true)) && zjd P3 w node uses (zkn w) kv4 za3
theorem zzT (hX3:zvA K w node uses X3 P3 S3) (hs:zmK P3 w node uses kv4 za3=true) (hk:K (zyK (zmJ S3 w node uses kv4 za3))) (zko:zei=zg zak za3):z106 K [1,1,1,1,0,1,0,0,1,0,0,1,0] [X3] (zpJ w node uses kv4 za3 zei) :=
  zaR hs λ hc hs=>zr (enc:=(λ y:step=>[.agg (zaB y)])) (ys:=zkn w) (g:=(zpJ w node uses kv4 za3 zei)) (x106 K [1,1,1,1,0,1,0,0,1,0,0,1,0] [X3]) (y106 K [1,1,1,1,0,1,0,0,1,0,0,1,0] [X3]) (by kernel_rfl) (And.intro (zE enc_40 4 w.Net.Ties.get) (And.intro (rfl:((false,1,false,[none]):MQ)=(false,1,false,[none])) hc)) λ X4 hE hR =>
  (show ∀ l : List step, zA4 K w node uses (X4 (l.map (λ y : step => [.agg (zaB y)]))) (zjd P3 w node uses l) (zjc S3 w node uses l) from zri (X := X4) (enc := (λ y : step => [.agg (zaB y)])) _ _ (zjb P3 w node uses) (zja S3 w node uses) (λ Z P S => zA4 K w node uses Z P S)
 (by intro kv4 za3 zei hs hk zko;subst zko;exact hE _ (za4 (by kernel_rfl) (hX3 hs hk rfl)))
 (by intro y4 rest P4 S4 hX4 kv4 za3 zei hs hk zko;subst zko;exact hR _ rest _ (za4 (by kernel_rfl) (zaR hs λ hc hs=>And.intro hc (zaR hs λ hc hs=>And.intro hc (zaR hs λ hc hs=>And.intro hc (zc hs hk (λ hs hk=>(zc hs hk (λ hs hk=>(zc hs hk (λ hs hk=>(zaR hs λ hc hs=>And.intro hc (zaR hs λ hc hs=>And.intro hc (zaR hs λ hc hs=>And.intro hc (zaR hs λ hc hs=>And.intro (And.intro (zu8:IsE zb4 2 2 (λ _=>(zb4 (⟨(w64 ((tg 80 (za3.get ((w64 (kv4 - (1:Int))).toNat)) (0+y4.to.toNat * 2+0))+y4.length)),(0:Int)⟩:far)))) hc) (zaR hs λ hc hs=>And.intro hc (zaR hs λ hc hs=>And.intro hc (zaR hs λ hc hs=>And.intro hc (hX4 hs hk (ziJ (enc:=zak) (i:=kv4.toNat) (k:=0) (f:=za3.get) (new:=(zak (ts 80 (za3.get kv4.toNat) (0+y4.from_.toNat * 2+0) [(zcw (⟨(tL (za3.get kv4.toNat) y4.from_),(tU (za3.get kv4.toNat) y4.from_)⟩:far) (⟨1,λ _=>(⟨(w64 ((tg 80 (za3.get ((w64 (kv4 - (1:Int))).toNat)) (0+y4.to.toNat * 2+0))+y4.length)),(0:Int)⟩:far)⟩:(Sl far))).length,(zcw (⟨(tL (za3.get kv4.toNat) y4.from_),(tU (za3.get kv4.toNat) y4.from_)⟩:far) (⟨1,λ _=>(⟨(w64 ((tg 80 (za3.get ((w64 (kv4 - (1:Int))).toNat)) (0+y4.to.toNat * 2+0))+y4.length)),(0:Int)⟩:far)⟩:(Sl far))).uses]))) (v:=(ts 80 (za3.get kv4.toNat) (0+y4.from_.toNat * 2+0) [(zcw (⟨(tL (za3.get kv4.toNat) y4.from_),(tU (za3.get kv4.toNat) y4.from_)⟩:far) (⟨1,λ _=>(⟨(w64 ((tg 80 (za3.get ((w64 (kv4 - (1:Int))).toNat)) (0+y4.to.toNat * 2+0))+y4.length)),(0:Int)⟩:far)⟩:(Sl far))).length,(zcw (⟨(tL (za3.get kv4.toNat) y4.from_),(tU (za3.get kv4.toNat) y4.from_)⟩:far) (⟨1,λ _=>(⟨(w64 ((tg 80 (za3.get ((w64 (kv4 - (1:Int))).toNat)) (0+y4.to.toNat * 2+0))+y4.length)),(0:Int)⟩:far)⟩:(Sl far))).uses])) rfl zmy)))))))))) (λ hs hk=>(hX4 hs hk rfl)))) (λ hs hk=>(hX4 hs hk rfl)))) (λ hs hk=>(hX4 hs hk rfl))))))))) _ hs hk zko
def zfZ (w:web) (node:Int) (uses:Int) (S3:Int->(Sl Tab)->(Sl Tab)) (kv3:Int) (zeh:(Sl Tab)):(Sl Tab) :=
  (cond (decide (kv3 <= uses))
 (zmJ S3 w node uses kv3 zeh)
 zeh)
def zf0 (w:web) (node:Int) (uses:Int) (P3:Int->(Sl Tab)->Bool) (kv3:Int) (zeh:(Sl Tab)):Bool :=
  (cond (decide (kv3 <= uses))
 (zmK P3 w node uses kv3 zeh)
 true)
def zc5 (w:web) (node:Int) (uses:Int):Nat->Int->(Sl Tab)->(Sl Tab):=lpO (λ _ _=>default) (zfZ w node uses)
def zdx (w:web) (node:Int) (uses:Int):Nat->Int->(Sl Tab)->Bool:=lpO (λ _ _=>false) (zf0 w node uses)
def zmL (w:web) (node:Int) (uses:Int) (kv3:Int) (zeh:(Sl Tab)):(Sl Tab):=zc5 w node uses Fuel kv3 zeh
def zmM (w:web) (node:Int) (uses:Int) (kv3:Int) (zeh:(Sl Tab)):Bool:=zdx w node uses Fuel kv3 zeh
theorem zzU (hs:zmM w node uses kv3 zeh=true) (hk:K (zyK (zmL w node uses kv3 zeh))) (zpK:zfu=zg zak zeh):z106 K [1,1,1,1,0,1,0] [] (zvz w node uses kv3 zeh zfu) :=
  zl (λ X=>z106 K [1,1,1,1,0,1,0,0] [X]) (by kernel_rfl) λ X3 hX =>
  (show ∀ k, zvA K w node uses X3 (zdx w node uses k) (zc5 w node uses k) from zfc _ _ (zf0 w node uses) (zfZ w node uses) (zvA K w node uses X3)
 (by intro _ _ _ hs;exact absurd hs dqk)
 (by intro P3 S3 hX3 kv3 zeh zfu hs hk zpK;subst zpK;exact hX _ (za4 (by kernel_rfl) (zc hs hk (λ hs hk=>(And.intro (And.intro (zE enc_40 4 w.Net.Ties.get) (rfl:((false,1,false,[none]):MQ)=(false,1,false,[none]))) (zzT hX3 hs hk rfl))) (λ hs hk=>hk))))) _ hs hk zpK
def zje (w:web) (node:Int) (uses:Int) (zfv:(Sl Tab)):(Sl Tab) :=
  (zmL w node uses (1:Int) (⟨zfv.len,(setT 0 (ts 80 (zfv.get 0) (0+node.toNat * 2+0) [(0:Int),(0:Int)]) zfv.get)⟩:Sl Tab))
def zjf (w:web) (node:Int) (uses:Int) (zfv:(Sl Tab)):Bool :=
  (decide ((0<=(0:Int)/\(0:Int) < (zfv.len:Int))) &&
 (decide ((0<=node/\node < (40:Int))) &&
 (decide ((0 < zfv.len)) &&
 (zmM w node uses (1:Int) (⟨zfv.len,(setT 0 (ts 80 (zfv.get 0) (0+node.toNat * 2+0) [(0:Int),(0:Int)]) zfv.get)⟩:Sl Tab)))))
theorem zzV (hs:zjf w node uses zfv=true) (hk:K (zyK (zje w node uses zfv))) (zCX:zvB=zg zak zfv):z106 K [1,1,1] [] ⟨[(0,zP (.fp (zaz w) 0)),(2,zI uses),(4,zp 4 0),(7,zp 7 0)],[(4,.box 3 [zi node]),(7,.box 159 [.vec 15]),(15,.vec 116 80 640 zfv.len zvB)],[]⟩:=by subst zCX;exact za4 (by kernel_rfl) (zaR hs λ hc hs=>And.intro hc (zaR hs λ hc hs=>And.intro hc (zaR hs λ hc hs=>And.intro hc (zzU hs hk (ziJ (enc:=zak) (i:=0) (k:=0) (f:=zfv.get) (new:=(zak (ts 80 (zfv.get 0) (0+node.toNat * 2+0) [(0:Int),(0:Int)]))) (v:=(ts 80 (zfv.get 0) (0+node.toNat * 2+0) [(0:Int),(0:Int)])) rfl zmy)))))
def zf1 (S0:Int->(Sl Tab)->(Sl Tab)) (w:web) (node:Int) (uses:Int) (S1:Int->Int->Int->(Sl Tab)->(Sl Tab)) (iv1:Int) (zcQ:Int) (zdf:Int) (zcD:(Sl Tab)):(Sl Tab) :=
  (cond (decide (zdf < (40:Int)))
 (S1 iv1 zcQ (w64 (zdf+(1:Int))) (⟨zcD.len,(setT iv1.toNat (ts 80 (zcD.get iv1.toNat) (0+zdf.toNat * 2+0) [(1000000000000:Int),(0:Int)]) zcD.get)⟩:Sl Tab))
 (S0 (w64 (zcQ+(1:Int))) zcD))
def zf2 (P0:Int->(Sl Tab)->Bool) (w:web) (node:Int) (uses:Int) (P1:Int->Int->Int->(Sl Tab)->Bool) (iv1:Int) (zcQ:Int) (zdf:Int) (zcD:(Sl Tab)):Bool :=
  (cond (decide (zdf < (40:Int)))
 (decide ((0<=iv1/\iv1 < (zcD.len:Int))) &&
 (decide ((0<=zdf/\zdf < (40:Int))) &&
 (decide ((iv1.toNat < zcD.len)) &&
 (P1 iv1 zcQ (w64 (zdf+(1:Int))) (⟨zcD.len,(setT iv1.toNat (ts 80 (zcD.get iv1.toNat) (0+zdf.toNat * 2+0) [(1000000000000:Int),(0:Int)]) zcD.get)⟩:Sl Tab)))))
 (P0 (w64 (zcQ+(1:Int))) zcD))
def zhe (S0:Int->(Sl Tab)->(Sl Tab)) (w:web) (node:Int) (uses:Int):Nat->Int->Int->Int->(Sl Tab)->(Sl Tab):=lpO (λ _ _ _ _=>default) (zf1 S0 w node uses)
def zhf (P0:Int->(Sl Tab)->Bool) (w:web) (node:Int) (uses:Int):Nat->Int->Int->Int->(Sl Tab)->Bool:=lpO (λ _ _ _ _=>false) (zf2 P0 w node uses)
def zrP (S0:Int->(Sl Tab)->(Sl Tab)) (w:web) (node:Int) (uses:Int) (iv1:Int) (zcQ:Int) (zdf:Int) (zcD:(Sl Tab)):(Sl Tab):=zhe S0 w node uses Fuel iv1 zcQ zdf zcD
def zrQ (P0:Int->(Sl Tab)->Bool) (w:web) (node:Int) (uses:Int) (iv1:Int) (zcQ:Int) (zdf:Int) (zcD:(Sl Tab)):Bool:=zhf P0 w node uses Fuel iv1 zcQ zdf zcD
theorem zzW (hX0:zvx K w node uses X0 P0 S0) (hs:zrQ P0 w node uses iv1 zcQ zdf zcD=true) (hk:K (zyK (zrP S0 w node uses iv1 zcQ zdf zcD))) (zpL:zft=zg zak zcD):z106 K [1,1,0,1,0,0,1,1,0,0,1,1,0] [X0] (zvy w node uses iv1 zcQ zdf zcD zft) :=
  zl (λ X=>z106 K [1,1,0,1,0,0,1,1,0,0,1,1,0,0] [X0,X]) (by kernel_rfl) λ X1 hX =>
  (show ∀ k, zA3 K w node uses X1 (zhf P0 w node uses k) (zhe S0 w node uses k) from zfc _ _ (zf2 P0 w node uses) (zf1 S0 w node uses) (zA3 K w node uses X1)
 (by intro _ _ _ _ _ hs;exact absurd hs dqk)
 (by intro P1 S1 hX1 iv1 zcQ zdf zcD zft hs hk zpL;subst zpL;exact hX _ (za4 (by kernel_rfl) (zc hs hk (λ hs hk=>(zaR hs λ hc hs=>And.intro hc (zaR hs λ hc hs=>And.intro hc (zaR hs λ hc hs=>And.intro hc (hX1 hs hk (ziJ (enc:=zak) (i:=iv1.toNat) (k:=0) (f:=zcD.get) (new:=(zak (ts 80 (zcD.get iv1.toNat) (0+zdf.toNat * 2+0) [(1000000000000:Int),(0:Int)]))) (v:=(ts 80 (zcD.get iv1.toNat) (0+zdf.toNat * 2+0) [(1000000000000:Int),(0:Int)])) rfl zmy)))))) (λ hs hk=>(hX0 hs hk rfl)))))) _ hs hk zpL
def zf3 (w:web) (node:Int) (uses:Int) (S0:Int->(Sl Tab)->(Sl Tab)) (zdV:Int) (zdW:(Sl Tab)):(Sl Tab) :=
  (cond (decide (zdV < ((w64 (uses + (1:Int))).toNat : Int)))
 (zrP S0 w node uses zdV zdV (0:Int) zdW)
 (zje w node uses zdW))
def zf4 (w:web) (node:Int) (uses:Int) (P0:Int->(Sl Tab)->Bool) (zdV:Int) (zdW:(Sl Tab)):Bool :=
  (cond (decide (zdV < ((w64 (uses + (1:Int))).toNat : Int)))
 (zrQ P0 w node uses zdV zdV (0:Int) zdW)
 (zjf w node uses zdW))
def zf5 (w:web) (node:Int) (uses:Int):Nat->Int->(Sl Tab)->(Sl Tab):=lpO (λ _ _=>default) (zf3 w node uses)
def zf6 (w:web) (node:Int) (uses:Int):Nat->Int->(Sl Tab)->Bool:=lpO (λ _ _=>false) (zf4 w node uses)
def zmN (w:web) (node:Int) (uses:Int) (zdV:Int) (zdW:(Sl Tab)):(Sl Tab):=zf5 w node uses Fuel zdV zdW
def zmO (w:web) (node:Int) (uses:Int) (zdV:Int) (zdW:(Sl Tab)):Bool:=zf6 w node uses Fuel zdV zdW
theorem zzX (hs:zmO w node uses zdV zdW=true) (hk:K (zyK (zmN w node uses zdV zdW))) (zpM:zfs=zg zak zdW):z106 K [1,1,0,1,0] [] (zvw w node uses zdV zdW zfs) :=
  zl (λ X=>z106 K [1,1,0,1,0,0] [X]) (by kernel_rfl) λ X0 hX =>
  (show ∀ k, zvx K w node uses X0 (zf6 w node uses k) (zf5 w node uses k) from zfc _ _ (zf4 w node uses) (zf3 w node uses) (zvx K w node uses X0)
 (by intro _ _ _ hs;exact absurd hs dqk)
 (by intro P0 S0 hX0 zdV zdW zfs hs hk zpM;subst zpM;exact hX _ (za4 (by kernel_rfl) (zc hs hk (λ hs hk=>(zzW hX0 hs hk rfl)) (λ hs hk=>(zzV hs hk rfl)))))) _ hs hk zpM
def zrR (w:web) (node:Int) (uses:Int):(Sl Tab) :=
  (zmN w node uses (0:Int) (⟨(w64 (uses+(1:Int))).toNat,(λ _=>(λ _=>(0:Int)))⟩:Sl Tab))
def zFE (w:web) (node:Int) (uses:Int):Bool :=
  (decide ((0<=(w64 (uses+(1:Int)))/\(w64 (uses+(1:Int)))=(w64 (uses+(1:Int)))/\(w64 (uses+(1:Int)))<=1000000)) &&
 (zmO w node uses (0:Int) (⟨(w64 (uses+(1:Int))).toNat,(λ _=>(λ _=>(0:Int)))⟩:Sl Tab)))
end
theorem zLo (w:web) (node:Int) (uses:Int) (K:List PA->Prop) (hs:zFE w node uses=true) (hk:K (zyK (zrR w node uses))):vcFun Tryd.prog zIR zoo 106 [.one (.fp (zaz w) 0),.one (.int .i64 node),.one (.int .i64 uses)] K :=
  za4 (by kernel_rfl) (zaR hs λ hc hs=>And.intro hc (zzX hs hk rfl))
def zvC : List PA → COut
  | [.one (.fp [.int .i64 zaj,.sl zae zay zaf,.fm za6 zaE zaF] 0),.one (.int .i64 a1),.one (.int .i64 a2)]=>.det (IsE enc_40 4 zay zaf/\za6=(false,1,false,[none])/\zFE (⟨(⟨zaj,(⟨zae,zam zaf⟩:(Sl Tie))⟩:Net),(⟨zaE,zaF⟩:Mp)⟩:web) a1 a2=true) [.one (.sl ((zrR (⟨(⟨zaj,(⟨zae,zam zaf⟩:(Sl Tie))⟩:Net),(⟨zaE,zaF⟩:Mp)⟩:web) a1 a2).len) 80 (λ i=>zak ((zrR (⟨(⟨zaj,(⟨zae,zam zaf⟩:(Sl Tie))⟩:Net),(⟨zaE,zaF⟩:Mp)⟩:web) a1 a2).get i)))]
  | _=>.no
theorem zCY:zas Tryd.prog 106:=⟨_,rfl,rfl,by kernel_rfl⟩
theorem zJn:Ok Tryd.prog 106 zvC:=zbs zGL zCY λ args K h=>by
  unfold zvC at h
  split at h
  · rename_i zaj zae zay zaf za6 zaE zaF a1 a2
    obtain⟨⟨⟨rfl,zaq,rfl⟩,rfl,hs⟩,hk⟩:=h
    try rw[zan zaq] at hs
    try rw[zan zaq] at hk
    exact⟨(λ _ _=>[]),(λ _=>false),zoo,zLo (⟨(⟨zaj,(⟨zae,zaq⟩:(Sl Tie))⟩:Net),(⟨zaE,zaF⟩:Mp)⟩:web) a1 a2 K hs hk⟩
  · exact h.elim
abbrev zKH:Tabs:=Tabs.nil
theorem zGM:TabsOk Tryd.prog zKH:=TabsOk.nil
abbrev zKI:Ctrs:=csm zKH (λ _ _=>[]) (λ _=>false)
def zvD:Ann:=⟨18,[(0,zK [0] []),(1,zK [0,3] []),(2,zK [3,6,7,8] []),(3,zK [3,6,7,8,9] []),(4,zK [3,5,6,7,8] []),(5,zK [3,5,6,7,8,14] []),(6,zK [2] []),(7,zK [3,6,7,8] []),(8,zK [2] [])],
 [(3,zK [3,6,7,8] [])],
 [],
 [],[]⟩
abbrev zLp:=Int
abbrev zJo (r:zLp):List PA:=[.one (.int .i64 r)]
@[irreducible] def z100:=ptF Tryd.prog zKI zvD Tryd.f100
def zvE (vals:(Sl Int)) (zdq:Int):St:=⟨[(3,zI (0:Int)),(6,zS zab 1 vals),(7,zI (vals.len:Int)),(8,zI zdq)],[],[]⟩
abbrev zA5 (K:List PA->Prop) (vals:(Sl Int)) (X:St->Prop) (P:Int->Bool) (S:Int->Int):Prop:=∀ ⦃zdq:Int⦄,P zdq=true->K (zJo (S zdq))->X (zvE vals zdq)
section
variable {K:List PA->Prop}{vals:(Sl Int)}{zdq:Int}{X0:St->Prop}{P0:Int->Bool}{S0:Int->Int}
def zrS (vals:(Sl Int)) (S0:Int->Int) (zdq:Int):Int :=
  (cond (decide (zdq < (vals.len : Int)))
 (cond ((vals.get zdq.toNat) != (0:Int))
 (vals.get zdq.toNat)
 (S0 (w64 (zdq+(1:Int)))))
 (0:Int))
def zf7 (vals:(Sl Int)) (P0:Int->Bool) (zdq:Int):Bool :=
  (cond (decide (zdq < (vals.len : Int)))
 (decide ((0<=zdq/\zdq < (vals.len:Int))) &&
 (cond ((vals.get zdq.toNat) != (0:Int))
 true
 (P0 (w64 (zdq+(1:Int))))))
 true)
def zrT (vals:(Sl Int)):Nat->Int->Int:=lpO (λ _=>default) (zrS vals)
def zhg (vals:(Sl Int)):Nat->Int->Bool:=lpO (λ _=>false) (zf7 vals)
def zrU (vals:(Sl Int)) (zdq:Int):Int:=zrT vals Fuel zdq
def zrV (vals:(Sl Int)) (zdq:Int):Bool:=zhg vals Fuel zdq
theorem zzY (hs:zrV vals zdq=true) (hk:K (zJo (zrU vals zdq))):z100 K [1,1,0,1,0] [] (zvE vals zdq) :=
  zl (λ X=>z100 K [1,1,0,1,0,0] [X]) (by kernel_rfl) λ X0 hX =>
  (show ∀ k, zA5 K vals X0 (zhg vals k) (zrT vals k) from zfc _ _ (zf7 vals) (zrS vals) (zA5 K vals X0)
 (by intro _ hs;exact absurd hs dqk)
 (by intro P0 S0 hX0 zdq hs hk;exact hX _ (za4 (by kernel_rfl) (zc hs hk (λ hs hk=>(zaR hs λ hc hs=>And.intro hc (zc hs hk (λ hs hk=>hk) (λ hs hk=>(hX0 hs hk))))) (λ hs hk=>hk))))) _ hs hk
def zJp (vals:(Sl Int)):Int :=
  (zrU vals (0:Int))
def zIS (vals:(Sl Int)):Bool :=
  (zrV vals (0:Int))
end
theorem zLq (vals:(Sl Int)) (K:List PA->Prop) (hs:zIS vals=true) (hk:K (zJo (zJp vals))):vcFun Tryd.prog zKI zvD 100 [.one (.sl vals.len 1 (λ i=>zab (vals.get i)))] K :=
  za4 (by kernel_rfl) (zzY hs hk)
def zvF : List PA → COut
  | [.one (.sl zeC zkp zeD)]=>.det (IsE zab 1 zkp zeD/\zIS (⟨zeC,zau zeD⟩:(Sl Int))=true) [.one (.int .i64 (zJp (⟨zeC,zau zeD⟩:(Sl Int))))]
  | _=>.no
theorem zCZ:zas Tryd.prog 100:=⟨_,rfl,rfl,by kernel_rfl⟩
theorem zJq:Ok Tryd.prog 100 zvF:=zbs zGM zCZ λ args K h=>by
  unfold zvF at h
  split at h
  · rename_i zeC zkp zeD
    obtain⟨⟨⟨rfl,zgB,rfl⟩,hs⟩,hk⟩:=h
    try rw[zbp zgB] at hs
    try rw[zbp zgB] at hk
    exact⟨(λ _ _=>[]),(λ _=>false),zvD,zLq (⟨zeC,zgB⟩:(Sl Int)) K hs hk⟩
  · exact h.elim
abbrev zKJ:Tabs:=Tabs.nil
theorem zGN:TabsOk Tryd.prog zKJ:=TabsOk.nil
abbrev zLr:Ctrs:=csm zKJ (λ _ _=>[]) (λ _=>false)
def zA6:Ann:=⟨6,[(0,zK [0] []),(1,zK [2] [])],
 [],
 [],
 [],[]⟩
abbrev zLs:=Bool
abbrev zLt (r:zLs):List PA:=[.one (.bool r)]
section
variable {K:List PA->Prop}{x:Int}
def zzZ (x:Int):Bool :=
  (x != x)
end
theorem zLu (x:Int) (K:List PA->Prop) (hk:K (zLt (zzZ x))):vcFun Tryd.prog zLr zA6 114 [.one (.int .i64 x)] K :=
  za4 (by kernel_rfl) hk
def zvG : List PA → COut
  | [.one (.int .i64 a0)]=>.tot [.one (.bool (zzZ a0))]
  | _=>.no
theorem zC0:zas Tryd.prog 114:=⟨_,rfl,rfl,by kernel_rfl⟩
theorem zJr:Ok Tryd.prog 114 zvG:=zbs zGN zC0 λ args K h=>by
  unfold zvG at h
  split at h
  · rename_i a0
    have hk:=h
    exact⟨(λ _ _=>[]),(λ _=>false),zA6,zLu a0 K hk⟩
  · exact h.elim
abbrev zKK:Tabs:=(Tabs.nil.addF 114 zvG)
theorem zGO:TabsOk Tryd.prog zKK:=(TabsOk.nil.addF zJr)
abbrev zLv:Ctrs:=csm zKK (λ _ _=>[]) (λ _=>false)
def zA7:Ann:=⟨20,[(0,zK [0,1] []),(1,zK [0,1,5] []),(2,zK [0,1,5,6] []),(3,zK [0,1,6,11] []),(4,zK [12] []),(5,zK [4] []),(6,zK [4] []),(7,zK [0,1,13] []),(8,zK [4] []),(9,zK [0,1,16] []),(10,zK [4] []),(11,zK [19] []),(12,zK [4] []),(13,zK [4] [])],
 [],
 [],
 [],[]⟩
abbrev zLw:=Int
abbrev zLx (r:zLw):List PA:=[.one (.int .i64 r)]
section
variable {K:List PA->Prop}{x:Int}{y_a1:Int}
def ztu (x:Int) (y_a1:Int):Int :=
  (cond (zzZ x)
 (cond (zzZ y_a1)
 (0:Int)
 (-1:Int))
 (cond (zzZ y_a1)
 (1:Int)
 (cond (decide (x < y_a1))
 (-1:Int)
 (cond (decide (x > y_a1))
 (1:Int)
 (0:Int)))))
end
theorem zLy (x:Int) (y_a1:Int) (K:List PA->Prop) (hk:K (zLx (ztu x y_a1))):vcFun Tryd.prog zLv zA7 101 [.one (.int .i64 x),.one (.int .i64 y_a1)] K :=
  za4 (by kernel_rfl) (zt hk (λ hk=>(zt hk (λ hk=>hk) (λ hk=>hk))) (λ hk=>(zt hk (λ hk=>hk) (λ hk=>(zt hk (λ hk=>hk) (λ hk=>(zt hk (λ hk=>hk) (λ hk=>hk))))))))
def zrW : List PA → COut
  | [.one (.int .i64 a0),.one (.int .i64 a1)]=>.tot [.one (.int .i64 (ztu a0 a1))]
  | _=>.no
theorem zC1:zas Tryd.prog 101:=⟨_,rfl,rfl,by kernel_rfl⟩
theorem zGP:Ok Tryd.prog 101 zrW:=zbs zGO zC1 λ args K h=>by
  unfold zrW at h
  split at h
  · rename_i a0 a1
    have hk:=h
    exact⟨(λ _ _=>[]),(λ _=>false),zA7,zLy a0 a1 K hk⟩
  · exact h.elim
abbrev zKL:Tabs:=Tabs.nil
theorem zGQ:TabsOk Tryd.prog zKL:=TabsOk.nil
abbrev zLz:Ctrs:=csm zKL (λ _ _=>[]) (λ _=>false)
def zA8:Ann:=⟨6,[(0,zK [1] [1]),(1,zK [5] []),(2,zK [2] []),(3,zK [2] [])],
 [],
 [],
 [],[]⟩
abbrev zLA:=Int
abbrev e118 (r:zLA):List PA:=[.one (.int .i64 r)]
section
variable {K:List PA->Prop}{s:step}
def zA9 (s:step):Int :=
  (cond s.Use.Back
 (1:Int)
 (0:Int))
end
theorem zLB (s:step) (K:List PA->Prop) (hk:K (e118 (zA9 s))):vcFun Tryd.prog zLz zA8 118 [.agg (zaB s)] K :=
  za4 (by kernel_rfl) (zt hk (λ hk=>hk) (λ hk=>hk))
def zvH : List PA → COut
  | [.agg [.int .i64 zcH,.bool zck,.int .i64 zea,.int .i64 zop,.int .i64 zb7]]=>.tot [.one (.int .i64 (zA9 (⟨(⟨zcH,zck⟩:Use),zea,zop,zb7⟩:step)))]
  | _=>.no
theorem zC2:zas Tryd.prog 118:=⟨_,rfl,rfl,by kernel_rfl⟩
theorem zJs:Ok Tryd.prog 118 zvH:=zbs zGQ zC2 λ args K h=>by
  unfold zvH at h
  split at h
  · rename_i zcH zck zea zop zb7
    have hk:=h
    exact⟨(λ _ _=>[]),(λ _=>false),zA8,zLB (⟨(⟨zcH,zck⟩:Use),zea,zop,zb7⟩:step) K hk⟩
  · exact h.elim
abbrev zKM:Tabs:=(((Tabs.nil.addF 100 zvF).addF 101 zrW).addF 118 zvH)
theorem zGR:TabsOk Tryd.prog zKM:=(((TabsOk.nil.addF zJq).addF zGP).addF zJs)
abbrev zLC:Ctrs:=csm zKM (λ _ _=>[]) (λ _=>false)
def zBa:Ann:=⟨22,[(0,zK [2,3] [2,3]),(1,zK [2,3,5] [2,3]),(2,zK [4] [])],
 [],
 [],
 [],[]⟩
abbrev zLD:=Int
abbrev e108 (r:zLD):List PA:=[.one (.int .i64 r)]
section
variable {K:List PA->Prop}{a:step}{b:step}
def zGS (a:step) (b:step):Int :=
  (zJp (⟨2,zau (zbv [(zab (ztu a.Use.Tie b.Use.Tie)),(zab (ztu (zA9 a) (zA9 b)))])⟩:(Sl Int)))
def zIT (a:step) (b:step):Bool :=
  (decide ((zIS (⟨2,zau (zbv [(zab (ztu a.Use.Tie b.Use.Tie)),(zab (ztu (zA9 a) (zA9 b)))])⟩:(Sl Int))=true)) &&
 true)
end
theorem zLE (a:step) (b:step) (K:List PA->Prop) (hs:zIT a b=true) (hk:K (e108 (zGS a b))):vcFun Tryd.prog zLC zBa 108 [.agg (zaB a),.agg (zaB b)] K :=
  za4 (by kernel_rfl) (zaR hs λ hc hs=>And.intro (And.intro ((zd6 []):IsE zab 1 1 (zbv [(zab (ztu a.Use.Tie b.Use.Tie)),(zab (ztu (zA9 a) (zA9 b)))])) hc) hk)
def zvI : List PA → COut
  | [.agg [.int .i64 zcH,.bool zck,.int .i64 zea,.int .i64 zop,.int .i64 zb7],.agg [.int .i64 zf8,.bool zeZ,.int .i64 zjg,.int .i64 zz0,.int .i64 zbM]]=>.det (zIT (⟨(⟨zcH,zck⟩:Use),zea,zop,zb7⟩:step) (⟨(⟨zf8,zeZ⟩:Use),zjg,zz0,zbM⟩:step)=true) [.one (.int .i64 (zGS (⟨(⟨zcH,zck⟩:Use),zea,zop,zb7⟩:step) (⟨(⟨zf8,zeZ⟩:Use),zjg,zz0,zbM⟩:step)))]
  | _=>.no
theorem zC3:zas Tryd.prog 108:=⟨_,rfl,rfl,by kernel_rfl⟩
theorem zJt:Ok Tryd.prog 108 zvI:=zbs zGR zC3 λ args K h=>by
  unfold zvI at h
  split at h
  · rename_i zcH zck zea zop zb7 zf8 zeZ zjg zz0 zbM
    obtain⟨hs,hk⟩:=h
    exact⟨(λ _ _=>[]),(λ _=>false),zBa,zLE (⟨(⟨zcH,zck⟩:Use),zea,zop,zb7⟩:step) (⟨(⟨zf8,zeZ⟩:Use),zjg,zz0,zbM⟩:step) K hs hk⟩
  · exact h.elim
abbrev zKN:Tabs:=(Tabs.nil.addF 108 zvI)
theorem zGT:TabsOk Tryd.prog zKN:=(TabsOk.nil.addF zJt)
abbrev zKO:Ctrs:=csm zKN (λ _ _=>[]) (λ _=>false)
def zvJ:Ann:=⟨39,[(0,zK [0,1,2] []),(1,zK [0,1,2,11,12,13] []),(2,zK [0,1,2,11,12,13,14] []),(3,zK [0,1,2,7,8,11,12,13] [8]),(4,zK [0,1,2,7,8,11,12,13,21] [8]),(5,zK [6] []),(6,zK [0,1,2,8,9,11,12,13] [8,9]),(7,zK [0,1,2,10,11,12,13] []),(8,zK [0,1,2,10,11,12,13,31] []),(9,zK [6] []),(10,zK [0,1,2,11,12,13] []),(11,zK [38] []),(12,zK [6] []),(13,zK [6] [])],
 [(2,zK [0,1,2,11,12,13] [])],
 [(6,zK [0,1,2,7,8,11,12,13] [8]),(8,zK [0,1,2,10,11,12,13] [])],
 [],[]⟩
abbrev zLF:=Int
abbrev zGU (r:zLF):List PA:=[.one (.int .i64 r)]
@[irreducible] def z107:=ptF Tryd.prog zKO zvJ Tryd.f107
def zvK (zej:(Sl step)) (zdN:(Sl step)) (zaQ:(Sl step)) (zbU:Int) (zbN:Int) (zdg:Nat->List PV) (zdh:Nat->List PV) (zfw:Nat->List PV):St:=⟨[(0,zP (.sl zej.len 5 zdg)),(1,zP (.sl zdN.len 5 zdh)),(2,zP (.fn 108 [] [])),(11,zP (.sl zaQ.len 5 zfw)),(12,zI zbU),(13,zI zbN)],[],[]⟩
abbrev zrX (K:List PA->Prop) (X:St->Prop) (P:(Sl step)->(Sl step)->(Sl step)->Int->Int->Bool) (S:(Sl step)->(Sl step)->(Sl step)->Int->Int->Int):Prop:=∀ ⦃zej:(Sl step)⦄ ⦃zdN:(Sl step)⦄ ⦃zaQ:(Sl step)⦄ ⦃zbU:Int⦄ ⦃zbN:Int⦄ ⦃zdg:Nat->List PV⦄ ⦃zdh:Nat->List PV⦄ ⦃zfw:Nat->List PV⦄,P zej zdN zaQ zbU zbN=true->K (zGU (S zej zdN zaQ zbU zbN))->zdg=zg zaB zej->zdh=zg zaB zdN->zfw=zg zaB zaQ->X (zvK zej zdN zaQ zbU zbN zdg zdh zfw)
section
variable {K:List PA->Prop}{s1_a0:(Sl step)}{s2_a1:(Sl step)}{zej:(Sl step)}{zdN:(Sl step)}{zaQ:(Sl step)}{zbU:Int}{zbN:Int}{zdg:Nat->List PV}{zdh:Nat->List PV}{zfw:Nat->List PV}{X0:St->Prop}{P0:(Sl step)->(Sl step)->(Sl step)->Int->Int->Bool}{S0:(Sl step)->(Sl step)->(Sl step)->Int->Int->Int}{zoq:(Sl step)}{zjh:(Sl step)}{iv1:Int}{zcu:(Sl step)}{zbV:Int}{zpN:Int}{ziM:Int}{ziN:Bool}{ziO:Int}{ziP:Int}{ziQ:Int}{zor:Nat->List PV}{zos:Nat->List PV}{zvL:Nat->List PV}{zot:(Sl step)}{zou:(Sl step)}{cv2:Int}{zpO:Int}{zov:Nat->List PV}{zow:Nat->List PV}
def zrY (S0:(Sl step)->(Sl step)->(Sl step)->Int->Int->Int) (zcu:(Sl step)) (zbV:Int) (zot:(Sl step)) (zou:(Sl step)) (cv2:Int) (zpO:Int):Int :=
  (cond (cv2 != (0:Int))
 cv2
 (S0 zot zou zcu zbV (w64 (zpO+(1:Int)))))
def zmP (P0:(Sl step)->(Sl step)->(Sl step)->Int->Int->Bool) (zcu:(Sl step)) (zbV:Int) (zot:(Sl step)) (zou:(Sl step)) (cv2:Int) (zpO:Int):Bool :=
  (cond (cv2 != (0:Int))
 true
 (P0 zot zou zcu zbV (w64 (zpO+(1:Int)))))
theorem zz1 (hX0:zrX K X0 P0 S0) (hs:zmP P0 zcu zbV zot zou cv2 zpO=true) (hk:K (zGU (zrY S0 zcu zbV zot zou cv2 zpO))) (zvM:zov=zg zaB zot) (zvN:zow=zg zaB zou):z107 K [1,0,1,0,0,1,1,0,0,1,1,1,1] [X0] ⟨[(0,zP (.sl zot.len 5 zov)),(1,zP (.sl zou.len 5 zow)),(2,zP (.fn 108 [] [])),(10,zI cv2),(11,zS zaB 5 zcu),(12,zI zbV),(13,zI zpO)],[],[]⟩:=by subst zvM;subst zvN;exact za4 (by kernel_rfl) (zc hs hk (λ hs hk=>hk) (λ hs hk=>(hX0 hs hk rfl rfl rfl)))
def zrZ (S0:(Sl step)->(Sl step)->(Sl step)->Int->Int->Int) (zoq:(Sl step)) (zjh:(Sl step)) (iv1:Int) (zcu:(Sl step)) (zbV:Int) (zpN:Int) (ziM:Int) (ziN:Bool) (ziO:Int) (ziP:Int) (ziQ:Int):Int :=
  (zrY S0 zcu zbV zoq zjh (zGS (⟨(⟨ziM,ziN⟩:Use),ziO,ziP,ziQ⟩:step) (zjh.get iv1.toNat)) zpN)
def zmQ (P0:(Sl step)->(Sl step)->(Sl step)->Int->Int->Bool) (zoq:(Sl step)) (zjh:(Sl step)) (iv1:Int) (zcu:(Sl step)) (zbV:Int) (zpN:Int) (ziM:Int) (ziN:Bool) (ziO:Int) (ziP:Int) (ziQ:Int):Bool :=
  (decide ((0<=iv1/\iv1 < (zjh.len:Int))) &&
 (decide ((zIT (⟨(⟨ziM,ziN⟩:Use),ziO,ziP,ziQ⟩:step) (zjh.get iv1.toNat)=true)) &&
 (zmP P0 zcu zbV zoq zjh (zGS (⟨(⟨ziM,ziN⟩:Use),ziO,ziP,ziQ⟩:step) (zjh.get iv1.toNat)) zpN)))
theorem zz2 (hX0:zrX K X0 P0 S0) (hs:zmQ P0 zoq zjh iv1 zcu zbV zpN ziM ziN ziO ziP ziQ=true) (hk:K (zGU (zrZ S0 zoq zjh iv1 zcu zbV zpN ziM ziN ziO ziP ziQ))) (zvO:zor=zg zaB zoq) (zvP:zos=zg zaB zjh) (zC4:zvL=zg zaB zcu):z107 K [1,0,1,0,0,1,1,0,0,1,1] [X0] ⟨[(0,zP (.sl zoq.len 5 zor)),(1,zP (.sl zjh.len 5 zos)),(2,zP (.fn 108 [] [])),(7,zI iv1),(8,zp 8 0),(11,zP (.sl zcu.len 5 zvL)),(12,zI zbV),(13,zI zpN)],[(8,.box 130 (zm (zaB (⟨(⟨ziM,ziN⟩:Use),ziO,ziP,ziQ⟩:step))))],[]⟩:=by subst zvO;subst zvP;subst zC4;exact za4 (by kernel_rfl) (zaR hs λ hc hs=>And.intro hc (zaR hs λ hc hs=>And.intro hc (zz1 hX0 hs hk rfl rfl)))
def zr0 (S0:(Sl step)->(Sl step)->(Sl step)->Int->Int->Int) (zej:(Sl step)) (zdN:(Sl step)) (zaQ:(Sl step)) (zbU:Int) (zbN:Int):Int :=
  (cond (decide (zbN < zbU))
 (cond (decide (zbN >= (zdN.len : Int)))
 (1:Int)
 (zrZ S0 zej zdN zbN zaQ zbU zbN ((zaQ.get zbN.toNat).Use.Tie) ((zaQ.get zbN.toNat).Use.Back) ((zaQ.get zbN.toNat).from_) ((zaQ.get zbN.toNat).to) ((zaQ.get zbN.toNat).length)))
 (cond (decide ((zej.len : Int) < (zdN.len : Int)))
 (-1:Int)
 (0:Int)))
def zf9 (P0:(Sl step)->(Sl step)->(Sl step)->Int->Int->Bool) (zej:(Sl step)) (zdN:(Sl step)) (zaQ:(Sl step)) (zbU:Int) (zbN:Int):Bool :=
  (cond (decide (zbN < zbU))
 (decide ((0<=zbN/\zbN < (zaQ.len:Int))) &&
 (cond (decide (zbN >= (zdN.len : Int)))
 true
 (zmQ P0 zej zdN zbN zaQ zbU zbN ((zaQ.get zbN.toNat).Use.Tie) ((zaQ.get zbN.toNat).Use.Back) ((zaQ.get zbN.toNat).from_) ((zaQ.get zbN.toNat).to) ((zaQ.get zbN.toNat).length))))
 true)
def zr1:Nat->(Sl step)->(Sl step)->(Sl step)->Int->Int->Int:=lpO (λ _ _ _ _ _=>default) (zr0)
def zhh:Nat->(Sl step)->(Sl step)->(Sl step)->Int->Int->Bool:=lpO (λ _ _ _ _ _=>false) (zf9)
def zr2 (zej:(Sl step)) (zdN:(Sl step)) (zaQ:(Sl step)) (zbU:Int) (zbN:Int):Int:=zr1 Fuel zej zdN zaQ zbU zbN
def zr3 (zej:(Sl step)) (zdN:(Sl step)) (zaQ:(Sl step)) (zbU:Int) (zbN:Int):Bool:=zhh Fuel zej zdN zaQ zbU zbN
theorem zz3 (hs:zr3 zej zdN zaQ zbU zbN=true) (hk:K (zGU (zr2 zej zdN zaQ zbU zbN))) (zkq:zdg=zg zaB zej) (zkr:zdh=zg zaB zdN) (zpP:zfw=zg zaB zaQ):z107 K [1,0,1,0] [] (zvK zej zdN zaQ zbU zbN zdg zdh zfw) :=
  zl (λ X=>z107 K [1,0,1,0,0] [X]) (by kernel_rfl) λ X0 hX =>
  (show ∀ k, zrX K X0 (zhh k) (zr1 k) from zfc _ _ (zf9) (zr0) (zrX K X0)
 (by intro _ _ _ _ _ _ _ _ hs;exact absurd hs dqk)
 (by intro P0 S0 hX0 zej zdN zaQ zbU zbN zdg zdh zfw hs hk zkq zkr zpP;subst zkq;subst zkr;subst zpP;exact hX _ (za4 (by kernel_rfl) (zc hs hk (λ hs hk=>(zaR hs λ hc hs=>And.intro hc (zc hs hk (λ hs hk=>hk) (λ hs hk=>(zz2 hX0 hs hk rfl rfl rfl))))) (λ hs hk=>(zt hk (λ hk=>hk) (λ hk=>hk))))))) _ hs hk zkq zkr zpP
def zC5 (s1_a0:(Sl step)) (s2_a1:(Sl step)):Int :=
  (zr2 s1_a0 s2_a1 s1_a0 (s1_a0.len:Int) (0:Int))
def zGV (s1_a0:(Sl step)) (s2_a1:(Sl step)):Bool :=
  (zr3 s1_a0 s2_a1 s1_a0 (s1_a0.len:Int) (0:Int))
end
theorem zLG (s1_a0:(Sl step)) (s2_a1:(Sl step)) (K:List PA->Prop) (hs:zGV s1_a0 s2_a1=true) (hk:K (zGU (zC5 s1_a0 s2_a1))):vcFun Tryd.prog zKO zvJ 107 [.one (.sl s1_a0.len 5 (λ i=>zaB (s1_a0.get i))),.one (.sl s2_a1.len 5 (λ i=>zaB (s2_a1.get i))),.one (.fn 108 [] [])] K :=
  za4 (by kernel_rfl) (zz3 hs hk rfl rfl rfl)
def zvQ : List PA → COut
  | [.one (.sl zeC zkp zeD),.one (.sl zeE zk2 zeA),.one (.fn 108 [] [])]=>.det (IsE zaB 5 zkp zeD/\IsE zaB 5 zk2 zeA/\zGV (⟨zeC,zhc zeD⟩:(Sl step)) (⟨zeE,zhc zeA⟩:(Sl step))=true) [.one (.int .i64 (zC5 (⟨zeC,zhc zeD⟩:(Sl step)) (⟨zeE,zhc zeA⟩:(Sl step))))]
  | _=>.no
theorem zC6:zas Tryd.prog 107:=⟨_,rfl,rfl,by kernel_rfl⟩
theorem zJu:Ok Tryd.prog 107 zvQ:=zbs zGT zC6 λ args K h=>by
  unfold zvQ at h
  split at h
  · rename_i zeC zkp zeD zeE zk2 zeA
    obtain⟨⟨⟨rfl,zgB,rfl⟩,⟨rfl,zhK,rfl⟩,hs⟩,hk⟩:=h
    try rw[zd7 zgB] at hs
    try rw[zd7 zgB] at hk
    try rw[zd7 zhK] at hs
    try rw[zd7 zhK] at hk
    exact⟨(λ _ _=>[]),(λ _=>false),zvJ,zLG (⟨zeC,zgB⟩:(Sl step)) (⟨zeE,zhK⟩:(Sl step)) K hs hk⟩
  · exact h.elim
abbrev T89:Tabs:=((((Tabs.nil.addF 93 zok).addF 106 zvC).addF 107 zvQ).addI 110 zom)
theorem zJv:TabsOk Tryd.prog T89:=((((TabsOk.nil.addF zFD).addF zJn).addF zJu).addI ztj)
abbrev G89:Ctrs:=csm T89 (λ _ _=>[]) (λ _=>false)
def zvR:Ann:=⟨148,[(0,zK [0] []),(1,zK [0,3] [21]),(2,zK [0,3,23,24] [21]),(3,zK [0,3,23,24,25] [21]),(4,zK [0,3,4,23,24] [21]),(5,zK [0,3,23,24] [21]),(6,zK [0,3,23,24] [21]),(7,zK [0,3] [21]),(8,zK [0,3,5] [21]),(9,zK [0,3,5,45] [21]),(10,zK [0,3,5] [21]),(11,zK [0,3,5,48,49,50] [21]),(12,zK [0,3,5,48,49,50,51] [21]),(13,zK [0,3,5,6,7,48,49,50] [21]),(14,zK [0,3,5,48,49,50,62] [21]),(15,zK [0,3,5,48,49,50] [21]),(16,zK [0,3,5,8] [21]),(17,zK [0,5,8,64,65,66] [21]),(18,zK [0,5,8,64,65,66,67] [21]),(19,zK [0,5,8,9,10,64,65,66] [9,10,21]),(20,zK [0,5,8,9,10,64,65,66,78] [9,10,21]),(21,zK [0,5,8,9,10,11,64,65,66] [9,10,11,21]),(22,zK [0,5,8,9,10,11,12,13,64,65,66] [9,10,11,12,13,21]),(23,zK [0,5,8,9,10,11,12,13,14,64,65,66] [9,10,11,12,13,14,21]),(24,zK [0,5,8,9,10,11,12,13,14,64,65,66,83] [9,10,11,12,13,14,21,129]),(25,zK [0,5,8,9,10,11,12,13,14,64,65,66] [9,10,11,12,13,14,21,129]),(26,zK [0,5,8,9,10,11,12,13,14,64,65,66,87] [9,10,11,12,13,14,21,129]),(27,zK [0,5,8,9,10,11,12,13,14,15,64,65,66,87] [9,10,11,12,13,14,15,21,129]),(28,zK [0,5,8,9,10,11,12,13,14,15,64,65,66,87,125] [9,10,11,12,13,14,15,21,129]),(29,zK [0,5,8,9,10,11,12,13,14,15,64,65,66] [9,10,11,12,13,14,15,21,129]),(30,zK [0,5,8,9,10,11,12,13,14,64,65,66] [9,10,11,12,13,14,21,129]),(31,zK [0,5,8,9,10,11,12,13,64,65,66,136] [9,10,11,12,13,21,129]),(32,zK [0,5,8,9,10,11,12,13,14,64,65,66] [9,10,11,12,13,14,21,129]),(33,zK [0,5,8,11,64,65,66,144] [11,21,129]),(34,zK [0,5,8,64,65,66] [21,129]),(35,zK [0,5,8,64,65,66] [21,129]),(36,zK [2] [])],
 [(3,zK [0,3,23,24] [21]),(9,zK [0,3,5] [21]),(12,zK [0,3,5,48,49,50] [21]),(18,⟨[0,5,8,64,65,66],[21],[],[],[],[],[(8,1005,λ _=>zaB default)]⟩),(24,⟨[0,5,8,9,10,11,12,13,14,64,65,66],[9,10,11,12,13,14,21,129],[],[(11,0,129,130,λ _=>zaB default)],[],[],[]⟩),(27,zK [0,5,8,9,10,11,12,13,14,64,65,66,87] [9,10,11,12,13,14,21,129])],
 [(7,zK [0,3] [21]),(16,zK [0,3,5] [21]),(34,zK [0,5,8,11,64,65,66,144] [11,21,129])],
 [],[]⟩
abbrev R89:=(Sl step)
abbrev e89 (r:R89):List PA:=[.one (.sl r.len 5 (λ i=>zaB (r.get i)))]
@[irreducible] def z89:=ptF Tryd.prog G89 zvR Tryd.f89
@[irreducible] def x89:=exF Tryd.prog G89 zvR Tryd.f89
@[irreducible] def y89:=rnF Tryd.prog G89 zvR Tryd.f89
def zBb (w:web) (zcE:Int) (zcX:(Sl (Sl Tab))) (zfx:Nat->List PV):St:=⟨[(0,zP (.fp (zaz w) 0)),(3,zv 21),(23,zI (w.Net.Nodes.toNat:Int)),(24,zI zcE)],[(21,.vec 159 1 24 zcX.len zfx)],[]⟩
abbrev zGW (K:List PA->Prop) (w:web) (X:St->Prop) (P:Int->(Sl (Sl Tab))->Bool) (S:Int->(Sl (Sl Tab))->(Sl step)):Prop:=∀ ⦃zcE:Int⦄ ⦃zcX:(Sl (Sl Tab))⦄ ⦃zfx:Nat->List PV⦄,P zcE zcX=true->K (e89 (S zcE zcX))->zfx=zg zcC zcX->X (zBb w zcE zcX zfx)
def zBc (w:web) (zbb:(Sl (Sl Tab))) (zcq:Int):St:=⟨[(0,zP (.fp (zaz w) 0)),(3,zv 21),(5,zI zcq)],[(21,.vec 159 1 24 zbb.len (λ i=>zcC (zbb.get i)))],[]⟩
abbrev zC7 (K:List PA->Prop) (w:web) (zbb:(Sl (Sl Tab))) (X:St->Prop) (P:Int->Bool) (S:Int->(Sl step)):Prop:=∀ ⦃zcq:Int⦄,P zcq=true->K (e89 (S zcq))->X (zBc w zbb zcq)
def zBd (w:web) (zbb:(Sl (Sl Tab))) (zb1:Int) (zcJ:Int):St:=⟨[(0,zP (.fp (zaz w) 0)),(3,zv 21),(5,zI zb1),(48,zv 21),(49,zI (zbb.len:Int)),(50,zI zcJ)],[(21,.vec 159 1 24 zbb.len (λ i=>zcC (zbb.get i)))],[]⟩
abbrev zGX (K:List PA->Prop) (w:web) (zbb:(Sl (Sl Tab))) (X:St->Prop) (P:Int->Int->Bool) (S:Int->Int->(Sl step)):Prop:=∀ ⦃zb1:Int⦄ ⦃zcJ:Int⦄,P zb1 zcJ=true->K (e89 (S zb1 zcJ))->X (zBd w zbb zb1 zcJ)
def zBe (w:web) (zaL:(Sl (Sl Tab))) (zb2:Int) (zbB:Bool) (zcl:(Sl step)) (zb8:Int) (zcN:(Sl (Sl Tab))) (zeb:Nat->List PV) (zfy:Nat->List PV):St:=⟨[(0,zP (.fp (zaz w) 0)),(5,zI zb2),(8,zP (.ns zbB zcl.len 5 zeb)),(64,zv 21),(65,zI (zaL.len:Int)),(66,zI zb8)],[(21,.vec 159 1 24 zcN.len zfy)],[]⟩
abbrev zvS (K:List PA->Prop) (w:web) (zaL:(Sl (Sl Tab))) (X:St->Prop) (P:Int->Bool->(Sl step)->Int->(Sl (Sl Tab))->Bool) (S:Int->Bool->(Sl step)->Int->(Sl (Sl Tab))->(Sl step)):Prop:=∀ ⦃zb2:Int⦄ ⦃zbB:Bool⦄ ⦃zcl:(Sl step)⦄ ⦃zb8:Int⦄ ⦃zcN:(Sl (Sl Tab))⦄ ⦃zeb:Nat->List PV⦄ ⦃zfy:Nat->List PV⦄,P zb2 zbB zcl zb8 zcN=true->K (e89 (S zb2 zbB zcl zb8 zcN))->zeb=zg zaB zcl->zfy=zg zcC zcN->X (zBe w zaL zb2 zbB zcl zb8 zcN zeb zfy)
def zBf (w:web) (zaL:(Sl (Sl Tab))) (zcr:Int) (zbj:Bool) (zbO:(Sl step)) (zdX:Int) (iv6:Int) (hv6:(Sl Tab)) (znr:Int) (zbH:Int) (kv6:Int) (zdy:(Sl (Sl Tab))) (zbQ:(Sl step)) (zec:Nat->List PV) (zox:Nat->List PV) (zfz:Nat->List PV) (zed:Nat->List PV):St:=⟨[(0,zP (.fp (zaz w) 0)),(5,zI zcr),(8,zP (.ns zbj zbO.len 5 zec)),(9,zp 9 0),(10,zp 10 0),(11,zp 11 0),(12,zp 12 0),(13,zp 13 0),(14,zp 14 0),(64,zv 21),(65,zI (zaL.len:Int)),(66,zI zdX)],[(9,.box 3 [zi iv6]),(10,.box 159 [.p (.sl hv6.len 80 zox)]),(11,.box 127 [.vec 129]),(12,.box 3 [zi znr]),(13,.box 3 [zi zbH]),(14,.box 3 [zi kv6]),(21,.vec 159 1 24 zdy.len zfz),(129,.vec 130 5 40 zbQ.len zed)],[]⟩
abbrev zC8 (K:List PA->Prop) (w:web) (zaL:(Sl (Sl Tab))) (X:St->Prop) (P:Int->Bool->(Sl step)->Int->Int->(Sl Tab)->Int->Int->Int->(Sl (Sl Tab))->(Sl step)->Bool) (S:Int->Bool->(Sl step)->Int->Int->(Sl Tab)->Int->Int->Int->(Sl (Sl Tab))->(Sl step)->(Sl step)):Prop:=∀ ⦃zcr:Int⦄ ⦃zbj:Bool⦄ ⦃zbO:(Sl step)⦄ ⦃zdX:Int⦄ ⦃iv6:Int⦄ ⦃hv6:(Sl Tab)⦄ ⦃znr:Int⦄ ⦃zbH:Int⦄ ⦃kv6:Int⦄ ⦃zdy:(Sl (Sl Tab))⦄ ⦃zbQ:(Sl step)⦄ ⦃zec:Nat->List PV⦄ ⦃zox:Nat->List PV⦄ ⦃zfz:Nat->List PV⦄ ⦃zed:Nat->List PV⦄,P zcr zbj zbO zdX iv6 hv6 znr zbH kv6 zdy zbQ=true->K (e89 (S zcr zbj zbO zdX iv6 hv6 znr zbH kv6 zdy zbQ))->zec=zg zaB zbO->zox=zg zak hv6->zfz=zg zcC zdy->zed=zg zaB zbQ->X (zBf w zaL zcr zbj zbO zdX iv6 hv6 znr zbH kv6 zdy zbQ zec zox zfz zed)
def zvT (w:web) (zaL:(Sl (Sl Tab))) (zbE:Int) (zaY:Bool) (zbC:(Sl step)) (zcx:Int) (iv7:Int) (hv7:(Sl Tab)) (zgn:Int) (zaT:Int) (kv7:Int) (zco:(Sl (Sl Tab))) (zbm:(Sl step)) (zc6:Nat->List PV) (zk3:Nat->List PV) (zek:Nat->List PV) (zc7:Nat->List PV):St:=⟨[(0,zP (.fp (zaz w) 0)),(5,zI zbE),(8,zP (.ns zaY zbC.len 5 zc6)),(9,zp 9 0),(10,zp 10 0),(11,zp 11 0),(12,zp 12 0),(13,zp 13 0),(14,zp 14 0),(64,zv 21),(65,zI (zaL.len:Int)),(66,zI zcx),(87,zP (.fn 110 [] [.fp [.fp (zaz w) 0] 0]))],[(9,.box 3 [zi iv7]),(10,.box 159 [.p (.sl hv7.len 80 zk3)]),(11,.box 127 [.vec 129]),(12,.box 3 [zi zgn]),(13,.box 3 [zi zaT]),(14,.box 3 [zi kv7]),(21,.vec 159 1 24 zco.len zek),(129,.vec 130 5 40 zbm.len zc7)],[]⟩
abbrev zGY (K:List PA->Prop) (w:web) (zaL:(Sl (Sl Tab))) (X:St->Prop) (P:Int->Bool->(Sl step)->Int->Int->(Sl Tab)->Int->Int->Int->(Sl (Sl Tab))->(Sl step)->Bool) (S:Int->Bool->(Sl step)->Int->Int->(Sl Tab)->Int->Int->Int->(Sl (Sl Tab))->(Sl step)->(Sl step)):Prop:=∀ ⦃zbE:Int⦄ ⦃zaY:Bool⦄ ⦃zbC:(Sl step)⦄ ⦃zcx:Int⦄ ⦃iv7:Int⦄ ⦃hv7:(Sl Tab)⦄ ⦃zgn:Int⦄ ⦃zaT:Int⦄ ⦃kv7:Int⦄ ⦃zco:(Sl (Sl Tab))⦄ ⦃zbm:(Sl step)⦄ ⦃zc6:Nat->List PV⦄ ⦃zk3:Nat->List PV⦄ ⦃zek:Nat->List PV⦄ ⦃zc7:Nat->List PV⦄,P zbE zaY zbC zcx iv7 hv7 zgn zaT kv7 zco zbm=true->K (e89 (S zbE zaY zbC zcx iv7 hv7 zgn zaT kv7 zco zbm))->zc6=zg zaB zbC->zk3=zg zak hv7->zek=zg zcC zco->zc7=zg zaB zbm->X (zvT w zaL zbE zaY zbC zcx iv7 hv7 zgn zaT kv7 zco zbm zc6 zk3 zek zc7)
section
variable {K:List PA->Prop}{w:web}{zcE:Int}{zcX:(Sl (Sl Tab))}{zfx:Nat->List PV}{X0:St->Prop}{P0:Int->(Sl (Sl Tab))->Bool}{S0:Int->(Sl (Sl Tab))->(Sl step)}{zbb:(Sl (Sl Tab))}{zvU:Nat->List PV}{zcq:Int}{X2:St->Prop}{P2:Int->Bool}{S2:Int->(Sl step)}{zb1:Int}{zcJ:Int}{X3:St->Prop}{P3:Int->Int->Bool}{S3:Int->Int->(Sl step)}{zks:Int}{zaL:(Sl (Sl Tab))}{zvV:Nat->List PV}{zb2:Int}{zbB:Bool}{zcl:(Sl step)}{zb8:Int}{zcN:(Sl (Sl Tab))}{zeb:Nat->List PV}{zfy:Nat->List PV}{X5:St->Prop}{P5:Int->Bool->(Sl step)->Int->(Sl (Sl Tab))->Bool}{S5:Int->Bool->(Sl step)->Int->(Sl (Sl Tab))->(Sl step)}{zcr:Int}{zbj:Bool}{zbO:(Sl step)}{zdX:Int}{iv6:Int}{hv6:(Sl Tab)}{znr:Int}{zbH:Int}{kv6:Int}{zdy:(Sl (Sl Tab))}{zbQ:(Sl step)}{zec:Nat->List PV}{zox:Nat->List PV}{zfz:Nat->List PV}{zed:Nat->List PV}{X6:St->Prop}{P6:Int->Bool->(Sl step)->Int->Int->(Sl Tab)->Int->Int->Int->(Sl (Sl Tab))->(Sl step)->Bool}{S6:Int->Bool->(Sl step)->Int->Int->(Sl Tab)->Int->Int->Int->(Sl (Sl Tab))->(Sl step)->(Sl step)}{zbE:Int}{zaY:Bool}{zbC:(Sl step)}{zcx:Int}{iv7:Int}{hv7:(Sl Tab)}{zgn:Int}{zaT:Int}{kv7:Int}{zco:(Sl (Sl Tab))}{zbm:(Sl step)}{zc6:Nat->List PV}{zk3:Nat->List PV}{zek:Nat->List PV}{zc7:Nat->List PV}{zhi:Int}{ze0:Bool}{ziR:(Sl step)}{zmR:Int}{zkt:Bool}{zk4:(Sl (Sl Tab))}{ziS:(Sl step)}{zr4:Nat->List PV}{zvW:Nat->List PV}{zr5:Nat->List PV}
def zhL (S5:Int->Bool->(Sl step)->Int->(Sl (Sl Tab))->(Sl step)) (w:web) (zaL:(Sl (Sl Tab))) (zhi:Int) (ze0:Bool) (ziR:(Sl step)) (zmR:Int) (zkt:Bool) (zk4:(Sl (Sl Tab))) (ziS:(Sl step)):(Sl step) :=
  (cond zkt
 (S5 zhi false ziS (w64 (zmR+(1:Int))) zk4)
 (S5 zhi ze0 ziR (w64 (zmR+(1:Int))) zk4))
def zhM (P5:Int->Bool->(Sl step)->Int->(Sl (Sl Tab))->Bool) (w:web) (zaL:(Sl (Sl Tab))) (zhi:Int) (ze0:Bool) (ziR:(Sl step)) (zmR:Int) (zkt:Bool) (zk4:(Sl (Sl Tab))) (ziS:(Sl step)):Bool :=
  (cond zkt
 (P5 zhi false ziS (w64 (zmR+(1:Int))) zk4)
 (P5 zhi ze0 ziR (w64 (zmR+(1:Int))) zk4))
theorem zvX (hX5:zvS K w zaL X5 P5 S5) (hs:zhM P5 w zaL zhi ze0 ziR zmR zkt zk4 ziS=true) (hk:K (e89 (zhL S5 w zaL zhi ze0 ziR zmR zkt zk4 ziS))) (zz4:zr4=zg zaB ziR) (zC9:zvW=zg zcC zk4) (zz5:zr5=zg zaB ziS):z89 K [1,0,1,1,1,1,1,1,0,1,0,0,1,1,0,0,1,1,1,1,1,1] [X5] ⟨[(0,zP (.fp (zaz w) 0)),(5,zI zhi),(8,zP (.ns ze0 ziR.len 5 zr4)),(11,zp 11 0),(64,zv 21),(65,zI (zaL.len:Int)),(66,zI zmR),(144,zB zkt)],[(11,.box 127 [.vec 129]),(21,.vec 159 1 24 zk4.len zvW),(129,.vec 130 5 40 ziS.len zr5)],[]⟩:=by subst zz4;subst zC9;subst zz5;exact za4 (by kernel_rfl) (zc hs hk (λ hs hk=>(hX5 hs hk rfl rfl)) (λ hs hk=>(hX5 hs hk rfl rfl)))
def zDa (S5:Int->Bool->(Sl step)->Int->(Sl (Sl Tab))->(Sl step)) (S6:Int->Bool->(Sl step)->Int->Int->(Sl Tab)->Int->Int->Int->(Sl (Sl Tab))->(Sl step)->(Sl step)) (w:web) (zaL:(Sl (Sl Tab))) (zbE:Int) (zaY:Bool) (zbC:(Sl step)) (zcx:Int) (iv7:Int) (hv7:(Sl Tab)) (zgn:Int) (zaT:Int) (kv7:Int) (zco:(Sl (Sl Tab))) (zbm:(Sl step)):(Sl step) :=
  (S6 zbE zaY zbC zcx iv7 hv7 zgn zaT (w64 (kv7 - (1:Int))) zco zbm)
def zDb (P5:Int->Bool->(Sl step)->Int->(Sl (Sl Tab))->Bool) (P6:Int->Bool->(Sl step)->Int->Int->(Sl Tab)->Int->Int->Int->(Sl (Sl Tab))->(Sl step)->Bool) (w:web) (zaL:(Sl (Sl Tab))) (zbE:Int) (zaY:Bool) (zbC:(Sl step)) (zcx:Int) (iv7:Int) (hv7:(Sl Tab)) (zgn:Int) (zaT:Int) (kv7:Int) (zco:(Sl (Sl Tab))) (zbm:(Sl step)):Bool :=
  (P6 zbE zaY zbC zcx iv7 hv7 zgn zaT (w64 (kv7 - (1:Int))) zco zbm)
def zpQ (S5:Int->Bool->(Sl step)->Int->(Sl (Sl Tab))->(Sl step)) (S6:Int->Bool->(Sl step)->Int->Int->(Sl Tab)->Int->Int->Int->(Sl (Sl Tab))->(Sl step)->(Sl step)) (w:web) (zaL:(Sl (Sl Tab))) (y7:step) (S7:Int->Bool->(Sl step)->Int->Int->(Sl Tab)->Int->Int->Int->(Sl (Sl Tab))->(Sl step)->(Sl step)) (zbE:Int) (zaY:Bool) (zbC:(Sl step)) (zcx:Int) (iv7:Int) (hv7:(Sl Tab)) (zgn:Int) (zaT:Int) (kv7:Int) (zco:(Sl (Sl Tab))) (zbm:(Sl step)):(Sl step) :=
  (cond (y7.from_ == zgn)
 (cond (decide (y7.to >= iv7))
 (cond (!(nvr (tL (hv7.get kv7.toNat) y7.to) (tU (hv7.get kv7.toNat) y7.to)))
 (cond (decide ((w64 ((w64 (zaT + y7.length)) + (tL (hv7.get kv7.toNat) y7.to))) < (0:Int)))
 (S6 zbE zaY zbC zcx iv7 hv7 y7.to (w64 (zaT+y7.length)) (w64 (kv7 - (1:Int))) zco (⟨(zbm.len+1),(zfn zbm.len zbm.get (λ _=>y7))⟩:Sl step))
 (S7 zbE zaY zbC zcx iv7 hv7 zgn zaT kv7 zco zbm))
 (S7 zbE zaY zbC zcx iv7 hv7 zgn zaT kv7 zco zbm))
 (S7 zbE zaY zbC zcx iv7 hv7 zgn zaT kv7 zco zbm))
 (S7 zbE zaY zbC zcx iv7 hv7 zgn zaT kv7 zco zbm))
def zpR (P5:Int->Bool->(Sl step)->Int->(Sl (Sl Tab))->Bool) (P6:Int->Bool->(Sl step)->Int->Int->(Sl Tab)->Int->Int->Int->(Sl (Sl Tab))->(Sl step)->Bool) (w:web) (zaL:(Sl (Sl Tab))) (y7:step) (P7:Int->Bool->(Sl step)->Int->Int->(Sl Tab)->Int->Int->Int->(Sl (Sl Tab))->(Sl step)->Bool) (zbE:Int) (zaY:Bool) (zbC:(Sl step)) (zcx:Int) (iv7:Int) (hv7:(Sl Tab)) (zgn:Int) (zaT:Int) (kv7:Int) (zco:(Sl (Sl Tab))) (zbm:(Sl step)):Bool :=
  (cond (y7.from_ == zgn)
 (cond (decide (y7.to >= iv7))
 (decide ((0<=kv7/\kv7 < (hv7.len:Int))) &&
 (decide ((0<=y7.to/\y7.to < (40:Int))) &&
 (cond (!(nvr (tL (hv7.get kv7.toNat) y7.to) (tU (hv7.get kv7.toNat) y7.to)))
 (decide ((0<=kv7/\kv7 < (hv7.len:Int))) &&
 (decide ((0<=y7.to/\y7.to < (40:Int))) &&
 (cond (decide ((w64 ((w64 (zaT + y7.length)) + (tL (hv7.get kv7.toNat) y7.to))) < (0:Int)))
 (decide (((zbm.len+1) * 40<=140737488355328/\zbm.len+1<=9223372036854775807)) &&
 (P6 zbE zaY zbC zcx iv7 hv7 y7.to (w64 (zaT+y7.length)) (w64 (kv7 - (1:Int))) zco (⟨(zbm.len+1),(zfn zbm.len zbm.get (λ _=>y7))⟩:Sl step)))
 (P7 zbE zaY zbC zcx iv7 hv7 zgn zaT kv7 zco zbm))))
 (P7 zbE zaY zbC zcx iv7 hv7 zgn zaT kv7 zco zbm))))
 (P7 zbE zaY zbC zcx iv7 hv7 zgn zaT kv7 zco zbm))
 (P7 zbE zaY zbC zcx iv7 hv7 zgn zaT kv7 zco zbm))
def zcY (S5:Int->Bool->(Sl step)->Int->(Sl (Sl Tab))->(Sl step)) (S6:Int->Bool->(Sl step)->Int->Int->(Sl Tab)->Int->Int->Int->(Sl (Sl Tab))->(Sl step)->(Sl step)) (w:web) (zaL:(Sl (Sl Tab))):List step->Int->Bool->(Sl step)->Int->Int->(Sl Tab)->Int->Int->Int->(Sl (Sl Tab))->(Sl step)->(Sl step):=lpR (zDa S5 S6 w zaL) (zpQ S5 S6 w zaL)
def zcZ (P5:Int->Bool->(Sl step)->Int->(Sl (Sl Tab))->Bool) (P6:Int->Bool->(Sl step)->Int->Int->(Sl Tab)->Int->Int->Int->(Sl (Sl Tab))->(Sl step)->Bool) (w:web) (zaL:(Sl (Sl Tab))):List step->Int->Bool->(Sl step)->Int->Int->(Sl Tab)->Int->Int->Int->(Sl (Sl Tab))->(Sl step)->Bool:=lpR (zDb P5 P6 w zaL) (zpR P5 P6 w zaL)
def zpS (S5:Int->Bool->(Sl step)->Int->(Sl (Sl Tab))->(Sl step)) (S6:Int->Bool->(Sl step)->Int->Int->(Sl Tab)->Int->Int->Int->(Sl (Sl Tab))->(Sl step)->(Sl step)) (w:web) (zaL:(Sl (Sl Tab))) (zbE:Int) (zaY:Bool) (zbC:(Sl step)) (zcx:Int) (iv7:Int) (hv7:(Sl Tab)) (zgn:Int) (zaT:Int) (kv7:Int) (zco:(Sl (Sl Tab))) (zbm:(Sl step)):(Sl step):=zcY S5 S6 w zaL (zkn w) zbE zaY zbC zcx iv7 hv7 zgn zaT kv7 zco zbm
def zpT (P5:Int->Bool->(Sl step)->Int->(Sl (Sl Tab))->Bool) (P6:Int->Bool->(Sl step)->Int->Int->(Sl Tab)->Int->Int->Int->(Sl (Sl Tab))->(Sl step)->Bool) (w:web) (zaL:(Sl (Sl Tab))) (zbE:Int) (zaY:Bool) (zbC:(Sl step)) (zcx:Int) (iv7:Int) (hv7:(Sl Tab)) (zgn:Int) (zaT:Int) (kv7:Int) (zco:(Sl (Sl Tab))) (zbm:(Sl step)):Bool:=decide ((ztt w=true)) && zcZ P5 P6 w zaL (zkn w) zbE zaY zbC zcx iv7 hv7 zgn zaT kv7 zco zbm
theorem zDc (hX5:zvS K w zaL X5 P5 S5) (hX6:zC8 K w zaL X6 P6 S6) (hs:zpT P5 P6 w zaL zbE zaY zbC zcx iv7 hv7 zgn zaT kv7 zco zbm=true) (hk:K (e89 (zpS S5 S6 w zaL zbE zaY zbC zcx iv7 hv7 zgn zaT kv7 zco zbm))) (zhj:zc6=zg zaB zbC) (zvY:zk3=zg zak hv7) (zku:zek=zg zcC zco) (zhk:zc7=zg zaB zbm):z89 K [1,0,1,1,1,1,1,1,0,1,0,0,1,1,0,0,1,1,1,1,0,1,0,0,1,0,0,1,0] [X5,X6] (zvT w zaL zbE zaY zbC zcx iv7 hv7 zgn zaT kv7 zco zbm zc6 zk3 zek zc7) :=
  zaR hs λ hc hs=>zr (enc:=(λ y:step=>[.agg (zaB y)])) (ys:=zkn w) (g:=(zvT w zaL zbE zaY zbC zcx iv7 hv7 zgn zaT kv7 zco zbm zc6 zk3 zek zc7)) (x89 K [1,0,1,1,1,1,1,1,0,1,0,0,1,1,0,0,1,1,1,1,0,1,0,0,1,0,0,1,0] [X5,X6]) (y89 K [1,0,1,1,1,1,1,1,0,1,0,0,1,1,0,0,1,1,1,1,0,1,0,0,1,0,0,1,0] [X5,X6]) (by kernel_rfl) (And.intro (zE enc_40 4 w.Net.Ties.get) (And.intro (rfl:((false,1,false,[none]):MQ)=(false,1,false,[none])) hc)) λ X7 hE hR =>
  (show ∀ l : List step, zGY K w zaL (X7 (l.map (λ y : step => [.agg (zaB y)]))) (zcZ P5 P6 w zaL l) (zcY S5 S6 w zaL l) from zri (X := X7) (enc := (λ y : step => [.agg (zaB y)])) _ _ (zpR P5 P6 w zaL) (zpQ S5 S6 w zaL) (λ Z P S => zGY K w zaL Z P S)
 (by intro zbE zaY zbC zcx iv7 hv7 zgn zaT kv7 zco zbm zc6 zk3 zek zc7 hs hk zhj zvY zku zhk;subst zhj;subst zvY;subst zku;subst zhk;exact hE _ (za4 (by kernel_rfl) (hX6 hs hk rfl rfl rfl rfl)))
 (by intro y7 rest P7 S7 hX7 zbE zaY zbC zcx iv7 hv7 zgn zaT kv7 zco zbm zc6 zk3 zek zc7 hs hk zhj zvY zku zhk;subst zhj;subst zvY;subst zku;subst zhk;exact hR _ rest _ (za4 (by kernel_rfl) (zc hs hk (λ hs hk=>(zc hs hk (λ hs hk=>(zaR hs λ hc hs=>And.intro hc (zaR hs λ hc hs=>And.intro hc (zc hs hk (λ hs hk=>(zaR hs λ hc hs=>And.intro hc (zaR hs λ hc hs=>And.intro hc (zc hs hk (λ hs hk=>(zaR hs λ hc hs=>And.intro hc (hX6 hs hk rfl rfl rfl (zkj (enc:=zaB) (f:=zbm.get) (h:=(λ _=>y7)) rfl rfl)))) (λ hs hk=>(hX7 hs hk rfl rfl rfl rfl)))))) (λ hs hk=>(hX7 hs hk rfl rfl rfl rfl)))))) (λ hs hk=>(hX7 hs hk rfl rfl rfl rfl)))) (λ hs hk=>(hX7 hs hk rfl rfl rfl rfl)))))) _ hs hk zhj zvY zku zhk
def zhN (S5:Int->Bool->(Sl step)->Int->(Sl (Sl Tab))->(Sl step)) (w:web) (zaL:(Sl (Sl Tab))) (S6:Int->Bool->(Sl step)->Int->Int->(Sl Tab)->Int->Int->Int->(Sl (Sl Tab))->(Sl step)->(Sl step)) (zcr:Int) (zbj:Bool) (zbO:(Sl step)) (zdX:Int) (iv6:Int) (hv6:(Sl Tab)) (znr:Int) (zbH:Int) (kv6:Int) (zdy:(Sl (Sl Tab))) (zbQ:(Sl step)):(Sl step) :=
  (cond (decide (kv6 >= (0:Int)))
 (zpS S5 S6 w zaL zcr zbj zbO zdX iv6 hv6 znr zbH kv6 zdy zbQ)
 (cond zbj
 (zhL S5 w zaL zcr zbj zbO zdX true zdy zbQ)
 (zhL S5 w zaL zcr zbj zbO zdX (decide ((zC5 zbQ zbO) < (0:Int))) zdy zbQ)))
def zhO (P5:Int->Bool->(Sl step)->Int->(Sl (Sl Tab))->Bool) (w:web) (zaL:(Sl (Sl Tab))) (P6:Int->Bool->(Sl step)->Int->Int->(Sl Tab)->Int->Int->Int->(Sl (Sl Tab))->(Sl step)->Bool) (zcr:Int) (zbj:Bool) (zbO:(Sl step)) (zdX:Int) (iv6:Int) (hv6:(Sl Tab)) (znr:Int) (zbH:Int) (kv6:Int) (zdy:(Sl (Sl Tab))) (zbQ:(Sl step)):Bool :=
  (cond (decide (kv6 >= (0:Int)))
 (zpT P5 P6 w zaL zcr zbj zbO zdX iv6 hv6 znr zbH kv6 zdy zbQ)
 (decide ((zbj=true\/zbO.len ≠ 0)) &&
 (cond zbj
 (zhM P5 w zaL zcr zbj zbO zdX true zdy zbQ)
 (decide ((zGV zbQ zbO=true)) &&
 (zhM P5 w zaL zcr zbj zbO zdX (decide ((zC5 zbQ zbO) < (0:Int))) zdy zbQ)))))
def zgC (S5:Int->Bool->(Sl step)->Int->(Sl (Sl Tab))->(Sl step)) (w:web) (zaL:(Sl (Sl Tab))):Nat->Int->Bool->(Sl step)->Int->Int->(Sl Tab)->Int->Int->Int->(Sl (Sl Tab))->(Sl step)->(Sl step):=lpO (λ _ _ _ _ _ _ _ _ _ _ _=>default) (zhN S5 w zaL)
def zgD (P5:Int->Bool->(Sl step)->Int->(Sl (Sl Tab))->Bool) (w:web) (zaL:(Sl (Sl Tab))):Nat->Int->Bool->(Sl step)->Int->Int->(Sl Tab)->Int->Int->Int->(Sl (Sl Tab))->(Sl step)->Bool:=lpO (λ _ _ _ _ _ _ _ _ _ _ _=>false) (zhO P5 w zaL)
def zpU (S5:Int->Bool->(Sl step)->Int->(Sl (Sl Tab))->(Sl step)) (w:web) (zaL:(Sl (Sl Tab))) (zcr:Int) (zbj:Bool) (zbO:(Sl step)) (zdX:Int) (iv6:Int) (hv6:(Sl Tab)) (znr:Int) (zbH:Int) (kv6:Int) (zdy:(Sl (Sl Tab))) (zbQ:(Sl step)):(Sl step):=zgC S5 w zaL Fuel zcr zbj zbO zdX iv6 hv6 znr zbH kv6 zdy zbQ
def zpV (P5:Int->Bool->(Sl step)->Int->(Sl (Sl Tab))->Bool) (w:web) (zaL:(Sl (Sl Tab))) (zcr:Int) (zbj:Bool) (zbO:(Sl step)) (zdX:Int) (iv6:Int) (hv6:(Sl Tab)) (znr:Int) (zbH:Int) (kv6:Int) (zdy:(Sl (Sl Tab))) (zbQ:(Sl step)):Bool:=zgD P5 w zaL Fuel zcr zbj zbO zdX iv6 hv6 znr zbH kv6 zdy zbQ
theorem zDd (hX5:zvS K w zaL X5 P5 S5) (hs:zpV P5 w zaL zcr zbj zbO zdX iv6 hv6 znr zbH kv6 zdy zbQ=true) (hk:K (e89 (zpU S5 w zaL zcr zbj zbO zdX iv6 hv6 znr zbH kv6 zdy zbQ))) (zmS:zec=zg zaB zbO) (zDe:zox=zg zak hv6) (zpW:zfz=zg zcC zdy) (zmT:zed=zg zaB zbQ):z89 K [1,0,1,1,1,1,1,1,0,1,0,0,1,1,0,0,1,1,1,1,0,1,0] [X5] (zBf w zaL zcr zbj zbO zdX iv6 hv6 znr zbH kv6 zdy zbQ zec zox zfz zed) :=
  zl (λ X=>z89 K [1,0,1,1,1,1,1,1,0,1,0,0,1,1,0,0,1,1,1,1,0,1,0,0] [X5,X]) (by kernel_rfl) λ X6 hX =>
  (show ∀ k, zC8 K w zaL X6 (zgD P5 w zaL k) (zgC S5 w zaL k) from zfc _ _ (zhO P5 w zaL) (zhN S5 w zaL) (zC8 K w zaL X6)
 (by intro _ _ _ _ _ _ _ _ _ _ _ _ _ _ _ hs;exact absurd hs dqk)
 (by intro P6 S6 hX6 zcr zbj zbO zdX iv6 hv6 znr zbH kv6 zdy zbQ zec zox zfz zed hs hk zmS zDe zpW zmT;subst zmS;subst zDe;subst zpW;subst zmT;exact hX _ (za4 (by kernel_rfl) (zc hs hk (λ hs hk=>(And.intro (And.intro (zE enc_40 4 w.Net.Ties.get) (rfl:((false,1,false,[none]):MQ)=(false,1,false,[none]))) (zDc hX5 hX6 hs hk rfl rfl rfl rfl))) (λ hs hk=>(zaR hs λ hc hs=>And.intro hc (zc hs hk (λ hs hk=>(zvX hX5 hs hk rfl rfl rfl)) (λ hs hk=>(zaR hs λ hc hs=>And.intro (And.intro (zE zaB 5 zbQ.get) (And.intro (zE zaB 5 zbO.get) hc)) (zvX hX5 hs hk rfl rfl rfl)))))))))) _ hs hk zmS zDe zpW zmT
def zhP (w:web) (zaL:(Sl (Sl Tab))) (S5:Int->Bool->(Sl step)->Int->(Sl (Sl Tab))->(Sl step)) (zb2:Int) (zbB:Bool) (zcl:(Sl step)) (zb8:Int) (zcN:(Sl (Sl Tab))):(Sl step) :=
  (cond (decide (zb8 < (zaL.len : Int)))
 (cond (decide ((tL ((zcN.get zb8.toNat).get zb2.toNat) zb8) >= (0:Int)))
 (S5 zb2 zbB zcl (w64 (zb8+(1:Int))) zcN)
 (zpU S5 w zaL zb2 zbB zcl zb8 zb8 (zcN.get zb8.toNat) zb8 (0:Int) (w64 (zb2 - (1:Int))) zcN (⟨0,(λ _=>default)⟩:Sl step)))
 zcl)
def zhQ (w:web) (zaL:(Sl (Sl Tab))) (P5:Int->Bool->(Sl step)->Int->(Sl (Sl Tab))->Bool) (zb2:Int) (zbB:Bool) (zcl:(Sl step)) (zb8:Int) (zcN:(Sl (Sl Tab))):Bool :=
  (cond (decide (zb8 < (zaL.len : Int)))
 (decide ((0<=zb8/\zb8 < (zcN.len:Int))) &&
 (decide ((zb8.toNat < zcN.len)) &&
 (decide ((0<=zb2/\zb2 < ((zcN.get zb8.toNat).len:Int))) &&
 (decide ((0<=zb8/\zb8 < (40:Int))) &&
 (cond (decide ((tL ((zcN.get zb8.toNat).get zb2.toNat) zb8) >= (0:Int)))
 (P5 zb2 zbB zcl (w64 (zb8+(1:Int))) zcN)
 (zpV P5 w zaL zb2 zbB zcl zb8 zb8 (zcN.get zb8.toNat) zb8 (0:Int) (w64 (zb2 - (1:Int))) zcN (⟨0,(λ _=>default)⟩:Sl step)))))))
 true)
def zdO (w:web) (zaL:(Sl (Sl Tab))):Nat->Int->Bool->(Sl step)->Int->(Sl (Sl Tab))->(Sl step):=lpO (λ _ _ _ _ _=>default) (zhP w zaL)
def zdP (w:web) (zaL:(Sl (Sl Tab))):Nat->Int->Bool->(Sl step)->Int->(Sl (Sl Tab))->Bool:=lpO (λ _ _ _ _ _=>false) (zhQ w zaL)
def zvZ (w:web) (zaL:(Sl (Sl Tab))) (zb2:Int) (zbB:Bool) (zcl:(Sl step)) (zb8:Int) (zcN:(Sl (Sl Tab))):(Sl step):=zdO w zaL Fuel zb2 zbB zcl zb8 zcN
def zv0 (w:web) (zaL:(Sl (Sl Tab))) (zb2:Int) (zbB:Bool) (zcl:(Sl step)) (zb8:Int) (zcN:(Sl (Sl Tab))):Bool:=zdP w zaL Fuel zb2 zbB zcl zb8 zcN
theorem zDf (hs:zv0 w zaL zb2 zbB zcl zb8 zcN=true) (hk:K (e89 (zvZ w zaL zb2 zbB zcl zb8 zcN))) (zmU:zeb=zg zaB zcl) (zpX:zfy=zg zcC zcN):z89 K [1,0,1,1,1,1,1,1,0,1,0] [] (zBe w zaL zb2 zbB zcl zb8 zcN zeb zfy) :=
  zl (λ X=>z89 K [1,0,1,1,1,1,1,1,0,1,0,0] [X]) (by kernel_rfl) λ X5 hX =>
  (show ∀ k, zvS K w zaL X5 (zdP w zaL k) (zdO w zaL k) from zfc _ _ (zhQ w zaL) (zhP w zaL) (zvS K w zaL X5)
 (by intro _ _ _ _ _ _ _ hs;exact absurd hs dqk)
 (by intro P5 S5 hX5 zb2 zbB zcl zb8 zcN zeb zfy hs hk zmU zpX;subst zmU;subst zpX;exact hX _ (za4 (by kernel_rfl) (zc hs hk (λ hs hk=>(zaR hs λ hc hs=>And.intro hc (zaR hs λ hc hs=>And.intro hc (zaR hs λ hc hs=>And.intro hc (zaR hs λ hc hs=>And.intro hc (zc hs hk (λ hs hk=>(hX5 hs hk rfl rfl)) (λ hs hk=>(zDd hX5 hs hk rfl rfl rfl rfl)))))))) (λ hs hk=>hk))))) _ hs hk zmU zpX
def zhR (w:web) (zks:Int) (zaL:(Sl (Sl Tab))):(Sl step) :=
  (zvZ w zaL zks true (⟨0,(λ _=>default)⟩:Sl step) (0:Int) zaL)
def zhS (w:web) (zks:Int) (zaL:(Sl (Sl Tab))):Bool :=
  (zv0 w zaL zks true (⟨0,(λ _=>default)⟩:Sl step) (0:Int) zaL)
theorem zv1 (hs:zhS w zks zaL=true) (hk:K (e89 (zhR w zks zaL))) (zDg:zvV=zg zcC zaL):z89 K [1,0,1,1,1,1,1] [] ⟨[(0,zP (.fp (zaz w) 0)),(3,zv 21),(5,zI zks)],[(21,.vec 159 1 24 zaL.len zvV)],[]⟩:=by subst zDg;exact za4 (by kernel_rfl) (zDf hs hk rfl rfl)
def zhT (S2:Int->(Sl step)) (w:web) (zbb:(Sl (Sl Tab))) (S3:Int->Int->(Sl step)) (zb1:Int) (zcJ:Int):(Sl step) :=
  (cond (decide (zcJ < (zbb.len : Int)))
 (cond (decide ((tL ((zbb.get zcJ.toNat).get zb1.toNat) zcJ) < (0:Int)))
 (zhR w zb1 zbb)
 (S3 zb1 (w64 (zcJ+(1:Int)))))
 (S2 (w64 (zb1+(1:Int)))))
def zhU (P2:Int->Bool) (w:web) (zbb:(Sl (Sl Tab))) (P3:Int->Int->Bool) (zb1:Int) (zcJ:Int):Bool :=
  (cond (decide (zcJ < (zbb.len : Int)))
 (decide ((0<=zcJ/\zcJ < (zbb.len:Int))) &&
 (decide ((zcJ.toNat < zbb.len)) &&
 (decide ((0<=zb1/\zb1 < ((zbb.get zcJ.toNat).len:Int))) &&
 (decide ((0<=zcJ/\zcJ < (40:Int))) &&
 (cond (decide ((tL ((zbb.get zcJ.toNat).get zb1.toNat) zcJ) < (0:Int)))
 (zhS w zb1 zbb)
 (P3 zb1 (w64 (zcJ+(1:Int)))))))))
 (P2 (w64 (zb1+(1:Int)))))
def ze1 (S2:Int->(Sl step)) (w:web) (zbb:(Sl (Sl Tab))):Nat->Int->Int->(Sl step):=lpO (λ _ _=>default) (zhT S2 w zbb)
def ze2 (P2:Int->Bool) (w:web) (zbb:(Sl (Sl Tab))):Nat->Int->Int->Bool:=lpO (λ _ _=>false) (zhU P2 w zbb)
def zv3 (S2:Int->(Sl step)) (w:web) (zbb:(Sl (Sl Tab))) (zb1:Int) (zcJ:Int):(Sl step):=ze1 S2 w zbb Fuel zb1 zcJ
def zv4 (P2:Int->Bool) (w:web) (zbb:(Sl (Sl Tab))) (zb1:Int) (zcJ:Int):Bool:=ze2 P2 w zbb Fuel zb1 zcJ
theorem zDh (hX2:zC7 K w zbb X2 P2 S2) (hs:zv4 P2 w zbb zb1 zcJ=true) (hk:K (e89 (zv3 S2 w zbb zb1 zcJ))):z89 K [1,0,1,1,1,1,0,1,0,0,1,0,0,1,0] [X2] (zBd w zbb zb1 zcJ) :=
  zl (λ X=>z89 K [1,0,1,1,1,1,0,1,0,0,1,0,0,1,0,0] [X2,X]) (by kernel_rfl) λ X3 hX =>
  (show ∀ k, zGX K w zbb X3 (ze2 P2 w zbb k) (ze1 S2 w zbb k) from zfc _ _ (zhU P2 w zbb) (zhT S2 w zbb) (zGX K w zbb X3)
 (by intro _ _ hs;exact absurd hs dqk)
 (by intro P3 S3 hX3 zb1 zcJ hs hk;exact hX _ (za4 (by kernel_rfl) (zc hs hk (λ hs hk=>(zaR hs λ hc hs=>And.intro hc (zaR hs λ hc hs=>And.intro hc (zaR hs λ hc hs=>And.intro hc (zaR hs λ hc hs=>And.intro hc (zc hs hk (λ hs hk=>(zv1 hs hk rfl)) (λ hs hk=>(hX3 hs hk)))))))) (λ hs hk=>(hX2 hs hk)))))) _ hs hk
def zhV (w:web) (zbb:(Sl (Sl Tab))) (S2:Int->(Sl step)) (zcq:Int):(Sl step) :=
  (cond (decide (zcq < w.Net.Nodes))
 (zv3 S2 w zbb zcq (0:Int))
 (zhR w zcq zbb))
def zhW (w:web) (zbb:(Sl (Sl Tab))) (P2:Int->Bool) (zcq:Int):Bool :=
  (cond (decide (zcq < w.Net.Nodes))
 (zv4 P2 w zbb zcq (0:Int))
 (zhS w zcq zbb))
def zel (w:web) (zbb:(Sl (Sl Tab))):Nat->Int->(Sl step):=lpO (λ _=>default) (zhV w zbb)
def zem (w:web) (zbb:(Sl (Sl Tab))):Nat->Int->Bool:=lpO (λ _=>false) (zhW w zbb)
def zv5 (w:web) (zbb:(Sl (Sl Tab))) (zcq:Int):(Sl step):=zel w zbb Fuel zcq
def zv6 (w:web) (zbb:(Sl (Sl Tab))) (zcq:Int):Bool:=zem w zbb Fuel zcq
theorem zDi (hs:zv6 w zbb zcq=true) (hk:K (e89 (zv5 w zbb zcq))):z89 K [1,0,1,1,1,1,0,1,0] [] (zBc w zbb zcq) :=
  zl (λ X=>z89 K [1,0,1,1,1,1,0,1,0,0] [X]) (by kernel_rfl) λ X2 hX =>
  (show ∀ k, zC7 K w zbb X2 (zem w zbb k) (zel w zbb k) from zfc _ _ (zhW w zbb) (zhV w zbb) (zC7 K w zbb X2)
 (by intro _ hs;exact absurd hs dqk)
 (by intro P2 S2 hX2 zcq hs hk;exact hX _ (za4 (by kernel_rfl) (zc hs hk (λ hs hk=>(zDh hX2 hs hk)) (λ hs hk=>(zv1 hs hk rfl)))))) _ hs hk
def zmV (w:web) (zbb:(Sl (Sl Tab))):(Sl step) :=
  (zv5 w zbb (1:Int))
def zmW (w:web) (zbb:(Sl (Sl Tab))):Bool :=
  (zv6 w zbb (1:Int))
theorem zDj (hs:zmW w zbb=true) (hk:K (e89 (zmV w zbb))) (zDk:zvU=zg zcC zbb):z89 K [1,0,1,1] [] ⟨[(0,zP (.fp (zaz w) 0)),(3,zv 21)],[(21,.vec 159 1 24 zbb.len zvU)],[]⟩:=by subst zDk;exact za4 (by kernel_rfl) (zDi hs hk)
def zhX (w:web) (S0:Int->(Sl (Sl Tab))->(Sl step)) (zcE:Int) (zcX:(Sl (Sl Tab))):(Sl step) :=
  (cond (decide (zcE < (w.Net.Nodes.toNat : Int)))
 (S0 (w64 (zcE+(1:Int))) (⟨zcX.len,(setT zcE.toNat (zrR w zcE w.Net.Nodes) zcX.get)⟩:Sl (Sl Tab)))
 (zmV w zcX))
def zhY (w:web) (P0:Int->(Sl (Sl Tab))->Bool) (zcE:Int) (zcX:(Sl (Sl Tab))):Bool :=
  (cond (decide (zcE < (w.Net.Nodes.toNat : Int)))
 (decide ((zFE w zcE w.Net.Nodes=true)) &&
 (decide ((0<=zcE/\zcE < (zcX.len:Int))) &&
 (decide ((zcE.toNat < zcX.len)) &&
 (P0 (w64 (zcE+(1:Int))) (⟨zcX.len,(setT zcE.toNat (zrR w zcE w.Net.Nodes) zcX.get)⟩:Sl (Sl Tab))))))
 (zmW w zcX))
def zgE (w:web):Nat->Int->(Sl (Sl Tab))->(Sl step):=lpO (λ _ _=>default) (zhX w)
def zgF (w:web):Nat->Int->(Sl (Sl Tab))->Bool:=lpO (λ _ _=>false) (zhY w)
def zv7 (w:web) (zcE:Int) (zcX:(Sl (Sl Tab))):(Sl step):=zgE w Fuel zcE zcX
def zmX (w:web) (zcE:Int) (zcX:(Sl (Sl Tab))):Bool:=zgF w Fuel zcE zcX
theorem zDl (hs:zmX w zcE zcX=true) (hk:K (e89 (zv7 w zcE zcX))) (zpY:zfx=zg zcC zcX):z89 K [1,0,1,0,1,0] [] (zBb w zcE zcX zfx) :=
  zl (λ X=>z89 K [1,0,1,0,1,0,0] [X]) (by kernel_rfl) λ X0 hX =>
  (show ∀ k, zGW K w X0 (zgF w k) (zgE w k) from zfc _ _ (zhY w) (zhX w) (zGW K w X0)
 (by intro _ _ _ hs;exact absurd hs dqk)
 (by intro P0 S0 hX0 zcE zcX zfx hs hk zpY;subst zpY;exact hX _ (za4 (by kernel_rfl) (zc hs hk (λ hs hk=>(zaR hs λ hc hs=>And.intro (And.intro (zE enc_40 4 w.Net.Ties.get) (And.intro (rfl:((false,1,false,[none]):MQ)=(false,1,false,[none])) hc)) (zaR hs λ hc hs=>And.intro hc (zaR hs λ hc hs=>And.intro hc (hX0 hs hk (ziJ (enc:=zcC) (i:=zcE.toNat) (k:=0) (f:=zcX.get) (new:=(zcC (zrR w zcE w.Net.Nodes))) (v:=(zrR w zcE w.Net.Nodes)) rfl rfl)))))) (λ hs hk=>(zDj hs hk rfl)))))) _ hs hk zpY
def s89 (w:web):(Sl step) :=
  (zv7 w (0:Int) (⟨w.Net.Nodes.toNat,(λ _=>(⟨0,λ _=>(λ _=>(0:Int))⟩:(Sl Tab)))⟩:Sl (Sl Tab)))
def p89 (w:web):Bool :=
  (decide ((0<=w.Net.Nodes/\w.Net.Nodes=w.Net.Nodes/\w.Net.Nodes<=1000000)) &&
 (zmX w (0:Int) (⟨w.Net.Nodes.toNat,(λ _=>(⟨0,λ _=>(λ _=>(0:Int))⟩:(Sl Tab)))⟩:Sl (Sl Tab))))
end
theorem q89 (w:web) (K:List PA->Prop) (hs:p89 w=true) (hk:K (e89 (s89 w))):vcFun Tryd.prog G89 zvR 89 [.one (.fp (zaz w) 0)] K :=
  za4 (by kernel_rfl) (zaR hs λ hc hs=>And.intro hc (zDl hs hk rfl))
def zz6 : List PA → COut
  | [.one (.fp [.int .i64 zaj,.sl zae zay zaf,.fm za6 zaE zaF] 0)]=>.det (IsE enc_40 4 zay zaf/\za6=(false,1,false,[none])/\p89 (⟨(⟨zaj,(⟨zae,zam zaf⟩:(Sl Tie))⟩:Net),(⟨zaE,zaF⟩:Mp)⟩:web)=true) [.one (.sl ((s89 (⟨(⟨zaj,(⟨zae,zam zaf⟩:(Sl Tie))⟩:Net),(⟨zaE,zaF⟩:Mp)⟩:web)).len) 5 (λ i=>zaB ((s89 (⟨(⟨zaj,(⟨zae,zam zaf⟩:(Sl Tie))⟩:Net),(⟨zaE,zaF⟩:Mp)⟩:web)).get i)))]
  | _=>.no
theorem zGZ:zas Tryd.prog 89:=⟨_,rfl,rfl,by kernel_rfl⟩
theorem zKP:Ok Tryd.prog 89 zz6:=zbs zJv zGZ λ args K h=>by
  unfold zz6 at h
  split at h
  · rename_i zaj zae zay zaf za6 zaE zaF
    obtain⟨⟨⟨rfl,zaq,rfl⟩,rfl,hs⟩,hk⟩:=h
    try rw[zan zaq] at hs
    try rw[zan zaq] at hk
    exact⟨(λ _ _=>[]),(λ _=>false),zvR,q89 (⟨(⟨zaj,(⟨zae,zaq⟩:(Sl Tie))⟩:Net),(⟨zaE,zaF⟩:Mp)⟩:web) K hs hk⟩
  · exact h.elim
end Go.Proofs
/-
  DERIVED: THE SHELF's CONTRACTS AT THIS DUMP,IN PLAIN WORDS (tools/lay-plain.mjs out of 'YtedhjaaikeakoaaDoorPmLk.lean',which tools/lay-shelf.mjs wrote): THE SAME DECLARATIONS UNDER THE SAME NAMES: 'import','namespace','open','def','theorem' AND NOTHING ELSE: no command of the shelf's: FOR A HAND-IN. Each laying: the table of numbers ('.._ren') and one theorem,a field a fact of the dump's own or the kernel's comparison;each contract: ONE APPLICATION.
-/
namespace Go.Proofs
open Go.Shelf
def Tryd.keysA_ren:Go.Shelf.Ren:=⟨fun | 7=>103 | 10=>117 | n=>n,fun | 23=>103 | 26=>3 | 3=>4 | 28=>152 | 0=>0 | 27=>151 | 33=>169 | 4=>4 | n=>n,fun | n=>n⟩
theorem Tryd.keysA : Go.Proofs.SlLaysZI.n7 Tryd.prog Tryd.keysA_ren := {
  mixed:=by kernel_rfl
  f7:=⟨Tryd.f103.name,by decide,Tryd.func103.trans (congrArg some (by kernel_rfl))⟩
  f10:=⟨Tryd.f117.name,by decide,Tryd.func117.trans (congrArg some (by kernel_rfl))⟩
  t0:=Tryd.underlying0
  a0:=Tryd.isAgg0
  z0:=Tryd.sizeOf0
  v0:=Tryd.zeroValue0
  t4:=Tryd.underlying4
  a4:=Tryd.isAgg4
  z4:=Tryd.sizeOf4
  v4:=Tryd.zeroValue4
  t23:=Tryd.underlying103
  a23:=Tryd.isAgg103
  z23:=Tryd.sizeOf103
  v23:=Tryd.zeroValue103
  t26:=Tryd.underlying3
  a26:=Tryd.isAgg3
  z26:=Tryd.sizeOf3
  v26:=Tryd.zeroValue3
  t27:=Tryd.underlying151
  a27:=Tryd.isAgg151
  z27:=Tryd.sizeOf151
  v27:=Tryd.zeroValue151
  t28:=Tryd.underlying152
  a28:=Tryd.isAgg152
  z28:=Tryd.sizeOf152
  v28:=Tryd.zeroValue152
  t33:=Tryd.underlying169
  a33:=Tryd.isAgg169
  z33:=Tryd.sizeOf169
  v33:=Tryd.zeroValue169 }
def Tryd.sortedA_ren:Go.Shelf.Ren:=⟨fun | 6=>102 | 8=>115 | 9=>116 | 11=>129 | 13=>113 | 12=>130 | 23=>127 | 24=>128 | 14=>136 | 15=>137 | 16=>138 | 17=>139 | 18=>140 | 19=>141 | 20=>142 | 21=>143 | 22=>144 | 25=>146 | 26=>132 | 27=>133 | 28=>147 | 29=>148 | 30=>114 | 31=>149 | n=>n,fun | 26=>3 | 28=>152 | 24=>27 | 0=>0 | 3=>3 | 37=>168 | 48=>182 | 50=>184 | 4=>4 | 40=>175 | 39=>174 | 45=>179 | 5=>5 | 9=>9 | 51=>187 | 55=>191 | 57=>199 | 58=>200 | 33=>169 | n=>n,fun | n=>n⟩
theorem Tryd.sortedA : Go.Proofs.SlLaysZI.n6 Tryd.prog Tryd.sortedA_ren := {
  mixed:=by kernel_rfl
  f6:=⟨Tryd.f102.name,by decide,Tryd.func102.trans (congrArg some (by kernel_rfl))⟩
  f8:=⟨Tryd.f115.name,by decide,Tryd.func115.trans (congrArg some (by kernel_rfl))⟩
  f11:=⟨Tryd.f129.name,by decide,Tryd.func129.trans (congrArg some (by kernel_rfl))⟩
  t0:=Tryd.underlying0
  a0:=Tryd.isAgg0
  z0:=Tryd.sizeOf0
  v0:=Tryd.zeroValue0
  t24:=Tryd.underlying27
  a24:=Tryd.isAgg27
  z24:=Tryd.sizeOf27
  v24:=Tryd.zeroValue27
  t26:=Tryd.underlying3
  a26:=Tryd.isAgg3
  z26:=Tryd.sizeOf3
  v26:=Tryd.zeroValue3
  t28:=Tryd.underlying152
  a28:=Tryd.isAgg152
  z28:=Tryd.sizeOf152
  v28:=Tryd.zeroValue152
  i26:=by kernel_rfl }
def Tryd.sortA_ren:Go.Shelf.Ren:=⟨fun | 5=>116 | 8=>113 | 7=>130 | 19=>127 | 20=>128 | 10=>136 | 11=>137 | 12=>138 | 13=>139 | 14=>140 | 15=>141 | 16=>142 | 17=>143 | 18=>144 | 30=>146 | 31=>132 | 32=>133 | 33=>147 | 34=>148 | 35=>114 | 40=>149 | n=>n,fun | 23=>27 | 25=>3 | 3=>3 | 32=>168 | 22=>27 | 0=>0 | 44=>182 | 46=>184 | 4=>4 | 36=>175 | 35=>174 | 41=>179 | 5=>5 | 9=>9 | 53=>187 | 57=>191 | 63=>199 | 64=>200 | n=>n,fun | n=>n⟩
theorem Tryd.sortA : Go.Proofs.SlLaysM.n5 Tryd.prog Tryd.sortA_ren := {
  mixed:=by kernel_rfl
  f5:=⟨Tryd.f116.name,by decide,Tryd.func116.trans (congrArg some (by kernel_rfl))⟩
  f7:=⟨Tryd.f130.name,by decide,Tryd.func130.trans (congrArg some (by kernel_rfl))⟩
  f8:=Tryd.func113.trans (congrArg some (by kernel_rfl))
  f10:=⟨Tryd.f136.name,by decide,Tryd.func136.trans (congrArg some (by kernel_rfl))⟩
  f11:=⟨Tryd.f137.name,by decide,Tryd.func137.trans (congrArg some (by kernel_rfl))⟩
  f12:=⟨Tryd.f138.name,by decide,Tryd.func138.trans (congrArg some (by kernel_rfl))⟩
  f13:=⟨Tryd.f139.name,by decide,Tryd.func139.trans (congrArg some (by kernel_rfl))⟩
  f14:=⟨Tryd.f140.name,by decide,Tryd.func140.trans (congrArg some (by kernel_rfl))⟩
  f15:=⟨Tryd.f141.name,by decide,Tryd.func141.trans (congrArg some (by kernel_rfl))⟩
  f16:=⟨Tryd.f142.name,by decide,Tryd.func142.trans (congrArg some (by kernel_rfl))⟩
  f17:=⟨Tryd.f143.name,by decide,Tryd.func143.trans (congrArg some (by kernel_rfl))⟩
  f18:=⟨Tryd.f144.name,by decide,Tryd.func144.trans (congrArg some (by kernel_rfl))⟩
  f19:=Tryd.func127.trans (congrArg some (by kernel_rfl))
  f20:=Tryd.func128.trans (congrArg some (by kernel_rfl))
  f30:=⟨Tryd.f146.name,by decide,Tryd.func146.trans (congrArg some (by kernel_rfl))⟩
  f31:=Tryd.func132.trans (congrArg some (by kernel_rfl))
  f32:=Tryd.func133.trans (congrArg some (by kernel_rfl))
  f33:=⟨Tryd.f147.name,by decide,Tryd.func147.trans (congrArg some (by kernel_rfl))⟩
  f34:=⟨Tryd.f148.name,by decide,Tryd.func148.trans (congrArg some (by kernel_rfl))⟩
  f35:=⟨Tryd.f114.name,by decide,Tryd.func114.trans (congrArg some (by kernel_rfl))⟩
  f40:=⟨Tryd.f149.name,by decide,Tryd.func149.trans (congrArg some (by kernel_rfl))⟩
  t0:=Tryd.underlying0
  a0:=Tryd.isAgg0
  z0:=Tryd.sizeOf0
  v0:=Tryd.zeroValue0
  t3:=Tryd.underlying3
  a3:=Tryd.isAgg3
  z3:=Tryd.sizeOf3
  v3:=Tryd.zeroValue3
  t4:=Tryd.underlying4
  a4:=Tryd.isAgg4
  z4:=Tryd.sizeOf4
  v4:=Tryd.zeroValue4
  t5:=Tryd.underlying5
  a5:=Tryd.isAgg5
  z5:=Tryd.sizeOf5
  v5:=Tryd.zeroValue5
  t9:=Tryd.underlying9
  a9:=Tryd.isAgg9
  z9:=Tryd.sizeOf9
  v9:=Tryd.zeroValue9
  t22:=Tryd.underlying27
  a22:=Tryd.isAgg27
  z22:=Tryd.sizeOf27
  v22:=Tryd.zeroValue27
  t23:=Tryd.underlying27
  a23:=Tryd.isAgg27
  z23:=Tryd.sizeOf27
  v23:=Tryd.zeroValue27
  t25:=Tryd.underlying3
  a25:=Tryd.isAgg3
  z25:=Tryd.sizeOf3
  v25:=Tryd.zeroValue3
  t32:=Tryd.underlying168
  a32:=Tryd.isAgg168
  z32:=Tryd.sizeOf168
  v32:=Tryd.zeroValue168
  t35:=Tryd.underlying174
  a35:=Tryd.isAgg174
  z35:=Tryd.sizeOf174
  v35:=Tryd.zeroValue174
  t36:=Tryd.underlying175
  a36:=Tryd.isAgg175
  z36:=Tryd.sizeOf175
  v36:=Tryd.zeroValue175
  t41:=Tryd.underlying179
  a41:=Tryd.isAgg179
  z41:=Tryd.sizeOf179
  v41:=Tryd.zeroValue179
  t44:=Tryd.underlying182
  a44:=Tryd.isAgg182
  z44:=Tryd.sizeOf182
  v44:=Tryd.zeroValue182
  t46:=Tryd.underlying184
  a46:=Tryd.isAgg184
  z46:=Tryd.sizeOf184
  v46:=Tryd.zeroValue184
  t53:=Tryd.underlying187
  a53:=Tryd.isAgg187
  z53:=Tryd.sizeOf187
  v53:=Tryd.zeroValue187
  t57:=Tryd.underlying191
  a57:=Tryd.isAgg191
  z57:=Tryd.sizeOf191
  v57:=Tryd.zeroValue191
  t63:=Tryd.underlying199
  a63:=Tryd.isAgg199
  z63:=Tryd.sizeOf199
  v63:=Tryd.zeroValue199
  t64:=Tryd.underlying200
  a64:=Tryd.isAgg200
  z64:=Tryd.sizeOf200
  v64:=Tryd.zeroValue200 }
end Go.Proofs
namespace Go.Pm
open Go.RowKit Go.Maps Go.Sort Go.Shelf Go.Proofs
set_option maxRecDepth 100000

theorem zkv {F : List Int → Option (List Int)} : ∀ (f : Nat) (i : Int) (n : Nat) (l : List Int), zlS F f i n = some l → l.length = n ∧ (∀ x ∈ l, F [x] ≠ none ∧ i ≤ x ∧ x < i + f) ∧ l.Pairwise (· < ·)
  | _,_,0,l,h=>by simp[zlS] at h;subst h;exact⟨rfl,λ x hx=>by simp at hx,List.Pairwise.nil⟩
  | 0,_,n+1,l,h=>by simp[zlS] at h
  | f+1,i,n+1,l,h=>by
    simp only[zlS] at h
    split at h
    · rename_i v hv
      split at h
      · rename_i r hr
        simp only[dqa] at h;subst h
        obtain⟨h1,h2,h3⟩:=zkv f (i+1) n r hr
        refine⟨by simp[h1],λ x hx=>?_,List.pairwise_cons.2 ⟨λ x hx=>by have:=h2 x hx;omega,h3⟩⟩
        rcases dqq.1 hx with rfl | hx
        · exact⟨by rw[hv];simp,by omega,by omega⟩
        · have:=h2 x hx;exact⟨this.1,by omega,by omega⟩
      · cases h
    · obtain ⟨h1, h2, h3⟩ := zkv f (i + 1) (n + 1) l h
      exact⟨h1,λ x hx=>by have:=h2 x hx;exact⟨this.1,by omega,by omega⟩,h3⟩
theorem zkw {α : Type} [DecidableEq α] : ∀ {l m : List α}, l.Nodup → (∀ x ∈ l, x ∈ m) → m.length ≤ l.length → l.Perm m
  | [],m,_,_,h=>by
    have:m=[]:=List.eq_nil_of_length_eq_zero (by simpa using h)
    subst this;exact .refl _
  | a :: l,m,hn,hs,h=>by
    obtain⟨h1,h2⟩:=List.nodup_cons.1 hn
    have ha:=hs a dqj
    have hp:=List.perm_cons_erase ha
    refine (List.Perm.cons a (zkw h2 (λ x hx=>?_) ?_)).trans hp.symm
    · exact (List.mem_erase_of_ne (λ e=>h1 (by rw[<- e];exact hx))).2 (hs x (dqf _ hx))
    · have := hp.length_eq
      simp at this h
      omega

theorem zz7:znB Tryd.prog 103 (.keys 117):=λ w mb=>by
 refine⟨⟨_,rfl,rfl,by kernel_rfl⟩,?_⟩
 have c:CallsIn Fence.wide 5 Tryd.prog 103 #[.map (some mb)] w λ e w'=>e=.returned (.func (.func 117) #[] #[.pointer (some ⟨w.heap.size,0,none⟩)])/\w'=w.alloc (.cells #[.map (some mb)] 103):=AnyZI.keys_in Tryd.keysA Fence.wide 5 trivial rfl (some mb) w
 refine ((callsIn_wide (n:=5)).1 c).mono ?_
 rintro e w' ⟨rfl,rfl⟩
 exact⟨rfl,_,rfl⟩
theorem sortsA (m:Nat):AnyZI.SortsIn Tryd.prog Tryd.sortedA_ren Fence.wide m :=
  ⟨λ blk off cap ss W hH hblk hsz=>callsIn_wide.2 (AnyM.slices_Sort_int Tryd.sortA blk off cap ss W hH hblk hsz),
   λ p cap W=>callsIn_wide.2 (AnyM.slices_Sort_int_none Tryd.sortA p cap W)⟩

def rdN:Value->Option (DataW Unit×List MemPlace):=λ _=>some (.nil,[])
theorem ztk:znB Tryd.prog 102 (.sorted 117):=λ w h k mb C ty fr es clock vt q n F hw hk hC hb hE hm hn hky=>by
 refine⟨⟨_,rfl,rfl,by kernel_rfl⟩,?_⟩
 obtain⟨en,M⟩:=hm
 have E:=zgi hE
 have hq1:q.1=false:=by
  have e:=E.kag
  rw[show zer Tryd.prog 3=some false by kernel_rfl] at e
  exact (Option.some.inj e).symm
 have hq2:q.2.1=1:=by
  have e:=E.key
  rw[show zdr Tryd.prog 8 3=some 1 by kernel_rfl] at e
  exact (Option.some.inj e).symm
 obtain⟨l,hl⟩:=Option.isSome_iff_exists.1 hky
 have hll:zoZ F n=l:=by unfold zoZ;rw[hl];rfl
 obtain⟨l1,l2,l3⟩:=zkv _ _ _ _ hl
 rw[hll]
 have one:∀ x∈en,x.1=[x.1.headD 0]:=λ x hx=>by
  have:=(M.len x hx).1
  rw[hq2] at this
  match x.1,this with
  | [a],_=>rfl
 have hkeys:es.toList.map (·.key)=(en.map λ x=>x.1.headD 0).map encZ:=by
  have:=congrArg (List.map Prod.fst) M.ents
  simp only[List.map_map] at this ⊢
  refine (show es.toList.map (·.key)=_ from this).trans (List.map_congr_left λ x hx=>?_)
  show zbr q.1 x.1=encZ (x.1.headD 0)
  rw[hq1];rfl
 have hkn:(en.map λ x=>x.1.headD 0).Nodup:=by
  have:(en.map (·.1))=(en.map λ x=>x.1.headD 0).map λ a=>[a]:=by
   rw[List.map_map];exact List.map_congr_left λ x hx=>one x hx
  have hd:=M.nodup
  rw[this] at hd
  exact (List.pairwise_map.1 hd).imp λ h e=>h (by rw[e])
 have hperm:l.Perm (en.map λ x=>x.1.headD 0):=by
  refine zkw (l3.imp λ h=>Int.ne_of_lt h) (λ x hx=>?_) (by rw[List.length_map,<- M.size,l1];exact dqt _)
  have h1:=(l2 x hx).1
  rw[M.find [x] (by rw[hq2];rfl)] at h1
  by_cases hex:∃ y∈en,y.1=[x]
  ·obtain ⟨y, hy, e⟩ := hex
   exact dqz.2 ⟨y,hy,by rw[e];rfl⟩
  ·exact absurd (zfT λ y hy e=>hex ⟨y,hy,e⟩) h1
 have hread:∀ x∈es.toList,∃ a:Int,x.key=encZ a/\keyOf Tryd.prog 3 x.key=some (.int .i64 a):=λ x hx=>by
  have hm:x.key∈es.toList.map (·.key):=dqz.2 ⟨x,hx,rfl⟩
  rw[hkeys] at hm
  obtain⟨a,ha,e⟩:=dqz.1 hm
  have hb:=(l2 a (hperm.mem_iff.2 ha)).2
  refine⟨a,e.symm,?_⟩
  rw[<- e]
  have hu:Tryd.prog.underlying 3=some (.int .i64):=Tryd.underlying3
  have hwf:(Lit.int .i64 a).wf=true:=by
   simp only[Lit.wf,dqm,decide_eq_true_eq]
   have e1:IntKind.i64.min = -9223372036854775808:=by decide
   have e2:IntKind.i64.max=9223372036854775807:=by decide
   rw[e1,e2]
   have:=hb.2
   omega
  simp[keyOf,mapKey,hu,hwf]
 have hsize:es.size=n:=by
  have:=congrArg List.length M.ents
  simp at this
  rw[this,M.size]
 have hst:MapKept.Stamped es clock:=⟨M.born,M.bornN,by rw[hkeys];exact List.pairwise_map.2 (hkn.imp λ h e=>h (encZ_inj e))⟩
 have hown:w.ownsMap Tryd.prog 3 rdN mb n (.map ((es.toList.map (WideElems.rg Tryd.prog 3 rdN)).foldr DataW.insert [])) :=
  ⟨es,clock,hb,⟨by rw[hsize];exact dqE hn (by decide),hst,λ x hx=>by
   obtain⟨a,e1,e2⟩:=hread x hx
   exact⟨(.int .i64 a,.nil),by simp only[WideElems.rd,e2,rdN,Option.bind_some,Option.map_some]⟩⟩,by omega,rfl⟩
 have hik:(intKeys (.map ((es.toList.map (WideElems.rg Tryd.prog 3 rdN)).foldr DataW.insert []))).Perm l:=by
  show (((es.toList.map (WideElems.rg Tryd.prog 3 rdN)).foldr DataW.insert []).map λ p=>intOf p.1).Perm l
  refine ((WideShapes.sorted_perm _).map _).trans (List.Perm.trans (List.Perm.of_eq ?_) hperm.symm)
  rw[List.map_map]
  have e:(en.map λ x=>x.1.headD 0)=es.toList.map λ x=>intOf ((keyOf Tryd.prog 3 x.key).getD (.bool false)):=by
   have h1:(en.map λ x=>x.1.headD 0)=((en.map λ x=>x.1.headD 0).map encZ).map λ v=>match v with | .int _ a=>a | _=>0:=by
    rw[List.map_map];exact (List.map_id _).symm
   rw[h1,<- hkeys,List.map_map]
   refine List.map_congr_left λ x hx=>?_
   obtain⟨a,e1,e2⟩:=hread x hx
   simp only[Function.comp,e2]
   rw[e1];rfl
  rw[e]
  refine List.map_congr_left λ x hx=>?_
  obtain⟨a,e1,e2⟩:=hread x hx
  simp only[Function.comp,WideElems.rg,WideElems.rd,e2,rdN,Option.bind_some,Option.map_some,Option.getD_some]
 have hsz:Maps.size (DataW.map ((es.toList.map (WideElems.rg Tryd.prog 3 rdN)).foldr DataW.insert []):DataW Unit)=n:=by
  show List.length _=n
  rw[(WideShapes.sorted_perm _).length_eq];simp[hsize]
 have hlt:k < w.heap.size:=hw.lt hk
 have hcell:w.cell? ⟨k,0,none⟩=some (.map (some mb)):=by
  have:=hw.fz hk
  simp[World.cell?,this,hC]
 have hseq:SeqGives Fence.wide 2 Tryd.prog 117 #[.pointer (some ⟨k,0,none⟩)] encZ (λ ss=>ss.Perm (intKeys _)) (Maps.size _) w :=
  AnyZI.keys_gives (ρ:=Tryd.keysA_ren) { Tryd.keysA with } Fence.wide _ trivial rfl (by omega) k mb n _ w hlt hcell hown
 have cS:=AnyZI.sorted_in Tryd.sortedA Fence.wide 5 trivial trivial trivial trivial rfl (by omega) (sortsA _) (enters_of Tryd.func116 (by kernel_rfl) rfl) 117 #[.pointer (some ⟨k,0,none⟩)] trivial (enters_of Tryd.func117 (by kernel_rfl) rfl) _ _ (by rw[hsz];exact dqE hn (by decide)) (by rw[hsz];omega) _ hseq
 change CallsIn _ _ Tryd.prog 102 _ _ _ at cS
 refine ((callsIn_wide (n:=5)).1 cS).mono ?_
 rintro e w' ⟨v,ss,rfl,hS,hrow,_,hbel⟩
 refine⟨v,rfl,?_,⟨hbel,Nat.zero_le _⟩⟩
 have hsl:ss.mergeSort (λ x y=>decide (x<=y))=l:=by
  rw[show ss.mergeSort (λ x y=>decide (x<=y))=l.mergeSort leI from mergeSort_of_perm_i (hS.trans hik)]
  exact List.mergeSort_of_pairwise (l3.imp λ h=>by simp only[leI,decide_eq_true_eq];exact Int.le_of_lt h)
 have hlen:ss.length=n:=by rw[(hS.trans hik).length_eq,l1]
 rw[hsl,hlen] at hrow
 exact hrow
end Go.Pm
namespace Go.Proofs
open Go Go.Pm
set_option maxRecDepth 100000
set_option linter.unusedVariables false
attribute [local irreducible] Go.Pm.vcFun Go.Pm.vc Go.Pm.vcIter
abbrev zBg:OwnK:=.sorted 117
theorem zJw:znB Tryd.prog 102 zBg:=ztk
abbrev zBh:OwnK:=.keys 117
theorem zJx:znB Tryd.prog 103 zBh:=zz7
structure Rec69 where
  S:web->Int->((Sl (Sl Int))×web)
  P:web->Int->Bool
class Slf69 where
  r:Rec69
section
variable [Slf69]
def zv8 : MK
  | [.box 105 [.p (.int .i64 zav),.p (.sl zar zbx zao),.mo 3 4 zc8 zaM zaN],.d (.one (.int .i64 b1))]=>some (IsE enc_40 4 zbx zao/\zc8=(false,1,false,[none])/\Slf69.r.P (⟨(⟨zav,(⟨zar,zam zao⟩:(Sl Tie))⟩:Net),(⟨zaM,zaN⟩:Mp)⟩:web) b1=true,[.one (.sl (((Slf69.r.S (⟨(⟨zav,(⟨zar,zam zao⟩:(Sl Tie))⟩:Net),(⟨zaM,zaN⟩:Mp)⟩:web) b1).1).len) 1 (λ i=>zbT (((Slf69.r.S (⟨(⟨zav,(⟨zar,zam zao⟩:(Sl Tie))⟩:Net),(⟨zaM,zaN⟩:Mp)⟩:web) b1).1).get i)))],[.box 105 [.p (.int .i64 (((Slf69.r.S (⟨(⟨zav,(⟨zar,zam zao⟩:(Sl Tie))⟩:Net),(⟨zaM,zaN⟩:Mp)⟩:web) b1).2).Net.Nodes)),.p (.sl (((Slf69.r.S (⟨(⟨zav,(⟨zar,zam zao⟩:(Sl Tie))⟩:Net),(⟨zaM,zaN⟩:Mp)⟩:web) b1).2).Net.Ties.len) 4 (λ i=>enc_40 (((Slf69.r.S (⟨(⟨zav,(⟨zar,zam zao⟩:(Sl Tie))⟩:Net),(⟨zaM,zaN⟩:Mp)⟩:web) b1).2).Net.Ties.get i))),.mo 3 4 (false,1,false,[none]) ((((Slf69.r.S (⟨(⟨zav,(⟨zar,zam zao⟩:(Sl Tie))⟩:Net),(⟨zaM,zaN⟩:Mp)⟩:web) b1).2).out).n) ((((Slf69.r.S (⟨(⟨zav,(⟨zar,zam zao⟩:(Sl Tie))⟩:Net),(⟨zaM,zaN⟩:Mp)⟩:web) b1).2).out).F)],.d (.one (.int .i64 b1))])
  | _=>none
abbrev T69:Tabs:=(((((Tabs.nil.addF 88 zvr).addF 89 zz6).addO 102 zBg).addO 103 zBh).addM 69 zv8)
theorem zJy (hself:ziW Tryd.prog 69 zv8):TabsOk Tryd.prog T69:=(((((TabsOk.nil.addF zJk).addF zKP).addO zJw).addO zJx).addM hself)
abbrev zz8:Ctrs:=csm T69 (λ _ _=>[]) (λ _=>false)
def ze7:Ann:=⟨57,[(0,zK [0,1] [0,12288]),(1,zK [0,1,10] [0,12288]),(2,zK [0,4] [0,17,12288]),(3,zK [0,1,19] [0,12288]),(4,zK [0,4] [0,12288]),(5,zK [0,1,5] [0,12288]),(6,zK [0,1,5,21,22,23] [0,12288]),(7,zK [0,1,5,21,22,23,24] [0,47,12288]),(8,zK [0,1,5,7,21,22,23] [0,7,47,12288]),(9,zK [0,1,5,7,21,22,23,34] [0,7,47,12288]),(10,zK [0,1,5,7,21,22,23] [0,7,47,12288]),(11,zK [0,1,5,7,21,22,23] [0,7,47,12288]),(12,zK [0,1,5,21,22,23] [0,47,12288]),(13,zK [0,1,5,21,22,23] [0,47,12288]),(14,zK [0,4] [0,47,12288])],
 [(7,⟨[0,1,5,21,22,23],[0,47,12288],[(5,47,27,λ _=>zbT default)],[],[],[],[]⟩)],
 [],
 [],[]⟩
def zfA (w:web) (left:Int) (zaC:Int) (zaX:Int) (zfB:Nat) (zcb:Nat->List PV) (zfC:Nat) (zcc:Nat->List PV) (zac:Nat) (zaa:(List Int->Option (List Int))):St:=⟨[(0,.one (.c (.ptr 0 0))),(1,.one (.c (.p (.int .i64 left)))),(5,.one (.c (.vec 47))),(21,.one (.c (.p (.sl ((s89 w).len) 5 (λ i=>zaB ((s89 w).get i)))))),(22,.one (.c (.p (.int .i64 ((s89 w).len:Int))))),(23,.one (.c (.p (.int .i64 zaC))))],[(0,.box 105 [.p (.int .i64 zaX),.p (.sl zfB 4 zcb),.mo 12288]),(47,.vec 27 1 24 zfC zcc),(12288,.mo 3 4 (false,1,false,[none]) zac zaa)],[]⟩
def zhl (K:List PA×List XA->Prop) (w:web) (left:Int) (zaC:Int) (zaX:Int) (zfB:Nat) (zcb:Nat->List PV) (zfC:Nat) (zcc:Nat->List PV) (zac:Nat) (zaa:(List Int->Option (List Int))):Prop:=vc Tryd.prog zz8 ze7 (cdF Tryd.f69 [1,1,1,1,0,1,0]) (ze4 0 (sqK Tryd.prog zz8 ze7 (cdF Tryd.f69 [1,1,1,1,1]) (zk1 Tryd.prog Tryd.f69 [.box 105 [.p (.int .i64 w.Net.Nodes),.p (.sl w.Net.Ties.len 4 (λ i=>enc_40 (w.Net.Ties.get i))),.mo 3 4 (false,1,false,[none]) w.out.n w.out.F],.d (.one (.int .i64 left))] (λ a b=>K (a,b))))) (zfA w left zaC zaX zfB zcb zfC zcc zac zaa)
theorem zz9 (w : web) (left : Int) (K : List PA × List XA → Prop) :
  zkf Tryd.prog zz8 ze7 69 [.box 105 [.p (.int .i64 w.Net.Nodes),.p (.sl w.Net.Ties.len 4 (λ i=>enc_40 (w.Net.Ties.get i))),.mo 3 4 (false,1,false,[none]) w.out.n w.out.F],.d (.one (.int .i64 left))] (λ a b=>K (a,b)) =
  ((IsE enc_40 4 4 (λ i=>enc_40 (w.Net.Ties.get i))/\((false,1,false,[none]):MQ)=(false,1,false,[none])/\(p88 w=true)) /\
 (zdl (!(s88 w))
 (((w.out.n<=1000000/\(zlS w.out.F 9223372036854775808 0 w.out.n).isSome=true)) /\
 (K ([.one (.sl 1 1 (λ _=>(zbT (⟨w.out.n,(λ i=>(zoZ w.out.F w.out.n).getD i 0)⟩:(Sl Int)))))],[.box 105 [.p (.int .i64 w.Net.Nodes),.p (.sl w.Net.Ties.len 4 (λ i=>enc_40 (w.Net.Ties.get i))),.mo 3 4 (false,1,false,[none]) w.out.n w.out.F],.d (.one (.int .i64 left))])))
 (zdl (left == (0:Int))
 (K ([.one (.nils)],[.box 105 [.p (.int .i64 w.Net.Nodes),.p (.sl w.Net.Ties.len 4 (λ i=>enc_40 (w.Net.Ties.get i))),.mo 3 4 (false,1,false,[none]) w.out.n w.out.F],.d (.one (.int .i64 left))]))
 (((∀ i,sc2 ((λ i=>zaB ((s89 w).get i)) i)=true)/\IsE enc_40 4 4 (λ i=>enc_40 (w.Net.Ties.get i))/\((false,1,false,[none]):MQ)=(false,1,false,[none])/\(p89 w=true)) /\
 (zhl K w left (0:Int) w.Net.Nodes w.Net.Ties.len (λ i=>enc_40 (w.Net.Ties.get i)) 0 (λ i=>zbT ((λ _=>default) i)) w.out.n w.out.F))))):=by kernel_rfl
def zlE (K:List PA×List XA->Prop) (X0:St->Prop) (w:web) (left:Int) (zaC:Int) (zaX:Int) (zaZ:(Sl Tie)) (zbn:(Sl (Sl Int))) (zac:Nat) (zaa:(List Int->Option (List Int))):Prop :=
  (zdl (decide (zaC < ((s89 w).len : Int)))
 (((0<=zaC/\zaC < ((s89 w).len:Int))) /\
 (zdl ((zoW (zaa [((s89 w).get zaC.toNat).Use.Tie]) 0) != 0)
 (X0 (zfA w left (w64 (zaC+(1:Int))) zaX zaZ.len (λ i=>enc_40 (zaZ.get i)) zbn.len (λ i=>zbT (zbn.get i)) zac zaa))
 ((IsE enc_40 4 4 (λ i=>enc_40 (zaZ.get i))/\((false,1,false,[none]):MQ)=(false,1,false,[none])/\(Slf69.r.P (⟨(⟨zaX,zaZ⟩:Net),(⟨(addN (zaa [((s89 w).get zaC.toNat).Use.Tie]) zac),(zc1 [((s89 w).get zaC.toNat).Use.Tie] [1] zaa)⟩:Mp)⟩:web) (w64 (left - (1:Int)))=true)) /\
 ((((zbn.len+((Slf69.r.S (⟨(⟨zaX,zaZ⟩:Net),(⟨(addN (zaa [((s89 w).get zaC.toNat).Use.Tie]) zac),(zc1 [((s89 w).get zaC.toNat).Use.Tie] [1] zaa)⟩:Mp)⟩:web) (w64 (left - (1:Int)))).1).len) * 24<=140737488355328/\zbn.len+((Slf69.r.S (⟨(⟨zaX,zaZ⟩:Net),(⟨(addN (zaa [((s89 w).get zaC.toNat).Use.Tie]) zac),(zc1 [((s89 w).get zaC.toNat).Use.Tie] [1] zaa)⟩:Mp)⟩:web) (w64 (left - (1:Int)))).1).len<=9223372036854775807)) /\
 (X0 (zfA w left (w64 (zaC+(1:Int))) (((Slf69.r.S (⟨(⟨zaX,zaZ⟩:Net),(⟨(addN (zaa [((s89 w).get zaC.toNat).Use.Tie]) zac),(zc1 [((s89 w).get zaC.toNat).Use.Tie] [1] zaa)⟩:Mp)⟩:web) (w64 (left - (1:Int)))).2).Net.Nodes) (((Slf69.r.S (⟨(⟨zaX,zaZ⟩:Net),(⟨(addN (zaa [((s89 w).get zaC.toNat).Use.Tie]) zac),(zc1 [((s89 w).get zaC.toNat).Use.Tie] [1] zaa)⟩:Mp)⟩:web) (w64 (left - (1:Int)))).2).Net.Ties.len) (λ i=>enc_40 (((Slf69.r.S (⟨(⟨zaX,zaZ⟩:Net),(⟨(addN (zaa [((s89 w).get zaC.toNat).Use.Tie]) zac),(zc1 [((s89 w).get zaC.toNat).Use.Tie] [1] zaa)⟩:Mp)⟩:web) (w64 (left - (1:Int)))).2).Net.Ties.get i)) (zbn.len+((Slf69.r.S (⟨(⟨zaX,zaZ⟩:Net),(⟨(addN (zaa [((s89 w).get zaC.toNat).Use.Tie]) zac),(zc1 [((s89 w).get zaC.toNat).Use.Tie] [1] zaa)⟩:Mp)⟩:web) (w64 (left - (1:Int)))).1).len) (appG zbn.len (λ i=>zbT (zbn.get i)) (λ i=>zbT (((Slf69.r.S (⟨(⟨zaX,zaZ⟩:Net),(⟨(addN (zaa [((s89 w).get zaC.toNat).Use.Tie]) zac),(zc1 [((s89 w).get zaC.toNat).Use.Tie] [1] zaa)⟩:Mp)⟩:web) (w64 (left - (1:Int)))).1).get i))) (zyR (((((Slf69.r.S (⟨(⟨zaX,zaZ⟩:Net),(⟨(addN (zaa [((s89 w).get zaC.toNat).Use.Tie]) zac),(zc1 [((s89 w).get zaC.toNat).Use.Tie] [1] zaa)⟩:Mp)⟩:web) (w64 (left - (1:Int)))).2).out).F) [((s89 w).get zaC.toNat).Use.Tie]) ((((Slf69.r.S (⟨(⟨zaX,zaZ⟩:Net),(⟨(addN (zaa [((s89 w).get zaC.toNat).Use.Tie]) zac),(zc1 [((s89 w).get zaC.toNat).Use.Tie] [1] zaa)⟩:Mp)⟩:web) (w64 (left - (1:Int)))).2).out).n)) (zyG [((s89 w).get zaC.toNat).Use.Tie] ((((Slf69.r.S (⟨(⟨zaX,zaZ⟩:Net),(⟨(addN (zaa [((s89 w).get zaC.toNat).Use.Tie]) zac),(zc1 [((s89 w).get zaC.toNat).Use.Tie] [1] zaa)⟩:Mp)⟩:web) (w64 (left - (1:Int)))).2).out).F))))))))
 (K ([.one (.sl zbn.len 1 (λ i=>zbT (zbn.get i)))],[.box 105 [.p (.int .i64 zaX),.p (.sl zaZ.len 4 (λ i=>enc_40 (zaZ.get i))),.mo 3 4 (false,1,false,[none]) zac zaa],.d (.one (.int .i64 left))])))
theorem zoy (K : List PA × List XA → Prop) (X0 : St → Prop) (w : web) (left : Int) (zaC : Int) (zaX : Int) (zaZ : (Sl Tie)) (zbn : (Sl (Sl Int))) (zac : Nat) (zaa : (List Int → Option (List Int))) :
  vc Tryd.prog zz8 ze7 (cd (cdF Tryd.f69 [1,1,1,1,0,1,0]) [0]) (zsN Tryd.prog ze7 7 X0 (ze4 0 (sqK Tryd.prog zz8 ze7 (cdF Tryd.f69 [1,1,1,1,1]) (zk1 Tryd.prog Tryd.f69 [.box 105 [.p (.int .i64 w.Net.Nodes),.p (.sl w.Net.Ties.len 4 (λ i=>enc_40 (w.Net.Ties.get i))),.mo 3 4 (false,1,false,[none]) w.out.n w.out.F],.d (.one (.int .i64 left))] (λ a b=>K (a,b)))))) (zfA w left zaC zaX zaZ.len (λ i=>enc_40 (zaZ.get i)) zbn.len (λ i=>zbT (zbn.get i)) zac zaa) =
  zlE K X0 w left zaC zaX zaZ zbn zac zaa:=by kernel_rfl
theorem ztl (K : List PA × List XA → Prop) (w : web) (left : Int) (zaC : Int) (zaX : Int) (zfB : Nat) (zcb : Nat → List PV) (zfC : Nat) (zcc : Nat → List PV) (zac : Nat) (zaa : (List Int → Option (List Int)))
  (h:∀ X0:St->Prop,(∀ (zaC:Int) (zaX:Int) (zaZ:(Sl Tie)) (zbn:(Sl (Sl Int))) (zac:Nat) (zaa:(List Int->Option (List Int))),zlE K X0 w left zaC zaX zaZ zbn zac zaa->X0 (zfA w left zaC zaX zaZ.len (λ i=>enc_40 (zaZ.get i)) zbn.len (λ i=>zbT (zbn.get i)) zac zaa))->X0 (zfA w left zaC zaX zfB zcb zfC zcc zac zaa)) :
  zhl K w left zaC zaX zfB zcb zfC zcc zac zaa:=by
  have e:zhl K w left zaC zaX zfB zcb zfC zcc zac zaa=(∀ X:St->Prop,(∀ s,vc Tryd.prog zz8 ze7 (cd (cdF Tryd.f69 [1,1,1,1,0,1,0]) [0]) (zsN Tryd.prog ze7 7 X (ze4 0 (sqK Tryd.prog zz8 ze7 (cdF Tryd.f69 [1,1,1,1,1]) (zk1 Tryd.prog Tryd.f69 [.box 105 [.p (.int .i64 w.Net.Nodes),.p (.sl w.Net.Ties.len 4 (λ i=>enc_40 (w.Net.Ties.get i))),.mo 3 4 (false,1,false,[none]) w.out.n w.out.F],.d (.one (.int .i64 left))] (λ a b=>K (a,b)))))) s->X s)->X (zfA w left zaC zaX zfB zcb zfC zcc zac zaa)):=by kernel_rfl
  refine za4 e ?_
  intro X hX
  refine h X ?_
  intro zaC zaX zaZ zbn zac zaa hs
  refine hX _ ?_
  have e2:=zoy K X w left zaC zaX zaZ zbn zac zaa
  rw[e2]
  exact hs
abbrev zBi (left:Int) (r:((Sl (Sl Int))×web)):List PA×List XA:=([.one (.sl r.1.len 1 (λ i=>zbT (r.1.get i)))],[.box 105 [.p (.int .i64 r.2.Net.Nodes),.p (.sl r.2.Net.Ties.len 4 (λ i=>enc_40 (r.2.Net.Ties.get i))),.mo 3 4 (false,1,false,[none]) r.2.out.n r.2.out.F],.d (.one (.int .i64 left))])
attribute [irreducible] zhl
def zdz (w:web) (left:Int) (S0:Int->Int->(Sl Tie)->(Sl (Sl Int))->Nat->(List Int->Option (List Int))->((Sl (Sl Int))×web)) (zaC:Int) (zaX:Int) (zaZ:(Sl Tie)) (zbn:(Sl (Sl Int))) (zac:Nat) (zaa:(List Int->Option (List Int))):((Sl (Sl Int))×web) :=
  (cond (decide (zaC < ((s89 w).len : Int)))
 (cond ((zoW (zaa [((s89 w).get zaC.toNat).Use.Tie]) 0) != 0)
 (S0 (w64 (zaC+(1:Int))) zaX zaZ zbn zac zaa)
 (S0 (w64 (zaC+(1:Int))) (((Slf69.r.S (⟨(⟨zaX,zaZ⟩:Net),(⟨(addN (zaa [((s89 w).get zaC.toNat).Use.Tie]) zac),(zc1 [((s89 w).get zaC.toNat).Use.Tie] [1] zaa)⟩:Mp)⟩:web) (w64 (left - (1:Int)))).2).Net.Nodes) (((Slf69.r.S (⟨(⟨zaX,zaZ⟩:Net),(⟨(addN (zaa [((s89 w).get zaC.toNat).Use.Tie]) zac),(zc1 [((s89 w).get zaC.toNat).Use.Tie] [1] zaa)⟩:Mp)⟩:web) (w64 (left - (1:Int)))).2).Net.Ties) (⟨(zbn.len+((Slf69.r.S (⟨(⟨zaX,zaZ⟩:Net),(⟨(addN (zaa [((s89 w).get zaC.toNat).Use.Tie]) zac),(zc1 [((s89 w).get zaC.toNat).Use.Tie] [1] zaa)⟩:Mp)⟩:web) (w64 (left - (1:Int)))).1).len),(zfn zbn.len zbn.get ((Slf69.r.S (⟨(⟨zaX,zaZ⟩:Net),(⟨(addN (zaa [((s89 w).get zaC.toNat).Use.Tie]) zac),(zc1 [((s89 w).get zaC.toNat).Use.Tie] [1] zaa)⟩:Mp)⟩:web) (w64 (left - (1:Int)))).1).get)⟩:Sl (Sl Int)) (zyR (((((Slf69.r.S (⟨(⟨zaX,zaZ⟩:Net),(⟨(addN (zaa [((s89 w).get zaC.toNat).Use.Tie]) zac),(zc1 [((s89 w).get zaC.toNat).Use.Tie] [1] zaa)⟩:Mp)⟩:web) (w64 (left - (1:Int)))).2).out).F) [((s89 w).get zaC.toNat).Use.Tie]) ((((Slf69.r.S (⟨(⟨zaX,zaZ⟩:Net),(⟨(addN (zaa [((s89 w).get zaC.toNat).Use.Tie]) zac),(zc1 [((s89 w).get zaC.toNat).Use.Tie] [1] zaa)⟩:Mp)⟩:web) (w64 (left - (1:Int)))).2).out).n)) (zyG [((s89 w).get zaC.toNat).Use.Tie] ((((Slf69.r.S (⟨(⟨zaX,zaZ⟩:Net),(⟨(addN (zaa [((s89 w).get zaC.toNat).Use.Tie]) zac),(zc1 [((s89 w).get zaC.toNat).Use.Tie] [1] zaa)⟩:Mp)⟩:web) (w64 (left - (1:Int)))).2).out).F))))
 (zbn,(⟨(⟨zaX,zaZ⟩:Net),(⟨zac,zaa⟩:Mp)⟩:web)))
def ze3 (w:web) (left:Int) (P0:Int->Int->(Sl Tie)->(Sl (Sl Int))->Nat->(List Int->Option (List Int))->Bool) (zaC:Int) (zaX:Int) (zaZ:(Sl Tie)) (zbn:(Sl (Sl Int))) (zac:Nat) (zaa:(List Int->Option (List Int))):Bool :=
  (cond (decide (zaC < ((s89 w).len : Int)))
 (decide ((0<=zaC/\zaC < ((s89 w).len:Int))) &&
 (cond ((zoW (zaa [((s89 w).get zaC.toNat).Use.Tie]) 0) != 0)
 (P0 (w64 (zaC+(1:Int))) zaX zaZ zbn zac zaa)
 (decide ((Slf69.r.P (⟨(⟨zaX,zaZ⟩:Net),(⟨(addN (zaa [((s89 w).get zaC.toNat).Use.Tie]) zac),(zc1 [((s89 w).get zaC.toNat).Use.Tie] [1] zaa)⟩:Mp)⟩:web) (w64 (left - (1:Int)))=true)) &&
 (decide (((zbn.len+((Slf69.r.S (⟨(⟨zaX,zaZ⟩:Net),(⟨(addN (zaa [((s89 w).get zaC.toNat).Use.Tie]) zac),(zc1 [((s89 w).get zaC.toNat).Use.Tie] [1] zaa)⟩:Mp)⟩:web) (w64 (left - (1:Int)))).1).len) * 24<=140737488355328/\zbn.len+((Slf69.r.S (⟨(⟨zaX,zaZ⟩:Net),(⟨(addN (zaa [((s89 w).get zaC.toNat).Use.Tie]) zac),(zc1 [((s89 w).get zaC.toNat).Use.Tie] [1] zaa)⟩:Mp)⟩:web) (w64 (left - (1:Int)))).1).len<=9223372036854775807)) &&
 (P0 (w64 (zaC+(1:Int))) (((Slf69.r.S (⟨(⟨zaX,zaZ⟩:Net),(⟨(addN (zaa [((s89 w).get zaC.toNat).Use.Tie]) zac),(zc1 [((s89 w).get zaC.toNat).Use.Tie] [1] zaa)⟩:Mp)⟩:web) (w64 (left - (1:Int)))).2).Net.Nodes) (((Slf69.r.S (⟨(⟨zaX,zaZ⟩:Net),(⟨(addN (zaa [((s89 w).get zaC.toNat).Use.Tie]) zac),(zc1 [((s89 w).get zaC.toNat).Use.Tie] [1] zaa)⟩:Mp)⟩:web) (w64 (left - (1:Int)))).2).Net.Ties) (⟨(zbn.len+((Slf69.r.S (⟨(⟨zaX,zaZ⟩:Net),(⟨(addN (zaa [((s89 w).get zaC.toNat).Use.Tie]) zac),(zc1 [((s89 w).get zaC.toNat).Use.Tie] [1] zaa)⟩:Mp)⟩:web) (w64 (left - (1:Int)))).1).len),(zfn zbn.len zbn.get ((Slf69.r.S (⟨(⟨zaX,zaZ⟩:Net),(⟨(addN (zaa [((s89 w).get zaC.toNat).Use.Tie]) zac),(zc1 [((s89 w).get zaC.toNat).Use.Tie] [1] zaa)⟩:Mp)⟩:web) (w64 (left - (1:Int)))).1).get)⟩:Sl (Sl Int)) (zyR (((((Slf69.r.S (⟨(⟨zaX,zaZ⟩:Net),(⟨(addN (zaa [((s89 w).get zaC.toNat).Use.Tie]) zac),(zc1 [((s89 w).get zaC.toNat).Use.Tie] [1] zaa)⟩:Mp)⟩:web) (w64 (left - (1:Int)))).2).out).F) [((s89 w).get zaC.toNat).Use.Tie]) ((((Slf69.r.S (⟨(⟨zaX,zaZ⟩:Net),(⟨(addN (zaa [((s89 w).get zaC.toNat).Use.Tie]) zac),(zc1 [((s89 w).get zaC.toNat).Use.Tie] [1] zaa)⟩:Mp)⟩:web) (w64 (left - (1:Int)))).2).out).n)) (zyG [((s89 w).get zaC.toNat).Use.Tie] ((((Slf69.r.S (⟨(⟨zaX,zaZ⟩:Net),(⟨(addN (zaa [((s89 w).get zaC.toNat).Use.Tie]) zac),(zc1 [((s89 w).get zaC.toNat).Use.Tie] [1] zaa)⟩:Mp)⟩:web) (w64 (left - (1:Int)))).2).out).F)))))))
 true)
def zcp (w : web) (left : Int) : Nat → Int → Int → (Sl Tie) → (Sl (Sl Int)) → Nat → (List Int → Option (List Int)) → ((Sl (Sl Int)) × web)
  | 0=>λ _ _ _ _ _ _=>default
  | k+1=>zdz w left (zcp w left k)
def zc9 (w : web) (left : Int) : Nat → Int → Int → (Sl Tie) → (Sl (Sl Int)) → Nat → (List Int → Option (List Int)) → Bool
  | 0=>λ _ _ _ _ _ _=>false
  | k+1=>ze3 w left (zc9 w left k)
def zr6 (w:web) (left:Int) (zaC:Int) (zaX:Int) (zaZ:(Sl Tie)) (zbn:(Sl (Sl Int))) (zac:Nat) (zaa:(List Int->Option (List Int))):((Sl (Sl Int))×web):=zcp w left Fuel zaC zaX zaZ zbn zac zaa
def zr7 (w:web) (left:Int) (zaC:Int) (zaX:Int) (zaZ:(Sl Tie)) (zbn:(Sl (Sl Int))) (zac:Nat) (zaa:(List Int->Option (List Int))):Bool:=zc9 w left Fuel zaC zaX zaZ zbn zac zaa
theorem zAa (K:List PA×List XA->Prop) (w:web) (left:Int) (zaC:Int) (zaX:Int) (zaZ:(Sl Tie)) (zbn:(Sl (Sl Int))) (zac:Nat) (zaa:(List Int->Option (List Int))) (zcb:Nat->List PV) (zkx:zcb=λ i=>enc_40 (zaZ.get i)) (zcc:Nat->List PV) (zky:zcc=λ i=>zbT (zbn.get i)) (hs:zr7 w left zaC zaX zaZ zbn zac zaa=true) (hk:K (zBi left (zr6 w left zaC zaX zaZ zbn zac zaa))):zhl (WkM K) w left zaC zaX zaZ.len zcb zbn.len zcc zac zaa:=by
  refine ztl (WkM K) w left zaC zaX zaZ.len zcb zbn.len zcc zac zaa ?_
  intro X0 hstep
  have key:∀ (k:Nat) (zaC:Int) (zaX:Int) (zaZ:(Sl Tie)) (zbn:(Sl (Sl Int))) (zac:Nat) (zaa:(List Int->Option (List Int))) (zcb:Nat->List PV) (zkx:zcb=λ i=>enc_40 (zaZ.get i)) (zcc:Nat->List PV) (zky:zcc=λ i=>zbT (zbn.get i)),zc9 w left k zaC zaX zaZ zbn zac zaa=true->K (zBi left (zcp w left k zaC zaX zaZ zbn zac zaa))->X0 (zfA w left zaC zaX zaZ.len zcb zbn.len zcc zac zaa):=by
    intro k
    induction k with
    | zero=>intro zaC zaX zaZ zbn zac zaa zcb zkx zcc zky hs;exact absurd hs dqk
    | succ k ih =>
      intro zaC zaX zaZ zbn zac zaa zcb zkx zcc zky hs hk
      subst zkx
      subst zky
      refine hstep zaC zaX zaZ zbn zac zaa ?_
      have hs:ze3 w left (zc9 w left k) zaC zaX zaZ zbn zac zaa=true:=hs
      have hk:K (zBi left (zdz w left (zcp w left k) zaC zaX zaZ zbn zac zaa)):=hk
      unfold ze3 at hs
      unfold zdz at hk
      generalize zcp w left k=S0 at hk ih
      generalize zc9 w left k=P0 at hs ih
      have hX0:=ih
      exact (zeU (K := λ r => K (zBi left r))
 (λ hs hk => (zaR hs λ hc hs => ⟨hc, (zeU (K := λ r => K (zBi left r))
 (λ hs hk=>(hX0 (w64 (zaC+(1:Int))) zaX zaZ zbn zac zaa (λ i=>enc_40 (zaZ.get i)) rfl (λ i=>zbT (zbn.get i)) rfl hs hk))
 (λ hs hk=>(zaR hs λ hc hs=>⟨⟨isE,rfl,hc⟩,(zaR hs λ hc hs=>⟨hc,(hX0 (w64 (zaC+(1:Int))) (((Slf69.r.S (⟨(⟨zaX,zaZ⟩:Net),(⟨(addN (zaa [((s89 w).get zaC.toNat).Use.Tie]) zac),(zc1 [((s89 w).get zaC.toNat).Use.Tie] [1] zaa)⟩:Mp)⟩:web) (w64 (left - (1:Int)))).2).Net.Nodes) (((Slf69.r.S (⟨(⟨zaX,zaZ⟩:Net),(⟨(addN (zaa [((s89 w).get zaC.toNat).Use.Tie]) zac),(zc1 [((s89 w).get zaC.toNat).Use.Tie] [1] zaa)⟩:Mp)⟩:web) (w64 (left - (1:Int)))).2).Net.Ties) (⟨(zbn.len+((Slf69.r.S (⟨(⟨zaX,zaZ⟩:Net),(⟨(addN (zaa [((s89 w).get zaC.toNat).Use.Tie]) zac),(zc1 [((s89 w).get zaC.toNat).Use.Tie] [1] zaa)⟩:Mp)⟩:web) (w64 (left - (1:Int)))).1).len),(zfn zbn.len zbn.get ((Slf69.r.S (⟨(⟨zaX,zaZ⟩:Net),(⟨(addN (zaa [((s89 w).get zaC.toNat).Use.Tie]) zac),(zc1 [((s89 w).get zaC.toNat).Use.Tie] [1] zaa)⟩:Mp)⟩:web) (w64 (left - (1:Int)))).1).get)⟩:Sl (Sl Int)) (zyR (((((Slf69.r.S (⟨(⟨zaX,zaZ⟩:Net),(⟨(addN (zaa [((s89 w).get zaC.toNat).Use.Tie]) zac),(zc1 [((s89 w).get zaC.toNat).Use.Tie] [1] zaa)⟩:Mp)⟩:web) (w64 (left - (1:Int)))).2).out).F) [((s89 w).get zaC.toNat).Use.Tie]) ((((Slf69.r.S (⟨(⟨zaX,zaZ⟩:Net),(⟨(addN (zaa [((s89 w).get zaC.toNat).Use.Tie]) zac),(zc1 [((s89 w).get zaC.toNat).Use.Tie] [1] zaa)⟩:Mp)⟩:web) (w64 (left - (1:Int)))).2).out).n)) (zyG [((s89 w).get zaC.toNat).Use.Tie] ((((Slf69.r.S (⟨(⟨zaX,zaZ⟩:Net),(⟨(addN (zaa [((s89 w).get zaC.toNat).Use.Tie]) zac),(zc1 [((s89 w).get zaC.toNat).Use.Tie] [1] zaa)⟩:Mp)⟩:web) (w64 (left - (1:Int)))).2).out).F)) (λ i=>enc_40 (((Slf69.r.S (⟨(⟨zaX,zaZ⟩:Net),(⟨(addN (zaa [((s89 w).get zaC.toNat).Use.Tie]) zac),(zc1 [((s89 w).get zaC.toNat).Use.Tie] [1] zaa)⟩:Mp)⟩:web) (w64 (left - (1:Int)))).2).Net.Ties.get i)) rfl (appG zbn.len (λ i=>zbT (zbn.get i)) (λ i=>zbT (((Slf69.r.S (⟨(⟨zaX,zaZ⟩:Net),(⟨(addN (zaa [((s89 w).get zaC.toNat).Use.Tie]) zac),(zc1 [((s89 w).get zaC.toNat).Use.Tie] [1] zaa)⟩:Mp)⟩:web) (w64 (left - (1:Int)))).1).get i))) (zkj (enc:=zbT) (f:=zbn.get) (h:=((Slf69.r.S (⟨(⟨zaX,zaZ⟩:Net),(⟨(addN (zaa [((s89 w).get zaC.toNat).Use.Tie]) zac),(zc1 [((s89 w).get zaC.toNat).Use.Tie] [1] zaa)⟩:Mp)⟩:web) (w64 (left - (1:Int)))).1).get) rfl rfl) hs hk)⟩)⟩)) hs hk)⟩))
 (fun hs hk=>(zvb hk)) hs hk)
  exact key _ zaC zaX zaZ zbn zac zaa zcb zkx zcc zky hs hk
def ztm (w:web) (left:Int):((Sl (Sl Int))×web) :=
  (cond (!(s88 w))
 ((⟨1,λ _=>(⟨w.out.n,(λ i=>(zoZ w.out.F w.out.n).getD i 0)⟩:(Sl Int))⟩:(Sl (Sl Int))),w)
 (cond (left == (0:Int))
 ((⟨0,λ _=>default⟩:(Sl (Sl Int))),w)
 (zr6 w left (0:Int) w.Net.Nodes w.Net.Ties (⟨0,(λ _=>default)⟩:Sl (Sl Int)) w.out.n w.out.F)))
def zFF (w:web) (left:Int):Bool :=
  (decide ((p88 w=true)) &&
 (cond (!(s88 w))
 (decide ((w.out.n<=1000000/\(zlS w.out.F 9223372036854775808 0 w.out.n).isSome=true)) &&
 true)
 (cond (left == (0:Int))
 true
 (decide ((p89 w=true)) &&
 (zr7 w left (0:Int) w.Net.Nodes w.Net.Ties (⟨0,(λ _=>default)⟩:Sl (Sl Int)) w.out.n w.out.F)))))
theorem zLH (w:web) (left:Int) (K:List PA×List XA->Prop) (hs:zFF w left=true) (hk:K (zBi left (ztm w left))):zkf Tryd.prog zz8 ze7 69 [.box 105 [.p (.int .i64 w.Net.Nodes),.p (.sl w.Net.Ties.len 4 (λ i=>enc_40 (w.Net.Ties.get i))),.mo 3 4 (false,1,false,[none]) w.out.n w.out.F],.d (.one (.int .i64 left))] (λ a b=>(WkM K) (a,b)):=by
  refine za4 (zz9 w left (WkM K)) ?_
  unfold zFF at hs
  unfold ztm at hk
  exact (zaR hs λ hc hs => ⟨⟨isE, rfl, hc⟩, (zeU (K := λ r => K (zBi left r))
 (λ hs hk=>(zaR hs λ hc hs=>⟨hc,(zvb hk)⟩))
 (λ hs hk => (zeU (K := λ r => K (zBi left r))
 (λ hs hk=>(wkM hk (zgM (.one (.nil _ _)) znq)))
 (λ hs hk=>(zaR hs λ hc hs=>⟨⟨(λ _=>rfl),isE,rfl,hc⟩,(zAa K w left (0:Int) w.Net.Nodes w.Net.Ties (⟨0,(λ _=>default)⟩:Sl (Sl Int)) w.out.n w.out.F (λ i=>enc_40 (w.Net.Ties.get i)) rfl (λ i=>zbT ((λ _=>default) i)) rfl hs hk)⟩)) hs hk)) hs hk)⟩)
def zG0 : MK
  | [.box 105 [.p (.int .i64 zav),.p (.sl zar zbx zao),.mo 3 4 zc8 zaM zaN],.d (.one (.int .i64 b1))]=>some (IsE enc_40 4 zbx zao/\zc8=(false,1,false,[none])/\zFF (⟨(⟨zav,(⟨zar,zam zao⟩:(Sl Tie))⟩:Net),(⟨zaM,zaN⟩:Mp)⟩:web) b1=true,[.one (.sl (((ztm (⟨(⟨zav,(⟨zar,zam zao⟩:(Sl Tie))⟩:Net),(⟨zaM,zaN⟩:Mp)⟩:web) b1).1).len) 1 (λ i=>zbT (((ztm (⟨(⟨zav,(⟨zar,zam zao⟩:(Sl Tie))⟩:Net),(⟨zaM,zaN⟩:Mp)⟩:web) b1).1).get i)))],[.box 105 [.p (.int .i64 (((ztm (⟨(⟨zav,(⟨zar,zam zao⟩:(Sl Tie))⟩:Net),(⟨zaM,zaN⟩:Mp)⟩:web) b1).2).Net.Nodes)),.p (.sl (((ztm (⟨(⟨zav,(⟨zar,zam zao⟩:(Sl Tie))⟩:Net),(⟨zaM,zaN⟩:Mp)⟩:web) b1).2).Net.Ties.len) 4 (λ i=>enc_40 (((ztm (⟨(⟨zav,(⟨zar,zam zao⟩:(Sl Tie))⟩:Net),(⟨zaM,zaN⟩:Mp)⟩:web) b1).2).Net.Ties.get i))),.mo 3 4 (false,1,false,[none]) ((((ztm (⟨(⟨zav,(⟨zar,zam zao⟩:(Sl Tie))⟩:Net),(⟨zaM,zaN⟩:Mp)⟩:web) b1).2).out).n) ((((ztm (⟨(⟨zav,(⟨zar,zam zao⟩:(Sl Tie))⟩:Net),(⟨zaM,zaN⟩:Mp)⟩:web) b1).2).out).F)],.d (.one (.int .i64 b1))])
  | _=>none
theorem zG1:zas Tryd.prog 69:=⟨_,rfl,rfl,by kernel_rfl⟩
theorem zJz (hself:ziW Tryd.prog 69 zv8):ziW Tryd.prog 69 zG0:=zzI (zJy hself) zG1 λ xs safe rs ys h hs K hk=>by
  unfold zG0 at h
  split at h
  · rename_i zav zar zbx zao zc8 zaM zaN b1
    simp only[dqa,dqh] at h
    obtain⟨rfl,rfl,rfl⟩:=h
    obtain⟨⟨rfl,zb5,rfl⟩,rfl,hs⟩:=hs
    try rw[zan zb5] at hs
    try rw[zan zb5] at hk
    refine⟨λ _ _=>[],λ _=>false,ze7,?_⟩
    show zkf Tryd.prog zz8 ze7 69 _ _
    exact zLH (⟨(⟨zav,(⟨zar,zb5⟩:(Sl Tie))⟩:Net),(⟨zaM,zaN⟩:Mp)⟩:web) b1 (λ x=>K x.1 x.2) hs hk
  · cases h
end
def zhZ : Nat → Rec69
  | 0=>⟨λ _ _=>default,λ _ _=>false⟩
  | k+1=>⟨@ztm ⟨zhZ k⟩,@zFF ⟨zhZ k⟩⟩
theorem zG2 : ∀ k, ziW Tryd.prog 69 (@zv8 ⟨zhZ k⟩)
  | 0=>λ xs ys safe rs h hs=>by
    unfold zv8 at h
    split at h
    · simp only [dqa, dqh] at h
      obtain⟨rfl,rfl,rfl⟩:=h
      exact absurd hs.2.2 dqk
    · cases h
  | k+1=>@zJz ⟨zhZ k⟩ (zG2 k)
def s69 (w:web) (left:Int):((Sl (Sl Int))×web):=(zhZ 64).S w left
def p69 (w:web) (left:Int):Bool:=(zhZ 64).P w left
def zG3 : MK
  | [.box 105 [.p (.int .i64 zav),.p (.sl zar zbx zao),.mo 3 4 zc8 zaM zaN],.d (.one (.int .i64 b1))]=>some (IsE enc_40 4 zbx zao/\zc8=(false,1,false,[none])/\p69 (⟨(⟨zav,(⟨zar,zam zao⟩:(Sl Tie))⟩:Net),(⟨zaM,zaN⟩:Mp)⟩:web) b1=true,[.one (.sl (((s69 (⟨(⟨zav,(⟨zar,zam zao⟩:(Sl Tie))⟩:Net),(⟨zaM,zaN⟩:Mp)⟩:web) b1).1).len) 1 (λ i=>zbT (((s69 (⟨(⟨zav,(⟨zar,zam zao⟩:(Sl Tie))⟩:Net),(⟨zaM,zaN⟩:Mp)⟩:web) b1).1).get i)))],[.box 105 [.p (.int .i64 (((s69 (⟨(⟨zav,(⟨zar,zam zao⟩:(Sl Tie))⟩:Net),(⟨zaM,zaN⟩:Mp)⟩:web) b1).2).Net.Nodes)),.p (.sl (((s69 (⟨(⟨zav,(⟨zar,zam zao⟩:(Sl Tie))⟩:Net),(⟨zaM,zaN⟩:Mp)⟩:web) b1).2).Net.Ties.len) 4 (λ i=>enc_40 (((s69 (⟨(⟨zav,(⟨zar,zam zao⟩:(Sl Tie))⟩:Net),(⟨zaM,zaN⟩:Mp)⟩:web) b1).2).Net.Ties.get i))),.mo 3 4 (false,1,false,[none]) ((((s69 (⟨(⟨zav,(⟨zar,zam zao⟩:(Sl Tie))⟩:Net),(⟨zaM,zaN⟩:Mp)⟩:web) b1).2).out).n) ((((s69 (⟨(⟨zav,(⟨zar,zam zao⟩:(Sl Tie))⟩:Net),(⟨zaM,zaN⟩:Mp)⟩:web) b1).2).out).F)],.d (.one (.int .i64 b1))])
  | _=>none
theorem zLI:ziW Tryd.prog 69 zG3:=zG2 64
abbrev T71:Tabs:=(Tabs.nil.addF 101 zrW)
theorem zJA:TabsOk Tryd.prog T71:=(TabsOk.nil.addF zGP)
abbrev G71:Ctrs:=csm T71 (λ _ _=>[]) (λ _=>false)
def zDm:Ann:=⟨36,[(0,zK [0,1] []),(1,zK [0,1,9,10,11] []),(2,zK [0,1,9,10,11,12] []),(3,zK [0,1,5,6,9,10,11] []),(4,zK [0,1,5,6,9,10,11,19] []),(5,zK [4] []),(6,zK [0,1,6,7,9,10,11] []),(7,zK [0,1,8,9,10,11] []),(8,zK [0,1,8,9,10,11,28] []),(9,zK [4] []),(10,zK [0,1,9,10,11] []),(11,zK [35] []),(12,zK [4] []),(13,zK [4] [])],
 [(2,zK [0,1,9,10,11] [])],
 [(6,zK [0,1,5,6,9,10,11] []),(8,zK [0,1,8,9,10,11] [])],
 [],[]⟩
abbrev R71:=Int
abbrev e71 (r:R71):List PA:=[.one (.int .i64 r)]
@[irreducible] def z71:=ptF Tryd.prog G71 zDm Tryd.f71
def zBj (zej:(Sl Int)) (zdN:(Sl Int)) (zkz:(Sl Int)) (za1:Int) (zaQ:Int) (zdg:Nat->List PV) (zdh:Nat->List PV) (ziT:Nat->List PV):St:=⟨[(0,zP (.sl zej.len 1 zdg)),(1,zP (.sl zdN.len 1 zdh)),(9,zP (.sl zkz.len 1 ziT)),(10,zI za1),(11,zI zaQ)],[],[]⟩
abbrev zAb (K:List PA->Prop) (X:St->Prop) (P:(Sl Int)->(Sl Int)->(Sl Int)->Int->Int->Bool) (S:(Sl Int)->(Sl Int)->(Sl Int)->Int->Int->Int):Prop:=∀ ⦃zej:(Sl Int)⦄ ⦃zdN:(Sl Int)⦄ ⦃zkz:(Sl Int)⦄ ⦃za1:Int⦄ ⦃zaQ:Int⦄ ⦃zdg:Nat->List PV⦄ ⦃zdh:Nat->List PV⦄ ⦃ziT:Nat->List PV⦄,P zej zdN zkz za1 zaQ=true->K (e71 (S zej zdN zkz za1 zaQ))->zdg=zg zab zej->zdh=zg zab zdN->ziT=zg zab zkz->X (zBj zej zdN zkz za1 zaQ zdg zdh ziT)
section
variable {K:List PA->Prop}{s1_a0:(Sl Int)}{s2_a1:(Sl Int)}{zej:(Sl Int)}{zdN:(Sl Int)}{zkz:(Sl Int)}{za1:Int}{zaQ:Int}{zdg:Nat->List PV}{zdh:Nat->List PV}{ziT:Nat->List PV}{X0:St->Prop}{P0:(Sl Int)->(Sl Int)->(Sl Int)->Int->Int->Bool}{S0:(Sl Int)->(Sl Int)->(Sl Int)->Int->Int->Int}{zoq:(Sl Int)}{zjh:(Sl Int)}{iv1:Int}{zDn:Int}{zpZ:(Sl Int)}{zhm:Int}{zcu:Int}{zor:Nat->List PV}{zos:Nat->List PV}{zBk:Nat->List PV}{zot:(Sl Int)}{zou:(Sl Int)}{cv2:Int}{zp0:Int}{zov:Nat->List PV}{zow:Nat->List PV}
def zp1 (S0:(Sl Int)->(Sl Int)->(Sl Int)->Int->Int->Int) (zpZ:(Sl Int)) (zhm:Int) (zot:(Sl Int)) (zou:(Sl Int)) (cv2:Int) (zp0:Int):Int :=
  (cond (cv2 != (0:Int))
 cv2
 (S0 zot zou zpZ zhm (w64 (zp0+(1:Int)))))
def zp2 (P0:(Sl Int)->(Sl Int)->(Sl Int)->Int->Int->Bool) (zpZ:(Sl Int)) (zhm:Int) (zot:(Sl Int)) (zou:(Sl Int)) (cv2:Int) (zp0:Int):Bool :=
  (cond (cv2 != (0:Int))
 true
 (P0 zot zou zpZ zhm (w64 (zp0+(1:Int)))))
theorem zDo (hX0:zAb K X0 P0 S0) (hs:zp2 P0 zpZ zhm zot zou cv2 zp0=true) (hk:K (e71 (zp1 S0 zpZ zhm zot zou cv2 zp0))) (zvM:zov=zg zab zot) (zvN:zow=zg zab zou):z71 K [1,0,1,0,0,1,1,0,0,1,1,1,1] [X0] ⟨[(0,zP (.sl zot.len 1 zov)),(1,zP (.sl zou.len 1 zow)),(8,zI cv2),(9,zS zab 1 zpZ),(10,zI zhm),(11,zI zp0)],[],[]⟩:=by subst zvM;subst zvN;exact za4 (by kernel_rfl) (zc hs hk (λ hs hk=>hk) (λ hs hk=>(hX0 hs hk rfl rfl rfl)))
def zp3 (S0:(Sl Int)->(Sl Int)->(Sl Int)->Int->Int->Int) (zoq:(Sl Int)) (zjh:(Sl Int)) (iv1:Int) (zDn:Int) (zpZ:(Sl Int)) (zhm:Int) (zcu:Int):Int :=
  (zp1 S0 zpZ zhm zoq zjh (ztu zDn (zjh.get iv1.toNat)) zcu)
def zp4 (P0:(Sl Int)->(Sl Int)->(Sl Int)->Int->Int->Bool) (zoq:(Sl Int)) (zjh:(Sl Int)) (iv1:Int) (zDn:Int) (zpZ:(Sl Int)) (zhm:Int) (zcu:Int):Bool :=
  (decide ((0<=iv1/\iv1 < (zjh.len:Int))) &&
 (zp2 P0 zpZ zhm zoq zjh (ztu zDn (zjh.get iv1.toNat)) zcu))
theorem zDp (hX0:zAb K X0 P0 S0) (hs:zp4 P0 zoq zjh iv1 zDn zpZ zhm zcu=true) (hk:K (e71 (zp3 S0 zoq zjh iv1 zDn zpZ zhm zcu))) (zvO:zor=zg zab zoq) (zvP:zos=zg zab zjh) (zG4:zBk=zg zab zpZ):z71 K [1,0,1,0,0,1,1,0,0,1,1] [X0] ⟨[(0,zP (.sl zoq.len 1 zor)),(1,zP (.sl zjh.len 1 zos)),(5,zI iv1),(6,zI zDn),(9,zP (.sl zpZ.len 1 zBk)),(10,zI zhm),(11,zI zcu)],[],[]⟩:=by subst zvO;subst zvP;subst zG4;exact za4 (by kernel_rfl) (zaR hs λ hc hs=>And.intro hc (zDo hX0 hs hk rfl rfl))
def zh0 (S0:(Sl Int)->(Sl Int)->(Sl Int)->Int->Int->Int) (zej:(Sl Int)) (zdN:(Sl Int)) (zkz:(Sl Int)) (za1:Int) (zaQ:Int):Int :=
  (cond (decide (zaQ < za1))
 (cond (decide (zaQ >= (zdN.len : Int)))
 (1:Int)
 (zp3 S0 zej zdN zaQ (zkz.get zaQ.toNat) zkz za1 zaQ))
 (cond (decide ((zej.len : Int) < (zdN.len : Int)))
 (-1:Int)
 (0:Int)))
def zh1 (P0:(Sl Int)->(Sl Int)->(Sl Int)->Int->Int->Bool) (zej:(Sl Int)) (zdN:(Sl Int)) (zkz:(Sl Int)) (za1:Int) (zaQ:Int):Bool :=
  (cond (decide (zaQ < za1))
 (decide ((0<=zaQ/\zaQ < (zkz.len:Int))) &&
 (cond (decide (zaQ >= (zdN.len : Int)))
 true
 (zp4 P0 zej zdN zaQ (zkz.get zaQ.toNat) zkz za1 zaQ)))
 true)
def zh2:Nat->(Sl Int)->(Sl Int)->(Sl Int)->Int->Int->Int:=lpO (λ _ _ _ _ _=>default) (zh0)
def zh3:Nat->(Sl Int)->(Sl Int)->(Sl Int)->Int->Int->Bool:=lpO (λ _ _ _ _ _=>false) (zh1)
def zv9 (zej:(Sl Int)) (zdN:(Sl Int)) (zkz:(Sl Int)) (za1:Int) (zaQ:Int):Int:=zh2 Fuel zej zdN zkz za1 zaQ
def zwa (zej:(Sl Int)) (zdN:(Sl Int)) (zkz:(Sl Int)) (za1:Int) (zaQ:Int):Bool:=zh3 Fuel zej zdN zkz za1 zaQ
theorem zDq (hs:zwa zej zdN zkz za1 zaQ=true) (hk:K (e71 (zv9 zej zdN zkz za1 zaQ))) (zkq:zdg=zg zab zej) (zkr:zdh=zg zab zdN) (zwb:ziT=zg zab zkz):z71 K [1,0,1,0] [] (zBj zej zdN zkz za1 zaQ zdg zdh ziT) :=
  zl (λ X=>z71 K [1,0,1,0,0] [X]) (by kernel_rfl) λ X0 hX =>
  (show ∀ k, zAb K X0 (zh3 k) (zh2 k) from zfc _ _ (zh1) (zh0) (zAb K X0)
 (by intro _ _ _ _ _ _ _ _ hs;exact absurd hs dqk)
 (by intro P0 S0 hX0 zej zdN zkz za1 zaQ zdg zdh ziT hs hk zkq zkr zwb;subst zkq;subst zkr;subst zwb;exact hX _ (za4 (by kernel_rfl) (zc hs hk (λ hs hk=>(zaR hs λ hc hs=>And.intro hc (zc hs hk (λ hs hk=>hk) (λ hs hk=>(zDp hX0 hs hk rfl rfl rfl))))) (λ hs hk=>(zt hk (λ hk=>hk) (λ hk=>hk))))))) _ hs hk zkq zkr zwb
def s71 (s1_a0:(Sl Int)) (s2_a1:(Sl Int)):Int :=
  (zv9 s1_a0 s2_a1 s1_a0 (s1_a0.len:Int) (0:Int))
def p71 (s1_a0:(Sl Int)) (s2_a1:(Sl Int)):Bool :=
  (zwa s1_a0 s2_a1 s1_a0 (s1_a0.len:Int) (0:Int))
end
theorem q71 (s1_a0:(Sl Int)) (s2_a1:(Sl Int)) (K:List PA->Prop) (hs:p71 s1_a0 s2_a1=true) (hk:K (e71 (s71 s1_a0 s2_a1))):vcFun Tryd.prog G71 zDm 71 [.one (.sl s1_a0.len 1 (λ i=>zab (s1_a0.get i))),.one (.sl s2_a1.len 1 (λ i=>zab (s2_a1.get i)))] K :=
  za4 (by kernel_rfl) (zDq hs hk rfl rfl rfl)
def zDr : List PA → COut
  | [.one (.sl zeC zkp zeD),.one (.sl zeE zk2 zeA)]=>.det (IsE zab 1 zkp zeD/\IsE zab 1 zk2 zeA/\p71 (⟨zeC,zau zeD⟩:(Sl Int)) (⟨zeE,zau zeA⟩:(Sl Int))=true) [.one (.int .i64 (s71 (⟨zeC,zau zeD⟩:(Sl Int)) (⟨zeE,zau zeA⟩:(Sl Int))))]
  | _=>.no
theorem zG5:zas Tryd.prog 71:=⟨_,rfl,rfl,by kernel_rfl⟩
theorem zLJ:Ok Tryd.prog 71 zDr:=zbs zJA zG5 λ args K h=>by
  unfold zDr at h
  split at h
  · rename_i zeC zkp zeD zeE zk2 zeA
    obtain⟨⟨⟨rfl,zgB,rfl⟩,⟨rfl,zhK,rfl⟩,hs⟩,hk⟩:=h
    try rw[zbp zgB] at hs
    try rw[zbp zgB] at hk
    try rw[zbp zhK] at hs
    try rw[zbp zhK] at hk
    exact⟨(λ _ _=>[]),(λ _=>false),zDm,q71 (⟨zeC,zgB⟩:(Sl Int)) (⟨zeE,zhK⟩:(Sl Int)) K hs hk⟩
  · exact h.elim
abbrev T70:Tabs:=(Tabs.nil.addF 71 zDr)
theorem zJB:TabsOk Tryd.prog T70:=(TabsOk.nil.addF zLJ)
abbrev G70:Ctrs:=csm T70 (λ _ _=>[]) (λ _=>false)
def zDs:Ann:=⟨33,[(0,zK [0,1] []),(1,zK [0,1,9] []),(3,zK [0,1,5] []),(4,zK [0,1,5,6] []),(5,zK [0,1,5,6,17] []),(6,zK [0,1,5,6] []),(7,zK [0,1,5,6,27] []),(8,zK [0,1,5,6] []),(9,zK [4] [])],
 [(5,zK [0,1,5,6] [])],
 [(3,zK [0,1] []),(8,zK [0,1,5,6,27] [])],
 [],[]⟩
abbrev R70:=(Sl Int)
abbrev e70 (r:R70):List PA:=[.one (.sl r.len 1 (λ i=>zab (r.get i)))]
@[irreducible] def z70:=ptF Tryd.prog G70 zDs Tryd.f70
def zBl (x:(Sl (Sl Int))) (mv1:(Sl Int)) (iv1:Int) (zoz:Nat->List PV):St:=⟨[(0,zS zbT 1 x),(1,zP (.fn 71 [] [])),(5,zP (.sl mv1.len 1 zoz)),(6,zI iv1)],[],[]⟩
abbrev zDt (K:List PA->Prop) (x:(Sl (Sl Int))) (X:St->Prop) (P:(Sl Int)->Int->Bool) (S:(Sl Int)->Int->(Sl Int)):Prop:=∀ ⦃mv1:(Sl Int)⦄ ⦃iv1:Int⦄ ⦃zoz:Nat->List PV⦄,P mv1 iv1=true->K (e70 (S mv1 iv1))->zoz=zg zab mv1->X (zBl x mv1 iv1 zoz)
section
variable {K:List PA->Prop}{x:(Sl (Sl Int))}{mv1:(Sl Int)}{iv1:Int}{zoz:Nat->List PV}{X1:St->Prop}{P1:(Sl Int)->Int->Bool}{S1:(Sl Int)->Int->(Sl Int)}{mv2:(Sl Int)}{iv2:Int}{zp5:Bool}{zG6:Nat->List PV}
def zp6 (S1:(Sl Int)->Int->(Sl Int)) (x:(Sl (Sl Int))) (mv2:(Sl Int)) (iv2:Int) (zp5:Bool):(Sl Int) :=
  (cond zp5
 (S1 (x.get iv2.toNat) (w64 (iv2+(1:Int))))
 (S1 mv2 (w64 (iv2+(1:Int)))))
def zp7 (P1:(Sl Int)->Int->Bool) (x:(Sl (Sl Int))) (mv2:(Sl Int)) (iv2:Int) (zp5:Bool):Bool :=
  (cond zp5
 (decide ((0<=iv2/\iv2 < (x.len:Int))) &&
 (P1 (x.get iv2.toNat) (w64 (iv2+(1:Int)))))
 (P1 mv2 (w64 (iv2+(1:Int)))))
theorem zDu (hX1:zDt K x X1 P1 S1) (hs:zp7 P1 x mv2 iv2 zp5=true) (hk:K (e70 (zp6 S1 x mv2 iv2 zp5))) (zJC:zG6=zg zab mv2):z70 K [1,1,1,0,1,0,0,1,0,0,1] [X1] ⟨[(0,zS zbT 1 x),(1,zP (.fn 71 [] [])),(5,zP (.sl mv2.len 1 zG6)),(6,zI iv2),(27,zB zp5)],[],[]⟩:=by subst zJC;exact za4 (by kernel_rfl) (zc hs hk (λ hs hk=>(zaR hs λ hc hs=>And.intro hc (hX1 hs hk rfl))) (λ hs hk=>(hX1 hs hk rfl)))
def zh4 (x:(Sl (Sl Int))) (S1:(Sl Int)->Int->(Sl Int)) (mv1:(Sl Int)) (iv1:Int):(Sl Int) :=
  (cond (decide (iv1 < (x.len : Int)))
 (zp6 S1 x mv1 iv1 (decide ((s71 (x.get iv1.toNat) mv1) < (0:Int))))
 mv1)
def zh5 (x:(Sl (Sl Int))) (P1:(Sl Int)->Int->Bool) (mv1:(Sl Int)) (iv1:Int):Bool :=
  (cond (decide (iv1 < (x.len : Int)))
 (decide ((0<=iv1/\iv1 < (x.len:Int))) &&
 (decide ((p71 (x.get iv1.toNat) mv1=true)) &&
 (zp7 P1 x mv1 iv1 (decide ((s71 (x.get iv1.toNat) mv1) < (0:Int))))))
 true)
def zh6 (x:(Sl (Sl Int))):Nat->(Sl Int)->Int->(Sl Int):=lpO (λ _ _=>default) (zh4 x)
def zh7 (x:(Sl (Sl Int))):Nat->(Sl Int)->Int->Bool:=lpO (λ _ _=>false) (zh5 x)
def zwc (x:(Sl (Sl Int))) (mv1:(Sl Int)) (iv1:Int):(Sl Int):=zh6 x Fuel mv1 iv1
def zwd (x:(Sl (Sl Int))) (mv1:(Sl Int)) (iv1:Int):Bool:=zh7 x Fuel mv1 iv1
theorem zDv (hs:zwd x mv1 iv1=true) (hk:K (e70 (zwc x mv1 iv1))) (zDw:zoz=zg zab mv1):z70 K [1,1,1,0,1,0] [] (zBl x mv1 iv1 zoz) :=
  zl (λ X=>z70 K [1,1,1,0,1,0,0] [X]) (by kernel_rfl) λ X1 hX =>
  (show ∀ k, zDt K x X1 (zh7 x k) (zh6 x k) from zfc _ _ (zh5 x) (zh4 x) (zDt K x X1)
 (by intro _ _ _ hs;exact absurd hs dqk)
 (by intro P1 S1 hX1 mv1 iv1 zoz hs hk zDw;subst zDw;exact hX _ (za4 (by kernel_rfl) (zc hs hk (λ hs hk=>(zaR hs λ hc hs=>And.intro hc (zaR hs λ hc hs=>And.intro (And.intro (zE zab 1 ((x.get iv1.toNat).get)) (And.intro (zE zab 1 mv1.get) hc)) (zDu hX1 hs hk rfl)))) (λ hs hk=>hk))))) _ hs hk zDw
def zp8 (x:(Sl (Sl Int))):(Sl Int) :=
  (zwc x (x.get 0) (1:Int))
def zp9 (x:(Sl (Sl Int))):Bool :=
  (decide ((0<=(0:Int)/\(0:Int) < (x.len:Int))) &&
 (zwd x (x.get 0) (1:Int)))
theorem zDx (hs:zp9 x=true) (hk:K (e70 (zp8 x))):z70 K [1,1] [] ⟨[(0,zS zbT 1 x),(1,zP (.fn 71 [] []))],[],[]⟩:=za4 (by kernel_rfl) (zaR hs λ hc hs=>And.intro hc (zDv hs hk rfl))
def s70 (x:(Sl (Sl Int))):(Sl Int) :=
  (cond (decide ((x.len : Int) < (1:Int)))
 default
 (zp8 x))
def p70 (x:(Sl (Sl Int))):Bool :=
  (cond (decide ((x.len : Int) < (1:Int)))
 false
 (zp9 x))
end
theorem q70 (x:(Sl (Sl Int))) (K:List PA->Prop) (hs:p70 x=true) (hk:K (e70 (s70 x))):vcFun Tryd.prog G70 zDs 70 [.one (.sl x.len 1 (λ i=>zbT (x.get i))),.one (.fn 71 [] [])] K :=
  za4 (by kernel_rfl) (zc hs hk (λ hs hk=>(absurd hs dqk:False)) (λ hs hk=>(zDx hs hk)))
def zDy : List PA → COut
  | [.one (.sl zeC zkp zeD),.one (.fn 71 [] [])]=>.det (IsE zbT 1 zkp zeD/\p70 (⟨zeC,zmz zeD⟩:(Sl (Sl Int)))=true) [.one (.sl ((s70 (⟨zeC,zmz zeD⟩:(Sl (Sl Int)))).len) 1 (λ i=>zab ((s70 (⟨zeC,zmz zeD⟩:(Sl (Sl Int)))).get i)))]
  | _=>.no
theorem zG7:zas Tryd.prog 70:=⟨_,rfl,rfl,by kernel_rfl⟩
theorem zLK:Ok Tryd.prog 70 zDy:=zbs zJB zG7 λ args K h=>by
  unfold zDy at h
  split at h
  · rename_i zeC zkp zeD
    obtain⟨⟨⟨rfl,zgB,rfl⟩,hs⟩,hk⟩:=h
    try rw[zkk zgB] at hs
    try rw[zkk zgB] at hk
    exact⟨(λ _ _=>[]),(λ _=>false),zDs,q70 (⟨zeC,zgB⟩:(Sl (Sl Int))) K hs hk⟩
  · exact h.elim
end Go.Proofs
namespace Go.Pm
open Go.RowKit (Below)
structure PanR where
  t1:Nat
  y1:TypeId
  t2:Nat
  y2:TypeId
  e:Int
  ty:TypeId
def PanR.v (pr:PanR):Value:=.iface pr.ty (.agg #[])
def stA (pr : PanR) : Oper := { dst := none, op := .store pr.y1 (.tmp pr.t1) (.const (.slice none 0 0)), type := 0, pos := "", after := #[], guard := none }
def stB (pr : PanR) : Oper := { dst := none, op := .store pr.y2 (.tmp pr.t2) (.const (.int .i64 pr.e)), type := 0, pos := "", after := #[], guard := none }
def zk5 (pr:PanR):Array Oper:=#[stA pr,stB pr]
section
variable (P:Program) (Γ:Ctrs)
def zoA (pr : PanR) (fi : FuncId) : Code → Option (Nat × Nat)
  | .region id ops false=>match ops.toList with
    | [o1,o2]=>match o1.op,o1.dst,o1.guard,o2.op,o2.dst,o2.guard with
      | .makeFunc (.func f) first caps,some t,none,.defer { callee:=.value (.tmp t'),args,argTypes:=_ },none,none=>match caps.toList with
        | [.tmp c1,.tmp c2]=>match Nat.beq f fi && Nat.beq t t' && first.isEmpty && args.isEmpty && Nat.beq c1 pr.t1 && Nat.beq c2 pr.t2 && !Nat.beq t pr.t1 && !Nat.beq t pr.t2 with
          | true=>some (id,t)
          | false=>none
        | _=>none
      | _,_,_,_,_,_=>none
    | _=>none
  | _=>none
def zwe (nt : Nat) (pr : PanR) : Code → Option (Nat × Nat)
  | .region _ ops false=>match ops.toList with
    | [o1,o2,o3]=>match o1.op,o1.dst,o1.guard,o2.op,o2.dst,o2.guard,o3.op,o3.guard with
      | .build ty parts,some x,none,.makeInterface ty' (.tmp x'),some y,none,.panic (.tmp y'),none=>match parts.isEmpty && Nat.beq ty pr.ty && Nat.beq ty' pr.ty && Nat.beq x x' && Nat.beq y y' && Nat.blt x nt && Nat.blt y nt with
        | true=>some (x,y)
        | false=>none
      | _,_,_,_,_,_,_,_=>none
    | _=>none
  | _=>none
def zmY (pr : PanR) (fi : FuncId) (ann : Ann) : Bool → Code → (Exit → St → Prop) → St → Prop
  | dn,.seq a b,K,σ=>match zoA pr fi a with
    | some (id,t)=>match Nat.blt t ann.nt && !dn && zFQ [pr.t1,pr.t2] (zfi b) with
      | true=>zB2 P ann id (zmY pr fi ann true b K) ⟨(t,.junk) :: σ.env,σ.objs,[]⟩
      | false=>False
    | none=>vc P Γ ann a (zyU (zmY pr fi ann dn b K) K) σ
  | dn,c,K,σ=>match zwe ann.nt pr c with
    | some (x,y)=>match dn with
      | true=>zef P Γ ann.nt (zk5 pr) 0 (zk5 pr).toList (K .ret) ⟨(y,.junk) :: (x,.junk) :: σ.env,σ.objs,[]⟩
      | false=>False
    | none=>vc P Γ ann c K σ
def ptD (ann : Ann) (pr : PanR) (fi : FuncId) : Bool → Code → (Exit → St → Prop) → List Nat → List (St → Prop) → St → Prop
  | dn,.seq a b,K,i :: r,X=>match i with
    | 0=>pt P Γ ann a (zyU (zmY P Γ pr fi ann dn b K) K) r X
    | _=>match zoA pr fi a with
      | some _=>ptD ann pr fi true b K r X
      | none=>ptD ann pr fi dn b K r X
  | _,c,K,l,X=>pt P Γ ann c K l X
def zLL (ann:Ann) (pr:PanR) (fi:FuncId) (fn:Func) (K:List PA->Prop) (l:List Nat) (X:List (St->Prop)):St->Prop :=
 match fn.body with
 | some c=>ptD P Γ ann pr fi false c (znx P fn K) l X
 | none=>λ _=>False
def zr8 (pr:PanR) (fi:FuncId) (ann:Ann) (f:FuncId) (args:List PA) (K:List PA->Prop):Prop :=
 match P.funcs[f]? with
 | some fn=>match fn.body with
  | some c=>match Nat.beq ann.nt fn.ntmps && Nat.ble args.length ann.nt && zFQ [rfS] (zfi c) with
   | true=>zmY P Γ pr fi ann false c (znx P fn K) ⟨zgY 0 args,[],[]⟩
   | false=>False
  | none=>False
 | none=>False
end
section
variable {P:Program}{Γ:Ctrs}{B:Nat}{w0:World}{pr:PanR}
abbrev dfD (fi:FuncId) (v1 v2:Value):Deferred:={ target:=.fn (.func fi) #[v1,v2],args:=#[] }
theorem zlF {fi:FuncId}{c:Code}{id t:Nat}(h:zoA pr fi c=some (id,t)):∃ (o1 o2:Oper) (ats:Array TypeId),c=.region id #[o1,o2] false/\t ≠ pr.t1/\t ≠ pr.t2/\o1.op=.makeFunc (.func fi) #[] #[.tmp pr.t1,.tmp pr.t2]/\o1.dst=some t/\o1.guard=none /\
  o2.op=.defer { callee:=.value (.tmp t),args:=#[],argTypes:=ats }/\o2.dst=none/\o2.guard=none:=by
 unfold zoA at h
 split at h
 ·rename_i id' ops
  split at h
  ·rename_i o1 o2 hops
   split at h
   ·rename_i f first caps t' t2 args ats e1 e2 e3 e4 e5 e6
    split at h
    ·rename_i c1 c2 hcaps
     split at h
     ·rename_i hc
      simp only[dqm] at hc
      simp only[dqa,dqh] at h
      obtain⟨rfl,rfl⟩:=h
      obtain⟨⟨⟨⟨⟨⟨⟨h1,h2⟩,h3⟩,h4⟩,h5⟩,h6⟩,h7⟩,h8⟩:=hc
      have h1:=dqc h1
      have h2:=dqc h2
      have h3:first = #[]:=by simpa using h3
      have h4:args = #[]:=by simpa using h4
      have h5:=dqc h5
      have h6:=dqc h6
      have h7:t' ≠ pr.t1:=Nat.ne_of_beq_eq_false (by simpa using h7)
      have h8:t' ≠ pr.t2:=Nat.ne_of_beq_eq_false (by simpa using h8)
      have h9:caps = #[.tmp c1,.tmp c2]:=by rw[<- Array.toArray_toList (xs:=caps),hcaps]
      subst h1 h2 h3 h4 h9
      rw[h5,h6] at e1
      refine⟨o1,o2,ats,?_,h7,h8,e1,e2,e3,e4,e5,e6⟩
      rw[<- Array.toArray_toList (xs:=ops),hops]
     ·cases h
    ·cases h
   ·cases h
  ·cases h
 ·cases h
theorem zoB {nt:Nat}{c:Code}{x y:Nat}(h:zwe nt pr c=some (x,y)):∃ (id:Nat) (o1 o2 o3:Oper),c=.region id #[o1,o2,o3] false/\x < nt/\y < nt/\o1.op=.build pr.ty #[]/\o1.dst=some x/\o1.guard=none /\
  o2.op=.makeInterface pr.ty (.tmp x)/\o2.dst=some y/\o2.guard=none/\o3.op=.panic (.tmp y)/\o3.guard=none:=by
 unfold zwe at h
 split at h
 ·rename_i id' ops
  split at h
  ·rename_i o1 o2 o3 hops
   split at h
   ·rename_i ty parts a ty' a' b b' e1 e2 e3 e4 e5 e6 e7 e8
    split at h
    ·rename_i hc
     simp only[dqm] at hc
     simp only[dqa,dqh] at h
     obtain⟨rfl,rfl⟩:=h
     obtain⟨⟨⟨⟨⟨⟨h1,h2⟩,h3⟩,h4⟩,h5⟩,h6⟩,h7⟩:=hc
     have h1:parts = #[]:=by simpa using h1
     have h2:=dqc h2
     have h3:=dqc h3
     have h4:=dqc h4
     have h5:=dqc h5
     subst h1 h2 h4 h5
     rw[h3] at e4
     refine⟨id',o1,o2,o3,?_,by simpa [Nat.blt_eq] using h6,by simpa [Nat.blt_eq] using h7,e1,e2,e3,e4,e5,e6,e7,e8⟩
     rw[<- Array.toArray_toList (xs:=ops),hops]
    ·cases h
   ·cases h
  ·cases h
 ·cases h
theorem ztn {fi : FuncId} (hidle : ∀ caps : Array Value, caps.size = 2 → znA P { target := .fn (.func fi) caps, args := #[] }) {c : Code} {id t nt n : Nat} {h0 : Fz} {a : Act} {σ : St} {g : Gh} {w : World} {Q : Exit → Act → World → Prop}
    (h:zoA pr fi c=some (id,t)) (ht:t < nt) (S:Sim P nt B w0 h0 g σ a w)
    (hQ:∀ a',Sim P nt B w0 h0 g ⟨(t,.junk) :: σ.env,σ.objs,[]⟩ a' w->a'.defers=dfD fi (a.tmps.getD pr.t1 undef) (a.tmps.getD pr.t2 undef) :: a.defers->(∀ u,u ≠ t->a'.tmps.getD u undef=a.tmps.getD u undef)->Q .normal a' w):c.wpIn (FR none) n P Q a w:=by
  obtain⟨o1,o2,ats,rfl,n1,n2,e1,e2,e3,e4,e5,e6⟩:=zlF h
  refine wpIn_region ?_
  show wpOpsIn (FR none) n P #[o1,o2] Q [0,1] a w
  have w1:∀ tm,Region.wanted o1 (yielded #[o1,o2] tm)=true:=λ tm=>by simp[Region.wanted,e3]
  have w2:∀ tm,Region.wanted o2 (yielded #[o1,o2] tm)=true:=λ tm=>by simp[Region.wanted,e6]
  have r1:(execOp a.eval o1).run P w=.ok (.value (.func (.func fi) #[] #[a.tmps.getD pr.t1 undef,a.tmps.getD pr.t2 undef])) w:=by
    simp only[execOp,e1,Instr.makeFunc,dqd,dqe,dqb];simp[Act.eval]
  have ets:t < a.tmps.size:=dqS ht S.size
  have ev:(a.put (some t) (.func (.func fi) #[] #[a.tmps.getD pr.t1 undef,a.tmps.getD pr.t2 undef])).eval (.tmp t)=.func (.func fi) #[] #[a.tmps.getD pr.t1 undef,a.tmps.getD pr.t2 undef]:=by
    simp[Act.put,Act.eval,dql,ets]
  have r2:(execOp (a.put (some t) (.func (.func fi) #[] #[a.tmps.getD pr.t1 undef,a.tmps.getD pr.t2 undef])).eval o2).run P w=.ok (.defer (dfD fi (a.tmps.getD pr.t1 undef) (a.tmps.getD pr.t2 undef))) w:=by
    simp only[execOp,e4,resolve,dqd,ev,Deferred.ofValue,dqe,dqb];simp
  show (if Region.wanted o1 (yielded #[o1,o2] a.tmps) then o1.wpIn (FR none) n P a w (wpOpsIn (FR none) n P #[o1,o2] Q [1]) Q else _)
  rw[if_pos (w1 _)]
  refine⟨λ _ _=>trivial,?_⟩
  rw[show o1.semAt (FR none).round a.eval=execOp a.eval o1 from rfl,r1]
  show wpOpsIn (FR none) n P #[o1,o2] Q [1] (a.put o1.dst _) w
  rw[e2]
  show (if Region.wanted o2 (yielded #[o1,o2] (a.put (some t) _).tmps) then o2.wpIn (FR none) n P (a.put (some t) _) w (wpOpsIn (FR none) n P #[o1,o2] Q []) Q else _)
  rw[if_pos (w2 _)]
  refine⟨λ _ _=>trivial,?_⟩
  have r3:Sem.run P (o2.semAt (FR none).round (a.put (some t) (.func (.func fi) #[] #[a.tmps.getD pr.t1 undef,a.tmps.getD pr.t2 undef])).eval) w=.ok (.defer (dfD fi (a.tmps.getD pr.t1 undef) (a.tmps.getD pr.t2 undef))) w:=r2
  rw[r3]
  have S1:=S.put (dst:=some t) (d:=.junk) (v:=.func (.func fi) #[] #[a.tmps.getD pr.t1 undef,a.tmps.getD pr.t2 undef]) (by simpa [zbq,Nat.blt_eq] using ht) trivial (λ L hL=>by simp[zaO,za8,zaA] at hL) []
  rw[Oper.uponIn_defer,e5]
  refine hQ _ (S1.act ?_ ?_ ?_) rfl λ u hu=>?_
  · obtain ⟨es, m1, m2, m3, m4⟩ := S1.dfr
    refine⟨.inr (dfD fi (a.tmps.getD pr.t1 undef) (a.tmps.getD pr.t2 undef)) :: es,m1,?_,λ E hE=>?_,λ d hd=>?_⟩
    · rw[dqK,<- m2];rfl
    · rcases dqq.1 hE with e | hE
      · cases e
      · exact m3 E hE
    · rcases dqq.1 hd with e | hd
      · cases e;exact hidle _ rfl
      · exact m4 d hd
  · exact S1.size
  · exact S1.env
  · simp[Act.put,dql,Array.getElem?_setIfInBounds_ne (Ne.symm hu)]
theorem zwf (hb : ∀ w, (Instr.build pr.ty #[]).run P w = .ok (.agg #[]) w) (hm : ∀ w, (Instr.makeInterface pr.ty (.agg #[])).run P w = .ok pr.v w) {c : Code} {x y nt n : Nat} {h0 : Fz} {a : Act} {σ : St} {g : Gh} {w : World} {Q : Exit → Act → World → Prop}
    (h:zwe nt pr c=some (x,y)) (S:Sim P nt B w0 h0 g σ a w)
    (hQ:∀ a',Sim P nt B w0 h0 g ⟨(y,.junk) :: (x,.junk) :: σ.env,σ.objs,[]⟩ a' w->a'.defers=a.defers->(∀ u,u ≠ x->u ≠ y->a'.tmps.getD u undef=a.tmps.getD u undef)->Q (.panic [{ v:=pr.v,recovered:=false }]) a' w):c.wpIn (FR none) n P Q a w:=by
  obtain⟨id,o1,o2,o3,rfl,hx,hy,e1,e2,e3,e4,e5,e6,e7,e8⟩:=zoB h
  refine wpIn_region ?_
  show wpOpsIn (FR none) n P #[o1,o2,o3] Q [0,1,2] a w
  have w1:∀ tm,Region.wanted o1 (yielded #[o1,o2,o3] tm)=true:=λ tm=>by simp[Region.wanted,e3]
  have w2:∀ tm,Region.wanted o2 (yielded #[o1,o2,o3] tm)=true:=λ tm=>by simp[Region.wanted,e6]
  have w3:∀ tm,Region.wanted o3 (yielded #[o1,o2,o3] tm)=true:=λ tm=>by simp[Region.wanted,e8]
  have r1:(execOp a.eval o1).run P w=.ok (.value (.agg #[])) w:=by
    simp only[execOp,e1,dqd,Array.map_empty,hb,dqe,dqb]
  have S1:=S.put (dst:=some x) (d:=.junk) (v:=.agg #[]) (by simpa [zbq,Nat.blt_eq] using hx) trivial (λ L hL=>by simp[zaO,za8,zaA] at hL) []
  have S2:=S1.put (dst:=some y) (d:=.junk) (v:=pr.v) (by simpa [zbq,Nat.blt_eq] using hy) trivial (λ L hL=>by simp[zaO,za8,zaA] at hL) []
  have ex:(a.put (some x) (.agg #[])).eval (.tmp x)=.agg #[]:=by
    simp[Act.put,Act.eval,dql,dqS hx S.size]
  have ey:((a.put (some x) (.agg #[])).put (some y) pr.v).eval (.tmp y)=pr.v:=by
    simp[Act.put,Act.eval,dql,dqS hy S.size]
  have r2:(execOp (a.put (some x) (.agg #[])).eval o2).run P w=.ok (.value pr.v) w:=by
    simp only[execOp,e4,ex,dqd,hm,dqe,dqb]
  have r3:(execOp ((a.put (some x) (.agg #[])).put (some y) pr.v).eval o3).run P w=.halt (.panic pr.v) w:=by
    simp only[execOp,e7,ey];rfl
  show (if Region.wanted o1 (yielded #[o1,o2,o3] a.tmps) then o1.wpIn (FR none) n P a w (wpOpsIn (FR none) n P #[o1,o2,o3] Q [1,2]) Q else _)
  rw[if_pos (w1 _)]
  refine⟨λ _ _=>trivial,?_⟩
  rw[show o1.semAt (FR none).round a.eval=execOp a.eval o1 from rfl,r1,Oper.uponIn_value,e2]
  show (if Region.wanted o2 (yielded #[o1,o2,o3] (a.put (some x) _).tmps) then o2.wpIn (FR none) n P (a.put (some x) _) w (wpOpsIn (FR none) n P #[o1,o2,o3] Q [2]) Q else _)
  rw[if_pos (w2 _)]
  refine⟨λ _ _=>trivial,?_⟩
  rw[show o2.semAt (FR none).round (a.put (some x) (.agg #[])).eval=execOp (a.put (some x) (.agg #[])).eval o2 from rfl,r2,Oper.uponIn_value,e5]
  show (if Region.wanted o3 (yielded #[o1,o2,o3] ((a.put (some x) _).put (some y) _).tmps) then o3.wpIn (FR none) n P ((a.put (some x) _).put (some y) _) w (wpOpsIn (FR none) n P #[o1,o2,o3] Q []) Q else _)
  rw[if_pos (w3 _)]
  refine⟨λ _ _=>trivial,?_⟩
  rw[show o3.semAt (FR none).round ((a.put (some x) (.agg #[])).put (some y) pr.v).eval=execOp ((a.put (some x) (.agg #[])).put (some y) pr.v).eval o3 from rfl,r3,Oper.uponIn_panic]
  refine hQ _ S2 rfl λ u hu hu'=>?_
  simp[Act.put,dql,Array.getElem?_setIfInBounds_ne (Ne.symm hu),Array.getElem?_setIfInBounds_ne (Ne.symm hu')]
def zqa (P:Program) (Γ:Ctrs) (nt B:Nat) (w0:World) (h0:Fz) (pr:PanR) (fi:FuncId) (K:Exit->St->Prop):Exit->Act->World->Prop :=
 fun e a' w' => (∃ g' σ', K e σ' ∧ Sim P nt B w0 h0 g' σ' a' w') ∨
  (e=.panic [{ v:=pr.v,recovered:=false }]/\∃ g' σ',Sim P nt B w0 h0 g' σ' a' w'/\a'.defers=[dfD fi (a'.tmps.getD pr.t1 undef) (a'.tmps.getD pr.t2 undef)]/\zef P Γ nt (zk5 pr) 0 (zk5 pr).toList (K .ret) { σ' with log:=[] })
def PhD (pr : PanR) (fi : FuncId) (D : List Nat) (a0 : Act) : Bool → Prop
  | false=>a0.defers=[]
  | true=>a0.defers=[dfD fi (a0.tmps.getD pr.t1 undef) (a0.tmps.getD pr.t2 undef)]/\pr.t1 ∉ D/\pr.t2 ∉ D
theorem zwg {a b:List Nat}(h:zFQ a b=true):∀ t∈a,t ∉ b:=λ t ht hb=>by
 have:=List.all_eq_true.1 h t ht
 simp at this
 exact this hb
theorem zDz (hok : OkAll P Γ) {fi : FuncId} (hidle : ∀ caps : Array Value, caps.size = 2 → znA P { target := .fn (.func fi) caps, args := #[] })
    (hb:∀ w,(Instr.build pr.ty #[]).run P w=.ok (.agg #[]) w) (hm:∀ w,(Instr.makeInterface pr.ty (.agg #[])).run P w=.ok pr.v w) (ann:Ann):∀ (c:Code) (dn:Bool) (n:Nat) (h0:Fz) (D:List Nat) (a0:Act) (K:Exit->St->Prop) (σ:St) (g:Gh) (a:Act) (w:World),
    (∀ t∈zfi c,t∈D)->rfS ∉ D->PhD pr fi D a0 dn->zmY P Γ pr fi ann dn c K σ->Sim P ann.nt B w0 h0 g σ a w->Kp D a0 a->c.wpIn (FR none) n P (zqa P Γ ann.nt B w0 h0 pr fi K) a w:=by
  intro c
  have leaf:∀ (c:Code),(∀ dn K σ,zmY P Γ pr fi ann dn c K σ=(match zwe ann.nt pr c with
      | some (x,y)=>(match dn with
        | true=>zef P Γ ann.nt (zk5 pr) 0 (zk5 pr).toList (K .ret) ⟨(y,.junk) :: (x,.junk) :: σ.env,σ.objs,[]⟩
        | false=>False)
      | none=>vc P Γ ann c K σ))->∀ (dn:Bool) (n:Nat) (h0:Fz) (D:List Nat) (a0:Act) (K:Exit->St->Prop) (σ:St) (g:Gh) (a:Act) (w:World),
      (∀ t∈zfi c,t∈D)->rfS ∉ D->PhD pr fi D a0 dn->zmY P Γ pr fi ann dn c K σ->Sim P ann.nt B w0 h0 g σ a w->Kp D a0 a->c.wpIn (FR none) n P (zqa P Γ ann.nt B w0 h0 pr fi K) a w:=by
    intro c hc dn n h0 D a0 K σ g a w hD hr hph h S hkp
    rw[hc] at h
    split at h
    · rename_i x y hpan
      split at h
      · refine zwf hb hm hpan S fun a' S' hdf htm => .inr ⟨rfl, g, _, S', ?_, h⟩
        obtain⟨p1,p2,p3⟩:=hph
        obtain⟨id,o1,o2,o3,rfl,_,_,_,e2,_,_,e5,_⟩:=zoB hpan
        have hxD:x∈D:=hD x (by simp[zfi,zts,e2])
        have hyD:y∈D:=hD y (by simp only[zfi,zts,e2,e5];simp)
        rw[hdf,hkp.2.2 hr,p1,htm _ (λ e=>p2 (by rw[e];exact hxD)) (λ e=>p2 (by rw[e];exact hyD)),htm _ (λ e=>p3 (by rw[e];exact hxD)) (λ e=>p3 (by rw[e];exact hyD)),hkp.1 _ p2,hkp.1 _ p3]
      · exact h.elim
    · exact wpIn_mono (zrK hok ann c none n h0 D a0 K σ g a w hD (Rnd.none h0) h S hkp) λ e a' w' ⟨g',σ',hK,S',_⟩=>.inl ⟨g',σ',hK,S'⟩
  induction c with
  | seq x y _ ihy =>
    intro dn n h0 D a0 K σ g a w hD hr hph h S hkp
    have hDx:∀ t∈zfi x,t∈D:=λ t ht=>hD t (dqg.2 (.inl ht))
    have hDy:∀ t∈zfi y,t∈D:=λ t ht=>hD t (dqg.2 (.inr ht))
    simp only[zmY] at h
    split at h
    · rename_i id t hdf
      split at h
      · rename_i hlt
        simp only[dqm,Bool.not_eq_true'] at hlt
        obtain⟨⟨ht,hdn⟩,hdj⟩:=hlt
        subst hdn
        have ht:t < ann.nt:=by simpa [Nat.blt_eq] using ht
        have hph:a0.defers=[]:=hph
        refine wpIn_seq (ztn hidle hdf ht S λ a' S' hd' htm=>?_)
        have hd:=zwg hdj
        obtain⟨_,_,_,rfl,n1,n2,_⟩:=zlF hdf
        have hph':PhD pr fi (zfi y) a' true:=by
          refine⟨?_,hd _ (by simp),hd _ (by simp)⟩
          rw[hd',hkp.2.2 hr,hph,htm _ (Ne.symm n1),htm _ (Ne.symm n2)]
        have hk:∀ s g2,zmY P Γ pr fi ann true y K s->Sim P ann.nt B w0 h0 g2 s a' w->y.wpIn (FR none) n P (zqa P Γ ann.nt B w0 h0 pr fi K) a' w:=λ s g2 hv S2 =>
          ihy true n h0 (zfi y) a' K s g2 a' w (λ _ h=>h) (λ h=>hr (hDy _ h)) hph' hv S2 (Kp.refl _ _)
        unfold zB2 at h
        split at h
        · split at h
          · rename_i s hs
            obtain⟨g2,S2⟩:=zbk hs S'
            exact hk s g2 h S2
          · exact h.elim
        · exact hk _ g h S'
      · exact h.elim
    · refine wpIn_seq (wpIn_mono (zrK hok ann x none n h0 D a0 _ σ g a w hDx (Rnd.none h0) h S hkp) ?_)
      rintro e a' w' ⟨g',σ',hK,S',hk'⟩
      cases e with
      | normal=>exact ihy dn n h0 D a0 K σ' g' a' w' hDy hr hph hK S' hk'
      | exit id=>exact .inl ⟨g',σ',hK,S'⟩
      | goto l=>exact .inl ⟨g',σ',hK,S'⟩
      | ret=>exact .inl ⟨g',σ',hK,S'⟩
      | panic ch=>exact .inl ⟨g',σ',hK,S'⟩
      | outgrown=>exact .inl ⟨g',σ',hK,S'⟩
  | skip=>exact leaf _ λ dn K σ=>rfl
  | region i o d=>exact leaf _ λ dn K σ=>rfl
  | cond c x y=>exact leaf _ λ dn K σ=>rfl
  | block i x=>exact leaf _ λ dn K σ=>rfl
  | loop x=>exact leaf _ λ dn K σ=>rfl
  | scope x=>exact leaf _ λ dn K σ=>rfl
  | exit i=>exact leaf _ λ dn K σ=>rfl
  | goto i=>exact leaf _ λ dn K σ=>rfl
  | label i=>exact leaf _ λ dn K σ=>rfl
  | ret=>exact leaf _ λ dn K σ=>rfl
  | rangeFunc f p x y=>exact leaf _ λ dn K σ=>rfl
  | refuse x=>exact leaf _ λ dn K σ=>rfl
theorem zDA {n : Nat} {a : Act} {w : World} {Q : Exit → Act → World → Prop} (h : wpOpsIn (FR none) n P (zk5 pr) Q [0, 1] a w) (hQ : ∀ ch a' w', ¬ Q (.panic ch) a' w') :
  ∃ w1 w2,(Instr.storeAt pr.y1 (a.tmps.getD pr.t1 undef) (.slice none 0 0)).run P w=.ok () w1/\(Instr.storeAt pr.y2 (a.tmps.getD pr.t2 undef) (.int .i64 pr.e)).run P w1=.ok () w2/\Q .normal a w2:=by
 have one:∀ (o:Oper) (ty:TypeId) (t:Nat) (v:Value) (w:World) (next:Act->World->Prop),o.op=.store ty (.tmp t) (.const v)->o.dst=none->o.wpIn (FR none) n P a w next Q->∃ w1,(Instr.storeAt ty (a.tmps.getD t undef) v).run P w=.ok () w1/\next a w1:=by
  intro o ty t v w next ho hd h
  obtain⟨_,h⟩:=h
  have e:o.semAt (FR none).round a.eval=(do Instr.storeAt ty (a.tmps.getD t undef) v;pure .skip):=by
   show execOp a.eval o=_
   simp only[execOp,ho];rfl
  rw[e] at h
  simp only[dqd] at h
  cases hr:(Instr.storeAt ty (a.tmps.getD t undef) v).run P w with
  | ok u w1 =>
   rw[hr] at h
   simp only[dqb,dqe,Oper.uponIn_skip,hd] at h
   exact⟨w1,rfl,h⟩
  | halt hh w1 =>
   rw[hr] at h
   cases hh with
   | panic v=>exact (hQ _ _ _ h).elim
   | _=>exact h.elim
 have w1:∀ (o:Oper) tm,o.guard=none->Region.wanted o (yielded (zk5 pr) tm)=true:=λ o tm e3=>by simp[Region.wanted,e3]
 have e0:(zk5 pr)[0]? = some (stA pr):=rfl
 have e1:(zk5 pr)[1]? = some (stB pr):=rfl
 simp only[wpOpsIn,e0,e1] at h
 rw[if_pos (w1 _ _ rfl)] at h
 obtain⟨wa,hr1,h⟩:=one _ _ _ _ _ _ rfl rfl h
 rw[if_pos (w1 _ _ rfl)] at h
 obtain⟨wb,hr2,h⟩:=one _ _ _ _ _ _ rfl rfl h
 exact⟨wa,wb,hr1,hr2,h⟩
def zKQ (P:Program) (pr:PanR) (fi:FuncId):Prop:=∀ (v1 v2:Value) (w:World),∃ os:Array Obj,∀ w1 w2,(Instr.storeAt pr.y1 v1 (.slice none 0 0)).run P { w with heap:=w.heap ++ os } = .ok () w1->(Instr.storeAt pr.y2 v2 (.int .i64 pr.e)).run P w1=.ok () w2 ->
 (∀ w,(invoke (dfD fi v1 v2).target (dfD fi v1 v2).args).run P w=.ok (.enter fi #[v1,v2]) w) /\
 ∀ n,CallsDIn (FR none) n P fi #[v1,v2] (.panicking [{ v:=pr.v,recovered:=false }]) w λ e u' w'=>(∃ v,e=.returned v)/\u'=.panicking [{ v:=pr.v,recovered:=true }]/\w'=w2
structure DefD (P : Program) (pr : PanR) (fi : FuncId) : Prop where
  idle:∀ caps:Array Value,caps.size=2->znA P { target:=.fn (.func fi) caps,args:=#[] }
  bld:∀ w,(Instr.build pr.ty #[]).run P w=.ok (.agg #[]) w
  mki:∀ w,(Instr.makeInterface pr.ty (.agg #[])).run P w=.ok pr.v w
  pan:zKQ P pr fi
theorem zAc {G : Ctrs} (hok : OkAll P G) {f fi : FuncId} (H : DefD P pr fi) {args : List PA} {K : List PA → Prop} {ann : Ann} (hv : zr8 P G pr fi ann f args K) {w : World} {h0 : Fz} {vs : List Value} (hvs : RL (paR h0) args vs) (hfz : Hw h0 w) (hgl : zdI h0) :
    Calls P f vs.toArray w λ e w'=>∃ (h':Fz) (rs:List PA) (v:Value),K rs/\e=.returned v/\zlY h' rs v/\Bel h0 w.heap.size w w' /\
      Fle h0 h'/\Hw h' w'/\∀ b o,h' b=some o->h0 b=some o\/w.heap.size<=b:=by
  unfold zr8 at hv
  split at hv
  · rename_i fn hfn
    split at hv
    · rename_i c hbody
      split at hv
      · rename_i hnt
        simp only[dqm,Nat.ble_eq] at hnt
        have S:=zke (P:=P) (dqc hnt.1.1) hnt.1.2 hvs hfz hgl
        have hwp:=zDz (B:=w.heap.size) (w0:=w) hok H.idle H.bld H.mki ann c false 0 h0 (zfi c) { tmps:=vs.toArray ++ Array.replicate (fn.ntmps - vs.toArray.size) undef,defers:=[] } _ _ _ _ _ (λ _ h=>h) (zwg hnt.2 _ (by simp)) rfl hv S (Kp.refl _ _)
        refine (callsIn_wide (n:=0)).1 ?_
        refine callsIn_of_wp_marks (F:=FR none) hfn hbody trivial (wpIn_mono hwp ?_)
        have h0b:∀ b,h0 b=some (.fz (.deferred (some [])))->b < w.heap.size:=λ b h=>hfz.lt h
        have res:∀ σ' g2 a2 w2,zAH P fn K σ'->Sim P ann.nt w.heap.size w h0 g2 σ' a2 w2->∃ v,(results fn a2.tmps).run P w2=.ok v w2/\∃ (h':Fz) (rs:List PA) (v':Value),K rs/\Ending.returned v=.returned v'/\zlY h' rs v'/\Bel h0 w.heap.size w w2 /\
            Fle h0 h'/\Hw h' w2/\∀ b o,h' b=some o->h0 b=some o\/w.heap.size<=b:=by
          intro σ' g2 a2 w2 hf S2
          unfold zAH at hf
          split at hf
          · rename_i l hl
            obtain⟨u,v,hu,hrun,hres⟩:=zkc S2 hl
            obtain⟨h',S3,F⟩:=S2.freeze hu
            exact⟨v,hrun,h',l,v,hf,rfl,hres h' F,S3.below,S3.le0,S3.hw,S3.hn⟩
          · exact hf.elim
        rintro e a' w' (⟨g',σ',hK',S'⟩ | ⟨rfl,g',σ',S',hdf,hvo⟩)
        · have fin:zAH P fn K σ'->LeavesInM (FR none) 0 P fn a'.tmps (λ e w'=>∃ (h':Fz) (rs:List PA) (v:Value),K rs/\e=.returned v/\zlY h' rs v/\Bel h0 w.heap.size w w' /\
              Fle h0 h'/\Hw h' w'/\∀ b o,h' b=some o->h0 b=some o\/w.heap.size<=b) a'.defers .returning w':=by
            intro hf
            obtain⟨Ds,h1,h2,h3,h4⟩:=S'.dfr
            exact zkd h0b Ds g' a' w' h1 h2 h3 h4 S' λ g2 a2 w2 _ S2=>res σ' g2 a2 w2 hf S2
          cases e with
          | normal=>exact fin hK'
          | ret=>exact fin hK'
          | exit id=>exact hK'.elim
          | goto l=>exact hK'.elim
          | panic ch=>exact hK'.elim
          | outgrown=>exact hK'.elim
        · show LeavesInM (FR none) 0 P fn a'.tmps _ a'.defers (.panicking _) w'
          rw[hdf]
          obtain⟨os,hpan⟩:=H.pan (a'.tmps.getD pr.t1 undef) (a'.tmps.getD pr.t2 undef) w'
          have hsame:∀ k,k < w'.heap.size->(w'.heap ++ os)[k]? = w'.heap[k]?:=λ k hk=>Array.getElem?_append_left hk
          have S1 : Sim P ann.nt w.heap.size w h0 g' σ' a' { w' with heap := w'.heap ++ os } := S'.world (h' := g'.h) (fun _ _ h => h) (S'.hw.same fun k o hk => hsame k (S'.hw.lt hk)) (fun _ _ h => .inl h)
            ⟨rfl,rfl,rfl,by simp,dqt _,λ k hk _=>hsame k hk⟩
          have hops:=zjU (r:=none) (n:=0) (D:=[]) (a0:=a') (Q:=λ e a2 w2=>e=.normal/\a2.tmps=a'.tmps/\∃ g2 σ2,zAH P fn K σ2/\Sim P ann.nt w.heap.size w h0 g2 σ2 a2 w2) hok (λ j o ho t ht=>by
            match j,ho with
            | 0,ho=>cases ho;cases ht
            | 1,ho=>cases ho;cases ht
            | _+2,ho=>cases ho) hvo (S1.log []) (Kp.refl _ _) λ σ2 hK g2 a2 w2 S2 hk2 _=>⟨rfl,?_,g2,σ2,hK,S2⟩
          · obtain ⟨w1, w2, hr1, hr2, _, _, g2, σ2, hf, S2⟩ := zDA hops fun ch a2 w2 h => by cases h.1
            obtain⟨hinv,hcall⟩:=hpan w1 w2 hr1 hr2
            refine⟨by simp,.inr ⟨(λ h=>by cases h),.func fi,_,fi,_,rfl,hinv w',(λ _ _=>trivial),?_⟩⟩
            refine (hcall _).mono ?_
            rintro e u' w3 ⟨⟨v,rfl⟩,rfl,rfl⟩
            exact res σ2 g2 a' _ hf S2
          · refine Array.ext (hk2.2.1) fun i h1 h2 => ?_
            have:=hk2.1 i (by simp)
            rw[dql,dql,Array.getElem?_eq_getElem h1,Array.getElem?_eq_getElem h2] at this
            exact this
      · exact hv.elim
    · exact hv.elim
  · exact hv.elim
theorem zAd {T : Tabs} (hT : TabsOk P T) {f fi : FuncId} {C : List PA → COut} (hc : zas P f) (H : DefD P pr fi)
    (h:∀ args K,(C args).wp K->∃ args',RL PAle args args'/\∃ memo vv ann,zr8 P (csm T memo vv) pr fi ann f args' (Wk K)):Ok P f C:=by
  intro args K hK w h0 vs hvs hfz hgl
  obtain⟨args',hle,memo,vv,ann,hv⟩:=h args K hK
  refine⟨hc,(zAc (hT.all memo vv) H hv (zu9 (R:=paR h0) (S:=PAle) (T:=paR h0) (λ _ _ _ e r=>zzH e r) _ _ _ hle hvs) hfz hgl).mono ?_⟩
  rintro e w' ⟨h',rs,v,⟨rs',hr,hk⟩,he,hres,rest⟩
  exact⟨h',rs',v,hk,he,zva hr hres,rest⟩
end
end Go.Pm
namespace Go.Pm
open Go Go.Proofs
set_option maxRecDepth 100000
theorem zG8:∀ caps:Array Value,caps.size=2->znA Tryd.prog { target:=.fn (.func 68) caps,args:=#[] }:=λ caps hc=>by
 match caps,hc with
 | ⟨[x,y]⟩,_ =>
 refine⟨.func 68,#[x,y],68,#[x,y],rfl,λ w=>?_,λ n w=>?_⟩
 ·have h : zas Tryd.prog 68 := ⟨_, rfl, rfl, by kernel_rfl⟩
  show (callFunc 68 (#[] ++ #[x,y])).run Tryd.prog w=_
  exact zbD h
 have key:CallsDIn { fn:=λ _=>True,depth:=none,alive:=false,round:=none } n Tryd.prog 68 #[x,y] .returning w λ e u' w'=>e=.returned (.tuple #[])/\u'=.returning/\w'=w:=by
  refine callsDIn_of_wpSIn Tryd.func68 rfl trivial λ c₀ cs hu=>?_
  apply wpSIn_seq
  apply wpSIn_region
  simp[wpOpsSIn,go_sem,recoverD,hu,Tryd.ntmps68,Exit.thenS]
  apply wpSIn_seq
  apply wpSIn_region
  simp[wpOpsSIn,go_sem,recoverD,hu,Tryd.ntmps68,Exit.thenS]
  refine wpSIn_cond (t:=false) (by simp[Act.eval,Array.replicate]) ?_
  simp only[Bool.false_eq_true,if_false]
  refine wpSIn_of_wpIn rfl (wpIn_skip ?_)
  cases c₀
  simp_all [bodyPostS,results,Tryd.results68]
 exact key.mono λ e u' w' h=>⟨⟨_,h.1⟩,h.2⟩
theorem zDB:Tryd.prog.underlying 100=some (.struct #[]):=by kernel_rfl
theorem zJD (w:World):(Instr.typeAssert (.iface 100 (.agg #[])) 20 100 true).run Tryd.prog w=.ok (.tuple #[.agg #[],.bool true]) w:=by
 simp only[Instr.typeAssert,dqd,run_underlying zDB,dqb,if_true,dqe]
abbrev zFG:PanR:=⟨2,27,3,28,8,100⟩
theorem zJE:zKQ Tryd.prog zFG 68:=λ v1 v2 w=>by
 refine⟨#[.cells #[] 100 (0,0)],λ w1 w2 h1 h2=>⟨λ w=>?_,λ n=>?_⟩⟩
 ·have h : zas Tryd.prog 68 := ⟨_, rfl, rfl, by kernel_rfl⟩
  show (callFunc 68 (#[] ++ #[v1,v2])).run Tryd.prog w=_
  exact zbD h
 have key:CallsDIn { fn:=λ _=>True,depth:=none,alive:=false,round:=none } n Tryd.prog 68 #[v1,v2] (.panicking [{ v:=zFG.v,recovered:=false }]) w λ e u' w'=>e=.returned (.tuple #[])/\u'=.panicking [{ v:=zFG.v,recovered:=true }]/\w'=w2:=by
  refine callsDIn_of_wpSIn Tryd.func68 rfl trivial λ c₀ cs hu=>?_
  apply wpSIn_seq
  apply wpSIn_region
  simp[wpOpsSIn,go_sem,recoverD,hu,Tryd.ntmps68,Exit.thenS]
  apply wpSIn_seq
  apply wpSIn_region
  simp[wpOpsSIn,go_sem,recoverD,hu,Tryd.ntmps68,Exit.thenS,PanR.v]
  refine wpSIn_cond (t:=true) (by simp[Act.eval,Array.replicate]) ?_
  simp only[if_true]
  apply wpSIn_seq
  apply wpSIn_seq
  apply wpSIn_region
  simp[wpOpsSIn,go_sem,recoverD,hu,Tryd.ntmps68,Exit.thenS,PanR.v,zJD]
  apply wpSIn_seq
  apply wpSIn_region
  simp[wpOpsSIn,go_sem,recoverD,hu,Tryd.ntmps68,Exit.thenS]
  refine wpSIn_cond (t:=false) (by simp[Act.eval,Array.replicate]) ?_
  simp only[Bool.false_eq_true,if_false]
  refine wpSIn_of_wpIn rfl (wpIn_skip ?_)
  simp only[Exit.thenS]
  apply wpSIn_region
  have e:w.alloc (Obj.cells #[] 100) = { w with heap:=w.heap ++ #[.cells #[] 100 (0,0)] }:=by
   show ({ w with heap:=w.heap.push _ } : World)=_
   rw[Array.push_eq_append]
  rw[<- e] at h1
  generalize hA:(Act.mk _ _)=A
  have hA0:A.eval (.tmp 0)=v1:=by subst hA;simp[Act.eval]
  have hA1:A.eval (.tmp 1)=v2:=by subst hA;simp[Act.eval]
  have hc:A.eval (.const (.slice none 0 0))=.slice none 0 0:=rfl
  have hc':A.eval (.const (.int .i64 8))=.int .i64 8:=rfl
  have hAd:A.defers=[]:=by subst hA;rfl
  clear hA
  show wpOpsSIn _ n Tryd.prog _ _ [0,1] A _ _
  simp[wpOpsSIn,execOp,hA0,hA1,hc,hc',h1,h2,Region.wanted,Act.put,Oper.about,bodyPostS,results,Tryd.results68]
  exact hAd
 exact key.mono λ e u' w' h=>⟨⟨_,h.1⟩,h.2⟩
theorem zJF:DefD Tryd.prog zFG 68:=by
 refine⟨zG8,λ w=>?_,λ w=>?_,zJE⟩
 ·have hz : (zeroValue 100).run Tryd.prog w = .ok (.agg #[]) w := by simp [go_sem]
  have hm:(Array.mapM (λ (f:Field)=>do let __do_lift <- sizeOf f.type;pure (f.offset,__do_lift)) #[]:Sem (Array (Nat×Nat)))=pure #[]:=by simp
  simp only[Instr.build,dqd,run_underlying zDB,hz,dqb,hm,dqe]
  rfl
 ·simp only [Instr.makeInterface, dqd, run_underlying zDB, dqb, dqe]
  rfl
end Go.Pm
namespace Go.Proofs
open Go Go.Pm
set_option maxRecDepth 100000
set_option linter.unusedVariables false
attribute [local irreducible] Go.Pm.vcFun Go.Pm.vc Go.Pm.vcIter
abbrev T22:Tabs:=(((Tabs.nil.addF 67 zvm).addM 69 zG3).addF 70 zDy)
theorem zJG:TabsOk Tryd.prog T22:=(((TabsOk.nil.addF zJf).addM zLI).addF zLK)
abbrev G22:Ctrs:=csm T22 (λ _ _=>[]) (λ l=>Nat.beq l 12)
def zDC:Ann:=⟨29,[(0,zK [1,2,3] [1,2,3]),(1,zK [1,2,3,9] [1,2,3]),(2,zK [2,3] [2,3]),(3,zK [1,2,3] [1,2,3]),(4,zK [2,3,4] [2,3,12,14]),(5,zK [2,3,4,15] [2,3,12,14]),(6,zK [2,3,4,15,16] [2,3,12,14]),(7,zK [2,3,4,5,15] [2,3,12,14]),(8,zK [2,3,4,6,15] [2,3,12,14]),(9,zK [2,3,4,6,15,23] [2,3,12,14]),(10,zK [2,3] [2,3]),(11,zK [2,3,4,15] [2,3,12,14])],
 [(6,zK [2,3,4,15] [2,3,12,14])],
 [],
 [],[]⟩
abbrev R22:=((Sl Int)×Int)
abbrev e22 (r:R22):List PA:=[.one (.sl r.1.len 1 (λ i=>zab (r.1.get i))),.one (.int .i64 r.2)]
@[irreducible] def z22:=zLL Tryd.prog G22 zDC zFG 68 Tryd.f22
def zBm (zaG:Int) (zbf:Int) (zbc:(Sl Tie)) (zbg:Nat) (zbh:(List Int->Option (List Int))) (zdi:Nat->List PV):St:=⟨[(2,zp 2 0),(3,zp 3 0),(4,zp 14 0),(15,zI zaG)],[(2,.box 27 [.p (.nils)]),(3,.box 28 [zi (0:Int)]),(12,.mo 3 4 (false,1,false,[none]) zbg zbh),(14,.box 105 [zi zbf,.p (.sl zbc.len 4 zdi),.mo 12])],[]⟩
abbrev zG9 (K:List PA->Prop) (X:St->Prop) (P:Int->Int->(Sl Tie)->Nat->(List Int->Option (List Int))->Bool) (S:Int->Int->(Sl Tie)->Nat->(List Int->Option (List Int))->((Sl Int)×Int)):Prop:=∀ ⦃zaG:Int⦄ ⦃zbf:Int⦄ ⦃zbc:(Sl Tie)⦄ ⦃zbg:Nat⦄ ⦃zbh:(List Int->Option (List Int))⦄ ⦃zdi:Nat->List PV⦄,P zaG zbf zbc zbg zbh=true->K (e22 (S zaG zbf zbc zbg zbh))->zdi=zg enc_40 zbc->X (zBm zaG zbf zbc zbg zbh zdi)
section
variable {K:List PA->Prop}{n:Net}{zaG:Int}{zbf:Int}{zbc:(Sl Tie)}{zbg:Nat}{zbh:(List Int->Option (List Int))}{zdi:Nat->List PV}{X0:St->Prop}{P0:Int->Int->(Sl Tie)->Nat->(List Int->Option (List Int))->Bool}{S0:Int->Int->(Sl Tie)->Nat->(List Int->Option (List Int))->((Sl Int)×Int)}
def zgG (S0:Int->Int->(Sl Tie)->Nat->(List Int->Option (List Int))->((Sl Int)×Int)) (zaG:Int) (zbf:Int) (zbc:(Sl Tie)) (zbg:Nat) (zbh:(List Int->Option (List Int))):((Sl Int)×Int) :=
  (cond (decide (zaG < (4:Int)))
 (cond (decide ((((s69 (⟨(⟨zbf, zbc⟩ : Net), (⟨zbg, zbh⟩ : Mp)⟩ : web) zaG).1).len : Int) > (0:Int)))
 ((s70 ((s69 (⟨(⟨zbf,zbc⟩:Net),(⟨zbg,zbh⟩:Mp)⟩:web) zaG).1)),(0:Int))
 (S0 (w64 (zaG+(1:Int))) (((s69 (⟨(⟨zbf,zbc⟩:Net),(⟨zbg,zbh⟩:Mp)⟩:web) zaG).2).Net.Nodes) (((s69 (⟨(⟨zbf,zbc⟩:Net),(⟨zbg,zbh⟩:Mp)⟩:web) zaG).2).Net.Ties) ((((s69 (⟨(⟨zbf,zbc⟩:Net),(⟨zbg,zbh⟩:Mp)⟩:web) zaG).2).out).n) ((((s69 (⟨(⟨zbf,zbc⟩:Net),(⟨zbg,zbh⟩:Mp)⟩:web) zaG).2).out).F)))
 ((⟨0,λ _=>default⟩:(Sl Int)),(8:Int)))
def zmZ (P0:Int->Int->(Sl Tie)->Nat->(List Int->Option (List Int))->Bool) (zaG:Int) (zbf:Int) (zbc:(Sl Tie)) (zbg:Nat) (zbh:(List Int->Option (List Int))):Bool :=
  (cond (decide (zaG < (4:Int)))
 (decide ((p69 (⟨(⟨zbf,zbc⟩:Net),(⟨zbg,zbh⟩:Mp)⟩:web) zaG=true)) &&
 (cond (decide ((((s69 (⟨(⟨zbf, zbc⟩ : Net), (⟨zbg, zbh⟩ : Mp)⟩ : web) zaG).1).len : Int) > (0:Int)))
 (decide ((p70 ((s69 (⟨(⟨zbf,zbc⟩:Net),(⟨zbg,zbh⟩:Mp)⟩:web) zaG).1)=true)) &&
 true)
 (P0 (w64 (zaG+(1:Int))) (((s69 (⟨(⟨zbf,zbc⟩:Net),(⟨zbg,zbh⟩:Mp)⟩:web) zaG).2).Net.Nodes) (((s69 (⟨(⟨zbf,zbc⟩:Net),(⟨zbg,zbh⟩:Mp)⟩:web) zaG).2).Net.Ties) ((((s69 (⟨(⟨zbf,zbc⟩:Net),(⟨zbg,zbh⟩:Mp)⟩:web) zaG).2).out).n) ((((s69 (⟨(⟨zbf,zbc⟩:Net),(⟨zbg,zbh⟩:Mp)⟩:web) zaG).2).out).F))))
 true)
def zdQ:Nat->Int->Int->(Sl Tie)->Nat->(List Int->Option (List Int))->((Sl Int)×Int):=lpO (λ _ _ _ _ _=>default) (zgG)
def zkA:Nat->Int->Int->(Sl Tie)->Nat->(List Int->Option (List Int))->Bool:=lpO (λ _ _ _ _ _=>false) (zmZ)
def zwh (zaG:Int) (zbf:Int) (zbc:(Sl Tie)) (zbg:Nat) (zbh:(List Int->Option (List Int))):((Sl Int)×Int):=zdQ Fuel zaG zbf zbc zbg zbh
def zwi (zaG:Int) (zbf:Int) (zbc:(Sl Tie)) (zbg:Nat) (zbh:(List Int->Option (List Int))):Bool:=zkA Fuel zaG zbf zbc zbg zbh
theorem zDD (hs:zwi zaG zbf zbc zbg zbh=true) (hk:K (e22 (zwh zaG zbf zbc zbg zbh))) (zkB:zdi=zg enc_40 zbc):z22 (Wk K) [1,1,1,1,0,1,0] [] (zBm zaG zbf zbc zbg zbh zdi) :=
  zl (λ X=>z22 (Wk K) [1,1,1,1,0,1,0,0] [X]) (by kernel_rfl) λ X0 hX =>
  (show ∀ k, zG9 K X0 (zkA k) (zdQ k) from zfc _ _ (zmZ) (zgG) (zG9 K X0)
 (by intro _ _ _ _ _ _ hs;exact absurd hs dqk)
 (by intro P0 S0 hX0 zaG zbf zbc zbg zbh zdi hs hk zkB;subst zkB;exact hX _ (za4 (by kernel_rfl) (zc hs hk (λ hs hk=>(zaR hs λ hc hs=>And.intro (And.intro (zE enc_40 4 zbc.get) (And.intro (rfl:((false,1,false,[none]):MQ)=(false,1,false,[none])) hc)) (zc hs hk (λ hs hk=>(zaR hs λ hc hs=>And.intro (And.intro (zE zbT 1 (((s69 (⟨(⟨zbf,zbc⟩:Net),(⟨zbg,zbh⟩:Mp)⟩:web) zaG).1).get)) hc) ((zgm hk):Wk K [.one (.sl ((s70 ((s69 (⟨(⟨zbf,zbc⟩:Net),(⟨zbg,zbh⟩:Mp)⟩:web) zaG).1)).len) 1 (λ i=>zab ((s70 ((s69 (⟨(⟨zbf,zbc⟩:Net),(⟨zbg,zbh⟩:Mp)⟩:web) zaG).1)).get i))),.one (.int .i64 (0:Int))]))) (λ hs hk=>(hX0 hs hk rfl))))) (λ hs hk=>((wk hk (zgM (.one (.nil _ _)) (zgM (.one (.rfl _)) znq))):Wk K [.one (.nils),.one (.int .i64 (8:Int))])))))) _ hs hk zkB
def s22 (n:Net):((Sl Int)×Int) :=
  (cond (!(s67 n))
 ((⟨0,λ _=>default⟩:(Sl Int)),(2:Int))
 (zwh (0:Int) n.Nodes n.Ties 0 (λ _=>none)))
def p22 (n:Net):Bool :=
  (decide ((p67 n=true)) &&
 (cond (!(s67 n))
 true
 (zwi (0:Int) n.Nodes n.Ties 0 (λ _=>none))))
end
theorem q22 (n:Net) (K:List PA->Prop) (hs:p22 n=true) (hk:K (e22 (s22 n))):zr8 Tryd.prog G22 zFG 68 zDC 22 [.agg (enc_24 n)] (Wk K) :=
  za4 (by kernel_rfl) (zaR hs λ hc hs=>And.intro (And.intro (zE enc_40 4 n.Ties.get) hc) (zc hs hk (λ hs hk=>((wk hk (zgM (.one (.nil _ _)) (zgM (.one (.rfl _)) znq))):Wk K [.one (.nils),.one (.int .i64 (2:Int))])) (λ hs hk=>(zDD hs hk rfl))))
def zAe : List PA → COut
  | [.agg [.int .i64 zal,.sl zai zaH zah]]=>.det (IsE enc_40 4 zaH zah/\p22 (⟨zal,(⟨zai,zam zah⟩:(Sl Tie))⟩:Net)=true) [.one (.sl (((s22 (⟨zal,(⟨zai,zam zah⟩:(Sl Tie))⟩:Net)).1).len) 1 (λ i=>zab (((s22 (⟨zal,(⟨zai,zam zah⟩:(Sl Tie))⟩:Net)).1).get i))),.one (.int .i64 ((s22 (⟨zal,(⟨zai,zam zah⟩:(Sl Tie))⟩:Net)).2))]
  | _=>.no
theorem zHa:zas Tryd.prog 22:=⟨_,rfl,rfl,by kernel_rfl⟩
theorem zKR:Ok Tryd.prog 22 zAe:=zAd zJG zHa zJF λ args K h=>by
  unfold zAe at h
  split at h
  · rename_i zal zai zaH zah
    obtain⟨⟨⟨rfl,zax,rfl⟩,hs⟩,hk⟩:=h
    try rw[zan zax] at hs
    try rw[zan zax] at hk
    exact⟨_,zfo zgl _,(λ _ _=>[]),(λ l=>Nat.beq l 12),zDC,q22 (⟨zal,(⟨zai,zax⟩:(Sl Tie))⟩:Net) K hs hk⟩
  · exact h.elim
abbrev T74:Tabs:=(((Tabs.nil.addF 67 zvm).addF 81 zvg).addF 88 zvr)
theorem zJH:TabsOk Tryd.prog T74:=(((TabsOk.nil.addF zJf).addF zJc).addF zJk)
abbrev G74:Ctrs:=csm T74 (λ _ _=>[]) (λ _=>false)
def zAf:Ann:=⟨31,[(0,zK [1,2] [2]),(1,zK [1,2,6] [2,11]),(2,zK [1,2,6,14] [2,11]),(3,zK [4,5] []),(4,zK [2,6,15,16,17] [2,11]),(5,zK [2,6,15,16,17,18] [2,11]),(6,zK [2,6,8,15,16,17] [2,11]),(7,zK [2,6,15,16,17,26] [2,11]),(8,zK [4,5] []),(9,zK [2,6,15,16,17] [2,11]),(10,zK [6,29] [11]),(11,zK [4,5] []),(12,zK [4,5] [11])],
 [(5,zK [2,6,15,16,17] [2,11])],
 [(3,zK [1,2,6,14] [2,11]),(4,zK [1,2,6] [2,11]),(8,zK [2,6,15,16,17,26] [2,11]),(11,zK [6,29] [11])],
 [],[]⟩
abbrev R74:=(web×Int)
abbrev e74 (r:R74):List PA:=cond (r.2 == 0) [.one (.fp (zaz r.1) 0),.one (.int .i64 (0:Int))] [.one (.nilp),.one (.int .i64 r.2)]
@[irreducible] def z74:=ptF Tryd.prog G74 zAf Tryd.f74
def zBn (n:Net) (nodes:(Sl Int)) (zdA:Int):St:=⟨[(2,zp 2 0),(6,zp 11 0),(15,zS zab 1 nodes),(16,zI (nodes.len:Int)),(17,zI zdA)],[(2,.box 24 (zm (enc_24 n))),(11,.box 105 (zm (zaz (⟨n,(⟨0,(λ _=>none)⟩:Mp)⟩:web))))],[]⟩
abbrev zDE (K:List PA->Prop) (n:Net) (nodes:(Sl Int)) (X:St->Prop) (P:Int->Bool) (S:Int->(web×Int)):Prop:=∀ ⦃zdA:Int⦄,P zdA=true->K (e74 (S zdA))->X (zBn n nodes zdA)
section
variable {K:List PA->Prop}{n:Net}{nodes:(Sl Int)}{zqb:Bool}{zdA:Int}{X2:St->Prop}{P2:Int->Bool}{S2:Int->(web×Int)}{zqc:Int}{zqd:Bool}{zAg:Bool}
def zqe (n:Net) (zAg:Bool):(web×Int) :=
  (cond zAg
 ((default:web),(5:Int))
 ((⟨n,(⟨0,(λ _=>none)⟩:Mp)⟩:web),(0:Int)))
theorem zDF (hk:K (e74 (zqe n zAg))):z74 K [1,1,1,1,0,1] [] ⟨[(6,zp 11 0),(29,zB zAg)],[(11,.box 105 (zm (zaz (⟨n,(⟨0,(λ _=>none)⟩:Mp)⟩:web))))],[]⟩:=za4 (by kernel_rfl) (zt hk (λ hk=>hk) (λ hk=>hk))
def zqf (S2:Int->(web×Int)) (n:Net) (nodes:(Sl Int)) (zqc:Int) (zqd:Bool):(web×Int) :=
  (cond zqd
 ((default:web),(2:Int))
 (S2 (w64 (zqc+(1:Int)))))
def zqg (P2:Int->Bool) (n:Net) (nodes:(Sl Int)) (zqc:Int) (zqd:Bool):Bool :=
  (cond zqd
 true
 (P2 (w64 (zqc+(1:Int)))))
theorem zDG (hX2:zDE K n nodes X2 P2 S2) (hs:zqg P2 n nodes zqc zqd=true) (hk:K (e74 (zqf S2 n nodes zqc zqd))):z74 K [1,1,1,0,1,0,0,1,1,0,0,1,1] [X2] ⟨[(2,zp 2 0),(6,zp 11 0),(15,zS zab 1 nodes),(16,zI (nodes.len:Int)),(17,zI zqc),(26,zB zqd)],[(2,.box 24 (zm (enc_24 n))),(11,.box 105 (zm (zaz (⟨n,(⟨0,(λ _=>none)⟩:Mp)⟩:web))))],[]⟩:=za4 (by kernel_rfl) (zc hs hk (λ hs hk=>hk) (λ hs hk=>(hX2 hs hk)))
def zh8 (n:Net) (nodes:(Sl Int)) (S2:Int->(web×Int)) (zdA:Int):(web×Int) :=
  (cond (decide (zdA < (nodes.len : Int)))
 (zqf S2 n nodes zdA (!(s81 (nodes.get zdA.toNat) (0:Int) (w64 (n.Nodes - (1:Int))))))
 (zqe n (s88 (⟨n,(⟨0,(λ _=>none)⟩:Mp)⟩:web))))
def zh9 (n:Net) (nodes:(Sl Int)) (P2:Int->Bool) (zdA:Int):Bool :=
  (cond (decide (zdA < (nodes.len : Int)))
 (decide ((0<=zdA/\zdA < (nodes.len:Int))) &&
 (zqg P2 n nodes zdA (!(s81 (nodes.get zdA.toNat) (0:Int) (w64 (n.Nodes - (1:Int)))))))
 (decide ((p88 (⟨n,(⟨0,(λ _=>none)⟩:Mp)⟩:web)=true)) &&
 true))
def zia (n:Net) (nodes:(Sl Int)):Nat->Int->(web×Int):=lpO (λ _=>default) (zh8 n nodes)
def zib (n:Net) (nodes:(Sl Int)):Nat->Int->Bool:=lpO (λ _=>false) (zh9 n nodes)
def zqh (n:Net) (nodes:(Sl Int)) (zdA:Int):(web×Int):=zia n nodes Fuel zdA
def zqi (n:Net) (nodes:(Sl Int)) (zdA:Int):Bool:=zib n nodes Fuel zdA
theorem zDH (hs:zqi n nodes zdA=true) (hk:K (e74 (zqh n nodes zdA))):z74 K [1,1,1,0,1,0] [] (zBn n nodes zdA) :=
  zl (λ X=>z74 K [1,1,1,0,1,0,0] [X]) (by kernel_rfl) λ X2 hX =>
  (show ∀ k, zDE K n nodes X2 (zib n nodes k) (zia n nodes k) from zfc _ _ (zh9 n nodes) (zh8 n nodes) (zDE K n nodes X2)
 (by intro _ hs;exact absurd hs dqk)
 (by intro P2 S2 hX2 zdA hs hk;exact hX _ (za4 (by kernel_rfl) (zc hs hk (λ hs hk=>(zaR hs λ hc hs=>And.intro hc (zDG hX2 hs hk))) (λ hs hk=>(zaR hs λ hc hs=>And.intro (And.intro (zE enc_40 4 n.Ties.get) (And.intro (rfl:((false,1,false,[none]):MQ)=(false,1,false,[none])) hc)) (zDF hk))))))) _ hs hk
def zqj (n:Net) (nodes:(Sl Int)):(web×Int) :=
  (zqh n nodes (0:Int))
def zqk (n:Net) (nodes:(Sl Int)):Bool :=
  (zqi n nodes (0:Int))
theorem zDI (hs:zqk n nodes=true) (hk:K (e74 (zqj n nodes))):z74 K [1,1,1] [] ⟨[(1,zS zab 1 nodes),(2,zp 2 0),(6,zp 11 0)],[(2,.box 24 (zm (enc_24 n))),(11,.box 105 (zm (zaz (⟨n,(⟨0,(λ _=>none)⟩:Mp)⟩:web))))],[]⟩:=za4 (by kernel_rfl) (zDH hs hk)
def zql (n:Net) (nodes:(Sl Int)) (zqb:Bool):(web×Int) :=
  (cond zqb
 ((default:web),(2:Int))
 (zqj n nodes))
def zqm (n:Net) (nodes:(Sl Int)) (zqb:Bool):Bool :=
  (cond zqb
 true
 (zqk n nodes))
theorem zDJ (hs:zqm n nodes zqb=true) (hk:K (e74 (zql n nodes zqb))):z74 K [1,1,0,1] [] ⟨[(1,zS zab 1 nodes),(2,zp 2 0),(6,zp 11 0),(14,zB zqb)],[(2,.box 24 (zm (enc_24 n))),(11,.box 105 (zm (zaz (⟨n,(⟨0,(λ _=>none)⟩:Mp)⟩:web))))],[]⟩:=za4 (by kernel_rfl) (zc hs hk (λ hs hk=>hk) (λ hs hk=>(zDI hs hk)))
def s74 (n:Net) (nodes:(Sl Int)):(web×Int) :=
  (zql n nodes (!(s67 n)))
def p74 (n:Net) (nodes:(Sl Int)):Bool :=
  (decide ((p67 n=true)) &&
 (zqm n nodes (!(s67 n))))
end
theorem q74 (n:Net) (nodes:(Sl Int)) (K:List PA->Prop) (hs:p74 n nodes=true) (hk:K (e74 (s74 n nodes))):vcFun Tryd.prog G74 zAf 74 [.agg (enc_24 n),.one (.sl nodes.len 1 (λ i=>zab (nodes.get i)))] K :=
  za4 (by kernel_rfl) (zaR hs λ hc hs=>And.intro (And.intro (zE enc_40 4 n.Ties.get) hc) (zDJ hs hk))
def zwj : List PA → COut
  | [.agg [.int .i64 zal,.sl zai zaH zah],.one (.sl zeE zk2 zeA)]=>.alt ((s74 (⟨zal,(⟨zai,zam zah⟩:(Sl Tie))⟩:Net) (⟨zeE,zau zeA⟩:(Sl Int))).2 == 0) (IsE enc_40 4 zaH zah/\IsE zab 1 zk2 zeA/\p74 (⟨zal,(⟨zai,zam zah⟩:(Sl Tie))⟩:Net) (⟨zeE,zau zeA⟩:(Sl Int))=true) [.one (.fp (zaz (⟨(s74 (⟨zal,(⟨zai,zam zah⟩:(Sl Tie))⟩:Net) (⟨zeE,zau zeA⟩:(Sl Int))).1.Net,((s74 (⟨zal,(⟨zai,zam zah⟩:(Sl Tie))⟩:Net) (⟨zeE,zau zeA⟩:(Sl Int))).1.out)⟩:web)) 0),.one (.int .i64 (0:Int))] (IsE enc_40 4 zaH zah/\IsE zab 1 zk2 zeA/\p74 (⟨zal,(⟨zai,zam zah⟩:(Sl Tie))⟩:Net) (⟨zeE,zau zeA⟩:(Sl Int))=true) [.one (.nilp),.one (.int .i64 ((s74 (⟨zal,(⟨zai,zam zah⟩:(Sl Tie))⟩:Net) (⟨zeE,zau zeA⟩:(Sl Int))).2))]
  | [.agg [.int .i64 zal,.sl zai zaH zah],.one (.nils)]=>.alt ((s74 (⟨zal,(⟨zai,zam zah⟩:(Sl Tie))⟩:Net) (⟨0,λ _=>default⟩:(Sl Int))).2 == 0) (IsE enc_40 4 zaH zah/\p74 (⟨zal,(⟨zai,zam zah⟩:(Sl Tie))⟩:Net) (⟨0,λ _=>default⟩:(Sl Int))=true) [.one (.fp (zaz (⟨(s74 (⟨zal,(⟨zai,zam zah⟩:(Sl Tie))⟩:Net) (⟨0,λ _=>default⟩:(Sl Int))).1.Net,((s74 (⟨zal,(⟨zai,zam zah⟩:(Sl Tie))⟩:Net) (⟨0,λ _=>default⟩:(Sl Int))).1.out)⟩:web)) 0),.one (.int .i64 (0:Int))] (IsE enc_40 4 zaH zah/\p74 (⟨zal,(⟨zai,zam zah⟩:(Sl Tie))⟩:Net) (⟨0,λ _=>default⟩:(Sl Int))=true) [.one (.nilp),.one (.int .i64 ((s74 (⟨zal,(⟨zai,zam zah⟩:(Sl Tie))⟩:Net) (⟨0,λ _=>default⟩:(Sl Int))).2))]
  | _=>.no
theorem zHb:zas Tryd.prog 74:=⟨_,rfl,rfl,by kernel_rfl⟩
theorem zJI:Ok Tryd.prog 74 zwj:=zhB zJH zHb λ args K h=>by
  unfold zwj at h
  split at h
  · rename_i zal zai zaH zah zeE zk2 zeA
    have h:=zGl h
    obtain⟨⟨⟨rfl,zax,rfl⟩,⟨rfl,zhK,rfl⟩,hs⟩,hk⟩:=h
    try rw[zan zax] at hs
    try rw[zan zax] at hk
    try rw[zbp zhK] at hs
    try rw[zbp zhK] at hk
    exact⟨_,zfo zgl _,(λ _ _=>[]),(λ _=>false),zAf,q74 (⟨zal,(⟨zai,zax⟩:(Sl Tie))⟩:Net) (⟨zeE,zhK⟩:(Sl Int)) (Wk K) hs (zgm hk)⟩
  · rename_i zal zai zaH zah
    have h:=zGl h
    obtain⟨⟨⟨rfl,zax,rfl⟩,hs⟩,hk⟩:=h
    try rw[zan zax] at hs
    try rw[zan zax] at hk
    exact⟨_,(zgM (zgl _) (zgM (.one (.nil _ _)) znq)),(λ _ _=>[]),(λ _=>false),zAf,q74 (⟨zal,(⟨zai,zax⟩:(Sl Tie))⟩:Net) (⟨0,λ _=>default⟩:(Sl Int)) (Wk K) hs (zgm hk)⟩
  · exact h.elim
abbrev T75:Tabs:=(((Tabs.nil.addF 93 zok).addF 104 zon).addI 110 zom)
theorem zJJ:TabsOk Tryd.prog T75:=(((TabsOk.nil.addF zFD).addF zCW).addI ztj)
abbrev G75:Ctrs:=csm T75 (λ _ _=>[]) (λ _=>false)
def zwk:Ann:=⟨66,[(0,zK [0,1,4] [4]),(1,zK [0,1,4,5] [4,5]),(2,zK [0,1,4,5,10] [4,5]),(3,zK [0,1,4,5,10,11] [4,5]),(4,zK [0,1,4,5,6,10] [4,5]),(5,zK [0,1,4,5,10] [4,5]),(6,zK [0,1,4,5,10] [4,5]),(7,zK [0,4,5] [4,5]),(8,zK [0,4,5,7] [4,5,7]),(9,zK [0,4,5,7,20] [4,5,7]),(10,zK [0,4,5,7] [4,5,7]),(11,zK [0,4,5,7,22] [4,5,7]),(12,zK [0,4,5,7,8,22] [4,5,7,8]),(13,zK [0,4,5,7,8,22,29] [4,5,7,8]),(14,zK [0,4,5,7,8,9,22] [4,5,7,8,9]),(15,zK [0,4,5,7,8,9,22] [4,5,7,8,9]),(16,zK [0,4,5,7,22] [4,5,7]),(17,zK [0,4,5,64] [4,5]),(18,zK [0,4,5,7] [4,5,7]),(19,zK [4] [4])],
 [(3,zK [0,1,4,5,10] [4,5]),(9,zK [0,4,5,7] [4,5,7]),(12,zK [0,4,5,7,22] [4,5,7])],
 [(7,zK [0,1,4,5] [4,5])],
 [],[]⟩
abbrev R75:=Tab
abbrev e75 (r:R75):List PA:=[.agg (zak r)]
@[irreducible] def z75:=ptF Tryd.prog G75 zwk Tryd.f75
@[irreducible] def x75:=exF Tryd.prog G75 zwk Tryd.f75
@[irreducible] def y75:=rnF Tryd.prog G75 zwk Tryd.f75
def zBo (w:web) (node:Int) (za1:Int) (t4t0:Tab) (dt0:Tab):St:=⟨[(0,zP (.fp (zaz w) 0)),(1,zI node),(4,zp 4 0),(5,zp 5 0),(10,zI za1)],[(4,.box 116 (zm (zak t4t0))),(5,.box 116 (zm (zak dt0)))],[]⟩
abbrev zHc (K:List PA->Prop) (w:web) (node:Int) (X:St->Prop) (P:Int->Tab->Tab->Bool) (S:Int->Tab->Tab->Tab):Prop:=∀ ⦃za1:Int⦄ ⦃t4t0:Tab⦄ ⦃dt0:Tab⦄,P za1 t4t0 dt0=true->K (e75 (S za1 t4t0 dt0))->X (zBo w node za1 t4t0 dt0)
def zBp (w:web) (zaJ:Bool) (t4t2:Tab) (dt2:Tab):St:=⟨[(0,zP (.fp (zaz w) 0)),(4,zp 4 0),(5,zp 5 0),(7,zp 7 0)],[(4,.box 116 (zm (zak t4t2))),(5,.box 116 (zm (zak dt2))),(7,.box 4 [.p (.bool zaJ)])],[]⟩
abbrev zDK (K:List PA->Prop) (w:web) (X:St->Prop) (P:Bool->Tab->Tab->Bool) (S:Bool->Tab->Tab->Tab):Prop:=∀ ⦃zaJ:Bool⦄ ⦃t4t2:Tab⦄ ⦃dt2:Tab⦄,P zaJ t4t2 dt2=true->K (e75 (S zaJ t4t2 dt2))->X (zBp w zaJ t4t2 dt2)
def zwl (w:web) (zaw:Bool) (t4t3:Tab) (dt3:Tab):St:=⟨[(0,zP (.fp (zaz w) 0)),(4,zp 4 0),(5,zp 5 0),(7,zp 7 0),(22,zP (.fn 110 [] [.fp [.fp (zaz w) 0] 0]))],[(4,.box 116 (zm (zak t4t3))),(5,.box 116 (zm (zak dt3))),(7,.box 4 [.p (.bool zaw)])],[]⟩
abbrev zHd (K:List PA->Prop) (w:web) (X:St->Prop) (P:Bool->Tab->Tab->Bool) (S:Bool->Tab->Tab->Tab):Prop:=∀ ⦃zaw:Bool⦄ ⦃t4t3:Tab⦄ ⦃dt3:Tab⦄,P zaw t4t3 dt3=true->K (e75 (S zaw t4t3 dt3))->X (zwl w zaw t4t3 dt3)
section
variable {K:List PA->Prop}{w:web}{node:Int}{za1:Int}{t4t0:Tab}{dt0:Tab}{X0:St->Prop}{P0:Int->Tab->Tab->Bool}{S0:Int->Tab->Tab->Tab}{t4t1:Tab}{dt1:Tab}{zaJ:Bool}{t4t2:Tab}{dt2:Tab}{X2:St->Prop}{P2:Bool->Tab->Tab->Bool}{S2:Bool->Tab->Tab->Tab}{zaw:Bool}{t4t3:Tab}{dt3:Tab}
def zDL (S2:Bool->Tab->Tab->Tab) (w:web) (zaw:Bool) (t4t3:Tab) (dt3:Tab):Tab :=
  (S2 zaw t4t3 dt3)
def zDM (P2:Bool->Tab->Tab->Bool) (w:web) (zaw:Bool) (t4t3:Tab) (dt3:Tab):Bool :=
  (P2 zaw t4t3 dt3)
def zm0 (S2:Bool->Tab->Tab->Tab) (w:web) (y3:step) (S3:Bool->Tab->Tab->Tab) (zaw:Bool) (t4t3:Tab) (dt3:Tab):Tab :=
  (cond (nvr (tL dt3 y3.to) (tU dt3 y3.to))
 (S3 zaw t4t3 dt3)
 (cond zaw
 (S3 true t4t3 (ts 80 dt3 (0+y3.from_.toNat * 2+0) [(zcw (⟨(tL dt3 y3.from_),(tU dt3 y3.from_)⟩:far) (⟨1,λ _=>(⟨(w64 ((tL dt3 y3.to)+y3.length)),(w64 ((tV dt3 y3.to)+(1:Int)))⟩:far)⟩:(Sl far))).length,(zcw (⟨(tL dt3 y3.from_),(tU dt3 y3.from_)⟩:far) (⟨1,λ _=>(⟨(w64 ((tL dt3 y3.to)+y3.length)),(w64 ((tV dt3 y3.to)+(1:Int)))⟩:far)⟩:(Sl far))).uses]))
 (S3 (!(match ((zcw (⟨(tL dt3 y3.from_),(tU dt3 y3.from_)⟩:far) (⟨1,λ _=>(⟨(w64 ((tL dt3 y3.to)+y3.length)),(w64 ((tV dt3 y3.to)+(1:Int)))⟩:far)⟩:(Sl far))).length == (tL dt3 y3.from_)) with | true=>(match ((zcw (⟨(tL dt3 y3.from_),(tU dt3 y3.from_)⟩:far) (⟨1,λ _=>(⟨(w64 ((tL dt3 y3.to)+y3.length)),(w64 ((tV dt3 y3.to)+(1:Int)))⟩:far)⟩:(Sl far))).uses == (tU dt3 y3.from_)) with | true=>true | false=>false) | false=>false)) t4t3 (ts 80 dt3 (0+y3.from_.toNat * 2+0) [(zcw (⟨(tL dt3 y3.from_),(tU dt3 y3.from_)⟩:far) (⟨1,λ _=>(⟨(w64 ((tL dt3 y3.to)+y3.length)),(w64 ((tV dt3 y3.to)+(1:Int)))⟩:far)⟩:(Sl far))).length,(zcw (⟨(tL dt3 y3.from_),(tU dt3 y3.from_)⟩:far) (⟨1,λ _=>(⟨(w64 ((tL dt3 y3.to)+y3.length)),(w64 ((tV dt3 y3.to)+(1:Int)))⟩:far)⟩:(Sl far))).uses]))))
def zm1 (P2:Bool->Tab->Tab->Bool) (w:web) (y3:step) (P3:Bool->Tab->Tab->Bool) (zaw:Bool) (t4t3:Tab) (dt3:Tab):Bool :=
  (decide ((0<=y3.to/\y3.to < (40:Int))) &&
 (cond (nvr (tL dt3 y3.to) (tU dt3 y3.to))
 (P3 zaw t4t3 dt3)
 (decide ((0<=y3.from_/\y3.from_ < (40:Int))) &&
 (decide ((0<=y3.to/\y3.to < (40:Int))) &&
 (decide ((0<=y3.to/\y3.to < (40:Int))) &&
 (decide ((zyJ (⟨(tL dt3 y3.from_),(tU dt3 y3.from_)⟩:far) (⟨1,λ _=>(⟨(w64 ((tL dt3 y3.to)+y3.length)),(w64 ((tV dt3 y3.to)+(1:Int)))⟩:far)⟩:(Sl far))=true)) &&
 (cond zaw
 (decide ((0<=y3.from_/\y3.from_ < (40:Int))) &&
 (P3 true t4t3 (ts 80 dt3 (0+y3.from_.toNat * 2+0) [(zcw (⟨(tL dt3 y3.from_),(tU dt3 y3.from_)⟩:far) (⟨1,λ _=>(⟨(w64 ((tL dt3 y3.to)+y3.length)),(w64 ((tV dt3 y3.to)+(1:Int)))⟩:far)⟩:(Sl far))).length,(zcw (⟨(tL dt3 y3.from_),(tU dt3 y3.from_)⟩:far) (⟨1,λ _=>(⟨(w64 ((tL dt3 y3.to)+y3.length)),(w64 ((tV dt3 y3.to)+(1:Int)))⟩:far)⟩:(Sl far))).uses])))
 (decide ((0<=y3.from_/\y3.from_ < (40:Int))) &&
 (decide ((0<=y3.from_/\y3.from_ < (40:Int))) &&
 (P3 (!(match ((zcw (⟨(tL dt3 y3.from_),(tU dt3 y3.from_)⟩:far) (⟨1,λ _=>(⟨(w64 ((tL dt3 y3.to)+y3.length)),(w64 ((tV dt3 y3.to)+(1:Int)))⟩:far)⟩:(Sl far))).length == (tL dt3 y3.from_)) with | true=>(match ((zcw (⟨(tL dt3 y3.from_),(tU dt3 y3.from_)⟩:far) (⟨1,λ _=>(⟨(w64 ((tL dt3 y3.to)+y3.length)),(w64 ((tV dt3 y3.to)+(1:Int)))⟩:far)⟩:(Sl far))).uses == (tU dt3 y3.from_)) with | true=>true | false=>false) | false=>false)) t4t3 (ts 80 dt3 (0+y3.from_.toNat * 2+0) [(zcw (⟨(tL dt3 y3.from_),(tU dt3 y3.from_)⟩:far) (⟨1,λ _=>(⟨(w64 ((tL dt3 y3.to)+y3.length)),(w64 ((tV dt3 y3.to)+(1:Int)))⟩:far)⟩:(Sl far))).length,(zcw (⟨(tL dt3 y3.from_),(tU dt3 y3.from_)⟩:far) (⟨1,λ _=>(⟨(w64 ((tL dt3 y3.to)+y3.length)),(w64 ((tV dt3 y3.to)+(1:Int)))⟩:far)⟩:(Sl far))).uses])))))))))))
def zm2 (S2:Bool->Tab->Tab->Tab) (w:web):List step->Bool->Tab->Tab->Tab:=lpR (zDL S2 w) (zm0 S2 w)
def zm3 (P2:Bool->Tab->Tab->Bool) (w:web):List step->Bool->Tab->Tab->Bool:=lpR (zDM P2 w) (zm1 P2 w)
def zqn (S2:Bool->Tab->Tab->Tab) (w:web) (zaw:Bool) (t4t3:Tab) (dt3:Tab):Tab:=zm2 S2 w (zkn w) zaw t4t3 dt3
def zqo (P2:Bool->Tab->Tab->Bool) (w:web) (zaw:Bool) (t4t3:Tab) (dt3:Tab):Bool:=decide ((ztt w=true)) && zm3 P2 w (zkn w) zaw t4t3 dt3
theorem zDN (hX2:zDK K w X2 P2 S2) (hs:zqo P2 w zaw t4t3 dt3=true) (hk:K (e75 (zqn S2 w zaw t4t3 dt3))):z75 K [1,1,1,1,0,1,0,0,1,0,0,1,1,0] [X2] (zwl w zaw t4t3 dt3) :=
  zaR hs λ hc hs=>zr (enc:=(λ y:step=>[.agg (zaB y)])) (ys:=zkn w) (g:=(zwl w zaw t4t3 dt3)) (x75 K [1,1,1,1,0,1,0,0,1,0,0,1,1,0] [X2]) (y75 K [1,1,1,1,0,1,0,0,1,0,0,1,1,0] [X2]) (by kernel_rfl) (And.intro (zE enc_40 4 w.Net.Ties.get) (And.intro (rfl:((false,1,false,[none]):MQ)=(false,1,false,[none])) hc)) λ X3 hE hR =>
  (show ∀ l : List step, zHd K w (X3 (l.map (λ y : step => [.agg (zaB y)]))) (zm3 P2 w l) (zm2 S2 w l) from zri (X := X3) (enc := (λ y : step => [.agg (zaB y)])) _ _ (zm1 P2 w) (zm0 S2 w) (λ Z P S => zHd K w Z P S)
 (by intro zaw t4t3 dt3 hs hk;exact hE _ (za4 (by kernel_rfl) (hX2 hs hk)))
 (by intro y3 rest P3 S3 hX3 zaw t4t3 dt3 hs hk;exact hR _ rest _ (za4 (by kernel_rfl) (zaR hs λ hc hs=>And.intro hc (zc hs hk (λ hs hk=>(hX3 hs hk)) (λ hs hk=>(zaR hs λ hc hs=>And.intro hc (zaR hs λ hc hs=>And.intro hc (zaR hs λ hc hs=>And.intro hc (zaR hs λ hc hs=>And.intro (And.intro (zu8:IsE zb4 2 2 (λ _=>(zb4 (⟨(w64 ((tL dt3 y3.to)+y3.length)),(w64 ((tV dt3 y3.to)+(1:Int)))⟩:far)))) hc) (zc hs hk (λ hs hk=>(zaR hs λ hc hs=>And.intro hc (hX3 hs hk))) (λ hs hk=>(zaR hs λ hc hs=>And.intro hc (zaR hs λ hc hs=>And.intro hc (hX3 hs hk))))))))))))))) _ hs hk
def zm4 (w:web) (S2:Bool->Tab->Tab->Tab) (zaJ:Bool) (t4t2:Tab) (dt2:Tab):Tab :=
  (cond zaJ
 (zqn S2 w false t4t2 dt2)
 dt2)
def zm5 (w:web) (P2:Bool->Tab->Tab->Bool) (zaJ:Bool) (t4t2:Tab) (dt2:Tab):Bool :=
  (cond zaJ
 (zqo P2 w false t4t2 dt2)
 true)
def zfD (w:web):Nat->Bool->Tab->Tab->Tab:=lpO (λ _ _ _=>default) (zm4 w)
def zfE (w:web):Nat->Bool->Tab->Tab->Bool:=lpO (λ _ _ _=>false) (zm5 w)
def zqp (w:web) (zaJ:Bool) (t4t2:Tab) (dt2:Tab):Tab:=zfD w Fuel zaJ t4t2 dt2
def zqq (w:web) (zaJ:Bool) (t4t2:Tab) (dt2:Tab):Bool:=zfE w Fuel zaJ t4t2 dt2
theorem zDO (hs:zqq w zaJ t4t2 dt2=true) (hk:K (e75 (zqp w zaJ t4t2 dt2))):z75 K [1,1,1,1,0,1,0] [] (zBp w zaJ t4t2 dt2) :=
  zl (λ X=>z75 K [1,1,1,1,0,1,0,0] [X]) (by kernel_rfl) λ X2 hX =>
  (show ∀ k, zDK K w X2 (zfE w k) (zfD w k) from zfc _ _ (zm5 w) (zm4 w) (zDK K w X2)
 (by intro _ _ _ hs;exact absurd hs dqk)
 (by intro P2 S2 hX2 zaJ t4t2 dt2 hs hk;exact hX _ (za4 (by kernel_rfl) (zc hs hk (λ hs hk=>(And.intro (And.intro (zE enc_40 4 w.Net.Ties.get) (rfl:((false,1,false,[none]):MQ)=(false,1,false,[none]))) (zDN hX2 hs hk))) (λ hs hk=>hk))))) _ hs hk
def zm6 (w:web) (node:Int) (t4t1:Tab) (dt1:Tab):Tab :=
  (zqp w true t4t1 (ts 80 dt1 (0+node.toNat * 2+0) [(0:Int),(0:Int)]))
def zm7 (w:web) (node:Int) (t4t1:Tab) (dt1:Tab):Bool :=
  (decide ((0<=node/\node < (40:Int))) &&
 (zqq w true t4t1 (ts 80 dt1 (0+node.toNat * 2+0) [(0:Int),(0:Int)])))
theorem zDP (hs:zm7 w node t4t1 dt1=true) (hk:K (e75 (zm6 w node t4t1 dt1))):z75 K [1,1,1] [] ⟨[(0,zP (.fp (zaz w) 0)),(1,zI node),(4,zp 4 0),(5,zp 5 0)],[(4,.box 116 (zm (zak t4t1))),(5,.box 116 (zm (zak dt1)))],[]⟩:=za4 (by kernel_rfl) (zaR hs λ hc hs=>And.intro hc (zDO hs hk))
def zic (w:web) (node:Int) (S0:Int->Tab->Tab->Tab) (za1:Int) (t4t0:Tab) (dt0:Tab):Tab :=
  (cond (decide (za1 < (40:Int)))
 (S0 (w64 (za1+(1:Int))) t4t0 (ts 80 dt0 (0+za1.toNat * 2+0) [(1000000000000:Int),(0:Int)]))
 (zm6 w node t4t0 dt0))
def zid (w:web) (node:Int) (P0:Int->Tab->Tab->Bool) (za1:Int) (t4t0:Tab) (dt0:Tab):Bool :=
  (cond (decide (za1 < (40:Int)))
 (decide ((0<=za1/\za1 < (40:Int))) &&
 (P0 (w64 (za1+(1:Int))) t4t0 (ts 80 dt0 (0+za1.toNat * 2+0) [(1000000000000:Int),(0:Int)])))
 (zm7 w node t4t0 dt0))
def zie (w:web) (node:Int):Nat->Int->Tab->Tab->Tab:=lpO (λ _ _ _=>default) (zic w node)
def zif (w:web) (node:Int):Nat->Int->Tab->Tab->Bool:=lpO (λ _ _ _=>false) (zid w node)
def zwm (w:web) (node:Int) (za1:Int) (t4t0:Tab) (dt0:Tab):Tab:=zie w node Fuel za1 t4t0 dt0
def zwn (w:web) (node:Int) (za1:Int) (t4t0:Tab) (dt0:Tab):Bool:=zif w node Fuel za1 t4t0 dt0
theorem zDQ (hs:zwn w node za1 t4t0 dt0=true) (hk:K (e75 (zwm w node za1 t4t0 dt0))):z75 K [1,1,0,1,0] [] (zBo w node za1 t4t0 dt0) :=
  zl (λ X=>z75 K [1,1,0,1,0,0] [X]) (by kernel_rfl) λ X0 hX =>
  (show ∀ k, zHc K w node X0 (zif w node k) (zie w node k) from zfc _ _ (zid w node) (zic w node) (zHc K w node X0)
 (by intro _ _ _ hs;exact absurd hs dqk)
 (by intro P0 S0 hX0 za1 t4t0 dt0 hs hk;exact hX _ (za4 (by kernel_rfl) (zc hs hk (λ hs hk=>(zaR hs λ hc hs=>And.intro hc (hX0 hs hk))) (λ hs hk=>(zDP hs hk)))))) _ hs hk
def s75 (w:web) (node:Int):Tab :=
  (zwm w node (0:Int) (λ _=>(0:Int)) (λ _=>(0:Int)))
def p75 (w:web) (node:Int):Bool :=
  (zwn w node (0:Int) (λ _=>(0:Int)) (λ _=>(0:Int)))
end
theorem q75 (w:web) (node:Int) (K:List PA->Prop) (hs:p75 w node=true) (hk:K (e75 (s75 w node))):vcFun Tryd.prog G75 zwk 75 [.one (.fp (zaz w) 0),.one (.int .i64 node)] K :=
  za4 (by kernel_rfl) (zDQ hs hk)
def zwo : List PA → COut
  | [.one (.fp [.int .i64 zaj,.sl zae zay zaf,.fm za6 zaE zaF] 0),.one (.int .i64 a1)]=>.det (IsE enc_40 4 zay zaf/\za6=(false,1,false,[none])/\p75 (⟨(⟨zaj,(⟨zae,zam zaf⟩:(Sl Tie))⟩:Net),(⟨zaE,zaF⟩:Mp)⟩:web) a1=true) [.agg (zak ((s75 (⟨(⟨zaj,(⟨zae,zam zaf⟩:(Sl Tie))⟩:Net),(⟨zaE,zaF⟩:Mp)⟩:web) a1)))]
  | _=>.no
theorem zHe:zas Tryd.prog 75:=⟨_,rfl,rfl,by kernel_rfl⟩
theorem zJK:Ok Tryd.prog 75 zwo:=zbs zJJ zHe λ args K h=>by
  unfold zwo at h
  split at h
  · rename_i zaj zae zay zaf za6 zaE zaF a1
    obtain⟨⟨⟨rfl,zaq,rfl⟩,rfl,hs⟩,hk⟩:=h
    try rw[zan zaq] at hs
    try rw[zan zaq] at hk
    exact⟨(λ _ _=>[]),(λ _=>false),zwk,q75 (⟨(⟨zaj,(⟨zae,zaq⟩:(Sl Tie))⟩:Net),(⟨zaE,zaF⟩:Mp)⟩:web) a1 K hs hk⟩
  · exact h.elim
abbrev T76:Tabs:=(((Tabs.nil.addF 93 zok).addF 104 zon).addI 110 zom)
theorem zJL:TabsOk Tryd.prog T76:=(((TabsOk.nil.addF zFD).addF zCW).addI ztj)
abbrev G76:Ctrs:=csm T76 (λ _ _=>[]) (λ _=>false)
def zwp:Ann:=⟨66,[(0,zK [0,1,4] [4]),(1,zK [0,1,4,5] [4,5]),(2,zK [0,1,4,5,10] [4,5]),(3,zK [0,1,4,5,10,11] [4,5]),(4,zK [0,1,4,5,6,10] [4,5]),(5,zK [0,1,4,5,10] [4,5]),(6,zK [0,1,4,5,10] [4,5]),(7,zK [0,4,5] [4,5]),(8,zK [0,4,5,7] [4,5,7]),(9,zK [0,4,5,7,20] [4,5,7]),(10,zK [0,4,5,7] [4,5,7]),(11,zK [0,4,5,7,22] [4,5,7]),(12,zK [0,4,5,7,8,22] [4,5,7,8]),(13,zK [0,4,5,7,8,22,29] [4,5,7,8]),(14,zK [0,4,5,7,8,9,22] [4,5,7,8,9]),(15,zK [0,4,5,7,8,9,22] [4,5,7,8,9]),(16,zK [0,4,5,7,22] [4,5,7]),(17,zK [0,4,5,64] [4,5]),(18,zK [0,4,5,7] [4,5,7]),(19,zK [4] [4])],
 [(3,zK [0,1,4,5,10] [4,5]),(9,zK [0,4,5,7] [4,5,7]),(12,zK [0,4,5,7,22] [4,5,7])],
 [(7,zK [0,1,4,5] [4,5])],
 [],[]⟩
abbrev R76:=Tab
abbrev e76 (r:R76):List PA:=[.agg (zak r)]
@[irreducible] def z76:=ptF Tryd.prog G76 zwp Tryd.f76
@[irreducible] def x76:=exF Tryd.prog G76 zwp Tryd.f76
@[irreducible] def y76:=rnF Tryd.prog G76 zwp Tryd.f76
def zBq (w:web) (node:Int) (za1:Int) (t4t0:Tab) (dt0:Tab):St:=⟨[(0,zP (.fp (zaz w) 0)),(1,zI node),(4,zp 4 0),(5,zp 5 0),(10,zI za1)],[(4,.box 116 (zm (zak t4t0))),(5,.box 116 (zm (zak dt0)))],[]⟩
abbrev zHf (K:List PA->Prop) (w:web) (node:Int) (X:St->Prop) (P:Int->Tab->Tab->Bool) (S:Int->Tab->Tab->Tab):Prop:=∀ ⦃za1:Int⦄ ⦃t4t0:Tab⦄ ⦃dt0:Tab⦄,P za1 t4t0 dt0=true->K (e76 (S za1 t4t0 dt0))->X (zBq w node za1 t4t0 dt0)
def zBr (w:web) (zaJ:Bool) (t4t2:Tab) (dt2:Tab):St:=⟨[(0,zP (.fp (zaz w) 0)),(4,zp 4 0),(5,zp 5 0),(7,zp 7 0)],[(4,.box 116 (zm (zak t4t2))),(5,.box 116 (zm (zak dt2))),(7,.box 4 [.p (.bool zaJ)])],[]⟩
abbrev zDR (K:List PA->Prop) (w:web) (X:St->Prop) (P:Bool->Tab->Tab->Bool) (S:Bool->Tab->Tab->Tab):Prop:=∀ ⦃zaJ:Bool⦄ ⦃t4t2:Tab⦄ ⦃dt2:Tab⦄,P zaJ t4t2 dt2=true->K (e76 (S zaJ t4t2 dt2))->X (zBr w zaJ t4t2 dt2)
def zwq (w:web) (zaw:Bool) (t4t3:Tab) (dt3:Tab):St:=⟨[(0,zP (.fp (zaz w) 0)),(4,zp 4 0),(5,zp 5 0),(7,zp 7 0),(22,zP (.fn 110 [] [.fp [.fp (zaz w) 0] 0]))],[(4,.box 116 (zm (zak t4t3))),(5,.box 116 (zm (zak dt3))),(7,.box 4 [.p (.bool zaw)])],[]⟩
abbrev zHg (K:List PA->Prop) (w:web) (X:St->Prop) (P:Bool->Tab->Tab->Bool) (S:Bool->Tab->Tab->Tab):Prop:=∀ ⦃zaw:Bool⦄ ⦃t4t3:Tab⦄ ⦃dt3:Tab⦄,P zaw t4t3 dt3=true->K (e76 (S zaw t4t3 dt3))->X (zwq w zaw t4t3 dt3)
section
variable {K:List PA->Prop}{w:web}{node:Int}{za1:Int}{t4t0:Tab}{dt0:Tab}{X0:St->Prop}{P0:Int->Tab->Tab->Bool}{S0:Int->Tab->Tab->Tab}{t4t1:Tab}{dt1:Tab}{zaJ:Bool}{t4t2:Tab}{dt2:Tab}{X2:St->Prop}{P2:Bool->Tab->Tab->Bool}{S2:Bool->Tab->Tab->Tab}{zaw:Bool}{t4t3:Tab}{dt3:Tab}
def zDS (S2:Bool->Tab->Tab->Tab) (w:web) (zaw:Bool) (t4t3:Tab) (dt3:Tab):Tab :=
  (S2 zaw t4t3 dt3)
def zDT (P2:Bool->Tab->Tab->Bool) (w:web) (zaw:Bool) (t4t3:Tab) (dt3:Tab):Bool :=
  (P2 zaw t4t3 dt3)
def zm8 (S2:Bool->Tab->Tab->Tab) (w:web) (y3:step) (S3:Bool->Tab->Tab->Tab) (zaw:Bool) (t4t3:Tab) (dt3:Tab):Tab :=
  (cond (nvr (tL dt3 y3.from_) (tU dt3 y3.from_))
 (S3 zaw t4t3 dt3)
 (cond zaw
 (S3 true t4t3 (ts 80 dt3 (0+y3.to.toNat * 2+0) [(zcw (⟨(tL dt3 y3.to),(tU dt3 y3.to)⟩:far) (⟨1,λ _=>(⟨(w64 ((tL dt3 y3.from_)+y3.length)),(w64 ((tV dt3 y3.from_)+(1:Int)))⟩:far)⟩:(Sl far))).length,(zcw (⟨(tL dt3 y3.to),(tU dt3 y3.to)⟩:far) (⟨1,λ _=>(⟨(w64 ((tL dt3 y3.from_)+y3.length)),(w64 ((tV dt3 y3.from_)+(1:Int)))⟩:far)⟩:(Sl far))).uses]))
 (S3 (!(match ((zcw (⟨(tL dt3 y3.to),(tU dt3 y3.to)⟩:far) (⟨1,λ _=>(⟨(w64 ((tL dt3 y3.from_)+y3.length)),(w64 ((tV dt3 y3.from_)+(1:Int)))⟩:far)⟩:(Sl far))).length == (tL dt3 y3.to)) with | true=>(match ((zcw (⟨(tL dt3 y3.to),(tU dt3 y3.to)⟩:far) (⟨1,λ _=>(⟨(w64 ((tL dt3 y3.from_)+y3.length)),(w64 ((tV dt3 y3.from_)+(1:Int)))⟩:far)⟩:(Sl far))).uses == (tU dt3 y3.to)) with | true=>true | false=>false) | false=>false)) t4t3 (ts 80 dt3 (0+y3.to.toNat * 2+0) [(zcw (⟨(tL dt3 y3.to),(tU dt3 y3.to)⟩:far) (⟨1,λ _=>(⟨(w64 ((tL dt3 y3.from_)+y3.length)),(w64 ((tV dt3 y3.from_)+(1:Int)))⟩:far)⟩:(Sl far))).length,(zcw (⟨(tL dt3 y3.to),(tU dt3 y3.to)⟩:far) (⟨1,λ _=>(⟨(w64 ((tL dt3 y3.from_)+y3.length)),(w64 ((tV dt3 y3.from_)+(1:Int)))⟩:far)⟩:(Sl far))).uses]))))
def zm9 (P2:Bool->Tab->Tab->Bool) (w:web) (y3:step) (P3:Bool->Tab->Tab->Bool) (zaw:Bool) (t4t3:Tab) (dt3:Tab):Bool :=
  (decide ((0<=y3.from_/\y3.from_ < (40:Int))) &&
 (cond (nvr (tL dt3 y3.from_) (tU dt3 y3.from_))
 (P3 zaw t4t3 dt3)
 (decide ((0<=y3.to/\y3.to < (40:Int))) &&
 (decide ((0<=y3.from_/\y3.from_ < (40:Int))) &&
 (decide ((0<=y3.from_/\y3.from_ < (40:Int))) &&
 (decide ((zyJ (⟨(tL dt3 y3.to),(tU dt3 y3.to)⟩:far) (⟨1,λ _=>(⟨(w64 ((tL dt3 y3.from_)+y3.length)),(w64 ((tV dt3 y3.from_)+(1:Int)))⟩:far)⟩:(Sl far))=true)) &&
 (cond zaw
 (decide ((0<=y3.to/\y3.to < (40:Int))) &&
 (P3 true t4t3 (ts 80 dt3 (0+y3.to.toNat * 2+0) [(zcw (⟨(tL dt3 y3.to),(tU dt3 y3.to)⟩:far) (⟨1,λ _=>(⟨(w64 ((tL dt3 y3.from_)+y3.length)),(w64 ((tV dt3 y3.from_)+(1:Int)))⟩:far)⟩:(Sl far))).length,(zcw (⟨(tL dt3 y3.to),(tU dt3 y3.to)⟩:far) (⟨1,λ _=>(⟨(w64 ((tL dt3 y3.from_)+y3.length)),(w64 ((tV dt3 y3.from_)+(1:Int)))⟩:far)⟩:(Sl far))).uses])))
 (decide ((0<=y3.to/\y3.to < (40:Int))) &&
 (decide ((0<=y3.to/\y3.to < (40:Int))) &&
 (P3 (!(match ((zcw (⟨(tL dt3 y3.to),(tU dt3 y3.to)⟩:far) (⟨1,λ _=>(⟨(w64 ((tL dt3 y3.from_)+y3.length)),(w64 ((tV dt3 y3.from_)+(1:Int)))⟩:far)⟩:(Sl far))).length == (tL dt3 y3.to)) with | true=>(match ((zcw (⟨(tL dt3 y3.to),(tU dt3 y3.to)⟩:far) (⟨1,λ _=>(⟨(w64 ((tL dt3 y3.from_)+y3.length)),(w64 ((tV dt3 y3.from_)+(1:Int)))⟩:far)⟩:(Sl far))).uses == (tU dt3 y3.to)) with | true=>true | false=>false) | false=>false)) t4t3 (ts 80 dt3 (0+y3.to.toNat * 2+0) [(zcw (⟨(tL dt3 y3.to),(tU dt3 y3.to)⟩:far) (⟨1,λ _=>(⟨(w64 ((tL dt3 y3.from_)+y3.length)),(w64 ((tV dt3 y3.from_)+(1:Int)))⟩:far)⟩:(Sl far))).length,(zcw (⟨(tL dt3 y3.to),(tU dt3 y3.to)⟩:far) (⟨1,λ _=>(⟨(w64 ((tL dt3 y3.from_)+y3.length)),(w64 ((tV dt3 y3.from_)+(1:Int)))⟩:far)⟩:(Sl far))).uses])))))))))))
def zna (S2:Bool->Tab->Tab->Tab) (w:web):List step->Bool->Tab->Tab->Tab:=lpR (zDS S2 w) (zm8 S2 w)
def znb (P2:Bool->Tab->Tab->Bool) (w:web):List step->Bool->Tab->Tab->Bool:=lpR (zDT P2 w) (zm9 P2 w)
def zqr (S2:Bool->Tab->Tab->Tab) (w:web) (zaw:Bool) (t4t3:Tab) (dt3:Tab):Tab:=zna S2 w (zkn w) zaw t4t3 dt3
def zqs (P2:Bool->Tab->Tab->Bool) (w:web) (zaw:Bool) (t4t3:Tab) (dt3:Tab):Bool:=decide ((ztt w=true)) && znb P2 w (zkn w) zaw t4t3 dt3
theorem zDU (hX2:zDR K w X2 P2 S2) (hs:zqs P2 w zaw t4t3 dt3=true) (hk:K (e76 (zqr S2 w zaw t4t3 dt3))):z76 K [1,1,1,1,0,1,0,0,1,0,0,1,1,0] [X2] (zwq w zaw t4t3 dt3) :=
  zaR hs λ hc hs=>zr (enc:=(λ y:step=>[.agg (zaB y)])) (ys:=zkn w) (g:=(zwq w zaw t4t3 dt3)) (x76 K [1,1,1,1,0,1,0,0,1,0,0,1,1,0] [X2]) (y76 K [1,1,1,1,0,1,0,0,1,0,0,1,1,0] [X2]) (by kernel_rfl) (And.intro (zE enc_40 4 w.Net.Ties.get) (And.intro (rfl:((false,1,false,[none]):MQ)=(false,1,false,[none])) hc)) λ X3 hE hR =>
  (show ∀ l : List step, zHg K w (X3 (l.map (λ y : step => [.agg (zaB y)]))) (znb P2 w l) (zna S2 w l) from zri (X := X3) (enc := (λ y : step => [.agg (zaB y)])) _ _ (zm9 P2 w) (zm8 S2 w) (λ Z P S => zHg K w Z P S)
 (by intro zaw t4t3 dt3 hs hk;exact hE _ (za4 (by kernel_rfl) (hX2 hs hk)))
 (by intro y3 rest P3 S3 hX3 zaw t4t3 dt3 hs hk;exact hR _ rest _ (za4 (by kernel_rfl) (zaR hs λ hc hs=>And.intro hc (zc hs hk (λ hs hk=>(hX3 hs hk)) (λ hs hk=>(zaR hs λ hc hs=>And.intro hc (zaR hs λ hc hs=>And.intro hc (zaR hs λ hc hs=>And.intro hc (zaR hs λ hc hs=>And.intro (And.intro (zu8:IsE zb4 2 2 (λ _=>(zb4 (⟨(w64 ((tL dt3 y3.from_)+y3.length)),(w64 ((tV dt3 y3.from_)+(1:Int)))⟩:far)))) hc) (zc hs hk (λ hs hk=>(zaR hs λ hc hs=>And.intro hc (hX3 hs hk))) (λ hs hk=>(zaR hs λ hc hs=>And.intro hc (zaR hs λ hc hs=>And.intro hc (hX3 hs hk))))))))))))))) _ hs hk
def znc (w:web) (S2:Bool->Tab->Tab->Tab) (zaJ:Bool) (t4t2:Tab) (dt2:Tab):Tab :=
  (cond zaJ
 (zqr S2 w false t4t2 dt2)
 dt2)
def znd (w:web) (P2:Bool->Tab->Tab->Bool) (zaJ:Bool) (t4t2:Tab) (dt2:Tab):Bool :=
  (cond zaJ
 (zqs P2 w false t4t2 dt2)
 true)
def zfF (w:web):Nat->Bool->Tab->Tab->Tab:=lpO (λ _ _ _=>default) (znc w)
def zfG (w:web):Nat->Bool->Tab->Tab->Bool:=lpO (λ _ _ _=>false) (znd w)
def zqu (w:web) (zaJ:Bool) (t4t2:Tab) (dt2:Tab):Tab:=zfF w Fuel zaJ t4t2 dt2
def zqv (w:web) (zaJ:Bool) (t4t2:Tab) (dt2:Tab):Bool:=zfG w Fuel zaJ t4t2 dt2
theorem zDV (hs:zqv w zaJ t4t2 dt2=true) (hk:K (e76 (zqu w zaJ t4t2 dt2))):z76 K [1,1,1,1,0,1,0] [] (zBr w zaJ t4t2 dt2) :=
  zl (λ X=>z76 K [1,1,1,1,0,1,0,0] [X]) (by kernel_rfl) λ X2 hX =>
  (show ∀ k, zDR K w X2 (zfG w k) (zfF w k) from zfc _ _ (znd w) (znc w) (zDR K w X2)
 (by intro _ _ _ hs;exact absurd hs dqk)
 (by intro P2 S2 hX2 zaJ t4t2 dt2 hs hk;exact hX _ (za4 (by kernel_rfl) (zc hs hk (λ hs hk=>(And.intro (And.intro (zE enc_40 4 w.Net.Ties.get) (rfl:((false,1,false,[none]):MQ)=(false,1,false,[none]))) (zDU hX2 hs hk))) (λ hs hk=>hk))))) _ hs hk
def zne (w:web) (node:Int) (t4t1:Tab) (dt1:Tab):Tab :=
  (zqu w true t4t1 (ts 80 dt1 (0+node.toNat * 2+0) [(0:Int),(0:Int)]))
def znf (w:web) (node:Int) (t4t1:Tab) (dt1:Tab):Bool :=
  (decide ((0<=node/\node < (40:Int))) &&
 (zqv w true t4t1 (ts 80 dt1 (0+node.toNat * 2+0) [(0:Int),(0:Int)])))
theorem zDW (hs:znf w node t4t1 dt1=true) (hk:K (e76 (zne w node t4t1 dt1))):z76 K [1,1,1] [] ⟨[(0,zP (.fp (zaz w) 0)),(1,zI node),(4,zp 4 0),(5,zp 5 0)],[(4,.box 116 (zm (zak t4t1))),(5,.box 116 (zm (zak dt1)))],[]⟩:=za4 (by kernel_rfl) (zaR hs λ hc hs=>And.intro hc (zDV hs hk))
def zih (w:web) (node:Int) (S0:Int->Tab->Tab->Tab) (za1:Int) (t4t0:Tab) (dt0:Tab):Tab :=
  (cond (decide (za1 < (40:Int)))
 (S0 (w64 (za1+(1:Int))) t4t0 (ts 80 dt0 (0+za1.toNat * 2+0) [(1000000000000:Int),(0:Int)]))
 (zne w node t4t0 dt0))
def zii (w:web) (node:Int) (P0:Int->Tab->Tab->Bool) (za1:Int) (t4t0:Tab) (dt0:Tab):Bool :=
  (cond (decide (za1 < (40:Int)))
 (decide ((0<=za1/\za1 < (40:Int))) &&
 (P0 (w64 (za1+(1:Int))) t4t0 (ts 80 dt0 (0+za1.toNat * 2+0) [(1000000000000:Int),(0:Int)])))
 (znf w node t4t0 dt0))
def zij (w:web) (node:Int):Nat->Int->Tab->Tab->Tab:=lpO (λ _ _ _=>default) (zih w node)
def zik (w:web) (node:Int):Nat->Int->Tab->Tab->Bool:=lpO (λ _ _ _=>false) (zii w node)
def zwr (w:web) (node:Int) (za1:Int) (t4t0:Tab) (dt0:Tab):Tab:=zij w node Fuel za1 t4t0 dt0
def zwt (w:web) (node:Int) (za1:Int) (t4t0:Tab) (dt0:Tab):Bool:=zik w node Fuel za1 t4t0 dt0
theorem zDX (hs:zwt w node za1 t4t0 dt0=true) (hk:K (e76 (zwr w node za1 t4t0 dt0))):z76 K [1,1,0,1,0] [] (zBq w node za1 t4t0 dt0) :=
  zl (λ X=>z76 K [1,1,0,1,0,0] [X]) (by kernel_rfl) λ X0 hX =>
  (show ∀ k, zHf K w node X0 (zik w node k) (zij w node k) from zfc _ _ (zii w node) (zih w node) (zHf K w node X0)
 (by intro _ _ _ hs;exact absurd hs dqk)
 (by intro P0 S0 hX0 za1 t4t0 dt0 hs hk;exact hX _ (za4 (by kernel_rfl) (zc hs hk (λ hs hk=>(zaR hs λ hc hs=>And.intro hc (hX0 hs hk))) (λ hs hk=>(zDW hs hk)))))) _ hs hk
def s76 (w:web) (node:Int):Tab :=
  (zwr w node (0:Int) (λ _=>(0:Int)) (λ _=>(0:Int)))
def p76 (w:web) (node:Int):Bool :=
  (zwt w node (0:Int) (λ _=>(0:Int)) (λ _=>(0:Int)))
end
theorem q76 (w:web) (node:Int) (K:List PA->Prop) (hs:p76 w node=true) (hk:K (e76 (s76 w node))):vcFun Tryd.prog G76 zwp 76 [.one (.fp (zaz w) 0),.one (.int .i64 node)] K :=
  za4 (by kernel_rfl) (zDX hs hk)
def zwu : List PA → COut
  | [.one (.fp [.int .i64 zaj,.sl zae zay zaf,.fm za6 zaE zaF] 0),.one (.int .i64 a1)]=>.det (IsE enc_40 4 zay zaf/\za6=(false,1,false,[none])/\p76 (⟨(⟨zaj,(⟨zae,zam zaf⟩:(Sl Tie))⟩:Net),(⟨zaE,zaF⟩:Mp)⟩:web) a1=true) [.agg (zak ((s76 (⟨(⟨zaj,(⟨zae,zam zaf⟩:(Sl Tie))⟩:Net),(⟨zaE,zaF⟩:Mp)⟩:web) a1)))]
  | _=>.no
theorem zHh:zas Tryd.prog 76:=⟨_,rfl,rfl,by kernel_rfl⟩
theorem zJM:Ok Tryd.prog 76 zwu:=zbs zJL zHh λ args K h=>by
  unfold zwu at h
  split at h
  · rename_i zaj zae zay zaf za6 zaE zaF a1
    obtain⟨⟨⟨rfl,zaq,rfl⟩,rfl,hs⟩,hk⟩:=h
    try rw[zan zaq] at hs
    try rw[zan zaq] at hk
    exact⟨(λ _ _=>[]),(λ _=>false),zwp,q76 (⟨(⟨zaj,(⟨zae,zaq⟩:(Sl Tie))⟩:Net),(⟨zaE,zaF⟩:Mp)⟩:web) a1 K hs hk⟩
  · exact h.elim
end Go.Proofs
