/- Part 4 of what the proof rests on: a machine that runs functions of the program on pure values, proved sound; the functions that the law reaches, and what they compute. -/
import Derived.Test.YtedhjaaikeakoaaDoorQ3
import Derived.Sort.OwnSortedInts
import Derived.Lib.SlicesCompact
import Derived.Test.YtedhjaaikeakoaaDoorProg
import Derived.ProofKit
import Derived.Deep.Slices
import Derived.OpenShut
import Derived.Shelf.SlIterI.Nil
import Derived.Shelf.SortM.Plain
import Derived.Shelf.SortM.SortNone
import Derived.Ground.GgzProg
import Derived.Ground.SlgmProg
import Derived.Tactics
import Derived.Tactics2
import Derived.Recover
import Derived.RecoverIn
import Derived.TacticsInMore
set_option linter.all false
namespace Go.Pm

structure Tabs where
  fn:List (Nat×(List PA->COut))
  own:List (Nat×OwnK)
  it:List (Nat×(List PA->Option (Prop×List (List PA))))
  mt:List (Nat×MK)
def zv9 : List (Nat × (List PA → COut)) → Nat → List PA → COut
  | [],_=>λ _=>.no
  | (k,c) :: r,n=>match Nat.beq k n with | true=>c | false=>zv9 r n
def zwa (l:List (Nat×OwnK)) (f:Nat):OwnK:=match lk l f with | some c=>c | none=>.none
def zEL (l:List (Nat×(List PA->Option (Prop×List (List PA))))) (f:Nat):List PA->Option (Prop×List (List PA)):=match lk l f with | some c=>c | none=>λ _=>none
def csm (T:Tabs) (memo:Nat->Int->List Int) (vv:Nat->Bool):Ctrs:=⟨zv9 T.fn,zwa T.own,zEL T.it,memo,vv,lk T.mt⟩
abbrev cs (T:Tabs):Ctrs:=csm T (λ _ _=>[]) (λ _=>false)
def Tabs.nil:Tabs:=⟨[],[],[],[]⟩
def Tabs.addF (T:Tabs) (f:Nat) (c:List PA->COut):Tabs:=⟨(f,c) :: T.fn,T.own,T.it,T.mt⟩
def Tabs.addO (T:Tabs) (f:Nat) (c:OwnK):Tabs:=⟨T.fn,(f,c) :: T.own,T.it,T.mt⟩
def Tabs.addI (T:Tabs) (f:Nat) (c:List PA->Option (Prop×List (List PA))):Tabs:=⟨T.fn,T.own,(f,c) :: T.it,T.mt⟩
def Tabs.addM (T:Tabs) (f:Nat) (c:MK):Tabs:=⟨T.fn,T.own,T.it,(f,c) :: T.mt⟩

theorem zLL {P:Program}{f:Nat} : Ok P f (λ _=>.no):=λ _ _ h=>h.elim
theorem zLM {P:Program}{f:Nat} : zCX P f (λ _=>none):=λ _ _ _ h=>by cases h

structure TabsOk (P : Program) (T : Tabs) : Prop where
  fn:∀ x∈T.fn,Ok P x.1 x.2
  own:∀ x∈T.own,zoA P x.1 x.2
  it:∀ x∈T.it,zCX P x.1 x.2
  mt:∀ x∈T.mt,zj0 P x.1 x.2
theorem TabsOk.nil {P:Program} : TabsOk P .nil:=⟨λ _ h=>(by cases h),λ _ h=>(by cases h),λ _ h=>(by cases h),λ _ h=>(by cases h)⟩
theorem TabsOk.addF {P:Program}{T:Tabs}(h:TabsOk P T){f:Nat}{c:List PA->COut}(hc:Ok P f c):TabsOk P (T.addF f c) :=
 ⟨λ x hx=>(dqq.1 hx).elim (λ e=>by rw[e];exact hc) (λ hx=>h.fn x hx),h.own,h.it,h.mt⟩
theorem TabsOk.addO {P:Program}{T:Tabs}(h:TabsOk P T){f:Nat}{c:OwnK}(hc:zoA P f c):TabsOk P (T.addO f c) :=
 ⟨h.fn,λ x hx=>(dqq.1 hx).elim (λ e=>by rw[e];exact hc) (λ hx=>h.own x hx),h.it,h.mt⟩
theorem TabsOk.addI {P:Program}{T:Tabs}(h:TabsOk P T){f:Nat}{c:List PA->Option (Prop×List (List PA))}(hc:zCX P f c):TabsOk P (T.addI f c) :=
 ⟨h.fn,h.own,λ x hx=>(dqq.1 hx).elim (λ e=>by rw[e];exact hc) (λ hx=>h.it x hx),h.mt⟩
theorem TabsOk.addM {P:Program}{T:Tabs}(h:TabsOk P T){f:Nat}{c:MK}(hc:zj0 P f c):TabsOk P (T.addM f c) :=
 ⟨h.fn,h.own,h.it,λ x hx=>(dqq.1 hx).elim (λ e=>by rw[e];exact hc) (λ hx=>h.mt x hx)⟩
theorem TabsOk.all {P:Program}{T:Tabs}(h:TabsOk P T) (memo:Nat->Int->List Int) (vv:Nat->Bool):OkAll P (csm T memo vv):=by
 refine⟨λ f C hC=>h.mt _ (zbX hC),λ f=>?_,λ f=>?_,λ f=>?_⟩
 ·show Ok P f (zv9 T.fn f)
  have key:∀ l:List (Nat×(List PA->COut)),(∀ x∈l,Ok P x.1 x.2)->Ok P f (zv9 l f):=by
   intro l
   induction l with
   | nil=>intro _;exact zLL
   | cons x l ih =>
    intro hl
    obtain⟨k,c⟩:=x
    simp only[zv9]
    split
    ·rename_i e
     have:=hl (k,c) dqj
     rw[← dqc e];exact this
    ·exact ih λ x hx=>hl x (dqf _ hx)
  exact key T.fn h.fn
 ·show zoA P f (zwa T.own f)
  unfold zwa
  split
  ·rename_i c hc;exact h.own _ (zbX hc)
  ·trivial
 ·show zCX P f (zEL T.it f)
  unfold zEL
  split
  ·rename_i c hc;exact h.it _ (zbX hc)
  ·exact zLM

theorem zbv {P : Program} {T : Tabs} (hT : TabsOk P T) {f : FuncId} {C : List PA → COut} (hc : zas P f)
    (h:∀ args K,(C args).wp K->∃ memo vv ann,vcFun P (csm T memo vv) ann f args K):Ok P f C :=
  zBD (hT.all (λ _ _=>[]) (λ _=>false)) hc h
theorem zEM {P : Program} {T : Tabs} (hT : TabsOk P T) {f : FuncId} {C : MK} (hc : zas P f)
    (h:∀ xs safe rs ys,C xs=some (safe,rs,ys)->safe->∀ K:List PA->List XA->Prop,K rs ys->∃ memo vv ann,zlh P (csm T memo vv) ann f xs K):zj0 P f C :=
  zv8 (hT.all (λ _ _=>[]) (λ _=>false)) hc h
theorem zI1 {P : Program} {T : Tabs} (hT : TabsOk P T) {f : FuncId} {C : List PA → Option (Prop × List (List PA))} (hc : zas P f)
    (h:∀ l caps safe ys,C caps=some (safe,ys)->safe->∃ memo vv ann,vcIter P (csm T memo vv) ann f l caps ys):zCX P f C :=
  zBH (hT.all (λ _ _=>[]) (λ _=>false)) hc h
structure Sl (α : Type) where
  len:Nat
  get:Nat->α
instance {α:Type} [Inhabited α]:Inhabited (Sl α):=⟨⟨0,λ _=>default⟩⟩
abbrev w64 (x:Int):Int:=IntKind.i64.wrap x

def IsE {α:Type}(enc:α->List PV) (size s:Nat) (g:Nat->List PV):Prop:=s=size/\∃ f:Nat->α,g=λ i=>enc (f i)
theorem isE {α:Type}{enc:α->List PV}{size:Nat}{f:Nat->α} : IsE enc size size (λ i=>enc (f i)):=⟨rfl,f,rfl⟩
theorem zwb {α:Type}{enc:α->List PV}{size:Nat}{x:α} : IsE enc size size (λ _=>enc x):=⟨rfl,λ _=>x,rfl⟩
def zdb {α:Type}(n:Nat) (get new:Nat->α):Nat->α:=λ j=>match Nat.ble n j with | true=>new (j - n) | false=>get j
theorem zBL {α:Type}{enc:α->List PV}{n:Nat}{f h:Nat->α} : appG n (λ i=>enc (f i)) (λ i=>enc (h i))=λ i=>enc (zdb n f h i):=by
 funext j;simp only[appG,zdb];cases Nat.ble n j <;> rfl
def zpU {α : Type} (x : α) : List α → Nat → α
  | [],_=>x
  | y :: _,0=>y
  | _ :: r,i+1=>zpU x r i
theorem zs7 {α:Type}{enc:α->List PV}{x y:α}{r:List α} : zbI (enc x :: enc y :: r.map enc)=λ i=>enc (zpU x (x :: y :: r) i):=by
 have key:∀ (l:List α) (i:Nat),(match (l.map enc)[i]? with | some z=>z | none=>enc x)=enc (zpU x l i):=by
  intro l
  induction l with
  | nil=>intro i;rfl
  | cons a l ih =>
   intro i
   cases i with
   | zero=>rfl
   | succ i=>simpa [zpU] using ih i
 funext i
 exact key (x :: y :: r) i
theorem zeF {α:Type}{enc:α->List PV}{size:Nat}{x y:α}(r:List α):IsE enc size size (zbI (enc x :: enc y :: r.map enc)):=⟨rfl,_,zs7⟩

theorem zfA {b:Bool}{A B:Prop}{S S':Bool}{α:Type}{K:α->Prop}{x y:α}(h1:S=true->K x->A) (h2:S'=true->K y->B) (hs:cond b S S'=true) (hk:K (cond b x y)):zdM b A B:=by
 cases b
 ·exact h2 hs hk
 ·exact h1 hs hk
theorem zih {b:Bool}{A B:Prop}{S S':Bool}{α β:Type}{f:α->β}{ys:List β}{x y:List α}(hs:cond b S S'=true) (hk:ys=(cond b x y).map f) (h1:S=true->ys=x.map f->A) (h2:S'=true->ys=y.map f->B):zdM b A B:=by
 cases b
 ·exact h2 hs hk
 ·exact h1 hs hk
theorem itY {α β:Type}{f:α->β}{ys:List β}{p:β}{x r:List α}{l:Nat}{A:List β->Prop}(hk:ys=x.map f) (e:x.map f=p :: r.map f) (h:∀ zs,zs=r.map f->A zs):l=l/\∃ z,ys=p :: z/\A z/\True :=
 ⟨rfl,_,hk.trans e,h _ rfl,trivial⟩
theorem zaJ {C A:Prop} [d:Decidable C] {r:Bool}(hs:(decide C && r)=true) (k:C->r=true->A):A:=by
 rw[dqm] at hs
 exact k (of_decide_eq_true hs.1) hs.2
abbrev Fuel:Nat:=9223372036854775808
def setT {α:Type}(i:Nat) (v:α) (get:Nat->α):Nat->α:=λ j=>match Nat.beq j i with | true=>v | false=>get j
theorem zjJ {α:Type}{enc:α->List PV}{n:Nat}{g g':Nat->List PV}{f h:Nat->α}(h1:g=λ i=>enc (f i)) (h2:g'=λ i=>enc (h i)):appG n g g'=λ i=>enc (zdb n f h i):=by
 subst h1;subst h2;exact zBL
theorem zll {α:Type}{enc:α->List PV}{i k:Nat}{g:Nat->List PV}{f:Nat->α}{new:List PV}{v:α}(h1:g=λ i=>enc (f i)) (h2:spl (enc (f i)) k new=enc v):zpN i k g new=λ j=>enc (setT i v f j):=by
 subst h1
 funext j
 simp only[zpN,setT]
 cases e:Nat.beq j i
 ·rfl
 ·have := dqc e
  subst this;exact h2
def zLN (P:Program) (G:Ctrs) (ann:Ann) (hd:Nat) (ps:List Nat) (assign body:Code) (X:List (List PA)->St->Prop) (K:Exit->St->Prop) (y:List PA) (rest:List (List PA)) (s:St):Prop :=
 match lk ann.head hd with
 | some k=>match zh3 ps y s.env with
  | some env=>vc P G ann assign (zCW (vc P G ann body (zmb P k (X rest) K)) λ _ _=>False) ⟨env,s.objs,[]⟩
  | none=>False
 | none=>False
end Go.Pm
namespace Go.Pm
open Go Go.Sort

def VVE {α:Type}(enc:α->List PV) (ln:Nat->Nat) (gg:Nat->Nat->List PV) (f:Nat->Sl α):Prop:=ln=(λ i=>(f i).len)/\gg=λ i j=>enc ((f i).get j)
theorem zj2 {α:Type}{enc:α->List PV}{f:Nat->Sl α} : VVE enc (λ i=>(f i).len) (λ i j=>enc ((f i).get j)) f:=⟨rfl,rfl⟩
theorem zLO {α:Type}{enc:α->List PV}{d:α} : VVE enc (λ _=>0) (λ _ _=>enc d) (λ _=>⟨0,λ _=>d⟩):=⟨rfl,rfl⟩
def zlm {α:Type}(i j:Nat) (v:α) (f:Nat->Sl α):Nat->Sl α:=λ q=>match Nat.beq q i with | true=>⟨(f q).len,setT j v (f q).get⟩ | false=>f q
theorem znt {α : Type} {enc : α → List PV} {i j k : Nat} {ln : Nat → Nat} {gg : Nat → Nat → List PV} {f : Nat → Sl α} {new : List PV} {v : α} (h : VVE enc ln gg f) (hv : spl (enc ((f i).get j)) k new = enc v) :
  VVE enc ln (zmL i j k gg new) (zlm i j v f):=by
 obtain⟨rfl,rfl⟩:=h
 constructor
 ·funext q;simp only[zlm];cases Nat.beq q i <;> rfl
 ·funext q; simp only [zmL, zlm]
  cases e:Nat.beq q i
  ·rfl
  ·have := dqc e
   subst this
   exact zll rfl hv

theorem zEN {α : Type} {enc : α → List PV} {i m : Nat} {ln : Nat → Nat} {gg : Nat → Nat → List PV} {f : Nat → Sl α} {new : Nat → List PV} {v : Nat → α} (h : VVE enc ln gg f) (hv : new = fun j => enc (v j)) :
  VVE enc (zcQ i m ln) (zcQ i new gg) (setT i ⟨m,v⟩ f):=by
 obtain⟨rfl,rfl⟩:=h
 subst hv
 constructor
 ·funext q;simp only[zcQ,setT];cases Nat.beq q i <;> rfl
 ·funext q;simp only[zcQ,setT];cases Nat.beq q i <;> rfl

/-! Nil slices are slices of length 0. -/
inductive PVle : PV → PV → Prop
  | rfl (p:PV):PVle p p
  | nil (s:Nat) (g:Nat->List PV):PVle .nils (.sl 0 s g)
  | nilm (q:MQ):PVle .nilm (.fm q 0 (λ _=>none))
inductive PAle : PA → PA → Prop
  | one {p q:PV} : PVle p q->PAle (.one p) (.one q)
  | agg {l m:List PV} : RL PVle l m->PAle (.agg l) (.agg m)
theorem zmC {α β:Type}{R:α->β->Prop} : RL R [] []:=trivial
theorem zhq {α β:Type}{R:α->β->Prop}{a:α}{b:β}{l:List α}{m:List β}(h:R a b) (h':RL R l m):RL R (a :: l) (b :: m):=⟨h,h'⟩
theorem zff {α : Type} {R : α → α → Prop} (h : ∀ a, R a a) : ∀ l : List α, RL R l l
  | []=>trivial
  | a :: l=>⟨h a,zff h l⟩
theorem zfg (a:PA):PAle a a:=by
 cases a with
 | one p=>exact .one (.rfl p)
 | agg l=>exact .agg (zff .rfl l)
def Wk (K:List PA->Prop) (l:List PA):Prop:=∃ l',RL PAle l l'/\K l'
theorem wk {K:List PA->Prop}{l l':List PA}(hk:K l') (h:RL PAle l l'):Wk K l:=⟨l',h,hk⟩
theorem zfh {K:List PA->Prop}{l:List PA}(hk:K l):Wk K l:=⟨l,zff zfg l,hk⟩
theorem zI2 {h:Fz}{p q:PV}{v:Value}(e:PVle p q) (r:Rep h p v):Rep h q v:=by
 cases e with
 | rfl=>exact r
 | nil s g=>cases r;exact .sl0 s g
 | nilm q=>cases r;exact .fmn q _ (λ _ _=>rfl)
theorem zwc {α β γ : Type} {R : α → β → Prop} {S : α → γ → Prop} {T : γ → β → Prop} (h : ∀ a b c, S a c → R a b → T c b) : ∀ (l : List α) (m : List β) (k : List γ), RL S l k → RL R l m → RL T k m
  | [],[],[],_,_=>trivial
  | a :: l,b :: m,c :: k,hs,hr=>⟨h a b c hs.1 hr.1,zwc h l m k hs.2 hr.2⟩
  | [],_ :: _,[],_,hr=>hr.elim
  | [],_,_ :: _,hs,_=>hs.elim
  | _ :: _,_,[],hs,_=>hs.elim
  | _ :: _,[],_ :: _,_,hr=>hr.elim
theorem zBM {h:Fz}{a b:PA}{v:Value}(e:PAle a b) (r:paR h a v):paR h b v:=by
 cases e with
 | one e=>exact zI2 e r
 | agg e =>
  obtain⟨vs,rfl,hv⟩:=r
  exact⟨vs,rfl,zwc (R:=Rep h) (S:=PVle) (T:=Rep h) (λ _ _ _ e r=>zI2 e r) _ _ _ e hv⟩
theorem zwd {h:Fz}{l m:List PA}{v:Value}(e:RL PAle l m) (r:zot h l v):zot h m v:=by
 match l,m,e,r with
 | [a],[b],e,r=>exact zBM e.1 r
 | [],[],_,r=>exact r
 | a :: b :: l,c :: d :: m,e,r =>
  obtain⟨vs,hv,hr⟩:=r
  exact⟨vs,hv,zwc (R:=paR h) (S:=PAle) (T:=paR h) (λ _ _ _ e r=>zBM e r) _ _ _ e hr⟩
 | [_],_ :: _ :: _,e,_=>exact e.2.elim
 | _ :: _ :: _,[_],e,_=>exact e.2.elim
 | [],_ :: _,e,_=>exact e.elim
 | _ :: _,[],e,_=>exact e.elim
theorem zgc {P : Program} {T : Tabs} (hT : TabsOk P T) {f : FuncId} {C : List PA → COut} (hc : zas P f)
    (h:∀ args K,(C args).wp K->∃ args',RL PAle args args'/\∃ memo vv ann,vcFun P (csm T memo vv) ann f args' (Wk K)):Ok P f C:=by
  intro args K hK w h0 vs hvs hfz hgl
  obtain⟨args',hle,memo,vv,ann,hv⟩:=h args K hK
  refine⟨hc,(zv0 (hT.all memo vv) hv (zwc (R:=paR h0) (S:=PAle) (T:=paR h0) (λ _ _ _ e r=>zBM e r) _ _ _ hle hvs) hfz hgl).mono ?_⟩
  rintro e w' ⟨h',rs,v,⟨rs',hr,hk⟩,he,hres,rest⟩
  exact⟨h',rs',v,hk,he,zwd hr hres,rest⟩
theorem zBN {P : Program} {T : Tabs} (hT : TabsOk P T) {f : FuncId} {C : MK} (hc : zas P f)
    (h:∀ xs safe rs ys,C xs=some (safe,rs,ys)->safe->∀ K:List PA->List XA->Prop,K rs ys->∃ memo vv ann,zlh P (csm T memo vv) ann f xs (λ a b=>Wk (λ a'=>K a' b) a)):zj0 P f C:=by
  intro xs ys safe rs hC hs w h0 base vs hvs hn hK hw hgl hB
  obtain⟨memo,vv,ann,hv⟩:=h xs safe rs ys hC hs (λ l zs=>l=rs/\zs=ys) ⟨rfl,rfl⟩
  refine⟨hc,(zv7 (hT.all memo vv) hv hvs hn hK hw hgl hB).mono ?_⟩
  rintro e w' ⟨h',v,rs',ys',⟨rs2,hr,rfl,rfl⟩,he,hres,r⟩
  exact⟨h',v,he,zwd hr hres,r⟩
def WkM (K:List PA×List XA->Prop) (p:List PA×List XA):Prop:=Wk (λ a=>K (a,p.2)) p.1
theorem wkM {K:List PA×List XA->Prop}{l l':List PA}{b:List XA}(hk:K (l',b)) (h:RL PAle l l'):WkM K (l,b):=⟨l',h,hk⟩
theorem zwe {K:List PA×List XA->Prop}{p:List PA×List XA}(hk:K p):WkM K p:=⟨p.1,zff zfg p.1,hk⟩
/-! Maps, as typed zNJ; the keys of a map. -/
structure Mp where
  n:Nat
  F:List Int->Option (List Int)
instance:Inhabited Mp:=⟨⟨0,λ _=>none⟩⟩

end Go.Pm
namespace Go.Pm

abbrev zI (x:Int):DV:=.one (.c (.p (.int .i64 x)))
abbrev zB (x:Bool):DV:=.one (.c (.p (.bool x)))
abbrev zP (x:PV):DV:=.one (.c (.p x))
abbrev zp (L k:Nat):DV:=.one (.c (.ptr L k))
abbrev zv (L:Nat):DV:=.one (.c (.vec L))
abbrev zs {α:Type}(enc:α->List PV) (s:Nat) (x:Sl α):PV:=.sl x.len s (λ i=>enc (x.get i))
abbrev zS {α:Type}(enc:α->List PV) (s:Nat) (x:Sl α):DV:=zP (zs enc s x)
abbrev zm (l:List PV):List Cl:=l.map Cl.p
abbrev zi (x:Int):Cl:=.p (.int .i64 x)
abbrev zg {α:Type}(enc:α->List PV) (x:Sl α):Nat->List PV:=λ i=>enc (x.get i)
abbrev zK (a b:List Nat):Keep:=⟨a,b,[],[],[],[],[]⟩
theorem zE {α:Type}(enc:α->List PV) (size:Nat) (f:Nat->α):IsE enc size size (λ i=>enc (f i)):=⟨rfl,f,rfl⟩

theorem zwf {α : Type} : ∀ (new l pre : List α), l.length = new.length → spl (pre ++ l) pre.length new = pre ++ new
  | [],l,pre,h=>by
    have:l=[]:=List.eq_nil_of_length_eq_zero h
    subst this;rfl
  | x :: r,[],pre,h=>by simp at h
  | x :: r,y :: l,pre,h=>by
    have e:=zwf r l (pre ++ [x]) (by simpa using h)
    simp only[spl,List.append_assoc,List.singleton_append,dqu,List.length_singleton] at e ⊢
    rw[List.set_append_right _ _ (dqt _),Nat.sub_self,List.set_cons_zero]
    exact e
theorem znu {n:Nat}{F G:Nat->Int} : spl (zhW 0 n F) 0 (zhW 0 n G)=zhW 0 n G:=by
 have h:=zwf (zhW 0 n G) (zhW 0 n F) [] (by rw[zfp,zfp])
 simpa using h
theorem znv {n:Nat}{F:Nat->Int} : zhW 0 n F=zhW 0 n (zl7 (zm (zhW 0 n F))):=by
 refine List.ext_getElem? λ k=>?_
 by_cases hk:k < n
 ·rw [zgS n 0 F k hk, zgS n 0 _ k hk, Nat.zero_add]
  congr 2
  have h:(zm (zhW 0 n F))[k]? = some (.p (.int .i64 (F k))):=by
   rw[zm,dqH,zgS n 0 F k hk,Nat.zero_add];rfl
  unfold zl7
  rw[h]
 ·rw[List.getElem?_eq_none (by rw[zfp];omega),List.getElem?_eq_none (by rw[zfp];omega)]

@[reducible] def lpO {A : Type} (d : A) (st : A → A) : Nat → A
  | 0=>d
  | k+1=>st (lpO d st k)
theorem zeU {A B : Type} (a : A) (b : B) (p : A → A) (s : B → B) (M : A → B → Prop) (h0 : M a b) (h1 : ∀ P S, M P S → M (p P) (s S)) : ∀ k, M (lpO a p k) (lpO b s k)
  | 0=>h0
  | k+1=>h1 _ _ (zeU a b p s M h0 h1 k)
def xcm (l:List PV):List XC:=l.map .p
def unX : List XC → List PV
  | []=>[]
  | .p v :: r=>v :: unX r
  | _ :: r=>.nilp :: unX r
theorem zwg : ∀ l : List PV, unX (xcm l) = l
  | []=>rfl
  | v :: r=>by show v :: unX (xcm r)=v :: r;rw[zwg r]
theorem zEO {n:Nat}{F:Nat->Int} : xcm (zhW 0 n F)=xcm (zhW 0 n (zl7 (zm (unX (xcm (zhW 0 n F)))))):=by
 rw[zwg,← znv]

section
variable (P:Program) (Γ:Ctrs) (ann:Ann)
def pt : Code → (Exit → St → Prop) → List Nat → List (St → Prop) → St → Prop
  | .seq a b,K,i :: r,X=>match i with | 0=>pt a (sqK P Γ ann b K) r X | _=>pt b K r X
  | .cond _ a b,K,i :: r,X=>match i with | 0=>pt a K r X | _=>pt b K r X
  | .block id b,K,_ :: r,X=>pt b (zfS id K) r X
  | .loop b,K,_ :: r,x :: X=>pt b (ztK P ann (zlY b) x K) r X
  | .scope b,K,_ :: r,X=>pt b (zuK K) r X
  | c,K,_,_=>vc P Γ ann c K
def ptF (fn:Func) (K:List PA->Prop) (l:List Nat) (X:List (St->Prop)):St->Prop :=
 match fn.body with
 | some c=>pt P Γ ann c (zpW P fn K) l X
 | none=>λ _=>False
end

section
variable (P:Program) (Γ:Ctrs) (ann:Ann)
def ptR : Code → (Exit → St → Prop) → List Nat → List (St → Prop) → Code × (Exit → St → Prop)
  | .seq a b,K,i :: r,X=>match i with | 0=>ptR a (sqK P Γ ann b K) r X | _=>ptR b K r X
  | .cond _ a b,K,i :: r,X=>match i with | 0=>ptR a K r X | _=>ptR b K r X
  | .block id b,K,_ :: r,X=>ptR b (zfS id K) r X
  | .loop b,K,_ :: r,x :: X=>ptR b (ztK P ann (zlY b) x K) r X
  | .scope b,K,_ :: r,X=>ptR b (zuK K) r X
  | c,K,_,_=>(c,K)
def exF (fn:Func) (K:List PA->Prop) (l:List Nat) (X:List (St->Prop)) (s:St):Prop :=
 match fn.body with
 | some c=>(ptR P Γ ann c (zpW P fn K) l X).2 .normal s
 | none=>False
def rnF (fn:Func) (K:List PA->Prop) (l:List Nat) (X:List (St->Prop)) (Y:List (List PA)->St->Prop) (y:List PA) (rest:List (List PA)) (s:St):Prop :=
 match fn.body with
 | some c=>match (ptR P Γ ann c (zpW P fn K) l X).1 with
  | .rangeFunc _ ps a b=>zLN P Γ ann (zNb a b) ps.toList a b Y (ptR P Γ ann c (zpW P fn K) l X).2 y rest s
  | _=>False
 | none=>False
end
@[reducible] def lpR {A Y : Type} (a : A) (st : Y → A → A) : List Y → A
  | []=>a
  | y :: r=>st y (lpR a st r)
theorem zri {Y A B : Type} {enc : Y → List PA} {X : List (List PA) → St → Prop} (pe : B) (se : A) (ps : Y → B → B) (ss : Y → A → A) (M : (St → Prop) → B → A → Prop) (h0 : M (X []) pe se)
    (h1:∀ y rest P S,M (X rest) P S->M (X (enc y :: rest)) (ps y P) (ss y S)):∀ l:List Y,M (X (l.map enc)) (lpR pe ps l) (lpR se ss l)
  | []=>h0
  | y :: r=>h1 y (r.map enc) _ _ (zri pe se ps ss M h0 h1 r)
theorem zr {at_ sf : Prop} {Y : Type} {enc : Y → List PA} {ys : List Y} {g : St} (Ex : St → Prop) (Rn : (List (List PA) → St → Prop) → List PA → List (List PA) → St → Prop)
    (e:at_=(sf/\∀ X:List (List PA)->St->Prop,(∀ s,Ex s->X [] s)->(∀ y rest s,Rn X y rest s->X (y :: rest) s)->X (ys.map enc) g)) (hs:sf)
    (h:∀ X:List (List PA)->St->Prop,(∀ s,Ex s->X [] s)->(∀ y rest s,Rn X y rest s->X (y :: rest) s)->X (ys.map enc) g):at_:=e ▸ ⟨hs,h⟩

theorem zc {b:Bool}{A B:Prop}{S S':Bool}{α:Type}{e:α->List PA}{K:List PA->Prop}{x y:α}(hs:cond b S S'=true) (hk:K (e (cond b x y))) (h1:S=true->K (e x)->A) (h2:S'=true->K (e y)->B):zdM b A B:=by
 cases b
 ·exact h2 hs hk
 ·exact h1 hs hk
theorem zt {b:Bool}{A B:Prop}{α:Type}{e:α->List PA}{K:List PA->Prop}{x y:α}(hk:K (e (cond b x y))) (h1:K (e x)->A) (h2:K (e y)->B):zdM b A B:=by
 cases b
 ·exact h2 hk
 ·exact h1 hk
theorem zI3 {b:Bool}{s:Prop}{r1 r2:List PA}{K:List PA->Prop}(h:(COut.alt b s r1 s r2).wp K):s/\K (cond b r1 r2):=by
 cases b
 ·exact h.2 rfl
 ·exact h.1 rfl
theorem zl {at_:Prop}{g:St}(B:(St->Prop)->St->Prop) (e:at_ = ∀ X:St->Prop,(∀ s,B X s->X s)->X g) (h:∀ X:St->Prop,(∀ s,B X s->X s)->X g):at_:=e ▸ h
end Go.Pm
namespace Go.Proofs
open Go Go.Pm
set_option maxRecDepth 100000
set_option linter.unusedVariables false
attribute [local irreducible] Go.Pm.vcFun Go.Pm.vc Go.Pm.vcIter
abbrev Tab:=Nat->Int
def tg (n:Nat) (F:Tab) (k:Nat):Int:=zl7 (zm (zhW 0 n F)) k
def ts (n:Nat) (F:Tab) (k:Nat) (vs:List Int):Tab:=zCR k vs (zl7 (zm (zhW 0 n F)))
abbrev zah (x:Int):List PV:=[.int .i64 x]
def zLP : List PV → Int
  | [.int .i64 x]=>x
  | _=>default
def zax (g:Nat->List PV):Nat->Int:=λ i=>zLP (g i)
theorem zb2 (f:Nat->Int):zax (λ i=>zah (f i))=f:=rfl
abbrev zLQ (x:Bool):List PV:=[.bool x]
structure Tie where
  From:Int
  To:Int
  Low:Int
  High:Int
deriving Inhabited
abbrev enc_40 (x:Tie):List PV:=[.int .i64 x.From,.int .i64 x.To,.int .i64 x.Low,.int .i64 x.High]
def zI4 : List PV → Tie
  | [.int .i64 x_From,.int .i64 x_To,.int .i64 x_Low,.int .i64 x_High]=>(⟨x_From,x_To,x_Low,x_High⟩:Tie)
  | _=>default
def zak (g:Nat->List PV):Nat->Tie:=λ i=>zI4 (g i)
theorem zaj (f:Nat->Tie):zak (λ i=>enc_40 (f i))=f:=rfl
abbrev zI5 (x:(Sl Tie)):List PV:=[.sl x.len 4 (λ i=>enc_40 (x.get i))]
structure Net where
  Nodes:Int
  Ties:(Sl Tie)
deriving Inhabited
abbrev enc_24 (x:Net):List PV:=[.int .i64 x.Nodes,.sl x.Ties.len 4 (λ i=>enc_40 (x.Ties.get i))]
abbrev zbT (x:(Sl Int)):List PV:=[.sl x.len 1 (λ i=>zah (x.get i))]
def zI6 : List PV → (Sl Int)
  | [.sl x_n _ x_g]=>(⟨x_n,zax x_g⟩:(Sl Int))
  | _=>default
def znw (g:Nat->List PV):Nat->(Sl Int):=λ i=>zI6 (g i)
theorem zln (f:Nat->(Sl Int)):znw (λ i=>zbT (f i))=f:=rfl
structure Span where
  Low:Int
  High:Int
deriving Inhabited
abbrev zbG (x:Span):List PV:=[.int .i64 x.Low,.int .i64 x.High]
def zI7 : List PV → Span
  | [.int .i64 x_Low,.int .i64 x_High]=>(⟨x_Low,x_High⟩:Span)
  | _=>default
def zgd (g:Nat->List PV):Nat->Span:=λ i=>zI7 (g i)
theorem zfB (f:Nat->Span):zgd (λ i=>zbG (f i))=f:=rfl
structure Pulse where
  A:Int
  B:Int
  TimeA:Int
  TimeB:Int
  Flight:Span
  Jitter:Int
deriving Inhabited
structure Use where
  Tie:Int
  Back:Bool
deriving Inhabited
abbrev enc_75 (x:Use):List PV:=[.int .i64 x.Tie,.bool x.Back]
def zI8 : List PV → Use
  | [.int .i64 x_Tie,.bool x_Back]=>(⟨x_Tie,x_Back⟩:Use)
  | _=>default
def zbk (g:Nat->List PV):Nat->Use:=λ i=>zI8 (g i)
theorem zaS (f:Nat->Use):zbk (λ i=>enc_75 (f i))=f:=rfl
abbrev zI9 (x:(Sl Use)):List PV:=[.sl x.len 2 (λ i=>enc_75 (x.get i))]
structure Flash where
  A:Int
  B:Int
  Time:Int
  Flight:Int
  Wrong:Int
deriving Inhabited
structure web where
  Net:Net
  out:Mp
deriving Inhabited
abbrev zaC (x:web):List PV:=[.int .i64 x.Net.Nodes,.sl x.Net.Ties.len 4 (λ i=>enc_40 (x.Net.Ties.get i)),.fm (false,1,false,[none]) x.out.n x.out.F]
structure far where
  length:Int
  uses:Int
deriving Inhabited
abbrev zcq (x:far):List PV:=[.int .i64 x.length,.int .i64 x.uses]
def zEP : List PV → far
  | [.int .i64 x_length,.int .i64 x_uses]=>(⟨x_length,x_uses⟩:far)
  | _=>default
def zke (g:Nat->List PV):Nat->far:=λ i=>zEP (g i)
theorem zjK (f:Nat->far):zke (λ i=>zcq (f i))=f:=rfl
abbrev zar (x:Tab):List PV:=zhW 0 80 x
def za7 (l:List PV):Tab:=zl7 (zm l)
structure Step where
  From:Int
  To:Int
  Length:Int
  Use:Use
deriving Inhabited
abbrev zbP (x:Step):List PV:=[.int .i64 x.From,.int .i64 x.To,.int .i64 x.Length,.int .i64 x.Use.Tie,.bool x.Use.Back]
structure step where
  Use:Use
  from_:Int
  to:Int
  length:Int
deriving Inhabited
abbrev zaA (x:step):List PV:=[.int .i64 x.Use.Tie,.bool x.Use.Back,.int .i64 x.from_,.int .i64 x.to,.int .i64 x.length]
def zEQ : List PV → step
  | [.int .i64 x_Use_Tie,.bool x_Use_Back,.int .i64 x_from_,.int .i64 x_to,.int .i64 x_length]=>(⟨(⟨x_Use_Tie,x_Use_Back⟩:Use),x_from_,x_to,x_length⟩:step)
  | _=>default
def zii (g:Nat->List PV):Nat->step:=λ i=>zEQ (g i)
theorem zeG (f:Nat->step):zii (λ i=>zaA (f i))=f:=rfl
structure tie where
  Tie:Tie
  index:Int
deriving Inhabited
abbrev zqw (x:tie):List PV:=[.int .i64 x.Tie.From,.int .i64 x.Tie.To,.int .i64 x.Tie.Low,.int .i64 x.Tie.High,.int .i64 x.index]
abbrev zwh (x:Tab):List PV:=zhW 0 40 x
abbrev zcX (x:(Sl Tab)):List PV:=[.sl x.len 80 (λ i=>zar (x.get i))]
abbrev tL (T:Tab) (i:Int):Int:=tg 80 T (0+i.toNat * 2+0)
abbrev tU (T:Tab) (i:Int):Int:=tg 80 T (0+i.toNat * 2+0+1)
abbrev tV (T:Tab) (i:Int):Int:=tg 80 T (0+i.toNat * 2+1)
abbrev nvr (x y:Int):Bool:=match (x == (1000000000000:Int)) with | true=>(match (y == (0:Int)) with | true=>true | false=>false) | false=>false
end Go.Proofs
namespace Go.Pm
open Go Go.Deep

theorem zBO (b o i j:Nat):((⟨b,o,none⟩:Addr).add i).add j=⟨b,o+i+j,none⟩:=by
 simp only[Addr.add]
 by_cases h1:i=0
 ·subst h1
  by_cases h2:j=0
  ·subst h2;rfl
  ·rw[if_neg h2];rfl
 ·rw [if_neg h1]
  by_cases h2:j=0
  ·subst h2;rfl
  ·rw[if_neg h2]
def H0 (w:World):Fz:=λ b=>(w.heap[b]?).map .fz
theorem hw_H0 (w:World):Hw (H0 w) w:=by
 intro b x h
 unfold H0 at h
 cases e:w.heap[b]? with
 | none=>rw[e] at h;cases h
 | some o=>rw[e] at h;cases h;exact⟨o,rfl,rfl⟩
def wfI (x:Int):Prop:=-9223372036854775808≤x/\x≤9223372036854775807
section
variable {H:Type}{en:TypeId×Value->H}{P:Program}{w:World}{sp:Nat->Bool}{held:Bool}
def Rd (H:Type) (en:TypeId×Value->H) (P:Program) (w:World) (sp:Nat->Bool) (held:Bool) (t:TypeId){α:Type}(enc:α->List PV) (wf:α->Prop):Prop :=
 ∀ (fuel:Nat) (cs:List Value) (x:DataW H×List MemPlace),DataW.trod en P w 0 sp held fuel t cs=some x->∃ a:α,RL (Rep (H0 w)) (enc a) cs/\wf a
theorem zJa {t:TypeId}(ht:P.underlying t=some (.int .i64)):Rd H en P w sp held t (λ x=>[.int .i64 x]) wfI:=by
 intro fuel cs x h
 obtain⟨n,rfl,_,hw⟩:=DataW.trod_int ht h
 refine⟨n,⟨.int _ _,trivial⟩,?_⟩
 simp only[Lit.wf,dqm,decide_eq_true_eq] at hw
 exact⟨hw.1,hw.2⟩
theorem zER {t:TypeId}(ht:P.underlying t=some .bool):Rd H en P w sp held t (λ x=>[.bool x]) (λ _=>True):=by
 intro fuel cs x h
 obtain⟨b,rfl,_⟩:=DataW.trod_bool ht h
 exact⟨b,⟨.bool _,trivial⟩,trivial⟩
theorem zlo {t : TypeId} {fs : Array Field} (ht : P.underlying t = some (.struct fs)) {fuel : Nat} {cs : List Value} {x : DataW H × List MemPlace} (h : DataW.trod en P w 0 sp held fuel t cs = some x) :
  cs.length=P.cellsOf t/\∀ (i:Nat) (f:Field),fs[i]? = some f->∃ n y,DataW.trod en P w 0 sp held n f.type ((cs.drop f.offset).take (P.cellsOf f.type))=some y:=by
 obtain⟨xs,n,_,_,hl,hx,hf⟩:=DataW.trod_struct ht h
 refine⟨hl,λ i f hi=>?_⟩
 have hlt:i < xs.length:=by rw[hx];exact (dqp.1 hi).1
 exact⟨n,xs[i],by rw[hf i f hi,dqD hlt]⟩
theorem zs8 {t e : TypeId} {α : Type} [Inhabited α] {enc : α → List PV} {wf : α → Prop} {s : Nat} (ht : P.underlying t = some (.slice e)) (hc : P.cellsOf e = s) (hs : 0 < s) (hlen : ∀ a, (enc a).length = s)
    (hel:Rd H en P w sp held e enc wf):Rd H en P w sp held t (λ x:Sl α=>[.sl x.len s (λ i=>enc (x.get i))]) (λ x=>x.len≤9223372036854775807/\∀ i,i < x.len->wf (x.get i)):=by
  intro fuel cs x h
  rcases open_slice ht h with ⟨rfl,_⟩ | ⟨a,len,cap,m,n,D,Pl,rfl,_,hl,hm,hmm,_,hget⟩
  · exact⟨⟨0,default⟩,⟨.sl0 _ _,trivial⟩,Nat.zero_le _,λ i hi=>absurd hi (Nat.not_lt_zero i)⟩
  · by_cases h0 : len = 0
    · subst h0
      exact⟨⟨0,default⟩,⟨.sle _ _ _ _,trivial⟩,Nat.zero_le _,λ i hi=>absurd hi (Nat.not_lt_zero i)⟩
    · have hlm : len ≤ m := by rw [hmm]; split <;> omega
      rw[hc] at hget
      have hex:∀ i,i < len->∃ y:α,(∃ cs',w.cells? 0 (a.add (i * s)) s=some cs'/\RL (Rep (H0 w)) (enc y) cs')/\wf y:=by
        intro i hi
        obtain⟨cs',h1,h2⟩:=hget i (by omega)
        obtain⟨y,h3,h4⟩:=hel _ _ _ h2
        exact⟨y,⟨cs',h1,h3⟩,h4⟩
      have hch:∃ f:Nat->α,∀ i,i < len->(∃ cs',w.cells? 0 (a.add (i * s)) s=some cs'/\RL (Rep (H0 w)) (enc (f i)) cs')/\wf (f i):=by
        refine⟨λ i=>if hi:i < len then Classical.choose (hex i hi) else default,λ i hi=>?_⟩
        simp only[dif_pos hi]
        exact Classical.choose_spec (hex i hi)
      obtain⟨f,hf⟩:=hch
      -- the block
      have hcell:∀ i,i < len->∀ j,j < s->∃ cs',w.cells? 0 (a.add (i * s)) s=some cs'/\RL (Rep (H0 w)) (enc (f i)) cs'/\w.cell? ((a.add (i * s)).add j)=cs'[j]?/\cs'.length=s:=by
        intro i hi j hj
        obtain⟨⟨cs',h1,h2⟩,_⟩:=hf i hi
        obtain⟨_,h3,h4⟩:=World.cells?_some h1
        exact⟨cs',h1,h2,h4 j hj,h3⟩
      obtain⟨cs0,_,_,hc0,hl0⟩:=hcell 0 (by omega) 0 hs
      have ha0:w.cell? a=cs0[0]?:=by simpa [Addr.add] using hc0
      rw[dqD (by omega)] at ha0
      obtain⟨C,ty,fr,hblk,hspot⟩:∃ C ty fr,w.heap[a.block]? = some (.cells C ty fr)/\a.spot=none:=by
        unfold World.cell? at ha0
        split at ha0
        · rename_i C ty fr hb
          refine⟨C,ty,fr,hb,?_⟩
          cases hsp:a.spot with
          | none=>rfl
          | some k=>rw[hsp] at ha0;simp at ha0
        · cases ha0
      have ea:a=⟨a.block,a.off,none⟩:=by rw[← hspot]
      have hat:∀ i j,i < len->j < s->∃ cs',RL (Rep (H0 w)) (enc (f i)) cs'/\C[a.off+i * s+j]? = cs'[j]?/\cs'.length=s:=by
        intro i j hi hj
        obtain⟨cs',_,h2,h3,h4⟩:=hcell i hi j hj
        refine⟨cs',h2,?_,h4⟩
        rw[← h3]
        have e2:(a.add (i * s)).add j=⟨a.block,a.off+i * s+j,none⟩:=(congrArg (λ z:Addr=>(z.add (i * s)).add j) ea).trans (zBO _ _ _ _)
        rw[e2]
        simp[World.cell?,hblk]
      refine⟨⟨len,f⟩,⟨?_,trivial⟩,by simp only[maxLen] at hm;show len≤_;omega,λ i hi=>(hf i hi).2⟩
      rw[ea]
      refine .sl len s _ a.block a.off cap C ty fr (λ i j=>C.getD (a.off+i * s+j) undef) (by simp[H0,hblk]) hl (λ i _=>hlen _) ?_ ?_
      · intro i j x hi hx
        have hj:j < s:=by have:=(dqn.1 hx).1;rw[hlen] at this;exact this
        obtain⟨cs',h1,h2,h3⟩:=hat i j hi hj
        rw[dql,h2,dqD (by omega)]
        rfl
      · intro i j x hi hx
        have hj:j < s:=by have:=(dqn.1 hx).1;rw[hlen] at this;exact this
        obtain⟨cs',h1,h2,h3⟩:=hat i j hi hj
        obtain⟨v,hv,hr⟩:=h1.get j x hx
        rw[dql,h2,hv]
        exact hr
theorem zc1 {α:Type}(l:List α) (o s:Nat):l.drop o=(l.drop o).take s ++ l.drop (o+s):=by
 rw[← List.drop_drop]
 exact (List.take_append_drop s (l.drop o)).symm
theorem okWide_agg {t:TypeId}{fs:Array Field}{r:Reach}{base:Nat}{v:Value}(ht:P.underlying t=some (.struct fs)) (h:Value.okWide P w r base t v):∃ cs,v=.agg cs:=by
 unfold Value.okWide at h
 rw[ht] at h
 obtain⟨cs,hv,_⟩:=h
 exact⟨cs,hv⟩
def zLR : TypeDesc → Bool
  | .struct _=>false
  | .array _ _=>false
  | _=>true
theorem okWide_one {t:TypeId}{d:TypeDesc}{r:Reach}{base:Nat}{v:Value}(ht:P.underlying t=some d) (hd:zLR d=true) (h:Value.okWide P w r base t v):v.cells.toList=[v]:=by
 unfold Value.okWide at h
 rw[ht] at h
 cases v with
 | agg cs =>
  exfalso
  cases d <;> first | (cases hd;done) | (simp only[Cell.okWide,Cell.ok,ht] at h)
 | _=>rfl
theorem pa_one {h:Fz}{p:PV}{v:Value}(hv:v.cells.toList=[v]) (r:RL (Rep h) [p] v.cells.toList):paR h (.one p) v:=by
 rw[hv] at r
 exact r.1
theorem pa_agg {h:Fz}{l:List PV}{v:Value}(hv:∃ cs,v=.agg cs) (r:RL (Rep h) l v.cells.toList):paR h (.agg l) v:=by
 obtain⟨cs,rfl⟩:=hv
 exact⟨cs.toList,by simp,r⟩
theorem below_H0 {w':World}(b:Bel (H0 w) w.heap.size w w'):Go.RowKit.Below w.heap.size w w' :=
 ⟨b.os,b.tape,b.output,b.size,λ k hk=>b.block k hk λ F e=>by
  unfold H0 at e
  cases hb:w.heap[k]? <;> rw[hb] at e <;> cases e⟩
end
end Go.Pm
namespace Go.Proofs
open Go Go.Pm
set_option maxRecDepth 100000
set_option linter.unusedVariables false
attribute [local irreducible] Go.Pm.vcFun Go.Pm.vc Go.Pm.vcIter
theorem C_3:Tryd.prog.cellsOf 3=1:=by kernel_rfl
theorem C_4:Tryd.prog.cellsOf 4=1:=by kernel_rfl
theorem zNM:Tryd.prog.cellsOf 22=1:=by kernel_rfl
theorem zNN:Tryd.prog.cellsOf 24=2:=by kernel_rfl
theorem zNh:Tryd.prog.cellsOf 40=4:=by kernel_rfl
theorem zNi:Tryd.prog.cellsOf 75=2:=by kernel_rfl
abbrev wf_3 (x:Int):Prop:=wfI x
theorem rd_3 {H:Type}{en:TypeId×Value->H}{w:World}{sp:Nat->Bool}{held:Bool} : Rd H en Tryd.prog w sp held 3 zah wf_3:=zJa Tryd.underlying3
def zJb (x:Tie):Prop:=wf_3 x.From/\wf_3 x.To/\wf_3 x.Low/\wf_3 x.High
theorem zLS {H:Type}{en:TypeId×Value->H}{w:World}{sp:Nat->Bool}{held:Bool} : Rd H en Tryd.prog w sp held 40 enc_40 zJb:=by
  intro fuel cs x h
  obtain⟨hl,hf⟩:=zlo Tryd.underlying40 h
  rw[zNh] at hl
  obtain⟨n0,y0,g0⟩:=hf 0 _ rfl
  have g0:DataW.trod en Tryd.prog w 0 sp held n0 3 ((cs.drop 0).take (Tryd.prog.cellsOf 3))=some y0:=g0
  rw[C_3] at g0
  obtain⟨a0,r0,w0⟩:=rd_3 _ _ _ g0
  obtain⟨n1,y1,g1⟩:=hf 1 _ rfl
  have g1:DataW.trod en Tryd.prog w 0 sp held n1 3 ((cs.drop 1).take (Tryd.prog.cellsOf 3))=some y1:=g1
  rw[C_3] at g1
  obtain⟨a1,r1,w1⟩:=rd_3 _ _ _ g1
  obtain⟨n2,y2,g2⟩:=hf 2 _ rfl
  have g2:DataW.trod en Tryd.prog w 0 sp held n2 3 ((cs.drop 2).take (Tryd.prog.cellsOf 3))=some y2:=g2
  rw[C_3] at g2
  obtain⟨a2,r2,w2⟩:=rd_3 _ _ _ g2
  obtain⟨n3,y3,g3⟩:=hf 3 _ rfl
  have g3:DataW.trod en Tryd.prog w 0 sp held n3 3 ((cs.drop 3).take (Tryd.prog.cellsOf 3))=some y3:=g3
  rw[C_3] at g3
  obtain⟨a3,r3,w3⟩:=rd_3 _ _ _ g3
  have z:cs.drop 4=[]:=List.drop_eq_nil_of_le (by omega)
  have R:=(r0.append (r1.append (r2.append (r3.append (show RL (Rep (H0 w)) [] (cs.drop 4) by rw[z];exact zmC)))))
  rw[← (show cs.drop 3=(cs.drop 3).take 1 ++ cs.drop 4 from zc1 cs 3 1)] at R
  rw[← (show cs.drop 2=(cs.drop 2).take 1 ++ cs.drop 3 from zc1 cs 2 1)] at R
  rw[← (show cs.drop 1=(cs.drop 1).take 1 ++ cs.drop 2 from zc1 cs 1 1)] at R
  rw[← (show cs.drop 0=(cs.drop 0).take 1 ++ cs.drop 1 from zc1 cs 0 1)] at R
  exact⟨⟨a0,a1,a2,a3⟩,R,⟨w0,w1,w2,w3⟩⟩
def zJc (x:(Sl Tie)):Prop:=x.len≤9223372036854775807/\∀ i,i < x.len->zJb (x.get i)
theorem zLT {H:Type}{en:TypeId×Value->H}{w:World}{sp:Nat->Bool}{held:Bool} : Rd H en Tryd.prog w sp held 22 zI5 zJc:=zs8 Tryd.underlying22 zNh (by decide) (λ _=>rfl) zLS
def wf_24 (x:Net):Prop:=wf_3 x.Nodes/\zJc x.Ties
theorem rd_24 {H:Type}{en:TypeId×Value->H}{w:World}{sp:Nat->Bool}{held:Bool} : Rd H en Tryd.prog w sp held 24 enc_24 wf_24:=by
  intro fuel cs x h
  obtain⟨hl,hf⟩:=zlo Tryd.underlying24 h
  rw[zNN] at hl
  obtain⟨n0,y0,g0⟩:=hf 0 _ rfl
  have g0:DataW.trod en Tryd.prog w 0 sp held n0 3 ((cs.drop 0).take (Tryd.prog.cellsOf 3))=some y0:=g0
  rw[C_3] at g0
  obtain⟨a0,r0,w0⟩:=rd_3 _ _ _ g0
  obtain⟨n1,y1,g1⟩:=hf 1 _ rfl
  have g1:DataW.trod en Tryd.prog w 0 sp held n1 22 ((cs.drop 1).take (Tryd.prog.cellsOf 22))=some y1:=g1
  rw[zNM] at g1
  obtain⟨a1,r1,w1⟩:=zLT _ _ _ g1
  have z:cs.drop 2=[]:=List.drop_eq_nil_of_le (by omega)
  have R:=(r0.append (r1.append (show RL (Rep (H0 w)) [] (cs.drop 2) by rw[z];exact zmC)))
  rw[← (show cs.drop 1=(cs.drop 1).take 1 ++ cs.drop 2 from zc1 cs 1 1)] at R
  rw[← (show cs.drop 0=(cs.drop 0).take 1 ++ cs.drop 1 from zc1 cs 0 1)] at R
  exact⟨⟨a0,a1⟩,R,⟨w0,w1⟩⟩
abbrev zNj (_:Bool):Prop:=True
theorem zNO {H:Type}{en:TypeId×Value->H}{w:World}{sp:Nat->Bool}{held:Bool} : Rd H en Tryd.prog w sp held 4 zLQ zNj:=zER Tryd.underlying4
def zJd (x:Use):Prop:=wf_3 x.Tie/\zNj x.Back
theorem zLU {H:Type}{en:TypeId×Value->H}{w:World}{sp:Nat->Bool}{held:Bool} : Rd H en Tryd.prog w sp held 75 enc_75 zJd:=by
  intro fuel cs x h
  obtain⟨hl,hf⟩:=zlo Tryd.underlying75 h
  rw[zNi] at hl
  obtain⟨n0,y0,g0⟩:=hf 0 _ rfl
  have g0:DataW.trod en Tryd.prog w 0 sp held n0 3 ((cs.drop 0).take (Tryd.prog.cellsOf 3))=some y0:=g0
  rw[C_3] at g0
  obtain⟨a0,r0,w0⟩:=rd_3 _ _ _ g0
  obtain⟨n1,y1,g1⟩:=hf 1 _ rfl
  have g1:DataW.trod en Tryd.prog w 0 sp held n1 4 ((cs.drop 1).take (Tryd.prog.cellsOf 4))=some y1:=g1
  rw[C_4] at g1
  obtain⟨a1,r1,w1⟩:=zNO _ _ _ g1
  have z:cs.drop 2=[]:=List.drop_eq_nil_of_le (by omega)
  have R:=(r0.append (r1.append (show RL (Rep (H0 w)) [] (cs.drop 2) by rw[z];exact zmC)))
  rw[← (show cs.drop 1=(cs.drop 1).take 1 ++ cs.drop 2 from zc1 cs 1 1)] at R
  rw[← (show cs.drop 0=(cs.drop 0).take 1 ++ cs.drop 1 from zc1 cs 0 1)] at R
  exact⟨⟨a0,a1⟩,R,⟨w0,w1⟩⟩
def wf_67 (x:(Sl Use)):Prop:=x.len≤9223372036854775807/\∀ i,i < x.len->zJd (x.get i)
theorem rd_67 {H:Type}{en:TypeId×Value->H}{w:World}{sp:Nat->Bool}{held:Bool} : Rd H en Tryd.prog w sp held 67 zI9 wf_67:=zs8 Tryd.underlying67 zNi (by decide) (λ _=>rfl) zLU
end Go.Proofs
namespace Go.Proofs
open Go Go.Pm
set_option maxRecDepth 100000
set_option linter.unusedVariables false
attribute [local irreducible] Go.Pm.vcFun Go.Pm.vc Go.Pm.vcIter
abbrev T81:Tabs:=Tabs.nil
theorem zLV:TabsOk Tryd.prog T81:=TabsOk.nil
abbrev G81:Ctrs:=csm T81 (λ _ _=>[]) (λ _=>false)
def zJe:Ann:=⟨15,[(0,zK [0,1,2] []),(1,zK [6] [])],
 [],
 [],
 [],[]⟩
abbrev R81:=Bool
abbrev e81 (r:R81):List PA:=[.one (.bool r)]
section
variable {K:List PA->Prop}{n:Int}{low:Int}{high:Int}
def s81 (n:Int) (low:Int) (high:Int):Bool :=
  (cond (decide (n ≥ low))
 (decide (n≤high))
 false)
end
theorem q81 (n:Int) (low:Int) (high:Int) (K:List PA->Prop) (hk:K (e81 (s81 n low high))):vcFun Tryd.prog G81 zJe 81 [.one (.int .i64 n),.one (.int .i64 low),.one (.int .i64 high)] K :=
  zaX (by kernel_rfl) (zt hk (λ hk=>hk) (λ hk=>hk))
def zue : List PA → COut
  | [.one (.int .i64 a0),.one (.int .i64 a1),.one (.int .i64 a2)]=>.tot [.one (.bool (s81 a0 a1 a2))]
  | _=>.no
theorem zJf:zas Tryd.prog 81:=⟨_,rfl,rfl,by kernel_rfl⟩
theorem zLw:Ok Tryd.prog 81 zue:=zbv zLV zJf λ args K h=>by
  unfold zue at h
  split at h
  · rename_i a0 a1 a2
    have hk:=h
    exact⟨(λ _ _=>[]),(λ _=>false),zJe,q81 a0 a1 a2 K hk⟩
  · exact h.elim
abbrev T78:Tabs:=(Tabs.nil.addF 81 zue)
theorem zLW:TabsOk Tryd.prog T78:=(TabsOk.nil.addF zLw)
abbrev G78:Ctrs:=csm T78 (λ _ _=>[]) (λ _=>false)
def zES:Ann:=⟨55,[(0,zK [1,2] [2]),(1,zK [1,2,5] [2]),(2,zK [1,2,5,6] [2]),(3,zK [4] [])],
 [],
 [(2,zK [1,2,5] [2]),(3,zK [1,2,5,6] [2])],
 [],[]⟩
abbrev R78:=Bool
abbrev e78 (r:R78):List PA:=[.one (.bool r)]
@[irreducible] def z78:=ptF Tryd.prog G78 zES Tryd.f78
section
variable {K:List PA->Prop}{t:Tie}{nodes:Int}{znx:Bool}{zs9:Bool}
def zlp (t:Tie) (nodes:Int) (znx:Bool) (zs9:Bool):Bool :=
  (cond (s81 t.From (0:Int) (w64 (nodes - (1:Int))))
 (cond (s81 t.To (0:Int) (w64 (nodes - (1:Int))))
 (cond (t.From != t.To)
 (cond znx
 (cond zs9
 (decide (t.Low≤t.High))
 false)
 false)
 false)
 false)
 false)
theorem zwi (hk:K (e78 (zlp t nodes znx zs9))):z78 K [1,1,1] [] ⟨[(1,zI nodes),(2,zp 2 0),(5,zB znx),(6,zB zs9)],[(2,.box 40 (zm (enc_40 t)))],[]⟩:=zaX (by kernel_rfl) (zt hk (λ hk=>(zt hk (λ hk=>(zt hk (λ hk=>(zt hk (λ hk=>(zt hk (λ hk=>hk) (λ hk=>hk))) (λ hk=>hk))) (λ hk=>hk))) (λ hk=>hk))) (λ hk=>hk))
def zlq (t:Tie) (nodes:Int) (znx:Bool):Bool :=
  (cond (t.High == (1000000000000:Int))
 (zlp t nodes znx true)
 (zlp t nodes znx (s81 t.High (-1000000000:Int) (1000000000:Int))))
theorem zwj (hk:K (e78 (zlq t nodes znx))):z78 K [1,1] [] ⟨[(1,zI nodes),(2,zp 2 0),(5,zB znx)],[(2,.box 40 (zm (enc_40 t)))],[]⟩:=zaX (by kernel_rfl) (zt hk (λ hk=>(zwi hk)) (λ hk=>(zwi hk)))
def s78 (t:Tie) (nodes:Int):Bool :=
  (cond (t.Low == (-1000000000000:Int))
 (zlq t nodes true)
 (zlq t nodes (s81 t.Low (-1000000000:Int) (1000000000:Int))))
end
theorem q78 (t:Tie) (nodes:Int) (K:List PA->Prop) (hk:K (e78 (s78 t nodes))):vcFun Tryd.prog G78 zES 78 [.agg (enc_40 t),.one (.int .i64 nodes)] K :=
  zaX (by kernel_rfl) (zt hk (λ hk=>(zwj hk)) (λ hk=>(zwj hk)))
def zET : List PA → COut
  | [.agg [.int .i64 zqx,.int .i64 zEU,.int .i64 zwk,.int .i64 zqy],.one (.int .i64 a1)]=>.tot [.one (.bool (s78 (⟨zqx,zEU,zwk,zqy⟩:Tie) a1))]
  | _=>.no
theorem zJg:zas Tryd.prog 78:=⟨_,rfl,rfl,by kernel_rfl⟩
theorem zNP:Ok Tryd.prog 78 zET:=zbv zLW zJg λ args K h=>by
  unfold zET at h
  split at h
  · rename_i zqx zEU zwk zqy a1
    have hk:=h
    exact⟨(λ _ _=>[]),(λ _=>false),zES,q78 (⟨zqx,zEU,zwk,zqy⟩:Tie) a1 K hk⟩
  · exact h.elim
abbrev T67:Tabs:=((Tabs.nil.addF 78 zET).addF 81 zue)
theorem zLX:TabsOk Tryd.prog T67:=((TabsOk.nil.addF zNP).addF zLw)
abbrev G67:Ctrs:=csm T67 (λ _ _=>[]) (λ _=>false)
def zBP:Ann:=⟨27,[(0,zK [1] [1]),(1,zK [1,6,7,8] [1]),(2,zK [1,6,7,8,9] [1]),(3,zK [1,4,6,7,8] [1,4]),(4,zK [1,6,7,8,16] [1]),(5,zK [2] []),(6,zK [1,6,7,8] [1]),(7,zK [2] [])],
 [(2,zK [1,6,7,8] [1])],
 [(5,zK [1,6,7,8,16] [1])],
 [],[]⟩
abbrev R67:=Bool
abbrev e67 (r:R67):List PA:=[.one (.bool r)]
@[irreducible] def z67:=ptF Tryd.prog G67 zBP Tryd.f67
def zDf (n:Net) (zdX:Int):St:=⟨[(1,zp 1 0),(6,zS enc_40 4 n.Ties),(7,zI (n.Ties.len:Int)),(8,zI zdX)],[(1,.box 24 (zm (enc_24 n)))],[]⟩
abbrev zEV (K:List PA->Prop) (n:Net) (X:St->Prop) (P:Int->Bool) (S:Int->Bool):Prop:=∀ ⦃zdX:Int⦄,P zdX=true->K (e67 (S zdX))->X (zDf n zdX)
section
variable {K:List PA->Prop}{n:Net}{zdX:Int}{X0:St->Prop}{P0:Int->Bool}{S0:Int->Bool}{zEW:Int}{zqz:Bool}
def zqA (S0:Int->Bool) (n:Net) (zEW:Int) (zqz:Bool):Bool :=
  (cond zqz
 false
 (S0 (w64 (zEW+(1:Int)))))
def zqB (P0:Int->Bool) (n:Net) (zEW:Int) (zqz:Bool):Bool :=
  (cond zqz
 true
 (P0 (w64 (zEW+(1:Int)))))
theorem zEX (hX0:zEV K n X0 P0 S0) (hs:zqB P0 n zEW zqz=true) (hk:K (e67 (zqA S0 n zEW zqz))):z67 K [1,0,1,0,0,1,1,0,0,1,1] [X0] ⟨[(1,zp 1 0),(6,zS enc_40 4 n.Ties),(7,zI (n.Ties.len:Int)),(8,zI zEW),(16,zB zqz)],[(1,.box 24 (zm (enc_24 n)))],[]⟩:=zaX (by kernel_rfl) (zc hs hk (λ hs hk=>hk) (λ hs hk=>(hX0 hs hk)))
def ziM (n:Net) (S0:Int->Bool) (zdX:Int):Bool :=
  (cond (decide (zdX < (n.Ties.len : Int)))
 (zqA S0 n zdX (!(s78 (n.Ties.get zdX.toNat) n.Nodes)))
 (cond (s81 n.Nodes (1:Int) (40:Int))
 (decide ((n.Ties.len:Int)≤(200:Int)))
 false))
def ziN (n:Net) (P0:Int->Bool) (zdX:Int):Bool :=
  (cond (decide (zdX < (n.Ties.len : Int)))
 (decide ((0≤zdX/\zdX < (n.Ties.len:Int))) &&
 (zqB P0 n zdX (!(s78 (n.Ties.get zdX.toNat) n.Nodes))))
 true)
def ziO (n:Net):Nat->Int->Bool:=lpO (λ _=>default) (ziM n)
def ziP (n:Net):Nat->Int->Bool:=lpO (λ _=>false) (ziN n)
def zwl (n:Net) (zdX:Int):Bool:=ziO n Fuel zdX
def zwm (n:Net) (zdX:Int):Bool:=ziP n Fuel zdX
theorem zEY (hs:zwm n zdX=true) (hk:K (e67 (zwl n zdX))):z67 K [1,0,1,0] [] (zDf n zdX) :=
  zl (λ X=>z67 K [1,0,1,0,0] [X]) (by kernel_rfl) λ X0 hX =>
  (show ∀ k, zEV K n X0 (ziP n k) (ziO n k) from zeU _ _ (ziN n) (ziM n) (zEV K n X0)
 (by intro _ hs;exact absurd hs dqk)
 (by intro P0 S0 hX0 zdX hs hk;exact hX _ (zaX (by kernel_rfl) (zc hs hk (λ hs hk=>(zaJ hs λ hc hs=>And.intro hc (zEX hX0 hs hk))) (λ hs hk=>(zt hk (λ hk=>hk) (λ hk=>hk))))))) _ hs hk
def s67 (n:Net):Bool :=
  (zwl n (0:Int))
def p67 (n:Net):Bool :=
  (zwm n (0:Int))
end
theorem q67 (n:Net) (K:List PA->Prop) (hs:p67 n=true) (hk:K (e67 (s67 n))):vcFun Tryd.prog G67 zBP 67 [.agg (enc_24 n)] K :=
  zaX (by kernel_rfl) (zEY hs hk)
def zuf : List PA → COut
  | [.agg [.int .i64 zae,.sl zad zau zac]]=>.det (IsE enc_40 4 zau zac/\p67 (⟨zae,(⟨zad,zak zac⟩:(Sl Tie))⟩:Net)=true) [.one (.bool (s67 (⟨zae,(⟨zad,zak zac⟩:(Sl Tie))⟩:Net)))]
  | [.agg [.int .i64 zae,.nils]]=>.det (p67 (⟨zae,(⟨0,λ _=>default⟩:(Sl Tie))⟩:Net)=true) [.one (.bool (s67 (⟨zae,(⟨0,λ _=>default⟩:(Sl Tie))⟩:Net)))]
  | _=>.no
theorem zJh:zas Tryd.prog 67:=⟨_,rfl,rfl,by kernel_rfl⟩
theorem zLx:Ok Tryd.prog 67 zuf:=zgc zLX zJh λ args K h=>by
  unfold zuf at h
  split at h
  · rename_i zae zad zau zac
    obtain⟨⟨⟨rfl,zal,rfl⟩,hs⟩,hk⟩:=h
    try rw[zaj zal] at hs
    try rw[zaj zal] at hk
    exact⟨_,zff zfg _,(λ _ _=>[]),(λ _=>false),zBP,q67 (⟨zae,(⟨zad,zal⟩:(Sl Tie))⟩:Net) (Wk K) hs (zfh hk)⟩
  · rename_i zae
    obtain⟨hs,hk⟩:=h
    exact⟨_,(zhq (.agg (zhq (.rfl _) (zhq (.nil _ _) zmC))) zmC),(λ _ _=>[]),(λ _=>false),zBP,q67 (⟨zae,(⟨0,λ _=>default⟩:(Sl Tie))⟩:Net) (Wk K) hs (zfh hk)⟩
  · exact h.elim
abbrev T93:Tabs:=Tabs.nil
theorem zLY:TabsOk Tryd.prog T93:=TabsOk.nil
abbrev G93:Ctrs:=csm T93 (λ _ _=>[]) (λ _=>false)
def zEZ:Ann:=⟨4,[(0,zK [1] [1]),(1,zK [2] [])],
 [],
 [],
 [],[]⟩
theorem zE0 (w : web) (K : List PA → Prop) :
  vcFun Tryd.prog G93 zEZ 93 [.one (.fp (zaC w) 0)] K =
  (K [.one (.fn 110 [] [.fp [.fp (zaC w) 0] 0])]):=by kernel_rfl
theorem q93 (w:web) (K:List PA->Prop) (hk:K [.one (.fn 110 [] [.fp [.fp (zaC w) 0] 0])]):vcFun Tryd.prog G93 zEZ 93 [.one (.fp (zaC w) 0)] K:=zaX (zE0 w K) hk
def zpi : List PA → COut
  | [.one (.fp [.int .i64 zaq,.sl zam zaH zan,.fm zbA zaK zaL] 0)]=>.det (IsE enc_40 4 zaH zan/\zbA=(false,1,false,[none])) [.one (.fn 110 [] [.fp [.fp (zaC (⟨(⟨(⟨zaq,(⟨zam,zak zan⟩:(Sl Tie))⟩:Net),(⟨zaK,zaL⟩:Mp)⟩:web).Net,((⟨(⟨zaq,(⟨zam,zak zan⟩:(Sl Tie))⟩:Net),(⟨zaK,zaL⟩:Mp)⟩:web).out)⟩:web)) 0] 0])]
  | _=>.no
theorem zJi:zas Tryd.prog 93:=⟨_,rfl,rfl,by kernel_rfl⟩
theorem zIo:Ok Tryd.prog 93 zpi:=zbv zLY zJi λ args K h=>by
  unfold zpi at h
  split at h
  · rename_i zaq zam zaH zan zbA zaK zaL
    obtain⟨⟨⟨rfl,zaz,rfl⟩,rfl⟩,hk⟩:=h
    try rw[zaj zaz] at hk
    exact⟨λ _ _=>[],λ _=>false,zEZ,q93 (⟨(⟨zaq,(⟨zam,zaz⟩:(Sl Tie))⟩:Net),(⟨zaK,zaL⟩:Mp)⟩:web) K hk⟩
  · exact h.elim
abbrev T94:Tabs:=Tabs.nil
theorem zLZ:TabsOk Tryd.prog T94:=TabsOk.nil
abbrev G94:Ctrs:=csm T94 (λ _ _=>[]) (λ _=>false)
def zJj:Ann:=⟨21,[(0,zK [1,2] [1,2]),(1,zK [2,3] [2])],
 [],
 [],
 [],[]⟩
abbrev R94:=(step×Bool)
abbrev e94 (r:R94):List PA:=[.agg [.int .i64 r.1.Use.Tie,.bool r.1.Use.Back,.int .i64 r.1.from_,.int .i64 r.1.to,.int .i64 r.1.length],.one (.bool r.2)]
section
variable {K:List PA->Prop}{t:tie}
def s94 (t:tie):(step×Bool) :=
  ((⟨(⟨t.index,false⟩:Use),t.Tie.From,t.Tie.To,t.Tie.High⟩:step),(t.Tie.High != (1000000000000:Int)))
end
theorem q94 (t:tie) (K:List PA->Prop) (hk:K (e94 (s94 t))):vcFun Tryd.prog G94 zJj 94 [.agg (zqw t)] K :=
  zaX (by kernel_rfl) hk
def zBQ : List PA → COut
  | [.agg [.int .i64 zbc,.int .i64 zbL,.int .i64 zbw,.int .i64 zbd,.int .i64 zb4]]=>.tot [.agg [.int .i64 (((s94 (⟨(⟨zbc,zbL,zbw,zbd⟩:Tie),zb4⟩:tie)).1).Use.Tie),.bool (((s94 (⟨(⟨zbc,zbL,zbw,zbd⟩:Tie),zb4⟩:tie)).1).Use.Back),.int .i64 (((s94 (⟨(⟨zbc,zbL,zbw,zbd⟩:Tie),zb4⟩:tie)).1).from_),.int .i64 (((s94 (⟨(⟨zbc,zbL,zbw,zbd⟩:Tie),zb4⟩:tie)).1).to),.int .i64 (((s94 (⟨(⟨zbc,zbL,zbw,zbd⟩:Tie),zb4⟩:tie)).1).length)],.one (.bool ((s94 (⟨(⟨zbc,zbL,zbw,zbd⟩:Tie),zb4⟩:tie)).2))]
  | _=>.no
theorem zJk:zas Tryd.prog 94:=⟨_,rfl,rfl,by kernel_rfl⟩
theorem zNk:Ok Tryd.prog 94 zBQ:=zbv zLZ zJk λ args K h=>by
  unfold zBQ at h
  split at h
  · rename_i zbc zbL zbw zbd zb4
    have hk:=h
    exact⟨(λ _ _=>[]),(λ _=>false),zJj,q94 (⟨(⟨zbc,zbL,zbw,zbd⟩:Tie),zb4⟩:tie) K hk⟩
  · exact h.elim
abbrev T95:Tabs:=Tabs.nil
theorem zL0:TabsOk Tryd.prog T95:=TabsOk.nil
abbrev G95:Ctrs:=csm T95 (λ _ _=>[]) (λ _=>false)
def zJl:Ann:=⟨22,[(0,zK [1,2] [1,2]),(1,zK [2,3] [2])],
 [],
 [],
 [],[]⟩
abbrev R95:=(step×Bool)
abbrev e95 (r:R95):List PA:=[.agg [.int .i64 r.1.Use.Tie,.bool r.1.Use.Back,.int .i64 r.1.from_,.int .i64 r.1.to,.int .i64 r.1.length],.one (.bool r.2)]
section
variable {K:List PA->Prop}{t:tie}
def s95 (t:tie):(step×Bool) :=
  ((⟨(⟨t.index,true⟩:Use),t.Tie.To,t.Tie.From,(w64 (0 - t.Tie.Low))⟩:step),(t.Tie.Low != (-1000000000000:Int)))
end
theorem q95 (t:tie) (K:List PA->Prop) (hk:K (e95 (s95 t))):vcFun Tryd.prog G95 zJl 95 [.agg (zqw t)] K :=
  zaX (by kernel_rfl) hk
def zBR : List PA → COut
  | [.agg [.int .i64 zbc,.int .i64 zbL,.int .i64 zbw,.int .i64 zbd,.int .i64 zb4]]=>.tot [.agg [.int .i64 (((s95 (⟨(⟨zbc,zbL,zbw,zbd⟩:Tie),zb4⟩:tie)).1).Use.Tie),.bool (((s95 (⟨(⟨zbc,zbL,zbw,zbd⟩:Tie),zb4⟩:tie)).1).Use.Back),.int .i64 (((s95 (⟨(⟨zbc,zbL,zbw,zbd⟩:Tie),zb4⟩:tie)).1).from_),.int .i64 (((s95 (⟨(⟨zbc,zbL,zbw,zbd⟩:Tie),zb4⟩:tie)).1).to),.int .i64 (((s95 (⟨(⟨zbc,zbL,zbw,zbd⟩:Tie),zb4⟩:tie)).1).length)],.one (.bool ((s95 (⟨(⟨zbc,zbL,zbw,zbd⟩:Tie),zb4⟩:tie)).2))]
  | _=>.no
theorem zJm:zas Tryd.prog 95:=⟨_,rfl,rfl,by kernel_rfl⟩
theorem zNl:Ok Tryd.prog 95 zBR:=zbv zL0 zJm λ args K h=>by
  unfold zBR at h
  split at h
  · rename_i zbc zbL zbw zbd zb4
    have hk:=h
    exact⟨(λ _ _=>[]),(λ _=>false),zJl,q95 (⟨(⟨zbc,zbL,zbw,zbd⟩:Tie),zb4⟩:tie) K hk⟩
  · exact h.elim
abbrev zNm:Tabs:=((Tabs.nil.addF 94 zBQ).addF 95 zBR)
theorem zJn:TabsOk Tryd.prog zNm:=((TabsOk.nil.addF zNk).addF zNl)
abbrev zJo:Ctrs:=csm zNm (λ _ _=>[]) (λ _=>false)
def zjL:Ann:=⟨52,[(0,zK [0,1,14,15,16] []),(1,zK [0,1,14,15,16,17] []),(2,zK [0,1,3,4,14,15,16] [4]),(3,zK [0,1,3,4,14,15,16,26] [4]),(4,zK [0,1,5,14,15,16] [5]),(5,zK [0,1,14,15,16,34,35] []),(6,zK [0,1,14,15,16,34,35,36] []),(7,zK [0,1,7,14,15,16,34,35] []),(8,zK [0,1,8,9,14,15,16,34,35] [8]),(9,zK [0,1,14,15,16,34,35,49] []),(10,zK [0,1,14,15,16,34,35] []),(11,zK [0,1,14,15,16] [])],
 [(1,zK [0,1,14,15,16] [])],
 [],
 [(6,3,zK [0,1,14,15,16,34,35] [])],[9]⟩
def zeg (l:Nat) (a:web) (zaG:Int):St:=⟨[(0,.one (.c (.p (.yl l)))),(1,.one (.c (.p (.fp [.fp (zaC a) 0] 0)))),(14,.one (.c (.p (.sl a.Net.Ties.len 4 (λ i=>enc_40 (a.Net.Ties.get i)))))),(15,.one (.c (.p (.int .i64 (a.Net.Ties.len:Int))))),(16,.one (.c (.p (.int .i64 zaG))))],[],[]⟩
def zij (l:Nat) (ys:List (List PA)) (a:web) (zaG:Int):Prop:=vcY Tryd.prog zJo zjL l (cdF Tryd.f110 [1,0]) (zoy 0 zA1) ys false (zeg l a zaG)
theorem zBS (l : Nat) (a : web) (ys : List (List PA)) :
  vcIter Tryd.prog zJo zjL 110 l [.one (.fp [.fp (zaC a) 0] 0)] ys =
  (zij l ys a (0:Int)):=by kernel_rfl
def zmD (l:Nat) (X0:List (List PA)->Bool->St->Prop) (ys:List (List PA)) (a:web) (zaG:Int):Prop :=
  (zdM (decide (zaG < (a.Net.Ties.len : Int)))
 (((0≤zaG/\zaG < (a.Net.Ties.len:Int))) /\
 (zdM ((ztF (a.out.F [zaG]) 0) != 0)
 (X0 ys false (zeg l a (w64 (zaG+(1:Int)))))
 (zdM ((s94 (⟨(a.Net.Ties.get zaG.toNat), zaG⟩ : tie)).2)
 (l=l/\∃ r1,ys=[.agg [.int .i64 (((s94 (⟨(a.Net.Ties.get zaG.toNat),zaG⟩:tie)).1).Use.Tie),.bool (((s94 (⟨(a.Net.Ties.get zaG.toNat),zaG⟩:tie)).1).Use.Back),.int .i64 (((s94 (⟨(a.Net.Ties.get zaG.toNat),zaG⟩:tie)).1).from_),.int .i64 (((s94 (⟨(a.Net.Ties.get zaG.toNat),zaG⟩:tie)).1).to),.int .i64 (((s94 (⟨(a.Net.Ties.get zaG.toNat),zaG⟩:tie)).1).length)]] :: r1 /\
 (zdM ((s95 (⟨(a.Net.Ties.get zaG.toNat), zaG⟩ : tie)).2)
 (l=l/\∃ r2,r1=[.agg [.int .i64 (((s95 (⟨(a.Net.Ties.get zaG.toNat),zaG⟩:tie)).1).Use.Tie),.bool (((s95 (⟨(a.Net.Ties.get zaG.toNat),zaG⟩:tie)).1).Use.Back),.int .i64 (((s95 (⟨(a.Net.Ties.get zaG.toNat),zaG⟩:tie)).1).from_),.int .i64 (((s95 (⟨(a.Net.Ties.get zaG.toNat),zaG⟩:tie)).1).to),.int .i64 (((s95 (⟨(a.Net.Ties.get zaG.toNat),zaG⟩:tie)).1).length)]] :: r2 /\
 (X0 r2 false (zeg l a (w64 (zaG+(1:Int)))))/\True)
 (X0 r1 false (zeg l a (w64 (zaG+(1:Int))))))/\True)
 (zdM ((s95 (⟨(a.Net.Ties.get zaG.toNat), zaG⟩ : tie)).2)
 (l=l/\∃ r3,ys=[.agg [.int .i64 (((s95 (⟨(a.Net.Ties.get zaG.toNat),zaG⟩:tie)).1).Use.Tie),.bool (((s95 (⟨(a.Net.Ties.get zaG.toNat),zaG⟩:tie)).1).Use.Back),.int .i64 (((s95 (⟨(a.Net.Ties.get zaG.toNat),zaG⟩:tie)).1).from_),.int .i64 (((s95 (⟨(a.Net.Ties.get zaG.toNat),zaG⟩:tie)).1).to),.int .i64 (((s95 (⟨(a.Net.Ties.get zaG.toNat),zaG⟩:tie)).1).length)]] :: r3 /\
 (X0 r3 false (zeg l a (w64 (zaG+(1:Int)))))/\True)
 (X0 ys false (zeg l a (w64 (zaG+(1:Int)))))))))
 (ys=[]))
theorem zpj (l : Nat) (X0 : List (List PA) → Bool → St → Prop) (ys : List (List PA)) (a : web) (zaG : Int) :
  vcY Tryd.prog zJo zjL l (cd (cdF Tryd.f110 [1,0]) [0]) (zAZ Tryd.prog zjL 1 X0 (zoy 0 zA1)) ys false (zeg l a zaG) =
  zmD l X0 ys a zaG:=by kernel_rfl
theorem zug (l : Nat) (ys : List (List PA)) (a : web) (zaG : Int)
  (h:∀ X0:List (List PA)->Bool->St->Prop,(∀ (ys:List (List PA)) (zaG:Int),zmD l X0 ys a zaG->X0 ys false (zeg l a zaG))->X0 ys false (zeg l a zaG)) :
  zij l ys a zaG:=by
  have e:zij l ys a zaG=(∀ X:List (List PA)->Bool->St->Prop,(∀ ys q s,vcY Tryd.prog zJo zjL l (cd (cdF Tryd.f110 [1,0]) [0]) (zAZ Tryd.prog zjL 1 X (zoy 0 zA1)) ys q s->X ys q s)->X ys false (zeg l a zaG)):=by kernel_rfl
  refine zaX e ?_
  intro X hX
  refine h X ?_
  intro ys zaG hs
  refine hX _ _ _ ?_
  have e2:=zpj l X ys a zaG
  rw[e2]
  exact hs
attribute [irreducible] zij
def zfC (a:web) (S0:Int->List step) (zaG:Int):List step :=
  (cond (decide (zaG < (a.Net.Ties.len : Int)))
 (cond ((ztF (a.out.F [zaG]) 0) != 0)
 (S0 (w64 (zaG+(1:Int))))
 (cond ((s94 (⟨(a.Net.Ties.get zaG.toNat), zaG⟩ : tie)).2)
 (((s94 (⟨(a.Net.Ties.get zaG.toNat), zaG⟩ : tie)).1) :: (cond ((s95 (⟨(a.Net.Ties.get zaG.toNat), zaG⟩ : tie)).2)
 (((s95 (⟨(a.Net.Ties.get zaG.toNat),zaG⟩:tie)).1) :: (S0 (w64 (zaG+(1:Int)))))
 (S0 (w64 (zaG+(1:Int))))))
 (cond ((s95 (⟨(a.Net.Ties.get zaG.toNat), zaG⟩ : tie)).2)
 (((s95 (⟨(a.Net.Ties.get zaG.toNat),zaG⟩:tie)).1) :: (S0 (w64 (zaG+(1:Int)))))
 (S0 (w64 (zaG+(1:Int)))))))
 [])
def zfD (a:web) (P0:Int->Bool) (zaG:Int):Bool :=
  (cond (decide (zaG < (a.Net.Ties.len : Int)))
 (decide ((0≤zaG/\zaG < (a.Net.Ties.len:Int))) &&
 (cond ((ztF (a.out.F [zaG]) 0) != 0)
 (P0 (w64 (zaG+(1:Int))))
 (cond ((s94 (⟨(a.Net.Ties.get zaG.toNat), zaG⟩ : tie)).2)
 (cond ((s95 (⟨(a.Net.Ties.get zaG.toNat), zaG⟩ : tie)).2)
 (P0 (w64 (zaG+(1:Int))))
 (P0 (w64 (zaG+(1:Int)))))
 (cond ((s95 (⟨(a.Net.Ties.get zaG.toNat), zaG⟩ : tie)).2)
 (P0 (w64 (zaG+(1:Int))))
 (P0 (w64 (zaG+(1:Int))))))))
 true)
def zeH (a : web) : Nat → Int → List step
  | 0=>λ _=>[]
  | k+1=>zfC a (zeH a k)
def zeI (a : web) : Nat → Int → Bool
  | 0=>λ _=>false
  | k+1=>zfD a (zeI a k)
def zta (a:web) (zaG:Int):List step:=zeH a Fuel zaG
def ztb (a:web) (zaG:Int):Bool:=zeI a Fuel zaG
theorem zBT (l:Nat) (a:web) (ys:List (List PA)) (zaG:Int) (hs:ztb a zaG=true) (hk:ys=(zta a zaG).map (λ y=>[.agg (zaA y)])):zij l ys a zaG:=by
  refine zug l ys a zaG ?_
  intro X0 hstep
  have key:∀ (k:Nat) (ys:List (List PA)) (zaG:Int),zeI a k zaG=true->ys=(zeH a k zaG).map (λ y=>[.agg (zaA y)])->X0 ys false (zeg l a zaG):=by
    intro k
    induction k with
    | zero=>intro ys zaG hs;exact absurd hs dqk
    | succ k ih =>
      intro ys zaG hs hk
      refine hstep ys zaG ?_
      have hs:zfD a (zeI a k) zaG=true:=hs
      have hk:ys=(zfC a (zeH a k) zaG).map (λ y=>[.agg (zaA y)]):=hk
      unfold zfD at hs
      unfold zfC at hk
      generalize zeH a k=S0 at hk ih
      generalize zeI a k=P0 at hs ih
      have hX0:=ih
      exact (zih hs hk
 (λ hs hk => (zaJ hs λ hc hs => ⟨hc, (zih hs hk
 (λ hs hk=>(hX0 _ (w64 (zaG+(1:Int))) hs hk))
 (λ hs hk => (zih hs hk
 (λ hs hk => (itY hk rfl (λ _ hk => (zih hs hk
 (λ hs hk=>(itY hk rfl (λ _ hk=>(hX0 _ (w64 (zaG+(1:Int))) hs hk))))
 (λ hs hk=>(hX0 _ (w64 (zaG+(1:Int))) hs hk))))))
 (λ hs hk => (zih hs hk
 (λ hs hk=>(itY hk rfl (λ _ hk=>(hX0 _ (w64 (zaG+(1:Int))) hs hk))))
 (λ hs hk=>(hX0 _ (w64 (zaG+(1:Int))) hs hk)))))))⟩))
 (fun hs hk=>hk))
  exact key _ _ zaG hs hk
def zlr (a:web):List step :=
  (zta a (0:Int))
def zuA (a:web):Bool :=
  (ztb a (0:Int))
theorem zNQ (l:Nat) (a:web) (ys:List (List PA)) (hs:zuA a=true) (hk:ys=(zlr a).map (λ y=>[.agg (zaA y)])):vcIter Tryd.prog zJo zjL 110 l [.one (.fp [.fp (zaC a) 0] 0)] ys:=by
  refine zaX (zBS l a ys) ?_
  unfold zuA at hs
  unfold zlr at hk
  exact (zBT l a _ (0:Int) hs hk)
def zpk : List PA → Option (Prop × List (List PA))
  | [.one (.fp [.fp [.int .i64 a_Net_Nodes,.sl a_Net_Ties_n a_Net_Ties_s a_Net_Ties_g,.fm a_out_q a_out_n a_out_F] 0] 0)]=>some (IsE enc_40 4 a_Net_Ties_s a_Net_Ties_g/\a_out_q=(false,1,false,[none])/\zuA (⟨(⟨a_Net_Nodes,(⟨a_Net_Ties_n,zak a_Net_Ties_g⟩:(Sl Tie))⟩:Net),(⟨a_out_n,a_out_F⟩:Mp)⟩:web)=true,(zlr (⟨(⟨a_Net_Nodes,(⟨a_Net_Ties_n,zak a_Net_Ties_g⟩:(Sl Tie))⟩:Net),(⟨a_out_n,a_out_F⟩:Mp)⟩:web)).map λ y=>[.agg (zaA y)])
  | _=>none
theorem zE1:zas Tryd.prog 110:=⟨_,rfl,rfl,by kernel_rfl⟩
theorem zuh:zCX Tryd.prog 110 zpk:=zI1 zJn zE1 λ l caps safe ys h hs=>by
  unfold zpk at h
  split at h
  · rename_i a_Net_Nodes a_Net_Ties_n a_Net_Ties_s a_Net_Ties_g a_out_q a_out_n a_out_F
    cases h
    obtain⟨⟨rfl,a_Net_Ties_f,rfl⟩,rfl,hs⟩:=hs
    try rw[zaj a_Net_Ties_f] at hs
    try rw[zaj a_Net_Ties_f]
    exact⟨λ _ _=>[],λ _=>false,zjL,zNQ l (⟨(⟨a_Net_Nodes,(⟨a_Net_Ties_n,a_Net_Ties_f⟩:(Sl Tie))⟩:Net),(⟨a_out_n,a_out_F⟩:Mp)⟩:web) _ hs rfl⟩
  · cases h
abbrev T88:Tabs:=((Tabs.nil.addF 93 zpi).addI 110 zpk)
theorem zL1:TabsOk Tryd.prog T88:=((TabsOk.nil.addF zIo).addI zuh)
abbrev G88:Ctrs:=csm T88 (λ _ _=>[]) (λ _=>false)
def zwn:Ann:=⟨37,[(0,zK [0] []),(1,zK [0,3] [3]),(2,zK [0,3,11,12] [3]),(3,zK [0,3,11,12,13] [3]),(4,zK [0,3,4,11,12] [3,4]),(5,zK [0,3,4,11,12,15] [3,4]),(6,zK [0,3,4,5,11,12,15] [3,4,5]),(7,zK [0,3,4,5,6,11,12,15] [3,4,5]),(8,zK [0,3,4,5,6,11,12,15,29] [3,4,5]),(9,zK [0,3,4,11,12,15] [3,4]),(10,zK [0,3,4,11,12,15] [3,4]),(11,zK [0,3,11,12,35] [3]),(12,zK [2] []),(13,zK [0,3,11,12] [3]),(14,zK [2] [])],
 [(3,zK [0,3,11,12] [3]),(6,zK [0,3,4,11,12,15] [3,4])],
 [],
 [],[]⟩
abbrev R88:=Bool
abbrev e88 (r:R88):List PA:=[.one (.bool r)]
@[irreducible] def z88:=ptF Tryd.prog G88 zwn Tryd.f88
@[irreducible] def x88:=exF Tryd.prog G88 zwn Tryd.f88
@[irreducible] def y88:=rnF Tryd.prog G88 zwn Tryd.f88
def zDg (w:web) (zcg:Int) (dt0:Tab):St:=⟨[(0,zP (.fp (zaC w) 0)),(3,zp 3 0),(11,zI w.Net.Nodes),(12,zI zcg)],[(3,.box 157 (zm (zwh dt0)))],[]⟩
abbrev zE2 (K:List PA->Prop) (w:web) (X:St->Prop) (P:Int->Tab->Bool) (S:Int->Tab->Bool):Prop:=∀ ⦃zcg:Int⦄ ⦃dt0:Tab⦄,P zcg dt0=true->K (e88 (S zcg dt0))->X (zDg w zcg dt0)
def zwo (w:web) (zch:Int) (zba:Bool) (dt1:Tab):St:=⟨[(0,zP (.fp (zaC w) 0)),(3,zp 3 0),(4,zp 4 0),(11,zI w.Net.Nodes),(12,zI zch),(15,zP (.fn 110 [] [.fp [.fp (zaC w) 0] 0]))],[(3,.box 157 (zm (zwh dt1))),(4,.box 4 [.p (.bool zba)])],[]⟩
abbrev zJp (K:List PA->Prop) (w:web) (X:St->Prop) (P:Int->Bool->Tab->Bool) (S:Int->Bool->Tab->Bool):Prop:=∀ ⦃zch:Int⦄ ⦃zba:Bool⦄ ⦃dt1:Tab⦄,P zch zba dt1=true->K (e88 (S zch zba dt1))->X (zwo w zch zba dt1)
section
variable {K:List PA->Prop}{w:web}{zcg:Int}{dt0:Tab}{X0:St->Prop}{P0:Int->Tab->Bool}{S0:Int->Tab->Bool}{zch:Int}{zba:Bool}{dt1:Tab}
def zny (S0:Int->Tab->Bool) (w:web) (zch:Int) (zba:Bool) (dt1:Tab):Bool :=
  (cond (!zba)
 false
 (S0 (w64 (zch+(1:Int))) dt1))
def znz (P0:Int->Tab->Bool) (w:web) (zch:Int) (zba:Bool) (dt1:Tab):Bool :=
  (cond (!zba)
 true
 (P0 (w64 (zch+(1:Int))) dt1))
def znA (S0:Int->Tab->Bool) (w:web) (y1:step) (S1:Int->Bool->Tab->Bool) (zch:Int) (zba:Bool) (dt1:Tab):Bool :=
  (cond (decide ((w64 ((tg 40 dt1 (0 + y1.from_.toNat * 1 + 0)) + y1.length)) < (tg 40 dt1 (0 + y1.to.toNat * 1 + 0))))
 (S1 zch true (ts 40 dt1 (0+y1.to.toNat * 1+0) [(w64 ((tg 40 dt1 (0+y1.from_.toNat * 1+0))+y1.length))]))
 (S1 zch zba dt1))
def znB (P0:Int->Tab->Bool) (w:web) (y1:step) (P1:Int->Bool->Tab->Bool) (zch:Int) (zba:Bool) (dt1:Tab):Bool :=
  (decide ((0≤y1.from_/\y1.from_ < (40:Int))) &&
 (decide ((0≤y1.to/\y1.to < (40:Int))) &&
 (cond (decide ((w64 ((tg 40 dt1 (0 + y1.from_.toNat * 1 + 0)) + y1.length)) < (tg 40 dt1 (0 + y1.to.toNat * 1 + 0))))
 (decide ((0≤y1.to/\y1.to < (40:Int))) &&
 (P1 zch true (ts 40 dt1 (0+y1.to.toNat * 1+0) [(w64 ((tg 40 dt1 (0+y1.from_.toNat * 1+0))+y1.length))])))
 (P1 zch zba dt1))))
def zge (S0:Int->Tab->Bool) (w:web):List step->Int->Bool->Tab->Bool:=lpR (zny S0 w) (znA S0 w)
def zgf (P0:Int->Tab->Bool) (w:web):List step->Int->Bool->Tab->Bool:=lpR (znz P0 w) (znB P0 w)
def zqC (S0:Int->Tab->Bool) (w:web) (zch:Int) (zba:Bool) (dt1:Tab):Bool:=zge S0 w (zlr w) zch zba dt1
def zqD (P0:Int->Tab->Bool) (w:web) (zch:Int) (zba:Bool) (dt1:Tab):Bool:=decide ((zuA w=true)) && zgf P0 w (zlr w) zch zba dt1
theorem zE3 (hX0:zE2 K w X0 P0 S0) (hs:zqD P0 w zch zba dt1=true) (hk:K (e88 (zqC S0 w zch zba dt1))):z88 K [1,1,0,1,0,0,1,1,0,0,1,0,1,0] [X0] (zwo w zch zba dt1) :=
  zaJ hs λ hc hs=>zr (enc:=(λ y:step=>[.agg (zaA y)])) (ys:=zlr w) (g:=(zwo w zch zba dt1)) (x88 K [1,1,0,1,0,0,1,1,0,0,1,0,1,0] [X0]) (y88 K [1,1,0,1,0,0,1,1,0,0,1,0,1,0] [X0]) (by kernel_rfl) (And.intro (zE enc_40 4 w.Net.Ties.get) (And.intro (rfl:((false,1,false,[none]):MQ)=(false,1,false,[none])) hc)) λ X1 hE hR =>
  (show ∀ l : List step, zJp K w (X1 (l.map (λ y : step => [.agg (zaA y)]))) (zgf P0 w l) (zge S0 w l) from zri (X := X1) (enc := (λ y : step => [.agg (zaA y)])) _ _ (znB P0 w) (znA S0 w) (λ Z P S => zJp K w Z P S)
 (by intro zch zba dt1 hs hk;exact hE _ (zaX (by kernel_rfl) (zc hs hk (λ hs hk=>hk) (λ hs hk=>(hX0 hs hk)))))
 (by intro y1 rest P1 S1 hX1 zch zba dt1 hs hk;exact hR _ rest _ (zaX (by kernel_rfl) (zaJ hs λ hc hs=>And.intro hc (zaJ hs λ hc hs=>And.intro hc (zc hs hk (λ hs hk=>(zaJ hs λ hc hs=>And.intro hc (hX1 hs hk))) (λ hs hk=>(hX1 hs hk)))))))) _ hs hk
def ziQ (w:web) (S0:Int->Tab->Bool) (zcg:Int) (dt0:Tab):Bool :=
  (cond (decide (zcg < w.Net.Nodes))
 (zqC S0 w zcg false dt0)
 true)
def ziR (w:web) (P0:Int->Tab->Bool) (zcg:Int) (dt0:Tab):Bool :=
  (cond (decide (zcg < w.Net.Nodes))
 (zqD P0 w zcg false dt0)
 true)
def ziS (w:web):Nat->Int->Tab->Bool:=lpO (λ _ _=>default) (ziQ w)
def ziT (w:web):Nat->Int->Tab->Bool:=lpO (λ _ _=>false) (ziR w)
def zwp (w:web) (zcg:Int) (dt0:Tab):Bool:=ziS w Fuel zcg dt0
def zwq (w:web) (zcg:Int) (dt0:Tab):Bool:=ziT w Fuel zcg dt0
theorem zE4 (hs:zwq w zcg dt0=true) (hk:K (e88 (zwp w zcg dt0))):z88 K [1,1,0,1,0] [] (zDg w zcg dt0) :=
  zl (λ X=>z88 K [1,1,0,1,0,0] [X]) (by kernel_rfl) λ X0 hX =>
  (show ∀ k, zE2 K w X0 (ziT w k) (ziS w k) from zeU _ _ (ziR w) (ziQ w) (zE2 K w X0)
 (by intro _ _ hs;exact absurd hs dqk)
 (by intro P0 S0 hX0 zcg dt0 hs hk;exact hX _ (zaX (by kernel_rfl) (zc hs hk (λ hs hk=>(And.intro (And.intro (zE enc_40 4 w.Net.Ties.get) (rfl:((false,1,false,[none]):MQ)=(false,1,false,[none]))) (zE3 hX0 hs hk))) (λ hs hk=>hk))))) _ hs hk
def s88 (w:web):Bool :=
  (zwp w (0:Int) (λ _=>(0:Int)))
def p88 (w:web):Bool :=
  (zwq w (0:Int) (λ _=>(0:Int)))
end
theorem q88 (w:web) (K:List PA->Prop) (hs:p88 w=true) (hk:K (e88 (s88 w))):vcFun Tryd.prog G88 zwn 88 [.one (.fp (zaC w) 0)] K :=
  zaX (by kernel_rfl) (zE4 hs hk)
def zwr : List PA → COut
  | [.one (.fp [.int .i64 zaq,.sl zam zaH zan,.fm zbA zaK zaL] 0)]=>.det (IsE enc_40 4 zaH zan/\zbA=(false,1,false,[none])/\p88 (⟨(⟨zaq,(⟨zam,zak zan⟩:(Sl Tie))⟩:Net),(⟨zaK,zaL⟩:Mp)⟩:web)=true) [.one (.bool (s88 (⟨(⟨zaq,(⟨zam,zak zan⟩:(Sl Tie))⟩:Net),(⟨zaK,zaL⟩:Mp)⟩:web)))]
  | _=>.no
theorem zJq:zas Tryd.prog 88:=⟨_,rfl,rfl,by kernel_rfl⟩
theorem zL2:Ok Tryd.prog 88 zwr:=zbv zL1 zJq λ args K h=>by
  unfold zwr at h
  split at h
  · rename_i zaq zam zaH zan zbA zaK zaL
    obtain⟨⟨⟨rfl,zaz,rfl⟩,rfl,hs⟩,hk⟩:=h
    try rw[zaj zaz] at hs
    try rw[zaj zaz] at hk
    exact⟨(λ _ _=>[]),(λ _=>false),zwn,q88 (⟨(⟨zaq,(⟨zam,zaz⟩:(Sl Tie))⟩:Net),(⟨zaK,zaL⟩:Mp)⟩:web) K hs hk⟩
  · exact h.elim
abbrev zNn:Tabs:=Tabs.nil
theorem zJr:TabsOk Tryd.prog zNn:=TabsOk.nil
abbrev zNR:Ctrs:=csm zNn (λ _ _=>[]) (λ _=>false)
def zDh:Ann:=⟨24,[(0,zK [2,3] [2,3]),(1,zK [4] [])],
 [],
 [],
 [],[]⟩
abbrev zNS:=Bool
abbrev zNT (r:zNS):List PA:=[.one (.bool r)]
section
variable {K:List PA->Prop}{a:far}{b:far}
def zBU (a:far) (b:far):Bool :=
  (cond (decide (a.length < b.length))
 true
 (cond (a.length == b.length)
 (decide (a.uses < b.uses))
 false))
end
theorem zNU (a:far) (b:far) (K:List PA->Prop) (hk:K (zNT (zBU a b))):vcFun Tryd.prog zNR zDh 105 [.agg (zcq a),.agg (zcq b)] K :=
  zaX (by kernel_rfl) (zt hk (λ hk=>hk) (λ hk=>(zt hk (λ hk=>hk) (λ hk=>hk))))
def zwt : List PA → COut
  | [.agg [.int .i64 zct,.int .i64 zqE],.agg [.int .i64 zb5,.int .i64 zfE]]=>.tot [.one (.bool (zBU (⟨zct,zqE⟩:far) (⟨zb5,zfE⟩:far)))]
  | _=>.no
theorem zE5:zas Tryd.prog 105:=⟨_,rfl,rfl,by kernel_rfl⟩
theorem zL3:Ok Tryd.prog 105 zwt:=zbv zJr zE5 λ args K h=>by
  unfold zwt at h
  split at h
  · rename_i zct zqE zb5 zfE
    have hk:=h
    exact⟨(λ _ _=>[]),(λ _=>false),zDh,zNU (⟨zct,zqE⟩:far) (⟨zb5,zfE⟩:far) K hk⟩
  · exact h.elim
abbrev zNo:Tabs:=(Tabs.nil.addF 105 zwt)
theorem zJs:TabsOk Tryd.prog zNo:=(TabsOk.nil.addF zL3)
abbrev zNp:Ctrs:=csm zNo (λ _ _=>[]) (λ _=>false)
def zwu:Ann:=⟨22,[(0,zK [0,2,4,6] [4,6]),(1,zK [0,4,6,9,10,11] [4,6]),(2,zK [0,4,6,9,10,11,12] [4,6]),(3,zK [0,4,6,8,9,10,11] [4,6,8]),(4,zK [0,4,6,8,9,10,11,18] [4,6,8]),(5,zK [0,4,6,9,10,11] [4,6]),(6,zK [0,4,6,9,10,11] [4,6]),(7,zK [6] [6])],
 [(2,zK [0,4,6,9,10,11] [4,6])],
 [(5,zK [0,4,6,8,9,10,11,18] [4,6,8])],
 [],[]⟩
abbrev zNV:=far
abbrev zLy (r:zNV):List PA:=[.agg [.int .i64 r.length,.int .i64 r.uses]]
@[irreducible] def z104:=ptF Tryd.prog zNp zwu Tryd.f104
def zwv (others:(Sl far)) (zaT:Int) (zbm:Int) (zbn:Int):St:=⟨[(0,zP (.fn 105 [] [])),(4,zp 4 0),(6,zp 6 0),(9,zS zcq 2 others),(10,zI (others.len:Int)),(11,zI zaT)],[(4,.box 114 (zm (zcq (⟨zbm,zbn⟩:far)))),(6,.box 114 (zm (zcq (⟨(0:Int),(0:Int)⟩:far))))],[]⟩
abbrev zww (K:List PA->Prop) (others:(Sl far)) (X:St->Prop) (P:Int->Int->Int->Bool) (S:Int->Int->Int->far):Prop:=∀ ⦃zaT:Int⦄ ⦃zbm:Int⦄ ⦃zbn:Int⦄,P zaT zbm zbn=true->K (zLy (S zaT zbm zbn))->X (zwv others zaT zbm zbn)
section
variable {K:List PA->Prop}{first:far}{others:(Sl far)}{zaT:Int}{zbm:Int}{zbn:Int}{X0:St->Prop}{P0:Int->Int->Int->Bool}{S0:Int->Int->Int->far}{zcP:Int}{zdi:Bool}{zeh:Int}{zei:Int}{zqF:Int}{zqG:Int}
def znC (S0:Int->Int->Int->far) (others:(Sl far)) (zcP:Int) (zdi:Bool) (zeh:Int) (zei:Int) (zqF:Int) (zqG:Int):far :=
  (cond zdi
 (S0 (w64 (zcP+(1:Int))) zqF zqG)
 (S0 (w64 (zcP+(1:Int))) zeh zei))
def znD (P0:Int->Int->Int->Bool) (others:(Sl far)) (zcP:Int) (zdi:Bool) (zeh:Int) (zei:Int) (zqF:Int) (zqG:Int):Bool :=
  (cond zdi
 (P0 (w64 (zcP+(1:Int))) zqF zqG)
 (P0 (w64 (zcP+(1:Int))) zeh zei))
theorem zBV (hX0:zww K others X0 P0 S0) (hs:znD P0 others zcP zdi zeh zei zqF zqG=true) (hk:K (zLy (znC S0 others zcP zdi zeh zei zqF zqG))):z104 K [1,0,1,0,0,1,1,0,0,1,1] [X0] ⟨[(0,zP (.fn 105 [] [])),(4,zp 4 0),(6,zp 6 0),(8,zp 8 0),(9,zS zcq 2 others),(10,zI (others.len:Int)),(11,zI zcP),(18,zB zdi)],[(4,.box 114 (zm (zcq (⟨zeh,zei⟩:far)))),(6,.box 114 (zm (zcq (⟨(0:Int),(0:Int)⟩:far)))),(8,.box 114 (zm (zcq (⟨zqF,zqG⟩:far))))],[]⟩:=zaX (by kernel_rfl) (zc hs hk (λ hs hk=>(hX0 hs hk)) (λ hs hk=>(hX0 hs hk)))
def zgW (others:(Sl far)) (S0:Int->Int->Int->far) (zaT:Int) (zbm:Int) (zbn:Int):far :=
  (cond (decide (zaT < (others.len : Int)))
 (znC S0 others zaT (zBU (others.get zaT.toNat) (⟨zbm,zbn⟩:far)) zbm zbn ((others.get zaT.toNat).length) ((others.get zaT.toNat).uses))
 (⟨zbm,zbn⟩:far))
def zgX (others:(Sl far)) (P0:Int->Int->Int->Bool) (zaT:Int) (zbm:Int) (zbn:Int):Bool :=
  (cond (decide (zaT < (others.len : Int)))
 (decide ((0≤zaT/\zaT < (others.len:Int))) &&
 (znD P0 others zaT (zBU (others.get zaT.toNat) (⟨zbm,zbn⟩:far)) zbm zbn ((others.get zaT.toNat).length) ((others.get zaT.toNat).uses)))
 true)
def zgY (others:(Sl far)):Nat->Int->Int->Int->far:=lpO (λ _ _ _=>default) (zgW others)
def zgZ (others:(Sl far)):Nat->Int->Int->Int->Bool:=lpO (λ _ _ _=>false) (zgX others)
def znE (others:(Sl far)) (zaT:Int) (zbm:Int) (zbn:Int):far:=zgY others Fuel zaT zbm zbn
def znF (others:(Sl far)) (zaT:Int) (zbm:Int) (zbn:Int):Bool:=zgZ others Fuel zaT zbm zbn
theorem zBW (hs:znF others zaT zbm zbn=true) (hk:K (zLy (znE others zaT zbm zbn))):z104 K [1,0,1,0] [] (zwv others zaT zbm zbn) :=
  zl (λ X=>z104 K [1,0,1,0,0] [X]) (by kernel_rfl) λ X0 hX =>
  (show ∀ k, zww K others X0 (zgZ others k) (zgY others k) from zeU _ _ (zgX others) (zgW others) (zww K others X0)
 (by intro _ _ _ hs;exact absurd hs dqk)
 (by intro P0 S0 hX0 zaT zbm zbn hs hk;exact hX _ (zaX (by kernel_rfl) (zc hs hk (λ hs hk=>(zaJ hs λ hc hs=>And.intro hc (zBV hX0 hs hk))) (λ hs hk=>hk))))) _ hs hk
def zfi (first:far) (others:(Sl far)):far :=
  (znE others (0:Int) first.length first.uses)
def zDi (first:far) (others:(Sl far)):Bool :=
  (znF others (0:Int) first.length first.uses)
end
theorem zNW (first:far) (others:(Sl far)) (K:List PA->Prop) (hs:zDi first others=true) (hk:K (zLy (zfi first others))):vcFun Tryd.prog zNp zwu 104 [.one (.fn 105 [] []),.agg (zcq first),.one (.sl others.len 2 (λ i=>zcq (others.get i)))] K :=
  zaX (by kernel_rfl) (zBW hs hk)
def zpl : List PA → COut
  | [.one (.fn 105 [] []),.agg [.int .i64 zb5,.int .i64 zfE],.one (.sl zg0 zpm zg1)]=>.det (IsE zcq 2 zpm zg1/\zDi (⟨zb5,zfE⟩:far) (⟨zg0,zke zg1⟩:(Sl far))=true) [.agg [.int .i64 ((zfi (⟨zb5,zfE⟩:far) (⟨zg0,zke zg1⟩:(Sl far))).length),.int .i64 ((zfi (⟨zb5,zfE⟩:far) (⟨zg0,zke zg1⟩:(Sl far))).uses)]]
  | _=>.no
theorem zE6:zas Tryd.prog 104:=⟨_,rfl,rfl,by kernel_rfl⟩
theorem zE7:Ok Tryd.prog 104 zpl:=zbv zJs zE6 λ args K h=>by
  unfold zpl at h
  split at h
  · rename_i zb5 zfE zg0 zpm zg1
    obtain⟨⟨⟨rfl,zls,rfl⟩,hs⟩,hk⟩:=h
    try rw[zjK zls] at hs
    try rw[zjK zls] at hk
    exact⟨(λ _ _=>[]),(λ _=>false),zwu,zNW (⟨zb5,zfE⟩:far) (⟨zg0,zls⟩:(Sl far)) K hs hk⟩
  · exact h.elim
abbrev zNq:Tabs:=(((Tabs.nil.addF 93 zpi).addF 104 zpl).addI 110 zpk)
theorem zJt:TabsOk Tryd.prog zNq:=(((TabsOk.nil.addF zIo).addF zE7).addI zuh)
abbrev zLz:Ctrs:=csm zNq (λ _ _=>[]) (λ _=>false)
def zpn:Ann:=⟨91,[(0,zK [0,2,4] [4]),(1,zK [0,2,4,7] [4,7,15]),(2,zK [0,2,4,7,17,18] [4,7,15]),(3,zK [0,2,4,7,17,18,19] [4,7,15]),(4,zK [0,2,4,7,8,17,18] [4,7,15]),(5,zK [0,2,4,7,8,17,18,21] [4,7,15]),(6,zK [0,2,4,7,8,17,18,21,22] [4,7,15]),(7,zK [0,2,4,7,8,9,17,18,21] [4,7,15]),(8,zK [0,2,4,7,8,17,18,21] [4,7,15]),(9,zK [0,2,4,7,8,17,18,21] [4,7,15]),(10,zK [0,2,4,7,17,18] [4,7,15]),(11,zK [0,2,4,7] [4,7,15]),(12,zK [0,2,4,7,10] [4,7,10,15]),(13,zK [0,2,4,7,10,39] [4,7,10,15]),(14,zK [0,2,4,7,10] [4,7,10,15]),(15,zK [0,2,4,7,10,43] [4,7,10,15]),(16,zK [0,2,4,7,10,11,43] [4,7,10,11,15]),(17,zK [0,2,4,7,10,11,12,43] [4,7,10,11,12,15]),(18,zK [0,2,4,7,10,11,12,43,67] [4,7,10,11,12,15]),(19,zK [0,2,4,7,10,43] [4,7,10,15]),(20,zK [0,2,4,7,89] [4,7,15]),(21,zK [0,2,4,7,10] [4,7,10,15]),(22,zK [6] [15])],
 [(3,zK [0,2,4,7,17,18] [4,7,15]),(6,zK [0,2,4,7,8,17,18,21] [4,7,15]),(13,zK [0,2,4,7,10] [4,7,10,15]),(16,zK [0,2,4,7,10,43] [4,7,10,15])],
 [(11,zK [0,2,4,7] [4,7,15])],
 [],[]⟩
abbrev zNX:=(Sl Tab)
abbrev zAQ (r:zNX):List PA:=[.one (.sl r.len 80 (λ i=>zar (r.get i)))]
@[irreducible] def z106:=ptF Tryd.prog zLz zpn Tryd.f106
@[irreducible] def x106:=exF Tryd.prog zLz zpn Tryd.f106
@[irreducible] def y106:=rnF Tryd.prog zLz zpn Tryd.f106
def zwx (w:web) (node:Int) (uses:Int) (zet:Int) (zeu:(Sl Tab)) (zgg:Nat->List PV):St:=⟨[(0,zP (.fp (zaC w) 0)),(2,zI uses),(4,zp 4 0),(7,zp 7 0),(17,zI ((w64 (uses+(1:Int))).toNat:Int)),(18,zI zet)],[(4,.box 3 [zi node]),(7,.box 159 [.vec 15]),(15,.vec 116 80 640 zeu.len zgg)],[]⟩
abbrev zwy (K:List PA->Prop) (w:web) (node:Int) (uses:Int) (X:St->Prop) (P:Int->(Sl Tab)->Bool) (S:Int->(Sl Tab)->(Sl Tab)):Prop:=∀ ⦃zet:Int⦄ ⦃zeu:(Sl Tab)⦄ ⦃zgg:Nat->List PV⦄,P zet zeu=true->K (zAQ (S zet zeu))->zgg=zg zar zeu->X (zwx w node uses zet zeu zgg)
def zwz (w:web) (node:Int) (uses:Int) (iv1:Int) (zdi:Int) (zdD:Int) (zcY:(Sl Tab)) (zgh:Nat->List PV):St:=⟨[(0,zP (.fp (zaC w) 0)),(2,zI uses),(4,zp 4 0),(7,zp 7 0),(8,zI iv1),(17,zI ((w64 (uses+(1:Int))).toNat:Int)),(18,zI zdi),(21,zI zdD)],[(4,.box 3 [zi node]),(7,.box 159 [.vec 15]),(15,.vec 116 80 640 zcY.len zgh)],[]⟩
abbrev zDj (K:List PA->Prop) (w:web) (node:Int) (uses:Int) (X:St->Prop) (P:Int->Int->Int->(Sl Tab)->Bool) (S:Int->Int->Int->(Sl Tab)->(Sl Tab)):Prop:=∀ ⦃iv1:Int⦄ ⦃zdi:Int⦄ ⦃zdD:Int⦄ ⦃zcY:(Sl Tab)⦄ ⦃zgh:Nat->List PV⦄,P iv1 zdi zdD zcY=true->K (zAQ (S iv1 zdi zdD zcY))->zgh=zg zar zcY->X (zwz w node uses iv1 zdi zdD zcY zgh)
def zwA (w:web) (node:Int) (uses:Int) (kv3:Int) (zeV:(Sl Tab)) (zgi:Nat->List PV):St:=⟨[(0,zP (.fp (zaC w) 0)),(2,zI uses),(4,zp 4 0),(7,zp 7 0),(10,zp 10 0)],[(4,.box 3 [zi node]),(7,.box 159 [.vec 15]),(10,.box 3 [zi kv3]),(15,.vec 116 80 640 zeV.len zgi)],[]⟩
abbrev zwB (K:List PA->Prop) (w:web) (node:Int) (uses:Int) (X:St->Prop) (P:Int->(Sl Tab)->Bool) (S:Int->(Sl Tab)->(Sl Tab)):Prop:=∀ ⦃kv3:Int⦄ ⦃zeV:(Sl Tab)⦄ ⦃zgi:Nat->List PV⦄,P kv3 zeV=true->K (zAQ (S kv3 zeV))->zgi=zg zar zeV->X (zwA w node uses kv3 zeV zgi)
def zqH (w:web) (node:Int) (uses:Int) (kv4:Int) (za8:(Sl Tab)) (zeW:Nat->List PV):St:=⟨[(0,zP (.fp (zaC w) 0)),(2,zI uses),(4,zp 4 0),(7,zp 7 0),(10,zp 10 0),(43,zP (.fn 110 [] [.fp [.fp (zaC w) 0] 0]))],[(4,.box 3 [zi node]),(7,.box 159 [.vec 15]),(10,.box 3 [zi kv4]),(15,.vec 116 80 640 za8.len zeW)],[]⟩
abbrev zDk (K:List PA->Prop) (w:web) (node:Int) (uses:Int) (X:St->Prop) (P:Int->(Sl Tab)->Bool) (S:Int->(Sl Tab)->(Sl Tab)):Prop:=∀ ⦃kv4:Int⦄ ⦃za8:(Sl Tab)⦄ ⦃zeW:Nat->List PV⦄,P kv4 za8=true->K (zAQ (S kv4 za8))->zeW=zg zar za8->X (zqH w node uses kv4 za8 zeW)
section
variable {K:List PA->Prop}{w:web}{node:Int}{uses:Int}{zet:Int}{zeu:(Sl Tab)}{zgg:Nat->List PV}{X0:St->Prop}{P0:Int->(Sl Tab)->Bool}{S0:Int->(Sl Tab)->(Sl Tab)}{iv1:Int}{zdi:Int}{zdD:Int}{zcY:(Sl Tab)}{zgh:Nat->List PV}{X1:St->Prop}{P1:Int->Int->Int->(Sl Tab)->Bool}{S1:Int->Int->Int->(Sl Tab)->(Sl Tab)}{zgj:(Sl Tab)}{zwC:Nat->List PV}{kv3:Int}{zeV:(Sl Tab)}{zgi:Nat->List PV}{X3:St->Prop}{P3:Int->(Sl Tab)->Bool}{S3:Int->(Sl Tab)->(Sl Tab)}{kv4:Int}{za8:(Sl Tab)}{zeW:Nat->List PV}
def zBX (S3:Int->(Sl Tab)->(Sl Tab)) (w:web) (node:Int) (uses:Int) (kv4:Int) (za8:(Sl Tab)):(Sl Tab) :=
  (S3 (w64 (kv4+(1:Int))) za8)
def zBY (P3:Int->(Sl Tab)->Bool) (w:web) (node:Int) (uses:Int) (kv4:Int) (za8:(Sl Tab)):Bool :=
  (P3 (w64 (kv4+(1:Int))) za8)
def zkf (S3:Int->(Sl Tab)->(Sl Tab)) (w:web) (node:Int) (uses:Int) (y4:step) (S4:Int->(Sl Tab)->(Sl Tab)) (kv4:Int) (za8:(Sl Tab)):(Sl Tab) :=
  (cond (decide (y4.from_ ≥ node))
 (cond (decide (y4.to ≥ node))
 (cond (!(nvr (tg 80 (za8.get ((w64 (kv4 - (1:Int))).toNat)) (0 + y4.to.toNat * 2 + 0)) (tg 80 (za8.get ((w64 (kv4 - (1:Int))).toNat)) (0 + y4.to.toNat * 2 + 0 + 1))))
 (S4 kv4 (⟨za8.len,(setT kv4.toNat (ts 80 (za8.get kv4.toNat) (0+y4.from_.toNat * 2+0) [(zfi (⟨(tL (za8.get kv4.toNat) y4.from_),(tU (za8.get kv4.toNat) y4.from_)⟩:far) (⟨1,λ _=>(⟨(w64 ((tg 80 (za8.get ((w64 (kv4 - (1:Int))).toNat)) (0+y4.to.toNat * 2+0))+y4.length)),(0:Int)⟩:far)⟩:(Sl far))).length,(zfi (⟨(tL (za8.get kv4.toNat) y4.from_),(tU (za8.get kv4.toNat) y4.from_)⟩:far) (⟨1,λ _=>(⟨(w64 ((tg 80 (za8.get ((w64 (kv4 - (1:Int))).toNat)) (0+y4.to.toNat * 2+0))+y4.length)),(0:Int)⟩:far)⟩:(Sl far))).uses]) za8.get)⟩:Sl Tab))
 (S4 kv4 za8))
 (S4 kv4 za8))
 (S4 kv4 za8))
def zkg (P3:Int->(Sl Tab)->Bool) (w:web) (node:Int) (uses:Int) (y4:step) (P4:Int->(Sl Tab)->Bool) (kv4:Int) (za8:(Sl Tab)):Bool :=
  (decide ((0≤(w64 (kv4 - (1:Int)))/\(w64 (kv4 - (1:Int))) < (za8.len:Int))) &&
 (decide ((0≤y4.to/\y4.to < (40:Int))) &&
 (decide (((w64 (kv4 - (1:Int))).toNat < za8.len)) &&
 (cond (decide (y4.from_ ≥ node))
 (cond (decide (y4.to ≥ node))
 (cond (!(nvr (tg 80 (za8.get ((w64 (kv4 - (1:Int))).toNat)) (0 + y4.to.toNat * 2 + 0)) (tg 80 (za8.get ((w64 (kv4 - (1:Int))).toNat)) (0 + y4.to.toNat * 2 + 0 + 1))))
 (decide ((0≤kv4/\kv4 < (za8.len:Int))) &&
 (decide ((0≤y4.from_/\y4.from_ < (40:Int))) &&
 (decide ((kv4.toNat < za8.len)) &&
 (decide ((zDi (⟨(tL (za8.get kv4.toNat) y4.from_),(tU (za8.get kv4.toNat) y4.from_)⟩:far) (⟨1,λ _=>(⟨(w64 ((tg 80 (za8.get ((w64 (kv4 - (1:Int))).toNat)) (0+y4.to.toNat * 2+0))+y4.length)),(0:Int)⟩:far)⟩:(Sl far))=true)) &&
 (decide ((0≤kv4/\kv4 < (za8.len:Int))) &&
 (decide ((0≤y4.from_/\y4.from_ < (40:Int))) &&
 (decide ((kv4.toNat < za8.len)) &&
 (P4 kv4 (⟨za8.len,(setT kv4.toNat (ts 80 (za8.get kv4.toNat) (0+y4.from_.toNat * 2+0) [(zfi (⟨(tL (za8.get kv4.toNat) y4.from_),(tU (za8.get kv4.toNat) y4.from_)⟩:far) (⟨1,λ _=>(⟨(w64 ((tg 80 (za8.get ((w64 (kv4 - (1:Int))).toNat)) (0+y4.to.toNat * 2+0))+y4.length)),(0:Int)⟩:far)⟩:(Sl far))).length,(zfi (⟨(tL (za8.get kv4.toNat) y4.from_),(tU (za8.get kv4.toNat) y4.from_)⟩:far) (⟨1,λ _=>(⟨(w64 ((tg 80 (za8.get ((w64 (kv4 - (1:Int))).toNat)) (0+y4.to.toNat * 2+0))+y4.length)),(0:Int)⟩:far)⟩:(Sl far))).uses]) za8.get)⟩:Sl Tab)))))))))
 (P4 kv4 za8))
 (P4 kv4 za8))
 (P4 kv4 za8)))))
def zkh (S3:Int->(Sl Tab)->(Sl Tab)) (w:web) (node:Int) (uses:Int):List step->Int->(Sl Tab)->(Sl Tab):=lpR (zBX S3 w node uses) (zkf S3 w node uses)
def zki (P3:Int->(Sl Tab)->Bool) (w:web) (node:Int) (uses:Int):List step->Int->(Sl Tab)->Bool:=lpR (zBY P3 w node uses) (zkg P3 w node uses)
def znG (S3:Int->(Sl Tab)->(Sl Tab)) (w:web) (node:Int) (uses:Int) (kv4:Int) (za8:(Sl Tab)):(Sl Tab):=zkh S3 w node uses (zlr w) kv4 za8
def znH (P3:Int->(Sl Tab)->Bool) (w:web) (node:Int) (uses:Int) (kv4:Int) (za8:(Sl Tab)):Bool:=decide ((zuA w=true)) && zki P3 w node uses (zlr w) kv4 za8
theorem zBZ (hX3:zwB K w node uses X3 P3 S3) (hs:znH P3 w node uses kv4 za8=true) (hk:K (zAQ (znG S3 w node uses kv4 za8))) (zlt:zeW=zg zar za8):z106 K [1,1,1,1,0,1,0,0,1,0,0,1,0] [X3] (zqH w node uses kv4 za8 zeW) :=
  zaJ hs λ hc hs=>zr (enc:=(λ y:step=>[.agg (zaA y)])) (ys:=zlr w) (g:=(zqH w node uses kv4 za8 zeW)) (x106 K [1,1,1,1,0,1,0,0,1,0,0,1,0] [X3]) (y106 K [1,1,1,1,0,1,0,0,1,0,0,1,0] [X3]) (by kernel_rfl) (And.intro (zE enc_40 4 w.Net.Ties.get) (And.intro (rfl:((false,1,false,[none]):MQ)=(false,1,false,[none])) hc)) λ X4 hE hR =>
  (show ∀ l : List step, zDk K w node uses (X4 (l.map (λ y : step => [.agg (zaA y)]))) (zki P3 w node uses l) (zkh S3 w node uses l) from zri (X := X4) (enc := (λ y : step => [.agg (zaA y)])) _ _ (zkg P3 w node uses) (zkf S3 w node uses) (λ Z P S => zDk K w node uses Z P S)
 (by intro kv4 za8 zeW hs hk zlt;subst zlt;exact hE _ (zaX (by kernel_rfl) (hX3 hs hk rfl)))
 (by intro y4 rest P4 S4 hX4 kv4 za8 zeW hs hk zlt;subst zlt;exact hR _ rest _ (zaX (by kernel_rfl) (zaJ hs λ hc hs=>And.intro hc (zaJ hs λ hc hs=>And.intro hc (zaJ hs λ hc hs=>And.intro hc (zc hs hk (λ hs hk=>(zc hs hk (λ hs hk=>(zc hs hk (λ hs hk=>(zaJ hs λ hc hs=>And.intro hc (zaJ hs λ hc hs=>And.intro hc (zaJ hs λ hc hs=>And.intro hc (zaJ hs λ hc hs=>And.intro (And.intro (zwb:IsE zcq 2 2 (λ _=>(zcq (⟨(w64 ((tg 80 (za8.get ((w64 (kv4 - (1:Int))).toNat)) (0+y4.to.toNat * 2+0))+y4.length)),(0:Int)⟩:far)))) hc) (zaJ hs λ hc hs=>And.intro hc (zaJ hs λ hc hs=>And.intro hc (zaJ hs λ hc hs=>And.intro hc (hX4 hs hk (zll (enc:=zar) (i:=kv4.toNat) (k:=0) (f:=za8.get) (new:=(zar (ts 80 (za8.get kv4.toNat) (0+y4.from_.toNat * 2+0) [(zfi (⟨(tL (za8.get kv4.toNat) y4.from_),(tU (za8.get kv4.toNat) y4.from_)⟩:far) (⟨1,λ _=>(⟨(w64 ((tg 80 (za8.get ((w64 (kv4 - (1:Int))).toNat)) (0+y4.to.toNat * 2+0))+y4.length)),(0:Int)⟩:far)⟩:(Sl far))).length,(zfi (⟨(tL (za8.get kv4.toNat) y4.from_),(tU (za8.get kv4.toNat) y4.from_)⟩:far) (⟨1,λ _=>(⟨(w64 ((tg 80 (za8.get ((w64 (kv4 - (1:Int))).toNat)) (0+y4.to.toNat * 2+0))+y4.length)),(0:Int)⟩:far)⟩:(Sl far))).uses]))) (v:=(ts 80 (za8.get kv4.toNat) (0+y4.from_.toNat * 2+0) [(zfi (⟨(tL (za8.get kv4.toNat) y4.from_),(tU (za8.get kv4.toNat) y4.from_)⟩:far) (⟨1,λ _=>(⟨(w64 ((tg 80 (za8.get ((w64 (kv4 - (1:Int))).toNat)) (0+y4.to.toNat * 2+0))+y4.length)),(0:Int)⟩:far)⟩:(Sl far))).length,(zfi (⟨(tL (za8.get kv4.toNat) y4.from_),(tU (za8.get kv4.toNat) y4.from_)⟩:far) (⟨1,λ _=>(⟨(w64 ((tg 80 (za8.get ((w64 (kv4 - (1:Int))).toNat)) (0+y4.to.toNat * 2+0))+y4.length)),(0:Int)⟩:far)⟩:(Sl far))).uses])) rfl znu)))))))))) (λ hs hk=>(hX4 hs hk rfl)))) (λ hs hk=>(hX4 hs hk rfl)))) (λ hs hk=>(hX4 hs hk rfl))))))))) _ hs hk zlt
def zg2 (w:web) (node:Int) (uses:Int) (S3:Int->(Sl Tab)->(Sl Tab)) (kv3:Int) (zeV:(Sl Tab)):(Sl Tab) :=
  (cond (decide (kv3 ≤ uses))
 (znG S3 w node uses kv3 zeV)
 zeV)
def zg3 (w:web) (node:Int) (uses:Int) (P3:Int->(Sl Tab)->Bool) (kv3:Int) (zeV:(Sl Tab)):Bool :=
  (cond (decide (kv3 ≤ uses))
 (znH P3 w node uses kv3 zeV)
 true)
def zdu (w:web) (node:Int) (uses:Int):Nat->Int->(Sl Tab)->(Sl Tab):=lpO (λ _ _=>default) (zg2 w node uses)
def zd3 (w:web) (node:Int) (uses:Int):Nat->Int->(Sl Tab)->Bool:=lpO (λ _ _=>false) (zg3 w node uses)
def znI (w:web) (node:Int) (uses:Int) (kv3:Int) (zeV:(Sl Tab)):(Sl Tab):=zdu w node uses Fuel kv3 zeV
def znJ (w:web) (node:Int) (uses:Int) (kv3:Int) (zeV:(Sl Tab)):Bool:=zd3 w node uses Fuel kv3 zeV
theorem zB0 (hs:znJ w node uses kv3 zeV=true) (hk:K (zAQ (znI w node uses kv3 zeV))) (zqI:zgi=zg zar zeV):z106 K [1,1,1,1,0,1,0] [] (zwA w node uses kv3 zeV zgi) :=
  zl (λ X=>z106 K [1,1,1,1,0,1,0,0] [X]) (by kernel_rfl) λ X3 hX =>
  (show ∀ k, zwB K w node uses X3 (zd3 w node uses k) (zdu w node uses k) from zeU _ _ (zg3 w node uses) (zg2 w node uses) (zwB K w node uses X3)
 (by intro _ _ _ hs;exact absurd hs dqk)
 (by intro P3 S3 hX3 kv3 zeV zgi hs hk zqI;subst zqI;exact hX _ (zaX (by kernel_rfl) (zc hs hk (λ hs hk=>(And.intro (And.intro (zE enc_40 4 w.Net.Ties.get) (rfl:((false,1,false,[none]):MQ)=(false,1,false,[none]))) (zBZ hX3 hs hk rfl))) (λ hs hk=>hk))))) _ hs hk zqI
def zkj (w:web) (node:Int) (uses:Int) (zgj:(Sl Tab)):(Sl Tab) :=
  (znI w node uses (1:Int) (⟨zgj.len,(setT 0 (ts 80 (zgj.get 0) (0+node.toNat * 2+0) [(0:Int),(0:Int)]) zgj.get)⟩:Sl Tab))
def zkk (w:web) (node:Int) (uses:Int) (zgj:(Sl Tab)):Bool :=
  (decide ((0≤(0:Int)/\(0:Int) < (zgj.len:Int))) &&
 (decide ((0≤node/\node < (40:Int))) &&
 (decide ((0 < zgj.len)) &&
 (znJ w node uses (1:Int) (⟨zgj.len,(setT 0 (ts 80 (zgj.get 0) (0+node.toNat * 2+0) [(0:Int),(0:Int)]) zgj.get)⟩:Sl Tab)))))
theorem zB1 (hs:zkk w node uses zgj=true) (hk:K (zAQ (zkj w node uses zgj))) (zE8:zwC=zg zar zgj):z106 K [1,1,1] [] ⟨[(0,zP (.fp (zaC w) 0)),(2,zI uses),(4,zp 4 0),(7,zp 7 0)],[(4,.box 3 [zi node]),(7,.box 159 [.vec 15]),(15,.vec 116 80 640 zgj.len zwC)],[]⟩:=by subst zE8;exact zaX (by kernel_rfl) (zaJ hs λ hc hs=>And.intro hc (zaJ hs λ hc hs=>And.intro hc (zaJ hs λ hc hs=>And.intro hc (zB0 hs hk (zll (enc:=zar) (i:=0) (k:=0) (f:=zgj.get) (new:=(zar (ts 80 (zgj.get 0) (0+node.toNat * 2+0) [(0:Int),(0:Int)]))) (v:=(ts 80 (zgj.get 0) (0+node.toNat * 2+0) [(0:Int),(0:Int)])) rfl znu)))))
def zg4 (S0:Int->(Sl Tab)->(Sl Tab)) (w:web) (node:Int) (uses:Int) (S1:Int->Int->Int->(Sl Tab)->(Sl Tab)) (iv1:Int) (zdi:Int) (zdD:Int) (zcY:(Sl Tab)):(Sl Tab) :=
  (cond (decide (zdD < (40:Int)))
 (S1 iv1 zdi (w64 (zdD+(1:Int))) (⟨zcY.len,(setT iv1.toNat (ts 80 (zcY.get iv1.toNat) (0+zdD.toNat * 2+0) [(1000000000000:Int),(0:Int)]) zcY.get)⟩:Sl Tab))
 (S0 (w64 (zdi+(1:Int))) zcY))
def zg5 (P0:Int->(Sl Tab)->Bool) (w:web) (node:Int) (uses:Int) (P1:Int->Int->Int->(Sl Tab)->Bool) (iv1:Int) (zdi:Int) (zdD:Int) (zcY:(Sl Tab)):Bool :=
  (cond (decide (zdD < (40:Int)))
 (decide ((0≤iv1/\iv1 < (zcY.len:Int))) &&
 (decide ((0≤zdD/\zdD < (40:Int))) &&
 (decide ((iv1.toNat < zcY.len)) &&
 (P1 iv1 zdi (w64 (zdD+(1:Int))) (⟨zcY.len,(setT iv1.toNat (ts 80 (zcY.get iv1.toNat) (0+zdD.toNat * 2+0) [(1000000000000:Int),(0:Int)]) zcY.get)⟩:Sl Tab)))))
 (P0 (w64 (zdi+(1:Int))) zcY))
def zik (S0:Int->(Sl Tab)->(Sl Tab)) (w:web) (node:Int) (uses:Int):Nat->Int->Int->Int->(Sl Tab)->(Sl Tab):=lpO (λ _ _ _ _=>default) (zg4 S0 w node uses)
def zil (P0:Int->(Sl Tab)->Bool) (w:web) (node:Int) (uses:Int):Nat->Int->Int->Int->(Sl Tab)->Bool:=lpO (λ _ _ _ _=>false) (zg5 P0 w node uses)
def ztc (S0:Int->(Sl Tab)->(Sl Tab)) (w:web) (node:Int) (uses:Int) (iv1:Int) (zdi:Int) (zdD:Int) (zcY:(Sl Tab)):(Sl Tab):=zik S0 w node uses Fuel iv1 zdi zdD zcY
def ztd (P0:Int->(Sl Tab)->Bool) (w:web) (node:Int) (uses:Int) (iv1:Int) (zdi:Int) (zdD:Int) (zcY:(Sl Tab)):Bool:=zil P0 w node uses Fuel iv1 zdi zdD zcY
theorem zB2 (hX0:zwy K w node uses X0 P0 S0) (hs:ztd P0 w node uses iv1 zdi zdD zcY=true) (hk:K (zAQ (ztc S0 w node uses iv1 zdi zdD zcY))) (zqJ:zgh=zg zar zcY):z106 K [1,1,0,1,0,0,1,1,0,0,1,1,0] [X0] (zwz w node uses iv1 zdi zdD zcY zgh) :=
  zl (λ X=>z106 K [1,1,0,1,0,0,1,1,0,0,1,1,0,0] [X0,X]) (by kernel_rfl) λ X1 hX =>
  (show ∀ k, zDj K w node uses X1 (zil P0 w node uses k) (zik S0 w node uses k) from zeU _ _ (zg5 P0 w node uses) (zg4 S0 w node uses) (zDj K w node uses X1)
 (by intro _ _ _ _ _ hs;exact absurd hs dqk)
 (by intro P1 S1 hX1 iv1 zdi zdD zcY zgh hs hk zqJ;subst zqJ;exact hX _ (zaX (by kernel_rfl) (zc hs hk (λ hs hk=>(zaJ hs λ hc hs=>And.intro hc (zaJ hs λ hc hs=>And.intro hc (zaJ hs λ hc hs=>And.intro hc (hX1 hs hk (zll (enc:=zar) (i:=iv1.toNat) (k:=0) (f:=zcY.get) (new:=(zar (ts 80 (zcY.get iv1.toNat) (0+zdD.toNat * 2+0) [(1000000000000:Int),(0:Int)]))) (v:=(ts 80 (zcY.get iv1.toNat) (0+zdD.toNat * 2+0) [(1000000000000:Int),(0:Int)])) rfl znu)))))) (λ hs hk=>(hX0 hs hk rfl)))))) _ hs hk zqJ
def zg6 (w:web) (node:Int) (uses:Int) (S0:Int->(Sl Tab)->(Sl Tab)) (zet:Int) (zeu:(Sl Tab)):(Sl Tab) :=
  (cond (decide (zet < ((w64 (uses + (1:Int))).toNat : Int)))
 (ztc S0 w node uses zet zet (0:Int) zeu)
 (zkj w node uses zeu))
def zg7 (w:web) (node:Int) (uses:Int) (P0:Int->(Sl Tab)->Bool) (zet:Int) (zeu:(Sl Tab)):Bool :=
  (cond (decide (zet < ((w64 (uses + (1:Int))).toNat : Int)))
 (ztd P0 w node uses zet zet (0:Int) zeu)
 (zkk w node uses zeu))
def zg8 (w:web) (node:Int) (uses:Int):Nat->Int->(Sl Tab)->(Sl Tab):=lpO (λ _ _=>default) (zg6 w node uses)
def zg9 (w:web) (node:Int) (uses:Int):Nat->Int->(Sl Tab)->Bool:=lpO (λ _ _=>false) (zg7 w node uses)
def znK (w:web) (node:Int) (uses:Int) (zet:Int) (zeu:(Sl Tab)):(Sl Tab):=zg8 w node uses Fuel zet zeu
def znL (w:web) (node:Int) (uses:Int) (zet:Int) (zeu:(Sl Tab)):Bool:=zg9 w node uses Fuel zet zeu
theorem zB3 (hs:znL w node uses zet zeu=true) (hk:K (zAQ (znK w node uses zet zeu))) (zqK:zgg=zg zar zeu):z106 K [1,1,0,1,0] [] (zwx w node uses zet zeu zgg) :=
  zl (λ X=>z106 K [1,1,0,1,0,0] [X]) (by kernel_rfl) λ X0 hX =>
  (show ∀ k, zwy K w node uses X0 (zg9 w node uses k) (zg8 w node uses k) from zeU _ _ (zg7 w node uses) (zg6 w node uses) (zwy K w node uses X0)
 (by intro _ _ _ hs;exact absurd hs dqk)
 (by intro P0 S0 hX0 zet zeu zgg hs hk zqK;subst zqK;exact hX _ (zaX (by kernel_rfl) (zc hs hk (λ hs hk=>(zB2 hX0 hs hk rfl)) (λ hs hk=>(zB1 hs hk rfl)))))) _ hs hk zqK
def zte (w:web) (node:Int) (uses:Int):(Sl Tab) :=
  (znK w node uses (0:Int) (⟨(w64 (uses+(1:Int))).toNat,(λ _=>(λ _=>(0:Int)))⟩:Sl Tab))
def zIp (w:web) (node:Int) (uses:Int):Bool :=
  (decide ((0≤(w64 (uses+(1:Int)))/\(w64 (uses+(1:Int)))=(w64 (uses+(1:Int)))/\(w64 (uses+(1:Int)))≤1000000)) &&
 (znL w node uses (0:Int) (⟨(w64 (uses+(1:Int))).toNat,(λ _=>(λ _=>(0:Int)))⟩:Sl Tab)))
end
theorem zNY (w:web) (node:Int) (uses:Int) (K:List PA->Prop) (hs:zIp w node uses=true) (hk:K (zAQ (zte w node uses))):vcFun Tryd.prog zLz zpn 106 [.one (.fp (zaC w) 0),.one (.int .i64 node),.one (.int .i64 uses)] K :=
  zaX (by kernel_rfl) (zaJ hs λ hc hs=>And.intro hc (zB3 hs hk rfl))
def zwD : List PA → COut
  | [.one (.fp [.int .i64 zaq,.sl zam zaH zan,.fm zbA zaK zaL] 0),.one (.int .i64 a1),.one (.int .i64 a2)]=>.det (IsE enc_40 4 zaH zan/\zbA=(false,1,false,[none])/\zIp (⟨(⟨zaq,(⟨zam,zak zan⟩:(Sl Tie))⟩:Net),(⟨zaK,zaL⟩:Mp)⟩:web) a1 a2=true) [.one (.sl ((zte (⟨(⟨zaq,(⟨zam,zak zan⟩:(Sl Tie))⟩:Net),(⟨zaK,zaL⟩:Mp)⟩:web) a1 a2).len) 80 (λ i=>zar ((zte (⟨(⟨zaq,(⟨zam,zak zan⟩:(Sl Tie))⟩:Net),(⟨zaK,zaL⟩:Mp)⟩:web) a1 a2).get i)))]
  | _=>.no
theorem zE9:zas Tryd.prog 106:=⟨_,rfl,rfl,by kernel_rfl⟩
theorem zL4:Ok Tryd.prog 106 zwD:=zbv zJt zE9 λ args K h=>by
  unfold zwD at h
  split at h
  · rename_i zaq zam zaH zan zbA zaK zaL a1 a2
    obtain⟨⟨⟨rfl,zaz,rfl⟩,rfl,hs⟩,hk⟩:=h
    try rw[zaj zaz] at hs
    try rw[zaj zaz] at hk
    exact⟨(λ _ _=>[]),(λ _=>false),zpn,zNY (⟨(⟨zaq,(⟨zam,zaz⟩:(Sl Tie))⟩:Net),(⟨zaK,zaL⟩:Mp)⟩:web) a1 a2 K hs hk⟩
  · exact h.elim
abbrev zNr:Tabs:=Tabs.nil
theorem zJu:TabsOk Tryd.prog zNr:=TabsOk.nil
abbrev zNs:Ctrs:=csm zNr (λ _ _=>[]) (λ _=>false)
def zwE:Ann:=⟨18,[(0,zK [0] []),(1,zK [0,3] []),(2,zK [3,6,7,8] []),(3,zK [3,6,7,8,9] []),(4,zK [3,5,6,7,8] []),(5,zK [3,5,6,7,8,14] []),(6,zK [2] []),(7,zK [3,6,7,8] []),(8,zK [2] [])],
 [(3,zK [3,6,7,8] [])],
 [],
 [],[]⟩
abbrev zNZ:=Int
abbrev zL5 (r:zNZ):List PA:=[.one (.int .i64 r)]
@[irreducible] def z100:=ptF Tryd.prog zNs zwE Tryd.f100
def zwF (vals:(Sl Int)) (zdX:Int):St:=⟨[(3,zI (0:Int)),(6,zS zah 1 vals),(7,zI (vals.len:Int)),(8,zI zdX)],[],[]⟩
abbrev zDl (K:List PA->Prop) (vals:(Sl Int)) (X:St->Prop) (P:Int->Bool) (S:Int->Int):Prop:=∀ ⦃zdX:Int⦄,P zdX=true->K (zL5 (S zdX))->X (zwF vals zdX)
section
variable {K:List PA->Prop}{vals:(Sl Int)}{zdX:Int}{X0:St->Prop}{P0:Int->Bool}{S0:Int->Int}
def zeJ (vals:(Sl Int)) (S0:Int->Int) (zdX:Int):Int :=
  (cond (decide (zdX < (vals.len : Int)))
 (cond ((vals.get zdX.toNat) != (0:Int))
 (vals.get zdX.toNat)
 (S0 (w64 (zdX+(1:Int)))))
 (0:Int))
def zha (vals:(Sl Int)) (P0:Int->Bool) (zdX:Int):Bool :=
  (cond (decide (zdX < (vals.len : Int)))
 (decide ((0≤zdX/\zdX < (vals.len:Int))) &&
 (cond ((vals.get zdX.toNat) != (0:Int))
 true
 (P0 (w64 (zdX+(1:Int))))))
 true)
def zhb (vals:(Sl Int)):Nat->Int->Int:=lpO (λ _=>default) (zeJ vals)
def zim (vals:(Sl Int)):Nat->Int->Bool:=lpO (λ _=>false) (zha vals)
def ztf (vals:(Sl Int)) (zdX:Int):Int:=zhb vals Fuel zdX
def ztg (vals:(Sl Int)) (zdX:Int):Bool:=zim vals Fuel zdX
theorem zB4 (hs:ztg vals zdX=true) (hk:K (zL5 (ztf vals zdX))):z100 K [1,1,0,1,0] [] (zwF vals zdX) :=
  zl (λ X=>z100 K [1,1,0,1,0,0] [X]) (by kernel_rfl) λ X0 hX =>
  (show ∀ k, zDl K vals X0 (zim vals k) (zhb vals k) from zeU _ _ (zha vals) (zeJ vals) (zDl K vals X0)
 (by intro _ hs;exact absurd hs dqk)
 (by intro P0 S0 hX0 zdX hs hk;exact hX _ (zaX (by kernel_rfl) (zc hs hk (λ hs hk=>(zaJ hs λ hc hs=>And.intro hc (zc hs hk (λ hs hk=>hk) (λ hs hk=>(hX0 hs hk))))) (λ hs hk=>hk))))) _ hs hk
def zJv (vals:(Sl Int)):Int :=
  (ztf vals (0:Int))
def zLA (vals:(Sl Int)):Bool :=
  (ztg vals (0:Int))
end
theorem zN0 (vals:(Sl Int)) (K:List PA->Prop) (hs:zLA vals=true) (hk:K (zL5 (zJv vals))):vcFun Tryd.prog zNs zwE 100 [.one (.sl vals.len 1 (λ i=>zah (vals.get i)))] K :=
  zaX (by kernel_rfl) (zB4 hs hk)
def zwG : List PA → COut
  | [.one (.sl zfk zlu zfl)]=>.det (IsE zah 1 zlu zfl/\zLA (⟨zfk,zax zfl⟩:(Sl Int))=true) [.one (.int .i64 (zJv (⟨zfk,zax zfl⟩:(Sl Int))))]
  | _=>.no
theorem zFa:zas Tryd.prog 100:=⟨_,rfl,rfl,by kernel_rfl⟩
theorem zL6:Ok Tryd.prog 100 zwG:=zbv zJu zFa λ args K h=>by
  unfold zwG at h
  split at h
  · rename_i zfk zlu zfl
    obtain⟨⟨⟨rfl,zhH,rfl⟩,hs⟩,hk⟩:=h
    try rw[zb2 zhH] at hs
    try rw[zb2 zhH] at hk
    exact⟨(λ _ _=>[]),(λ _=>false),zwE,zN0 (⟨zfk,zhH⟩:(Sl Int)) K hs hk⟩
  · exact h.elim
abbrev zNt:Tabs:=Tabs.nil
theorem zJw:TabsOk Tryd.prog zNt:=TabsOk.nil
abbrev zN1:Ctrs:=csm zNt (λ _ _=>[]) (λ _=>false)
def zDm:Ann:=⟨6,[(0,zK [0] []),(1,zK [2] [])],
 [],
 [],
 [],[]⟩
abbrev zN2:=Bool
abbrev zN3 (r:zN2):List PA:=[.one (.bool r)]
section
variable {K:List PA->Prop}{x:Int}
def zB5 (x:Int):Bool :=
  (x != x)
end
theorem zN4 (x:Int) (K:List PA->Prop) (hk:K (zN3 (zB5 x))):vcFun Tryd.prog zN1 zDm 114 [.one (.int .i64 x)] K :=
  zaX (by kernel_rfl) hk
def zwH : List PA → COut
  | [.one (.int .i64 a0)]=>.tot [.one (.bool (zB5 a0))]
  | _=>.no
theorem zFb:zas Tryd.prog 114:=⟨_,rfl,rfl,by kernel_rfl⟩
theorem zL7:Ok Tryd.prog 114 zwH:=zbv zJw zFb λ args K h=>by
  unfold zwH at h
  split at h
  · rename_i a0
    have hk:=h
    exact⟨(λ _ _=>[]),(λ _=>false),zDm,zN4 a0 K hk⟩
  · exact h.elim
abbrev zNu:Tabs:=(Tabs.nil.addF 114 zwH)
theorem zJx:TabsOk Tryd.prog zNu:=(TabsOk.nil.addF zL7)
abbrev zN5:Ctrs:=csm zNu (λ _ _=>[]) (λ _=>false)
def zDn:Ann:=⟨20,[(0,zK [0,1] []),(1,zK [0,1,5] []),(2,zK [0,1,5,6] []),(3,zK [0,1,6,11] []),(4,zK [12] []),(5,zK [4] []),(6,zK [4] []),(7,zK [0,1,13] []),(8,zK [4] []),(9,zK [0,1,16] []),(10,zK [4] []),(11,zK [19] []),(12,zK [4] []),(13,zK [4] [])],
 [],
 [],
 [],[]⟩
abbrev zN6:=Int
abbrev zN7 (r:zN6):List PA:=[.one (.int .i64 r)]
section
variable {K:List PA->Prop}{x:Int}{y_a1:Int}
def zuB (x:Int) (y_a1:Int):Int :=
  (cond (zB5 x)
 (cond (zB5 y_a1)
 (0:Int)
 (-1:Int))
 (cond (zB5 y_a1)
 (1:Int)
 (cond (decide (x < y_a1))
 (-1:Int)
 (cond (decide (x > y_a1))
 (1:Int)
 (0:Int)))))
end
theorem zN8 (x:Int) (y_a1:Int) (K:List PA->Prop) (hk:K (zN7 (zuB x y_a1))):vcFun Tryd.prog zN5 zDn 101 [.one (.int .i64 x),.one (.int .i64 y_a1)] K :=
  zaX (by kernel_rfl) (zt hk (λ hk=>(zt hk (λ hk=>hk) (λ hk=>hk))) (λ hk=>(zt hk (λ hk=>hk) (λ hk=>(zt hk (λ hk=>hk) (λ hk=>(zt hk (λ hk=>hk) (λ hk=>hk))))))))
def zth : List PA → COut
  | [.one (.int .i64 a0),.one (.int .i64 a1)]=>.tot [.one (.int .i64 (zuB a0 a1))]
  | _=>.no
theorem zFc:zas Tryd.prog 101:=⟨_,rfl,rfl,by kernel_rfl⟩
theorem zJy:Ok Tryd.prog 101 zth:=zbv zJx zFc λ args K h=>by
  unfold zth at h
  split at h
  · rename_i a0 a1
    have hk:=h
    exact⟨(λ _ _=>[]),(λ _=>false),zDn,zN8 a0 a1 K hk⟩
  · exact h.elim
abbrev zNv:Tabs:=Tabs.nil
theorem zJz:TabsOk Tryd.prog zNv:=TabsOk.nil
abbrev zN9:Ctrs:=csm zNv (λ _ _=>[]) (λ _=>false)
def zDo:Ann:=⟨6,[(0,zK [1] [1]),(1,zK [5] []),(2,zK [2] []),(3,zK [2] [])],
 [],
 [],
 [],[]⟩
abbrev zOa:=Int
abbrev e118 (r:zOa):List PA:=[.one (.int .i64 r)]
section
variable {K:List PA->Prop}{s:step}
def zB6 (s:step):Int :=
  (cond s.Use.Back
 (1:Int)
 (0:Int))
end
theorem zOb (s:step) (K:List PA->Prop) (hk:K (e118 (zB6 s))):vcFun Tryd.prog zN9 zDo 118 [.agg (zaA s)] K :=
  zaX (by kernel_rfl) (zt hk (λ hk=>hk) (λ hk=>hk))
def zwI : List PA → COut
  | [.agg [.int .i64 zc2,.bool zcH,.int .i64 zeK,.int .i64 zpo,.int .i64 zct]]=>.tot [.one (.int .i64 (zB6 (⟨(⟨zc2,zcH⟩:Use),zeK,zpo,zct⟩:step)))]
  | _=>.no
theorem zFd:zas Tryd.prog 118:=⟨_,rfl,rfl,by kernel_rfl⟩
theorem zL8:Ok Tryd.prog 118 zwI:=zbv zJz zFd λ args K h=>by
  unfold zwI at h
  split at h
  · rename_i zc2 zcH zeK zpo zct
    have hk:=h
    exact⟨(λ _ _=>[]),(λ _=>false),zDo,zOb (⟨(⟨zc2,zcH⟩:Use),zeK,zpo,zct⟩:step) K hk⟩
  · exact h.elim
abbrev zNw:Tabs:=(((Tabs.nil.addF 100 zwG).addF 101 zth).addF 118 zwI)
theorem zJA:TabsOk Tryd.prog zNw:=(((TabsOk.nil.addF zL6).addF zJy).addF zL8)
abbrev zOc:Ctrs:=csm zNw (λ _ _=>[]) (λ _=>false)
def zDp:Ann:=⟨22,[(0,zK [2,3] [2,3]),(1,zK [2,3,5] [2,3]),(2,zK [4] [])],
 [],
 [],
 [],[]⟩
abbrev zOd:=Int
abbrev e108 (r:zOd):List PA:=[.one (.int .i64 r)]
section
variable {K:List PA->Prop}{a:step}{b:step}
def zB7 (a:step) (b:step):Int :=
  (zJv (⟨2,zax (zbI [(zah (zuB a.Use.Tie b.Use.Tie)),(zah (zuB (zB6 a) (zB6 b)))])⟩:(Sl Int)))
def zLB (a:step) (b:step):Bool :=
  (decide ((zLA (⟨2,zax (zbI [(zah (zuB a.Use.Tie b.Use.Tie)),(zah (zuB (zB6 a) (zB6 b)))])⟩:(Sl Int))=true)) &&
 true)
end
theorem zOe (a:step) (b:step) (K:List PA->Prop) (hs:zLB a b=true) (hk:K (e108 (zB7 a b))):vcFun Tryd.prog zOc zDp 108 [.agg (zaA a),.agg (zaA b)] K :=
  zaX (by kernel_rfl) (zaJ hs λ hc hs=>And.intro (And.intro ((zeF []):IsE zah 1 1 (zbI [(zah (zuB a.Use.Tie b.Use.Tie)),(zah (zuB (zB6 a) (zB6 b)))])) hc) hk)
def zwJ : List PA → COut
  | [.agg [.int .i64 zc2,.bool zcH,.int .i64 zeK,.int .i64 zpo,.int .i64 zct],.agg [.int .i64 zhc,.bool zfF,.int .i64 zkl,.int .i64 zB8,.int .i64 zb5]]=>.det (zLB (⟨(⟨zc2,zcH⟩:Use),zeK,zpo,zct⟩:step) (⟨(⟨zhc,zfF⟩:Use),zkl,zB8,zb5⟩:step)=true) [.one (.int .i64 (zB7 (⟨(⟨zc2,zcH⟩:Use),zeK,zpo,zct⟩:step) (⟨(⟨zhc,zfF⟩:Use),zkl,zB8,zb5⟩:step)))]
  | _=>.no
theorem zFe:zas Tryd.prog 108:=⟨_,rfl,rfl,by kernel_rfl⟩
theorem zL9:Ok Tryd.prog 108 zwJ:=zbv zJA zFe λ args K h=>by
  unfold zwJ at h
  split at h
  · rename_i zc2 zcH zeK zpo zct zhc zfF zkl zB8 zb5
    obtain⟨hs,hk⟩:=h
    exact⟨(λ _ _=>[]),(λ _=>false),zDp,zOe (⟨(⟨zc2,zcH⟩:Use),zeK,zpo,zct⟩:step) (⟨(⟨zhc,zfF⟩:Use),zkl,zB8,zb5⟩:step) K hs hk⟩
  · exact h.elim
abbrev zNx:Tabs:=(Tabs.nil.addF 108 zwJ)
theorem zJB:TabsOk Tryd.prog zNx:=(TabsOk.nil.addF zL9)
abbrev zNy:Ctrs:=csm zNx (λ _ _=>[]) (λ _=>false)
def zwK:Ann:=⟨39,[(0,zK [0,1,2] []),(1,zK [0,1,2,11,12,13] []),(2,zK [0,1,2,11,12,13,14] []),(3,zK [0,1,2,7,8,11,12,13] [8]),(4,zK [0,1,2,7,8,11,12,13,21] [8]),(5,zK [6] []),(6,zK [0,1,2,8,9,11,12,13] [8,9]),(7,zK [0,1,2,10,11,12,13] []),(8,zK [0,1,2,10,11,12,13,31] []),(9,zK [6] []),(10,zK [0,1,2,11,12,13] []),(11,zK [38] []),(12,zK [6] []),(13,zK [6] [])],
 [(2,zK [0,1,2,11,12,13] [])],
 [(6,zK [0,1,2,7,8,11,12,13] [8]),(8,zK [0,1,2,10,11,12,13] [])],
 [],[]⟩
abbrev zOf:=Int
abbrev zJC (r:zOf):List PA:=[.one (.int .i64 r)]
@[irreducible] def z107:=ptF Tryd.prog zNy zwK Tryd.f107
def zwL (zeX:(Sl step)) (zej:(Sl step)) (zaT:(Sl step)) (zcg:Int) (zb6:Int) (zdE:Nat->List PV) (zdF:Nat->List PV) (zgk:Nat->List PV):St:=⟨[(0,zP (.sl zeX.len 5 zdE)),(1,zP (.sl zej.len 5 zdF)),(2,zP (.fn 108 [] [])),(11,zP (.sl zaT.len 5 zgk)),(12,zI zcg),(13,zI zb6)],[],[]⟩
abbrev zti (K:List PA->Prop) (X:St->Prop) (P:(Sl step)->(Sl step)->(Sl step)->Int->Int->Bool) (S:(Sl step)->(Sl step)->(Sl step)->Int->Int->Int):Prop:=∀ ⦃zeX:(Sl step)⦄ ⦃zej:(Sl step)⦄ ⦃zaT:(Sl step)⦄ ⦃zcg:Int⦄ ⦃zb6:Int⦄ ⦃zdE:Nat->List PV⦄ ⦃zdF:Nat->List PV⦄ ⦃zgk:Nat->List PV⦄,P zeX zej zaT zcg zb6=true->K (zJC (S zeX zej zaT zcg zb6))->zdE=zg zaA zeX->zdF=zg zaA zej->zgk=zg zaA zaT->X (zwL zeX zej zaT zcg zb6 zdE zdF zgk)
section
variable {K:List PA->Prop}{s1_a0:(Sl step)}{s2_a1:(Sl step)}{zeX:(Sl step)}{zej:(Sl step)}{zaT:(Sl step)}{zcg:Int}{zb6:Int}{zdE:Nat->List PV}{zdF:Nat->List PV}{zgk:Nat->List PV}{X0:St->Prop}{P0:(Sl step)->(Sl step)->(Sl step)->Int->Int->Bool}{S0:(Sl step)->(Sl step)->(Sl step)->Int->Int->Int}{zpp:(Sl step)}{zkm:(Sl step)}{iv1:Int}{zcP:(Sl step)}{zch:Int}{zqL:Int}{zjM:Int}{zjN:Bool}{zjO:Int}{zjP:Int}{zjQ:Int}{zpq:Nat->List PV}{zpr:Nat->List PV}{zwM:Nat->List PV}{zps:(Sl step)}{zpt:(Sl step)}{cv2:Int}{zqM:Int}{zpu:Nat->List PV}{zpv:Nat->List PV}
def znM (S0:(Sl step)->(Sl step)->(Sl step)->Int->Int->Int) (zcP:(Sl step)) (zch:Int) (zps:(Sl step)) (zpt:(Sl step)) (cv2:Int) (zqM:Int):Int :=
  (cond (cv2 != (0:Int))
 cv2
 (S0 zps zpt zcP zch (w64 (zqM+(1:Int)))))
def znN (P0:(Sl step)->(Sl step)->(Sl step)->Int->Int->Bool) (zcP:(Sl step)) (zch:Int) (zps:(Sl step)) (zpt:(Sl step)) (cv2:Int) (zqM:Int):Bool :=
  (cond (cv2 != (0:Int))
 true
 (P0 zps zpt zcP zch (w64 (zqM+(1:Int)))))
theorem zB9 (hX0:zti K X0 P0 S0) (hs:znN P0 zcP zch zps zpt cv2 zqM=true) (hk:K (zJC (znM S0 zcP zch zps zpt cv2 zqM))) (zwN:zpu=zg zaA zps) (zwO:zpv=zg zaA zpt):z107 K [1,0,1,0,0,1,1,0,0,1,1,1,1] [X0] ⟨[(0,zP (.sl zps.len 5 zpu)),(1,zP (.sl zpt.len 5 zpv)),(2,zP (.fn 108 [] [])),(10,zI cv2),(11,zS zaA 5 zcP),(12,zI zch),(13,zI zqM)],[],[]⟩:=by subst zwN;subst zwO;exact zaX (by kernel_rfl) (zc hs hk (λ hs hk=>hk) (λ hs hk=>(hX0 hs hk rfl rfl rfl)))
def znO (S0:(Sl step)->(Sl step)->(Sl step)->Int->Int->Int) (zpp:(Sl step)) (zkm:(Sl step)) (iv1:Int) (zcP:(Sl step)) (zch:Int) (zqL:Int) (zjM:Int) (zjN:Bool) (zjO:Int) (zjP:Int) (zjQ:Int):Int :=
  (znM S0 zcP zch zpp zkm (zB7 (⟨(⟨zjM,zjN⟩:Use),zjO,zjP,zjQ⟩:step) (zkm.get iv1.toNat)) zqL)
def znP (P0:(Sl step)->(Sl step)->(Sl step)->Int->Int->Bool) (zpp:(Sl step)) (zkm:(Sl step)) (iv1:Int) (zcP:(Sl step)) (zch:Int) (zqL:Int) (zjM:Int) (zjN:Bool) (zjO:Int) (zjP:Int) (zjQ:Int):Bool :=
  (decide ((0≤iv1/\iv1 < (zkm.len:Int))) &&
 (decide ((zLB (⟨(⟨zjM,zjN⟩:Use),zjO,zjP,zjQ⟩:step) (zkm.get iv1.toNat)=true)) &&
 (znN P0 zcP zch zpp zkm (zB7 (⟨(⟨zjM,zjN⟩:Use),zjO,zjP,zjQ⟩:step) (zkm.get iv1.toNat)) zqL)))
theorem zCa (hX0:zti K X0 P0 S0) (hs:znP P0 zpp zkm iv1 zcP zch zqL zjM zjN zjO zjP zjQ=true) (hk:K (zJC (znO S0 zpp zkm iv1 zcP zch zqL zjM zjN zjO zjP zjQ))) (zwP:zpq=zg zaA zpp) (zwQ:zpr=zg zaA zkm) (zFf:zwM=zg zaA zcP):z107 K [1,0,1,0,0,1,1,0,0,1,1] [X0] ⟨[(0,zP (.sl zpp.len 5 zpq)),(1,zP (.sl zkm.len 5 zpr)),(2,zP (.fn 108 [] [])),(7,zI iv1),(8,zp 8 0),(11,zP (.sl zcP.len 5 zwM)),(12,zI zch),(13,zI zqL)],[(8,.box 130 (zm (zaA (⟨(⟨zjM,zjN⟩:Use),zjO,zjP,zjQ⟩:step))))],[]⟩:=by subst zwP;subst zwQ;subst zFf;exact zaX (by kernel_rfl) (zaJ hs λ hc hs=>And.intro hc (zaJ hs λ hc hs=>And.intro hc (zB9 hX0 hs hk rfl rfl)))
def zhd (S0:(Sl step)->(Sl step)->(Sl step)->Int->Int->Int) (zeX:(Sl step)) (zej:(Sl step)) (zaT:(Sl step)) (zcg:Int) (zb6:Int):Int :=
  (cond (decide (zb6 < zcg))
 (cond (decide (zb6 ≥ (zej.len : Int)))
 (1:Int)
 (znO S0 zeX zej zb6 zaT zcg zb6 ((zaT.get zb6.toNat).Use.Tie) ((zaT.get zb6.toNat).Use.Back) ((zaT.get zb6.toNat).from_) ((zaT.get zb6.toNat).to) ((zaT.get zb6.toNat).length)))
 (cond (decide ((zeX.len : Int) < (zej.len : Int)))
 (-1:Int)
 (0:Int)))
def zhe (P0:(Sl step)->(Sl step)->(Sl step)->Int->Int->Bool) (zeX:(Sl step)) (zej:(Sl step)) (zaT:(Sl step)) (zcg:Int) (zb6:Int):Bool :=
  (cond (decide (zb6 < zcg))
 (decide ((0≤zb6/\zb6 < (zaT.len:Int))) &&
 (cond (decide (zb6 ≥ (zej.len : Int)))
 true
 (znP P0 zeX zej zb6 zaT zcg zb6 ((zaT.get zb6.toNat).Use.Tie) ((zaT.get zb6.toNat).Use.Back) ((zaT.get zb6.toNat).from_) ((zaT.get zb6.toNat).to) ((zaT.get zb6.toNat).length))))
 true)
def zd4:Nat->(Sl step)->(Sl step)->(Sl step)->Int->Int->Int:=lpO (λ _ _ _ _ _=>default) (zhd)
def zin:Nat->(Sl step)->(Sl step)->(Sl step)->Int->Int->Bool:=lpO (λ _ _ _ _ _=>false) (zhe)
def ztj (zeX:(Sl step)) (zej:(Sl step)) (zaT:(Sl step)) (zcg:Int) (zb6:Int):Int:=zd4 Fuel zeX zej zaT zcg zb6
def ztk (zeX:(Sl step)) (zej:(Sl step)) (zaT:(Sl step)) (zcg:Int) (zb6:Int):Bool:=zin Fuel zeX zej zaT zcg zb6
theorem zCb (hs:ztk zeX zej zaT zcg zb6=true) (hk:K (zJC (ztj zeX zej zaT zcg zb6))) (zlv:zdE=zg zaA zeX) (zlw:zdF=zg zaA zej) (zqN:zgk=zg zaA zaT):z107 K [1,0,1,0] [] (zwL zeX zej zaT zcg zb6 zdE zdF zgk) :=
  zl (λ X=>z107 K [1,0,1,0,0] [X]) (by kernel_rfl) λ X0 hX =>
  (show ∀ k, zti K X0 (zin k) (zd4 k) from zeU _ _ (zhe) (zhd) (zti K X0)
 (by intro _ _ _ _ _ _ _ _ hs;exact absurd hs dqk)
 (by intro P0 S0 hX0 zeX zej zaT zcg zb6 zdE zdF zgk hs hk zlv zlw zqN;subst zlv;subst zlw;subst zqN;exact hX _ (zaX (by kernel_rfl) (zc hs hk (λ hs hk=>(zaJ hs λ hc hs=>And.intro hc (zc hs hk (λ hs hk=>hk) (λ hs hk=>(zCa hX0 hs hk rfl rfl rfl))))) (λ hs hk=>(zt hk (λ hk=>hk) (λ hk=>hk))))))) _ hs hk zlv zlw zqN
def zFg (s1_a0:(Sl step)) (s2_a1:(Sl step)):Int :=
  (ztj s1_a0 s2_a1 s1_a0 (s1_a0.len:Int) (0:Int))
def zJD (s1_a0:(Sl step)) (s2_a1:(Sl step)):Bool :=
  (ztk s1_a0 s2_a1 s1_a0 (s1_a0.len:Int) (0:Int))
end
theorem zOg (s1_a0:(Sl step)) (s2_a1:(Sl step)) (K:List PA->Prop) (hs:zJD s1_a0 s2_a1=true) (hk:K (zJC (zFg s1_a0 s2_a1))):vcFun Tryd.prog zNy zwK 107 [.one (.sl s1_a0.len 5 (λ i=>zaA (s1_a0.get i))),.one (.sl s2_a1.len 5 (λ i=>zaA (s2_a1.get i))),.one (.fn 108 [] [])] K :=
  zaX (by kernel_rfl) (zCb hs hk rfl rfl rfl)
def zwR : List PA → COut
  | [.one (.sl zfk zlu zfl),.one (.sl zeY zkn zeL),.one (.fn 108 [] [])]=>.det (IsE zaA 5 zlu zfl/\IsE zaA 5 zkn zeL/\zJD (⟨zfk,zii zfl⟩:(Sl step)) (⟨zeY,zii zeL⟩:(Sl step))=true) [.one (.int .i64 (zFg (⟨zfk,zii zfl⟩:(Sl step)) (⟨zeY,zii zeL⟩:(Sl step))))]
  | _=>.no
theorem zFh:zas Tryd.prog 107:=⟨_,rfl,rfl,by kernel_rfl⟩
theorem zMa:Ok Tryd.prog 107 zwR:=zbv zJB zFh λ args K h=>by
  unfold zwR at h
  split at h
  · rename_i zfk zlu zfl zeY zkn zeL
    obtain⟨⟨⟨rfl,zhH,rfl⟩,⟨rfl,zhI,rfl⟩,hs⟩,hk⟩:=h
    try rw[zeG zhH] at hs
    try rw[zeG zhH] at hk
    try rw[zeG zhI] at hs
    try rw[zeG zhI] at hk
    exact⟨(λ _ _=>[]),(λ _=>false),zwK,zOg (⟨zfk,zhH⟩:(Sl step)) (⟨zeY,zhI⟩:(Sl step)) K hs hk⟩
  · exact h.elim
abbrev T89:Tabs:=((((Tabs.nil.addF 93 zpi).addF 106 zwD).addF 107 zwR).addI 110 zpk)
theorem zMb:TabsOk Tryd.prog T89:=((((TabsOk.nil.addF zIo).addF zL4).addF zMa).addI zuh)
abbrev G89:Ctrs:=csm T89 (λ _ _=>[]) (λ _=>false)
def zwS:Ann:=⟨148,[(0,zK [0] []),(1,zK [0,3] [21]),(2,zK [0,3,23,24] [21]),(3,zK [0,3,23,24,25] [21]),(4,zK [0,3,4,23,24] [21]),(5,zK [0,3,23,24] [21]),(6,zK [0,3,23,24] [21]),(7,zK [0,3] [21]),(8,zK [0,3,5] [21]),(9,zK [0,3,5,45] [21]),(10,zK [0,3,5] [21]),(11,zK [0,3,5,48,49,50] [21]),(12,zK [0,3,5,48,49,50,51] [21]),(13,zK [0,3,5,6,7,48,49,50] [21]),(14,zK [0,3,5,48,49,50,62] [21]),(15,zK [0,3,5,48,49,50] [21]),(16,zK [0,3,5,8] [21]),(17,zK [0,5,8,64,65,66] [21]),(18,zK [0,5,8,64,65,66,67] [21]),(19,zK [0,5,8,9,10,64,65,66] [9,10,21]),(20,zK [0,5,8,9,10,64,65,66,78] [9,10,21]),(21,zK [0,5,8,9,10,11,64,65,66] [9,10,11,21]),(22,zK [0,5,8,9,10,11,12,13,64,65,66] [9,10,11,12,13,21]),(23,zK [0,5,8,9,10,11,12,13,14,64,65,66] [9,10,11,12,13,14,21]),(24,zK [0,5,8,9,10,11,12,13,14,64,65,66,83] [9,10,11,12,13,14,21,129]),(25,zK [0,5,8,9,10,11,12,13,14,64,65,66] [9,10,11,12,13,14,21,129]),(26,zK [0,5,8,9,10,11,12,13,14,64,65,66,87] [9,10,11,12,13,14,21,129]),(27,zK [0,5,8,9,10,11,12,13,14,15,64,65,66,87] [9,10,11,12,13,14,15,21,129]),(28,zK [0,5,8,9,10,11,12,13,14,15,64,65,66,87,125] [9,10,11,12,13,14,15,21,129]),(29,zK [0,5,8,9,10,11,12,13,14,15,64,65,66] [9,10,11,12,13,14,15,21,129]),(30,zK [0,5,8,9,10,11,12,13,14,64,65,66] [9,10,11,12,13,14,21,129]),(31,zK [0,5,8,9,10,11,12,13,64,65,66,136] [9,10,11,12,13,21,129]),(32,zK [0,5,8,9,10,11,12,13,14,64,65,66] [9,10,11,12,13,14,21,129]),(33,zK [0,5,8,11,64,65,66,144] [11,21,129]),(34,zK [0,5,8,64,65,66] [21,129]),(35,zK [0,5,8,64,65,66] [21,129]),(36,zK [2] [])],
 [(3,zK [0,3,23,24] [21]),(9,zK [0,3,5] [21]),(12,zK [0,3,5,48,49,50] [21]),(18,⟨[0,5,8,64,65,66],[21],[],[],[],[],[(8,1005,λ _=>zaA default)]⟩),(24,⟨[0,5,8,9,10,11,12,13,14,64,65,66],[9,10,11,12,13,14,21,129],[],[(11,0,129,130,λ _=>zaA default)],[],[],[]⟩),(27,zK [0,5,8,9,10,11,12,13,14,64,65,66,87] [9,10,11,12,13,14,21,129])],
 [(7,zK [0,3] [21]),(16,zK [0,3,5] [21]),(34,zK [0,5,8,11,64,65,66,144] [11,21,129])],
 [],[]⟩
abbrev R89:=(Sl step)
abbrev e89 (r:R89):List PA:=[.one (.sl r.len 5 (λ i=>zaA (r.get i)))]
@[irreducible] def z89:=ptF Tryd.prog G89 zwS Tryd.f89
@[irreducible] def x89:=exF Tryd.prog G89 zwS Tryd.f89
@[irreducible] def y89:=rnF Tryd.prog G89 zwS Tryd.f89
def zDq (w:web) (zcZ:Int) (zdo:(Sl (Sl Tab))) (zgl:Nat->List PV):St:=⟨[(0,zP (.fp (zaC w) 0)),(3,zv 21),(23,zI (w.Net.Nodes.toNat:Int)),(24,zI zcZ)],[(21,.vec 159 1 24 zdo.len zgl)],[]⟩
abbrev zJE (K:List PA->Prop) (w:web) (X:St->Prop) (P:Int->(Sl (Sl Tab))->Bool) (S:Int->(Sl (Sl Tab))->(Sl step)):Prop:=∀ ⦃zcZ:Int⦄ ⦃zdo:(Sl (Sl Tab))⦄ ⦃zgl:Nat->List PV⦄,P zcZ zdo=true->K (e89 (S zcZ zdo))->zgl=zg zcX zdo->X (zDq w zcZ zdo zgl)
def zDr (w:web) (zbe:(Sl (Sl Tab))) (zbg:Int):St:=⟨[(0,zP (.fp (zaC w) 0)),(3,zv 21),(5,zI zbg)],[(21,.vec 159 1 24 zbe.len (λ i=>zcX (zbe.get i)))],[]⟩
abbrev zFi (K:List PA->Prop) (w:web) (zbe:(Sl (Sl Tab))) (X:St->Prop) (P:Int->Bool) (S:Int->(Sl step)):Prop:=∀ ⦃zbg:Int⦄,P zbg=true->K (e89 (S zbg))->X (zDr w zbe zbg)
def zDs (w:web) (zbe:(Sl (Sl Tab))) (zbo:Int) (zc6:Int):St:=⟨[(0,zP (.fp (zaC w) 0)),(3,zv 21),(5,zI zbo),(48,zv 21),(49,zI (zbe.len:Int)),(50,zI zc6)],[(21,.vec 159 1 24 zbe.len (λ i=>zcX (zbe.get i)))],[]⟩
abbrev zJF (K:List PA->Prop) (w:web) (zbe:(Sl (Sl Tab))) (X:St->Prop) (P:Int->Int->Bool) (S:Int->Int->(Sl step)):Prop:=∀ ⦃zbo:Int⦄ ⦃zc6:Int⦄,P zbo zc6=true->K (e89 (S zbo zc6))->X (zDs w zbe zbo zc6)
def zDt (w:web) (zaN:(Sl (Sl Tab))) (zaZ:Int) (zbN:Bool) (za1:(Sl step)) (zcu:Int) (zdc:(Sl (Sl Tab))) (zb7:Nat->List PV) (zgm:Nat->List PV):St:=⟨[(0,zP (.fp (zaC w) 0)),(5,zI zaZ),(8,zP (.ns zbN za1.len 5 zb7)),(64,zv 21),(65,zI (zaN.len:Int)),(66,zI zcu)],[(21,.vec 159 1 24 zdc.len zgm)],[]⟩
abbrev zwT (K:List PA->Prop) (w:web) (zaN:(Sl (Sl Tab))) (X:St->Prop) (P:Int->Bool->(Sl step)->Int->(Sl (Sl Tab))->Bool) (S:Int->Bool->(Sl step)->Int->(Sl (Sl Tab))->(Sl step)):Prop:=∀ ⦃zaZ:Int⦄ ⦃zbN:Bool⦄ ⦃za1:(Sl step)⦄ ⦃zcu:Int⦄ ⦃zdc:(Sl (Sl Tab))⦄ ⦃zb7:Nat->List PV⦄ ⦃zgm:Nat->List PV⦄,P zaZ zbN za1 zcu zdc=true->K (e89 (S zaZ zbN za1 zcu zdc))->zb7=zg zaA za1->zgm=zg zcX zdc->X (zDt w zaN zaZ zbN za1 zcu zdc zb7 zgm)
def zDu (w:web) (zaN:(Sl (Sl Tab))) (zbU:Int) (zbt:Bool) (zbD:(Sl step)) (zev:Int) (iv6:Int) (hv6:(Sl Tab)) (zjR:Int) (zbl:Int) (kv6:Int) (zd5:(Sl (Sl Tab))) (zcc:(Sl step)) (zdd:Nat->List PV) (zpw:Nat->List PV) (zgn:Nat->List PV) (zeM:Nat->List PV):St:=⟨[(0,zP (.fp (zaC w) 0)),(5,zI zbU),(8,zP (.ns zbt zbD.len 5 zdd)),(9,zp 9 0),(10,zp 10 0),(11,zp 11 0),(12,zp 12 0),(13,zp 13 0),(14,zp 14 0),(64,zv 21),(65,zI (zaN.len:Int)),(66,zI zev)],[(9,.box 3 [zi iv6]),(10,.box 159 [.p (.sl hv6.len 80 zpw)]),(11,.box 127 [.vec 129]),(12,.box 3 [zi zjR]),(13,.box 3 [zi zbl]),(14,.box 3 [zi kv6]),(21,.vec 159 1 24 zd5.len zgn),(129,.vec 130 5 40 zcc.len zeM)],[]⟩
abbrev zFj (K:List PA->Prop) (w:web) (zaN:(Sl (Sl Tab))) (X:St->Prop) (P:Int->Bool->(Sl step)->Int->Int->(Sl Tab)->Int->Int->Int->(Sl (Sl Tab))->(Sl step)->Bool) (S:Int->Bool->(Sl step)->Int->Int->(Sl Tab)->Int->Int->Int->(Sl (Sl Tab))->(Sl step)->(Sl step)):Prop:=∀ ⦃zbU:Int⦄ ⦃zbt:Bool⦄ ⦃zbD:(Sl step)⦄ ⦃zev:Int⦄ ⦃iv6:Int⦄ ⦃hv6:(Sl Tab)⦄ ⦃zjR:Int⦄ ⦃zbl:Int⦄ ⦃kv6:Int⦄ ⦃zd5:(Sl (Sl Tab))⦄ ⦃zcc:(Sl step)⦄ ⦃zdd:Nat->List PV⦄ ⦃zpw:Nat->List PV⦄ ⦃zgn:Nat->List PV⦄ ⦃zeM:Nat->List PV⦄,P zbU zbt zbD zev iv6 hv6 zjR zbl kv6 zd5 zcc=true->K (e89 (S zbU zbt zbD zev iv6 hv6 zjR zbl kv6 zd5 zcc))->zdd=zg zaA zbD->zpw=zg zar hv6->zgn=zg zcX zd5->zeM=zg zaA zcc->X (zDu w zaN zbU zbt zbD zev iv6 hv6 zjR zbl kv6 zd5 zcc zdd zpw zgn zeM)
def zwU (w:web) (zaN:(Sl (Sl Tab))) (zbV:Int) (za2:Bool) (zbO:(Sl step)) (zcR:Int) (iv7:Int) (hv7:(Sl Tab)) (zhr:Int) (zaW:Int) (kv7:Int) (zcL:(Sl (Sl Tab))) (zbx:(Sl step)) (zdv:Nat->List PV) (zl2:Nat->List PV) (zeZ:Nat->List PV) (zdw:Nat->List PV):St:=⟨[(0,zP (.fp (zaC w) 0)),(5,zI zbV),(8,zP (.ns za2 zbO.len 5 zdv)),(9,zp 9 0),(10,zp 10 0),(11,zp 11 0),(12,zp 12 0),(13,zp 13 0),(14,zp 14 0),(64,zv 21),(65,zI (zaN.len:Int)),(66,zI zcR),(87,zP (.fn 110 [] [.fp [.fp (zaC w) 0] 0]))],[(9,.box 3 [zi iv7]),(10,.box 159 [.p (.sl hv7.len 80 zl2)]),(11,.box 127 [.vec 129]),(12,.box 3 [zi zhr]),(13,.box 3 [zi zaW]),(14,.box 3 [zi kv7]),(21,.vec 159 1 24 zcL.len zeZ),(129,.vec 130 5 40 zbx.len zdw)],[]⟩
abbrev zJG (K:List PA->Prop) (w:web) (zaN:(Sl (Sl Tab))) (X:St->Prop) (P:Int->Bool->(Sl step)->Int->Int->(Sl Tab)->Int->Int->Int->(Sl (Sl Tab))->(Sl step)->Bool) (S:Int->Bool->(Sl step)->Int->Int->(Sl Tab)->Int->Int->Int->(Sl (Sl Tab))->(Sl step)->(Sl step)):Prop:=∀ ⦃zbV:Int⦄ ⦃za2:Bool⦄ ⦃zbO:(Sl step)⦄ ⦃zcR:Int⦄ ⦃iv7:Int⦄ ⦃hv7:(Sl Tab)⦄ ⦃zhr:Int⦄ ⦃zaW:Int⦄ ⦃kv7:Int⦄ ⦃zcL:(Sl (Sl Tab))⦄ ⦃zbx:(Sl step)⦄ ⦃zdv:Nat->List PV⦄ ⦃zl2:Nat->List PV⦄ ⦃zeZ:Nat->List PV⦄ ⦃zdw:Nat->List PV⦄,P zbV za2 zbO zcR iv7 hv7 zhr zaW kv7 zcL zbx=true->K (e89 (S zbV za2 zbO zcR iv7 hv7 zhr zaW kv7 zcL zbx))->zdv=zg zaA zbO->zl2=zg zar hv7->zeZ=zg zcX zcL->zdw=zg zaA zbx->X (zwU w zaN zbV za2 zbO zcR iv7 hv7 zhr zaW kv7 zcL zbx zdv zl2 zeZ zdw)
section
variable {K:List PA->Prop}{w:web}{zcZ:Int}{zdo:(Sl (Sl Tab))}{zgl:Nat->List PV}{X0:St->Prop}{P0:Int->(Sl (Sl Tab))->Bool}{S0:Int->(Sl (Sl Tab))->(Sl step)}{zbe:(Sl (Sl Tab))}{zwV:Nat->List PV}{zbg:Int}{X2:St->Prop}{P2:Int->Bool}{S2:Int->(Sl step)}{zbo:Int}{zc6:Int}{X3:St->Prop}{P3:Int->Int->Bool}{S3:Int->Int->(Sl step)}{zbZ:Int}{zaN:(Sl (Sl Tab))}{zwW:Nat->List PV}{zaZ:Int}{zbN:Bool}{za1:(Sl step)}{zcu:Int}{zdc:(Sl (Sl Tab))}{zb7:Nat->List PV}{zgm:Nat->List PV}{X5:St->Prop}{P5:Int->Bool->(Sl step)->Int->(Sl (Sl Tab))->Bool}{S5:Int->Bool->(Sl step)->Int->(Sl (Sl Tab))->(Sl step)}{zbU:Int}{zbt:Bool}{zbD:(Sl step)}{zev:Int}{iv6:Int}{hv6:(Sl Tab)}{zjR:Int}{zbl:Int}{kv6:Int}{zd5:(Sl (Sl Tab))}{zcc:(Sl step)}{zdd:Nat->List PV}{zpw:Nat->List PV}{zgn:Nat->List PV}{zeM:Nat->List PV}{X6:St->Prop}{P6:Int->Bool->(Sl step)->Int->Int->(Sl Tab)->Int->Int->Int->(Sl (Sl Tab))->(Sl step)->Bool}{S6:Int->Bool->(Sl step)->Int->Int->(Sl Tab)->Int->Int->Int->(Sl (Sl Tab))->(Sl step)->(Sl step)}{zbV:Int}{za2:Bool}{zbO:(Sl step)}{zcR:Int}{iv7:Int}{hv7:(Sl Tab)}{zhr:Int}{zaW:Int}{kv7:Int}{zcL:(Sl (Sl Tab))}{zbx:(Sl step)}{zdv:Nat->List PV}{zl2:Nat->List PV}{zeZ:Nat->List PV}{zdw:Nat->List PV}{zio:Int}{zfG:Bool}{zjS:(Sl step)}{znQ:Int}{zlx:Bool}{zl3:(Sl (Sl Tab))}{zjT:(Sl step)}{ztl:Nat->List PV}{zwX:Nat->List PV}{ztm:Nat->List PV}
def ziU (S5:Int->Bool->(Sl step)->Int->(Sl (Sl Tab))->(Sl step)) (w:web) (zaN:(Sl (Sl Tab))) (zio:Int) (zfG:Bool) (zjS:(Sl step)) (znQ:Int) (zlx:Bool) (zl3:(Sl (Sl Tab))) (zjT:(Sl step)):(Sl step) :=
  (cond zlx
 (S5 zio false zjT (w64 (znQ+(1:Int))) zl3)
 (S5 zio zfG zjS (w64 (znQ+(1:Int))) zl3))
def ziV (P5:Int->Bool->(Sl step)->Int->(Sl (Sl Tab))->Bool) (w:web) (zaN:(Sl (Sl Tab))) (zio:Int) (zfG:Bool) (zjS:(Sl step)) (znQ:Int) (zlx:Bool) (zl3:(Sl (Sl Tab))) (zjT:(Sl step)):Bool :=
  (cond zlx
 (P5 zio false zjT (w64 (znQ+(1:Int))) zl3)
 (P5 zio zfG zjS (w64 (znQ+(1:Int))) zl3))
theorem zwY (hX5:zwT K w zaN X5 P5 S5) (hs:ziV P5 w zaN zio zfG zjS znQ zlx zl3 zjT=true) (hk:K (e89 (ziU S5 w zaN zio zfG zjS znQ zlx zl3 zjT))) (zCc:ztl=zg zaA zjS) (zFk:zwX=zg zcX zl3) (zCd:ztm=zg zaA zjT):z89 K [1,0,1,1,1,1,1,1,0,1,0,0,1,1,0,0,1,1,1,1,1,1] [X5] ⟨[(0,zP (.fp (zaC w) 0)),(5,zI zio),(8,zP (.ns zfG zjS.len 5 ztl)),(11,zp 11 0),(64,zv 21),(65,zI (zaN.len:Int)),(66,zI znQ),(144,zB zlx)],[(11,.box 127 [.vec 129]),(21,.vec 159 1 24 zl3.len zwX),(129,.vec 130 5 40 zjT.len ztm)],[]⟩:=by subst zCc;subst zFk;subst zCd;exact zaX (by kernel_rfl) (zc hs hk (λ hs hk=>(hX5 hs hk rfl rfl)) (λ hs hk=>(hX5 hs hk rfl rfl)))
def zFl (S5:Int->Bool->(Sl step)->Int->(Sl (Sl Tab))->(Sl step)) (S6:Int->Bool->(Sl step)->Int->Int->(Sl Tab)->Int->Int->Int->(Sl (Sl Tab))->(Sl step)->(Sl step)) (w:web) (zaN:(Sl (Sl Tab))) (zbV:Int) (za2:Bool) (zbO:(Sl step)) (zcR:Int) (iv7:Int) (hv7:(Sl Tab)) (zhr:Int) (zaW:Int) (kv7:Int) (zcL:(Sl (Sl Tab))) (zbx:(Sl step)):(Sl step) :=
  (S6 zbV za2 zbO zcR iv7 hv7 zhr zaW (w64 (kv7 - (1:Int))) zcL zbx)
def zFm (P5:Int->Bool->(Sl step)->Int->(Sl (Sl Tab))->Bool) (P6:Int->Bool->(Sl step)->Int->Int->(Sl Tab)->Int->Int->Int->(Sl (Sl Tab))->(Sl step)->Bool) (w:web) (zaN:(Sl (Sl Tab))) (zbV:Int) (za2:Bool) (zbO:(Sl step)) (zcR:Int) (iv7:Int) (hv7:(Sl Tab)) (zhr:Int) (zaW:Int) (kv7:Int) (zcL:(Sl (Sl Tab))) (zbx:(Sl step)):Bool :=
  (P6 zbV za2 zbO zcR iv7 hv7 zhr zaW (w64 (kv7 - (1:Int))) zcL zbx)
def znR (S5:Int->Bool->(Sl step)->Int->(Sl (Sl Tab))->(Sl step)) (S6:Int->Bool->(Sl step)->Int->Int->(Sl Tab)->Int->Int->Int->(Sl (Sl Tab))->(Sl step)->(Sl step)) (w:web) (zaN:(Sl (Sl Tab))) (y7:step) (S7:Int->Bool->(Sl step)->Int->Int->(Sl Tab)->Int->Int->Int->(Sl (Sl Tab))->(Sl step)->(Sl step)) (zbV:Int) (za2:Bool) (zbO:(Sl step)) (zcR:Int) (iv7:Int) (hv7:(Sl Tab)) (zhr:Int) (zaW:Int) (kv7:Int) (zcL:(Sl (Sl Tab))) (zbx:(Sl step)):(Sl step) :=
  (cond (y7.from_ == zhr)
 (cond (decide (y7.to ≥ iv7))
 (cond (!(nvr (tL (hv7.get kv7.toNat) y7.to) (tU (hv7.get kv7.toNat) y7.to)))
 (cond (decide ((w64 ((w64 (zaW + y7.length)) + (tL (hv7.get kv7.toNat) y7.to))) < (0:Int)))
 (S6 zbV za2 zbO zcR iv7 hv7 y7.to (w64 (zaW+y7.length)) (w64 (kv7 - (1:Int))) zcL (⟨(zbx.len+1),(zdb zbx.len zbx.get (λ _=>y7))⟩:Sl step))
 (S7 zbV za2 zbO zcR iv7 hv7 zhr zaW kv7 zcL zbx))
 (S7 zbV za2 zbO zcR iv7 hv7 zhr zaW kv7 zcL zbx))
 (S7 zbV za2 zbO zcR iv7 hv7 zhr zaW kv7 zcL zbx))
 (S7 zbV za2 zbO zcR iv7 hv7 zhr zaW kv7 zcL zbx))
def znS (P5:Int->Bool->(Sl step)->Int->(Sl (Sl Tab))->Bool) (P6:Int->Bool->(Sl step)->Int->Int->(Sl Tab)->Int->Int->Int->(Sl (Sl Tab))->(Sl step)->Bool) (w:web) (zaN:(Sl (Sl Tab))) (y7:step) (P7:Int->Bool->(Sl step)->Int->Int->(Sl Tab)->Int->Int->Int->(Sl (Sl Tab))->(Sl step)->Bool) (zbV:Int) (za2:Bool) (zbO:(Sl step)) (zcR:Int) (iv7:Int) (hv7:(Sl Tab)) (zhr:Int) (zaW:Int) (kv7:Int) (zcL:(Sl (Sl Tab))) (zbx:(Sl step)):Bool :=
  (cond (y7.from_ == zhr)
 (cond (decide (y7.to ≥ iv7))
 (decide ((0≤kv7/\kv7 < (hv7.len:Int))) &&
 (decide ((0≤y7.to/\y7.to < (40:Int))) &&
 (cond (!(nvr (tL (hv7.get kv7.toNat) y7.to) (tU (hv7.get kv7.toNat) y7.to)))
 (decide ((0≤kv7/\kv7 < (hv7.len:Int))) &&
 (decide ((0≤y7.to/\y7.to < (40:Int))) &&
 (cond (decide ((w64 ((w64 (zaW + y7.length)) + (tL (hv7.get kv7.toNat) y7.to))) < (0:Int)))
 (decide (((zbx.len+1) * 40≤140737488355328/\zbx.len+1≤9223372036854775807)) &&
 (P6 zbV za2 zbO zcR iv7 hv7 y7.to (w64 (zaW+y7.length)) (w64 (kv7 - (1:Int))) zcL (⟨(zbx.len+1),(zdb zbx.len zbx.get (λ _=>y7))⟩:Sl step)))
 (P7 zbV za2 zbO zcR iv7 hv7 zhr zaW kv7 zcL zbx))))
 (P7 zbV za2 zbO zcR iv7 hv7 zhr zaW kv7 zcL zbx))))
 (P7 zbV za2 zbO zcR iv7 hv7 zhr zaW kv7 zcL zbx))
 (P7 zbV za2 zbO zcR iv7 hv7 zhr zaW kv7 zcL zbx))
def zbQ (S5:Int->Bool->(Sl step)->Int->(Sl (Sl Tab))->(Sl step)) (S6:Int->Bool->(Sl step)->Int->Int->(Sl Tab)->Int->Int->Int->(Sl (Sl Tab))->(Sl step)->(Sl step)) (w:web) (zaN:(Sl (Sl Tab))):List step->Int->Bool->(Sl step)->Int->Int->(Sl Tab)->Int->Int->Int->(Sl (Sl Tab))->(Sl step)->(Sl step):=lpR (zFl S5 S6 w zaN) (znR S5 S6 w zaN)
def zbR (P5:Int->Bool->(Sl step)->Int->(Sl (Sl Tab))->Bool) (P6:Int->Bool->(Sl step)->Int->Int->(Sl Tab)->Int->Int->Int->(Sl (Sl Tab))->(Sl step)->Bool) (w:web) (zaN:(Sl (Sl Tab))):List step->Int->Bool->(Sl step)->Int->Int->(Sl Tab)->Int->Int->Int->(Sl (Sl Tab))->(Sl step)->Bool:=lpR (zFm P5 P6 w zaN) (znS P5 P6 w zaN)
def znT (S5:Int->Bool->(Sl step)->Int->(Sl (Sl Tab))->(Sl step)) (S6:Int->Bool->(Sl step)->Int->Int->(Sl Tab)->Int->Int->Int->(Sl (Sl Tab))->(Sl step)->(Sl step)) (w:web) (zaN:(Sl (Sl Tab))) (zbV:Int) (za2:Bool) (zbO:(Sl step)) (zcR:Int) (iv7:Int) (hv7:(Sl Tab)) (zhr:Int) (zaW:Int) (kv7:Int) (zcL:(Sl (Sl Tab))) (zbx:(Sl step)):(Sl step):=zbQ S5 S6 w zaN (zlr w) zbV za2 zbO zcR iv7 hv7 zhr zaW kv7 zcL zbx
def znU (P5:Int->Bool->(Sl step)->Int->(Sl (Sl Tab))->Bool) (P6:Int->Bool->(Sl step)->Int->Int->(Sl Tab)->Int->Int->Int->(Sl (Sl Tab))->(Sl step)->Bool) (w:web) (zaN:(Sl (Sl Tab))) (zbV:Int) (za2:Bool) (zbO:(Sl step)) (zcR:Int) (iv7:Int) (hv7:(Sl Tab)) (zhr:Int) (zaW:Int) (kv7:Int) (zcL:(Sl (Sl Tab))) (zbx:(Sl step)):Bool:=decide ((zuA w=true)) && zbR P5 P6 w zaN (zlr w) zbV za2 zbO zcR iv7 hv7 zhr zaW kv7 zcL zbx
theorem zFn (hX5:zwT K w zaN X5 P5 S5) (hX6:zFj K w zaN X6 P6 S6) (hs:znU P5 P6 w zaN zbV za2 zbO zcR iv7 hv7 zhr zaW kv7 zcL zbx=true) (hk:K (e89 (znT S5 S6 w zaN zbV za2 zbO zcR iv7 hv7 zhr zaW kv7 zcL zbx))) (ziq:zdv=zg zaA zbO) (zwZ:zl2=zg zar hv7) (zly:zeZ=zg zcX zcL) (zir:zdw=zg zaA zbx):z89 K [1,0,1,1,1,1,1,1,0,1,0,0,1,1,0,0,1,1,1,1,0,1,0,0,1,0,0,1,0] [X5,X6] (zwU w zaN zbV za2 zbO zcR iv7 hv7 zhr zaW kv7 zcL zbx zdv zl2 zeZ zdw) :=
  zaJ hs λ hc hs=>zr (enc:=(λ y:step=>[.agg (zaA y)])) (ys:=zlr w) (g:=(zwU w zaN zbV za2 zbO zcR iv7 hv7 zhr zaW kv7 zcL zbx zdv zl2 zeZ zdw)) (x89 K [1,0,1,1,1,1,1,1,0,1,0,0,1,1,0,0,1,1,1,1,0,1,0,0,1,0,0,1,0] [X5,X6]) (y89 K [1,0,1,1,1,1,1,1,0,1,0,0,1,1,0,0,1,1,1,1,0,1,0,0,1,0,0,1,0] [X5,X6]) (by kernel_rfl) (And.intro (zE enc_40 4 w.Net.Ties.get) (And.intro (rfl:((false,1,false,[none]):MQ)=(false,1,false,[none])) hc)) λ X7 hE hR =>
  (show ∀ l : List step, zJG K w zaN (X7 (l.map (λ y : step => [.agg (zaA y)]))) (zbR P5 P6 w zaN l) (zbQ S5 S6 w zaN l) from zri (X := X7) (enc := (λ y : step => [.agg (zaA y)])) _ _ (znS P5 P6 w zaN) (znR S5 S6 w zaN) (λ Z P S => zJG K w zaN Z P S)
 (by intro zbV za2 zbO zcR iv7 hv7 zhr zaW kv7 zcL zbx zdv zl2 zeZ zdw hs hk ziq zwZ zly zir;subst ziq;subst zwZ;subst zly;subst zir;exact hE _ (zaX (by kernel_rfl) (hX6 hs hk rfl rfl rfl rfl)))
 (by intro y7 rest P7 S7 hX7 zbV za2 zbO zcR iv7 hv7 zhr zaW kv7 zcL zbx zdv zl2 zeZ zdw hs hk ziq zwZ zly zir;subst ziq;subst zwZ;subst zly;subst zir;exact hR _ rest _ (zaX (by kernel_rfl) (zc hs hk (λ hs hk=>(zc hs hk (λ hs hk=>(zaJ hs λ hc hs=>And.intro hc (zaJ hs λ hc hs=>And.intro hc (zc hs hk (λ hs hk=>(zaJ hs λ hc hs=>And.intro hc (zaJ hs λ hc hs=>And.intro hc (zc hs hk (λ hs hk=>(zaJ hs λ hc hs=>And.intro hc (hX6 hs hk rfl rfl rfl (zjJ (enc:=zaA) (f:=zbx.get) (h:=(λ _=>y7)) rfl rfl)))) (λ hs hk=>(hX7 hs hk rfl rfl rfl rfl)))))) (λ hs hk=>(hX7 hs hk rfl rfl rfl rfl)))))) (λ hs hk=>(hX7 hs hk rfl rfl rfl rfl)))) (λ hs hk=>(hX7 hs hk rfl rfl rfl rfl)))))) _ hs hk ziq zwZ zly zir
def ze0 (S5:Int->Bool->(Sl step)->Int->(Sl (Sl Tab))->(Sl step)) (w:web) (zaN:(Sl (Sl Tab))) (S6:Int->Bool->(Sl step)->Int->Int->(Sl Tab)->Int->Int->Int->(Sl (Sl Tab))->(Sl step)->(Sl step)) (zbU:Int) (zbt:Bool) (zbD:(Sl step)) (zev:Int) (iv6:Int) (hv6:(Sl Tab)) (zjR:Int) (zbl:Int) (kv6:Int) (zd5:(Sl (Sl Tab))) (zcc:(Sl step)):(Sl step) :=
  (cond (decide (kv6 ≥ (0:Int)))
 (znT S5 S6 w zaN zbU zbt zbD zev iv6 hv6 zjR zbl kv6 zd5 zcc)
 (cond zbt
 (ziU S5 w zaN zbU zbt zbD zev true zd5 zcc)
 (ziU S5 w zaN zbU zbt zbD zev (decide ((zFg zcc zbD) < (0:Int))) zd5 zcc)))
def ze1 (P5:Int->Bool->(Sl step)->Int->(Sl (Sl Tab))->Bool) (w:web) (zaN:(Sl (Sl Tab))) (P6:Int->Bool->(Sl step)->Int->Int->(Sl Tab)->Int->Int->Int->(Sl (Sl Tab))->(Sl step)->Bool) (zbU:Int) (zbt:Bool) (zbD:(Sl step)) (zev:Int) (iv6:Int) (hv6:(Sl Tab)) (zjR:Int) (zbl:Int) (kv6:Int) (zd5:(Sl (Sl Tab))) (zcc:(Sl step)):Bool :=
  (cond (decide (kv6 ≥ (0:Int)))
 (znU P5 P6 w zaN zbU zbt zbD zev iv6 hv6 zjR zbl kv6 zd5 zcc)
 (decide ((zbt=true∨zbD.len ≠ 0)) &&
 (cond zbt
 (ziV P5 w zaN zbU zbt zbD zev true zd5 zcc)
 (decide ((zJD zcc zbD=true)) &&
 (ziV P5 w zaN zbU zbt zbD zev (decide ((zFg zcc zbD) < (0:Int))) zd5 zcc)))))
def zek (S5:Int->Bool->(Sl step)->Int->(Sl (Sl Tab))->(Sl step)) (w:web) (zaN:(Sl (Sl Tab))):Nat->Int->Bool->(Sl step)->Int->Int->(Sl Tab)->Int->Int->Int->(Sl (Sl Tab))->(Sl step)->(Sl step):=lpO (λ _ _ _ _ _ _ _ _ _ _ _=>default) (ze0 S5 w zaN)
def zel (P5:Int->Bool->(Sl step)->Int->(Sl (Sl Tab))->Bool) (w:web) (zaN:(Sl (Sl Tab))):Nat->Int->Bool->(Sl step)->Int->Int->(Sl Tab)->Int->Int->Int->(Sl (Sl Tab))->(Sl step)->Bool:=lpO (λ _ _ _ _ _ _ _ _ _ _ _=>false) (ze1 P5 w zaN)
def zqO (S5:Int->Bool->(Sl step)->Int->(Sl (Sl Tab))->(Sl step)) (w:web) (zaN:(Sl (Sl Tab))) (zbU:Int) (zbt:Bool) (zbD:(Sl step)) (zev:Int) (iv6:Int) (hv6:(Sl Tab)) (zjR:Int) (zbl:Int) (kv6:Int) (zd5:(Sl (Sl Tab))) (zcc:(Sl step)):(Sl step):=zek S5 w zaN Fuel zbU zbt zbD zev iv6 hv6 zjR zbl kv6 zd5 zcc
def zqP (P5:Int->Bool->(Sl step)->Int->(Sl (Sl Tab))->Bool) (w:web) (zaN:(Sl (Sl Tab))) (zbU:Int) (zbt:Bool) (zbD:(Sl step)) (zev:Int) (iv6:Int) (hv6:(Sl Tab)) (zjR:Int) (zbl:Int) (kv6:Int) (zd5:(Sl (Sl Tab))) (zcc:(Sl step)):Bool:=zel P5 w zaN Fuel zbU zbt zbD zev iv6 hv6 zjR zbl kv6 zd5 zcc
theorem zFo (hX5:zwT K w zaN X5 P5 S5) (hs:zqP P5 w zaN zbU zbt zbD zev iv6 hv6 zjR zbl kv6 zd5 zcc=true) (hk:K (e89 (zqO S5 w zaN zbU zbt zbD zev iv6 hv6 zjR zbl kv6 zd5 zcc))) (zis:zdd=zg zaA zbD) (zFp:zpw=zg zar hv6) (zqQ:zgn=zg zcX zd5) (znV:zeM=zg zaA zcc):z89 K [1,0,1,1,1,1,1,1,0,1,0,0,1,1,0,0,1,1,1,1,0,1,0] [X5] (zDu w zaN zbU zbt zbD zev iv6 hv6 zjR zbl kv6 zd5 zcc zdd zpw zgn zeM) :=
  zl (λ X=>z89 K [1,0,1,1,1,1,1,1,0,1,0,0,1,1,0,0,1,1,1,1,0,1,0,0] [X5,X]) (by kernel_rfl) λ X6 hX =>
  (show ∀ k, zFj K w zaN X6 (zel P5 w zaN k) (zek S5 w zaN k) from zeU _ _ (ze1 P5 w zaN) (ze0 S5 w zaN) (zFj K w zaN X6)
 (by intro _ _ _ _ _ _ _ _ _ _ _ _ _ _ _ hs;exact absurd hs dqk)
 (by intro P6 S6 hX6 zbU zbt zbD zev iv6 hv6 zjR zbl kv6 zd5 zcc zdd zpw zgn zeM hs hk zis zFp zqQ znV;subst zis;subst zFp;subst zqQ;subst znV;exact hX _ (zaX (by kernel_rfl) (zc hs hk (λ hs hk=>(And.intro (And.intro (zE enc_40 4 w.Net.Ties.get) (rfl:((false,1,false,[none]):MQ)=(false,1,false,[none]))) (zFn hX5 hX6 hs hk rfl rfl rfl rfl))) (λ hs hk=>(zaJ hs λ hc hs=>And.intro hc (zc hs hk (λ hs hk=>(zwY hX5 hs hk rfl rfl rfl)) (λ hs hk=>(zaJ hs λ hc hs=>And.intro (And.intro (zE zaA 5 zcc.get) (And.intro (zE zaA 5 zbD.get) hc)) (zwY hX5 hs hk rfl rfl rfl)))))))))) _ hs hk zis zFp zqQ znV
def ziW (w:web) (zaN:(Sl (Sl Tab))) (S5:Int->Bool->(Sl step)->Int->(Sl (Sl Tab))->(Sl step)) (zaZ:Int) (zbN:Bool) (za1:(Sl step)) (zcu:Int) (zdc:(Sl (Sl Tab))):(Sl step) :=
  (cond (decide (zcu < (zaN.len : Int)))
 (cond (decide ((tL ((zdc.get zcu.toNat).get zaZ.toNat) zcu) ≥ (0:Int)))
 (S5 zaZ zbN za1 (w64 (zcu+(1:Int))) zdc)
 (zqO S5 w zaN zaZ zbN za1 zcu zcu (zdc.get zcu.toNat) zcu (0:Int) (w64 (zaZ - (1:Int))) zdc (⟨0,(λ _=>default)⟩:Sl step)))
 za1)
def ziX (w:web) (zaN:(Sl (Sl Tab))) (P5:Int->Bool->(Sl step)->Int->(Sl (Sl Tab))->Bool) (zaZ:Int) (zbN:Bool) (za1:(Sl step)) (zcu:Int) (zdc:(Sl (Sl Tab))):Bool :=
  (cond (decide (zcu < (zaN.len : Int)))
 (decide ((0≤zcu/\zcu < (zdc.len:Int))) &&
 (decide ((zcu.toNat < zdc.len)) &&
 (decide ((0≤zaZ/\zaZ < ((zdc.get zcu.toNat).len:Int))) &&
 (decide ((0≤zcu/\zcu < (40:Int))) &&
 (cond (decide ((tL ((zdc.get zcu.toNat).get zaZ.toNat) zcu) ≥ (0:Int)))
 (P5 zaZ zbN za1 (w64 (zcu+(1:Int))) zdc)
 (zqP P5 w zaN zaZ zbN za1 zcu zcu (zdc.get zcu.toNat) zcu (0:Int) (w64 (zaZ - (1:Int))) zdc (⟨0,(λ _=>default)⟩:Sl step)))))))
 true)
def zem (w:web) (zaN:(Sl (Sl Tab))):Nat->Int->Bool->(Sl step)->Int->(Sl (Sl Tab))->(Sl step):=lpO (λ _ _ _ _ _=>default) (ziW w zaN)
def zen (w:web) (zaN:(Sl (Sl Tab))):Nat->Int->Bool->(Sl step)->Int->(Sl (Sl Tab))->Bool:=lpO (λ _ _ _ _ _=>false) (ziX w zaN)
def zw0 (w:web) (zaN:(Sl (Sl Tab))) (zaZ:Int) (zbN:Bool) (za1:(Sl step)) (zcu:Int) (zdc:(Sl (Sl Tab))):(Sl step):=zem w zaN Fuel zaZ zbN za1 zcu zdc
def zw1 (w:web) (zaN:(Sl (Sl Tab))) (zaZ:Int) (zbN:Bool) (za1:(Sl step)) (zcu:Int) (zdc:(Sl (Sl Tab))):Bool:=zen w zaN Fuel zaZ zbN za1 zcu zdc
theorem zFq (hs:zw1 w zaN zaZ zbN za1 zcu zdc=true) (hk:K (e89 (zw0 w zaN zaZ zbN za1 zcu zdc))) (zfH:zb7=zg zaA za1) (zqR:zgm=zg zcX zdc):z89 K [1,0,1,1,1,1,1,1,0,1,0] [] (zDt w zaN zaZ zbN za1 zcu zdc zb7 zgm) :=
  zl (λ X=>z89 K [1,0,1,1,1,1,1,1,0,1,0,0] [X]) (by kernel_rfl) λ X5 hX =>
  (show ∀ k, zwT K w zaN X5 (zen w zaN k) (zem w zaN k) from zeU _ _ (ziX w zaN) (ziW w zaN) (zwT K w zaN X5)
 (by intro _ _ _ _ _ _ _ hs;exact absurd hs dqk)
 (by intro P5 S5 hX5 zaZ zbN za1 zcu zdc zb7 zgm hs hk zfH zqR;subst zfH;subst zqR;exact hX _ (zaX (by kernel_rfl) (zc hs hk (λ hs hk=>(zaJ hs λ hc hs=>And.intro hc (zaJ hs λ hc hs=>And.intro hc (zaJ hs λ hc hs=>And.intro hc (zaJ hs λ hc hs=>And.intro hc (zc hs hk (λ hs hk=>(hX5 hs hk rfl rfl)) (λ hs hk=>(zFo hX5 hs hk rfl rfl rfl rfl)))))))) (λ hs hk=>hk))))) _ hs hk zfH zqR
def zhJ (w:web) (zbZ:Int) (zaN:(Sl (Sl Tab))):(Sl step) :=
  (zw0 w zaN zbZ true (⟨0,(λ _=>default)⟩:Sl step) (0:Int) zaN)
def zhK (w:web) (zbZ:Int) (zaN:(Sl (Sl Tab))):Bool :=
  (zw1 w zaN zbZ true (⟨0,(λ _=>default)⟩:Sl step) (0:Int) zaN)
theorem zw2 (hs:zhK w zbZ zaN=true) (hk:K (e89 (zhJ w zbZ zaN))) (zFr:zwW=zg zcX zaN):z89 K [1,0,1,1,1,1,1] [] ⟨[(0,zP (.fp (zaC w) 0)),(3,zv 21),(5,zI zbZ)],[(21,.vec 159 1 24 zaN.len zwW)],[]⟩:=by subst zFr;exact zaX (by kernel_rfl) (zFq hs hk rfl rfl)
def ziY (S2:Int->(Sl step)) (w:web) (zbe:(Sl (Sl Tab))) (S3:Int->Int->(Sl step)) (zbo:Int) (zc6:Int):(Sl step) :=
  (cond (decide (zc6 < (zbe.len : Int)))
 (cond (decide ((tL ((zbe.get zc6.toNat).get zbo.toNat) zc6) < (0:Int)))
 (zhJ w zbo zbe)
 (S3 zbo (w64 (zc6+(1:Int)))))
 (S2 (w64 (zbo+(1:Int)))))
def ziZ (P2:Int->Bool) (w:web) (zbe:(Sl (Sl Tab))) (P3:Int->Int->Bool) (zbo:Int) (zc6:Int):Bool :=
  (cond (decide (zc6 < (zbe.len : Int)))
 (decide ((0≤zc6/\zc6 < (zbe.len:Int))) &&
 (decide ((zc6.toNat < zbe.len)) &&
 (decide ((0≤zbo/\zbo < ((zbe.get zc6.toNat).len:Int))) &&
 (decide ((0≤zc6/\zc6 < (40:Int))) &&
 (cond (decide ((tL ((zbe.get zc6.toNat).get zbo.toNat) zc6) < (0:Int)))
 (zhK w zbo zbe)
 (P3 zbo (w64 (zc6+(1:Int)))))))))
 (P2 (w64 (zbo+(1:Int)))))
def zfI (S2:Int->(Sl step)) (w:web) (zbe:(Sl (Sl Tab))):Nat->Int->Int->(Sl step):=lpO (λ _ _=>default) (ziY S2 w zbe)
def zfJ (P2:Int->Bool) (w:web) (zbe:(Sl (Sl Tab))):Nat->Int->Int->Bool:=lpO (λ _ _=>false) (ziZ P2 w zbe)
def zw3 (S2:Int->(Sl step)) (w:web) (zbe:(Sl (Sl Tab))) (zbo:Int) (zc6:Int):(Sl step):=zfI S2 w zbe Fuel zbo zc6
def zw4 (P2:Int->Bool) (w:web) (zbe:(Sl (Sl Tab))) (zbo:Int) (zc6:Int):Bool:=zfJ P2 w zbe Fuel zbo zc6
theorem zFs (hX2:zFi K w zbe X2 P2 S2) (hs:zw4 P2 w zbe zbo zc6=true) (hk:K (e89 (zw3 S2 w zbe zbo zc6))):z89 K [1,0,1,1,1,1,0,1,0,0,1,0,0,1,0] [X2] (zDs w zbe zbo zc6) :=
  zl (λ X=>z89 K [1,0,1,1,1,1,0,1,0,0,1,0,0,1,0,0] [X2,X]) (by kernel_rfl) λ X3 hX =>
  (show ∀ k, zJF K w zbe X3 (zfJ P2 w zbe k) (zfI S2 w zbe k) from zeU _ _ (ziZ P2 w zbe) (ziY S2 w zbe) (zJF K w zbe X3)
 (by intro _ _ hs;exact absurd hs dqk)
 (by intro P3 S3 hX3 zbo zc6 hs hk;exact hX _ (zaX (by kernel_rfl) (zc hs hk (λ hs hk=>(zaJ hs λ hc hs=>And.intro hc (zaJ hs λ hc hs=>And.intro hc (zaJ hs λ hc hs=>And.intro hc (zaJ hs λ hc hs=>And.intro hc (zc hs hk (λ hs hk=>(zw2 hs hk rfl)) (λ hs hk=>(hX3 hs hk)))))))) (λ hs hk=>(hX2 hs hk)))))) _ hs hk
def zi0 (w:web) (zbe:(Sl (Sl Tab))) (S2:Int->(Sl step)) (zbg:Int):(Sl step) :=
  (cond (decide (zbg < w.Net.Nodes))
 (zw3 S2 w zbe zbg (0:Int))
 (zhJ w zbg zbe))
def zi1 (w:web) (zbe:(Sl (Sl Tab))) (P2:Int->Bool) (zbg:Int):Bool :=
  (cond (decide (zbg < w.Net.Nodes))
 (zw4 P2 w zbe zbg (0:Int))
 (zhK w zbg zbe))
def ze2 (w:web) (zbe:(Sl (Sl Tab))):Nat->Int->(Sl step):=lpO (λ _=>default) (zi0 w zbe)
def ze3 (w:web) (zbe:(Sl (Sl Tab))):Nat->Int->Bool:=lpO (λ _=>false) (zi1 w zbe)
def zw5 (w:web) (zbe:(Sl (Sl Tab))) (zbg:Int):(Sl step):=ze2 w zbe Fuel zbg
def zw6 (w:web) (zbe:(Sl (Sl Tab))) (zbg:Int):Bool:=ze3 w zbe Fuel zbg
theorem zFt (hs:zw6 w zbe zbg=true) (hk:K (e89 (zw5 w zbe zbg))):z89 K [1,0,1,1,1,1,0,1,0] [] (zDr w zbe zbg) :=
  zl (λ X=>z89 K [1,0,1,1,1,1,0,1,0,0] [X]) (by kernel_rfl) λ X2 hX =>
  (show ∀ k, zFi K w zbe X2 (ze3 w zbe k) (ze2 w zbe k) from zeU _ _ (zi1 w zbe) (zi0 w zbe) (zFi K w zbe X2)
 (by intro _ hs;exact absurd hs dqk)
 (by intro P2 S2 hX2 zbg hs hk;exact hX _ (zaX (by kernel_rfl) (zc hs hk (λ hs hk=>(zFs hX2 hs hk)) (λ hs hk=>(zw2 hs hk rfl)))))) _ hs hk
def znW (w:web) (zbe:(Sl (Sl Tab))):(Sl step) :=
  (zw5 w zbe (1:Int))
def znX (w:web) (zbe:(Sl (Sl Tab))):Bool :=
  (zw6 w zbe (1:Int))
theorem zFu (hs:znX w zbe=true) (hk:K (e89 (znW w zbe))) (zFv:zwV=zg zcX zbe):z89 K [1,0,1,1] [] ⟨[(0,zP (.fp (zaC w) 0)),(3,zv 21)],[(21,.vec 159 1 24 zbe.len zwV)],[]⟩:=by subst zFv;exact zaX (by kernel_rfl) (zFt hs hk)
def zi2 (w:web) (S0:Int->(Sl (Sl Tab))->(Sl step)) (zcZ:Int) (zdo:(Sl (Sl Tab))):(Sl step) :=
  (cond (decide (zcZ < (w.Net.Nodes.toNat : Int)))
 (S0 (w64 (zcZ+(1:Int))) (⟨zdo.len,(setT zcZ.toNat (zte w zcZ w.Net.Nodes) zdo.get)⟩:Sl (Sl Tab)))
 (znW w zdo))
def zi3 (w:web) (P0:Int->(Sl (Sl Tab))->Bool) (zcZ:Int) (zdo:(Sl (Sl Tab))):Bool :=
  (cond (decide (zcZ < (w.Net.Nodes.toNat : Int)))
 (decide ((zIp w zcZ w.Net.Nodes=true)) &&
 (decide ((0≤zcZ/\zcZ < (zdo.len:Int))) &&
 (decide ((zcZ.toNat < zdo.len)) &&
 (P0 (w64 (zcZ+(1:Int))) (⟨zdo.len,(setT zcZ.toNat (zte w zcZ w.Net.Nodes) zdo.get)⟩:Sl (Sl Tab))))))
 (znX w zdo))
def zhL (w:web):Nat->Int->(Sl (Sl Tab))->(Sl step):=lpO (λ _ _=>default) (zi2 w)
def zhM (w:web):Nat->Int->(Sl (Sl Tab))->Bool:=lpO (λ _ _=>false) (zi3 w)
def zw7 (w:web) (zcZ:Int) (zdo:(Sl (Sl Tab))):(Sl step):=zhL w Fuel zcZ zdo
def znY (w:web) (zcZ:Int) (zdo:(Sl (Sl Tab))):Bool:=zhM w Fuel zcZ zdo
theorem zFw (hs:znY w zcZ zdo=true) (hk:K (e89 (zw7 w zcZ zdo))) (zqS:zgl=zg zcX zdo):z89 K [1,0,1,0,1,0] [] (zDq w zcZ zdo zgl) :=
  zl (λ X=>z89 K [1,0,1,0,1,0,0] [X]) (by kernel_rfl) λ X0 hX =>
  (show ∀ k, zJE K w X0 (zhM w k) (zhL w k) from zeU _ _ (zi3 w) (zi2 w) (zJE K w X0)
 (by intro _ _ _ hs;exact absurd hs dqk)
 (by intro P0 S0 hX0 zcZ zdo zgl hs hk zqS;subst zqS;exact hX _ (zaX (by kernel_rfl) (zc hs hk (λ hs hk=>(zaJ hs λ hc hs=>And.intro (And.intro (zE enc_40 4 w.Net.Ties.get) (And.intro (rfl:((false,1,false,[none]):MQ)=(false,1,false,[none])) hc)) (zaJ hs λ hc hs=>And.intro hc (zaJ hs λ hc hs=>And.intro hc (hX0 hs hk (zll (enc:=zcX) (i:=zcZ.toNat) (k:=0) (f:=zdo.get) (new:=(zcX (zte w zcZ w.Net.Nodes))) (v:=(zte w zcZ w.Net.Nodes)) rfl rfl)))))) (λ hs hk=>(zFu hs hk rfl)))))) _ hs hk zqS
def s89 (w:web):(Sl step) :=
  (zw7 w (0:Int) (⟨w.Net.Nodes.toNat,(λ _=>(⟨0,λ _=>(λ _=>(0:Int))⟩:(Sl Tab)))⟩:Sl (Sl Tab)))
def p89 (w:web):Bool :=
  (decide ((0≤w.Net.Nodes/\w.Net.Nodes=w.Net.Nodes/\w.Net.Nodes≤1000000)) &&
 (znY w (0:Int) (⟨w.Net.Nodes.toNat,(λ _=>(⟨0,λ _=>(λ _=>(0:Int))⟩:(Sl Tab)))⟩:Sl (Sl Tab))))
end
theorem q89 (w:web) (K:List PA->Prop) (hs:p89 w=true) (hk:K (e89 (s89 w))):vcFun Tryd.prog G89 zwS 89 [.one (.fp (zaC w) 0)] K :=
  zaX (by kernel_rfl) (zaJ hs λ hc hs=>And.intro hc (zFw hs hk rfl))
def zCe : List PA → COut
  | [.one (.fp [.int .i64 zaq,.sl zam zaH zan,.fm zbA zaK zaL] 0)]=>.det (IsE enc_40 4 zaH zan/\zbA=(false,1,false,[none])/\p89 (⟨(⟨zaq,(⟨zam,zak zan⟩:(Sl Tie))⟩:Net),(⟨zaK,zaL⟩:Mp)⟩:web)=true) [.one (.sl ((s89 (⟨(⟨zaq,(⟨zam,zak zan⟩:(Sl Tie))⟩:Net),(⟨zaK,zaL⟩:Mp)⟩:web)).len) 5 (λ i=>zaA ((s89 (⟨(⟨zaq,(⟨zam,zak zan⟩:(Sl Tie))⟩:Net),(⟨zaK,zaL⟩:Mp)⟩:web)).get i)))]
  | _=>.no
theorem zJH:zas Tryd.prog 89:=⟨_,rfl,rfl,by kernel_rfl⟩
theorem zNz:Ok Tryd.prog 89 zCe:=zbv zMb zJH λ args K h=>by
  unfold zCe at h
  split at h
  · rename_i zaq zam zaH zan zbA zaK zaL
    obtain⟨⟨⟨rfl,zaz,rfl⟩,rfl,hs⟩,hk⟩:=h
    try rw[zaj zaz] at hs
    try rw[zaj zaz] at hk
    exact⟨(λ _ _=>[]),(λ _=>false),zwS,q89 (⟨(⟨zaq,(⟨zam,zaz⟩:(Sl Tie))⟩:Net),(⟨zaK,zaL⟩:Mp)⟩:web) K hs hk⟩
  · exact h.elim
abbrev T49:Tabs:=(((Tabs.nil.addF 67 zuf).addF 88 zwr).addF 89 zCe)
theorem zMc:TabsOk Tryd.prog T49:=(((TabsOk.nil.addF zLx).addF zL2).addF zNz)
abbrev G49:Ctrs:=csm T49 (λ _ _=>[]) (λ _=>false)
def zFx:Ann:=⟨31,[(0,zK [1] [1]),(1,zK [1,10] [1]),(2,zK [2,3] []),(3,zK [4] [13]),(4,zK [4,16] [13]),(5,zK [2,3] []),(6,zK [4,5] [13]),(7,zK [5,18,19,20] []),(8,zK [5,18,19,20,21] [28]),(9,zK [5,7,18,19,20] [7,28]),(10,zK [5,18,19,20] [28]),(11,zK [5,18,19,20] [28]),(12,zK [2,3] [28])],
 [(8,⟨[5,18,19,20],[28],[(5,28,75,λ _=>enc_75 default)],[],[],[],[]⟩)],
 [(2,zK [1,10] [1]),(3,zK [1] [1]),(5,zK [4,16] [13]),(6,zK [4] [13]),(8,zK [5,18,19,20] [])],
 [],[]⟩
abbrev R49:=((Sl Use)×Int)
abbrev e49 (r:R49):List PA:=[.one (.sl r.1.len 2 (λ i=>enc_75 (r.1.get i))),.one (.int .i64 r.2)]
@[irreducible] def z49:=ptF Tryd.prog G49 zFx Tryd.f49
def zDv (zcI:(Sl step)) (zcS:Int) (zdP:Int) (zc7:(Sl Use)) (zgo:Nat->List PV):St:=⟨[(5,zv 28),(18,zS zaA 5 zcI),(19,zI zcS),(20,zI zdP)],[(28,.vec 75 2 16 zc7.len zgo)],[]⟩
abbrev zJI (K:List PA->Prop) (zcI:(Sl step)) (zcS:Int) (X:St->Prop) (P:Int->(Sl Use)->Bool) (S:Int->(Sl Use)->((Sl Use)×Int)):Prop:=∀ ⦃zdP:Int⦄ ⦃zc7:(Sl Use)⦄ ⦃zgo:Nat->List PV⦄,P zdP zc7=true->K (e49 (S zdP zc7))->zgo=zg enc_75 zc7->X (zDv zcI zcS zdP zc7 zgo)
section
variable {K:List PA->Prop}{n:Net}{za5:Bool}{zqT:Bool}{zcI:(Sl step)}{zcS:Int}{zw8:Nat->List PV}{zdP:Int}{zc7:(Sl Use)}{zgo:Nat->List PV}{X5:St->Prop}{P5:Int->(Sl Use)->Bool}{S5:Int->(Sl Use)->((Sl Use)×Int)}
def zi4 (zcI:(Sl step)) (zcS:Int) (S5:Int->(Sl Use)->((Sl Use)×Int)) (zdP:Int) (zc7:(Sl Use)):((Sl Use)×Int) :=
  (cond (decide (zdP < zcS))
 (S5 (w64 (zdP+(1:Int))) (⟨(zc7.len+1),(zdb zc7.len zc7.get (λ _=>(zcI.get zdP.toNat).Use))⟩:Sl Use))
 (zc7,(0:Int)))
def zi5 (zcI:(Sl step)) (zcS:Int) (P5:Int->(Sl Use)->Bool) (zdP:Int) (zc7:(Sl Use)):Bool :=
  (cond (decide (zdP < zcS))
 (decide ((0≤zdP/\zdP < (zcI.len:Int))) &&
 (decide (((zc7.len+1) * 16≤140737488355328/\zc7.len+1≤9223372036854775807)) &&
 (P5 (w64 (zdP+(1:Int))) (⟨(zc7.len+1),(zdb zc7.len zc7.get (λ _=>(zcI.get zdP.toNat).Use))⟩:Sl Use))))
 true)
def zlz (zcI:(Sl step)) (zcS:Int):Nat->Int->(Sl Use)->((Sl Use)×Int):=lpO (λ _ _=>default) (zi4 zcI zcS)
def zlA (zcI:(Sl step)) (zcS:Int):Nat->Int->(Sl Use)->Bool:=lpO (λ _ _=>false) (zi5 zcI zcS)
def zw9 (zcI:(Sl step)) (zcS:Int) (zdP:Int) (zc7:(Sl Use)):((Sl Use)×Int):=zlz zcI zcS Fuel zdP zc7
def zxa (zcI:(Sl step)) (zcS:Int) (zdP:Int) (zc7:(Sl Use)):Bool:=zlA zcI zcS Fuel zdP zc7
theorem zFy (hs:zxa zcI zcS zdP zc7=true) (hk:K (e49 (zw9 zcI zcS zdP zc7))) (zqU:zgo=zg enc_75 zc7):z49 (Wk K) [1,1,1,1,1,0,1,0] [] (zDv zcI zcS zdP zc7 zgo) :=
  zl (λ X=>z49 (Wk K) [1,1,1,1,1,0,1,0,0] [X]) (by kernel_rfl) λ X5 hX =>
  (show ∀ k, zJI K zcI zcS X5 (zlA zcI zcS k) (zlz zcI zcS k) from zeU _ _ (zi5 zcI zcS) (zi4 zcI zcS) (zJI K zcI zcS X5)
 (by intro _ _ _ hs;exact absurd hs dqk)
 (by intro P5 S5 hX5 zdP zc7 zgo hs hk zqU;subst zqU;exact hX _ (zaX (by kernel_rfl) (zc hs hk (λ hs hk=>(zaJ hs λ hc hs=>And.intro hc (zaJ hs λ hc hs=>And.intro hc (hX5 hs hk (zjJ (enc:=enc_75) (f:=zc7.get) (h:=(λ _=>(zcI.get zdP.toNat).Use)) rfl rfl))))) (λ hs hk=>((zfh hk):Wk K [.one (.sl zc7.len 2 (λ i=>enc_75 (zc7.get i))),.one (.int .i64 (0:Int))])))))) _ hs hk zqU
def zxb (zcI:(Sl step)) (zcS:Int):((Sl Use)×Int) :=
  (zw9 zcI zcS (0:Int) (⟨0,(λ _=>default)⟩:Sl Use))
def zxc (zcI:(Sl step)) (zcS:Int):Bool :=
  (zxa zcI zcS (0:Int) (⟨0,(λ _=>default)⟩:Sl Use))
theorem zFz (hs:zxc zcI zcS=true) (hk:K (e49 (zxb zcI zcS))) (zFA:zw8=zg zaA zcI):z49 (Wk K) [1,1,1,1,1,0,1] [] ⟨[(5,zP (.nils)),(18,zP (.sl zcI.len 5 zw8)),(19,zI zcS),(20,zI (0:Int))],[],[]⟩:=by subst zFA;exact zaX (by kernel_rfl) (zFy hs hk rfl)
def zqV (n:Net):((Sl Use)×Int) :=
  (zxb (s89 (⟨n,(⟨0,(λ _=>none)⟩:Mp)⟩:web)) ((s89 (⟨n,(⟨0,(λ _=>none)⟩:Mp)⟩:web)).len:Int))
def zqW (n:Net):Bool :=
  (decide ((p89 (⟨n,(⟨0,(λ _=>none)⟩:Mp)⟩:web)=true)) &&
 (zxc (s89 (⟨n,(⟨0,(λ _=>none)⟩:Mp)⟩:web)) ((s89 (⟨n,(⟨0,(λ _=>none)⟩:Mp)⟩:web)).len:Int)))
theorem zFB (hs:zqW n=true) (hk:K (e49 (zqV n))):z49 (Wk K) [1,1,1,1] [] ⟨[(4,zp 13 0)],[(13,.box 105 (zm (zaC (⟨n,(⟨0,(λ _=>none)⟩:Mp)⟩:web))))],[]⟩:=zaX (by kernel_rfl) (zaJ hs λ hc hs=>And.intro (And.intro ((λ _=>rfl):(∀ i,sc2 ((λ i=>zaA ((s89 (⟨n,(⟨0,(λ _=>none)⟩:Mp)⟩:web)).get i)) i)=true)) (And.intro (zE enc_40 4 n.Ties.get) (And.intro (rfl:((false,1,false,[none]):MQ)=(false,1,false,[none])) hc))) (zFz hs hk rfl))
def zqX (n:Net) (zqT:Bool):((Sl Use)×Int) :=
  (cond zqT
 ((⟨0,λ _=>default⟩:(Sl Use)),(6:Int))
 (zqV n))
def zqY (n:Net) (zqT:Bool):Bool :=
  (cond zqT
 true
 (zqW n))
theorem zFC (hs:zqY n zqT=true) (hk:K (e49 (zqX n zqT))):z49 (Wk K) [1,1,1,0,1] [] ⟨[(4,zp 13 0),(16,zB zqT)],[(13,.box 105 (zm (zaC (⟨n,(⟨0,(λ _=>none)⟩:Mp)⟩:web))))],[]⟩:=zaX (by kernel_rfl) (zc hs hk (λ hs hk=>((wk hk (zhq (.one (.nil _ _)) (zhq (.one (.rfl _)) zmC))):Wk K [.one (.nils),.one (.int .i64 (6:Int))])) (λ hs hk=>(zFB hs hk)))
def zqZ (n:Net):((Sl Use)×Int) :=
  (zqX n (!(s88 (⟨n,(⟨0,(λ _=>none)⟩:Mp)⟩:web))))
def zq0 (n:Net):Bool :=
  (decide ((p88 (⟨n,(⟨0,(λ _=>none)⟩:Mp)⟩:web)=true)) &&
 (zqY n (!(s88 (⟨n,(⟨0,(λ _=>none)⟩:Mp)⟩:web)))))
theorem zFD (hs:zq0 n=true) (hk:K (e49 (zqZ n))):z49 (Wk K) [1,1] [] ⟨[(1,zp 1 0)],[(1,.box 24 (zm (enc_24 n)))],[]⟩:=zaX (by kernel_rfl) (zaJ hs λ hc hs=>And.intro (And.intro (zE enc_40 4 n.Ties.get) (And.intro (rfl:((false,1,false,[none]):MQ)=(false,1,false,[none])) hc)) (zFC hs hk))
def zq1 (n:Net) (za5:Bool):((Sl Use)×Int) :=
  (cond za5
 ((⟨0,λ _=>default⟩:(Sl Use)),(2:Int))
 (zqZ n))
def zq2 (n:Net) (za5:Bool):Bool :=
  (cond za5
 true
 (zq0 n))
theorem zFE (hs:zq2 n za5=true) (hk:K (e49 (zq1 n za5))):z49 (Wk K) [1,0,1] [] ⟨[(1,zp 1 0),(10,zB za5)],[(1,.box 24 (zm (enc_24 n)))],[]⟩:=zaX (by kernel_rfl) (zc hs hk (λ hs hk=>((wk hk (zhq (.one (.nil _ _)) (zhq (.one (.rfl _)) zmC))):Wk K [.one (.nils),.one (.int .i64 (2:Int))])) (λ hs hk=>(zFD hs hk)))
def s49 (n:Net):((Sl Use)×Int) :=
  (zq1 n (!(s67 n)))
def p49 (n:Net):Bool :=
  (decide ((p67 n=true)) &&
 (zq2 n (!(s67 n))))
end
theorem q49 (n:Net) (K:List PA->Prop) (hs:p49 n=true) (hk:K (e49 (s49 n))):vcFun Tryd.prog G49 zFx 49 [.agg (enc_24 n)] (Wk K) :=
  zaX (by kernel_rfl) (zaJ hs λ hc hs=>And.intro (And.intro (zE enc_40 4 n.Ties.get) hc) (zFE hs hk))
def zCf : List PA → COut
  | [.agg [.int .i64 zae,.sl zad zau zac]]=>.det (IsE enc_40 4 zau zac/\p49 (⟨zae,(⟨zad,zak zac⟩:(Sl Tie))⟩:Net)=true) [.one (.sl (((s49 (⟨zae,(⟨zad,zak zac⟩:(Sl Tie))⟩:Net)).1).len) 2 (λ i=>enc_75 (((s49 (⟨zae,(⟨zad,zak zac⟩:(Sl Tie))⟩:Net)).1).get i))),.one (.int .i64 ((s49 (⟨zae,(⟨zad,zak zac⟩:(Sl Tie))⟩:Net)).2))]
  | _=>.no
theorem zJJ:zas Tryd.prog 49:=⟨_,rfl,rfl,by kernel_rfl⟩
theorem zNA:Ok Tryd.prog 49 zCf:=zgc zMc zJJ λ args K h=>by
  unfold zCf at h
  split at h
  · rename_i zae zad zau zac
    obtain⟨⟨⟨rfl,zal,rfl⟩,hs⟩,hk⟩:=h
    try rw[zaj zal] at hs
    try rw[zaj zal] at hk
    exact⟨_,zff zfg _,(λ _ _=>[]),(λ _=>false),zFx,q49 (⟨zae,(⟨zad,zal⟩:(Sl Tie))⟩:Net) K hs hk⟩
  · exact h.elim
abbrev T53:Tabs:=Tabs.nil
theorem zMd:TabsOk Tryd.prog T53:=TabsOk.nil
abbrev G53:Ctrs:=csm T53 (λ _ _=>[]) (λ _=>false)
def zFF:Ann:=⟨26,[(0,zK [0,1] []),(1,zK [0,1,10] []),(2,zK [4] []),(3,zK [0,1,5] []),(4,zK [0,1,5,14] []),(5,zK [0,1,5] []),(6,zK [0,1,5,25] []),(7,zK [4] []),(8,zK [4] [])],
 [(4,zK [0,1,5] [])],
 [(3,zK [0,1] [])],
 [],[]⟩
abbrev R53:=Bool
abbrev e53 (r:R53):List PA:=[.one (.bool r)]
@[irreducible] def z53:=ptF Tryd.prog G53 zFF Tryd.f53
def zDw (a:(Sl Use)) (b:(Sl Use)) (iv1:Int):St:=⟨[(0,zS enc_75 2 a),(1,zS enc_75 2 b),(5,zI iv1)],[],[]⟩
abbrev zJK (K:List PA->Prop) (a:(Sl Use)) (b:(Sl Use)) (X:St->Prop) (P:Int->Bool) (S:Int->Bool):Prop:=∀ ⦃iv1:Int⦄,P iv1=true->K (e53 (S iv1))->X (zDw a b iv1)
section
variable {K:List PA->Prop}{a:(Sl Use)}{b:(Sl Use)}{iv1:Int}{X1:St->Prop}{P1:Int->Bool}{S1:Int->Bool}
def zi6 (a:(Sl Use)) (b:(Sl Use)) (S1:Int->Bool) (iv1:Int):Bool :=
  (cond (decide (iv1 < (a.len : Int)))
 (cond (!(match ((a.get iv1.toNat).Tie == (b.get iv1.toNat).Tie) with | true => (match ((a.get iv1.toNat).Back == (b.get iv1.toNat).Back) with | true => true | false => false) | false => false))
 false
 (S1 (w64 (iv1+(1:Int)))))
 true)
def zi7 (a:(Sl Use)) (b:(Sl Use)) (P1:Int->Bool) (iv1:Int):Bool :=
  (cond (decide (iv1 < (a.len : Int)))
 (decide ((0≤iv1/\iv1 < (a.len:Int))) &&
 (decide ((0≤iv1/\iv1 < (b.len:Int))) &&
 (cond (!(match ((a.get iv1.toNat).Tie == (b.get iv1.toNat).Tie) with | true => (match ((a.get iv1.toNat).Back == (b.get iv1.toNat).Back) with | true => true | false => false) | false => false))
 true
 (P1 (w64 (iv1+(1:Int)))))))
 true)
def zgp (a:(Sl Use)) (b:(Sl Use)):Nat->Int->Bool:=lpO (λ _=>default) (zi6 a b)
def zgq (a:(Sl Use)) (b:(Sl Use)):Nat->Int->Bool:=lpO (λ _=>false) (zi7 a b)
def zxd (a:(Sl Use)) (b:(Sl Use)) (iv1:Int):Bool:=zgp a b Fuel iv1
def zxe (a:(Sl Use)) (b:(Sl Use)) (iv1:Int):Bool:=zgq a b Fuel iv1
theorem zFG (hs:zxe a b iv1=true) (hk:K (e53 (zxd a b iv1))):z53 K [1,1,0,1,0] [] (zDw a b iv1) :=
  zl (λ X=>z53 K [1,1,0,1,0,0] [X]) (by kernel_rfl) λ X1 hX =>
  (show ∀ k, zJK K a b X1 (zgq a b k) (zgp a b k) from zeU _ _ (zi7 a b) (zi6 a b) (zJK K a b X1)
 (by intro _ hs;exact absurd hs dqk)
 (by intro P1 S1 hX1 iv1 hs hk;exact hX _ (zaX (by kernel_rfl) (zc hs hk (λ hs hk=>(zaJ hs λ hc hs=>And.intro hc (zaJ hs λ hc hs=>And.intro hc (zc hs hk (λ hs hk=>hk) (λ hs hk=>(hX1 hs hk)))))) (λ hs hk=>hk))))) _ hs hk
def zxf (a:(Sl Use)) (b:(Sl Use)):Bool :=
  (zxd a b (0:Int))
def zxg (a:(Sl Use)) (b:(Sl Use)):Bool :=
  (zxe a b (0:Int))
theorem zFH (hs:zxg a b=true) (hk:K (e53 (zxf a b))):z53 K [1,1] [] ⟨[(0,zS enc_75 2 a),(1,zS enc_75 2 b)],[],[]⟩:=zaX (by kernel_rfl) (zFG hs hk)
def s53 (a:(Sl Use)) (b:(Sl Use)):Bool :=
  (cond ((a.len : Int) != (b.len : Int))
 false
 (zxf a b))
def p53 (a:(Sl Use)) (b:(Sl Use)):Bool :=
  (cond ((a.len : Int) != (b.len : Int))
 true
 (zxg a b))
end
theorem q53 (a:(Sl Use)) (b:(Sl Use)) (K:List PA->Prop) (hs:p53 a b=true) (hk:K (e53 (s53 a b))):vcFun Tryd.prog G53 zFF 53 [.one (.sl a.len 2 (λ i=>enc_75 (a.get i))),.one (.sl b.len 2 (λ i=>enc_75 (b.get i)))] K :=
  zaX (by kernel_rfl) (zc hs hk (λ hs hk=>hk) (λ hs hk=>(zFH hs hk)))
def zCg : List PA → COut
  | [.one (.sl zfk zlu zfl),.one (.sl zeY zkn zeL)]=>.det (IsE enc_75 2 zlu zfl/\IsE enc_75 2 zkn zeL/\p53 (⟨zfk,zbk zfl⟩:(Sl Use)) (⟨zeY,zbk zeL⟩:(Sl Use))=true) [.one (.bool (s53 (⟨zfk,zbk zfl⟩:(Sl Use)) (⟨zeY,zbk zeL⟩:(Sl Use))))]
  | _=>.no
theorem zJL:zas Tryd.prog 53:=⟨_,rfl,rfl,by kernel_rfl⟩
theorem zNB:Ok Tryd.prog 53 zCg:=zbv zMd zJL λ args K h=>by
  unfold zCg at h
  split at h
  · rename_i zfk zlu zfl zeY zkn zeL
    obtain⟨⟨⟨rfl,zhH,rfl⟩,⟨rfl,zhI,rfl⟩,hs⟩,hk⟩:=h
    try rw[zaS zhH] at hs
    try rw[zaS zhH] at hk
    try rw[zaS zhI] at hs
    try rw[zaS zhI] at hk
    exact⟨(λ _ _=>[]),(λ _=>false),zFF,q53 (⟨zfk,zhH⟩:(Sl Use)) (⟨zeY,zhI⟩:(Sl Use)) K hs hk⟩
  · exact h.elim
end Go.Proofs
/-
  DERIVED: THE SHELF's CONTRACTS AT THIS DUMP,IN PLAIN WORDS (tools/lay-plain.mjs out of 'YtedhjaaikeakoaaDoorPmLk.lean',which tools/lay-shelf.mjs wrote): THE SAME DECLARATIONS UNDER THE SAME NAMES: 'import','namespace','open','def','theorem' AND NOTHING ELSE: no command of the shelf's: FOR A HAND-IN. Each laying: the table of numbers ('.._ren') and one theorem,a field a fact of the dump's own or the kernel's comparison;each contract: ONE APPLICATION.
-/
namespace Go.Proofs
open Go.Shelf
def Tryd.keysA_ren:Go.Shelf.Ren:=⟨fun | 7=>103 | 10=>117 | n=>n,fun | 23=>103 | 26=>3 | 3=>4 | 28=>152 | 0=>0 | 27=>151 | 33=>169 | 4=>4 | n=>n,fun | n=>n⟩
theorem Tryd.keysA : Go.Proofs.SlLaysZI.n7 Tryd.prog Tryd.keysA_ren := {
  mixed:=by kernel_rfl
  f7:=⟨Tryd.f103.name,by decide,Tryd.func103.trans (congrArg some (by kernel_rfl))⟩
  f10:=⟨Tryd.f117.name,by decide,Tryd.func117.trans (congrArg some (by kernel_rfl))⟩
  t0:=Tryd.underlying0
  a0:=Tryd.isAgg0
  z0:=Tryd.sizeOf0
  v0:=Tryd.zeroValue0
  t4:=Tryd.underlying4
  a4:=Tryd.isAgg4
  z4:=Tryd.sizeOf4
  v4:=Tryd.zeroValue4
  t23:=Tryd.underlying103
  a23:=Tryd.isAgg103
  z23:=Tryd.sizeOf103
  v23:=Tryd.zeroValue103
  t26:=Tryd.underlying3
  a26:=Tryd.isAgg3
  z26:=Tryd.sizeOf3
  v26:=Tryd.zeroValue3
  t27:=Tryd.underlying151
  a27:=Tryd.isAgg151
  z27:=Tryd.sizeOf151
  v27:=Tryd.zeroValue151
  t28:=Tryd.underlying152
  a28:=Tryd.isAgg152
  z28:=Tryd.sizeOf152
  v28:=Tryd.zeroValue152
  t33:=Tryd.underlying169
  a33:=Tryd.isAgg169
  z33:=Tryd.sizeOf169
  v33:=Tryd.zeroValue169 }
def Tryd.sortedA_ren:Go.Shelf.Ren:=⟨fun | 6=>102 | 8=>115 | 9=>116 | 11=>129 | 13=>113 | 12=>130 | 23=>127 | 24=>128 | 14=>136 | 15=>137 | 16=>138 | 17=>139 | 18=>140 | 19=>141 | 20=>142 | 21=>143 | 22=>144 | 25=>146 | 26=>132 | 27=>133 | 28=>147 | 29=>148 | 30=>114 | 31=>149 | n=>n,fun | 26=>3 | 28=>152 | 24=>27 | 0=>0 | 3=>3 | 37=>168 | 48=>182 | 50=>184 | 4=>4 | 40=>175 | 39=>174 | 45=>179 | 5=>5 | 9=>9 | 51=>187 | 55=>191 | 57=>199 | 58=>200 | 33=>169 | n=>n,fun | n=>n⟩
theorem Tryd.sortedA : Go.Proofs.SlLaysZI.n6 Tryd.prog Tryd.sortedA_ren := {
  mixed:=by kernel_rfl
  f6:=⟨Tryd.f102.name,by decide,Tryd.func102.trans (congrArg some (by kernel_rfl))⟩
  f8:=⟨Tryd.f115.name,by decide,Tryd.func115.trans (congrArg some (by kernel_rfl))⟩
  f11:=⟨Tryd.f129.name,by decide,Tryd.func129.trans (congrArg some (by kernel_rfl))⟩
  t0:=Tryd.underlying0
  a0:=Tryd.isAgg0
  z0:=Tryd.sizeOf0
  v0:=Tryd.zeroValue0
  t24:=Tryd.underlying27
  a24:=Tryd.isAgg27
  z24:=Tryd.sizeOf27
  v24:=Tryd.zeroValue27
  t26:=Tryd.underlying3
  a26:=Tryd.isAgg3
  z26:=Tryd.sizeOf3
  v26:=Tryd.zeroValue3
  t28:=Tryd.underlying152
  a28:=Tryd.isAgg152
  z28:=Tryd.sizeOf152
  v28:=Tryd.zeroValue152
  i26:=by kernel_rfl }
def Tryd.sortA_ren:Go.Shelf.Ren:=⟨fun | 5=>116 | 8=>113 | 7=>130 | 19=>127 | 20=>128 | 10=>136 | 11=>137 | 12=>138 | 13=>139 | 14=>140 | 15=>141 | 16=>142 | 17=>143 | 18=>144 | 30=>146 | 31=>132 | 32=>133 | 33=>147 | 34=>148 | 35=>114 | 40=>149 | n=>n,fun | 23=>27 | 25=>3 | 3=>3 | 32=>168 | 22=>27 | 0=>0 | 44=>182 | 46=>184 | 4=>4 | 36=>175 | 35=>174 | 41=>179 | 5=>5 | 9=>9 | 53=>187 | 57=>191 | 63=>199 | 64=>200 | n=>n,fun | n=>n⟩
theorem Tryd.sortA : Go.Proofs.SlLaysM.n5 Tryd.prog Tryd.sortA_ren := {
  mixed:=by kernel_rfl
  f5:=⟨Tryd.f116.name,by decide,Tryd.func116.trans (congrArg some (by kernel_rfl))⟩
  f7:=⟨Tryd.f130.name,by decide,Tryd.func130.trans (congrArg some (by kernel_rfl))⟩
  f8:=Tryd.func113.trans (congrArg some (by kernel_rfl))
  f10:=⟨Tryd.f136.name,by decide,Tryd.func136.trans (congrArg some (by kernel_rfl))⟩
  f11:=⟨Tryd.f137.name,by decide,Tryd.func137.trans (congrArg some (by kernel_rfl))⟩
  f12:=⟨Tryd.f138.name,by decide,Tryd.func138.trans (congrArg some (by kernel_rfl))⟩
  f13:=⟨Tryd.f139.name,by decide,Tryd.func139.trans (congrArg some (by kernel_rfl))⟩
  f14:=⟨Tryd.f140.name,by decide,Tryd.func140.trans (congrArg some (by kernel_rfl))⟩
  f15:=⟨Tryd.f141.name,by decide,Tryd.func141.trans (congrArg some (by kernel_rfl))⟩
  f16:=⟨Tryd.f142.name,by decide,Tryd.func142.trans (congrArg some (by kernel_rfl))⟩
  f17:=⟨Tryd.f143.name,by decide,Tryd.func143.trans (congrArg some (by kernel_rfl))⟩
  f18:=⟨Tryd.f144.name,by decide,Tryd.func144.trans (congrArg some (by kernel_rfl))⟩
  f19:=Tryd.func127.trans (congrArg some (by kernel_rfl))
  f20:=Tryd.func128.trans (congrArg some (by kernel_rfl))
  f30:=⟨Tryd.f146.name,by decide,Tryd.func146.trans (congrArg some (by kernel_rfl))⟩
  f31:=Tryd.func132.trans (congrArg some (by kernel_rfl))
  f32:=Tryd.func133.trans (congrArg some (by kernel_rfl))
  f33:=⟨Tryd.f147.name,by decide,Tryd.func147.trans (congrArg some (by kernel_rfl))⟩
  f34:=⟨Tryd.f148.name,by decide,Tryd.func148.trans (congrArg some (by kernel_rfl))⟩
  f35:=⟨Tryd.f114.name,by decide,Tryd.func114.trans (congrArg some (by kernel_rfl))⟩
  f40:=⟨Tryd.f149.name,by decide,Tryd.func149.trans (congrArg some (by kernel_rfl))⟩
  t0:=Tryd.underlying0
  a0:=Tryd.isAgg0
  z0:=Tryd.sizeOf0
  v0:=Tryd.zeroValue0
  t3:=Tryd.underlying3
  a3:=Tryd.isAgg3
  z3:=Tryd.sizeOf3
  v3:=Tryd.zeroValue3
  t4:=Tryd.underlying4
  a4:=Tryd.isAgg4
  z4:=Tryd.sizeOf4
  v4:=Tryd.zeroValue4
  t5:=Tryd.underlying5
  a5:=Tryd.isAgg5
  z5:=Tryd.sizeOf5
  v5:=Tryd.zeroValue5
  t9:=Tryd.underlying9
  a9:=Tryd.isAgg9
  z9:=Tryd.sizeOf9
  v9:=Tryd.zeroValue9
  t22:=Tryd.underlying27
  a22:=Tryd.isAgg27
  z22:=Tryd.sizeOf27
  v22:=Tryd.zeroValue27
  t23:=Tryd.underlying27
  a23:=Tryd.isAgg27
  z23:=Tryd.sizeOf27
  v23:=Tryd.zeroValue27
  t25:=Tryd.underlying3
  a25:=Tryd.isAgg3
  z25:=Tryd.sizeOf3
  v25:=Tryd.zeroValue3
  t32:=Tryd.underlying168
  a32:=Tryd.isAgg168
  z32:=Tryd.sizeOf168
  v32:=Tryd.zeroValue168
  t35:=Tryd.underlying174
  a35:=Tryd.isAgg174
  z35:=Tryd.sizeOf174
  v35:=Tryd.zeroValue174
  t36:=Tryd.underlying175
  a36:=Tryd.isAgg175
  z36:=Tryd.sizeOf175
  v36:=Tryd.zeroValue175
  t41:=Tryd.underlying179
  a41:=Tryd.isAgg179
  z41:=Tryd.sizeOf179
  v41:=Tryd.zeroValue179
  t44:=Tryd.underlying182
  a44:=Tryd.isAgg182
  z44:=Tryd.sizeOf182
  v44:=Tryd.zeroValue182
  t46:=Tryd.underlying184
  a46:=Tryd.isAgg184
  z46:=Tryd.sizeOf184
  v46:=Tryd.zeroValue184
  t53:=Tryd.underlying187
  a53:=Tryd.isAgg187
  z53:=Tryd.sizeOf187
  v53:=Tryd.zeroValue187
  t57:=Tryd.underlying191
  a57:=Tryd.isAgg191
  z57:=Tryd.sizeOf191
  v57:=Tryd.zeroValue191
  t63:=Tryd.underlying199
  a63:=Tryd.isAgg199
  z63:=Tryd.sizeOf199
  v63:=Tryd.zeroValue199
  t64:=Tryd.underlying200
  a64:=Tryd.isAgg200
  z64:=Tryd.sizeOf200
  v64:=Tryd.zeroValue200 }
end Go.Proofs
namespace Go.Pm
open Go.RowKit Go.Maps Go.Sort Go.Shelf Go.Proofs
set_option maxRecDepth 100000

theorem zlB {F : List Int → Option (List Int)} : ∀ (f : Nat) (i : Int) (n : Nat) (l : List Int), zuy F f i n = some l → l.length = n ∧ (∀ x ∈ l, F [x] ≠ none ∧ i ≤ x ∧ x < i + f) ∧ l.Pairwise (· < ·)
  | _,_,0,l,h=>by simp[zuy] at h;subst h;exact⟨rfl,λ x hx=>by simp at hx,List.Pairwise.nil⟩
  | 0,_,n+1,l,h=>by simp[zuy] at h
  | f+1,i,n+1,l,h=>by
    simp only[zuy] at h
    split at h
    · rename_i v hv
      split at h
      · rename_i r hr
        simp only[dqa] at h;subst h
        obtain⟨h1,h2,h3⟩:=zlB f (i+1) n r hr
        refine⟨by simp[h1],λ x hx=>?_,List.pairwise_cons.2 ⟨λ x hx=>by have:=h2 x hx;omega,h3⟩⟩
        rcases dqq.1 hx with rfl | hx
        · exact⟨by rw[hv];simp,by omega,by omega⟩
        · have:=h2 x hx;exact⟨this.1,by omega,by omega⟩
      · cases h
    · obtain ⟨h1, h2, h3⟩ := zlB f (i + 1) (n + 1) l h
      exact⟨h1,λ x hx=>by have:=h2 x hx;exact⟨this.1,by omega,by omega⟩,h3⟩
theorem zlC {α : Type} [DecidableEq α] : ∀ {l m : List α}, l.Nodup → (∀ x ∈ l, x ∈ m) → m.length ≤ l.length → l.Perm m
  | [],m,_,_,h=>by
    have:m=[]:=List.eq_nil_of_length_eq_zero (by simpa using h)
    subst this;exact .refl _
  | a :: l,m,hn,hs,h=>by
    obtain⟨h1,h2⟩:=List.nodup_cons.1 hn
    have ha:=hs a dqj
    have hp:=List.perm_cons_erase ha
    refine (List.Perm.cons a (zlC h2 (λ x hx=>?_) ?_)).trans hp.symm
    · exact (List.mem_erase_of_ne (λ e=>h1 (by rw[← e];exact hx))).2 (hs x (dqf _ hx))
    · have := hp.length_eq
      simp at this h
      omega

theorem zCh:zoA Tryd.prog 103 (.keys 117):=λ w mb=>by
 refine⟨⟨_,rfl,rfl,by kernel_rfl⟩,?_⟩
 have c:CallsIn Fence.wide 5 Tryd.prog 103 #[.map (some mb)] w λ e w'=>e=.returned (.func (.func 117) #[] #[.pointer (some ⟨w.heap.size,0,none⟩)])/\w'=w.alloc (.cells #[.map (some mb)] 103):=AnyZI.keys_in Tryd.keysA Fence.wide 5 trivial rfl (some mb) w
 refine ((callsIn_wide (n:=5)).1 c).mono ?_
 rintro e w' ⟨rfl,rfl⟩
 exact⟨rfl,_,rfl⟩
theorem sortsA (m:Nat):AnyZI.SortsIn Tryd.prog Tryd.sortedA_ren Fence.wide m :=
  ⟨λ blk off cap ss W hH hblk hsz=>callsIn_wide.2 (AnyM.slices_Sort_int Tryd.sortA blk off cap ss W hH hblk hsz),
   λ p cap W=>callsIn_wide.2 (AnyM.slices_Sort_int_none Tryd.sortA p cap W)⟩

def rdN:Value->Option (DataW Unit×List MemPlace):=λ _=>some (.nil,[])
theorem zui:zoA Tryd.prog 102 (.sorted 117):=λ w h k mb C ty fr es clock vt q n F hw hk hC hb hE hm hn hky=>by
 refine⟨⟨_,rfl,rfl,by kernel_rfl⟩,?_⟩
 obtain⟨en,M⟩:=hm
 have E:=zhn hE
 have hq1:q.1=false:=by
  have e:=E.kag
  rw[show ze7 Tryd.prog 3=some false by kernel_rfl] at e
  exact (Option.some.inj e).symm
 have hq2:q.2.1=1:=by
  have e:=E.key
  rw[show zdY Tryd.prog 8 3=some 1 by kernel_rfl] at e
  exact (Option.some.inj e).symm
 obtain⟨l,hl⟩:=Option.isSome_iff_exists.1 hky
 have hll:zuz F n=l:=by unfold zuz;rw[hl];rfl
 obtain⟨l1,l2,l3⟩:=zlB _ _ _ _ hl
 rw[hll]
 have one:∀ x∈en,x.1=[x.1.headD 0]:=λ x hx=>by
  have:=(M.len x hx).1
  rw[hq2] at this
  match x.1,this with
  | [a],_=>rfl
 have hkeys:es.toList.map (·.key)=(en.map λ x=>x.1.headD 0).map encZ:=by
  have:=congrArg (List.map Prod.fst) M.ents
  simp only[List.map_map] at this ⊢
  refine (show es.toList.map (·.key)=_ from this).trans (List.map_congr_left λ x hx=>?_)
  show zbC q.1 x.1=encZ (x.1.headD 0)
  rw[hq1];rfl
 have hkn:(en.map λ x=>x.1.headD 0).Nodup:=by
  have:(en.map (·.1))=(en.map λ x=>x.1.headD 0).map λ a=>[a]:=by
   rw[List.map_map];exact List.map_congr_left λ x hx=>one x hx
  have hd:=M.nodup
  rw[this] at hd
  exact (List.pairwise_map.1 hd).imp λ h e=>h (by rw[e])
 have hperm:l.Perm (en.map λ x=>x.1.headD 0):=by
  refine zlC (l3.imp λ h=>Int.ne_of_lt h) (λ x hx=>?_) (by rw[List.length_map,← M.size,l1];exact dqt _)
  have h1:=(l2 x hx).1
  rw[M.find [x] (by rw[hq2];rfl)] at h1
  by_cases hex:∃ y∈en,y.1=[x]
  ·obtain ⟨y, hy, e⟩ := hex
   exact dqz.2 ⟨y,hy,by rw[e];rfl⟩
  ·exact absurd (zgU λ y hy e=>hex ⟨y,hy,e⟩) h1
 have hread:∀ x∈es.toList,∃ a:Int,x.key=encZ a/\keyOf Tryd.prog 3 x.key=some (.int .i64 a):=λ x hx=>by
  have hm:x.key∈es.toList.map (·.key):=dqz.2 ⟨x,hx,rfl⟩
  rw[hkeys] at hm
  obtain⟨a,ha,e⟩:=dqz.1 hm
  have hb:=(l2 a (hperm.mem_iff.2 ha)).2
  refine⟨a,e.symm,?_⟩
  rw[← e]
  have hu:Tryd.prog.underlying 3=some (.int .i64):=Tryd.underlying3
  have hwf:(Lit.int .i64 a).wf=true:=by
   simp only[Lit.wf,dqm,decide_eq_true_eq]
   have e1:IntKind.i64.min = -9223372036854775808:=by decide
   have e2:IntKind.i64.max=9223372036854775807:=by decide
   rw[e1,e2]
   have:=hb.2
   omega
  simp[keyOf,mapKey,hu,hwf]
 have hsize:es.size=n:=by
  have:=congrArg List.length M.ents
  simp at this
  rw[this,M.size]
 have hst:MapKept.Stamped es clock:=⟨M.born,M.bornN,by rw[hkeys];exact List.pairwise_map.2 (hkn.imp λ h e=>h (encZ_inj e))⟩
 have hown:w.ownsMap Tryd.prog 3 rdN mb n (.map ((es.toList.map (WideElems.rg Tryd.prog 3 rdN)).foldr DataW.insert [])) :=
  ⟨es,clock,hb,⟨by rw[hsize];exact dqE hn (by decide),hst,λ x hx=>by
   obtain⟨a,e1,e2⟩:=hread x hx
   exact⟨(.int .i64 a,.nil),by simp only[WideElems.rd,e2,rdN,Option.bind_some,Option.map_some]⟩⟩,by omega,rfl⟩
 have hik:(intKeys (.map ((es.toList.map (WideElems.rg Tryd.prog 3 rdN)).foldr DataW.insert []))).Perm l:=by
  show (((es.toList.map (WideElems.rg Tryd.prog 3 rdN)).foldr DataW.insert []).map λ p=>intOf p.1).Perm l
  refine ((WideShapes.sorted_perm _).map _).trans (List.Perm.trans (List.Perm.of_eq ?_) hperm.symm)
  rw[List.map_map]
  have e:(en.map λ x=>x.1.headD 0)=es.toList.map λ x=>intOf ((keyOf Tryd.prog 3 x.key).getD (.bool false)):=by
   have h1:(en.map λ x=>x.1.headD 0)=((en.map λ x=>x.1.headD 0).map encZ).map λ v=>match v with | .int _ a=>a | _=>0:=by
    rw[List.map_map];exact (List.map_id _).symm
   rw[h1,← hkeys,List.map_map]
   refine List.map_congr_left λ x hx=>?_
   obtain⟨a,e1,e2⟩:=hread x hx
   simp only[Function.comp,e2]
   rw[e1];rfl
  rw[e]
  refine List.map_congr_left λ x hx=>?_
  obtain⟨a,e1,e2⟩:=hread x hx
  simp only[Function.comp,WideElems.rg,WideElems.rd,e2,rdN,Option.bind_some,Option.map_some,Option.getD_some]
 have hsz:Maps.size (DataW.map ((es.toList.map (WideElems.rg Tryd.prog 3 rdN)).foldr DataW.insert []):DataW Unit)=n:=by
  show List.length _=n
  rw[(WideShapes.sorted_perm _).length_eq];simp[hsize]
 have hlt:k < w.heap.size:=hw.lt hk
 have hcell:w.cell? ⟨k,0,none⟩=some (.map (some mb)):=by
  have:=hw.fz hk
  simp[World.cell?,this,hC]
 have hseq:SeqGives Fence.wide 2 Tryd.prog 117 #[.pointer (some ⟨k,0,none⟩)] encZ (λ ss=>ss.Perm (intKeys _)) (Maps.size _) w :=
  AnyZI.keys_gives (ρ:=Tryd.keysA_ren) { Tryd.keysA with } Fence.wide _ trivial rfl (by omega) k mb n _ w hlt hcell hown
 have cS:=AnyZI.sorted_in Tryd.sortedA Fence.wide 5 trivial trivial trivial trivial rfl (by omega) (sortsA _) (enters_of Tryd.func116 (by kernel_rfl) rfl) 117 #[.pointer (some ⟨k,0,none⟩)] trivial (enters_of Tryd.func117 (by kernel_rfl) rfl) _ _ (by rw[hsz];exact dqE hn (by decide)) (by rw[hsz];omega) _ hseq
 change CallsIn _ _ Tryd.prog 102 _ _ _ at cS
 refine ((callsIn_wide (n:=5)).1 cS).mono ?_
 rintro e w' ⟨v,ss,rfl,hS,hrow,_,hbel⟩
 refine⟨v,rfl,?_,⟨hbel,Nat.zero_le _⟩⟩
 have hsl:ss.mergeSort (λ x y=>decide (x≤y))=l:=by
  rw[show ss.mergeSort (λ x y=>decide (x≤y))=l.mergeSort leI from mergeSort_of_perm_i (hS.trans hik)]
  exact List.mergeSort_of_pairwise (l3.imp λ h=>by simp only[leI,decide_eq_true_eq];exact Int.le_of_lt h)
 have hlen:ss.length=n:=by rw[(hS.trans hik).length_eq,l1]
 rw[hsl,hlen] at hrow
 exact hrow
end Go.Pm
namespace Go.Proofs
open Go Go.Pm
set_option maxRecDepth 100000
set_option linter.unusedVariables false
attribute [local irreducible] Go.Pm.vcFun Go.Pm.vc Go.Pm.vcIter
abbrev zDx:OwnK:=.sorted 117
theorem zMe:zoA Tryd.prog 102 zDx:=zui
abbrev zDy:OwnK:=.keys 117
theorem zMf:zoA Tryd.prog 103 zDy:=zCh
structure Rec69 where
  S:web->Int->((Sl (Sl Int))×web)
  P:web->Int->Bool
class Slf69 where
  r:Rec69
section
variable [Slf69]
def zxh : MK
  | [.box 105 [.p (.int .i64 zav),.p (.sl zat zbJ zao),.mo 3 4 zdx zaQ zaR],.d (.one (.int .i64 b1))]=>some (IsE enc_40 4 zbJ zao/\zdx=(false,1,false,[none])/\Slf69.r.P (⟨(⟨zav,(⟨zat,zak zao⟩:(Sl Tie))⟩:Net),(⟨zaQ,zaR⟩:Mp)⟩:web) b1=true,[.one (.sl (((Slf69.r.S (⟨(⟨zav,(⟨zat,zak zao⟩:(Sl Tie))⟩:Net),(⟨zaQ,zaR⟩:Mp)⟩:web) b1).1).len) 1 (λ i=>zbT (((Slf69.r.S (⟨(⟨zav,(⟨zat,zak zao⟩:(Sl Tie))⟩:Net),(⟨zaQ,zaR⟩:Mp)⟩:web) b1).1).get i)))],[.box 105 [.p (.int .i64 (((Slf69.r.S (⟨(⟨zav,(⟨zat,zak zao⟩:(Sl Tie))⟩:Net),(⟨zaQ,zaR⟩:Mp)⟩:web) b1).2).Net.Nodes)),.p (.sl (((Slf69.r.S (⟨(⟨zav,(⟨zat,zak zao⟩:(Sl Tie))⟩:Net),(⟨zaQ,zaR⟩:Mp)⟩:web) b1).2).Net.Ties.len) 4 (λ i=>enc_40 (((Slf69.r.S (⟨(⟨zav,(⟨zat,zak zao⟩:(Sl Tie))⟩:Net),(⟨zaQ,zaR⟩:Mp)⟩:web) b1).2).Net.Ties.get i))),.mo 3 4 (false,1,false,[none]) ((((Slf69.r.S (⟨(⟨zav,(⟨zat,zak zao⟩:(Sl Tie))⟩:Net),(⟨zaQ,zaR⟩:Mp)⟩:web) b1).2).out).n) ((((Slf69.r.S (⟨(⟨zav,(⟨zat,zak zao⟩:(Sl Tie))⟩:Net),(⟨zaQ,zaR⟩:Mp)⟩:web) b1).2).out).F)],.d (.one (.int .i64 b1))])
  | _=>none
abbrev T69:Tabs:=(((((Tabs.nil.addF 88 zwr).addF 89 zCe).addO 102 zDx).addO 103 zDy).addM 69 zxh)
theorem zMg (hself:zj0 Tryd.prog 69 zxh):TabsOk Tryd.prog T69:=(((((TabsOk.nil.addF zL2).addF zNz).addO zMe).addO zMf).addM hself)
abbrev zCi:Ctrs:=csm T69 (λ _ _=>[]) (λ _=>false)
def zfV:Ann:=⟨57,[(0,zK [0,1] [0,12288]),(1,zK [0,1,10] [0,12288]),(2,zK [0,4] [0,17,12288]),(3,zK [0,1,19] [0,12288]),(4,zK [0,4] [0,12288]),(5,zK [0,1,5] [0,12288]),(6,zK [0,1,5,21,22,23] [0,12288]),(7,zK [0,1,5,21,22,23,24] [0,47,12288]),(8,zK [0,1,5,7,21,22,23] [0,7,47,12288]),(9,zK [0,1,5,7,21,22,23,34] [0,7,47,12288]),(10,zK [0,1,5,7,21,22,23] [0,7,47,12288]),(11,zK [0,1,5,7,21,22,23] [0,7,47,12288]),(12,zK [0,1,5,21,22,23] [0,47,12288]),(13,zK [0,1,5,21,22,23] [0,47,12288]),(14,zK [0,4] [0,47,12288])],
 [(7,⟨[0,1,5,21,22,23],[0,47,12288],[(5,47,27,λ _=>zbT default)],[],[],[],[]⟩)],
 [],
 [],[]⟩
def zgr (w:web) (left:Int) (zaB:Int) (za0:Int) (zgs:Nat) (zcy:Nat->List PV) (zgt:Nat) (zcz:Nat->List PV) (zaf:Nat) (zab:(List Int->Option (List Int))):St:=⟨[(0,.one (.c (.ptr 0 0))),(1,.one (.c (.p (.int .i64 left)))),(5,.one (.c (.vec 47))),(21,.one (.c (.p (.sl ((s89 w).len) 5 (λ i=>zaA ((s89 w).get i)))))),(22,.one (.c (.p (.int .i64 ((s89 w).len:Int))))),(23,.one (.c (.p (.int .i64 zaB))))],[(0,.box 105 [.p (.int .i64 za0),.p (.sl zgs 4 zcy),.mo 12288]),(47,.vec 27 1 24 zgt zcz),(12288,.mo 3 4 (false,1,false,[none]) zaf zab)],[]⟩
def zit (K:List PA×List XA->Prop) (w:web) (left:Int) (zaB:Int) (za0:Int) (zgs:Nat) (zcy:Nat->List PV) (zgt:Nat) (zcz:Nat->List PV) (zaf:Nat) (zab:(List Int->Option (List Int))):Prop:=vc Tryd.prog zCi zfV (cdF Tryd.f69 [1,1,1,1,0,1,0]) (zfS 0 (sqK Tryd.prog zCi zfV (cdF Tryd.f69 [1,1,1,1,1]) (zl1 Tryd.prog Tryd.f69 [.box 105 [.p (.int .i64 w.Net.Nodes),.p (.sl w.Net.Ties.len 4 (λ i=>enc_40 (w.Net.Ties.get i))),.mo 3 4 (false,1,false,[none]) w.out.n w.out.F],.d (.one (.int .i64 left))] (λ a b=>K (a,b))))) (zgr w left zaB za0 zgs zcy zgt zcz zaf zab)
theorem zCj (w : web) (left : Int) (K : List PA × List XA → Prop) :
  zlh Tryd.prog zCi zfV 69 [.box 105 [.p (.int .i64 w.Net.Nodes),.p (.sl w.Net.Ties.len 4 (λ i=>enc_40 (w.Net.Ties.get i))),.mo 3 4 (false,1,false,[none]) w.out.n w.out.F],.d (.one (.int .i64 left))] (λ a b=>K (a,b)) =
  ((IsE enc_40 4 4 (λ i=>enc_40 (w.Net.Ties.get i))/\((false,1,false,[none]):MQ)=(false,1,false,[none])/\(p88 w=true)) /\
 (zdM (!(s88 w))
 (((w.out.n≤1000000/\(zuy w.out.F 9223372036854775808 0 w.out.n).isSome=true)) /\
 (K ([.one (.sl 1 1 (λ _=>(zbT (⟨w.out.n,(λ i=>(zuz w.out.F w.out.n).getD i 0)⟩:(Sl Int)))))],[.box 105 [.p (.int .i64 w.Net.Nodes),.p (.sl w.Net.Ties.len 4 (λ i=>enc_40 (w.Net.Ties.get i))),.mo 3 4 (false,1,false,[none]) w.out.n w.out.F],.d (.one (.int .i64 left))])))
 (zdM (left == (0:Int))
 (K ([.one (.nils)],[.box 105 [.p (.int .i64 w.Net.Nodes),.p (.sl w.Net.Ties.len 4 (λ i=>enc_40 (w.Net.Ties.get i))),.mo 3 4 (false,1,false,[none]) w.out.n w.out.F],.d (.one (.int .i64 left))]))
 (((∀ i,sc2 ((λ i=>zaA ((s89 w).get i)) i)=true)/\IsE enc_40 4 4 (λ i=>enc_40 (w.Net.Ties.get i))/\((false,1,false,[none]):MQ)=(false,1,false,[none])/\(p89 w=true)) /\
 (zit K w left (0:Int) w.Net.Nodes w.Net.Ties.len (λ i=>enc_40 (w.Net.Ties.get i)) 0 (λ i=>zbT ((λ _=>default) i)) w.out.n w.out.F))))):=by kernel_rfl
def zmE (K:List PA×List XA->Prop) (X0:St->Prop) (w:web) (left:Int) (zaB:Int) (za0:Int) (za4:(Sl Tie)) (zby:(Sl (Sl Int))) (zaf:Nat) (zab:(List Int->Option (List Int))):Prop :=
  (zdM (decide (zaB < ((s89 w).len : Int)))
 (((0≤zaB/\zaB < ((s89 w).len:Int))) /\
 (zdM ((ztF (zab [((s89 w).get zaB.toNat).Use.Tie]) 0) != 0)
 (X0 (zgr w left (w64 (zaB+(1:Int))) za0 za4.len (λ i=>enc_40 (za4.get i)) zby.len (λ i=>zbT (zby.get i)) zaf zab))
 ((IsE enc_40 4 4 (λ i=>enc_40 (za4.get i))/\((false,1,false,[none]):MQ)=(false,1,false,[none])/\(Slf69.r.P (⟨(⟨za0,za4⟩:Net),(⟨(addN (zab [((s89 w).get zaB.toNat).Use.Tie]) zaf),(zd7 [((s89 w).get zaB.toNat).Use.Tie] [1] zab)⟩:Mp)⟩:web) (w64 (left - (1:Int)))=true)) /\
 ((((zby.len+((Slf69.r.S (⟨(⟨za0,za4⟩:Net),(⟨(addN (zab [((s89 w).get zaB.toNat).Use.Tie]) zaf),(zd7 [((s89 w).get zaB.toNat).Use.Tie] [1] zab)⟩:Mp)⟩:web) (w64 (left - (1:Int)))).1).len) * 24≤140737488355328/\zby.len+((Slf69.r.S (⟨(⟨za0,za4⟩:Net),(⟨(addN (zab [((s89 w).get zaB.toNat).Use.Tie]) zaf),(zd7 [((s89 w).get zaB.toNat).Use.Tie] [1] zab)⟩:Mp)⟩:web) (w64 (left - (1:Int)))).1).len≤9223372036854775807)) /\
 (X0 (zgr w left (w64 (zaB+(1:Int))) (((Slf69.r.S (⟨(⟨za0,za4⟩:Net),(⟨(addN (zab [((s89 w).get zaB.toNat).Use.Tie]) zaf),(zd7 [((s89 w).get zaB.toNat).Use.Tie] [1] zab)⟩:Mp)⟩:web) (w64 (left - (1:Int)))).2).Net.Nodes) (((Slf69.r.S (⟨(⟨za0,za4⟩:Net),(⟨(addN (zab [((s89 w).get zaB.toNat).Use.Tie]) zaf),(zd7 [((s89 w).get zaB.toNat).Use.Tie] [1] zab)⟩:Mp)⟩:web) (w64 (left - (1:Int)))).2).Net.Ties.len) (λ i=>enc_40 (((Slf69.r.S (⟨(⟨za0,za4⟩:Net),(⟨(addN (zab [((s89 w).get zaB.toNat).Use.Tie]) zaf),(zd7 [((s89 w).get zaB.toNat).Use.Tie] [1] zab)⟩:Mp)⟩:web) (w64 (left - (1:Int)))).2).Net.Ties.get i)) (zby.len+((Slf69.r.S (⟨(⟨za0,za4⟩:Net),(⟨(addN (zab [((s89 w).get zaB.toNat).Use.Tie]) zaf),(zd7 [((s89 w).get zaB.toNat).Use.Tie] [1] zab)⟩:Mp)⟩:web) (w64 (left - (1:Int)))).1).len) (appG zby.len (λ i=>zbT (zby.get i)) (λ i=>zbT (((Slf69.r.S (⟨(⟨za0,za4⟩:Net),(⟨(addN (zab [((s89 w).get zaB.toNat).Use.Tie]) zaf),(zd7 [((s89 w).get zaB.toNat).Use.Tie] [1] zab)⟩:Mp)⟩:web) (w64 (left - (1:Int)))).1).get i))) (zCU (((((Slf69.r.S (⟨(⟨za0,za4⟩:Net),(⟨(addN (zab [((s89 w).get zaB.toNat).Use.Tie]) zaf),(zd7 [((s89 w).get zaB.toNat).Use.Tie] [1] zab)⟩:Mp)⟩:web) (w64 (left - (1:Int)))).2).out).F) [((s89 w).get zaB.toNat).Use.Tie]) ((((Slf69.r.S (⟨(⟨za0,za4⟩:Net),(⟨(addN (zab [((s89 w).get zaB.toNat).Use.Tie]) zaf),(zd7 [((s89 w).get zaB.toNat).Use.Tie] [1] zab)⟩:Mp)⟩:web) (w64 (left - (1:Int)))).2).out).n)) (zAV [((s89 w).get zaB.toNat).Use.Tie] ((((Slf69.r.S (⟨(⟨za0,za4⟩:Net),(⟨(addN (zab [((s89 w).get zaB.toNat).Use.Tie]) zaf),(zd7 [((s89 w).get zaB.toNat).Use.Tie] [1] zab)⟩:Mp)⟩:web) (w64 (left - (1:Int)))).2).out).F))))))))
 (K ([.one (.sl zby.len 1 (λ i=>zbT (zby.get i)))],[.box 105 [.p (.int .i64 za0),.p (.sl za4.len 4 (λ i=>enc_40 (za4.get i))),.mo 3 4 (false,1,false,[none]) zaf zab],.d (.one (.int .i64 left))])))
theorem zpx (K : List PA × List XA → Prop) (X0 : St → Prop) (w : web) (left : Int) (zaB : Int) (za0 : Int) (za4 : (Sl Tie)) (zby : (Sl (Sl Int))) (zaf : Nat) (zab : (List Int → Option (List Int))) :
  vc Tryd.prog zCi zfV (cd (cdF Tryd.f69 [1,1,1,1,0,1,0]) [0]) (ztK Tryd.prog zfV 7 X0 (zfS 0 (sqK Tryd.prog zCi zfV (cdF Tryd.f69 [1,1,1,1,1]) (zl1 Tryd.prog Tryd.f69 [.box 105 [.p (.int .i64 w.Net.Nodes),.p (.sl w.Net.Ties.len 4 (λ i=>enc_40 (w.Net.Ties.get i))),.mo 3 4 (false,1,false,[none]) w.out.n w.out.F],.d (.one (.int .i64 left))] (λ a b=>K (a,b)))))) (zgr w left zaB za0 za4.len (λ i=>enc_40 (za4.get i)) zby.len (λ i=>zbT (zby.get i)) zaf zab) =
  zmE K X0 w left zaB za0 za4 zby zaf zab:=by kernel_rfl
theorem zuj (K : List PA × List XA → Prop) (w : web) (left : Int) (zaB : Int) (za0 : Int) (zgs : Nat) (zcy : Nat → List PV) (zgt : Nat) (zcz : Nat → List PV) (zaf : Nat) (zab : (List Int → Option (List Int)))
  (h:∀ X0:St->Prop,(∀ (zaB:Int) (za0:Int) (za4:(Sl Tie)) (zby:(Sl (Sl Int))) (zaf:Nat) (zab:(List Int->Option (List Int))),zmE K X0 w left zaB za0 za4 zby zaf zab->X0 (zgr w left zaB za0 za4.len (λ i=>enc_40 (za4.get i)) zby.len (λ i=>zbT (zby.get i)) zaf zab))->X0 (zgr w left zaB za0 zgs zcy zgt zcz zaf zab)) :
  zit K w left zaB za0 zgs zcy zgt zcz zaf zab:=by
  have e:zit K w left zaB za0 zgs zcy zgt zcz zaf zab=(∀ X:St->Prop,(∀ s,vc Tryd.prog zCi zfV (cd (cdF Tryd.f69 [1,1,1,1,0,1,0]) [0]) (ztK Tryd.prog zfV 7 X (zfS 0 (sqK Tryd.prog zCi zfV (cdF Tryd.f69 [1,1,1,1,1]) (zl1 Tryd.prog Tryd.f69 [.box 105 [.p (.int .i64 w.Net.Nodes),.p (.sl w.Net.Ties.len 4 (λ i=>enc_40 (w.Net.Ties.get i))),.mo 3 4 (false,1,false,[none]) w.out.n w.out.F],.d (.one (.int .i64 left))] (λ a b=>K (a,b)))))) s->X s)->X (zgr w left zaB za0 zgs zcy zgt zcz zaf zab)):=by kernel_rfl
  refine zaX e ?_
  intro X hX
  refine h X ?_
  intro zaB za0 za4 zby zaf zab hs
  refine hX _ ?_
  have e2:=zpx K X w left zaB za0 za4 zby zaf zab
  rw[e2]
  exact hs
abbrev zDz (left:Int) (r:((Sl (Sl Int))×web)):List PA×List XA:=([.one (.sl r.1.len 1 (λ i=>zbT (r.1.get i)))],[.box 105 [.p (.int .i64 r.2.Net.Nodes),.p (.sl r.2.Net.Ties.len 4 (λ i=>enc_40 (r.2.Net.Ties.get i))),.mo 3 4 (false,1,false,[none]) r.2.out.n r.2.out.F],.d (.one (.int .i64 left))])
attribute [irreducible] zit
def znZ (w:web) (left:Int) (S0:Int->Int->(Sl Tie)->(Sl (Sl Int))->Nat->(List Int->Option (List Int))->((Sl (Sl Int))×web)) (zaB:Int) (za0:Int) (za4:(Sl Tie)) (zby:(Sl (Sl Int))) (zaf:Nat) (zab:(List Int->Option (List Int))):((Sl (Sl Int))×web) :=
  (cond (decide (zaB < ((s89 w).len : Int)))
 (cond ((ztF (zab [((s89 w).get zaB.toNat).Use.Tie]) 0) != 0)
 (S0 (w64 (zaB+(1:Int))) za0 za4 zby zaf zab)
 (S0 (w64 (zaB+(1:Int))) (((Slf69.r.S (⟨(⟨za0,za4⟩:Net),(⟨(addN (zab [((s89 w).get zaB.toNat).Use.Tie]) zaf),(zd7 [((s89 w).get zaB.toNat).Use.Tie] [1] zab)⟩:Mp)⟩:web) (w64 (left - (1:Int)))).2).Net.Nodes) (((Slf69.r.S (⟨(⟨za0,za4⟩:Net),(⟨(addN (zab [((s89 w).get zaB.toNat).Use.Tie]) zaf),(zd7 [((s89 w).get zaB.toNat).Use.Tie] [1] zab)⟩:Mp)⟩:web) (w64 (left - (1:Int)))).2).Net.Ties) (⟨(zby.len+((Slf69.r.S (⟨(⟨za0,za4⟩:Net),(⟨(addN (zab [((s89 w).get zaB.toNat).Use.Tie]) zaf),(zd7 [((s89 w).get zaB.toNat).Use.Tie] [1] zab)⟩:Mp)⟩:web) (w64 (left - (1:Int)))).1).len),(zdb zby.len zby.get ((Slf69.r.S (⟨(⟨za0,za4⟩:Net),(⟨(addN (zab [((s89 w).get zaB.toNat).Use.Tie]) zaf),(zd7 [((s89 w).get zaB.toNat).Use.Tie] [1] zab)⟩:Mp)⟩:web) (w64 (left - (1:Int)))).1).get)⟩:Sl (Sl Int)) (zCU (((((Slf69.r.S (⟨(⟨za0,za4⟩:Net),(⟨(addN (zab [((s89 w).get zaB.toNat).Use.Tie]) zaf),(zd7 [((s89 w).get zaB.toNat).Use.Tie] [1] zab)⟩:Mp)⟩:web) (w64 (left - (1:Int)))).2).out).F) [((s89 w).get zaB.toNat).Use.Tie]) ((((Slf69.r.S (⟨(⟨za0,za4⟩:Net),(⟨(addN (zab [((s89 w).get zaB.toNat).Use.Tie]) zaf),(zd7 [((s89 w).get zaB.toNat).Use.Tie] [1] zab)⟩:Mp)⟩:web) (w64 (left - (1:Int)))).2).out).n)) (zAV [((s89 w).get zaB.toNat).Use.Tie] ((((Slf69.r.S (⟨(⟨za0,za4⟩:Net),(⟨(addN (zab [((s89 w).get zaB.toNat).Use.Tie]) zaf),(zd7 [((s89 w).get zaB.toNat).Use.Tie] [1] zab)⟩:Mp)⟩:web) (w64 (left - (1:Int)))).2).out).F))))
 (zby,(⟨(⟨za0,za4⟩:Net),(⟨zaf,zab⟩:Mp)⟩:web)))
def zn0 (w:web) (left:Int) (P0:Int->Int->(Sl Tie)->(Sl (Sl Int))->Nat->(List Int->Option (List Int))->Bool) (zaB:Int) (za0:Int) (za4:(Sl Tie)) (zby:(Sl (Sl Int))) (zaf:Nat) (zab:(List Int->Option (List Int))):Bool :=
  (cond (decide (zaB < ((s89 w).len : Int)))
 (decide ((0≤zaB/\zaB < ((s89 w).len:Int))) &&
 (cond ((ztF (zab [((s89 w).get zaB.toNat).Use.Tie]) 0) != 0)
 (P0 (w64 (zaB+(1:Int))) za0 za4 zby zaf zab)
 (decide ((Slf69.r.P (⟨(⟨za0,za4⟩:Net),(⟨(addN (zab [((s89 w).get zaB.toNat).Use.Tie]) zaf),(zd7 [((s89 w).get zaB.toNat).Use.Tie] [1] zab)⟩:Mp)⟩:web) (w64 (left - (1:Int)))=true)) &&
 (decide (((zby.len+((Slf69.r.S (⟨(⟨za0,za4⟩:Net),(⟨(addN (zab [((s89 w).get zaB.toNat).Use.Tie]) zaf),(zd7 [((s89 w).get zaB.toNat).Use.Tie] [1] zab)⟩:Mp)⟩:web) (w64 (left - (1:Int)))).1).len) * 24≤140737488355328/\zby.len+((Slf69.r.S (⟨(⟨za0,za4⟩:Net),(⟨(addN (zab [((s89 w).get zaB.toNat).Use.Tie]) zaf),(zd7 [((s89 w).get zaB.toNat).Use.Tie] [1] zab)⟩:Mp)⟩:web) (w64 (left - (1:Int)))).1).len≤9223372036854775807)) &&
 (P0 (w64 (zaB+(1:Int))) (((Slf69.r.S (⟨(⟨za0,za4⟩:Net),(⟨(addN (zab [((s89 w).get zaB.toNat).Use.Tie]) zaf),(zd7 [((s89 w).get zaB.toNat).Use.Tie] [1] zab)⟩:Mp)⟩:web) (w64 (left - (1:Int)))).2).Net.Nodes) (((Slf69.r.S (⟨(⟨za0,za4⟩:Net),(⟨(addN (zab [((s89 w).get zaB.toNat).Use.Tie]) zaf),(zd7 [((s89 w).get zaB.toNat).Use.Tie] [1] zab)⟩:Mp)⟩:web) (w64 (left - (1:Int)))).2).Net.Ties) (⟨(zby.len+((Slf69.r.S (⟨(⟨za0,za4⟩:Net),(⟨(addN (zab [((s89 w).get zaB.toNat).Use.Tie]) zaf),(zd7 [((s89 w).get zaB.toNat).Use.Tie] [1] zab)⟩:Mp)⟩:web) (w64 (left - (1:Int)))).1).len),(zdb zby.len zby.get ((Slf69.r.S (⟨(⟨za0,za4⟩:Net),(⟨(addN (zab [((s89 w).get zaB.toNat).Use.Tie]) zaf),(zd7 [((s89 w).get zaB.toNat).Use.Tie] [1] zab)⟩:Mp)⟩:web) (w64 (left - (1:Int)))).1).get)⟩:Sl (Sl Int)) (zCU (((((Slf69.r.S (⟨(⟨za0,za4⟩:Net),(⟨(addN (zab [((s89 w).get zaB.toNat).Use.Tie]) zaf),(zd7 [((s89 w).get zaB.toNat).Use.Tie] [1] zab)⟩:Mp)⟩:web) (w64 (left - (1:Int)))).2).out).F) [((s89 w).get zaB.toNat).Use.Tie]) ((((Slf69.r.S (⟨(⟨za0,za4⟩:Net),(⟨(addN (zab [((s89 w).get zaB.toNat).Use.Tie]) zaf),(zd7 [((s89 w).get zaB.toNat).Use.Tie] [1] zab)⟩:Mp)⟩:web) (w64 (left - (1:Int)))).2).out).n)) (zAV [((s89 w).get zaB.toNat).Use.Tie] ((((Slf69.r.S (⟨(⟨za0,za4⟩:Net),(⟨(addN (zab [((s89 w).get zaB.toNat).Use.Tie]) zaf),(zd7 [((s89 w).get zaB.toNat).Use.Tie] [1] zab)⟩:Mp)⟩:web) (w64 (left - (1:Int)))).2).out).F)))))))
 true)
def ziu (w : web) (left : Int) : Nat → Int → Int → (Sl Tie) → (Sl (Sl Int)) → Nat → (List Int → Option (List Int)) → ((Sl (Sl Int)) × web)
  | 0=>λ _ _ _ _ _ _=>default
  | k+1=>znZ w left (ziu w left k)
def ziv (w : web) (left : Int) : Nat → Int → Int → (Sl Tie) → (Sl (Sl Int)) → Nat → (List Int → Option (List Int)) → Bool
  | 0=>λ _ _ _ _ _ _=>false
  | k+1=>zn0 w left (ziv w left k)
def ztn (w:web) (left:Int) (zaB:Int) (za0:Int) (za4:(Sl Tie)) (zby:(Sl (Sl Int))) (zaf:Nat) (zab:(List Int->Option (List Int))):((Sl (Sl Int))×web):=ziu w left Fuel zaB za0 za4 zby zaf zab
def zto (w:web) (left:Int) (zaB:Int) (za0:Int) (za4:(Sl Tie)) (zby:(Sl (Sl Int))) (zaf:Nat) (zab:(List Int->Option (List Int))):Bool:=ziv w left Fuel zaB za0 za4 zby zaf zab
theorem zCk (K:List PA×List XA->Prop) (w:web) (left:Int) (zaB:Int) (za0:Int) (za4:(Sl Tie)) (zby:(Sl (Sl Int))) (zaf:Nat) (zab:(List Int->Option (List Int))) (zcy:Nat->List PV) (zlD:zcy=λ i=>enc_40 (za4.get i)) (zcz:Nat->List PV) (zlE:zcz=λ i=>zbT (zby.get i)) (hs:zto w left zaB za0 za4 zby zaf zab=true) (hk:K (zDz left (ztn w left zaB za0 za4 zby zaf zab))):zit (WkM K) w left zaB za0 za4.len zcy zby.len zcz zaf zab:=by
  refine zuj (WkM K) w left zaB za0 za4.len zcy zby.len zcz zaf zab ?_
  intro X0 hstep
  have key:∀ (k:Nat) (zaB:Int) (za0:Int) (za4:(Sl Tie)) (zby:(Sl (Sl Int))) (zaf:Nat) (zab:(List Int->Option (List Int))) (zcy:Nat->List PV) (zlD:zcy=λ i=>enc_40 (za4.get i)) (zcz:Nat->List PV) (zlE:zcz=λ i=>zbT (zby.get i)),ziv w left k zaB za0 za4 zby zaf zab=true->K (zDz left (ziu w left k zaB za0 za4 zby zaf zab))->X0 (zgr w left zaB za0 za4.len zcy zby.len zcz zaf zab):=by
    intro k
    induction k with
    | zero=>intro zaB za0 za4 zby zaf zab zcy zlD zcz zlE hs;exact absurd hs dqk
    | succ k ih =>
      intro zaB za0 za4 zby zaf zab zcy zlD zcz zlE hs hk
      subst zlD
      subst zlE
      refine hstep zaB za0 za4 zby zaf zab ?_
      have hs:zn0 w left (ziv w left k) zaB za0 za4 zby zaf zab=true:=hs
      have hk:K (zDz left (znZ w left (ziu w left k) zaB za0 za4 zby zaf zab)):=hk
      unfold zn0 at hs
      unfold znZ at hk
      generalize ziu w left k=S0 at hk ih
      generalize ziv w left k=P0 at hs ih
      have hX0:=ih
      exact (zfA (K := λ r => K (zDz left r))
 (λ hs hk => (zaJ hs λ hc hs => ⟨hc, (zfA (K := λ r => K (zDz left r))
 (λ hs hk=>(hX0 (w64 (zaB+(1:Int))) za0 za4 zby zaf zab (λ i=>enc_40 (za4.get i)) rfl (λ i=>zbT (zby.get i)) rfl hs hk))
 (λ hs hk=>(zaJ hs λ hc hs=>⟨⟨isE,rfl,hc⟩,(zaJ hs λ hc hs=>⟨hc,(hX0 (w64 (zaB+(1:Int))) (((Slf69.r.S (⟨(⟨za0,za4⟩:Net),(⟨(addN (zab [((s89 w).get zaB.toNat).Use.Tie]) zaf),(zd7 [((s89 w).get zaB.toNat).Use.Tie] [1] zab)⟩:Mp)⟩:web) (w64 (left - (1:Int)))).2).Net.Nodes) (((Slf69.r.S (⟨(⟨za0,za4⟩:Net),(⟨(addN (zab [((s89 w).get zaB.toNat).Use.Tie]) zaf),(zd7 [((s89 w).get zaB.toNat).Use.Tie] [1] zab)⟩:Mp)⟩:web) (w64 (left - (1:Int)))).2).Net.Ties) (⟨(zby.len+((Slf69.r.S (⟨(⟨za0,za4⟩:Net),(⟨(addN (zab [((s89 w).get zaB.toNat).Use.Tie]) zaf),(zd7 [((s89 w).get zaB.toNat).Use.Tie] [1] zab)⟩:Mp)⟩:web) (w64 (left - (1:Int)))).1).len),(zdb zby.len zby.get ((Slf69.r.S (⟨(⟨za0,za4⟩:Net),(⟨(addN (zab [((s89 w).get zaB.toNat).Use.Tie]) zaf),(zd7 [((s89 w).get zaB.toNat).Use.Tie] [1] zab)⟩:Mp)⟩:web) (w64 (left - (1:Int)))).1).get)⟩:Sl (Sl Int)) (zCU (((((Slf69.r.S (⟨(⟨za0,za4⟩:Net),(⟨(addN (zab [((s89 w).get zaB.toNat).Use.Tie]) zaf),(zd7 [((s89 w).get zaB.toNat).Use.Tie] [1] zab)⟩:Mp)⟩:web) (w64 (left - (1:Int)))).2).out).F) [((s89 w).get zaB.toNat).Use.Tie]) ((((Slf69.r.S (⟨(⟨za0,za4⟩:Net),(⟨(addN (zab [((s89 w).get zaB.toNat).Use.Tie]) zaf),(zd7 [((s89 w).get zaB.toNat).Use.Tie] [1] zab)⟩:Mp)⟩:web) (w64 (left - (1:Int)))).2).out).n)) (zAV [((s89 w).get zaB.toNat).Use.Tie] ((((Slf69.r.S (⟨(⟨za0,za4⟩:Net),(⟨(addN (zab [((s89 w).get zaB.toNat).Use.Tie]) zaf),(zd7 [((s89 w).get zaB.toNat).Use.Tie] [1] zab)⟩:Mp)⟩:web) (w64 (left - (1:Int)))).2).out).F)) (λ i=>enc_40 (((Slf69.r.S (⟨(⟨za0,za4⟩:Net),(⟨(addN (zab [((s89 w).get zaB.toNat).Use.Tie]) zaf),(zd7 [((s89 w).get zaB.toNat).Use.Tie] [1] zab)⟩:Mp)⟩:web) (w64 (left - (1:Int)))).2).Net.Ties.get i)) rfl (appG zby.len (λ i=>zbT (zby.get i)) (λ i=>zbT (((Slf69.r.S (⟨(⟨za0,za4⟩:Net),(⟨(addN (zab [((s89 w).get zaB.toNat).Use.Tie]) zaf),(zd7 [((s89 w).get zaB.toNat).Use.Tie] [1] zab)⟩:Mp)⟩:web) (w64 (left - (1:Int)))).1).get i))) (zjJ (enc:=zbT) (f:=zby.get) (h:=((Slf69.r.S (⟨(⟨za0,za4⟩:Net),(⟨(addN (zab [((s89 w).get zaB.toNat).Use.Tie]) zaf),(zd7 [((s89 w).get zaB.toNat).Use.Tie] [1] zab)⟩:Mp)⟩:web) (w64 (left - (1:Int)))).1).get) rfl rfl) hs hk)⟩)⟩)) hs hk)⟩))
 (fun hs hk=>(zwe hk)) hs hk)
  exact key _ zaB za0 za4 zby zaf zab zcy zlD zcz zlE hs hk
def zAR (w:web) (left:Int):((Sl (Sl Int))×web) :=
  (cond (!(s88 w))
 ((⟨1,λ _=>(⟨w.out.n,(λ i=>(zuz w.out.F w.out.n).getD i 0)⟩:(Sl Int))⟩:(Sl (Sl Int))),w)
 (cond (left == (0:Int))
 ((⟨0,λ _=>default⟩:(Sl (Sl Int))),w)
 (ztn w left (0:Int) w.Net.Nodes w.Net.Ties (⟨0,(λ _=>default)⟩:Sl (Sl Int)) w.out.n w.out.F)))
def zLC (w:web) (left:Int):Bool :=
  (decide ((p88 w=true)) &&
 (cond (!(s88 w))
 (decide ((w.out.n≤1000000/\(zuy w.out.F 9223372036854775808 0 w.out.n).isSome=true)) &&
 true)
 (cond (left == (0:Int))
 true
 (decide ((p89 w=true)) &&
 (zto w left (0:Int) w.Net.Nodes w.Net.Ties (⟨0,(λ _=>default)⟩:Sl (Sl Int)) w.out.n w.out.F)))))
theorem zOh (w:web) (left:Int) (K:List PA×List XA->Prop) (hs:zLC w left=true) (hk:K (zDz left (zAR w left))):zlh Tryd.prog zCi zfV 69 [.box 105 [.p (.int .i64 w.Net.Nodes),.p (.sl w.Net.Ties.len 4 (λ i=>enc_40 (w.Net.Ties.get i))),.mo 3 4 (false,1,false,[none]) w.out.n w.out.F],.d (.one (.int .i64 left))] (λ a b=>(WkM K) (a,b)):=by
  refine zaX (zCj w left (WkM K)) ?_
  unfold zLC at hs
  unfold zAR at hk
  exact (zaJ hs λ hc hs => ⟨⟨isE, rfl, hc⟩, (zfA (K := λ r => K (zDz left r))
 (λ hs hk=>(zaJ hs λ hc hs=>⟨hc,(zwe hk)⟩))
 (λ hs hk => (zfA (K := λ r => K (zDz left r))
 (λ hs hk=>(wkM hk (zhq (.one (.nil _ _)) zmC)))
 (λ hs hk=>(zaJ hs λ hc hs=>⟨⟨(λ _=>rfl),isE,rfl,hc⟩,(zCk K w left (0:Int) w.Net.Nodes w.Net.Ties (⟨0,(λ _=>default)⟩:Sl (Sl Int)) w.out.n w.out.F (λ i=>enc_40 (w.Net.Ties.get i)) rfl (λ i=>zbT ((λ _=>default) i)) rfl hs hk)⟩)) hs hk)) hs hk)⟩)
def zJM : MK
  | [.box 105 [.p (.int .i64 zav),.p (.sl zat zbJ zao),.mo 3 4 zdx zaQ zaR],.d (.one (.int .i64 b1))]=>some (IsE enc_40 4 zbJ zao/\zdx=(false,1,false,[none])/\zLC (⟨(⟨zav,(⟨zat,zak zao⟩:(Sl Tie))⟩:Net),(⟨zaQ,zaR⟩:Mp)⟩:web) b1=true,[.one (.sl (((zAR (⟨(⟨zav,(⟨zat,zak zao⟩:(Sl Tie))⟩:Net),(⟨zaQ,zaR⟩:Mp)⟩:web) b1).1).len) 1 (λ i=>zbT (((zAR (⟨(⟨zav,(⟨zat,zak zao⟩:(Sl Tie))⟩:Net),(⟨zaQ,zaR⟩:Mp)⟩:web) b1).1).get i)))],[.box 105 [.p (.int .i64 (((zAR (⟨(⟨zav,(⟨zat,zak zao⟩:(Sl Tie))⟩:Net),(⟨zaQ,zaR⟩:Mp)⟩:web) b1).2).Net.Nodes)),.p (.sl (((zAR (⟨(⟨zav,(⟨zat,zak zao⟩:(Sl Tie))⟩:Net),(⟨zaQ,zaR⟩:Mp)⟩:web) b1).2).Net.Ties.len) 4 (λ i=>enc_40 (((zAR (⟨(⟨zav,(⟨zat,zak zao⟩:(Sl Tie))⟩:Net),(⟨zaQ,zaR⟩:Mp)⟩:web) b1).2).Net.Ties.get i))),.mo 3 4 (false,1,false,[none]) ((((zAR (⟨(⟨zav,(⟨zat,zak zao⟩:(Sl Tie))⟩:Net),(⟨zaQ,zaR⟩:Mp)⟩:web) b1).2).out).n) ((((zAR (⟨(⟨zav,(⟨zat,zak zao⟩:(Sl Tie))⟩:Net),(⟨zaQ,zaR⟩:Mp)⟩:web) b1).2).out).F)],.d (.one (.int .i64 b1))])
  | _=>none
theorem zJN:zas Tryd.prog 69:=⟨_,rfl,rfl,by kernel_rfl⟩
theorem zMh (hself:zj0 Tryd.prog 69 zxh):zj0 Tryd.prog 69 zJM:=zBN (zMg hself) zJN λ xs safe rs ys h hs K hk=>by
  unfold zJM at h
  split at h
  · rename_i zav zat zbJ zao zdx zaQ zaR b1
    simp only[dqa,dqh] at h
    obtain⟨rfl,rfl,rfl⟩:=h
    obtain⟨⟨rfl,zcr,rfl⟩,rfl,hs⟩:=hs
    try rw[zaj zcr] at hs
    try rw[zaj zcr] at hk
    refine⟨λ _ _=>[],λ _=>false,zfV,?_⟩
    show zlh Tryd.prog zCi zfV 69 _ _
    exact zOh (⟨(⟨zav,(⟨zat,zcr⟩:(Sl Tie))⟩:Net),(⟨zaQ,zaR⟩:Mp)⟩:web) b1 (λ x=>K x.1 x.2) hs hk
  · cases h
end
def zuk : Nat → Rec69
  | 0=>⟨λ _ _=>default,λ _ _=>false⟩
  | k+1=>⟨@zAR ⟨zuk k⟩,@zLC ⟨zuk k⟩⟩
theorem zJO : ∀ k, zj0 Tryd.prog 69 (@zxh ⟨zuk k⟩)
  | 0=>λ xs ys safe rs h hs=>by
    unfold zxh at h
    split at h
    · simp only [dqa, dqh] at h
      obtain⟨rfl,rfl,rfl⟩:=h
      exact absurd hs.2.2 dqk
    · cases h
  | k+1=>@zMh ⟨zuk k⟩ (zJO k)
def s69 (w:web) (left:Int):((Sl (Sl Int))×web):=(zuk 64).S w left
def p69 (w:web) (left:Int):Bool:=(zuk 64).P w left
def zJP : MK
  | [.box 105 [.p (.int .i64 zav),.p (.sl zat zbJ zao),.mo 3 4 zdx zaQ zaR],.d (.one (.int .i64 b1))]=>some (IsE enc_40 4 zbJ zao/\zdx=(false,1,false,[none])/\p69 (⟨(⟨zav,(⟨zat,zak zao⟩:(Sl Tie))⟩:Net),(⟨zaQ,zaR⟩:Mp)⟩:web) b1=true,[.one (.sl (((s69 (⟨(⟨zav,(⟨zat,zak zao⟩:(Sl Tie))⟩:Net),(⟨zaQ,zaR⟩:Mp)⟩:web) b1).1).len) 1 (λ i=>zbT (((s69 (⟨(⟨zav,(⟨zat,zak zao⟩:(Sl Tie))⟩:Net),(⟨zaQ,zaR⟩:Mp)⟩:web) b1).1).get i)))],[.box 105 [.p (.int .i64 (((s69 (⟨(⟨zav,(⟨zat,zak zao⟩:(Sl Tie))⟩:Net),(⟨zaQ,zaR⟩:Mp)⟩:web) b1).2).Net.Nodes)),.p (.sl (((s69 (⟨(⟨zav,(⟨zat,zak zao⟩:(Sl Tie))⟩:Net),(⟨zaQ,zaR⟩:Mp)⟩:web) b1).2).Net.Ties.len) 4 (λ i=>enc_40 (((s69 (⟨(⟨zav,(⟨zat,zak zao⟩:(Sl Tie))⟩:Net),(⟨zaQ,zaR⟩:Mp)⟩:web) b1).2).Net.Ties.get i))),.mo 3 4 (false,1,false,[none]) ((((s69 (⟨(⟨zav,(⟨zat,zak zao⟩:(Sl Tie))⟩:Net),(⟨zaQ,zaR⟩:Mp)⟩:web) b1).2).out).n) ((((s69 (⟨(⟨zav,(⟨zat,zak zao⟩:(Sl Tie))⟩:Net),(⟨zaQ,zaR⟩:Mp)⟩:web) b1).2).out).F)],.d (.one (.int .i64 b1))])
  | _=>none
theorem zOi:zj0 Tryd.prog 69 zJP:=zJO 64
abbrev T71:Tabs:=(Tabs.nil.addF 101 zth)
theorem zMi:TabsOk Tryd.prog T71:=(TabsOk.nil.addF zJy)
abbrev G71:Ctrs:=csm T71 (λ _ _=>[]) (λ _=>false)
def zFI:Ann:=⟨36,[(0,zK [0,1] []),(1,zK [0,1,9,10,11] []),(2,zK [0,1,9,10,11,12] []),(3,zK [0,1,5,6,9,10,11] []),(4,zK [0,1,5,6,9,10,11,19] []),(5,zK [4] []),(6,zK [0,1,6,7,9,10,11] []),(7,zK [0,1,8,9,10,11] []),(8,zK [0,1,8,9,10,11,28] []),(9,zK [4] []),(10,zK [0,1,9,10,11] []),(11,zK [35] []),(12,zK [4] []),(13,zK [4] [])],
 [(2,zK [0,1,9,10,11] [])],
 [(6,zK [0,1,5,6,9,10,11] []),(8,zK [0,1,8,9,10,11] [])],
 [],[]⟩
abbrev R71:=Int
abbrev e71 (r:R71):List PA:=[.one (.int .i64 r)]
@[irreducible] def z71:=ptF Tryd.prog G71 zFI Tryd.f71
def zDA (zeX:(Sl Int)) (zej:(Sl Int)) (zlF:(Sl Int)) (za5:Int) (zaT:Int) (zdE:Nat->List PV) (zdF:Nat->List PV) (zjU:Nat->List PV):St:=⟨[(0,zP (.sl zeX.len 1 zdE)),(1,zP (.sl zej.len 1 zdF)),(9,zP (.sl zlF.len 1 zjU)),(10,zI za5),(11,zI zaT)],[],[]⟩
abbrev zCl (K:List PA->Prop) (X:St->Prop) (P:(Sl Int)->(Sl Int)->(Sl Int)->Int->Int->Bool) (S:(Sl Int)->(Sl Int)->(Sl Int)->Int->Int->Int):Prop:=∀ ⦃zeX:(Sl Int)⦄ ⦃zej:(Sl Int)⦄ ⦃zlF:(Sl Int)⦄ ⦃za5:Int⦄ ⦃zaT:Int⦄ ⦃zdE:Nat->List PV⦄ ⦃zdF:Nat->List PV⦄ ⦃zjU:Nat->List PV⦄,P zeX zej zlF za5 zaT=true->K (e71 (S zeX zej zlF za5 zaT))->zdE=zg zah zeX->zdF=zg zah zej->zjU=zg zah zlF->X (zDA zeX zej zlF za5 zaT zdE zdF zjU)
section
variable {K:List PA->Prop}{s1_a0:(Sl Int)}{s2_a1:(Sl Int)}{zeX:(Sl Int)}{zej:(Sl Int)}{zlF:(Sl Int)}{za5:Int}{zaT:Int}{zdE:Nat->List PV}{zdF:Nat->List PV}{zjU:Nat->List PV}{X0:St->Prop}{P0:(Sl Int)->(Sl Int)->(Sl Int)->Int->Int->Bool}{S0:(Sl Int)->(Sl Int)->(Sl Int)->Int->Int->Int}{zpp:(Sl Int)}{zkm:(Sl Int)}{iv1:Int}{zFJ:Int}{zq3:(Sl Int)}{ziw:Int}{zcP:Int}{zpq:Nat->List PV}{zpr:Nat->List PV}{zDB:Nat->List PV}{zps:(Sl Int)}{zpt:(Sl Int)}{cv2:Int}{zq4:Int}{zpu:Nat->List PV}{zpv:Nat->List PV}
def zxi (S0:(Sl Int)->(Sl Int)->(Sl Int)->Int->Int->Int) (zq3:(Sl Int)) (ziw:Int) (zps:(Sl Int)) (zpt:(Sl Int)) (cv2:Int) (zq4:Int):Int :=
  (cond (cv2 != (0:Int))
 cv2
 (S0 zps zpt zq3 ziw (w64 (zq4+(1:Int)))))
def zxj (P0:(Sl Int)->(Sl Int)->(Sl Int)->Int->Int->Bool) (zq3:(Sl Int)) (ziw:Int) (zps:(Sl Int)) (zpt:(Sl Int)) (cv2:Int) (zq4:Int):Bool :=
  (cond (cv2 != (0:Int))
 true
 (P0 zps zpt zq3 ziw (w64 (zq4+(1:Int)))))
theorem zFK (hX0:zCl K X0 P0 S0) (hs:zxj P0 zq3 ziw zps zpt cv2 zq4=true) (hk:K (e71 (zxi S0 zq3 ziw zps zpt cv2 zq4))) (zwN:zpu=zg zah zps) (zwO:zpv=zg zah zpt):z71 K [1,0,1,0,0,1,1,0,0,1,1,1,1] [X0] ⟨[(0,zP (.sl zps.len 1 zpu)),(1,zP (.sl zpt.len 1 zpv)),(8,zI cv2),(9,zS zah 1 zq3),(10,zI ziw),(11,zI zq4)],[],[]⟩:=by subst zwN;subst zwO;exact zaX (by kernel_rfl) (zc hs hk (λ hs hk=>hk) (λ hs hk=>(hX0 hs hk rfl rfl rfl)))
def zxk (S0:(Sl Int)->(Sl Int)->(Sl Int)->Int->Int->Int) (zpp:(Sl Int)) (zkm:(Sl Int)) (iv1:Int) (zFJ:Int) (zq3:(Sl Int)) (ziw:Int) (zcP:Int):Int :=
  (zxi S0 zq3 ziw zpp zkm (zuB zFJ (zkm.get iv1.toNat)) zcP)
def zxl (P0:(Sl Int)->(Sl Int)->(Sl Int)->Int->Int->Bool) (zpp:(Sl Int)) (zkm:(Sl Int)) (iv1:Int) (zFJ:Int) (zq3:(Sl Int)) (ziw:Int) (zcP:Int):Bool :=
  (decide ((0≤iv1/\iv1 < (zkm.len:Int))) &&
 (zxj P0 zq3 ziw zpp zkm (zuB zFJ (zkm.get iv1.toNat)) zcP))
theorem zFL (hX0:zCl K X0 P0 S0) (hs:zxl P0 zpp zkm iv1 zFJ zq3 ziw zcP=true) (hk:K (e71 (zxk S0 zpp zkm iv1 zFJ zq3 ziw zcP))) (zwP:zpq=zg zah zpp) (zwQ:zpr=zg zah zkm) (zJQ:zDB=zg zah zq3):z71 K [1,0,1,0,0,1,1,0,0,1,1] [X0] ⟨[(0,zP (.sl zpp.len 1 zpq)),(1,zP (.sl zkm.len 1 zpr)),(5,zI iv1),(6,zI zFJ),(9,zP (.sl zq3.len 1 zDB)),(10,zI ziw),(11,zI zcP)],[],[]⟩:=by subst zwP;subst zwQ;subst zJQ;exact zaX (by kernel_rfl) (zaJ hs λ hc hs=>And.intro hc (zFK hX0 hs hk rfl rfl))
def zxm (S0:(Sl Int)->(Sl Int)->(Sl Int)->Int->Int->Int) (zeX:(Sl Int)) (zej:(Sl Int)) (zlF:(Sl Int)) (za5:Int) (zaT:Int):Int :=
  (cond (decide (zaT < za5))
 (cond (decide (zaT ≥ (zej.len : Int)))
 (1:Int)
 (zxk S0 zeX zej zaT (zlF.get zaT.toNat) zlF za5 zaT))
 (cond (decide ((zeX.len : Int) < (zej.len : Int)))
 (-1:Int)
 (0:Int)))
def zxn (P0:(Sl Int)->(Sl Int)->(Sl Int)->Int->Int->Bool) (zeX:(Sl Int)) (zej:(Sl Int)) (zlF:(Sl Int)) (za5:Int) (zaT:Int):Bool :=
  (cond (decide (zaT < za5))
 (decide ((0≤zaT/\zaT < (zlF.len:Int))) &&
 (cond (decide (zaT ≥ (zej.len : Int)))
 true
 (zxl P0 zeX zej zaT (zlF.get zaT.toNat) zlF za5 zaT)))
 true)
def zxo:Nat->(Sl Int)->(Sl Int)->(Sl Int)->Int->Int->Int:=lpO (λ _ _ _ _ _=>default) (zxm)
def zxp:Nat->(Sl Int)->(Sl Int)->(Sl Int)->Int->Int->Bool:=lpO (λ _ _ _ _ _=>false) (zxn)
def zxq (zeX:(Sl Int)) (zej:(Sl Int)) (zlF:(Sl Int)) (za5:Int) (zaT:Int):Int:=zxo Fuel zeX zej zlF za5 zaT
def zxr (zeX:(Sl Int)) (zej:(Sl Int)) (zlF:(Sl Int)) (za5:Int) (zaT:Int):Bool:=zxp Fuel zeX zej zlF za5 zaT
theorem zFM (hs:zxr zeX zej zlF za5 zaT=true) (hk:K (e71 (zxq zeX zej zlF za5 zaT))) (zlv:zdE=zg zah zeX) (zlw:zdF=zg zah zej) (zxs:zjU=zg zah zlF):z71 K [1,0,1,0] [] (zDA zeX zej zlF za5 zaT zdE zdF zjU) :=
  zl (λ X=>z71 K [1,0,1,0,0] [X]) (by kernel_rfl) λ X0 hX =>
  (show ∀ k, zCl K X0 (zxp k) (zxo k) from zeU _ _ (zxn) (zxm) (zCl K X0)
 (by intro _ _ _ _ _ _ _ _ hs;exact absurd hs dqk)
 (by intro P0 S0 hX0 zeX zej zlF za5 zaT zdE zdF zjU hs hk zlv zlw zxs;subst zlv;subst zlw;subst zxs;exact hX _ (zaX (by kernel_rfl) (zc hs hk (λ hs hk=>(zaJ hs λ hc hs=>And.intro hc (zc hs hk (λ hs hk=>hk) (λ hs hk=>(zFL hX0 hs hk rfl rfl rfl))))) (λ hs hk=>(zt hk (λ hk=>hk) (λ hk=>hk))))))) _ hs hk zlv zlw zxs
def s71 (s1_a0:(Sl Int)) (s2_a1:(Sl Int)):Int :=
  (zxq s1_a0 s2_a1 s1_a0 (s1_a0.len:Int) (0:Int))
def p71 (s1_a0:(Sl Int)) (s2_a1:(Sl Int)):Bool :=
  (zxr s1_a0 s2_a1 s1_a0 (s1_a0.len:Int) (0:Int))
end
theorem q71 (s1_a0:(Sl Int)) (s2_a1:(Sl Int)) (K:List PA->Prop) (hs:p71 s1_a0 s2_a1=true) (hk:K (e71 (s71 s1_a0 s2_a1))):vcFun Tryd.prog G71 zFI 71 [.one (.sl s1_a0.len 1 (λ i=>zah (s1_a0.get i))),.one (.sl s2_a1.len 1 (λ i=>zah (s2_a1.get i)))] K :=
  zaX (by kernel_rfl) (zFM hs hk rfl rfl rfl)
def zFN : List PA → COut
  | [.one (.sl zfk zlu zfl),.one (.sl zeY zkn zeL)]=>.det (IsE zah 1 zlu zfl/\IsE zah 1 zkn zeL/\p71 (⟨zfk,zax zfl⟩:(Sl Int)) (⟨zeY,zax zeL⟩:(Sl Int))=true) [.one (.int .i64 (s71 (⟨zfk,zax zfl⟩:(Sl Int)) (⟨zeY,zax zeL⟩:(Sl Int))))]
  | _=>.no
theorem zJR:zas Tryd.prog 71:=⟨_,rfl,rfl,by kernel_rfl⟩
theorem zOj:Ok Tryd.prog 71 zFN:=zbv zMi zJR λ args K h=>by
  unfold zFN at h
  split at h
  · rename_i zfk zlu zfl zeY zkn zeL
    obtain⟨⟨⟨rfl,zhH,rfl⟩,⟨rfl,zhI,rfl⟩,hs⟩,hk⟩:=h
    try rw[zb2 zhH] at hs
    try rw[zb2 zhH] at hk
    try rw[zb2 zhI] at hs
    try rw[zb2 zhI] at hk
    exact⟨(λ _ _=>[]),(λ _=>false),zFI,q71 (⟨zfk,zhH⟩:(Sl Int)) (⟨zeY,zhI⟩:(Sl Int)) K hs hk⟩
  · exact h.elim
abbrev T70:Tabs:=(Tabs.nil.addF 71 zFN)
theorem zMj:TabsOk Tryd.prog T70:=(TabsOk.nil.addF zOj)
abbrev G70:Ctrs:=csm T70 (λ _ _=>[]) (λ _=>false)
def zFO:Ann:=⟨33,[(0,zK [0,1] []),(1,zK [0,1,9] []),(3,zK [0,1,5] []),(4,zK [0,1,5,6] []),(5,zK [0,1,5,6,17] []),(6,zK [0,1,5,6] []),(7,zK [0,1,5,6,27] []),(8,zK [0,1,5,6] []),(9,zK [4] [])],
 [(5,zK [0,1,5,6] [])],
 [(3,zK [0,1] []),(8,zK [0,1,5,6,27] [])],
 [],[]⟩
abbrev R70:=(Sl Int)
abbrev e70 (r:R70):List PA:=[.one (.sl r.len 1 (λ i=>zah (r.get i)))]
@[irreducible] def z70:=ptF Tryd.prog G70 zFO Tryd.f70
def zDC (x:(Sl (Sl Int))) (mv1:(Sl Int)) (iv1:Int) (zpy:Nat->List PV):St:=⟨[(0,zS zbT 1 x),(1,zP (.fn 71 [] [])),(5,zP (.sl mv1.len 1 zpy)),(6,zI iv1)],[],[]⟩
abbrev zFP (K:List PA->Prop) (x:(Sl (Sl Int))) (X:St->Prop) (P:(Sl Int)->Int->Bool) (S:(Sl Int)->Int->(Sl Int)):Prop:=∀ ⦃mv1:(Sl Int)⦄ ⦃iv1:Int⦄ ⦃zpy:Nat->List PV⦄,P mv1 iv1=true->K (e70 (S mv1 iv1))->zpy=zg zah mv1->X (zDC x mv1 iv1 zpy)
section
variable {K:List PA->Prop}{x:(Sl (Sl Int))}{mv1:(Sl Int)}{iv1:Int}{zpy:Nat->List PV}{X1:St->Prop}{P1:(Sl Int)->Int->Bool}{S1:(Sl Int)->Int->(Sl Int)}{mv2:(Sl Int)}{iv2:Int}{zq5:Bool}{zJS:Nat->List PV}
def zxt (S1:(Sl Int)->Int->(Sl Int)) (x:(Sl (Sl Int))) (mv2:(Sl Int)) (iv2:Int) (zq5:Bool):(Sl Int) :=
  (cond zq5
 (S1 (x.get iv2.toNat) (w64 (iv2+(1:Int))))
 (S1 mv2 (w64 (iv2+(1:Int)))))
def zxu (P1:(Sl Int)->Int->Bool) (x:(Sl (Sl Int))) (mv2:(Sl Int)) (iv2:Int) (zq5:Bool):Bool :=
  (cond zq5
 (decide ((0≤iv2/\iv2 < (x.len:Int))) &&
 (P1 (x.get iv2.toNat) (w64 (iv2+(1:Int)))))
 (P1 mv2 (w64 (iv2+(1:Int)))))
theorem zFQ (hX1:zFP K x X1 P1 S1) (hs:zxu P1 x mv2 iv2 zq5=true) (hk:K (e70 (zxt S1 x mv2 iv2 zq5))) (zMk:zJS=zg zah mv2):z70 K [1,1,1,0,1,0,0,1,0,0,1] [X1] ⟨[(0,zS zbT 1 x),(1,zP (.fn 71 [] [])),(5,zP (.sl mv2.len 1 zJS)),(6,zI iv2),(27,zB zq5)],[],[]⟩:=by subst zMk;exact zaX (by kernel_rfl) (zc hs hk (λ hs hk=>(zaJ hs λ hc hs=>And.intro hc (hX1 hs hk rfl))) (λ hs hk=>(hX1 hs hk rfl)))
def zxv (x:(Sl (Sl Int))) (S1:(Sl Int)->Int->(Sl Int)) (mv1:(Sl Int)) (iv1:Int):(Sl Int) :=
  (cond (decide (iv1 < (x.len : Int)))
 (zxt S1 x mv1 iv1 (decide ((s71 (x.get iv1.toNat) mv1) < (0:Int))))
 mv1)
def zxw (x:(Sl (Sl Int))) (P1:(Sl Int)->Int->Bool) (mv1:(Sl Int)) (iv1:Int):Bool :=
  (cond (decide (iv1 < (x.len : Int)))
 (decide ((0≤iv1/\iv1 < (x.len:Int))) &&
 (decide ((p71 (x.get iv1.toNat) mv1=true)) &&
 (zxu P1 x mv1 iv1 (decide ((s71 (x.get iv1.toNat) mv1) < (0:Int))))))
 true)
def zxx (x:(Sl (Sl Int))):Nat->(Sl Int)->Int->(Sl Int):=lpO (λ _ _=>default) (zxv x)
def zxy (x:(Sl (Sl Int))):Nat->(Sl Int)->Int->Bool:=lpO (λ _ _=>false) (zxw x)
def zxz (x:(Sl (Sl Int))) (mv1:(Sl Int)) (iv1:Int):(Sl Int):=zxx x Fuel mv1 iv1
def zxA (x:(Sl (Sl Int))) (mv1:(Sl Int)) (iv1:Int):Bool:=zxy x Fuel mv1 iv1
theorem zFR (hs:zxA x mv1 iv1=true) (hk:K (e70 (zxz x mv1 iv1))) (zFS:zpy=zg zah mv1):z70 K [1,1,1,0,1,0] [] (zDC x mv1 iv1 zpy) :=
  zl (λ X=>z70 K [1,1,1,0,1,0,0] [X]) (by kernel_rfl) λ X1 hX =>
  (show ∀ k, zFP K x X1 (zxy x k) (zxx x k) from zeU _ _ (zxw x) (zxv x) (zFP K x X1)
 (by intro _ _ _ hs;exact absurd hs dqk)
 (by intro P1 S1 hX1 mv1 iv1 zpy hs hk zFS;subst zFS;exact hX _ (zaX (by kernel_rfl) (zc hs hk (λ hs hk=>(zaJ hs λ hc hs=>And.intro hc (zaJ hs λ hc hs=>And.intro (And.intro (zE zah 1 ((x.get iv1.toNat).get)) (And.intro (zE zah 1 mv1.get) hc)) (zFQ hX1 hs hk rfl)))) (λ hs hk=>hk))))) _ hs hk zFS
def zxB (x:(Sl (Sl Int))):(Sl Int) :=
  (zxz x (x.get 0) (1:Int))
def zxC (x:(Sl (Sl Int))):Bool :=
  (decide ((0≤(0:Int)/\(0:Int) < (x.len:Int))) &&
 (zxA x (x.get 0) (1:Int)))
theorem zFT (hs:zxC x=true) (hk:K (e70 (zxB x))):z70 K [1,1] [] ⟨[(0,zS zbT 1 x),(1,zP (.fn 71 [] []))],[],[]⟩:=zaX (by kernel_rfl) (zaJ hs λ hc hs=>And.intro hc (zFR hs hk rfl))
def s70 (x:(Sl (Sl Int))):(Sl Int) :=
  (cond (decide ((x.len : Int) < (1:Int)))
 default
 (zxB x))
def p70 (x:(Sl (Sl Int))):Bool :=
  (cond (decide ((x.len : Int) < (1:Int)))
 false
 (zxC x))
end
theorem q70 (x:(Sl (Sl Int))) (K:List PA->Prop) (hs:p70 x=true) (hk:K (e70 (s70 x))):vcFun Tryd.prog G70 zFO 70 [.one (.sl x.len 1 (λ i=>zbT (x.get i))),.one (.fn 71 [] [])] K :=
  zaX (by kernel_rfl) (zc hs hk (λ hs hk=>(absurd hs dqk:False)) (λ hs hk=>(zFT hs hk)))
def zFU : List PA → COut
  | [.one (.sl zfk zlu zfl),.one (.fn 71 [] [])]=>.det (IsE zbT 1 zlu zfl/\p70 (⟨zfk,znw zfl⟩:(Sl (Sl Int)))=true) [.one (.sl ((s70 (⟨zfk,znw zfl⟩:(Sl (Sl Int)))).len) 1 (λ i=>zah ((s70 (⟨zfk,znw zfl⟩:(Sl (Sl Int)))).get i)))]
  | _=>.no
theorem zJT:zas Tryd.prog 70:=⟨_,rfl,rfl,by kernel_rfl⟩
theorem zOk:Ok Tryd.prog 70 zFU:=zbv zMj zJT λ args K h=>by
  unfold zFU at h
  split at h
  · rename_i zfk zlu zfl
    obtain⟨⟨⟨rfl,zhH,rfl⟩,hs⟩,hk⟩:=h
    try rw[zln zhH] at hs
    try rw[zln zhH] at hk
    exact⟨(λ _ _=>[]),(λ _=>false),zFO,q70 (⟨zfk,zhH⟩:(Sl (Sl Int))) K hs hk⟩
  · exact h.elim
end Go.Proofs
namespace Go.Pm
open Go.RowKit (Below)
section
variable (P:Program) (Γ:Ctrs)
def ztp (fi : FuncId) : Code → Option (Nat × Nat)
  | .region id ops false=>match ops.toList with
    | [o1,o2]=>match o1.op,o1.dst,o1.guard,o2.op,o2.dst,o2.guard with
      | .makeFunc (.func f) first caps,some t,none,.defer { callee:=.value (.tmp t'),args,argTypes:=_ },none,none=>match Nat.beq f fi && Nat.beq t t' && first.isEmpty && args.isEmpty && Nat.beq caps.size 2 with
        | true=>some (id,t)
        | false=>none
      | _,_,_,_,_,_=>none
    | _=>none
  | _=>none
def zCm (fi : FuncId) (ann : Ann) : Code → (Exit → St → Prop) → St → Prop
  | .seq a b,K,σ=>match ztp fi a with
    | some (id,t)=>match Nat.blt t ann.nt with
      | true=>zEd P ann id (vc P Γ ann b K) ⟨(t,.junk) :: σ.env,σ.objs,[]⟩
      | false=>False
    | none=>vc P Γ ann a (zCW (zCm fi ann b K) K) σ
  | c,K,σ=>vc P Γ ann c K σ
def ztq (fi:FuncId) (ann:Ann) (f:FuncId) (args:List PA) (K:List PA->Prop):Prop :=
 match P.funcs[f]? with
 | some fn=>match fn.body with
  | some c=>match Nat.beq ann.nt fn.ntmps && Nat.ble args.length ann.nt with
   | true=>zCm P Γ fi ann c (zpW P fn K) ⟨zh4 0 args,[],[]⟩
   | false=>False
  | none=>False
 | none=>False
end
section
variable {P:Program}{Γ:Ctrs}{B:Nat}{w0:World}
theorem zmF {fi:FuncId}{c:Code}{id t:Nat}(h:ztp fi c=some (id,t)):∃ (o1 o2:Oper) (caps:Array Operand) (ats:Array TypeId),c=.region id #[o1,o2] false/\caps.size=2/\o1.op=.makeFunc (.func fi) #[] caps/\o1.dst=some t/\o1.guard=none /\
  o2.op=.defer { callee:=.value (.tmp t),args:=#[],argTypes:=ats }/\o2.dst=none/\o2.guard=none:=by
 unfold ztp at h
 split at h
 ·rename_i id' ops
  split at h
  ·rename_i o1 o2 hops
   split at h
   ·rename_i f first caps t' t2 args ats e1 e2 e3 e4 e5 e6
    split at h
    ·rename_i hc
     simp only[dqm] at hc
     simp only[dqa,dqh] at h
     obtain⟨rfl,rfl⟩:=h
     obtain⟨⟨⟨⟨h1,h2⟩,h3⟩,h4⟩,h5⟩:=hc
     have h5:=dqc h5
     have h1:=dqc h1
     have h2:=dqc h2
     have h3:first = #[]:=by simpa using h3
     have h4:args = #[]:=by simpa using h4
     subst h1 h2 h3 h4
     refine⟨o1,o2,caps,ats,?_,h5,e1,e2,e3,e4,e5,e6⟩
     rw[← Array.toArray_toList (xs:=ops),hops]
    ·cases h
   ·cases h
  ·cases h
 ·cases h
theorem zul {fi : FuncId} (hidle : ∀ caps : Array Value, caps.size = 2 → zmT P { target := .fn (.func fi) caps, args := #[] }) {c : Code} {id t nt n : Nat} {h0 : Fz} {D : List Nat} {a0 a : Act} {σ : St} {g : Gh} {w : World} {Q : Exit → Act → World → Prop}
    (h:ztp fi c=some (id,t)) (ht:t < nt) (htD:t∈D) (S:Sim P nt B w0 h0 g σ a w) (hkp:Kp D a0 a)
    (hQ:∀ a',Sim P nt B w0 h0 g ⟨(t,.junk) :: σ.env,σ.objs,[]⟩ a' w->Kp D a0 a'->Q .normal a' w):c.wpIn (FR none) n P Q a w:=by
  obtain⟨o1,o2,caps,ats,rfl,e0,e1,e2,e3,e4,e5,e6⟩:=zmF h
  refine wpIn_region ?_
  show wpOpsIn (FR none) n P #[o1,o2] Q [0,1] a w
  have w1:∀ tm,Region.wanted o1 (yielded #[o1,o2] tm)=true:=λ tm=>by simp[Region.wanted,e3]
  have w2:∀ tm,Region.wanted o2 (yielded #[o1,o2] tm)=true:=λ tm=>by simp[Region.wanted,e6]
  have r1:(execOp a.eval o1).run P w=.ok (.value (.func (.func fi) #[] (caps.map a.eval))) w:=by
    simp only[execOp,e1,Instr.makeFunc,dqd,dqe,dqb];simp
  have ets:t < a.tmps.size:=Nat.lt_of_lt_of_le ht S.size
  have ev:(a.put (some t) (.func (.func fi) #[] (caps.map a.eval))).eval (.tmp t)=.func (.func fi) #[] (caps.map a.eval):=by
    simp[Act.put,Act.eval,dql,ets]
  have r2:(execOp (a.put (some t) (.func (.func fi) #[] (caps.map a.eval))).eval o2).run P w=.ok (.defer { target:=.fn (.func fi) (caps.map a.eval),args:=#[] }) w:=by
    simp only[execOp,e4,resolve,dqd,ev,Deferred.ofValue,dqe,dqb];simp
  show (if Region.wanted o1 (yielded #[o1,o2] a.tmps) then o1.wpIn (FR none) n P a w (wpOpsIn (FR none) n P #[o1,o2] Q [1]) Q else _)
  rw[if_pos (w1 _)]
  refine⟨λ _ _=>trivial,?_⟩
  rw[show o1.semAt (FR none).round a.eval=execOp a.eval o1 from rfl,r1]
  show wpOpsIn (FR none) n P #[o1,o2] Q [1] (a.put o1.dst _) w
  rw[e2]
  show (if Region.wanted o2 (yielded #[o1,o2] (a.put (some t) _).tmps) then o2.wpIn (FR none) n P (a.put (some t) _) w (wpOpsIn (FR none) n P #[o1,o2] Q []) Q else _)
  rw[if_pos (w2 _)]
  refine⟨λ _ _=>trivial,?_⟩
  have r3:Sem.run P (o2.semAt (FR none).round (a.put (some t) (.func (.func fi) #[] (caps.map a.eval))).eval) w=.ok (.defer { target:=.fn (.func fi) (caps.map a.eval),args:=#[] }) w:=r2
  rw[r3]
  have S1:=S.put (dst:=some t) (d:=.junk) (v:=.func (.func fi) #[] (caps.map a.eval)) (by simpa [zbF,Nat.blt_eq] using ht) trivial (λ L hL=>by simp[zaU,zbh,zaE] at hL) []
  refine hQ _ (S1.act ?_ ?_ ?_) ?_
  · obtain ⟨es, m1, m2, m3, m4⟩ := S1.dfr
    refine⟨.inr { target:=.fn (.func fi) (caps.map a.eval),args:=#[] } :: es,m1,?_,λ E hE=>?_,λ d hd=>?_⟩
    · rw[e5,List.map_cons,← m2];rfl
    · rcases dqq.1 hE with e | hE
      · cases e
      · exact m3 E hE
    · rcases dqq.1 hd with e | hd
      · cases e;exact hidle _ (by simpa using e0)
      · exact m4 d hd
  · rw[e5];exact S1.size
  · rw[e5];exact S1.env
  · rw [e5]
    exact hkp.put (dst:=some t) (λ z hz=>by cases hz;exact htD) _ a.defers
theorem zxD (hok:OkAll P Γ){fi:FuncId}(hidle:∀ caps:Array Value,caps.size=2->zmT P { target:=.fn (.func fi) caps,args:=#[] }) (ann:Ann):∀ (c:Code) (n:Nat) (h0:Fz) (D:List Nat) (a0:Act) (K:Exit->St->Prop) (σ:St) (g:Gh) (a:Act) (w:World),
  (∀ t∈zh2 c,t∈D)->zCm P Γ fi ann c K σ->Sim P ann.nt B w0 h0 g σ a w->Kp D a0 a->c.wpIn (FR none) n P (PostR P ann.nt B w0 h0 D a0 K) a w
 | .seq x y,n,h0,D,a0,K,σ,g,a,w,hD,h,S,hkp=>by
  have hDx:∀ t∈zh2 x,t∈D:=λ t ht=>hD t (dqg.2 (.inl ht))
  have hDy:∀ t∈zh2 y,t∈D:=λ t ht=>hD t (dqg.2 (.inr ht))
  simp only[zCm] at h
  split at h
  ·rename_i id t hdf
   split at h
   ·rename_i hlt
    have ht:t < ann.nt:=by simpa [Nat.blt_eq] using hlt
    have htD:t∈D:=by
     obtain⟨o1,o2,caps,ats,rfl,_,_,e2,_,_,e5,_⟩:=zmF hdf
     exact hDx t (by simp[zh2,zuL,e2])
    refine wpIn_seq (zul hidle hdf ht htD S hkp λ a' S' hk'=>?_)
    have hk:∀ s g2,vc P Γ ann y K s->Sim P ann.nt B w0 h0 g2 s a' w->y.wpIn (FR none) n P (PostR P ann.nt B w0 h0 D a0 K) a' w:=λ s g2 hv S2=>zdW hok ann y none n h0 D a0 K s g2 a' w hDy (Rnd.none h0) hv S2 hk'
    unfold zEd at h
    split at h
    ·split at h
     ·rename_i s hs
      obtain⟨g2,S2⟩:=zbu hs S'
      exact hk s g2 h S2
     ·exact h.elim
    ·exact hk _ g h S'
   ·exact h.elim
  ·refine wpIn_seq (wpIn_mono (zdW hok ann x none n h0 D a0 _ σ g a w hDx (Rnd.none h0) h S hkp) ?_)
   rintro e a' w' ⟨g',σ',hK,S',hk'⟩
   cases e with
   | normal=>exact zxD hok hidle ann y n h0 D a0 K σ' g' a' w' hDy hK S' hk'
   | exit id=>exact⟨g',σ',hK,S',hk'⟩
   | goto l=>exact⟨g',σ',hK,S',hk'⟩
   | ret=>exact⟨g',σ',hK,S',hk'⟩
   | panic ch=>exact⟨g',σ',hK,S',hk'⟩
   | outgrown=>exact⟨g',σ',hK,S',hk'⟩
 | .skip,n,h0,D,a0,K,σ,g,a,w,hD,h,S,hkp=>zdW hok ann .skip none n h0 D a0 K σ g a w hD (Rnd.none h0) h S hkp
 | .region i o d,n,h0,D,a0,K,σ,g,a,w,hD,h,S,hkp=>zdW hok ann (.region i o d) none n h0 D a0 K σ g a w hD (Rnd.none h0) h S hkp
 | .cond c x y,n,h0,D,a0,K,σ,g,a,w,hD,h,S,hkp=>zdW hok ann (.cond c x y) none n h0 D a0 K σ g a w hD (Rnd.none h0) h S hkp
 | .block i x,n,h0,D,a0,K,σ,g,a,w,hD,h,S,hkp=>zdW hok ann (.block i x) none n h0 D a0 K σ g a w hD (Rnd.none h0) h S hkp
 | .loop x,n,h0,D,a0,K,σ,g,a,w,hD,h,S,hkp=>zdW hok ann (.loop x) none n h0 D a0 K σ g a w hD (Rnd.none h0) h S hkp
 | .scope x,n,h0,D,a0,K,σ,g,a,w,hD,h,S,hkp=>zdW hok ann (.scope x) none n h0 D a0 K σ g a w hD (Rnd.none h0) h S hkp
 | .exit i,n,h0,D,a0,K,σ,g,a,w,hD,h,S,hkp=>zdW hok ann (.exit i) none n h0 D a0 K σ g a w hD (Rnd.none h0) h S hkp
 | .goto i,n,h0,D,a0,K,σ,g,a,w,hD,h,S,hkp=>zdW hok ann (.goto i) none n h0 D a0 K σ g a w hD (Rnd.none h0) h S hkp
 | .label i,n,h0,D,a0,K,σ,g,a,w,hD,h,S,hkp=>zdW hok ann (.label i) none n h0 D a0 K σ g a w hD (Rnd.none h0) h S hkp
 | .ret,n,h0,D,a0,K,σ,g,a,w,hD,h,S,hkp=>zdW hok ann .ret none n h0 D a0 K σ g a w hD (Rnd.none h0) h S hkp
 | .rangeFunc f p x y,n,h0,D,a0,K,σ,g,a,w,hD,h,S,hkp=>zdW hok ann (.rangeFunc f p x y) none n h0 D a0 K σ g a w hD (Rnd.none h0) h S hkp
 | .refuse x,n,h0,D,a0,K,σ,g,a,w,hD,h,S,hkp=>zdW hok ann (.refuse x) none n h0 D a0 K σ g a w hD (Rnd.none h0) h S hkp
theorem zCn {G : Ctrs} (hok : OkAll P G) {f fi : FuncId} (hidle : ∀ caps : Array Value, caps.size = 2 → zmT P { target := .fn (.func fi) caps, args := #[] }) {args : List PA} {K : List PA → Prop} {ann : Ann} (hv : ztq P G fi ann f args K) {w : World} {h0 : Fz} {vs : List Value} (hvs : RL (paR h0) args vs) (hfz : Hw h0 w) (hgl : zes h0) :
  Calls P f vs.toArray w λ e w'=>∃ (h':Fz) (rs:List PA) (v:Value),K rs/\e=.returned v/\zot h' rs v/\Bel h0 w.heap.size w w' /\
   Fle h0 h'/\Hw h' w'/\∀ b o,h' b=some o->h0 b=some o∨w.heap.size≤b:=by
 unfold ztq at hv
 split at hv
 ·rename_i fn hfn
  split at hv
  ·rename_i c hbody
   split at hv
   ·rename_i hnt
    simp only[dqm,Nat.ble_eq] at hnt
    have S:=zlg (P:=P) (dqc hnt.1) hnt.2 hvs hfz hgl
    have hwp:=zxD (B:=w.heap.size) (w0:=w) hok hidle ann c 0 h0 (zh2 c) _ _ _ _ _ _ (λ _ h=>h) hv S (Kp.refl _ _)
    refine (callsIn_wide (n:=0)).1 ?_
    refine callsIn_of_wp_marks (F:=FR none) hfn hbody trivial (wpIn_mono hwp ?_)
    have h0b:∀ b,h0 b=some (.fz (.deferred (some [])))->b < w.heap.size:=λ b h=>hfz.lt h
    rintro e a' w' ⟨g',σ',hK',S',_⟩
    have fin:zIm P fn K σ'->LeavesInM (FR none) 0 P fn a'.tmps (λ e w'=>∃ (h':Fz) (rs:List PA) (v:Value),K rs/\e=.returned v/\zot h' rs v/\Bel h0 w.heap.size w w' /\
      Fle h0 h'/\Hw h' w'/\∀ b o,h' b=some o->h0 b=some o∨w.heap.size≤b) a'.defers .returning w':=by
     intro hf
     obtain⟨Ds,h1,h2,h3,h4⟩:=S'.dfr
     refine zlf h0b Ds g' a' w' h1 h2 h3 h4 S' λ g2 a2 w2 _ S2=>?_
     unfold zIm at hf
     split at hf
     ·rename_i l hl
      obtain⟨u,v,hu,hrun,hres⟩:=zle S2 hl
      obtain⟨h',S3,F⟩:=S2.freeze hu
      exact⟨v,hrun,h',l,v,hf,rfl,hres h' F,S3.below,S3.le0,S3.hw,S3.hn⟩
     ·exact hf.elim
    cases e with
    | normal=>exact fin hK'
    | ret=>exact fin hK'
    | exit id=>exact hK'.elim
    | goto l=>exact hK'.elim
    | panic ch=>exact hK'.elim
    | outgrown=>exact hK'.elim
   ·exact hv.elim
  ·exact hv.elim
 ·exact hv.elim
theorem zCo {T : Tabs} (hT : TabsOk P T) {f fi : FuncId} {C : List PA → COut} (hc : zas P f) (hidle : ∀ caps : Array Value, caps.size = 2 → zmT P { target := .fn (.func fi) caps, args := #[] })
    (h:∀ args K,(C args).wp K->∃ args',RL PAle args args'/\∃ memo vv ann,ztq P (csm T memo vv) fi ann f args' (Wk K)):Ok P f C:=by
  intro args K hK w h0 vs hvs hfz hgl
  obtain⟨args',hle,memo,vv,ann,hv⟩:=h args K hK
  refine⟨hc,(zCn (hT.all memo vv) hidle hv (zwc (R:=paR h0) (S:=PAle) (T:=paR h0) (λ _ _ _ e r=>zBM e r) _ _ _ hle hvs) hfz hgl).mono ?_⟩
  rintro e w' ⟨h',rs,v,⟨rs',hr,hk⟩,he,hres,rest⟩
  exact⟨h',rs',v,hk,he,zwd hr hres,rest⟩
end
end Go.Pm
namespace Go.Pm
open Go Go.Proofs
set_option maxRecDepth 100000
theorem zJU:∀ caps:Array Value,caps.size=2->zmT Tryd.prog { target:=.fn (.func 68) caps,args:=#[] }:=λ caps hc=>by
 match caps,hc with
 | ⟨[x,y]⟩,_ =>
 refine⟨.func 68,#[x,y],68,#[x,y],rfl,λ w=>?_,λ n w=>?_⟩
 ·have h : zas Tryd.prog 68 := ⟨_, rfl, rfl, by kernel_rfl⟩
  show (callFunc 68 (#[] ++ #[x,y])).run Tryd.prog w=_
  exact zcm h
 have key:CallsDIn { fn:=λ _=>True,depth:=none,alive:=false,round:=none } n Tryd.prog 68 #[x,y] .returning w λ e u' w'=>e=.returned (.tuple #[])/\u'=.returning/\w'=w:=by
  refine callsDIn_of_wpSIn Tryd.func68 rfl trivial λ c₀ cs hu=>?_
  apply wpSIn_seq
  apply wpSIn_region
  simp[wpOpsSIn,go_sem,recoverD,hu,Tryd.ntmps68,Exit.thenS]
  apply wpSIn_seq
  apply wpSIn_region
  simp[wpOpsSIn,go_sem,recoverD,hu,Tryd.ntmps68,Exit.thenS]
  refine wpSIn_cond (t:=false) (by simp[Act.eval,Array.replicate]) ?_
  simp only[Bool.false_eq_true,if_false]
  refine wpSIn_of_wpIn rfl (wpIn_skip ?_)
  cases c₀
  simp_all [bodyPostS,results,Tryd.results68]
 exact key.mono λ e u' w' h=>⟨⟨_,h.1⟩,h.2⟩
end Go.Pm
namespace Go.Proofs
open Go Go.Pm
set_option maxRecDepth 100000
set_option linter.unusedVariables false
attribute [local irreducible] Go.Pm.vcFun Go.Pm.vc Go.Pm.vcIter
abbrev T22:Tabs:=(((Tabs.nil.addF 67 zuf).addM 69 zJP).addF 70 zFU)
theorem zMl:TabsOk Tryd.prog T22:=(((TabsOk.nil.addF zLx).addM zOi).addF zOk)
abbrev G22:Ctrs:=csm T22 (λ _ _=>[]) (λ l=>Nat.beq l 12)
def zFV:Ann:=⟨29,[(0,zK [1,2,3] [1,2,3]),(1,zK [1,2,3,9] [1,2,3]),(2,zK [2,3] [2,3]),(3,zK [1,2,3] [1,2,3]),(4,zK [2,3,4] [2,3,12,14]),(5,zK [2,3,4,15] [2,3,12,14]),(6,zK [2,3,4,15,16] [2,3,12,14]),(7,zK [2,3,4,5,15] [2,3,12,14]),(8,zK [2,3,4,6,15] [2,3,12,14]),(9,zK [2,3,4,6,15,23] [2,3,12,14]),(10,zK [2,3] [2,3]),(11,zK [2,3,4,15] [2,3,12,14])],
 [(6,zK [2,3,4,15] [2,3,12,14])],
 [],
 [],[]⟩
abbrev R22:=((Sl Int)×Int)
abbrev e22 (r:R22):List PA:=[.one (.sl r.1.len 1 (λ i=>zah (r.1.get i))),.one (.int .i64 r.2)]
@[irreducible] def z22:=ptF Tryd.prog G22 zFV Tryd.f22
def zDD (zbj:Int) (zbp:Int) (zbf:(Sl Tie)) (zbq:Nat) (zbr:(List Int->Option (List Int))) (zdG:Nat->List PV):St:=⟨[(2,zp 2 0),(3,zp 3 0),(4,zp 14 0),(15,zI zbj)],[(2,.box 27 [.p (.nils)]),(3,.box 28 [zi (0:Int)]),(12,.mo 3 4 (false,1,false,[none]) zbq zbr),(14,.box 105 [zi zbp,.p (.sl zbf.len 4 zdG),.mo 12])],[]⟩
abbrev zJV (K:List PA->Prop) (X:St->Prop) (P:Int->Int->(Sl Tie)->Nat->(List Int->Option (List Int))->Bool) (S:Int->Int->(Sl Tie)->Nat->(List Int->Option (List Int))->((Sl Int)×Int)):Prop:=∀ ⦃zbj:Int⦄ ⦃zbp:Int⦄ ⦃zbf:(Sl Tie)⦄ ⦃zbq:Nat⦄ ⦃zbr:(List Int->Option (List Int))⦄ ⦃zdG:Nat->List PV⦄,P zbj zbp zbf zbq zbr=true->K (e22 (S zbj zbp zbf zbq zbr))->zdG=zg enc_40 zbf->X (zDD zbj zbp zbf zbq zbr zdG)
section
variable {K:List PA->Prop}{n:Net}{zbj:Int}{zbp:Int}{zbf:(Sl Tie)}{zbq:Nat}{zbr:(List Int->Option (List Int))}{zdG:Nat->List PV}{X0:St->Prop}{P0:Int->Int->(Sl Tie)->Nat->(List Int->Option (List Int))->Bool}{S0:Int->Int->(Sl Tie)->Nat->(List Int->Option (List Int))->((Sl Int)×Int)}
def zxE (S0:Int->Int->(Sl Tie)->Nat->(List Int->Option (List Int))->((Sl Int)×Int)) (zbj:Int) (zbp:Int) (zbf:(Sl Tie)) (zbq:Nat) (zbr:(List Int->Option (List Int))):((Sl Int)×Int) :=
  (cond (decide (zbj < (4:Int)))
 (cond (decide ((((s69 (⟨(⟨zbp, zbf⟩ : Net), (⟨zbq, zbr⟩ : Mp)⟩ : web) zbj).1).len : Int) > (0:Int)))
 ((s70 ((s69 (⟨(⟨zbp,zbf⟩:Net),(⟨zbq,zbr⟩:Mp)⟩:web) zbj).1)),(0:Int))
 (S0 (w64 (zbj+(1:Int))) (((s69 (⟨(⟨zbp,zbf⟩:Net),(⟨zbq,zbr⟩:Mp)⟩:web) zbj).2).Net.Nodes) (((s69 (⟨(⟨zbp,zbf⟩:Net),(⟨zbq,zbr⟩:Mp)⟩:web) zbj).2).Net.Ties) ((((s69 (⟨(⟨zbp,zbf⟩:Net),(⟨zbq,zbr⟩:Mp)⟩:web) zbj).2).out).n) ((((s69 (⟨(⟨zbp,zbf⟩:Net),(⟨zbq,zbr⟩:Mp)⟩:web) zbj).2).out).F)))
 default)
def zxF (P0:Int->Int->(Sl Tie)->Nat->(List Int->Option (List Int))->Bool) (zbj:Int) (zbp:Int) (zbf:(Sl Tie)) (zbq:Nat) (zbr:(List Int->Option (List Int))):Bool :=
  (cond (decide (zbj < (4:Int)))
 (decide ((p69 (⟨(⟨zbp,zbf⟩:Net),(⟨zbq,zbr⟩:Mp)⟩:web) zbj=true)) &&
 (cond (decide ((((s69 (⟨(⟨zbp, zbf⟩ : Net), (⟨zbq, zbr⟩ : Mp)⟩ : web) zbj).1).len : Int) > (0:Int)))
 (decide ((p70 ((s69 (⟨(⟨zbp,zbf⟩:Net),(⟨zbq,zbr⟩:Mp)⟩:web) zbj).1)=true)) &&
 true)
 (P0 (w64 (zbj+(1:Int))) (((s69 (⟨(⟨zbp,zbf⟩:Net),(⟨zbq,zbr⟩:Mp)⟩:web) zbj).2).Net.Nodes) (((s69 (⟨(⟨zbp,zbf⟩:Net),(⟨zbq,zbr⟩:Mp)⟩:web) zbj).2).Net.Ties) ((((s69 (⟨(⟨zbp,zbf⟩:Net),(⟨zbq,zbr⟩:Mp)⟩:web) zbj).2).out).n) ((((s69 (⟨(⟨zbp,zbf⟩:Net),(⟨zbq,zbr⟩:Mp)⟩:web) zbj).2).out).F))))
 false)
def zxG:Nat->Int->Int->(Sl Tie)->Nat->(List Int->Option (List Int))->((Sl Int)×Int):=lpO (λ _ _ _ _ _=>default) (zxE)
def zxH:Nat->Int->Int->(Sl Tie)->Nat->(List Int->Option (List Int))->Bool:=lpO (λ _ _ _ _ _=>false) (zxF)
def zxI (zbj:Int) (zbp:Int) (zbf:(Sl Tie)) (zbq:Nat) (zbr:(List Int->Option (List Int))):((Sl Int)×Int):=zxG Fuel zbj zbp zbf zbq zbr
def zxJ (zbj:Int) (zbp:Int) (zbf:(Sl Tie)) (zbq:Nat) (zbr:(List Int->Option (List Int))):Bool:=zxH Fuel zbj zbp zbf zbq zbr
theorem zFW (hs:zxJ zbj zbp zbf zbq zbr=true) (hk:K (e22 (zxI zbj zbp zbf zbq zbr))) (zlG:zdG=zg enc_40 zbf):z22 (Wk K) [1,1,1,1,0,1,0] [] (zDD zbj zbp zbf zbq zbr zdG) :=
  zl (λ X=>z22 (Wk K) [1,1,1,1,0,1,0,0] [X]) (by kernel_rfl) λ X0 hX =>
  (show ∀ k, zJV K X0 (zxH k) (zxG k) from zeU _ _ (zxF) (zxE) (zJV K X0)
 (by intro _ _ _ _ _ _ hs;exact absurd hs dqk)
 (by intro P0 S0 hX0 zbj zbp zbf zbq zbr zdG hs hk zlG;subst zlG;exact hX _ (zaX (by kernel_rfl) (zc hs hk (λ hs hk=>(zaJ hs λ hc hs=>And.intro (And.intro (zE enc_40 4 zbf.get) (And.intro (rfl:((false,1,false,[none]):MQ)=(false,1,false,[none])) hc)) (zc hs hk (λ hs hk=>(zaJ hs λ hc hs=>And.intro (And.intro (zE zbT 1 (((s69 (⟨(⟨zbp,zbf⟩:Net),(⟨zbq,zbr⟩:Mp)⟩:web) zbj).1).get)) hc) ((zfh hk):Wk K [.one (.sl ((s70 ((s69 (⟨(⟨zbp,zbf⟩:Net),(⟨zbq,zbr⟩:Mp)⟩:web) zbj).1)).len) 1 (λ i=>zah ((s70 ((s69 (⟨(⟨zbp,zbf⟩:Net),(⟨zbq,zbr⟩:Mp)⟩:web) zbj).1)).get i))),.one (.int .i64 (0:Int))]))) (λ hs hk=>(hX0 hs hk rfl))))) (λ hs hk=>(absurd hs dqk:False)))))) _ hs hk zlG
def s22 (n:Net):((Sl Int)×Int) :=
  (cond (!(s67 n))
 ((⟨0,λ _=>default⟩:(Sl Int)),(2:Int))
 (zxI (0:Int) n.Nodes n.Ties 0 (λ _=>none)))
def p22 (n:Net):Bool :=
  (decide ((p67 n=true)) &&
 (cond (!(s67 n))
 true
 (zxJ (0:Int) n.Nodes n.Ties 0 (λ _=>none))))
end
theorem q22 (n:Net) (K:List PA->Prop) (hs:p22 n=true) (hk:K (e22 (s22 n))):ztq Tryd.prog G22 68 zFV 22 [.agg (enc_24 n)] (Wk K) :=
  zaX (by kernel_rfl) (zaJ hs λ hc hs=>And.intro (And.intro (zE enc_40 4 n.Ties.get) hc) (zc hs hk (λ hs hk=>((wk hk (zhq (.one (.nil _ _)) (zhq (.one (.rfl _)) zmC))):Wk K [.one (.nils),.one (.int .i64 (2:Int))])) (λ hs hk=>(zFW hs hk rfl))))
def zFX : List PA → COut
  | [.agg [.int .i64 zae,.sl zad zau zac]]=>.det (IsE enc_40 4 zau zac/\p22 (⟨zae,(⟨zad,zak zac⟩:(Sl Tie))⟩:Net)=true) [.one (.sl (((s22 (⟨zae,(⟨zad,zak zac⟩:(Sl Tie))⟩:Net)).1).len) 1 (λ i=>zah (((s22 (⟨zae,(⟨zad,zak zac⟩:(Sl Tie))⟩:Net)).1).get i))),.one (.int .i64 ((s22 (⟨zae,(⟨zad,zak zac⟩:(Sl Tie))⟩:Net)).2))]
  | _=>.no
theorem zJW:zas Tryd.prog 22:=⟨_,rfl,rfl,by kernel_rfl⟩
theorem zOl:Ok Tryd.prog 22 zFX:=zCo zMl zJW zJU λ args K h=>by
  unfold zFX at h
  split at h
  · rename_i zae zad zau zac
    obtain⟨⟨⟨rfl,zal,rfl⟩,hs⟩,hk⟩:=h
    try rw[zaj zal] at hs
    try rw[zaj zal] at hk
    exact⟨_,zff zfg _,(λ _ _=>[]),(λ l=>Nat.beq l 12),zFV,q22 (⟨zae,(⟨zad,zal⟩:(Sl Tie))⟩:Net) K hs hk⟩
  · exact h.elim
abbrev T25:Tabs:=Tabs.nil
theorem zMm:TabsOk Tryd.prog T25:=TabsOk.nil
abbrev G25:Ctrs:=csm T25 (λ _ _=>[]) (λ _=>false)
def zFY:Ann:=⟨26,[(0,zK [0,1] []),(1,zK [0,1,10] []),(2,zK [4] []),(3,zK [0,1,5] []),(4,zK [0,1,5,14] []),(5,zK [0,1,5] []),(6,zK [0,1,5,25] []),(7,zK [4] []),(8,zK [4] [])],
 [(4,zK [0,1,5] [])],
 [(3,zK [0,1] [])],
 [],[]⟩
abbrev R25:=Bool
abbrev e25 (r:R25):List PA:=[.one (.bool r)]
@[irreducible] def z25:=ptF Tryd.prog G25 zFY Tryd.f25
def zDE (a:(Sl Int)) (b:(Sl Int)) (iv1:Int):St:=⟨[(0,zS zah 1 a),(1,zS zah 1 b),(5,zI iv1)],[],[]⟩
abbrev zJX (K:List PA->Prop) (a:(Sl Int)) (b:(Sl Int)) (X:St->Prop) (P:Int->Bool) (S:Int->Bool):Prop:=∀ ⦃iv1:Int⦄,P iv1=true->K (e25 (S iv1))->X (zDE a b iv1)
section
variable {K:List PA->Prop}{a:(Sl Int)}{b:(Sl Int)}{iv1:Int}{X1:St->Prop}{P1:Int->Bool}{S1:Int->Bool}
def zxK (a:(Sl Int)) (b:(Sl Int)) (S1:Int->Bool) (iv1:Int):Bool :=
  (cond (decide (iv1 < (a.len : Int)))
 (cond ((a.get iv1.toNat) != (b.get iv1.toNat))
 false
 (S1 (w64 (iv1+(1:Int)))))
 true)
def zxL (a:(Sl Int)) (b:(Sl Int)) (P1:Int->Bool) (iv1:Int):Bool :=
  (cond (decide (iv1 < (a.len : Int)))
 (decide ((0≤iv1/\iv1 < (a.len:Int))) &&
 (decide ((0≤iv1/\iv1 < (b.len:Int))) &&
 (cond ((a.get iv1.toNat) != (b.get iv1.toNat))
 true
 (P1 (w64 (iv1+(1:Int)))))))
 true)
def zxM (a:(Sl Int)) (b:(Sl Int)):Nat->Int->Bool:=lpO (λ _=>default) (zxK a b)
def zxN (a:(Sl Int)) (b:(Sl Int)):Nat->Int->Bool:=lpO (λ _=>false) (zxL a b)
def zxO (a:(Sl Int)) (b:(Sl Int)) (iv1:Int):Bool:=zxM a b Fuel iv1
def zxP (a:(Sl Int)) (b:(Sl Int)) (iv1:Int):Bool:=zxN a b Fuel iv1
theorem zFZ (hs:zxP a b iv1=true) (hk:K (e25 (zxO a b iv1))):z25 K [1,1,0,1,0] [] (zDE a b iv1) :=
  zl (λ X=>z25 K [1,1,0,1,0,0] [X]) (by kernel_rfl) λ X1 hX =>
  (show ∀ k, zJX K a b X1 (zxN a b k) (zxM a b k) from zeU _ _ (zxL a b) (zxK a b) (zJX K a b X1)
 (by intro _ hs;exact absurd hs dqk)
 (by intro P1 S1 hX1 iv1 hs hk;exact hX _ (zaX (by kernel_rfl) (zc hs hk (λ hs hk=>(zaJ hs λ hc hs=>And.intro hc (zaJ hs λ hc hs=>And.intro hc (zc hs hk (λ hs hk=>hk) (λ hs hk=>(hX1 hs hk)))))) (λ hs hk=>hk))))) _ hs hk
def zxQ (a:(Sl Int)) (b:(Sl Int)):Bool :=
  (zxO a b (0:Int))
def zxR (a:(Sl Int)) (b:(Sl Int)):Bool :=
  (zxP a b (0:Int))
theorem zF0 (hs:zxR a b=true) (hk:K (e25 (zxQ a b))):z25 K [1,1] [] ⟨[(0,zS zah 1 a),(1,zS zah 1 b)],[],[]⟩:=zaX (by kernel_rfl) (zFZ hs hk)
def s25 (a:(Sl Int)) (b:(Sl Int)):Bool :=
  (cond ((a.len : Int) != (b.len : Int))
 false
 (zxQ a b))
def p25 (a:(Sl Int)) (b:(Sl Int)):Bool :=
  (cond ((a.len : Int) != (b.len : Int))
 true
 (zxR a b))
end
theorem q25 (a:(Sl Int)) (b:(Sl Int)) (K:List PA->Prop) (hs:p25 a b=true) (hk:K (e25 (s25 a b))):vcFun Tryd.prog G25 zFY 25 [.one (.sl a.len 1 (λ i=>zah (a.get i))),.one (.sl b.len 1 (λ i=>zah (b.get i)))] K :=
  zaX (by kernel_rfl) (zc hs hk (λ hs hk=>hk) (λ hs hk=>(zF0 hs hk)))
def zF1 : List PA → COut
  | [.one (.sl zfk zlu zfl),.one (.sl zeY zkn zeL)]=>.det (IsE zah 1 zlu zfl/\IsE zah 1 zkn zeL/\p25 (⟨zfk,zax zfl⟩:(Sl Int)) (⟨zeY,zax zeL⟩:(Sl Int))=true) [.one (.bool (s25 (⟨zfk,zax zfl⟩:(Sl Int)) (⟨zeY,zax zeL⟩:(Sl Int))))]
  | _=>.no
theorem zJY:zas Tryd.prog 25:=⟨_,rfl,rfl,by kernel_rfl⟩
theorem zOm:Ok Tryd.prog 25 zF1:=zbv zMm zJY λ args K h=>by
  unfold zF1 at h
  split at h
  · rename_i zfk zlu zfl zeY zkn zeL
    obtain⟨⟨⟨rfl,zhH,rfl⟩,⟨rfl,zhI,rfl⟩,hs⟩,hk⟩:=h
    try rw[zb2 zhH] at hs
    try rw[zb2 zhH] at hk
    try rw[zb2 zhI] at hs
    try rw[zb2 zhI] at hk
    exact⟨(λ _ _=>[]),(λ _=>false),zFY,q25 (⟨zfk,zhH⟩:(Sl Int)) (⟨zeY,zhI⟩:(Sl Int)) K hs hk⟩
  · exact h.elim
abbrev T74:Tabs:=(((Tabs.nil.addF 67 zuf).addF 81 zue).addF 88 zwr)
theorem zMn:TabsOk Tryd.prog T74:=(((TabsOk.nil.addF zLx).addF zLw).addF zL2)
abbrev G74:Ctrs:=csm T74 (λ _ _=>[]) (λ _=>false)
def zCp:Ann:=⟨31,[(0,zK [1,2] [2]),(1,zK [1,2,6] [2,11]),(2,zK [1,2,6,14] [2,11]),(3,zK [4,5] []),(4,zK [2,6,15,16,17] [2,11]),(5,zK [2,6,15,16,17,18] [2,11]),(6,zK [2,6,8,15,16,17] [2,11]),(7,zK [2,6,15,16,17,26] [2,11]),(8,zK [4,5] []),(9,zK [2,6,15,16,17] [2,11]),(10,zK [6,29] [11]),(11,zK [4,5] []),(12,zK [4,5] [11])],
 [(5,zK [2,6,15,16,17] [2,11])],
 [(3,zK [1,2,6,14] [2,11]),(4,zK [1,2,6] [2,11]),(8,zK [2,6,15,16,17,26] [2,11]),(11,zK [6,29] [11])],
 [],[]⟩
abbrev R74:=(web×Int)
abbrev e74 (r:R74):List PA:=cond (r.2 == 0) [.one (.fp (zaC r.1) 0),.one (.int .i64 (0:Int))] [.one (.nilp),.one (.int .i64 r.2)]
@[irreducible] def z74:=ptF Tryd.prog G74 zCp Tryd.f74
def zDF (n:Net) (nodes:(Sl Int)) (zd6:Int):St:=⟨[(2,zp 2 0),(6,zp 11 0),(15,zS zah 1 nodes),(16,zI (nodes.len:Int)),(17,zI zd6)],[(2,.box 24 (zm (enc_24 n))),(11,.box 105 (zm (zaC (⟨n,(⟨0,(λ _=>none)⟩:Mp)⟩:web))))],[]⟩
abbrev zF2 (K:List PA->Prop) (n:Net) (nodes:(Sl Int)) (X:St->Prop) (P:Int->Bool) (S:Int->(web×Int)):Prop:=∀ ⦃zd6:Int⦄,P zd6=true->K (e74 (S zd6))->X (zDF n nodes zd6)
section
variable {K:List PA->Prop}{n:Net}{nodes:(Sl Int)}{zq6:Bool}{zd6:Int}{X2:St->Prop}{P2:Int->Bool}{S2:Int->(web×Int)}{zq7:Int}{zq8:Bool}{zCq:Bool}
def zxS (n:Net) (zCq:Bool):(web×Int) :=
  (cond zCq
 ((default:web),(5:Int))
 ((⟨n,(⟨0,(λ _=>none)⟩:Mp)⟩:web),(0:Int)))
theorem zF3 (hk:K (e74 (zxS n zCq))):z74 K [1,1,1,1,0,1] [] ⟨[(6,zp 11 0),(29,zB zCq)],[(11,.box 105 (zm (zaC (⟨n,(⟨0,(λ _=>none)⟩:Mp)⟩:web))))],[]⟩:=zaX (by kernel_rfl) (zt hk (λ hk=>hk) (λ hk=>hk))
def zxT (S2:Int->(web×Int)) (n:Net) (nodes:(Sl Int)) (zq7:Int) (zq8:Bool):(web×Int) :=
  (cond zq8
 ((default:web),(2:Int))
 (S2 (w64 (zq7+(1:Int)))))
def zxU (P2:Int->Bool) (n:Net) (nodes:(Sl Int)) (zq7:Int) (zq8:Bool):Bool :=
  (cond zq8
 true
 (P2 (w64 (zq7+(1:Int)))))
theorem zF4 (hX2:zF2 K n nodes X2 P2 S2) (hs:zxU P2 n nodes zq7 zq8=true) (hk:K (e74 (zxT S2 n nodes zq7 zq8))):z74 K [1,1,1,0,1,0,0,1,1,0,0,1,1] [X2] ⟨[(2,zp 2 0),(6,zp 11 0),(15,zS zah 1 nodes),(16,zI (nodes.len:Int)),(17,zI zq7),(26,zB zq8)],[(2,.box 24 (zm (enc_24 n))),(11,.box 105 (zm (zaC (⟨n,(⟨0,(λ _=>none)⟩:Mp)⟩:web))))],[]⟩:=zaX (by kernel_rfl) (zc hs hk (λ hs hk=>hk) (λ hs hk=>(hX2 hs hk)))
def zxV (n:Net) (nodes:(Sl Int)) (S2:Int->(web×Int)) (zd6:Int):(web×Int) :=
  (cond (decide (zd6 < (nodes.len : Int)))
 (zxT S2 n nodes zd6 (!(s81 (nodes.get zd6.toNat) (0:Int) (w64 (n.Nodes - (1:Int))))))
 (zxS n (s88 (⟨n,(⟨0,(λ _=>none)⟩:Mp)⟩:web))))
def zxW (n:Net) (nodes:(Sl Int)) (P2:Int->Bool) (zd6:Int):Bool :=
  (cond (decide (zd6 < (nodes.len : Int)))
 (decide ((0≤zd6/\zd6 < (nodes.len:Int))) &&
 (zxU P2 n nodes zd6 (!(s81 (nodes.get zd6.toNat) (0:Int) (w64 (n.Nodes - (1:Int)))))))
 (decide ((p88 (⟨n,(⟨0,(λ _=>none)⟩:Mp)⟩:web)=true)) &&
 true))
def zxX (n:Net) (nodes:(Sl Int)):Nat->Int->(web×Int):=lpO (λ _=>default) (zxV n nodes)
def zxY (n:Net) (nodes:(Sl Int)):Nat->Int->Bool:=lpO (λ _=>false) (zxW n nodes)
def zxZ (n:Net) (nodes:(Sl Int)) (zd6:Int):(web×Int):=zxX n nodes Fuel zd6
def zx0 (n:Net) (nodes:(Sl Int)) (zd6:Int):Bool:=zxY n nodes Fuel zd6
theorem zF5 (hs:zx0 n nodes zd6=true) (hk:K (e74 (zxZ n nodes zd6))):z74 K [1,1,1,0,1,0] [] (zDF n nodes zd6) :=
  zl (λ X=>z74 K [1,1,1,0,1,0,0] [X]) (by kernel_rfl) λ X2 hX =>
  (show ∀ k, zF2 K n nodes X2 (zxY n nodes k) (zxX n nodes k) from zeU _ _ (zxW n nodes) (zxV n nodes) (zF2 K n nodes X2)
 (by intro _ hs;exact absurd hs dqk)
 (by intro P2 S2 hX2 zd6 hs hk;exact hX _ (zaX (by kernel_rfl) (zc hs hk (λ hs hk=>(zaJ hs λ hc hs=>And.intro hc (zF4 hX2 hs hk))) (λ hs hk=>(zaJ hs λ hc hs=>And.intro (And.intro (zE enc_40 4 n.Ties.get) (And.intro (rfl:((false,1,false,[none]):MQ)=(false,1,false,[none])) hc)) (zF3 hk))))))) _ hs hk
def zx1 (n:Net) (nodes:(Sl Int)):(web×Int) :=
  (zxZ n nodes (0:Int))
def zx2 (n:Net) (nodes:(Sl Int)):Bool :=
  (zx0 n nodes (0:Int))
theorem zF6 (hs:zx2 n nodes=true) (hk:K (e74 (zx1 n nodes))):z74 K [1,1,1] [] ⟨[(1,zS zah 1 nodes),(2,zp 2 0),(6,zp 11 0)],[(2,.box 24 (zm (enc_24 n))),(11,.box 105 (zm (zaC (⟨n,(⟨0,(λ _=>none)⟩:Mp)⟩:web))))],[]⟩:=zaX (by kernel_rfl) (zF5 hs hk)
def zx3 (n:Net) (nodes:(Sl Int)) (zq6:Bool):(web×Int) :=
  (cond zq6
 ((default:web),(2:Int))
 (zx1 n nodes))
def zx4 (n:Net) (nodes:(Sl Int)) (zq6:Bool):Bool :=
  (cond zq6
 true
 (zx2 n nodes))
theorem zF7 (hs:zx4 n nodes zq6=true) (hk:K (e74 (zx3 n nodes zq6))):z74 K [1,1,0,1] [] ⟨[(1,zS zah 1 nodes),(2,zp 2 0),(6,zp 11 0),(14,zB zq6)],[(2,.box 24 (zm (enc_24 n))),(11,.box 105 (zm (zaC (⟨n,(⟨0,(λ _=>none)⟩:Mp)⟩:web))))],[]⟩:=zaX (by kernel_rfl) (zc hs hk (λ hs hk=>hk) (λ hs hk=>(zF6 hs hk)))
def s74 (n:Net) (nodes:(Sl Int)):(web×Int) :=
  (zx3 n nodes (!(s67 n)))
def p74 (n:Net) (nodes:(Sl Int)):Bool :=
  (decide ((p67 n=true)) &&
 (zx4 n nodes (!(s67 n))))
end
theorem q74 (n:Net) (nodes:(Sl Int)) (K:List PA->Prop) (hs:p74 n nodes=true) (hk:K (e74 (s74 n nodes))):vcFun Tryd.prog G74 zCp 74 [.agg (enc_24 n),.one (.sl nodes.len 1 (λ i=>zah (nodes.get i)))] K :=
  zaX (by kernel_rfl) (zaJ hs λ hc hs=>And.intro (And.intro (zE enc_40 4 n.Ties.get) hc) (zF7 hs hk))
def zx5 : List PA → COut
  | [.agg [.int .i64 zae,.sl zad zau zac],.one (.sl zeY zkn zeL)]=>.alt ((s74 (⟨zae,(⟨zad,zak zac⟩:(Sl Tie))⟩:Net) (⟨zeY,zax zeL⟩:(Sl Int))).2 == 0) (IsE enc_40 4 zau zac/\IsE zah 1 zkn zeL/\p74 (⟨zae,(⟨zad,zak zac⟩:(Sl Tie))⟩:Net) (⟨zeY,zax zeL⟩:(Sl Int))=true) [.one (.fp (zaC (⟨(s74 (⟨zae,(⟨zad,zak zac⟩:(Sl Tie))⟩:Net) (⟨zeY,zax zeL⟩:(Sl Int))).1.Net,((s74 (⟨zae,(⟨zad,zak zac⟩:(Sl Tie))⟩:Net) (⟨zeY,zax zeL⟩:(Sl Int))).1.out)⟩:web)) 0),.one (.int .i64 (0:Int))] (IsE enc_40 4 zau zac/\IsE zah 1 zkn zeL/\p74 (⟨zae,(⟨zad,zak zac⟩:(Sl Tie))⟩:Net) (⟨zeY,zax zeL⟩:(Sl Int))=true) [.one (.nilp),.one (.int .i64 ((s74 (⟨zae,(⟨zad,zak zac⟩:(Sl Tie))⟩:Net) (⟨zeY,zax zeL⟩:(Sl Int))).2))]
  | [.agg [.int .i64 zae,.sl zad zau zac],.one (.nils)]=>.alt ((s74 (⟨zae,(⟨zad,zak zac⟩:(Sl Tie))⟩:Net) (⟨0,λ _=>default⟩:(Sl Int))).2 == 0) (IsE enc_40 4 zau zac/\p74 (⟨zae,(⟨zad,zak zac⟩:(Sl Tie))⟩:Net) (⟨0,λ _=>default⟩:(Sl Int))=true) [.one (.fp (zaC (⟨(s74 (⟨zae,(⟨zad,zak zac⟩:(Sl Tie))⟩:Net) (⟨0,λ _=>default⟩:(Sl Int))).1.Net,((s74 (⟨zae,(⟨zad,zak zac⟩:(Sl Tie))⟩:Net) (⟨0,λ _=>default⟩:(Sl Int))).1.out)⟩:web)) 0),.one (.int .i64 (0:Int))] (IsE enc_40 4 zau zac/\p74 (⟨zae,(⟨zad,zak zac⟩:(Sl Tie))⟩:Net) (⟨0,λ _=>default⟩:(Sl Int))=true) [.one (.nilp),.one (.int .i64 ((s74 (⟨zae,(⟨zad,zak zac⟩:(Sl Tie))⟩:Net) (⟨0,λ _=>default⟩:(Sl Int))).2))]
  | _=>.no
theorem zJZ:zas Tryd.prog 74:=⟨_,rfl,rfl,by kernel_rfl⟩
theorem zMo:Ok Tryd.prog 74 zx5:=zgc zMn zJZ λ args K h=>by
  unfold zx5 at h
  split at h
  · rename_i zae zad zau zac zeY zkn zeL
    have h:=zI3 h
    obtain⟨⟨⟨rfl,zal,rfl⟩,⟨rfl,zhI,rfl⟩,hs⟩,hk⟩:=h
    try rw[zaj zal] at hs
    try rw[zaj zal] at hk
    try rw[zb2 zhI] at hs
    try rw[zb2 zhI] at hk
    exact⟨_,zff zfg _,(λ _ _=>[]),(λ _=>false),zCp,q74 (⟨zae,(⟨zad,zal⟩:(Sl Tie))⟩:Net) (⟨zeY,zhI⟩:(Sl Int)) (Wk K) hs (zfh hk)⟩
  · rename_i zae zad zau zac
    have h:=zI3 h
    obtain⟨⟨⟨rfl,zal,rfl⟩,hs⟩,hk⟩:=h
    try rw[zaj zal] at hs
    try rw[zaj zal] at hk
    exact⟨_,(zhq (zfg _) (zhq (.one (.nil _ _)) zmC)),(λ _ _=>[]),(λ _=>false),zCp,q74 (⟨zae,(⟨zad,zal⟩:(Sl Tie))⟩:Net) (⟨0,λ _=>default⟩:(Sl Int)) (Wk K) hs (zfh hk)⟩
  · exact h.elim
abbrev T75:Tabs:=(((Tabs.nil.addF 93 zpi).addF 104 zpl).addI 110 zpk)
theorem zMp:TabsOk Tryd.prog T75:=(((TabsOk.nil.addF zIo).addF zE7).addI zuh)
abbrev G75:Ctrs:=csm T75 (λ _ _=>[]) (λ _=>false)
def zx6:Ann:=⟨66,[(0,zK [0,1,4] [4]),(1,zK [0,1,4,5] [4,5]),(2,zK [0,1,4,5,10] [4,5]),(3,zK [0,1,4,5,10,11] [4,5]),(4,zK [0,1,4,5,6,10] [4,5]),(5,zK [0,1,4,5,10] [4,5]),(6,zK [0,1,4,5,10] [4,5]),(7,zK [0,4,5] [4,5]),(8,zK [0,4,5,7] [4,5,7]),(9,zK [0,4,5,7,20] [4,5,7]),(10,zK [0,4,5,7] [4,5,7]),(11,zK [0,4,5,7,22] [4,5,7]),(12,zK [0,4,5,7,8,22] [4,5,7,8]),(13,zK [0,4,5,7,8,22,29] [4,5,7,8]),(14,zK [0,4,5,7,8,9,22] [4,5,7,8,9]),(15,zK [0,4,5,7,8,9,22] [4,5,7,8,9]),(16,zK [0,4,5,7,22] [4,5,7]),(17,zK [0,4,5,64] [4,5]),(18,zK [0,4,5,7] [4,5,7]),(19,zK [4] [4])],
 [(3,zK [0,1,4,5,10] [4,5]),(9,zK [0,4,5,7] [4,5,7]),(12,zK [0,4,5,7,22] [4,5,7])],
 [(7,zK [0,1,4,5] [4,5])],
 [],[]⟩
abbrev R75:=Tab
abbrev e75 (r:R75):List PA:=[.agg (zar r)]
@[irreducible] def z75:=ptF Tryd.prog G75 zx6 Tryd.f75
@[irreducible] def x75:=exF Tryd.prog G75 zx6 Tryd.f75
@[irreducible] def y75:=rnF Tryd.prog G75 zx6 Tryd.f75
def zDG (w:web) (node:Int) (za5:Int) (t4t0:Tab) (dt0:Tab):St:=⟨[(0,zP (.fp (zaC w) 0)),(1,zI node),(4,zp 4 0),(5,zp 5 0),(10,zI za5)],[(4,.box 116 (zm (zar t4t0))),(5,.box 116 (zm (zar dt0)))],[]⟩
abbrev zJ0 (K:List PA->Prop) (w:web) (node:Int) (X:St->Prop) (P:Int->Tab->Tab->Bool) (S:Int->Tab->Tab->Tab):Prop:=∀ ⦃za5:Int⦄ ⦃t4t0:Tab⦄ ⦃dt0:Tab⦄,P za5 t4t0 dt0=true->K (e75 (S za5 t4t0 dt0))->X (zDG w node za5 t4t0 dt0)
def zDH (w:web) (zaI:Bool) (t4t2:Tab) (dt2:Tab):St:=⟨[(0,zP (.fp (zaC w) 0)),(4,zp 4 0),(5,zp 5 0),(7,zp 7 0)],[(4,.box 116 (zm (zar t4t2))),(5,.box 116 (zm (zar dt2))),(7,.box 4 [.p (.bool zaI)])],[]⟩
abbrev zF8 (K:List PA->Prop) (w:web) (X:St->Prop) (P:Bool->Tab->Tab->Bool) (S:Bool->Tab->Tab->Tab):Prop:=∀ ⦃zaI:Bool⦄ ⦃t4t2:Tab⦄ ⦃dt2:Tab⦄,P zaI t4t2 dt2=true->K (e75 (S zaI t4t2 dt2))->X (zDH w zaI t4t2 dt2)
def zx7 (w:web) (zay:Bool) (t4t3:Tab) (dt3:Tab):St:=⟨[(0,zP (.fp (zaC w) 0)),(4,zp 4 0),(5,zp 5 0),(7,zp 7 0),(22,zP (.fn 110 [] [.fp [.fp (zaC w) 0] 0]))],[(4,.box 116 (zm (zar t4t3))),(5,.box 116 (zm (zar dt3))),(7,.box 4 [.p (.bool zay)])],[]⟩
abbrev zJ1 (K:List PA->Prop) (w:web) (X:St->Prop) (P:Bool->Tab->Tab->Bool) (S:Bool->Tab->Tab->Tab):Prop:=∀ ⦃zay:Bool⦄ ⦃t4t3:Tab⦄ ⦃dt3:Tab⦄,P zay t4t3 dt3=true->K (e75 (S zay t4t3 dt3))->X (zx7 w zay t4t3 dt3)
section
variable {K:List PA->Prop}{w:web}{node:Int}{za5:Int}{t4t0:Tab}{dt0:Tab}{X0:St->Prop}{P0:Int->Tab->Tab->Bool}{S0:Int->Tab->Tab->Tab}{t4t1:Tab}{dt1:Tab}{zaI:Bool}{t4t2:Tab}{dt2:Tab}{X2:St->Prop}{P2:Bool->Tab->Tab->Bool}{S2:Bool->Tab->Tab->Tab}{zay:Bool}{t4t3:Tab}{dt3:Tab}
def zF9 (S2:Bool->Tab->Tab->Tab) (w:web) (zay:Bool) (t4t3:Tab) (dt3:Tab):Tab :=
  (S2 zay t4t3 dt3)
def zGa (P2:Bool->Tab->Tab->Bool) (w:web) (zay:Bool) (t4t3:Tab) (dt3:Tab):Bool :=
  (P2 zay t4t3 dt3)
def zx8 (S2:Bool->Tab->Tab->Tab) (w:web) (y3:step) (S3:Bool->Tab->Tab->Tab) (zay:Bool) (t4t3:Tab) (dt3:Tab):Tab :=
  (cond (nvr (tL dt3 y3.to) (tU dt3 y3.to))
 (S3 zay t4t3 dt3)
 (cond zay
 (S3 true t4t3 (ts 80 dt3 (0+y3.from_.toNat * 2+0) [(zfi (⟨(tL dt3 y3.from_),(tU dt3 y3.from_)⟩:far) (⟨1,λ _=>(⟨(w64 ((tL dt3 y3.to)+y3.length)),(w64 ((tV dt3 y3.to)+(1:Int)))⟩:far)⟩:(Sl far))).length,(zfi (⟨(tL dt3 y3.from_),(tU dt3 y3.from_)⟩:far) (⟨1,λ _=>(⟨(w64 ((tL dt3 y3.to)+y3.length)),(w64 ((tV dt3 y3.to)+(1:Int)))⟩:far)⟩:(Sl far))).uses]))
 (S3 (!(match ((zfi (⟨(tL dt3 y3.from_),(tU dt3 y3.from_)⟩:far) (⟨1,λ _=>(⟨(w64 ((tL dt3 y3.to)+y3.length)),(w64 ((tV dt3 y3.to)+(1:Int)))⟩:far)⟩:(Sl far))).length == (tL dt3 y3.from_)) with | true=>(match ((zfi (⟨(tL dt3 y3.from_),(tU dt3 y3.from_)⟩:far) (⟨1,λ _=>(⟨(w64 ((tL dt3 y3.to)+y3.length)),(w64 ((tV dt3 y3.to)+(1:Int)))⟩:far)⟩:(Sl far))).uses == (tU dt3 y3.from_)) with | true=>true | false=>false) | false=>false)) t4t3 (ts 80 dt3 (0+y3.from_.toNat * 2+0) [(zfi (⟨(tL dt3 y3.from_),(tU dt3 y3.from_)⟩:far) (⟨1,λ _=>(⟨(w64 ((tL dt3 y3.to)+y3.length)),(w64 ((tV dt3 y3.to)+(1:Int)))⟩:far)⟩:(Sl far))).length,(zfi (⟨(tL dt3 y3.from_),(tU dt3 y3.from_)⟩:far) (⟨1,λ _=>(⟨(w64 ((tL dt3 y3.to)+y3.length)),(w64 ((tV dt3 y3.to)+(1:Int)))⟩:far)⟩:(Sl far))).uses]))))
def zx9 (P2:Bool->Tab->Tab->Bool) (w:web) (y3:step) (P3:Bool->Tab->Tab->Bool) (zay:Bool) (t4t3:Tab) (dt3:Tab):Bool :=
  (decide ((0≤y3.to/\y3.to < (40:Int))) &&
 (cond (nvr (tL dt3 y3.to) (tU dt3 y3.to))
 (P3 zay t4t3 dt3)
 (decide ((0≤y3.from_/\y3.from_ < (40:Int))) &&
 (decide ((0≤y3.to/\y3.to < (40:Int))) &&
 (decide ((0≤y3.to/\y3.to < (40:Int))) &&
 (decide ((zDi (⟨(tL dt3 y3.from_),(tU dt3 y3.from_)⟩:far) (⟨1,λ _=>(⟨(w64 ((tL dt3 y3.to)+y3.length)),(w64 ((tV dt3 y3.to)+(1:Int)))⟩:far)⟩:(Sl far))=true)) &&
 (cond zay
 (decide ((0≤y3.from_/\y3.from_ < (40:Int))) &&
 (P3 true t4t3 (ts 80 dt3 (0+y3.from_.toNat * 2+0) [(zfi (⟨(tL dt3 y3.from_),(tU dt3 y3.from_)⟩:far) (⟨1,λ _=>(⟨(w64 ((tL dt3 y3.to)+y3.length)),(w64 ((tV dt3 y3.to)+(1:Int)))⟩:far)⟩:(Sl far))).length,(zfi (⟨(tL dt3 y3.from_),(tU dt3 y3.from_)⟩:far) (⟨1,λ _=>(⟨(w64 ((tL dt3 y3.to)+y3.length)),(w64 ((tV dt3 y3.to)+(1:Int)))⟩:far)⟩:(Sl far))).uses])))
 (decide ((0≤y3.from_/\y3.from_ < (40:Int))) &&
 (decide ((0≤y3.from_/\y3.from_ < (40:Int))) &&
 (P3 (!(match ((zfi (⟨(tL dt3 y3.from_),(tU dt3 y3.from_)⟩:far) (⟨1,λ _=>(⟨(w64 ((tL dt3 y3.to)+y3.length)),(w64 ((tV dt3 y3.to)+(1:Int)))⟩:far)⟩:(Sl far))).length == (tL dt3 y3.from_)) with | true=>(match ((zfi (⟨(tL dt3 y3.from_),(tU dt3 y3.from_)⟩:far) (⟨1,λ _=>(⟨(w64 ((tL dt3 y3.to)+y3.length)),(w64 ((tV dt3 y3.to)+(1:Int)))⟩:far)⟩:(Sl far))).uses == (tU dt3 y3.from_)) with | true=>true | false=>false) | false=>false)) t4t3 (ts 80 dt3 (0+y3.from_.toNat * 2+0) [(zfi (⟨(tL dt3 y3.from_),(tU dt3 y3.from_)⟩:far) (⟨1,λ _=>(⟨(w64 ((tL dt3 y3.to)+y3.length)),(w64 ((tV dt3 y3.to)+(1:Int)))⟩:far)⟩:(Sl far))).length,(zfi (⟨(tL dt3 y3.from_),(tU dt3 y3.from_)⟩:far) (⟨1,λ _=>(⟨(w64 ((tL dt3 y3.to)+y3.length)),(w64 ((tV dt3 y3.to)+(1:Int)))⟩:far)⟩:(Sl far))).uses])))))))))))
def zya (S2:Bool->Tab->Tab->Tab) (w:web):List step->Bool->Tab->Tab->Tab:=lpR (zF9 S2 w) (zx8 S2 w)
def zyb (P2:Bool->Tab->Tab->Bool) (w:web):List step->Bool->Tab->Tab->Bool:=lpR (zGa P2 w) (zx9 P2 w)
def zyc (S2:Bool->Tab->Tab->Tab) (w:web) (zay:Bool) (t4t3:Tab) (dt3:Tab):Tab:=zya S2 w (zlr w) zay t4t3 dt3
def zyd (P2:Bool->Tab->Tab->Bool) (w:web) (zay:Bool) (t4t3:Tab) (dt3:Tab):Bool:=decide ((zuA w=true)) && zyb P2 w (zlr w) zay t4t3 dt3
theorem zGb (hX2:zF8 K w X2 P2 S2) (hs:zyd P2 w zay t4t3 dt3=true) (hk:K (e75 (zyc S2 w zay t4t3 dt3))):z75 K [1,1,1,1,0,1,0,0,1,0,0,1,1,0] [X2] (zx7 w zay t4t3 dt3) :=
  zaJ hs λ hc hs=>zr (enc:=(λ y:step=>[.agg (zaA y)])) (ys:=zlr w) (g:=(zx7 w zay t4t3 dt3)) (x75 K [1,1,1,1,0,1,0,0,1,0,0,1,1,0] [X2]) (y75 K [1,1,1,1,0,1,0,0,1,0,0,1,1,0] [X2]) (by kernel_rfl) (And.intro (zE enc_40 4 w.Net.Ties.get) (And.intro (rfl:((false,1,false,[none]):MQ)=(false,1,false,[none])) hc)) λ X3 hE hR =>
  (show ∀ l : List step, zJ1 K w (X3 (l.map (λ y : step => [.agg (zaA y)]))) (zyb P2 w l) (zya S2 w l) from zri (X := X3) (enc := (λ y : step => [.agg (zaA y)])) _ _ (zx9 P2 w) (zx8 S2 w) (λ Z P S => zJ1 K w Z P S)
 (by intro zay t4t3 dt3 hs hk;exact hE _ (zaX (by kernel_rfl) (hX2 hs hk)))
 (by intro y3 rest P3 S3 hX3 zay t4t3 dt3 hs hk;exact hR _ rest _ (zaX (by kernel_rfl) (zaJ hs λ hc hs=>And.intro hc (zc hs hk (λ hs hk=>(hX3 hs hk)) (λ hs hk=>(zaJ hs λ hc hs=>And.intro hc (zaJ hs λ hc hs=>And.intro hc (zaJ hs λ hc hs=>And.intro hc (zaJ hs λ hc hs=>And.intro (And.intro (zwb:IsE zcq 2 2 (λ _=>(zcq (⟨(w64 ((tL dt3 y3.to)+y3.length)),(w64 ((tV dt3 y3.to)+(1:Int)))⟩:far)))) hc) (zc hs hk (λ hs hk=>(zaJ hs λ hc hs=>And.intro hc (hX3 hs hk))) (λ hs hk=>(zaJ hs λ hc hs=>And.intro hc (zaJ hs λ hc hs=>And.intro hc (hX3 hs hk))))))))))))))) _ hs hk
def zye (w:web) (S2:Bool->Tab->Tab->Tab) (zaI:Bool) (t4t2:Tab) (dt2:Tab):Tab :=
  (cond zaI
 (zyc S2 w false t4t2 dt2)
 dt2)
def zyf (w:web) (P2:Bool->Tab->Tab->Bool) (zaI:Bool) (t4t2:Tab) (dt2:Tab):Bool :=
  (cond zaI
 (zyd P2 w false t4t2 dt2)
 true)
def zyg (w:web):Nat->Bool->Tab->Tab->Tab:=lpO (λ _ _ _=>default) (zye w)
def zyh (w:web):Nat->Bool->Tab->Tab->Bool:=lpO (λ _ _ _=>false) (zyf w)
def zyi (w:web) (zaI:Bool) (t4t2:Tab) (dt2:Tab):Tab:=zyg w Fuel zaI t4t2 dt2
def zyj (w:web) (zaI:Bool) (t4t2:Tab) (dt2:Tab):Bool:=zyh w Fuel zaI t4t2 dt2
theorem zGc (hs:zyj w zaI t4t2 dt2=true) (hk:K (e75 (zyi w zaI t4t2 dt2))):z75 K [1,1,1,1,0,1,0] [] (zDH w zaI t4t2 dt2) :=
  zl (λ X=>z75 K [1,1,1,1,0,1,0,0] [X]) (by kernel_rfl) λ X2 hX =>
  (show ∀ k, zF8 K w X2 (zyh w k) (zyg w k) from zeU _ _ (zyf w) (zye w) (zF8 K w X2)
 (by intro _ _ _ hs;exact absurd hs dqk)
 (by intro P2 S2 hX2 zaI t4t2 dt2 hs hk;exact hX _ (zaX (by kernel_rfl) (zc hs hk (λ hs hk=>(And.intro (And.intro (zE enc_40 4 w.Net.Ties.get) (rfl:((false,1,false,[none]):MQ)=(false,1,false,[none]))) (zGb hX2 hs hk))) (λ hs hk=>hk))))) _ hs hk
def zyk (w:web) (node:Int) (t4t1:Tab) (dt1:Tab):Tab :=
  (zyi w true t4t1 (ts 80 dt1 (0+node.toNat * 2+0) [(0:Int),(0:Int)]))
def zyl (w:web) (node:Int) (t4t1:Tab) (dt1:Tab):Bool :=
  (decide ((0≤node/\node < (40:Int))) &&
 (zyj w true t4t1 (ts 80 dt1 (0+node.toNat * 2+0) [(0:Int),(0:Int)])))
theorem zGd (hs:zyl w node t4t1 dt1=true) (hk:K (e75 (zyk w node t4t1 dt1))):z75 K [1,1,1] [] ⟨[(0,zP (.fp (zaC w) 0)),(1,zI node),(4,zp 4 0),(5,zp 5 0)],[(4,.box 116 (zm (zar t4t1))),(5,.box 116 (zm (zar dt1)))],[]⟩:=zaX (by kernel_rfl) (zaJ hs λ hc hs=>And.intro hc (zGc hs hk))
def zym (w:web) (node:Int) (S0:Int->Tab->Tab->Tab) (za5:Int) (t4t0:Tab) (dt0:Tab):Tab :=
  (cond (decide (za5 < (40:Int)))
 (S0 (w64 (za5+(1:Int))) t4t0 (ts 80 dt0 (0+za5.toNat * 2+0) [(1000000000000:Int),(0:Int)]))
 (zyk w node t4t0 dt0))
def zyn (w:web) (node:Int) (P0:Int->Tab->Tab->Bool) (za5:Int) (t4t0:Tab) (dt0:Tab):Bool :=
  (cond (decide (za5 < (40:Int)))
 (decide ((0≤za5/\za5 < (40:Int))) &&
 (P0 (w64 (za5+(1:Int))) t4t0 (ts 80 dt0 (0+za5.toNat * 2+0) [(1000000000000:Int),(0:Int)])))
 (zyl w node t4t0 dt0))
def zyo (w:web) (node:Int):Nat->Int->Tab->Tab->Tab:=lpO (λ _ _ _=>default) (zym w node)
def zyp (w:web) (node:Int):Nat->Int->Tab->Tab->Bool:=lpO (λ _ _ _=>false) (zyn w node)
def zyq (w:web) (node:Int) (za5:Int) (t4t0:Tab) (dt0:Tab):Tab:=zyo w node Fuel za5 t4t0 dt0
def zyr (w:web) (node:Int) (za5:Int) (t4t0:Tab) (dt0:Tab):Bool:=zyp w node Fuel za5 t4t0 dt0
theorem zGe (hs:zyr w node za5 t4t0 dt0=true) (hk:K (e75 (zyq w node za5 t4t0 dt0))):z75 K [1,1,0,1,0] [] (zDG w node za5 t4t0 dt0) :=
  zl (λ X=>z75 K [1,1,0,1,0,0] [X]) (by kernel_rfl) λ X0 hX =>
  (show ∀ k, zJ0 K w node X0 (zyp w node k) (zyo w node k) from zeU _ _ (zyn w node) (zym w node) (zJ0 K w node X0)
 (by intro _ _ _ hs;exact absurd hs dqk)
 (by intro P0 S0 hX0 za5 t4t0 dt0 hs hk;exact hX _ (zaX (by kernel_rfl) (zc hs hk (λ hs hk=>(zaJ hs λ hc hs=>And.intro hc (hX0 hs hk))) (λ hs hk=>(zGd hs hk)))))) _ hs hk
def s75 (w:web) (node:Int):Tab :=
  (zyq w node (0:Int) (λ _=>(0:Int)) (λ _=>(0:Int)))
def p75 (w:web) (node:Int):Bool :=
  (zyr w node (0:Int) (λ _=>(0:Int)) (λ _=>(0:Int)))
end
theorem q75 (w:web) (node:Int) (K:List PA->Prop) (hs:p75 w node=true) (hk:K (e75 (s75 w node))):vcFun Tryd.prog G75 zx6 75 [.one (.fp (zaC w) 0),.one (.int .i64 node)] K :=
  zaX (by kernel_rfl) (zGe hs hk)
def zys : List PA → COut
  | [.one (.fp [.int .i64 zaq,.sl zam zaH zan,.fm zbA zaK zaL] 0),.one (.int .i64 a1)]=>.det (IsE enc_40 4 zaH zan/\zbA=(false,1,false,[none])/\p75 (⟨(⟨zaq,(⟨zam,zak zan⟩:(Sl Tie))⟩:Net),(⟨zaK,zaL⟩:Mp)⟩:web) a1=true) [.agg (zar ((s75 (⟨(⟨zaq,(⟨zam,zak zan⟩:(Sl Tie))⟩:Net),(⟨zaK,zaL⟩:Mp)⟩:web) a1)))]
  | _=>.no
theorem zJ2:zas Tryd.prog 75:=⟨_,rfl,rfl,by kernel_rfl⟩
theorem zMq:Ok Tryd.prog 75 zys:=zbv zMp zJ2 λ args K h=>by
  unfold zys at h
  split at h
  · rename_i zaq zam zaH zan zbA zaK zaL a1
    obtain⟨⟨⟨rfl,zaz,rfl⟩,rfl,hs⟩,hk⟩:=h
    try rw[zaj zaz] at hs
    try rw[zaj zaz] at hk
    exact⟨(λ _ _=>[]),(λ _=>false),zx6,q75 (⟨(⟨zaq,(⟨zam,zaz⟩:(Sl Tie))⟩:Net),(⟨zaK,zaL⟩:Mp)⟩:web) a1 K hs hk⟩
  · exact h.elim
end Go.Proofs
