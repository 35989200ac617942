/- Part 5 of what the proof rests on: a machine that runs functions of the program on pure values, proved sound; the functions that the law reaches, and what they compute. -/
import Derived.Test.YtedhjaaikeakoaaDoorQ4
import Derived.Sort.OwnSortedInts
import Derived.Lib.SlicesCompact
import Derived.Test.YtedhjaaikeakoaaDoorProg
import Derived.ProofKit
import Derived.Deep.Slices
import Derived.OpenShut
import Derived.Shelf.SlIterI.Nil
import Derived.Shelf.SortM.Plain
import Derived.Shelf.SortM.SortNone
import Derived.Ground.GgzProg
import Derived.Ground.SlgmProg
import Derived.Tactics
import Derived.Tactics2
import Derived.Recover
import Derived.RecoverIn
import Derived.TacticsInMore
set_option linter.all false
namespace Go.Pm

structure Tabs where
  fn:List (Nat×(List PA->COut))
  own:List (Nat×OwnK)
  it:List (Nat×(List PA->Option (Prop×List (List PA))))
  mt:List (Nat×MK)
def zwC : List (Nat × (List PA → COut)) → Nat → List PA → COut
  | [],_=>λ _=>.no
  | (k,c) :: r,n=>match Nat.beq k n with | true=>c | false=>zwC r n
def zwD (l:List (Nat×OwnK)) (f:Nat):OwnK:=match lk l f with | some c=>c | none=>.none
def zF4 (l:List (Nat×(List PA->Option (Prop×List (List PA))))) (f:Nat):List PA->Option (Prop×List (List PA)):=match lk l f with | some c=>c | none=>λ _=>none
def csm (T:Tabs) (memo:Nat->Int->List Int) (vv:Nat->Bool):Ctrs:=⟨zwC T.fn,zwD T.own,zF4 T.it,memo,vv,lk T.mt⟩
abbrev cs (T:Tabs):Ctrs:=csm T (λ _ _=>[]) (λ _=>false)
def Tabs.nil:Tabs:=⟨[],[],[],[]⟩
def Tabs.addF (T:Tabs) (f:Nat) (c:List PA->COut):Tabs:=⟨(f,c) :: T.fn,T.own,T.it,T.mt⟩
def Tabs.addO (T:Tabs) (f:Nat) (c:OwnK):Tabs:=⟨T.fn,(f,c) :: T.own,T.it,T.mt⟩
def Tabs.addI (T:Tabs) (f:Nat) (c:List PA->Option (Prop×List (List PA))):Tabs:=⟨T.fn,T.own,(f,c) :: T.it,T.mt⟩
def Tabs.addM (T:Tabs) (f:Nat) (c:MK):Tabs:=⟨T.fn,T.own,T.it,(f,c) :: T.mt⟩

theorem zNu {P:Program}{f:Nat} : Ok P f (λ _=>.no):=λ _ _ h=>h.elim
theorem zNv {P:Program}{f:Nat} : zBX P f (λ _=>none):=λ _ _ _ h=>by cases h

structure TabsOk (P : Program) (T : Tabs) : Prop where
  fn:∀ x∈T.fn,Ok P x.1 x.2
  own:∀ x∈T.own,zjX P x.1 x.2
  it:∀ x∈T.it,zBX P x.1 x.2
  mt:∀ x∈T.mt,zjt P x.1 x.2
theorem TabsOk.nil {P:Program} : TabsOk P .nil:=⟨λ _ h=>(by cases h),λ _ h=>(by cases h),λ _ h=>(by cases h),λ _ h=>(by cases h)⟩
theorem TabsOk.addF {P:Program}{T:Tabs}(h:TabsOk P T){f:Nat}{c:List PA->COut}(hc:Ok P f c):TabsOk P (T.addF f c) :=
 ⟨λ x hx=>(dqq.1 hx).elim (λ e=>by rw[e];exact hc) (λ hx=>h.fn x hx),h.own,h.it,h.mt⟩
theorem TabsOk.addO {P:Program}{T:Tabs}(h:TabsOk P T){f:Nat}{c:OwnK}(hc:zjX P f c):TabsOk P (T.addO f c) :=
 ⟨h.fn,λ x hx=>(dqq.1 hx).elim (λ e=>by rw[e];exact hc) (λ hx=>h.own x hx),h.it,h.mt⟩
theorem TabsOk.addI {P:Program}{T:Tabs}(h:TabsOk P T){f:Nat}{c:List PA->Option (Prop×List (List PA))}(hc:zBX P f c):TabsOk P (T.addI f c) :=
 ⟨h.fn,h.own,λ x hx=>(dqq.1 hx).elim (λ e=>by rw[e];exact hc) (λ hx=>h.it x hx),h.mt⟩
theorem TabsOk.addM {P:Program}{T:Tabs}(h:TabsOk P T){f:Nat}{c:MK}(hc:zjt P f c):TabsOk P (T.addM f c) :=
 ⟨h.fn,h.own,h.it,λ x hx=>(dqq.1 hx).elim (λ e=>by rw[e];exact hc) (λ hx=>h.mt x hx)⟩
theorem TabsOk.all {P:Program}{T:Tabs}(h:TabsOk P T) (memo:Nat->Int->List Int) (vv:Nat->Bool):OkAll P (csm T memo vv):=by
 refine⟨λ f C hC=>h.mt _ (zbP hC),λ f=>?_,λ f=>?_,λ f=>?_⟩
 ·show Ok P f (zwC T.fn f)
  have key:∀ l:List (Nat×(List PA->COut)),(∀ x∈l,Ok P x.1 x.2)->Ok P f (zwC l f):=by
   intro l
   induction l with
   | nil=>intro _;exact zNu
   | cons x l ih =>
    intro hl
    obtain⟨k,c⟩:=x
    simp only[zwC]
    split
    ·rename_i e
     have:=hl (k,c) dqj
     rw[<- dqc e];exact this
    ·exact ih λ x hx=>hl x (dqf _ hx)
  exact key T.fn h.fn
 ·show zjX P f (zwD T.own f)
  unfold zwD
  split
  ·rename_i c hc;exact h.own _ (zbP hc)
  ·trivial
 ·show zBX P f (zF4 T.it f)
  unfold zF4
  split
  ·rename_i c hc;exact h.it _ (zbP hc)
  ·exact zNv

theorem zbc {P : Program} {T : Tabs} (hT : TabsOk P T) {f : FuncId} {C : List PA → COut} (hc : zar P f)
    (h:∀ args K,(C args).wp K->∃ memo vv ann,vcFun P (csm T memo vv) ann f args K):Ok P f C :=
  zCx (hT.all (λ _ _=>[]) (λ _=>false)) hc h
theorem zF5 {P : Program} {T : Tabs} (hT : TabsOk P T) {f : FuncId} {C : MK} (hc : zar P f)
    (h:∀ xs safe rs ys,C xs=some (safe,rs,ys)->safe->∀ K:List PA->List XA->Prop,K rs ys->∃ memo vv ann,zkL P (csm T memo vv) ann f xs K):zjt P f C :=
  zwB (hT.all (λ _ _=>[]) (λ _=>false)) hc h
theorem zEi {P : Program} {T : Tabs} (hT : TabsOk P T) {f : FuncId} {C : List PA → Option (Prop × List (List PA))} (hc : zar P f)
    (h:∀ l caps safe ys,C caps=some (safe,ys)->safe->∃ memo vv ann,vcIter P (csm T memo vv) ann f l caps ys):zBX P f C :=
  zCB (hT.all (λ _ _=>[]) (λ _=>false)) hc h
theorem zCG {P : Program} {T : Tabs} (hT : TabsOk P T) {f : FuncId} {ty L : Nat} {F : List PA → Option (Prop × Bool × List PV × PV)} (hc : zar P f)
    (h:∀ az s b cells e,F az=some (s,b,cells,e)->s->∃ az':List PA,(∀ (h:Fz) vs,RL (paR h) az vs->RL (paR h) az' vs)/\∃ memo vv ann,zse P (csm T memo vv) ann f az' ty L (zCC b cells e)):zjX P f (.made ty F) :=
  zuM (L:=L) (hT.all (λ _ _=>[]) (λ _=>false)) hc h

structure Sl (α : Type) where
  len:Nat
  get:Nat->α
instance {α:Type} [Inhabited α]:Inhabited (Sl α):=⟨⟨0,λ _=>default⟩⟩
abbrev w64 (x:Int):Int:=IntKind.i64.wrap x

def IsE {α:Type}(enc:α->List PV) (size s:Nat) (g:Nat->List PV):Prop:=s=size/\∃ f:Nat->α,g=λ i=>enc (f i)
theorem isE {α:Type}{enc:α->List PV}{size:Nat}{f:Nat->α} : IsE enc size size (λ i=>enc (f i)):=⟨rfl,f,rfl⟩
theorem zqn {α:Type}{enc:α->List PV}{size:Nat}{x:α} : IsE enc size size (λ _=>enc x):=⟨rfl,λ _=>x,rfl⟩
def zdU {α:Type}(n:Nat) (get new:Nat->α):Nat->α:=λ j=>match Nat.ble n j with | true=>new (j - n) | false=>get j
theorem zm4 {α:Type}{enc:α->List PV}{n:Nat}{f h:Nat->α} : appG n (λ i=>enc (f i)) (λ i=>enc (h i))=λ i=>enc (zdU n f h i):=by
 funext j;simp only[appG,zdU];cases Nat.ble n j <;> rfl
theorem zF6 {α:Type}{enc:α->List PV}{size n:Nat}{g h:Nat->List PV}(hg:IsE enc size size g) (hh:IsE enc size size h):IsE enc size size (appG n g h):=by
 obtain⟨_,f,rfl⟩:=hg
 obtain⟨_,f',rfl⟩:=hh
 exact⟨rfl,_,zm4⟩
def zpM {α : Type} (x : α) : List α → Nat → α
  | [],_=>x
  | y :: _,0=>y
  | _ :: r,i+1=>zpM x r i
theorem zsL {α:Type}{enc:α->List PV}{x y:α}{r:List α} : zbA (enc x :: enc y :: r.map enc)=λ i=>enc (zpM x (x :: y :: r) i):=by
 have key:∀ (l:List α) (i:Nat),(match (l.map enc)[i]? with | some z=>z | none=>enc x)=enc (zpM x l i):=by
  intro l
  induction l with
  | nil=>intro i;rfl
  | cons a l ih =>
   intro i
   cases i with
   | zero=>rfl
   | succ i=>simpa [zpM] using ih i
 funext i
 exact key (x :: y :: r) i
theorem zev {α:Type}{enc:α->List PV}{size:Nat}{x y:α}(r:List α):IsE enc size size (zbA (enc x :: enc y :: r.map enc)):=⟨rfl,_,zsL⟩

theorem zfi {b:Bool}{A B:Prop}{S S':Bool}{α:Type}{K:α->Prop}{x y:α}(h1:S=true->K x->A) (h2:S'=true->K y->B) (hs:cond b S S'=true) (hk:K (cond b x y)):zdw b A B:=by
 cases b
 ·exact h2 hs hk
 ·exact h1 hs hk
theorem zgx {b:Bool}{A B:Prop}{S S':Bool}{α β:Type}{f:α->β}{ys:List β}{x y:List α}(hs:cond b S S'=true) (hk:ys=(cond b x y).map f) (h1:S=true->ys=x.map f->A) (h2:S'=true->ys=y.map f->B):zdw b A B:=by
 cases b
 ·exact h2 hs hk
 ·exact h1 hs hk
theorem itY {α β:Type}{f:α->β}{ys:List β}{p:β}{x r:List α}{l:Nat}{A:List β->Prop}(hk:ys=x.map f) (e:x.map f=p :: r.map f) (h:∀ zs,zs=r.map f->A zs):l=l/\∃ z,ys=p :: z/\A z/\True :=
 ⟨rfl,_,hk.trans e,h _ rfl,trivial⟩
theorem zaO {C A:Prop} [d:Decidable C] {r:Bool}(hs:(decide C && r)=true) (k:C->r=true->A):A:=by
 rw[dqm] at hs
 exact k (of_decide_eq_true hs.1) hs.2
abbrev Fuel:Nat:=9223372036854775808
def setT {α:Type}(i:Nat) (v:α) (get:Nat->α):Nat->α:=λ j=>match Nat.beq j i with | true=>v | false=>get j
theorem zfy {α:Type}{enc:α->List PV}{n:Nat}{g g':Nat->List PV}{f h:Nat->α}(h1:g=λ i=>enc (f i)) (h2:g'=λ i=>enc (h i)):appG n g g'=λ i=>enc (zdU n f h i):=by
 subst h1;subst h2;exact zm4
theorem zfz {α:Type}{enc:α->List PV}{i k:Nat}{g:Nat->List PV}{f:Nat->α}{new:List PV}{v:α}(h1:g=λ i=>enc (f i)) (h2:spl (enc (f i)) k new=enc v):zpE i k g new=λ j=>enc (setT i v f j):=by
 subst h1
 funext j
 simp only[zpE,setT]
 cases e:Nat.beq j i
 ·rfl
 ·have := dqc e
  subst this;exact h2
def zNw (P:Program) (G:Ctrs) (ann:Ann) (hd:Nat) (ps:List Nat) (assign body:Code) (X:List (List PA)->St->Prop) (K:Exit->St->Prop) (y:List PA) (rest:List (List PA)) (s:St):Prop :=
 match lk ann.head hd with
 | some k=>match zhE ps y s.env with
  | some env=>vc P G ann assign (zBT (vc P G ann body (zlM P k (X rest) K)) λ _ _=>False) ⟨env,s.objs,[]⟩
  | none=>False
 | none=>False
end Go.Pm
namespace Go.Pm
open Go Go.Sort

/-! Nil slices are slices of length 0. -/
inductive PVle : PV → PV → Prop
  | rfl (p:PV):PVle p p
  | nil (s:Nat) (g:Nat->List PV):PVle .nils (.sl 0 s g)
  | nilm (q:MQ):PVle .nilm (.fm q 0 (λ _=>none))
inductive PAle : PA → PA → Prop
  | one {p q:PV} : PVle p q->PAle (.one p) (.one q)
  | agg {l m:List PV} : RL PVle l m->PAle (.agg l) (.agg m)
theorem zmd {α β:Type}{R:α->β->Prop} : RL R [] []:=trivial
theorem zgy {α β:Type}{R:α->β->Prop}{a:α}{b:β}{l:List α}{m:List β}(h:R a b) (h':RL R l m):RL R (a :: l) (b :: m):=⟨h,h'⟩
theorem zfA {α : Type} {R : α → α → Prop} (h : ∀ a, R a a) : ∀ l : List α, RL R l l
  | []=>trivial
  | a :: l=>⟨h a,zfA h l⟩
theorem zfS (a:PA):PAle a a:=by
 cases a with
 | one p=>exact .one (.rfl p)
 | agg l=>exact .agg (zfA .rfl l)
def Wk (K:List PA->Prop) (l:List PA):Prop:=∃ l',RL PAle l l'/\K l'
theorem wk {K:List PA->Prop}{l l':List PA}(hk:K l') (h:RL PAle l l'):Wk K l:=⟨l',h,hk⟩
theorem zfT {K:List PA->Prop}{l:List PA}(hk:K l):Wk K l:=⟨l,zfA zfS l,hk⟩
theorem zKC {h:Fz}{p q:PV}{v:Value}(e:PVle p q) (r:Rep h p v):Rep h q v:=by
 cases e with
 | rfl=>exact r
 | nil s g=>cases r;exact .sl0 s g
 | nilm q=>cases r;exact .fmn q _ (λ _ _=>rfl)
theorem zwE {α β γ : Type} {R : α → β → Prop} {S : α → γ → Prop} {T : γ → β → Prop} (h : ∀ a b c, S a c → R a b → T c b) : ∀ (l : List α) (m : List β) (k : List γ), RL S l k → RL R l m → RL T k m
  | [],[],[],_,_=>trivial
  | a :: l,b :: m,c :: k,hs,hr=>⟨h a b c hs.1 hr.1,zwE h l m k hs.2 hr.2⟩
  | [],_ :: _,[],_,hr=>hr.elim
  | [],_,_ :: _,hs,_=>hs.elim
  | _ :: _,_,[],hs,_=>hs.elim
  | _ :: _,[],_ :: _,_,hr=>hr.elim
theorem zCH {h:Fz}{a b:PA}{v:Value}(e:PAle a b) (r:paR h a v):paR h b v:=by
 cases e with
 | one e=>exact zKC e r
 | agg e =>
  obtain⟨vs,rfl,hv⟩:=r
  exact⟨vs,rfl,zwE (R:=Rep h) (S:=PVle) (T:=Rep h) (λ _ _ _ e r=>zKC e r) _ _ _ e hv⟩
theorem zwF {h:Fz}{l m:List PA}{v:Value}(e:RL PAle l m) (r:zmu h l v):zmu h m v:=by
 match l,m,e,r with
 | [a],[b],e,r=>exact zCH e.1 r
 | [],[],_,r=>exact r
 | a :: b :: l,c :: d :: m,e,r =>
  obtain⟨vs,hv,hr⟩:=r
  exact⟨vs,hv,zwE (R:=paR h) (S:=PAle) (T:=paR h) (λ _ _ _ e r=>zCH e r) _ _ _ e hr⟩
 | [_],_ :: _ :: _,e,_=>exact e.2.elim
 | _ :: _ :: _,[_],e,_=>exact e.2.elim
 | [],_ :: _,e,_=>exact e.elim
 | _ :: _,[],e,_=>exact e.elim
theorem zhb {P : Program} {T : Tabs} (hT : TabsOk P T) {f : FuncId} {C : List PA → COut} (hc : zar P f)
    (h:∀ args K,(C args).wp K->∃ args',RL PAle args args'/\∃ memo vv ann,vcFun P (csm T memo vv) ann f args' (Wk K)):Ok P f C:=by
  intro args K hK w h0 vs hvs hfz hgl
  obtain⟨args',hle,memo,vv,ann,hv⟩:=h args K hK
  refine⟨hc,(zwu (hT.all memo vv) hv (zwE (R:=paR h0) (S:=PAle) (T:=paR h0) (λ _ _ _ e r=>zCH e r) _ _ _ hle hvs) hfz hgl).mono ?_⟩
  rintro e w' ⟨h',rs,v,⟨rs',hr,hk⟩,he,hres,rest⟩
  exact⟨h',rs',v,hk,he,zwF hr hres,rest⟩
theorem zCI {P : Program} {T : Tabs} (hT : TabsOk P T) {f : FuncId} {C : MK} (hc : zar P f)
    (h:∀ xs safe rs ys,C xs=some (safe,rs,ys)->safe->∀ K:List PA->List XA->Prop,K rs ys->∃ memo vv ann,zkL P (csm T memo vv) ann f xs (λ a b=>Wk (λ a'=>K a' b) a)):zjt P f C:=by
  intro xs ys safe rs hC hs w h0 base vs hvs hn hK hw hgl hB
  obtain⟨memo,vv,ann,hv⟩:=h xs safe rs ys hC hs (λ l zs=>l=rs/\zs=ys) ⟨rfl,rfl⟩
  refine⟨hc,(zwA (hT.all memo vv) hv hvs hn hK hw hgl hB).mono ?_⟩
  rintro e w' ⟨h',v,rs',ys',⟨rs2,hr,rfl,rfl⟩,he,hres,r⟩
  exact⟨h',v,he,zwF hr hres,r⟩
def WkM (K:List PA×List XA->Prop) (p:List PA×List XA):Prop:=Wk (λ a=>K (a,p.2)) p.1
theorem wkM {K:List PA×List XA->Prop}{l l':List PA}{b:List XA}(hk:K (l',b)) (h:RL PAle l l'):WkM K (l,b):=⟨l',h,hk⟩
theorem zwG {K:List PA×List XA->Prop}{p:List PA×List XA}(hk:K p):WkM K p:=⟨p.1,zfA zfS p.1,hk⟩
/-! Maps, as typed zPI; the keys of a map. -/
structure Mp where
  n:Nat
  F:List Int->Option (List Int)
instance:Inhabited Mp:=⟨⟨0,λ _=>none⟩⟩

end Go.Pm
namespace Go.Pm

abbrev zI (x:Int):DV:=.one (.c (.p (.int .i64 x)))
abbrev zB (x:Bool):DV:=.one (.c (.p (.bool x)))
abbrev zP (x:PV):DV:=.one (.c (.p x))
abbrev zp (L k:Nat):DV:=.one (.c (.ptr L k))
abbrev zv (L:Nat):DV:=.one (.c (.vec L))
abbrev zs {α:Type}(enc:α->List PV) (s:Nat) (x:Sl α):PV:=.sl x.len s (λ i=>enc (x.get i))
abbrev zS {α:Type}(enc:α->List PV) (s:Nat) (x:Sl α):DV:=zP (zs enc s x)
abbrev zm (l:List PV):List Cl:=l.map Cl.p
abbrev zi (x:Int):Cl:=.p (.int .i64 x)
abbrev zg {α:Type}(enc:α->List PV) (x:Sl α):Nat->List PV:=λ i=>enc (x.get i)
abbrev zK (a b:List Nat):Keep:=⟨a,b,[],[],[],[],[]⟩
theorem zE {α:Type}(enc:α->List PV) (size:Nat) (f:Nat->α):IsE enc size size (λ i=>enc (f i)):=⟨rfl,f,rfl⟩

theorem zwH {α : Type} : ∀ (new l pre : List α), l.length = new.length → spl (pre ++ l) pre.length new = pre ++ new
  | [],l,pre,h=>by
    have:l=[]:=List.eq_nil_of_length_eq_zero h
    subst this;rfl
  | x :: r,[],pre,h=>by simp at h
  | x :: r,y :: l,pre,h=>by
    have e:=zwH r l (pre ++ [x]) (by simpa using h)
    simp only[spl,List.append_assoc,List.singleton_append,dqu,List.length_singleton] at e ⊢
    rw[List.set_append_right _ _ (dqt _),Nat.sub_self,List.set_cons_zero]
    exact e
theorem zm5 {n:Nat}{F G:Nat->Int} : spl (zhy 0 n F) 0 (zhy 0 n G)=zhy 0 n G:=by
 have h:=zwH (zhy 0 n G) (zhy 0 n F) [] (by rw[ze7,ze7])
 simpa using h
theorem zhP {n:Nat}{F:Nat->Int} : zhy 0 n F=zhy 0 n (zlI (zm (zhy 0 n F))):=by
 refine List.ext_getElem? λ k=>?_
 by_cases hk:k < n
 ·rw [zgs n 0 F k hk, zgs n 0 _ k hk, Nat.zero_add]
  congr 2
  have h:(zm (zhy 0 n F))[k]? = some (.p (.int .i64 (F k))):=by
   rw[zm,dqH,zgs n 0 F k hk,Nat.zero_add];rfl
  unfold zlI
  rw[h]
 ·rw[dqM (by rw[ze7];omega),dqM (by rw[ze7];omega)]

@[reducible] def lpO {A : Type} (d : A) (st : A → A) : Nat → A
  | 0=>d
  | k+1=>st (lpO d st k)
theorem zd0 {A B : Type} (a : A) (b : B) (p : A → A) (s : B → B) (M : A → B → Prop) (h0 : M a b) (h1 : ∀ P S, M P S → M (p P) (s S)) : ∀ k, M (lpO a p k) (lpO b s k)
  | 0=>h0
  | k+1=>h1 _ _ (zd0 a b p s M h0 h1 k)
theorem zy {α:Type}{y:Sl α}{P:Sl α->Prop}(h:P y):P ⟨y.len,y.get⟩:=h

def xcm (l:List PV):List XC:=l.map .p
def unX : List XC → List PV
  | []=>[]
  | .p v :: r=>v :: unX r
  | _ :: r=>.nilp :: unX r
theorem zwI : ∀ l : List PV, unX (xcm l) = l
  | []=>rfl
  | v :: r=>by show v :: unX (xcm r)=v :: r;rw[zwI r]
theorem zF7 {n:Nat}{F:Nat->Int} : xcm (zhy 0 n F)=xcm (zhy 0 n (zlI (zm (unX (xcm (zhy 0 n F)))))):=by
 rw[zwI,<- zhP]

section
variable (P:Program) (Γ:Ctrs) (ann:Ann)
def pt : Code → (Exit → St → Prop) → List Nat → List (St → Prop) → St → Prop
  | .seq a b,K,i :: r,X=>match i with | 0=>pt a (sqK P Γ ann b K) r X | _=>pt b K r X
  | .cond _ a b,K,i :: r,X=>match i with | 0=>pt a K r X | _=>pt b K r X
  | .block id b,K,_ :: r,X=>pt b (zfv id K) r X
  | .loop b,K,_ :: r,x :: X=>pt b (zul P ann (zlx b) x K) r X
  | .scope b,K,_ :: r,X=>pt b (zve K) r X
  | c,K,_,_=>vc P Γ ann c K
def zPL (fn:Func) (ty L:Nat) (K:List PA->Prop) (l:List Nat) (X:List (St->Prop)):St->Prop :=
 match fn.body with
 | some c=>pt P Γ ann c (zvf fn ty L K) l X
 | none=>λ _=>False
def ptF (fn:Func) (K:List PA->Prop) (l:List Nat) (X:List (St->Prop)):St->Prop :=
 match fn.body with
 | some c=>pt P Γ ann c (zok P fn K) l X
 | none=>λ _=>False
end

section
variable (P:Program) (Γ:Ctrs) (ann:Ann)
def ptR : Code → (Exit → St → Prop) → List Nat → List (St → Prop) → Code × (Exit → St → Prop)
  | .seq a b,K,i :: r,X=>match i with | 0=>ptR a (sqK P Γ ann b K) r X | _=>ptR b K r X
  | .cond _ a b,K,i :: r,X=>match i with | 0=>ptR a K r X | _=>ptR b K r X
  | .block id b,K,_ :: r,X=>ptR b (zfv id K) r X
  | .loop b,K,_ :: r,x :: X=>ptR b (zul P ann (zlx b) x K) r X
  | .scope b,K,_ :: r,X=>ptR b (zve K) r X
  | c,K,_,_=>(c,K)
def exF (fn:Func) (K:List PA->Prop) (l:List Nat) (X:List (St->Prop)) (s:St):Prop :=
 match fn.body with
 | some c=>(ptR P Γ ann c (zok P fn K) l X).2 .normal s
 | none=>False
def rnF (fn:Func) (K:List PA->Prop) (l:List Nat) (X:List (St->Prop)) (Y:List (List PA)->St->Prop) (y:List PA) (rest:List (List PA)) (s:St):Prop :=
 match fn.body with
 | some c=>match (ptR P Γ ann c (zok P fn K) l X).1 with
  | .rangeFunc _ ps a b=>zNw P Γ ann (zO8 a b) ps.toList a b Y (ptR P Γ ann c (zok P fn K) l X).2 y rest s
  | _=>False
 | none=>False
end
@[reducible] def lpR {A Y : Type} (a : A) (st : Y → A → A) : List Y → A
  | []=>a
  | y :: r=>st y (lpR a st r)
theorem zri {Y A B : Type} {enc : Y → List PA} {X : List (List PA) → St → Prop} (pe : B) (se : A) (ps : Y → B → B) (ss : Y → A → A) (M : (St → Prop) → B → A → Prop) (h0 : M (X []) pe se)
    (h1:∀ y rest P S,M (X rest) P S->M (X (enc y :: rest)) (ps y P) (ss y S)):∀ l:List Y,M (X (l.map enc)) (lpR pe ps l) (lpR se ss l)
  | []=>h0
  | y :: r=>h1 y (r.map enc) _ _ (zri pe se ps ss M h0 h1 r)
theorem zr {at_ sf : Prop} {Y : Type} {enc : Y → List PA} {ys : List Y} {g : St} (Ex : St → Prop) (Rn : (List (List PA) → St → Prop) → List PA → List (List PA) → St → Prop)
    (e:at_=(sf/\∀ X:List (List PA)->St->Prop,(∀ s,Ex s->X [] s)->(∀ y rest s,Rn X y rest s->X (y :: rest) s)->X (ys.map enc) g)) (hs:sf)
    (h:∀ X:List (List PA)->St->Prop,(∀ s,Ex s->X [] s)->(∀ y rest s,Rn X y rest s->X (y :: rest) s)->X (ys.map enc) g):at_:=e ▸ ⟨hs,h⟩

theorem zc {b:Bool}{A B:Prop}{S S':Bool}{α:Type}{e:α->List PA}{K:List PA->Prop}{x y:α}(hs:cond b S S'=true) (hk:K (e (cond b x y))) (h1:S=true->K (e x)->A) (h2:S'=true->K (e y)->B):zdw b A B:=by
 cases b
 ·exact h2 hs hk
 ·exact h1 hs hk
theorem zt {b:Bool}{A B:Prop}{α:Type}{e:α->List PA}{K:List PA->Prop}{x y:α}(hk:K (e (cond b x y))) (h1:K (e x)->A) (h2:K (e y)->B):zdw b A B:=by
 cases b
 ·exact h2 hk
 ·exact h1 hk
theorem zKD {b:Bool}{s:Prop}{r1 r2:List PA}{K:List PA->Prop}(h:(COut.alt b s r1 s r2).wp K):s/\K (cond b r1 r2):=by
 cases b
 ·exact h.2 rfl
 ·exact h.1 rfl
theorem zl {at_:Prop}{g:St}(B:(St->Prop)->St->Prop) (e:at_ = ∀ X:St->Prop,(∀ s,B X s->X s)->X g) (h:∀ X:St->Prop,(∀ s,B X s->X s)->X g):at_:=e ▸ h
end Go.Pm
namespace Go.Proofs
open Go Go.Pm
set_option maxRecDepth 100000
set_option linter.unusedVariables false
attribute [local irreducible] Go.Pm.vcFun Go.Pm.vc Go.Pm.vcIter
abbrev Tab:=Nat->Int
def tg (n:Nat) (F:Tab) (k:Nat):Int:=zlI (zm (zhy 0 n F)) k
def ts (n:Nat) (F:Tab) (k:Nat) (vs:List Int):Tab:=zDW k vs (zlI (zm (zhy 0 n F)))
abbrev zae (x:Int):List PV:=[.int .i64 x]
def zNx : List PV → Int
  | [.int .i64 x]=>x
  | _=>default
def zaw (g:Nat->List PV):Nat->Int:=λ i=>zNx (g i)
theorem zbx (f:Nat->Int):zaw (λ i=>zae (f i))=f:=rfl
structure Tie where
  From:Int
  To:Int
  Low:Int
  High:Int
deriving Inhabited
abbrev enc_40 (x:Tie):List PV:=[.int .i64 x.From,.int .i64 x.To,.int .i64 x.Low,.int .i64 x.High]
def zKE : List PV → Tie
  | [.int .i64 x_From,.int .i64 x_To,.int .i64 x_Low,.int .i64 x_High]=>(⟨x_From,x_To,x_Low,x_High⟩:Tie)
  | _=>default
def zal (g:Nat->List PV):Nat->Tie:=λ i=>zKE (g i)
theorem zaj (f:Nat->Tie):zal (λ i=>enc_40 (f i))=f:=rfl
abbrev zEj (x:(Sl Tie)):List PV:=[.sl x.len 4 (λ i=>enc_40 (x.get i))]
structure Net where
  Nodes:Int
  Ties:(Sl Tie)
deriving Inhabited
abbrev enc_24 (x:Net):List PV:=[.int .i64 x.Nodes,.sl x.Ties.len 4 (λ i=>enc_40 (x.Ties.get i))]
abbrev zb5 (x:(Sl Int)):List PV:=[.sl x.len 1 (λ i=>zae (x.get i))]
def zKF : List PV → (Sl Int)
  | [.sl x_n _ x_g]=>(⟨x_n,zaw x_g⟩:(Sl Int))
  | _=>default
def zm6 (g:Nat->List PV):Nat->(Sl Int):=λ i=>zKF (g i)
theorem zkP (f:Nat->(Sl Int)):zm6 (λ i=>zb5 (f i))=f:=rfl
structure Span where
  Low:Int
  High:Int
deriving Inhabited
abbrev zbB (x:Span):List PV:=[.int .i64 x.Low,.int .i64 x.High]
def zKG : List PV → Span
  | [.int .i64 x_Low,.int .i64 x_High]=>(⟨x_Low,x_High⟩:Span)
  | _=>default
def zfU (g:Nat->List PV):Nat->Span:=λ i=>zKG (g i)
theorem zfj (f:Nat->Span):zfU (λ i=>zbB (f i))=f:=rfl
structure Pulse where
  A:Int
  B:Int
  TimeA:Int
  TimeB:Int
  Flight:Span
  Jitter:Int
deriving Inhabited
structure Use where
  Tie:Int
  Back:Bool
deriving Inhabited
abbrev zaW (x:Use):List PV:=[.int .i64 x.Tie,.bool x.Back]
def zKH : List PV → Use
  | [.int .i64 x_Tie,.bool x_Back]=>(⟨x_Tie,x_Back⟩:Use)
  | _=>default
def zdi (g:Nat->List PV):Nat->Use:=λ i=>zKH (g i)
theorem zdj (f:Nat->Use):zdi (λ i=>zaW (f i))=f:=rfl
structure Flash where
  A:Int
  B:Int
  Time:Int
  Flight:Int
  Wrong:Int
deriving Inhabited
structure web where
  Net:Net
  out:Mp
deriving Inhabited
abbrev zaC (x:web):List PV:=[.int .i64 x.Net.Nodes,.sl x.Net.Ties.len 4 (λ i=>enc_40 (x.Net.Ties.get i)),.fm (false,1,false,[none]) x.out.n x.out.F]
structure far where
  length:Int
  uses:Int
deriving Inhabited
abbrev zci (x:far):List PV:=[.int .i64 x.length,.int .i64 x.uses]
def zF8 : List PV → far
  | [.int .i64 x_length,.int .i64 x_uses]=>(⟨x_length,x_uses⟩:far)
  | _=>default
def zjG (g:Nat->List PV):Nat->far:=λ i=>zF8 (g i)
theorem zjd (f:Nat->far):zjG (λ i=>zci (f i))=f:=rfl
abbrev zao (x:Tab):List PV:=zhy 0 80 x
def zaJ (l:List PV):Tab:=zlI (zm l)
structure Step where
  From:Int
  To:Int
  Length:Int
  Use:Use
deriving Inhabited
abbrev zcA (x:Step):List PV:=[.int .i64 x.From,.int .i64 x.To,.int .i64 x.Length,.int .i64 x.Use.Tie,.bool x.Use.Back]
structure step where
  Use:Use
  from_:Int
  to:Int
  length:Int
deriving Inhabited
abbrev zaG (x:step):List PV:=[.int .i64 x.Use.Tie,.bool x.Use.Back,.int .i64 x.from_,.int .i64 x.to,.int .i64 x.length]
def zF9 : List PV → step
  | [.int .i64 x_Use_Tie,.bool x_Use_Back,.int .i64 x_from_,.int .i64 x_to,.int .i64 x_length]=>(⟨(⟨x_Use_Tie,x_Use_Back⟩:Use),x_from_,x_to,x_length⟩:step)
  | _=>default
def zhQ (g:Nat->List PV):Nat->step:=λ i=>zF9 (g i)
theorem zew (f:Nat->step):zhQ (λ i=>zaG (f i))=f:=rfl
structure tie where
  Tie:Tie
  index:Int
deriving Inhabited
abbrev zwJ (x:tie):List PV:=[.int .i64 x.Tie.From,.int .i64 x.Tie.To,.int .i64 x.Tie.Low,.int .i64 x.Tie.High,.int .i64 x.index]
abbrev zwK (x:Tab):List PV:=zhy 0 40 x
abbrev zcZ (x:(Sl Tab)):List PV:=[.sl x.len 80 (λ i=>zao (x.get i))]
abbrev tL (T:Tab) (i:Int):Int:=tg 80 T (0+i.toNat * 2+0)
abbrev tU (T:Tab) (i:Int):Int:=tg 80 T (0+i.toNat * 2+0+1)
abbrev tV (T:Tab) (i:Int):Int:=tg 80 T (0+i.toNat * 2+1)
abbrev nvr (x y:Int):Bool:=match (x == (1000000000000:Int)) with | true=>(match (y == (0:Int)) with | true=>true | false=>false) | false=>false
end Go.Proofs
namespace Go.Pm
open Go Go.Deep

theorem zCJ (b o i j:Nat):((⟨b,o,none⟩:Addr).add i).add j=⟨b,o+i+j,none⟩:=by
 simp only[Addr.add]
 by_cases h1:i=0
 ·subst h1
  by_cases h2:j=0
  ·subst h2;rfl
  ·rw[if_neg h2];rfl
 ·rw [if_neg h1]
  by_cases h2:j=0
  ·subst h2;rfl
  ·rw[if_neg h2]
def H0 (w:World):Fz:=λ b=>(w.heap[b]?).map .fz
theorem hw_H0 (w:World):Hw (H0 w) w:=by
 intro b x h
 unfold H0 at h
 cases e:w.heap[b]? with
 | none=>rw[e] at h;cases h
 | some o=>rw[e] at h;cases h;exact⟨o,rfl,rfl⟩
def wfI (x:Int):Prop:=-9223372036854775808<=x/\x<=9223372036854775807
section
variable {H:Type}{en:TypeId×Value->H}{P:Program}{w:World}{sp:Nat->Bool}{held:Bool}
def Rd (H:Type) (en:TypeId×Value->H) (P:Program) (w:World) (sp:Nat->Bool) (held:Bool) (t:TypeId){α:Type}(enc:α->List PV) (wf:α->Prop):Prop :=
 ∀ (fuel:Nat) (cs:List Value) (x:DataW H×List MemPlace),DataW.trod en P w 0 sp held fuel t cs=some x->∃ a:α,RL (Rep (H0 w)) (enc a) cs/\wf a
theorem zKI {t:TypeId}(ht:P.underlying t=some (.int .i64)):Rd H en P w sp held t (λ x=>[.int .i64 x]) wfI:=by
 intro fuel cs x h
 obtain⟨n,rfl,_,hw⟩:=DataW.trod_int ht h
 refine⟨n,⟨.int _ _,trivial⟩,?_⟩
 simp only[Lit.wf,dqm,decide_eq_true_eq] at hw
 exact⟨hw.1,hw.2⟩
theorem zo5 {t : TypeId} {fs : Array Field} (ht : P.underlying t = some (.struct fs)) {fuel : Nat} {cs : List Value} {x : DataW H × List MemPlace} (h : DataW.trod en P w 0 sp held fuel t cs = some x) :
  cs.length=P.cellsOf t/\∀ (i:Nat) (f:Field),fs[i]? = some f->∃ n y,DataW.trod en P w 0 sp held n f.type ((cs.drop f.offset).take (P.cellsOf f.type))=some y:=by
 obtain⟨xs,n,_,_,hl,hx,hf⟩:=DataW.trod_struct ht h
 refine⟨hl,λ i f hi=>?_⟩
 have hlt:i < xs.length:=by rw[hx];exact (dqp.1 hi).1
 exact⟨n,xs[i],by rw[hf i f hi,dqD hlt]⟩
theorem zCK {t e : TypeId} {α : Type} [Inhabited α] {enc : α → List PV} {wf : α → Prop} {s : Nat} (ht : P.underlying t = some (.slice e)) (hc : P.cellsOf e = s) (hs : 0 < s) (hlen : ∀ a, (enc a).length = s)
    (hel:Rd H en P w sp held e enc wf):Rd H en P w sp held t (λ x:Sl α=>[.sl x.len s (λ i=>enc (x.get i))]) (λ x=>x.len<=9223372036854775807/\∀ i,i < x.len->wf (x.get i)):=by
  intro fuel cs x h
  rcases open_slice ht h with ⟨rfl,_⟩ | ⟨a,len,cap,m,n,D,Pl,rfl,_,hl,hm,hmm,_,hget⟩
  · exact⟨⟨0,default⟩,⟨.sl0 _ _,trivial⟩,Nat.zero_le _,λ i hi=>absurd hi (dqW i)⟩
  · by_cases h0 : len = 0
    · subst h0
      exact⟨⟨0,default⟩,⟨.sle _ _ _ _,trivial⟩,Nat.zero_le _,λ i hi=>absurd hi (dqW i)⟩
    · have hlm : len ≤ m := by rw [hmm]; split <;> omega
      rw[hc] at hget
      have hex:∀ i,i < len->∃ y:α,(∃ cs',w.cells? 0 (a.add (i * s)) s=some cs'/\RL (Rep (H0 w)) (enc y) cs')/\wf y:=by
        intro i hi
        obtain⟨cs',h1,h2⟩:=hget i (by omega)
        obtain⟨y,h3,h4⟩:=hel _ _ _ h2
        exact⟨y,⟨cs',h1,h3⟩,h4⟩
      have hch:∃ f:Nat->α,∀ i,i < len->(∃ cs',w.cells? 0 (a.add (i * s)) s=some cs'/\RL (Rep (H0 w)) (enc (f i)) cs')/\wf (f i):=by
        refine⟨λ i=>if hi:i < len then Classical.choose (hex i hi) else default,λ i hi=>?_⟩
        simp only[dif_pos hi]
        exact Classical.choose_spec (hex i hi)
      obtain⟨f,hf⟩:=hch
      -- the block
      have hcell:∀ i,i < len->∀ j,j < s->∃ cs',w.cells? 0 (a.add (i * s)) s=some cs'/\RL (Rep (H0 w)) (enc (f i)) cs'/\w.cell? ((a.add (i * s)).add j)=cs'[j]?/\cs'.length=s:=by
        intro i hi j hj
        obtain⟨⟨cs',h1,h2⟩,_⟩:=hf i hi
        obtain⟨_,h3,h4⟩:=World.cells?_some h1
        exact⟨cs',h1,h2,h4 j hj,h3⟩
      obtain⟨cs0,_,_,hc0,hl0⟩:=hcell 0 (by omega) 0 hs
      have ha0:w.cell? a=cs0[0]?:=by simpa [Addr.add] using hc0
      rw[dqD (by omega)] at ha0
      obtain⟨C,ty,fr,hblk,hspot⟩:∃ C ty fr,w.heap[a.block]? = some (.cells C ty fr)/\a.spot=none:=by
        unfold World.cell? at ha0
        split at ha0
        · rename_i C ty fr hb
          refine⟨C,ty,fr,hb,?_⟩
          cases hsp:a.spot with
          | none=>rfl
          | some k=>rw[hsp] at ha0;simp at ha0
        · cases ha0
      have ea:a=⟨a.block,a.off,none⟩:=by rw[<- hspot]
      have hat:∀ i j,i < len->j < s->∃ cs',RL (Rep (H0 w)) (enc (f i)) cs'/\C[a.off+i * s+j]? = cs'[j]?/\cs'.length=s:=by
        intro i j hi hj
        obtain⟨cs',_,h2,h3,h4⟩:=hcell i hi j hj
        refine⟨cs',h2,?_,h4⟩
        rw[<- h3]
        have e2:(a.add (i * s)).add j=⟨a.block,a.off+i * s+j,none⟩:=(congrArg (λ z:Addr=>(z.add (i * s)).add j) ea).trans (zCJ _ _ _ _)
        rw[e2]
        simp[World.cell?,hblk]
      refine⟨⟨len,f⟩,⟨?_,trivial⟩,by simp only[maxLen] at hm;show len<=_;omega,λ i hi=>(hf i hi).2⟩
      rw[ea]
      refine .sl len s _ a.block a.off cap C ty fr (λ i j=>C.getD (a.off+i * s+j) undef) (by simp[H0,hblk]) hl (λ i _=>hlen _) ?_ ?_
      · intro i j x hi hx
        have hj:j < s:=by have:=(dqn.1 hx).1;rw[hlen] at this;exact this
        obtain⟨cs',h1,h2,h3⟩:=hat i j hi hj
        rw[dql,h2,dqD (by omega)]
        rfl
      · intro i j x hi hx
        have hj:j < s:=by have:=(dqn.1 hx).1;rw[hlen] at this;exact this
        obtain⟨cs',h1,h2,h3⟩:=hat i j hi hj
        obtain⟨v,hv,hr⟩:=h1.get j x hx
        rw[dql,h2,hv]
        exact hr
theorem zd1 {α:Type}(l:List α) (o s:Nat):l.drop o=(l.drop o).take s ++ l.drop (o+s):=by
 rw[<- List.drop_drop]
 exact (List.take_append_drop s (l.drop o)).symm
theorem okWide_agg {t:TypeId}{fs:Array Field}{r:Reach}{base:Nat}{v:Value}(ht:P.underlying t=some (.struct fs)) (h:Value.okWide P w r base t v):∃ cs,v=.agg cs:=by
 unfold Value.okWide at h
 rw[ht] at h
 obtain⟨cs,hv,_⟩:=h
 exact⟨cs,hv⟩
theorem pa_agg {h:Fz}{l:List PV}{v:Value}(hv:∃ cs,v=.agg cs) (r:RL (Rep h) l v.cells.toList):paR h (.agg l) v:=by
 obtain⟨cs,rfl⟩:=hv
 exact⟨cs.toList,by simp,r⟩
theorem below_H0 {w':World}(b:Bel (H0 w) w.heap.size w w'):Go.RowKit.Below w.heap.size w w' :=
 ⟨b.os,b.tape,b.output,b.size,λ k hk=>b.block k hk λ F e=>by
  unfold H0 at e
  cases hb:w.heap[k]? <;> rw[hb] at e <;> cases e⟩
end
end Go.Pm
namespace Go.Proofs
open Go Go.Pm
set_option maxRecDepth 100000
set_option linter.unusedVariables false
attribute [local irreducible] Go.Pm.vcFun Go.Pm.vc Go.Pm.vcIter
theorem C_3:Tryd.prog.cellsOf 3=1:=by kernel_rfl
theorem zPM:Tryd.prog.cellsOf 22=1:=by kernel_rfl
theorem zPN:Tryd.prog.cellsOf 24=2:=by kernel_rfl
theorem zPd:Tryd.prog.cellsOf 40=4:=by kernel_rfl
abbrev zJW (x:Int):Prop:=wfI x
theorem zKJ {H:Type}{en:TypeId×Value->H}{w:World}{sp:Nat->Bool}{held:Bool} : Rd H en Tryd.prog w sp held 3 zae zJW:=zKI Tryd.underlying3
def zKK (x:Tie):Prop:=zJW x.From/\zJW x.To/\zJW x.Low/\zJW x.High
theorem zNy {H:Type}{en:TypeId×Value->H}{w:World}{sp:Nat->Bool}{held:Bool} : Rd H en Tryd.prog w sp held 40 enc_40 zKK:=by
  intro fuel cs x h
  obtain⟨hl,hf⟩:=zo5 Tryd.underlying40 h
  rw[zPd] at hl
  obtain⟨n0,y0,g0⟩:=hf 0 _ rfl
  have g0:DataW.trod en Tryd.prog w 0 sp held n0 3 ((cs.drop 0).take (Tryd.prog.cellsOf 3))=some y0:=g0
  rw[C_3] at g0
  obtain⟨a0,r0,w0⟩:=zKJ _ _ _ g0
  obtain⟨n1,y1,g1⟩:=hf 1 _ rfl
  have g1:DataW.trod en Tryd.prog w 0 sp held n1 3 ((cs.drop 1).take (Tryd.prog.cellsOf 3))=some y1:=g1
  rw[C_3] at g1
  obtain⟨a1,r1,w1⟩:=zKJ _ _ _ g1
  obtain⟨n2,y2,g2⟩:=hf 2 _ rfl
  have g2:DataW.trod en Tryd.prog w 0 sp held n2 3 ((cs.drop 2).take (Tryd.prog.cellsOf 3))=some y2:=g2
  rw[C_3] at g2
  obtain⟨a2,r2,w2⟩:=zKJ _ _ _ g2
  obtain⟨n3,y3,g3⟩:=hf 3 _ rfl
  have g3:DataW.trod en Tryd.prog w 0 sp held n3 3 ((cs.drop 3).take (Tryd.prog.cellsOf 3))=some y3:=g3
  rw[C_3] at g3
  obtain⟨a3,r3,w3⟩:=zKJ _ _ _ g3
  have z:cs.drop 4=[]:=dqO (by omega)
  have R:=(r0.append (r1.append (r2.append (r3.append (show RL (Rep (H0 w)) [] (cs.drop 4) by rw[z];exact zmd)))))
  rw[<- (show cs.drop 3=(cs.drop 3).take 1 ++ cs.drop 4 from zd1 cs 3 1)] at R
  rw[<- (show cs.drop 2=(cs.drop 2).take 1 ++ cs.drop 3 from zd1 cs 2 1)] at R
  rw[<- (show cs.drop 1=(cs.drop 1).take 1 ++ cs.drop 2 from zd1 cs 1 1)] at R
  rw[<- (show cs.drop 0=(cs.drop 0).take 1 ++ cs.drop 1 from zd1 cs 0 1)] at R
  exact⟨⟨a0,a1,a2,a3⟩,R,⟨w0,w1,w2,w3⟩⟩
def zKL (x:(Sl Tie)):Prop:=x.len<=9223372036854775807/\∀ i,i < x.len->zKK (x.get i)
theorem zNz {H:Type}{en:TypeId×Value->H}{w:World}{sp:Nat->Bool}{held:Bool} : Rd H en Tryd.prog w sp held 22 zEj zKL:=zCK Tryd.underlying22 zPd (by decide) (λ _=>rfl) zNy
def wf_24 (x:Net):Prop:=zJW x.Nodes/\zKL x.Ties
theorem rd_24 {H:Type}{en:TypeId×Value->H}{w:World}{sp:Nat->Bool}{held:Bool} : Rd H en Tryd.prog w sp held 24 enc_24 wf_24:=by
  intro fuel cs x h
  obtain⟨hl,hf⟩:=zo5 Tryd.underlying24 h
  rw[zPN] at hl
  obtain⟨n0,y0,g0⟩:=hf 0 _ rfl
  have g0:DataW.trod en Tryd.prog w 0 sp held n0 3 ((cs.drop 0).take (Tryd.prog.cellsOf 3))=some y0:=g0
  rw[C_3] at g0
  obtain⟨a0,r0,w0⟩:=zKJ _ _ _ g0
  obtain⟨n1,y1,g1⟩:=hf 1 _ rfl
  have g1:DataW.trod en Tryd.prog w 0 sp held n1 22 ((cs.drop 1).take (Tryd.prog.cellsOf 22))=some y1:=g1
  rw[zPM] at g1
  obtain⟨a1,r1,w1⟩:=zNz _ _ _ g1
  have z:cs.drop 2=[]:=dqO (by omega)
  have R:=(r0.append (r1.append (show RL (Rep (H0 w)) [] (cs.drop 2) by rw[z];exact zmd)))
  rw[<- (show cs.drop 1=(cs.drop 1).take 1 ++ cs.drop 2 from zd1 cs 1 1)] at R
  rw[<- (show cs.drop 0=(cs.drop 0).take 1 ++ cs.drop 1 from zd1 cs 0 1)] at R
  exact⟨⟨a0,a1⟩,R,⟨w0,w1⟩⟩
end Go.Proofs
namespace Go.Proofs
open Go Go.Pm
set_option maxRecDepth 100000
set_option linter.unusedVariables false
attribute [local irreducible] Go.Pm.vcFun Go.Pm.vc Go.Pm.vcIter
abbrev T25:Tabs:=Tabs.nil
theorem zNA:TabsOk Tryd.prog T25:=TabsOk.nil
abbrev G25:Ctrs:=csm T25 (λ _ _=>[]) (λ _=>false)
def zGa:Ann:=⟨26,[(0,zK [0,1] []),(1,zK [0,1,10] []),(2,zK [4] []),(3,zK [0,1,5] []),(4,zK [0,1,5,14] []),(5,zK [0,1,5] []),(6,zK [0,1,5,25] []),(7,zK [4] []),(8,zK [4] [])],
 [(4,zK [0,1,5] [])],
 [(3,zK [0,1] [])],
 [],[]⟩
abbrev R25:=Bool
abbrev e25 (r:R25):List PA:=[.one (.bool r)]
@[irreducible] def z25:=ptF Tryd.prog G25 zGa Tryd.f25
def zEk (a:(Sl Int)) (b:(Sl Int)) (iv1:Int):St:=⟨[(0,zS zae 1 a),(1,zS zae 1 b),(5,zI iv1)],[],[]⟩
abbrev zKM (K:List PA->Prop) (a:(Sl Int)) (b:(Sl Int)) (X:St->Prop) (P:Int->Bool) (S:Int->Bool):Prop:=∀ ⦃iv1:Int⦄,P iv1=true->K (e25 (S iv1))->X (zEk a b iv1)
section
variable {K:List PA->Prop}{a:(Sl Int)}{b:(Sl Int)}{iv1:Int}{X1:St->Prop}{P1:Int->Bool}{S1:Int->Bool}
def zii (a:(Sl Int)) (b:(Sl Int)) (S1:Int->Bool) (iv1:Int):Bool :=
  (cond (decide (iv1 < (a.len : Int)))
 (cond ((a.get iv1.toNat) != (b.get iv1.toNat))
 false
 (S1 (w64 (iv1+(1:Int)))))
 true)
def zij (a:(Sl Int)) (b:(Sl Int)) (P1:Int->Bool) (iv1:Int):Bool :=
  (cond (decide (iv1 < (a.len : Int)))
 (decide ((0<=iv1/\iv1 < (a.len:Int))) &&
 (decide ((0<=iv1/\iv1 < (b.len:Int))) &&
 (cond ((a.get iv1.toNat) != (b.get iv1.toNat))
 true
 (P1 (w64 (iv1+(1:Int)))))))
 true)
def zik (a:(Sl Int)) (b:(Sl Int)):Nat->Int->Bool:=lpO (λ _=>default) (zii a b)
def zil (a:(Sl Int)) (b:(Sl Int)):Nat->Int->Bool:=lpO (λ _=>false) (zij a b)
def zwL (a:(Sl Int)) (b:(Sl Int)) (iv1:Int):Bool:=zik a b Fuel iv1
def zwM (a:(Sl Int)) (b:(Sl Int)) (iv1:Int):Bool:=zil a b Fuel iv1
theorem zGb (hs:zwM a b iv1=true) (hk:K (e25 (zwL a b iv1))):z25 K [1,1,0,1,0] [] (zEk a b iv1) :=
  zl (λ X=>z25 K [1,1,0,1,0,0] [X]) (by kernel_rfl) λ X1 hX =>
  (show ∀ k, zKM K a b X1 (zil a b k) (zik a b k) from zd0 _ _ (zij a b) (zii a b) (zKM K a b X1)
 (by intro _ hs;exact absurd hs dqk)
 (by intro P1 S1 hX1 iv1 hs hk;exact hX _ (zaS (by kernel_rfl) (zc hs hk (λ hs hk=>(zaO hs λ hc hs=>And.intro hc (zaO hs λ hc hs=>And.intro hc (zc hs hk (λ hs hk=>hk) (λ hs hk=>(hX1 hs hk)))))) (λ hs hk=>hk))))) _ hs hk
def zwN (a:(Sl Int)) (b:(Sl Int)):Bool :=
  (zwL a b (0:Int))
def zwO (a:(Sl Int)) (b:(Sl Int)):Bool :=
  (zwM a b (0:Int))
theorem zGc (hs:zwO a b=true) (hk:K (e25 (zwN a b))):z25 K [1,1] [] ⟨[(0,zS zae 1 a),(1,zS zae 1 b)],[],[]⟩:=zaS (by kernel_rfl) (zGb hs hk)
def s25 (a:(Sl Int)) (b:(Sl Int)):Bool :=
  (cond ((a.len : Int) != (b.len : Int))
 false
 (zwN a b))
def p25 (a:(Sl Int)) (b:(Sl Int)):Bool :=
  (cond ((a.len : Int) != (b.len : Int))
 true
 (zwO a b))
end
theorem q25 (a:(Sl Int)) (b:(Sl Int)) (K:List PA->Prop) (hs:p25 a b=true) (hk:K (e25 (s25 a b))):vcFun Tryd.prog G25 zGa 25 [.one (.sl a.len 1 (λ i=>zae (a.get i))),.one (.sl b.len 1 (λ i=>zae (b.get i)))] K :=
  zaS (by kernel_rfl) (zc hs hk (λ hs hk=>hk) (λ hs hk=>(zGc hs hk)))
def zCL : List PA → COut
  | [.one (.sl zeh zje zei),.one (.sl ze3 zlB zeY)]=>.det (IsE zae 1 zje zei/\IsE zae 1 zlB zeY/\p25 (⟨zeh,zaw zei⟩:(Sl Int)) (⟨ze3,zaw zeY⟩:(Sl Int))=true) [.one (.bool (s25 (⟨zeh,zaw zei⟩:(Sl Int)) (⟨ze3,zaw zeY⟩:(Sl Int))))]
  | _=>.no
theorem zKN:zar Tryd.prog 25:=⟨_,rfl,rfl,by kernel_rfl⟩
theorem zPe:Ok Tryd.prog 25 zCL:=zbc zNA zKN λ args K h=>by
  unfold zCL at h
  split at h
  · rename_i zeh zje zei ze3 zlB zeY
    obtain⟨⟨⟨rfl,zgz,rfl⟩,⟨rfl,zim,rfl⟩,hs⟩,hk⟩:=h
    try rw[zbx zgz] at hs
    try rw[zbx zgz] at hk
    try rw[zbx zim] at hs
    try rw[zbx zim] at hk
    exact⟨(λ _ _=>[]),(λ _=>false),zGa,q25 (⟨zeh,zgz⟩:(Sl Int)) (⟨ze3,zim⟩:(Sl Int)) K hs hk⟩
  · exact h.elim
abbrev T81:Tabs:=Tabs.nil
theorem zNB:TabsOk Tryd.prog T81:=TabsOk.nil
abbrev G81:Ctrs:=csm T81 (λ _ _=>[]) (λ _=>false)
def zKO:Ann:=⟨15,[(0,zK [0,1,2] []),(1,zK [6] [])],
 [],
 [],
 [],[]⟩
abbrev R81:=Bool
abbrev e81 (r:R81):List PA:=[.one (.bool r)]
section
variable {K:List PA->Prop}{n:Int}{low:Int}{high:Int}
def s81 (n:Int) (low:Int) (high:Int):Bool :=
  (cond (decide (n >= low))
 (decide (n<=high))
 false)
end
theorem q81 (n:Int) (low:Int) (high:Int) (K:List PA->Prop) (hk:K (e81 (s81 n low high))):vcFun Tryd.prog G81 zKO 81 [.one (.int .i64 n),.one (.int .i64 low),.one (.int .i64 high)] K :=
  zaS (by kernel_rfl) (zt hk (λ hk=>hk) (λ hk=>hk))
def zwP : List PA → COut
  | [.one (.int .i64 a0),.one (.int .i64 a1),.one (.int .i64 a2)]=>.tot [.one (.bool (s81 a0 a1 a2))]
  | _=>.no
theorem zKP:zar Tryd.prog 81:=⟨_,rfl,rfl,by kernel_rfl⟩
theorem zNC:Ok Tryd.prog 81 zwP:=zbc zNB zKP λ args K h=>by
  unfold zwP at h
  split at h
  · rename_i a0 a1 a2
    have hk:=h
    exact⟨(λ _ _=>[]),(λ _=>false),zKO,q81 a0 a1 a2 K hk⟩
  · exact h.elim
abbrev T78:Tabs:=(Tabs.nil.addF 81 zwP)
theorem zND:TabsOk Tryd.prog T78:=(TabsOk.nil.addF zNC)
abbrev G78:Ctrs:=csm T78 (λ _ _=>[]) (λ _=>false)
def zGd:Ann:=⟨55,[(0,zK [1,2] [2]),(1,zK [1,2,5] [2]),(2,zK [1,2,5,6] [2]),(3,zK [4] [])],
 [],
 [(2,zK [1,2,5] [2]),(3,zK [1,2,5,6] [2])],
 [],[]⟩
abbrev R78:=Bool
abbrev e78 (r:R78):List PA:=[.one (.bool r)]
@[irreducible] def z78:=ptF Tryd.prog G78 zGd Tryd.f78
section
variable {K:List PA->Prop}{t:Tie}{nodes:Int}{zm7:Bool}{zsM:Bool}
def zkQ (t:Tie) (nodes:Int) (zm7:Bool) (zsM:Bool):Bool :=
  (cond (s81 t.From (0:Int) (w64 (nodes - (1:Int))))
 (cond (s81 t.To (0:Int) (w64 (nodes - (1:Int))))
 (cond (t.From != t.To)
 (cond zm7
 (cond zsM
 (decide (t.Low<=t.High))
 false)
 false)
 false)
 false)
 false)
theorem zwQ (hk:K (e78 (zkQ t nodes zm7 zsM))):z78 K [1,1,1] [] ⟨[(1,zI nodes),(2,zp 2 0),(5,zB zm7),(6,zB zsM)],[(2,.box 40 (zm (enc_40 t)))],[]⟩:=zaS (by kernel_rfl) (zt hk (λ hk=>(zt hk (λ hk=>(zt hk (λ hk=>(zt hk (λ hk=>(zt hk (λ hk=>hk) (λ hk=>hk))) (λ hk=>hk))) (λ hk=>hk))) (λ hk=>hk))) (λ hk=>hk))
def zkR (t:Tie) (nodes:Int) (zm7:Bool):Bool :=
  (cond (t.High == (1000000000000:Int))
 (zkQ t nodes zm7 true)
 (zkQ t nodes zm7 (s81 t.High (-1000000000:Int) (1000000000:Int))))
theorem zwR (hk:K (e78 (zkR t nodes zm7))):z78 K [1,1] [] ⟨[(1,zI nodes),(2,zp 2 0),(5,zB zm7)],[(2,.box 40 (zm (enc_40 t)))],[]⟩:=zaS (by kernel_rfl) (zt hk (λ hk=>(zwQ hk)) (λ hk=>(zwQ hk)))
def s78 (t:Tie) (nodes:Int):Bool :=
  (cond (t.Low == (-1000000000000:Int))
 (zkR t nodes true)
 (zkR t nodes (s81 t.Low (-1000000000:Int) (1000000000:Int))))
end
theorem q78 (t:Tie) (nodes:Int) (K:List PA->Prop) (hk:K (e78 (s78 t nodes))):vcFun Tryd.prog G78 zGd 78 [.agg (enc_40 t),.one (.int .i64 nodes)] K :=
  zaS (by kernel_rfl) (zt hk (λ hk=>(zwR hk)) (λ hk=>(zwR hk)))
def zCM : List PA → COut
  | [.agg [.int .i64 zqo,.int .i64 zGe,.int .i64 zwS,.int .i64 zqp],.one (.int .i64 a1)]=>.tot [.one (.bool (s78 (⟨zqo,zGe,zwS,zqp⟩:Tie) a1))]
  | _=>.no
theorem zKQ:zar Tryd.prog 78:=⟨_,rfl,rfl,by kernel_rfl⟩
theorem zPf:Ok Tryd.prog 78 zCM:=zbc zND zKQ λ args K h=>by
  unfold zCM at h
  split at h
  · rename_i zqo zGe zwS zqp a1
    have hk:=h
    exact⟨(λ _ _=>[]),(λ _=>false),zGd,q78 (⟨zqo,zGe,zwS,zqp⟩:Tie) a1 K hk⟩
  · exact h.elim
abbrev T67:Tabs:=((Tabs.nil.addF 78 zCM).addF 81 zwP)
theorem zNE:TabsOk Tryd.prog T67:=((TabsOk.nil.addF zPf).addF zNC)
abbrev G67:Ctrs:=csm T67 (λ _ _=>[]) (λ _=>false)
def zCN:Ann:=⟨27,[(0,zK [1] [1]),(1,zK [1,6,7,8] [1]),(2,zK [1,6,7,8,9] [1]),(3,zK [1,4,6,7,8] [1,4]),(4,zK [1,6,7,8,16] [1]),(5,zK [2] []),(6,zK [1,6,7,8] [1]),(7,zK [2] [])],
 [(2,zK [1,6,7,8] [1])],
 [(5,zK [1,6,7,8,16] [1])],
 [],[]⟩
abbrev R67:=Bool
abbrev e67 (r:R67):List PA:=[.one (.bool r)]
@[irreducible] def z67:=ptF Tryd.prog G67 zCN Tryd.f67
def zEl (n:Net) (zdN:Int):St:=⟨[(1,zp 1 0),(6,zS enc_40 4 n.Ties),(7,zI (n.Ties.len:Int)),(8,zI zdN)],[(1,.box 24 (zm (enc_24 n)))],[]⟩
abbrev zGf (K:List PA->Prop) (n:Net) (X:St->Prop) (P:Int->Bool) (S:Int->Bool):Prop:=∀ ⦃zdN:Int⦄,P zdN=true->K (e67 (S zdN))->X (zEl n zdN)
section
variable {K:List PA->Prop}{n:Net}{zdN:Int}{X0:St->Prop}{P0:Int->Bool}{S0:Int->Bool}{zGg:Int}{zqq:Bool}
def zqr (S0:Int->Bool) (n:Net) (zGg:Int) (zqq:Bool):Bool :=
  (cond zqq
 false
 (S0 (w64 (zGg+(1:Int)))))
def zqs (P0:Int->Bool) (n:Net) (zGg:Int) (zqq:Bool):Bool :=
  (cond zqq
 true
 (P0 (w64 (zGg+(1:Int)))))
theorem zGh (hX0:zGf K n X0 P0 S0) (hs:zqs P0 n zGg zqq=true) (hk:K (e67 (zqr S0 n zGg zqq))):z67 K [1,0,1,0,0,1,1,0,0,1,1] [X0] ⟨[(1,zp 1 0),(6,zS enc_40 4 n.Ties),(7,zI (n.Ties.len:Int)),(8,zI zGg),(16,zB zqq)],[(1,.box 24 (zm (enc_24 n)))],[]⟩:=zaS (by kernel_rfl) (zc hs hk (λ hs hk=>hk) (λ hs hk=>(hX0 hs hk)))
def zin (n:Net) (S0:Int->Bool) (zdN:Int):Bool :=
  (cond (decide (zdN < (n.Ties.len : Int)))
 (zqr S0 n zdN (!(s78 (n.Ties.get zdN.toNat) n.Nodes)))
 (cond (s81 n.Nodes (1:Int) (40:Int))
 (decide ((n.Ties.len:Int)<=(200:Int)))
 false))
def zio (n:Net) (P0:Int->Bool) (zdN:Int):Bool :=
  (cond (decide (zdN < (n.Ties.len : Int)))
 (decide ((0<=zdN/\zdN < (n.Ties.len:Int))) &&
 (zqs P0 n zdN (!(s78 (n.Ties.get zdN.toNat) n.Nodes))))
 true)
def ziq (n:Net):Nat->Int->Bool:=lpO (λ _=>default) (zin n)
def zir (n:Net):Nat->Int->Bool:=lpO (λ _=>false) (zio n)
def zwT (n:Net) (zdN:Int):Bool:=ziq n Fuel zdN
def zwU (n:Net) (zdN:Int):Bool:=zir n Fuel zdN
theorem zGi (hs:zwU n zdN=true) (hk:K (e67 (zwT n zdN))):z67 K [1,0,1,0] [] (zEl n zdN) :=
  zl (λ X=>z67 K [1,0,1,0,0] [X]) (by kernel_rfl) λ X0 hX =>
  (show ∀ k, zGf K n X0 (zir n k) (ziq n k) from zd0 _ _ (zio n) (zin n) (zGf K n X0)
 (by intro _ hs;exact absurd hs dqk)
 (by intro P0 S0 hX0 zdN hs hk;exact hX _ (zaS (by kernel_rfl) (zc hs hk (λ hs hk=>(zaO hs λ hc hs=>And.intro hc (zGh hX0 hs hk))) (λ hs hk=>(zt hk (λ hk=>hk) (λ hk=>hk))))))) _ hs hk
def s67 (n:Net):Bool :=
  (zwT n (0:Int))
def p67 (n:Net):Bool :=
  (zwU n (0:Int))
end
theorem q67 (n:Net) (K:List PA->Prop) (hs:p67 n=true) (hk:K (e67 (s67 n))):vcFun Tryd.prog G67 zCN 67 [.agg (enc_24 n)] K :=
  zaS (by kernel_rfl) (zGi hs hk)
def zuO : List PA → COut
  | [.agg [.int .i64 zaf,.sl zac zat zab]]=>.det (IsE enc_40 4 zat zab/\p67 (⟨zaf,(⟨zac,zal zab⟩:(Sl Tie))⟩:Net)=true) [.one (.bool (s67 (⟨zaf,(⟨zac,zal zab⟩:(Sl Tie))⟩:Net)))]
  | [.agg [.int .i64 zaf,.nils]]=>.det (p67 (⟨zaf,(⟨0,λ _=>default⟩:(Sl Tie))⟩:Net)=true) [.one (.bool (s67 (⟨zaf,(⟨0,λ _=>default⟩:(Sl Tie))⟩:Net)))]
  | _=>.no
theorem zKR:zar Tryd.prog 67:=⟨_,rfl,rfl,by kernel_rfl⟩
theorem zNc:Ok Tryd.prog 67 zuO:=zhb zNE zKR λ args K h=>by
  unfold zuO at h
  split at h
  · rename_i zaf zac zat zab
    obtain⟨⟨⟨rfl,zan,rfl⟩,hs⟩,hk⟩:=h
    try rw[zaj zan] at hs
    try rw[zaj zan] at hk
    exact⟨_,zfA zfS _,(λ _ _=>[]),(λ _=>false),zCN,q67 (⟨zaf,(⟨zac,zan⟩:(Sl Tie))⟩:Net) (Wk K) hs (zfT hk)⟩
  · rename_i zaf
    obtain⟨hs,hk⟩:=h
    exact⟨_,(zgy (.agg (zgy (.rfl _) (zgy (.nil _ _) zmd))) zmd),(λ _ _=>[]),(λ _=>false),zCN,q67 (⟨zaf,(⟨0,λ _=>default⟩:(Sl Tie))⟩:Net) (Wk K) hs (zfT hk)⟩
  · exact h.elim
abbrev T93:Tabs:=Tabs.nil
theorem zNF:TabsOk Tryd.prog T93:=TabsOk.nil
abbrev G93:Ctrs:=csm T93 (λ _ _=>[]) (λ _=>false)
def zGj:Ann:=⟨4,[(0,zK [1] [1]),(1,zK [2] [])],
 [],
 [],
 [],[]⟩
theorem zGk (w : web) (K : List PA → Prop) :
  vcFun Tryd.prog G93 zGj 93 [.one (.fp (zaC w) 0)] K =
  (K [.one (.fn 110 [] [.fp [.fp (zaC w) 0] 0])]):=by kernel_rfl
theorem q93 (w:web) (K:List PA->Prop) (hk:K [.one (.fn 110 [] [.fp [.fp (zaC w) 0] 0])]):vcFun Tryd.prog G93 zGj 93 [.one (.fp (zaC w) 0)] K:=zaS (zGk w K) hk
def zo6 : List PA → COut
  | [.one (.fp [.int .i64 zam,.sl zah zaA zai,.fm za3 zaD zaE] 0)]=>.det (IsE enc_40 4 zaA zai/\za3=(false,1,false,[none])) [.one (.fn 110 [] [.fp [.fp (zaC (⟨(⟨(⟨zam,(⟨zah,zal zai⟩:(Sl Tie))⟩:Net),(⟨zaD,zaE⟩:Mp)⟩:web).Net,((⟨(⟨zam,(⟨zah,zal zai⟩:(Sl Tie))⟩:Net),(⟨zaD,zaE⟩:Mp)⟩:web).out)⟩:web)) 0] 0])]
  | _=>.no
theorem zKS:zar Tryd.prog 93:=⟨_,rfl,rfl,by kernel_rfl⟩
theorem zJX:Ok Tryd.prog 93 zo6:=zbc zNF zKS λ args K h=>by
  unfold zo6 at h
  split at h
  · rename_i zam zah zaA zai za3 zaD zaE
    obtain⟨⟨⟨rfl,zas,rfl⟩,rfl⟩,hk⟩:=h
    try rw[zaj zas] at hk
    exact⟨λ _ _=>[],λ _=>false,zGj,q93 (⟨(⟨zam,(⟨zah,zas⟩:(Sl Tie))⟩:Net),(⟨zaD,zaE⟩:Mp)⟩:web) K hk⟩
  · exact h.elim
abbrev T94:Tabs:=Tabs.nil
theorem zNG:TabsOk Tryd.prog T94:=TabsOk.nil
abbrev G94:Ctrs:=csm T94 (λ _ _=>[]) (λ _=>false)
def zKT:Ann:=⟨21,[(0,zK [1,2] [1,2]),(1,zK [2,3] [2])],
 [],
 [],
 [],[]⟩
abbrev R94:=(step×Bool)
abbrev e94 (r:R94):List PA:=[.agg [.int .i64 r.1.Use.Tie,.bool r.1.Use.Back,.int .i64 r.1.from_,.int .i64 r.1.to,.int .i64 r.1.length],.one (.bool r.2)]
section
variable {K:List PA->Prop}{t:tie}
def s94 (t:tie):(step×Bool) :=
  ((⟨(⟨t.index,false⟩:Use),t.Tie.From,t.Tie.To,t.Tie.High⟩:step),(t.Tie.High != (1000000000000:Int)))
end
theorem q94 (t:tie) (K:List PA->Prop) (hk:K (e94 (s94 t))):vcFun Tryd.prog G94 zKT 94 [.agg (zwJ t)] K :=
  zaS (by kernel_rfl) hk
def zGl : List PA → COut
  | [.agg [.int .i64 zbd,.int .i64 zbE,.int .i64 zbq,.int .i64 zbe,.int .i64 zbV]]=>.tot [.agg [.int .i64 (((s94 (⟨(⟨zbd,zbE,zbq,zbe⟩:Tie),zbV⟩:tie)).1).Use.Tie),.bool (((s94 (⟨(⟨zbd,zbE,zbq,zbe⟩:Tie),zbV⟩:tie)).1).Use.Back),.int .i64 (((s94 (⟨(⟨zbd,zbE,zbq,zbe⟩:Tie),zbV⟩:tie)).1).from_),.int .i64 (((s94 (⟨(⟨zbd,zbE,zbq,zbe⟩:Tie),zbV⟩:tie)).1).to),.int .i64 (((s94 (⟨(⟨zbd,zbE,zbq,zbe⟩:Tie),zbV⟩:tie)).1).length)],.one (.bool ((s94 (⟨(⟨zbd,zbE,zbq,zbe⟩:Tie),zbV⟩:tie)).2))]
  | _=>.no
theorem zKU:zar Tryd.prog 94:=⟨_,rfl,rfl,by kernel_rfl⟩
theorem zPO:Ok Tryd.prog 94 zGl:=zbc zNG zKU λ args K h=>by
  unfold zGl at h
  split at h
  · rename_i zbd zbE zbq zbe zbV
    have hk:=h
    exact⟨(λ _ _=>[]),(λ _=>false),zKT,q94 (⟨(⟨zbd,zbE,zbq,zbe⟩:Tie),zbV⟩:tie) K hk⟩
  · exact h.elim
abbrev T95:Tabs:=Tabs.nil
theorem zNH:TabsOk Tryd.prog T95:=TabsOk.nil
abbrev G95:Ctrs:=csm T95 (λ _ _=>[]) (λ _=>false)
def zKV:Ann:=⟨22,[(0,zK [1,2] [1,2]),(1,zK [2,3] [2])],
 [],
 [],
 [],[]⟩
abbrev R95:=(step×Bool)
abbrev e95 (r:R95):List PA:=[.agg [.int .i64 r.1.Use.Tie,.bool r.1.Use.Back,.int .i64 r.1.from_,.int .i64 r.1.to,.int .i64 r.1.length],.one (.bool r.2)]
section
variable {K:List PA->Prop}{t:tie}
def s95 (t:tie):(step×Bool) :=
  ((⟨(⟨t.index,true⟩:Use),t.Tie.To,t.Tie.From,(w64 (0 - t.Tie.Low))⟩:step),(t.Tie.Low != (-1000000000000:Int)))
end
theorem q95 (t:tie) (K:List PA->Prop) (hk:K (e95 (s95 t))):vcFun Tryd.prog G95 zKV 95 [.agg (zwJ t)] K :=
  zaS (by kernel_rfl) hk
def zGm : List PA → COut
  | [.agg [.int .i64 zbd,.int .i64 zbE,.int .i64 zbq,.int .i64 zbe,.int .i64 zbV]]=>.tot [.agg [.int .i64 (((s95 (⟨(⟨zbd,zbE,zbq,zbe⟩:Tie),zbV⟩:tie)).1).Use.Tie),.bool (((s95 (⟨(⟨zbd,zbE,zbq,zbe⟩:Tie),zbV⟩:tie)).1).Use.Back),.int .i64 (((s95 (⟨(⟨zbd,zbE,zbq,zbe⟩:Tie),zbV⟩:tie)).1).from_),.int .i64 (((s95 (⟨(⟨zbd,zbE,zbq,zbe⟩:Tie),zbV⟩:tie)).1).to),.int .i64 (((s95 (⟨(⟨zbd,zbE,zbq,zbe⟩:Tie),zbV⟩:tie)).1).length)],.one (.bool ((s95 (⟨(⟨zbd,zbE,zbq,zbe⟩:Tie),zbV⟩:tie)).2))]
  | _=>.no
theorem zKW:zar Tryd.prog 95:=⟨_,rfl,rfl,by kernel_rfl⟩
theorem zPP:Ok Tryd.prog 95 zGm:=zbc zNH zKW λ args K h=>by
  unfold zGm at h
  split at h
  · rename_i zbd zbE zbq zbe zbV
    have hk:=h
    exact⟨(λ _ _=>[]),(λ _=>false),zKV,q95 (⟨(⟨zbd,zbE,zbq,zbe⟩:Tie),zbV⟩:tie) K hk⟩
  · exact h.elim
abbrev zPg:Tabs:=((Tabs.nil.addF 94 zGl).addF 95 zGm)
theorem zKX:TabsOk Tryd.prog zPg:=((TabsOk.nil.addF zPO).addF zPP)
abbrev zKY:Ctrs:=csm zPg (λ _ _=>[]) (λ _=>false)
def zjf:Ann:=⟨52,[(0,zK [0,1,14,15,16] []),(1,zK [0,1,14,15,16,17] []),(2,zK [0,1,3,4,14,15,16] [4]),(3,zK [0,1,3,4,14,15,16,26] [4]),(4,zK [0,1,5,14,15,16] [5]),(5,zK [0,1,14,15,16,34,35] []),(6,zK [0,1,14,15,16,34,35,36] []),(7,zK [0,1,7,14,15,16,34,35] []),(8,zK [0,1,8,9,14,15,16,34,35] [8]),(9,zK [0,1,14,15,16,34,35,49] []),(10,zK [0,1,14,15,16,34,35] []),(11,zK [0,1,14,15,16] [])],
 [(1,zK [0,1,14,15,16] [])],
 [],
 [(6,3,zK [0,1,14,15,16,34,35] [])],[9]⟩
def zd9 (l:Nat) (a:web) (zaM:Int):St:=⟨[(0,.one (.c (.p (.yl l)))),(1,.one (.c (.p (.fp [.fp (zaC a) 0] 0)))),(14,.one (.c (.p (.sl a.Net.Ties.len 4 (λ i=>enc_40 (a.Net.Ties.get i)))))),(15,.one (.c (.p (.int .i64 (a.Net.Ties.len:Int))))),(16,.one (.c (.p (.int .i64 zaM))))],[],[]⟩
def zhR (l:Nat) (ys:List (List PA)) (a:web) (zaM:Int):Prop:=vcY Tryd.prog zKY zjf l (cdF Tryd.f110 [1,0]) (zi7 0 zpO) ys false (zd9 l a zaM)
theorem zCO (l : Nat) (a : web) (ys : List (List PA)) :
  vcIter Tryd.prog zKY zjf 110 l [.one (.fp [.fp (zaC a) 0] 0)] ys =
  (zhR l ys a (0:Int)):=by kernel_rfl
def zme (l:Nat) (X0:List (List PA)->Bool->St->Prop) (ys:List (List PA)) (a:web) (zaM:Int):Prop :=
  (zdw (decide (zaM < (a.Net.Ties.len : Int)))
 (((0<=zaM/\zaM < (a.Net.Ties.len:Int))) /\
 (zdw ((zlw (a.out.F [zaM]) 0) != 0)
 (X0 ys false (zd9 l a (w64 (zaM+(1:Int)))))
 (zdw ((s94 (⟨(a.Net.Ties.get zaM.toNat), zaM⟩ : tie)).2)
 (l=l/\∃ r1,ys=[.agg [.int .i64 (((s94 (⟨(a.Net.Ties.get zaM.toNat),zaM⟩:tie)).1).Use.Tie),.bool (((s94 (⟨(a.Net.Ties.get zaM.toNat),zaM⟩:tie)).1).Use.Back),.int .i64 (((s94 (⟨(a.Net.Ties.get zaM.toNat),zaM⟩:tie)).1).from_),.int .i64 (((s94 (⟨(a.Net.Ties.get zaM.toNat),zaM⟩:tie)).1).to),.int .i64 (((s94 (⟨(a.Net.Ties.get zaM.toNat),zaM⟩:tie)).1).length)]] :: r1 /\
 (zdw ((s95 (⟨(a.Net.Ties.get zaM.toNat), zaM⟩ : tie)).2)
 (l=l/\∃ r2,r1=[.agg [.int .i64 (((s95 (⟨(a.Net.Ties.get zaM.toNat),zaM⟩:tie)).1).Use.Tie),.bool (((s95 (⟨(a.Net.Ties.get zaM.toNat),zaM⟩:tie)).1).Use.Back),.int .i64 (((s95 (⟨(a.Net.Ties.get zaM.toNat),zaM⟩:tie)).1).from_),.int .i64 (((s95 (⟨(a.Net.Ties.get zaM.toNat),zaM⟩:tie)).1).to),.int .i64 (((s95 (⟨(a.Net.Ties.get zaM.toNat),zaM⟩:tie)).1).length)]] :: r2 /\
 (X0 r2 false (zd9 l a (w64 (zaM+(1:Int)))))/\True)
 (X0 r1 false (zd9 l a (w64 (zaM+(1:Int))))))/\True)
 (zdw ((s95 (⟨(a.Net.Ties.get zaM.toNat), zaM⟩ : tie)).2)
 (l=l/\∃ r3,ys=[.agg [.int .i64 (((s95 (⟨(a.Net.Ties.get zaM.toNat),zaM⟩:tie)).1).Use.Tie),.bool (((s95 (⟨(a.Net.Ties.get zaM.toNat),zaM⟩:tie)).1).Use.Back),.int .i64 (((s95 (⟨(a.Net.Ties.get zaM.toNat),zaM⟩:tie)).1).from_),.int .i64 (((s95 (⟨(a.Net.Ties.get zaM.toNat),zaM⟩:tie)).1).to),.int .i64 (((s95 (⟨(a.Net.Ties.get zaM.toNat),zaM⟩:tie)).1).length)]] :: r3 /\
 (X0 r3 false (zd9 l a (w64 (zaM+(1:Int)))))/\True)
 (X0 ys false (zd9 l a (w64 (zaM+(1:Int)))))))))
 (ys=[]))
theorem zo7 (l : Nat) (X0 : List (List PA) → Bool → St → Prop) (ys : List (List PA)) (a : web) (zaM : Int) :
  vcY Tryd.prog zKY zjf l (cd (cdF Tryd.f110 [1,0]) [0]) (zuo Tryd.prog zjf 1 X0 (zi7 0 zpO)) ys false (zd9 l a zaM) =
  zme l X0 ys a zaM:=by kernel_rfl
theorem zuP (l : Nat) (ys : List (List PA)) (a : web) (zaM : Int)
  (h:∀ X0:List (List PA)->Bool->St->Prop,(∀ (ys:List (List PA)) (zaM:Int),zme l X0 ys a zaM->X0 ys false (zd9 l a zaM))->X0 ys false (zd9 l a zaM)) :
  zhR l ys a zaM:=by
  have e:zhR l ys a zaM=(∀ X:List (List PA)->Bool->St->Prop,(∀ ys q s,vcY Tryd.prog zKY zjf l (cd (cdF Tryd.f110 [1,0]) [0]) (zuo Tryd.prog zjf 1 X (zi7 0 zpO)) ys q s->X ys q s)->X ys false (zd9 l a zaM)):=by kernel_rfl
  refine zaS e ?_
  intro X hX
  refine h X ?_
  intro ys zaM hs
  refine hX _ _ _ ?_
  have e2:=zo7 l X ys a zaM
  rw[e2]
  exact hs
attribute [irreducible] zhR
def zfk (a:web) (S0:Int->List step) (zaM:Int):List step :=
  (cond (decide (zaM < (a.Net.Ties.len : Int)))
 (cond ((zlw (a.out.F [zaM]) 0) != 0)
 (S0 (w64 (zaM+(1:Int))))
 (cond ((s94 (⟨(a.Net.Ties.get zaM.toNat), zaM⟩ : tie)).2)
 (((s94 (⟨(a.Net.Ties.get zaM.toNat), zaM⟩ : tie)).1) :: (cond ((s95 (⟨(a.Net.Ties.get zaM.toNat), zaM⟩ : tie)).2)
 (((s95 (⟨(a.Net.Ties.get zaM.toNat),zaM⟩:tie)).1) :: (S0 (w64 (zaM+(1:Int)))))
 (S0 (w64 (zaM+(1:Int))))))
 (cond ((s95 (⟨(a.Net.Ties.get zaM.toNat), zaM⟩ : tie)).2)
 (((s95 (⟨(a.Net.Ties.get zaM.toNat),zaM⟩:tie)).1) :: (S0 (w64 (zaM+(1:Int)))))
 (S0 (w64 (zaM+(1:Int)))))))
 [])
def zfl (a:web) (P0:Int->Bool) (zaM:Int):Bool :=
  (cond (decide (zaM < (a.Net.Ties.len : Int)))
 (decide ((0<=zaM/\zaM < (a.Net.Ties.len:Int))) &&
 (cond ((zlw (a.out.F [zaM]) 0) != 0)
 (P0 (w64 (zaM+(1:Int))))
 (cond ((s94 (⟨(a.Net.Ties.get zaM.toNat), zaM⟩ : tie)).2)
 (cond ((s95 (⟨(a.Net.Ties.get zaM.toNat), zaM⟩ : tie)).2)
 (P0 (w64 (zaM+(1:Int))))
 (P0 (w64 (zaM+(1:Int)))))
 (cond ((s95 (⟨(a.Net.Ties.get zaM.toNat), zaM⟩ : tie)).2)
 (P0 (w64 (zaM+(1:Int))))
 (P0 (w64 (zaM+(1:Int))))))))
 true)
def zex (a : web) : Nat → Int → List step
  | 0=>λ _=>[]
  | k+1=>zfk a (zex a k)
def zey (a : web) : Nat → Int → Bool
  | 0=>λ _=>false
  | k+1=>zfl a (zey a k)
def zsN (a:web) (zaM:Int):List step:=zex a Fuel zaM
def zsO (a:web) (zaM:Int):Bool:=zey a Fuel zaM
theorem zCP (l:Nat) (a:web) (ys:List (List PA)) (zaM:Int) (hs:zsO a zaM=true) (hk:ys=(zsN a zaM).map (λ y=>[.agg (zaG y)])):zhR l ys a zaM:=by
  refine zuP l ys a zaM ?_
  intro X0 hstep
  have key:∀ (k:Nat) (ys:List (List PA)) (zaM:Int),zey a k zaM=true->ys=(zex a k zaM).map (λ y=>[.agg (zaG y)])->X0 ys false (zd9 l a zaM):=by
    intro k
    induction k with
    | zero=>intro ys zaM hs;exact absurd hs dqk
    | succ k ih =>
      intro ys zaM hs hk
      refine hstep ys zaM ?_
      have hs:zfl a (zey a k) zaM=true:=hs
      have hk:ys=(zfk a (zex a k) zaM).map (λ y=>[.agg (zaG y)]):=hk
      unfold zfl at hs
      unfold zfk at hk
      generalize zex a k=S0 at hk ih
      generalize zey a k=P0 at hs ih
      have hX0:=ih
      exact (zgx hs hk
 (λ hs hk => (zaO hs λ hc hs => ⟨hc, (zgx hs hk
 (λ hs hk=>(hX0 _ (w64 (zaM+(1:Int))) hs hk))
 (λ hs hk => (zgx hs hk
 (λ hs hk => (itY hk rfl (λ _ hk => (zgx hs hk
 (λ hs hk=>(itY hk rfl (λ _ hk=>(hX0 _ (w64 (zaM+(1:Int))) hs hk))))
 (λ hs hk=>(hX0 _ (w64 (zaM+(1:Int))) hs hk))))))
 (λ hs hk => (zgx hs hk
 (λ hs hk=>(itY hk rfl (λ _ hk=>(hX0 _ (w64 (zaM+(1:Int))) hs hk))))
 (λ hs hk=>(hX0 _ (w64 (zaM+(1:Int))) hs hk)))))))⟩))
 (fun hs hk=>hk))
  exact key _ _ zaM hs hk
def zkS (a:web):List step :=
  (zsN a (0:Int))
def zu3 (a:web):Bool :=
  (zsO a (0:Int))
theorem zPQ (l:Nat) (a:web) (ys:List (List PA)) (hs:zu3 a=true) (hk:ys=(zkS a).map (λ y=>[.agg (zaG y)])):vcIter Tryd.prog zKY zjf 110 l [.one (.fp [.fp (zaC a) 0] 0)] ys:=by
  refine zaS (zCO l a ys) ?_
  unfold zu3 at hs
  unfold zkS at hk
  exact (zCP l a _ (0:Int) hs hk)
def zo8 : List PA → Option (Prop × List (List PA))
  | [.one (.fp [.fp [.int .i64 a_Net_Nodes,.sl a_Net_Ties_n a_Net_Ties_s a_Net_Ties_g,.fm a_out_q a_out_n a_out_F] 0] 0)]=>some (IsE enc_40 4 a_Net_Ties_s a_Net_Ties_g/\a_out_q=(false,1,false,[none])/\zu3 (⟨(⟨a_Net_Nodes,(⟨a_Net_Ties_n,zal a_Net_Ties_g⟩:(Sl Tie))⟩:Net),(⟨a_out_n,a_out_F⟩:Mp)⟩:web)=true,(zkS (⟨(⟨a_Net_Nodes,(⟨a_Net_Ties_n,zal a_Net_Ties_g⟩:(Sl Tie))⟩:Net),(⟨a_out_n,a_out_F⟩:Mp)⟩:web)).map λ y=>[.agg (zaG y)])
  | _=>none
theorem zGn:zar Tryd.prog 110:=⟨_,rfl,rfl,by kernel_rfl⟩
theorem zuQ:zBX Tryd.prog 110 zo8:=zEi zKX zGn λ l caps safe ys h hs=>by
  unfold zo8 at h
  split at h
  · rename_i a_Net_Nodes a_Net_Ties_n a_Net_Ties_s a_Net_Ties_g a_out_q a_out_n a_out_F
    cases h
    obtain⟨⟨rfl,a_Net_Ties_f,rfl⟩,rfl,hs⟩:=hs
    try rw[zaj a_Net_Ties_f] at hs
    try rw[zaj a_Net_Ties_f]
    exact⟨λ _ _=>[],λ _=>false,zjf,zPQ l (⟨(⟨a_Net_Nodes,(⟨a_Net_Ties_n,a_Net_Ties_f⟩:(Sl Tie))⟩:Net),(⟨a_out_n,a_out_F⟩:Mp)⟩:web) _ hs rfl⟩
  · cases h
abbrev T88:Tabs:=((Tabs.nil.addF 93 zo6).addI 110 zo8)
theorem zNI:TabsOk Tryd.prog T88:=((TabsOk.nil.addF zJX).addI zuQ)
abbrev G88:Ctrs:=csm T88 (λ _ _=>[]) (λ _=>false)
def zwV:Ann:=⟨37,[(0,zK [0] []),(1,zK [0,3] [3]),(2,zK [0,3,11,12] [3]),(3,zK [0,3,11,12,13] [3]),(4,zK [0,3,4,11,12] [3,4]),(5,zK [0,3,4,11,12,15] [3,4]),(6,zK [0,3,4,5,11,12,15] [3,4,5]),(7,zK [0,3,4,5,6,11,12,15] [3,4,5]),(8,zK [0,3,4,5,6,11,12,15,29] [3,4,5]),(9,zK [0,3,4,11,12,15] [3,4]),(10,zK [0,3,4,11,12,15] [3,4]),(11,zK [0,3,11,12,35] [3]),(12,zK [2] []),(13,zK [0,3,11,12] [3]),(14,zK [2] [])],
 [(3,zK [0,3,11,12] [3]),(6,zK [0,3,4,11,12,15] [3,4])],
 [],
 [],[]⟩
abbrev R88:=Bool
abbrev e88 (r:R88):List PA:=[.one (.bool r)]
@[irreducible] def z88:=ptF Tryd.prog G88 zwV Tryd.f88
@[irreducible] def x88:=exF Tryd.prog G88 zwV Tryd.f88
@[irreducible] def y88:=rnF Tryd.prog G88 zwV Tryd.f88
def zEm (w:web) (zb6:Int) (dt0:Tab):St:=⟨[(0,zP (.fp (zaC w) 0)),(3,zp 3 0),(11,zI w.Net.Nodes),(12,zI zb6)],[(3,.box 157 (zm (zwK dt0)))],[]⟩
abbrev zGo (K:List PA->Prop) (w:web) (X:St->Prop) (P:Int->Tab->Bool) (S:Int->Tab->Bool):Prop:=∀ ⦃zb6:Int⦄ ⦃dt0:Tab⦄,P zb6 dt0=true->K (e88 (S zb6 dt0))->X (zEm w zb6 dt0)
def zwW (w:web) (zb7:Int) (zaK:Bool) (dt1:Tab):St:=⟨[(0,zP (.fp (zaC w) 0)),(3,zp 3 0),(4,zp 4 0),(11,zI w.Net.Nodes),(12,zI zb7),(15,zP (.fn 110 [] [.fp [.fp (zaC w) 0] 0]))],[(3,.box 157 (zm (zwK dt1))),(4,.box 4 [.p (.bool zaK)])],[]⟩
abbrev zKZ (K:List PA->Prop) (w:web) (X:St->Prop) (P:Int->Bool->Tab->Bool) (S:Int->Bool->Tab->Bool):Prop:=∀ ⦃zb7:Int⦄ ⦃zaK:Bool⦄ ⦃dt1:Tab⦄,P zb7 zaK dt1=true->K (e88 (S zb7 zaK dt1))->X (zwW w zb7 zaK dt1)
section
variable {K:List PA->Prop}{w:web}{zb6:Int}{dt0:Tab}{X0:St->Prop}{P0:Int->Tab->Bool}{S0:Int->Tab->Bool}{zb7:Int}{zaK:Bool}{dt1:Tab}
def zm8 (S0:Int->Tab->Bool) (w:web) (zb7:Int) (zaK:Bool) (dt1:Tab):Bool :=
  (cond (!zaK)
 false
 (S0 (w64 (zb7+(1:Int))) dt1))
def zm9 (P0:Int->Tab->Bool) (w:web) (zb7:Int) (zaK:Bool) (dt1:Tab):Bool :=
  (cond (!zaK)
 true
 (P0 (w64 (zb7+(1:Int))) dt1))
def zna (S0:Int->Tab->Bool) (w:web) (y1:step) (S1:Int->Bool->Tab->Bool) (zb7:Int) (zaK:Bool) (dt1:Tab):Bool :=
  (cond (decide ((w64 ((tg 40 dt1 (0 + y1.from_.toNat * 1 + 0)) + y1.length)) < (tg 40 dt1 (0 + y1.to.toNat * 1 + 0))))
 (S1 zb7 true (ts 40 dt1 (0+y1.to.toNat * 1+0) [(w64 ((tg 40 dt1 (0+y1.from_.toNat * 1+0))+y1.length))]))
 (S1 zb7 zaK dt1))
def znb (P0:Int->Tab->Bool) (w:web) (y1:step) (P1:Int->Bool->Tab->Bool) (zb7:Int) (zaK:Bool) (dt1:Tab):Bool :=
  (decide ((0<=y1.from_/\y1.from_ < (40:Int))) &&
 (decide ((0<=y1.to/\y1.to < (40:Int))) &&
 (cond (decide ((w64 ((tg 40 dt1 (0 + y1.from_.toNat * 1 + 0)) + y1.length)) < (tg 40 dt1 (0 + y1.to.toNat * 1 + 0))))
 (decide ((0<=y1.to/\y1.to < (40:Int))) &&
 (P1 zb7 true (ts 40 dt1 (0+y1.to.toNat * 1+0) [(w64 ((tg 40 dt1 (0+y1.from_.toNat * 1+0))+y1.length))])))
 (P1 zb7 zaK dt1))))
def zfV (S0:Int->Tab->Bool) (w:web):List step->Int->Bool->Tab->Bool:=lpR (zm8 S0 w) (zna S0 w)
def zfW (P0:Int->Tab->Bool) (w:web):List step->Int->Bool->Tab->Bool:=lpR (zm9 P0 w) (znb P0 w)
def zqu (S0:Int->Tab->Bool) (w:web) (zb7:Int) (zaK:Bool) (dt1:Tab):Bool:=zfV S0 w (zkS w) zb7 zaK dt1
def zqv (P0:Int->Tab->Bool) (w:web) (zb7:Int) (zaK:Bool) (dt1:Tab):Bool:=decide ((zu3 w=true)) && zfW P0 w (zkS w) zb7 zaK dt1
theorem zGp (hX0:zGo K w X0 P0 S0) (hs:zqv P0 w zb7 zaK dt1=true) (hk:K (e88 (zqu S0 w zb7 zaK dt1))):z88 K [1,1,0,1,0,0,1,1,0,0,1,0,1,0] [X0] (zwW w zb7 zaK dt1) :=
  zaO hs λ hc hs=>zr (enc:=(λ y:step=>[.agg (zaG y)])) (ys:=zkS w) (g:=(zwW w zb7 zaK dt1)) (x88 K [1,1,0,1,0,0,1,1,0,0,1,0,1,0] [X0]) (y88 K [1,1,0,1,0,0,1,1,0,0,1,0,1,0] [X0]) (by kernel_rfl) (And.intro (zE enc_40 4 w.Net.Ties.get) (And.intro (rfl:((false,1,false,[none]):MQ)=(false,1,false,[none])) hc)) λ X1 hE hR =>
  (show ∀ l : List step, zKZ K w (X1 (l.map (λ y : step => [.agg (zaG y)]))) (zfW P0 w l) (zfV S0 w l) from zri (X := X1) (enc := (λ y : step => [.agg (zaG y)])) _ _ (znb P0 w) (zna S0 w) (λ Z P S => zKZ K w Z P S)
 (by intro zb7 zaK dt1 hs hk;exact hE _ (zaS (by kernel_rfl) (zc hs hk (λ hs hk=>hk) (λ hs hk=>(hX0 hs hk)))))
 (by intro y1 rest P1 S1 hX1 zb7 zaK dt1 hs hk;exact hR _ rest _ (zaS (by kernel_rfl) (zaO hs λ hc hs=>And.intro hc (zaO hs λ hc hs=>And.intro hc (zc hs hk (λ hs hk=>(zaO hs λ hc hs=>And.intro hc (hX1 hs hk))) (λ hs hk=>(hX1 hs hk)))))))) _ hs hk
def zis (w:web) (S0:Int->Tab->Bool) (zb6:Int) (dt0:Tab):Bool :=
  (cond (decide (zb6 < w.Net.Nodes))
 (zqu S0 w zb6 false dt0)
 true)
def zit (w:web) (P0:Int->Tab->Bool) (zb6:Int) (dt0:Tab):Bool :=
  (cond (decide (zb6 < w.Net.Nodes))
 (zqv P0 w zb6 false dt0)
 true)
def ziu (w:web):Nat->Int->Tab->Bool:=lpO (λ _ _=>default) (zis w)
def ziv (w:web):Nat->Int->Tab->Bool:=lpO (λ _ _=>false) (zit w)
def zwX (w:web) (zb6:Int) (dt0:Tab):Bool:=ziu w Fuel zb6 dt0
def zwY (w:web) (zb6:Int) (dt0:Tab):Bool:=ziv w Fuel zb6 dt0
theorem zGq (hs:zwY w zb6 dt0=true) (hk:K (e88 (zwX w zb6 dt0))):z88 K [1,1,0,1,0] [] (zEm w zb6 dt0) :=
  zl (λ X=>z88 K [1,1,0,1,0,0] [X]) (by kernel_rfl) λ X0 hX =>
  (show ∀ k, zGo K w X0 (ziv w k) (ziu w k) from zd0 _ _ (zit w) (zis w) (zGo K w X0)
 (by intro _ _ hs;exact absurd hs dqk)
 (by intro P0 S0 hX0 zb6 dt0 hs hk;exact hX _ (zaS (by kernel_rfl) (zc hs hk (λ hs hk=>(And.intro (And.intro (zE enc_40 4 w.Net.Ties.get) (rfl:((false,1,false,[none]):MQ)=(false,1,false,[none]))) (zGp hX0 hs hk))) (λ hs hk=>hk))))) _ hs hk
def s88 (w:web):Bool :=
  (zwX w (0:Int) (λ _=>(0:Int)))
def p88 (w:web):Bool :=
  (zwY w (0:Int) (λ _=>(0:Int)))
end
theorem q88 (w:web) (K:List PA->Prop) (hs:p88 w=true) (hk:K (e88 (s88 w))):vcFun Tryd.prog G88 zwV 88 [.one (.fp (zaC w) 0)] K :=
  zaS (by kernel_rfl) (zGq hs hk)
def zwZ : List PA → COut
  | [.one (.fp [.int .i64 zam,.sl zah zaA zai,.fm za3 zaD zaE] 0)]=>.det (IsE enc_40 4 zaA zai/\za3=(false,1,false,[none])/\p88 (⟨(⟨zam,(⟨zah,zal zai⟩:(Sl Tie))⟩:Net),(⟨zaD,zaE⟩:Mp)⟩:web)=true) [.one (.bool (s88 (⟨(⟨zam,(⟨zah,zal zai⟩:(Sl Tie))⟩:Net),(⟨zaD,zaE⟩:Mp)⟩:web)))]
  | _=>.no
theorem zK1:zar Tryd.prog 88:=⟨_,rfl,rfl,by kernel_rfl⟩
theorem zNJ:Ok Tryd.prog 88 zwZ:=zbc zNI zK1 λ args K h=>by
  unfold zwZ at h
  split at h
  · rename_i zam zah zaA zai za3 zaD zaE
    obtain⟨⟨⟨rfl,zas,rfl⟩,rfl,hs⟩,hk⟩:=h
    try rw[zaj zas] at hs
    try rw[zaj zas] at hk
    exact⟨(λ _ _=>[]),(λ _=>false),zwV,q88 (⟨(⟨zam,(⟨zah,zas⟩:(Sl Tie))⟩:Net),(⟨zaD,zaE⟩:Mp)⟩:web) K hs hk⟩
  · exact h.elim
abbrev zPh:Tabs:=Tabs.nil
theorem zK2:TabsOk Tryd.prog zPh:=TabsOk.nil
abbrev zPR:Ctrs:=csm zPh (λ _ _=>[]) (λ _=>false)
def zEn:Ann:=⟨24,[(0,zK [2,3] [2,3]),(1,zK [4] [])],
 [],
 [],
 [],[]⟩
abbrev zPS:=Bool
abbrev zPT (r:zPS):List PA:=[.one (.bool r)]
section
variable {K:List PA->Prop}{a:far}{b:far}
def zCQ (a:far) (b:far):Bool :=
  (cond (decide (a.length < b.length))
 true
 (cond (a.length == b.length)
 (decide (a.uses < b.uses))
 false))
end
theorem zPU (a:far) (b:far) (K:List PA->Prop) (hk:K (zPT (zCQ a b))):vcFun Tryd.prog zPR zEn 105 [.agg (zci a),.agg (zci b)] K :=
  zaS (by kernel_rfl) (zt hk (λ hk=>hk) (λ hk=>(zt hk (λ hk=>hk) (λ hk=>hk))))
def zw0 : List PA → COut
  | [.agg [.int .i64 zcm,.int .i64 zqw],.agg [.int .i64 zbW,.int .i64 zfm]]=>.tot [.one (.bool (zCQ (⟨zcm,zqw⟩:far) (⟨zbW,zfm⟩:far)))]
  | _=>.no
theorem zGr:zar Tryd.prog 105:=⟨_,rfl,rfl,by kernel_rfl⟩
theorem zNK:Ok Tryd.prog 105 zw0:=zbc zK2 zGr λ args K h=>by
  unfold zw0 at h
  split at h
  · rename_i zcm zqw zbW zfm
    have hk:=h
    exact⟨(λ _ _=>[]),(λ _=>false),zEn,zPU (⟨zcm,zqw⟩:far) (⟨zbW,zfm⟩:far) K hk⟩
  · exact h.elim
abbrev zPi:Tabs:=(Tabs.nil.addF 105 zw0)
theorem zK3:TabsOk Tryd.prog zPi:=(TabsOk.nil.addF zNK)
abbrev zPj:Ctrs:=csm zPi (λ _ _=>[]) (λ _=>false)
def zw1:Ann:=⟨22,[(0,zK [0,2,4,6] [4,6]),(1,zK [0,4,6,9,10,11] [4,6]),(2,zK [0,4,6,9,10,11,12] [4,6]),(3,zK [0,4,6,8,9,10,11] [4,6,8]),(4,zK [0,4,6,8,9,10,11,18] [4,6,8]),(5,zK [0,4,6,9,10,11] [4,6]),(6,zK [0,4,6,9,10,11] [4,6]),(7,zK [6] [6])],
 [(2,zK [0,4,6,9,10,11] [4,6])],
 [(5,zK [0,4,6,8,9,10,11,18] [4,6,8])],
 [],[]⟩
abbrev zPV:=far
abbrev zNd (r:zPV):List PA:=[.agg [.int .i64 r.length,.int .i64 r.uses]]
@[irreducible] def z104:=ptF Tryd.prog zPj zw1 Tryd.f104
def zw2 (others:(Sl far)) (zaX:Int) (zbi:Int) (zbj:Int):St:=⟨[(0,zP (.fn 105 [] [])),(4,zp 4 0),(6,zp 6 0),(9,zS zci 2 others),(10,zI (others.len:Int)),(11,zI zaX)],[(4,.box 114 (zm (zci (⟨zbi,zbj⟩:far)))),(6,.box 114 (zm (zci (⟨(0:Int),(0:Int)⟩:far))))],[]⟩
abbrev zw3 (K:List PA->Prop) (others:(Sl far)) (X:St->Prop) (P:Int->Int->Int->Bool) (S:Int->Int->Int->far):Prop:=∀ ⦃zaX:Int⦄ ⦃zbi:Int⦄ ⦃zbj:Int⦄,P zaX zbi zbj=true->K (zNd (S zaX zbi zbj))->X (zw2 others zaX zbi zbj)
section
variable {K:List PA->Prop}{first:far}{others:(Sl far)}{zaX:Int}{zbi:Int}{zbj:Int}{X0:St->Prop}{P0:Int->Int->Int->Bool}{S0:Int->Int->Int->far}{zcN:Int}{zde:Bool}{zea:Int}{zeb:Int}{zqx:Int}{zqy:Int}
def znc (S0:Int->Int->Int->far) (others:(Sl far)) (zcN:Int) (zde:Bool) (zea:Int) (zeb:Int) (zqx:Int) (zqy:Int):far :=
  (cond zde
 (S0 (w64 (zcN+(1:Int))) zqx zqy)
 (S0 (w64 (zcN+(1:Int))) zea zeb))
def znd (P0:Int->Int->Int->Bool) (others:(Sl far)) (zcN:Int) (zde:Bool) (zea:Int) (zeb:Int) (zqx:Int) (zqy:Int):Bool :=
  (cond zde
 (P0 (w64 (zcN+(1:Int))) zqx zqy)
 (P0 (w64 (zcN+(1:Int))) zea zeb))
theorem zCR (hX0:zw3 K others X0 P0 S0) (hs:znd P0 others zcN zde zea zeb zqx zqy=true) (hk:K (zNd (znc S0 others zcN zde zea zeb zqx zqy))):z104 K [1,0,1,0,0,1,1,0,0,1,1] [X0] ⟨[(0,zP (.fn 105 [] [])),(4,zp 4 0),(6,zp 6 0),(8,zp 8 0),(9,zS zci 2 others),(10,zI (others.len:Int)),(11,zI zcN),(18,zB zde)],[(4,.box 114 (zm (zci (⟨zea,zeb⟩:far)))),(6,.box 114 (zm (zci (⟨(0:Int),(0:Int)⟩:far)))),(8,.box 114 (zm (zci (⟨zqx,zqy⟩:far))))],[]⟩:=zaS (by kernel_rfl) (zc hs hk (λ hs hk=>(hX0 hs hk)) (λ hs hk=>(hX0 hs hk)))
def zgA (others:(Sl far)) (S0:Int->Int->Int->far) (zaX:Int) (zbi:Int) (zbj:Int):far :=
  (cond (decide (zaX < (others.len : Int)))
 (znc S0 others zaX (zCQ (others.get zaX.toNat) (⟨zbi,zbj⟩:far)) zbi zbj ((others.get zaX.toNat).length) ((others.get zaX.toNat).uses))
 (⟨zbi,zbj⟩:far))
def zgB (others:(Sl far)) (P0:Int->Int->Int->Bool) (zaX:Int) (zbi:Int) (zbj:Int):Bool :=
  (cond (decide (zaX < (others.len : Int)))
 (decide ((0<=zaX/\zaX < (others.len:Int))) &&
 (znd P0 others zaX (zCQ (others.get zaX.toNat) (⟨zbi,zbj⟩:far)) zbi zbj ((others.get zaX.toNat).length) ((others.get zaX.toNat).uses)))
 true)
def zgC (others:(Sl far)):Nat->Int->Int->Int->far:=lpO (λ _ _ _=>default) (zgA others)
def zgD (others:(Sl far)):Nat->Int->Int->Int->Bool:=lpO (λ _ _ _=>false) (zgB others)
def zne (others:(Sl far)) (zaX:Int) (zbi:Int) (zbj:Int):far:=zgC others Fuel zaX zbi zbj
def znf (others:(Sl far)) (zaX:Int) (zbi:Int) (zbj:Int):Bool:=zgD others Fuel zaX zbi zbj
theorem zCS (hs:znf others zaX zbi zbj=true) (hk:K (zNd (zne others zaX zbi zbj))):z104 K [1,0,1,0] [] (zw2 others zaX zbi zbj) :=
  zl (λ X=>z104 K [1,0,1,0,0] [X]) (by kernel_rfl) λ X0 hX =>
  (show ∀ k, zw3 K others X0 (zgD others k) (zgC others k) from zd0 _ _ (zgB others) (zgA others) (zw3 K others X0)
 (by intro _ _ _ hs;exact absurd hs dqk)
 (by intro P0 S0 hX0 zaX zbi zbj hs hk;exact hX _ (zaS (by kernel_rfl) (zc hs hk (λ hs hk=>(zaO hs λ hc hs=>And.intro hc (zCR hX0 hs hk))) (λ hs hk=>hk))))) _ hs hk
def zdV (first:far) (others:(Sl far)):far :=
  (zne others (0:Int) first.length first.uses)
def zEo (first:far) (others:(Sl far)):Bool :=
  (znf others (0:Int) first.length first.uses)
end
theorem zPW (first:far) (others:(Sl far)) (K:List PA->Prop) (hs:zEo first others=true) (hk:K (zNd (zdV first others))):vcFun Tryd.prog zPj zw1 104 [.one (.fn 105 [] []),.agg (zci first),.one (.sl others.len 2 (λ i=>zci (others.get i)))] K :=
  zaS (by kernel_rfl) (zCS hs hk)
def zo9 : List PA → COut
  | [.one (.fn 105 [] []),.agg [.int .i64 zbW,.int .i64 zfm],.one (.sl zK4 zPk zK5)]=>.det (IsE zci 2 zPk zK5/\zEo (⟨zbW,zfm⟩:far) (⟨zK4,zjG zK5⟩:(Sl far))=true) [.agg [.int .i64 ((zdV (⟨zbW,zfm⟩:far) (⟨zK4,zjG zK5⟩:(Sl far))).length),.int .i64 ((zdV (⟨zbW,zfm⟩:far) (⟨zK4,zjG zK5⟩:(Sl far))).uses)]]
  | _=>.no
theorem zGs:zar Tryd.prog 104:=⟨_,rfl,rfl,by kernel_rfl⟩
theorem zGt:Ok Tryd.prog 104 zo9:=zbc zK3 zGs λ args K h=>by
  unfold zo9 at h
  split at h
  · rename_i zbW zfm zK4 zPk zK5
    obtain⟨⟨⟨rfl,zNL,rfl⟩,hs⟩,hk⟩:=h
    try rw[zjd zNL] at hs
    try rw[zjd zNL] at hk
    exact⟨(λ _ _=>[]),(λ _=>false),zw1,zPW (⟨zbW,zfm⟩:far) (⟨zK4,zNL⟩:(Sl far)) K hs hk⟩
  · exact h.elim
abbrev zPl:Tabs:=(((Tabs.nil.addF 93 zo6).addF 104 zo9).addI 110 zo8)
theorem zK6:TabsOk Tryd.prog zPl:=(((TabsOk.nil.addF zJX).addF zGt).addI zuQ)
abbrev zNe:Ctrs:=csm zPl (λ _ _=>[]) (λ _=>false)
def zpa:Ann:=⟨91,[(0,zK [0,2,4] [4]),(1,zK [0,2,4,7] [4,7,15]),(2,zK [0,2,4,7,17,18] [4,7,15]),(3,zK [0,2,4,7,17,18,19] [4,7,15]),(4,zK [0,2,4,7,8,17,18] [4,7,15]),(5,zK [0,2,4,7,8,17,18,21] [4,7,15]),(6,zK [0,2,4,7,8,17,18,21,22] [4,7,15]),(7,zK [0,2,4,7,8,9,17,18,21] [4,7,15]),(8,zK [0,2,4,7,8,17,18,21] [4,7,15]),(9,zK [0,2,4,7,8,17,18,21] [4,7,15]),(10,zK [0,2,4,7,17,18] [4,7,15]),(11,zK [0,2,4,7] [4,7,15]),(12,zK [0,2,4,7,10] [4,7,10,15]),(13,zK [0,2,4,7,10,39] [4,7,10,15]),(14,zK [0,2,4,7,10] [4,7,10,15]),(15,zK [0,2,4,7,10,43] [4,7,10,15]),(16,zK [0,2,4,7,10,11,43] [4,7,10,11,15]),(17,zK [0,2,4,7,10,11,12,43] [4,7,10,11,12,15]),(18,zK [0,2,4,7,10,11,12,43,67] [4,7,10,11,12,15]),(19,zK [0,2,4,7,10,43] [4,7,10,15]),(20,zK [0,2,4,7,89] [4,7,15]),(21,zK [0,2,4,7,10] [4,7,10,15]),(22,zK [6] [15])],
 [(3,zK [0,2,4,7,17,18] [4,7,15]),(6,zK [0,2,4,7,8,17,18,21] [4,7,15]),(13,zK [0,2,4,7,10] [4,7,10,15]),(16,zK [0,2,4,7,10,43] [4,7,10,15])],
 [(11,zK [0,2,4,7] [4,7,15])],
 [],[]⟩
abbrev zPX:=(Sl Tab)
abbrev zBM (r:zPX):List PA:=[.one (.sl r.len 80 (λ i=>zao (r.get i)))]
@[irreducible] def z106:=ptF Tryd.prog zNe zpa Tryd.f106
@[irreducible] def x106:=exF Tryd.prog zNe zpa Tryd.f106
@[irreducible] def y106:=rnF Tryd.prog zNe zpa Tryd.f106
def zw4 (w:web) (node:Int) (uses:Int) (zej:Int) (zek:(Sl Tab)) (zfX:Nat->List PV):St:=⟨[(0,zP (.fp (zaC w) 0)),(2,zI uses),(4,zp 4 0),(7,zp 7 0),(17,zI ((w64 (uses+(1:Int))).toNat:Int)),(18,zI zej)],[(4,.box 3 [zi node]),(7,.box 159 [.vec 15]),(15,.vec 116 80 640 zek.len zfX)],[]⟩
abbrev zw5 (K:List PA->Prop) (w:web) (node:Int) (uses:Int) (X:St->Prop) (P:Int->(Sl Tab)->Bool) (S:Int->(Sl Tab)->(Sl Tab)):Prop:=∀ ⦃zej:Int⦄ ⦃zek:(Sl Tab)⦄ ⦃zfX:Nat->List PV⦄,P zej zek=true->K (zBM (S zej zek))->zfX=zg zao zek->X (zw4 w node uses zej zek zfX)
def zw6 (w:web) (node:Int) (uses:Int) (iv1:Int) (zde:Int) (zdA:Int) (zbv:(Sl Tab)) (zcB:Nat->List PV):St:=⟨[(0,zP (.fp (zaC w) 0)),(2,zI uses),(4,zp 4 0),(7,zp 7 0),(8,zI iv1),(17,zI ((w64 (uses+(1:Int))).toNat:Int)),(18,zI zde),(21,zI zdA)],[(4,.box 3 [zi node]),(7,.box 159 [.vec 15]),(15,.vec 116 80 640 zbv.len zcB)],[]⟩
abbrev zEp (K:List PA->Prop) (w:web) (node:Int) (uses:Int) (X:St->Prop) (P:Int->Int->Int->(Sl Tab)->Bool) (S:Int->Int->Int->(Sl Tab)->(Sl Tab)):Prop:=∀ ⦃iv1:Int⦄ ⦃zde:Int⦄ ⦃zdA:Int⦄ ⦃zbv:(Sl Tab)⦄ ⦃zcB:Nat->List PV⦄,P iv1 zde zdA zbv=true->K (zBM (S iv1 zde zdA zbv))->zcB=zg zao zbv->X (zw6 w node uses iv1 zde zdA zbv zcB)
def zw7 (w:web) (node:Int) (uses:Int) (kv3:Int) (zb0:(Sl Tab)) (zcC:Nat->List PV):St:=⟨[(0,zP (.fp (zaC w) 0)),(2,zI uses),(4,zp 4 0),(7,zp 7 0),(10,zp 10 0)],[(4,.box 3 [zi node]),(7,.box 159 [.vec 15]),(10,.box 3 [zi kv3]),(15,.vec 116 80 640 zb0.len zcC)],[]⟩
abbrev zw8 (K:List PA->Prop) (w:web) (node:Int) (uses:Int) (X:St->Prop) (P:Int->(Sl Tab)->Bool) (S:Int->(Sl Tab)->(Sl Tab)):Prop:=∀ ⦃kv3:Int⦄ ⦃zb0:(Sl Tab)⦄ ⦃zcC:Nat->List PV⦄,P kv3 zb0=true->K (zBM (S kv3 zb0))->zcC=zg zao zb0->X (zw7 w node uses kv3 zb0 zcC)
def zqz (w:web) (node:Int) (uses:Int) (kv4:Int) (zaN:(Sl Tab)) (zcj:Nat->List PV):St:=⟨[(0,zP (.fp (zaC w) 0)),(2,zI uses),(4,zp 4 0),(7,zp 7 0),(10,zp 10 0),(43,zP (.fn 110 [] [.fp [.fp (zaC w) 0] 0]))],[(4,.box 3 [zi node]),(7,.box 159 [.vec 15]),(10,.box 3 [zi kv4]),(15,.vec 116 80 640 zaN.len zcj)],[]⟩
abbrev zEq (K:List PA->Prop) (w:web) (node:Int) (uses:Int) (X:St->Prop) (P:Int->(Sl Tab)->Bool) (S:Int->(Sl Tab)->(Sl Tab)):Prop:=∀ ⦃kv4:Int⦄ ⦃zaN:(Sl Tab)⦄ ⦃zcj:Nat->List PV⦄,P kv4 zaN=true->K (zBM (S kv4 zaN))->zcj=zg zao zaN->X (zqz w node uses kv4 zaN zcj)
section
variable {K:List PA->Prop}{w:web}{node:Int}{uses:Int}{zej:Int}{zek:(Sl Tab)}{zfX:Nat->List PV}{X0:St->Prop}{P0:Int->(Sl Tab)->Bool}{S0:Int->(Sl Tab)->(Sl Tab)}{iv1:Int}{zde:Int}{zdA:Int}{zbv:(Sl Tab)}{zcB:Nat->List PV}{X1:St->Prop}{P1:Int->Int->Int->(Sl Tab)->Bool}{S1:Int->Int->Int->(Sl Tab)->(Sl Tab)}{zc0:(Sl Tab)}{zkT:Nat->List PV}{kv3:Int}{zb0:(Sl Tab)}{zcC:Nat->List PV}{X3:St->Prop}{P3:Int->(Sl Tab)->Bool}{S3:Int->(Sl Tab)->(Sl Tab)}{kv4:Int}{zaN:(Sl Tab)}{zcj:Nat->List PV}
def zCT (S3:Int->(Sl Tab)->(Sl Tab)) (w:web) (node:Int) (uses:Int) (kv4:Int) (zaN:(Sl Tab)):(Sl Tab) :=
  (S3 (w64 (kv4+(1:Int))) zaN)
def zCU (P3:Int->(Sl Tab)->Bool) (w:web) (node:Int) (uses:Int) (kv4:Int) (zaN:(Sl Tab)):Bool :=
  (P3 (w64 (kv4+(1:Int))) zaN)
def zsP (S3:Int->(Sl Tab)->(Sl Tab)) (w:web) (node:Int) (uses:Int) (y4:step) (S4:Int->(Sl Tab)->(Sl Tab)) (kv4:Int) (zaN:(Sl Tab)):(Sl Tab) :=
  (cond (decide (y4.from_ >= node))
 (cond (decide (y4.to >= node))
 (cond (!(nvr (tg 80 (zaN.get ((w64 (kv4 - (1:Int))).toNat)) (0 + y4.to.toNat * 2 + 0)) (tg 80 (zaN.get ((w64 (kv4 - (1:Int))).toNat)) (0 + y4.to.toNat * 2 + 0 + 1))))
 (S4 kv4 (⟨zaN.len,(setT kv4.toNat (ts 80 (zaN.get kv4.toNat) (0+y4.from_.toNat * 2+0) [(zdV (⟨(tL (zaN.get kv4.toNat) y4.from_),(tU (zaN.get kv4.toNat) y4.from_)⟩:far) (⟨1,λ _=>(⟨(w64 ((tg 80 (zaN.get ((w64 (kv4 - (1:Int))).toNat)) (0+y4.to.toNat * 2+0))+y4.length)),(0:Int)⟩:far)⟩:(Sl far))).length,(zdV (⟨(tL (zaN.get kv4.toNat) y4.from_),(tU (zaN.get kv4.toNat) y4.from_)⟩:far) (⟨1,λ _=>(⟨(w64 ((tg 80 (zaN.get ((w64 (kv4 - (1:Int))).toNat)) (0+y4.to.toNat * 2+0))+y4.length)),(0:Int)⟩:far)⟩:(Sl far))).uses]) zaN.get)⟩:Sl Tab))
 (S4 kv4 zaN))
 (S4 kv4 zaN))
 (S4 kv4 zaN))
def zsQ (P3:Int->(Sl Tab)->Bool) (w:web) (node:Int) (uses:Int) (y4:step) (P4:Int->(Sl Tab)->Bool) (kv4:Int) (zaN:(Sl Tab)):Bool :=
  (decide ((0<=(w64 (kv4 - (1:Int)))/\(w64 (kv4 - (1:Int))) < (zaN.len:Int))) &&
 (decide ((0<=y4.to/\y4.to < (40:Int))) &&
 (decide (((w64 (kv4 - (1:Int))).toNat < zaN.len)) &&
 (cond (decide (y4.from_ >= node))
 (cond (decide (y4.to >= node))
 (cond (!(nvr (tg 80 (zaN.get ((w64 (kv4 - (1:Int))).toNat)) (0 + y4.to.toNat * 2 + 0)) (tg 80 (zaN.get ((w64 (kv4 - (1:Int))).toNat)) (0 + y4.to.toNat * 2 + 0 + 1))))
 (decide ((0<=kv4/\kv4 < (zaN.len:Int))) &&
 (decide ((0<=y4.from_/\y4.from_ < (40:Int))) &&
 (decide ((kv4.toNat < zaN.len)) &&
 (decide ((zEo (⟨(tL (zaN.get kv4.toNat) y4.from_),(tU (zaN.get kv4.toNat) y4.from_)⟩:far) (⟨1,λ _=>(⟨(w64 ((tg 80 (zaN.get ((w64 (kv4 - (1:Int))).toNat)) (0+y4.to.toNat * 2+0))+y4.length)),(0:Int)⟩:far)⟩:(Sl far))=true)) &&
 (decide ((0<=kv4/\kv4 < (zaN.len:Int))) &&
 (decide ((0<=y4.from_/\y4.from_ < (40:Int))) &&
 (decide ((kv4.toNat < zaN.len)) &&
 (P4 kv4 (⟨zaN.len,(setT kv4.toNat (ts 80 (zaN.get kv4.toNat) (0+y4.from_.toNat * 2+0) [(zdV (⟨(tL (zaN.get kv4.toNat) y4.from_),(tU (zaN.get kv4.toNat) y4.from_)⟩:far) (⟨1,λ _=>(⟨(w64 ((tg 80 (zaN.get ((w64 (kv4 - (1:Int))).toNat)) (0+y4.to.toNat * 2+0))+y4.length)),(0:Int)⟩:far)⟩:(Sl far))).length,(zdV (⟨(tL (zaN.get kv4.toNat) y4.from_),(tU (zaN.get kv4.toNat) y4.from_)⟩:far) (⟨1,λ _=>(⟨(w64 ((tg 80 (zaN.get ((w64 (kv4 - (1:Int))).toNat)) (0+y4.to.toNat * 2+0))+y4.length)),(0:Int)⟩:far)⟩:(Sl far))).uses]) zaN.get)⟩:Sl Tab)))))))))
 (P4 kv4 zaN))
 (P4 kv4 zaN))
 (P4 kv4 zaN)))))
def zsR (S3:Int->(Sl Tab)->(Sl Tab)) (w:web) (node:Int) (uses:Int):List step->Int->(Sl Tab)->(Sl Tab):=lpR (zCT S3 w node uses) (zsP S3 w node uses)
def zsS (P3:Int->(Sl Tab)->Bool) (w:web) (node:Int) (uses:Int):List step->Int->(Sl Tab)->Bool:=lpR (zCU P3 w node uses) (zsQ P3 w node uses)
def zsU (S3:Int->(Sl Tab)->(Sl Tab)) (w:web) (node:Int) (uses:Int) (kv4:Int) (zaN:(Sl Tab)):(Sl Tab):=zsR S3 w node uses (zkS w) kv4 zaN
def zsV (P3:Int->(Sl Tab)->Bool) (w:web) (node:Int) (uses:Int) (kv4:Int) (zaN:(Sl Tab)):Bool:=decide ((zu3 w=true)) && zsS P3 w node uses (zkS w) kv4 zaN
theorem zCV (hX3:zw8 K w node uses X3 P3 S3) (hs:zsV P3 w node uses kv4 zaN=true) (hk:K (zBM (zsU S3 w node uses kv4 zaN))) (zfn:zcj=zg zao zaN):z106 K [1,1,1,1,0,1,0,0,1,0,0,1,0] [X3] (zqz w node uses kv4 zaN zcj) :=
  zaO hs λ hc hs=>zr (enc:=(λ y:step=>[.agg (zaG y)])) (ys:=zkS w) (g:=(zqz w node uses kv4 zaN zcj)) (x106 K [1,1,1,1,0,1,0,0,1,0,0,1,0] [X3]) (y106 K [1,1,1,1,0,1,0,0,1,0,0,1,0] [X3]) (by kernel_rfl) (And.intro (zE enc_40 4 w.Net.Ties.get) (And.intro (rfl:((false,1,false,[none]):MQ)=(false,1,false,[none])) hc)) λ X4 hE hR =>
  (show ∀ l : List step, zEq K w node uses (X4 (l.map (λ y : step => [.agg (zaG y)]))) (zsS P3 w node uses l) (zsR S3 w node uses l) from zri (X := X4) (enc := (λ y : step => [.agg (zaG y)])) _ _ (zsQ P3 w node uses) (zsP S3 w node uses) (λ Z P S => zEq K w node uses Z P S)
 (by intro kv4 zaN zcj hs hk zfn;subst zfn;exact hE _ (zaS (by kernel_rfl) (hX3 hs hk rfl)))
 (by intro y4 rest P4 S4 hX4 kv4 zaN zcj hs hk zfn;subst zfn;exact hR _ rest _ (zaS (by kernel_rfl) (zaO hs λ hc hs=>And.intro hc (zaO hs λ hc hs=>And.intro hc (zaO hs λ hc hs=>And.intro hc (zc hs hk (λ hs hk=>(zc hs hk (λ hs hk=>(zc hs hk (λ hs hk=>(zaO hs λ hc hs=>And.intro hc (zaO hs λ hc hs=>And.intro hc (zaO hs λ hc hs=>And.intro hc (zaO hs λ hc hs=>And.intro (And.intro (zqn:IsE zci 2 2 (λ _=>(zci (⟨(w64 ((tg 80 (zaN.get ((w64 (kv4 - (1:Int))).toNat)) (0+y4.to.toNat * 2+0))+y4.length)),(0:Int)⟩:far)))) hc) (zaO hs λ hc hs=>And.intro hc (zaO hs λ hc hs=>And.intro hc (zaO hs λ hc hs=>And.intro hc (hX4 hs hk (zfz (enc:=zao) (i:=kv4.toNat) (k:=0) (f:=zaN.get) (new:=(zao (ts 80 (zaN.get kv4.toNat) (0+y4.from_.toNat * 2+0) [(zdV (⟨(tL (zaN.get kv4.toNat) y4.from_),(tU (zaN.get kv4.toNat) y4.from_)⟩:far) (⟨1,λ _=>(⟨(w64 ((tg 80 (zaN.get ((w64 (kv4 - (1:Int))).toNat)) (0+y4.to.toNat * 2+0))+y4.length)),(0:Int)⟩:far)⟩:(Sl far))).length,(zdV (⟨(tL (zaN.get kv4.toNat) y4.from_),(tU (zaN.get kv4.toNat) y4.from_)⟩:far) (⟨1,λ _=>(⟨(w64 ((tg 80 (zaN.get ((w64 (kv4 - (1:Int))).toNat)) (0+y4.to.toNat * 2+0))+y4.length)),(0:Int)⟩:far)⟩:(Sl far))).uses]))) (v:=(ts 80 (zaN.get kv4.toNat) (0+y4.from_.toNat * 2+0) [(zdV (⟨(tL (zaN.get kv4.toNat) y4.from_),(tU (zaN.get kv4.toNat) y4.from_)⟩:far) (⟨1,λ _=>(⟨(w64 ((tg 80 (zaN.get ((w64 (kv4 - (1:Int))).toNat)) (0+y4.to.toNat * 2+0))+y4.length)),(0:Int)⟩:far)⟩:(Sl far))).length,(zdV (⟨(tL (zaN.get kv4.toNat) y4.from_),(tU (zaN.get kv4.toNat) y4.from_)⟩:far) (⟨1,λ _=>(⟨(w64 ((tg 80 (zaN.get ((w64 (kv4 - (1:Int))).toNat)) (0+y4.to.toNat * 2+0))+y4.length)),(0:Int)⟩:far)⟩:(Sl far))).uses])) rfl zm5)))))))))) (λ hs hk=>(hX4 hs hk rfl)))) (λ hs hk=>(hX4 hs hk rfl)))) (λ hs hk=>(hX4 hs hk rfl))))))))) _ hs hk zfn
def zsW (w:web) (node:Int) (uses:Int) (S3:Int->(Sl Tab)->(Sl Tab)) (kv3:Int) (zb0:(Sl Tab)):(Sl Tab) :=
  (cond (decide (kv3 <= uses))
 (zsU S3 w node uses kv3 zb0)
 zb0)
def zsX (w:web) (node:Int) (uses:Int) (P3:Int->(Sl Tab)->Bool) (kv3:Int) (zb0:(Sl Tab)):Bool :=
  (cond (decide (kv3 <= uses))
 (zsV P3 w node uses kv3 zb0)
 true)
def zsY (w:web) (node:Int) (uses:Int):Nat->Int->(Sl Tab)->(Sl Tab):=lpO (λ _ _=>default) (zsW w node uses)
def zsZ (w:web) (node:Int) (uses:Int):Nat->Int->(Sl Tab)->Bool:=lpO (λ _ _=>false) (zsX w node uses)
def zs3 (w:web) (node:Int) (uses:Int) (kv3:Int) (zb0:(Sl Tab)):(Sl Tab):=zsY w node uses Fuel kv3 zb0
def zs4 (w:web) (node:Int) (uses:Int) (kv3:Int) (zb0:(Sl Tab)):Bool:=zsZ w node uses Fuel kv3 zb0
theorem zCW (hs:zs4 w node uses kv3 zb0=true) (hk:K (zBM (zs3 w node uses kv3 zb0))) (zhc:zcC=zg zao zb0):z106 K [1,1,1,1,0,1,0] [] (zw7 w node uses kv3 zb0 zcC) :=
  zl (λ X=>z106 K [1,1,1,1,0,1,0,0] [X]) (by kernel_rfl) λ X3 hX =>
  (show ∀ k, zw8 K w node uses X3 (zsZ w node uses k) (zsY w node uses k) from zd0 _ _ (zsX w node uses) (zsW w node uses) (zw8 K w node uses X3)
 (by intro _ _ _ hs;exact absurd hs dqk)
 (by intro P3 S3 hX3 kv3 zb0 zcC hs hk zhc;subst zhc;exact hX _ (zaS (by kernel_rfl) (zc hs hk (λ hs hk=>(And.intro (And.intro (zE enc_40 4 w.Net.Ties.get) (rfl:((false,1,false,[none]):MQ)=(false,1,false,[none]))) (zCV hX3 hs hk rfl))) (λ hs hk=>hk))))) _ hs hk zhc
def zs5 (w:web) (node:Int) (uses:Int) (zc0:(Sl Tab)):(Sl Tab) :=
  (zs3 w node uses (1:Int) (⟨zc0.len,(setT 0 (ts 80 (zc0.get 0) (0+node.toNat * 2+0) [(0:Int),(0:Int)]) zc0.get)⟩:Sl Tab))
def zs6 (w:web) (node:Int) (uses:Int) (zc0:(Sl Tab)):Bool :=
  (decide ((0<=(0:Int)/\(0:Int) < (zc0.len:Int))) &&
 (decide ((0<=node/\node < (40:Int))) &&
 (decide ((0 < zc0.len)) &&
 (zs4 w node uses (1:Int) (⟨zc0.len,(setT 0 (ts 80 (zc0.get 0) (0+node.toNat * 2+0) [(0:Int),(0:Int)]) zc0.get)⟩:Sl Tab)))))
theorem zCX (hs:zs6 w node uses zc0=true) (hk:K (zBM (zs5 w node uses zc0))) (zqA:zkT=zg zao zc0):z106 K [1,1,1] [] ⟨[(0,zP (.fp (zaC w) 0)),(2,zI uses),(4,zp 4 0),(7,zp 7 0)],[(4,.box 3 [zi node]),(7,.box 159 [.vec 15]),(15,.vec 116 80 640 zc0.len zkT)],[]⟩:=by subst zqA;exact zaS (by kernel_rfl) (zaO hs λ hc hs=>And.intro hc (zaO hs λ hc hs=>And.intro hc (zaO hs λ hc hs=>And.intro hc (zCW hs hk (zfz (enc:=zao) (i:=0) (k:=0) (f:=zc0.get) (new:=(zao (ts 80 (zc0.get 0) (0+node.toNat * 2+0) [(0:Int),(0:Int)]))) (v:=(ts 80 (zc0.get 0) (0+node.toNat * 2+0) [(0:Int),(0:Int)])) rfl zm5)))))
def zs7 (S0:Int->(Sl Tab)->(Sl Tab)) (w:web) (node:Int) (uses:Int) (S1:Int->Int->Int->(Sl Tab)->(Sl Tab)) (iv1:Int) (zde:Int) (zdA:Int) (zbv:(Sl Tab)):(Sl Tab) :=
  (cond (decide (zdA < (40:Int)))
 (S1 iv1 zde (w64 (zdA+(1:Int))) (⟨zbv.len,(setT iv1.toNat (ts 80 (zbv.get iv1.toNat) (0+zdA.toNat * 2+0) [(1000000000000:Int),(0:Int)]) zbv.get)⟩:Sl Tab))
 (S0 (w64 (zde+(1:Int))) zbv))
def zs8 (P0:Int->(Sl Tab)->Bool) (w:web) (node:Int) (uses:Int) (P1:Int->Int->Int->(Sl Tab)->Bool) (iv1:Int) (zde:Int) (zdA:Int) (zbv:(Sl Tab)):Bool :=
  (cond (decide (zdA < (40:Int)))
 (decide ((0<=iv1/\iv1 < (zbv.len:Int))) &&
 (decide ((0<=zdA/\zdA < (40:Int))) &&
 (decide ((iv1.toNat < zbv.len)) &&
 (P1 iv1 zde (w64 (zdA+(1:Int))) (⟨zbv.len,(setT iv1.toNat (ts 80 (zbv.get iv1.toNat) (0+zdA.toNat * 2+0) [(1000000000000:Int),(0:Int)]) zbv.get)⟩:Sl Tab)))))
 (P0 (w64 (zde+(1:Int))) zbv))
def zs9 (S0:Int->(Sl Tab)->(Sl Tab)) (w:web) (node:Int) (uses:Int):Nat->Int->Int->Int->(Sl Tab)->(Sl Tab):=lpO (λ _ _ _ _=>default) (zs7 S0 w node uses)
def zta (P0:Int->(Sl Tab)->Bool) (w:web) (node:Int) (uses:Int):Nat->Int->Int->Int->(Sl Tab)->Bool:=lpO (λ _ _ _ _=>false) (zs8 P0 w node uses)
def ztb (S0:Int->(Sl Tab)->(Sl Tab)) (w:web) (node:Int) (uses:Int) (iv1:Int) (zde:Int) (zdA:Int) (zbv:(Sl Tab)):(Sl Tab):=zs9 S0 w node uses Fuel iv1 zde zdA zbv
def ztc (P0:Int->(Sl Tab)->Bool) (w:web) (node:Int) (uses:Int) (iv1:Int) (zde:Int) (zdA:Int) (zbv:(Sl Tab)):Bool:=zta P0 w node uses Fuel iv1 zde zdA zbv
theorem zCY (hX0:zw5 K w node uses X0 P0 S0) (hs:ztc P0 w node uses iv1 zde zdA zbv=true) (hk:K (zBM (ztb S0 w node uses iv1 zde zdA zbv))) (zhd:zcB=zg zao zbv):z106 K [1,1,0,1,0,0,1,1,0,0,1,1,0] [X0] (zw6 w node uses iv1 zde zdA zbv zcB) :=
  zl (λ X=>z106 K [1,1,0,1,0,0,1,1,0,0,1,1,0,0] [X0,X]) (by kernel_rfl) λ X1 hX =>
  (show ∀ k, zEp K w node uses X1 (zta P0 w node uses k) (zs9 S0 w node uses k) from zd0 _ _ (zs8 P0 w node uses) (zs7 S0 w node uses) (zEp K w node uses X1)
 (by intro _ _ _ _ _ hs;exact absurd hs dqk)
 (by intro P1 S1 hX1 iv1 zde zdA zbv zcB hs hk zhd;subst zhd;exact hX _ (zaS (by kernel_rfl) (zc hs hk (λ hs hk=>(zaO hs λ hc hs=>And.intro hc (zaO hs λ hc hs=>And.intro hc (zaO hs λ hc hs=>And.intro hc (hX1 hs hk (zfz (enc:=zao) (i:=iv1.toNat) (k:=0) (f:=zbv.get) (new:=(zao (ts 80 (zbv.get iv1.toNat) (0+zdA.toNat * 2+0) [(1000000000000:Int),(0:Int)]))) (v:=(ts 80 (zbv.get iv1.toNat) (0+zdA.toNat * 2+0) [(1000000000000:Int),(0:Int)])) rfl zm5)))))) (λ hs hk=>(hX0 hs hk rfl)))))) _ hs hk zhd
def ztd (w:web) (node:Int) (uses:Int) (S0:Int->(Sl Tab)->(Sl Tab)) (zej:Int) (zek:(Sl Tab)):(Sl Tab) :=
  (cond (decide (zej < ((w64 (uses + (1:Int))).toNat : Int)))
 (ztb S0 w node uses zej zej (0:Int) zek)
 (zs5 w node uses zek))
def zte (w:web) (node:Int) (uses:Int) (P0:Int->(Sl Tab)->Bool) (zej:Int) (zek:(Sl Tab)):Bool :=
  (cond (decide (zej < ((w64 (uses + (1:Int))).toNat : Int)))
 (ztc P0 w node uses zej zej (0:Int) zek)
 (zs6 w node uses zek))
def ztf (w:web) (node:Int) (uses:Int):Nat->Int->(Sl Tab)->(Sl Tab):=lpO (λ _ _=>default) (ztd w node uses)
def ztg (w:web) (node:Int) (uses:Int):Nat->Int->(Sl Tab)->Bool:=lpO (λ _ _=>false) (zte w node uses)
def zth (w:web) (node:Int) (uses:Int) (zej:Int) (zek:(Sl Tab)):(Sl Tab):=ztf w node uses Fuel zej zek
def zti (w:web) (node:Int) (uses:Int) (zej:Int) (zek:(Sl Tab)):Bool:=ztg w node uses Fuel zej zek
theorem zCZ (hs:zti w node uses zej zek=true) (hk:K (zBM (zth w node uses zej zek))) (zqB:zfX=zg zao zek):z106 K [1,1,0,1,0] [] (zw4 w node uses zej zek zfX) :=
  zl (λ X=>z106 K [1,1,0,1,0,0] [X]) (by kernel_rfl) λ X0 hX =>
  (show ∀ k, zw5 K w node uses X0 (ztg w node uses k) (ztf w node uses k) from zd0 _ _ (zte w node uses) (ztd w node uses) (zw5 K w node uses X0)
 (by intro _ _ _ hs;exact absurd hs dqk)
 (by intro P0 S0 hX0 zej zek zfX hs hk zqB;subst zqB;exact hX _ (zaS (by kernel_rfl) (zc hs hk (λ hs hk=>(zCY hX0 hs hk rfl)) (λ hs hk=>(zCX hs hk rfl)))))) _ hs hk zqB
def zGu (w:web) (node:Int) (uses:Int):(Sl Tab) :=
  (zth w node uses (0:Int) (⟨(w64 (uses+(1:Int))).toNat,(λ _=>(λ _=>(0:Int)))⟩:Sl Tab))
def zNM (w:web) (node:Int) (uses:Int):Bool :=
  (decide ((0<=(w64 (uses+(1:Int)))/\(w64 (uses+(1:Int)))=(w64 (uses+(1:Int)))/\(w64 (uses+(1:Int)))<=1000000)) &&
 (zti w node uses (0:Int) (⟨(w64 (uses+(1:Int))).toNat,(λ _=>(λ _=>(0:Int)))⟩:Sl Tab)))
end
theorem zPY (w:web) (node:Int) (uses:Int) (K:List PA->Prop) (hs:zNM w node uses=true) (hk:K (zBM (zGu w node uses))):vcFun Tryd.prog zNe zpa 106 [.one (.fp (zaC w) 0),.one (.int .i64 node),.one (.int .i64 uses)] K :=
  zaS (by kernel_rfl) (zaO hs λ hc hs=>And.intro hc (zCZ hs hk rfl))
def zw9 : List PA → COut
  | [.one (.fp [.int .i64 zam,.sl zah zaA zai,.fm za3 zaD zaE] 0),.one (.int .i64 a1),.one (.int .i64 a2)]=>.det (IsE enc_40 4 zaA zai/\za3=(false,1,false,[none])/\zNM (⟨(⟨zam,(⟨zah,zal zai⟩:(Sl Tie))⟩:Net),(⟨zaD,zaE⟩:Mp)⟩:web) a1 a2=true) [.one (.sl ((zGu (⟨(⟨zam,(⟨zah,zal zai⟩:(Sl Tie))⟩:Net),(⟨zaD,zaE⟩:Mp)⟩:web) a1 a2).len) 80 (λ i=>zao ((zGu (⟨(⟨zam,(⟨zah,zal zai⟩:(Sl Tie))⟩:Net),(⟨zaD,zaE⟩:Mp)⟩:web) a1 a2).get i)))]
  | _=>.no
theorem zGv:zar Tryd.prog 106:=⟨_,rfl,rfl,by kernel_rfl⟩
theorem zNN:Ok Tryd.prog 106 zw9:=zbc zK6 zGv λ args K h=>by
  unfold zw9 at h
  split at h
  · rename_i zam zah zaA zai za3 zaD zaE a1 a2
    obtain⟨⟨⟨rfl,zas,rfl⟩,rfl,hs⟩,hk⟩:=h
    try rw[zaj zas] at hs
    try rw[zaj zas] at hk
    exact⟨(λ _ _=>[]),(λ _=>false),zpa,zPY (⟨(⟨zam,(⟨zah,zas⟩:(Sl Tie))⟩:Net),(⟨zaD,zaE⟩:Mp)⟩:web) a1 a2 K hs hk⟩
  · exact h.elim
abbrev zPm:Tabs:=Tabs.nil
theorem zK7:TabsOk Tryd.prog zPm:=TabsOk.nil
abbrev zPn:Ctrs:=csm zPm (λ _ _=>[]) (λ _=>false)
def zxa:Ann:=⟨18,[(0,zK [0] []),(1,zK [0,3] []),(2,zK [3,6,7,8] []),(3,zK [3,6,7,8,9] []),(4,zK [3,5,6,7,8] []),(5,zK [3,5,6,7,8,14] []),(6,zK [2] []),(7,zK [3,6,7,8] []),(8,zK [2] [])],
 [(3,zK [3,6,7,8] [])],
 [],
 [],[]⟩
abbrev zPZ:=Int
abbrev zNO (r:zPZ):List PA:=[.one (.int .i64 r)]
@[irreducible] def z100:=ptF Tryd.prog zPn zxa Tryd.f100
def zxb (vals:(Sl Int)) (zdN:Int):St:=⟨[(3,zI (0:Int)),(6,zS zae 1 vals),(7,zI (vals.len:Int)),(8,zI zdN)],[],[]⟩
abbrev zEr (K:List PA->Prop) (vals:(Sl Int)) (X:St->Prop) (P:Int->Bool) (S:Int->Int):Prop:=∀ ⦃zdN:Int⦄,P zdN=true->K (zNO (S zdN))->X (zxb vals zdN)
section
variable {K:List PA->Prop}{vals:(Sl Int)}{zdN:Int}{X0:St->Prop}{P0:Int->Bool}{S0:Int->Int}
def ztj (vals:(Sl Int)) (S0:Int->Int) (zdN:Int):Int :=
  (cond (decide (zdN < (vals.len : Int)))
 (cond ((vals.get zdN.toNat) != (0:Int))
 (vals.get zdN.toNat)
 (S0 (w64 (zdN+(1:Int)))))
 (0:Int))
def ztk (vals:(Sl Int)) (P0:Int->Bool) (zdN:Int):Bool :=
  (cond (decide (zdN < (vals.len : Int)))
 (decide ((0<=zdN/\zdN < (vals.len:Int))) &&
 (cond ((vals.get zdN.toNat) != (0:Int))
 true
 (P0 (w64 (zdN+(1:Int))))))
 true)
def ztl (vals:(Sl Int)):Nat->Int->Int:=lpO (λ _=>default) (ztj vals)
def ztm (vals:(Sl Int)):Nat->Int->Bool:=lpO (λ _=>false) (ztk vals)
def ztn (vals:(Sl Int)) (zdN:Int):Int:=ztl vals Fuel zdN
def zto (vals:(Sl Int)) (zdN:Int):Bool:=ztm vals Fuel zdN
theorem zC0 (hs:zto vals zdN=true) (hk:K (zNO (ztn vals zdN))):z100 K [1,1,0,1,0] [] (zxb vals zdN) :=
  zl (λ X=>z100 K [1,1,0,1,0,0] [X]) (by kernel_rfl) λ X0 hX =>
  (show ∀ k, zEr K vals X0 (ztm vals k) (ztl vals k) from zd0 _ _ (ztk vals) (ztj vals) (zEr K vals X0)
 (by intro _ hs;exact absurd hs dqk)
 (by intro P0 S0 hX0 zdN hs hk;exact hX _ (zaS (by kernel_rfl) (zc hs hk (λ hs hk=>(zaO hs λ hc hs=>And.intro hc (zc hs hk (λ hs hk=>hk) (λ hs hk=>(hX0 hs hk))))) (λ hs hk=>hk))))) _ hs hk
def zNP (vals:(Sl Int)):Int :=
  (ztn vals (0:Int))
def zNQ (vals:(Sl Int)):Bool :=
  (zto vals (0:Int))
end
theorem zP0 (vals:(Sl Int)) (K:List PA->Prop) (hs:zNQ vals=true) (hk:K (zNO (zNP vals))):vcFun Tryd.prog zPn zxa 100 [.one (.sl vals.len 1 (λ i=>zae (vals.get i)))] K :=
  zaS (by kernel_rfl) (zC0 hs hk)
def zxc : List PA → COut
  | [.one (.sl zeh zje zei)]=>.det (IsE zae 1 zje zei/\zNQ (⟨zeh,zaw zei⟩:(Sl Int))=true) [.one (.int .i64 (zNP (⟨zeh,zaw zei⟩:(Sl Int))))]
  | _=>.no
theorem zGw:zar Tryd.prog 100:=⟨_,rfl,rfl,by kernel_rfl⟩
theorem zNR:Ok Tryd.prog 100 zxc:=zbc zK7 zGw λ args K h=>by
  unfold zxc at h
  split at h
  · rename_i zeh zje zei
    obtain⟨⟨⟨rfl,zgz,rfl⟩,hs⟩,hk⟩:=h
    try rw[zbx zgz] at hs
    try rw[zbx zgz] at hk
    exact⟨(λ _ _=>[]),(λ _=>false),zxa,zP0 (⟨zeh,zgz⟩:(Sl Int)) K hs hk⟩
  · exact h.elim
abbrev zPo:Tabs:=Tabs.nil
theorem zK8:TabsOk Tryd.prog zPo:=TabsOk.nil
abbrev zP1:Ctrs:=csm zPo (λ _ _=>[]) (λ _=>false)
def zEs:Ann:=⟨6,[(0,zK [0] []),(1,zK [2] [])],
 [],
 [],
 [],[]⟩
abbrev zP2:=Bool
abbrev zP3 (r:zP2):List PA:=[.one (.bool r)]
section
variable {K:List PA->Prop}{x:Int}
def zK9 (x:Int):Bool :=
  (x != x)
end
theorem zP4 (x:Int) (K:List PA->Prop) (hk:K (zP3 (zK9 x))):vcFun Tryd.prog zP1 zEs 114 [.one (.int .i64 x)] K :=
  zaS (by kernel_rfl) hk
def zxd : List PA → COut
  | [.one (.int .i64 a0)]=>.tot [.one (.bool (zK9 a0))]
  | _=>.no
theorem zGx:zar Tryd.prog 114:=⟨_,rfl,rfl,by kernel_rfl⟩
theorem zNS:Ok Tryd.prog 114 zxd:=zbc zK8 zGx λ args K h=>by
  unfold zxd at h
  split at h
  · rename_i a0
    have hk:=h
    exact⟨(λ _ _=>[]),(λ _=>false),zEs,zP4 a0 K hk⟩
  · exact h.elim
abbrev zPp:Tabs:=(Tabs.nil.addF 114 zxd)
theorem zLa:TabsOk Tryd.prog zPp:=(TabsOk.nil.addF zNS)
abbrev zP5:Ctrs:=csm zPp (λ _ _=>[]) (λ _=>false)
def zEt:Ann:=⟨20,[(0,zK [0,1] []),(1,zK [0,1,5] []),(2,zK [0,1,5,6] []),(3,zK [0,1,6,11] []),(4,zK [12] []),(5,zK [4] []),(6,zK [4] []),(7,zK [0,1,13] []),(8,zK [4] []),(9,zK [0,1,16] []),(10,zK [4] []),(11,zK [19] []),(12,zK [4] []),(13,zK [4] [])],
 [],
 [],
 [],[]⟩
abbrev zP6:=Int
abbrev zP7 (r:zP6):List PA:=[.one (.int .i64 r)]
section
variable {K:List PA->Prop}{x:Int}{y_a1:Int}
def zBN (x:Int) (y_a1:Int):Int :=
  (cond (zK9 x)
 (cond (zK9 y_a1)
 (0:Int)
 (-1:Int))
 (cond (zK9 y_a1)
 (1:Int)
 (cond (decide (x < y_a1))
 (-1:Int)
 (cond (decide (x > y_a1))
 (1:Int)
 (0:Int)))))
end
theorem zP8 (x:Int) (y_a1:Int) (K:List PA->Prop) (hk:K (zP7 (zBN x y_a1))):vcFun Tryd.prog zP5 zEt 101 [.one (.int .i64 x),.one (.int .i64 y_a1)] K :=
  zaS (by kernel_rfl) (zt hk (λ hk=>(zt hk (λ hk=>hk) (λ hk=>hk))) (λ hk=>(zt hk (λ hk=>hk) (λ hk=>(zt hk (λ hk=>hk) (λ hk=>(zt hk (λ hk=>hk) (λ hk=>hk))))))))
def ztp : List PA → COut
  | [.one (.int .i64 a0),.one (.int .i64 a1)]=>.tot [.one (.int .i64 (zBN a0 a1))]
  | _=>.no
theorem zGy:zar Tryd.prog 101:=⟨_,rfl,rfl,by kernel_rfl⟩
theorem zLb:Ok Tryd.prog 101 ztp:=zbc zLa zGy λ args K h=>by
  unfold ztp at h
  split at h
  · rename_i a0 a1
    have hk:=h
    exact⟨(λ _ _=>[]),(λ _=>false),zEt,zP8 a0 a1 K hk⟩
  · exact h.elim
abbrev zPq:Tabs:=Tabs.nil
theorem zLc:TabsOk Tryd.prog zPq:=TabsOk.nil
abbrev zP9:Ctrs:=csm zPq (λ _ _=>[]) (λ _=>false)
def zEu:Ann:=⟨6,[(0,zK [1] [1]),(1,zK [5] []),(2,zK [2] []),(3,zK [2] [])],
 [],
 [],
 [],[]⟩
abbrev zQa:=Int
abbrev e118 (r:zQa):List PA:=[.one (.int .i64 r)]
section
variable {K:List PA->Prop}{s:step}
def zEv (s:step):Int :=
  (cond s.Use.Back
 (1:Int)
 (0:Int))
end
theorem zQb (s:step) (K:List PA->Prop) (hk:K (e118 (zEv s))):vcFun Tryd.prog zP9 zEu 118 [.agg (zaG s)] K :=
  zaS (by kernel_rfl) (zt hk (λ hk=>hk) (λ hk=>hk))
def zxe : List PA → COut
  | [.agg [.int .i64 zc3,.bool zcD,.int .i64 zez,.int .i64 zpb,.int .i64 zcm]]=>.tot [.one (.int .i64 (zEv (⟨(⟨zc3,zcD⟩:Use),zez,zpb,zcm⟩:step)))]
  | _=>.no
theorem zGz:zar Tryd.prog 118:=⟨_,rfl,rfl,by kernel_rfl⟩
theorem zNT:Ok Tryd.prog 118 zxe:=zbc zLc zGz λ args K h=>by
  unfold zxe at h
  split at h
  · rename_i zc3 zcD zez zpb zcm
    have hk:=h
    exact⟨(λ _ _=>[]),(λ _=>false),zEu,zQb (⟨(⟨zc3,zcD⟩:Use),zez,zpb,zcm⟩:step) K hk⟩
  · exact h.elim
abbrev zPr:Tabs:=(((Tabs.nil.addF 100 zxc).addF 101 ztp).addF 118 zxe)
theorem zLd:TabsOk Tryd.prog zPr:=(((TabsOk.nil.addF zNR).addF zLb).addF zNT)
abbrev zQc:Ctrs:=csm zPr (λ _ _=>[]) (λ _=>false)
def zEw:Ann:=⟨22,[(0,zK [2,3] [2,3]),(1,zK [2,3,5] [2,3]),(2,zK [4] [])],
 [],
 [],
 [],[]⟩
abbrev zQd:=Int
abbrev e108 (r:zQd):List PA:=[.one (.int .i64 r)]
section
variable {K:List PA->Prop}{a:step}{b:step}
def zNf (a:step) (b:step):Int :=
  (zNP (⟨2,zaw (zbA [(zae (zBN a.Use.Tie b.Use.Tie)),(zae (zBN (zEv a) (zEv b)))])⟩:(Sl Int)))
def zNU (a:step) (b:step):Bool :=
  (decide ((zNQ (⟨2,zaw (zbA [(zae (zBN a.Use.Tie b.Use.Tie)),(zae (zBN (zEv a) (zEv b)))])⟩:(Sl Int))=true)) &&
 true)
end
theorem zQe (a:step) (b:step) (K:List PA->Prop) (hs:zNU a b=true) (hk:K (e108 (zNf a b))):vcFun Tryd.prog zQc zEw 108 [.agg (zaG a),.agg (zaG b)] K :=
  zaS (by kernel_rfl) (zaO hs λ hc hs=>And.intro (And.intro ((zev []):IsE zae 1 1 (zbA [(zae (zBN a.Use.Tie b.Use.Tie)),(zae (zBN (zEv a) (zEv b)))])) hc) hk)
def zxf : List PA → COut
  | [.agg [.int .i64 zc3,.bool zcD,.int .i64 zez,.int .i64 zpb,.int .i64 zcm],.agg [.int .i64 zgE,.bool zfo,.int .i64 zjH,.int .i64 zC1,.int .i64 zbW]]=>.det (zNU (⟨(⟨zc3,zcD⟩:Use),zez,zpb,zcm⟩:step) (⟨(⟨zgE,zfo⟩:Use),zjH,zC1,zbW⟩:step)=true) [.one (.int .i64 (zNf (⟨(⟨zc3,zcD⟩:Use),zez,zpb,zcm⟩:step) (⟨(⟨zgE,zfo⟩:Use),zjH,zC1,zbW⟩:step)))]
  | _=>.no
theorem zGA:zar Tryd.prog 108:=⟨_,rfl,rfl,by kernel_rfl⟩
theorem zNV:Ok Tryd.prog 108 zxf:=zbc zLd zGA λ args K h=>by
  unfold zxf at h
  split at h
  · rename_i zc3 zcD zez zpb zcm zgE zfo zjH zC1 zbW
    obtain⟨hs,hk⟩:=h
    exact⟨(λ _ _=>[]),(λ _=>false),zEw,zQe (⟨(⟨zc3,zcD⟩:Use),zez,zpb,zcm⟩:step) (⟨(⟨zgE,zfo⟩:Use),zjH,zC1,zbW⟩:step) K hs hk⟩
  · exact h.elim
abbrev zPs:Tabs:=(Tabs.nil.addF 108 zxf)
theorem zLe:TabsOk Tryd.prog zPs:=(TabsOk.nil.addF zNV)
abbrev zPt:Ctrs:=csm zPs (λ _ _=>[]) (λ _=>false)
def zxg:Ann:=⟨39,[(0,zK [0,1,2] []),(1,zK [0,1,2,11,12,13] []),(2,zK [0,1,2,11,12,13,14] []),(3,zK [0,1,2,7,8,11,12,13] [8]),(4,zK [0,1,2,7,8,11,12,13,21] [8]),(5,zK [6] []),(6,zK [0,1,2,8,9,11,12,13] [8,9]),(7,zK [0,1,2,10,11,12,13] []),(8,zK [0,1,2,10,11,12,13,31] []),(9,zK [6] []),(10,zK [0,1,2,11,12,13] []),(11,zK [38] []),(12,zK [6] []),(13,zK [6] [])],
 [(2,zK [0,1,2,11,12,13] [])],
 [(6,zK [0,1,2,7,8,11,12,13] [8]),(8,zK [0,1,2,10,11,12,13] [])],
 [],[]⟩
abbrev zQf:=Int
abbrev zLf (r:zQf):List PA:=[.one (.int .i64 r)]
@[irreducible] def z107:=ptF Tryd.prog zPt zxg Tryd.f107
def zxh (zeL:(Sl step)) (zec:(Sl step)) (zaX:(Sl step)) (zb6:Int) (zbX:Int) (zdB:Nat->List PV) (zdC:Nat->List PV) (zfY:Nat->List PV):St:=⟨[(0,zP (.sl zeL.len 5 zdB)),(1,zP (.sl zec.len 5 zdC)),(2,zP (.fn 108 [] [])),(11,zP (.sl zaX.len 5 zfY)),(12,zI zb6),(13,zI zbX)],[],[]⟩
abbrev ztq (K:List PA->Prop) (X:St->Prop) (P:(Sl step)->(Sl step)->(Sl step)->Int->Int->Bool) (S:(Sl step)->(Sl step)->(Sl step)->Int->Int->Int):Prop:=∀ ⦃zeL:(Sl step)⦄ ⦃zec:(Sl step)⦄ ⦃zaX:(Sl step)⦄ ⦃zb6:Int⦄ ⦃zbX:Int⦄ ⦃zdB:Nat->List PV⦄ ⦃zdC:Nat->List PV⦄ ⦃zfY:Nat->List PV⦄,P zeL zec zaX zb6 zbX=true->K (zLf (S zeL zec zaX zb6 zbX))->zdB=zg zaG zeL->zdC=zg zaG zec->zfY=zg zaG zaX->X (zxh zeL zec zaX zb6 zbX zdB zdC zfY)
section
variable {K:List PA->Prop}{s1_a0:(Sl step)}{s2_a1:(Sl step)}{zeL:(Sl step)}{zec:(Sl step)}{zaX:(Sl step)}{zb6:Int}{zbX:Int}{zdB:Nat->List PV}{zdC:Nat->List PV}{zfY:Nat->List PV}{X0:St->Prop}{P0:(Sl step)->(Sl step)->(Sl step)->Int->Int->Bool}{S0:(Sl step)->(Sl step)->(Sl step)->Int->Int->Int}{zpc:(Sl step)}{zjI:(Sl step)}{iv1:Int}{zcN:(Sl step)}{zb7:Int}{zqC:Int}{zjg:Int}{zjh:Bool}{zji:Int}{zjj:Int}{zjk:Int}{zpd:Nat->List PV}{zpe:Nat->List PV}{zxi:Nat->List PV}{zpf:(Sl step)}{zpg:(Sl step)}{cv2:Int}{zqD:Int}{zph:Nat->List PV}{zpi:Nat->List PV}
def ztr (S0:(Sl step)->(Sl step)->(Sl step)->Int->Int->Int) (zcN:(Sl step)) (zb7:Int) (zpf:(Sl step)) (zpg:(Sl step)) (cv2:Int) (zqD:Int):Int :=
  (cond (cv2 != (0:Int))
 cv2
 (S0 zpf zpg zcN zb7 (w64 (zqD+(1:Int)))))
def zts (P0:(Sl step)->(Sl step)->(Sl step)->Int->Int->Bool) (zcN:(Sl step)) (zb7:Int) (zpf:(Sl step)) (zpg:(Sl step)) (cv2:Int) (zqD:Int):Bool :=
  (cond (cv2 != (0:Int))
 true
 (P0 zpf zpg zcN zb7 (w64 (zqD+(1:Int)))))
theorem zC2 (hX0:ztq K X0 P0 S0) (hs:zts P0 zcN zb7 zpf zpg cv2 zqD=true) (hk:K (zLf (ztr S0 zcN zb7 zpf zpg cv2 zqD))) (zxj:zph=zg zaG zpf) (zxk:zpi=zg zaG zpg):z107 K [1,0,1,0,0,1,1,0,0,1,1,1,1] [X0] ⟨[(0,zP (.sl zpf.len 5 zph)),(1,zP (.sl zpg.len 5 zpi)),(2,zP (.fn 108 [] [])),(10,zI cv2),(11,zS zaG 5 zcN),(12,zI zb7),(13,zI zqD)],[],[]⟩:=by subst zxj;subst zxk;exact zaS (by kernel_rfl) (zc hs hk (λ hs hk=>hk) (λ hs hk=>(hX0 hs hk rfl rfl rfl)))
def ztt (S0:(Sl step)->(Sl step)->(Sl step)->Int->Int->Int) (zpc:(Sl step)) (zjI:(Sl step)) (iv1:Int) (zcN:(Sl step)) (zb7:Int) (zqC:Int) (zjg:Int) (zjh:Bool) (zji:Int) (zjj:Int) (zjk:Int):Int :=
  (ztr S0 zcN zb7 zpc zjI (zNf (⟨(⟨zjg,zjh⟩:Use),zji,zjj,zjk⟩:step) (zjI.get iv1.toNat)) zqC)
def ztu (P0:(Sl step)->(Sl step)->(Sl step)->Int->Int->Bool) (zpc:(Sl step)) (zjI:(Sl step)) (iv1:Int) (zcN:(Sl step)) (zb7:Int) (zqC:Int) (zjg:Int) (zjh:Bool) (zji:Int) (zjj:Int) (zjk:Int):Bool :=
  (decide ((0<=iv1/\iv1 < (zjI.len:Int))) &&
 (decide ((zNU (⟨(⟨zjg,zjh⟩:Use),zji,zjj,zjk⟩:step) (zjI.get iv1.toNat)=true)) &&
 (zts P0 zcN zb7 zpc zjI (zNf (⟨(⟨zjg,zjh⟩:Use),zji,zjj,zjk⟩:step) (zjI.get iv1.toNat)) zqC)))
theorem zC3 (hX0:ztq K X0 P0 S0) (hs:ztu P0 zpc zjI iv1 zcN zb7 zqC zjg zjh zji zjj zjk=true) (hk:K (zLf (ztt S0 zpc zjI iv1 zcN zb7 zqC zjg zjh zji zjj zjk))) (zxl:zpd=zg zaG zpc) (zxm:zpe=zg zaG zjI) (zGB:zxi=zg zaG zcN):z107 K [1,0,1,0,0,1,1,0,0,1,1] [X0] ⟨[(0,zP (.sl zpc.len 5 zpd)),(1,zP (.sl zjI.len 5 zpe)),(2,zP (.fn 108 [] [])),(7,zI iv1),(8,zp 8 0),(11,zP (.sl zcN.len 5 zxi)),(12,zI zb7),(13,zI zqC)],[(8,.box 130 (zm (zaG (⟨(⟨zjg,zjh⟩:Use),zji,zjj,zjk⟩:step))))],[]⟩:=by subst zxl;subst zxm;subst zGB;exact zaS (by kernel_rfl) (zaO hs λ hc hs=>And.intro hc (zaO hs λ hc hs=>And.intro hc (zC2 hX0 hs hk rfl rfl)))
def ztv (S0:(Sl step)->(Sl step)->(Sl step)->Int->Int->Int) (zeL:(Sl step)) (zec:(Sl step)) (zaX:(Sl step)) (zb6:Int) (zbX:Int):Int :=
  (cond (decide (zbX < zb6))
 (cond (decide (zbX >= (zec.len : Int)))
 (1:Int)
 (ztt S0 zeL zec zbX zaX zb6 zbX ((zaX.get zbX.toNat).Use.Tie) ((zaX.get zbX.toNat).Use.Back) ((zaX.get zbX.toNat).from_) ((zaX.get zbX.toNat).to) ((zaX.get zbX.toNat).length)))
 (cond (decide ((zeL.len : Int) < (zec.len : Int)))
 (-1:Int)
 (0:Int)))
def ztw (P0:(Sl step)->(Sl step)->(Sl step)->Int->Int->Bool) (zeL:(Sl step)) (zec:(Sl step)) (zaX:(Sl step)) (zb6:Int) (zbX:Int):Bool :=
  (cond (decide (zbX < zb6))
 (decide ((0<=zbX/\zbX < (zaX.len:Int))) &&
 (cond (decide (zbX >= (zec.len : Int)))
 true
 (ztu P0 zeL zec zbX zaX zb6 zbX ((zaX.get zbX.toNat).Use.Tie) ((zaX.get zbX.toNat).Use.Back) ((zaX.get zbX.toNat).from_) ((zaX.get zbX.toNat).to) ((zaX.get zbX.toNat).length))))
 true)
def ztx:Nat->(Sl step)->(Sl step)->(Sl step)->Int->Int->Int:=lpO (λ _ _ _ _ _=>default) (ztv)
def zty:Nat->(Sl step)->(Sl step)->(Sl step)->Int->Int->Bool:=lpO (λ _ _ _ _ _=>false) (ztw)
def ztz (zeL:(Sl step)) (zec:(Sl step)) (zaX:(Sl step)) (zb6:Int) (zbX:Int):Int:=ztx Fuel zeL zec zaX zb6 zbX
def ztA (zeL:(Sl step)) (zec:(Sl step)) (zaX:(Sl step)) (zb6:Int) (zbX:Int):Bool:=zty Fuel zeL zec zaX zb6 zbX
theorem zC4 (hs:ztA zeL zec zaX zb6 zbX=true) (hk:K (zLf (ztz zeL zec zaX zb6 zbX))) (zkU:zdB=zg zaG zeL) (zkV:zdC=zg zaG zec) (zqE:zfY=zg zaG zaX):z107 K [1,0,1,0] [] (zxh zeL zec zaX zb6 zbX zdB zdC zfY) :=
  zl (λ X=>z107 K [1,0,1,0,0] [X]) (by kernel_rfl) λ X0 hX =>
  (show ∀ k, ztq K X0 (zty k) (ztx k) from zd0 _ _ (ztw) (ztv) (ztq K X0)
 (by intro _ _ _ _ _ _ _ _ hs;exact absurd hs dqk)
 (by intro P0 S0 hX0 zeL zec zaX zb6 zbX zdB zdC zfY hs hk zkU zkV zqE;subst zkU;subst zkV;subst zqE;exact hX _ (zaS (by kernel_rfl) (zc hs hk (λ hs hk=>(zaO hs λ hc hs=>And.intro hc (zc hs hk (λ hs hk=>hk) (λ hs hk=>(zC3 hX0 hs hk rfl rfl rfl))))) (λ hs hk=>(zt hk (λ hk=>hk) (λ hk=>hk))))))) _ hs hk zkU zkV zqE
def zNg (s1_a0:(Sl step)) (s2_a1:(Sl step)):Int :=
  (ztz s1_a0 s2_a1 s1_a0 (s1_a0.len:Int) (0:Int))
def zNW (s1_a0:(Sl step)) (s2_a1:(Sl step)):Bool :=
  (ztA s1_a0 s2_a1 s1_a0 (s1_a0.len:Int) (0:Int))
end
theorem zQg (s1_a0:(Sl step)) (s2_a1:(Sl step)) (K:List PA->Prop) (hs:zNW s1_a0 s2_a1=true) (hk:K (zLf (zNg s1_a0 s2_a1))):vcFun Tryd.prog zPt zxg 107 [.one (.sl s1_a0.len 5 (λ i=>zaG (s1_a0.get i))),.one (.sl s2_a1.len 5 (λ i=>zaG (s2_a1.get i))),.one (.fn 108 [] [])] K :=
  zaS (by kernel_rfl) (zC4 hs hk rfl rfl rfl)
def zxn : List PA → COut
  | [.one (.sl zeh zje zei),.one (.sl ze3 zlB zeY),.one (.fn 108 [] [])]=>.det (IsE zaG 5 zje zei/\IsE zaG 5 zlB zeY/\zNW (⟨zeh,zhQ zei⟩:(Sl step)) (⟨ze3,zhQ zeY⟩:(Sl step))=true) [.one (.int .i64 (zNg (⟨zeh,zhQ zei⟩:(Sl step)) (⟨ze3,zhQ zeY⟩:(Sl step))))]
  | _=>.no
theorem zGC:zar Tryd.prog 107:=⟨_,rfl,rfl,by kernel_rfl⟩
theorem zNX:Ok Tryd.prog 107 zxn:=zbc zLe zGC λ args K h=>by
  unfold zxn at h
  split at h
  · rename_i zeh zje zei ze3 zlB zeY
    obtain⟨⟨⟨rfl,zgz,rfl⟩,⟨rfl,zim,rfl⟩,hs⟩,hk⟩:=h
    try rw[zew zgz] at hs
    try rw[zew zgz] at hk
    try rw[zew zim] at hs
    try rw[zew zim] at hk
    exact⟨(λ _ _=>[]),(λ _=>false),zxg,zQg (⟨zeh,zgz⟩:(Sl step)) (⟨ze3,zim⟩:(Sl step)) K hs hk⟩
  · exact h.elim
abbrev T89:Tabs:=((((Tabs.nil.addF 93 zo6).addF 106 zw9).addF 107 zxn).addI 110 zo8)
theorem zNY:TabsOk Tryd.prog T89:=((((TabsOk.nil.addF zJX).addF zNN).addF zNX).addI zuQ)
abbrev G89:Ctrs:=csm T89 (λ _ _=>[]) (λ _=>false)
def zxo:Ann:=⟨148,[(0,zK [0] []),(1,zK [0,3] [21]),(2,zK [0,3,23,24] [21]),(3,zK [0,3,23,24,25] [21]),(4,zK [0,3,4,23,24] [21]),(5,zK [0,3,23,24] [21]),(6,zK [0,3,23,24] [21]),(7,zK [0,3] [21]),(8,zK [0,3,5] [21]),(9,zK [0,3,5,45] [21]),(10,zK [0,3,5] [21]),(11,zK [0,3,5,48,49,50] [21]),(12,zK [0,3,5,48,49,50,51] [21]),(13,zK [0,3,5,6,7,48,49,50] [21]),(14,zK [0,3,5,48,49,50,62] [21]),(15,zK [0,3,5,48,49,50] [21]),(16,zK [0,3,5,8] [21]),(17,zK [0,5,8,64,65,66] [21]),(18,zK [0,5,8,64,65,66,67] [21]),(19,zK [0,5,8,9,10,64,65,66] [9,10,21]),(20,zK [0,5,8,9,10,64,65,66,78] [9,10,21]),(21,zK [0,5,8,9,10,11,64,65,66] [9,10,11,21]),(22,zK [0,5,8,9,10,11,12,13,64,65,66] [9,10,11,12,13,21]),(23,zK [0,5,8,9,10,11,12,13,14,64,65,66] [9,10,11,12,13,14,21]),(24,zK [0,5,8,9,10,11,12,13,14,64,65,66,83] [9,10,11,12,13,14,21,129]),(25,zK [0,5,8,9,10,11,12,13,14,64,65,66] [9,10,11,12,13,14,21,129]),(26,zK [0,5,8,9,10,11,12,13,14,64,65,66,87] [9,10,11,12,13,14,21,129]),(27,zK [0,5,8,9,10,11,12,13,14,15,64,65,66,87] [9,10,11,12,13,14,15,21,129]),(28,zK [0,5,8,9,10,11,12,13,14,15,64,65,66,87,125] [9,10,11,12,13,14,15,21,129]),(29,zK [0,5,8,9,10,11,12,13,14,15,64,65,66] [9,10,11,12,13,14,15,21,129]),(30,zK [0,5,8,9,10,11,12,13,14,64,65,66] [9,10,11,12,13,14,21,129]),(31,zK [0,5,8,9,10,11,12,13,64,65,66,136] [9,10,11,12,13,21,129]),(32,zK [0,5,8,9,10,11,12,13,14,64,65,66] [9,10,11,12,13,14,21,129]),(33,zK [0,5,8,11,64,65,66,144] [11,21,129]),(34,zK [0,5,8,64,65,66] [21,129]),(35,zK [0,5,8,64,65,66] [21,129]),(36,zK [2] [])],
 [(3,zK [0,3,23,24] [21]),(9,zK [0,3,5] [21]),(12,zK [0,3,5,48,49,50] [21]),(18,⟨[0,5,8,64,65,66],[21],[],[],[],[],[(8,1005,λ _=>zaG default)]⟩),(24,⟨[0,5,8,9,10,11,12,13,14,64,65,66],[9,10,11,12,13,14,21,129],[],[(11,0,129,130,λ _=>zaG default)],[],[],[]⟩),(27,zK [0,5,8,9,10,11,12,13,14,64,65,66,87] [9,10,11,12,13,14,21,129])],
 [(7,zK [0,3] [21]),(16,zK [0,3,5] [21]),(34,zK [0,5,8,11,64,65,66,144] [11,21,129])],
 [],[]⟩
abbrev R89:=(Sl step)
abbrev e89 (r:R89):List PA:=[.one (.sl r.len 5 (λ i=>zaG (r.get i)))]
@[irreducible] def z89:=ptF Tryd.prog G89 zxo Tryd.f89
@[irreducible] def x89:=exF Tryd.prog G89 zxo Tryd.f89
@[irreducible] def y89:=rnF Tryd.prog G89 zxo Tryd.f89
def zEx (w:web) (zc1:Int) (zdk:(Sl (Sl Tab))) (zfZ:Nat->List PV):St:=⟨[(0,zP (.fp (zaC w) 0)),(3,zv 21),(23,zI (w.Net.Nodes.toNat:Int)),(24,zI zc1)],[(21,.vec 159 1 24 zdk.len zfZ)],[]⟩
abbrev zLg (K:List PA->Prop) (w:web) (X:St->Prop) (P:Int->(Sl (Sl Tab))->Bool) (S:Int->(Sl (Sl Tab))->(Sl step)):Prop:=∀ ⦃zc1:Int⦄ ⦃zdk:(Sl (Sl Tab))⦄ ⦃zfZ:Nat->List PV⦄,P zc1 zdk=true->K (e89 (S zc1 zdk))->zfZ=zg zcZ zdk->X (zEx w zc1 zdk zfZ)
def zEy (w:web) (zbf:(Sl (Sl Tab))) (zcJ:Int):St:=⟨[(0,zP (.fp (zaC w) 0)),(3,zv 21),(5,zI zcJ)],[(21,.vec 159 1 24 zbf.len (λ i=>zcZ (zbf.get i)))],[]⟩
abbrev zGD (K:List PA->Prop) (w:web) (zbf:(Sl (Sl Tab))) (X:St->Prop) (P:Int->Bool) (S:Int->(Sl step)):Prop:=∀ ⦃zcJ:Int⦄,P zcJ=true->K (e89 (S zcJ))->X (zEy w zbf zcJ)
def zEz (w:web) (zbf:(Sl (Sl Tab))) (zce:Int) (zc5:Int):St:=⟨[(0,zP (.fp (zaC w) 0)),(3,zv 21),(5,zI zce),(48,zv 21),(49,zI (zbf.len:Int)),(50,zI zc5)],[(21,.vec 159 1 24 zbf.len (λ i=>zcZ (zbf.get i)))],[]⟩
abbrev zLh (K:List PA->Prop) (w:web) (zbf:(Sl (Sl Tab))) (X:St->Prop) (P:Int->Int->Bool) (S:Int->Int->(Sl step)):Prop:=∀ ⦃zce:Int⦄ ⦃zc5:Int⦄,P zce zc5=true->K (e89 (S zce zc5))->X (zEz w zbf zce zc5)
def zEA (w:web) (zaQ:(Sl (Sl Tab))) (zcf:Int) (zbI:Bool) (zcE:(Sl step)) (zcn:Int) (zda:(Sl (Sl Tab))) (zeA:Nat->List PV) (zf0:Nat->List PV):St:=⟨[(0,zP (.fp (zaC w) 0)),(5,zI zcf),(8,zP (.ns zbI zcE.len 5 zeA)),(64,zv 21),(65,zI (zaQ.len:Int)),(66,zI zcn)],[(21,.vec 159 1 24 zda.len zf0)],[]⟩
abbrev zxp (K:List PA->Prop) (w:web) (zaQ:(Sl (Sl Tab))) (X:St->Prop) (P:Int->Bool->(Sl step)->Int->(Sl (Sl Tab))->Bool) (S:Int->Bool->(Sl step)->Int->(Sl (Sl Tab))->(Sl step)):Prop:=∀ ⦃zcf:Int⦄ ⦃zbI:Bool⦄ ⦃zcE:(Sl step)⦄ ⦃zcn:Int⦄ ⦃zda:(Sl (Sl Tab))⦄ ⦃zeA:Nat->List PV⦄ ⦃zf0:Nat->List PV⦄,P zcf zbI zcE zcn zda=true->K (e89 (S zcf zbI zcE zcn zda))->zeA=zg zaG zcE->zf0=zg zcZ zda->X (zEA w zaQ zcf zbI zcE zcn zda zeA zf0)
def zEB (w:web) (zaQ:(Sl (Sl Tab))) (zcK:Int) (zbo:Bool) (zbY:(Sl step)) (zel:Int) (iv6:Int) (hv6:(Sl Tab)) (zoe:Int) (zbQ:Int) (kv6:Int) (zdW:(Sl (Sl Tab))) (zb2:(Sl step)) (zeB:Nat->List PV) (zpj:Nat->List PV) (zf1:Nat->List PV) (zeC:Nat->List PV):St:=⟨[(0,zP (.fp (zaC w) 0)),(5,zI zcK),(8,zP (.ns zbo zbY.len 5 zeB)),(9,zp 9 0),(10,zp 10 0),(11,zp 11 0),(12,zp 12 0),(13,zp 13 0),(14,zp 14 0),(64,zv 21),(65,zI (zaQ.len:Int)),(66,zI zel)],[(9,.box 3 [zi iv6]),(10,.box 159 [.p (.sl hv6.len 80 zpj)]),(11,.box 127 [.vec 129]),(12,.box 3 [zi zoe]),(13,.box 3 [zi zbQ]),(14,.box 3 [zi kv6]),(21,.vec 159 1 24 zdW.len zf1),(129,.vec 130 5 40 zb2.len zeC)],[]⟩
abbrev zGE (K:List PA->Prop) (w:web) (zaQ:(Sl (Sl Tab))) (X:St->Prop) (P:Int->Bool->(Sl step)->Int->Int->(Sl Tab)->Int->Int->Int->(Sl (Sl Tab))->(Sl step)->Bool) (S:Int->Bool->(Sl step)->Int->Int->(Sl Tab)->Int->Int->Int->(Sl (Sl Tab))->(Sl step)->(Sl step)):Prop:=∀ ⦃zcK:Int⦄ ⦃zbo:Bool⦄ ⦃zbY:(Sl step)⦄ ⦃zel:Int⦄ ⦃iv6:Int⦄ ⦃hv6:(Sl Tab)⦄ ⦃zoe:Int⦄ ⦃zbQ:Int⦄ ⦃kv6:Int⦄ ⦃zdW:(Sl (Sl Tab))⦄ ⦃zb2:(Sl step)⦄ ⦃zeB:Nat->List PV⦄ ⦃zpj:Nat->List PV⦄ ⦃zf1:Nat->List PV⦄ ⦃zeC:Nat->List PV⦄,P zcK zbo zbY zel iv6 hv6 zoe zbQ kv6 zdW zb2=true->K (e89 (S zcK zbo zbY zel iv6 hv6 zoe zbQ kv6 zdW zb2))->zeB=zg zaG zbY->zpj=zg zao hv6->zf1=zg zcZ zdW->zeC=zg zaG zb2->X (zEB w zaQ zcK zbo zbY zel iv6 hv6 zoe zbQ kv6 zdW zb2 zeB zpj zf1 zeC)
def zxq (w:web) (zaQ:(Sl (Sl Tab))) (zbM:Int) (za4:Bool) (zbJ:(Sl step)) (zcR:Int) (iv7:Int) (hv7:(Sl Tab)) (zgW:Int) (zaZ:Int) (kv7:Int) (zcI:(Sl (Sl Tab))) (zbr:(Sl step)) (zdr:Nat->List PV) (zlC:Nat->List PV) (zeM:Nat->List PV) (zds:Nat->List PV):St:=⟨[(0,zP (.fp (zaC w) 0)),(5,zI zbM),(8,zP (.ns za4 zbJ.len 5 zdr)),(9,zp 9 0),(10,zp 10 0),(11,zp 11 0),(12,zp 12 0),(13,zp 13 0),(14,zp 14 0),(64,zv 21),(65,zI (zaQ.len:Int)),(66,zI zcR),(87,zP (.fn 110 [] [.fp [.fp (zaC w) 0] 0]))],[(9,.box 3 [zi iv7]),(10,.box 159 [.p (.sl hv7.len 80 zlC)]),(11,.box 127 [.vec 129]),(12,.box 3 [zi zgW]),(13,.box 3 [zi zaZ]),(14,.box 3 [zi kv7]),(21,.vec 159 1 24 zcI.len zeM),(129,.vec 130 5 40 zbr.len zds)],[]⟩
abbrev zLi (K:List PA->Prop) (w:web) (zaQ:(Sl (Sl Tab))) (X:St->Prop) (P:Int->Bool->(Sl step)->Int->Int->(Sl Tab)->Int->Int->Int->(Sl (Sl Tab))->(Sl step)->Bool) (S:Int->Bool->(Sl step)->Int->Int->(Sl Tab)->Int->Int->Int->(Sl (Sl Tab))->(Sl step)->(Sl step)):Prop:=∀ ⦃zbM:Int⦄ ⦃za4:Bool⦄ ⦃zbJ:(Sl step)⦄ ⦃zcR:Int⦄ ⦃iv7:Int⦄ ⦃hv7:(Sl Tab)⦄ ⦃zgW:Int⦄ ⦃zaZ:Int⦄ ⦃kv7:Int⦄ ⦃zcI:(Sl (Sl Tab))⦄ ⦃zbr:(Sl step)⦄ ⦃zdr:Nat->List PV⦄ ⦃zlC:Nat->List PV⦄ ⦃zeM:Nat->List PV⦄ ⦃zds:Nat->List PV⦄,P zbM za4 zbJ zcR iv7 hv7 zgW zaZ kv7 zcI zbr=true->K (e89 (S zbM za4 zbJ zcR iv7 hv7 zgW zaZ kv7 zcI zbr))->zdr=zg zaG zbJ->zlC=zg zao hv7->zeM=zg zcZ zcI->zds=zg zaG zbr->X (zxq w zaQ zbM za4 zbJ zcR iv7 hv7 zgW zaZ kv7 zcI zbr zdr zlC zeM zds)
section
variable {K:List PA->Prop}{w:web}{zc1:Int}{zdk:(Sl (Sl Tab))}{zfZ:Nat->List PV}{X0:St->Prop}{P0:Int->(Sl (Sl Tab))->Bool}{S0:Int->(Sl (Sl Tab))->(Sl step)}{zbf:(Sl (Sl Tab))}{zxr:Nat->List PV}{zcJ:Int}{X2:St->Prop}{P2:Int->Bool}{S2:Int->(Sl step)}{zce:Int}{zc5:Int}{X3:St->Prop}{P3:Int->Int->Bool}{S3:Int->Int->(Sl step)}{zkW:Int}{zaQ:(Sl (Sl Tab))}{zxs:Nat->List PV}{zcf:Int}{zbI:Bool}{zcE:(Sl step)}{zcn:Int}{zda:(Sl (Sl Tab))}{zeA:Nat->List PV}{zf0:Nat->List PV}{X5:St->Prop}{P5:Int->Bool->(Sl step)->Int->(Sl (Sl Tab))->Bool}{S5:Int->Bool->(Sl step)->Int->(Sl (Sl Tab))->(Sl step)}{zcK:Int}{zbo:Bool}{zbY:(Sl step)}{zel:Int}{iv6:Int}{hv6:(Sl Tab)}{zoe:Int}{zbQ:Int}{kv6:Int}{zdW:(Sl (Sl Tab))}{zb2:(Sl step)}{zeB:Nat->List PV}{zpj:Nat->List PV}{zf1:Nat->List PV}{zeC:Nat->List PV}{X6:St->Prop}{P6:Int->Bool->(Sl step)->Int->Int->(Sl Tab)->Int->Int->Int->(Sl (Sl Tab))->(Sl step)->Bool}{S6:Int->Bool->(Sl step)->Int->Int->(Sl Tab)->Int->Int->Int->(Sl (Sl Tab))->(Sl step)->(Sl step)}{zbM:Int}{za4:Bool}{zbJ:(Sl step)}{zcR:Int}{iv7:Int}{hv7:(Sl Tab)}{zgW:Int}{zaZ:Int}{kv7:Int}{zcI:(Sl (Sl Tab))}{zbr:(Sl step)}{zdr:Nat->List PV}{zlC:Nat->List PV}{zeM:Nat->List PV}{zds:Nat->List PV}{zhS:Int}{zfp:Bool}{zjl:(Sl step)}{zng:Int}{zkX:Bool}{zlD:(Sl (Sl Tab))}{zjm:(Sl step)}{ztB:Nat->List PV}{zxt:Nat->List PV}{ztC:Nat->List PV}
def zqF (S5:Int->Bool->(Sl step)->Int->(Sl (Sl Tab))->(Sl step)) (w:web) (zaQ:(Sl (Sl Tab))) (zhS:Int) (zfp:Bool) (zjl:(Sl step)) (zng:Int) (zkX:Bool) (zlD:(Sl (Sl Tab))) (zjm:(Sl step)):(Sl step) :=
  (cond zkX
 (S5 zhS false zjm (w64 (zng+(1:Int))) zlD)
 (S5 zhS zfp zjl (w64 (zng+(1:Int))) zlD))
def zqG (P5:Int->Bool->(Sl step)->Int->(Sl (Sl Tab))->Bool) (w:web) (zaQ:(Sl (Sl Tab))) (zhS:Int) (zfp:Bool) (zjl:(Sl step)) (zng:Int) (zkX:Bool) (zlD:(Sl (Sl Tab))) (zjm:(Sl step)):Bool :=
  (cond zkX
 (P5 zhS false zjm (w64 (zng+(1:Int))) zlD)
 (P5 zhS zfp zjl (w64 (zng+(1:Int))) zlD))
theorem zxu (hX5:zxp K w zaQ X5 P5 S5) (hs:zqG P5 w zaQ zhS zfp zjl zng zkX zlD zjm=true) (hk:K (e89 (zqF S5 w zaQ zhS zfp zjl zng zkX zlD zjm))) (zC5:ztB=zg zaG zjl) (zGF:zxt=zg zcZ zlD) (zC6:ztC=zg zaG zjm):z89 K [1,0,1,1,1,1,1,1,0,1,0,0,1,1,0,0,1,1,1,1,1,1] [X5] ⟨[(0,zP (.fp (zaC w) 0)),(5,zI zhS),(8,zP (.ns zfp zjl.len 5 ztB)),(11,zp 11 0),(64,zv 21),(65,zI (zaQ.len:Int)),(66,zI zng),(144,zB zkX)],[(11,.box 127 [.vec 129]),(21,.vec 159 1 24 zlD.len zxt),(129,.vec 130 5 40 zjm.len ztC)],[]⟩:=by subst zC5;subst zGF;subst zC6;exact zaS (by kernel_rfl) (zc hs hk (λ hs hk=>(hX5 hs hk rfl rfl)) (λ hs hk=>(hX5 hs hk rfl rfl)))
def zGG (S5:Int->Bool->(Sl step)->Int->(Sl (Sl Tab))->(Sl step)) (S6:Int->Bool->(Sl step)->Int->Int->(Sl Tab)->Int->Int->Int->(Sl (Sl Tab))->(Sl step)->(Sl step)) (w:web) (zaQ:(Sl (Sl Tab))) (zbM:Int) (za4:Bool) (zbJ:(Sl step)) (zcR:Int) (iv7:Int) (hv7:(Sl Tab)) (zgW:Int) (zaZ:Int) (kv7:Int) (zcI:(Sl (Sl Tab))) (zbr:(Sl step)):(Sl step) :=
  (S6 zbM za4 zbJ zcR iv7 hv7 zgW zaZ (w64 (kv7 - (1:Int))) zcI zbr)
def zGH (P5:Int->Bool->(Sl step)->Int->(Sl (Sl Tab))->Bool) (P6:Int->Bool->(Sl step)->Int->Int->(Sl Tab)->Int->Int->Int->(Sl (Sl Tab))->(Sl step)->Bool) (w:web) (zaQ:(Sl (Sl Tab))) (zbM:Int) (za4:Bool) (zbJ:(Sl step)) (zcR:Int) (iv7:Int) (hv7:(Sl Tab)) (zgW:Int) (zaZ:Int) (kv7:Int) (zcI:(Sl (Sl Tab))) (zbr:(Sl step)):Bool :=
  (P6 zbM za4 zbJ zcR iv7 hv7 zgW zaZ (w64 (kv7 - (1:Int))) zcI zbr)
def zxv (S5:Int->Bool->(Sl step)->Int->(Sl (Sl Tab))->(Sl step)) (S6:Int->Bool->(Sl step)->Int->Int->(Sl Tab)->Int->Int->Int->(Sl (Sl Tab))->(Sl step)->(Sl step)) (w:web) (zaQ:(Sl (Sl Tab))) (y7:step) (S7:Int->Bool->(Sl step)->Int->Int->(Sl Tab)->Int->Int->Int->(Sl (Sl Tab))->(Sl step)->(Sl step)) (zbM:Int) (za4:Bool) (zbJ:(Sl step)) (zcR:Int) (iv7:Int) (hv7:(Sl Tab)) (zgW:Int) (zaZ:Int) (kv7:Int) (zcI:(Sl (Sl Tab))) (zbr:(Sl step)):(Sl step) :=
  (cond (y7.from_ == zgW)
 (cond (decide (y7.to >= iv7))
 (cond (!(nvr (tL (hv7.get kv7.toNat) y7.to) (tU (hv7.get kv7.toNat) y7.to)))
 (cond (decide ((w64 ((w64 (zaZ + y7.length)) + (tL (hv7.get kv7.toNat) y7.to))) < (0:Int)))
 (S6 zbM za4 zbJ zcR iv7 hv7 y7.to (w64 (zaZ+y7.length)) (w64 (kv7 - (1:Int))) zcI (⟨(zbr.len+1),(zdU zbr.len zbr.get (λ _=>y7))⟩:Sl step))
 (S7 zbM za4 zbJ zcR iv7 hv7 zgW zaZ kv7 zcI zbr))
 (S7 zbM za4 zbJ zcR iv7 hv7 zgW zaZ kv7 zcI zbr))
 (S7 zbM za4 zbJ zcR iv7 hv7 zgW zaZ kv7 zcI zbr))
 (S7 zbM za4 zbJ zcR iv7 hv7 zgW zaZ kv7 zcI zbr))
def zxw (P5:Int->Bool->(Sl step)->Int->(Sl (Sl Tab))->Bool) (P6:Int->Bool->(Sl step)->Int->Int->(Sl Tab)->Int->Int->Int->(Sl (Sl Tab))->(Sl step)->Bool) (w:web) (zaQ:(Sl (Sl Tab))) (y7:step) (P7:Int->Bool->(Sl step)->Int->Int->(Sl Tab)->Int->Int->Int->(Sl (Sl Tab))->(Sl step)->Bool) (zbM:Int) (za4:Bool) (zbJ:(Sl step)) (zcR:Int) (iv7:Int) (hv7:(Sl Tab)) (zgW:Int) (zaZ:Int) (kv7:Int) (zcI:(Sl (Sl Tab))) (zbr:(Sl step)):Bool :=
  (cond (y7.from_ == zgW)
 (cond (decide (y7.to >= iv7))
 (decide ((0<=kv7/\kv7 < (hv7.len:Int))) &&
 (decide ((0<=y7.to/\y7.to < (40:Int))) &&
 (cond (!(nvr (tL (hv7.get kv7.toNat) y7.to) (tU (hv7.get kv7.toNat) y7.to)))
 (decide ((0<=kv7/\kv7 < (hv7.len:Int))) &&
 (decide ((0<=y7.to/\y7.to < (40:Int))) &&
 (cond (decide ((w64 ((w64 (zaZ + y7.length)) + (tL (hv7.get kv7.toNat) y7.to))) < (0:Int)))
 (decide (((zbr.len+1) * 40<=140737488355328/\zbr.len+1<=9223372036854775807)) &&
 (P6 zbM za4 zbJ zcR iv7 hv7 y7.to (w64 (zaZ+y7.length)) (w64 (kv7 - (1:Int))) zcI (⟨(zbr.len+1),(zdU zbr.len zbr.get (λ _=>y7))⟩:Sl step)))
 (P7 zbM za4 zbJ zcR iv7 hv7 zgW zaZ kv7 zcI zbr))))
 (P7 zbM za4 zbJ zcR iv7 hv7 zgW zaZ kv7 zcI zbr))))
 (P7 zbM za4 zbJ zcR iv7 hv7 zgW zaZ kv7 zcI zbr))
 (P7 zbM za4 zbJ zcR iv7 hv7 zgW zaZ kv7 zcI zbr))
def zxx (S5:Int->Bool->(Sl step)->Int->(Sl (Sl Tab))->(Sl step)) (S6:Int->Bool->(Sl step)->Int->Int->(Sl Tab)->Int->Int->Int->(Sl (Sl Tab))->(Sl step)->(Sl step)) (w:web) (zaQ:(Sl (Sl Tab))):List step->Int->Bool->(Sl step)->Int->Int->(Sl Tab)->Int->Int->Int->(Sl (Sl Tab))->(Sl step)->(Sl step):=lpR (zGG S5 S6 w zaQ) (zxv S5 S6 w zaQ)
def zxy (P5:Int->Bool->(Sl step)->Int->(Sl (Sl Tab))->Bool) (P6:Int->Bool->(Sl step)->Int->Int->(Sl Tab)->Int->Int->Int->(Sl (Sl Tab))->(Sl step)->Bool) (w:web) (zaQ:(Sl (Sl Tab))):List step->Int->Bool->(Sl step)->Int->Int->(Sl Tab)->Int->Int->Int->(Sl (Sl Tab))->(Sl step)->Bool:=lpR (zGH P5 P6 w zaQ) (zxw P5 P6 w zaQ)
def zxz (S5:Int->Bool->(Sl step)->Int->(Sl (Sl Tab))->(Sl step)) (S6:Int->Bool->(Sl step)->Int->Int->(Sl Tab)->Int->Int->Int->(Sl (Sl Tab))->(Sl step)->(Sl step)) (w:web) (zaQ:(Sl (Sl Tab))) (zbM:Int) (za4:Bool) (zbJ:(Sl step)) (zcR:Int) (iv7:Int) (hv7:(Sl Tab)) (zgW:Int) (zaZ:Int) (kv7:Int) (zcI:(Sl (Sl Tab))) (zbr:(Sl step)):(Sl step):=zxx S5 S6 w zaQ (zkS w) zbM za4 zbJ zcR iv7 hv7 zgW zaZ kv7 zcI zbr
def zxA (P5:Int->Bool->(Sl step)->Int->(Sl (Sl Tab))->Bool) (P6:Int->Bool->(Sl step)->Int->Int->(Sl Tab)->Int->Int->Int->(Sl (Sl Tab))->(Sl step)->Bool) (w:web) (zaQ:(Sl (Sl Tab))) (zbM:Int) (za4:Bool) (zbJ:(Sl step)) (zcR:Int) (iv7:Int) (hv7:(Sl Tab)) (zgW:Int) (zaZ:Int) (kv7:Int) (zcI:(Sl (Sl Tab))) (zbr:(Sl step)):Bool:=decide ((zu3 w=true)) && zxy P5 P6 w zaQ (zkS w) zbM za4 zbJ zcR iv7 hv7 zgW zaZ kv7 zcI zbr
theorem zGI (hX5:zxp K w zaQ X5 P5 S5) (hX6:zGE K w zaQ X6 P6 S6) (hs:zxA P5 P6 w zaQ zbM za4 zbJ zcR iv7 hv7 zgW zaZ kv7 zcI zbr=true) (hk:K (e89 (zxz S5 S6 w zaQ zbM za4 zbJ zcR iv7 hv7 zgW zaZ kv7 zcI zbr))) (zhT:zdr=zg zaG zbJ) (zxB:zlC=zg zao hv7) (zkY:zeM=zg zcZ zcI) (zhU:zds=zg zaG zbr):z89 K [1,0,1,1,1,1,1,1,0,1,0,0,1,1,0,0,1,1,1,1,0,1,0,0,1,0,0,1,0] [X5,X6] (zxq w zaQ zbM za4 zbJ zcR iv7 hv7 zgW zaZ kv7 zcI zbr zdr zlC zeM zds) :=
  zaO hs λ hc hs=>zr (enc:=(λ y:step=>[.agg (zaG y)])) (ys:=zkS w) (g:=(zxq w zaQ zbM za4 zbJ zcR iv7 hv7 zgW zaZ kv7 zcI zbr zdr zlC zeM zds)) (x89 K [1,0,1,1,1,1,1,1,0,1,0,0,1,1,0,0,1,1,1,1,0,1,0,0,1,0,0,1,0] [X5,X6]) (y89 K [1,0,1,1,1,1,1,1,0,1,0,0,1,1,0,0,1,1,1,1,0,1,0,0,1,0,0,1,0] [X5,X6]) (by kernel_rfl) (And.intro (zE enc_40 4 w.Net.Ties.get) (And.intro (rfl:((false,1,false,[none]):MQ)=(false,1,false,[none])) hc)) λ X7 hE hR =>
  (show ∀ l : List step, zLi K w zaQ (X7 (l.map (λ y : step => [.agg (zaG y)]))) (zxy P5 P6 w zaQ l) (zxx S5 S6 w zaQ l) from zri (X := X7) (enc := (λ y : step => [.agg (zaG y)])) _ _ (zxw P5 P6 w zaQ) (zxv S5 S6 w zaQ) (λ Z P S => zLi K w zaQ Z P S)
 (by intro zbM za4 zbJ zcR iv7 hv7 zgW zaZ kv7 zcI zbr zdr zlC zeM zds hs hk zhT zxB zkY zhU;subst zhT;subst zxB;subst zkY;subst zhU;exact hE _ (zaS (by kernel_rfl) (hX6 hs hk rfl rfl rfl rfl)))
 (by intro y7 rest P7 S7 hX7 zbM za4 zbJ zcR iv7 hv7 zgW zaZ kv7 zcI zbr zdr zlC zeM zds hs hk zhT zxB zkY zhU;subst zhT;subst zxB;subst zkY;subst zhU;exact hR _ rest _ (zaS (by kernel_rfl) (zc hs hk (λ hs hk=>(zc hs hk (λ hs hk=>(zaO hs λ hc hs=>And.intro hc (zaO hs λ hc hs=>And.intro hc (zc hs hk (λ hs hk=>(zaO hs λ hc hs=>And.intro hc (zaO hs λ hc hs=>And.intro hc (zc hs hk (λ hs hk=>(zaO hs λ hc hs=>And.intro hc (hX6 hs hk rfl rfl rfl (zfy (enc:=zaG) (f:=zbr.get) (h:=(λ _=>y7)) rfl rfl)))) (λ hs hk=>(hX7 hs hk rfl rfl rfl rfl)))))) (λ hs hk=>(hX7 hs hk rfl rfl rfl rfl)))))) (λ hs hk=>(hX7 hs hk rfl rfl rfl rfl)))) (λ hs hk=>(hX7 hs hk rfl rfl rfl rfl)))))) _ hs hk zhT zxB zkY zhU
def zxC (S5:Int->Bool->(Sl step)->Int->(Sl (Sl Tab))->(Sl step)) (w:web) (zaQ:(Sl (Sl Tab))) (S6:Int->Bool->(Sl step)->Int->Int->(Sl Tab)->Int->Int->Int->(Sl (Sl Tab))->(Sl step)->(Sl step)) (zcK:Int) (zbo:Bool) (zbY:(Sl step)) (zel:Int) (iv6:Int) (hv6:(Sl Tab)) (zoe:Int) (zbQ:Int) (kv6:Int) (zdW:(Sl (Sl Tab))) (zb2:(Sl step)):(Sl step) :=
  (cond (decide (kv6 >= (0:Int)))
 (zxz S5 S6 w zaQ zcK zbo zbY zel iv6 hv6 zoe zbQ kv6 zdW zb2)
 (cond zbo
 (zqF S5 w zaQ zcK zbo zbY zel true zdW zb2)
 (zqF S5 w zaQ zcK zbo zbY zel (decide ((zNg zb2 zbY) < (0:Int))) zdW zb2)))
def zxD (P5:Int->Bool->(Sl step)->Int->(Sl (Sl Tab))->Bool) (w:web) (zaQ:(Sl (Sl Tab))) (P6:Int->Bool->(Sl step)->Int->Int->(Sl Tab)->Int->Int->Int->(Sl (Sl Tab))->(Sl step)->Bool) (zcK:Int) (zbo:Bool) (zbY:(Sl step)) (zel:Int) (iv6:Int) (hv6:(Sl Tab)) (zoe:Int) (zbQ:Int) (kv6:Int) (zdW:(Sl (Sl Tab))) (zb2:(Sl step)):Bool :=
  (cond (decide (kv6 >= (0:Int)))
 (zxA P5 P6 w zaQ zcK zbo zbY zel iv6 hv6 zoe zbQ kv6 zdW zb2)
 (decide ((zbo=true\/zbY.len ≠ 0)) &&
 (cond zbo
 (zqG P5 w zaQ zcK zbo zbY zel true zdW zb2)
 (decide ((zNW zb2 zbY=true)) &&
 (zqG P5 w zaQ zcK zbo zbY zel (decide ((zNg zb2 zbY) < (0:Int))) zdW zb2)))))
def zxE (S5:Int->Bool->(Sl step)->Int->(Sl (Sl Tab))->(Sl step)) (w:web) (zaQ:(Sl (Sl Tab))):Nat->Int->Bool->(Sl step)->Int->Int->(Sl Tab)->Int->Int->Int->(Sl (Sl Tab))->(Sl step)->(Sl step):=lpO (λ _ _ _ _ _ _ _ _ _ _ _=>default) (zxC S5 w zaQ)
def zxF (P5:Int->Bool->(Sl step)->Int->(Sl (Sl Tab))->Bool) (w:web) (zaQ:(Sl (Sl Tab))):Nat->Int->Bool->(Sl step)->Int->Int->(Sl Tab)->Int->Int->Int->(Sl (Sl Tab))->(Sl step)->Bool:=lpO (λ _ _ _ _ _ _ _ _ _ _ _=>false) (zxD P5 w zaQ)
def zxG (S5:Int->Bool->(Sl step)->Int->(Sl (Sl Tab))->(Sl step)) (w:web) (zaQ:(Sl (Sl Tab))) (zcK:Int) (zbo:Bool) (zbY:(Sl step)) (zel:Int) (iv6:Int) (hv6:(Sl Tab)) (zoe:Int) (zbQ:Int) (kv6:Int) (zdW:(Sl (Sl Tab))) (zb2:(Sl step)):(Sl step):=zxE S5 w zaQ Fuel zcK zbo zbY zel iv6 hv6 zoe zbQ kv6 zdW zb2
def zxH (P5:Int->Bool->(Sl step)->Int->(Sl (Sl Tab))->Bool) (w:web) (zaQ:(Sl (Sl Tab))) (zcK:Int) (zbo:Bool) (zbY:(Sl step)) (zel:Int) (iv6:Int) (hv6:(Sl Tab)) (zoe:Int) (zbQ:Int) (kv6:Int) (zdW:(Sl (Sl Tab))) (zb2:(Sl step)):Bool:=zxF P5 w zaQ Fuel zcK zbo zbY zel iv6 hv6 zoe zbQ kv6 zdW zb2
theorem zGJ (hX5:zxp K w zaQ X5 P5 S5) (hs:zxH P5 w zaQ zcK zbo zbY zel iv6 hv6 zoe zbQ kv6 zdW zb2=true) (hk:K (e89 (zxG S5 w zaQ zcK zbo zbY zel iv6 hv6 zoe zbQ kv6 zdW zb2))) (znh:zeB=zg zaG zbY) (zGK:zpj=zg zao hv6) (zqH:zf1=zg zcZ zdW) (zni:zeC=zg zaG zb2):z89 K [1,0,1,1,1,1,1,1,0,1,0,0,1,1,0,0,1,1,1,1,0,1,0] [X5] (zEB w zaQ zcK zbo zbY zel iv6 hv6 zoe zbQ kv6 zdW zb2 zeB zpj zf1 zeC) :=
  zl (λ X=>z89 K [1,0,1,1,1,1,1,1,0,1,0,0,1,1,0,0,1,1,1,1,0,1,0,0] [X5,X]) (by kernel_rfl) λ X6 hX =>
  (show ∀ k, zGE K w zaQ X6 (zxF P5 w zaQ k) (zxE S5 w zaQ k) from zd0 _ _ (zxD P5 w zaQ) (zxC S5 w zaQ) (zGE K w zaQ X6)
 (by intro _ _ _ _ _ _ _ _ _ _ _ _ _ _ _ hs;exact absurd hs dqk)
 (by intro P6 S6 hX6 zcK zbo zbY zel iv6 hv6 zoe zbQ kv6 zdW zb2 zeB zpj zf1 zeC hs hk znh zGK zqH zni;subst znh;subst zGK;subst zqH;subst zni;exact hX _ (zaS (by kernel_rfl) (zc hs hk (λ hs hk=>(And.intro (And.intro (zE enc_40 4 w.Net.Ties.get) (rfl:((false,1,false,[none]):MQ)=(false,1,false,[none]))) (zGI hX5 hX6 hs hk rfl rfl rfl rfl))) (λ hs hk=>(zaO hs λ hc hs=>And.intro hc (zc hs hk (λ hs hk=>(zxu hX5 hs hk rfl rfl rfl)) (λ hs hk=>(zaO hs λ hc hs=>And.intro (And.intro (zE zaG 5 zb2.get) (And.intro (zE zaG 5 zbY.get) hc)) (zxu hX5 hs hk rfl rfl rfl)))))))))) _ hs hk znh zGK zqH zni
def zxI (w:web) (zaQ:(Sl (Sl Tab))) (S5:Int->Bool->(Sl step)->Int->(Sl (Sl Tab))->(Sl step)) (zcf:Int) (zbI:Bool) (zcE:(Sl step)) (zcn:Int) (zda:(Sl (Sl Tab))):(Sl step) :=
  (cond (decide (zcn < (zaQ.len : Int)))
 (cond (decide ((tL ((zda.get zcn.toNat).get zcf.toNat) zcn) >= (0:Int)))
 (S5 zcf zbI zcE (w64 (zcn+(1:Int))) zda)
 (zxG S5 w zaQ zcf zbI zcE zcn zcn (zda.get zcn.toNat) zcn (0:Int) (w64 (zcf - (1:Int))) zda (⟨0,(λ _=>default)⟩:Sl step)))
 zcE)
def zxJ (w:web) (zaQ:(Sl (Sl Tab))) (P5:Int->Bool->(Sl step)->Int->(Sl (Sl Tab))->Bool) (zcf:Int) (zbI:Bool) (zcE:(Sl step)) (zcn:Int) (zda:(Sl (Sl Tab))):Bool :=
  (cond (decide (zcn < (zaQ.len : Int)))
 (decide ((0<=zcn/\zcn < (zda.len:Int))) &&
 (decide ((zcn.toNat < zda.len)) &&
 (decide ((0<=zcf/\zcf < ((zda.get zcn.toNat).len:Int))) &&
 (decide ((0<=zcn/\zcn < (40:Int))) &&
 (cond (decide ((tL ((zda.get zcn.toNat).get zcf.toNat) zcn) >= (0:Int)))
 (P5 zcf zbI zcE (w64 (zcn+(1:Int))) zda)
 (zxH P5 w zaQ zcf zbI zcE zcn zcn (zda.get zcn.toNat) zcn (0:Int) (w64 (zcf - (1:Int))) zda (⟨0,(λ _=>default)⟩:Sl step)))))))
 true)
def zxK (w:web) (zaQ:(Sl (Sl Tab))):Nat->Int->Bool->(Sl step)->Int->(Sl (Sl Tab))->(Sl step):=lpO (λ _ _ _ _ _=>default) (zxI w zaQ)
def zxL (w:web) (zaQ:(Sl (Sl Tab))):Nat->Int->Bool->(Sl step)->Int->(Sl (Sl Tab))->Bool:=lpO (λ _ _ _ _ _=>false) (zxJ w zaQ)
def zxM (w:web) (zaQ:(Sl (Sl Tab))) (zcf:Int) (zbI:Bool) (zcE:(Sl step)) (zcn:Int) (zda:(Sl (Sl Tab))):(Sl step):=zxK w zaQ Fuel zcf zbI zcE zcn zda
def zxN (w:web) (zaQ:(Sl (Sl Tab))) (zcf:Int) (zbI:Bool) (zcE:(Sl step)) (zcn:Int) (zda:(Sl (Sl Tab))):Bool:=zxL w zaQ Fuel zcf zbI zcE zcn zda
theorem zGL (hs:zxN w zaQ zcf zbI zcE zcn zda=true) (hk:K (e89 (zxM w zaQ zcf zbI zcE zcn zda))) (znj:zeA=zg zaG zcE) (zqI:zf0=zg zcZ zda):z89 K [1,0,1,1,1,1,1,1,0,1,0] [] (zEA w zaQ zcf zbI zcE zcn zda zeA zf0) :=
  zl (λ X=>z89 K [1,0,1,1,1,1,1,1,0,1,0,0] [X]) (by kernel_rfl) λ X5 hX =>
  (show ∀ k, zxp K w zaQ X5 (zxL w zaQ k) (zxK w zaQ k) from zd0 _ _ (zxJ w zaQ) (zxI w zaQ) (zxp K w zaQ X5)
 (by intro _ _ _ _ _ _ _ hs;exact absurd hs dqk)
 (by intro P5 S5 hX5 zcf zbI zcE zcn zda zeA zf0 hs hk znj zqI;subst znj;subst zqI;exact hX _ (zaS (by kernel_rfl) (zc hs hk (λ hs hk=>(zaO hs λ hc hs=>And.intro hc (zaO hs λ hc hs=>And.intro hc (zaO hs λ hc hs=>And.intro hc (zaO hs λ hc hs=>And.intro hc (zc hs hk (λ hs hk=>(hX5 hs hk rfl rfl)) (λ hs hk=>(zGJ hX5 hs hk rfl rfl rfl rfl)))))))) (λ hs hk=>hk))))) _ hs hk znj zqI
def zqJ (w:web) (zkW:Int) (zaQ:(Sl (Sl Tab))):(Sl step) :=
  (zxM w zaQ zkW true (⟨0,(λ _=>default)⟩:Sl step) (0:Int) zaQ)
def zqK (w:web) (zkW:Int) (zaQ:(Sl (Sl Tab))):Bool :=
  (zxN w zaQ zkW true (⟨0,(λ _=>default)⟩:Sl step) (0:Int) zaQ)
theorem zxO (hs:zqK w zkW zaQ=true) (hk:K (e89 (zqJ w zkW zaQ))) (zGM:zxs=zg zcZ zaQ):z89 K [1,0,1,1,1,1,1] [] ⟨[(0,zP (.fp (zaC w) 0)),(3,zv 21),(5,zI zkW)],[(21,.vec 159 1 24 zaQ.len zxs)],[]⟩:=by subst zGM;exact zaS (by kernel_rfl) (zGL hs hk rfl rfl)
def zxP (S2:Int->(Sl step)) (w:web) (zbf:(Sl (Sl Tab))) (S3:Int->Int->(Sl step)) (zce:Int) (zc5:Int):(Sl step) :=
  (cond (decide (zc5 < (zbf.len : Int)))
 (cond (decide ((tL ((zbf.get zc5.toNat).get zce.toNat) zc5) < (0:Int)))
 (zqJ w zce zbf)
 (S3 zce (w64 (zc5+(1:Int)))))
 (S2 (w64 (zce+(1:Int)))))
def zxQ (P2:Int->Bool) (w:web) (zbf:(Sl (Sl Tab))) (P3:Int->Int->Bool) (zce:Int) (zc5:Int):Bool :=
  (cond (decide (zc5 < (zbf.len : Int)))
 (decide ((0<=zc5/\zc5 < (zbf.len:Int))) &&
 (decide ((zc5.toNat < zbf.len)) &&
 (decide ((0<=zce/\zce < ((zbf.get zc5.toNat).len:Int))) &&
 (decide ((0<=zc5/\zc5 < (40:Int))) &&
 (cond (decide ((tL ((zbf.get zc5.toNat).get zce.toNat) zc5) < (0:Int)))
 (zqK w zce zbf)
 (P3 zce (w64 (zc5+(1:Int)))))))))
 (P2 (w64 (zce+(1:Int)))))
def zxR (S2:Int->(Sl step)) (w:web) (zbf:(Sl (Sl Tab))):Nat->Int->Int->(Sl step):=lpO (λ _ _=>default) (zxP S2 w zbf)
def zxS (P2:Int->Bool) (w:web) (zbf:(Sl (Sl Tab))):Nat->Int->Int->Bool:=lpO (λ _ _=>false) (zxQ P2 w zbf)
def zxT (S2:Int->(Sl step)) (w:web) (zbf:(Sl (Sl Tab))) (zce:Int) (zc5:Int):(Sl step):=zxR S2 w zbf Fuel zce zc5
def zxU (P2:Int->Bool) (w:web) (zbf:(Sl (Sl Tab))) (zce:Int) (zc5:Int):Bool:=zxS P2 w zbf Fuel zce zc5
theorem zGN (hX2:zGD K w zbf X2 P2 S2) (hs:zxU P2 w zbf zce zc5=true) (hk:K (e89 (zxT S2 w zbf zce zc5))):z89 K [1,0,1,1,1,1,0,1,0,0,1,0,0,1,0] [X2] (zEz w zbf zce zc5) :=
  zl (λ X=>z89 K [1,0,1,1,1,1,0,1,0,0,1,0,0,1,0,0] [X2,X]) (by kernel_rfl) λ X3 hX =>
  (show ∀ k, zLh K w zbf X3 (zxS P2 w zbf k) (zxR S2 w zbf k) from zd0 _ _ (zxQ P2 w zbf) (zxP S2 w zbf) (zLh K w zbf X3)
 (by intro _ _ hs;exact absurd hs dqk)
 (by intro P3 S3 hX3 zce zc5 hs hk;exact hX _ (zaS (by kernel_rfl) (zc hs hk (λ hs hk=>(zaO hs λ hc hs=>And.intro hc (zaO hs λ hc hs=>And.intro hc (zaO hs λ hc hs=>And.intro hc (zaO hs λ hc hs=>And.intro hc (zc hs hk (λ hs hk=>(zxO hs hk rfl)) (λ hs hk=>(hX3 hs hk)))))))) (λ hs hk=>(hX2 hs hk)))))) _ hs hk
def zxV (w:web) (zbf:(Sl (Sl Tab))) (S2:Int->(Sl step)) (zcJ:Int):(Sl step) :=
  (cond (decide (zcJ < w.Net.Nodes))
 (zxT S2 w zbf zcJ (0:Int))
 (zqJ w zcJ zbf))
def zxW (w:web) (zbf:(Sl (Sl Tab))) (P2:Int->Bool) (zcJ:Int):Bool :=
  (cond (decide (zcJ < w.Net.Nodes))
 (zxU P2 w zbf zcJ (0:Int))
 (zqK w zcJ zbf))
def zxX (w:web) (zbf:(Sl (Sl Tab))):Nat->Int->(Sl step):=lpO (λ _=>default) (zxV w zbf)
def zxY (w:web) (zbf:(Sl (Sl Tab))):Nat->Int->Bool:=lpO (λ _=>false) (zxW w zbf)
def zxZ (w:web) (zbf:(Sl (Sl Tab))) (zcJ:Int):(Sl step):=zxX w zbf Fuel zcJ
def zx0 (w:web) (zbf:(Sl (Sl Tab))) (zcJ:Int):Bool:=zxY w zbf Fuel zcJ
theorem zGO (hs:zx0 w zbf zcJ=true) (hk:K (e89 (zxZ w zbf zcJ))):z89 K [1,0,1,1,1,1,0,1,0] [] (zEy w zbf zcJ) :=
  zl (λ X=>z89 K [1,0,1,1,1,1,0,1,0,0] [X]) (by kernel_rfl) λ X2 hX =>
  (show ∀ k, zGD K w zbf X2 (zxY w zbf k) (zxX w zbf k) from zd0 _ _ (zxW w zbf) (zxV w zbf) (zGD K w zbf X2)
 (by intro _ hs;exact absurd hs dqk)
 (by intro P2 S2 hX2 zcJ hs hk;exact hX _ (zaS (by kernel_rfl) (zc hs hk (λ hs hk=>(zGN hX2 hs hk)) (λ hs hk=>(zxO hs hk rfl)))))) _ hs hk
def zx1 (w:web) (zbf:(Sl (Sl Tab))):(Sl step) :=
  (zxZ w zbf (1:Int))
def zx2 (w:web) (zbf:(Sl (Sl Tab))):Bool :=
  (zx0 w zbf (1:Int))
theorem zGP (hs:zx2 w zbf=true) (hk:K (e89 (zx1 w zbf))) (zGQ:zxr=zg zcZ zbf):z89 K [1,0,1,1] [] ⟨[(0,zP (.fp (zaC w) 0)),(3,zv 21)],[(21,.vec 159 1 24 zbf.len zxr)],[]⟩:=by subst zGQ;exact zaS (by kernel_rfl) (zGO hs hk)
def zx3 (w:web) (S0:Int->(Sl (Sl Tab))->(Sl step)) (zc1:Int) (zdk:(Sl (Sl Tab))):(Sl step) :=
  (cond (decide (zc1 < (w.Net.Nodes.toNat : Int)))
 (S0 (w64 (zc1+(1:Int))) (⟨zdk.len,(setT zc1.toNat (zGu w zc1 w.Net.Nodes) zdk.get)⟩:Sl (Sl Tab)))
 (zx1 w zdk))
def zx4 (w:web) (P0:Int->(Sl (Sl Tab))->Bool) (zc1:Int) (zdk:(Sl (Sl Tab))):Bool :=
  (cond (decide (zc1 < (w.Net.Nodes.toNat : Int)))
 (decide ((zNM w zc1 w.Net.Nodes=true)) &&
 (decide ((0<=zc1/\zc1 < (zdk.len:Int))) &&
 (decide ((zc1.toNat < zdk.len)) &&
 (P0 (w64 (zc1+(1:Int))) (⟨zdk.len,(setT zc1.toNat (zGu w zc1 w.Net.Nodes) zdk.get)⟩:Sl (Sl Tab))))))
 (zx2 w zdk))
def zx5 (w:web):Nat->Int->(Sl (Sl Tab))->(Sl step):=lpO (λ _ _=>default) (zx3 w)
def zx6 (w:web):Nat->Int->(Sl (Sl Tab))->Bool:=lpO (λ _ _=>false) (zx4 w)
def zx7 (w:web) (zc1:Int) (zdk:(Sl (Sl Tab))):(Sl step):=zx5 w Fuel zc1 zdk
def zx8 (w:web) (zc1:Int) (zdk:(Sl (Sl Tab))):Bool:=zx6 w Fuel zc1 zdk
theorem zGR (hs:zx8 w zc1 zdk=true) (hk:K (e89 (zx7 w zc1 zdk))) (zqL:zfZ=zg zcZ zdk):z89 K [1,0,1,0,1,0] [] (zEx w zc1 zdk zfZ) :=
  zl (λ X=>z89 K [1,0,1,0,1,0,0] [X]) (by kernel_rfl) λ X0 hX =>
  (show ∀ k, zLg K w X0 (zx6 w k) (zx5 w k) from zd0 _ _ (zx4 w) (zx3 w) (zLg K w X0)
 (by intro _ _ _ hs;exact absurd hs dqk)
 (by intro P0 S0 hX0 zc1 zdk zfZ hs hk zqL;subst zqL;exact hX _ (zaS (by kernel_rfl) (zc hs hk (λ hs hk=>(zaO hs λ hc hs=>And.intro (And.intro (zE enc_40 4 w.Net.Ties.get) (And.intro (rfl:((false,1,false,[none]):MQ)=(false,1,false,[none])) hc)) (zaO hs λ hc hs=>And.intro hc (zaO hs λ hc hs=>And.intro hc (hX0 hs hk (zfz (enc:=zcZ) (i:=zc1.toNat) (k:=0) (f:=zdk.get) (new:=(zcZ (zGu w zc1 w.Net.Nodes))) (v:=(zGu w zc1 w.Net.Nodes)) rfl rfl)))))) (λ hs hk=>(zGP hs hk rfl)))))) _ hs hk zqL
def s89 (w:web):(Sl step) :=
  (zx7 w (0:Int) (⟨w.Net.Nodes.toNat,(λ _=>(⟨0,λ _=>(λ _=>(0:Int))⟩:(Sl Tab)))⟩:Sl (Sl Tab)))
def p89 (w:web):Bool :=
  (decide ((0<=w.Net.Nodes/\w.Net.Nodes=w.Net.Nodes/\w.Net.Nodes<=1000000)) &&
 (zx8 w (0:Int) (⟨w.Net.Nodes.toNat,(λ _=>(⟨0,λ _=>(λ _=>(0:Int))⟩:(Sl Tab)))⟩:Sl (Sl Tab))))
end
theorem q89 (w:web) (K:List PA->Prop) (hs:p89 w=true) (hk:K (e89 (s89 w))):vcFun Tryd.prog G89 zxo 89 [.one (.fp (zaC w) 0)] K :=
  zaS (by kernel_rfl) (zaO hs λ hc hs=>And.intro hc (zGR hs hk rfl))
def zC7 : List PA → COut
  | [.one (.fp [.int .i64 zam,.sl zah zaA zai,.fm za3 zaD zaE] 0)]=>.det (IsE enc_40 4 zaA zai/\za3=(false,1,false,[none])/\p89 (⟨(⟨zam,(⟨zah,zal zai⟩:(Sl Tie))⟩:Net),(⟨zaD,zaE⟩:Mp)⟩:web)=true) [.one (.sl ((s89 (⟨(⟨zam,(⟨zah,zal zai⟩:(Sl Tie))⟩:Net),(⟨zaD,zaE⟩:Mp)⟩:web)).len) 5 (λ i=>zaG ((s89 (⟨(⟨zam,(⟨zah,zal zai⟩:(Sl Tie))⟩:Net),(⟨zaD,zaE⟩:Mp)⟩:web)).get i)))]
  | _=>.no
theorem zLj:zar Tryd.prog 89:=⟨_,rfl,rfl,by kernel_rfl⟩
theorem zPu:Ok Tryd.prog 89 zC7:=zbc zNY zLj λ args K h=>by
  unfold zC7 at h
  split at h
  · rename_i zam zah zaA zai za3 zaD zaE
    obtain⟨⟨⟨rfl,zas,rfl⟩,rfl,hs⟩,hk⟩:=h
    try rw[zaj zas] at hs
    try rw[zaj zas] at hk
    exact⟨(λ _ _=>[]),(λ _=>false),zxo,q89 (⟨(⟨zam,(⟨zah,zas⟩:(Sl Tie))⟩:Net),(⟨zaD,zaE⟩:Mp)⟩:web) K hs hk⟩
  · exact h.elim
end Go.Proofs
/-
  DERIVED: THE SHELF's CONTRACTS AT THIS DUMP,IN PLAIN WORDS (tools/lay-plain.mjs out of 'YtedhjaaikeakoaaDoorPmLk.lean',which tools/lay-shelf.mjs wrote): THE SAME DECLARATIONS UNDER THE SAME NAMES: 'import','namespace','open','def','theorem' AND NOTHING ELSE: no command of the shelf's: FOR A HAND-IN. Each laying: the table of numbers ('.._ren') and one theorem,a field a fact of the dump's own or the kernel's comparison;each contract: ONE APPLICATION.
-/
namespace Go.Proofs
open Go.Shelf
def Tryd.keysA_ren:Go.Shelf.Ren:=⟨fun | 7=>103 | 10=>117 | n=>n,fun | 23=>103 | 26=>3 | 3=>4 | 28=>152 | 0=>0 | 27=>151 | 33=>169 | 4=>4 | n=>n,fun | n=>n⟩
theorem Tryd.keysA : Go.Proofs.SlLaysZI.n7 Tryd.prog Tryd.keysA_ren := {
  mixed:=by kernel_rfl
  f7:=⟨Tryd.f103.name,by decide,Tryd.func103.trans (congrArg some (by kernel_rfl))⟩
  f10:=⟨Tryd.f117.name,by decide,Tryd.func117.trans (congrArg some (by kernel_rfl))⟩
  t0:=Tryd.underlying0
  a0:=Tryd.isAgg0
  z0:=Tryd.sizeOf0
  v0:=Tryd.zeroValue0
  t4:=Tryd.underlying4
  a4:=Tryd.isAgg4
  z4:=Tryd.sizeOf4
  v4:=Tryd.zeroValue4
  t23:=Tryd.underlying103
  a23:=Tryd.isAgg103
  z23:=Tryd.sizeOf103
  v23:=Tryd.zeroValue103
  t26:=Tryd.underlying3
  a26:=Tryd.isAgg3
  z26:=Tryd.sizeOf3
  v26:=Tryd.zeroValue3
  t27:=Tryd.underlying151
  a27:=Tryd.isAgg151
  z27:=Tryd.sizeOf151
  v27:=Tryd.zeroValue151
  t28:=Tryd.underlying152
  a28:=Tryd.isAgg152
  z28:=Tryd.sizeOf152
  v28:=Tryd.zeroValue152
  t33:=Tryd.underlying169
  a33:=Tryd.isAgg169
  z33:=Tryd.sizeOf169
  v33:=Tryd.zeroValue169 }
def Tryd.sortedA_ren:Go.Shelf.Ren:=⟨fun | 6=>102 | 8=>115 | 9=>116 | 11=>129 | 13=>113 | 12=>130 | 23=>127 | 24=>128 | 14=>136 | 15=>137 | 16=>138 | 17=>139 | 18=>140 | 19=>141 | 20=>142 | 21=>143 | 22=>144 | 25=>146 | 26=>132 | 27=>133 | 28=>147 | 29=>148 | 30=>114 | 31=>149 | n=>n,fun | 26=>3 | 28=>152 | 24=>27 | 0=>0 | 3=>3 | 37=>168 | 48=>182 | 50=>184 | 4=>4 | 40=>175 | 39=>174 | 45=>179 | 5=>5 | 9=>9 | 51=>187 | 55=>191 | 57=>199 | 58=>200 | 33=>169 | n=>n,fun | n=>n⟩
theorem Tryd.sortedA : Go.Proofs.SlLaysZI.n6 Tryd.prog Tryd.sortedA_ren := {
  mixed:=by kernel_rfl
  f6:=⟨Tryd.f102.name,by decide,Tryd.func102.trans (congrArg some (by kernel_rfl))⟩
  f8:=⟨Tryd.f115.name,by decide,Tryd.func115.trans (congrArg some (by kernel_rfl))⟩
  f11:=⟨Tryd.f129.name,by decide,Tryd.func129.trans (congrArg some (by kernel_rfl))⟩
  t0:=Tryd.underlying0
  a0:=Tryd.isAgg0
  z0:=Tryd.sizeOf0
  v0:=Tryd.zeroValue0
  t24:=Tryd.underlying27
  a24:=Tryd.isAgg27
  z24:=Tryd.sizeOf27
  v24:=Tryd.zeroValue27
  t26:=Tryd.underlying3
  a26:=Tryd.isAgg3
  z26:=Tryd.sizeOf3
  v26:=Tryd.zeroValue3
  t28:=Tryd.underlying152
  a28:=Tryd.isAgg152
  z28:=Tryd.sizeOf152
  v28:=Tryd.zeroValue152
  i26:=by kernel_rfl }
def Tryd.sortA_ren:Go.Shelf.Ren:=⟨fun | 5=>116 | 8=>113 | 7=>130 | 19=>127 | 20=>128 | 10=>136 | 11=>137 | 12=>138 | 13=>139 | 14=>140 | 15=>141 | 16=>142 | 17=>143 | 18=>144 | 30=>146 | 31=>132 | 32=>133 | 33=>147 | 34=>148 | 35=>114 | 40=>149 | n=>n,fun | 23=>27 | 25=>3 | 3=>3 | 32=>168 | 22=>27 | 0=>0 | 44=>182 | 46=>184 | 4=>4 | 36=>175 | 35=>174 | 41=>179 | 5=>5 | 9=>9 | 53=>187 | 57=>191 | 63=>199 | 64=>200 | n=>n,fun | n=>n⟩
theorem Tryd.sortA : Go.Proofs.SlLaysM.n5 Tryd.prog Tryd.sortA_ren := {
  mixed:=by kernel_rfl
  f5:=⟨Tryd.f116.name,by decide,Tryd.func116.trans (congrArg some (by kernel_rfl))⟩
  f7:=⟨Tryd.f130.name,by decide,Tryd.func130.trans (congrArg some (by kernel_rfl))⟩
  f8:=Tryd.func113.trans (congrArg some (by kernel_rfl))
  f10:=⟨Tryd.f136.name,by decide,Tryd.func136.trans (congrArg some (by kernel_rfl))⟩
  f11:=⟨Tryd.f137.name,by decide,Tryd.func137.trans (congrArg some (by kernel_rfl))⟩
  f12:=⟨Tryd.f138.name,by decide,Tryd.func138.trans (congrArg some (by kernel_rfl))⟩
  f13:=⟨Tryd.f139.name,by decide,Tryd.func139.trans (congrArg some (by kernel_rfl))⟩
  f14:=⟨Tryd.f140.name,by decide,Tryd.func140.trans (congrArg some (by kernel_rfl))⟩
  f15:=⟨Tryd.f141.name,by decide,Tryd.func141.trans (congrArg some (by kernel_rfl))⟩
  f16:=⟨Tryd.f142.name,by decide,Tryd.func142.trans (congrArg some (by kernel_rfl))⟩
  f17:=⟨Tryd.f143.name,by decide,Tryd.func143.trans (congrArg some (by kernel_rfl))⟩
  f18:=⟨Tryd.f144.name,by decide,Tryd.func144.trans (congrArg some (by kernel_rfl))⟩
  f19:=Tryd.func127.trans (congrArg some (by kernel_rfl))
  f20:=Tryd.func128.trans (congrArg some (by kernel_rfl))
  f30:=⟨Tryd.f146.name,by decide,Tryd.func146.trans (congrArg some (by kernel_rfl))⟩
  f31:=Tryd.func132.trans (congrArg some (by kernel_rfl))
  f32:=Tryd.func133.trans (congrArg some (by kernel_rfl))
  f33:=⟨Tryd.f147.name,by decide,Tryd.func147.trans (congrArg some (by kernel_rfl))⟩
  f34:=⟨Tryd.f148.name,by decide,Tryd.func148.trans (congrArg some (by kernel_rfl))⟩
  f35:=⟨Tryd.f114.name,by decide,Tryd.func114.trans (congrArg some (by kernel_rfl))⟩
  f40:=⟨Tryd.f149.name,by decide,Tryd.func149.trans (congrArg some (by kernel_rfl))⟩
  t0:=Tryd.underlying0
  a0:=Tryd.isAgg0
  z0:=Tryd.sizeOf0
  v0:=Tryd.zeroValue0
  t3:=Tryd.underlying3
  a3:=Tryd.isAgg3
  z3:=Tryd.sizeOf3
  v3:=Tryd.zeroValue3
  t4:=Tryd.underlying4
  a4:=Tryd.isAgg4
  z4:=Tryd.sizeOf4
  v4:=Tryd.zeroValue4
  t5:=Tryd.underlying5
  a5:=Tryd.isAgg5
  z5:=Tryd.sizeOf5
  v5:=Tryd.zeroValue5
  t9:=Tryd.underlying9
  a9:=Tryd.isAgg9
  z9:=Tryd.sizeOf9
  v9:=Tryd.zeroValue9
  t22:=Tryd.underlying27
  a22:=Tryd.isAgg27
  z22:=Tryd.sizeOf27
  v22:=Tryd.zeroValue27
  t23:=Tryd.underlying27
  a23:=Tryd.isAgg27
  z23:=Tryd.sizeOf27
  v23:=Tryd.zeroValue27
  t25:=Tryd.underlying3
  a25:=Tryd.isAgg3
  z25:=Tryd.sizeOf3
  v25:=Tryd.zeroValue3
  t32:=Tryd.underlying168
  a32:=Tryd.isAgg168
  z32:=Tryd.sizeOf168
  v32:=Tryd.zeroValue168
  t35:=Tryd.underlying174
  a35:=Tryd.isAgg174
  z35:=Tryd.sizeOf174
  v35:=Tryd.zeroValue174
  t36:=Tryd.underlying175
  a36:=Tryd.isAgg175
  z36:=Tryd.sizeOf175
  v36:=Tryd.zeroValue175
  t41:=Tryd.underlying179
  a41:=Tryd.isAgg179
  z41:=Tryd.sizeOf179
  v41:=Tryd.zeroValue179
  t44:=Tryd.underlying182
  a44:=Tryd.isAgg182
  z44:=Tryd.sizeOf182
  v44:=Tryd.zeroValue182
  t46:=Tryd.underlying184
  a46:=Tryd.isAgg184
  z46:=Tryd.sizeOf184
  v46:=Tryd.zeroValue184
  t53:=Tryd.underlying187
  a53:=Tryd.isAgg187
  z53:=Tryd.sizeOf187
  v53:=Tryd.zeroValue187
  t57:=Tryd.underlying191
  a57:=Tryd.isAgg191
  z57:=Tryd.sizeOf191
  v57:=Tryd.zeroValue191
  t63:=Tryd.underlying199
  a63:=Tryd.isAgg199
  z63:=Tryd.sizeOf199
  v63:=Tryd.zeroValue199
  t64:=Tryd.underlying200
  a64:=Tryd.isAgg200
  z64:=Tryd.sizeOf200
  v64:=Tryd.zeroValue200 }
end Go.Proofs
namespace Go.Pm
open Go.RowKit Go.Maps Go.Sort Go.Shelf Go.Proofs
set_option maxRecDepth 100000

theorem zkZ {F : List Int → Option (List Int)} : ∀ (f : Nat) (i : Int) (n : Nat) (l : List Int), zuZ F f i n = some l → l.length = n ∧ (∀ x ∈ l, F [x] ≠ none ∧ i ≤ x ∧ x < i + f) ∧ l.Pairwise (· < ·)
  | _,_,0,l,h=>by simp[zuZ] at h;subst h;exact⟨rfl,λ x hx=>by simp at hx,List.Pairwise.nil⟩
  | 0,_,n+1,l,h=>by simp[zuZ] at h
  | f+1,i,n+1,l,h=>by
    simp only[zuZ] at h
    split at h
    · rename_i v hv
      split at h
      · rename_i r hr
        simp only[dqa] at h;subst h
        obtain⟨h1,h2,h3⟩:=zkZ f (i+1) n r hr
        refine⟨by simp[h1],λ x hx=>?_,List.pairwise_cons.2 ⟨λ x hx=>by have:=h2 x hx;omega,h3⟩⟩
        rcases dqq.1 hx with rfl | hx
        · exact⟨by rw[hv];simp,by omega,by omega⟩
        · have:=h2 x hx;exact⟨this.1,by omega,by omega⟩
      · cases h
    · obtain ⟨h1, h2, h3⟩ := zkZ f (i + 1) (n + 1) l h
      exact⟨h1,λ x hx=>by have:=h2 x hx;exact⟨this.1,by omega,by omega⟩,h3⟩
theorem zk0 {α : Type} [DecidableEq α] : ∀ {l m : List α}, l.Nodup → (∀ x ∈ l, x ∈ m) → m.length ≤ l.length → l.Perm m
  | [],m,_,_,h=>by
    have:m=[]:=List.eq_nil_of_length_eq_zero (by simpa using h)
    subst this;exact .refl _
  | a :: l,m,hn,hs,h=>by
    obtain⟨h1,h2⟩:=List.nodup_cons.1 hn
    have ha:=hs a dqj
    have hp:=List.perm_cons_erase ha
    refine (List.Perm.cons a (zk0 h2 (λ x hx=>?_) ?_)).trans hp.symm
    · exact (List.mem_erase_of_ne (λ e=>h1 (by rw[<- e];exact hx))).2 (hs x (dqf _ hx))
    · have := hp.length_eq
      simp at this h
      omega

theorem zC8:zjX Tryd.prog 103 (.keys 117):=λ w mb=>by
 refine⟨⟨_,rfl,rfl,by kernel_rfl⟩,?_⟩
 have c:CallsIn Fence.wide 5 Tryd.prog 103 #[.map (some mb)] w λ e w'=>e=.returned (.func (.func 117) #[] #[.pointer (some ⟨w.heap.size,0,none⟩)])/\w'=w.alloc (.cells #[.map (some mb)] 103):=AnyZI.keys_in Tryd.keysA Fence.wide 5 trivial rfl (some mb) w
 refine ((callsIn_wide (n:=5)).1 c).mono ?_
 rintro e w' ⟨rfl,rfl⟩
 exact⟨rfl,_,rfl⟩
theorem sortsA (m:Nat):AnyZI.SortsIn Tryd.prog Tryd.sortedA_ren Fence.wide m :=
  ⟨λ blk off cap ss W hH hblk hsz=>callsIn_wide.2 (AnyM.slices_Sort_int Tryd.sortA blk off cap ss W hH hblk hsz),
   λ p cap W=>callsIn_wide.2 (AnyM.slices_Sort_int_none Tryd.sortA p cap W)⟩

def rdN:Value->Option (DataW Unit×List MemPlace):=λ _=>some (.nil,[])
theorem zuR:zjX Tryd.prog 102 (.sorted 117):=λ w h k mb C ty fr es clock vt q n F hw hk hC hb hE hm hn hky=>by
 refine⟨⟨_,rfl,rfl,by kernel_rfl⟩,?_⟩
 obtain⟨en,M⟩:=hm
 have E:=zgT hE
 have hq1:q.1=false:=by
  have e:=E.kag
  rw[show zeP Tryd.prog 3=some false by kernel_rfl] at e
  exact (Option.some.inj e).symm
 have hq2:q.2.1=1:=by
  have e:=E.key
  rw[show zdO Tryd.prog 8 3=some 1 by kernel_rfl] at e
  exact (Option.some.inj e).symm
 obtain⟨l,hl⟩:=Option.isSome_iff_exists.1 hky
 have hll:zu0 F n=l:=by unfold zu0;rw[hl];rfl
 obtain⟨l1,l2,l3⟩:=zkZ _ _ _ _ hl
 rw[hll]
 have one:∀ x∈en,x.1=[x.1.headD 0]:=λ x hx=>by
  have:=(M.len x hx).1
  rw[hq2] at this
  match x.1,this with
  | [a],_=>rfl
 have hkeys:es.toList.map (·.key)=(en.map λ x=>x.1.headD 0).map encZ:=by
  have:=congrArg (List.map Prod.fst) M.ents
  simp only[List.map_map] at this ⊢
  refine (show es.toList.map (·.key)=_ from this).trans (List.map_congr_left λ x hx=>?_)
  show zbz q.1 x.1=encZ (x.1.headD 0)
  rw[hq1];rfl
 have hkn:(en.map λ x=>x.1.headD 0).Nodup:=by
  have:(en.map (·.1))=(en.map λ x=>x.1.headD 0).map λ a=>[a]:=by
   rw[List.map_map];exact List.map_congr_left λ x hx=>one x hx
  have hd:=M.nodup
  rw[this] at hd
  exact (List.pairwise_map.1 hd).imp λ h e=>h (by rw[e])
 have hperm:l.Perm (en.map λ x=>x.1.headD 0):=by
  refine zk0 (l3.imp λ h=>Int.ne_of_lt h) (λ x hx=>?_) (by rw[List.length_map,<- M.size,l1];exact dqt _)
  have h1:=(l2 x hx).1
  rw[M.find [x] (by rw[hq2];rfl)] at h1
  by_cases hex:∃ y∈en,y.1=[x]
  ·obtain ⟨y, hy, e⟩ := hex
   exact dqz.2 ⟨y,hy,by rw[e];rfl⟩
  ·exact absurd (zgu λ y hy e=>hex ⟨y,hy,e⟩) h1
 have hread:∀ x∈es.toList,∃ a:Int,x.key=encZ a/\keyOf Tryd.prog 3 x.key=some (.int .i64 a):=λ x hx=>by
  have hm:x.key∈es.toList.map (·.key):=dqz.2 ⟨x,hx,rfl⟩
  rw[hkeys] at hm
  obtain⟨a,ha,e⟩:=dqz.1 hm
  have hb:=(l2 a (hperm.mem_iff.2 ha)).2
  refine⟨a,e.symm,?_⟩
  rw[<- e]
  have hu:Tryd.prog.underlying 3=some (.int .i64):=Tryd.underlying3
  have hwf:(Lit.int .i64 a).wf=true:=by
   simp only[Lit.wf,dqm,decide_eq_true_eq]
   have e1:IntKind.i64.min = -9223372036854775808:=by decide
   have e2:IntKind.i64.max=9223372036854775807:=by decide
   rw[e1,e2]
   have:=hb.2
   omega
  simp[keyOf,mapKey,hu,hwf]
 have hsize:es.size=n:=by
  have:=congrArg List.length M.ents
  simp at this
  rw[this,M.size]
 have hst:MapKept.Stamped es clock:=⟨M.born,M.bornN,by rw[hkeys];exact List.pairwise_map.2 (hkn.imp λ h e=>h (encZ_inj e))⟩
 have hown:w.ownsMap Tryd.prog 3 rdN mb n (.map ((es.toList.map (WideElems.rg Tryd.prog 3 rdN)).foldr DataW.insert [])) :=
  ⟨es,clock,hb,⟨by rw[hsize];exact dqE hn (by decide),hst,λ x hx=>by
   obtain⟨a,e1,e2⟩:=hread x hx
   exact⟨(.int .i64 a,.nil),by simp only[WideElems.rd,e2,rdN,Option.bind_some,Option.map_some]⟩⟩,by omega,rfl⟩
 have hik:(intKeys (.map ((es.toList.map (WideElems.rg Tryd.prog 3 rdN)).foldr DataW.insert []))).Perm l:=by
  show (((es.toList.map (WideElems.rg Tryd.prog 3 rdN)).foldr DataW.insert []).map λ p=>intOf p.1).Perm l
  refine ((WideShapes.sorted_perm _).map _).trans (List.Perm.trans (List.Perm.of_eq ?_) hperm.symm)
  rw[List.map_map]
  have e:(en.map λ x=>x.1.headD 0)=es.toList.map λ x=>intOf ((keyOf Tryd.prog 3 x.key).getD (.bool false)):=by
   have h1:(en.map λ x=>x.1.headD 0)=((en.map λ x=>x.1.headD 0).map encZ).map λ v=>match v with | .int _ a=>a | _=>0:=by
    rw[List.map_map];exact (List.map_id _).symm
   rw[h1,<- hkeys,List.map_map]
   refine List.map_congr_left λ x hx=>?_
   obtain⟨a,e1,e2⟩:=hread x hx
   simp only[Function.comp,e2]
   rw[e1];rfl
  rw[e]
  refine List.map_congr_left λ x hx=>?_
  obtain⟨a,e1,e2⟩:=hread x hx
  simp only[Function.comp,WideElems.rg,WideElems.rd,e2,rdN,Option.bind_some,Option.map_some,Option.getD_some]
 have hsz:Maps.size (DataW.map ((es.toList.map (WideElems.rg Tryd.prog 3 rdN)).foldr DataW.insert []):DataW Unit)=n:=by
  show List.length _=n
  rw[(WideShapes.sorted_perm _).length_eq];simp[hsize]
 have hlt:k < w.heap.size:=hw.lt hk
 have hcell:w.cell? ⟨k,0,none⟩=some (.map (some mb)):=by
  have:=hw.fz hk
  simp[World.cell?,this,hC]
 have hseq:SeqGives Fence.wide 2 Tryd.prog 117 #[.pointer (some ⟨k,0,none⟩)] encZ (λ ss=>ss.Perm (intKeys _)) (Maps.size _) w :=
  AnyZI.keys_gives (ρ:=Tryd.keysA_ren) { Tryd.keysA with } Fence.wide _ trivial rfl (by omega) k mb n _ w hlt hcell hown
 have cS:=AnyZI.sorted_in Tryd.sortedA Fence.wide 5 trivial trivial trivial trivial rfl (by omega) (sortsA _) (enters_of Tryd.func116 (by kernel_rfl) rfl) 117 #[.pointer (some ⟨k,0,none⟩)] trivial (enters_of Tryd.func117 (by kernel_rfl) rfl) _ _ (by rw[hsz];exact dqE hn (by decide)) (by rw[hsz];omega) _ hseq
 change CallsIn _ _ Tryd.prog 102 _ _ _ at cS
 refine ((callsIn_wide (n:=5)).1 cS).mono ?_
 rintro e w' ⟨v,ss,rfl,hS,hrow,_,hbel⟩
 refine⟨v,rfl,?_,⟨hbel,Nat.zero_le _⟩⟩
 have hsl:ss.mergeSort (λ x y=>decide (x<=y))=l:=by
  rw[show ss.mergeSort (λ x y=>decide (x<=y))=l.mergeSort leI from mergeSort_of_perm_i (hS.trans hik)]
  exact List.mergeSort_of_pairwise (l3.imp λ h=>by simp only[leI,decide_eq_true_eq];exact Int.le_of_lt h)
 have hlen:ss.length=n:=by rw[(hS.trans hik).length_eq,l1]
 rw[hsl,hlen] at hrow
 exact hrow
end Go.Pm
namespace Go.Proofs
open Go Go.Pm
set_option maxRecDepth 100000
set_option linter.unusedVariables false
attribute [local irreducible] Go.Pm.vcFun Go.Pm.vc Go.Pm.vcIter
abbrev zEC:OwnK:=.sorted 117
theorem zNZ:zjX Tryd.prog 102 zEC:=zuR
abbrev zED:OwnK:=.keys 117
theorem zN0:zjX Tryd.prog 103 zED:=zC8
structure Rec69 where
  S:web->Int->((Sl (Sl Int))×web)
  P:web->Int->Bool
class Slf69 where
  r:Rec69
section
variable [Slf69]
def zx9 : MK
  | [.box 105 [.p (.int .i64 zaz),.p (.sl zav zbC zau),.mo 3 4 zdt zaT zaU],.d (.one (.int .i64 b1))]=>some (IsE enc_40 4 zbC zau/\zdt=(false,1,false,[none])/\Slf69.r.P (⟨(⟨zaz,(⟨zav,zal zau⟩:(Sl Tie))⟩:Net),(⟨zaT,zaU⟩:Mp)⟩:web) b1=true,[.one (.sl (((Slf69.r.S (⟨(⟨zaz,(⟨zav,zal zau⟩:(Sl Tie))⟩:Net),(⟨zaT,zaU⟩:Mp)⟩:web) b1).1).len) 1 (λ i=>zb5 (((Slf69.r.S (⟨(⟨zaz,(⟨zav,zal zau⟩:(Sl Tie))⟩:Net),(⟨zaT,zaU⟩:Mp)⟩:web) b1).1).get i)))],[.box 105 [.p (.int .i64 (((Slf69.r.S (⟨(⟨zaz,(⟨zav,zal zau⟩:(Sl Tie))⟩:Net),(⟨zaT,zaU⟩:Mp)⟩:web) b1).2).Net.Nodes)),.p (.sl (((Slf69.r.S (⟨(⟨zaz,(⟨zav,zal zau⟩:(Sl Tie))⟩:Net),(⟨zaT,zaU⟩:Mp)⟩:web) b1).2).Net.Ties.len) 4 (λ i=>enc_40 (((Slf69.r.S (⟨(⟨zaz,(⟨zav,zal zau⟩:(Sl Tie))⟩:Net),(⟨zaT,zaU⟩:Mp)⟩:web) b1).2).Net.Ties.get i))),.mo 3 4 (false,1,false,[none]) ((((Slf69.r.S (⟨(⟨zaz,(⟨zav,zal zau⟩:(Sl Tie))⟩:Net),(⟨zaT,zaU⟩:Mp)⟩:web) b1).2).out).n) ((((Slf69.r.S (⟨(⟨zaz,(⟨zav,zal zau⟩:(Sl Tie))⟩:Net),(⟨zaT,zaU⟩:Mp)⟩:web) b1).2).out).F)],.d (.one (.int .i64 b1))])
  | _=>none
abbrev T69:Tabs:=(((((Tabs.nil.addF 88 zwZ).addF 89 zC7).addO 102 zEC).addO 103 zED).addM 69 zx9)
theorem zN1 (hself:zjt Tryd.prog 69 zx9):TabsOk Tryd.prog T69:=(((((TabsOk.nil.addF zNJ).addF zPu).addO zNZ).addO zN0).addM hself)
abbrev zC9:Ctrs:=csm T69 (λ _ _=>[]) (λ _=>false)
def zfB:Ann:=⟨57,[(0,zK [0,1] [0,12288]),(1,zK [0,1,10] [0,12288]),(2,zK [0,4] [0,17,12288]),(3,zK [0,1,19] [0,12288]),(4,zK [0,4] [0,12288]),(5,zK [0,1,5] [0,12288]),(6,zK [0,1,5,21,22,23] [0,12288]),(7,zK [0,1,5,21,22,23,24] [0,47,12288]),(8,zK [0,1,5,7,21,22,23] [0,7,47,12288]),(9,zK [0,1,5,7,21,22,23,34] [0,7,47,12288]),(10,zK [0,1,5,7,21,22,23] [0,7,47,12288]),(11,zK [0,1,5,7,21,22,23] [0,7,47,12288]),(12,zK [0,1,5,21,22,23] [0,47,12288]),(13,zK [0,1,5,21,22,23] [0,47,12288]),(14,zK [0,4] [0,47,12288])],
 [(7,⟨[0,1,5,21,22,23],[0,47,12288],[(5,47,27,λ _=>zb5 default)],[],[],[],[]⟩)],
 [],
 [],[]⟩
def zf2 (w:web) (left:Int) (zaH:Int) (za2:Int) (zf3:Nat) (zcr:Nat->List PV) (zf4:Nat) (zcs:Nat->List PV) (zak:Nat) (zaa:(List Int->Option (List Int))):St:=⟨[(0,.one (.c (.ptr 0 0))),(1,.one (.c (.p (.int .i64 left)))),(5,.one (.c (.vec 47))),(21,.one (.c (.p (.sl ((s89 w).len) 5 (λ i=>zaG ((s89 w).get i)))))),(22,.one (.c (.p (.int .i64 ((s89 w).len:Int))))),(23,.one (.c (.p (.int .i64 zaH))))],[(0,.box 105 [.p (.int .i64 za2),.p (.sl zf3 4 zcr),.mo 12288]),(47,.vec 27 1 24 zf4 zcs),(12288,.mo 3 4 (false,1,false,[none]) zak zaa)],[]⟩
def zhV (K:List PA×List XA->Prop) (w:web) (left:Int) (zaH:Int) (za2:Int) (zf3:Nat) (zcr:Nat->List PV) (zf4:Nat) (zcs:Nat->List PV) (zak:Nat) (zaa:(List Int->Option (List Int))):Prop:=vc Tryd.prog zC9 zfB (cdF Tryd.f69 [1,1,1,1,0,1,0]) (zfv 0 (sqK Tryd.prog zC9 zfB (cdF Tryd.f69 [1,1,1,1,1]) (zlA Tryd.prog Tryd.f69 [.box 105 [.p (.int .i64 w.Net.Nodes),.p (.sl w.Net.Ties.len 4 (λ i=>enc_40 (w.Net.Ties.get i))),.mo 3 4 (false,1,false,[none]) w.out.n w.out.F],.d (.one (.int .i64 left))] (λ a b=>K (a,b))))) (zf2 w left zaH za2 zf3 zcr zf4 zcs zak zaa)
theorem zDa (w : web) (left : Int) (K : List PA × List XA → Prop) :
  zkL Tryd.prog zC9 zfB 69 [.box 105 [.p (.int .i64 w.Net.Nodes),.p (.sl w.Net.Ties.len 4 (λ i=>enc_40 (w.Net.Ties.get i))),.mo 3 4 (false,1,false,[none]) w.out.n w.out.F],.d (.one (.int .i64 left))] (λ a b=>K (a,b)) =
  ((IsE enc_40 4 4 (λ i=>enc_40 (w.Net.Ties.get i))/\((false,1,false,[none]):MQ)=(false,1,false,[none])/\(p88 w=true)) /\
 (zdw (!(s88 w))
 (((w.out.n<=1000000/\(zuZ w.out.F 9223372036854775808 0 w.out.n).isSome=true)) /\
 (K ([.one (.sl 1 1 (λ _=>(zb5 (⟨w.out.n,(λ i=>(zu0 w.out.F w.out.n).getD i 0)⟩:(Sl Int)))))],[.box 105 [.p (.int .i64 w.Net.Nodes),.p (.sl w.Net.Ties.len 4 (λ i=>enc_40 (w.Net.Ties.get i))),.mo 3 4 (false,1,false,[none]) w.out.n w.out.F],.d (.one (.int .i64 left))])))
 (zdw (left == (0:Int))
 (K ([.one (.nils)],[.box 105 [.p (.int .i64 w.Net.Nodes),.p (.sl w.Net.Ties.len 4 (λ i=>enc_40 (w.Net.Ties.get i))),.mo 3 4 (false,1,false,[none]) w.out.n w.out.F],.d (.one (.int .i64 left))]))
 (((∀ i,sc2 ((λ i=>zaG ((s89 w).get i)) i)=true)/\IsE enc_40 4 4 (λ i=>enc_40 (w.Net.Ties.get i))/\((false,1,false,[none]):MQ)=(false,1,false,[none])/\(p89 w=true)) /\
 (zhV K w left (0:Int) w.Net.Nodes w.Net.Ties.len (λ i=>enc_40 (w.Net.Ties.get i)) 0 (λ i=>zb5 ((λ _=>default) i)) w.out.n w.out.F))))):=by kernel_rfl
def zmf (K:List PA×List XA->Prop) (X0:St->Prop) (w:web) (left:Int) (zaH:Int) (za2:Int) (za5:(Sl Tie)) (zbs:(Sl (Sl Int))) (zak:Nat) (zaa:(List Int->Option (List Int))):Prop :=
  (zdw (decide (zaH < ((s89 w).len : Int)))
 (((0<=zaH/\zaH < ((s89 w).len:Int))) /\
 (zdw ((zlw (zaa [((s89 w).get zaH.toNat).Use.Tie]) 0) != 0)
 (X0 (zf2 w left (w64 (zaH+(1:Int))) za2 za5.len (λ i=>enc_40 (za5.get i)) zbs.len (λ i=>zb5 (zbs.get i)) zak zaa))
 ((IsE enc_40 4 4 (λ i=>enc_40 (za5.get i))/\((false,1,false,[none]):MQ)=(false,1,false,[none])/\(Slf69.r.P (⟨(⟨za2,za5⟩:Net),(⟨(addN (zaa [((s89 w).get zaH.toNat).Use.Tie]) zak),(zcV [((s89 w).get zaH.toNat).Use.Tie] [1] zaa)⟩:Mp)⟩:web) (w64 (left - (1:Int)))=true)) /\
 ((((zbs.len+((Slf69.r.S (⟨(⟨za2,za5⟩:Net),(⟨(addN (zaa [((s89 w).get zaH.toNat).Use.Tie]) zak),(zcV [((s89 w).get zaH.toNat).Use.Tie] [1] zaa)⟩:Mp)⟩:web) (w64 (left - (1:Int)))).1).len) * 24<=140737488355328/\zbs.len+((Slf69.r.S (⟨(⟨za2,za5⟩:Net),(⟨(addN (zaa [((s89 w).get zaH.toNat).Use.Tie]) zak),(zcV [((s89 w).get zaH.toNat).Use.Tie] [1] zaa)⟩:Mp)⟩:web) (w64 (left - (1:Int)))).1).len<=9223372036854775807)) /\
 (X0 (zf2 w left (w64 (zaH+(1:Int))) (((Slf69.r.S (⟨(⟨za2,za5⟩:Net),(⟨(addN (zaa [((s89 w).get zaH.toNat).Use.Tie]) zak),(zcV [((s89 w).get zaH.toNat).Use.Tie] [1] zaa)⟩:Mp)⟩:web) (w64 (left - (1:Int)))).2).Net.Nodes) (((Slf69.r.S (⟨(⟨za2,za5⟩:Net),(⟨(addN (zaa [((s89 w).get zaH.toNat).Use.Tie]) zak),(zcV [((s89 w).get zaH.toNat).Use.Tie] [1] zaa)⟩:Mp)⟩:web) (w64 (left - (1:Int)))).2).Net.Ties.len) (λ i=>enc_40 (((Slf69.r.S (⟨(⟨za2,za5⟩:Net),(⟨(addN (zaa [((s89 w).get zaH.toNat).Use.Tie]) zak),(zcV [((s89 w).get zaH.toNat).Use.Tie] [1] zaa)⟩:Mp)⟩:web) (w64 (left - (1:Int)))).2).Net.Ties.get i)) (zbs.len+((Slf69.r.S (⟨(⟨za2,za5⟩:Net),(⟨(addN (zaa [((s89 w).get zaH.toNat).Use.Tie]) zak),(zcV [((s89 w).get zaH.toNat).Use.Tie] [1] zaa)⟩:Mp)⟩:web) (w64 (left - (1:Int)))).1).len) (appG zbs.len (λ i=>zb5 (zbs.get i)) (λ i=>zb5 (((Slf69.r.S (⟨(⟨za2,za5⟩:Net),(⟨(addN (zaa [((s89 w).get zaH.toNat).Use.Tie]) zak),(zcV [((s89 w).get zaH.toNat).Use.Tie] [1] zaa)⟩:Mp)⟩:web) (w64 (left - (1:Int)))).1).get i))) (zu7 (((((Slf69.r.S (⟨(⟨za2,za5⟩:Net),(⟨(addN (zaa [((s89 w).get zaH.toNat).Use.Tie]) zak),(zcV [((s89 w).get zaH.toNat).Use.Tie] [1] zaa)⟩:Mp)⟩:web) (w64 (left - (1:Int)))).2).out).F) [((s89 w).get zaH.toNat).Use.Tie]) ((((Slf69.r.S (⟨(⟨za2,za5⟩:Net),(⟨(addN (zaa [((s89 w).get zaH.toNat).Use.Tie]) zak),(zcV [((s89 w).get zaH.toNat).Use.Tie] [1] zaa)⟩:Mp)⟩:web) (w64 (left - (1:Int)))).2).out).n)) (zug [((s89 w).get zaH.toNat).Use.Tie] ((((Slf69.r.S (⟨(⟨za2,za5⟩:Net),(⟨(addN (zaa [((s89 w).get zaH.toNat).Use.Tie]) zak),(zcV [((s89 w).get zaH.toNat).Use.Tie] [1] zaa)⟩:Mp)⟩:web) (w64 (left - (1:Int)))).2).out).F))))))))
 (K ([.one (.sl zbs.len 1 (λ i=>zb5 (zbs.get i)))],[.box 105 [.p (.int .i64 za2),.p (.sl za5.len 4 (λ i=>enc_40 (za5.get i))),.mo 3 4 (false,1,false,[none]) zak zaa],.d (.one (.int .i64 left))])))
theorem zpk (K : List PA × List XA → Prop) (X0 : St → Prop) (w : web) (left : Int) (zaH : Int) (za2 : Int) (za5 : (Sl Tie)) (zbs : (Sl (Sl Int))) (zak : Nat) (zaa : (List Int → Option (List Int))) :
  vc Tryd.prog zC9 zfB (cd (cdF Tryd.f69 [1,1,1,1,0,1,0]) [0]) (zul Tryd.prog zfB 7 X0 (zfv 0 (sqK Tryd.prog zC9 zfB (cdF Tryd.f69 [1,1,1,1,1]) (zlA Tryd.prog Tryd.f69 [.box 105 [.p (.int .i64 w.Net.Nodes),.p (.sl w.Net.Ties.len 4 (λ i=>enc_40 (w.Net.Ties.get i))),.mo 3 4 (false,1,false,[none]) w.out.n w.out.F],.d (.one (.int .i64 left))] (λ a b=>K (a,b)))))) (zf2 w left zaH za2 za5.len (λ i=>enc_40 (za5.get i)) zbs.len (λ i=>zb5 (zbs.get i)) zak zaa) =
  zmf K X0 w left zaH za2 za5 zbs zak zaa:=by kernel_rfl
theorem zuS (K : List PA × List XA → Prop) (w : web) (left : Int) (zaH : Int) (za2 : Int) (zf3 : Nat) (zcr : Nat → List PV) (zf4 : Nat) (zcs : Nat → List PV) (zak : Nat) (zaa : (List Int → Option (List Int)))
  (h:∀ X0:St->Prop,(∀ (zaH:Int) (za2:Int) (za5:(Sl Tie)) (zbs:(Sl (Sl Int))) (zak:Nat) (zaa:(List Int->Option (List Int))),zmf K X0 w left zaH za2 za5 zbs zak zaa->X0 (zf2 w left zaH za2 za5.len (λ i=>enc_40 (za5.get i)) zbs.len (λ i=>zb5 (zbs.get i)) zak zaa))->X0 (zf2 w left zaH za2 zf3 zcr zf4 zcs zak zaa)) :
  zhV K w left zaH za2 zf3 zcr zf4 zcs zak zaa:=by
  have e:zhV K w left zaH za2 zf3 zcr zf4 zcs zak zaa=(∀ X:St->Prop,(∀ s,vc Tryd.prog zC9 zfB (cd (cdF Tryd.f69 [1,1,1,1,0,1,0]) [0]) (zul Tryd.prog zfB 7 X (zfv 0 (sqK Tryd.prog zC9 zfB (cdF Tryd.f69 [1,1,1,1,1]) (zlA Tryd.prog Tryd.f69 [.box 105 [.p (.int .i64 w.Net.Nodes),.p (.sl w.Net.Ties.len 4 (λ i=>enc_40 (w.Net.Ties.get i))),.mo 3 4 (false,1,false,[none]) w.out.n w.out.F],.d (.one (.int .i64 left))] (λ a b=>K (a,b)))))) s->X s)->X (zf2 w left zaH za2 zf3 zcr zf4 zcs zak zaa)):=by kernel_rfl
  refine zaS e ?_
  intro X hX
  refine h X ?_
  intro zaH za2 za5 zbs zak zaa hs
  refine hX _ ?_
  have e2:=zpk K X w left zaH za2 za5 zbs zak zaa
  rw[e2]
  exact hs
abbrev zEE (left:Int) (r:((Sl (Sl Int))×web)):List PA×List XA:=([.one (.sl r.1.len 1 (λ i=>zb5 (r.1.get i)))],[.box 105 [.p (.int .i64 r.2.Net.Nodes),.p (.sl r.2.Net.Ties.len 4 (λ i=>enc_40 (r.2.Net.Ties.get i))),.mo 3 4 (false,1,false,[none]) r.2.out.n r.2.out.F],.d (.one (.int .i64 left))])
attribute [irreducible] zhV
def znk (w:web) (left:Int) (S0:Int->Int->(Sl Tie)->(Sl (Sl Int))->Nat->(List Int->Option (List Int))->((Sl (Sl Int))×web)) (zaH:Int) (za2:Int) (za5:(Sl Tie)) (zbs:(Sl (Sl Int))) (zak:Nat) (zaa:(List Int->Option (List Int))):((Sl (Sl Int))×web) :=
  (cond (decide (zaH < ((s89 w).len : Int)))
 (cond ((zlw (zaa [((s89 w).get zaH.toNat).Use.Tie]) 0) != 0)
 (S0 (w64 (zaH+(1:Int))) za2 za5 zbs zak zaa)
 (S0 (w64 (zaH+(1:Int))) (((Slf69.r.S (⟨(⟨za2,za5⟩:Net),(⟨(addN (zaa [((s89 w).get zaH.toNat).Use.Tie]) zak),(zcV [((s89 w).get zaH.toNat).Use.Tie] [1] zaa)⟩:Mp)⟩:web) (w64 (left - (1:Int)))).2).Net.Nodes) (((Slf69.r.S (⟨(⟨za2,za5⟩:Net),(⟨(addN (zaa [((s89 w).get zaH.toNat).Use.Tie]) zak),(zcV [((s89 w).get zaH.toNat).Use.Tie] [1] zaa)⟩:Mp)⟩:web) (w64 (left - (1:Int)))).2).Net.Ties) (⟨(zbs.len+((Slf69.r.S (⟨(⟨za2,za5⟩:Net),(⟨(addN (zaa [((s89 w).get zaH.toNat).Use.Tie]) zak),(zcV [((s89 w).get zaH.toNat).Use.Tie] [1] zaa)⟩:Mp)⟩:web) (w64 (left - (1:Int)))).1).len),(zdU zbs.len zbs.get ((Slf69.r.S (⟨(⟨za2,za5⟩:Net),(⟨(addN (zaa [((s89 w).get zaH.toNat).Use.Tie]) zak),(zcV [((s89 w).get zaH.toNat).Use.Tie] [1] zaa)⟩:Mp)⟩:web) (w64 (left - (1:Int)))).1).get)⟩:Sl (Sl Int)) (zu7 (((((Slf69.r.S (⟨(⟨za2,za5⟩:Net),(⟨(addN (zaa [((s89 w).get zaH.toNat).Use.Tie]) zak),(zcV [((s89 w).get zaH.toNat).Use.Tie] [1] zaa)⟩:Mp)⟩:web) (w64 (left - (1:Int)))).2).out).F) [((s89 w).get zaH.toNat).Use.Tie]) ((((Slf69.r.S (⟨(⟨za2,za5⟩:Net),(⟨(addN (zaa [((s89 w).get zaH.toNat).Use.Tie]) zak),(zcV [((s89 w).get zaH.toNat).Use.Tie] [1] zaa)⟩:Mp)⟩:web) (w64 (left - (1:Int)))).2).out).n)) (zug [((s89 w).get zaH.toNat).Use.Tie] ((((Slf69.r.S (⟨(⟨za2,za5⟩:Net),(⟨(addN (zaa [((s89 w).get zaH.toNat).Use.Tie]) zak),(zcV [((s89 w).get zaH.toNat).Use.Tie] [1] zaa)⟩:Mp)⟩:web) (w64 (left - (1:Int)))).2).out).F))))
 (zbs,(⟨(⟨za2,za5⟩:Net),(⟨zak,zaa⟩:Mp)⟩:web)))
def znl (w:web) (left:Int) (P0:Int->Int->(Sl Tie)->(Sl (Sl Int))->Nat->(List Int->Option (List Int))->Bool) (zaH:Int) (za2:Int) (za5:(Sl Tie)) (zbs:(Sl (Sl Int))) (zak:Nat) (zaa:(List Int->Option (List Int))):Bool :=
  (cond (decide (zaH < ((s89 w).len : Int)))
 (decide ((0<=zaH/\zaH < ((s89 w).len:Int))) &&
 (cond ((zlw (zaa [((s89 w).get zaH.toNat).Use.Tie]) 0) != 0)
 (P0 (w64 (zaH+(1:Int))) za2 za5 zbs zak zaa)
 (decide ((Slf69.r.P (⟨(⟨za2,za5⟩:Net),(⟨(addN (zaa [((s89 w).get zaH.toNat).Use.Tie]) zak),(zcV [((s89 w).get zaH.toNat).Use.Tie] [1] zaa)⟩:Mp)⟩:web) (w64 (left - (1:Int)))=true)) &&
 (decide (((zbs.len+((Slf69.r.S (⟨(⟨za2,za5⟩:Net),(⟨(addN (zaa [((s89 w).get zaH.toNat).Use.Tie]) zak),(zcV [((s89 w).get zaH.toNat).Use.Tie] [1] zaa)⟩:Mp)⟩:web) (w64 (left - (1:Int)))).1).len) * 24<=140737488355328/\zbs.len+((Slf69.r.S (⟨(⟨za2,za5⟩:Net),(⟨(addN (zaa [((s89 w).get zaH.toNat).Use.Tie]) zak),(zcV [((s89 w).get zaH.toNat).Use.Tie] [1] zaa)⟩:Mp)⟩:web) (w64 (left - (1:Int)))).1).len<=9223372036854775807)) &&
 (P0 (w64 (zaH+(1:Int))) (((Slf69.r.S (⟨(⟨za2,za5⟩:Net),(⟨(addN (zaa [((s89 w).get zaH.toNat).Use.Tie]) zak),(zcV [((s89 w).get zaH.toNat).Use.Tie] [1] zaa)⟩:Mp)⟩:web) (w64 (left - (1:Int)))).2).Net.Nodes) (((Slf69.r.S (⟨(⟨za2,za5⟩:Net),(⟨(addN (zaa [((s89 w).get zaH.toNat).Use.Tie]) zak),(zcV [((s89 w).get zaH.toNat).Use.Tie] [1] zaa)⟩:Mp)⟩:web) (w64 (left - (1:Int)))).2).Net.Ties) (⟨(zbs.len+((Slf69.r.S (⟨(⟨za2,za5⟩:Net),(⟨(addN (zaa [((s89 w).get zaH.toNat).Use.Tie]) zak),(zcV [((s89 w).get zaH.toNat).Use.Tie] [1] zaa)⟩:Mp)⟩:web) (w64 (left - (1:Int)))).1).len),(zdU zbs.len zbs.get ((Slf69.r.S (⟨(⟨za2,za5⟩:Net),(⟨(addN (zaa [((s89 w).get zaH.toNat).Use.Tie]) zak),(zcV [((s89 w).get zaH.toNat).Use.Tie] [1] zaa)⟩:Mp)⟩:web) (w64 (left - (1:Int)))).1).get)⟩:Sl (Sl Int)) (zu7 (((((Slf69.r.S (⟨(⟨za2,za5⟩:Net),(⟨(addN (zaa [((s89 w).get zaH.toNat).Use.Tie]) zak),(zcV [((s89 w).get zaH.toNat).Use.Tie] [1] zaa)⟩:Mp)⟩:web) (w64 (left - (1:Int)))).2).out).F) [((s89 w).get zaH.toNat).Use.Tie]) ((((Slf69.r.S (⟨(⟨za2,za5⟩:Net),(⟨(addN (zaa [((s89 w).get zaH.toNat).Use.Tie]) zak),(zcV [((s89 w).get zaH.toNat).Use.Tie] [1] zaa)⟩:Mp)⟩:web) (w64 (left - (1:Int)))).2).out).n)) (zug [((s89 w).get zaH.toNat).Use.Tie] ((((Slf69.r.S (⟨(⟨za2,za5⟩:Net),(⟨(addN (zaa [((s89 w).get zaH.toNat).Use.Tie]) zak),(zcV [((s89 w).get zaH.toNat).Use.Tie] [1] zaa)⟩:Mp)⟩:web) (w64 (left - (1:Int)))).2).out).F)))))))
 true)
def zhW (w : web) (left : Int) : Nat → Int → Int → (Sl Tie) → (Sl (Sl Int)) → Nat → (List Int → Option (List Int)) → ((Sl (Sl Int)) × web)
  | 0=>λ _ _ _ _ _ _=>default
  | k+1=>znk w left (zhW w left k)
def zhX (w : web) (left : Int) : Nat → Int → Int → (Sl Tie) → (Sl (Sl Int)) → Nat → (List Int → Option (List Int)) → Bool
  | 0=>λ _ _ _ _ _ _=>false
  | k+1=>znl w left (zhX w left k)
def ztD (w:web) (left:Int) (zaH:Int) (za2:Int) (za5:(Sl Tie)) (zbs:(Sl (Sl Int))) (zak:Nat) (zaa:(List Int->Option (List Int))):((Sl (Sl Int))×web):=zhW w left Fuel zaH za2 za5 zbs zak zaa
def ztE (w:web) (left:Int) (zaH:Int) (za2:Int) (za5:(Sl Tie)) (zbs:(Sl (Sl Int))) (zak:Nat) (zaa:(List Int->Option (List Int))):Bool:=zhX w left Fuel zaH za2 za5 zbs zak zaa
theorem zDb (K:List PA×List XA->Prop) (w:web) (left:Int) (zaH:Int) (za2:Int) (za5:(Sl Tie)) (zbs:(Sl (Sl Int))) (zak:Nat) (zaa:(List Int->Option (List Int))) (zcr:Nat->List PV) (zk1:zcr=λ i=>enc_40 (za5.get i)) (zcs:Nat->List PV) (zk2:zcs=λ i=>zb5 (zbs.get i)) (hs:ztE w left zaH za2 za5 zbs zak zaa=true) (hk:K (zEE left (ztD w left zaH za2 za5 zbs zak zaa))):zhV (WkM K) w left zaH za2 za5.len zcr zbs.len zcs zak zaa:=by
  refine zuS (WkM K) w left zaH za2 za5.len zcr zbs.len zcs zak zaa ?_
  intro X0 hstep
  have key:∀ (k:Nat) (zaH:Int) (za2:Int) (za5:(Sl Tie)) (zbs:(Sl (Sl Int))) (zak:Nat) (zaa:(List Int->Option (List Int))) (zcr:Nat->List PV) (zk1:zcr=λ i=>enc_40 (za5.get i)) (zcs:Nat->List PV) (zk2:zcs=λ i=>zb5 (zbs.get i)),zhX w left k zaH za2 za5 zbs zak zaa=true->K (zEE left (zhW w left k zaH za2 za5 zbs zak zaa))->X0 (zf2 w left zaH za2 za5.len zcr zbs.len zcs zak zaa):=by
    intro k
    induction k with
    | zero=>intro zaH za2 za5 zbs zak zaa zcr zk1 zcs zk2 hs;exact absurd hs dqk
    | succ k ih =>
      intro zaH za2 za5 zbs zak zaa zcr zk1 zcs zk2 hs hk
      subst zk1
      subst zk2
      refine hstep zaH za2 za5 zbs zak zaa ?_
      have hs:znl w left (zhX w left k) zaH za2 za5 zbs zak zaa=true:=hs
      have hk:K (zEE left (znk w left (zhW w left k) zaH za2 za5 zbs zak zaa)):=hk
      unfold znl at hs
      unfold znk at hk
      generalize zhW w left k=S0 at hk ih
      generalize zhX w left k=P0 at hs ih
      have hX0:=ih
      exact (zfi (K := λ r => K (zEE left r))
 (λ hs hk => (zaO hs λ hc hs => ⟨hc, (zfi (K := λ r => K (zEE left r))
 (λ hs hk=>(hX0 (w64 (zaH+(1:Int))) za2 za5 zbs zak zaa (λ i=>enc_40 (za5.get i)) rfl (λ i=>zb5 (zbs.get i)) rfl hs hk))
 (λ hs hk=>(zaO hs λ hc hs=>⟨⟨isE,rfl,hc⟩,(zaO hs λ hc hs=>⟨hc,(hX0 (w64 (zaH+(1:Int))) (((Slf69.r.S (⟨(⟨za2,za5⟩:Net),(⟨(addN (zaa [((s89 w).get zaH.toNat).Use.Tie]) zak),(zcV [((s89 w).get zaH.toNat).Use.Tie] [1] zaa)⟩:Mp)⟩:web) (w64 (left - (1:Int)))).2).Net.Nodes) (((Slf69.r.S (⟨(⟨za2,za5⟩:Net),(⟨(addN (zaa [((s89 w).get zaH.toNat).Use.Tie]) zak),(zcV [((s89 w).get zaH.toNat).Use.Tie] [1] zaa)⟩:Mp)⟩:web) (w64 (left - (1:Int)))).2).Net.Ties) (⟨(zbs.len+((Slf69.r.S (⟨(⟨za2,za5⟩:Net),(⟨(addN (zaa [((s89 w).get zaH.toNat).Use.Tie]) zak),(zcV [((s89 w).get zaH.toNat).Use.Tie] [1] zaa)⟩:Mp)⟩:web) (w64 (left - (1:Int)))).1).len),(zdU zbs.len zbs.get ((Slf69.r.S (⟨(⟨za2,za5⟩:Net),(⟨(addN (zaa [((s89 w).get zaH.toNat).Use.Tie]) zak),(zcV [((s89 w).get zaH.toNat).Use.Tie] [1] zaa)⟩:Mp)⟩:web) (w64 (left - (1:Int)))).1).get)⟩:Sl (Sl Int)) (zu7 (((((Slf69.r.S (⟨(⟨za2,za5⟩:Net),(⟨(addN (zaa [((s89 w).get zaH.toNat).Use.Tie]) zak),(zcV [((s89 w).get zaH.toNat).Use.Tie] [1] zaa)⟩:Mp)⟩:web) (w64 (left - (1:Int)))).2).out).F) [((s89 w).get zaH.toNat).Use.Tie]) ((((Slf69.r.S (⟨(⟨za2,za5⟩:Net),(⟨(addN (zaa [((s89 w).get zaH.toNat).Use.Tie]) zak),(zcV [((s89 w).get zaH.toNat).Use.Tie] [1] zaa)⟩:Mp)⟩:web) (w64 (left - (1:Int)))).2).out).n)) (zug [((s89 w).get zaH.toNat).Use.Tie] ((((Slf69.r.S (⟨(⟨za2,za5⟩:Net),(⟨(addN (zaa [((s89 w).get zaH.toNat).Use.Tie]) zak),(zcV [((s89 w).get zaH.toNat).Use.Tie] [1] zaa)⟩:Mp)⟩:web) (w64 (left - (1:Int)))).2).out).F)) (λ i=>enc_40 (((Slf69.r.S (⟨(⟨za2,za5⟩:Net),(⟨(addN (zaa [((s89 w).get zaH.toNat).Use.Tie]) zak),(zcV [((s89 w).get zaH.toNat).Use.Tie] [1] zaa)⟩:Mp)⟩:web) (w64 (left - (1:Int)))).2).Net.Ties.get i)) rfl (appG zbs.len (λ i=>zb5 (zbs.get i)) (λ i=>zb5 (((Slf69.r.S (⟨(⟨za2,za5⟩:Net),(⟨(addN (zaa [((s89 w).get zaH.toNat).Use.Tie]) zak),(zcV [((s89 w).get zaH.toNat).Use.Tie] [1] zaa)⟩:Mp)⟩:web) (w64 (left - (1:Int)))).1).get i))) (zfy (enc:=zb5) (f:=zbs.get) (h:=((Slf69.r.S (⟨(⟨za2,za5⟩:Net),(⟨(addN (zaa [((s89 w).get zaH.toNat).Use.Tie]) zak),(zcV [((s89 w).get zaH.toNat).Use.Tie] [1] zaa)⟩:Mp)⟩:web) (w64 (left - (1:Int)))).1).get) rfl rfl) hs hk)⟩)⟩)) hs hk)⟩))
 (fun hs hk=>(zwG hk)) hs hk)
  exact key _ zaH za2 za5 zbs zak zaa zcr zk1 zcs zk2 hs hk
def zBO (w:web) (left:Int):((Sl (Sl Int))×web) :=
  (cond (!(s88 w))
 ((⟨1,λ _=>(⟨w.out.n,(λ i=>(zu0 w.out.F w.out.n).getD i 0)⟩:(Sl Int))⟩:(Sl (Sl Int))),w)
 (cond (left == (0:Int))
 ((⟨0,λ _=>default⟩:(Sl (Sl Int))),w)
 (ztD w left (0:Int) w.Net.Nodes w.Net.Ties (⟨0,(λ _=>default)⟩:Sl (Sl Int)) w.out.n w.out.F)))
def zNh (w:web) (left:Int):Bool :=
  (decide ((p88 w=true)) &&
 (cond (!(s88 w))
 (decide ((w.out.n<=1000000/\(zuZ w.out.F 9223372036854775808 0 w.out.n).isSome=true)) &&
 true)
 (cond (left == (0:Int))
 true
 (decide ((p89 w=true)) &&
 (ztE w left (0:Int) w.Net.Nodes w.Net.Ties (⟨0,(λ _=>default)⟩:Sl (Sl Int)) w.out.n w.out.F)))))
theorem zQh (w:web) (left:Int) (K:List PA×List XA->Prop) (hs:zNh w left=true) (hk:K (zEE left (zBO w left))):zkL Tryd.prog zC9 zfB 69 [.box 105 [.p (.int .i64 w.Net.Nodes),.p (.sl w.Net.Ties.len 4 (λ i=>enc_40 (w.Net.Ties.get i))),.mo 3 4 (false,1,false,[none]) w.out.n w.out.F],.d (.one (.int .i64 left))] (λ a b=>(WkM K) (a,b)):=by
  refine zaS (zDa w left (WkM K)) ?_
  unfold zNh at hs
  unfold zBO at hk
  exact (zaO hs λ hc hs => ⟨⟨isE, rfl, hc⟩, (zfi (K := λ r => K (zEE left r))
 (λ hs hk=>(zaO hs λ hc hs=>⟨hc,(zwG hk)⟩))
 (λ hs hk => (zfi (K := λ r => K (zEE left r))
 (λ hs hk=>(wkM hk (zgy (.one (.nil _ _)) zmd)))
 (λ hs hk=>(zaO hs λ hc hs=>⟨⟨(λ _=>rfl),isE,rfl,hc⟩,(zDb K w left (0:Int) w.Net.Nodes w.Net.Ties (⟨0,(λ _=>default)⟩:Sl (Sl Int)) w.out.n w.out.F (λ i=>enc_40 (w.Net.Ties.get i)) rfl (λ i=>zb5 ((λ _=>default) i)) rfl hs hk)⟩)) hs hk)) hs hk)⟩)
def zLk : MK
  | [.box 105 [.p (.int .i64 zaz),.p (.sl zav zbC zau),.mo 3 4 zdt zaT zaU],.d (.one (.int .i64 b1))]=>some (IsE enc_40 4 zbC zau/\zdt=(false,1,false,[none])/\zNh (⟨(⟨zaz,(⟨zav,zal zau⟩:(Sl Tie))⟩:Net),(⟨zaT,zaU⟩:Mp)⟩:web) b1=true,[.one (.sl (((zBO (⟨(⟨zaz,(⟨zav,zal zau⟩:(Sl Tie))⟩:Net),(⟨zaT,zaU⟩:Mp)⟩:web) b1).1).len) 1 (λ i=>zb5 (((zBO (⟨(⟨zaz,(⟨zav,zal zau⟩:(Sl Tie))⟩:Net),(⟨zaT,zaU⟩:Mp)⟩:web) b1).1).get i)))],[.box 105 [.p (.int .i64 (((zBO (⟨(⟨zaz,(⟨zav,zal zau⟩:(Sl Tie))⟩:Net),(⟨zaT,zaU⟩:Mp)⟩:web) b1).2).Net.Nodes)),.p (.sl (((zBO (⟨(⟨zaz,(⟨zav,zal zau⟩:(Sl Tie))⟩:Net),(⟨zaT,zaU⟩:Mp)⟩:web) b1).2).Net.Ties.len) 4 (λ i=>enc_40 (((zBO (⟨(⟨zaz,(⟨zav,zal zau⟩:(Sl Tie))⟩:Net),(⟨zaT,zaU⟩:Mp)⟩:web) b1).2).Net.Ties.get i))),.mo 3 4 (false,1,false,[none]) ((((zBO (⟨(⟨zaz,(⟨zav,zal zau⟩:(Sl Tie))⟩:Net),(⟨zaT,zaU⟩:Mp)⟩:web) b1).2).out).n) ((((zBO (⟨(⟨zaz,(⟨zav,zal zau⟩:(Sl Tie))⟩:Net),(⟨zaT,zaU⟩:Mp)⟩:web) b1).2).out).F)],.d (.one (.int .i64 b1))])
  | _=>none
theorem zLl:zar Tryd.prog 69:=⟨_,rfl,rfl,by kernel_rfl⟩
theorem zN2 (hself:zjt Tryd.prog 69 zx9):zjt Tryd.prog 69 zLk:=zCI (zN1 hself) zLl λ xs safe rs ys h hs K hk=>by
  unfold zLk at h
  split at h
  · rename_i zaz zav zbC zau zdt zaT zaU b1
    simp only[dqa,dqh] at h
    obtain⟨rfl,rfl,rfl⟩:=h
    obtain⟨⟨rfl,zck,rfl⟩,rfl,hs⟩:=hs
    try rw[zaj zck] at hs
    try rw[zaj zck] at hk
    refine⟨λ _ _=>[],λ _=>false,zfB,?_⟩
    show zkL Tryd.prog zC9 zfB 69 _ _
    exact zQh (⟨(⟨zaz,(⟨zav,zck⟩:(Sl Tie))⟩:Net),(⟨zaT,zaU⟩:Mp)⟩:web) b1 (λ x=>K x.1 x.2) hs hk
  · cases h
end
def zuT : Nat → Rec69
  | 0=>⟨λ _ _=>default,λ _ _=>false⟩
  | k+1=>⟨@zBO ⟨zuT k⟩,@zNh ⟨zuT k⟩⟩
theorem zLm : ∀ k, zjt Tryd.prog 69 (@zx9 ⟨zuT k⟩)
  | 0=>λ xs ys safe rs h hs=>by
    unfold zx9 at h
    split at h
    · simp only [dqa, dqh] at h
      obtain⟨rfl,rfl,rfl⟩:=h
      exact absurd hs.2.2 dqk
    · cases h
  | k+1=>@zN2 ⟨zuT k⟩ (zLm k)
def s69 (w:web) (left:Int):((Sl (Sl Int))×web):=(zuT 64).S w left
def p69 (w:web) (left:Int):Bool:=(zuT 64).P w left
def zLn : MK
  | [.box 105 [.p (.int .i64 zaz),.p (.sl zav zbC zau),.mo 3 4 zdt zaT zaU],.d (.one (.int .i64 b1))]=>some (IsE enc_40 4 zbC zau/\zdt=(false,1,false,[none])/\p69 (⟨(⟨zaz,(⟨zav,zal zau⟩:(Sl Tie))⟩:Net),(⟨zaT,zaU⟩:Mp)⟩:web) b1=true,[.one (.sl (((s69 (⟨(⟨zaz,(⟨zav,zal zau⟩:(Sl Tie))⟩:Net),(⟨zaT,zaU⟩:Mp)⟩:web) b1).1).len) 1 (λ i=>zb5 (((s69 (⟨(⟨zaz,(⟨zav,zal zau⟩:(Sl Tie))⟩:Net),(⟨zaT,zaU⟩:Mp)⟩:web) b1).1).get i)))],[.box 105 [.p (.int .i64 (((s69 (⟨(⟨zaz,(⟨zav,zal zau⟩:(Sl Tie))⟩:Net),(⟨zaT,zaU⟩:Mp)⟩:web) b1).2).Net.Nodes)),.p (.sl (((s69 (⟨(⟨zaz,(⟨zav,zal zau⟩:(Sl Tie))⟩:Net),(⟨zaT,zaU⟩:Mp)⟩:web) b1).2).Net.Ties.len) 4 (λ i=>enc_40 (((s69 (⟨(⟨zaz,(⟨zav,zal zau⟩:(Sl Tie))⟩:Net),(⟨zaT,zaU⟩:Mp)⟩:web) b1).2).Net.Ties.get i))),.mo 3 4 (false,1,false,[none]) ((((s69 (⟨(⟨zaz,(⟨zav,zal zau⟩:(Sl Tie))⟩:Net),(⟨zaT,zaU⟩:Mp)⟩:web) b1).2).out).n) ((((s69 (⟨(⟨zaz,(⟨zav,zal zau⟩:(Sl Tie))⟩:Net),(⟨zaT,zaU⟩:Mp)⟩:web) b1).2).out).F)],.d (.one (.int .i64 b1))])
  | _=>none
theorem zQi:zjt Tryd.prog 69 zLn:=zLm 64
abbrev T71:Tabs:=(Tabs.nil.addF 101 ztp)
theorem zN3:TabsOk Tryd.prog T71:=(TabsOk.nil.addF zLb)
abbrev G71:Ctrs:=csm T71 (λ _ _=>[]) (λ _=>false)
def zGS:Ann:=⟨36,[(0,zK [0,1] []),(1,zK [0,1,9,10,11] []),(2,zK [0,1,9,10,11,12] []),(3,zK [0,1,5,6,9,10,11] []),(4,zK [0,1,5,6,9,10,11,19] []),(5,zK [4] []),(6,zK [0,1,6,7,9,10,11] []),(7,zK [0,1,8,9,10,11] []),(8,zK [0,1,8,9,10,11,28] []),(9,zK [4] []),(10,zK [0,1,9,10,11] []),(11,zK [35] []),(12,zK [4] []),(13,zK [4] [])],
 [(2,zK [0,1,9,10,11] [])],
 [(6,zK [0,1,5,6,9,10,11] []),(8,zK [0,1,8,9,10,11] [])],
 [],[]⟩
abbrev R71:=Int
abbrev e71 (r:R71):List PA:=[.one (.int .i64 r)]
@[irreducible] def z71:=ptF Tryd.prog G71 zGS Tryd.f71
def zEF (zeL:(Sl Int)) (zec:(Sl Int)) (zk3:(Sl Int)) (za7:Int) (zaX:Int) (zdB:Nat->List PV) (zdC:Nat->List PV) (zjn:Nat->List PV):St:=⟨[(0,zP (.sl zeL.len 1 zdB)),(1,zP (.sl zec.len 1 zdC)),(9,zP (.sl zk3.len 1 zjn)),(10,zI za7),(11,zI zaX)],[],[]⟩
abbrev zDc (K:List PA->Prop) (X:St->Prop) (P:(Sl Int)->(Sl Int)->(Sl Int)->Int->Int->Bool) (S:(Sl Int)->(Sl Int)->(Sl Int)->Int->Int->Int):Prop:=∀ ⦃zeL:(Sl Int)⦄ ⦃zec:(Sl Int)⦄ ⦃zk3:(Sl Int)⦄ ⦃za7:Int⦄ ⦃zaX:Int⦄ ⦃zdB:Nat->List PV⦄ ⦃zdC:Nat->List PV⦄ ⦃zjn:Nat->List PV⦄,P zeL zec zk3 za7 zaX=true->K (e71 (S zeL zec zk3 za7 zaX))->zdB=zg zae zeL->zdC=zg zae zec->zjn=zg zae zk3->X (zEF zeL zec zk3 za7 zaX zdB zdC zjn)
section
variable {K:List PA->Prop}{s1_a0:(Sl Int)}{s2_a1:(Sl Int)}{zeL:(Sl Int)}{zec:(Sl Int)}{zk3:(Sl Int)}{za7:Int}{zaX:Int}{zdB:Nat->List PV}{zdC:Nat->List PV}{zjn:Nat->List PV}{X0:St->Prop}{P0:(Sl Int)->(Sl Int)->(Sl Int)->Int->Int->Bool}{S0:(Sl Int)->(Sl Int)->(Sl Int)->Int->Int->Int}{zpc:(Sl Int)}{zjI:(Sl Int)}{iv1:Int}{zGT:Int}{zqM:(Sl Int)}{zhY:Int}{zcN:Int}{zpd:Nat->List PV}{zpe:Nat->List PV}{zEG:Nat->List PV}{zpf:(Sl Int)}{zpg:(Sl Int)}{cv2:Int}{zqN:Int}{zph:Nat->List PV}{zpi:Nat->List PV}
def zya (S0:(Sl Int)->(Sl Int)->(Sl Int)->Int->Int->Int) (zqM:(Sl Int)) (zhY:Int) (zpf:(Sl Int)) (zpg:(Sl Int)) (cv2:Int) (zqN:Int):Int :=
  (cond (cv2 != (0:Int))
 cv2
 (S0 zpf zpg zqM zhY (w64 (zqN+(1:Int)))))
def zyb (P0:(Sl Int)->(Sl Int)->(Sl Int)->Int->Int->Bool) (zqM:(Sl Int)) (zhY:Int) (zpf:(Sl Int)) (zpg:(Sl Int)) (cv2:Int) (zqN:Int):Bool :=
  (cond (cv2 != (0:Int))
 true
 (P0 zpf zpg zqM zhY (w64 (zqN+(1:Int)))))
theorem zGU (hX0:zDc K X0 P0 S0) (hs:zyb P0 zqM zhY zpf zpg cv2 zqN=true) (hk:K (e71 (zya S0 zqM zhY zpf zpg cv2 zqN))) (zxj:zph=zg zae zpf) (zxk:zpi=zg zae zpg):z71 K [1,0,1,0,0,1,1,0,0,1,1,1,1] [X0] ⟨[(0,zP (.sl zpf.len 1 zph)),(1,zP (.sl zpg.len 1 zpi)),(8,zI cv2),(9,zS zae 1 zqM),(10,zI zhY),(11,zI zqN)],[],[]⟩:=by subst zxj;subst zxk;exact zaS (by kernel_rfl) (zc hs hk (λ hs hk=>hk) (λ hs hk=>(hX0 hs hk rfl rfl rfl)))
def zyc (S0:(Sl Int)->(Sl Int)->(Sl Int)->Int->Int->Int) (zpc:(Sl Int)) (zjI:(Sl Int)) (iv1:Int) (zGT:Int) (zqM:(Sl Int)) (zhY:Int) (zcN:Int):Int :=
  (zya S0 zqM zhY zpc zjI (zBN zGT (zjI.get iv1.toNat)) zcN)
def zyd (P0:(Sl Int)->(Sl Int)->(Sl Int)->Int->Int->Bool) (zpc:(Sl Int)) (zjI:(Sl Int)) (iv1:Int) (zGT:Int) (zqM:(Sl Int)) (zhY:Int) (zcN:Int):Bool :=
  (decide ((0<=iv1/\iv1 < (zjI.len:Int))) &&
 (zyb P0 zqM zhY zpc zjI (zBN zGT (zjI.get iv1.toNat)) zcN))
theorem zGV (hX0:zDc K X0 P0 S0) (hs:zyd P0 zpc zjI iv1 zGT zqM zhY zcN=true) (hk:K (e71 (zyc S0 zpc zjI iv1 zGT zqM zhY zcN))) (zxl:zpd=zg zae zpc) (zxm:zpe=zg zae zjI) (zLo:zEG=zg zae zqM):z71 K [1,0,1,0,0,1,1,0,0,1,1] [X0] ⟨[(0,zP (.sl zpc.len 1 zpd)),(1,zP (.sl zjI.len 1 zpe)),(5,zI iv1),(6,zI zGT),(9,zP (.sl zqM.len 1 zEG)),(10,zI zhY),(11,zI zcN)],[],[]⟩:=by subst zxl;subst zxm;subst zLo;exact zaS (by kernel_rfl) (zaO hs λ hc hs=>And.intro hc (zGU hX0 hs hk rfl rfl))
def zye (S0:(Sl Int)->(Sl Int)->(Sl Int)->Int->Int->Int) (zeL:(Sl Int)) (zec:(Sl Int)) (zk3:(Sl Int)) (za7:Int) (zaX:Int):Int :=
  (cond (decide (zaX < za7))
 (cond (decide (zaX >= (zec.len : Int)))
 (1:Int)
 (zyc S0 zeL zec zaX (zk3.get zaX.toNat) zk3 za7 zaX))
 (cond (decide ((zeL.len : Int) < (zec.len : Int)))
 (-1:Int)
 (0:Int)))
def zyf (P0:(Sl Int)->(Sl Int)->(Sl Int)->Int->Int->Bool) (zeL:(Sl Int)) (zec:(Sl Int)) (zk3:(Sl Int)) (za7:Int) (zaX:Int):Bool :=
  (cond (decide (zaX < za7))
 (decide ((0<=zaX/\zaX < (zk3.len:Int))) &&
 (cond (decide (zaX >= (zec.len : Int)))
 true
 (zyd P0 zeL zec zaX (zk3.get zaX.toNat) zk3 za7 zaX)))
 true)
def zyg:Nat->(Sl Int)->(Sl Int)->(Sl Int)->Int->Int->Int:=lpO (λ _ _ _ _ _=>default) (zye)
def zyh:Nat->(Sl Int)->(Sl Int)->(Sl Int)->Int->Int->Bool:=lpO (λ _ _ _ _ _=>false) (zyf)
def zyi (zeL:(Sl Int)) (zec:(Sl Int)) (zk3:(Sl Int)) (za7:Int) (zaX:Int):Int:=zyg Fuel zeL zec zk3 za7 zaX
def zyj (zeL:(Sl Int)) (zec:(Sl Int)) (zk3:(Sl Int)) (za7:Int) (zaX:Int):Bool:=zyh Fuel zeL zec zk3 za7 zaX
theorem zGW (hs:zyj zeL zec zk3 za7 zaX=true) (hk:K (e71 (zyi zeL zec zk3 za7 zaX))) (zkU:zdB=zg zae zeL) (zkV:zdC=zg zae zec) (zyk:zjn=zg zae zk3):z71 K [1,0,1,0] [] (zEF zeL zec zk3 za7 zaX zdB zdC zjn) :=
  zl (λ X=>z71 K [1,0,1,0,0] [X]) (by kernel_rfl) λ X0 hX =>
  (show ∀ k, zDc K X0 (zyh k) (zyg k) from zd0 _ _ (zyf) (zye) (zDc K X0)
 (by intro _ _ _ _ _ _ _ _ hs;exact absurd hs dqk)
 (by intro P0 S0 hX0 zeL zec zk3 za7 zaX zdB zdC zjn hs hk zkU zkV zyk;subst zkU;subst zkV;subst zyk;exact hX _ (zaS (by kernel_rfl) (zc hs hk (λ hs hk=>(zaO hs λ hc hs=>And.intro hc (zc hs hk (λ hs hk=>hk) (λ hs hk=>(zGV hX0 hs hk rfl rfl rfl))))) (λ hs hk=>(zt hk (λ hk=>hk) (λ hk=>hk))))))) _ hs hk zkU zkV zyk
def s71 (s1_a0:(Sl Int)) (s2_a1:(Sl Int)):Int :=
  (zyi s1_a0 s2_a1 s1_a0 (s1_a0.len:Int) (0:Int))
def p71 (s1_a0:(Sl Int)) (s2_a1:(Sl Int)):Bool :=
  (zyj s1_a0 s2_a1 s1_a0 (s1_a0.len:Int) (0:Int))
end
theorem q71 (s1_a0:(Sl Int)) (s2_a1:(Sl Int)) (K:List PA->Prop) (hs:p71 s1_a0 s2_a1=true) (hk:K (e71 (s71 s1_a0 s2_a1))):vcFun Tryd.prog G71 zGS 71 [.one (.sl s1_a0.len 1 (λ i=>zae (s1_a0.get i))),.one (.sl s2_a1.len 1 (λ i=>zae (s2_a1.get i)))] K :=
  zaS (by kernel_rfl) (zGW hs hk rfl rfl rfl)
def zGX : List PA → COut
  | [.one (.sl zeh zje zei),.one (.sl ze3 zlB zeY)]=>.det (IsE zae 1 zje zei/\IsE zae 1 zlB zeY/\p71 (⟨zeh,zaw zei⟩:(Sl Int)) (⟨ze3,zaw zeY⟩:(Sl Int))=true) [.one (.int .i64 (s71 (⟨zeh,zaw zei⟩:(Sl Int)) (⟨ze3,zaw zeY⟩:(Sl Int))))]
  | _=>.no
theorem zLp:zar Tryd.prog 71:=⟨_,rfl,rfl,by kernel_rfl⟩
theorem zQj:Ok Tryd.prog 71 zGX:=zbc zN3 zLp λ args K h=>by
  unfold zGX at h
  split at h
  · rename_i zeh zje zei ze3 zlB zeY
    obtain⟨⟨⟨rfl,zgz,rfl⟩,⟨rfl,zim,rfl⟩,hs⟩,hk⟩:=h
    try rw[zbx zgz] at hs
    try rw[zbx zgz] at hk
    try rw[zbx zim] at hs
    try rw[zbx zim] at hk
    exact⟨(λ _ _=>[]),(λ _=>false),zGS,q71 (⟨zeh,zgz⟩:(Sl Int)) (⟨ze3,zim⟩:(Sl Int)) K hs hk⟩
  · exact h.elim
abbrev T70:Tabs:=(Tabs.nil.addF 71 zGX)
theorem zN4:TabsOk Tryd.prog T70:=(TabsOk.nil.addF zQj)
abbrev G70:Ctrs:=csm T70 (λ _ _=>[]) (λ _=>false)
def zGY:Ann:=⟨33,[(0,zK [0,1] []),(1,zK [0,1,9] []),(3,zK [0,1,5] []),(4,zK [0,1,5,6] []),(5,zK [0,1,5,6,17] []),(6,zK [0,1,5,6] []),(7,zK [0,1,5,6,27] []),(8,zK [0,1,5,6] []),(9,zK [4] [])],
 [(5,zK [0,1,5,6] [])],
 [(3,zK [0,1] []),(8,zK [0,1,5,6,27] [])],
 [],[]⟩
abbrev R70:=(Sl Int)
abbrev e70 (r:R70):List PA:=[.one (.sl r.len 1 (λ i=>zae (r.get i)))]
@[irreducible] def z70:=ptF Tryd.prog G70 zGY Tryd.f70
def zEH (x:(Sl (Sl Int))) (mv1:(Sl Int)) (iv1:Int) (zpl:Nat->List PV):St:=⟨[(0,zS zb5 1 x),(1,zP (.fn 71 [] [])),(5,zP (.sl mv1.len 1 zpl)),(6,zI iv1)],[],[]⟩
abbrev zGZ (K:List PA->Prop) (x:(Sl (Sl Int))) (X:St->Prop) (P:(Sl Int)->Int->Bool) (S:(Sl Int)->Int->(Sl Int)):Prop:=∀ ⦃mv1:(Sl Int)⦄ ⦃iv1:Int⦄ ⦃zpl:Nat->List PV⦄,P mv1 iv1=true->K (e70 (S mv1 iv1))->zpl=zg zae mv1->X (zEH x mv1 iv1 zpl)
section
variable {K:List PA->Prop}{x:(Sl (Sl Int))}{mv1:(Sl Int)}{iv1:Int}{zpl:Nat->List PV}{X1:St->Prop}{P1:(Sl Int)->Int->Bool}{S1:(Sl Int)->Int->(Sl Int)}{mv2:(Sl Int)}{iv2:Int}{zqO:Bool}{zLq:Nat->List PV}
def zyl (S1:(Sl Int)->Int->(Sl Int)) (x:(Sl (Sl Int))) (mv2:(Sl Int)) (iv2:Int) (zqO:Bool):(Sl Int) :=
  (cond zqO
 (S1 (x.get iv2.toNat) (w64 (iv2+(1:Int))))
 (S1 mv2 (w64 (iv2+(1:Int)))))
def zym (P1:(Sl Int)->Int->Bool) (x:(Sl (Sl Int))) (mv2:(Sl Int)) (iv2:Int) (zqO:Bool):Bool :=
  (cond zqO
 (decide ((0<=iv2/\iv2 < (x.len:Int))) &&
 (P1 (x.get iv2.toNat) (w64 (iv2+(1:Int)))))
 (P1 mv2 (w64 (iv2+(1:Int)))))
theorem zG0 (hX1:zGZ K x X1 P1 S1) (hs:zym P1 x mv2 iv2 zqO=true) (hk:K (e70 (zyl S1 x mv2 iv2 zqO))) (zN5:zLq=zg zae mv2):z70 K [1,1,1,0,1,0,0,1,0,0,1] [X1] ⟨[(0,zS zb5 1 x),(1,zP (.fn 71 [] [])),(5,zP (.sl mv2.len 1 zLq)),(6,zI iv2),(27,zB zqO)],[],[]⟩:=by subst zN5;exact zaS (by kernel_rfl) (zc hs hk (λ hs hk=>(zaO hs λ hc hs=>And.intro hc (hX1 hs hk rfl))) (λ hs hk=>(hX1 hs hk rfl)))
def zyn (x:(Sl (Sl Int))) (S1:(Sl Int)->Int->(Sl Int)) (mv1:(Sl Int)) (iv1:Int):(Sl Int) :=
  (cond (decide (iv1 < (x.len : Int)))
 (zyl S1 x mv1 iv1 (decide ((s71 (x.get iv1.toNat) mv1) < (0:Int))))
 mv1)
def zyo (x:(Sl (Sl Int))) (P1:(Sl Int)->Int->Bool) (mv1:(Sl Int)) (iv1:Int):Bool :=
  (cond (decide (iv1 < (x.len : Int)))
 (decide ((0<=iv1/\iv1 < (x.len:Int))) &&
 (decide ((p71 (x.get iv1.toNat) mv1=true)) &&
 (zym P1 x mv1 iv1 (decide ((s71 (x.get iv1.toNat) mv1) < (0:Int))))))
 true)
def zyp (x:(Sl (Sl Int))):Nat->(Sl Int)->Int->(Sl Int):=lpO (λ _ _=>default) (zyn x)
def zyq (x:(Sl (Sl Int))):Nat->(Sl Int)->Int->Bool:=lpO (λ _ _=>false) (zyo x)
def zyr (x:(Sl (Sl Int))) (mv1:(Sl Int)) (iv1:Int):(Sl Int):=zyp x Fuel mv1 iv1
def zys (x:(Sl (Sl Int))) (mv1:(Sl Int)) (iv1:Int):Bool:=zyq x Fuel mv1 iv1
theorem zG1 (hs:zys x mv1 iv1=true) (hk:K (e70 (zyr x mv1 iv1))) (zG2:zpl=zg zae mv1):z70 K [1,1,1,0,1,0] [] (zEH x mv1 iv1 zpl) :=
  zl (λ X=>z70 K [1,1,1,0,1,0,0] [X]) (by kernel_rfl) λ X1 hX =>
  (show ∀ k, zGZ K x X1 (zyq x k) (zyp x k) from zd0 _ _ (zyo x) (zyn x) (zGZ K x X1)
 (by intro _ _ _ hs;exact absurd hs dqk)
 (by intro P1 S1 hX1 mv1 iv1 zpl hs hk zG2;subst zG2;exact hX _ (zaS (by kernel_rfl) (zc hs hk (λ hs hk=>(zaO hs λ hc hs=>And.intro hc (zaO hs λ hc hs=>And.intro (And.intro (zE zae 1 ((x.get iv1.toNat).get)) (And.intro (zE zae 1 mv1.get) hc)) (zG0 hX1 hs hk rfl)))) (λ hs hk=>hk))))) _ hs hk zG2
def zyt (x:(Sl (Sl Int))):(Sl Int) :=
  (zyr x (x.get 0) (1:Int))
def zyu (x:(Sl (Sl Int))):Bool :=
  (decide ((0<=(0:Int)/\(0:Int) < (x.len:Int))) &&
 (zys x (x.get 0) (1:Int)))
theorem zG3 (hs:zyu x=true) (hk:K (e70 (zyt x))):z70 K [1,1] [] ⟨[(0,zS zb5 1 x),(1,zP (.fn 71 [] []))],[],[]⟩:=zaS (by kernel_rfl) (zaO hs λ hc hs=>And.intro hc (zG1 hs hk rfl))
def s70 (x:(Sl (Sl Int))):(Sl Int) :=
  (cond (decide ((x.len : Int) < (1:Int)))
 default
 (zyt x))
def p70 (x:(Sl (Sl Int))):Bool :=
  (cond (decide ((x.len : Int) < (1:Int)))
 false
 (zyu x))
end
theorem q70 (x:(Sl (Sl Int))) (K:List PA->Prop) (hs:p70 x=true) (hk:K (e70 (s70 x))):vcFun Tryd.prog G70 zGY 70 [.one (.sl x.len 1 (λ i=>zb5 (x.get i))),.one (.fn 71 [] [])] K :=
  zaS (by kernel_rfl) (zc hs hk (λ hs hk=>(absurd hs dqk:False)) (λ hs hk=>(zG3 hs hk)))
def zG4 : List PA → COut
  | [.one (.sl zeh zje zei),.one (.fn 71 [] [])]=>.det (IsE zb5 1 zje zei/\p70 (⟨zeh,zm6 zei⟩:(Sl (Sl Int)))=true) [.one (.sl ((s70 (⟨zeh,zm6 zei⟩:(Sl (Sl Int)))).len) 1 (λ i=>zae ((s70 (⟨zeh,zm6 zei⟩:(Sl (Sl Int)))).get i)))]
  | _=>.no
theorem zLr:zar Tryd.prog 70:=⟨_,rfl,rfl,by kernel_rfl⟩
theorem zQk:Ok Tryd.prog 70 zG4:=zbc zN4 zLr λ args K h=>by
  unfold zG4 at h
  split at h
  · rename_i zeh zje zei
    obtain⟨⟨⟨rfl,zgz,rfl⟩,hs⟩,hk⟩:=h
    try rw[zkP zgz] at hs
    try rw[zkP zgz] at hk
    exact⟨(λ _ _=>[]),(λ _=>false),zGY,q70 (⟨zeh,zgz⟩:(Sl (Sl Int))) K hs hk⟩
  · exact h.elim
end Go.Proofs
namespace Go.Pm
open Go.RowKit (Below)
structure PanR where
  t1:Nat
  y1:TypeId
  t2:Nat
  y2:TypeId
  e:Int
  ty:TypeId
def PanR.v (pr:PanR):Value:=.iface pr.ty (.agg #[])
def stA (pr : PanR) : Oper := { dst := none, op := .store pr.y1 (.tmp pr.t1) (.const (.slice none 0 0)), type := 0, pos := "", after := #[], guard := none }
def stB (pr : PanR) : Oper := { dst := none, op := .store pr.y2 (.tmp pr.t2) (.const (.int .i64 pr.e)), type := 0, pos := "", after := #[], guard := none }
def zlE (pr:PanR):Array Oper:=#[stA pr,stB pr]
section
variable (P:Program) (Γ:Ctrs)
def zpm (pr : PanR) (fi : FuncId) : Code → Option (Nat × Nat)
  | .region id ops false=>match ops.toList with
    | [o1,o2]=>match o1.op,o1.dst,o1.guard,o2.op,o2.dst,o2.guard with
      | .makeFunc (.func f) first caps,some t,none,.defer { callee:=.value (.tmp t'),args,argTypes:=_ },none,none=>match caps.toList with
        | [.tmp c1,.tmp c2]=>match Nat.beq f fi && Nat.beq t t' && first.isEmpty && args.isEmpty && Nat.beq c1 pr.t1 && Nat.beq c2 pr.t2 && !Nat.beq t pr.t1 && !Nat.beq t pr.t2 with
          | true=>some (id,t)
          | false=>none
        | _=>none
      | _,_,_,_,_,_=>none
    | _=>none
  | _=>none
def zyv (nt : Nat) (pr : PanR) : Code → Option (Nat × Nat)
  | .region _ ops false=>match ops.toList with
    | [o1,o2,o3]=>match o1.op,o1.dst,o1.guard,o2.op,o2.dst,o2.guard,o3.op,o3.guard with
      | .build ty parts,some x,none,.makeInterface ty' (.tmp x'),some y,none,.panic (.tmp y'),none=>match parts.isEmpty && Nat.beq ty pr.ty && Nat.beq ty' pr.ty && Nat.beq x x' && Nat.beq y y' && Nat.blt x nt && Nat.blt y nt with
        | true=>some (x,y)
        | false=>none
      | _,_,_,_,_,_,_,_=>none
    | _=>none
  | _=>none
def znm (pr : PanR) (fi : FuncId) (ann : Ann) : Bool → Code → (Exit → St → Prop) → St → Prop
  | dn,.seq a b,K,σ=>match zpm pr fi a with
    | some (id,t)=>match Nat.blt t ann.nt && !dn && zJ8 [pr.t1,pr.t2] (zfN b) with
      | true=>zFw P ann id (znm pr fi ann true b K) ⟨(t,.junk) :: σ.env,σ.objs,[]⟩
      | false=>False
    | none=>vc P Γ ann a (zBT (znm pr fi ann dn b K) K) σ
  | dn,c,K,σ=>match zyv ann.nt pr c with
    | some (x,y)=>match dn with
      | true=>zeJ P Γ ann.nt (zlE pr) 0 (zlE pr).toList (K .ret) ⟨(y,.junk) :: (x,.junk) :: σ.env,σ.objs,[]⟩
      | false=>False
    | none=>vc P Γ ann c K σ
def ptD (ann : Ann) (pr : PanR) (fi : FuncId) : Bool → Code → (Exit → St → Prop) → List Nat → List (St → Prop) → St → Prop
  | dn,.seq a b,K,i :: r,X=>match i with
    | 0=>pt P Γ ann a (zBT (znm P Γ pr fi ann dn b K) K) r X
    | _=>match zpm pr fi a with
      | some _=>ptD ann pr fi true b K r X
      | none=>ptD ann pr fi dn b K r X
  | _,c,K,l,X=>pt P Γ ann c K l X
def zQl (ann:Ann) (pr:PanR) (fi:FuncId) (fn:Func) (K:List PA->Prop) (l:List Nat) (X:List (St->Prop)):St->Prop :=
 match fn.body with
 | some c=>ptD P Γ ann pr fi false c (zok P fn K) l X
 | none=>λ _=>False
def ztF (pr:PanR) (fi:FuncId) (ann:Ann) (f:FuncId) (args:List PA) (K:List PA->Prop):Prop :=
 match P.funcs[f]? with
 | some fn=>match fn.body with
  | some c=>match Nat.beq ann.nt fn.ntmps && Nat.ble args.length ann.nt && zJ8 [rfS] (zfN c) with
   | true=>znm P Γ pr fi ann false c (zok P fn K) ⟨zgQ 0 args,[],[]⟩
   | false=>False
  | none=>False
 | none=>False
end
section
variable {P:Program}{Γ:Ctrs}{B:Nat}{w0:World}{pr:PanR}
abbrev dfD (fi:FuncId) (v1 v2:Value):Deferred:={ target:=.fn (.func fi) #[v1,v2],args:=#[] }
theorem zmg {fi:FuncId}{c:Code}{id t:Nat}(h:zpm pr fi c=some (id,t)):∃ (o1 o2:Oper) (ats:Array TypeId),c=.region id #[o1,o2] false/\t ≠ pr.t1/\t ≠ pr.t2/\o1.op=.makeFunc (.func fi) #[] #[.tmp pr.t1,.tmp pr.t2]/\o1.dst=some t/\o1.guard=none /\
  o2.op=.defer { callee:=.value (.tmp t),args:=#[],argTypes:=ats }/\o2.dst=none/\o2.guard=none:=by
 unfold zpm at h
 split at h
 ·rename_i id' ops
  split at h
  ·rename_i o1 o2 hops
   split at h
   ·rename_i f first caps t' t2 args ats e1 e2 e3 e4 e5 e6
    split at h
    ·rename_i c1 c2 hcaps
     split at h
     ·rename_i hc
      simp only[dqm] at hc
      simp only[dqa,dqh] at h
      obtain⟨rfl,rfl⟩:=h
      obtain⟨⟨⟨⟨⟨⟨⟨h1,h2⟩,h3⟩,h4⟩,h5⟩,h6⟩,h7⟩,h8⟩:=hc
      have h1:=dqc h1
      have h2:=dqc h2
      have h3:first = #[]:=by simpa using h3
      have h4:args = #[]:=by simpa using h4
      have h5:=dqc h5
      have h6:=dqc h6
      have h7:t' ≠ pr.t1:=Nat.ne_of_beq_eq_false (by simpa using h7)
      have h8:t' ≠ pr.t2:=Nat.ne_of_beq_eq_false (by simpa using h8)
      have h9:caps = #[.tmp c1,.tmp c2]:=by rw[<- Array.toArray_toList (xs:=caps),hcaps]
      subst h1 h2 h3 h4 h9
      rw[h5,h6] at e1
      refine⟨o1,o2,ats,?_,h7,h8,e1,e2,e3,e4,e5,e6⟩
      rw[<- Array.toArray_toList (xs:=ops),hops]
     ·cases h
    ·cases h
   ·cases h
  ·cases h
 ·cases h
theorem zpn {nt:Nat}{c:Code}{x y:Nat}(h:zyv nt pr c=some (x,y)):∃ (id:Nat) (o1 o2 o3:Oper),c=.region id #[o1,o2,o3] false/\x < nt/\y < nt/\o1.op=.build pr.ty #[]/\o1.dst=some x/\o1.guard=none /\
  o2.op=.makeInterface pr.ty (.tmp x)/\o2.dst=some y/\o2.guard=none/\o3.op=.panic (.tmp y)/\o3.guard=none:=by
 unfold zyv at h
 split at h
 ·rename_i id' ops
  split at h
  ·rename_i o1 o2 o3 hops
   split at h
   ·rename_i ty parts a ty' a' b b' e1 e2 e3 e4 e5 e6 e7 e8
    split at h
    ·rename_i hc
     simp only[dqm] at hc
     simp only[dqa,dqh] at h
     obtain⟨rfl,rfl⟩:=h
     obtain⟨⟨⟨⟨⟨⟨h1,h2⟩,h3⟩,h4⟩,h5⟩,h6⟩,h7⟩:=hc
     have h1:parts = #[]:=by simpa using h1
     have h2:=dqc h2
     have h3:=dqc h3
     have h4:=dqc h4
     have h5:=dqc h5
     subst h1 h2 h4 h5
     rw[h3] at e4
     refine⟨id',o1,o2,o3,?_,by simpa [Nat.blt_eq] using h6,by simpa [Nat.blt_eq] using h7,e1,e2,e3,e4,e5,e6,e7,e8⟩
     rw[<- Array.toArray_toList (xs:=ops),hops]
    ·cases h
   ·cases h
  ·cases h
 ·cases h
theorem zuU {fi : FuncId} (hidle : ∀ caps : Array Value, caps.size = 2 → zom P { target := .fn (.func fi) caps, args := #[] }) {c : Code} {id t nt n : Nat} {h0 : Fz} {a : Act} {σ : St} {g : Gh} {w : World} {Q : Exit → Act → World → Prop}
    (h:zpm pr fi c=some (id,t)) (ht:t < nt) (S:Sim P nt B w0 h0 g σ a w)
    (hQ:∀ a',Sim P nt B w0 h0 g ⟨(t,.junk) :: σ.env,σ.objs,[]⟩ a' w->a'.defers=dfD fi (a.tmps.getD pr.t1 undef) (a.tmps.getD pr.t2 undef) :: a.defers->(∀ u,u ≠ t->a'.tmps.getD u undef=a.tmps.getD u undef)->Q .normal a' w):c.wpIn (FR none) n P Q a w:=by
  obtain⟨o1,o2,ats,rfl,n1,n2,e1,e2,e3,e4,e5,e6⟩:=zmg h
  refine wpIn_region ?_
  show wpOpsIn (FR none) n P #[o1,o2] Q [0,1] a w
  have w1:∀ tm,Region.wanted o1 (yielded #[o1,o2] tm)=true:=λ tm=>by simp[Region.wanted,e3]
  have w2:∀ tm,Region.wanted o2 (yielded #[o1,o2] tm)=true:=λ tm=>by simp[Region.wanted,e6]
  have r1:(execOp a.eval o1).run P w=.ok (.value (.func (.func fi) #[] #[a.tmps.getD pr.t1 undef,a.tmps.getD pr.t2 undef])) w:=by
    simp only[execOp,e1,Instr.makeFunc,dqd,dqe,dqb];simp[Act.eval]
  have ets:t < a.tmps.size:=dqS ht S.size
  have ev:(a.put (some t) (.func (.func fi) #[] #[a.tmps.getD pr.t1 undef,a.tmps.getD pr.t2 undef])).eval (.tmp t)=.func (.func fi) #[] #[a.tmps.getD pr.t1 undef,a.tmps.getD pr.t2 undef]:=by
    simp[Act.put,Act.eval,dql,ets]
  have r2:(execOp (a.put (some t) (.func (.func fi) #[] #[a.tmps.getD pr.t1 undef,a.tmps.getD pr.t2 undef])).eval o2).run P w=.ok (.defer (dfD fi (a.tmps.getD pr.t1 undef) (a.tmps.getD pr.t2 undef))) w:=by
    simp only[execOp,e4,resolve,dqd,ev,Deferred.ofValue,dqe,dqb];simp
  show (if Region.wanted o1 (yielded #[o1,o2] a.tmps) then o1.wpIn (FR none) n P a w (wpOpsIn (FR none) n P #[o1,o2] Q [1]) Q else _)
  rw[if_pos (w1 _)]
  refine⟨λ _ _=>trivial,?_⟩
  rw[show o1.semAt (FR none).round a.eval=execOp a.eval o1 from rfl,r1]
  show wpOpsIn (FR none) n P #[o1,o2] Q [1] (a.put o1.dst _) w
  rw[e2]
  show (if Region.wanted o2 (yielded #[o1,o2] (a.put (some t) _).tmps) then o2.wpIn (FR none) n P (a.put (some t) _) w (wpOpsIn (FR none) n P #[o1,o2] Q []) Q else _)
  rw[if_pos (w2 _)]
  refine⟨λ _ _=>trivial,?_⟩
  have r3:Sem.run P (o2.semAt (FR none).round (a.put (some t) (.func (.func fi) #[] #[a.tmps.getD pr.t1 undef,a.tmps.getD pr.t2 undef])).eval) w=.ok (.defer (dfD fi (a.tmps.getD pr.t1 undef) (a.tmps.getD pr.t2 undef))) w:=r2
  rw[r3]
  have S1:=S.put (dst:=some t) (d:=.junk) (v:=.func (.func fi) #[] #[a.tmps.getD pr.t1 undef,a.tmps.getD pr.t2 undef]) (by simpa [zby,Nat.blt_eq] using ht) trivial (λ L hL=>by simp[zaV,zbb,zaF] at hL) []
  rw[Oper.uponIn_defer,e5]
  refine hQ _ (S1.act ?_ ?_ ?_) rfl λ u hu=>?_
  · obtain ⟨es, m1, m2, m3, m4⟩ := S1.dfr
    refine⟨.inr (dfD fi (a.tmps.getD pr.t1 undef) (a.tmps.getD pr.t2 undef)) :: es,m1,?_,λ E hE=>?_,λ d hd=>?_⟩
    · rw[dqK,<- m2];rfl
    · rcases dqq.1 hE with e | hE
      · cases e
      · exact m3 E hE
    · rcases dqq.1 hd with e | hd
      · cases e;exact hidle _ rfl
      · exact m4 d hd
  · exact S1.size
  · exact S1.env
  · simp[Act.put,dql,Array.getElem?_setIfInBounds_ne (Ne.symm hu)]
theorem zyw (hb : ∀ w, (Instr.build pr.ty #[]).run P w = .ok (.agg #[]) w) (hm : ∀ w, (Instr.makeInterface pr.ty (.agg #[])).run P w = .ok pr.v w) {c : Code} {x y nt n : Nat} {h0 : Fz} {a : Act} {σ : St} {g : Gh} {w : World} {Q : Exit → Act → World → Prop}
    (h:zyv nt pr c=some (x,y)) (S:Sim P nt B w0 h0 g σ a w)
    (hQ:∀ a',Sim P nt B w0 h0 g ⟨(y,.junk) :: (x,.junk) :: σ.env,σ.objs,[]⟩ a' w->a'.defers=a.defers->(∀ u,u ≠ x->u ≠ y->a'.tmps.getD u undef=a.tmps.getD u undef)->Q (.panic [{ v:=pr.v,recovered:=false }]) a' w):c.wpIn (FR none) n P Q a w:=by
  obtain⟨id,o1,o2,o3,rfl,hx,hy,e1,e2,e3,e4,e5,e6,e7,e8⟩:=zpn h
  refine wpIn_region ?_
  show wpOpsIn (FR none) n P #[o1,o2,o3] Q [0,1,2] a w
  have w1:∀ tm,Region.wanted o1 (yielded #[o1,o2,o3] tm)=true:=λ tm=>by simp[Region.wanted,e3]
  have w2:∀ tm,Region.wanted o2 (yielded #[o1,o2,o3] tm)=true:=λ tm=>by simp[Region.wanted,e6]
  have w3:∀ tm,Region.wanted o3 (yielded #[o1,o2,o3] tm)=true:=λ tm=>by simp[Region.wanted,e8]
  have r1:(execOp a.eval o1).run P w=.ok (.value (.agg #[])) w:=by
    simp only[execOp,e1,dqd,Array.map_empty,hb,dqe,dqb]
  have S1:=S.put (dst:=some x) (d:=.junk) (v:=.agg #[]) (by simpa [zby,Nat.blt_eq] using hx) trivial (λ L hL=>by simp[zaV,zbb,zaF] at hL) []
  have S2:=S1.put (dst:=some y) (d:=.junk) (v:=pr.v) (by simpa [zby,Nat.blt_eq] using hy) trivial (λ L hL=>by simp[zaV,zbb,zaF] at hL) []
  have ex:(a.put (some x) (.agg #[])).eval (.tmp x)=.agg #[]:=by
    simp[Act.put,Act.eval,dql,dqS hx S.size]
  have ey:((a.put (some x) (.agg #[])).put (some y) pr.v).eval (.tmp y)=pr.v:=by
    simp[Act.put,Act.eval,dql,dqS hy S.size]
  have r2:(execOp (a.put (some x) (.agg #[])).eval o2).run P w=.ok (.value pr.v) w:=by
    simp only[execOp,e4,ex,dqd,hm,dqe,dqb]
  have r3:(execOp ((a.put (some x) (.agg #[])).put (some y) pr.v).eval o3).run P w=.halt (.panic pr.v) w:=by
    simp only[execOp,e7,ey];rfl
  show (if Region.wanted o1 (yielded #[o1,o2,o3] a.tmps) then o1.wpIn (FR none) n P a w (wpOpsIn (FR none) n P #[o1,o2,o3] Q [1,2]) Q else _)
  rw[if_pos (w1 _)]
  refine⟨λ _ _=>trivial,?_⟩
  rw[show o1.semAt (FR none).round a.eval=execOp a.eval o1 from rfl,r1,Oper.uponIn_value,e2]
  show (if Region.wanted o2 (yielded #[o1,o2,o3] (a.put (some x) _).tmps) then o2.wpIn (FR none) n P (a.put (some x) _) w (wpOpsIn (FR none) n P #[o1,o2,o3] Q [2]) Q else _)
  rw[if_pos (w2 _)]
  refine⟨λ _ _=>trivial,?_⟩
  rw[show o2.semAt (FR none).round (a.put (some x) (.agg #[])).eval=execOp (a.put (some x) (.agg #[])).eval o2 from rfl,r2,Oper.uponIn_value,e5]
  show (if Region.wanted o3 (yielded #[o1,o2,o3] ((a.put (some x) _).put (some y) _).tmps) then o3.wpIn (FR none) n P ((a.put (some x) _).put (some y) _) w (wpOpsIn (FR none) n P #[o1,o2,o3] Q []) Q else _)
  rw[if_pos (w3 _)]
  refine⟨λ _ _=>trivial,?_⟩
  rw[show o3.semAt (FR none).round ((a.put (some x) (.agg #[])).put (some y) pr.v).eval=execOp ((a.put (some x) (.agg #[])).put (some y) pr.v).eval o3 from rfl,r3,Oper.uponIn_panic]
  refine hQ _ S2 rfl λ u hu hu'=>?_
  simp[Act.put,dql,Array.getElem?_setIfInBounds_ne (Ne.symm hu),Array.getElem?_setIfInBounds_ne (Ne.symm hu')]
def zqP (P:Program) (Γ:Ctrs) (nt B:Nat) (w0:World) (h0:Fz) (pr:PanR) (fi:FuncId) (K:Exit->St->Prop):Exit->Act->World->Prop :=
 fun e a' w' => (∃ g' σ', K e σ' ∧ Sim P nt B w0 h0 g' σ' a' w') ∨
  (e=.panic [{ v:=pr.v,recovered:=false }]/\∃ g' σ',Sim P nt B w0 h0 g' σ' a' w'/\a'.defers=[dfD fi (a'.tmps.getD pr.t1 undef) (a'.tmps.getD pr.t2 undef)]/\zeJ P Γ nt (zlE pr) 0 (zlE pr).toList (K .ret) { σ' with log:=[] })
def PhD (pr : PanR) (fi : FuncId) (D : List Nat) (a0 : Act) : Bool → Prop
  | false=>a0.defers=[]
  | true=>a0.defers=[dfD fi (a0.tmps.getD pr.t1 undef) (a0.tmps.getD pr.t2 undef)]/\pr.t1 ∉ D/\pr.t2 ∉ D
theorem zyx {a b:List Nat}(h:zJ8 a b=true):∀ t∈a,t ∉ b:=λ t ht hb=>by
 have:=List.all_eq_true.1 h t ht
 simp at this
 exact this hb
theorem zG5 (hok : OkAll P Γ) {fi : FuncId} (hidle : ∀ caps : Array Value, caps.size = 2 → zom P { target := .fn (.func fi) caps, args := #[] })
    (hb:∀ w,(Instr.build pr.ty #[]).run P w=.ok (.agg #[]) w) (hm:∀ w,(Instr.makeInterface pr.ty (.agg #[])).run P w=.ok pr.v w) (ann:Ann):∀ (c:Code) (dn:Bool) (n:Nat) (h0:Fz) (D:List Nat) (a0:Act) (K:Exit->St->Prop) (σ:St) (g:Gh) (a:Act) (w:World),
    (∀ t∈zfN c,t∈D)->rfS ∉ D->PhD pr fi D a0 dn->znm P Γ pr fi ann dn c K σ->Sim P ann.nt B w0 h0 g σ a w->Kp D a0 a->c.wpIn (FR none) n P (zqP P Γ ann.nt B w0 h0 pr fi K) a w:=by
  intro c
  have leaf:∀ (c:Code),(∀ dn K σ,znm P Γ pr fi ann dn c K σ=(match zyv ann.nt pr c with
      | some (x,y)=>(match dn with
        | true=>zeJ P Γ ann.nt (zlE pr) 0 (zlE pr).toList (K .ret) ⟨(y,.junk) :: (x,.junk) :: σ.env,σ.objs,[]⟩
        | false=>False)
      | none=>vc P Γ ann c K σ))->∀ (dn:Bool) (n:Nat) (h0:Fz) (D:List Nat) (a0:Act) (K:Exit->St->Prop) (σ:St) (g:Gh) (a:Act) (w:World),
      (∀ t∈zfN c,t∈D)->rfS ∉ D->PhD pr fi D a0 dn->znm P Γ pr fi ann dn c K σ->Sim P ann.nt B w0 h0 g σ a w->Kp D a0 a->c.wpIn (FR none) n P (zqP P Γ ann.nt B w0 h0 pr fi K) a w:=by
    intro c hc dn n h0 D a0 K σ g a w hD hr hph h S hkp
    rw[hc] at h
    split at h
    · rename_i x y hpan
      split at h
      · refine zyw hb hm hpan S fun a' S' hdf htm => .inr ⟨rfl, g, _, S', ?_, h⟩
        obtain⟨p1,p2,p3⟩:=hph
        obtain⟨id,o1,o2,o3,rfl,_,_,_,e2,_,_,e5,_⟩:=zpn hpan
        have hxD:x∈D:=hD x (by simp[zfN,zu1,e2])
        have hyD:y∈D:=hD y (by simp only[zfN,zu1,e2,e5];simp)
        rw[hdf,hkp.2.2 hr,p1,htm _ (λ e=>p2 (by rw[e];exact hxD)) (λ e=>p2 (by rw[e];exact hyD)),htm _ (λ e=>p3 (by rw[e];exact hxD)) (λ e=>p3 (by rw[e];exact hyD)),hkp.1 _ p2,hkp.1 _ p3]
      · exact h.elim
    · exact wpIn_mono (zsK hok ann c none n h0 D a0 K σ g a w hD (Rnd.none h0) h S hkp) λ e a' w' ⟨g',σ',hK,S',_⟩=>.inl ⟨g',σ',hK,S'⟩
  induction c with
  | seq x y _ ihy =>
    intro dn n h0 D a0 K σ g a w hD hr hph h S hkp
    have hDx:∀ t∈zfN x,t∈D:=λ t ht=>hD t (dqg.2 (.inl ht))
    have hDy:∀ t∈zfN y,t∈D:=λ t ht=>hD t (dqg.2 (.inr ht))
    simp only[znm] at h
    split at h
    · rename_i id t hdf
      split at h
      · rename_i hlt
        simp only[dqm,Bool.not_eq_true'] at hlt
        obtain⟨⟨ht,hdn⟩,hdj⟩:=hlt
        subst hdn
        have ht:t < ann.nt:=by simpa [Nat.blt_eq] using ht
        have hph:a0.defers=[]:=hph
        refine wpIn_seq (zuU hidle hdf ht S λ a' S' hd' htm=>?_)
        have hd:=zyx hdj
        obtain⟨_,_,_,rfl,n1,n2,_⟩:=zmg hdf
        have hph':PhD pr fi (zfN y) a' true:=by
          refine⟨?_,hd _ (by simp),hd _ (by simp)⟩
          rw[hd',hkp.2.2 hr,hph,htm _ (Ne.symm n1),htm _ (Ne.symm n2)]
        have hk:∀ s g2,znm P Γ pr fi ann true y K s->Sim P ann.nt B w0 h0 g2 s a' w->y.wpIn (FR none) n P (zqP P Γ ann.nt B w0 h0 pr fi K) a' w:=λ s g2 hv S2 =>
          ihy true n h0 (zfN y) a' K s g2 a' w (λ _ h=>h) (λ h=>hr (hDy _ h)) hph' hv S2 (Kp.refl _ _)
        unfold zFw at h
        split at h
        · split at h
          · rename_i s hs
            obtain⟨g2,S2⟩:=zbp hs S'
            exact hk s g2 h S2
          · exact h.elim
        · exact hk _ g h S'
      · exact h.elim
    · refine wpIn_seq (wpIn_mono (zsK hok ann x none n h0 D a0 _ σ g a w hDx (Rnd.none h0) h S hkp) ?_)
      rintro e a' w' ⟨g',σ',hK,S',hk'⟩
      cases e with
      | normal=>exact ihy dn n h0 D a0 K σ' g' a' w' hDy hr hph hK S' hk'
      | exit id=>exact .inl ⟨g',σ',hK,S'⟩
      | goto l=>exact .inl ⟨g',σ',hK,S'⟩
      | ret=>exact .inl ⟨g',σ',hK,S'⟩
      | panic ch=>exact .inl ⟨g',σ',hK,S'⟩
      | outgrown=>exact .inl ⟨g',σ',hK,S'⟩
  | skip=>exact leaf _ λ dn K σ=>rfl
  | region i o d=>exact leaf _ λ dn K σ=>rfl
  | cond c x y=>exact leaf _ λ dn K σ=>rfl
  | block i x=>exact leaf _ λ dn K σ=>rfl
  | loop x=>exact leaf _ λ dn K σ=>rfl
  | scope x=>exact leaf _ λ dn K σ=>rfl
  | exit i=>exact leaf _ λ dn K σ=>rfl
  | goto i=>exact leaf _ λ dn K σ=>rfl
  | label i=>exact leaf _ λ dn K σ=>rfl
  | ret=>exact leaf _ λ dn K σ=>rfl
  | rangeFunc f p x y=>exact leaf _ λ dn K σ=>rfl
  | refuse x=>exact leaf _ λ dn K σ=>rfl
theorem zG6 {n : Nat} {a : Act} {w : World} {Q : Exit → Act → World → Prop} (h : wpOpsIn (FR none) n P (zlE pr) Q [0, 1] a w) (hQ : ∀ ch a' w', ¬ Q (.panic ch) a' w') :
  ∃ w1 w2,(Instr.storeAt pr.y1 (a.tmps.getD pr.t1 undef) (.slice none 0 0)).run P w=.ok () w1/\(Instr.storeAt pr.y2 (a.tmps.getD pr.t2 undef) (.int .i64 pr.e)).run P w1=.ok () w2/\Q .normal a w2:=by
 have one:∀ (o:Oper) (ty:TypeId) (t:Nat) (v:Value) (w:World) (next:Act->World->Prop),o.op=.store ty (.tmp t) (.const v)->o.dst=none->o.wpIn (FR none) n P a w next Q->∃ w1,(Instr.storeAt ty (a.tmps.getD t undef) v).run P w=.ok () w1/\next a w1:=by
  intro o ty t v w next ho hd h
  obtain⟨_,h⟩:=h
  have e:o.semAt (FR none).round a.eval=(do Instr.storeAt ty (a.tmps.getD t undef) v;pure .skip):=by
   show execOp a.eval o=_
   simp only[execOp,ho];rfl
  rw[e] at h
  simp only[dqd] at h
  cases hr:(Instr.storeAt ty (a.tmps.getD t undef) v).run P w with
  | ok u w1 =>
   rw[hr] at h
   simp only[dqb,dqe,Oper.uponIn_skip,hd] at h
   exact⟨w1,rfl,h⟩
  | halt hh w1 =>
   rw[hr] at h
   cases hh with
   | panic v=>exact (hQ _ _ _ h).elim
   | _=>exact h.elim
 have w1:∀ (o:Oper) tm,o.guard=none->Region.wanted o (yielded (zlE pr) tm)=true:=λ o tm e3=>by simp[Region.wanted,e3]
 have e0:(zlE pr)[0]? = some (stA pr):=rfl
 have e1:(zlE pr)[1]? = some (stB pr):=rfl
 simp only[wpOpsIn,e0,e1] at h
 rw[if_pos (w1 _ _ rfl)] at h
 obtain⟨wa,hr1,h⟩:=one _ _ _ _ _ _ rfl rfl h
 rw[if_pos (w1 _ _ rfl)] at h
 obtain⟨wb,hr2,h⟩:=one _ _ _ _ _ _ rfl rfl h
 exact⟨wa,wb,hr1,hr2,h⟩
def zPv (P:Program) (pr:PanR) (fi:FuncId):Prop:=∀ (v1 v2:Value) (w:World),∃ os:Array Obj,∀ w1 w2,(Instr.storeAt pr.y1 v1 (.slice none 0 0)).run P { w with heap:=w.heap ++ os } = .ok () w1->(Instr.storeAt pr.y2 v2 (.int .i64 pr.e)).run P w1=.ok () w2 ->
 (∀ w,(invoke (dfD fi v1 v2).target (dfD fi v1 v2).args).run P w=.ok (.enter fi #[v1,v2]) w) /\
 ∀ n,CallsDIn (FR none) n P fi #[v1,v2] (.panicking [{ v:=pr.v,recovered:=false }]) w λ e u' w'=>(∃ v,e=.returned v)/\u'=.panicking [{ v:=pr.v,recovered:=true }]/\w'=w2
structure DefD (P : Program) (pr : PanR) (fi : FuncId) : Prop where
  idle:∀ caps:Array Value,caps.size=2->zom P { target:=.fn (.func fi) caps,args:=#[] }
  bld:∀ w,(Instr.build pr.ty #[]).run P w=.ok (.agg #[]) w
  mki:∀ w,(Instr.makeInterface pr.ty (.agg #[])).run P w=.ok pr.v w
  pan:zPv P pr fi
theorem zDd {G : Ctrs} (hok : OkAll P G) {f fi : FuncId} (H : DefD P pr fi) {args : List PA} {K : List PA → Prop} {ann : Ann} (hv : ztF P G pr fi ann f args K) {w : World} {h0 : Fz} {vs : List Value} (hvs : RL (paR h0) args vs) (hfz : Hw h0 w) (hgl : zd7 h0) :
    Calls P f vs.toArray w λ e w'=>∃ (h':Fz) (rs:List PA) (v:Value),K rs/\e=.returned v/\zmu h' rs v/\Bel h0 w.heap.size w w' /\
      Fle h0 h'/\Hw h' w'/\∀ b o,h' b=some o->h0 b=some o\/w.heap.size<=b:=by
  unfold ztF at hv
  split at hv
  · rename_i fn hfn
    split at hv
    · rename_i c hbody
      split at hv
      · rename_i hnt
        simp only[dqm,Nat.ble_eq] at hnt
        have S:=zkK (P:=P) (dqc hnt.1.1) hnt.1.2 hvs hfz hgl
        have hwp:=zG5 (B:=w.heap.size) (w0:=w) hok H.idle H.bld H.mki ann c false 0 h0 (zfN c) { tmps:=vs.toArray ++ Array.replicate (fn.ntmps - vs.toArray.size) undef,defers:=[] } _ _ _ _ _ (λ _ h=>h) (zyx hnt.2 _ (by simp)) rfl hv S (Kp.refl _ _)
        refine (callsIn_wide (n:=0)).1 ?_
        refine callsIn_of_wp_marks (F:=FR none) hfn hbody trivial (wpIn_mono hwp ?_)
        have h0b:∀ b,h0 b=some (.fz (.deferred (some [])))->b < w.heap.size:=λ b h=>hfz.lt h
        have res:∀ σ' g2 a2 w2,zD0 P fn K σ'->Sim P ann.nt w.heap.size w h0 g2 σ' a2 w2->∃ v,(results fn a2.tmps).run P w2=.ok v w2/\∃ (h':Fz) (rs:List PA) (v':Value),K rs/\Ending.returned v=.returned v'/\zmu h' rs v'/\Bel h0 w.heap.size w w2 /\
            Fle h0 h'/\Hw h' w2/\∀ b o,h' b=some o->h0 b=some o\/w.heap.size<=b:=by
          intro σ' g2 a2 w2 hf S2
          unfold zD0 at hf
          split at hf
          · rename_i l hl
            obtain⟨u,v,hu,hrun,hres⟩:=zkI S2 hl
            obtain⟨h',S3,F⟩:=S2.freeze hu
            exact⟨v,hrun,h',l,v,hf,rfl,hres h' F,S3.below,S3.le0,S3.hw,S3.hn⟩
          · exact hf.elim
        rintro e a' w' (⟨g',σ',hK',S'⟩ | ⟨rfl,g',σ',S',hdf,hvo⟩)
        · have fin:zD0 P fn K σ'->LeavesInM (FR none) 0 P fn a'.tmps (λ e w'=>∃ (h':Fz) (rs:List PA) (v:Value),K rs/\e=.returned v/\zmu h' rs v/\Bel h0 w.heap.size w w' /\
              Fle h0 h'/\Hw h' w'/\∀ b o,h' b=some o->h0 b=some o\/w.heap.size<=b) a'.defers .returning w':=by
            intro hf
            obtain⟨Ds,h1,h2,h3,h4⟩:=S'.dfr
            exact zkJ h0b Ds g' a' w' h1 h2 h3 h4 S' λ g2 a2 w2 _ S2=>res σ' g2 a2 w2 hf S2
          cases e with
          | normal=>exact fin hK'
          | ret=>exact fin hK'
          | exit id=>exact hK'.elim
          | goto l=>exact hK'.elim
          | panic ch=>exact hK'.elim
          | outgrown=>exact hK'.elim
        · show LeavesInM (FR none) 0 P fn a'.tmps _ a'.defers (.panicking _) w'
          rw[hdf]
          obtain⟨os,hpan⟩:=H.pan (a'.tmps.getD pr.t1 undef) (a'.tmps.getD pr.t2 undef) w'
          have hsame:∀ k,k < w'.heap.size->(w'.heap ++ os)[k]? = w'.heap[k]?:=λ k hk=>Array.getElem?_append_left hk
          have S1 : Sim P ann.nt w.heap.size w h0 g' σ' a' { w' with heap := w'.heap ++ os } := S'.world (h' := g'.h) (fun _ _ h => h) (S'.hw.same fun k o hk => hsame k (S'.hw.lt hk)) (fun _ _ h => .inl h)
            ⟨rfl,rfl,rfl,by simp,dqt _,λ k hk _=>hsame k hk⟩
          have hops:=zkq (r:=none) (n:=0) (D:=[]) (a0:=a') (Q:=λ e a2 w2=>e=.normal/\a2.tmps=a'.tmps/\∃ g2 σ2,zD0 P fn K σ2/\Sim P ann.nt w.heap.size w h0 g2 σ2 a2 w2) hok (λ j o ho t ht=>by
            match j,ho with
            | 0,ho=>cases ho;cases ht
            | 1,ho=>cases ho;cases ht
            | _+2,ho=>cases ho) hvo (S1.log []) (Kp.refl _ _) λ σ2 hK g2 a2 w2 S2 hk2 _=>⟨rfl,?_,g2,σ2,hK,S2⟩
          · obtain ⟨w1, w2, hr1, hr2, _, _, g2, σ2, hf, S2⟩ := zG6 hops fun ch a2 w2 h => by cases h.1
            obtain⟨hinv,hcall⟩:=hpan w1 w2 hr1 hr2
            refine⟨by simp,.inr ⟨(λ h=>by cases h),.func fi,_,fi,_,rfl,hinv w',(λ _ _=>trivial),?_⟩⟩
            refine (hcall _).mono ?_
            rintro e u' w3 ⟨⟨v,rfl⟩,rfl,rfl⟩
            exact res σ2 g2 a' _ hf S2
          · refine Array.ext (hk2.2.1) fun i h1 h2 => ?_
            have:=hk2.1 i (by simp)
            rw[dql,dql,Array.getElem?_eq_getElem h1,Array.getElem?_eq_getElem h2] at this
            exact this
      · exact hv.elim
    · exact hv.elim
  · exact hv.elim
theorem zDe {T : Tabs} (hT : TabsOk P T) {f fi : FuncId} {C : List PA → COut} (hc : zar P f) (H : DefD P pr fi)
    (h:∀ args K,(C args).wp K->∃ args',RL PAle args args'/\∃ memo vv ann,ztF P (csm T memo vv) pr fi ann f args' (Wk K)):Ok P f C:=by
  intro args K hK w h0 vs hvs hfz hgl
  obtain⟨args',hle,memo,vv,ann,hv⟩:=h args K hK
  refine⟨hc,(zDd (hT.all memo vv) H hv (zwE (R:=paR h0) (S:=PAle) (T:=paR h0) (λ _ _ _ e r=>zCH e r) _ _ _ hle hvs) hfz hgl).mono ?_⟩
  rintro e w' ⟨h',rs,v,⟨rs',hr,hk⟩,he,hres,rest⟩
  exact⟨h',rs',v,hk,he,zwF hr hres,rest⟩
end
end Go.Pm
namespace Go.Pm
open Go Go.Proofs
set_option maxRecDepth 100000
theorem zLs:∀ caps:Array Value,caps.size=2->zom Tryd.prog { target:=.fn (.func 68) caps,args:=#[] }:=λ caps hc=>by
 match caps,hc with
 | ⟨[x,y]⟩,_ =>
 refine⟨.func 68,#[x,y],68,#[x,y],rfl,λ w=>?_,λ n w=>?_⟩
 ·have h : zar Tryd.prog 68 := ⟨_, rfl, rfl, by kernel_rfl⟩
  show (callFunc 68 (#[] ++ #[x,y])).run Tryd.prog w=_
  exact zbL h
 have key:CallsDIn { fn:=λ _=>True,depth:=none,alive:=false,round:=none } n Tryd.prog 68 #[x,y] .returning w λ e u' w'=>e=.returned (.tuple #[])/\u'=.returning/\w'=w:=by
  refine callsDIn_of_wpSIn Tryd.func68 rfl trivial λ c₀ cs hu=>?_
  apply wpSIn_seq
  apply wpSIn_region
  simp[wpOpsSIn,go_sem,recoverD,hu,Tryd.ntmps68,Exit.thenS]
  apply wpSIn_seq
  apply wpSIn_region
  simp[wpOpsSIn,go_sem,recoverD,hu,Tryd.ntmps68,Exit.thenS]
  refine wpSIn_cond (t:=false) (by simp[Act.eval,Array.replicate]) ?_
  simp only[Bool.false_eq_true,if_false]
  refine wpSIn_of_wpIn rfl (wpIn_skip ?_)
  cases c₀
  simp_all [bodyPostS,results,Tryd.results68]
 exact key.mono λ e u' w' h=>⟨⟨_,h.1⟩,h.2⟩
theorem zG7:Tryd.prog.underlying 100=some (.struct #[]):=by kernel_rfl
theorem zN6 (w:World):(Instr.typeAssert (.iface 100 (.agg #[])) 20 100 true).run Tryd.prog w=.ok (.tuple #[.agg #[],.bool true]) w:=by
 simp only[Instr.typeAssert,dqd,run_underlying zG7,dqb,if_true,dqe]
abbrev zJY:PanR:=⟨2,27,3,28,8,100⟩
theorem zN7:zPv Tryd.prog zJY 68:=λ v1 v2 w=>by
 refine⟨#[.cells #[] 100 (0,0)],λ w1 w2 h1 h2=>⟨λ w=>?_,λ n=>?_⟩⟩
 ·have h : zar Tryd.prog 68 := ⟨_, rfl, rfl, by kernel_rfl⟩
  show (callFunc 68 (#[] ++ #[v1,v2])).run Tryd.prog w=_
  exact zbL h
 have key:CallsDIn { fn:=λ _=>True,depth:=none,alive:=false,round:=none } n Tryd.prog 68 #[v1,v2] (.panicking [{ v:=zJY.v,recovered:=false }]) w λ e u' w'=>e=.returned (.tuple #[])/\u'=.panicking [{ v:=zJY.v,recovered:=true }]/\w'=w2:=by
  refine callsDIn_of_wpSIn Tryd.func68 rfl trivial λ c₀ cs hu=>?_
  apply wpSIn_seq
  apply wpSIn_region
  simp[wpOpsSIn,go_sem,recoverD,hu,Tryd.ntmps68,Exit.thenS]
  apply wpSIn_seq
  apply wpSIn_region
  simp[wpOpsSIn,go_sem,recoverD,hu,Tryd.ntmps68,Exit.thenS,PanR.v]
  refine wpSIn_cond (t:=true) (by simp[Act.eval,Array.replicate]) ?_
  simp only[if_true]
  apply wpSIn_seq
  apply wpSIn_seq
  apply wpSIn_region
  simp[wpOpsSIn,go_sem,recoverD,hu,Tryd.ntmps68,Exit.thenS,PanR.v,zN6]
  apply wpSIn_seq
  apply wpSIn_region
  simp[wpOpsSIn,go_sem,recoverD,hu,Tryd.ntmps68,Exit.thenS]
  refine wpSIn_cond (t:=false) (by simp[Act.eval,Array.replicate]) ?_
  simp only[Bool.false_eq_true,if_false]
  refine wpSIn_of_wpIn rfl (wpIn_skip ?_)
  simp only[Exit.thenS]
  apply wpSIn_region
  have e:w.alloc (Obj.cells #[] 100) = { w with heap:=w.heap ++ #[.cells #[] 100 (0,0)] }:=by
   show ({ w with heap:=w.heap.push _ } : World)=_
   rw[Array.push_eq_append]
  rw[<- e] at h1
  generalize hA:(Act.mk _ _)=A
  have hA0:A.eval (.tmp 0)=v1:=by subst hA;simp[Act.eval]
  have hA1:A.eval (.tmp 1)=v2:=by subst hA;simp[Act.eval]
  have hc:A.eval (.const (.slice none 0 0))=.slice none 0 0:=rfl
  have hc':A.eval (.const (.int .i64 8))=.int .i64 8:=rfl
  have hAd:A.defers=[]:=by subst hA;rfl
  clear hA
  show wpOpsSIn _ n Tryd.prog _ _ [0,1] A _ _
  simp[wpOpsSIn,execOp,hA0,hA1,hc,hc',h1,h2,Region.wanted,Act.put,Oper.about,bodyPostS,results,Tryd.results68]
  exact hAd
 exact key.mono λ e u' w' h=>⟨⟨_,h.1⟩,h.2⟩
theorem zN8:DefD Tryd.prog zJY 68:=by
 refine⟨zLs,λ w=>?_,λ w=>?_,zN7⟩
 ·have hz : (zeroValue 100).run Tryd.prog w = .ok (.agg #[]) w := by simp [go_sem]
  have hm:(Array.mapM (λ (f:Field)=>do let __do_lift <- sizeOf f.type;pure (f.offset,__do_lift)) #[]:Sem (Array (Nat×Nat)))=pure #[]:=by simp
  simp only[Instr.build,dqd,run_underlying zG7,hz,dqb,hm,dqe]
  rfl
 ·simp only [Instr.makeInterface, dqd, run_underlying zG7, dqb, dqe]
  rfl
end Go.Pm
namespace Go.Proofs
open Go Go.Pm
set_option maxRecDepth 100000
set_option linter.unusedVariables false
attribute [local irreducible] Go.Pm.vcFun Go.Pm.vc Go.Pm.vcIter
abbrev T22:Tabs:=(((Tabs.nil.addF 67 zuO).addM 69 zLn).addF 70 zG4)
theorem zN9:TabsOk Tryd.prog T22:=(((TabsOk.nil.addF zNc).addM zQi).addF zQk)
abbrev G22:Ctrs:=csm T22 (λ _ _=>[]) (λ l=>Nat.beq l 12)
def zG8:Ann:=⟨29,[(0,zK [1,2,3] [1,2,3]),(1,zK [1,2,3,9] [1,2,3]),(2,zK [2,3] [2,3]),(3,zK [1,2,3] [1,2,3]),(4,zK [2,3,4] [2,3,12,14]),(5,zK [2,3,4,15] [2,3,12,14]),(6,zK [2,3,4,15,16] [2,3,12,14]),(7,zK [2,3,4,5,15] [2,3,12,14]),(8,zK [2,3,4,6,15] [2,3,12,14]),(9,zK [2,3,4,6,15,23] [2,3,12,14]),(10,zK [2,3] [2,3]),(11,zK [2,3,4,15] [2,3,12,14])],
 [(6,zK [2,3,4,15] [2,3,12,14])],
 [],
 [],[]⟩
abbrev R22:=((Sl Int)×Int)
abbrev e22 (r:R22):List PA:=[.one (.sl r.1.len 1 (λ i=>zae (r.1.get i))),.one (.int .i64 r.2)]
@[irreducible] def z22:=zQl Tryd.prog G22 zG8 zJY 68 Tryd.f22
def zEI (zaL:Int) (zbk:Int) (zbg:(Sl Tie)) (zbl:Nat) (zbm:(List Int->Option (List Int))) (zdD:Nat->List PV):St:=⟨[(2,zp 2 0),(3,zp 3 0),(4,zp 14 0),(15,zI zaL)],[(2,.box 27 [.p (.nils)]),(3,.box 28 [zi (0:Int)]),(12,.mo 3 4 (false,1,false,[none]) zbl zbm),(14,.box 105 [zi zbk,.p (.sl zbg.len 4 zdD),.mo 12])],[]⟩
abbrev zLt (K:List PA->Prop) (X:St->Prop) (P:Int->Int->(Sl Tie)->Nat->(List Int->Option (List Int))->Bool) (S:Int->Int->(Sl Tie)->Nat->(List Int->Option (List Int))->((Sl Int)×Int)):Prop:=∀ ⦃zaL:Int⦄ ⦃zbk:Int⦄ ⦃zbg:(Sl Tie)⦄ ⦃zbl:Nat⦄ ⦃zbm:(List Int->Option (List Int))⦄ ⦃zdD:Nat->List PV⦄,P zaL zbk zbg zbl zbm=true->K (e22 (S zaL zbk zbg zbl zbm))->zdD=zg enc_40 zbg->X (zEI zaL zbk zbg zbl zbm zdD)
section
variable {K:List PA->Prop}{n:Net}{zaL:Int}{zbk:Int}{zbg:(Sl Tie)}{zbl:Nat}{zbm:(List Int->Option (List Int))}{zdD:Nat->List PV}{X0:St->Prop}{P0:Int->Int->(Sl Tie)->Nat->(List Int->Option (List Int))->Bool}{S0:Int->Int->(Sl Tie)->Nat->(List Int->Option (List Int))->((Sl Int)×Int)}
def zyy (S0:Int->Int->(Sl Tie)->Nat->(List Int->Option (List Int))->((Sl Int)×Int)) (zaL:Int) (zbk:Int) (zbg:(Sl Tie)) (zbl:Nat) (zbm:(List Int->Option (List Int))):((Sl Int)×Int) :=
  (cond (decide (zaL < (4:Int)))
 (cond (decide ((((s69 (⟨(⟨zbk, zbg⟩ : Net), (⟨zbl, zbm⟩ : Mp)⟩ : web) zaL).1).len : Int) > (0:Int)))
 ((s70 ((s69 (⟨(⟨zbk,zbg⟩:Net),(⟨zbl,zbm⟩:Mp)⟩:web) zaL).1)),(0:Int))
 (S0 (w64 (zaL+(1:Int))) (((s69 (⟨(⟨zbk,zbg⟩:Net),(⟨zbl,zbm⟩:Mp)⟩:web) zaL).2).Net.Nodes) (((s69 (⟨(⟨zbk,zbg⟩:Net),(⟨zbl,zbm⟩:Mp)⟩:web) zaL).2).Net.Ties) ((((s69 (⟨(⟨zbk,zbg⟩:Net),(⟨zbl,zbm⟩:Mp)⟩:web) zaL).2).out).n) ((((s69 (⟨(⟨zbk,zbg⟩:Net),(⟨zbl,zbm⟩:Mp)⟩:web) zaL).2).out).F)))
 ((⟨0,λ _=>default⟩:(Sl Int)),(8:Int)))
def zyz (P0:Int->Int->(Sl Tie)->Nat->(List Int->Option (List Int))->Bool) (zaL:Int) (zbk:Int) (zbg:(Sl Tie)) (zbl:Nat) (zbm:(List Int->Option (List Int))):Bool :=
  (cond (decide (zaL < (4:Int)))
 (decide ((p69 (⟨(⟨zbk,zbg⟩:Net),(⟨zbl,zbm⟩:Mp)⟩:web) zaL=true)) &&
 (cond (decide ((((s69 (⟨(⟨zbk, zbg⟩ : Net), (⟨zbl, zbm⟩ : Mp)⟩ : web) zaL).1).len : Int) > (0:Int)))
 (decide ((p70 ((s69 (⟨(⟨zbk,zbg⟩:Net),(⟨zbl,zbm⟩:Mp)⟩:web) zaL).1)=true)) &&
 true)
 (P0 (w64 (zaL+(1:Int))) (((s69 (⟨(⟨zbk,zbg⟩:Net),(⟨zbl,zbm⟩:Mp)⟩:web) zaL).2).Net.Nodes) (((s69 (⟨(⟨zbk,zbg⟩:Net),(⟨zbl,zbm⟩:Mp)⟩:web) zaL).2).Net.Ties) ((((s69 (⟨(⟨zbk,zbg⟩:Net),(⟨zbl,zbm⟩:Mp)⟩:web) zaL).2).out).n) ((((s69 (⟨(⟨zbk,zbg⟩:Net),(⟨zbl,zbm⟩:Mp)⟩:web) zaL).2).out).F))))
 true)
def zyA:Nat->Int->Int->(Sl Tie)->Nat->(List Int->Option (List Int))->((Sl Int)×Int):=lpO (λ _ _ _ _ _=>default) (zyy)
def zyB:Nat->Int->Int->(Sl Tie)->Nat->(List Int->Option (List Int))->Bool:=lpO (λ _ _ _ _ _=>false) (zyz)
def zyC (zaL:Int) (zbk:Int) (zbg:(Sl Tie)) (zbl:Nat) (zbm:(List Int->Option (List Int))):((Sl Int)×Int):=zyA Fuel zaL zbk zbg zbl zbm
def zyD (zaL:Int) (zbk:Int) (zbg:(Sl Tie)) (zbl:Nat) (zbm:(List Int->Option (List Int))):Bool:=zyB Fuel zaL zbk zbg zbl zbm
theorem zG9 (hs:zyD zaL zbk zbg zbl zbm=true) (hk:K (e22 (zyC zaL zbk zbg zbl zbm))) (zk4:zdD=zg enc_40 zbg):z22 (Wk K) [1,1,1,1,0,1,0] [] (zEI zaL zbk zbg zbl zbm zdD) :=
  zl (λ X=>z22 (Wk K) [1,1,1,1,0,1,0,0] [X]) (by kernel_rfl) λ X0 hX =>
  (show ∀ k, zLt K X0 (zyB k) (zyA k) from zd0 _ _ (zyz) (zyy) (zLt K X0)
 (by intro _ _ _ _ _ _ hs;exact absurd hs dqk)
 (by intro P0 S0 hX0 zaL zbk zbg zbl zbm zdD hs hk zk4;subst zk4;exact hX _ (zaS (by kernel_rfl) (zc hs hk (λ hs hk=>(zaO hs λ hc hs=>And.intro (And.intro (zE enc_40 4 zbg.get) (And.intro (rfl:((false,1,false,[none]):MQ)=(false,1,false,[none])) hc)) (zc hs hk (λ hs hk=>(zaO hs λ hc hs=>And.intro (And.intro (zE zb5 1 (((s69 (⟨(⟨zbk,zbg⟩:Net),(⟨zbl,zbm⟩:Mp)⟩:web) zaL).1).get)) hc) ((zfT hk):Wk K [.one (.sl ((s70 ((s69 (⟨(⟨zbk,zbg⟩:Net),(⟨zbl,zbm⟩:Mp)⟩:web) zaL).1)).len) 1 (λ i=>zae ((s70 ((s69 (⟨(⟨zbk,zbg⟩:Net),(⟨zbl,zbm⟩:Mp)⟩:web) zaL).1)).get i))),.one (.int .i64 (0:Int))]))) (λ hs hk=>(hX0 hs hk rfl))))) (λ hs hk=>((wk hk (zgy (.one (.nil _ _)) (zgy (.one (.rfl _)) zmd))):Wk K [.one (.nils),.one (.int .i64 (8:Int))])))))) _ hs hk zk4
def s22 (n:Net):((Sl Int)×Int) :=
  (cond (!(s67 n))
 ((⟨0,λ _=>default⟩:(Sl Int)),(2:Int))
 (zyC (0:Int) n.Nodes n.Ties 0 (λ _=>none)))
def p22 (n:Net):Bool :=
  (decide ((p67 n=true)) &&
 (cond (!(s67 n))
 true
 (zyD (0:Int) n.Nodes n.Ties 0 (λ _=>none))))
end
theorem q22 (n:Net) (K:List PA->Prop) (hs:p22 n=true) (hk:K (e22 (s22 n))):ztF Tryd.prog G22 zJY 68 zG8 22 [.agg (enc_24 n)] (Wk K) :=
  zaS (by kernel_rfl) (zaO hs λ hc hs=>And.intro (And.intro (zE enc_40 4 n.Ties.get) hc) (zc hs hk (λ hs hk=>((wk hk (zgy (.one (.nil _ _)) (zgy (.one (.rfl _)) zmd))):Wk K [.one (.nils),.one (.int .i64 (2:Int))])) (λ hs hk=>(zG9 hs hk rfl))))
def zHa : List PA → COut
  | [.agg [.int .i64 zaf,.sl zac zat zab]]=>.det (IsE enc_40 4 zat zab/\p22 (⟨zaf,(⟨zac,zal zab⟩:(Sl Tie))⟩:Net)=true) [.one (.sl (((s22 (⟨zaf,(⟨zac,zal zab⟩:(Sl Tie))⟩:Net)).1).len) 1 (λ i=>zae (((s22 (⟨zaf,(⟨zac,zal zab⟩:(Sl Tie))⟩:Net)).1).get i))),.one (.int .i64 ((s22 (⟨zaf,(⟨zac,zal zab⟩:(Sl Tie))⟩:Net)).2))]
  | _=>.no
theorem zLu:zar Tryd.prog 22:=⟨_,rfl,rfl,by kernel_rfl⟩
theorem zQm:Ok Tryd.prog 22 zHa:=zDe zN9 zLu zN8 λ args K h=>by
  unfold zHa at h
  split at h
  · rename_i zaf zac zat zab
    obtain⟨⟨⟨rfl,zan,rfl⟩,hs⟩,hk⟩:=h
    try rw[zaj zan] at hs
    try rw[zaj zan] at hk
    exact⟨_,zfA zfS _,(λ _ _=>[]),(λ l=>Nat.beq l 12),zG8,q22 (⟨zaf,(⟨zac,zan⟩:(Sl Tie))⟩:Net) K hs hk⟩
  · exact h.elim
abbrev T74:Tabs:=(((Tabs.nil.addF 67 zuO).addF 81 zwP).addF 88 zwZ)
theorem zLv:TabsOk Tryd.prog T74:=(((TabsOk.nil.addF zNc).addF zNC).addF zNJ)
abbrev G74:Ctrs:=csm T74 (λ _ _=>[]) (λ _=>false)
def zDf:Ann:=⟨31,[(0,zK [1,2] [2]),(1,zK [1,2,6] [2,11]),(2,zK [1,2,6,14] [2,11]),(3,zK [4,5] []),(4,zK [2,6,15,16,17] [2,11]),(5,zK [2,6,15,16,17,18] [2,11]),(6,zK [2,6,8,15,16,17] [2,11]),(7,zK [2,6,15,16,17,26] [2,11]),(8,zK [4,5] []),(9,zK [2,6,15,16,17] [2,11]),(10,zK [6,29] [11]),(11,zK [4,5] []),(12,zK [4,5] [11])],
 [(5,zK [2,6,15,16,17] [2,11])],
 [(3,zK [1,2,6,14] [2,11]),(4,zK [1,2,6] [2,11]),(8,zK [2,6,15,16,17,26] [2,11]),(11,zK [6,29] [11])],
 [],[]⟩
abbrev R74:=(web×Int)
abbrev e74 (r:R74):List PA:=cond (r.2 == 0) [.one (.fp (zaC r.1) 0),.one (.int .i64 (0:Int))] [.one (.nilp),.one (.int .i64 r.2)]
@[irreducible] def z74:=ptF Tryd.prog G74 zDf Tryd.f74
def ztG (n:Net) (nodes:(Sl Int)) (zcO:Int):St:=⟨[(2,zp 2 0),(6,zp 11 0),(15,zS zae 1 nodes),(16,zI (nodes.len:Int)),(17,zI zcO)],[(2,.box 24 (zm (enc_24 n))),(11,.box 105 (zm (zaC (⟨n,(⟨0,(λ _=>none)⟩:Mp)⟩:web))))],[]⟩
abbrev zHb (K:List PA->Prop) (n:Net) (nodes:(Sl Int)) (X:St->Prop) (P:Int->Bool) (S:Int->(web×Int)):Prop:=∀ ⦃zcO:Int⦄,P zcO=true->K (e74 (S zcO))->X (ztG n nodes zcO)
section
variable {K:List PA->Prop}{n:Net}{nodes:(Sl Int)}{zk5:Bool}{zcO:Int}{X2:St->Prop}{P2:Int->Bool}{S2:Int->(web×Int)}{zk6:Int}{zk7:Bool}{zqQ:Bool}
def znn (n:Net) (zqQ:Bool):(web×Int) :=
  (cond zqQ
 ((default:web),(5:Int))
 ((⟨n,(⟨0,(λ _=>none)⟩:Mp)⟩:web),(0:Int)))
theorem zHc (hk:K (e74 (znn n zqQ))):z74 K [1,1,1,1,0,1] [] ⟨[(6,zp 11 0),(29,zB zqQ)],[(11,.box 105 (zm (zaC (⟨n,(⟨0,(λ _=>none)⟩:Mp)⟩:web))))],[]⟩:=zaS (by kernel_rfl) (zt hk (λ hk=>hk) (λ hk=>hk))
def zno (S2:Int->(web×Int)) (n:Net) (nodes:(Sl Int)) (zk6:Int) (zk7:Bool):(web×Int) :=
  (cond zk7
 ((default:web),(2:Int))
 (S2 (w64 (zk6+(1:Int)))))
def znp (P2:Int->Bool) (n:Net) (nodes:(Sl Int)) (zk6:Int) (zk7:Bool):Bool :=
  (cond zk7
 true
 (P2 (w64 (zk6+(1:Int)))))
theorem zHd (hX2:zHb K n nodes X2 P2 S2) (hs:znp P2 n nodes zk6 zk7=true) (hk:K (e74 (zno S2 n nodes zk6 zk7))):z74 K [1,1,1,0,1,0,0,1,1,0,0,1,1] [X2] ⟨[(2,zp 2 0),(6,zp 11 0),(15,zS zae 1 nodes),(16,zI (nodes.len:Int)),(17,zI zk6),(26,zB zk7)],[(2,.box 24 (zm (enc_24 n))),(11,.box 105 (zm (zaC (⟨n,(⟨0,(λ _=>none)⟩:Mp)⟩:web))))],[]⟩:=zaS (by kernel_rfl) (zc hs hk (λ hs hk=>hk) (λ hs hk=>(hX2 hs hk)))
def zhe (n:Net) (nodes:(Sl Int)) (S2:Int->(web×Int)) (zcO:Int):(web×Int) :=
  (cond (decide (zcO < (nodes.len : Int)))
 (zno S2 n nodes zcO (!(s81 (nodes.get zcO.toNat) (0:Int) (w64 (n.Nodes - (1:Int))))))
 (znn n (s88 (⟨n,(⟨0,(λ _=>none)⟩:Mp)⟩:web))))
def zhf (n:Net) (nodes:(Sl Int)) (P2:Int->Bool) (zcO:Int):Bool :=
  (cond (decide (zcO < (nodes.len : Int)))
 (decide ((0<=zcO/\zcO < (nodes.len:Int))) &&
 (znp P2 n nodes zcO (!(s81 (nodes.get zcO.toNat) (0:Int) (w64 (n.Nodes - (1:Int)))))))
 (decide ((p88 (⟨n,(⟨0,(λ _=>none)⟩:Mp)⟩:web)=true)) &&
 true))
def zhg (n:Net) (nodes:(Sl Int)):Nat->Int->(web×Int):=lpO (λ _=>default) (zhe n nodes)
def zhh (n:Net) (nodes:(Sl Int)):Nat->Int->Bool:=lpO (λ _=>false) (zhf n nodes)
def znq (n:Net) (nodes:(Sl Int)) (zcO:Int):(web×Int):=zhg n nodes Fuel zcO
def znr (n:Net) (nodes:(Sl Int)) (zcO:Int):Bool:=zhh n nodes Fuel zcO
theorem zHe (hs:znr n nodes zcO=true) (hk:K (e74 (znq n nodes zcO))):z74 K [1,1,1,0,1,0] [] (ztG n nodes zcO) :=
  zl (λ X=>z74 K [1,1,1,0,1,0,0] [X]) (by kernel_rfl) λ X2 hX =>
  (show ∀ k, zHb K n nodes X2 (zhh n nodes k) (zhg n nodes k) from zd0 _ _ (zhf n nodes) (zhe n nodes) (zHb K n nodes X2)
 (by intro _ hs;exact absurd hs dqk)
 (by intro P2 S2 hX2 zcO hs hk;exact hX _ (zaS (by kernel_rfl) (zc hs hk (λ hs hk=>(zaO hs λ hc hs=>And.intro hc (zHd hX2 hs hk))) (λ hs hk=>(zaO hs λ hc hs=>And.intro (And.intro (zE enc_40 4 n.Ties.get) (And.intro (rfl:((false,1,false,[none]):MQ)=(false,1,false,[none])) hc)) (zHc hk))))))) _ hs hk
def zns (n:Net) (nodes:(Sl Int)):(web×Int) :=
  (znq n nodes (0:Int))
def znt (n:Net) (nodes:(Sl Int)):Bool :=
  (znr n nodes (0:Int))
theorem zHf (hs:znt n nodes=true) (hk:K (e74 (zns n nodes))):z74 K [1,1,1] [] ⟨[(1,zS zae 1 nodes),(2,zp 2 0),(6,zp 11 0)],[(2,.box 24 (zm (enc_24 n))),(11,.box 105 (zm (zaC (⟨n,(⟨0,(λ _=>none)⟩:Mp)⟩:web))))],[]⟩:=zaS (by kernel_rfl) (zHe hs hk)
def znu (n:Net) (nodes:(Sl Int)) (zk5:Bool):(web×Int) :=
  (cond zk5
 ((default:web),(2:Int))
 (zns n nodes))
def znv (n:Net) (nodes:(Sl Int)) (zk5:Bool):Bool :=
  (cond zk5
 true
 (znt n nodes))
theorem zHg (hs:znv n nodes zk5=true) (hk:K (e74 (znu n nodes zk5))):z74 K [1,1,0,1] [] ⟨[(1,zS zae 1 nodes),(2,zp 2 0),(6,zp 11 0),(14,zB zk5)],[(2,.box 24 (zm (enc_24 n))),(11,.box 105 (zm (zaC (⟨n,(⟨0,(λ _=>none)⟩:Mp)⟩:web))))],[]⟩:=zaS (by kernel_rfl) (zc hs hk (λ hs hk=>hk) (λ hs hk=>(zHf hs hk)))
def s74 (n:Net) (nodes:(Sl Int)):(web×Int) :=
  (znu n nodes (!(s67 n)))
def p74 (n:Net) (nodes:(Sl Int)):Bool :=
  (decide ((p67 n=true)) &&
 (znv n nodes (!(s67 n))))
end
theorem q74 (n:Net) (nodes:(Sl Int)) (K:List PA->Prop) (hs:p74 n nodes=true) (hk:K (e74 (s74 n nodes))):vcFun Tryd.prog G74 zDf 74 [.agg (enc_24 n),.one (.sl nodes.len 1 (λ i=>zae (nodes.get i)))] K :=
  zaS (by kernel_rfl) (zaO hs λ hc hs=>And.intro (And.intro (zE enc_40 4 n.Ties.get) hc) (zHg hs hk))
def zuV : List PA → COut
  | [.agg [.int .i64 zaf,.sl zac zat zab],.one (.sl ze3 zlB zeY)]=>.alt ((s74 (⟨zaf,(⟨zac,zal zab⟩:(Sl Tie))⟩:Net) (⟨ze3,zaw zeY⟩:(Sl Int))).2 == 0) (IsE enc_40 4 zat zab/\IsE zae 1 zlB zeY/\p74 (⟨zaf,(⟨zac,zal zab⟩:(Sl Tie))⟩:Net) (⟨ze3,zaw zeY⟩:(Sl Int))=true) [.one (.fp (zaC (⟨(s74 (⟨zaf,(⟨zac,zal zab⟩:(Sl Tie))⟩:Net) (⟨ze3,zaw zeY⟩:(Sl Int))).1.Net,((s74 (⟨zaf,(⟨zac,zal zab⟩:(Sl Tie))⟩:Net) (⟨ze3,zaw zeY⟩:(Sl Int))).1.out)⟩:web)) 0),.one (.int .i64 (0:Int))] (IsE enc_40 4 zat zab/\IsE zae 1 zlB zeY/\p74 (⟨zaf,(⟨zac,zal zab⟩:(Sl Tie))⟩:Net) (⟨ze3,zaw zeY⟩:(Sl Int))=true) [.one (.nilp),.one (.int .i64 ((s74 (⟨zaf,(⟨zac,zal zab⟩:(Sl Tie))⟩:Net) (⟨ze3,zaw zeY⟩:(Sl Int))).2))]
  | [.agg [.int .i64 zaf,.sl zac zat zab],.one (.nils)]=>.alt ((s74 (⟨zaf,(⟨zac,zal zab⟩:(Sl Tie))⟩:Net) (⟨0,λ _=>default⟩:(Sl Int))).2 == 0) (IsE enc_40 4 zat zab/\p74 (⟨zaf,(⟨zac,zal zab⟩:(Sl Tie))⟩:Net) (⟨0,λ _=>default⟩:(Sl Int))=true) [.one (.fp (zaC (⟨(s74 (⟨zaf,(⟨zac,zal zab⟩:(Sl Tie))⟩:Net) (⟨0,λ _=>default⟩:(Sl Int))).1.Net,((s74 (⟨zaf,(⟨zac,zal zab⟩:(Sl Tie))⟩:Net) (⟨0,λ _=>default⟩:(Sl Int))).1.out)⟩:web)) 0),.one (.int .i64 (0:Int))] (IsE enc_40 4 zat zab/\p74 (⟨zaf,(⟨zac,zal zab⟩:(Sl Tie))⟩:Net) (⟨0,λ _=>default⟩:(Sl Int))=true) [.one (.nilp),.one (.int .i64 ((s74 (⟨zaf,(⟨zac,zal zab⟩:(Sl Tie))⟩:Net) (⟨0,λ _=>default⟩:(Sl Int))).2))]
  | _=>.no
theorem zEJ:zar Tryd.prog 74:=⟨_,rfl,rfl,by kernel_rfl⟩
theorem zNi:Ok Tryd.prog 74 zuV:=zhb zLv zEJ λ args K h=>by
  unfold zuV at h
  split at h
  · rename_i zaf zac zat zab ze3 zlB zeY
    have h:=zKD h
    obtain⟨⟨⟨rfl,zan,rfl⟩,⟨rfl,zim,rfl⟩,hs⟩,hk⟩:=h
    try rw[zaj zan] at hs
    try rw[zaj zan] at hk
    try rw[zbx zim] at hs
    try rw[zbx zim] at hk
    exact⟨_,zfA zfS _,(λ _ _=>[]),(λ _=>false),zDf,q74 (⟨zaf,(⟨zac,zan⟩:(Sl Tie))⟩:Net) (⟨ze3,zim⟩:(Sl Int)) (Wk K) hs (zfT hk)⟩
  · rename_i zaf zac zat zab
    have h:=zKD h
    obtain⟨⟨⟨rfl,zan,rfl⟩,hs⟩,hk⟩:=h
    try rw[zaj zan] at hs
    try rw[zaj zan] at hk
    exact⟨_,(zgy (zfS _) (zgy (.one (.nil _ _)) zmd)),(λ _ _=>[]),(λ _=>false),zDf,q74 (⟨zaf,(⟨zac,zan⟩:(Sl Tie))⟩:Net) (⟨0,λ _=>default⟩:(Sl Int)) (Wk K) hs (zfT hk)⟩
  · exact h.elim
abbrev T75:Tabs:=(((Tabs.nil.addF 93 zo6).addF 104 zo9).addI 110 zo8)
theorem zOa:TabsOk Tryd.prog T75:=(((TabsOk.nil.addF zJX).addF zGt).addI zuQ)
abbrev G75:Ctrs:=csm T75 (λ _ _=>[]) (λ _=>false)
def zyE:Ann:=⟨66,[(0,zK [0,1,4] [4]),(1,zK [0,1,4,5] [4,5]),(2,zK [0,1,4,5,10] [4,5]),(3,zK [0,1,4,5,10,11] [4,5]),(4,zK [0,1,4,5,6,10] [4,5]),(5,zK [0,1,4,5,10] [4,5]),(6,zK [0,1,4,5,10] [4,5]),(7,zK [0,4,5] [4,5]),(8,zK [0,4,5,7] [4,5,7]),(9,zK [0,4,5,7,20] [4,5,7]),(10,zK [0,4,5,7] [4,5,7]),(11,zK [0,4,5,7,22] [4,5,7]),(12,zK [0,4,5,7,8,22] [4,5,7,8]),(13,zK [0,4,5,7,8,22,29] [4,5,7,8]),(14,zK [0,4,5,7,8,9,22] [4,5,7,8,9]),(15,zK [0,4,5,7,8,9,22] [4,5,7,8,9]),(16,zK [0,4,5,7,22] [4,5,7]),(17,zK [0,4,5,64] [4,5]),(18,zK [0,4,5,7] [4,5,7]),(19,zK [4] [4])],
 [(3,zK [0,1,4,5,10] [4,5]),(9,zK [0,4,5,7] [4,5,7]),(12,zK [0,4,5,7,22] [4,5,7])],
 [(7,zK [0,1,4,5] [4,5])],
 [],[]⟩
abbrev R75:=Tab
abbrev e75 (r:R75):List PA:=[.agg (zao r)]
@[irreducible] def z75:=ptF Tryd.prog G75 zyE Tryd.f75
@[irreducible] def x75:=exF Tryd.prog G75 zyE Tryd.f75
@[irreducible] def y75:=rnF Tryd.prog G75 zyE Tryd.f75
def zEK (w:web) (node:Int) (za7:Int) (t4t0:Tab) (dt0:Tab):St:=⟨[(0,zP (.fp (zaC w) 0)),(1,zI node),(4,zp 4 0),(5,zp 5 0),(10,zI za7)],[(4,.box 116 (zm (zao t4t0))),(5,.box 116 (zm (zao dt0)))],[]⟩
abbrev zLw (K:List PA->Prop) (w:web) (node:Int) (X:St->Prop) (P:Int->Tab->Tab->Bool) (S:Int->Tab->Tab->Tab):Prop:=∀ ⦃za7:Int⦄ ⦃t4t0:Tab⦄ ⦃dt0:Tab⦄,P za7 t4t0 dt0=true->K (e75 (S za7 t4t0 dt0))->X (zEK w node za7 t4t0 dt0)
def zEL (w:web) (zay:Bool) (t4t2:Tab) (dt2:Tab):St:=⟨[(0,zP (.fp (zaC w) 0)),(4,zp 4 0),(5,zp 5 0),(7,zp 7 0)],[(4,.box 116 (zm (zao t4t2))),(5,.box 116 (zm (zao dt2))),(7,.box 4 [.p (.bool zay)])],[]⟩
abbrev zHh (K:List PA->Prop) (w:web) (X:St->Prop) (P:Bool->Tab->Tab->Bool) (S:Bool->Tab->Tab->Tab):Prop:=∀ ⦃zay:Bool⦄ ⦃t4t2:Tab⦄ ⦃dt2:Tab⦄,P zay t4t2 dt2=true->K (e75 (S zay t4t2 dt2))->X (zEL w zay t4t2 dt2)
def zyF (w:web) (zaq:Bool) (t4t3:Tab) (dt3:Tab):St:=⟨[(0,zP (.fp (zaC w) 0)),(4,zp 4 0),(5,zp 5 0),(7,zp 7 0),(22,zP (.fn 110 [] [.fp [.fp (zaC w) 0] 0]))],[(4,.box 116 (zm (zao t4t3))),(5,.box 116 (zm (zao dt3))),(7,.box 4 [.p (.bool zaq)])],[]⟩
abbrev zLx (K:List PA->Prop) (w:web) (X:St->Prop) (P:Bool->Tab->Tab->Bool) (S:Bool->Tab->Tab->Tab):Prop:=∀ ⦃zaq:Bool⦄ ⦃t4t3:Tab⦄ ⦃dt3:Tab⦄,P zaq t4t3 dt3=true->K (e75 (S zaq t4t3 dt3))->X (zyF w zaq t4t3 dt3)
section
variable {K:List PA->Prop}{w:web}{node:Int}{za7:Int}{t4t0:Tab}{dt0:Tab}{X0:St->Prop}{P0:Int->Tab->Tab->Bool}{S0:Int->Tab->Tab->Tab}{t4t1:Tab}{dt1:Tab}{zay:Bool}{t4t2:Tab}{dt2:Tab}{X2:St->Prop}{P2:Bool->Tab->Tab->Bool}{S2:Bool->Tab->Tab->Tab}{zaq:Bool}{t4t3:Tab}{dt3:Tab}
def zHi (S2:Bool->Tab->Tab->Tab) (w:web) (zaq:Bool) (t4t3:Tab) (dt3:Tab):Tab :=
  (S2 zaq t4t3 dt3)
def zHj (P2:Bool->Tab->Tab->Bool) (w:web) (zaq:Bool) (t4t3:Tab) (dt3:Tab):Bool :=
  (P2 zaq t4t3 dt3)
def zyG (S2:Bool->Tab->Tab->Tab) (w:web) (y3:step) (S3:Bool->Tab->Tab->Tab) (zaq:Bool) (t4t3:Tab) (dt3:Tab):Tab :=
  (cond (nvr (tL dt3 y3.to) (tU dt3 y3.to))
 (S3 zaq t4t3 dt3)
 (cond zaq
 (S3 true t4t3 (ts 80 dt3 (0+y3.from_.toNat * 2+0) [(zdV (⟨(tL dt3 y3.from_),(tU dt3 y3.from_)⟩:far) (⟨1,λ _=>(⟨(w64 ((tL dt3 y3.to)+y3.length)),(w64 ((tV dt3 y3.to)+(1:Int)))⟩:far)⟩:(Sl far))).length,(zdV (⟨(tL dt3 y3.from_),(tU dt3 y3.from_)⟩:far) (⟨1,λ _=>(⟨(w64 ((tL dt3 y3.to)+y3.length)),(w64 ((tV dt3 y3.to)+(1:Int)))⟩:far)⟩:(Sl far))).uses]))
 (S3 (!(match ((zdV (⟨(tL dt3 y3.from_),(tU dt3 y3.from_)⟩:far) (⟨1,λ _=>(⟨(w64 ((tL dt3 y3.to)+y3.length)),(w64 ((tV dt3 y3.to)+(1:Int)))⟩:far)⟩:(Sl far))).length == (tL dt3 y3.from_)) with | true=>(match ((zdV (⟨(tL dt3 y3.from_),(tU dt3 y3.from_)⟩:far) (⟨1,λ _=>(⟨(w64 ((tL dt3 y3.to)+y3.length)),(w64 ((tV dt3 y3.to)+(1:Int)))⟩:far)⟩:(Sl far))).uses == (tU dt3 y3.from_)) with | true=>true | false=>false) | false=>false)) t4t3 (ts 80 dt3 (0+y3.from_.toNat * 2+0) [(zdV (⟨(tL dt3 y3.from_),(tU dt3 y3.from_)⟩:far) (⟨1,λ _=>(⟨(w64 ((tL dt3 y3.to)+y3.length)),(w64 ((tV dt3 y3.to)+(1:Int)))⟩:far)⟩:(Sl far))).length,(zdV (⟨(tL dt3 y3.from_),(tU dt3 y3.from_)⟩:far) (⟨1,λ _=>(⟨(w64 ((tL dt3 y3.to)+y3.length)),(w64 ((tV dt3 y3.to)+(1:Int)))⟩:far)⟩:(Sl far))).uses]))))
def zyH (P2:Bool->Tab->Tab->Bool) (w:web) (y3:step) (P3:Bool->Tab->Tab->Bool) (zaq:Bool) (t4t3:Tab) (dt3:Tab):Bool :=
  (decide ((0<=y3.to/\y3.to < (40:Int))) &&
 (cond (nvr (tL dt3 y3.to) (tU dt3 y3.to))
 (P3 zaq t4t3 dt3)
 (decide ((0<=y3.from_/\y3.from_ < (40:Int))) &&
 (decide ((0<=y3.to/\y3.to < (40:Int))) &&
 (decide ((0<=y3.to/\y3.to < (40:Int))) &&
 (decide ((zEo (⟨(tL dt3 y3.from_),(tU dt3 y3.from_)⟩:far) (⟨1,λ _=>(⟨(w64 ((tL dt3 y3.to)+y3.length)),(w64 ((tV dt3 y3.to)+(1:Int)))⟩:far)⟩:(Sl far))=true)) &&
 (cond zaq
 (decide ((0<=y3.from_/\y3.from_ < (40:Int))) &&
 (P3 true t4t3 (ts 80 dt3 (0+y3.from_.toNat * 2+0) [(zdV (⟨(tL dt3 y3.from_),(tU dt3 y3.from_)⟩:far) (⟨1,λ _=>(⟨(w64 ((tL dt3 y3.to)+y3.length)),(w64 ((tV dt3 y3.to)+(1:Int)))⟩:far)⟩:(Sl far))).length,(zdV (⟨(tL dt3 y3.from_),(tU dt3 y3.from_)⟩:far) (⟨1,λ _=>(⟨(w64 ((tL dt3 y3.to)+y3.length)),(w64 ((tV dt3 y3.to)+(1:Int)))⟩:far)⟩:(Sl far))).uses])))
 (decide ((0<=y3.from_/\y3.from_ < (40:Int))) &&
 (decide ((0<=y3.from_/\y3.from_ < (40:Int))) &&
 (P3 (!(match ((zdV (⟨(tL dt3 y3.from_),(tU dt3 y3.from_)⟩:far) (⟨1,λ _=>(⟨(w64 ((tL dt3 y3.to)+y3.length)),(w64 ((tV dt3 y3.to)+(1:Int)))⟩:far)⟩:(Sl far))).length == (tL dt3 y3.from_)) with | true=>(match ((zdV (⟨(tL dt3 y3.from_),(tU dt3 y3.from_)⟩:far) (⟨1,λ _=>(⟨(w64 ((tL dt3 y3.to)+y3.length)),(w64 ((tV dt3 y3.to)+(1:Int)))⟩:far)⟩:(Sl far))).uses == (tU dt3 y3.from_)) with | true=>true | false=>false) | false=>false)) t4t3 (ts 80 dt3 (0+y3.from_.toNat * 2+0) [(zdV (⟨(tL dt3 y3.from_),(tU dt3 y3.from_)⟩:far) (⟨1,λ _=>(⟨(w64 ((tL dt3 y3.to)+y3.length)),(w64 ((tV dt3 y3.to)+(1:Int)))⟩:far)⟩:(Sl far))).length,(zdV (⟨(tL dt3 y3.from_),(tU dt3 y3.from_)⟩:far) (⟨1,λ _=>(⟨(w64 ((tL dt3 y3.to)+y3.length)),(w64 ((tV dt3 y3.to)+(1:Int)))⟩:far)⟩:(Sl far))).uses])))))))))))
def zyI (S2:Bool->Tab->Tab->Tab) (w:web):List step->Bool->Tab->Tab->Tab:=lpR (zHi S2 w) (zyG S2 w)
def zyJ (P2:Bool->Tab->Tab->Bool) (w:web):List step->Bool->Tab->Tab->Bool:=lpR (zHj P2 w) (zyH P2 w)
def zyK (S2:Bool->Tab->Tab->Tab) (w:web) (zaq:Bool) (t4t3:Tab) (dt3:Tab):Tab:=zyI S2 w (zkS w) zaq t4t3 dt3
def zyL (P2:Bool->Tab->Tab->Bool) (w:web) (zaq:Bool) (t4t3:Tab) (dt3:Tab):Bool:=decide ((zu3 w=true)) && zyJ P2 w (zkS w) zaq t4t3 dt3
theorem zHk (hX2:zHh K w X2 P2 S2) (hs:zyL P2 w zaq t4t3 dt3=true) (hk:K (e75 (zyK S2 w zaq t4t3 dt3))):z75 K [1,1,1,1,0,1,0,0,1,0,0,1,1,0] [X2] (zyF w zaq t4t3 dt3) :=
  zaO hs λ hc hs=>zr (enc:=(λ y:step=>[.agg (zaG y)])) (ys:=zkS w) (g:=(zyF w zaq t4t3 dt3)) (x75 K [1,1,1,1,0,1,0,0,1,0,0,1,1,0] [X2]) (y75 K [1,1,1,1,0,1,0,0,1,0,0,1,1,0] [X2]) (by kernel_rfl) (And.intro (zE enc_40 4 w.Net.Ties.get) (And.intro (rfl:((false,1,false,[none]):MQ)=(false,1,false,[none])) hc)) λ X3 hE hR =>
  (show ∀ l : List step, zLx K w (X3 (l.map (λ y : step => [.agg (zaG y)]))) (zyJ P2 w l) (zyI S2 w l) from zri (X := X3) (enc := (λ y : step => [.agg (zaG y)])) _ _ (zyH P2 w) (zyG S2 w) (λ Z P S => zLx K w Z P S)
 (by intro zaq t4t3 dt3 hs hk;exact hE _ (zaS (by kernel_rfl) (hX2 hs hk)))
 (by intro y3 rest P3 S3 hX3 zaq t4t3 dt3 hs hk;exact hR _ rest _ (zaS (by kernel_rfl) (zaO hs λ hc hs=>And.intro hc (zc hs hk (λ hs hk=>(hX3 hs hk)) (λ hs hk=>(zaO hs λ hc hs=>And.intro hc (zaO hs λ hc hs=>And.intro hc (zaO hs λ hc hs=>And.intro hc (zaO hs λ hc hs=>And.intro (And.intro (zqn:IsE zci 2 2 (λ _=>(zci (⟨(w64 ((tL dt3 y3.to)+y3.length)),(w64 ((tV dt3 y3.to)+(1:Int)))⟩:far)))) hc) (zc hs hk (λ hs hk=>(zaO hs λ hc hs=>And.intro hc (hX3 hs hk))) (λ hs hk=>(zaO hs λ hc hs=>And.intro hc (zaO hs λ hc hs=>And.intro hc (hX3 hs hk))))))))))))))) _ hs hk
def zyM (w:web) (S2:Bool->Tab->Tab->Tab) (zay:Bool) (t4t2:Tab) (dt2:Tab):Tab :=
  (cond zay
 (zyK S2 w false t4t2 dt2)
 dt2)
def zyO (w:web) (P2:Bool->Tab->Tab->Bool) (zay:Bool) (t4t2:Tab) (dt2:Tab):Bool :=
  (cond zay
 (zyL P2 w false t4t2 dt2)
 true)
def zyP (w:web):Nat->Bool->Tab->Tab->Tab:=lpO (λ _ _ _=>default) (zyM w)
def zyQ (w:web):Nat->Bool->Tab->Tab->Bool:=lpO (λ _ _ _=>false) (zyO w)
def zyR (w:web) (zay:Bool) (t4t2:Tab) (dt2:Tab):Tab:=zyP w Fuel zay t4t2 dt2
def zyS (w:web) (zay:Bool) (t4t2:Tab) (dt2:Tab):Bool:=zyQ w Fuel zay t4t2 dt2
theorem zHl (hs:zyS w zay t4t2 dt2=true) (hk:K (e75 (zyR w zay t4t2 dt2))):z75 K [1,1,1,1,0,1,0] [] (zEL w zay t4t2 dt2) :=
  zl (λ X=>z75 K [1,1,1,1,0,1,0,0] [X]) (by kernel_rfl) λ X2 hX =>
  (show ∀ k, zHh K w X2 (zyQ w k) (zyP w k) from zd0 _ _ (zyO w) (zyM w) (zHh K w X2)
 (by intro _ _ _ hs;exact absurd hs dqk)
 (by intro P2 S2 hX2 zay t4t2 dt2 hs hk;exact hX _ (zaS (by kernel_rfl) (zc hs hk (λ hs hk=>(And.intro (And.intro (zE enc_40 4 w.Net.Ties.get) (rfl:((false,1,false,[none]):MQ)=(false,1,false,[none]))) (zHk hX2 hs hk))) (λ hs hk=>hk))))) _ hs hk
def zyT (w:web) (node:Int) (t4t1:Tab) (dt1:Tab):Tab :=
  (zyR w true t4t1 (ts 80 dt1 (0+node.toNat * 2+0) [(0:Int),(0:Int)]))
def zyU (w:web) (node:Int) (t4t1:Tab) (dt1:Tab):Bool :=
  (decide ((0<=node/\node < (40:Int))) &&
 (zyS w true t4t1 (ts 80 dt1 (0+node.toNat * 2+0) [(0:Int),(0:Int)])))
theorem zHm (hs:zyU w node t4t1 dt1=true) (hk:K (e75 (zyT w node t4t1 dt1))):z75 K [1,1,1] [] ⟨[(0,zP (.fp (zaC w) 0)),(1,zI node),(4,zp 4 0),(5,zp 5 0)],[(4,.box 116 (zm (zao t4t1))),(5,.box 116 (zm (zao dt1)))],[]⟩:=zaS (by kernel_rfl) (zaO hs λ hc hs=>And.intro hc (zHl hs hk))
def zyV (w:web) (node:Int) (S0:Int->Tab->Tab->Tab) (za7:Int) (t4t0:Tab) (dt0:Tab):Tab :=
  (cond (decide (za7 < (40:Int)))
 (S0 (w64 (za7+(1:Int))) t4t0 (ts 80 dt0 (0+za7.toNat * 2+0) [(1000000000000:Int),(0:Int)]))
 (zyT w node t4t0 dt0))
def zyW (w:web) (node:Int) (P0:Int->Tab->Tab->Bool) (za7:Int) (t4t0:Tab) (dt0:Tab):Bool :=
  (cond (decide (za7 < (40:Int)))
 (decide ((0<=za7/\za7 < (40:Int))) &&
 (P0 (w64 (za7+(1:Int))) t4t0 (ts 80 dt0 (0+za7.toNat * 2+0) [(1000000000000:Int),(0:Int)])))
 (zyU w node t4t0 dt0))
def zyX (w:web) (node:Int):Nat->Int->Tab->Tab->Tab:=lpO (λ _ _ _=>default) (zyV w node)
def zyY (w:web) (node:Int):Nat->Int->Tab->Tab->Bool:=lpO (λ _ _ _=>false) (zyW w node)
def zyZ (w:web) (node:Int) (za7:Int) (t4t0:Tab) (dt0:Tab):Tab:=zyX w node Fuel za7 t4t0 dt0
def zy0 (w:web) (node:Int) (za7:Int) (t4t0:Tab) (dt0:Tab):Bool:=zyY w node Fuel za7 t4t0 dt0
theorem zHn (hs:zy0 w node za7 t4t0 dt0=true) (hk:K (e75 (zyZ w node za7 t4t0 dt0))):z75 K [1,1,0,1,0] [] (zEK w node za7 t4t0 dt0) :=
  zl (λ X=>z75 K [1,1,0,1,0,0] [X]) (by kernel_rfl) λ X0 hX =>
  (show ∀ k, zLw K w node X0 (zyY w node k) (zyX w node k) from zd0 _ _ (zyW w node) (zyV w node) (zLw K w node X0)
 (by intro _ _ _ hs;exact absurd hs dqk)
 (by intro P0 S0 hX0 za7 t4t0 dt0 hs hk;exact hX _ (zaS (by kernel_rfl) (zc hs hk (λ hs hk=>(zaO hs λ hc hs=>And.intro hc (hX0 hs hk))) (λ hs hk=>(zHm hs hk)))))) _ hs hk
def s75 (w:web) (node:Int):Tab :=
  (zyZ w node (0:Int) (λ _=>(0:Int)) (λ _=>(0:Int)))
def p75 (w:web) (node:Int):Bool :=
  (zy0 w node (0:Int) (λ _=>(0:Int)) (λ _=>(0:Int)))
end
theorem q75 (w:web) (node:Int) (K:List PA->Prop) (hs:p75 w node=true) (hk:K (e75 (s75 w node))):vcFun Tryd.prog G75 zyE 75 [.one (.fp (zaC w) 0),.one (.int .i64 node)] K :=
  zaS (by kernel_rfl) (zHn hs hk)
def zy1 : List PA → COut
  | [.one (.fp [.int .i64 zam,.sl zah zaA zai,.fm za3 zaD zaE] 0),.one (.int .i64 a1)]=>.det (IsE enc_40 4 zaA zai/\za3=(false,1,false,[none])/\p75 (⟨(⟨zam,(⟨zah,zal zai⟩:(Sl Tie))⟩:Net),(⟨zaD,zaE⟩:Mp)⟩:web) a1=true) [.agg (zao ((s75 (⟨(⟨zam,(⟨zah,zal zai⟩:(Sl Tie))⟩:Net),(⟨zaD,zaE⟩:Mp)⟩:web) a1)))]
  | _=>.no
theorem zLy:zar Tryd.prog 75:=⟨_,rfl,rfl,by kernel_rfl⟩
theorem zOb:Ok Tryd.prog 75 zy1:=zbc zOa zLy λ args K h=>by
  unfold zy1 at h
  split at h
  · rename_i zam zah zaA zai za3 zaD zaE a1
    obtain⟨⟨⟨rfl,zas,rfl⟩,rfl,hs⟩,hk⟩:=h
    try rw[zaj zas] at hs
    try rw[zaj zas] at hk
    exact⟨(λ _ _=>[]),(λ _=>false),zyE,q75 (⟨(⟨zam,(⟨zah,zas⟩:(Sl Tie))⟩:Net),(⟨zaD,zaE⟩:Mp)⟩:web) a1 K hs hk⟩
  · exact h.elim
end Go.Proofs
