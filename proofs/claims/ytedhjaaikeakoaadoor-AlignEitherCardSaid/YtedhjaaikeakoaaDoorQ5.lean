/- Part 5 of what the proof rests on: a machine that runs functions of the program on pure values, proved sound; the functions that the law reaches, and what they compute. -/
import Derived.Test.YtedhjaaikeakoaaDoorQ4
import Derived.Sort.OwnSortedInts
import Derived.Lib.SlicesCompact
import Derived.Test.YtedhjaaikeakoaaDoorProg
import Derived.ProofKit
import Derived.Deep.Slices
import Derived.OpenShut
import Derived.Shelf.SlIterI.Nil
import Derived.Shelf.SortM.Plain
import Derived.Shelf.SortM.SortNone
import Derived.Ground.GgzProg
import Derived.Ground.SlgmProg
import Derived.Tactics
import Derived.Tactics2
import Derived.Recover
import Derived.RecoverIn
import Derived.TacticsInMore
set_option linter.all false
namespace Go.Pm

structure Tabs where
  fn:List (Nat×(List PA->COut))
  own:List (Nat×OwnK)
  it:List (Nat×(List PA->Option (Prop×List (List PA))))
  mt:List (Nat×MK)
def zvt : List (Nat × (List PA → COut)) → Nat → List PA → COut
  | [],_=>λ _=>.no
  | (k,c) :: r,n=>match Nat.beq k n with | true=>c | false=>zvt r n
def zvu (l:List (Nat×OwnK)) (f:Nat):OwnK:=match lk l f with | some c=>c | none=>.none
def zCl (l:List (Nat×(List PA->Option (Prop×List (List PA))))) (f:Nat):List PA->Option (Prop×List (List PA)):=match lk l f with | some c=>c | none=>λ _=>none
def csm (T:Tabs) (memo:Nat->Int->List Int) (vv:Nat->Bool):Ctrs:=⟨zvt T.fn,zvu T.own,zCl T.it,memo,vv,lk T.mt⟩
abbrev cs (T:Tabs):Ctrs:=csm T (λ _ _=>[]) (λ _=>false)
def Tabs.nil:Tabs:=⟨[],[],[],[]⟩
def Tabs.addF (T:Tabs) (f:Nat) (c:List PA->COut):Tabs:=⟨(f,c) :: T.fn,T.own,T.it,T.mt⟩
def Tabs.addO (T:Tabs) (f:Nat) (c:OwnK):Tabs:=⟨T.fn,(f,c) :: T.own,T.it,T.mt⟩
def Tabs.addI (T:Tabs) (f:Nat) (c:List PA->Option (Prop×List (List PA))):Tabs:=⟨T.fn,T.own,(f,c) :: T.it,T.mt⟩
def Tabs.addM (T:Tabs) (f:Nat) (c:MK):Tabs:=⟨T.fn,T.own,T.it,(f,c) :: T.mt⟩

theorem zIX {P:Program}{f:Nat} : Ok P f (λ _=>.no):=λ _ _ h=>h.elim
theorem zIY {P:Program}{f:Nat} : zAG P f (λ _=>none):=λ _ _ _ h=>by cases h

structure TabsOk (P : Program) (T : Tabs) : Prop where
  fn:∀ x∈T.fn,Ok P x.1 x.2
  own:∀ x∈T.own,znE P x.1 x.2
  it:∀ x∈T.it,zAG P x.1 x.2
  mt:∀ x∈T.mt,ziW P x.1 x.2
theorem TabsOk.nil {P:Program} : TabsOk P .nil:=⟨λ _ h=>(by cases h),λ _ h=>(by cases h),λ _ h=>(by cases h),λ _ h=>(by cases h)⟩
theorem TabsOk.addF {P:Program}{T:Tabs}(h:TabsOk P T){f:Nat}{c:List PA->COut}(hc:Ok P f c):TabsOk P (T.addF f c) :=
 ⟨λ x hx=>(List.mem_cons.1 hx).elim (λ e=>by rw[e];exact hc) (λ hx=>h.fn x hx),h.own,h.it,h.mt⟩
theorem TabsOk.addO {P:Program}{T:Tabs}(h:TabsOk P T){f:Nat}{c:OwnK}(hc:znE P f c):TabsOk P (T.addO f c) :=
 ⟨h.fn,λ x hx=>(List.mem_cons.1 hx).elim (λ e=>by rw[e];exact hc) (λ hx=>h.own x hx),h.it,h.mt⟩
theorem TabsOk.addI {P:Program}{T:Tabs}(h:TabsOk P T){f:Nat}{c:List PA->Option (Prop×List (List PA))}(hc:zAG P f c):TabsOk P (T.addI f c) :=
 ⟨h.fn,h.own,λ x hx=>(List.mem_cons.1 hx).elim (λ e=>by rw[e];exact hc) (λ hx=>h.it x hx),h.mt⟩
theorem TabsOk.addM {P:Program}{T:Tabs}(h:TabsOk P T){f:Nat}{c:MK}(hc:ziW P f c):TabsOk P (T.addM f c) :=
 ⟨h.fn,h.own,h.it,λ x hx=>(List.mem_cons.1 hx).elim (λ e=>by rw[e];exact hc) (λ hx=>h.mt x hx)⟩
theorem TabsOk.all {P:Program}{T:Tabs}(h:TabsOk P T) (memo:Nat->Int->List Int) (vv:Nat->Bool):OkAll P (csm T memo vv):=by
 refine⟨λ f C hC=>h.mt _ (zbF hC),λ f=>?_,λ f=>?_,λ f=>?_⟩
 ·show Ok P f (zvt T.fn f)
  have key:∀ l:List (Nat×(List PA->COut)),(∀ x∈l,Ok P x.1 x.2)->Ok P f (zvt l f):=by
   intro l
   induction l with
   | nil=>intro _;exact zIX
   | cons x l ih =>
    intro hl
    obtain⟨k,c⟩:=x
    simp only[zvt]
    split
    ·rename_i e
     have:=hl (k,c) List.mem_cons_self
     rw[← Nat.eq_of_beq_eq_true e];exact this
    ·exact ih λ x hx=>hl x (List.mem_cons_of_mem _ hx)
  exact key T.fn h.fn
 ·show znE P f (zvu T.own f)
  unfold zvu
  split
  ·rename_i c hc;exact h.own _ (zbF hc)
  ·trivial
 ·show zAG P f (zCl T.it f)
  unfold zCl
  split
  ·rename_i c hc;exact h.it _ (zbF hc)
  ·exact zIY

theorem zbm {P : Program} {T : Tabs} (hT : TabsOk P T) {f : FuncId} {C : List PA → COut} (hc : zas P f)
    (h:∀ args K,(C args).wp K->∃ memo vv ann,vcFun P (csm T memo vv) ann f args K):Ok P f C :=
  zzB (hT.all (λ _ _=>[]) (λ _=>false)) hc h
theorem zCm {P : Program} {T : Tabs} (hT : TabsOk P T) {f : FuncId} {C : MK} (hc : zas P f)
    (h:∀ xs safe rs ys,C xs=some (safe,rs,ys)->safe->∀ K:List PA->List XA->Prop,K rs ys->∃ memo vv ann,zkf P (csm T memo vv) ann f xs K):ziW P f C :=
  zvs (hT.all (λ _ _=>[]) (λ _=>false)) hc h
theorem zGj {P : Program} {T : Tabs} (hT : TabsOk P T) {f : FuncId} {C : List PA → Option (Prop × List (List PA))} (hc : zas P f)
    (h:∀ l caps safe ys,C caps=some (safe,ys)->safe->∃ memo vv ann,vcIter P (csm T memo vv) ann f l caps ys):zAG P f C :=
  zzF (hT.all (λ _ _=>[]) (λ _=>false)) hc h
structure Sl (α : Type) where
  len:Nat
  get:Nat->α
instance {α:Type} [Inhabited α]:Inhabited (Sl α):=⟨⟨0,λ _=>default⟩⟩
abbrev w64 (x:Int):Int:=IntKind.i64.wrap x

def IsE {α:Type}(enc:α->List PV) (size s:Nat) (g:Nat->List PV):Prop:=s=size/\∃ f:Nat->α,g=λ i=>enc (f i)
theorem isE {α:Type}{enc:α->List PV}{size:Nat}{f:Nat->α} : IsE enc size size (λ i=>enc (f i)):=⟨rfl,f,rfl⟩
theorem zvv {α:Type}{enc:α->List PV}{size:Nat}{x:α} : IsE enc size size (λ _=>enc x):=⟨rfl,λ _=>x,rfl⟩
def ziY {α:Type}(n:Nat) (get new:Nat->α):Nat->α:=λ j=>match Nat.ble n j with | true=>new (j - n) | false=>get j
theorem zzJ {α:Type}{enc:α->List PV}{n:Nat}{f h:Nat->α} : appG n (λ i=>enc (f i)) (λ i=>enc (h i))=λ i=>enc (ziY n f h i):=by
 funext j;simp only[appG,ziY];cases Nat.ble n j <;> rfl
def zoY {α : Type} (x : α) : List α → Nat → α
  | [],_=>x
  | y :: _,0=>y
  | _ :: r,i+1=>zoY x r i
theorem zss {α:Type}{enc:α->List PV}{x y:α}{r:List α} : zbt (enc x :: enc y :: r.map enc)=λ i=>enc (zoY x (x :: y :: r) i):=by
 have key:∀ (l:List α) (i:Nat),(match (l.map enc)[i]? with | some z=>z | none=>enc x)=enc (zoY x l i):=by
  intro l
  induction l with
  | nil=>intro i;rfl
  | cons a l ih =>
   intro i
   cases i with
   | zero=>rfl
   | succ i=>simpa [zoY] using ih i
 funext i
 exact key (x :: y :: r) i
theorem zd2 {α:Type}{enc:α->List PV}{size:Nat}{x y:α}(r:List α):IsE enc size size (zbt (enc x :: enc y :: r.map enc)):=⟨rfl,_,zss⟩

theorem zeK {b:Bool}{A B:Prop}{S S':Bool}{α:Type}{K:α->Prop}{x y:α}(h1:S=true->K x->A) (h2:S'=true->K y->B) (hs:cond b S S'=true) (hk:K (cond b x y)):zdd b A B:=by
 cases b
 ·exact h2 hs hk
 ·exact h1 hs hk
theorem zg9 {b:Bool}{A B:Prop}{S S':Bool}{α β:Type}{f:α->β}{ys:List β}{x y:List α}(hs:cond b S S'=true) (hk:ys=(cond b x y).map f) (h1:S=true->ys=x.map f->A) (h2:S'=true->ys=y.map f->B):zdd b A B:=by
 cases b
 ·exact h2 hs hk
 ·exact h1 hs hk
theorem itY {α β:Type}{f:α->β}{ys:List β}{p:β}{x r:List α}{l:Nat}{A:List β->Prop}(hk:ys=x.map f) (e:x.map f=p :: r.map f) (h:∀ zs,zs=r.map f->A zs):l=l/\∃ z,ys=p :: z/\A z/\True :=
 ⟨rfl,_,hk.trans e,h _ rfl,trivial⟩
theorem zaQ {C A:Prop} [d:Decidable C] {r:Bool}(hs:(decide C && r)=true) (k:C->r=true->A):A:=by
 rw[Bool.and_eq_true] at hs
 exact k (of_decide_eq_true hs.1) hs.2
abbrev Fuel:Nat:=9223372036854775808
def setT {α:Type}(i:Nat) (v:α) (get:Nat->α):Nat->α:=λ j=>match Nat.beq j i with | true=>v | false=>get j
theorem zon {α:Type}{enc:α->List PV}{n:Nat}{g g':Nat->List PV}{f h:Nat->α}(h1:g=λ i=>enc (f i)) (h2:g'=λ i=>enc (h i)):appG n g g'=λ i=>enc (ziY n f h i):=by
 subst h1;subst h2;exact zzJ
theorem zlz {α:Type}{enc:α->List PV}{i k:Nat}{g:Nat->List PV}{f:Nat->α}{new:List PV}{v:α}(h1:g=λ i=>enc (f i)) (h2:spl (enc (f i)) k new=enc v):zoP i k g new=λ j=>enc (setT i v f j):=by
 subst h1
 funext j
 simp only[zoP,setT]
 cases e:Nat.beq j i
 ·rfl
 ·have := Nat.eq_of_beq_eq_true e
  subst this;exact h2
def zIZ (P:Program) (G:Ctrs) (ann:Ann) (hd:Nat) (ps:List Nat) (assign body:Code) (X:List (List PA)->St->Prop) (K:Exit->St->Prop) (y:List PA) (rest:List (List PA)) (s:St):Prop :=
 match lk ann.head hd with
 | some k=>match zgW ps y s.env with
  | some env=>vc P G ann assign (zAF (vc P G ann body (zk8 P k (X rest) K)) λ _ _=>False) ⟨env,s.objs,[]⟩
  | none=>False
 | none=>False
end Go.Pm
namespace Go.Pm
open Go Go.Sort

/-! Nil slices are slices of length 0. -/
inductive PVle : PV → PV → Prop
  | rfl (p:PV):PVle p p
  | nil (s:Nat) (g:Nat->List PV):PVle .nils (.sl 0 s g)
  | nilm (q:MQ):PVle .nilm (.fm q 0 (λ _=>none))
inductive PAle : PA → PA → Prop
  | one {p q:PV} : PVle p q->PAle (.one p) (.one q)
  | agg {l m:List PV} : RL PVle l m->PAle (.agg l) (.agg m)
theorem znx {α β:Type}{R:α->β->Prop} : RL R [] []:=trivial
theorem zhp {α β:Type}{R:α->β->Prop}{a:α}{b:β}{l:List α}{m:List β}(h:R a b) (h':RL R l m):RL R (a :: l) (b :: m):=⟨h,h'⟩
theorem zff {α : Type} {R : α → α → Prop} (h : ∀ a, R a a) : ∀ l : List α, RL R l l
  | []=>trivial
  | a :: l=>⟨h a,zff h l⟩
theorem zgm (a:PA):PAle a a:=by
 cases a with
 | one p=>exact .one (.rfl p)
 | agg l=>exact .agg (zff .rfl l)
def Wk (K:List PA->Prop) (l:List PA):Prop:=∃ l',RL PAle l l'/\K l'
theorem wk {K:List PA->Prop}{l l':List PA}(hk:K l') (h:RL PAle l l'):Wk K l:=⟨l',h,hk⟩
theorem zgn {K:List PA->Prop}{l:List PA}(hk:K l):Wk K l:=⟨l,zff zgm l,hk⟩
theorem zGk {h:Fz}{p q:PV}{v:Value}(e:PVle p q) (r:Rep h p v):Rep h q v:=by
 cases e with
 | rfl=>exact r
 | nil s g=>cases r;exact .sl0 s g
 | nilm q=>cases r;exact .fmn q _ (λ _ _=>rfl)
theorem zvw {α β γ : Type} {R : α → β → Prop} {S : α → γ → Prop} {T : γ → β → Prop} (h : ∀ a b c, S a c → R a b → T c b) : ∀ (l : List α) (m : List β) (k : List γ), RL S l k → RL R l m → RL T k m
  | [],[],[],_,_=>trivial
  | a :: l,b :: m,c :: k,hs,hr=>⟨h a b c hs.1 hr.1,zvw h l m k hs.2 hr.2⟩
  | [],_ :: _,[],_,hr=>hr.elim
  | [],_,_ :: _,hs,_=>hs.elim
  | _ :: _,_,[],hs,_=>hs.elim
  | _ :: _,[],_ :: _,_,hr=>hr.elim
theorem zzK {h:Fz}{a b:PA}{v:Value}(e:PAle a b) (r:paR h a v):paR h b v:=by
 cases e with
 | one e=>exact zGk e r
 | agg e =>
  obtain⟨vs,rfl,hv⟩:=r
  exact⟨vs,rfl,zvw (R:=Rep h) (S:=PVle) (T:=Rep h) (λ _ _ _ e r=>zGk e r) _ _ _ e hv⟩
theorem zvx {h:Fz}{l m:List PA}{v:Value}(e:RL PAle l m) (r:znw h l v):znw h m v:=by
 match l,m,e,r with
 | [a],[b],e,r=>exact zzK e.1 r
 | [],[],_,r=>exact r
 | a :: b :: l,c :: d :: m,e,r =>
  obtain⟨vs,hv,hr⟩:=r
  exact⟨vs,hv,zvw (R:=paR h) (S:=PAle) (T:=paR h) (λ _ _ _ e r=>zzK e r) _ _ _ e hr⟩
 | [_],_ :: _ :: _,e,_=>exact e.2.elim
 | _ :: _ :: _,[_],e,_=>exact e.2.elim
 | [],_ :: _,e,_=>exact e.elim
 | _ :: _,[],e,_=>exact e.elim
theorem zhC {P : Program} {T : Tabs} (hT : TabsOk P T) {f : FuncId} {C : List PA → COut} (hc : zas P f)
    (h:∀ args K,(C args).wp K->∃ args',RL PAle args args'/\∃ memo vv ann,vcFun P (csm T memo vv) ann f args' (Wk K)):Ok P f C:=by
  intro args K hK w h0 vs hvs hfz hgl
  obtain⟨args',hle,memo,vv,ann,hv⟩:=h args K hK
  refine⟨hc,(zvl (hT.all memo vv) hv (zvw (R:=paR h0) (S:=PAle) (T:=paR h0) (λ _ _ _ e r=>zzK e r) _ _ _ hle hvs) hfz hgl).mono ?_⟩
  rintro e w' ⟨h',rs,v,⟨rs',hr,hk⟩,he,hres,rest⟩
  exact⟨h',rs',v,hk,he,zvx hr hres,rest⟩
theorem zzL {P : Program} {T : Tabs} (hT : TabsOk P T) {f : FuncId} {C : MK} (hc : zas P f)
    (h:∀ xs safe rs ys,C xs=some (safe,rs,ys)->safe->∀ K:List PA->List XA->Prop,K rs ys->∃ memo vv ann,zkf P (csm T memo vv) ann f xs (λ a b=>Wk (λ a'=>K a' b) a)):ziW P f C:=by
  intro xs ys safe rs hC hs w h0 base vs hvs hn hK hw hgl hB
  obtain⟨memo,vv,ann,hv⟩:=h xs safe rs ys hC hs (λ l zs=>l=rs/\zs=ys) ⟨rfl,rfl⟩
  refine⟨hc,(zvr (hT.all memo vv) hv hvs hn hK hw hgl hB).mono ?_⟩
  rintro e w' ⟨h',v,rs',ys',⟨rs2,hr,rfl,rfl⟩,he,hres,r⟩
  exact⟨h',v,he,zvx hr hres,r⟩
def WkM (K:List PA×List XA->Prop) (p:List PA×List XA):Prop:=Wk (λ a=>K (a,p.2)) p.1
theorem wkM {K:List PA×List XA->Prop}{l l':List PA}{b:List XA}(hk:K (l',b)) (h:RL PAle l l'):WkM K (l,b):=⟨l',h,hk⟩
theorem zvy {K:List PA×List XA->Prop}{p:List PA×List XA}(hk:K p):WkM K p:=⟨p.1,zff zgm p.1,hk⟩
/-! Maps, as typed zac; the keys of a map. -/
structure Mp where
  n:Nat
  F:List Int->Option (List Int)
instance:Inhabited Mp:=⟨⟨0,λ _=>none⟩⟩

end Go.Pm
namespace Go.Pm

abbrev zI (x:Int):DV:=.one (.c (.p (.int .i64 x)))
abbrev zB (x:Bool):DV:=.one (.c (.p (.bool x)))
abbrev zP (x:PV):DV:=.one (.c (.p x))
abbrev zp (L k:Nat):DV:=.one (.c (.ptr L k))
abbrev zv (L:Nat):DV:=.one (.c (.vec L))
abbrev zs {α:Type}(enc:α->List PV) (s:Nat) (x:Sl α):PV:=.sl x.len s (λ i=>enc (x.get i))
abbrev zS {α:Type}(enc:α->List PV) (s:Nat) (x:Sl α):DV:=zP (zs enc s x)
abbrev zm (l:List PV):List Cl:=l.map Cl.p
abbrev zi (x:Int):Cl:=.p (.int .i64 x)
abbrev zg {α:Type}(enc:α->List PV) (x:Sl α):Nat->List PV:=λ i=>enc (x.get i)
abbrev zK (a b:List Nat):Keep:=⟨a,b,[],[],[],[],[]⟩
theorem zE {α:Type}(enc:α->List PV) (size:Nat) (f:Nat->α):IsE enc size size (λ i=>enc (f i)):=⟨rfl,f,rfl⟩

theorem zvz {α : Type} : ∀ (new l pre : List α), l.length = new.length → spl (pre ++ l) pre.length new = pre ++ new
  | [],l,pre,h=>by
    have:l=[]:=List.eq_nil_of_length_eq_zero h
    subst this;rfl
  | x :: r,[],pre,h=>by simp at h
  | x :: r,y :: l,pre,h=>by
    have e:=zvz r l (pre ++ [x]) (by simpa using h)
    simp only[spl,List.append_assoc,List.singleton_append,List.length_append,List.length_singleton] at e ⊢
    rw[List.set_append_right _ _ (Nat.le_refl _),Nat.sub_self,List.set_cons_zero]
    exact e
theorem zmn {n:Nat}{F G:Nat->Int} : spl (zgP 0 n F) 0 (zgP 0 n G)=zgP 0 n G:=by
 have h:=zvz (zgP 0 n G) (zgP 0 n F) [] (by rw[zeA,zeA])
 simpa using h
theorem zmo {n:Nat}{F:Nat->Int} : zgP 0 n F=zgP 0 n (zk4 (zm (zgP 0 n F))):=by
 refine List.ext_getElem? λ k=>?_
 by_cases hk:k < n
 ·rw [zfR n 0 F k hk, zfR n 0 _ k hk, Nat.zero_add]
  congr 2
  have h:(zm (zgP 0 n F))[k]? = some (.p (.int .i64 (F k))):=by
   rw[zm,List.getElem?_map,zfR n 0 F k hk,Nat.zero_add];rfl
  unfold zk4
  rw[h]
 ·rw[List.getElem?_eq_none (by rw[zeA];omega),List.getElem?_eq_none (by rw[zeA];omega)]

@[reducible] def lpO {A : Type} (d : A) (st : A → A) : Nat → A
  | 0=>d
  | k+1=>st (lpO d st k)
theorem zfW {A B : Type} (a : A) (b : B) (p : A → A) (s : B → B) (M : A → B → Prop) (h0 : M a b) (h1 : ∀ P S, M P S → M (p P) (s S)) : ∀ k, M (lpO a p k) (lpO b s k)
  | 0=>h0
  | k+1=>h1 _ _ (zfW a b p s M h0 h1 k)
def xcm (l:List PV):List XC:=l.map .p
def unX : List XC → List PV
  | []=>[]
  | .p v :: r=>v :: unX r
  | _ :: r=>.nilp :: unX r
theorem zvA : ∀ l : List PV, unX (xcm l) = l
  | []=>rfl
  | v :: r=>by show v :: unX (xcm r)=v :: r;rw[zvA r]
theorem zCn {n:Nat}{F:Nat->Int} : xcm (zgP 0 n F)=xcm (zgP 0 n (zk4 (zm (unX (xcm (zgP 0 n F)))))):=by
 rw[zvA,← zmo]

section
variable (P:Program) (Γ:Ctrs) (ann:Ann)
def pt : Code → (Exit → St → Prop) → List Nat → List (St → Prop) → St → Prop
  | .seq a b,K,i :: r,X=>match i with | 0=>pt a (sqK P Γ ann b K) r X | _=>pt b K r X
  | .cond _ a b,K,i :: r,X=>match i with | 0=>pt a K r X | _=>pt b K r X
  | .block id b,K,_ :: r,X=>pt b (zeW id K) r X
  | .loop b,K,_ :: r,x :: X=>pt b (ztc P ann (zkV b) x K) r X
  | .scope b,K,_ :: r,X=>pt b (zt2 K) r X
  | c,K,_,_=>vc P Γ ann c K
def ptF (fn:Func) (K:List PA->Prop) (l:List Nat) (X:List (St->Prop)):St->Prop :=
 match fn.body with
 | some c=>pt P Γ ann c (zo0 P fn K) l X
 | none=>λ _=>False
end

section
variable (P:Program) (Γ:Ctrs) (ann:Ann)
def ptR : Code → (Exit → St → Prop) → List Nat → List (St → Prop) → Code × (Exit → St → Prop)
  | .seq a b,K,i :: r,X=>match i with | 0=>ptR a (sqK P Γ ann b K) r X | _=>ptR b K r X
  | .cond _ a b,K,i :: r,X=>match i with | 0=>ptR a K r X | _=>ptR b K r X
  | .block id b,K,_ :: r,X=>ptR b (zeW id K) r X
  | .loop b,K,_ :: r,x :: X=>ptR b (ztc P ann (zkV b) x K) r X
  | .scope b,K,_ :: r,X=>ptR b (zt2 K) r X
  | c,K,_,_=>(c,K)
def exF (fn:Func) (K:List PA->Prop) (l:List Nat) (X:List (St->Prop)) (s:St):Prop :=
 match fn.body with
 | some c=>(ptR P Γ ann c (zo0 P fn K) l X).2 .normal s
 | none=>False
def rnF (fn:Func) (K:List PA->Prop) (l:List Nat) (X:List (St->Prop)) (Y:List (List PA)->St->Prop) (y:List PA) (rest:List (List PA)) (s:St):Prop :=
 match fn.body with
 | some c=>match (ptR P Γ ann c (zo0 P fn K) l X).1 with
  | .rangeFunc _ ps a b=>zIZ P Γ ann (zKj a b) ps.toList a b Y (ptR P Γ ann c (zo0 P fn K) l X).2 y rest s
  | _=>False
 | none=>False
end
@[reducible] def lpR {A Y : Type} (a : A) (st : Y → A → A) : List Y → A
  | []=>a
  | y :: r=>st y (lpR a st r)
theorem zri {Y A B : Type} {enc : Y → List PA} {X : List (List PA) → St → Prop} (pe : B) (se : A) (ps : Y → B → B) (ss : Y → A → A) (M : (St → Prop) → B → A → Prop) (h0 : M (X []) pe se)
    (h1:∀ y rest P S,M (X rest) P S->M (X (enc y :: rest)) (ps y P) (ss y S)):∀ l:List Y,M (X (l.map enc)) (lpR pe ps l) (lpR se ss l)
  | []=>h0
  | y :: r=>h1 y (r.map enc) _ _ (zri pe se ps ss M h0 h1 r)
theorem zr {at_ sf : Prop} {Y : Type} {enc : Y → List PA} {ys : List Y} {g : St} (Ex : St → Prop) (Rn : (List (List PA) → St → Prop) → List PA → List (List PA) → St → Prop)
    (e:at_=(sf/\∀ X:List (List PA)->St->Prop,(∀ s,Ex s->X [] s)->(∀ y rest s,Rn X y rest s->X (y :: rest) s)->X (ys.map enc) g)) (hs:sf)
    (h:∀ X:List (List PA)->St->Prop,(∀ s,Ex s->X [] s)->(∀ y rest s,Rn X y rest s->X (y :: rest) s)->X (ys.map enc) g):at_:=e ▸ ⟨hs,h⟩

theorem zc {b:Bool}{A B:Prop}{S S':Bool}{α:Type}{e:α->List PA}{K:List PA->Prop}{x y:α}(hs:cond b S S'=true) (hk:K (e (cond b x y))) (h1:S=true->K (e x)->A) (h2:S'=true->K (e y)->B):zdd b A B:=by
 cases b
 ·exact h2 hs hk
 ·exact h1 hs hk
theorem zt {b:Bool}{A B:Prop}{α:Type}{e:α->List PA}{K:List PA->Prop}{x y:α}(hk:K (e (cond b x y))) (h1:K (e x)->A) (h2:K (e y)->B):zdd b A B:=by
 cases b
 ·exact h2 hk
 ·exact h1 hk
theorem zGl {b:Bool}{s:Prop}{r1 r2:List PA}{K:List PA->Prop}(h:(COut.alt b s r1 s r2).wp K):s/\K (cond b r1 r2):=by
 cases b
 ·exact h.2 rfl
 ·exact h.1 rfl
theorem zl {at_:Prop}{g:St}(B:(St->Prop)->St->Prop) (e:at_ = ∀ X:St->Prop,(∀ s,B X s->X s)->X g) (h:∀ X:St->Prop,(∀ s,B X s->X s)->X g):at_:=e ▸ h
end Go.Pm
namespace Go.Proofs
open Go Go.Pm
set_option maxRecDepth 100000
set_option linter.unusedVariables false
attribute [local irreducible] Go.Pm.vcFun Go.Pm.vc Go.Pm.vcIter
abbrev Tab:=Nat->Int
def tg (n:Nat) (F:Tab) (k:Nat):Int:=zk4 (zm (zgP 0 n F)) k
def ts (n:Nat) (F:Tab) (k:Nat) (vs:List Int):Tab:=zAA k vs (zk4 (zm (zgP 0 n F)))
abbrev enc_3 (x:Int):List PV:=[.int .i64 x]
def zI0 : List PV → Int
  | [.int .i64 x]=>x
  | _=>default
def zat (g:Nat->List PV):Nat->Int:=λ i=>zI0 (g i)
theorem za3 (f:Nat->Int):zat (λ i=>enc_3 (f i))=f:=rfl
abbrev zI1 (x:Bool):List PV:=[.bool x]
structure Tie where
  From:Int
  To:Int
  Low:Int
  High:Int
deriving Inhabited
abbrev enc_40 (x:Tie):List PV:=[.int .i64 x.From,.int .i64 x.To,.int .i64 x.Low,.int .i64 x.High]
def zGm : List PV → Tie
  | [.int .i64 x_From,.int .i64 x_To,.int .i64 x_Low,.int .i64 x_High]=>(⟨x_From,x_To,x_Low,x_High⟩:Tie)
  | _=>default
def zal (g:Nat->List PV):Nat->Tie:=λ i=>zGm (g i)
theorem zak (f:Nat->Tie):zal (λ i=>enc_40 (f i))=f:=rfl
abbrev zGn (x:(Sl Tie)):List PV:=[.sl x.len 4 (λ i=>enc_40 (x.get i))]
structure Net where
  Nodes:Int
  Ties:(Sl Tie)
deriving Inhabited
abbrev enc_24 (x:Net):List PV:=[.int .i64 x.Nodes,.sl x.Ties.len 4 (λ i=>enc_40 (x.Ties.get i))]
abbrev zbP (x:(Sl Int)):List PV:=[.sl x.len 1 (λ i=>enc_3 (x.get i))]
def zGo : List PV → (Sl Int)
  | [.sl x_n _ x_g]=>(⟨x_n,zat x_g⟩:(Sl Int))
  | _=>default
def zmp (g:Nat->List PV):Nat->(Sl Int):=λ i=>zGo (g i)
theorem zkj (f:Nat->(Sl Int)):zmp (λ i=>zbP (f i))=f:=rfl
structure Span where
  Low:Int
  High:Int
deriving Inhabited
abbrev zbq (x:Span):List PV:=[.int .i64 x.Low,.int .i64 x.High]
def zGp : List PV → Span
  | [.int .i64 x_Low,.int .i64 x_High]=>(⟨x_Low,x_High⟩:Span)
  | _=>default
def zfg (g:Nat->List PV):Nat->Span:=λ i=>zGp (g i)
theorem zeL (f:Nat->Span):zfg (λ i=>zbq (f i))=f:=rfl
structure Pulse where
  A:Int
  B:Int
  TimeA:Int
  TimeB:Int
  Flight:Span
  Jitter:Int
deriving Inhabited
structure Use where
  Tie:Int
  Back:Bool
deriving Inhabited
abbrev enc_75 (x:Use):List PV:=[.int .i64 x.Tie,.bool x.Back]
def zGq : List PV → Use
  | [.int .i64 x_Tie,.bool x_Back]=>(⟨x_Tie,x_Back⟩:Use)
  | _=>default
def zbM (g:Nat->List PV):Nat->Use:=λ i=>zGq (g i)
theorem zbA (f:Nat->Use):zbM (λ i=>enc_75 (f i))=f:=rfl
abbrev zGr (x:(Sl Use)):List PV:=[.sl x.len 2 (λ i=>enc_75 (x.get i))]
structure Flash where
  A:Int
  B:Int
  Time:Int
  Flight:Int
  Wrong:Int
deriving Inhabited
structure web where
  Net:Net
  out:Mp
deriving Inhabited
abbrev zaC (x:web):List PV:=[.int .i64 x.Net.Nodes,.sl x.Net.Ties.len 4 (λ i=>enc_40 (x.Net.Ties.get i)),.fm (false,1,false,[none]) x.out.n x.out.F]
structure far where
  length:Int
  uses:Int
deriving Inhabited
abbrev zb5 (x:far):List PV:=[.int .i64 x.length,.int .i64 x.uses]
def zCo : List PV → far
  | [.int .i64 x_length,.int .i64 x_uses]=>(⟨x_length,x_uses⟩:far)
  | _=>default
def zja (g:Nat->List PV):Nat->far:=λ i=>zCo (g i)
theorem ziI (f:Nat->far):zja (λ i=>zb5 (f i))=f:=rfl
abbrev zao (x:Tab):List PV:=zgP 0 80 x
def za0 (l:List PV):Tab:=zk4 (zm l)
structure Step where
  From:Int
  To:Int
  Length:Int
  Use:Use
deriving Inhabited
structure step where
  Use:Use
  from_:Int
  to:Int
  length:Int
deriving Inhabited
abbrev zaA (x:step):List PV:=[.int .i64 x.Use.Tie,.bool x.Use.Back,.int .i64 x.from_,.int .i64 x.to,.int .i64 x.length]
def zCp : List PV → step
  | [.int .i64 x_Use_Tie,.bool x_Use_Back,.int .i64 x_from_,.int .i64 x_to,.int .i64 x_length]=>(⟨(⟨x_Use_Tie,x_Use_Back⟩:Use),x_from_,x_to,x_length⟩:step)
  | _=>default
def zha (g:Nat->List PV):Nat->step:=λ i=>zCp (g i)
theorem zd3 (f:Nat->step):zha (λ i=>zaA (f i))=f:=rfl
structure tie where
  Tie:Tie
  index:Int
deriving Inhabited
abbrev zpz (x:tie):List PV:=[.int .i64 x.Tie.From,.int .i64 x.Tie.To,.int .i64 x.Tie.Low,.int .i64 x.Tie.High,.int .i64 x.index]
abbrev zvB (x:Tab):List PV:=zgP 0 40 x
abbrev zcz (x:(Sl Tab)):List PV:=[.sl x.len 80 (λ i=>zao (x.get i))]
abbrev tL (T:Tab) (i:Int):Int:=tg 80 T (0+i.toNat * 2+0)
abbrev tU (T:Tab) (i:Int):Int:=tg 80 T (0+i.toNat * 2+0+1)
abbrev tV (T:Tab) (i:Int):Int:=tg 80 T (0+i.toNat * 2+1)
abbrev nvr (x y:Int):Bool:=match (x == (1000000000000:Int)) with | true=>(match (y == (0:Int)) with | true=>true | false=>false) | false=>false
end Go.Proofs
namespace Go.Pm
open Go Go.Deep

theorem zzM (b o i j:Nat):((⟨b,o,none⟩:Addr).add i).add j=⟨b,o+i+j,none⟩:=by
 simp only[Addr.add]
 by_cases h1:i=0
 ·subst h1
  by_cases h2:j=0
  ·subst h2;rfl
  ·rw[if_neg h2];rfl
 ·rw [if_neg h1]
  by_cases h2:j=0
  ·subst h2;rfl
  ·rw[if_neg h2]
def H0 (w:World):Fz:=λ b=>(w.heap[b]?).map .fz
theorem hw_H0 (w:World):Hw (H0 w) w:=by
 intro b x h
 unfold H0 at h
 cases e:w.heap[b]? with
 | none=>rw[e] at h;cases h
 | some o=>rw[e] at h;cases h;exact⟨o,rfl,rfl⟩
def wfI (x:Int):Prop:=-9223372036854775808≤x/\x≤9223372036854775807
section
variable {H:Type}{en:TypeId×Value->H}{P:Program}{w:World}{sp:Nat->Bool}{held:Bool}
def Rd (H:Type) (en:TypeId×Value->H) (P:Program) (w:World) (sp:Nat->Bool) (held:Bool) (t:TypeId){α:Type}(enc:α->List PV) (wf:α->Prop):Prop :=
 ∀ (fuel:Nat) (cs:List Value) (x:DataW H×List MemPlace),DataW.trod en P w 0 sp held fuel t cs=some x->∃ a:α,RL (Rep (H0 w)) (enc a) cs/\wf a
theorem zGs {t:TypeId}(ht:P.underlying t=some (.int .i64)):Rd H en P w sp held t (λ x=>[.int .i64 x]) wfI:=by
 intro fuel cs x h
 obtain⟨n,rfl,_,hw⟩:=DataW.trod_int ht h
 refine⟨n,⟨.int _ _,trivial⟩,?_⟩
 simp only[Lit.wf,Bool.and_eq_true,decide_eq_true_eq] at hw
 exact⟨hw.1,hw.2⟩
theorem zCq {t:TypeId}(ht:P.underlying t=some .bool):Rd H en P w sp held t (λ x=>[.bool x]) (λ _=>True):=by
 intro fuel cs x h
 obtain⟨b,rfl,_⟩:=DataW.trod_bool ht h
 exact⟨b,⟨.bool _,trivial⟩,trivial⟩
theorem zkk {t : TypeId} {fs : Array Field} (ht : P.underlying t = some (.struct fs)) {fuel : Nat} {cs : List Value} {x : DataW H × List MemPlace} (h : DataW.trod en P w 0 sp held fuel t cs = some x) :
  cs.length=P.cellsOf t/\∀ (i:Nat) (f:Field),fs[i]? = some f->∃ n y,DataW.trod en P w 0 sp held n f.type ((cs.drop f.offset).take (P.cellsOf f.type))=some y:=by
 obtain⟨xs,n,_,_,hl,hx,hf⟩:=DataW.trod_struct ht h
 refine⟨hl,λ i f hi=>?_⟩
 have hlt:i < xs.length:=by rw[hx];exact (Array.getElem?_eq_some_iff.1 hi).1
 exact⟨n,xs[i],by rw[hf i f hi,List.getElem?_eq_getElem hlt]⟩
theorem zmq {t e : TypeId} {α : Type} [Inhabited α] {enc : α → List PV} {wf : α → Prop} {s : Nat} (ht : P.underlying t = some (.slice e)) (hc : P.cellsOf e = s) (hs : 0 < s) (hlen : ∀ a, (enc a).length = s)
    (hel:Rd H en P w sp held e enc wf):Rd H en P w sp held t (λ x:Sl α=>[.sl x.len s (λ i=>enc (x.get i))]) (λ x=>x.len≤9223372036854775807/\∀ i,i < x.len->wf (x.get i)):=by
  intro fuel cs x h
  rcases open_slice ht h with ⟨rfl,_⟩ | ⟨a,len,cap,m,n,D,Pl,rfl,_,hl,hm,hmm,_,hget⟩
  · exact⟨⟨0,default⟩,⟨.sl0 _ _,trivial⟩,Nat.zero_le _,λ i hi=>absurd hi (Nat.not_lt_zero i)⟩
  · by_cases h0 : len = 0
    · subst h0
      exact⟨⟨0,default⟩,⟨.sle _ _ _ _,trivial⟩,Nat.zero_le _,λ i hi=>absurd hi (Nat.not_lt_zero i)⟩
    · have hlm : len ≤ m := by rw [hmm]; split <;> omega
      rw[hc] at hget
      have hex:∀ i,i < len->∃ y:α,(∃ cs',w.cells? 0 (a.add (i * s)) s=some cs'/\RL (Rep (H0 w)) (enc y) cs')/\wf y:=by
        intro i hi
        obtain⟨cs',h1,h2⟩:=hget i (by omega)
        obtain⟨y,h3,h4⟩:=hel _ _ _ h2
        exact⟨y,⟨cs',h1,h3⟩,h4⟩
      have hch:∃ f:Nat->α,∀ i,i < len->(∃ cs',w.cells? 0 (a.add (i * s)) s=some cs'/\RL (Rep (H0 w)) (enc (f i)) cs')/\wf (f i):=by
        refine⟨λ i=>if hi:i < len then Classical.choose (hex i hi) else default,λ i hi=>?_⟩
        simp only[dif_pos hi]
        exact Classical.choose_spec (hex i hi)
      obtain⟨f,hf⟩:=hch
      -- the block
      have hcell:∀ i,i < len->∀ j,j < s->∃ cs',w.cells? 0 (a.add (i * s)) s=some cs'/\RL (Rep (H0 w)) (enc (f i)) cs'/\w.cell? ((a.add (i * s)).add j)=cs'[j]?/\cs'.length=s:=by
        intro i hi j hj
        obtain⟨⟨cs',h1,h2⟩,_⟩:=hf i hi
        obtain⟨_,h3,h4⟩:=World.cells?_some h1
        exact⟨cs',h1,h2,h4 j hj,h3⟩
      obtain⟨cs0,_,_,hc0,hl0⟩:=hcell 0 (by omega) 0 hs
      have ha0:w.cell? a=cs0[0]?:=by simpa [Addr.add] using hc0
      rw[List.getElem?_eq_getElem (by omega)] at ha0
      obtain⟨C,ty,fr,hblk,hspot⟩:∃ C ty fr,w.heap[a.block]? = some (.cells C ty fr)/\a.spot=none:=by
        unfold World.cell? at ha0
        split at ha0
        · rename_i C ty fr hb
          refine⟨C,ty,fr,hb,?_⟩
          cases hsp:a.spot with
          | none=>rfl
          | some k=>rw[hsp] at ha0;simp at ha0
        · cases ha0
      have ea:a=⟨a.block,a.off,none⟩:=by rw[← hspot]
      have hat:∀ i j,i < len->j < s->∃ cs',RL (Rep (H0 w)) (enc (f i)) cs'/\C[a.off+i * s+j]? = cs'[j]?/\cs'.length=s:=by
        intro i j hi hj
        obtain⟨cs',_,h2,h3,h4⟩:=hcell i hi j hj
        refine⟨cs',h2,?_,h4⟩
        rw[← h3]
        have e2:(a.add (i * s)).add j=⟨a.block,a.off+i * s+j,none⟩:=(congrArg (λ z:Addr=>(z.add (i * s)).add j) ea).trans (zzM _ _ _ _)
        rw[e2]
        simp[World.cell?,hblk]
      refine⟨⟨len,f⟩,⟨?_,trivial⟩,by simp only[maxLen] at hm;show len≤_;omega,λ i hi=>(hf i hi).2⟩
      rw[ea]
      refine .sl len s _ a.block a.off cap C ty fr (λ i j=>C.getD (a.off+i * s+j) undef) (by simp[H0,hblk]) hl (λ i _=>hlen _) ?_ ?_
      · intro i j x hi hx
        have hj:j < s:=by have:=(List.getElem?_eq_some_iff.1 hx).1;rw[hlen] at this;exact this
        obtain⟨cs',h1,h2,h3⟩:=hat i j hi hj
        rw[Array.getD_eq_getD_getElem?,h2,List.getElem?_eq_getElem (by omega)]
        rfl
      · intro i j x hi hx
        have hj:j < s:=by have:=(List.getElem?_eq_some_iff.1 hx).1;rw[hlen] at this;exact this
        obtain⟨cs',h1,h2,h3⟩:=hat i j hi hj
        obtain⟨v,hv,hr⟩:=h1.get j x hx
        rw[Array.getD_eq_getD_getElem?,h2,hv]
        exact hr
theorem zcE {α:Type}(l:List α) (o s:Nat):l.drop o=(l.drop o).take s ++ l.drop (o+s):=by
 rw[← List.drop_drop]
 exact (List.take_append_drop s (l.drop o)).symm
theorem okWide_agg {t:TypeId}{fs:Array Field}{r:Reach}{base:Nat}{v:Value}(ht:P.underlying t=some (.struct fs)) (h:Value.okWide P w r base t v):∃ cs,v=.agg cs:=by
 unfold Value.okWide at h
 rw[ht] at h
 obtain⟨cs,hv,_⟩:=h
 exact⟨cs,hv⟩
def zI2 : TypeDesc → Bool
  | .struct _=>false
  | .array _ _=>false
  | _=>true
theorem okWide_one {t:TypeId}{d:TypeDesc}{r:Reach}{base:Nat}{v:Value}(ht:P.underlying t=some d) (hd:zI2 d=true) (h:Value.okWide P w r base t v):v.cells.toList=[v]:=by
 unfold Value.okWide at h
 rw[ht] at h
 cases v with
 | agg cs =>
  exfalso
  cases d <;> first | (cases hd;done) | (simp only[Cell.okWide,Cell.ok,ht] at h)
 | _=>rfl
theorem pa_one {h:Fz}{p:PV}{v:Value}(hv:v.cells.toList=[v]) (r:RL (Rep h) [p] v.cells.toList):paR h (.one p) v:=by
 rw[hv] at r
 exact r.1
theorem pa_agg {h:Fz}{l:List PV}{v:Value}(hv:∃ cs,v=.agg cs) (r:RL (Rep h) l v.cells.toList):paR h (.agg l) v:=by
 obtain⟨cs,rfl⟩:=hv
 exact⟨cs.toList,by simp,r⟩
theorem below_H0 {w':World}(b:Bel (H0 w) w.heap.size w w'):Go.RowKit.Below w.heap.size w w' :=
 ⟨b.os,b.tape,b.output,b.size,λ k hk=>b.block k hk λ F e=>by
  unfold H0 at e
  cases hb:w.heap[k]? <;> rw[hb] at e <;> cases e⟩
end
end Go.Pm
namespace Go.Proofs
open Go Go.Pm
set_option maxRecDepth 100000
set_option linter.unusedVariables false
attribute [local irreducible] Go.Pm.vcFun Go.Pm.vc Go.Pm.vcIter
theorem C_3:Tryd.prog.cellsOf 3=1:=by kernel_rfl
theorem C_4:Tryd.prog.cellsOf 4=1:=by kernel_rfl
theorem zKS:Tryd.prog.cellsOf 22=1:=by kernel_rfl
theorem zKT:Tryd.prog.cellsOf 24=2:=by kernel_rfl
theorem zKp:Tryd.prog.cellsOf 40=4:=by kernel_rfl
theorem zKq:Tryd.prog.cellsOf 75=2:=by kernel_rfl
abbrev wf_3 (x:Int):Prop:=wfI x
theorem rd_3 {H:Type}{en:TypeId×Value->H}{w:World}{sp:Nat->Bool}{held:Bool} : Rd H en Tryd.prog w sp held 3 enc_3 wf_3:=zGs Tryd.underlying3
def zGt (x:Tie):Prop:=wf_3 x.From/\wf_3 x.To/\wf_3 x.Low/\wf_3 x.High
theorem zI3 {H:Type}{en:TypeId×Value->H}{w:World}{sp:Nat->Bool}{held:Bool} : Rd H en Tryd.prog w sp held 40 enc_40 zGt:=by
  intro fuel cs x h
  obtain⟨hl,hf⟩:=zkk Tryd.underlying40 h
  rw[zKp] at hl
  obtain⟨n0,y0,g0⟩:=hf 0 _ rfl
  have g0:DataW.trod en Tryd.prog w 0 sp held n0 3 ((cs.drop 0).take (Tryd.prog.cellsOf 3))=some y0:=g0
  rw[C_3] at g0
  obtain⟨a0,r0,w0⟩:=rd_3 _ _ _ g0
  obtain⟨n1,y1,g1⟩:=hf 1 _ rfl
  have g1:DataW.trod en Tryd.prog w 0 sp held n1 3 ((cs.drop 1).take (Tryd.prog.cellsOf 3))=some y1:=g1
  rw[C_3] at g1
  obtain⟨a1,r1,w1⟩:=rd_3 _ _ _ g1
  obtain⟨n2,y2,g2⟩:=hf 2 _ rfl
  have g2:DataW.trod en Tryd.prog w 0 sp held n2 3 ((cs.drop 2).take (Tryd.prog.cellsOf 3))=some y2:=g2
  rw[C_3] at g2
  obtain⟨a2,r2,w2⟩:=rd_3 _ _ _ g2
  obtain⟨n3,y3,g3⟩:=hf 3 _ rfl
  have g3:DataW.trod en Tryd.prog w 0 sp held n3 3 ((cs.drop 3).take (Tryd.prog.cellsOf 3))=some y3:=g3
  rw[C_3] at g3
  obtain⟨a3,r3,w3⟩:=rd_3 _ _ _ g3
  have z:cs.drop 4=[]:=List.drop_eq_nil_of_le (by omega)
  have R:=(r0.append (r1.append (r2.append (r3.append (show RL (Rep (H0 w)) [] (cs.drop 4) by rw[z];exact znx)))))
  rw[← (show cs.drop 3=(cs.drop 3).take 1 ++ cs.drop 4 from zcE cs 3 1)] at R
  rw[← (show cs.drop 2=(cs.drop 2).take 1 ++ cs.drop 3 from zcE cs 2 1)] at R
  rw[← (show cs.drop 1=(cs.drop 1).take 1 ++ cs.drop 2 from zcE cs 1 1)] at R
  rw[← (show cs.drop 0=(cs.drop 0).take 1 ++ cs.drop 1 from zcE cs 0 1)] at R
  exact⟨⟨a0,a1,a2,a3⟩,R,⟨w0,w1,w2,w3⟩⟩
def zGu (x:(Sl Tie)):Prop:=x.len≤9223372036854775807/\∀ i,i < x.len->zGt (x.get i)
theorem zI4 {H:Type}{en:TypeId×Value->H}{w:World}{sp:Nat->Bool}{held:Bool} : Rd H en Tryd.prog w sp held 22 zGn zGu:=zmq Tryd.underlying22 zKp (by decide) (λ _=>rfl) zI3
def wf_24 (x:Net):Prop:=wf_3 x.Nodes/\zGu x.Ties
theorem rd_24 {H:Type}{en:TypeId×Value->H}{w:World}{sp:Nat->Bool}{held:Bool} : Rd H en Tryd.prog w sp held 24 enc_24 wf_24:=by
  intro fuel cs x h
  obtain⟨hl,hf⟩:=zkk Tryd.underlying24 h
  rw[zKT] at hl
  obtain⟨n0,y0,g0⟩:=hf 0 _ rfl
  have g0:DataW.trod en Tryd.prog w 0 sp held n0 3 ((cs.drop 0).take (Tryd.prog.cellsOf 3))=some y0:=g0
  rw[C_3] at g0
  obtain⟨a0,r0,w0⟩:=rd_3 _ _ _ g0
  obtain⟨n1,y1,g1⟩:=hf 1 _ rfl
  have g1:DataW.trod en Tryd.prog w 0 sp held n1 22 ((cs.drop 1).take (Tryd.prog.cellsOf 22))=some y1:=g1
  rw[zKS] at g1
  obtain⟨a1,r1,w1⟩:=zI4 _ _ _ g1
  have z:cs.drop 2=[]:=List.drop_eq_nil_of_le (by omega)
  have R:=(r0.append (r1.append (show RL (Rep (H0 w)) [] (cs.drop 2) by rw[z];exact znx)))
  rw[← (show cs.drop 1=(cs.drop 1).take 1 ++ cs.drop 2 from zcE cs 1 1)] at R
  rw[← (show cs.drop 0=(cs.drop 0).take 1 ++ cs.drop 1 from zcE cs 0 1)] at R
  exact⟨⟨a0,a1⟩,R,⟨w0,w1⟩⟩
def wf_27 (x:(Sl Int)):Prop:=x.len≤9223372036854775807/\∀ i,i < x.len->wf_3 (x.get i)
theorem rd_27 {H:Type}{en:TypeId×Value->H}{w:World}{sp:Nat->Bool}{held:Bool} : Rd H en Tryd.prog w sp held 27 zbP wf_27:=zmq Tryd.underlying27 C_3 (by decide) (λ _=>rfl) rd_3
abbrev zKr (_:Bool):Prop:=True
theorem zKU {H:Type}{en:TypeId×Value->H}{w:World}{sp:Nat->Bool}{held:Bool} : Rd H en Tryd.prog w sp held 4 zI1 zKr:=zCq Tryd.underlying4
def zGv (x:Use):Prop:=wf_3 x.Tie/\zKr x.Back
theorem zI5 {H:Type}{en:TypeId×Value->H}{w:World}{sp:Nat->Bool}{held:Bool} : Rd H en Tryd.prog w sp held 75 enc_75 zGv:=by
  intro fuel cs x h
  obtain⟨hl,hf⟩:=zkk Tryd.underlying75 h
  rw[zKq] at hl
  obtain⟨n0,y0,g0⟩:=hf 0 _ rfl
  have g0:DataW.trod en Tryd.prog w 0 sp held n0 3 ((cs.drop 0).take (Tryd.prog.cellsOf 3))=some y0:=g0
  rw[C_3] at g0
  obtain⟨a0,r0,w0⟩:=rd_3 _ _ _ g0
  obtain⟨n1,y1,g1⟩:=hf 1 _ rfl
  have g1:DataW.trod en Tryd.prog w 0 sp held n1 4 ((cs.drop 1).take (Tryd.prog.cellsOf 4))=some y1:=g1
  rw[C_4] at g1
  obtain⟨a1,r1,w1⟩:=zKU _ _ _ g1
  have z:cs.drop 2=[]:=List.drop_eq_nil_of_le (by omega)
  have R:=(r0.append (r1.append (show RL (Rep (H0 w)) [] (cs.drop 2) by rw[z];exact znx)))
  rw[← (show cs.drop 1=(cs.drop 1).take 1 ++ cs.drop 2 from zcE cs 1 1)] at R
  rw[← (show cs.drop 0=(cs.drop 0).take 1 ++ cs.drop 1 from zcE cs 0 1)] at R
  exact⟨⟨a0,a1⟩,R,⟨w0,w1⟩⟩
def wf_67 (x:(Sl Use)):Prop:=x.len≤9223372036854775807/\∀ i,i < x.len->zGv (x.get i)
theorem rd_67 {H:Type}{en:TypeId×Value->H}{w:World}{sp:Nat->Bool}{held:Bool} : Rd H en Tryd.prog w sp held 67 zGr wf_67:=zmq Tryd.underlying67 zKq (by decide) (λ _=>rfl) zI5
end Go.Proofs
namespace Go.Proofs
open Go Go.Pm
set_option maxRecDepth 100000
set_option linter.unusedVariables false
attribute [local irreducible] Go.Pm.vcFun Go.Pm.vc Go.Pm.vcIter
abbrev T81:Tabs:=Tabs.nil
theorem zI6:TabsOk Tryd.prog T81:=TabsOk.nil
abbrev G81:Ctrs:=csm T81 (λ _ _=>[]) (λ _=>false)
def zGw:Ann:=⟨15,[(0,zK [0,1,2] []),(1,zK [6] [])],
 [],
 [],
 [],[]⟩
abbrev R81:=Bool
abbrev e81 (r:R81):List PA:=[.one (.bool r)]
section
variable {K:List PA->Prop}{n:Int}{low:Int}{high:Int}
def s81 (n:Int) (low:Int) (high:Int):Bool :=
  (cond (decide (n ≥ low))
 (decide (n≤high))
 false)
end
theorem q81 (n:Int) (low:Int) (high:Int) (K:List PA->Prop) (hk:K (e81 (s81 n low high))):vcFun Tryd.prog G81 zGw 81 [.one (.int .i64 n),.one (.int .i64 low),.one (.int .i64 high)] K :=
  zaX (by kernel_rfl) (zt hk (λ hk=>hk) (λ hk=>hk))
def ztD : List PA → COut
  | [.one (.int .i64 a0),.one (.int .i64 a1),.one (.int .i64 a2)]=>.tot [.one (.bool (s81 a0 a1 a2))]
  | _=>.no
theorem zGx:zas Tryd.prog 81:=⟨_,rfl,rfl,by kernel_rfl⟩
theorem zIF:Ok Tryd.prog 81 ztD:=zbm zI6 zGx λ args K h=>by
  unfold ztD at h
  split at h
  · rename_i a0 a1 a2
    have hk:=h
    exact⟨(λ _ _=>[]),(λ _=>false),zGw,q81 a0 a1 a2 K hk⟩
  · exact h.elim
abbrev T78:Tabs:=(Tabs.nil.addF 81 ztD)
theorem zI7:TabsOk Tryd.prog T78:=(TabsOk.nil.addF zIF)
abbrev G78:Ctrs:=csm T78 (λ _ _=>[]) (λ _=>false)
def zCr:Ann:=⟨55,[(0,zK [1,2] [2]),(1,zK [1,2,5] [2]),(2,zK [1,2,5,6] [2]),(3,zK [4] [])],
 [],
 [(2,zK [1,2,5] [2]),(3,zK [1,2,5,6] [2])],
 [],[]⟩
abbrev R78:=Bool
abbrev e78 (r:R78):List PA:=[.one (.bool r)]
@[irreducible] def z78:=ptF Tryd.prog G78 zCr Tryd.f78
section
variable {K:List PA->Prop}{t:Tie}{nodes:Int}{zmr:Bool}{zst:Bool}
def zkl (t:Tie) (nodes:Int) (zmr:Bool) (zst:Bool):Bool :=
  (cond (s81 t.From (0:Int) (w64 (nodes - (1:Int))))
 (cond (s81 t.To (0:Int) (w64 (nodes - (1:Int))))
 (cond (t.From != t.To)
 (cond zmr
 (cond zst
 (decide (t.Low≤t.High))
 false)
 false)
 false)
 false)
 false)
theorem zvC (hk:K (e78 (zkl t nodes zmr zst))):z78 K [1,1,1] [] ⟨[(1,zI nodes),(2,zp 2 0),(5,zB zmr),(6,zB zst)],[(2,.box 40 (zm (enc_40 t)))],[]⟩:=zaX (by kernel_rfl) (zt hk (λ hk=>(zt hk (λ hk=>(zt hk (λ hk=>(zt hk (λ hk=>(zt hk (λ hk=>hk) (λ hk=>hk))) (λ hk=>hk))) (λ hk=>hk))) (λ hk=>hk))) (λ hk=>hk))
def zkm (t:Tie) (nodes:Int) (zmr:Bool):Bool :=
  (cond (t.High == (1000000000000:Int))
 (zkl t nodes zmr true)
 (zkl t nodes zmr (s81 t.High (-1000000000:Int) (1000000000:Int))))
theorem zvD (hk:K (e78 (zkm t nodes zmr))):z78 K [1,1] [] ⟨[(1,zI nodes),(2,zp 2 0),(5,zB zmr)],[(2,.box 40 (zm (enc_40 t)))],[]⟩:=zaX (by kernel_rfl) (zt hk (λ hk=>(zvC hk)) (λ hk=>(zvC hk)))
def s78 (t:Tie) (nodes:Int):Bool :=
  (cond (t.Low == (-1000000000000:Int))
 (zkm t nodes true)
 (zkm t nodes (s81 t.Low (-1000000000:Int) (1000000000:Int))))
end
theorem q78 (t:Tie) (nodes:Int) (K:List PA->Prop) (hk:K (e78 (s78 t nodes))):vcFun Tryd.prog G78 zCr 78 [.agg (enc_40 t),.one (.int .i64 nodes)] K :=
  zaX (by kernel_rfl) (zt hk (λ hk=>(zvD hk)) (λ hk=>(zvD hk)))
def zCs : List PA → COut
  | [.agg [.int .i64 zfh,.int .i64 zoo,.int .i64 ziJ,.int .i64 zfi],.one (.int .i64 a1)]=>.tot [.one (.bool (s78 (⟨zfh,zoo,ziJ,zfi⟩:Tie) a1))]
  | _=>.no
theorem zGy:zas Tryd.prog 78:=⟨_,rfl,rfl,by kernel_rfl⟩
theorem zKV:Ok Tryd.prog 78 zCs:=zbm zI7 zGy λ args K h=>by
  unfold zCs at h
  split at h
  · rename_i zfh zoo ziJ zfi a1
    have hk:=h
    exact⟨(λ _ _=>[]),(λ _=>false),zCr,q78 (⟨zfh,zoo,ziJ,zfi⟩:Tie) a1 K hk⟩
  · exact h.elim
abbrev T67:Tabs:=((Tabs.nil.addF 78 zCs).addF 81 ztD)
theorem zI8:TabsOk Tryd.prog T67:=((TabsOk.nil.addF zKV).addF zIF)
abbrev G67:Ctrs:=csm T67 (λ _ _=>[]) (λ _=>false)
def zzN:Ann:=⟨27,[(0,zK [1] [1]),(1,zK [1,6,7,8] [1]),(2,zK [1,6,7,8,9] [1]),(3,zK [1,4,6,7,8] [1,4]),(4,zK [1,6,7,8,16] [1]),(5,zK [2] []),(6,zK [1,6,7,8] [1]),(7,zK [2] [])],
 [(2,zK [1,6,7,8] [1])],
 [(5,zK [1,6,7,8,16] [1])],
 [],[]⟩
abbrev R67:=Bool
abbrev e67 (r:R67):List PA:=[.one (.bool r)]
@[irreducible] def z67:=ptF Tryd.prog G67 zzN Tryd.f67
def zAX (n:Net) (zdj:Int):St:=⟨[(1,zp 1 0),(6,zS enc_40 4 n.Ties),(7,zI (n.Ties.len:Int)),(8,zI zdj)],[(1,.box 24 (zm (enc_24 n)))],[]⟩
abbrev zCt (K:List PA->Prop) (n:Net) (X:St->Prop) (P:Int->Bool) (S:Int->Bool):Prop:=∀ ⦃zdj:Int⦄,P zdj=true->K (e67 (S zdj))->X (zAX n zdj)
section
variable {K:List PA->Prop}{n:Net}{zdj:Int}{X0:St->Prop}{P0:Int->Bool}{S0:Int->Bool}{zCu:Int}{zpA:Bool}
def zpB (S0:Int->Bool) (n:Net) (zCu:Int) (zpA:Bool):Bool :=
  (cond zpA
 false
 (S0 (w64 (zCu+(1:Int)))))
def zpC (P0:Int->Bool) (n:Net) (zCu:Int) (zpA:Bool):Bool :=
  (cond zpA
 true
 (P0 (w64 (zCu+(1:Int)))))
theorem zCv (hX0:zCt K n X0 P0 S0) (hs:zpC P0 n zCu zpA=true) (hk:K (e67 (zpB S0 n zCu zpA))):z67 K [1,0,1,0,0,1,1,0,0,1,1] [X0] ⟨[(1,zp 1 0),(6,zS enc_40 4 n.Ties),(7,zI (n.Ties.len:Int)),(8,zI zCu),(16,zB zpA)],[(1,.box 24 (zm (enc_24 n)))],[]⟩:=zaX (by kernel_rfl) (zc hs hk (λ hs hk=>hk) (λ hs hk=>(hX0 hs hk)))
def zhD (n:Net) (S0:Int->Bool) (zdj:Int):Bool :=
  (cond (decide (zdj < (n.Ties.len : Int)))
 (zpB S0 n zdj (!(s78 (n.Ties.get zdj.toNat) n.Nodes)))
 (cond (s81 n.Nodes (1:Int) (40:Int))
 (decide ((n.Ties.len:Int)≤(200:Int)))
 false))
def zhE (n:Net) (P0:Int->Bool) (zdj:Int):Bool :=
  (cond (decide (zdj < (n.Ties.len : Int)))
 (decide ((0≤zdj/\zdj < (n.Ties.len:Int))) &&
 (zpC P0 n zdj (!(s78 (n.Ties.get zdj.toNat) n.Nodes))))
 true)
def zhF (n:Net):Nat->Int->Bool:=lpO (λ _=>default) (zhD n)
def zhG (n:Net):Nat->Int->Bool:=lpO (λ _=>false) (zhE n)
def zvE (n:Net) (zdj:Int):Bool:=zhF n Fuel zdj
def zvF (n:Net) (zdj:Int):Bool:=zhG n Fuel zdj
theorem zCw (hs:zvF n zdj=true) (hk:K (e67 (zvE n zdj))):z67 K [1,0,1,0] [] (zAX n zdj) :=
  zl (λ X=>z67 K [1,0,1,0,0] [X]) (by kernel_rfl) λ X0 hX =>
  (show ∀ k, zCt K n X0 (zhG n k) (zhF n k) from zfW _ _ (zhE n) (zhD n) (zCt K n X0)
 (by intro _ hs;exact absurd hs Bool.false_ne_true)
 (by intro P0 S0 hX0 zdj hs hk;exact hX _ (zaX (by kernel_rfl) (zc hs hk (λ hs hk=>(zaQ hs λ hc hs=>And.intro hc (zCv hX0 hs hk))) (λ hs hk=>(zt hk (λ hk=>hk) (λ hk=>hk))))))) _ hs hk
def s67 (n:Net):Bool :=
  (zvE n (0:Int))
def p67 (n:Net):Bool :=
  (zvF n (0:Int))
end
theorem q67 (n:Net) (K:List PA->Prop) (hs:p67 n=true) (hk:K (e67 (s67 n))):vcFun Tryd.prog G67 zzN 67 [.agg (enc_24 n)] K :=
  zaX (by kernel_rfl) (zCw hs hk)
def ztE : List PA → COut
  | [.agg [.int .i64 zah,.sl zae zaz zad]]=>.det (IsE enc_40 4 zaz zad/\p67 (⟨zah,(⟨zae,zal zad⟩:(Sl Tie))⟩:Net)=true) [.one (.bool (s67 (⟨zah,(⟨zae,zal zad⟩:(Sl Tie))⟩:Net)))]
  | [.agg [.int .i64 zah,.nils]]=>.det (p67 (⟨zah,(⟨0,λ _=>default⟩:(Sl Tie))⟩:Net)=true) [.one (.bool (s67 (⟨zah,(⟨0,λ _=>default⟩:(Sl Tie))⟩:Net)))]
  | _=>.no
theorem zGz:zas Tryd.prog 67:=⟨_,rfl,rfl,by kernel_rfl⟩
theorem zIG:Ok Tryd.prog 67 ztE:=zhC zI8 zGz λ args K h=>by
  unfold ztE at h
  split at h
  · rename_i zah zae zaz zad
    obtain⟨⟨⟨rfl,zar,rfl⟩,hs⟩,hk⟩:=h
    try rw[zak zar] at hs
    try rw[zak zar] at hk
    exact⟨_,zff zgm _,(λ _ _=>[]),(λ _=>false),zzN,q67 (⟨zah,(⟨zae,zar⟩:(Sl Tie))⟩:Net) (Wk K) hs (zgn hk)⟩
  · rename_i zah
    obtain⟨hs,hk⟩:=h
    exact⟨_,(zhp (.agg (zhp (.rfl _) (zhp (.nil _ _) znx))) znx),(λ _ _=>[]),(λ _=>false),zzN,q67 (⟨zah,(⟨0,λ _=>default⟩:(Sl Tie))⟩:Net) (Wk K) hs (zgn hk)⟩
  · exact h.elim
abbrev T93:Tabs:=Tabs.nil
theorem zI9:TabsOk Tryd.prog T93:=TabsOk.nil
abbrev G93:Ctrs:=csm T93 (λ _ _=>[]) (λ _=>false)
def zCx:Ann:=⟨4,[(0,zK [1] [1]),(1,zK [2] [])],
 [],
 [],
 [],[]⟩
theorem zCy (w : web) (K : List PA → Prop) :
  vcFun Tryd.prog G93 zCx 93 [.one (.fp (zaC w) 0)] K =
  (K [.one (.fn 110 [] [.fp [.fp (zaC w) 0] 0])]):=by kernel_rfl
theorem q93 (w:web) (K:List PA->Prop) (hk:K [.one (.fn 110 [] [.fp [.fp (zaC w) 0] 0])]):vcFun Tryd.prog G93 zCx 93 [.one (.fp (zaC w) 0)] K:=zaX (zCy w K) hk
def zop : List PA → COut
  | [.one (.fp [.int .i64 zan,.sl zai zaF zaj,.fm zbn zaH zaI] 0)]=>.det (IsE enc_40 4 zaF zaj/\zbn=(false,1,false,[none])) [.one (.fn 110 [] [.fp [.fp (zaC (⟨(⟨(⟨zan,(⟨zai,zal zaj⟩:(Sl Tie))⟩:Net),(⟨zaH,zaI⟩:Mp)⟩:web).Net,((⟨(⟨zan,(⟨zai,zal zaj⟩:(Sl Tie))⟩:Net),(⟨zaH,zaI⟩:Mp)⟩:web).out)⟩:web)) 0] 0])]
  | _=>.no
theorem zGA:zas Tryd.prog 93:=⟨_,rfl,rfl,by kernel_rfl⟩
theorem zFE:Ok Tryd.prog 93 zop:=zbm zI9 zGA λ args K h=>by
  unfold zop at h
  split at h
  · rename_i zan zai zaF zaj zbn zaH zaI
    obtain⟨⟨⟨rfl,zay,rfl⟩,rfl⟩,hk⟩:=h
    try rw[zak zay] at hk
    exact⟨λ _ _=>[],λ _=>false,zCx,q93 (⟨(⟨zan,(⟨zai,zay⟩:(Sl Tie))⟩:Net),(⟨zaH,zaI⟩:Mp)⟩:web) K hk⟩
  · exact h.elim
abbrev T94:Tabs:=Tabs.nil
theorem zJa:TabsOk Tryd.prog T94:=TabsOk.nil
abbrev G94:Ctrs:=csm T94 (λ _ _=>[]) (λ _=>false)
def zGB:Ann:=⟨21,[(0,zK [1,2] [1,2]),(1,zK [2,3] [2])],
 [],
 [],
 [],[]⟩
abbrev R94:=(step×Bool)
abbrev e94 (r:R94):List PA:=[.agg [.int .i64 r.1.Use.Tie,.bool r.1.Use.Back,.int .i64 r.1.from_,.int .i64 r.1.to,.int .i64 r.1.length],.one (.bool r.2)]
section
variable {K:List PA->Prop}{t:tie}
def s94 (t:tie):(step×Bool) :=
  ((⟨(⟨t.index,false⟩:Use),t.Tie.From,t.Tie.To,t.Tie.High⟩:step),(t.Tie.High != (1000000000000:Int)))
end
theorem q94 (t:tie) (K:List PA->Prop) (hk:K (e94 (s94 t))):vcFun Tryd.prog G94 zGB 94 [.agg (zpz t)] K :=
  zaX (by kernel_rfl) hk
def zzO : List PA → COut
  | [.agg [.int .i64 za4,.int .i64 zbx,.int .i64 zbi,.int .i64 za5,.int .i64 zbI]]=>.tot [.agg [.int .i64 (((s94 (⟨(⟨za4,zbx,zbi,za5⟩:Tie),zbI⟩:tie)).1).Use.Tie),.bool (((s94 (⟨(⟨za4,zbx,zbi,za5⟩:Tie),zbI⟩:tie)).1).Use.Back),.int .i64 (((s94 (⟨(⟨za4,zbx,zbi,za5⟩:Tie),zbI⟩:tie)).1).from_),.int .i64 (((s94 (⟨(⟨za4,zbx,zbi,za5⟩:Tie),zbI⟩:tie)).1).to),.int .i64 (((s94 (⟨(⟨za4,zbx,zbi,za5⟩:Tie),zbI⟩:tie)).1).length)],.one (.bool ((s94 (⟨(⟨za4,zbx,zbi,za5⟩:Tie),zbI⟩:tie)).2))]
  | _=>.no
theorem zGC:zas Tryd.prog 94:=⟨_,rfl,rfl,by kernel_rfl⟩
theorem zKs:Ok Tryd.prog 94 zzO:=zbm zJa zGC λ args K h=>by
  unfold zzO at h
  split at h
  · rename_i za4 zbx zbi za5 zbI
    have hk:=h
    exact⟨(λ _ _=>[]),(λ _=>false),zGB,q94 (⟨(⟨za4,zbx,zbi,za5⟩:Tie),zbI⟩:tie) K hk⟩
  · exact h.elim
abbrev T95:Tabs:=Tabs.nil
theorem zJb:TabsOk Tryd.prog T95:=TabsOk.nil
abbrev G95:Ctrs:=csm T95 (λ _ _=>[]) (λ _=>false)
def zGD:Ann:=⟨22,[(0,zK [1,2] [1,2]),(1,zK [2,3] [2])],
 [],
 [],
 [],[]⟩
abbrev R95:=(step×Bool)
abbrev e95 (r:R95):List PA:=[.agg [.int .i64 r.1.Use.Tie,.bool r.1.Use.Back,.int .i64 r.1.from_,.int .i64 r.1.to,.int .i64 r.1.length],.one (.bool r.2)]
section
variable {K:List PA->Prop}{t:tie}
def s95 (t:tie):(step×Bool) :=
  ((⟨(⟨t.index,true⟩:Use),t.Tie.To,t.Tie.From,(w64 (0 - t.Tie.Low))⟩:step),(t.Tie.Low != (-1000000000000:Int)))
end
theorem q95 (t:tie) (K:List PA->Prop) (hk:K (e95 (s95 t))):vcFun Tryd.prog G95 zGD 95 [.agg (zpz t)] K :=
  zaX (by kernel_rfl) hk
def zzP : List PA → COut
  | [.agg [.int .i64 za4,.int .i64 zbx,.int .i64 zbi,.int .i64 za5,.int .i64 zbI]]=>.tot [.agg [.int .i64 (((s95 (⟨(⟨za4,zbx,zbi,za5⟩:Tie),zbI⟩:tie)).1).Use.Tie),.bool (((s95 (⟨(⟨za4,zbx,zbi,za5⟩:Tie),zbI⟩:tie)).1).Use.Back),.int .i64 (((s95 (⟨(⟨za4,zbx,zbi,za5⟩:Tie),zbI⟩:tie)).1).from_),.int .i64 (((s95 (⟨(⟨za4,zbx,zbi,za5⟩:Tie),zbI⟩:tie)).1).to),.int .i64 (((s95 (⟨(⟨za4,zbx,zbi,za5⟩:Tie),zbI⟩:tie)).1).length)],.one (.bool ((s95 (⟨(⟨za4,zbx,zbi,za5⟩:Tie),zbI⟩:tie)).2))]
  | _=>.no
theorem zGE:zas Tryd.prog 95:=⟨_,rfl,rfl,by kernel_rfl⟩
theorem zKt:Ok Tryd.prog 95 zzP:=zbm zJb zGE λ args K h=>by
  unfold zzP at h
  split at h
  · rename_i za4 zbx zbi za5 zbI
    have hk:=h
    exact⟨(λ _ _=>[]),(λ _=>false),zGD,q95 (⟨(⟨za4,zbx,zbi,za5⟩:Tie),zbI⟩:tie) K hk⟩
  · exact h.elim
abbrev zKu:Tabs:=((Tabs.nil.addF 94 zzO).addF 95 zzP)
theorem zGF:TabsOk Tryd.prog zKu:=((TabsOk.nil.addF zKs).addF zKt)
abbrev zGG:Ctrs:=csm zKu (λ _ _=>[]) (λ _=>false)
def ziK:Ann:=⟨52,[(0,zK [0,1,14,15,16] []),(1,zK [0,1,14,15,16,17] []),(2,zK [0,1,3,4,14,15,16] [4]),(3,zK [0,1,3,4,14,15,16,26] [4]),(4,zK [0,1,5,14,15,16] [5]),(5,zK [0,1,14,15,16,34,35] []),(6,zK [0,1,14,15,16,34,35,36] []),(7,zK [0,1,7,14,15,16,34,35] []),(8,zK [0,1,8,9,14,15,16,34,35] [8]),(9,zK [0,1,14,15,16,34,35,49] []),(10,zK [0,1,14,15,16,34,35] []),(11,zK [0,1,14,15,16] [])],
 [(1,zK [0,1,14,15,16] [])],
 [],
 [(6,3,zK [0,1,14,15,16,34,35] [])],[9]⟩
def zdH (l:Nat) (a:web) (zaE:Int):St:=⟨[(0,.one (.c (.p (.yl l)))),(1,.one (.c (.p (.fp [.fp (zaC a) 0] 0)))),(14,.one (.c (.p (.sl a.Net.Ties.len 4 (λ i=>enc_40 (a.Net.Ties.get i)))))),(15,.one (.c (.p (.int .i64 (a.Net.Ties.len:Int))))),(16,.one (.c (.p (.int .i64 zaE))))],[],[]⟩
def zhb (l:Nat) (ys:List (List PA)) (a:web) (zaE:Int):Prop:=vcY Tryd.prog zGG ziK l (cdF Tryd.f110 [1,0]) (znC 0 zyZ) ys false (zdH l a zaE)
theorem zzQ (l : Nat) (a : web) (ys : List (List PA)) :
  vcIter Tryd.prog zGG ziK 110 l [.one (.fp [.fp (zaC a) 0] 0)] ys =
  (zhb l ys a (0:Int)):=by kernel_rfl
def zlA (l:Nat) (X0:List (List PA)->Bool->St->Prop) (ys:List (List PA)) (a:web) (zaE:Int):Prop :=
  (zdd (decide (zaE < (a.Net.Ties.len : Int)))
 (((0≤zaE/\zaE < (a.Net.Ties.len:Int))) /\
 (zdd ((zs7 (a.out.F [zaE]) 0) != 0)
 (X0 ys false (zdH l a (w64 (zaE+(1:Int)))))
 (zdd ((s94 (⟨(a.Net.Ties.get zaE.toNat), zaE⟩ : tie)).2)
 (l=l/\∃ r1,ys=[.agg [.int .i64 (((s94 (⟨(a.Net.Ties.get zaE.toNat),zaE⟩:tie)).1).Use.Tie),.bool (((s94 (⟨(a.Net.Ties.get zaE.toNat),zaE⟩:tie)).1).Use.Back),.int .i64 (((s94 (⟨(a.Net.Ties.get zaE.toNat),zaE⟩:tie)).1).from_),.int .i64 (((s94 (⟨(a.Net.Ties.get zaE.toNat),zaE⟩:tie)).1).to),.int .i64 (((s94 (⟨(a.Net.Ties.get zaE.toNat),zaE⟩:tie)).1).length)]] :: r1 /\
 (zdd ((s95 (⟨(a.Net.Ties.get zaE.toNat), zaE⟩ : tie)).2)
 (l=l/\∃ r2,r1=[.agg [.int .i64 (((s95 (⟨(a.Net.Ties.get zaE.toNat),zaE⟩:tie)).1).Use.Tie),.bool (((s95 (⟨(a.Net.Ties.get zaE.toNat),zaE⟩:tie)).1).Use.Back),.int .i64 (((s95 (⟨(a.Net.Ties.get zaE.toNat),zaE⟩:tie)).1).from_),.int .i64 (((s95 (⟨(a.Net.Ties.get zaE.toNat),zaE⟩:tie)).1).to),.int .i64 (((s95 (⟨(a.Net.Ties.get zaE.toNat),zaE⟩:tie)).1).length)]] :: r2 /\
 (X0 r2 false (zdH l a (w64 (zaE+(1:Int)))))/\True)
 (X0 r1 false (zdH l a (w64 (zaE+(1:Int))))))/\True)
 (zdd ((s95 (⟨(a.Net.Ties.get zaE.toNat), zaE⟩ : tie)).2)
 (l=l/\∃ r3,ys=[.agg [.int .i64 (((s95 (⟨(a.Net.Ties.get zaE.toNat),zaE⟩:tie)).1).Use.Tie),.bool (((s95 (⟨(a.Net.Ties.get zaE.toNat),zaE⟩:tie)).1).Use.Back),.int .i64 (((s95 (⟨(a.Net.Ties.get zaE.toNat),zaE⟩:tie)).1).from_),.int .i64 (((s95 (⟨(a.Net.Ties.get zaE.toNat),zaE⟩:tie)).1).to),.int .i64 (((s95 (⟨(a.Net.Ties.get zaE.toNat),zaE⟩:tie)).1).length)]] :: r3 /\
 (X0 r3 false (zdH l a (w64 (zaE+(1:Int)))))/\True)
 (X0 ys false (zdH l a (w64 (zaE+(1:Int)))))))))
 (ys=[]))
theorem zoq (l : Nat) (X0 : List (List PA) → Bool → St → Prop) (ys : List (List PA)) (a : web) (zaE : Int) :
  vcY Tryd.prog zGG ziK l (cd (cdF Tryd.f110 [1,0]) [0]) (zyX Tryd.prog ziK 1 X0 (znC 0 zyZ)) ys false (zdH l a zaE) =
  zlA l X0 ys a zaE:=by kernel_rfl
theorem ztF (l : Nat) (ys : List (List PA)) (a : web) (zaE : Int)
  (h:∀ X0:List (List PA)->Bool->St->Prop,(∀ (ys:List (List PA)) (zaE:Int),zlA l X0 ys a zaE->X0 ys false (zdH l a zaE))->X0 ys false (zdH l a zaE)) :
  zhb l ys a zaE:=by
  have e:zhb l ys a zaE=(∀ X:List (List PA)->Bool->St->Prop,(∀ ys q s,vcY Tryd.prog zGG ziK l (cd (cdF Tryd.f110 [1,0]) [0]) (zyX Tryd.prog ziK 1 X (znC 0 zyZ)) ys q s->X ys q s)->X ys false (zdH l a zaE)):=by kernel_rfl
  refine zaX e ?_
  intro X hX
  refine h X ?_
  intro ys zaE hs
  refine hX _ _ _ ?_
  have e2:=zoq l X ys a zaE
  rw[e2]
  exact hs
attribute [irreducible] zhb
def zeM (a:web) (S0:Int->List step) (zaE:Int):List step :=
  (cond (decide (zaE < (a.Net.Ties.len : Int)))
 (cond ((zs7 (a.out.F [zaE]) 0) != 0)
 (S0 (w64 (zaE+(1:Int))))
 (cond ((s94 (⟨(a.Net.Ties.get zaE.toNat), zaE⟩ : tie)).2)
 (((s94 (⟨(a.Net.Ties.get zaE.toNat), zaE⟩ : tie)).1) :: (cond ((s95 (⟨(a.Net.Ties.get zaE.toNat), zaE⟩ : tie)).2)
 (((s95 (⟨(a.Net.Ties.get zaE.toNat),zaE⟩:tie)).1) :: (S0 (w64 (zaE+(1:Int)))))
 (S0 (w64 (zaE+(1:Int))))))
 (cond ((s95 (⟨(a.Net.Ties.get zaE.toNat), zaE⟩ : tie)).2)
 (((s95 (⟨(a.Net.Ties.get zaE.toNat),zaE⟩:tie)).1) :: (S0 (w64 (zaE+(1:Int)))))
 (S0 (w64 (zaE+(1:Int)))))))
 [])
def zeN (a:web) (P0:Int->Bool) (zaE:Int):Bool :=
  (cond (decide (zaE < (a.Net.Ties.len : Int)))
 (decide ((0≤zaE/\zaE < (a.Net.Ties.len:Int))) &&
 (cond ((zs7 (a.out.F [zaE]) 0) != 0)
 (P0 (w64 (zaE+(1:Int))))
 (cond ((s94 (⟨(a.Net.Ties.get zaE.toNat), zaE⟩ : tie)).2)
 (cond ((s95 (⟨(a.Net.Ties.get zaE.toNat), zaE⟩ : tie)).2)
 (P0 (w64 (zaE+(1:Int))))
 (P0 (w64 (zaE+(1:Int)))))
 (cond ((s95 (⟨(a.Net.Ties.get zaE.toNat), zaE⟩ : tie)).2)
 (P0 (w64 (zaE+(1:Int))))
 (P0 (w64 (zaE+(1:Int))))))))
 true)
def zd4 (a : web) : Nat → Int → List step
  | 0=>λ _=>[]
  | k+1=>zeM a (zd4 a k)
def zd5 (a : web) : Nat → Int → Bool
  | 0=>λ _=>false
  | k+1=>zeN a (zd5 a k)
def zsu (a:web) (zaE:Int):List step:=zd4 a Fuel zaE
def zsv (a:web) (zaE:Int):Bool:=zd5 a Fuel zaE
theorem zzR (l:Nat) (a:web) (ys:List (List PA)) (zaE:Int) (hs:zsv a zaE=true) (hk:ys=(zsu a zaE).map (λ y=>[.agg (zaA y)])):zhb l ys a zaE:=by
  refine ztF l ys a zaE ?_
  intro X0 hstep
  have key:∀ (k:Nat) (ys:List (List PA)) (zaE:Int),zd5 a k zaE=true->ys=(zd4 a k zaE).map (λ y=>[.agg (zaA y)])->X0 ys false (zdH l a zaE):=by
    intro k
    induction k with
    | zero=>intro ys zaE hs;exact absurd hs Bool.false_ne_true
    | succ k ih =>
      intro ys zaE hs hk
      refine hstep ys zaE ?_
      have hs:zeN a (zd5 a k) zaE=true:=hs
      have hk:ys=(zeM a (zd4 a k) zaE).map (λ y=>[.agg (zaA y)]):=hk
      unfold zeN at hs
      unfold zeM at hk
      generalize zd4 a k=S0 at hk ih
      generalize zd5 a k=P0 at hs ih
      have hX0:=ih
      exact (zg9 hs hk
 (λ hs hk => (zaQ hs λ hc hs => ⟨hc, (zg9 hs hk
 (λ hs hk=>(hX0 _ (w64 (zaE+(1:Int))) hs hk))
 (λ hs hk => (zg9 hs hk
 (λ hs hk => (itY hk rfl (λ _ hk => (zg9 hs hk
 (λ hs hk=>(itY hk rfl (λ _ hk=>(hX0 _ (w64 (zaE+(1:Int))) hs hk))))
 (λ hs hk=>(hX0 _ (w64 (zaE+(1:Int))) hs hk))))))
 (λ hs hk => (zg9 hs hk
 (λ hs hk=>(itY hk rfl (λ _ hk=>(hX0 _ (w64 (zaE+(1:Int))) hs hk))))
 (λ hs hk=>(hX0 _ (w64 (zaE+(1:Int))) hs hk)))))))⟩))
 (fun hs hk=>hk))
  exact key _ _ zaE hs hk
def zkn (a:web):List step :=
  (zsu a (0:Int))
def ztU (a:web):Bool :=
  (zsv a (0:Int))
theorem zKW (l:Nat) (a:web) (ys:List (List PA)) (hs:ztU a=true) (hk:ys=(zkn a).map (λ y=>[.agg (zaA y)])):vcIter Tryd.prog zGG ziK 110 l [.one (.fp [.fp (zaC a) 0] 0)] ys:=by
  refine zaX (zzQ l a ys) ?_
  unfold ztU at hs
  unfold zkn at hk
  exact (zzR l a _ (0:Int) hs hk)
def zor : List PA → Option (Prop × List (List PA))
  | [.one (.fp [.fp [.int .i64 a_Net_Nodes,.sl a_Net_Ties_n a_Net_Ties_s a_Net_Ties_g,.fm a_out_q a_out_n a_out_F] 0] 0)]=>some (IsE enc_40 4 a_Net_Ties_s a_Net_Ties_g/\a_out_q=(false,1,false,[none])/\ztU (⟨(⟨a_Net_Nodes,(⟨a_Net_Ties_n,zal a_Net_Ties_g⟩:(Sl Tie))⟩:Net),(⟨a_out_n,a_out_F⟩:Mp)⟩:web)=true,(zkn (⟨(⟨a_Net_Nodes,(⟨a_Net_Ties_n,zal a_Net_Ties_g⟩:(Sl Tie))⟩:Net),(⟨a_out_n,a_out_F⟩:Mp)⟩:web)).map λ y=>[.agg (zaA y)])
  | _=>none
theorem zCz:zas Tryd.prog 110:=⟨_,rfl,rfl,by kernel_rfl⟩
theorem ztG:zAG Tryd.prog 110 zor:=zGj zGF zCz λ l caps safe ys h hs=>by
  unfold zor at h
  split at h
  · rename_i a_Net_Nodes a_Net_Ties_n a_Net_Ties_s a_Net_Ties_g a_out_q a_out_n a_out_F
    cases h
    obtain⟨⟨rfl,a_Net_Ties_f,rfl⟩,rfl,hs⟩:=hs
    try rw[zak a_Net_Ties_f] at hs
    try rw[zak a_Net_Ties_f]
    exact⟨λ _ _=>[],λ _=>false,ziK,zKW l (⟨(⟨a_Net_Nodes,(⟨a_Net_Ties_n,a_Net_Ties_f⟩:(Sl Tie))⟩:Net),(⟨a_out_n,a_out_F⟩:Mp)⟩:web) _ hs rfl⟩
  · cases h
abbrev T88:Tabs:=((Tabs.nil.addF 93 zop).addI 110 zor)
theorem zJc:TabsOk Tryd.prog T88:=((TabsOk.nil.addF zFE).addI ztG)
abbrev G88:Ctrs:=csm T88 (λ _ _=>[]) (λ _=>false)
def zvG:Ann:=⟨37,[(0,zK [0] []),(1,zK [0,3] [3]),(2,zK [0,3,11,12] [3]),(3,zK [0,3,11,12,13] [3]),(4,zK [0,3,4,11,12] [3,4]),(5,zK [0,3,4,11,12,15] [3,4]),(6,zK [0,3,4,5,11,12,15] [3,4,5]),(7,zK [0,3,4,5,6,11,12,15] [3,4,5]),(8,zK [0,3,4,5,6,11,12,15,29] [3,4,5]),(9,zK [0,3,4,11,12,15] [3,4]),(10,zK [0,3,4,11,12,15] [3,4]),(11,zK [0,3,11,12,35] [3]),(12,zK [2] []),(13,zK [0,3,11,12] [3]),(14,zK [2] [])],
 [(3,zK [0,3,11,12] [3]),(6,zK [0,3,4,11,12,15] [3,4])],
 [],
 [],[]⟩
abbrev R88:=Bool
abbrev e88 (r:R88):List PA:=[.one (.bool r)]
@[irreducible] def z88:=ptF Tryd.prog G88 zvG Tryd.f88
@[irreducible] def x88:=exF Tryd.prog G88 zvG Tryd.f88
@[irreducible] def y88:=rnF Tryd.prog G88 zvG Tryd.f88
def zAY (w:web) (zbS:Int) (dt0:Tab):St:=⟨[(0,zP (.fp (zaC w) 0)),(3,zp 3 0),(11,zI w.Net.Nodes),(12,zI zbS)],[(3,.box 157 (zm (zvB dt0)))],[]⟩
abbrev zCA (K:List PA->Prop) (w:web) (X:St->Prop) (P:Int->Tab->Bool) (S:Int->Tab->Bool):Prop:=∀ ⦃zbS:Int⦄ ⦃dt0:Tab⦄,P zbS dt0=true->K (e88 (S zbS dt0))->X (zAY w zbS dt0)
def zvH (w:web) (zbT:Int) (za2:Bool) (dt1:Tab):St:=⟨[(0,zP (.fp (zaC w) 0)),(3,zp 3 0),(4,zp 4 0),(11,zI w.Net.Nodes),(12,zI zbT),(15,zP (.fn 110 [] [.fp [.fp (zaC w) 0] 0]))],[(3,.box 157 (zm (zvB dt1))),(4,.box 4 [.p (.bool za2)])],[]⟩
abbrev zGH (K:List PA->Prop) (w:web) (X:St->Prop) (P:Int->Bool->Tab->Bool) (S:Int->Bool->Tab->Bool):Prop:=∀ ⦃zbT:Int⦄ ⦃za2:Bool⦄ ⦃dt1:Tab⦄,P zbT za2 dt1=true->K (e88 (S zbT za2 dt1))->X (zvH w zbT za2 dt1)
section
variable {K:List PA->Prop}{w:web}{zbS:Int}{dt0:Tab}{X0:St->Prop}{P0:Int->Tab->Bool}{S0:Int->Tab->Bool}{zbT:Int}{za2:Bool}{dt1:Tab}
def zms (S0:Int->Tab->Bool) (w:web) (zbT:Int) (za2:Bool) (dt1:Tab):Bool :=
  (cond (!za2)
 false
 (S0 (w64 (zbT+(1:Int))) dt1))
def zmt (P0:Int->Tab->Bool) (w:web) (zbT:Int) (za2:Bool) (dt1:Tab):Bool :=
  (cond (!za2)
 true
 (P0 (w64 (zbT+(1:Int))) dt1))
def zmu (S0:Int->Tab->Bool) (w:web) (y1:step) (S1:Int->Bool->Tab->Bool) (zbT:Int) (za2:Bool) (dt1:Tab):Bool :=
  (cond (decide ((w64 ((tg 40 dt1 (0 + y1.from_.toNat * 1 + 0)) + y1.length)) < (tg 40 dt1 (0 + y1.to.toNat * 1 + 0))))
 (S1 zbT true (ts 40 dt1 (0+y1.to.toNat * 1+0) [(w64 ((tg 40 dt1 (0+y1.from_.toNat * 1+0))+y1.length))]))
 (S1 zbT za2 dt1))
def zmv (P0:Int->Tab->Bool) (w:web) (y1:step) (P1:Int->Bool->Tab->Bool) (zbT:Int) (za2:Bool) (dt1:Tab):Bool :=
  (decide ((0≤y1.from_/\y1.from_ < (40:Int))) &&
 (decide ((0≤y1.to/\y1.to < (40:Int))) &&
 (cond (decide ((w64 ((tg 40 dt1 (0 + y1.from_.toNat * 1 + 0)) + y1.length)) < (tg 40 dt1 (0 + y1.to.toNat * 1 + 0))))
 (decide ((0≤y1.to/\y1.to < (40:Int))) &&
 (P1 zbT true (ts 40 dt1 (0+y1.to.toNat * 1+0) [(w64 ((tg 40 dt1 (0+y1.from_.toNat * 1+0))+y1.length))])))
 (P1 zbT za2 dt1))))
def zfj (S0:Int->Tab->Bool) (w:web):List step->Int->Bool->Tab->Bool:=lpR (zms S0 w) (zmu S0 w)
def zfk (P0:Int->Tab->Bool) (w:web):List step->Int->Bool->Tab->Bool:=lpR (zmt P0 w) (zmv P0 w)
def zpD (S0:Int->Tab->Bool) (w:web) (zbT:Int) (za2:Bool) (dt1:Tab):Bool:=zfj S0 w (zkn w) zbT za2 dt1
def zpE (P0:Int->Tab->Bool) (w:web) (zbT:Int) (za2:Bool) (dt1:Tab):Bool:=decide ((ztU w=true)) && zfk P0 w (zkn w) zbT za2 dt1
theorem zCB (hX0:zCA K w X0 P0 S0) (hs:zpE P0 w zbT za2 dt1=true) (hk:K (e88 (zpD S0 w zbT za2 dt1))):z88 K [1,1,0,1,0,0,1,1,0,0,1,0,1,0] [X0] (zvH w zbT za2 dt1) :=
  zaQ hs λ hc hs=>zr (enc:=(λ y:step=>[.agg (zaA y)])) (ys:=zkn w) (g:=(zvH w zbT za2 dt1)) (x88 K [1,1,0,1,0,0,1,1,0,0,1,0,1,0] [X0]) (y88 K [1,1,0,1,0,0,1,1,0,0,1,0,1,0] [X0]) (by kernel_rfl) (And.intro (zE enc_40 4 w.Net.Ties.get) (And.intro (rfl:((false,1,false,[none]):MQ)=(false,1,false,[none])) hc)) λ X1 hE hR =>
  (show ∀ l : List step, zGH K w (X1 (l.map (λ y : step => [.agg (zaA y)]))) (zfk P0 w l) (zfj S0 w l) from zri (X := X1) (enc := (λ y : step => [.agg (zaA y)])) _ _ (zmv P0 w) (zmu S0 w) (λ Z P S => zGH K w Z P S)
 (by intro zbT za2 dt1 hs hk;exact hE _ (zaX (by kernel_rfl) (zc hs hk (λ hs hk=>hk) (λ hs hk=>(hX0 hs hk)))))
 (by intro y1 rest P1 S1 hX1 zbT za2 dt1 hs hk;exact hR _ rest _ (zaX (by kernel_rfl) (zaQ hs λ hc hs=>And.intro hc (zaQ hs λ hc hs=>And.intro hc (zc hs hk (λ hs hk=>(zaQ hs λ hc hs=>And.intro hc (hX1 hs hk))) (λ hs hk=>(hX1 hs hk)))))))) _ hs hk
def zhH (w:web) (S0:Int->Tab->Bool) (zbS:Int) (dt0:Tab):Bool :=
  (cond (decide (zbS < w.Net.Nodes))
 (zpD S0 w zbS false dt0)
 true)
def zhI (w:web) (P0:Int->Tab->Bool) (zbS:Int) (dt0:Tab):Bool :=
  (cond (decide (zbS < w.Net.Nodes))
 (zpE P0 w zbS false dt0)
 true)
def zhJ (w:web):Nat->Int->Tab->Bool:=lpO (λ _ _=>default) (zhH w)
def zhK (w:web):Nat->Int->Tab->Bool:=lpO (λ _ _=>false) (zhI w)
def zvI (w:web) (zbS:Int) (dt0:Tab):Bool:=zhJ w Fuel zbS dt0
def zvJ (w:web) (zbS:Int) (dt0:Tab):Bool:=zhK w Fuel zbS dt0
theorem zCC (hs:zvJ w zbS dt0=true) (hk:K (e88 (zvI w zbS dt0))):z88 K [1,1,0,1,0] [] (zAY w zbS dt0) :=
  zl (λ X=>z88 K [1,1,0,1,0,0] [X]) (by kernel_rfl) λ X0 hX =>
  (show ∀ k, zCA K w X0 (zhK w k) (zhJ w k) from zfW _ _ (zhI w) (zhH w) (zCA K w X0)
 (by intro _ _ hs;exact absurd hs Bool.false_ne_true)
 (by intro P0 S0 hX0 zbS dt0 hs hk;exact hX _ (zaX (by kernel_rfl) (zc hs hk (λ hs hk=>(And.intro (And.intro (zE enc_40 4 w.Net.Ties.get) (rfl:((false,1,false,[none]):MQ)=(false,1,false,[none]))) (zCB hX0 hs hk))) (λ hs hk=>hk))))) _ hs hk
def s88 (w:web):Bool :=
  (zvI w (0:Int) (λ _=>(0:Int)))
def p88 (w:web):Bool :=
  (zvJ w (0:Int) (λ _=>(0:Int)))
end
theorem q88 (w:web) (K:List PA->Prop) (hs:p88 w=true) (hk:K (e88 (s88 w))):vcFun Tryd.prog G88 zvG 88 [.one (.fp (zaC w) 0)] K :=
  zaX (by kernel_rfl) (zCC hs hk)
def zvK : List PA → COut
  | [.one (.fp [.int .i64 zan,.sl zai zaF zaj,.fm zbn zaH zaI] 0)]=>.det (IsE enc_40 4 zaF zaj/\zbn=(false,1,false,[none])/\p88 (⟨(⟨zan,(⟨zai,zal zaj⟩:(Sl Tie))⟩:Net),(⟨zaH,zaI⟩:Mp)⟩:web)=true) [.one (.bool (s88 (⟨(⟨zan,(⟨zai,zal zaj⟩:(Sl Tie))⟩:Net),(⟨zaH,zaI⟩:Mp)⟩:web)))]
  | _=>.no
theorem zGI:zas Tryd.prog 88:=⟨_,rfl,rfl,by kernel_rfl⟩
theorem zJd:Ok Tryd.prog 88 zvK:=zbm zJc zGI λ args K h=>by
  unfold zvK at h
  split at h
  · rename_i zan zai zaF zaj zbn zaH zaI
    obtain⟨⟨⟨rfl,zay,rfl⟩,rfl,hs⟩,hk⟩:=h
    try rw[zak zay] at hs
    try rw[zak zay] at hk
    exact⟨(λ _ _=>[]),(λ _=>false),zvG,q88 (⟨(⟨zan,(⟨zai,zay⟩:(Sl Tie))⟩:Net),(⟨zaH,zaI⟩:Mp)⟩:web) K hs hk⟩
  · exact h.elim
abbrev T74:Tabs:=(((Tabs.nil.addF 67 ztE).addF 81 ztD).addF 88 zvK)
theorem zJe:TabsOk Tryd.prog T74:=(((TabsOk.nil.addF zIG).addF zIF).addF zJd)
abbrev G74:Ctrs:=csm T74 (λ _ _=>[]) (λ _=>false)
def zzS:Ann:=⟨31,[(0,zK [1,2] [2]),(1,zK [1,2,6] [2,11]),(2,zK [1,2,6,14] [2,11]),(3,zK [4,5] []),(4,zK [2,6,15,16,17] [2,11]),(5,zK [2,6,15,16,17,18] [2,11]),(6,zK [2,6,8,15,16,17] [2,11]),(7,zK [2,6,15,16,17,26] [2,11]),(8,zK [4,5] []),(9,zK [2,6,15,16,17] [2,11]),(10,zK [6,29] [11]),(11,zK [4,5] []),(12,zK [4,5] [11])],
 [(5,zK [2,6,15,16,17] [2,11])],
 [(3,zK [1,2,6,14] [2,11]),(4,zK [1,2,6] [2,11]),(8,zK [2,6,15,16,17,26] [2,11]),(11,zK [6,29] [11])],
 [],[]⟩
abbrev R74:=(web×Int)
abbrev e74 (r:R74):List PA:=cond (r.2 == 0) [.one (.fp (zaC r.1) 0),.one (.int .i64 (0:Int))] [.one (.nilp),.one (.int .i64 r.2)]
@[irreducible] def z74:=ptF Tryd.prog G74 zzS Tryd.f74
def zAZ (n:Net) (nodes:(Sl Int)) (zdq:Int):St:=⟨[(2,zp 2 0),(6,zp 11 0),(15,zS enc_3 1 nodes),(16,zI (nodes.len:Int)),(17,zI zdq)],[(2,.box 24 (zm (enc_24 n))),(11,.box 105 (zm (zaC (⟨n,(⟨0,(λ _=>none)⟩:Mp)⟩:web))))],[]⟩
abbrev zCD (K:List PA->Prop) (n:Net) (nodes:(Sl Int)) (X:St->Prop) (P:Int->Bool) (S:Int->(web×Int)):Prop:=∀ ⦃zdq:Int⦄,P zdq=true->K (e74 (S zdq))->X (zAZ n nodes zdq)
section
variable {K:List PA->Prop}{n:Net}{nodes:(Sl Int)}{zpF:Bool}{zdq:Int}{X2:St->Prop}{P2:Int->Bool}{S2:Int->(web×Int)}{zpG:Int}{zpH:Bool}{zzT:Bool}
def zpI (n:Net) (zzT:Bool):(web×Int) :=
  (cond zzT
 ((default:web),(5:Int))
 ((⟨n,(⟨0,(λ _=>none)⟩:Mp)⟩:web),(0:Int)))
theorem zCE (hk:K (e74 (zpI n zzT))):z74 K [1,1,1,1,0,1] [] ⟨[(6,zp 11 0),(29,zB zzT)],[(11,.box 105 (zm (zaC (⟨n,(⟨0,(λ _=>none)⟩:Mp)⟩:web))))],[]⟩:=zaX (by kernel_rfl) (zt hk (λ hk=>hk) (λ hk=>hk))
def zpJ (S2:Int->(web×Int)) (n:Net) (nodes:(Sl Int)) (zpG:Int) (zpH:Bool):(web×Int) :=
  (cond zpH
 ((default:web),(2:Int))
 (S2 (w64 (zpG+(1:Int)))))
def zpK (P2:Int->Bool) (n:Net) (nodes:(Sl Int)) (zpG:Int) (zpH:Bool):Bool :=
  (cond zpH
 true
 (P2 (w64 (zpG+(1:Int)))))
theorem zCF (hX2:zCD K n nodes X2 P2 S2) (hs:zpK P2 n nodes zpG zpH=true) (hk:K (e74 (zpJ S2 n nodes zpG zpH))):z74 K [1,1,1,0,1,0,0,1,1,0,0,1,1] [X2] ⟨[(2,zp 2 0),(6,zp 11 0),(15,zS enc_3 1 nodes),(16,zI (nodes.len:Int)),(17,zI zpG),(26,zB zpH)],[(2,.box 24 (zm (enc_24 n))),(11,.box 105 (zm (zaC (⟨n,(⟨0,(λ _=>none)⟩:Mp)⟩:web))))],[]⟩:=zaX (by kernel_rfl) (zc hs hk (λ hs hk=>hk) (λ hs hk=>(hX2 hs hk)))
def zhL (n:Net) (nodes:(Sl Int)) (S2:Int->(web×Int)) (zdq:Int):(web×Int) :=
  (cond (decide (zdq < (nodes.len : Int)))
 (zpJ S2 n nodes zdq (!(s81 (nodes.get zdq.toNat) (0:Int) (w64 (n.Nodes - (1:Int))))))
 (zpI n (s88 (⟨n,(⟨0,(λ _=>none)⟩:Mp)⟩:web))))
def zhM (n:Net) (nodes:(Sl Int)) (P2:Int->Bool) (zdq:Int):Bool :=
  (cond (decide (zdq < (nodes.len : Int)))
 (decide ((0≤zdq/\zdq < (nodes.len:Int))) &&
 (zpK P2 n nodes zdq (!(s81 (nodes.get zdq.toNat) (0:Int) (w64 (n.Nodes - (1:Int)))))))
 (decide ((p88 (⟨n,(⟨0,(λ _=>none)⟩:Mp)⟩:web)=true)) &&
 true))
def zhN (n:Net) (nodes:(Sl Int)):Nat->Int->(web×Int):=lpO (λ _=>default) (zhL n nodes)
def zhO (n:Net) (nodes:(Sl Int)):Nat->Int->Bool:=lpO (λ _=>false) (zhM n nodes)
def zpL (n:Net) (nodes:(Sl Int)) (zdq:Int):(web×Int):=zhN n nodes Fuel zdq
def zpM (n:Net) (nodes:(Sl Int)) (zdq:Int):Bool:=zhO n nodes Fuel zdq
theorem zCG (hs:zpM n nodes zdq=true) (hk:K (e74 (zpL n nodes zdq))):z74 K [1,1,1,0,1,0] [] (zAZ n nodes zdq) :=
  zl (λ X=>z74 K [1,1,1,0,1,0,0] [X]) (by kernel_rfl) λ X2 hX =>
  (show ∀ k, zCD K n nodes X2 (zhO n nodes k) (zhN n nodes k) from zfW _ _ (zhM n nodes) (zhL n nodes) (zCD K n nodes X2)
 (by intro _ hs;exact absurd hs Bool.false_ne_true)
 (by intro P2 S2 hX2 zdq hs hk;exact hX _ (zaX (by kernel_rfl) (zc hs hk (λ hs hk=>(zaQ hs λ hc hs=>And.intro hc (zCF hX2 hs hk))) (λ hs hk=>(zaQ hs λ hc hs=>And.intro (And.intro (zE enc_40 4 n.Ties.get) (And.intro (rfl:((false,1,false,[none]):MQ)=(false,1,false,[none])) hc)) (zCE hk))))))) _ hs hk
def zpN (n:Net) (nodes:(Sl Int)):(web×Int) :=
  (zpL n nodes (0:Int))
def zpO (n:Net) (nodes:(Sl Int)):Bool :=
  (zpM n nodes (0:Int))
theorem zCH (hs:zpO n nodes=true) (hk:K (e74 (zpN n nodes))):z74 K [1,1,1] [] ⟨[(1,zS enc_3 1 nodes),(2,zp 2 0),(6,zp 11 0)],[(2,.box 24 (zm (enc_24 n))),(11,.box 105 (zm (zaC (⟨n,(⟨0,(λ _=>none)⟩:Mp)⟩:web))))],[]⟩:=zaX (by kernel_rfl) (zCG hs hk)
def zpP (n:Net) (nodes:(Sl Int)) (zpF:Bool):(web×Int) :=
  (cond zpF
 ((default:web),(2:Int))
 (zpN n nodes))
def zpQ (n:Net) (nodes:(Sl Int)) (zpF:Bool):Bool :=
  (cond zpF
 true
 (zpO n nodes))
theorem zCI (hs:zpQ n nodes zpF=true) (hk:K (e74 (zpP n nodes zpF))):z74 K [1,1,0,1] [] ⟨[(1,zS enc_3 1 nodes),(2,zp 2 0),(6,zp 11 0),(14,zB zpF)],[(2,.box 24 (zm (enc_24 n))),(11,.box 105 (zm (zaC (⟨n,(⟨0,(λ _=>none)⟩:Mp)⟩:web))))],[]⟩:=zaX (by kernel_rfl) (zc hs hk (λ hs hk=>hk) (λ hs hk=>(zCH hs hk)))
def s74 (n:Net) (nodes:(Sl Int)):(web×Int) :=
  (zpP n nodes (!(s67 n)))
def p74 (n:Net) (nodes:(Sl Int)):Bool :=
  (decide ((p67 n=true)) &&
 (zpQ n nodes (!(s67 n))))
end
theorem q74 (n:Net) (nodes:(Sl Int)) (K:List PA->Prop) (hs:p74 n nodes=true) (hk:K (e74 (s74 n nodes))):vcFun Tryd.prog G74 zzS 74 [.agg (enc_24 n),.one (.sl nodes.len 1 (λ i=>enc_3 (nodes.get i)))] K :=
  zaX (by kernel_rfl) (zaQ hs λ hc hs=>And.intro (And.intro (zE enc_40 4 n.Ties.get) hc) (zCI hs hk))
def zvL : List PA → COut
  | [.agg [.int .i64 zah,.sl zae zaz zad],.one (.sl zdA zhP zdr)]=>.alt ((s74 (⟨zah,(⟨zae,zal zad⟩:(Sl Tie))⟩:Net) (⟨zdA,zat zdr⟩:(Sl Int))).2 == 0) (IsE enc_40 4 zaz zad/\IsE enc_3 1 zhP zdr/\p74 (⟨zah,(⟨zae,zal zad⟩:(Sl Tie))⟩:Net) (⟨zdA,zat zdr⟩:(Sl Int))=true) [.one (.fp (zaC (⟨(s74 (⟨zah,(⟨zae,zal zad⟩:(Sl Tie))⟩:Net) (⟨zdA,zat zdr⟩:(Sl Int))).1.Net,((s74 (⟨zah,(⟨zae,zal zad⟩:(Sl Tie))⟩:Net) (⟨zdA,zat zdr⟩:(Sl Int))).1.out)⟩:web)) 0),.one (.int .i64 (0:Int))] (IsE enc_40 4 zaz zad/\IsE enc_3 1 zhP zdr/\p74 (⟨zah,(⟨zae,zal zad⟩:(Sl Tie))⟩:Net) (⟨zdA,zat zdr⟩:(Sl Int))=true) [.one (.nilp),.one (.int .i64 ((s74 (⟨zah,(⟨zae,zal zad⟩:(Sl Tie))⟩:Net) (⟨zdA,zat zdr⟩:(Sl Int))).2))]
  | [.agg [.int .i64 zah,.sl zae zaz zad],.one (.nils)]=>.alt ((s74 (⟨zah,(⟨zae,zal zad⟩:(Sl Tie))⟩:Net) (⟨0,λ _=>default⟩:(Sl Int))).2 == 0) (IsE enc_40 4 zaz zad/\p74 (⟨zah,(⟨zae,zal zad⟩:(Sl Tie))⟩:Net) (⟨0,λ _=>default⟩:(Sl Int))=true) [.one (.fp (zaC (⟨(s74 (⟨zah,(⟨zae,zal zad⟩:(Sl Tie))⟩:Net) (⟨0,λ _=>default⟩:(Sl Int))).1.Net,((s74 (⟨zah,(⟨zae,zal zad⟩:(Sl Tie))⟩:Net) (⟨0,λ _=>default⟩:(Sl Int))).1.out)⟩:web)) 0),.one (.int .i64 (0:Int))] (IsE enc_40 4 zaz zad/\p74 (⟨zah,(⟨zae,zal zad⟩:(Sl Tie))⟩:Net) (⟨0,λ _=>default⟩:(Sl Int))=true) [.one (.nilp),.one (.int .i64 ((s74 (⟨zah,(⟨zae,zal zad⟩:(Sl Tie))⟩:Net) (⟨0,λ _=>default⟩:(Sl Int))).2))]
  | _=>.no
theorem zGJ:zas Tryd.prog 74:=⟨_,rfl,rfl,by kernel_rfl⟩
theorem zJf:Ok Tryd.prog 74 zvL:=zhC zJe zGJ λ args K h=>by
  unfold zvL at h
  split at h
  · rename_i zah zae zaz zad zdA zhP zdr
    have h:=zGl h
    obtain⟨⟨⟨rfl,zar,rfl⟩,⟨rfl,zfl,rfl⟩,hs⟩,hk⟩:=h
    try rw[zak zar] at hs
    try rw[zak zar] at hk
    try rw[za3 zfl] at hs
    try rw[za3 zfl] at hk
    exact⟨_,zff zgm _,(λ _ _=>[]),(λ _=>false),zzS,q74 (⟨zah,(⟨zae,zar⟩:(Sl Tie))⟩:Net) (⟨zdA,zfl⟩:(Sl Int)) (Wk K) hs (zgn hk)⟩
  · rename_i zah zae zaz zad
    have h:=zGl h
    obtain⟨⟨⟨rfl,zar,rfl⟩,hs⟩,hk⟩:=h
    try rw[zak zar] at hs
    try rw[zak zar] at hk
    exact⟨_,(zhp (zgm _) (zhp (.one (.nil _ _)) znx)),(λ _ _=>[]),(λ _=>false),zzS,q74 (⟨zah,(⟨zae,zar⟩:(Sl Tie))⟩:Net) (⟨0,λ _=>default⟩:(Sl Int)) (Wk K) hs (zgn hk)⟩
  · exact h.elim
abbrev zKv:Tabs:=Tabs.nil
theorem zGK:TabsOk Tryd.prog zKv:=TabsOk.nil
abbrev zKX:Ctrs:=csm zKv (λ _ _=>[]) (λ _=>false)
def zA0:Ann:=⟨24,[(0,zK [2,3] [2,3]),(1,zK [4] [])],
 [],
 [],
 [],[]⟩
abbrev zKY:=Bool
abbrev zKZ (r:zKY):List PA:=[.one (.bool r)]
section
variable {K:List PA->Prop}{a:far}{b:far}
def zzU (a:far) (b:far):Bool :=
  (cond (decide (a.length < b.length))
 true
 (cond (a.length == b.length)
 (decide (a.uses < b.uses))
 false))
end
theorem zK1 (a:far) (b:far) (K:List PA->Prop) (hk:K (zKZ (zzU a b))):vcFun Tryd.prog zKX zA0 105 [.agg (zb5 a),.agg (zb5 b)] K :=
  zaX (by kernel_rfl) (zt hk (λ hk=>hk) (λ hk=>(zt hk (λ hk=>hk) (λ hk=>hk))))
def zvM : List PA → COut
  | [.agg [.int .i64 zb8,.int .i64 zpR],.agg [.int .i64 zbJ,.int .i64 zeO]]=>.tot [.one (.bool (zzU (⟨zb8,zpR⟩:far) (⟨zbJ,zeO⟩:far)))]
  | _=>.no
theorem zCJ:zas Tryd.prog 105:=⟨_,rfl,rfl,by kernel_rfl⟩
theorem zJg:Ok Tryd.prog 105 zvM:=zbm zGK zCJ λ args K h=>by
  unfold zvM at h
  split at h
  · rename_i zb8 zpR zbJ zeO
    have hk:=h
    exact⟨(λ _ _=>[]),(λ _=>false),zA0,zK1 (⟨zb8,zpR⟩:far) (⟨zbJ,zeO⟩:far) K hk⟩
  · exact h.elim
abbrev zKw:Tabs:=(Tabs.nil.addF 105 zvM)
theorem zGL:TabsOk Tryd.prog zKw:=(TabsOk.nil.addF zJg)
abbrev zKx:Ctrs:=csm zKw (λ _ _=>[]) (λ _=>false)
def zvN:Ann:=⟨22,[(0,zK [0,2,4,6] [4,6]),(1,zK [0,4,6,9,10,11] [4,6]),(2,zK [0,4,6,9,10,11,12] [4,6]),(3,zK [0,4,6,8,9,10,11] [4,6,8]),(4,zK [0,4,6,8,9,10,11,18] [4,6,8]),(5,zK [0,4,6,9,10,11] [4,6]),(6,zK [0,4,6,9,10,11] [4,6]),(7,zK [6] [6])],
 [(2,zK [0,4,6,9,10,11] [4,6])],
 [(5,zK [0,4,6,8,9,10,11,18] [4,6,8])],
 [],[]⟩
abbrev zK2:=far
abbrev zIH (r:zK2):List PA:=[.agg [.int .i64 r.length,.int .i64 r.uses]]
@[irreducible] def z104:=ptF Tryd.prog zKx zvN Tryd.f104
def zvO (others:(Sl far)) (zaN:Int) (zbb:Int) (zbc:Int):St:=⟨[(0,zP (.fn 105 [] [])),(4,zp 4 0),(6,zp 6 0),(9,zS zb5 2 others),(10,zI (others.len:Int)),(11,zI zaN)],[(4,.box 114 (zm (zb5 (⟨zbb,zbc⟩:far)))),(6,.box 114 (zm (zb5 (⟨(0:Int),(0:Int)⟩:far))))],[]⟩
abbrev zvP (K:List PA->Prop) (others:(Sl far)) (X:St->Prop) (P:Int->Int->Int->Bool) (S:Int->Int->Int->far):Prop:=∀ ⦃zaN:Int⦄ ⦃zbb:Int⦄ ⦃zbc:Int⦄,P zaN zbb zbc=true->K (zIH (S zaN zbb zbc))->X (zvO others zaN zbb zbc)
section
variable {K:List PA->Prop}{first:far}{others:(Sl far)}{zaN:Int}{zbb:Int}{zbc:Int}{X0:St->Prop}{P0:Int->Int->Int->Bool}{S0:Int->Int->Int->far}{zcs:Int}{zcN:Bool}{zdI:Int}{zdJ:Int}{zpS:Int}{zpT:Int}
def zmw (S0:Int->Int->Int->far) (others:(Sl far)) (zcs:Int) (zcN:Bool) (zdI:Int) (zdJ:Int) (zpS:Int) (zpT:Int):far :=
  (cond zcN
 (S0 (w64 (zcs+(1:Int))) zpS zpT)
 (S0 (w64 (zcs+(1:Int))) zdI zdJ))
def zmx (P0:Int->Int->Int->Bool) (others:(Sl far)) (zcs:Int) (zcN:Bool) (zdI:Int) (zdJ:Int) (zpS:Int) (zpT:Int):Bool :=
  (cond zcN
 (P0 (w64 (zcs+(1:Int))) zpS zpT)
 (P0 (w64 (zcs+(1:Int))) zdI zdJ))
theorem zzV (hX0:zvP K others X0 P0 S0) (hs:zmx P0 others zcs zcN zdI zdJ zpS zpT=true) (hk:K (zIH (zmw S0 others zcs zcN zdI zdJ zpS zpT))):z104 K [1,0,1,0,0,1,1,0,0,1,1] [X0] ⟨[(0,zP (.fn 105 [] [])),(4,zp 4 0),(6,zp 6 0),(8,zp 8 0),(9,zS zb5 2 others),(10,zI (others.len:Int)),(11,zI zcs),(18,zB zcN)],[(4,.box 114 (zm (zb5 (⟨zdI,zdJ⟩:far)))),(6,.box 114 (zm (zb5 (⟨(0:Int),(0:Int)⟩:far)))),(8,.box 114 (zm (zb5 (⟨zpS,zpT⟩:far))))],[]⟩:=zaX (by kernel_rfl) (zc hs hk (λ hs hk=>(hX0 hs hk)) (λ hs hk=>(hX0 hs hk)))
def zfX (others:(Sl far)) (S0:Int->Int->Int->far) (zaN:Int) (zbb:Int) (zbc:Int):far :=
  (cond (decide (zaN < (others.len : Int)))
 (zmw S0 others zaN (zzU (others.get zaN.toNat) (⟨zbb,zbc⟩:far)) zbb zbc ((others.get zaN.toNat).length) ((others.get zaN.toNat).uses))
 (⟨zbb,zbc⟩:far))
def zfY (others:(Sl far)) (P0:Int->Int->Int->Bool) (zaN:Int) (zbb:Int) (zbc:Int):Bool :=
  (cond (decide (zaN < (others.len : Int)))
 (decide ((0≤zaN/\zaN < (others.len:Int))) &&
 (zmx P0 others zaN (zzU (others.get zaN.toNat) (⟨zbb,zbc⟩:far)) zbb zbc ((others.get zaN.toNat).length) ((others.get zaN.toNat).uses)))
 true)
def zfZ (others:(Sl far)):Nat->Int->Int->Int->far:=lpO (λ _ _ _=>default) (zfX others)
def zf0 (others:(Sl far)):Nat->Int->Int->Int->Bool:=lpO (λ _ _ _=>false) (zfY others)
def zmy (others:(Sl far)) (zaN:Int) (zbb:Int) (zbc:Int):far:=zfZ others Fuel zaN zbb zbc
def zmz (others:(Sl far)) (zaN:Int) (zbb:Int) (zbc:Int):Bool:=zf0 others Fuel zaN zbb zbc
theorem zzW (hs:zmz others zaN zbb zbc=true) (hk:K (zIH (zmy others zaN zbb zbc))):z104 K [1,0,1,0] [] (zvO others zaN zbb zbc) :=
  zl (λ X=>z104 K [1,0,1,0,0] [X]) (by kernel_rfl) λ X0 hX =>
  (show ∀ k, zvP K others X0 (zf0 others k) (zfZ others k) from zfW _ _ (zfY others) (zfX others) (zvP K others X0)
 (by intro _ _ _ hs;exact absurd hs Bool.false_ne_true)
 (by intro P0 S0 hX0 zaN zbb zbc hs hk;exact hX _ (zaX (by kernel_rfl) (zc hs hk (λ hs hk=>(zaQ hs λ hc hs=>And.intro hc (zzV hX0 hs hk))) (λ hs hk=>hk))))) _ hs hk
def zct (first:far) (others:(Sl far)):far :=
  (zmy others (0:Int) first.length first.uses)
def zyL (first:far) (others:(Sl far)):Bool :=
  (zmz others (0:Int) first.length first.uses)
end
theorem zK3 (first:far) (others:(Sl far)) (K:List PA->Prop) (hs:zyL first others=true) (hk:K (zIH (zct first others))):vcFun Tryd.prog zKx zvN 104 [.one (.fn 105 [] []),.agg (zb5 first),.one (.sl others.len 2 (λ i=>zb5 (others.get i)))] K :=
  zaX (by kernel_rfl) (zzW hs hk)
def zos : List PA → COut
  | [.one (.fn 105 [] []),.agg [.int .i64 zbJ,.int .i64 zeO],.one (.sl zkQ zvQ zkR)]=>.det (IsE zb5 2 zvQ zkR/\zyL (⟨zbJ,zeO⟩:far) (⟨zkQ,zja zkR⟩:(Sl far))=true) [.agg [.int .i64 ((zct (⟨zbJ,zeO⟩:far) (⟨zkQ,zja zkR⟩:(Sl far))).length),.int .i64 ((zct (⟨zbJ,zeO⟩:far) (⟨zkQ,zja zkR⟩:(Sl far))).uses)]]
  | _=>.no
theorem zCK:zas Tryd.prog 104:=⟨_,rfl,rfl,by kernel_rfl⟩
theorem zCL:Ok Tryd.prog 104 zos:=zbm zGL zCK λ args K h=>by
  unfold zos at h
  split at h
  · rename_i zbJ zeO zkQ zvQ zkR
    obtain⟨⟨⟨rfl,zpU,rfl⟩,hs⟩,hk⟩:=h
    try rw[ziI zpU] at hs
    try rw[ziI zpU] at hk
    exact⟨(λ _ _=>[]),(λ _=>false),zvN,zK3 (⟨zbJ,zeO⟩:far) (⟨zkQ,zpU⟩:(Sl far)) K hs hk⟩
  · exact h.elim
abbrev T75:Tabs:=(((Tabs.nil.addF 93 zop).addF 104 zos).addI 110 zor)
theorem zJh:TabsOk Tryd.prog T75:=(((TabsOk.nil.addF zFE).addF zCL).addI ztG)
abbrev G75:Ctrs:=csm T75 (λ _ _=>[]) (λ _=>false)
def zvR:Ann:=⟨66,[(0,zK [0,1,4] [4]),(1,zK [0,1,4,5] [4,5]),(2,zK [0,1,4,5,10] [4,5]),(3,zK [0,1,4,5,10,11] [4,5]),(4,zK [0,1,4,5,6,10] [4,5]),(5,zK [0,1,4,5,10] [4,5]),(6,zK [0,1,4,5,10] [4,5]),(7,zK [0,4,5] [4,5]),(8,zK [0,4,5,7] [4,5,7]),(9,zK [0,4,5,7,20] [4,5,7]),(10,zK [0,4,5,7] [4,5,7]),(11,zK [0,4,5,7,22] [4,5,7]),(12,zK [0,4,5,7,8,22] [4,5,7,8]),(13,zK [0,4,5,7,8,22,29] [4,5,7,8]),(14,zK [0,4,5,7,8,9,22] [4,5,7,8,9]),(15,zK [0,4,5,7,8,9,22] [4,5,7,8,9]),(16,zK [0,4,5,7,22] [4,5,7]),(17,zK [0,4,5,64] [4,5]),(18,zK [0,4,5,7] [4,5,7]),(19,zK [4] [4])],
 [(3,zK [0,1,4,5,10] [4,5]),(9,zK [0,4,5,7] [4,5,7]),(12,zK [0,4,5,7,22] [4,5,7])],
 [(7,zK [0,1,4,5] [4,5])],
 [],[]⟩
abbrev R75:=Tab
abbrev e75 (r:R75):List PA:=[.agg (zao r)]
@[irreducible] def z75:=ptF Tryd.prog G75 zvR Tryd.f75
@[irreducible] def x75:=exF Tryd.prog G75 zvR Tryd.f75
@[irreducible] def y75:=rnF Tryd.prog G75 zvR Tryd.f75
def zA1 (w:web) (node:Int) (zaW:Int) (t4t0:Tab) (dt0:Tab):St:=⟨[(0,zP (.fp (zaC w) 0)),(1,zI node),(4,zp 4 0),(5,zp 5 0),(10,zI zaW)],[(4,.box 116 (zm (zao t4t0))),(5,.box 116 (zm (zao dt0)))],[]⟩
abbrev zGM (K:List PA->Prop) (w:web) (node:Int) (X:St->Prop) (P:Int->Tab->Tab->Bool) (S:Int->Tab->Tab->Tab):Prop:=∀ ⦃zaW:Int⦄ ⦃t4t0:Tab⦄ ⦃dt0:Tab⦄,P zaW t4t0 dt0=true->K (e75 (S zaW t4t0 dt0))->X (zA1 w node zaW t4t0 dt0)
def zA2 (w:web) (zaG:Bool) (t4t2:Tab) (dt2:Tab):St:=⟨[(0,zP (.fp (zaC w) 0)),(4,zp 4 0),(5,zp 5 0),(7,zp 7 0)],[(4,.box 116 (zm (zao t4t2))),(5,.box 116 (zm (zao dt2))),(7,.box 4 [.p (.bool zaG)])],[]⟩
abbrev zCM (K:List PA->Prop) (w:web) (X:St->Prop) (P:Bool->Tab->Tab->Bool) (S:Bool->Tab->Tab->Tab):Prop:=∀ ⦃zaG:Bool⦄ ⦃t4t2:Tab⦄ ⦃dt2:Tab⦄,P zaG t4t2 dt2=true->K (e75 (S zaG t4t2 dt2))->X (zA2 w zaG t4t2 dt2)
def zvS (w:web) (zav:Bool) (t4t3:Tab) (dt3:Tab):St:=⟨[(0,zP (.fp (zaC w) 0)),(4,zp 4 0),(5,zp 5 0),(7,zp 7 0),(22,zP (.fn 110 [] [.fp [.fp (zaC w) 0] 0]))],[(4,.box 116 (zm (zao t4t3))),(5,.box 116 (zm (zao dt3))),(7,.box 4 [.p (.bool zav)])],[]⟩
abbrev zGN (K:List PA->Prop) (w:web) (X:St->Prop) (P:Bool->Tab->Tab->Bool) (S:Bool->Tab->Tab->Tab):Prop:=∀ ⦃zav:Bool⦄ ⦃t4t3:Tab⦄ ⦃dt3:Tab⦄,P zav t4t3 dt3=true->K (e75 (S zav t4t3 dt3))->X (zvS w zav t4t3 dt3)
section
variable {K:List PA->Prop}{w:web}{node:Int}{zaW:Int}{t4t0:Tab}{dt0:Tab}{X0:St->Prop}{P0:Int->Tab->Tab->Bool}{S0:Int->Tab->Tab->Tab}{t4t1:Tab}{dt1:Tab}{zaG:Bool}{t4t2:Tab}{dt2:Tab}{X2:St->Prop}{P2:Bool->Tab->Tab->Bool}{S2:Bool->Tab->Tab->Tab}{zav:Bool}{t4t3:Tab}{dt3:Tab}
def zCN (S2:Bool->Tab->Tab->Tab) (w:web) (zav:Bool) (t4t3:Tab) (dt3:Tab):Tab :=
  (S2 zav t4t3 dt3)
def zCO (P2:Bool->Tab->Tab->Bool) (w:web) (zav:Bool) (t4t3:Tab) (dt3:Tab):Bool :=
  (P2 zav t4t3 dt3)
def zmA (S2:Bool->Tab->Tab->Tab) (w:web) (y3:step) (S3:Bool->Tab->Tab->Tab) (zav:Bool) (t4t3:Tab) (dt3:Tab):Tab :=
  (cond (nvr (tL dt3 y3.to) (tU dt3 y3.to))
 (S3 zav t4t3 dt3)
 (cond zav
 (S3 true t4t3 (ts 80 dt3 (0+y3.from_.toNat * 2+0) [(zct (⟨(tL dt3 y3.from_),(tU dt3 y3.from_)⟩:far) (⟨1,λ _=>(⟨(w64 ((tL dt3 y3.to)+y3.length)),(w64 ((tV dt3 y3.to)+(1:Int)))⟩:far)⟩:(Sl far))).length,(zct (⟨(tL dt3 y3.from_),(tU dt3 y3.from_)⟩:far) (⟨1,λ _=>(⟨(w64 ((tL dt3 y3.to)+y3.length)),(w64 ((tV dt3 y3.to)+(1:Int)))⟩:far)⟩:(Sl far))).uses]))
 (S3 (!(match ((zct (⟨(tL dt3 y3.from_),(tU dt3 y3.from_)⟩:far) (⟨1,λ _=>(⟨(w64 ((tL dt3 y3.to)+y3.length)),(w64 ((tV dt3 y3.to)+(1:Int)))⟩:far)⟩:(Sl far))).length == (tL dt3 y3.from_)) with | true=>(match ((zct (⟨(tL dt3 y3.from_),(tU dt3 y3.from_)⟩:far) (⟨1,λ _=>(⟨(w64 ((tL dt3 y3.to)+y3.length)),(w64 ((tV dt3 y3.to)+(1:Int)))⟩:far)⟩:(Sl far))).uses == (tU dt3 y3.from_)) with | true=>true | false=>false) | false=>false)) t4t3 (ts 80 dt3 (0+y3.from_.toNat * 2+0) [(zct (⟨(tL dt3 y3.from_),(tU dt3 y3.from_)⟩:far) (⟨1,λ _=>(⟨(w64 ((tL dt3 y3.to)+y3.length)),(w64 ((tV dt3 y3.to)+(1:Int)))⟩:far)⟩:(Sl far))).length,(zct (⟨(tL dt3 y3.from_),(tU dt3 y3.from_)⟩:far) (⟨1,λ _=>(⟨(w64 ((tL dt3 y3.to)+y3.length)),(w64 ((tV dt3 y3.to)+(1:Int)))⟩:far)⟩:(Sl far))).uses]))))
def zmB (P2:Bool->Tab->Tab->Bool) (w:web) (y3:step) (P3:Bool->Tab->Tab->Bool) (zav:Bool) (t4t3:Tab) (dt3:Tab):Bool :=
  (decide ((0≤y3.to/\y3.to < (40:Int))) &&
 (cond (nvr (tL dt3 y3.to) (tU dt3 y3.to))
 (P3 zav t4t3 dt3)
 (decide ((0≤y3.from_/\y3.from_ < (40:Int))) &&
 (decide ((0≤y3.to/\y3.to < (40:Int))) &&
 (decide ((0≤y3.to/\y3.to < (40:Int))) &&
 (decide ((zyL (⟨(tL dt3 y3.from_),(tU dt3 y3.from_)⟩:far) (⟨1,λ _=>(⟨(w64 ((tL dt3 y3.to)+y3.length)),(w64 ((tV dt3 y3.to)+(1:Int)))⟩:far)⟩:(Sl far))=true)) &&
 (cond zav
 (decide ((0≤y3.from_/\y3.from_ < (40:Int))) &&
 (P3 true t4t3 (ts 80 dt3 (0+y3.from_.toNat * 2+0) [(zct (⟨(tL dt3 y3.from_),(tU dt3 y3.from_)⟩:far) (⟨1,λ _=>(⟨(w64 ((tL dt3 y3.to)+y3.length)),(w64 ((tV dt3 y3.to)+(1:Int)))⟩:far)⟩:(Sl far))).length,(zct (⟨(tL dt3 y3.from_),(tU dt3 y3.from_)⟩:far) (⟨1,λ _=>(⟨(w64 ((tL dt3 y3.to)+y3.length)),(w64 ((tV dt3 y3.to)+(1:Int)))⟩:far)⟩:(Sl far))).uses])))
 (decide ((0≤y3.from_/\y3.from_ < (40:Int))) &&
 (decide ((0≤y3.from_/\y3.from_ < (40:Int))) &&
 (P3 (!(match ((zct (⟨(tL dt3 y3.from_),(tU dt3 y3.from_)⟩:far) (⟨1,λ _=>(⟨(w64 ((tL dt3 y3.to)+y3.length)),(w64 ((tV dt3 y3.to)+(1:Int)))⟩:far)⟩:(Sl far))).length == (tL dt3 y3.from_)) with | true=>(match ((zct (⟨(tL dt3 y3.from_),(tU dt3 y3.from_)⟩:far) (⟨1,λ _=>(⟨(w64 ((tL dt3 y3.to)+y3.length)),(w64 ((tV dt3 y3.to)+(1:Int)))⟩:far)⟩:(Sl far))).uses == (tU dt3 y3.from_)) with | true=>true | false=>false) | false=>false)) t4t3 (ts 80 dt3 (0+y3.from_.toNat * 2+0) [(zct (⟨(tL dt3 y3.from_),(tU dt3 y3.from_)⟩:far) (⟨1,λ _=>(⟨(w64 ((tL dt3 y3.to)+y3.length)),(w64 ((tV dt3 y3.to)+(1:Int)))⟩:far)⟩:(Sl far))).length,(zct (⟨(tL dt3 y3.from_),(tU dt3 y3.from_)⟩:far) (⟨1,λ _=>(⟨(w64 ((tL dt3 y3.to)+y3.length)),(w64 ((tV dt3 y3.to)+(1:Int)))⟩:far)⟩:(Sl far))).uses])))))))))))
def zmC (S2:Bool->Tab->Tab->Tab) (w:web):List step->Bool->Tab->Tab->Tab:=lpR (zCN S2 w) (zmA S2 w)
def zmD (P2:Bool->Tab->Tab->Bool) (w:web):List step->Bool->Tab->Tab->Bool:=lpR (zCO P2 w) (zmB P2 w)
def zpV (S2:Bool->Tab->Tab->Tab) (w:web) (zav:Bool) (t4t3:Tab) (dt3:Tab):Tab:=zmC S2 w (zkn w) zav t4t3 dt3
def zpW (P2:Bool->Tab->Tab->Bool) (w:web) (zav:Bool) (t4t3:Tab) (dt3:Tab):Bool:=decide ((ztU w=true)) && zmD P2 w (zkn w) zav t4t3 dt3
theorem zCP (hX2:zCM K w X2 P2 S2) (hs:zpW P2 w zav t4t3 dt3=true) (hk:K (e75 (zpV S2 w zav t4t3 dt3))):z75 K [1,1,1,1,0,1,0,0,1,0,0,1,1,0] [X2] (zvS w zav t4t3 dt3) :=
  zaQ hs λ hc hs=>zr (enc:=(λ y:step=>[.agg (zaA y)])) (ys:=zkn w) (g:=(zvS w zav t4t3 dt3)) (x75 K [1,1,1,1,0,1,0,0,1,0,0,1,1,0] [X2]) (y75 K [1,1,1,1,0,1,0,0,1,0,0,1,1,0] [X2]) (by kernel_rfl) (And.intro (zE enc_40 4 w.Net.Ties.get) (And.intro (rfl:((false,1,false,[none]):MQ)=(false,1,false,[none])) hc)) λ X3 hE hR =>
  (show ∀ l : List step, zGN K w (X3 (l.map (λ y : step => [.agg (zaA y)]))) (zmD P2 w l) (zmC S2 w l) from zri (X := X3) (enc := (λ y : step => [.agg (zaA y)])) _ _ (zmB P2 w) (zmA S2 w) (λ Z P S => zGN K w Z P S)
 (by intro zav t4t3 dt3 hs hk;exact hE _ (zaX (by kernel_rfl) (hX2 hs hk)))
 (by intro y3 rest P3 S3 hX3 zav t4t3 dt3 hs hk;exact hR _ rest _ (zaX (by kernel_rfl) (zaQ hs λ hc hs=>And.intro hc (zc hs hk (λ hs hk=>(hX3 hs hk)) (λ hs hk=>(zaQ hs λ hc hs=>And.intro hc (zaQ hs λ hc hs=>And.intro hc (zaQ hs λ hc hs=>And.intro hc (zaQ hs λ hc hs=>And.intro (And.intro (zvv:IsE zb5 2 2 (λ _=>(zb5 (⟨(w64 ((tL dt3 y3.to)+y3.length)),(w64 ((tV dt3 y3.to)+(1:Int)))⟩:far)))) hc) (zc hs hk (λ hs hk=>(zaQ hs λ hc hs=>And.intro hc (hX3 hs hk))) (λ hs hk=>(zaQ hs λ hc hs=>And.intro hc (zaQ hs λ hc hs=>And.intro hc (hX3 hs hk))))))))))))))) _ hs hk
def zmE (w:web) (S2:Bool->Tab->Tab->Tab) (zaG:Bool) (t4t2:Tab) (dt2:Tab):Tab :=
  (cond zaG
 (zpV S2 w false t4t2 dt2)
 dt2)
def zmF (w:web) (P2:Bool->Tab->Tab->Bool) (zaG:Bool) (t4t2:Tab) (dt2:Tab):Bool :=
  (cond zaG
 (zpW P2 w false t4t2 dt2)
 true)
def zfm (w:web):Nat->Bool->Tab->Tab->Tab:=lpO (λ _ _ _=>default) (zmE w)
def zfn (w:web):Nat->Bool->Tab->Tab->Bool:=lpO (λ _ _ _=>false) (zmF w)
def zpX (w:web) (zaG:Bool) (t4t2:Tab) (dt2:Tab):Tab:=zfm w Fuel zaG t4t2 dt2
def zpY (w:web) (zaG:Bool) (t4t2:Tab) (dt2:Tab):Bool:=zfn w Fuel zaG t4t2 dt2
theorem zCQ (hs:zpY w zaG t4t2 dt2=true) (hk:K (e75 (zpX w zaG t4t2 dt2))):z75 K [1,1,1,1,0,1,0] [] (zA2 w zaG t4t2 dt2) :=
  zl (λ X=>z75 K [1,1,1,1,0,1,0,0] [X]) (by kernel_rfl) λ X2 hX =>
  (show ∀ k, zCM K w X2 (zfn w k) (zfm w k) from zfW _ _ (zmF w) (zmE w) (zCM K w X2)
 (by intro _ _ _ hs;exact absurd hs Bool.false_ne_true)
 (by intro P2 S2 hX2 zaG t4t2 dt2 hs hk;exact hX _ (zaX (by kernel_rfl) (zc hs hk (λ hs hk=>(And.intro (And.intro (zE enc_40 4 w.Net.Ties.get) (rfl:((false,1,false,[none]):MQ)=(false,1,false,[none]))) (zCP hX2 hs hk))) (λ hs hk=>hk))))) _ hs hk
def zmG (w:web) (node:Int) (t4t1:Tab) (dt1:Tab):Tab :=
  (zpX w true t4t1 (ts 80 dt1 (0+node.toNat * 2+0) [(0:Int),(0:Int)]))
def zmH (w:web) (node:Int) (t4t1:Tab) (dt1:Tab):Bool :=
  (decide ((0≤node/\node < (40:Int))) &&
 (zpY w true t4t1 (ts 80 dt1 (0+node.toNat * 2+0) [(0:Int),(0:Int)])))
theorem zCR (hs:zmH w node t4t1 dt1=true) (hk:K (e75 (zmG w node t4t1 dt1))):z75 K [1,1,1] [] ⟨[(0,zP (.fp (zaC w) 0)),(1,zI node),(4,zp 4 0),(5,zp 5 0)],[(4,.box 116 (zm (zao t4t1))),(5,.box 116 (zm (zao dt1)))],[]⟩:=zaX (by kernel_rfl) (zaQ hs λ hc hs=>And.intro hc (zCQ hs hk))
def zhQ (w:web) (node:Int) (S0:Int->Tab->Tab->Tab) (zaW:Int) (t4t0:Tab) (dt0:Tab):Tab :=
  (cond (decide (zaW < (40:Int)))
 (S0 (w64 (zaW+(1:Int))) t4t0 (ts 80 dt0 (0+zaW.toNat * 2+0) [(1000000000000:Int),(0:Int)]))
 (zmG w node t4t0 dt0))
def zhR (w:web) (node:Int) (P0:Int->Tab->Tab->Bool) (zaW:Int) (t4t0:Tab) (dt0:Tab):Bool :=
  (cond (decide (zaW < (40:Int)))
 (decide ((0≤zaW/\zaW < (40:Int))) &&
 (P0 (w64 (zaW+(1:Int))) t4t0 (ts 80 dt0 (0+zaW.toNat * 2+0) [(1000000000000:Int),(0:Int)])))
 (zmH w node t4t0 dt0))
def zhS (w:web) (node:Int):Nat->Int->Tab->Tab->Tab:=lpO (λ _ _ _=>default) (zhQ w node)
def zhT (w:web) (node:Int):Nat->Int->Tab->Tab->Bool:=lpO (λ _ _ _=>false) (zhR w node)
def zvT (w:web) (node:Int) (zaW:Int) (t4t0:Tab) (dt0:Tab):Tab:=zhS w node Fuel zaW t4t0 dt0
def zvU (w:web) (node:Int) (zaW:Int) (t4t0:Tab) (dt0:Tab):Bool:=zhT w node Fuel zaW t4t0 dt0
theorem zCS (hs:zvU w node zaW t4t0 dt0=true) (hk:K (e75 (zvT w node zaW t4t0 dt0))):z75 K [1,1,0,1,0] [] (zA1 w node zaW t4t0 dt0) :=
  zl (λ X=>z75 K [1,1,0,1,0,0] [X]) (by kernel_rfl) λ X0 hX =>
  (show ∀ k, zGM K w node X0 (zhT w node k) (zhS w node k) from zfW _ _ (zhR w node) (zhQ w node) (zGM K w node X0)
 (by intro _ _ _ hs;exact absurd hs Bool.false_ne_true)
 (by intro P0 S0 hX0 zaW t4t0 dt0 hs hk;exact hX _ (zaX (by kernel_rfl) (zc hs hk (λ hs hk=>(zaQ hs λ hc hs=>And.intro hc (hX0 hs hk))) (λ hs hk=>(zCR hs hk)))))) _ hs hk
def s75 (w:web) (node:Int):Tab :=
  (zvT w node (0:Int) (λ _=>(0:Int)) (λ _=>(0:Int)))
def p75 (w:web) (node:Int):Bool :=
  (zvU w node (0:Int) (λ _=>(0:Int)) (λ _=>(0:Int)))
end
theorem q75 (w:web) (node:Int) (K:List PA->Prop) (hs:p75 w node=true) (hk:K (e75 (s75 w node))):vcFun Tryd.prog G75 zvR 75 [.one (.fp (zaC w) 0),.one (.int .i64 node)] K :=
  zaX (by kernel_rfl) (zCS hs hk)
def zvV : List PA → COut
  | [.one (.fp [.int .i64 zan,.sl zai zaF zaj,.fm zbn zaH zaI] 0),.one (.int .i64 a1)]=>.det (IsE enc_40 4 zaF zaj/\zbn=(false,1,false,[none])/\p75 (⟨(⟨zan,(⟨zai,zal zaj⟩:(Sl Tie))⟩:Net),(⟨zaH,zaI⟩:Mp)⟩:web) a1=true) [.agg (zao ((s75 (⟨(⟨zan,(⟨zai,zal zaj⟩:(Sl Tie))⟩:Net),(⟨zaH,zaI⟩:Mp)⟩:web) a1)))]
  | _=>.no
theorem zGO:zas Tryd.prog 75:=⟨_,rfl,rfl,by kernel_rfl⟩
theorem zJi:Ok Tryd.prog 75 zvV:=zbm zJh zGO λ args K h=>by
  unfold zvV at h
  split at h
  · rename_i zan zai zaF zaj zbn zaH zaI a1
    obtain⟨⟨⟨rfl,zay,rfl⟩,rfl,hs⟩,hk⟩:=h
    try rw[zak zay] at hs
    try rw[zak zay] at hk
    exact⟨(λ _ _=>[]),(λ _=>false),zvR,q75 (⟨(⟨zan,(⟨zai,zay⟩:(Sl Tie))⟩:Net),(⟨zaH,zaI⟩:Mp)⟩:web) a1 K hs hk⟩
  · exact h.elim
abbrev T76:Tabs:=(((Tabs.nil.addF 93 zop).addF 104 zos).addI 110 zor)
theorem zJj:TabsOk Tryd.prog T76:=(((TabsOk.nil.addF zFE).addF zCL).addI ztG)
abbrev G76:Ctrs:=csm T76 (λ _ _=>[]) (λ _=>false)
def zvW:Ann:=⟨66,[(0,zK [0,1,4] [4]),(1,zK [0,1,4,5] [4,5]),(2,zK [0,1,4,5,10] [4,5]),(3,zK [0,1,4,5,10,11] [4,5]),(4,zK [0,1,4,5,6,10] [4,5]),(5,zK [0,1,4,5,10] [4,5]),(6,zK [0,1,4,5,10] [4,5]),(7,zK [0,4,5] [4,5]),(8,zK [0,4,5,7] [4,5,7]),(9,zK [0,4,5,7,20] [4,5,7]),(10,zK [0,4,5,7] [4,5,7]),(11,zK [0,4,5,7,22] [4,5,7]),(12,zK [0,4,5,7,8,22] [4,5,7,8]),(13,zK [0,4,5,7,8,22,29] [4,5,7,8]),(14,zK [0,4,5,7,8,9,22] [4,5,7,8,9]),(15,zK [0,4,5,7,8,9,22] [4,5,7,8,9]),(16,zK [0,4,5,7,22] [4,5,7]),(17,zK [0,4,5,64] [4,5]),(18,zK [0,4,5,7] [4,5,7]),(19,zK [4] [4])],
 [(3,zK [0,1,4,5,10] [4,5]),(9,zK [0,4,5,7] [4,5,7]),(12,zK [0,4,5,7,22] [4,5,7])],
 [(7,zK [0,1,4,5] [4,5])],
 [],[]⟩
abbrev R76:=Tab
abbrev e76 (r:R76):List PA:=[.agg (zao r)]
@[irreducible] def z76:=ptF Tryd.prog G76 zvW Tryd.f76
@[irreducible] def x76:=exF Tryd.prog G76 zvW Tryd.f76
@[irreducible] def y76:=rnF Tryd.prog G76 zvW Tryd.f76
def zA3 (w:web) (node:Int) (zaW:Int) (t4t0:Tab) (dt0:Tab):St:=⟨[(0,zP (.fp (zaC w) 0)),(1,zI node),(4,zp 4 0),(5,zp 5 0),(10,zI zaW)],[(4,.box 116 (zm (zao t4t0))),(5,.box 116 (zm (zao dt0)))],[]⟩
abbrev zGP (K:List PA->Prop) (w:web) (node:Int) (X:St->Prop) (P:Int->Tab->Tab->Bool) (S:Int->Tab->Tab->Tab):Prop:=∀ ⦃zaW:Int⦄ ⦃t4t0:Tab⦄ ⦃dt0:Tab⦄,P zaW t4t0 dt0=true->K (e76 (S zaW t4t0 dt0))->X (zA3 w node zaW t4t0 dt0)
def zA4 (w:web) (zaG:Bool) (t4t2:Tab) (dt2:Tab):St:=⟨[(0,zP (.fp (zaC w) 0)),(4,zp 4 0),(5,zp 5 0),(7,zp 7 0)],[(4,.box 116 (zm (zao t4t2))),(5,.box 116 (zm (zao dt2))),(7,.box 4 [.p (.bool zaG)])],[]⟩
abbrev zCT (K:List PA->Prop) (w:web) (X:St->Prop) (P:Bool->Tab->Tab->Bool) (S:Bool->Tab->Tab->Tab):Prop:=∀ ⦃zaG:Bool⦄ ⦃t4t2:Tab⦄ ⦃dt2:Tab⦄,P zaG t4t2 dt2=true->K (e76 (S zaG t4t2 dt2))->X (zA4 w zaG t4t2 dt2)
def zvX (w:web) (zav:Bool) (t4t3:Tab) (dt3:Tab):St:=⟨[(0,zP (.fp (zaC w) 0)),(4,zp 4 0),(5,zp 5 0),(7,zp 7 0),(22,zP (.fn 110 [] [.fp [.fp (zaC w) 0] 0]))],[(4,.box 116 (zm (zao t4t3))),(5,.box 116 (zm (zao dt3))),(7,.box 4 [.p (.bool zav)])],[]⟩
abbrev zGQ (K:List PA->Prop) (w:web) (X:St->Prop) (P:Bool->Tab->Tab->Bool) (S:Bool->Tab->Tab->Tab):Prop:=∀ ⦃zav:Bool⦄ ⦃t4t3:Tab⦄ ⦃dt3:Tab⦄,P zav t4t3 dt3=true->K (e76 (S zav t4t3 dt3))->X (zvX w zav t4t3 dt3)
section
variable {K:List PA->Prop}{w:web}{node:Int}{zaW:Int}{t4t0:Tab}{dt0:Tab}{X0:St->Prop}{P0:Int->Tab->Tab->Bool}{S0:Int->Tab->Tab->Tab}{t4t1:Tab}{dt1:Tab}{zaG:Bool}{t4t2:Tab}{dt2:Tab}{X2:St->Prop}{P2:Bool->Tab->Tab->Bool}{S2:Bool->Tab->Tab->Tab}{zav:Bool}{t4t3:Tab}{dt3:Tab}
def zCU (S2:Bool->Tab->Tab->Tab) (w:web) (zav:Bool) (t4t3:Tab) (dt3:Tab):Tab :=
  (S2 zav t4t3 dt3)
def zCV (P2:Bool->Tab->Tab->Bool) (w:web) (zav:Bool) (t4t3:Tab) (dt3:Tab):Bool :=
  (P2 zav t4t3 dt3)
def zmI (S2:Bool->Tab->Tab->Tab) (w:web) (y3:step) (S3:Bool->Tab->Tab->Tab) (zav:Bool) (t4t3:Tab) (dt3:Tab):Tab :=
  (cond (nvr (tL dt3 y3.from_) (tU dt3 y3.from_))
 (S3 zav t4t3 dt3)
 (cond zav
 (S3 true t4t3 (ts 80 dt3 (0+y3.to.toNat * 2+0) [(zct (⟨(tL dt3 y3.to),(tU dt3 y3.to)⟩:far) (⟨1,λ _=>(⟨(w64 ((tL dt3 y3.from_)+y3.length)),(w64 ((tV dt3 y3.from_)+(1:Int)))⟩:far)⟩:(Sl far))).length,(zct (⟨(tL dt3 y3.to),(tU dt3 y3.to)⟩:far) (⟨1,λ _=>(⟨(w64 ((tL dt3 y3.from_)+y3.length)),(w64 ((tV dt3 y3.from_)+(1:Int)))⟩:far)⟩:(Sl far))).uses]))
 (S3 (!(match ((zct (⟨(tL dt3 y3.to),(tU dt3 y3.to)⟩:far) (⟨1,λ _=>(⟨(w64 ((tL dt3 y3.from_)+y3.length)),(w64 ((tV dt3 y3.from_)+(1:Int)))⟩:far)⟩:(Sl far))).length == (tL dt3 y3.to)) with | true=>(match ((zct (⟨(tL dt3 y3.to),(tU dt3 y3.to)⟩:far) (⟨1,λ _=>(⟨(w64 ((tL dt3 y3.from_)+y3.length)),(w64 ((tV dt3 y3.from_)+(1:Int)))⟩:far)⟩:(Sl far))).uses == (tU dt3 y3.to)) with | true=>true | false=>false) | false=>false)) t4t3 (ts 80 dt3 (0+y3.to.toNat * 2+0) [(zct (⟨(tL dt3 y3.to),(tU dt3 y3.to)⟩:far) (⟨1,λ _=>(⟨(w64 ((tL dt3 y3.from_)+y3.length)),(w64 ((tV dt3 y3.from_)+(1:Int)))⟩:far)⟩:(Sl far))).length,(zct (⟨(tL dt3 y3.to),(tU dt3 y3.to)⟩:far) (⟨1,λ _=>(⟨(w64 ((tL dt3 y3.from_)+y3.length)),(w64 ((tV dt3 y3.from_)+(1:Int)))⟩:far)⟩:(Sl far))).uses]))))
def zmJ (P2:Bool->Tab->Tab->Bool) (w:web) (y3:step) (P3:Bool->Tab->Tab->Bool) (zav:Bool) (t4t3:Tab) (dt3:Tab):Bool :=
  (decide ((0≤y3.from_/\y3.from_ < (40:Int))) &&
 (cond (nvr (tL dt3 y3.from_) (tU dt3 y3.from_))
 (P3 zav t4t3 dt3)
 (decide ((0≤y3.to/\y3.to < (40:Int))) &&
 (decide ((0≤y3.from_/\y3.from_ < (40:Int))) &&
 (decide ((0≤y3.from_/\y3.from_ < (40:Int))) &&
 (decide ((zyL (⟨(tL dt3 y3.to),(tU dt3 y3.to)⟩:far) (⟨1,λ _=>(⟨(w64 ((tL dt3 y3.from_)+y3.length)),(w64 ((tV dt3 y3.from_)+(1:Int)))⟩:far)⟩:(Sl far))=true)) &&
 (cond zav
 (decide ((0≤y3.to/\y3.to < (40:Int))) &&
 (P3 true t4t3 (ts 80 dt3 (0+y3.to.toNat * 2+0) [(zct (⟨(tL dt3 y3.to),(tU dt3 y3.to)⟩:far) (⟨1,λ _=>(⟨(w64 ((tL dt3 y3.from_)+y3.length)),(w64 ((tV dt3 y3.from_)+(1:Int)))⟩:far)⟩:(Sl far))).length,(zct (⟨(tL dt3 y3.to),(tU dt3 y3.to)⟩:far) (⟨1,λ _=>(⟨(w64 ((tL dt3 y3.from_)+y3.length)),(w64 ((tV dt3 y3.from_)+(1:Int)))⟩:far)⟩:(Sl far))).uses])))
 (decide ((0≤y3.to/\y3.to < (40:Int))) &&
 (decide ((0≤y3.to/\y3.to < (40:Int))) &&
 (P3 (!(match ((zct (⟨(tL dt3 y3.to),(tU dt3 y3.to)⟩:far) (⟨1,λ _=>(⟨(w64 ((tL dt3 y3.from_)+y3.length)),(w64 ((tV dt3 y3.from_)+(1:Int)))⟩:far)⟩:(Sl far))).length == (tL dt3 y3.to)) with | true=>(match ((zct (⟨(tL dt3 y3.to),(tU dt3 y3.to)⟩:far) (⟨1,λ _=>(⟨(w64 ((tL dt3 y3.from_)+y3.length)),(w64 ((tV dt3 y3.from_)+(1:Int)))⟩:far)⟩:(Sl far))).uses == (tU dt3 y3.to)) with | true=>true | false=>false) | false=>false)) t4t3 (ts 80 dt3 (0+y3.to.toNat * 2+0) [(zct (⟨(tL dt3 y3.to),(tU dt3 y3.to)⟩:far) (⟨1,λ _=>(⟨(w64 ((tL dt3 y3.from_)+y3.length)),(w64 ((tV dt3 y3.from_)+(1:Int)))⟩:far)⟩:(Sl far))).length,(zct (⟨(tL dt3 y3.to),(tU dt3 y3.to)⟩:far) (⟨1,λ _=>(⟨(w64 ((tL dt3 y3.from_)+y3.length)),(w64 ((tV dt3 y3.from_)+(1:Int)))⟩:far)⟩:(Sl far))).uses])))))))))))
def zmK (S2:Bool->Tab->Tab->Tab) (w:web):List step->Bool->Tab->Tab->Tab:=lpR (zCU S2 w) (zmI S2 w)
def zmL (P2:Bool->Tab->Tab->Bool) (w:web):List step->Bool->Tab->Tab->Bool:=lpR (zCV P2 w) (zmJ P2 w)
def zpZ (S2:Bool->Tab->Tab->Tab) (w:web) (zav:Bool) (t4t3:Tab) (dt3:Tab):Tab:=zmK S2 w (zkn w) zav t4t3 dt3
def zp0 (P2:Bool->Tab->Tab->Bool) (w:web) (zav:Bool) (t4t3:Tab) (dt3:Tab):Bool:=decide ((ztU w=true)) && zmL P2 w (zkn w) zav t4t3 dt3
theorem zCW (hX2:zCT K w X2 P2 S2) (hs:zp0 P2 w zav t4t3 dt3=true) (hk:K (e76 (zpZ S2 w zav t4t3 dt3))):z76 K [1,1,1,1,0,1,0,0,1,0,0,1,1,0] [X2] (zvX w zav t4t3 dt3) :=
  zaQ hs λ hc hs=>zr (enc:=(λ y:step=>[.agg (zaA y)])) (ys:=zkn w) (g:=(zvX w zav t4t3 dt3)) (x76 K [1,1,1,1,0,1,0,0,1,0,0,1,1,0] [X2]) (y76 K [1,1,1,1,0,1,0,0,1,0,0,1,1,0] [X2]) (by kernel_rfl) (And.intro (zE enc_40 4 w.Net.Ties.get) (And.intro (rfl:((false,1,false,[none]):MQ)=(false,1,false,[none])) hc)) λ X3 hE hR =>
  (show ∀ l : List step, zGQ K w (X3 (l.map (λ y : step => [.agg (zaA y)]))) (zmL P2 w l) (zmK S2 w l) from zri (X := X3) (enc := (λ y : step => [.agg (zaA y)])) _ _ (zmJ P2 w) (zmI S2 w) (λ Z P S => zGQ K w Z P S)
 (by intro zav t4t3 dt3 hs hk;exact hE _ (zaX (by kernel_rfl) (hX2 hs hk)))
 (by intro y3 rest P3 S3 hX3 zav t4t3 dt3 hs hk;exact hR _ rest _ (zaX (by kernel_rfl) (zaQ hs λ hc hs=>And.intro hc (zc hs hk (λ hs hk=>(hX3 hs hk)) (λ hs hk=>(zaQ hs λ hc hs=>And.intro hc (zaQ hs λ hc hs=>And.intro hc (zaQ hs λ hc hs=>And.intro hc (zaQ hs λ hc hs=>And.intro (And.intro (zvv:IsE zb5 2 2 (λ _=>(zb5 (⟨(w64 ((tL dt3 y3.from_)+y3.length)),(w64 ((tV dt3 y3.from_)+(1:Int)))⟩:far)))) hc) (zc hs hk (λ hs hk=>(zaQ hs λ hc hs=>And.intro hc (hX3 hs hk))) (λ hs hk=>(zaQ hs λ hc hs=>And.intro hc (zaQ hs λ hc hs=>And.intro hc (hX3 hs hk))))))))))))))) _ hs hk
def zmM (w:web) (S2:Bool->Tab->Tab->Tab) (zaG:Bool) (t4t2:Tab) (dt2:Tab):Tab :=
  (cond zaG
 (zpZ S2 w false t4t2 dt2)
 dt2)
def zmN (w:web) (P2:Bool->Tab->Tab->Bool) (zaG:Bool) (t4t2:Tab) (dt2:Tab):Bool :=
  (cond zaG
 (zp0 P2 w false t4t2 dt2)
 true)
def zfo (w:web):Nat->Bool->Tab->Tab->Tab:=lpO (λ _ _ _=>default) (zmM w)
def zfp (w:web):Nat->Bool->Tab->Tab->Bool:=lpO (λ _ _ _=>false) (zmN w)
def zp1 (w:web) (zaG:Bool) (t4t2:Tab) (dt2:Tab):Tab:=zfo w Fuel zaG t4t2 dt2
def zp2 (w:web) (zaG:Bool) (t4t2:Tab) (dt2:Tab):Bool:=zfp w Fuel zaG t4t2 dt2
theorem zCX (hs:zp2 w zaG t4t2 dt2=true) (hk:K (e76 (zp1 w zaG t4t2 dt2))):z76 K [1,1,1,1,0,1,0] [] (zA4 w zaG t4t2 dt2) :=
  zl (λ X=>z76 K [1,1,1,1,0,1,0,0] [X]) (by kernel_rfl) λ X2 hX =>
  (show ∀ k, zCT K w X2 (zfp w k) (zfo w k) from zfW _ _ (zmN w) (zmM w) (zCT K w X2)
 (by intro _ _ _ hs;exact absurd hs Bool.false_ne_true)
 (by intro P2 S2 hX2 zaG t4t2 dt2 hs hk;exact hX _ (zaX (by kernel_rfl) (zc hs hk (λ hs hk=>(And.intro (And.intro (zE enc_40 4 w.Net.Ties.get) (rfl:((false,1,false,[none]):MQ)=(false,1,false,[none]))) (zCW hX2 hs hk))) (λ hs hk=>hk))))) _ hs hk
def zmO (w:web) (node:Int) (t4t1:Tab) (dt1:Tab):Tab :=
  (zp1 w true t4t1 (ts 80 dt1 (0+node.toNat * 2+0) [(0:Int),(0:Int)]))
def zmP (w:web) (node:Int) (t4t1:Tab) (dt1:Tab):Bool :=
  (decide ((0≤node/\node < (40:Int))) &&
 (zp2 w true t4t1 (ts 80 dt1 (0+node.toNat * 2+0) [(0:Int),(0:Int)])))
theorem zCY (hs:zmP w node t4t1 dt1=true) (hk:K (e76 (zmO w node t4t1 dt1))):z76 K [1,1,1] [] ⟨[(0,zP (.fp (zaC w) 0)),(1,zI node),(4,zp 4 0),(5,zp 5 0)],[(4,.box 116 (zm (zao t4t1))),(5,.box 116 (zm (zao dt1)))],[]⟩:=zaX (by kernel_rfl) (zaQ hs λ hc hs=>And.intro hc (zCX hs hk))
def zhU (w:web) (node:Int) (S0:Int->Tab->Tab->Tab) (zaW:Int) (t4t0:Tab) (dt0:Tab):Tab :=
  (cond (decide (zaW < (40:Int)))
 (S0 (w64 (zaW+(1:Int))) t4t0 (ts 80 dt0 (0+zaW.toNat * 2+0) [(1000000000000:Int),(0:Int)]))
 (zmO w node t4t0 dt0))
def zhV (w:web) (node:Int) (P0:Int->Tab->Tab->Bool) (zaW:Int) (t4t0:Tab) (dt0:Tab):Bool :=
  (cond (decide (zaW < (40:Int)))
 (decide ((0≤zaW/\zaW < (40:Int))) &&
 (P0 (w64 (zaW+(1:Int))) t4t0 (ts 80 dt0 (0+zaW.toNat * 2+0) [(1000000000000:Int),(0:Int)])))
 (zmP w node t4t0 dt0))
def zhW (w:web) (node:Int):Nat->Int->Tab->Tab->Tab:=lpO (λ _ _ _=>default) (zhU w node)
def zhX (w:web) (node:Int):Nat->Int->Tab->Tab->Bool:=lpO (λ _ _ _=>false) (zhV w node)
def zvY (w:web) (node:Int) (zaW:Int) (t4t0:Tab) (dt0:Tab):Tab:=zhW w node Fuel zaW t4t0 dt0
def zvZ (w:web) (node:Int) (zaW:Int) (t4t0:Tab) (dt0:Tab):Bool:=zhX w node Fuel zaW t4t0 dt0
theorem zCZ (hs:zvZ w node zaW t4t0 dt0=true) (hk:K (e76 (zvY w node zaW t4t0 dt0))):z76 K [1,1,0,1,0] [] (zA3 w node zaW t4t0 dt0) :=
  zl (λ X=>z76 K [1,1,0,1,0,0] [X]) (by kernel_rfl) λ X0 hX =>
  (show ∀ k, zGP K w node X0 (zhX w node k) (zhW w node k) from zfW _ _ (zhV w node) (zhU w node) (zGP K w node X0)
 (by intro _ _ _ hs;exact absurd hs Bool.false_ne_true)
 (by intro P0 S0 hX0 zaW t4t0 dt0 hs hk;exact hX _ (zaX (by kernel_rfl) (zc hs hk (λ hs hk=>(zaQ hs λ hc hs=>And.intro hc (hX0 hs hk))) (λ hs hk=>(zCY hs hk)))))) _ hs hk
def s76 (w:web) (node:Int):Tab :=
  (zvY w node (0:Int) (λ _=>(0:Int)) (λ _=>(0:Int)))
def p76 (w:web) (node:Int):Bool :=
  (zvZ w node (0:Int) (λ _=>(0:Int)) (λ _=>(0:Int)))
end
theorem q76 (w:web) (node:Int) (K:List PA->Prop) (hs:p76 w node=true) (hk:K (e76 (s76 w node))):vcFun Tryd.prog G76 zvW 76 [.one (.fp (zaC w) 0),.one (.int .i64 node)] K :=
  zaX (by kernel_rfl) (zCZ hs hk)
def zv0 : List PA → COut
  | [.one (.fp [.int .i64 zan,.sl zai zaF zaj,.fm zbn zaH zaI] 0),.one (.int .i64 a1)]=>.det (IsE enc_40 4 zaF zaj/\zbn=(false,1,false,[none])/\p76 (⟨(⟨zan,(⟨zai,zal zaj⟩:(Sl Tie))⟩:Net),(⟨zaH,zaI⟩:Mp)⟩:web) a1=true) [.agg (zao ((s76 (⟨(⟨zan,(⟨zai,zal zaj⟩:(Sl Tie))⟩:Net),(⟨zaH,zaI⟩:Mp)⟩:web) a1)))]
  | _=>.no
theorem zGR:zas Tryd.prog 76:=⟨_,rfl,rfl,by kernel_rfl⟩
theorem zJk:Ok Tryd.prog 76 zv0:=zbm zJj zGR λ args K h=>by
  unfold zv0 at h
  split at h
  · rename_i zan zai zaF zaj zbn zaH zaI a1
    obtain⟨⟨⟨rfl,zay,rfl⟩,rfl,hs⟩,hk⟩:=h
    try rw[zak zay] at hs
    try rw[zak zay] at hk
    exact⟨(λ _ _=>[]),(λ _=>false),zvW,q76 (⟨(⟨zan,(⟨zai,zay⟩:(Sl Tie))⟩:Net),(⟨zaH,zaI⟩:Mp)⟩:web) a1 K hs hk⟩
  · exact h.elim
abbrev T26:Tabs:=(((Tabs.nil.addF 74 zvL).addF 75 zvV).addF 76 zv0)
theorem zJl:TabsOk Tryd.prog T26:=(((TabsOk.nil.addF zJf).addF zJi).addF zJk)
abbrev G26:Ctrs:=csm T26 (λ _ _=>[]) (λ _=>false)
def zC0:Ann:=⟨45,[(0,zK [1] [1]),(1,zK [1,4,5] [1]),(2,zK [1,4,5,16] [1]),(3,zK [2,3] []),(4,zK [1,6,7] [1,6,7]),(5,zK [6,7,8] [6,7,24]),(6,zK [6,7,8,26,27] [6,7,24]),(7,zK [6,7,8,26,27,28] [6,7,24]),(8,zK [6,7,8,9,26,27] [6,7,24]),(9,zK [6,7,8,26,27] [6,7,24]),(10,zK [6,7,8,26,27] [6,7,24]),(11,zK [2,3] [24])],
 [(7,zK [6,7,8,26,27] [6,7,24])],
 [],
 [],[]⟩
abbrev R26:=((Sl Span)×Int)
abbrev e26 (r:R26):List PA:=[.one (.sl r.1.len 2 (λ i=>zbq (r.1.get i))),.one (.int .i64 r.2)]
@[irreducible] def z26:=ptF Tryd.prog G26 zC0 Tryd.f26
def zA5 (n:Net) (zb9:Int) (zcO:(Sl Span)) (tot0:Tab) (fromt0:Tab) (zfq:Nat->List PV):St:=⟨[(6,zp 6 0),(7,zp 7 0),(8,zv 24),(26,zI (n.Nodes.toNat:Int)),(27,zI zb9)],[(6,.box 116 (zm (zao tot0))),(7,.box 116 (zm (zao fromt0))),(24,.vec 43 2 16 zcO.len zfq)],[]⟩
abbrev zGS (K:List PA->Prop) (n:Net) (X:St->Prop) (P:Int->(Sl Span)->Tab->Tab->Bool) (S:Int->(Sl Span)->Tab->Tab->((Sl Span)×Int)):Prop:=∀ ⦃zb9:Int⦄ ⦃zcO:(Sl Span)⦄ ⦃tot0:Tab⦄ ⦃fromt0:Tab⦄ ⦃zfq:Nat->List PV⦄,P zb9 zcO tot0 fromt0=true->K (e26 (S zb9 zcO tot0 fromt0))->zfq=zg zbq zcO->X (zA5 n zb9 zcO tot0 fromt0 zfq)
section
variable {K:List PA->Prop}{n:Net}{zb9:Int}{zcO:(Sl Span)}{tot0:Tab}{fromt0:Tab}{zfq:Nat->List PV}{X0:St->Prop}{P0:Int->(Sl Span)->Tab->Tab->Bool}{S0:Int->(Sl Span)->Tab->Tab->((Sl Span)×Int)}
def zhY (n:Net) (S0:Int->(Sl Span)->Tab->Tab->((Sl Span)×Int)) (zb9:Int) (zcO:(Sl Span)) (tot0:Tab) (fromt0:Tab):((Sl Span)×Int) :=
  (cond (decide (zb9 < (n.Nodes.toNat : Int)))
 (S0 (w64 (zb9+(1:Int))) (⟨zcO.len,(setT zb9.toNat (⟨(w64 (0 - (tg 80 tot0 (0+zb9.toNat * 2+0)))),(tg 80 fromt0 (0+zb9.toNat * 2+0))⟩:Span) zcO.get)⟩:Sl Span) tot0 fromt0)
 (zcO,(0:Int)))
def zhZ (n:Net) (P0:Int->(Sl Span)->Tab->Tab->Bool) (zb9:Int) (zcO:(Sl Span)) (tot0:Tab) (fromt0:Tab):Bool :=
  (cond (decide (zb9 < (n.Nodes.toNat : Int)))
 (decide ((0≤zb9/\zb9 < (40:Int))) &&
 (decide ((0≤zb9/\zb9 < (40:Int))) &&
 (decide ((0≤zb9/\zb9 < (zcO.len:Int))) &&
 (decide ((zb9.toNat < zcO.len)) &&
 (P0 (w64 (zb9+(1:Int))) (⟨zcO.len,(setT zb9.toNat (⟨(w64 (0 - (tg 80 tot0 (0+zb9.toNat * 2+0)))),(tg 80 fromt0 (0+zb9.toNat * 2+0))⟩:Span) zcO.get)⟩:Sl Span) tot0 fromt0)))))
 true)
def zgC (n:Net):Nat->Int->(Sl Span)->Tab->Tab->((Sl Span)×Int):=lpO (λ _ _ _ _=>default) (zhY n)
def zgD (n:Net):Nat->Int->(Sl Span)->Tab->Tab->Bool:=lpO (λ _ _ _ _=>false) (zhZ n)
def zv1 (n:Net) (zb9:Int) (zcO:(Sl Span)) (tot0:Tab) (fromt0:Tab):((Sl Span)×Int):=zgC n Fuel zb9 zcO tot0 fromt0
def zp3 (n:Net) (zb9:Int) (zcO:(Sl Span)) (tot0:Tab) (fromt0:Tab):Bool:=zgD n Fuel zb9 zcO tot0 fromt0
theorem zC1 (hs:zp3 n zb9 zcO tot0 fromt0=true) (hk:K (e26 (zv1 n zb9 zcO tot0 fromt0))) (zp4:zfq=zg zbq zcO):z26 (Wk K) [1,1,1,1,1,0,1,0] [] (zA5 n zb9 zcO tot0 fromt0 zfq) :=
  zl (λ X=>z26 (Wk K) [1,1,1,1,1,0,1,0,0] [X]) (by kernel_rfl) λ X0 hX =>
  (show ∀ k, zGS K n X0 (zgD n k) (zgC n k) from zfW _ _ (zhZ n) (zhY n) (zGS K n X0)
 (by intro _ _ _ _ _ hs;exact absurd hs Bool.false_ne_true)
 (by intro P0 S0 hX0 zb9 zcO tot0 fromt0 zfq hs hk zp4;subst zp4;exact hX _ (zaX (by kernel_rfl) (zc hs hk (λ hs hk=>(zaQ hs λ hc hs=>And.intro hc (zaQ hs λ hc hs=>And.intro hc (zaQ hs λ hc hs=>And.intro hc (zaQ hs λ hc hs=>And.intro hc (hX0 hs hk (zlz (enc:=zbq) (i:=zb9.toNat) (k:=0) (f:=zcO.get) (new:=(zbq (⟨(w64 (0 - (tg 80 tot0 (0+zb9.toNat * 2+0)))),(tg 80 fromt0 (0+zb9.toNat * 2+0))⟩:Span))) (v:=(⟨(w64 (0 - (tg 80 tot0 (0+zb9.toNat * 2+0)))),(tg 80 fromt0 (0+zb9.toNat * 2+0))⟩:Span)) rfl rfl))))))) (λ hs hk=>((zgn hk):Wk K [.one (.sl zcO.len 2 (λ i=>zbq (zcO.get i))),.one (.int .i64 (0:Int))])))))) _ hs hk zp4
def s26 (n:Net):((Sl Span)×Int) :=
  (cond ((s74 n (⟨0, λ _ => default⟩ : (Sl Int))).2 == 0)
 (cond ((0:Int) != (0:Int))
 ((⟨0,λ _=>default⟩:(Sl Span)),(0:Int))
 (zv1 n (0:Int) (⟨n.Nodes.toNat,(λ _=>(⟨(0:Int),(0:Int)⟩:Span))⟩:Sl Span) (s75 (⟨(s74 n (⟨0,λ _=>default⟩:(Sl Int))).1.Net,((s74 n (⟨0,λ _=>default⟩:(Sl Int))).1.out)⟩:web) (0:Int)) (s76 (⟨(s74 n (⟨0,λ _=>default⟩:(Sl Int))).1.Net,((s74 n (⟨0,λ _=>default⟩:(Sl Int))).1.out)⟩:web) (0:Int))))
 (cond ((s74 n (⟨0, λ _ => default⟩ : (Sl Int))).2 != (0:Int))
 ((⟨0,λ _=>default⟩:(Sl Span)),(s74 n (⟨0,λ _=>default⟩:(Sl Int))).2)
 default))
def p26 (n:Net):Bool :=
  (cond ((s74 n (⟨0, λ _ => default⟩ : (Sl Int))).2 == 0)
 (decide ((p74 n (⟨0,λ _=>default⟩:(Sl Int))=true)) &&
 (cond ((0:Int) != (0:Int))
 true
 (decide ((p75 (⟨(s74 n (⟨0,λ _=>default⟩:(Sl Int))).1.Net,((s74 n (⟨0,λ _=>default⟩:(Sl Int))).1.out)⟩:web) (0:Int)=true)) &&
 (decide ((p76 (⟨(s74 n (⟨0,λ _=>default⟩:(Sl Int))).1.Net,((s74 n (⟨0,λ _=>default⟩:(Sl Int))).1.out)⟩:web) (0:Int)=true)) &&
 (decide ((0≤n.Nodes/\n.Nodes=n.Nodes/\n.Nodes≤1000000)) &&
 (zp3 n (0:Int) (⟨n.Nodes.toNat,(λ _=>(⟨(0:Int),(0:Int)⟩:Span))⟩:Sl Span) (s75 (⟨(s74 n (⟨0,λ _=>default⟩:(Sl Int))).1.Net,((s74 n (⟨0,λ _=>default⟩:(Sl Int))).1.out)⟩:web) (0:Int)) (s76 (⟨(s74 n (⟨0,λ _=>default⟩:(Sl Int))).1.Net,((s74 n (⟨0,λ _=>default⟩:(Sl Int))).1.out)⟩:web) (0:Int))))))))
 (decide ((p74 n (⟨0,λ _=>default⟩:(Sl Int))=true)) &&
 (cond ((s74 n (⟨0, λ _ => default⟩ : (Sl Int))).2 != (0:Int))
 true
 false)))
end
theorem q26 (n:Net) (K:List PA->Prop) (hs:p26 n=true) (hk:K (e26 (s26 n))):vcFun Tryd.prog G26 zC0 26 [.agg (enc_24 n)] (Wk K) :=
  zaX (by kernel_rfl) (zc hs hk (λ hs hk=>(zaQ hs λ hc hs=>And.intro (And.intro (zE enc_40 4 n.Ties.get) hc) (zc hs hk (λ hs hk=>((wk hk (zhp (.one (.nil _ _)) (zhp (.one (.rfl _)) znx))):Wk K [.one (.nils),.one (.int .i64 (0:Int))])) (λ hs hk=>(zaQ hs λ hc hs=>And.intro (And.intro (zE enc_40 4 ((s74 n (⟨0,λ _=>default⟩:(Sl Int))).1.Net.Ties.get)) (And.intro (rfl:((false,1,false,[none]):MQ)=(false,1,false,[none])) hc)) (zaQ hs λ hc hs=>And.intro (And.intro (zE enc_40 4 ((s74 n (⟨0,λ _=>default⟩:(Sl Int))).1.Net.Ties.get)) (And.intro (rfl:((false,1,false,[none]):MQ)=(false,1,false,[none])) hc)) (zaQ hs λ hc hs=>And.intro hc (zC1 hs hk rfl)))))))) (λ hs hk=>(zaQ hs λ hc hs=>And.intro (And.intro (zE enc_40 4 n.Ties.get) hc) (zc hs hk (λ hs hk=>((wk hk (zhp (.one (.nil _ _)) (zhp (.one (.rfl _)) znx))):Wk K [.one (.nils),.one (.int .i64 ((s74 n (⟨0,λ _=>default⟩:(Sl Int))).2))])) (λ hs hk=>(absurd hs Bool.false_ne_true:False))))))
def zzX : List PA → COut
  | [.agg [.int .i64 zah,.sl zae zaz zad]]=>.det (IsE enc_40 4 zaz zad/\p26 (⟨zah,(⟨zae,zal zad⟩:(Sl Tie))⟩:Net)=true) [.one (.sl (((s26 (⟨zah,(⟨zae,zal zad⟩:(Sl Tie))⟩:Net)).1).len) 2 (λ i=>zbq (((s26 (⟨zah,(⟨zae,zal zad⟩:(Sl Tie))⟩:Net)).1).get i))),.one (.int .i64 ((s26 (⟨zah,(⟨zae,zal zad⟩:(Sl Tie))⟩:Net)).2))]
  | _=>.no
theorem zGT:zas Tryd.prog 26:=⟨_,rfl,rfl,by kernel_rfl⟩
theorem zKz:Ok Tryd.prog 26 zzX:=zhC zJl zGT λ args K h=>by
  unfold zzX at h
  split at h
  · rename_i zah zae zaz zad
    obtain⟨⟨⟨rfl,zar,rfl⟩,hs⟩,hk⟩:=h
    try rw[zak zar] at hs
    try rw[zak zar] at hk
    exact⟨_,zff zgm _,(λ _ _=>[]),(λ _=>false),zC0,q26 (⟨zah,(⟨zae,zar⟩:(Sl Tie))⟩:Net) K hs hk⟩
  · exact h.elim
abbrev zKA:Tabs:=(((Tabs.nil.addF 93 zop).addF 104 zos).addI 110 zor)
theorem zGU:TabsOk Tryd.prog zKA:=(((TabsOk.nil.addF zFE).addF zCL).addI ztG)
abbrev zII:Ctrs:=csm zKA (λ _ _=>[]) (λ _=>false)
def zot:Ann:=⟨91,[(0,zK [0,2,4] [4]),(1,zK [0,2,4,7] [4,7,15]),(2,zK [0,2,4,7,17,18] [4,7,15]),(3,zK [0,2,4,7,17,18,19] [4,7,15]),(4,zK [0,2,4,7,8,17,18] [4,7,15]),(5,zK [0,2,4,7,8,17,18,21] [4,7,15]),(6,zK [0,2,4,7,8,17,18,21,22] [4,7,15]),(7,zK [0,2,4,7,8,9,17,18,21] [4,7,15]),(8,zK [0,2,4,7,8,17,18,21] [4,7,15]),(9,zK [0,2,4,7,8,17,18,21] [4,7,15]),(10,zK [0,2,4,7,17,18] [4,7,15]),(11,zK [0,2,4,7] [4,7,15]),(12,zK [0,2,4,7,10] [4,7,10,15]),(13,zK [0,2,4,7,10,39] [4,7,10,15]),(14,zK [0,2,4,7,10] [4,7,10,15]),(15,zK [0,2,4,7,10,43] [4,7,10,15]),(16,zK [0,2,4,7,10,11,43] [4,7,10,11,15]),(17,zK [0,2,4,7,10,11,12,43] [4,7,10,11,12,15]),(18,zK [0,2,4,7,10,11,12,43,67] [4,7,10,11,12,15]),(19,zK [0,2,4,7,10,43] [4,7,10,15]),(20,zK [0,2,4,7,89] [4,7,15]),(21,zK [0,2,4,7,10] [4,7,10,15]),(22,zK [6] [15])],
 [(3,zK [0,2,4,7,17,18] [4,7,15]),(6,zK [0,2,4,7,8,17,18,21] [4,7,15]),(13,zK [0,2,4,7,10] [4,7,10,15]),(16,zK [0,2,4,7,10,43] [4,7,10,15])],
 [(11,zK [0,2,4,7] [4,7,15])],
 [],[]⟩
abbrev zK4:=(Sl Tab)
abbrev zyM (r:zK4):List PA:=[.one (.sl r.len 80 (λ i=>zao (r.get i)))]
@[irreducible] def z106:=ptF Tryd.prog zII zot Tryd.f106
@[irreducible] def x106:=exF Tryd.prog zII zot Tryd.f106
@[irreducible] def y106:=rnF Tryd.prog zII zot Tryd.f106
def zv2 (w:web) (node:Int) (uses:Int) (zdQ:Int) (zdR:(Sl Tab)) (zfr:Nat->List PV):St:=⟨[(0,zP (.fp (zaC w) 0)),(2,zI uses),(4,zp 4 0),(7,zp 7 0),(17,zI ((w64 (uses+(1:Int))).toNat:Int)),(18,zI zdQ)],[(4,.box 3 [zi node]),(7,.box 159 [.vec 15]),(15,.vec 116 80 640 zdR.len zfr)],[]⟩
abbrev zv3 (K:List PA->Prop) (w:web) (node:Int) (uses:Int) (X:St->Prop) (P:Int->(Sl Tab)->Bool) (S:Int->(Sl Tab)->(Sl Tab)):Prop:=∀ ⦃zdQ:Int⦄ ⦃zdR:(Sl Tab)⦄ ⦃zfr:Nat->List PV⦄,P zdQ zdR=true->K (zyM (S zdQ zdR))->zfr=zg zao zdR->X (zv2 w node uses zdQ zdR zfr)
def zv4 (w:web) (node:Int) (uses:Int) (iv1:Int) (zcN:Int) (zc6:Int) (zcA:(Sl Tab)) (zfs:Nat->List PV):St:=⟨[(0,zP (.fp (zaC w) 0)),(2,zI uses),(4,zp 4 0),(7,zp 7 0),(8,zI iv1),(17,zI ((w64 (uses+(1:Int))).toNat:Int)),(18,zI zcN),(21,zI zc6)],[(4,.box 3 [zi node]),(7,.box 159 [.vec 15]),(15,.vec 116 80 640 zcA.len zfs)],[]⟩
abbrev zA6 (K:List PA->Prop) (w:web) (node:Int) (uses:Int) (X:St->Prop) (P:Int->Int->Int->(Sl Tab)->Bool) (S:Int->Int->Int->(Sl Tab)->(Sl Tab)):Prop:=∀ ⦃iv1:Int⦄ ⦃zcN:Int⦄ ⦃zc6:Int⦄ ⦃zcA:(Sl Tab)⦄ ⦃zfs:Nat->List PV⦄,P iv1 zcN zc6 zcA=true->K (zyM (S iv1 zcN zc6 zcA))->zfs=zg zao zcA->X (zv4 w node uses iv1 zcN zc6 zcA zfs)
def zv5 (w:web) (node:Int) (uses:Int) (kv3:Int) (zec:(Sl Tab)) (zft:Nat->List PV):St:=⟨[(0,zP (.fp (zaC w) 0)),(2,zI uses),(4,zp 4 0),(7,zp 7 0),(10,zp 10 0)],[(4,.box 3 [zi node]),(7,.box 159 [.vec 15]),(10,.box 3 [zi kv3]),(15,.vec 116 80 640 zec.len zft)],[]⟩
abbrev zv6 (K:List PA->Prop) (w:web) (node:Int) (uses:Int) (X:St->Prop) (P:Int->(Sl Tab)->Bool) (S:Int->(Sl Tab)->(Sl Tab)):Prop:=∀ ⦃kv3:Int⦄ ⦃zec:(Sl Tab)⦄ ⦃zft:Nat->List PV⦄,P kv3 zec=true->K (zyM (S kv3 zec))->zft=zg zao zec->X (zv5 w node uses kv3 zec zft)
def zp5 (w:web) (node:Int) (uses:Int) (kv4:Int) (za1:(Sl Tab)) (zed:Nat->List PV):St:=⟨[(0,zP (.fp (zaC w) 0)),(2,zI uses),(4,zp 4 0),(7,zp 7 0),(10,zp 10 0),(43,zP (.fn 110 [] [.fp [.fp (zaC w) 0] 0]))],[(4,.box 3 [zi node]),(7,.box 159 [.vec 15]),(10,.box 3 [zi kv4]),(15,.vec 116 80 640 za1.len zed)],[]⟩
abbrev zA7 (K:List PA->Prop) (w:web) (node:Int) (uses:Int) (X:St->Prop) (P:Int->(Sl Tab)->Bool) (S:Int->(Sl Tab)->(Sl Tab)):Prop:=∀ ⦃kv4:Int⦄ ⦃za1:(Sl Tab)⦄ ⦃zed:Nat->List PV⦄,P kv4 za1=true->K (zyM (S kv4 za1))->zed=zg zao za1->X (zp5 w node uses kv4 za1 zed)
section
variable {K:List PA->Prop}{w:web}{node:Int}{uses:Int}{zdQ:Int}{zdR:(Sl Tab)}{zfr:Nat->List PV}{X0:St->Prop}{P0:Int->(Sl Tab)->Bool}{S0:Int->(Sl Tab)->(Sl Tab)}{iv1:Int}{zcN:Int}{zc6:Int}{zcA:(Sl Tab)}{zfs:Nat->List PV}{X1:St->Prop}{P1:Int->Int->Int->(Sl Tab)->Bool}{S1:Int->Int->Int->(Sl Tab)->(Sl Tab)}{zfu:(Sl Tab)}{zv7:Nat->List PV}{kv3:Int}{zec:(Sl Tab)}{zft:Nat->List PV}{X3:St->Prop}{P3:Int->(Sl Tab)->Bool}{S3:Int->(Sl Tab)->(Sl Tab)}{kv4:Int}{za1:(Sl Tab)}{zed:Nat->List PV}
def zzY (S3:Int->(Sl Tab)->(Sl Tab)) (w:web) (node:Int) (uses:Int) (kv4:Int) (za1:(Sl Tab)):(Sl Tab) :=
  (S3 (w64 (kv4+(1:Int))) za1)
def zzZ (P3:Int->(Sl Tab)->Bool) (w:web) (node:Int) (uses:Int) (kv4:Int) (za1:(Sl Tab)):Bool :=
  (P3 (w64 (kv4+(1:Int))) za1)
def zjb (S3:Int->(Sl Tab)->(Sl Tab)) (w:web) (node:Int) (uses:Int) (y4:step) (S4:Int->(Sl Tab)->(Sl Tab)) (kv4:Int) (za1:(Sl Tab)):(Sl Tab) :=
  (cond (decide (y4.from_ ≥ node))
 (cond (decide (y4.to ≥ node))
 (cond (!(nvr (tg 80 (za1.get ((w64 (kv4 - (1:Int))).toNat)) (0 + y4.to.toNat * 2 + 0)) (tg 80 (za1.get ((w64 (kv4 - (1:Int))).toNat)) (0 + y4.to.toNat * 2 + 0 + 1))))
 (S4 kv4 (⟨za1.len,(setT kv4.toNat (ts 80 (za1.get kv4.toNat) (0+y4.from_.toNat * 2+0) [(zct (⟨(tL (za1.get kv4.toNat) y4.from_),(tU (za1.get kv4.toNat) y4.from_)⟩:far) (⟨1,λ _=>(⟨(w64 ((tg 80 (za1.get ((w64 (kv4 - (1:Int))).toNat)) (0+y4.to.toNat * 2+0))+y4.length)),(0:Int)⟩:far)⟩:(Sl far))).length,(zct (⟨(tL (za1.get kv4.toNat) y4.from_),(tU (za1.get kv4.toNat) y4.from_)⟩:far) (⟨1,λ _=>(⟨(w64 ((tg 80 (za1.get ((w64 (kv4 - (1:Int))).toNat)) (0+y4.to.toNat * 2+0))+y4.length)),(0:Int)⟩:far)⟩:(Sl far))).uses]) za1.get)⟩:Sl Tab))
 (S4 kv4 za1))
 (S4 kv4 za1))
 (S4 kv4 za1))
def zjc (P3:Int->(Sl Tab)->Bool) (w:web) (node:Int) (uses:Int) (y4:step) (P4:Int->(Sl Tab)->Bool) (kv4:Int) (za1:(Sl Tab)):Bool :=
  (decide ((0≤(w64 (kv4 - (1:Int)))/\(w64 (kv4 - (1:Int))) < (za1.len:Int))) &&
 (decide ((0≤y4.to/\y4.to < (40:Int))) &&
 (decide (((w64 (kv4 - (1:Int))).toNat < za1.len)) &&
 (cond (decide (y4.from_ ≥ node))
 (cond (decide (y4.to ≥ node))
 (cond (!(nvr (tg 80 (za1.get ((w64 (kv4 - (1:Int))).toNat)) (0 + y4.to.toNat * 2 + 0)) (tg 80 (za1.get ((w64 (kv4 - (1:Int))).toNat)) (0 + y4.to.toNat * 2 + 0 + 1))))
 (decide ((0≤kv4/\kv4 < (za1.len:Int))) &&
 (decide ((0≤y4.from_/\y4.from_ < (40:Int))) &&
 (decide ((kv4.toNat < za1.len)) &&
 (decide ((zyL (⟨(tL (za1.get kv4.toNat) y4.from_),(tU (za1.get kv4.toNat) y4.from_)⟩:far) (⟨1,λ _=>(⟨(w64 ((tg 80 (za1.get ((w64 (kv4 - (1:Int))).toNat)) (0+y4.to.toNat * 2+0))+y4.length)),(0:Int)⟩:far)⟩:(Sl far))=true)) &&
 (decide ((0≤kv4/\kv4 < (za1.len:Int))) &&
 (decide ((0≤y4.from_/\y4.from_ < (40:Int))) &&
 (decide ((kv4.toNat < za1.len)) &&
 (P4 kv4 (⟨za1.len,(setT kv4.toNat (ts 80 (za1.get kv4.toNat) (0+y4.from_.toNat * 2+0) [(zct (⟨(tL (za1.get kv4.toNat) y4.from_),(tU (za1.get kv4.toNat) y4.from_)⟩:far) (⟨1,λ _=>(⟨(w64 ((tg 80 (za1.get ((w64 (kv4 - (1:Int))).toNat)) (0+y4.to.toNat * 2+0))+y4.length)),(0:Int)⟩:far)⟩:(Sl far))).length,(zct (⟨(tL (za1.get kv4.toNat) y4.from_),(tU (za1.get kv4.toNat) y4.from_)⟩:far) (⟨1,λ _=>(⟨(w64 ((tg 80 (za1.get ((w64 (kv4 - (1:Int))).toNat)) (0+y4.to.toNat * 2+0))+y4.length)),(0:Int)⟩:far)⟩:(Sl far))).uses]) za1.get)⟩:Sl Tab)))))))))
 (P4 kv4 za1))
 (P4 kv4 za1))
 (P4 kv4 za1)))))
def zjd (S3:Int->(Sl Tab)->(Sl Tab)) (w:web) (node:Int) (uses:Int):List step->Int->(Sl Tab)->(Sl Tab):=lpR (zzY S3 w node uses) (zjb S3 w node uses)
def zje (P3:Int->(Sl Tab)->Bool) (w:web) (node:Int) (uses:Int):List step->Int->(Sl Tab)->Bool:=lpR (zzZ P3 w node uses) (zjc P3 w node uses)
def zmQ (S3:Int->(Sl Tab)->(Sl Tab)) (w:web) (node:Int) (uses:Int) (kv4:Int) (za1:(Sl Tab)):(Sl Tab):=zjd S3 w node uses (zkn w) kv4 za1
def zmR (P3:Int->(Sl Tab)->Bool) (w:web) (node:Int) (uses:Int) (kv4:Int) (za1:(Sl Tab)):Bool:=decide ((ztU w=true)) && zje P3 w node uses (zkn w) kv4 za1
theorem zz0 (hX3:zv6 K w node uses X3 P3 S3) (hs:zmR P3 w node uses kv4 za1=true) (hk:K (zyM (zmQ S3 w node uses kv4 za1))) (zko:zed=zg zao za1):z106 K [1,1,1,1,0,1,0,0,1,0,0,1,0] [X3] (zp5 w node uses kv4 za1 zed) :=
  zaQ hs λ hc hs=>zr (enc:=(λ y:step=>[.agg (zaA y)])) (ys:=zkn w) (g:=(zp5 w node uses kv4 za1 zed)) (x106 K [1,1,1,1,0,1,0,0,1,0,0,1,0] [X3]) (y106 K [1,1,1,1,0,1,0,0,1,0,0,1,0] [X3]) (by kernel_rfl) (And.intro (zE enc_40 4 w.Net.Ties.get) (And.intro (rfl:((false,1,false,[none]):MQ)=(false,1,false,[none])) hc)) λ X4 hE hR =>
  (show ∀ l : List step, zA7 K w node uses (X4 (l.map (λ y : step => [.agg (zaA y)]))) (zje P3 w node uses l) (zjd S3 w node uses l) from zri (X := X4) (enc := (λ y : step => [.agg (zaA y)])) _ _ (zjc P3 w node uses) (zjb S3 w node uses) (λ Z P S => zA7 K w node uses Z P S)
 (by intro kv4 za1 zed hs hk zko;subst zko;exact hE _ (zaX (by kernel_rfl) (hX3 hs hk rfl)))
 (by intro y4 rest P4 S4 hX4 kv4 za1 zed hs hk zko;subst zko;exact hR _ rest _ (zaX (by kernel_rfl) (zaQ hs λ hc hs=>And.intro hc (zaQ hs λ hc hs=>And.intro hc (zaQ hs λ hc hs=>And.intro hc (zc hs hk (λ hs hk=>(zc hs hk (λ hs hk=>(zc hs hk (λ hs hk=>(zaQ hs λ hc hs=>And.intro hc (zaQ hs λ hc hs=>And.intro hc (zaQ hs λ hc hs=>And.intro hc (zaQ hs λ hc hs=>And.intro (And.intro (zvv:IsE zb5 2 2 (λ _=>(zb5 (⟨(w64 ((tg 80 (za1.get ((w64 (kv4 - (1:Int))).toNat)) (0+y4.to.toNat * 2+0))+y4.length)),(0:Int)⟩:far)))) hc) (zaQ hs λ hc hs=>And.intro hc (zaQ hs λ hc hs=>And.intro hc (zaQ hs λ hc hs=>And.intro hc (hX4 hs hk (zlz (enc:=zao) (i:=kv4.toNat) (k:=0) (f:=za1.get) (new:=(zao (ts 80 (za1.get kv4.toNat) (0+y4.from_.toNat * 2+0) [(zct (⟨(tL (za1.get kv4.toNat) y4.from_),(tU (za1.get kv4.toNat) y4.from_)⟩:far) (⟨1,λ _=>(⟨(w64 ((tg 80 (za1.get ((w64 (kv4 - (1:Int))).toNat)) (0+y4.to.toNat * 2+0))+y4.length)),(0:Int)⟩:far)⟩:(Sl far))).length,(zct (⟨(tL (za1.get kv4.toNat) y4.from_),(tU (za1.get kv4.toNat) y4.from_)⟩:far) (⟨1,λ _=>(⟨(w64 ((tg 80 (za1.get ((w64 (kv4 - (1:Int))).toNat)) (0+y4.to.toNat * 2+0))+y4.length)),(0:Int)⟩:far)⟩:(Sl far))).uses]))) (v:=(ts 80 (za1.get kv4.toNat) (0+y4.from_.toNat * 2+0) [(zct (⟨(tL (za1.get kv4.toNat) y4.from_),(tU (za1.get kv4.toNat) y4.from_)⟩:far) (⟨1,λ _=>(⟨(w64 ((tg 80 (za1.get ((w64 (kv4 - (1:Int))).toNat)) (0+y4.to.toNat * 2+0))+y4.length)),(0:Int)⟩:far)⟩:(Sl far))).length,(zct (⟨(tL (za1.get kv4.toNat) y4.from_),(tU (za1.get kv4.toNat) y4.from_)⟩:far) (⟨1,λ _=>(⟨(w64 ((tg 80 (za1.get ((w64 (kv4 - (1:Int))).toNat)) (0+y4.to.toNat * 2+0))+y4.length)),(0:Int)⟩:far)⟩:(Sl far))).uses])) rfl zmn)))))))))) (λ hs hk=>(hX4 hs hk rfl)))) (λ hs hk=>(hX4 hs hk rfl)))) (λ hs hk=>(hX4 hs hk rfl))))))))) _ hs hk zko
def zf1 (w:web) (node:Int) (uses:Int) (S3:Int->(Sl Tab)->(Sl Tab)) (kv3:Int) (zec:(Sl Tab)):(Sl Tab) :=
  (cond (decide (kv3 ≤ uses))
 (zmQ S3 w node uses kv3 zec)
 zec)
def zf2 (w:web) (node:Int) (uses:Int) (P3:Int->(Sl Tab)->Bool) (kv3:Int) (zec:(Sl Tab)):Bool :=
  (cond (decide (kv3 ≤ uses))
 (zmR P3 w node uses kv3 zec)
 true)
def zcY (w:web) (node:Int) (uses:Int):Nat->Int->(Sl Tab)->(Sl Tab):=lpO (λ _ _=>default) (zf1 w node uses)
def zds (w:web) (node:Int) (uses:Int):Nat->Int->(Sl Tab)->Bool:=lpO (λ _ _=>false) (zf2 w node uses)
def zmS (w:web) (node:Int) (uses:Int) (kv3:Int) (zec:(Sl Tab)):(Sl Tab):=zcY w node uses Fuel kv3 zec
def zmT (w:web) (node:Int) (uses:Int) (kv3:Int) (zec:(Sl Tab)):Bool:=zds w node uses Fuel kv3 zec
theorem zz1 (hs:zmT w node uses kv3 zec=true) (hk:K (zyM (zmS w node uses kv3 zec))) (zp6:zft=zg zao zec):z106 K [1,1,1,1,0,1,0] [] (zv5 w node uses kv3 zec zft) :=
  zl (λ X=>z106 K [1,1,1,1,0,1,0,0] [X]) (by kernel_rfl) λ X3 hX =>
  (show ∀ k, zv6 K w node uses X3 (zds w node uses k) (zcY w node uses k) from zfW _ _ (zf2 w node uses) (zf1 w node uses) (zv6 K w node uses X3)
 (by intro _ _ _ hs;exact absurd hs Bool.false_ne_true)
 (by intro P3 S3 hX3 kv3 zec zft hs hk zp6;subst zp6;exact hX _ (zaX (by kernel_rfl) (zc hs hk (λ hs hk=>(And.intro (And.intro (zE enc_40 4 w.Net.Ties.get) (rfl:((false,1,false,[none]):MQ)=(false,1,false,[none]))) (zz0 hX3 hs hk rfl))) (λ hs hk=>hk))))) _ hs hk zp6
def zjf (w:web) (node:Int) (uses:Int) (zfu:(Sl Tab)):(Sl Tab) :=
  (zmS w node uses (1:Int) (⟨zfu.len,(setT 0 (ts 80 (zfu.get 0) (0+node.toNat * 2+0) [(0:Int),(0:Int)]) zfu.get)⟩:Sl Tab))
def zjg (w:web) (node:Int) (uses:Int) (zfu:(Sl Tab)):Bool :=
  (decide ((0≤(0:Int)/\(0:Int) < (zfu.len:Int))) &&
 (decide ((0≤node/\node < (40:Int))) &&
 (decide ((0 < zfu.len)) &&
 (zmT w node uses (1:Int) (⟨zfu.len,(setT 0 (ts 80 (zfu.get 0) (0+node.toNat * 2+0) [(0:Int),(0:Int)]) zfu.get)⟩:Sl Tab)))))
theorem zz2 (hs:zjg w node uses zfu=true) (hk:K (zyM (zjf w node uses zfu))) (zC2:zv7=zg zao zfu):z106 K [1,1,1] [] ⟨[(0,zP (.fp (zaC w) 0)),(2,zI uses),(4,zp 4 0),(7,zp 7 0)],[(4,.box 3 [zi node]),(7,.box 159 [.vec 15]),(15,.vec 116 80 640 zfu.len zv7)],[]⟩:=by subst zC2;exact zaX (by kernel_rfl) (zaQ hs λ hc hs=>And.intro hc (zaQ hs λ hc hs=>And.intro hc (zaQ hs λ hc hs=>And.intro hc (zz1 hs hk (zlz (enc:=zao) (i:=0) (k:=0) (f:=zfu.get) (new:=(zao (ts 80 (zfu.get 0) (0+node.toNat * 2+0) [(0:Int),(0:Int)]))) (v:=(ts 80 (zfu.get 0) (0+node.toNat * 2+0) [(0:Int),(0:Int)])) rfl zmn)))))
def zf3 (S0:Int->(Sl Tab)->(Sl Tab)) (w:web) (node:Int) (uses:Int) (S1:Int->Int->Int->(Sl Tab)->(Sl Tab)) (iv1:Int) (zcN:Int) (zc6:Int) (zcA:(Sl Tab)):(Sl Tab) :=
  (cond (decide (zc6 < (40:Int)))
 (S1 iv1 zcN (w64 (zc6+(1:Int))) (⟨zcA.len,(setT iv1.toNat (ts 80 (zcA.get iv1.toNat) (0+zc6.toNat * 2+0) [(1000000000000:Int),(0:Int)]) zcA.get)⟩:Sl Tab))
 (S0 (w64 (zcN+(1:Int))) zcA))
def zf4 (P0:Int->(Sl Tab)->Bool) (w:web) (node:Int) (uses:Int) (P1:Int->Int->Int->(Sl Tab)->Bool) (iv1:Int) (zcN:Int) (zc6:Int) (zcA:(Sl Tab)):Bool :=
  (cond (decide (zc6 < (40:Int)))
 (decide ((0≤iv1/\iv1 < (zcA.len:Int))) &&
 (decide ((0≤zc6/\zc6 < (40:Int))) &&
 (decide ((iv1.toNat < zcA.len)) &&
 (P1 iv1 zcN (w64 (zc6+(1:Int))) (⟨zcA.len,(setT iv1.toNat (ts 80 (zcA.get iv1.toNat) (0+zc6.toNat * 2+0) [(1000000000000:Int),(0:Int)]) zcA.get)⟩:Sl Tab)))))
 (P0 (w64 (zcN+(1:Int))) zcA))
def zhc (S0:Int->(Sl Tab)->(Sl Tab)) (w:web) (node:Int) (uses:Int):Nat->Int->Int->Int->(Sl Tab)->(Sl Tab):=lpO (λ _ _ _ _=>default) (zf3 S0 w node uses)
def zhd (P0:Int->(Sl Tab)->Bool) (w:web) (node:Int) (uses:Int):Nat->Int->Int->Int->(Sl Tab)->Bool:=lpO (λ _ _ _ _=>false) (zf4 P0 w node uses)
def zsw (S0:Int->(Sl Tab)->(Sl Tab)) (w:web) (node:Int) (uses:Int) (iv1:Int) (zcN:Int) (zc6:Int) (zcA:(Sl Tab)):(Sl Tab):=zhc S0 w node uses Fuel iv1 zcN zc6 zcA
def zsx (P0:Int->(Sl Tab)->Bool) (w:web) (node:Int) (uses:Int) (iv1:Int) (zcN:Int) (zc6:Int) (zcA:(Sl Tab)):Bool:=zhd P0 w node uses Fuel iv1 zcN zc6 zcA
theorem zz3 (hX0:zv3 K w node uses X0 P0 S0) (hs:zsx P0 w node uses iv1 zcN zc6 zcA=true) (hk:K (zyM (zsw S0 w node uses iv1 zcN zc6 zcA))) (zp7:zfs=zg zao zcA):z106 K [1,1,0,1,0,0,1,1,0,0,1,1,0] [X0] (zv4 w node uses iv1 zcN zc6 zcA zfs) :=
  zl (λ X=>z106 K [1,1,0,1,0,0,1,1,0,0,1,1,0,0] [X0,X]) (by kernel_rfl) λ X1 hX =>
  (show ∀ k, zA6 K w node uses X1 (zhd P0 w node uses k) (zhc S0 w node uses k) from zfW _ _ (zf4 P0 w node uses) (zf3 S0 w node uses) (zA6 K w node uses X1)
 (by intro _ _ _ _ _ hs;exact absurd hs Bool.false_ne_true)
 (by intro P1 S1 hX1 iv1 zcN zc6 zcA zfs hs hk zp7;subst zp7;exact hX _ (zaX (by kernel_rfl) (zc hs hk (λ hs hk=>(zaQ hs λ hc hs=>And.intro hc (zaQ hs λ hc hs=>And.intro hc (zaQ hs λ hc hs=>And.intro hc (hX1 hs hk (zlz (enc:=zao) (i:=iv1.toNat) (k:=0) (f:=zcA.get) (new:=(zao (ts 80 (zcA.get iv1.toNat) (0+zc6.toNat * 2+0) [(1000000000000:Int),(0:Int)]))) (v:=(ts 80 (zcA.get iv1.toNat) (0+zc6.toNat * 2+0) [(1000000000000:Int),(0:Int)])) rfl zmn)))))) (λ hs hk=>(hX0 hs hk rfl)))))) _ hs hk zp7
def zf5 (w:web) (node:Int) (uses:Int) (S0:Int->(Sl Tab)->(Sl Tab)) (zdQ:Int) (zdR:(Sl Tab)):(Sl Tab) :=
  (cond (decide (zdQ < ((w64 (uses + (1:Int))).toNat : Int)))
 (zsw S0 w node uses zdQ zdQ (0:Int) zdR)
 (zjf w node uses zdR))
def zf6 (w:web) (node:Int) (uses:Int) (P0:Int->(Sl Tab)->Bool) (zdQ:Int) (zdR:(Sl Tab)):Bool :=
  (cond (decide (zdQ < ((w64 (uses + (1:Int))).toNat : Int)))
 (zsx P0 w node uses zdQ zdQ (0:Int) zdR)
 (zjg w node uses zdR))
def zf7 (w:web) (node:Int) (uses:Int):Nat->Int->(Sl Tab)->(Sl Tab):=lpO (λ _ _=>default) (zf5 w node uses)
def zf8 (w:web) (node:Int) (uses:Int):Nat->Int->(Sl Tab)->Bool:=lpO (λ _ _=>false) (zf6 w node uses)
def zmU (w:web) (node:Int) (uses:Int) (zdQ:Int) (zdR:(Sl Tab)):(Sl Tab):=zf7 w node uses Fuel zdQ zdR
def zmV (w:web) (node:Int) (uses:Int) (zdQ:Int) (zdR:(Sl Tab)):Bool:=zf8 w node uses Fuel zdQ zdR
theorem zz4 (hs:zmV w node uses zdQ zdR=true) (hk:K (zyM (zmU w node uses zdQ zdR))) (zp8:zfr=zg zao zdR):z106 K [1,1,0,1,0] [] (zv2 w node uses zdQ zdR zfr) :=
  zl (λ X=>z106 K [1,1,0,1,0,0] [X]) (by kernel_rfl) λ X0 hX =>
  (show ∀ k, zv3 K w node uses X0 (zf8 w node uses k) (zf7 w node uses k) from zfW _ _ (zf6 w node uses) (zf5 w node uses) (zv3 K w node uses X0)
 (by intro _ _ _ hs;exact absurd hs Bool.false_ne_true)
 (by intro P0 S0 hX0 zdQ zdR zfr hs hk zp8;subst zp8;exact hX _ (zaX (by kernel_rfl) (zc hs hk (λ hs hk=>(zz3 hX0 hs hk rfl)) (λ hs hk=>(zz2 hs hk rfl)))))) _ hs hk zp8
def zsy (w:web) (node:Int) (uses:Int):(Sl Tab) :=
  (zmU w node uses (0:Int) (⟨(w64 (uses+(1:Int))).toNat,(λ _=>(λ _=>(0:Int)))⟩:Sl Tab))
def zFF (w:web) (node:Int) (uses:Int):Bool :=
  (decide ((0≤(w64 (uses+(1:Int)))/\(w64 (uses+(1:Int)))=(w64 (uses+(1:Int)))/\(w64 (uses+(1:Int)))≤1000000)) &&
 (zmV w node uses (0:Int) (⟨(w64 (uses+(1:Int))).toNat,(λ _=>(λ _=>(0:Int)))⟩:Sl Tab)))
end
theorem zK5 (w:web) (node:Int) (uses:Int) (K:List PA->Prop) (hs:zFF w node uses=true) (hk:K (zyM (zsy w node uses))):vcFun Tryd.prog zII zot 106 [.one (.fp (zaC w) 0),.one (.int .i64 node),.one (.int .i64 uses)] K :=
  zaX (by kernel_rfl) (zaQ hs λ hc hs=>And.intro hc (zz4 hs hk rfl))
def zv8 : List PA → COut
  | [.one (.fp [.int .i64 zan,.sl zai zaF zaj,.fm zbn zaH zaI] 0),.one (.int .i64 a1),.one (.int .i64 a2)]=>.det (IsE enc_40 4 zaF zaj/\zbn=(false,1,false,[none])/\zFF (⟨(⟨zan,(⟨zai,zal zaj⟩:(Sl Tie))⟩:Net),(⟨zaH,zaI⟩:Mp)⟩:web) a1 a2=true) [.one (.sl ((zsy (⟨(⟨zan,(⟨zai,zal zaj⟩:(Sl Tie))⟩:Net),(⟨zaH,zaI⟩:Mp)⟩:web) a1 a2).len) 80 (λ i=>zao ((zsy (⟨(⟨zan,(⟨zai,zal zaj⟩:(Sl Tie))⟩:Net),(⟨zaH,zaI⟩:Mp)⟩:web) a1 a2).get i)))]
  | _=>.no
theorem zC3:zas Tryd.prog 106:=⟨_,rfl,rfl,by kernel_rfl⟩
theorem zJm:Ok Tryd.prog 106 zv8:=zbm zGU zC3 λ args K h=>by
  unfold zv8 at h
  split at h
  · rename_i zan zai zaF zaj zbn zaH zaI a1 a2
    obtain⟨⟨⟨rfl,zay,rfl⟩,rfl,hs⟩,hk⟩:=h
    try rw[zak zay] at hs
    try rw[zak zay] at hk
    exact⟨(λ _ _=>[]),(λ _=>false),zot,zK5 (⟨(⟨zan,(⟨zai,zay⟩:(Sl Tie))⟩:Net),(⟨zaH,zaI⟩:Mp)⟩:web) a1 a2 K hs hk⟩
  · exact h.elim
abbrev zKB:Tabs:=Tabs.nil
theorem zGV:TabsOk Tryd.prog zKB:=TabsOk.nil
abbrev zKC:Ctrs:=csm zKB (λ _ _=>[]) (λ _=>false)
def zv9:Ann:=⟨18,[(0,zK [0] []),(1,zK [0,3] []),(2,zK [3,6,7,8] []),(3,zK [3,6,7,8,9] []),(4,zK [3,5,6,7,8] []),(5,zK [3,5,6,7,8,14] []),(6,zK [2] []),(7,zK [3,6,7,8] []),(8,zK [2] [])],
 [(3,zK [3,6,7,8] [])],
 [],
 [],[]⟩
abbrev zK6:=Int
abbrev zJn (r:zK6):List PA:=[.one (.int .i64 r)]
@[irreducible] def z100:=ptF Tryd.prog zKC zv9 Tryd.f100
def zwa (vals:(Sl Int)) (zdj:Int):St:=⟨[(3,zI (0:Int)),(6,zS enc_3 1 vals),(7,zI (vals.len:Int)),(8,zI zdj)],[],[]⟩
abbrev zA8 (K:List PA->Prop) (vals:(Sl Int)) (X:St->Prop) (P:Int->Bool) (S:Int->Int):Prop:=∀ ⦃zdj:Int⦄,P zdj=true->K (zJn (S zdj))->X (zwa vals zdj)
section
variable {K:List PA->Prop}{vals:(Sl Int)}{zdj:Int}{X0:St->Prop}{P0:Int->Bool}{S0:Int->Int}
def zsz (vals:(Sl Int)) (S0:Int->Int) (zdj:Int):Int :=
  (cond (decide (zdj < (vals.len : Int)))
 (cond ((vals.get zdj.toNat) != (0:Int))
 (vals.get zdj.toNat)
 (S0 (w64 (zdj+(1:Int)))))
 (0:Int))
def zf9 (vals:(Sl Int)) (P0:Int->Bool) (zdj:Int):Bool :=
  (cond (decide (zdj < (vals.len : Int)))
 (decide ((0≤zdj/\zdj < (vals.len:Int))) &&
 (cond ((vals.get zdj.toNat) != (0:Int))
 true
 (P0 (w64 (zdj+(1:Int))))))
 true)
def zsA (vals:(Sl Int)):Nat->Int->Int:=lpO (λ _=>default) (zsz vals)
def zhe (vals:(Sl Int)):Nat->Int->Bool:=lpO (λ _=>false) (zf9 vals)
def zsB (vals:(Sl Int)) (zdj:Int):Int:=zsA vals Fuel zdj
def zsC (vals:(Sl Int)) (zdj:Int):Bool:=zhe vals Fuel zdj
theorem zz5 (hs:zsC vals zdj=true) (hk:K (zJn (zsB vals zdj))):z100 K [1,1,0,1,0] [] (zwa vals zdj) :=
  zl (λ X=>z100 K [1,1,0,1,0,0] [X]) (by kernel_rfl) λ X0 hX =>
  (show ∀ k, zA8 K vals X0 (zhe vals k) (zsA vals k) from zfW _ _ (zf9 vals) (zsz vals) (zA8 K vals X0)
 (by intro _ hs;exact absurd hs Bool.false_ne_true)
 (by intro P0 S0 hX0 zdj hs hk;exact hX _ (zaX (by kernel_rfl) (zc hs hk (λ hs hk=>(zaQ hs λ hc hs=>And.intro hc (zc hs hk (λ hs hk=>hk) (λ hs hk=>(hX0 hs hk))))) (λ hs hk=>hk))))) _ hs hk
def zJo (vals:(Sl Int)):Int :=
  (zsB vals (0:Int))
def zIJ (vals:(Sl Int)):Bool :=
  (zsC vals (0:Int))
end
theorem zK7 (vals:(Sl Int)) (K:List PA->Prop) (hs:zIJ vals=true) (hk:K (zJn (zJo vals))):vcFun Tryd.prog zKC zv9 100 [.one (.sl vals.len 1 (λ i=>enc_3 (vals.get i)))] K :=
  zaX (by kernel_rfl) (zz5 hs hk)
def zwb : List PA → COut
  | [.one (.sl zfv zlB zfw)]=>.det (IsE enc_3 1 zlB zfw/\zIJ (⟨zfv,zat zfw⟩:(Sl Int))=true) [.one (.int .i64 (zJo (⟨zfv,zat zfw⟩:(Sl Int))))]
  | _=>.no
theorem zC4:zas Tryd.prog 100:=⟨_,rfl,rfl,by kernel_rfl⟩
theorem zJp:Ok Tryd.prog 100 zwb:=zbm zGV zC4 λ args K h=>by
  unfold zwb at h
  split at h
  · rename_i zfv zlB zfw
    obtain⟨⟨⟨rfl,zh0,rfl⟩,hs⟩,hk⟩:=h
    try rw[za3 zh0] at hs
    try rw[za3 zh0] at hk
    exact⟨(λ _ _=>[]),(λ _=>false),zv9,zK7 (⟨zfv,zh0⟩:(Sl Int)) K hs hk⟩
  · exact h.elim
abbrev zKD:Tabs:=Tabs.nil
theorem zGW:TabsOk Tryd.prog zKD:=TabsOk.nil
abbrev zK8:Ctrs:=csm zKD (λ _ _=>[]) (λ _=>false)
def zA9:Ann:=⟨6,[(0,zK [0] []),(1,zK [2] [])],
 [],
 [],
 [],[]⟩
abbrev zK9:=Bool
abbrev zLa (r:zK9):List PA:=[.one (.bool r)]
section
variable {K:List PA->Prop}{x:Int}
def zGX (x:Int):Bool :=
  (x != x)
end
theorem zLb (x:Int) (K:List PA->Prop) (hk:K (zLa (zGX x))):vcFun Tryd.prog zK8 zA9 114 [.one (.int .i64 x)] K :=
  zaX (by kernel_rfl) hk
def zwc : List PA → COut
  | [.one (.int .i64 a0)]=>.tot [.one (.bool (zGX a0))]
  | _=>.no
theorem zC5:zas Tryd.prog 114:=⟨_,rfl,rfl,by kernel_rfl⟩
theorem zJq:Ok Tryd.prog 114 zwc:=zbm zGW zC5 λ args K h=>by
  unfold zwc at h
  split at h
  · rename_i a0
    have hk:=h
    exact⟨(λ _ _=>[]),(λ _=>false),zA9,zLb a0 K hk⟩
  · exact h.elim
abbrev zKE:Tabs:=(Tabs.nil.addF 114 zwc)
theorem zGY:TabsOk Tryd.prog zKE:=(TabsOk.nil.addF zJq)
abbrev zLc:Ctrs:=csm zKE (λ _ _=>[]) (λ _=>false)
def zBa:Ann:=⟨20,[(0,zK [0,1] []),(1,zK [0,1,5] []),(2,zK [0,1,5,6] []),(3,zK [0,1,6,11] []),(4,zK [12] []),(5,zK [4] []),(6,zK [4] []),(7,zK [0,1,13] []),(8,zK [4] []),(9,zK [0,1,16] []),(10,zK [4] []),(11,zK [19] []),(12,zK [4] []),(13,zK [4] [])],
 [],
 [],
 [],[]⟩
abbrev zLd:=Int
abbrev zLe (r:zLd):List PA:=[.one (.int .i64 r)]
section
variable {K:List PA->Prop}{x:Int}{y_a1:Int}
def zyN (x:Int) (y_a1:Int):Int :=
  (cond (zGX x)
 (cond (zGX y_a1)
 (0:Int)
 (-1:Int))
 (cond (zGX y_a1)
 (1:Int)
 (cond (decide (x < y_a1))
 (-1:Int)
 (cond (decide (x > y_a1))
 (1:Int)
 (0:Int)))))
end
theorem zLf (x:Int) (y_a1:Int) (K:List PA->Prop) (hk:K (zLe (zyN x y_a1))):vcFun Tryd.prog zLc zBa 101 [.one (.int .i64 x),.one (.int .i64 y_a1)] K :=
  zaX (by kernel_rfl) (zt hk (λ hk=>(zt hk (λ hk=>hk) (λ hk=>hk))) (λ hk=>(zt hk (λ hk=>hk) (λ hk=>(zt hk (λ hk=>hk) (λ hk=>(zt hk (λ hk=>hk) (λ hk=>hk))))))))
def zsD : List PA → COut
  | [.one (.int .i64 a0),.one (.int .i64 a1)]=>.tot [.one (.int .i64 (zyN a0 a1))]
  | _=>.no
theorem zC6:zas Tryd.prog 101:=⟨_,rfl,rfl,by kernel_rfl⟩
theorem zGZ:Ok Tryd.prog 101 zsD:=zbm zGY zC6 λ args K h=>by
  unfold zsD at h
  split at h
  · rename_i a0 a1
    have hk:=h
    exact⟨(λ _ _=>[]),(λ _=>false),zBa,zLf a0 a1 K hk⟩
  · exact h.elim
abbrev zKF:Tabs:=Tabs.nil
theorem zG0:TabsOk Tryd.prog zKF:=TabsOk.nil
abbrev zLg:Ctrs:=csm zKF (λ _ _=>[]) (λ _=>false)
def zBb:Ann:=⟨6,[(0,zK [1] [1]),(1,zK [5] []),(2,zK [2] []),(3,zK [2] [])],
 [],
 [],
 [],[]⟩
abbrev zLh:=Int
abbrev e118 (r:zLh):List PA:=[.one (.int .i64 r)]
section
variable {K:List PA->Prop}{s:step}
def zBc (s:step):Int :=
  (cond s.Use.Back
 (1:Int)
 (0:Int))
end
theorem zLi (s:step) (K:List PA->Prop) (hk:K (e118 (zBc s))):vcFun Tryd.prog zLg zBb 118 [.agg (zaA s)] K :=
  zaX (by kernel_rfl) (zt hk (λ hk=>hk) (λ hk=>hk))
def zwd : List PA → COut
  | [.agg [.int .i64 zcF,.bool zcj,.int .i64 zd6,.int .i64 zou,.int .i64 zb8]]=>.tot [.one (.int .i64 (zBc (⟨(⟨zcF,zcj⟩:Use),zd6,zou,zb8⟩:step)))]
  | _=>.no
theorem zC7:zas Tryd.prog 118:=⟨_,rfl,rfl,by kernel_rfl⟩
theorem zJr:Ok Tryd.prog 118 zwd:=zbm zG0 zC7 λ args K h=>by
  unfold zwd at h
  split at h
  · rename_i zcF zcj zd6 zou zb8
    have hk:=h
    exact⟨(λ _ _=>[]),(λ _=>false),zBb,zLi (⟨(⟨zcF,zcj⟩:Use),zd6,zou,zb8⟩:step) K hk⟩
  · exact h.elim
abbrev zKG:Tabs:=(((Tabs.nil.addF 100 zwb).addF 101 zsD).addF 118 zwd)
theorem zG1:TabsOk Tryd.prog zKG:=(((TabsOk.nil.addF zJp).addF zGZ).addF zJr)
abbrev zLj:Ctrs:=csm zKG (λ _ _=>[]) (λ _=>false)
def zBd:Ann:=⟨22,[(0,zK [2,3] [2,3]),(1,zK [2,3,5] [2,3]),(2,zK [4] [])],
 [],
 [],
 [],[]⟩
abbrev zLk:=Int
abbrev e108 (r:zLk):List PA:=[.one (.int .i64 r)]
section
variable {K:List PA->Prop}{a:step}{b:step}
def zG2 (a:step) (b:step):Int :=
  (zJo (⟨2,zat (zbt [(enc_3 (zyN a.Use.Tie b.Use.Tie)),(enc_3 (zyN (zBc a) (zBc b)))])⟩:(Sl Int)))
def zIK (a:step) (b:step):Bool :=
  (decide ((zIJ (⟨2,zat (zbt [(enc_3 (zyN a.Use.Tie b.Use.Tie)),(enc_3 (zyN (zBc a) (zBc b)))])⟩:(Sl Int))=true)) &&
 true)
end
theorem zLl (a:step) (b:step) (K:List PA->Prop) (hs:zIK a b=true) (hk:K (e108 (zG2 a b))):vcFun Tryd.prog zLj zBd 108 [.agg (zaA a),.agg (zaA b)] K :=
  zaX (by kernel_rfl) (zaQ hs λ hc hs=>And.intro (And.intro ((zd2 []):IsE enc_3 1 1 (zbt [(enc_3 (zyN a.Use.Tie b.Use.Tie)),(enc_3 (zyN (zBc a) (zBc b)))])) hc) hk)
def zwe : List PA → COut
  | [.agg [.int .i64 zcF,.bool zcj,.int .i64 zd6,.int .i64 zou,.int .i64 zb8],.agg [.int .i64 zga,.bool zeP,.int .i64 zjh,.int .i64 zz6,.int .i64 zbJ]]=>.det (zIK (⟨(⟨zcF,zcj⟩:Use),zd6,zou,zb8⟩:step) (⟨(⟨zga,zeP⟩:Use),zjh,zz6,zbJ⟩:step)=true) [.one (.int .i64 (zG2 (⟨(⟨zcF,zcj⟩:Use),zd6,zou,zb8⟩:step) (⟨(⟨zga,zeP⟩:Use),zjh,zz6,zbJ⟩:step)))]
  | _=>.no
theorem zC8:zas Tryd.prog 108:=⟨_,rfl,rfl,by kernel_rfl⟩
theorem zJs:Ok Tryd.prog 108 zwe:=zbm zG1 zC8 λ args K h=>by
  unfold zwe at h
  split at h
  · rename_i zcF zcj zd6 zou zb8 zga zeP zjh zz6 zbJ
    obtain⟨hs,hk⟩:=h
    exact⟨(λ _ _=>[]),(λ _=>false),zBd,zLl (⟨(⟨zcF,zcj⟩:Use),zd6,zou,zb8⟩:step) (⟨(⟨zga,zeP⟩:Use),zjh,zz6,zbJ⟩:step) K hs hk⟩
  · exact h.elim
abbrev zKH:Tabs:=(Tabs.nil.addF 108 zwe)
theorem zG3:TabsOk Tryd.prog zKH:=(TabsOk.nil.addF zJs)
abbrev zKI:Ctrs:=csm zKH (λ _ _=>[]) (λ _=>false)
def zwf:Ann:=⟨39,[(0,zK [0,1,2] []),(1,zK [0,1,2,11,12,13] []),(2,zK [0,1,2,11,12,13,14] []),(3,zK [0,1,2,7,8,11,12,13] [8]),(4,zK [0,1,2,7,8,11,12,13,21] [8]),(5,zK [6] []),(6,zK [0,1,2,8,9,11,12,13] [8,9]),(7,zK [0,1,2,10,11,12,13] []),(8,zK [0,1,2,10,11,12,13,31] []),(9,zK [6] []),(10,zK [0,1,2,11,12,13] []),(11,zK [38] []),(12,zK [6] []),(13,zK [6] [])],
 [(2,zK [0,1,2,11,12,13] [])],
 [(6,zK [0,1,2,7,8,11,12,13] [8]),(8,zK [0,1,2,10,11,12,13] [])],
 [],[]⟩
abbrev zLm:=Int
abbrev zG4 (r:zLm):List PA:=[.one (.int .i64 r)]
@[irreducible] def z107:=ptF Tryd.prog zKI zwf Tryd.f107
def zwg (zee:(Sl step)) (zdK:(Sl step)) (zaN:(Sl step)) (zbS:Int) (zbK:Int) (zc7:Nat->List PV) (zc8:Nat->List PV) (zfx:Nat->List PV):St:=⟨[(0,zP (.sl zee.len 5 zc7)),(1,zP (.sl zdK.len 5 zc8)),(2,zP (.fn 108 [] [])),(11,zP (.sl zaN.len 5 zfx)),(12,zI zbS),(13,zI zbK)],[],[]⟩
abbrev zsE (K:List PA->Prop) (X:St->Prop) (P:(Sl step)->(Sl step)->(Sl step)->Int->Int->Bool) (S:(Sl step)->(Sl step)->(Sl step)->Int->Int->Int):Prop:=∀ ⦃zee:(Sl step)⦄ ⦃zdK:(Sl step)⦄ ⦃zaN:(Sl step)⦄ ⦃zbS:Int⦄ ⦃zbK:Int⦄ ⦃zc7:Nat->List PV⦄ ⦃zc8:Nat->List PV⦄ ⦃zfx:Nat->List PV⦄,P zee zdK zaN zbS zbK=true->K (zG4 (S zee zdK zaN zbS zbK))->zc7=zg zaA zee->zc8=zg zaA zdK->zfx=zg zaA zaN->X (zwg zee zdK zaN zbS zbK zc7 zc8 zfx)
section
variable {K:List PA->Prop}{s1_a0:(Sl step)}{s2_a1:(Sl step)}{zee:(Sl step)}{zdK:(Sl step)}{zaN:(Sl step)}{zbS:Int}{zbK:Int}{zc7:Nat->List PV}{zc8:Nat->List PV}{zfx:Nat->List PV}{X0:St->Prop}{P0:(Sl step)->(Sl step)->(Sl step)->Int->Int->Bool}{S0:(Sl step)->(Sl step)->(Sl step)->Int->Int->Int}{zov:(Sl step)}{zji:(Sl step)}{iv1:Int}{zcs:(Sl step)}{zbT:Int}{zp9:Int}{ziL:Int}{ziM:Bool}{ziN:Int}{ziO:Int}{ziP:Int}{zow:Nat->List PV}{zox:Nat->List PV}{zwh:Nat->List PV}{zoy:(Sl step)}{zoz:(Sl step)}{cv2:Int}{zqa:Int}{zoA:Nat->List PV}{zoB:Nat->List PV}
def zsF (S0:(Sl step)->(Sl step)->(Sl step)->Int->Int->Int) (zcs:(Sl step)) (zbT:Int) (zoy:(Sl step)) (zoz:(Sl step)) (cv2:Int) (zqa:Int):Int :=
  (cond (cv2 != (0:Int))
 cv2
 (S0 zoy zoz zcs zbT (w64 (zqa+(1:Int)))))
def zmW (P0:(Sl step)->(Sl step)->(Sl step)->Int->Int->Bool) (zcs:(Sl step)) (zbT:Int) (zoy:(Sl step)) (zoz:(Sl step)) (cv2:Int) (zqa:Int):Bool :=
  (cond (cv2 != (0:Int))
 true
 (P0 zoy zoz zcs zbT (w64 (zqa+(1:Int)))))
theorem zz7 (hX0:zsE K X0 P0 S0) (hs:zmW P0 zcs zbT zoy zoz cv2 zqa=true) (hk:K (zG4 (zsF S0 zcs zbT zoy zoz cv2 zqa))) (zwi:zoA=zg zaA zoy) (zwj:zoB=zg zaA zoz):z107 K [1,0,1,0,0,1,1,0,0,1,1,1,1] [X0] ⟨[(0,zP (.sl zoy.len 5 zoA)),(1,zP (.sl zoz.len 5 zoB)),(2,zP (.fn 108 [] [])),(10,zI cv2),(11,zS zaA 5 zcs),(12,zI zbT),(13,zI zqa)],[],[]⟩:=by subst zwi;subst zwj;exact zaX (by kernel_rfl) (zc hs hk (λ hs hk=>hk) (λ hs hk=>(hX0 hs hk rfl rfl rfl)))
def zsG (S0:(Sl step)->(Sl step)->(Sl step)->Int->Int->Int) (zov:(Sl step)) (zji:(Sl step)) (iv1:Int) (zcs:(Sl step)) (zbT:Int) (zp9:Int) (ziL:Int) (ziM:Bool) (ziN:Int) (ziO:Int) (ziP:Int):Int :=
  (zsF S0 zcs zbT zov zji (zG2 (⟨(⟨ziL,ziM⟩:Use),ziN,ziO,ziP⟩:step) (zji.get iv1.toNat)) zp9)
def zmX (P0:(Sl step)->(Sl step)->(Sl step)->Int->Int->Bool) (zov:(Sl step)) (zji:(Sl step)) (iv1:Int) (zcs:(Sl step)) (zbT:Int) (zp9:Int) (ziL:Int) (ziM:Bool) (ziN:Int) (ziO:Int) (ziP:Int):Bool :=
  (decide ((0≤iv1/\iv1 < (zji.len:Int))) &&
 (decide ((zIK (⟨(⟨ziL,ziM⟩:Use),ziN,ziO,ziP⟩:step) (zji.get iv1.toNat)=true)) &&
 (zmW P0 zcs zbT zov zji (zG2 (⟨(⟨ziL,ziM⟩:Use),ziN,ziO,ziP⟩:step) (zji.get iv1.toNat)) zp9)))
theorem zz8 (hX0:zsE K X0 P0 S0) (hs:zmX P0 zov zji iv1 zcs zbT zp9 ziL ziM ziN ziO ziP=true) (hk:K (zG4 (zsG S0 zov zji iv1 zcs zbT zp9 ziL ziM ziN ziO ziP))) (zwk:zow=zg zaA zov) (zwl:zox=zg zaA zji) (zC9:zwh=zg zaA zcs):z107 K [1,0,1,0,0,1,1,0,0,1,1] [X0] ⟨[(0,zP (.sl zov.len 5 zow)),(1,zP (.sl zji.len 5 zox)),(2,zP (.fn 108 [] [])),(7,zI iv1),(8,zp 8 0),(11,zP (.sl zcs.len 5 zwh)),(12,zI zbT),(13,zI zp9)],[(8,.box 130 (zm (zaA (⟨(⟨ziL,ziM⟩:Use),ziN,ziO,ziP⟩:step))))],[]⟩:=by subst zwk;subst zwl;subst zC9;exact zaX (by kernel_rfl) (zaQ hs λ hc hs=>And.intro hc (zaQ hs λ hc hs=>And.intro hc (zz7 hX0 hs hk rfl rfl)))
def zsH (S0:(Sl step)->(Sl step)->(Sl step)->Int->Int->Int) (zee:(Sl step)) (zdK:(Sl step)) (zaN:(Sl step)) (zbS:Int) (zbK:Int):Int :=
  (cond (decide (zbK < zbS))
 (cond (decide (zbK ≥ (zdK.len : Int)))
 (1:Int)
 (zsG S0 zee zdK zbK zaN zbS zbK ((zaN.get zbK.toNat).Use.Tie) ((zaN.get zbK.toNat).Use.Back) ((zaN.get zbK.toNat).from_) ((zaN.get zbK.toNat).to) ((zaN.get zbK.toNat).length)))
 (cond (decide ((zee.len : Int) < (zdK.len : Int)))
 (-1:Int)
 (0:Int)))
def zgb (P0:(Sl step)->(Sl step)->(Sl step)->Int->Int->Bool) (zee:(Sl step)) (zdK:(Sl step)) (zaN:(Sl step)) (zbS:Int) (zbK:Int):Bool :=
  (cond (decide (zbK < zbS))
 (decide ((0≤zbK/\zbK < (zaN.len:Int))) &&
 (cond (decide (zbK ≥ (zdK.len : Int)))
 true
 (zmX P0 zee zdK zbK zaN zbS zbK ((zaN.get zbK.toNat).Use.Tie) ((zaN.get zbK.toNat).Use.Back) ((zaN.get zbK.toNat).from_) ((zaN.get zbK.toNat).to) ((zaN.get zbK.toNat).length))))
 true)
def zsI:Nat->(Sl step)->(Sl step)->(Sl step)->Int->Int->Int:=lpO (λ _ _ _ _ _=>default) (zsH)
def zhf:Nat->(Sl step)->(Sl step)->(Sl step)->Int->Int->Bool:=lpO (λ _ _ _ _ _=>false) (zgb)
def zsJ (zee:(Sl step)) (zdK:(Sl step)) (zaN:(Sl step)) (zbS:Int) (zbK:Int):Int:=zsI Fuel zee zdK zaN zbS zbK
def zsK (zee:(Sl step)) (zdK:(Sl step)) (zaN:(Sl step)) (zbS:Int) (zbK:Int):Bool:=zhf Fuel zee zdK zaN zbS zbK
theorem zz9 (hs:zsK zee zdK zaN zbS zbK=true) (hk:K (zG4 (zsJ zee zdK zaN zbS zbK))) (zkp:zc7=zg zaA zee) (zkq:zc8=zg zaA zdK) (zqb:zfx=zg zaA zaN):z107 K [1,0,1,0] [] (zwg zee zdK zaN zbS zbK zc7 zc8 zfx) :=
  zl (λ X=>z107 K [1,0,1,0,0] [X]) (by kernel_rfl) λ X0 hX =>
  (show ∀ k, zsE K X0 (zhf k) (zsI k) from zfW _ _ (zgb) (zsH) (zsE K X0)
 (by intro _ _ _ _ _ _ _ _ hs;exact absurd hs Bool.false_ne_true)
 (by intro P0 S0 hX0 zee zdK zaN zbS zbK zc7 zc8 zfx hs hk zkp zkq zqb;subst zkp;subst zkq;subst zqb;exact hX _ (zaX (by kernel_rfl) (zc hs hk (λ hs hk=>(zaQ hs λ hc hs=>And.intro hc (zc hs hk (λ hs hk=>hk) (λ hs hk=>(zz8 hX0 hs hk rfl rfl rfl))))) (λ hs hk=>(zt hk (λ hk=>hk) (λ hk=>hk))))))) _ hs hk zkp zkq zqb
def zDa (s1_a0:(Sl step)) (s2_a1:(Sl step)):Int :=
  (zsJ s1_a0 s2_a1 s1_a0 (s1_a0.len:Int) (0:Int))
def zG5 (s1_a0:(Sl step)) (s2_a1:(Sl step)):Bool :=
  (zsK s1_a0 s2_a1 s1_a0 (s1_a0.len:Int) (0:Int))
end
theorem zLn (s1_a0:(Sl step)) (s2_a1:(Sl step)) (K:List PA->Prop) (hs:zG5 s1_a0 s2_a1=true) (hk:K (zG4 (zDa s1_a0 s2_a1))):vcFun Tryd.prog zKI zwf 107 [.one (.sl s1_a0.len 5 (λ i=>zaA (s1_a0.get i))),.one (.sl s2_a1.len 5 (λ i=>zaA (s2_a1.get i))),.one (.fn 108 [] [])] K :=
  zaX (by kernel_rfl) (zz9 hs hk rfl rfl rfl)
def zwm : List PA → COut
  | [.one (.sl zfv zlB zfw),.one (.sl zdA zhP zdr),.one (.fn 108 [] [])]=>.det (IsE zaA 5 zlB zfw/\IsE zaA 5 zhP zdr/\zG5 (⟨zfv,zha zfw⟩:(Sl step)) (⟨zdA,zha zdr⟩:(Sl step))=true) [.one (.int .i64 (zDa (⟨zfv,zha zfw⟩:(Sl step)) (⟨zdA,zha zdr⟩:(Sl step))))]
  | _=>.no
theorem zDb:zas Tryd.prog 107:=⟨_,rfl,rfl,by kernel_rfl⟩
theorem zJt:Ok Tryd.prog 107 zwm:=zbm zG3 zDb λ args K h=>by
  unfold zwm at h
  split at h
  · rename_i zfv zlB zfw zdA zhP zdr
    obtain⟨⟨⟨rfl,zh0,rfl⟩,⟨rfl,zfl,rfl⟩,hs⟩,hk⟩:=h
    try rw[zd3 zh0] at hs
    try rw[zd3 zh0] at hk
    try rw[zd3 zfl] at hs
    try rw[zd3 zfl] at hk
    exact⟨(λ _ _=>[]),(λ _=>false),zwf,zLn (⟨zfv,zh0⟩:(Sl step)) (⟨zdA,zfl⟩:(Sl step)) K hs hk⟩
  · exact h.elim
abbrev T89:Tabs:=((((Tabs.nil.addF 93 zop).addF 106 zv8).addF 107 zwm).addI 110 zor)
theorem zJu:TabsOk Tryd.prog T89:=((((TabsOk.nil.addF zFE).addF zJm).addF zJt).addI ztG)
abbrev G89:Ctrs:=csm T89 (λ _ _=>[]) (λ _=>false)
def zwn:Ann:=⟨148,[(0,zK [0] []),(1,zK [0,3] [21]),(2,zK [0,3,23,24] [21]),(3,zK [0,3,23,24,25] [21]),(4,zK [0,3,4,23,24] [21]),(5,zK [0,3,23,24] [21]),(6,zK [0,3,23,24] [21]),(7,zK [0,3] [21]),(8,zK [0,3,5] [21]),(9,zK [0,3,5,45] [21]),(10,zK [0,3,5] [21]),(11,zK [0,3,5,48,49,50] [21]),(12,zK [0,3,5,48,49,50,51] [21]),(13,zK [0,3,5,6,7,48,49,50] [21]),(14,zK [0,3,5,48,49,50,62] [21]),(15,zK [0,3,5,48,49,50] [21]),(16,zK [0,3,5,8] [21]),(17,zK [0,5,8,64,65,66] [21]),(18,zK [0,5,8,64,65,66,67] [21]),(19,zK [0,5,8,9,10,64,65,66] [9,10,21]),(20,zK [0,5,8,9,10,64,65,66,78] [9,10,21]),(21,zK [0,5,8,9,10,11,64,65,66] [9,10,11,21]),(22,zK [0,5,8,9,10,11,12,13,64,65,66] [9,10,11,12,13,21]),(23,zK [0,5,8,9,10,11,12,13,14,64,65,66] [9,10,11,12,13,14,21]),(24,zK [0,5,8,9,10,11,12,13,14,64,65,66,83] [9,10,11,12,13,14,21,129]),(25,zK [0,5,8,9,10,11,12,13,14,64,65,66] [9,10,11,12,13,14,21,129]),(26,zK [0,5,8,9,10,11,12,13,14,64,65,66,87] [9,10,11,12,13,14,21,129]),(27,zK [0,5,8,9,10,11,12,13,14,15,64,65,66,87] [9,10,11,12,13,14,15,21,129]),(28,zK [0,5,8,9,10,11,12,13,14,15,64,65,66,87,125] [9,10,11,12,13,14,15,21,129]),(29,zK [0,5,8,9,10,11,12,13,14,15,64,65,66] [9,10,11,12,13,14,15,21,129]),(30,zK [0,5,8,9,10,11,12,13,14,64,65,66] [9,10,11,12,13,14,21,129]),(31,zK [0,5,8,9,10,11,12,13,64,65,66,136] [9,10,11,12,13,21,129]),(32,zK [0,5,8,9,10,11,12,13,14,64,65,66] [9,10,11,12,13,14,21,129]),(33,zK [0,5,8,11,64,65,66,144] [11,21,129]),(34,zK [0,5,8,64,65,66] [21,129]),(35,zK [0,5,8,64,65,66] [21,129]),(36,zK [2] [])],
 [(3,zK [0,3,23,24] [21]),(9,zK [0,3,5] [21]),(12,zK [0,3,5,48,49,50] [21]),(18,⟨[0,5,8,64,65,66],[21],[],[],[],[],[(8,1005,λ _=>zaA default)]⟩),(24,⟨[0,5,8,9,10,11,12,13,14,64,65,66],[9,10,11,12,13,14,21,129],[],[(11,0,129,130,λ _=>zaA default)],[],[],[]⟩),(27,zK [0,5,8,9,10,11,12,13,14,64,65,66,87] [9,10,11,12,13,14,21,129])],
 [(7,zK [0,3] [21]),(16,zK [0,3,5] [21]),(34,zK [0,5,8,11,64,65,66,144] [11,21,129])],
 [],[]⟩
abbrev R89:=(Sl step)
abbrev e89 (r:R89):List PA:=[.one (.sl r.len 5 (λ i=>zaA (r.get i)))]
@[irreducible] def z89:=ptF Tryd.prog G89 zwn Tryd.f89
@[irreducible] def x89:=exF Tryd.prog G89 zwn Tryd.f89
@[irreducible] def y89:=rnF Tryd.prog G89 zwn Tryd.f89
def zBe (w:web) (zcB:Int) (zcT:(Sl (Sl Tab))) (zfy:Nat->List PV):St:=⟨[(0,zP (.fp (zaC w) 0)),(3,zv 21),(23,zI (w.Net.Nodes.toNat:Int)),(24,zI zcB)],[(21,.vec 159 1 24 zcT.len zfy)],[]⟩
abbrev zG6 (K:List PA->Prop) (w:web) (X:St->Prop) (P:Int->(Sl (Sl Tab))->Bool) (S:Int->(Sl (Sl Tab))->(Sl step)):Prop:=∀ ⦃zcB:Int⦄ ⦃zcT:(Sl (Sl Tab))⦄ ⦃zfy:Nat->List PV⦄,P zcB zcT=true->K (e89 (S zcB zcT))->zfy=zg zcz zcT->X (zBe w zcB zcT zfy)
def zBf (w:web) (za6:(Sl (Sl Tab))) (zco:Int):St:=⟨[(0,zP (.fp (zaC w) 0)),(3,zv 21),(5,zI zco)],[(21,.vec 159 1 24 za6.len (λ i=>zcz (za6.get i)))],[]⟩
abbrev zDc (K:List PA->Prop) (w:web) (za6:(Sl (Sl Tab))) (X:St->Prop) (P:Int->Bool) (S:Int->(Sl step)):Prop:=∀ ⦃zco:Int⦄,P zco=true->K (e89 (S zco))->X (zBf w za6 zco)
def zBg (w:web) (za6:(Sl (Sl Tab))) (zb0:Int) (zcI:Int):St:=⟨[(0,zP (.fp (zaC w) 0)),(3,zv 21),(5,zI zb0),(48,zv 21),(49,zI (za6.len:Int)),(50,zI zcI)],[(21,.vec 159 1 24 za6.len (λ i=>zcz (za6.get i)))],[]⟩
abbrev zG7 (K:List PA->Prop) (w:web) (za6:(Sl (Sl Tab))) (X:St->Prop) (P:Int->Int->Bool) (S:Int->Int->(Sl step)):Prop:=∀ ⦃zb0:Int⦄ ⦃zcI:Int⦄,P zb0 zcI=true->K (e89 (S zb0 zcI))->X (zBg w za6 zb0 zcI)
def zBh (w:web) (zaK:(Sl (Sl Tab))) (zb1:Int) (zby:Bool) (zck:(Sl step)) (zca:Int) (zcL:(Sl (Sl Tab))) (zd7:Nat->List PV) (zfz:Nat->List PV):St:=⟨[(0,zP (.fp (zaC w) 0)),(5,zI zb1),(8,zP (.ns zby zck.len 5 zd7)),(64,zv 21),(65,zI (zaK.len:Int)),(66,zI zca)],[(21,.vec 159 1 24 zcL.len zfz)],[]⟩
abbrev zwo (K:List PA->Prop) (w:web) (zaK:(Sl (Sl Tab))) (X:St->Prop) (P:Int->Bool->(Sl step)->Int->(Sl (Sl Tab))->Bool) (S:Int->Bool->(Sl step)->Int->(Sl (Sl Tab))->(Sl step)):Prop:=∀ ⦃zb1:Int⦄ ⦃zby:Bool⦄ ⦃zck:(Sl step)⦄ ⦃zca:Int⦄ ⦃zcL:(Sl (Sl Tab))⦄ ⦃zd7:Nat->List PV⦄ ⦃zfz:Nat->List PV⦄,P zb1 zby zck zca zcL=true->K (e89 (S zb1 zby zck zca zcL))->zd7=zg zaA zck->zfz=zg zcz zcL->X (zBh w zaK zb1 zby zck zca zcL zd7 zfz)
def zBi (w:web) (zaK:(Sl (Sl Tab))) (zcp:Int) (zbg:Bool) (zbL:(Sl step)) (zdS:Int) (iv6:Int) (hv6:(Sl Tab)) (ziQ:Int) (zba:Int) (kv6:Int) (zdt:(Sl (Sl Tab))) (zbQ:(Sl step)) (zd8:Nat->List PV) (zoC:Nat->List PV) (zfA:Nat->List PV) (zd9:Nat->List PV):St:=⟨[(0,zP (.fp (zaC w) 0)),(5,zI zcp),(8,zP (.ns zbg zbL.len 5 zd8)),(9,zp 9 0),(10,zp 10 0),(11,zp 11 0),(12,zp 12 0),(13,zp 13 0),(14,zp 14 0),(64,zv 21),(65,zI (zaK.len:Int)),(66,zI zdS)],[(9,.box 3 [zi iv6]),(10,.box 159 [.p (.sl hv6.len 80 zoC)]),(11,.box 127 [.vec 129]),(12,.box 3 [zi ziQ]),(13,.box 3 [zi zba]),(14,.box 3 [zi kv6]),(21,.vec 159 1 24 zdt.len zfA),(129,.vec 130 5 40 zbQ.len zd9)],[]⟩
abbrev zDd (K:List PA->Prop) (w:web) (zaK:(Sl (Sl Tab))) (X:St->Prop) (P:Int->Bool->(Sl step)->Int->Int->(Sl Tab)->Int->Int->Int->(Sl (Sl Tab))->(Sl step)->Bool) (S:Int->Bool->(Sl step)->Int->Int->(Sl Tab)->Int->Int->Int->(Sl (Sl Tab))->(Sl step)->(Sl step)):Prop:=∀ ⦃zcp:Int⦄ ⦃zbg:Bool⦄ ⦃zbL:(Sl step)⦄ ⦃zdS:Int⦄ ⦃iv6:Int⦄ ⦃hv6:(Sl Tab)⦄ ⦃ziQ:Int⦄ ⦃zba:Int⦄ ⦃kv6:Int⦄ ⦃zdt:(Sl (Sl Tab))⦄ ⦃zbQ:(Sl step)⦄ ⦃zd8:Nat->List PV⦄ ⦃zoC:Nat->List PV⦄ ⦃zfA:Nat->List PV⦄ ⦃zd9:Nat->List PV⦄,P zcp zbg zbL zdS iv6 hv6 ziQ zba kv6 zdt zbQ=true->K (e89 (S zcp zbg zbL zdS iv6 hv6 ziQ zba kv6 zdt zbQ))->zd8=zg zaA zbL->zoC=zg zao hv6->zfA=zg zcz zdt->zd9=zg zaA zbQ->X (zBi w zaK zcp zbg zbL zdS iv6 hv6 ziQ zba kv6 zdt zbQ zd8 zoC zfA zd9)
def zwp (w:web) (zaK:(Sl (Sl Tab))) (zbC:Int) (zaU:Bool) (zbz:(Sl step)) (zcu:Int) (iv7:Int) (hv7:(Sl Tab)) (zgo:Int) (zaR:Int) (kv7:Int) (zcn:(Sl (Sl Tab))) (zbj:(Sl step)) (zcZ:Nat->List PV) (zkZ:Nat->List PV) (zef:Nat->List PV) (zc0:Nat->List PV):St:=⟨[(0,zP (.fp (zaC w) 0)),(5,zI zbC),(8,zP (.ns zaU zbz.len 5 zcZ)),(9,zp 9 0),(10,zp 10 0),(11,zp 11 0),(12,zp 12 0),(13,zp 13 0),(14,zp 14 0),(64,zv 21),(65,zI (zaK.len:Int)),(66,zI zcu),(87,zP (.fn 110 [] [.fp [.fp (zaC w) 0] 0]))],[(9,.box 3 [zi iv7]),(10,.box 159 [.p (.sl hv7.len 80 zkZ)]),(11,.box 127 [.vec 129]),(12,.box 3 [zi zgo]),(13,.box 3 [zi zaR]),(14,.box 3 [zi kv7]),(21,.vec 159 1 24 zcn.len zef),(129,.vec 130 5 40 zbj.len zc0)],[]⟩
abbrev zG8 (K:List PA->Prop) (w:web) (zaK:(Sl (Sl Tab))) (X:St->Prop) (P:Int->Bool->(Sl step)->Int->Int->(Sl Tab)->Int->Int->Int->(Sl (Sl Tab))->(Sl step)->Bool) (S:Int->Bool->(Sl step)->Int->Int->(Sl Tab)->Int->Int->Int->(Sl (Sl Tab))->(Sl step)->(Sl step)):Prop:=∀ ⦃zbC:Int⦄ ⦃zaU:Bool⦄ ⦃zbz:(Sl step)⦄ ⦃zcu:Int⦄ ⦃iv7:Int⦄ ⦃hv7:(Sl Tab)⦄ ⦃zgo:Int⦄ ⦃zaR:Int⦄ ⦃kv7:Int⦄ ⦃zcn:(Sl (Sl Tab))⦄ ⦃zbj:(Sl step)⦄ ⦃zcZ:Nat->List PV⦄ ⦃zkZ:Nat->List PV⦄ ⦃zef:Nat->List PV⦄ ⦃zc0:Nat->List PV⦄,P zbC zaU zbz zcu iv7 hv7 zgo zaR kv7 zcn zbj=true->K (e89 (S zbC zaU zbz zcu iv7 hv7 zgo zaR kv7 zcn zbj))->zcZ=zg zaA zbz->zkZ=zg zao hv7->zef=zg zcz zcn->zc0=zg zaA zbj->X (zwp w zaK zbC zaU zbz zcu iv7 hv7 zgo zaR kv7 zcn zbj zcZ zkZ zef zc0)
section
variable {K:List PA->Prop}{w:web}{zcB:Int}{zcT:(Sl (Sl Tab))}{zfy:Nat->List PV}{X0:St->Prop}{P0:Int->(Sl (Sl Tab))->Bool}{S0:Int->(Sl (Sl Tab))->(Sl step)}{za6:(Sl (Sl Tab))}{zwq:Nat->List PV}{zco:Int}{X2:St->Prop}{P2:Int->Bool}{S2:Int->(Sl step)}{zb0:Int}{zcI:Int}{X3:St->Prop}{P3:Int->Int->Bool}{S3:Int->Int->(Sl step)}{zkr:Int}{zaK:(Sl (Sl Tab))}{zwr:Nat->List PV}{zb1:Int}{zby:Bool}{zck:(Sl step)}{zca:Int}{zcL:(Sl (Sl Tab))}{zd7:Nat->List PV}{zfz:Nat->List PV}{X5:St->Prop}{P5:Int->Bool->(Sl step)->Int->(Sl (Sl Tab))->Bool}{S5:Int->Bool->(Sl step)->Int->(Sl (Sl Tab))->(Sl step)}{zcp:Int}{zbg:Bool}{zbL:(Sl step)}{zdS:Int}{iv6:Int}{hv6:(Sl Tab)}{ziQ:Int}{zba:Int}{kv6:Int}{zdt:(Sl (Sl Tab))}{zbQ:(Sl step)}{zd8:Nat->List PV}{zoC:Nat->List PV}{zfA:Nat->List PV}{zd9:Nat->List PV}{X6:St->Prop}{P6:Int->Bool->(Sl step)->Int->Int->(Sl Tab)->Int->Int->Int->(Sl (Sl Tab))->(Sl step)->Bool}{S6:Int->Bool->(Sl step)->Int->Int->(Sl Tab)->Int->Int->Int->(Sl (Sl Tab))->(Sl step)->(Sl step)}{zbC:Int}{zaU:Bool}{zbz:(Sl step)}{zcu:Int}{iv7:Int}{hv7:(Sl Tab)}{zgo:Int}{zaR:Int}{kv7:Int}{zcn:(Sl (Sl Tab))}{zbj:(Sl step)}{zcZ:Nat->List PV}{zkZ:Nat->List PV}{zef:Nat->List PV}{zc0:Nat->List PV}{zhg:Int}{zeQ:Bool}{ziR:(Sl step)}{zmY:Int}{zks:Bool}{zk0:(Sl (Sl Tab))}{ziS:(Sl step)}{zsL:Nat->List PV}{zwt:Nat->List PV}{zsM:Nat->List PV}
def zh1 (S5:Int->Bool->(Sl step)->Int->(Sl (Sl Tab))->(Sl step)) (w:web) (zaK:(Sl (Sl Tab))) (zhg:Int) (zeQ:Bool) (ziR:(Sl step)) (zmY:Int) (zks:Bool) (zk0:(Sl (Sl Tab))) (ziS:(Sl step)):(Sl step) :=
  (cond zks
 (S5 zhg false ziS (w64 (zmY+(1:Int))) zk0)
 (S5 zhg zeQ ziR (w64 (zmY+(1:Int))) zk0))
def zh2 (P5:Int->Bool->(Sl step)->Int->(Sl (Sl Tab))->Bool) (w:web) (zaK:(Sl (Sl Tab))) (zhg:Int) (zeQ:Bool) (ziR:(Sl step)) (zmY:Int) (zks:Bool) (zk0:(Sl (Sl Tab))) (ziS:(Sl step)):Bool :=
  (cond zks
 (P5 zhg false ziS (w64 (zmY+(1:Int))) zk0)
 (P5 zhg zeQ ziR (w64 (zmY+(1:Int))) zk0))
theorem zwu (hX5:zwo K w zaK X5 P5 S5) (hs:zh2 P5 w zaK zhg zeQ ziR zmY zks zk0 ziS=true) (hk:K (e89 (zh1 S5 w zaK zhg zeQ ziR zmY zks zk0 ziS))) (zAa:zsL=zg zaA ziR) (zDe:zwt=zg zcz zk0) (zAb:zsM=zg zaA ziS):z89 K [1,0,1,1,1,1,1,1,0,1,0,0,1,1,0,0,1,1,1,1,1,1] [X5] ⟨[(0,zP (.fp (zaC w) 0)),(5,zI zhg),(8,zP (.ns zeQ ziR.len 5 zsL)),(11,zp 11 0),(64,zv 21),(65,zI (zaK.len:Int)),(66,zI zmY),(144,zB zks)],[(11,.box 127 [.vec 129]),(21,.vec 159 1 24 zk0.len zwt),(129,.vec 130 5 40 ziS.len zsM)],[]⟩:=by subst zAa;subst zDe;subst zAb;exact zaX (by kernel_rfl) (zc hs hk (λ hs hk=>(hX5 hs hk rfl rfl)) (λ hs hk=>(hX5 hs hk rfl rfl)))
def zDf (S5:Int->Bool->(Sl step)->Int->(Sl (Sl Tab))->(Sl step)) (S6:Int->Bool->(Sl step)->Int->Int->(Sl Tab)->Int->Int->Int->(Sl (Sl Tab))->(Sl step)->(Sl step)) (w:web) (zaK:(Sl (Sl Tab))) (zbC:Int) (zaU:Bool) (zbz:(Sl step)) (zcu:Int) (iv7:Int) (hv7:(Sl Tab)) (zgo:Int) (zaR:Int) (kv7:Int) (zcn:(Sl (Sl Tab))) (zbj:(Sl step)):(Sl step) :=
  (S6 zbC zaU zbz zcu iv7 hv7 zgo zaR (w64 (kv7 - (1:Int))) zcn zbj)
def zDg (P5:Int->Bool->(Sl step)->Int->(Sl (Sl Tab))->Bool) (P6:Int->Bool->(Sl step)->Int->Int->(Sl Tab)->Int->Int->Int->(Sl (Sl Tab))->(Sl step)->Bool) (w:web) (zaK:(Sl (Sl Tab))) (zbC:Int) (zaU:Bool) (zbz:(Sl step)) (zcu:Int) (iv7:Int) (hv7:(Sl Tab)) (zgo:Int) (zaR:Int) (kv7:Int) (zcn:(Sl (Sl Tab))) (zbj:(Sl step)):Bool :=
  (P6 zbC zaU zbz zcu iv7 hv7 zgo zaR (w64 (kv7 - (1:Int))) zcn zbj)
def zqc (S5:Int->Bool->(Sl step)->Int->(Sl (Sl Tab))->(Sl step)) (S6:Int->Bool->(Sl step)->Int->Int->(Sl Tab)->Int->Int->Int->(Sl (Sl Tab))->(Sl step)->(Sl step)) (w:web) (zaK:(Sl (Sl Tab))) (y7:step) (S7:Int->Bool->(Sl step)->Int->Int->(Sl Tab)->Int->Int->Int->(Sl (Sl Tab))->(Sl step)->(Sl step)) (zbC:Int) (zaU:Bool) (zbz:(Sl step)) (zcu:Int) (iv7:Int) (hv7:(Sl Tab)) (zgo:Int) (zaR:Int) (kv7:Int) (zcn:(Sl (Sl Tab))) (zbj:(Sl step)):(Sl step) :=
  (cond (y7.from_ == zgo)
 (cond (decide (y7.to ≥ iv7))
 (cond (!(nvr (tL (hv7.get kv7.toNat) y7.to) (tU (hv7.get kv7.toNat) y7.to)))
 (cond (decide ((w64 ((w64 (zaR + y7.length)) + (tL (hv7.get kv7.toNat) y7.to))) < (0:Int)))
 (S6 zbC zaU zbz zcu iv7 hv7 y7.to (w64 (zaR+y7.length)) (w64 (kv7 - (1:Int))) zcn (⟨(zbj.len+1),(ziY zbj.len zbj.get (λ _=>y7))⟩:Sl step))
 (S7 zbC zaU zbz zcu iv7 hv7 zgo zaR kv7 zcn zbj))
 (S7 zbC zaU zbz zcu iv7 hv7 zgo zaR kv7 zcn zbj))
 (S7 zbC zaU zbz zcu iv7 hv7 zgo zaR kv7 zcn zbj))
 (S7 zbC zaU zbz zcu iv7 hv7 zgo zaR kv7 zcn zbj))
def zqd (P5:Int->Bool->(Sl step)->Int->(Sl (Sl Tab))->Bool) (P6:Int->Bool->(Sl step)->Int->Int->(Sl Tab)->Int->Int->Int->(Sl (Sl Tab))->(Sl step)->Bool) (w:web) (zaK:(Sl (Sl Tab))) (y7:step) (P7:Int->Bool->(Sl step)->Int->Int->(Sl Tab)->Int->Int->Int->(Sl (Sl Tab))->(Sl step)->Bool) (zbC:Int) (zaU:Bool) (zbz:(Sl step)) (zcu:Int) (iv7:Int) (hv7:(Sl Tab)) (zgo:Int) (zaR:Int) (kv7:Int) (zcn:(Sl (Sl Tab))) (zbj:(Sl step)):Bool :=
  (cond (y7.from_ == zgo)
 (cond (decide (y7.to ≥ iv7))
 (decide ((0≤kv7/\kv7 < (hv7.len:Int))) &&
 (decide ((0≤y7.to/\y7.to < (40:Int))) &&
 (cond (!(nvr (tL (hv7.get kv7.toNat) y7.to) (tU (hv7.get kv7.toNat) y7.to)))
 (decide ((0≤kv7/\kv7 < (hv7.len:Int))) &&
 (decide ((0≤y7.to/\y7.to < (40:Int))) &&
 (cond (decide ((w64 ((w64 (zaR + y7.length)) + (tL (hv7.get kv7.toNat) y7.to))) < (0:Int)))
 (decide (((zbj.len+1) * 40≤140737488355328/\zbj.len+1≤9223372036854775807)) &&
 (P6 zbC zaU zbz zcu iv7 hv7 y7.to (w64 (zaR+y7.length)) (w64 (kv7 - (1:Int))) zcn (⟨(zbj.len+1),(ziY zbj.len zbj.get (λ _=>y7))⟩:Sl step)))
 (P7 zbC zaU zbz zcu iv7 hv7 zgo zaR kv7 zcn zbj))))
 (P7 zbC zaU zbz zcu iv7 hv7 zgo zaR kv7 zcn zbj))))
 (P7 zbC zaU zbz zcu iv7 hv7 zgo zaR kv7 zcn zbj))
 (P7 zbC zaU zbz zcu iv7 hv7 zgo zaR kv7 zcn zbj))
def zcU (S5:Int->Bool->(Sl step)->Int->(Sl (Sl Tab))->(Sl step)) (S6:Int->Bool->(Sl step)->Int->Int->(Sl Tab)->Int->Int->Int->(Sl (Sl Tab))->(Sl step)->(Sl step)) (w:web) (zaK:(Sl (Sl Tab))):List step->Int->Bool->(Sl step)->Int->Int->(Sl Tab)->Int->Int->Int->(Sl (Sl Tab))->(Sl step)->(Sl step):=lpR (zDf S5 S6 w zaK) (zqc S5 S6 w zaK)
def zcV (P5:Int->Bool->(Sl step)->Int->(Sl (Sl Tab))->Bool) (P6:Int->Bool->(Sl step)->Int->Int->(Sl Tab)->Int->Int->Int->(Sl (Sl Tab))->(Sl step)->Bool) (w:web) (zaK:(Sl (Sl Tab))):List step->Int->Bool->(Sl step)->Int->Int->(Sl Tab)->Int->Int->Int->(Sl (Sl Tab))->(Sl step)->Bool:=lpR (zDg P5 P6 w zaK) (zqd P5 P6 w zaK)
def zqe (S5:Int->Bool->(Sl step)->Int->(Sl (Sl Tab))->(Sl step)) (S6:Int->Bool->(Sl step)->Int->Int->(Sl Tab)->Int->Int->Int->(Sl (Sl Tab))->(Sl step)->(Sl step)) (w:web) (zaK:(Sl (Sl Tab))) (zbC:Int) (zaU:Bool) (zbz:(Sl step)) (zcu:Int) (iv7:Int) (hv7:(Sl Tab)) (zgo:Int) (zaR:Int) (kv7:Int) (zcn:(Sl (Sl Tab))) (zbj:(Sl step)):(Sl step):=zcU S5 S6 w zaK (zkn w) zbC zaU zbz zcu iv7 hv7 zgo zaR kv7 zcn zbj
def zqf (P5:Int->Bool->(Sl step)->Int->(Sl (Sl Tab))->Bool) (P6:Int->Bool->(Sl step)->Int->Int->(Sl Tab)->Int->Int->Int->(Sl (Sl Tab))->(Sl step)->Bool) (w:web) (zaK:(Sl (Sl Tab))) (zbC:Int) (zaU:Bool) (zbz:(Sl step)) (zcu:Int) (iv7:Int) (hv7:(Sl Tab)) (zgo:Int) (zaR:Int) (kv7:Int) (zcn:(Sl (Sl Tab))) (zbj:(Sl step)):Bool:=decide ((ztU w=true)) && zcV P5 P6 w zaK (zkn w) zbC zaU zbz zcu iv7 hv7 zgo zaR kv7 zcn zbj
theorem zDh (hX5:zwo K w zaK X5 P5 S5) (hX6:zDd K w zaK X6 P6 S6) (hs:zqf P5 P6 w zaK zbC zaU zbz zcu iv7 hv7 zgo zaR kv7 zcn zbj=true) (hk:K (e89 (zqe S5 S6 w zaK zbC zaU zbz zcu iv7 hv7 zgo zaR kv7 zcn zbj))) (zhh:zcZ=zg zaA zbz) (zwv:zkZ=zg zao hv7) (zkt:zef=zg zcz zcn) (zhi:zc0=zg zaA zbj):z89 K [1,0,1,1,1,1,1,1,0,1,0,0,1,1,0,0,1,1,1,1,0,1,0,0,1,0,0,1,0] [X5,X6] (zwp w zaK zbC zaU zbz zcu iv7 hv7 zgo zaR kv7 zcn zbj zcZ zkZ zef zc0) :=
  zaQ hs λ hc hs=>zr (enc:=(λ y:step=>[.agg (zaA y)])) (ys:=zkn w) (g:=(zwp w zaK zbC zaU zbz zcu iv7 hv7 zgo zaR kv7 zcn zbj zcZ zkZ zef zc0)) (x89 K [1,0,1,1,1,1,1,1,0,1,0,0,1,1,0,0,1,1,1,1,0,1,0,0,1,0,0,1,0] [X5,X6]) (y89 K [1,0,1,1,1,1,1,1,0,1,0,0,1,1,0,0,1,1,1,1,0,1,0,0,1,0,0,1,0] [X5,X6]) (by kernel_rfl) (And.intro (zE enc_40 4 w.Net.Ties.get) (And.intro (rfl:((false,1,false,[none]):MQ)=(false,1,false,[none])) hc)) λ X7 hE hR =>
  (show ∀ l : List step, zG8 K w zaK (X7 (l.map (λ y : step => [.agg (zaA y)]))) (zcV P5 P6 w zaK l) (zcU S5 S6 w zaK l) from zri (X := X7) (enc := (λ y : step => [.agg (zaA y)])) _ _ (zqd P5 P6 w zaK) (zqc S5 S6 w zaK) (λ Z P S => zG8 K w zaK Z P S)
 (by intro zbC zaU zbz zcu iv7 hv7 zgo zaR kv7 zcn zbj zcZ zkZ zef zc0 hs hk zhh zwv zkt zhi;subst zhh;subst zwv;subst zkt;subst zhi;exact hE _ (zaX (by kernel_rfl) (hX6 hs hk rfl rfl rfl rfl)))
 (by intro y7 rest P7 S7 hX7 zbC zaU zbz zcu iv7 hv7 zgo zaR kv7 zcn zbj zcZ zkZ zef zc0 hs hk zhh zwv zkt zhi;subst zhh;subst zwv;subst zkt;subst zhi;exact hR _ rest _ (zaX (by kernel_rfl) (zc hs hk (λ hs hk=>(zc hs hk (λ hs hk=>(zaQ hs λ hc hs=>And.intro hc (zaQ hs λ hc hs=>And.intro hc (zc hs hk (λ hs hk=>(zaQ hs λ hc hs=>And.intro hc (zaQ hs λ hc hs=>And.intro hc (zc hs hk (λ hs hk=>(zaQ hs λ hc hs=>And.intro hc (hX6 hs hk rfl rfl rfl (zon (enc:=zaA) (f:=zbj.get) (h:=(λ _=>y7)) rfl rfl)))) (λ hs hk=>(hX7 hs hk rfl rfl rfl rfl)))))) (λ hs hk=>(hX7 hs hk rfl rfl rfl rfl)))))) (λ hs hk=>(hX7 hs hk rfl rfl rfl rfl)))) (λ hs hk=>(hX7 hs hk rfl rfl rfl rfl)))))) _ hs hk zhh zwv zkt zhi
def zh3 (S5:Int->Bool->(Sl step)->Int->(Sl (Sl Tab))->(Sl step)) (w:web) (zaK:(Sl (Sl Tab))) (S6:Int->Bool->(Sl step)->Int->Int->(Sl Tab)->Int->Int->Int->(Sl (Sl Tab))->(Sl step)->(Sl step)) (zcp:Int) (zbg:Bool) (zbL:(Sl step)) (zdS:Int) (iv6:Int) (hv6:(Sl Tab)) (ziQ:Int) (zba:Int) (kv6:Int) (zdt:(Sl (Sl Tab))) (zbQ:(Sl step)):(Sl step) :=
  (cond (decide (kv6 ≥ (0:Int)))
 (zqe S5 S6 w zaK zcp zbg zbL zdS iv6 hv6 ziQ zba kv6 zdt zbQ)
 (cond zbg
 (zh1 S5 w zaK zcp zbg zbL zdS true zdt zbQ)
 (zh1 S5 w zaK zcp zbg zbL zdS (decide ((zDa zbQ zbL) < (0:Int))) zdt zbQ)))
def zh4 (P5:Int->Bool->(Sl step)->Int->(Sl (Sl Tab))->Bool) (w:web) (zaK:(Sl (Sl Tab))) (P6:Int->Bool->(Sl step)->Int->Int->(Sl Tab)->Int->Int->Int->(Sl (Sl Tab))->(Sl step)->Bool) (zcp:Int) (zbg:Bool) (zbL:(Sl step)) (zdS:Int) (iv6:Int) (hv6:(Sl Tab)) (ziQ:Int) (zba:Int) (kv6:Int) (zdt:(Sl (Sl Tab))) (zbQ:(Sl step)):Bool :=
  (cond (decide (kv6 ≥ (0:Int)))
 (zqf P5 P6 w zaK zcp zbg zbL zdS iv6 hv6 ziQ zba kv6 zdt zbQ)
 (decide ((zbg=true∨zbL.len ≠ 0)) &&
 (cond zbg
 (zh2 P5 w zaK zcp zbg zbL zdS true zdt zbQ)
 (decide ((zG5 zbQ zbL=true)) &&
 (zh2 P5 w zaK zcp zbg zbL zdS (decide ((zDa zbQ zbL) < (0:Int))) zdt zbQ)))))
def zgE (S5:Int->Bool->(Sl step)->Int->(Sl (Sl Tab))->(Sl step)) (w:web) (zaK:(Sl (Sl Tab))):Nat->Int->Bool->(Sl step)->Int->Int->(Sl Tab)->Int->Int->Int->(Sl (Sl Tab))->(Sl step)->(Sl step):=lpO (λ _ _ _ _ _ _ _ _ _ _ _=>default) (zh3 S5 w zaK)
def zgF (P5:Int->Bool->(Sl step)->Int->(Sl (Sl Tab))->Bool) (w:web) (zaK:(Sl (Sl Tab))):Nat->Int->Bool->(Sl step)->Int->Int->(Sl Tab)->Int->Int->Int->(Sl (Sl Tab))->(Sl step)->Bool:=lpO (λ _ _ _ _ _ _ _ _ _ _ _=>false) (zh4 P5 w zaK)
def zqg (S5:Int->Bool->(Sl step)->Int->(Sl (Sl Tab))->(Sl step)) (w:web) (zaK:(Sl (Sl Tab))) (zcp:Int) (zbg:Bool) (zbL:(Sl step)) (zdS:Int) (iv6:Int) (hv6:(Sl Tab)) (ziQ:Int) (zba:Int) (kv6:Int) (zdt:(Sl (Sl Tab))) (zbQ:(Sl step)):(Sl step):=zgE S5 w zaK Fuel zcp zbg zbL zdS iv6 hv6 ziQ zba kv6 zdt zbQ
def zqh (P5:Int->Bool->(Sl step)->Int->(Sl (Sl Tab))->Bool) (w:web) (zaK:(Sl (Sl Tab))) (zcp:Int) (zbg:Bool) (zbL:(Sl step)) (zdS:Int) (iv6:Int) (hv6:(Sl Tab)) (ziQ:Int) (zba:Int) (kv6:Int) (zdt:(Sl (Sl Tab))) (zbQ:(Sl step)):Bool:=zgF P5 w zaK Fuel zcp zbg zbL zdS iv6 hv6 ziQ zba kv6 zdt zbQ
theorem zDi (hX5:zwo K w zaK X5 P5 S5) (hs:zqh P5 w zaK zcp zbg zbL zdS iv6 hv6 ziQ zba kv6 zdt zbQ=true) (hk:K (e89 (zqg S5 w zaK zcp zbg zbL zdS iv6 hv6 ziQ zba kv6 zdt zbQ))) (zmZ:zd8=zg zaA zbL) (zDj:zoC=zg zao hv6) (zqi:zfA=zg zcz zdt) (zm0:zd9=zg zaA zbQ):z89 K [1,0,1,1,1,1,1,1,0,1,0,0,1,1,0,0,1,1,1,1,0,1,0] [X5] (zBi w zaK zcp zbg zbL zdS iv6 hv6 ziQ zba kv6 zdt zbQ zd8 zoC zfA zd9) :=
  zl (λ X=>z89 K [1,0,1,1,1,1,1,1,0,1,0,0,1,1,0,0,1,1,1,1,0,1,0,0] [X5,X]) (by kernel_rfl) λ X6 hX =>
  (show ∀ k, zDd K w zaK X6 (zgF P5 w zaK k) (zgE S5 w zaK k) from zfW _ _ (zh4 P5 w zaK) (zh3 S5 w zaK) (zDd K w zaK X6)
 (by intro _ _ _ _ _ _ _ _ _ _ _ _ _ _ _ hs;exact absurd hs Bool.false_ne_true)
 (by intro P6 S6 hX6 zcp zbg zbL zdS iv6 hv6 ziQ zba kv6 zdt zbQ zd8 zoC zfA zd9 hs hk zmZ zDj zqi zm0;subst zmZ;subst zDj;subst zqi;subst zm0;exact hX _ (zaX (by kernel_rfl) (zc hs hk (λ hs hk=>(And.intro (And.intro (zE enc_40 4 w.Net.Ties.get) (rfl:((false,1,false,[none]):MQ)=(false,1,false,[none]))) (zDh hX5 hX6 hs hk rfl rfl rfl rfl))) (λ hs hk=>(zaQ hs λ hc hs=>And.intro hc (zc hs hk (λ hs hk=>(zwu hX5 hs hk rfl rfl rfl)) (λ hs hk=>(zaQ hs λ hc hs=>And.intro (And.intro (zE zaA 5 zbQ.get) (And.intro (zE zaA 5 zbL.get) hc)) (zwu hX5 hs hk rfl rfl rfl)))))))))) _ hs hk zmZ zDj zqi zm0
def zh5 (w:web) (zaK:(Sl (Sl Tab))) (S5:Int->Bool->(Sl step)->Int->(Sl (Sl Tab))->(Sl step)) (zb1:Int) (zby:Bool) (zck:(Sl step)) (zca:Int) (zcL:(Sl (Sl Tab))):(Sl step) :=
  (cond (decide (zca < (zaK.len : Int)))
 (cond (decide ((tL ((zcL.get zca.toNat).get zb1.toNat) zca) ≥ (0:Int)))
 (S5 zb1 zby zck (w64 (zca+(1:Int))) zcL)
 (zqg S5 w zaK zb1 zby zck zca zca (zcL.get zca.toNat) zca (0:Int) (w64 (zb1 - (1:Int))) zcL (⟨0,(λ _=>default)⟩:Sl step)))
 zck)
def zh6 (w:web) (zaK:(Sl (Sl Tab))) (P5:Int->Bool->(Sl step)->Int->(Sl (Sl Tab))->Bool) (zb1:Int) (zby:Bool) (zck:(Sl step)) (zca:Int) (zcL:(Sl (Sl Tab))):Bool :=
  (cond (decide (zca < (zaK.len : Int)))
 (decide ((0≤zca/\zca < (zcL.len:Int))) &&
 (decide ((zca.toNat < zcL.len)) &&
 (decide ((0≤zb1/\zb1 < ((zcL.get zca.toNat).len:Int))) &&
 (decide ((0≤zca/\zca < (40:Int))) &&
 (cond (decide ((tL ((zcL.get zca.toNat).get zb1.toNat) zca) ≥ (0:Int)))
 (P5 zb1 zby zck (w64 (zca+(1:Int))) zcL)
 (zqh P5 w zaK zb1 zby zck zca zca (zcL.get zca.toNat) zca (0:Int) (w64 (zb1 - (1:Int))) zcL (⟨0,(λ _=>default)⟩:Sl step)))))))
 true)
def zdL (w:web) (zaK:(Sl (Sl Tab))):Nat->Int->Bool->(Sl step)->Int->(Sl (Sl Tab))->(Sl step):=lpO (λ _ _ _ _ _=>default) (zh5 w zaK)
def zdM (w:web) (zaK:(Sl (Sl Tab))):Nat->Int->Bool->(Sl step)->Int->(Sl (Sl Tab))->Bool:=lpO (λ _ _ _ _ _=>false) (zh6 w zaK)
def zww (w:web) (zaK:(Sl (Sl Tab))) (zb1:Int) (zby:Bool) (zck:(Sl step)) (zca:Int) (zcL:(Sl (Sl Tab))):(Sl step):=zdL w zaK Fuel zb1 zby zck zca zcL
def zwx (w:web) (zaK:(Sl (Sl Tab))) (zb1:Int) (zby:Bool) (zck:(Sl step)) (zca:Int) (zcL:(Sl (Sl Tab))):Bool:=zdM w zaK Fuel zb1 zby zck zca zcL
theorem zDk (hs:zwx w zaK zb1 zby zck zca zcL=true) (hk:K (e89 (zww w zaK zb1 zby zck zca zcL))) (zm1:zd7=zg zaA zck) (zqj:zfz=zg zcz zcL):z89 K [1,0,1,1,1,1,1,1,0,1,0] [] (zBh w zaK zb1 zby zck zca zcL zd7 zfz) :=
  zl (λ X=>z89 K [1,0,1,1,1,1,1,1,0,1,0,0] [X]) (by kernel_rfl) λ X5 hX =>
  (show ∀ k, zwo K w zaK X5 (zdM w zaK k) (zdL w zaK k) from zfW _ _ (zh6 w zaK) (zh5 w zaK) (zwo K w zaK X5)
 (by intro _ _ _ _ _ _ _ hs;exact absurd hs Bool.false_ne_true)
 (by intro P5 S5 hX5 zb1 zby zck zca zcL zd7 zfz hs hk zm1 zqj;subst zm1;subst zqj;exact hX _ (zaX (by kernel_rfl) (zc hs hk (λ hs hk=>(zaQ hs λ hc hs=>And.intro hc (zaQ hs λ hc hs=>And.intro hc (zaQ hs λ hc hs=>And.intro hc (zaQ hs λ hc hs=>And.intro hc (zc hs hk (λ hs hk=>(hX5 hs hk rfl rfl)) (λ hs hk=>(zDi hX5 hs hk rfl rfl rfl rfl)))))))) (λ hs hk=>hk))))) _ hs hk zm1 zqj
def zh7 (w:web) (zkr:Int) (zaK:(Sl (Sl Tab))):(Sl step) :=
  (zww w zaK zkr true (⟨0,(λ _=>default)⟩:Sl step) (0:Int) zaK)
def zh8 (w:web) (zkr:Int) (zaK:(Sl (Sl Tab))):Bool :=
  (zwx w zaK zkr true (⟨0,(λ _=>default)⟩:Sl step) (0:Int) zaK)
theorem zwy (hs:zh8 w zkr zaK=true) (hk:K (e89 (zh7 w zkr zaK))) (zDl:zwr=zg zcz zaK):z89 K [1,0,1,1,1,1,1] [] ⟨[(0,zP (.fp (zaC w) 0)),(3,zv 21),(5,zI zkr)],[(21,.vec 159 1 24 zaK.len zwr)],[]⟩:=by subst zDl;exact zaX (by kernel_rfl) (zDk hs hk rfl rfl)
def zh9 (S2:Int->(Sl step)) (w:web) (za6:(Sl (Sl Tab))) (S3:Int->Int->(Sl step)) (zb0:Int) (zcI:Int):(Sl step) :=
  (cond (decide (zcI < (za6.len : Int)))
 (cond (decide ((tL ((za6.get zcI.toNat).get zb0.toNat) zcI) < (0:Int)))
 (zh7 w zb0 za6)
 (S3 zb0 (w64 (zcI+(1:Int)))))
 (S2 (w64 (zb0+(1:Int)))))
def zia (P2:Int->Bool) (w:web) (za6:(Sl (Sl Tab))) (P3:Int->Int->Bool) (zb0:Int) (zcI:Int):Bool :=
  (cond (decide (zcI < (za6.len : Int)))
 (decide ((0≤zcI/\zcI < (za6.len:Int))) &&
 (decide ((zcI.toNat < za6.len)) &&
 (decide ((0≤zb0/\zb0 < ((za6.get zcI.toNat).len:Int))) &&
 (decide ((0≤zcI/\zcI < (40:Int))) &&
 (cond (decide ((tL ((za6.get zcI.toNat).get zb0.toNat) zcI) < (0:Int)))
 (zh8 w zb0 za6)
 (P3 zb0 (w64 (zcI+(1:Int)))))))))
 (P2 (w64 (zb0+(1:Int)))))
def zeR (S2:Int->(Sl step)) (w:web) (za6:(Sl (Sl Tab))):Nat->Int->Int->(Sl step):=lpO (λ _ _=>default) (zh9 S2 w za6)
def zeS (P2:Int->Bool) (w:web) (za6:(Sl (Sl Tab))):Nat->Int->Int->Bool:=lpO (λ _ _=>false) (zia P2 w za6)
def zwz (S2:Int->(Sl step)) (w:web) (za6:(Sl (Sl Tab))) (zb0:Int) (zcI:Int):(Sl step):=zeR S2 w za6 Fuel zb0 zcI
def zwA (P2:Int->Bool) (w:web) (za6:(Sl (Sl Tab))) (zb0:Int) (zcI:Int):Bool:=zeS P2 w za6 Fuel zb0 zcI
theorem zDm (hX2:zDc K w za6 X2 P2 S2) (hs:zwA P2 w za6 zb0 zcI=true) (hk:K (e89 (zwz S2 w za6 zb0 zcI))):z89 K [1,0,1,1,1,1,0,1,0,0,1,0,0,1,0] [X2] (zBg w za6 zb0 zcI) :=
  zl (λ X=>z89 K [1,0,1,1,1,1,0,1,0,0,1,0,0,1,0,0] [X2,X]) (by kernel_rfl) λ X3 hX =>
  (show ∀ k, zG7 K w za6 X3 (zeS P2 w za6 k) (zeR S2 w za6 k) from zfW _ _ (zia P2 w za6) (zh9 S2 w za6) (zG7 K w za6 X3)
 (by intro _ _ hs;exact absurd hs Bool.false_ne_true)
 (by intro P3 S3 hX3 zb0 zcI hs hk;exact hX _ (zaX (by kernel_rfl) (zc hs hk (λ hs hk=>(zaQ hs λ hc hs=>And.intro hc (zaQ hs λ hc hs=>And.intro hc (zaQ hs λ hc hs=>And.intro hc (zaQ hs λ hc hs=>And.intro hc (zc hs hk (λ hs hk=>(zwy hs hk rfl)) (λ hs hk=>(hX3 hs hk)))))))) (λ hs hk=>(hX2 hs hk)))))) _ hs hk
def zib (w:web) (za6:(Sl (Sl Tab))) (S2:Int->(Sl step)) (zco:Int):(Sl step) :=
  (cond (decide (zco < w.Net.Nodes))
 (zwz S2 w za6 zco (0:Int))
 (zh7 w zco za6))
def zic (w:web) (za6:(Sl (Sl Tab))) (P2:Int->Bool) (zco:Int):Bool :=
  (cond (decide (zco < w.Net.Nodes))
 (zwA P2 w za6 zco (0:Int))
 (zh8 w zco za6))
def zeg (w:web) (za6:(Sl (Sl Tab))):Nat->Int->(Sl step):=lpO (λ _=>default) (zib w za6)
def zeh (w:web) (za6:(Sl (Sl Tab))):Nat->Int->Bool:=lpO (λ _=>false) (zic w za6)
def zwB (w:web) (za6:(Sl (Sl Tab))) (zco:Int):(Sl step):=zeg w za6 Fuel zco
def zwC (w:web) (za6:(Sl (Sl Tab))) (zco:Int):Bool:=zeh w za6 Fuel zco
theorem zDn (hs:zwC w za6 zco=true) (hk:K (e89 (zwB w za6 zco))):z89 K [1,0,1,1,1,1,0,1,0] [] (zBf w za6 zco) :=
  zl (λ X=>z89 K [1,0,1,1,1,1,0,1,0,0] [X]) (by kernel_rfl) λ X2 hX =>
  (show ∀ k, zDc K w za6 X2 (zeh w za6 k) (zeg w za6 k) from zfW _ _ (zic w za6) (zib w za6) (zDc K w za6 X2)
 (by intro _ hs;exact absurd hs Bool.false_ne_true)
 (by intro P2 S2 hX2 zco hs hk;exact hX _ (zaX (by kernel_rfl) (zc hs hk (λ hs hk=>(zDm hX2 hs hk)) (λ hs hk=>(zwy hs hk rfl)))))) _ hs hk
def zm2 (w:web) (za6:(Sl (Sl Tab))):(Sl step) :=
  (zwB w za6 (1:Int))
def zm3 (w:web) (za6:(Sl (Sl Tab))):Bool :=
  (zwC w za6 (1:Int))
theorem zDo (hs:zm3 w za6=true) (hk:K (e89 (zm2 w za6))) (zDp:zwq=zg zcz za6):z89 K [1,0,1,1] [] ⟨[(0,zP (.fp (zaC w) 0)),(3,zv 21)],[(21,.vec 159 1 24 za6.len zwq)],[]⟩:=by subst zDp;exact zaX (by kernel_rfl) (zDn hs hk)
def zid (w:web) (S0:Int->(Sl (Sl Tab))->(Sl step)) (zcB:Int) (zcT:(Sl (Sl Tab))):(Sl step) :=
  (cond (decide (zcB < (w.Net.Nodes.toNat : Int)))
 (S0 (w64 (zcB+(1:Int))) (⟨zcT.len,(setT zcB.toNat (zsy w zcB w.Net.Nodes) zcT.get)⟩:Sl (Sl Tab)))
 (zm2 w zcT))
def zie (w:web) (P0:Int->(Sl (Sl Tab))->Bool) (zcB:Int) (zcT:(Sl (Sl Tab))):Bool :=
  (cond (decide (zcB < (w.Net.Nodes.toNat : Int)))
 (decide ((zFF w zcB w.Net.Nodes=true)) &&
 (decide ((0≤zcB/\zcB < (zcT.len:Int))) &&
 (decide ((zcB.toNat < zcT.len)) &&
 (P0 (w64 (zcB+(1:Int))) (⟨zcT.len,(setT zcB.toNat (zsy w zcB w.Net.Nodes) zcT.get)⟩:Sl (Sl Tab))))))
 (zm3 w zcT))
def zgG (w:web):Nat->Int->(Sl (Sl Tab))->(Sl step):=lpO (λ _ _=>default) (zid w)
def zgH (w:web):Nat->Int->(Sl (Sl Tab))->Bool:=lpO (λ _ _=>false) (zie w)
def zwD (w:web) (zcB:Int) (zcT:(Sl (Sl Tab))):(Sl step):=zgG w Fuel zcB zcT
def zm4 (w:web) (zcB:Int) (zcT:(Sl (Sl Tab))):Bool:=zgH w Fuel zcB zcT
theorem zDq (hs:zm4 w zcB zcT=true) (hk:K (e89 (zwD w zcB zcT))) (zqk:zfy=zg zcz zcT):z89 K [1,0,1,0,1,0] [] (zBe w zcB zcT zfy) :=
  zl (λ X=>z89 K [1,0,1,0,1,0,0] [X]) (by kernel_rfl) λ X0 hX =>
  (show ∀ k, zG6 K w X0 (zgH w k) (zgG w k) from zfW _ _ (zie w) (zid w) (zG6 K w X0)
 (by intro _ _ _ hs;exact absurd hs Bool.false_ne_true)
 (by intro P0 S0 hX0 zcB zcT zfy hs hk zqk;subst zqk;exact hX _ (zaX (by kernel_rfl) (zc hs hk (λ hs hk=>(zaQ hs λ hc hs=>And.intro (And.intro (zE enc_40 4 w.Net.Ties.get) (And.intro (rfl:((false,1,false,[none]):MQ)=(false,1,false,[none])) hc)) (zaQ hs λ hc hs=>And.intro hc (zaQ hs λ hc hs=>And.intro hc (hX0 hs hk (zlz (enc:=zcz) (i:=zcB.toNat) (k:=0) (f:=zcT.get) (new:=(zcz (zsy w zcB w.Net.Nodes))) (v:=(zsy w zcB w.Net.Nodes)) rfl rfl)))))) (λ hs hk=>(zDo hs hk rfl)))))) _ hs hk zqk
def s89 (w:web):(Sl step) :=
  (zwD w (0:Int) (⟨w.Net.Nodes.toNat,(λ _=>(⟨0,λ _=>(λ _=>(0:Int))⟩:(Sl Tab)))⟩:Sl (Sl Tab)))
def p89 (w:web):Bool :=
  (decide ((0≤w.Net.Nodes/\w.Net.Nodes=w.Net.Nodes/\w.Net.Nodes≤1000000)) &&
 (zm4 w (0:Int) (⟨w.Net.Nodes.toNat,(λ _=>(⟨0,λ _=>(λ _=>(0:Int))⟩:(Sl Tab)))⟩:Sl (Sl Tab))))
end
theorem q89 (w:web) (K:List PA->Prop) (hs:p89 w=true) (hk:K (e89 (s89 w))):vcFun Tryd.prog G89 zwn 89 [.one (.fp (zaC w) 0)] K :=
  zaX (by kernel_rfl) (zaQ hs λ hc hs=>And.intro hc (zDq hs hk rfl))
def zAc : List PA → COut
  | [.one (.fp [.int .i64 zan,.sl zai zaF zaj,.fm zbn zaH zaI] 0)]=>.det (IsE enc_40 4 zaF zaj/\zbn=(false,1,false,[none])/\p89 (⟨(⟨zan,(⟨zai,zal zaj⟩:(Sl Tie))⟩:Net),(⟨zaH,zaI⟩:Mp)⟩:web)=true) [.one (.sl ((s89 (⟨(⟨zan,(⟨zai,zal zaj⟩:(Sl Tie))⟩:Net),(⟨zaH,zaI⟩:Mp)⟩:web)).len) 5 (λ i=>zaA ((s89 (⟨(⟨zan,(⟨zai,zal zaj⟩:(Sl Tie))⟩:Net),(⟨zaH,zaI⟩:Mp)⟩:web)).get i)))]
  | _=>.no
theorem zG9:zas Tryd.prog 89:=⟨_,rfl,rfl,by kernel_rfl⟩
theorem zKJ:Ok Tryd.prog 89 zAc:=zbm zJu zG9 λ args K h=>by
  unfold zAc at h
  split at h
  · rename_i zan zai zaF zaj zbn zaH zaI
    obtain⟨⟨⟨rfl,zay,rfl⟩,rfl,hs⟩,hk⟩:=h
    try rw[zak zay] at hs
    try rw[zak zay] at hk
    exact⟨(λ _ _=>[]),(λ _=>false),zwn,q89 (⟨(⟨zan,(⟨zai,zay⟩:(Sl Tie))⟩:Net),(⟨zaH,zaI⟩:Mp)⟩:web) K hs hk⟩
  · exact h.elim
abbrev T49:Tabs:=(((Tabs.nil.addF 67 ztE).addF 88 zvK).addF 89 zAc)
theorem zJv:TabsOk Tryd.prog T49:=(((TabsOk.nil.addF zIG).addF zJd).addF zKJ)
abbrev G49:Ctrs:=csm T49 (λ _ _=>[]) (λ _=>false)
def zDr:Ann:=⟨31,[(0,zK [1] [1]),(1,zK [1,10] [1]),(2,zK [2,3] []),(3,zK [4] [13]),(4,zK [4,16] [13]),(5,zK [2,3] []),(6,zK [4,5] [13]),(7,zK [5,18,19,20] []),(8,zK [5,18,19,20,21] [28]),(9,zK [5,7,18,19,20] [7,28]),(10,zK [5,18,19,20] [28]),(11,zK [5,18,19,20] [28]),(12,zK [2,3] [28])],
 [(8,⟨[5,18,19,20],[28],[(5,28,75,λ _=>enc_75 default)],[],[],[],[]⟩)],
 [(2,zK [1,10] [1]),(3,zK [1] [1]),(5,zK [4,16] [13]),(6,zK [4] [13]),(8,zK [5,18,19,20] [])],
 [],[]⟩
abbrev R49:=((Sl Use)×Int)
abbrev e49 (r:R49):List PA:=[.one (.sl r.1.len 2 (λ i=>enc_75 (r.1.get i))),.one (.int .i64 r.2)]
@[irreducible] def z49:=ptF Tryd.prog G49 zDr Tryd.f49
def zBj (zcl:(Sl step)) (zcv:Int) (zdg:Int) (zcJ:(Sl Use)) (zfB:Nat->List PV):St:=⟨[(5,zv 28),(18,zS zaA 5 zcl),(19,zI zcv),(20,zI zdg)],[(28,.vec 75 2 16 zcJ.len zfB)],[]⟩
abbrev zHa (K:List PA->Prop) (zcl:(Sl step)) (zcv:Int) (X:St->Prop) (P:Int->(Sl Use)->Bool) (S:Int->(Sl Use)->((Sl Use)×Int)):Prop:=∀ ⦃zdg:Int⦄ ⦃zcJ:(Sl Use)⦄ ⦃zfB:Nat->List PV⦄,P zdg zcJ=true->K (e49 (S zdg zcJ))->zfB=zg enc_75 zcJ->X (zBj zcl zcv zdg zcJ zfB)
section
variable {K:List PA->Prop}{n:Net}{zaW:Bool}{zql:Bool}{zcl:(Sl step)}{zcv:Int}{zwE:Nat->List PV}{zdg:Int}{zcJ:(Sl Use)}{zfB:Nat->List PV}{X5:St->Prop}{P5:Int->(Sl Use)->Bool}{S5:Int->(Sl Use)->((Sl Use)×Int)}
def zif (zcl:(Sl step)) (zcv:Int) (S5:Int->(Sl Use)->((Sl Use)×Int)) (zdg:Int) (zcJ:(Sl Use)):((Sl Use)×Int) :=
  (cond (decide (zdg < zcv))
 (S5 (w64 (zdg+(1:Int))) (⟨(zcJ.len+1),(ziY zcJ.len zcJ.get (λ _=>(zcl.get zdg.toNat).Use))⟩:Sl Use))
 (zcJ,(0:Int)))
def zih (zcl:(Sl step)) (zcv:Int) (P5:Int->(Sl Use)->Bool) (zdg:Int) (zcJ:(Sl Use)):Bool :=
  (cond (decide (zdg < zcv))
 (decide ((0≤zdg/\zdg < (zcl.len:Int))) &&
 (decide (((zcJ.len+1) * 16≤140737488355328/\zcJ.len+1≤9223372036854775807)) &&
 (P5 (w64 (zdg+(1:Int))) (⟨(zcJ.len+1),(ziY zcJ.len zcJ.get (λ _=>(zcl.get zdg.toNat).Use))⟩:Sl Use))))
 true)
def zku (zcl:(Sl step)) (zcv:Int):Nat->Int->(Sl Use)->((Sl Use)×Int):=lpO (λ _ _=>default) (zif zcl zcv)
def zkv (zcl:(Sl step)) (zcv:Int):Nat->Int->(Sl Use)->Bool:=lpO (λ _ _=>false) (zih zcl zcv)
def zwF (zcl:(Sl step)) (zcv:Int) (zdg:Int) (zcJ:(Sl Use)):((Sl Use)×Int):=zku zcl zcv Fuel zdg zcJ
def zwG (zcl:(Sl step)) (zcv:Int) (zdg:Int) (zcJ:(Sl Use)):Bool:=zkv zcl zcv Fuel zdg zcJ
theorem zDs (hs:zwG zcl zcv zdg zcJ=true) (hk:K (e49 (zwF zcl zcv zdg zcJ))) (zqm:zfB=zg enc_75 zcJ):z49 (Wk K) [1,1,1,1,1,0,1,0] [] (zBj zcl zcv zdg zcJ zfB) :=
  zl (λ X=>z49 (Wk K) [1,1,1,1,1,0,1,0,0] [X]) (by kernel_rfl) λ X5 hX =>
  (show ∀ k, zHa K zcl zcv X5 (zkv zcl zcv k) (zku zcl zcv k) from zfW _ _ (zih zcl zcv) (zif zcl zcv) (zHa K zcl zcv X5)
 (by intro _ _ _ hs;exact absurd hs Bool.false_ne_true)
 (by intro P5 S5 hX5 zdg zcJ zfB hs hk zqm;subst zqm;exact hX _ (zaX (by kernel_rfl) (zc hs hk (λ hs hk=>(zaQ hs λ hc hs=>And.intro hc (zaQ hs λ hc hs=>And.intro hc (hX5 hs hk (zon (enc:=enc_75) (f:=zcJ.get) (h:=(λ _=>(zcl.get zdg.toNat).Use)) rfl rfl))))) (λ hs hk=>((zgn hk):Wk K [.one (.sl zcJ.len 2 (λ i=>enc_75 (zcJ.get i))),.one (.int .i64 (0:Int))])))))) _ hs hk zqm
def zqn (zcl:(Sl step)) (zcv:Int):((Sl Use)×Int) :=
  (zwF zcl zcv (0:Int) (⟨0,(λ _=>default)⟩:Sl Use))
def zqo (zcl:(Sl step)) (zcv:Int):Bool :=
  (zwG zcl zcv (0:Int) (⟨0,(λ _=>default)⟩:Sl Use))
theorem zDt (hs:zqo zcl zcv=true) (hk:K (e49 (zqn zcl zcv))) (zDu:zwE=zg zaA zcl):z49 (Wk K) [1,1,1,1,1,0,1] [] ⟨[(5,zP (.nils)),(18,zP (.sl zcl.len 5 zwE)),(19,zI zcv),(20,zI (0:Int))],[],[]⟩:=by subst zDu;exact zaX (by kernel_rfl) (zDs hs hk rfl)
def zqp (n:Net):((Sl Use)×Int) :=
  (zqn (s89 (⟨n,(⟨0,(λ _=>none)⟩:Mp)⟩:web)) ((s89 (⟨n,(⟨0,(λ _=>none)⟩:Mp)⟩:web)).len:Int))
def zqq (n:Net):Bool :=
  (decide ((p89 (⟨n,(⟨0,(λ _=>none)⟩:Mp)⟩:web)=true)) &&
 (zqo (s89 (⟨n,(⟨0,(λ _=>none)⟩:Mp)⟩:web)) ((s89 (⟨n,(⟨0,(λ _=>none)⟩:Mp)⟩:web)).len:Int)))
theorem zDv (hs:zqq n=true) (hk:K (e49 (zqp n))):z49 (Wk K) [1,1,1,1] [] ⟨[(4,zp 13 0)],[(13,.box 105 (zm (zaC (⟨n,(⟨0,(λ _=>none)⟩:Mp)⟩:web))))],[]⟩:=zaX (by kernel_rfl) (zaQ hs λ hc hs=>And.intro (And.intro ((λ _=>rfl):(∀ i,sc2 ((λ i=>zaA ((s89 (⟨n,(⟨0,(λ _=>none)⟩:Mp)⟩:web)).get i)) i)=true)) (And.intro (zE enc_40 4 n.Ties.get) (And.intro (rfl:((false,1,false,[none]):MQ)=(false,1,false,[none])) hc))) (zDt hs hk rfl))
def zqr (n:Net) (zql:Bool):((Sl Use)×Int) :=
  (cond zql
 ((⟨0,λ _=>default⟩:(Sl Use)),(6:Int))
 (zqp n))
def zqs (n:Net) (zql:Bool):Bool :=
  (cond zql
 true
 (zqq n))
theorem zDw (hs:zqs n zql=true) (hk:K (e49 (zqr n zql))):z49 (Wk K) [1,1,1,0,1] [] ⟨[(4,zp 13 0),(16,zB zql)],[(13,.box 105 (zm (zaC (⟨n,(⟨0,(λ _=>none)⟩:Mp)⟩:web))))],[]⟩:=zaX (by kernel_rfl) (zc hs hk (λ hs hk=>((wk hk (zhp (.one (.nil _ _)) (zhp (.one (.rfl _)) znx))):Wk K [.one (.nils),.one (.int .i64 (6:Int))])) (λ hs hk=>(zDv hs hk)))
def zqu (n:Net):((Sl Use)×Int) :=
  (zqr n (!(s88 (⟨n,(⟨0,(λ _=>none)⟩:Mp)⟩:web))))
def zqv (n:Net):Bool :=
  (decide ((p88 (⟨n,(⟨0,(λ _=>none)⟩:Mp)⟩:web)=true)) &&
 (zqs n (!(s88 (⟨n,(⟨0,(λ _=>none)⟩:Mp)⟩:web)))))
theorem zDx (hs:zqv n=true) (hk:K (e49 (zqu n))):z49 (Wk K) [1,1] [] ⟨[(1,zp 1 0)],[(1,.box 24 (zm (enc_24 n)))],[]⟩:=zaX (by kernel_rfl) (zaQ hs λ hc hs=>And.intro (And.intro (zE enc_40 4 n.Ties.get) (And.intro (rfl:((false,1,false,[none]):MQ)=(false,1,false,[none])) hc)) (zDw hs hk))
def zqw (n:Net) (zaW:Bool):((Sl Use)×Int) :=
  (cond zaW
 ((⟨0,λ _=>default⟩:(Sl Use)),(2:Int))
 (zqu n))
def zqx (n:Net) (zaW:Bool):Bool :=
  (cond zaW
 true
 (zqv n))
theorem zDy (hs:zqx n zaW=true) (hk:K (e49 (zqw n zaW))):z49 (Wk K) [1,0,1] [] ⟨[(1,zp 1 0),(10,zB zaW)],[(1,.box 24 (zm (enc_24 n)))],[]⟩:=zaX (by kernel_rfl) (zc hs hk (λ hs hk=>((wk hk (zhp (.one (.nil _ _)) (zhp (.one (.rfl _)) znx))):Wk K [.one (.nils),.one (.int .i64 (2:Int))])) (λ hs hk=>(zDx hs hk)))
def s49 (n:Net):((Sl Use)×Int) :=
  (zqw n (!(s67 n)))
def p49 (n:Net):Bool :=
  (decide ((p67 n=true)) &&
 (zqx n (!(s67 n))))
end
theorem q49 (n:Net) (K:List PA->Prop) (hs:p49 n=true) (hk:K (e49 (s49 n))):vcFun Tryd.prog G49 zDr 49 [.agg (enc_24 n)] (Wk K) :=
  zaX (by kernel_rfl) (zaQ hs λ hc hs=>And.intro (And.intro (zE enc_40 4 n.Ties.get) hc) (zDy hs hk))
def zAd : List PA → COut
  | [.agg [.int .i64 zah,.sl zae zaz zad]]=>.det (IsE enc_40 4 zaz zad/\p49 (⟨zah,(⟨zae,zal zad⟩:(Sl Tie))⟩:Net)=true) [.one (.sl (((s49 (⟨zah,(⟨zae,zal zad⟩:(Sl Tie))⟩:Net)).1).len) 2 (λ i=>enc_75 (((s49 (⟨zah,(⟨zae,zal zad⟩:(Sl Tie))⟩:Net)).1).get i))),.one (.int .i64 ((s49 (⟨zah,(⟨zae,zal zad⟩:(Sl Tie))⟩:Net)).2))]
  | _=>.no
theorem zHb:zas Tryd.prog 49:=⟨_,rfl,rfl,by kernel_rfl⟩
theorem zKK:Ok Tryd.prog 49 zAd:=zhC zJv zHb λ args K h=>by
  unfold zAd at h
  split at h
  · rename_i zah zae zaz zad
    obtain⟨⟨⟨rfl,zar,rfl⟩,hs⟩,hk⟩:=h
    try rw[zak zar] at hs
    try rw[zak zar] at hk
    exact⟨_,zff zgm _,(λ _ _=>[]),(λ _=>false),zDr,q49 (⟨zah,(⟨zae,zar⟩:(Sl Tie))⟩:Net) K hs hk⟩
  · exact h.elim
end Go.Proofs
/-
  DERIVED: THE SHELF's CONTRACTS AT THIS DUMP,IN PLAIN WORDS (tools/lay-plain.mjs out of 'YtedhjaaikeakoaaDoorPmLk.lean',which tools/lay-shelf.mjs wrote): THE SAME DECLARATIONS UNDER THE SAME NAMES: 'import','namespace','open','def','theorem' AND NOTHING ELSE: no command of the shelf's: FOR A HAND-IN. Each laying: the table of numbers ('.._ren') and one theorem,a field a fact of the dump's own or the kernel's comparison;each contract: ONE APPLICATION.
-/
namespace Go.Proofs
open Go.Shelf
def Tryd.keysA_ren:Go.Shelf.Ren:=⟨fun | 7=>103 | 10=>117 | n=>n,fun | 23=>103 | 26=>3 | 3=>4 | 28=>152 | 0=>0 | 27=>151 | 33=>169 | 4=>4 | n=>n,fun | n=>n⟩
theorem Tryd.keysA : Go.Proofs.SlLaysZI.n7 Tryd.prog Tryd.keysA_ren := {
  mixed:=by kernel_rfl
  f7:=⟨Tryd.f103.name,by decide,Tryd.func103.trans (congrArg some (by kernel_rfl))⟩
  f10:=⟨Tryd.f117.name,by decide,Tryd.func117.trans (congrArg some (by kernel_rfl))⟩
  t0:=Tryd.underlying0
  a0:=Tryd.isAgg0
  z0:=Tryd.sizeOf0
  v0:=Tryd.zeroValue0
  t4:=Tryd.underlying4
  a4:=Tryd.isAgg4
  z4:=Tryd.sizeOf4
  v4:=Tryd.zeroValue4
  t23:=Tryd.underlying103
  a23:=Tryd.isAgg103
  z23:=Tryd.sizeOf103
  v23:=Tryd.zeroValue103
  t26:=Tryd.underlying3
  a26:=Tryd.isAgg3
  z26:=Tryd.sizeOf3
  v26:=Tryd.zeroValue3
  t27:=Tryd.underlying151
  a27:=Tryd.isAgg151
  z27:=Tryd.sizeOf151
  v27:=Tryd.zeroValue151
  t28:=Tryd.underlying152
  a28:=Tryd.isAgg152
  z28:=Tryd.sizeOf152
  v28:=Tryd.zeroValue152
  t33:=Tryd.underlying169
  a33:=Tryd.isAgg169
  z33:=Tryd.sizeOf169
  v33:=Tryd.zeroValue169 }
def Tryd.sortedA_ren:Go.Shelf.Ren:=⟨fun | 6=>102 | 8=>115 | 9=>116 | 11=>129 | 13=>113 | 12=>130 | 23=>127 | 24=>128 | 14=>136 | 15=>137 | 16=>138 | 17=>139 | 18=>140 | 19=>141 | 20=>142 | 21=>143 | 22=>144 | 25=>146 | 26=>132 | 27=>133 | 28=>147 | 29=>148 | 30=>114 | 31=>149 | n=>n,fun | 26=>3 | 28=>152 | 24=>27 | 0=>0 | 3=>3 | 37=>168 | 48=>182 | 50=>184 | 4=>4 | 40=>175 | 39=>174 | 45=>179 | 5=>5 | 9=>9 | 51=>187 | 55=>191 | 57=>199 | 58=>200 | 33=>169 | n=>n,fun | n=>n⟩
theorem Tryd.sortedA : Go.Proofs.SlLaysZI.n6 Tryd.prog Tryd.sortedA_ren := {
  mixed:=by kernel_rfl
  f6:=⟨Tryd.f102.name,by decide,Tryd.func102.trans (congrArg some (by kernel_rfl))⟩
  f8:=⟨Tryd.f115.name,by decide,Tryd.func115.trans (congrArg some (by kernel_rfl))⟩
  f11:=⟨Tryd.f129.name,by decide,Tryd.func129.trans (congrArg some (by kernel_rfl))⟩
  t0:=Tryd.underlying0
  a0:=Tryd.isAgg0
  z0:=Tryd.sizeOf0
  v0:=Tryd.zeroValue0
  t24:=Tryd.underlying27
  a24:=Tryd.isAgg27
  z24:=Tryd.sizeOf27
  v24:=Tryd.zeroValue27
  t26:=Tryd.underlying3
  a26:=Tryd.isAgg3
  z26:=Tryd.sizeOf3
  v26:=Tryd.zeroValue3
  t28:=Tryd.underlying152
  a28:=Tryd.isAgg152
  z28:=Tryd.sizeOf152
  v28:=Tryd.zeroValue152
  i26:=by kernel_rfl }
def Tryd.sortA_ren:Go.Shelf.Ren:=⟨fun | 5=>116 | 8=>113 | 7=>130 | 19=>127 | 20=>128 | 10=>136 | 11=>137 | 12=>138 | 13=>139 | 14=>140 | 15=>141 | 16=>142 | 17=>143 | 18=>144 | 30=>146 | 31=>132 | 32=>133 | 33=>147 | 34=>148 | 35=>114 | 40=>149 | n=>n,fun | 23=>27 | 25=>3 | 3=>3 | 32=>168 | 22=>27 | 0=>0 | 44=>182 | 46=>184 | 4=>4 | 36=>175 | 35=>174 | 41=>179 | 5=>5 | 9=>9 | 53=>187 | 57=>191 | 63=>199 | 64=>200 | n=>n,fun | n=>n⟩
theorem Tryd.sortA : Go.Proofs.SlLaysM.n5 Tryd.prog Tryd.sortA_ren := {
  mixed:=by kernel_rfl
  f5:=⟨Tryd.f116.name,by decide,Tryd.func116.trans (congrArg some (by kernel_rfl))⟩
  f7:=⟨Tryd.f130.name,by decide,Tryd.func130.trans (congrArg some (by kernel_rfl))⟩
  f8:=Tryd.func113.trans (congrArg some (by kernel_rfl))
  f10:=⟨Tryd.f136.name,by decide,Tryd.func136.trans (congrArg some (by kernel_rfl))⟩
  f11:=⟨Tryd.f137.name,by decide,Tryd.func137.trans (congrArg some (by kernel_rfl))⟩
  f12:=⟨Tryd.f138.name,by decide,Tryd.func138.trans (congrArg some (by kernel_rfl))⟩
  f13:=⟨Tryd.f139.name,by decide,Tryd.func139.trans (congrArg some (by kernel_rfl))⟩
  f14:=⟨Tryd.f140.name,by decide,Tryd.func140.trans (congrArg some (by kernel_rfl))⟩
  f15:=⟨Tryd.f141.name,by decide,Tryd.func141.trans (congrArg some (by kernel_rfl))⟩
  f16:=⟨Tryd.f142.name,by decide,Tryd.func142.trans (congrArg some (by kernel_rfl))⟩
  f17:=⟨Tryd.f143.name,by decide,Tryd.func143.trans (congrArg some (by kernel_rfl))⟩
  f18:=⟨Tryd.f144.name,by decide,Tryd.func144.trans (congrArg some (by kernel_rfl))⟩
  f19:=Tryd.func127.trans (congrArg some (by kernel_rfl))
  f20:=Tryd.func128.trans (congrArg some (by kernel_rfl))
  f30:=⟨Tryd.f146.name,by decide,Tryd.func146.trans (congrArg some (by kernel_rfl))⟩
  f31:=Tryd.func132.trans (congrArg some (by kernel_rfl))
  f32:=Tryd.func133.trans (congrArg some (by kernel_rfl))
  f33:=⟨Tryd.f147.name,by decide,Tryd.func147.trans (congrArg some (by kernel_rfl))⟩
  f34:=⟨Tryd.f148.name,by decide,Tryd.func148.trans (congrArg some (by kernel_rfl))⟩
  f35:=⟨Tryd.f114.name,by decide,Tryd.func114.trans (congrArg some (by kernel_rfl))⟩
  f40:=⟨Tryd.f149.name,by decide,Tryd.func149.trans (congrArg some (by kernel_rfl))⟩
  t0:=Tryd.underlying0
  a0:=Tryd.isAgg0
  z0:=Tryd.sizeOf0
  v0:=Tryd.zeroValue0
  t3:=Tryd.underlying3
  a3:=Tryd.isAgg3
  z3:=Tryd.sizeOf3
  v3:=Tryd.zeroValue3
  t4:=Tryd.underlying4
  a4:=Tryd.isAgg4
  z4:=Tryd.sizeOf4
  v4:=Tryd.zeroValue4
  t5:=Tryd.underlying5
  a5:=Tryd.isAgg5
  z5:=Tryd.sizeOf5
  v5:=Tryd.zeroValue5
  t9:=Tryd.underlying9
  a9:=Tryd.isAgg9
  z9:=Tryd.sizeOf9
  v9:=Tryd.zeroValue9
  t22:=Tryd.underlying27
  a22:=Tryd.isAgg27
  z22:=Tryd.sizeOf27
  v22:=Tryd.zeroValue27
  t23:=Tryd.underlying27
  a23:=Tryd.isAgg27
  z23:=Tryd.sizeOf27
  v23:=Tryd.zeroValue27
  t25:=Tryd.underlying3
  a25:=Tryd.isAgg3
  z25:=Tryd.sizeOf3
  v25:=Tryd.zeroValue3
  t32:=Tryd.underlying168
  a32:=Tryd.isAgg168
  z32:=Tryd.sizeOf168
  v32:=Tryd.zeroValue168
  t35:=Tryd.underlying174
  a35:=Tryd.isAgg174
  z35:=Tryd.sizeOf174
  v35:=Tryd.zeroValue174
  t36:=Tryd.underlying175
  a36:=Tryd.isAgg175
  z36:=Tryd.sizeOf175
  v36:=Tryd.zeroValue175
  t41:=Tryd.underlying179
  a41:=Tryd.isAgg179
  z41:=Tryd.sizeOf179
  v41:=Tryd.zeroValue179
  t44:=Tryd.underlying182
  a44:=Tryd.isAgg182
  z44:=Tryd.sizeOf182
  v44:=Tryd.zeroValue182
  t46:=Tryd.underlying184
  a46:=Tryd.isAgg184
  z46:=Tryd.sizeOf184
  v46:=Tryd.zeroValue184
  t53:=Tryd.underlying187
  a53:=Tryd.isAgg187
  z53:=Tryd.sizeOf187
  v53:=Tryd.zeroValue187
  t57:=Tryd.underlying191
  a57:=Tryd.isAgg191
  z57:=Tryd.sizeOf191
  v57:=Tryd.zeroValue191
  t63:=Tryd.underlying199
  a63:=Tryd.isAgg199
  z63:=Tryd.sizeOf199
  v63:=Tryd.zeroValue199
  t64:=Tryd.underlying200
  a64:=Tryd.isAgg200
  z64:=Tryd.sizeOf200
  v64:=Tryd.zeroValue200 }
end Go.Proofs
namespace Go.Pm
open Go.RowKit Go.Maps Go.Sort Go.Shelf Go.Proofs
set_option maxRecDepth 100000

theorem zkw {F : List Int → Option (List Int)} : ∀ (f : Nat) (i : Int) (n : Nat) (l : List Int), ztS F f i n = some l → l.length = n ∧ (∀ x ∈ l, F [x] ≠ none ∧ i ≤ x ∧ x < i + f) ∧ l.Pairwise (· < ·)
  | _,_,0,l,h=>by simp[ztS] at h;subst h;exact⟨rfl,λ x hx=>by simp at hx,List.Pairwise.nil⟩
  | 0,_,n+1,l,h=>by simp[ztS] at h
  | f+1,i,n+1,l,h=>by
    simp only[ztS] at h
    split at h
    · rename_i v hv
      split at h
      · rename_i r hr
        simp only[Option.some.injEq] at h;subst h
        obtain⟨h1,h2,h3⟩:=zkw f (i+1) n r hr
        refine⟨by simp[h1],λ x hx=>?_,List.pairwise_cons.2 ⟨λ x hx=>by have:=h2 x hx;omega,h3⟩⟩
        rcases List.mem_cons.1 hx with rfl | hx
        · exact⟨by rw[hv];simp,by omega,by omega⟩
        · have:=h2 x hx;exact⟨this.1,by omega,by omega⟩
      · cases h
    · obtain ⟨h1, h2, h3⟩ := zkw f (i + 1) (n + 1) l h
      exact⟨h1,λ x hx=>by have:=h2 x hx;exact⟨this.1,by omega,by omega⟩,h3⟩
theorem zkx {α : Type} [DecidableEq α] : ∀ {l m : List α}, l.Nodup → (∀ x ∈ l, x ∈ m) → m.length ≤ l.length → l.Perm m
  | [],m,_,_,h=>by
    have:m=[]:=List.eq_nil_of_length_eq_zero (by simpa using h)
    subst this;exact .refl _
  | a :: l,m,hn,hs,h=>by
    obtain⟨h1,h2⟩:=List.nodup_cons.1 hn
    have ha:=hs a List.mem_cons_self
    have hp:=List.perm_cons_erase ha
    refine (List.Perm.cons a (zkx h2 (λ x hx=>?_) ?_)).trans hp.symm
    · exact (List.mem_erase_of_ne (λ e=>h1 (by rw[← e];exact hx))).2 (hs x (List.mem_cons_of_mem _ hx))
    · have := hp.length_eq
      simp at this h
      omega

theorem zAe:znE Tryd.prog 103 (.keys 117):=λ w mb=>by
 refine⟨⟨_,rfl,rfl,by kernel_rfl⟩,?_⟩
 have c:CallsIn Fence.wide 5 Tryd.prog 103 #[.map (some mb)] w λ e w'=>e=.returned (.func (.func 117) #[] #[.pointer (some ⟨w.heap.size,0,none⟩)])/\w'=w.alloc (.cells #[.map (some mb)] 103):=AnyZI.keys_in Tryd.keysA Fence.wide 5 trivial rfl (some mb) w
 refine ((callsIn_wide (n:=5)).1 c).mono ?_
 rintro e w' ⟨rfl,rfl⟩
 exact⟨rfl,_,rfl⟩
theorem sortsA (m:Nat):AnyZI.SortsIn Tryd.prog Tryd.sortedA_ren Fence.wide m :=
  ⟨λ blk off cap ss W hH hblk hsz=>callsIn_wide.2 (AnyM.slices_Sort_int Tryd.sortA blk off cap ss W hH hblk hsz),
   λ p cap W=>callsIn_wide.2 (AnyM.slices_Sort_int_none Tryd.sortA p cap W)⟩

def rdN:Value->Option (DataW Unit×List MemPlace):=λ _=>some (.nil,[])
theorem ztH:znE Tryd.prog 102 (.sorted 117):=λ w h k mb C ty fr es clock vt q n F hw hk hC hb hE hm hn hky=>by
 refine⟨⟨_,rfl,rfl,by kernel_rfl⟩,?_⟩
 obtain⟨en,M⟩:=hm
 have E:=zgj hE
 have hq1:q.1=false:=by
  have e:=E.kag
  rw[show zek Tryd.prog 3=some false by kernel_rfl] at e
  exact (Option.some.inj e).symm
 have hq2:q.2.1=1:=by
  have e:=E.key
  rw[show zdk Tryd.prog 8 3=some 1 by kernel_rfl] at e
  exact (Option.some.inj e).symm
 obtain⟨l,hl⟩:=Option.isSome_iff_exists.1 hky
 have hll:ztT F n=l:=by unfold ztT;rw[hl];rfl
 obtain⟨l1,l2,l3⟩:=zkw _ _ _ _ hl
 rw[hll]
 have one:∀ x∈en,x.1=[x.1.headD 0]:=λ x hx=>by
  have:=(M.len x hx).1
  rw[hq2] at this
  match x.1,this with
  | [a],_=>rfl
 have hkeys:es.toList.map (·.key)=(en.map λ x=>x.1.headD 0).map encZ:=by
  have:=congrArg (List.map Prod.fst) M.ents
  simp only[List.map_map] at this ⊢
  refine (show es.toList.map (·.key)=_ from this).trans (List.map_congr_left λ x hx=>?_)
  show zbo q.1 x.1=encZ (x.1.headD 0)
  rw[hq1];rfl
 have hkn:(en.map λ x=>x.1.headD 0).Nodup:=by
  have:(en.map (·.1))=(en.map λ x=>x.1.headD 0).map λ a=>[a]:=by
   rw[List.map_map];exact List.map_congr_left λ x hx=>one x hx
  have hd:=M.nodup
  rw[this] at hd
  exact (List.pairwise_map.1 hd).imp λ h e=>h (by rw[e])
 have hperm:l.Perm (en.map λ x=>x.1.headD 0):=by
  refine zkx (l3.imp λ h=>Int.ne_of_lt h) (λ x hx=>?_) (by rw[List.length_map,← M.size,l1];exact Nat.le_refl _)
  have h1:=(l2 x hx).1
  rw[M.find [x] (by rw[hq2];rfl)] at h1
  by_cases hex:∃ y∈en,y.1=[x]
  ·obtain ⟨y, hy, e⟩ := hex
   exact List.mem_map.2 ⟨y,hy,by rw[e];rfl⟩
  ·exact absurd (zfT λ y hy e=>hex ⟨y,hy,e⟩) h1
 have hread:∀ x∈es.toList,∃ a:Int,x.key=encZ a/\keyOf Tryd.prog 3 x.key=some (.int .i64 a):=λ x hx=>by
  have hm:x.key∈es.toList.map (·.key):=List.mem_map.2 ⟨x,hx,rfl⟩
  rw[hkeys] at hm
  obtain⟨a,ha,e⟩:=List.mem_map.1 hm
  have hb:=(l2 a (hperm.mem_iff.2 ha)).2
  refine⟨a,e.symm,?_⟩
  rw[← e]
  have hu:Tryd.prog.underlying 3=some (.int .i64):=Tryd.underlying3
  have hwf:(Lit.int .i64 a).wf=true:=by
   simp only[Lit.wf,Bool.and_eq_true,decide_eq_true_eq]
   have e1:IntKind.i64.min = -9223372036854775808:=by decide
   have e2:IntKind.i64.max=9223372036854775807:=by decide
   rw[e1,e2]
   have:=hb.2
   omega
  simp[keyOf,mapKey,hu,hwf]
 have hsize:es.size=n:=by
  have:=congrArg List.length M.ents
  simp at this
  rw[this,M.size]
 have hst:MapKept.Stamped es clock:=⟨M.born,M.bornN,by rw[hkeys];exact List.pairwise_map.2 (hkn.imp λ h e=>h (encZ_inj e))⟩
 have hown:w.ownsMap Tryd.prog 3 rdN mb n (.map ((es.toList.map (WideElems.rg Tryd.prog 3 rdN)).foldr DataW.insert [])) :=
  ⟨es,clock,hb,⟨by rw[hsize];exact Nat.le_trans hn (by decide),hst,λ x hx=>by
   obtain⟨a,e1,e2⟩:=hread x hx
   exact⟨(.int .i64 a,.nil),by simp only[WideElems.rd,e2,rdN,Option.bind_some,Option.map_some]⟩⟩,by omega,rfl⟩
 have hik:(intKeys (.map ((es.toList.map (WideElems.rg Tryd.prog 3 rdN)).foldr DataW.insert []))).Perm l:=by
  show (((es.toList.map (WideElems.rg Tryd.prog 3 rdN)).foldr DataW.insert []).map λ p=>intOf p.1).Perm l
  refine ((WideShapes.sorted_perm _).map _).trans (List.Perm.trans (List.Perm.of_eq ?_) hperm.symm)
  rw[List.map_map]
  have e:(en.map λ x=>x.1.headD 0)=es.toList.map λ x=>intOf ((keyOf Tryd.prog 3 x.key).getD (.bool false)):=by
   have h1:(en.map λ x=>x.1.headD 0)=((en.map λ x=>x.1.headD 0).map encZ).map λ v=>match v with | .int _ a=>a | _=>0:=by
    rw[List.map_map];exact (List.map_id _).symm
   rw[h1,← hkeys,List.map_map]
   refine List.map_congr_left λ x hx=>?_
   obtain⟨a,e1,e2⟩:=hread x hx
   simp only[Function.comp,e2]
   rw[e1];rfl
  rw[e]
  refine List.map_congr_left λ x hx=>?_
  obtain⟨a,e1,e2⟩:=hread x hx
  simp only[Function.comp,WideElems.rg,WideElems.rd,e2,rdN,Option.bind_some,Option.map_some,Option.getD_some]
 have hsz:Maps.size (DataW.map ((es.toList.map (WideElems.rg Tryd.prog 3 rdN)).foldr DataW.insert []):DataW Unit)=n:=by
  show List.length _=n
  rw[(WideShapes.sorted_perm _).length_eq];simp[hsize]
 have hlt:k < w.heap.size:=hw.lt hk
 have hcell:w.cell? ⟨k,0,none⟩=some (.map (some mb)):=by
  have:=hw.fz hk
  simp[World.cell?,this,hC]
 have hseq:SeqGives Fence.wide 2 Tryd.prog 117 #[.pointer (some ⟨k,0,none⟩)] encZ (λ ss=>ss.Perm (intKeys _)) (Maps.size _) w :=
  AnyZI.keys_gives (ρ:=Tryd.keysA_ren) { Tryd.keysA with } Fence.wide _ trivial rfl (by omega) k mb n _ w hlt hcell hown
 have cS:=AnyZI.sorted_in Tryd.sortedA Fence.wide 5 trivial trivial trivial trivial rfl (by omega) (sortsA _) (enters_of Tryd.func116 (by kernel_rfl) rfl) 117 #[.pointer (some ⟨k,0,none⟩)] trivial (enters_of Tryd.func117 (by kernel_rfl) rfl) _ _ (by rw[hsz];exact Nat.le_trans hn (by decide)) (by rw[hsz];omega) _ hseq
 change CallsIn _ _ Tryd.prog 102 _ _ _ at cS
 refine ((callsIn_wide (n:=5)).1 cS).mono ?_
 rintro e w' ⟨v,ss,rfl,hS,hrow,_,hbel⟩
 refine⟨v,rfl,?_,⟨hbel,Nat.zero_le _⟩⟩
 have hsl:ss.mergeSort (λ x y=>decide (x≤y))=l:=by
  rw[show ss.mergeSort (λ x y=>decide (x≤y))=l.mergeSort leI from mergeSort_of_perm_i (hS.trans hik)]
  exact List.mergeSort_of_pairwise (l3.imp λ h=>by simp only[leI,decide_eq_true_eq];exact Int.le_of_lt h)
 have hlen:ss.length=n:=by rw[(hS.trans hik).length_eq,l1]
 rw[hsl,hlen] at hrow
 exact hrow
end Go.Pm
namespace Go.Proofs
open Go Go.Pm
set_option maxRecDepth 100000
set_option linter.unusedVariables false
attribute [local irreducible] Go.Pm.vcFun Go.Pm.vc Go.Pm.vcIter
abbrev zBk:OwnK:=.sorted 117
theorem zJw:znE Tryd.prog 102 zBk:=ztH
abbrev zBl:OwnK:=.keys 117
theorem zJx:znE Tryd.prog 103 zBl:=zAe
structure Rec69 where
  S:web->Int->((Sl (Sl Int))×web)
  P:web->Int->Bool
class Slf69 where
  r:Rec69
section
variable [Slf69]
def zwH : MK
  | [.box 105 [.p (.int .i64 zau),.p (.sl zaq zbv zam),.mo 3 4 zc1 zaL zaM],.d (.one (.int .i64 b1))]=>some (IsE enc_40 4 zbv zam/\zc1=(false,1,false,[none])/\Slf69.r.P (⟨(⟨zau,(⟨zaq,zal zam⟩:(Sl Tie))⟩:Net),(⟨zaL,zaM⟩:Mp)⟩:web) b1=true,[.one (.sl (((Slf69.r.S (⟨(⟨zau,(⟨zaq,zal zam⟩:(Sl Tie))⟩:Net),(⟨zaL,zaM⟩:Mp)⟩:web) b1).1).len) 1 (λ i=>zbP (((Slf69.r.S (⟨(⟨zau,(⟨zaq,zal zam⟩:(Sl Tie))⟩:Net),(⟨zaL,zaM⟩:Mp)⟩:web) b1).1).get i)))],[.box 105 [.p (.int .i64 (((Slf69.r.S (⟨(⟨zau,(⟨zaq,zal zam⟩:(Sl Tie))⟩:Net),(⟨zaL,zaM⟩:Mp)⟩:web) b1).2).Net.Nodes)),.p (.sl (((Slf69.r.S (⟨(⟨zau,(⟨zaq,zal zam⟩:(Sl Tie))⟩:Net),(⟨zaL,zaM⟩:Mp)⟩:web) b1).2).Net.Ties.len) 4 (λ i=>enc_40 (((Slf69.r.S (⟨(⟨zau,(⟨zaq,zal zam⟩:(Sl Tie))⟩:Net),(⟨zaL,zaM⟩:Mp)⟩:web) b1).2).Net.Ties.get i))),.mo 3 4 (false,1,false,[none]) ((((Slf69.r.S (⟨(⟨zau,(⟨zaq,zal zam⟩:(Sl Tie))⟩:Net),(⟨zaL,zaM⟩:Mp)⟩:web) b1).2).out).n) ((((Slf69.r.S (⟨(⟨zau,(⟨zaq,zal zam⟩:(Sl Tie))⟩:Net),(⟨zaL,zaM⟩:Mp)⟩:web) b1).2).out).F)],.d (.one (.int .i64 b1))])
  | _=>none
abbrev T69:Tabs:=(((((Tabs.nil.addF 88 zvK).addF 89 zAc).addO 102 zBk).addO 103 zBl).addM 69 zwH)
theorem zJy (hself:ziW Tryd.prog 69 zwH):TabsOk Tryd.prog T69:=(((((TabsOk.nil.addF zJd).addF zKJ).addO zJw).addO zJx).addM hself)
abbrev zAf:Ctrs:=csm T69 (λ _ _=>[]) (λ _=>false)
def zeZ:Ann:=⟨57,[(0,zK [0,1] [0,12288]),(1,zK [0,1,10] [0,12288]),(2,zK [0,4] [0,17,12288]),(3,zK [0,1,19] [0,12288]),(4,zK [0,4] [0,12288]),(5,zK [0,1,5] [0,12288]),(6,zK [0,1,5,21,22,23] [0,12288]),(7,zK [0,1,5,21,22,23,24] [0,47,12288]),(8,zK [0,1,5,7,21,22,23] [0,7,47,12288]),(9,zK [0,1,5,7,21,22,23,34] [0,7,47,12288]),(10,zK [0,1,5,7,21,22,23] [0,7,47,12288]),(11,zK [0,1,5,7,21,22,23] [0,7,47,12288]),(12,zK [0,1,5,21,22,23] [0,47,12288]),(13,zK [0,1,5,21,22,23] [0,47,12288]),(14,zK [0,4] [0,47,12288])],
 [(7,⟨[0,1,5,21,22,23],[0,47,12288],[(5,47,27,λ _=>zbP default)],[],[],[],[]⟩)],
 [],
 [],[]⟩
def zfC (w:web) (left:Int) (zaB:Int) (zaT:Int) (zfD:Nat) (zcc:Nat->List PV) (zfE:Nat) (zcd:Nat->List PV) (zaf:Nat) (zab:(List Int->Option (List Int))):St:=⟨[(0,.one (.c (.ptr 0 0))),(1,.one (.c (.p (.int .i64 left)))),(5,.one (.c (.vec 47))),(21,.one (.c (.p (.sl ((s89 w).len) 5 (λ i=>zaA ((s89 w).get i)))))),(22,.one (.c (.p (.int .i64 ((s89 w).len:Int))))),(23,.one (.c (.p (.int .i64 zaB))))],[(0,.box 105 [.p (.int .i64 zaT),.p (.sl zfD 4 zcc),.mo 12288]),(47,.vec 27 1 24 zfE zcd),(12288,.mo 3 4 (false,1,false,[none]) zaf zab)],[]⟩
def zhj (K:List PA×List XA->Prop) (w:web) (left:Int) (zaB:Int) (zaT:Int) (zfD:Nat) (zcc:Nat->List PV) (zfE:Nat) (zcd:Nat->List PV) (zaf:Nat) (zab:(List Int->Option (List Int))):Prop:=vc Tryd.prog zAf zeZ (cdF Tryd.f69 [1,1,1,1,0,1,0]) (zeW 0 (sqK Tryd.prog zAf zeZ (cdF Tryd.f69 [1,1,1,1,1]) (zkY Tryd.prog Tryd.f69 [.box 105 [.p (.int .i64 w.Net.Nodes),.p (.sl w.Net.Ties.len 4 (λ i=>enc_40 (w.Net.Ties.get i))),.mo 3 4 (false,1,false,[none]) w.out.n w.out.F],.d (.one (.int .i64 left))] (λ a b=>K (a,b))))) (zfC w left zaB zaT zfD zcc zfE zcd zaf zab)
theorem zAg (w : web) (left : Int) (K : List PA × List XA → Prop) :
  zkf Tryd.prog zAf zeZ 69 [.box 105 [.p (.int .i64 w.Net.Nodes),.p (.sl w.Net.Ties.len 4 (λ i=>enc_40 (w.Net.Ties.get i))),.mo 3 4 (false,1,false,[none]) w.out.n w.out.F],.d (.one (.int .i64 left))] (λ a b=>K (a,b)) =
  ((IsE enc_40 4 4 (λ i=>enc_40 (w.Net.Ties.get i))/\((false,1,false,[none]):MQ)=(false,1,false,[none])/\(p88 w=true)) /\
 (zdd (!(s88 w))
 (((w.out.n≤1000000/\(ztS w.out.F 9223372036854775808 0 w.out.n).isSome=true)) /\
 (K ([.one (.sl 1 1 (λ _=>(zbP (⟨w.out.n,(λ i=>(ztT w.out.F w.out.n).getD i 0)⟩:(Sl Int)))))],[.box 105 [.p (.int .i64 w.Net.Nodes),.p (.sl w.Net.Ties.len 4 (λ i=>enc_40 (w.Net.Ties.get i))),.mo 3 4 (false,1,false,[none]) w.out.n w.out.F],.d (.one (.int .i64 left))])))
 (zdd (left == (0:Int))
 (K ([.one (.nils)],[.box 105 [.p (.int .i64 w.Net.Nodes),.p (.sl w.Net.Ties.len 4 (λ i=>enc_40 (w.Net.Ties.get i))),.mo 3 4 (false,1,false,[none]) w.out.n w.out.F],.d (.one (.int .i64 left))]))
 (((∀ i,sc2 ((λ i=>zaA ((s89 w).get i)) i)=true)/\IsE enc_40 4 4 (λ i=>enc_40 (w.Net.Ties.get i))/\((false,1,false,[none]):MQ)=(false,1,false,[none])/\(p89 w=true)) /\
 (zhj K w left (0:Int) w.Net.Nodes w.Net.Ties.len (λ i=>enc_40 (w.Net.Ties.get i)) 0 (λ i=>zbP ((λ _=>default) i)) w.out.n w.out.F))))):=by kernel_rfl
def zlC (K:List PA×List XA->Prop) (X0:St->Prop) (w:web) (left:Int) (zaB:Int) (zaT:Int) (zaV:(Sl Tie)) (zbk:(Sl (Sl Int))) (zaf:Nat) (zab:(List Int->Option (List Int))):Prop :=
  (zdd (decide (zaB < ((s89 w).len : Int)))
 (((0≤zaB/\zaB < ((s89 w).len:Int))) /\
 (zdd ((zs7 (zab [((s89 w).get zaB.toNat).Use.Tie]) 0) != 0)
 (X0 (zfC w left (w64 (zaB+(1:Int))) zaT zaV.len (λ i=>enc_40 (zaV.get i)) zbk.len (λ i=>zbP (zbk.get i)) zaf zab))
 ((IsE enc_40 4 4 (λ i=>enc_40 (zaV.get i))/\((false,1,false,[none]):MQ)=(false,1,false,[none])/\(Slf69.r.P (⟨(⟨zaT,zaV⟩:Net),(⟨(addN (zab [((s89 w).get zaB.toNat).Use.Tie]) zaf),(zdv [((s89 w).get zaB.toNat).Use.Tie] [1] zab)⟩:Mp)⟩:web) (w64 (left - (1:Int)))=true)) /\
 ((((zbk.len+((Slf69.r.S (⟨(⟨zaT,zaV⟩:Net),(⟨(addN (zab [((s89 w).get zaB.toNat).Use.Tie]) zaf),(zdv [((s89 w).get zaB.toNat).Use.Tie] [1] zab)⟩:Mp)⟩:web) (w64 (left - (1:Int)))).1).len) * 24≤140737488355328/\zbk.len+((Slf69.r.S (⟨(⟨zaT,zaV⟩:Net),(⟨(addN (zab [((s89 w).get zaB.toNat).Use.Tie]) zaf),(zdv [((s89 w).get zaB.toNat).Use.Tie] [1] zab)⟩:Mp)⟩:web) (w64 (left - (1:Int)))).1).len≤9223372036854775807)) /\
 (X0 (zfC w left (w64 (zaB+(1:Int))) (((Slf69.r.S (⟨(⟨zaT,zaV⟩:Net),(⟨(addN (zab [((s89 w).get zaB.toNat).Use.Tie]) zaf),(zdv [((s89 w).get zaB.toNat).Use.Tie] [1] zab)⟩:Mp)⟩:web) (w64 (left - (1:Int)))).2).Net.Nodes) (((Slf69.r.S (⟨(⟨zaT,zaV⟩:Net),(⟨(addN (zab [((s89 w).get zaB.toNat).Use.Tie]) zaf),(zdv [((s89 w).get zaB.toNat).Use.Tie] [1] zab)⟩:Mp)⟩:web) (w64 (left - (1:Int)))).2).Net.Ties.len) (λ i=>enc_40 (((Slf69.r.S (⟨(⟨zaT,zaV⟩:Net),(⟨(addN (zab [((s89 w).get zaB.toNat).Use.Tie]) zaf),(zdv [((s89 w).get zaB.toNat).Use.Tie] [1] zab)⟩:Mp)⟩:web) (w64 (left - (1:Int)))).2).Net.Ties.get i)) (zbk.len+((Slf69.r.S (⟨(⟨zaT,zaV⟩:Net),(⟨(addN (zab [((s89 w).get zaB.toNat).Use.Tie]) zaf),(zdv [((s89 w).get zaB.toNat).Use.Tie] [1] zab)⟩:Mp)⟩:web) (w64 (left - (1:Int)))).1).len) (appG zbk.len (λ i=>zbP (zbk.get i)) (λ i=>zbP (((Slf69.r.S (⟨(⟨zaT,zaV⟩:Net),(⟨(addN (zab [((s89 w).get zaB.toNat).Use.Tie]) zaf),(zdv [((s89 w).get zaB.toNat).Use.Tie] [1] zab)⟩:Mp)⟩:web) (w64 (left - (1:Int)))).1).get i))) (zAD (((((Slf69.r.S (⟨(⟨zaT,zaV⟩:Net),(⟨(addN (zab [((s89 w).get zaB.toNat).Use.Tie]) zaf),(zdv [((s89 w).get zaB.toNat).Use.Tie] [1] zab)⟩:Mp)⟩:web) (w64 (left - (1:Int)))).2).out).F) [((s89 w).get zaB.toNat).Use.Tie]) ((((Slf69.r.S (⟨(⟨zaT,zaV⟩:Net),(⟨(addN (zab [((s89 w).get zaB.toNat).Use.Tie]) zaf),(zdv [((s89 w).get zaB.toNat).Use.Tie] [1] zab)⟩:Mp)⟩:web) (w64 (left - (1:Int)))).2).out).n)) (zyT [((s89 w).get zaB.toNat).Use.Tie] ((((Slf69.r.S (⟨(⟨zaT,zaV⟩:Net),(⟨(addN (zab [((s89 w).get zaB.toNat).Use.Tie]) zaf),(zdv [((s89 w).get zaB.toNat).Use.Tie] [1] zab)⟩:Mp)⟩:web) (w64 (left - (1:Int)))).2).out).F))))))))
 (K ([.one (.sl zbk.len 1 (λ i=>zbP (zbk.get i)))],[.box 105 [.p (.int .i64 zaT),.p (.sl zaV.len 4 (λ i=>enc_40 (zaV.get i))),.mo 3 4 (false,1,false,[none]) zaf zab],.d (.one (.int .i64 left))])))
theorem zoD (K : List PA × List XA → Prop) (X0 : St → Prop) (w : web) (left : Int) (zaB : Int) (zaT : Int) (zaV : (Sl Tie)) (zbk : (Sl (Sl Int))) (zaf : Nat) (zab : (List Int → Option (List Int))) :
  vc Tryd.prog zAf zeZ (cd (cdF Tryd.f69 [1,1,1,1,0,1,0]) [0]) (ztc Tryd.prog zeZ 7 X0 (zeW 0 (sqK Tryd.prog zAf zeZ (cdF Tryd.f69 [1,1,1,1,1]) (zkY Tryd.prog Tryd.f69 [.box 105 [.p (.int .i64 w.Net.Nodes),.p (.sl w.Net.Ties.len 4 (λ i=>enc_40 (w.Net.Ties.get i))),.mo 3 4 (false,1,false,[none]) w.out.n w.out.F],.d (.one (.int .i64 left))] (λ a b=>K (a,b)))))) (zfC w left zaB zaT zaV.len (λ i=>enc_40 (zaV.get i)) zbk.len (λ i=>zbP (zbk.get i)) zaf zab) =
  zlC K X0 w left zaB zaT zaV zbk zaf zab:=by kernel_rfl
theorem ztI (K : List PA × List XA → Prop) (w : web) (left : Int) (zaB : Int) (zaT : Int) (zfD : Nat) (zcc : Nat → List PV) (zfE : Nat) (zcd : Nat → List PV) (zaf : Nat) (zab : (List Int → Option (List Int)))
  (h:∀ X0:St->Prop,(∀ (zaB:Int) (zaT:Int) (zaV:(Sl Tie)) (zbk:(Sl (Sl Int))) (zaf:Nat) (zab:(List Int->Option (List Int))),zlC K X0 w left zaB zaT zaV zbk zaf zab->X0 (zfC w left zaB zaT zaV.len (λ i=>enc_40 (zaV.get i)) zbk.len (λ i=>zbP (zbk.get i)) zaf zab))->X0 (zfC w left zaB zaT zfD zcc zfE zcd zaf zab)) :
  zhj K w left zaB zaT zfD zcc zfE zcd zaf zab:=by
  have e:zhj K w left zaB zaT zfD zcc zfE zcd zaf zab=(∀ X:St->Prop,(∀ s,vc Tryd.prog zAf zeZ (cd (cdF Tryd.f69 [1,1,1,1,0,1,0]) [0]) (ztc Tryd.prog zeZ 7 X (zeW 0 (sqK Tryd.prog zAf zeZ (cdF Tryd.f69 [1,1,1,1,1]) (zkY Tryd.prog Tryd.f69 [.box 105 [.p (.int .i64 w.Net.Nodes),.p (.sl w.Net.Ties.len 4 (λ i=>enc_40 (w.Net.Ties.get i))),.mo 3 4 (false,1,false,[none]) w.out.n w.out.F],.d (.one (.int .i64 left))] (λ a b=>K (a,b)))))) s->X s)->X (zfC w left zaB zaT zfD zcc zfE zcd zaf zab)):=by kernel_rfl
  refine zaX e ?_
  intro X hX
  refine h X ?_
  intro zaB zaT zaV zbk zaf zab hs
  refine hX _ ?_
  have e2:=zoD K X w left zaB zaT zaV zbk zaf zab
  rw[e2]
  exact hs
abbrev zBm (left:Int) (r:((Sl (Sl Int))×web)):List PA×List XA:=([.one (.sl r.1.len 1 (λ i=>zbP (r.1.get i)))],[.box 105 [.p (.int .i64 r.2.Net.Nodes),.p (.sl r.2.Net.Ties.len 4 (λ i=>enc_40 (r.2.Net.Ties.get i))),.mo 3 4 (false,1,false,[none]) r.2.out.n r.2.out.F],.d (.one (.int .i64 left))])
attribute [irreducible] zhj
def zm5 (w:web) (left:Int) (S0:Int->Int->(Sl Tie)->(Sl (Sl Int))->Nat->(List Int->Option (List Int))->((Sl (Sl Int))×web)) (zaB:Int) (zaT:Int) (zaV:(Sl Tie)) (zbk:(Sl (Sl Int))) (zaf:Nat) (zab:(List Int->Option (List Int))):((Sl (Sl Int))×web) :=
  (cond (decide (zaB < ((s89 w).len : Int)))
 (cond ((zs7 (zab [((s89 w).get zaB.toNat).Use.Tie]) 0) != 0)
 (S0 (w64 (zaB+(1:Int))) zaT zaV zbk zaf zab)
 (S0 (w64 (zaB+(1:Int))) (((Slf69.r.S (⟨(⟨zaT,zaV⟩:Net),(⟨(addN (zab [((s89 w).get zaB.toNat).Use.Tie]) zaf),(zdv [((s89 w).get zaB.toNat).Use.Tie] [1] zab)⟩:Mp)⟩:web) (w64 (left - (1:Int)))).2).Net.Nodes) (((Slf69.r.S (⟨(⟨zaT,zaV⟩:Net),(⟨(addN (zab [((s89 w).get zaB.toNat).Use.Tie]) zaf),(zdv [((s89 w).get zaB.toNat).Use.Tie] [1] zab)⟩:Mp)⟩:web) (w64 (left - (1:Int)))).2).Net.Ties) (⟨(zbk.len+((Slf69.r.S (⟨(⟨zaT,zaV⟩:Net),(⟨(addN (zab [((s89 w).get zaB.toNat).Use.Tie]) zaf),(zdv [((s89 w).get zaB.toNat).Use.Tie] [1] zab)⟩:Mp)⟩:web) (w64 (left - (1:Int)))).1).len),(ziY zbk.len zbk.get ((Slf69.r.S (⟨(⟨zaT,zaV⟩:Net),(⟨(addN (zab [((s89 w).get zaB.toNat).Use.Tie]) zaf),(zdv [((s89 w).get zaB.toNat).Use.Tie] [1] zab)⟩:Mp)⟩:web) (w64 (left - (1:Int)))).1).get)⟩:Sl (Sl Int)) (zAD (((((Slf69.r.S (⟨(⟨zaT,zaV⟩:Net),(⟨(addN (zab [((s89 w).get zaB.toNat).Use.Tie]) zaf),(zdv [((s89 w).get zaB.toNat).Use.Tie] [1] zab)⟩:Mp)⟩:web) (w64 (left - (1:Int)))).2).out).F) [((s89 w).get zaB.toNat).Use.Tie]) ((((Slf69.r.S (⟨(⟨zaT,zaV⟩:Net),(⟨(addN (zab [((s89 w).get zaB.toNat).Use.Tie]) zaf),(zdv [((s89 w).get zaB.toNat).Use.Tie] [1] zab)⟩:Mp)⟩:web) (w64 (left - (1:Int)))).2).out).n)) (zyT [((s89 w).get zaB.toNat).Use.Tie] ((((Slf69.r.S (⟨(⟨zaT,zaV⟩:Net),(⟨(addN (zab [((s89 w).get zaB.toNat).Use.Tie]) zaf),(zdv [((s89 w).get zaB.toNat).Use.Tie] [1] zab)⟩:Mp)⟩:web) (w64 (left - (1:Int)))).2).out).F))))
 (zbk,(⟨(⟨zaT,zaV⟩:Net),(⟨zaf,zab⟩:Mp)⟩:web)))
def zm6 (w:web) (left:Int) (P0:Int->Int->(Sl Tie)->(Sl (Sl Int))->Nat->(List Int->Option (List Int))->Bool) (zaB:Int) (zaT:Int) (zaV:(Sl Tie)) (zbk:(Sl (Sl Int))) (zaf:Nat) (zab:(List Int->Option (List Int))):Bool :=
  (cond (decide (zaB < ((s89 w).len : Int)))
 (decide ((0≤zaB/\zaB < ((s89 w).len:Int))) &&
 (cond ((zs7 (zab [((s89 w).get zaB.toNat).Use.Tie]) 0) != 0)
 (P0 (w64 (zaB+(1:Int))) zaT zaV zbk zaf zab)
 (decide ((Slf69.r.P (⟨(⟨zaT,zaV⟩:Net),(⟨(addN (zab [((s89 w).get zaB.toNat).Use.Tie]) zaf),(zdv [((s89 w).get zaB.toNat).Use.Tie] [1] zab)⟩:Mp)⟩:web) (w64 (left - (1:Int)))=true)) &&
 (decide (((zbk.len+((Slf69.r.S (⟨(⟨zaT,zaV⟩:Net),(⟨(addN (zab [((s89 w).get zaB.toNat).Use.Tie]) zaf),(zdv [((s89 w).get zaB.toNat).Use.Tie] [1] zab)⟩:Mp)⟩:web) (w64 (left - (1:Int)))).1).len) * 24≤140737488355328/\zbk.len+((Slf69.r.S (⟨(⟨zaT,zaV⟩:Net),(⟨(addN (zab [((s89 w).get zaB.toNat).Use.Tie]) zaf),(zdv [((s89 w).get zaB.toNat).Use.Tie] [1] zab)⟩:Mp)⟩:web) (w64 (left - (1:Int)))).1).len≤9223372036854775807)) &&
 (P0 (w64 (zaB+(1:Int))) (((Slf69.r.S (⟨(⟨zaT,zaV⟩:Net),(⟨(addN (zab [((s89 w).get zaB.toNat).Use.Tie]) zaf),(zdv [((s89 w).get zaB.toNat).Use.Tie] [1] zab)⟩:Mp)⟩:web) (w64 (left - (1:Int)))).2).Net.Nodes) (((Slf69.r.S (⟨(⟨zaT,zaV⟩:Net),(⟨(addN (zab [((s89 w).get zaB.toNat).Use.Tie]) zaf),(zdv [((s89 w).get zaB.toNat).Use.Tie] [1] zab)⟩:Mp)⟩:web) (w64 (left - (1:Int)))).2).Net.Ties) (⟨(zbk.len+((Slf69.r.S (⟨(⟨zaT,zaV⟩:Net),(⟨(addN (zab [((s89 w).get zaB.toNat).Use.Tie]) zaf),(zdv [((s89 w).get zaB.toNat).Use.Tie] [1] zab)⟩:Mp)⟩:web) (w64 (left - (1:Int)))).1).len),(ziY zbk.len zbk.get ((Slf69.r.S (⟨(⟨zaT,zaV⟩:Net),(⟨(addN (zab [((s89 w).get zaB.toNat).Use.Tie]) zaf),(zdv [((s89 w).get zaB.toNat).Use.Tie] [1] zab)⟩:Mp)⟩:web) (w64 (left - (1:Int)))).1).get)⟩:Sl (Sl Int)) (zAD (((((Slf69.r.S (⟨(⟨zaT,zaV⟩:Net),(⟨(addN (zab [((s89 w).get zaB.toNat).Use.Tie]) zaf),(zdv [((s89 w).get zaB.toNat).Use.Tie] [1] zab)⟩:Mp)⟩:web) (w64 (left - (1:Int)))).2).out).F) [((s89 w).get zaB.toNat).Use.Tie]) ((((Slf69.r.S (⟨(⟨zaT,zaV⟩:Net),(⟨(addN (zab [((s89 w).get zaB.toNat).Use.Tie]) zaf),(zdv [((s89 w).get zaB.toNat).Use.Tie] [1] zab)⟩:Mp)⟩:web) (w64 (left - (1:Int)))).2).out).n)) (zyT [((s89 w).get zaB.toNat).Use.Tie] ((((Slf69.r.S (⟨(⟨zaT,zaV⟩:Net),(⟨(addN (zab [((s89 w).get zaB.toNat).Use.Tie]) zaf),(zdv [((s89 w).get zaB.toNat).Use.Tie] [1] zab)⟩:Mp)⟩:web) (w64 (left - (1:Int)))).2).out).F)))))))
 true)
def zhk (w : web) (left : Int) : Nat → Int → Int → (Sl Tie) → (Sl (Sl Int)) → Nat → (List Int → Option (List Int)) → ((Sl (Sl Int)) × web)
  | 0=>λ _ _ _ _ _ _=>default
  | k+1=>zm5 w left (zhk w left k)
def zhl (w : web) (left : Int) : Nat → Int → Int → (Sl Tie) → (Sl (Sl Int)) → Nat → (List Int → Option (List Int)) → Bool
  | 0=>λ _ _ _ _ _ _=>false
  | k+1=>zm6 w left (zhl w left k)
def zsN (w:web) (left:Int) (zaB:Int) (zaT:Int) (zaV:(Sl Tie)) (zbk:(Sl (Sl Int))) (zaf:Nat) (zab:(List Int->Option (List Int))):((Sl (Sl Int))×web):=zhk w left Fuel zaB zaT zaV zbk zaf zab
def zsO (w:web) (left:Int) (zaB:Int) (zaT:Int) (zaV:(Sl Tie)) (zbk:(Sl (Sl Int))) (zaf:Nat) (zab:(List Int->Option (List Int))):Bool:=zhl w left Fuel zaB zaT zaV zbk zaf zab
theorem zAh (K:List PA×List XA->Prop) (w:web) (left:Int) (zaB:Int) (zaT:Int) (zaV:(Sl Tie)) (zbk:(Sl (Sl Int))) (zaf:Nat) (zab:(List Int->Option (List Int))) (zcc:Nat->List PV) (zky:zcc=λ i=>enc_40 (zaV.get i)) (zcd:Nat->List PV) (zkz:zcd=λ i=>zbP (zbk.get i)) (hs:zsO w left zaB zaT zaV zbk zaf zab=true) (hk:K (zBm left (zsN w left zaB zaT zaV zbk zaf zab))):zhj (WkM K) w left zaB zaT zaV.len zcc zbk.len zcd zaf zab:=by
  refine ztI (WkM K) w left zaB zaT zaV.len zcc zbk.len zcd zaf zab ?_
  intro X0 hstep
  have key:∀ (k:Nat) (zaB:Int) (zaT:Int) (zaV:(Sl Tie)) (zbk:(Sl (Sl Int))) (zaf:Nat) (zab:(List Int->Option (List Int))) (zcc:Nat->List PV) (zky:zcc=λ i=>enc_40 (zaV.get i)) (zcd:Nat->List PV) (zkz:zcd=λ i=>zbP (zbk.get i)),zhl w left k zaB zaT zaV zbk zaf zab=true->K (zBm left (zhk w left k zaB zaT zaV zbk zaf zab))->X0 (zfC w left zaB zaT zaV.len zcc zbk.len zcd zaf zab):=by
    intro k
    induction k with
    | zero=>intro zaB zaT zaV zbk zaf zab zcc zky zcd zkz hs;exact absurd hs Bool.false_ne_true
    | succ k ih =>
      intro zaB zaT zaV zbk zaf zab zcc zky zcd zkz hs hk
      subst zky
      subst zkz
      refine hstep zaB zaT zaV zbk zaf zab ?_
      have hs:zm6 w left (zhl w left k) zaB zaT zaV zbk zaf zab=true:=hs
      have hk:K (zBm left (zm5 w left (zhk w left k) zaB zaT zaV zbk zaf zab)):=hk
      unfold zm6 at hs
      unfold zm5 at hk
      generalize zhk w left k=S0 at hk ih
      generalize zhl w left k=P0 at hs ih
      have hX0:=ih
      exact (zeK (K := λ r => K (zBm left r))
 (λ hs hk => (zaQ hs λ hc hs => ⟨hc, (zeK (K := λ r => K (zBm left r))
 (λ hs hk=>(hX0 (w64 (zaB+(1:Int))) zaT zaV zbk zaf zab (λ i=>enc_40 (zaV.get i)) rfl (λ i=>zbP (zbk.get i)) rfl hs hk))
 (λ hs hk=>(zaQ hs λ hc hs=>⟨⟨isE,rfl,hc⟩,(zaQ hs λ hc hs=>⟨hc,(hX0 (w64 (zaB+(1:Int))) (((Slf69.r.S (⟨(⟨zaT,zaV⟩:Net),(⟨(addN (zab [((s89 w).get zaB.toNat).Use.Tie]) zaf),(zdv [((s89 w).get zaB.toNat).Use.Tie] [1] zab)⟩:Mp)⟩:web) (w64 (left - (1:Int)))).2).Net.Nodes) (((Slf69.r.S (⟨(⟨zaT,zaV⟩:Net),(⟨(addN (zab [((s89 w).get zaB.toNat).Use.Tie]) zaf),(zdv [((s89 w).get zaB.toNat).Use.Tie] [1] zab)⟩:Mp)⟩:web) (w64 (left - (1:Int)))).2).Net.Ties) (⟨(zbk.len+((Slf69.r.S (⟨(⟨zaT,zaV⟩:Net),(⟨(addN (zab [((s89 w).get zaB.toNat).Use.Tie]) zaf),(zdv [((s89 w).get zaB.toNat).Use.Tie] [1] zab)⟩:Mp)⟩:web) (w64 (left - (1:Int)))).1).len),(ziY zbk.len zbk.get ((Slf69.r.S (⟨(⟨zaT,zaV⟩:Net),(⟨(addN (zab [((s89 w).get zaB.toNat).Use.Tie]) zaf),(zdv [((s89 w).get zaB.toNat).Use.Tie] [1] zab)⟩:Mp)⟩:web) (w64 (left - (1:Int)))).1).get)⟩:Sl (Sl Int)) (zAD (((((Slf69.r.S (⟨(⟨zaT,zaV⟩:Net),(⟨(addN (zab [((s89 w).get zaB.toNat).Use.Tie]) zaf),(zdv [((s89 w).get zaB.toNat).Use.Tie] [1] zab)⟩:Mp)⟩:web) (w64 (left - (1:Int)))).2).out).F) [((s89 w).get zaB.toNat).Use.Tie]) ((((Slf69.r.S (⟨(⟨zaT,zaV⟩:Net),(⟨(addN (zab [((s89 w).get zaB.toNat).Use.Tie]) zaf),(zdv [((s89 w).get zaB.toNat).Use.Tie] [1] zab)⟩:Mp)⟩:web) (w64 (left - (1:Int)))).2).out).n)) (zyT [((s89 w).get zaB.toNat).Use.Tie] ((((Slf69.r.S (⟨(⟨zaT,zaV⟩:Net),(⟨(addN (zab [((s89 w).get zaB.toNat).Use.Tie]) zaf),(zdv [((s89 w).get zaB.toNat).Use.Tie] [1] zab)⟩:Mp)⟩:web) (w64 (left - (1:Int)))).2).out).F)) (λ i=>enc_40 (((Slf69.r.S (⟨(⟨zaT,zaV⟩:Net),(⟨(addN (zab [((s89 w).get zaB.toNat).Use.Tie]) zaf),(zdv [((s89 w).get zaB.toNat).Use.Tie] [1] zab)⟩:Mp)⟩:web) (w64 (left - (1:Int)))).2).Net.Ties.get i)) rfl (appG zbk.len (λ i=>zbP (zbk.get i)) (λ i=>zbP (((Slf69.r.S (⟨(⟨zaT,zaV⟩:Net),(⟨(addN (zab [((s89 w).get zaB.toNat).Use.Tie]) zaf),(zdv [((s89 w).get zaB.toNat).Use.Tie] [1] zab)⟩:Mp)⟩:web) (w64 (left - (1:Int)))).1).get i))) (zon (enc:=zbP) (f:=zbk.get) (h:=((Slf69.r.S (⟨(⟨zaT,zaV⟩:Net),(⟨(addN (zab [((s89 w).get zaB.toNat).Use.Tie]) zaf),(zdv [((s89 w).get zaB.toNat).Use.Tie] [1] zab)⟩:Mp)⟩:web) (w64 (left - (1:Int)))).1).get) rfl rfl) hs hk)⟩)⟩)) hs hk)⟩))
 (fun hs hk=>(zvy hk)) hs hk)
  exact key _ zaB zaT zaV zbk zaf zab zcc zky zcd zkz hs hk
def zyO (w:web) (left:Int):((Sl (Sl Int))×web) :=
  (cond (!(s88 w))
 ((⟨1,λ _=>(⟨w.out.n,(λ i=>(ztT w.out.F w.out.n).getD i 0)⟩:(Sl Int))⟩:(Sl (Sl Int))),w)
 (cond (left == (0:Int))
 ((⟨0,λ _=>default⟩:(Sl (Sl Int))),w)
 (zsN w left (0:Int) w.Net.Nodes w.Net.Ties (⟨0,(λ _=>default)⟩:Sl (Sl Int)) w.out.n w.out.F)))
def zIL (w:web) (left:Int):Bool :=
  (decide ((p88 w=true)) &&
 (cond (!(s88 w))
 (decide ((w.out.n≤1000000/\(ztS w.out.F 9223372036854775808 0 w.out.n).isSome=true)) &&
 true)
 (cond (left == (0:Int))
 true
 (decide ((p89 w=true)) &&
 (zsO w left (0:Int) w.Net.Nodes w.Net.Ties (⟨0,(λ _=>default)⟩:Sl (Sl Int)) w.out.n w.out.F)))))
theorem zLo (w:web) (left:Int) (K:List PA×List XA->Prop) (hs:zIL w left=true) (hk:K (zBm left (zyO w left))):zkf Tryd.prog zAf zeZ 69 [.box 105 [.p (.int .i64 w.Net.Nodes),.p (.sl w.Net.Ties.len 4 (λ i=>enc_40 (w.Net.Ties.get i))),.mo 3 4 (false,1,false,[none]) w.out.n w.out.F],.d (.one (.int .i64 left))] (λ a b=>(WkM K) (a,b)):=by
  refine zaX (zAg w left (WkM K)) ?_
  unfold zIL at hs
  unfold zyO at hk
  exact (zaQ hs λ hc hs => ⟨⟨isE, rfl, hc⟩, (zeK (K := λ r => K (zBm left r))
 (λ hs hk=>(zaQ hs λ hc hs=>⟨hc,(zvy hk)⟩))
 (λ hs hk => (zeK (K := λ r => K (zBm left r))
 (λ hs hk=>(wkM hk (zhp (.one (.nil _ _)) znx)))
 (λ hs hk=>(zaQ hs λ hc hs=>⟨⟨(λ _=>rfl),isE,rfl,hc⟩,(zAh K w left (0:Int) w.Net.Nodes w.Net.Ties (⟨0,(λ _=>default)⟩:Sl (Sl Int)) w.out.n w.out.F (λ i=>enc_40 (w.Net.Ties.get i)) rfl (λ i=>zbP ((λ _=>default) i)) rfl hs hk)⟩)) hs hk)) hs hk)⟩)
def zHc : MK
  | [.box 105 [.p (.int .i64 zau),.p (.sl zaq zbv zam),.mo 3 4 zc1 zaL zaM],.d (.one (.int .i64 b1))]=>some (IsE enc_40 4 zbv zam/\zc1=(false,1,false,[none])/\zIL (⟨(⟨zau,(⟨zaq,zal zam⟩:(Sl Tie))⟩:Net),(⟨zaL,zaM⟩:Mp)⟩:web) b1=true,[.one (.sl (((zyO (⟨(⟨zau,(⟨zaq,zal zam⟩:(Sl Tie))⟩:Net),(⟨zaL,zaM⟩:Mp)⟩:web) b1).1).len) 1 (λ i=>zbP (((zyO (⟨(⟨zau,(⟨zaq,zal zam⟩:(Sl Tie))⟩:Net),(⟨zaL,zaM⟩:Mp)⟩:web) b1).1).get i)))],[.box 105 [.p (.int .i64 (((zyO (⟨(⟨zau,(⟨zaq,zal zam⟩:(Sl Tie))⟩:Net),(⟨zaL,zaM⟩:Mp)⟩:web) b1).2).Net.Nodes)),.p (.sl (((zyO (⟨(⟨zau,(⟨zaq,zal zam⟩:(Sl Tie))⟩:Net),(⟨zaL,zaM⟩:Mp)⟩:web) b1).2).Net.Ties.len) 4 (λ i=>enc_40 (((zyO (⟨(⟨zau,(⟨zaq,zal zam⟩:(Sl Tie))⟩:Net),(⟨zaL,zaM⟩:Mp)⟩:web) b1).2).Net.Ties.get i))),.mo 3 4 (false,1,false,[none]) ((((zyO (⟨(⟨zau,(⟨zaq,zal zam⟩:(Sl Tie))⟩:Net),(⟨zaL,zaM⟩:Mp)⟩:web) b1).2).out).n) ((((zyO (⟨(⟨zau,(⟨zaq,zal zam⟩:(Sl Tie))⟩:Net),(⟨zaL,zaM⟩:Mp)⟩:web) b1).2).out).F)],.d (.one (.int .i64 b1))])
  | _=>none
theorem zHd:zas Tryd.prog 69:=⟨_,rfl,rfl,by kernel_rfl⟩
theorem zJz (hself:ziW Tryd.prog 69 zwH):ziW Tryd.prog 69 zHc:=zzL (zJy hself) zHd λ xs safe rs ys h hs K hk=>by
  unfold zHc at h
  split at h
  · rename_i zau zaq zbv zam zc1 zaL zaM b1
    simp only[Option.some.injEq,Prod.mk.injEq] at h
    obtain⟨rfl,rfl,rfl⟩:=h
    obtain⟨⟨rfl,zb6,rfl⟩,rfl,hs⟩:=hs
    try rw[zak zb6] at hs
    try rw[zak zb6] at hk
    refine⟨λ _ _=>[],λ _=>false,zeZ,?_⟩
    show zkf Tryd.prog zAf zeZ 69 _ _
    exact zLo (⟨(⟨zau,(⟨zaq,zb6⟩:(Sl Tie))⟩:Net),(⟨zaL,zaM⟩:Mp)⟩:web) b1 (λ x=>K x.1 x.2) hs hk
  · cases h
end
def ztJ : Nat → Rec69
  | 0=>⟨λ _ _=>default,λ _ _=>false⟩
  | k+1=>⟨@zyO ⟨ztJ k⟩,@zIL ⟨ztJ k⟩⟩
theorem zHe : ∀ k, ziW Tryd.prog 69 (@zwH ⟨ztJ k⟩)
  | 0=>λ xs ys safe rs h hs=>by
    unfold zwH at h
    split at h
    · simp only [Option.some.injEq, Prod.mk.injEq] at h
      obtain⟨rfl,rfl,rfl⟩:=h
      exact absurd hs.2.2 Bool.false_ne_true
    · cases h
  | k+1=>@zJz ⟨ztJ k⟩ (zHe k)
def s69 (w:web) (left:Int):((Sl (Sl Int))×web):=(ztJ 64).S w left
def p69 (w:web) (left:Int):Bool:=(ztJ 64).P w left
def zHf : MK
  | [.box 105 [.p (.int .i64 zau),.p (.sl zaq zbv zam),.mo 3 4 zc1 zaL zaM],.d (.one (.int .i64 b1))]=>some (IsE enc_40 4 zbv zam/\zc1=(false,1,false,[none])/\p69 (⟨(⟨zau,(⟨zaq,zal zam⟩:(Sl Tie))⟩:Net),(⟨zaL,zaM⟩:Mp)⟩:web) b1=true,[.one (.sl (((s69 (⟨(⟨zau,(⟨zaq,zal zam⟩:(Sl Tie))⟩:Net),(⟨zaL,zaM⟩:Mp)⟩:web) b1).1).len) 1 (λ i=>zbP (((s69 (⟨(⟨zau,(⟨zaq,zal zam⟩:(Sl Tie))⟩:Net),(⟨zaL,zaM⟩:Mp)⟩:web) b1).1).get i)))],[.box 105 [.p (.int .i64 (((s69 (⟨(⟨zau,(⟨zaq,zal zam⟩:(Sl Tie))⟩:Net),(⟨zaL,zaM⟩:Mp)⟩:web) b1).2).Net.Nodes)),.p (.sl (((s69 (⟨(⟨zau,(⟨zaq,zal zam⟩:(Sl Tie))⟩:Net),(⟨zaL,zaM⟩:Mp)⟩:web) b1).2).Net.Ties.len) 4 (λ i=>enc_40 (((s69 (⟨(⟨zau,(⟨zaq,zal zam⟩:(Sl Tie))⟩:Net),(⟨zaL,zaM⟩:Mp)⟩:web) b1).2).Net.Ties.get i))),.mo 3 4 (false,1,false,[none]) ((((s69 (⟨(⟨zau,(⟨zaq,zal zam⟩:(Sl Tie))⟩:Net),(⟨zaL,zaM⟩:Mp)⟩:web) b1).2).out).n) ((((s69 (⟨(⟨zau,(⟨zaq,zal zam⟩:(Sl Tie))⟩:Net),(⟨zaL,zaM⟩:Mp)⟩:web) b1).2).out).F)],.d (.one (.int .i64 b1))])
  | _=>none
theorem zLp:ziW Tryd.prog 69 zHf:=zHe 64
abbrev T71:Tabs:=(Tabs.nil.addF 101 zsD)
theorem zJA:TabsOk Tryd.prog T71:=(TabsOk.nil.addF zGZ)
abbrev G71:Ctrs:=csm T71 (λ _ _=>[]) (λ _=>false)
def zDz:Ann:=⟨36,[(0,zK [0,1] []),(1,zK [0,1,9,10,11] []),(2,zK [0,1,9,10,11,12] []),(3,zK [0,1,5,6,9,10,11] []),(4,zK [0,1,5,6,9,10,11,19] []),(5,zK [4] []),(6,zK [0,1,6,7,9,10,11] []),(7,zK [0,1,8,9,10,11] []),(8,zK [0,1,8,9,10,11,28] []),(9,zK [4] []),(10,zK [0,1,9,10,11] []),(11,zK [35] []),(12,zK [4] []),(13,zK [4] [])],
 [(2,zK [0,1,9,10,11] [])],
 [(6,zK [0,1,5,6,9,10,11] []),(8,zK [0,1,8,9,10,11] [])],
 [],[]⟩
abbrev R71:=Int
abbrev e71 (r:R71):List PA:=[.one (.int .i64 r)]
@[irreducible] def z71:=ptF Tryd.prog G71 zDz Tryd.f71
def zBn (zee:(Sl Int)) (zdK:(Sl Int)) (zgI:(Sl Int)) (zaW:Int) (zaN:Int) (zc7:Nat->List PV) (zc8:Nat->List PV) (ziT:Nat->List PV):St:=⟨[(0,zP (.sl zee.len 1 zc7)),(1,zP (.sl zdK.len 1 zc8)),(9,zP (.sl zgI.len 1 ziT)),(10,zI zaW),(11,zI zaN)],[],[]⟩
abbrev zAi (K:List PA->Prop) (X:St->Prop) (P:(Sl Int)->(Sl Int)->(Sl Int)->Int->Int->Bool) (S:(Sl Int)->(Sl Int)->(Sl Int)->Int->Int->Int):Prop:=∀ ⦃zee:(Sl Int)⦄ ⦃zdK:(Sl Int)⦄ ⦃zgI:(Sl Int)⦄ ⦃zaW:Int⦄ ⦃zaN:Int⦄ ⦃zc7:Nat->List PV⦄ ⦃zc8:Nat->List PV⦄ ⦃ziT:Nat->List PV⦄,P zee zdK zgI zaW zaN=true->K (e71 (S zee zdK zgI zaW zaN))->zc7=zg enc_3 zee->zc8=zg enc_3 zdK->ziT=zg enc_3 zgI->X (zBn zee zdK zgI zaW zaN zc7 zc8 ziT)
section
variable {K:List PA->Prop}{s1_a0:(Sl Int)}{s2_a1:(Sl Int)}{zee:(Sl Int)}{zdK:(Sl Int)}{zgI:(Sl Int)}{zaW:Int}{zaN:Int}{zc7:Nat->List PV}{zc8:Nat->List PV}{ziT:Nat->List PV}{X0:St->Prop}{P0:(Sl Int)->(Sl Int)->(Sl Int)->Int->Int->Bool}{S0:(Sl Int)->(Sl Int)->(Sl Int)->Int->Int->Int}{zov:(Sl Int)}{zji:(Sl Int)}{iv1:Int}{zDA:Int}{zqy:(Sl Int)}{zhm:Int}{zcs:Int}{zow:Nat->List PV}{zox:Nat->List PV}{zBo:Nat->List PV}{zoy:(Sl Int)}{zoz:(Sl Int)}{cv2:Int}{zqz:Int}{zoA:Nat->List PV}{zoB:Nat->List PV}
def zwI (S0:(Sl Int)->(Sl Int)->(Sl Int)->Int->Int->Int) (zqy:(Sl Int)) (zhm:Int) (zoy:(Sl Int)) (zoz:(Sl Int)) (cv2:Int) (zqz:Int):Int :=
  (cond (cv2 != (0:Int))
 cv2
 (S0 zoy zoz zqy zhm (w64 (zqz+(1:Int)))))
def zwJ (P0:(Sl Int)->(Sl Int)->(Sl Int)->Int->Int->Bool) (zqy:(Sl Int)) (zhm:Int) (zoy:(Sl Int)) (zoz:(Sl Int)) (cv2:Int) (zqz:Int):Bool :=
  (cond (cv2 != (0:Int))
 true
 (P0 zoy zoz zqy zhm (w64 (zqz+(1:Int)))))
theorem zDB (hX0:zAi K X0 P0 S0) (hs:zwJ P0 zqy zhm zoy zoz cv2 zqz=true) (hk:K (e71 (zwI S0 zqy zhm zoy zoz cv2 zqz))) (zwi:zoA=zg enc_3 zoy) (zwj:zoB=zg enc_3 zoz):z71 K [1,0,1,0,0,1,1,0,0,1,1,1,1] [X0] ⟨[(0,zP (.sl zoy.len 1 zoA)),(1,zP (.sl zoz.len 1 zoB)),(8,zI cv2),(9,zS enc_3 1 zqy),(10,zI zhm),(11,zI zqz)],[],[]⟩:=by subst zwi;subst zwj;exact zaX (by kernel_rfl) (zc hs hk (λ hs hk=>hk) (λ hs hk=>(hX0 hs hk rfl rfl rfl)))
def zwK (S0:(Sl Int)->(Sl Int)->(Sl Int)->Int->Int->Int) (zov:(Sl Int)) (zji:(Sl Int)) (iv1:Int) (zDA:Int) (zqy:(Sl Int)) (zhm:Int) (zcs:Int):Int :=
  (zwI S0 zqy zhm zov zji (zyN zDA (zji.get iv1.toNat)) zcs)
def zwL (P0:(Sl Int)->(Sl Int)->(Sl Int)->Int->Int->Bool) (zov:(Sl Int)) (zji:(Sl Int)) (iv1:Int) (zDA:Int) (zqy:(Sl Int)) (zhm:Int) (zcs:Int):Bool :=
  (decide ((0≤iv1/\iv1 < (zji.len:Int))) &&
 (zwJ P0 zqy zhm zov zji (zyN zDA (zji.get iv1.toNat)) zcs))
theorem zDC (hX0:zAi K X0 P0 S0) (hs:zwL P0 zov zji iv1 zDA zqy zhm zcs=true) (hk:K (e71 (zwK S0 zov zji iv1 zDA zqy zhm zcs))) (zwk:zow=zg enc_3 zov) (zwl:zox=zg enc_3 zji) (zHg:zBo=zg enc_3 zqy):z71 K [1,0,1,0,0,1,1,0,0,1,1] [X0] ⟨[(0,zP (.sl zov.len 1 zow)),(1,zP (.sl zji.len 1 zox)),(5,zI iv1),(6,zI zDA),(9,zP (.sl zqy.len 1 zBo)),(10,zI zhm),(11,zI zcs)],[],[]⟩:=by subst zwk;subst zwl;subst zHg;exact zaX (by kernel_rfl) (zaQ hs λ hc hs=>And.intro hc (zDB hX0 hs hk rfl rfl))
def zwM (S0:(Sl Int)->(Sl Int)->(Sl Int)->Int->Int->Int) (zee:(Sl Int)) (zdK:(Sl Int)) (zgI:(Sl Int)) (zaW:Int) (zaN:Int):Int :=
  (cond (decide (zaN < zaW))
 (cond (decide (zaN ≥ (zdK.len : Int)))
 (1:Int)
 (zwK S0 zee zdK zaN (zgI.get zaN.toNat) zgI zaW zaN))
 (cond (decide ((zee.len : Int) < (zdK.len : Int)))
 (-1:Int)
 (0:Int)))
def zwN (P0:(Sl Int)->(Sl Int)->(Sl Int)->Int->Int->Bool) (zee:(Sl Int)) (zdK:(Sl Int)) (zgI:(Sl Int)) (zaW:Int) (zaN:Int):Bool :=
  (cond (decide (zaN < zaW))
 (decide ((0≤zaN/\zaN < (zgI.len:Int))) &&
 (cond (decide (zaN ≥ (zdK.len : Int)))
 true
 (zwL P0 zee zdK zaN (zgI.get zaN.toNat) zgI zaW zaN)))
 true)
def zwO:Nat->(Sl Int)->(Sl Int)->(Sl Int)->Int->Int->Int:=lpO (λ _ _ _ _ _=>default) (zwM)
def zwP:Nat->(Sl Int)->(Sl Int)->(Sl Int)->Int->Int->Bool:=lpO (λ _ _ _ _ _=>false) (zwN)
def zwQ (zee:(Sl Int)) (zdK:(Sl Int)) (zgI:(Sl Int)) (zaW:Int) (zaN:Int):Int:=zwO Fuel zee zdK zgI zaW zaN
def zwR (zee:(Sl Int)) (zdK:(Sl Int)) (zgI:(Sl Int)) (zaW:Int) (zaN:Int):Bool:=zwP Fuel zee zdK zgI zaW zaN
theorem zDD (hs:zwR zee zdK zgI zaW zaN=true) (hk:K (e71 (zwQ zee zdK zgI zaW zaN))) (zkp:zc7=zg enc_3 zee) (zkq:zc8=zg enc_3 zdK) (zwS:ziT=zg enc_3 zgI):z71 K [1,0,1,0] [] (zBn zee zdK zgI zaW zaN zc7 zc8 ziT) :=
  zl (λ X=>z71 K [1,0,1,0,0] [X]) (by kernel_rfl) λ X0 hX =>
  (show ∀ k, zAi K X0 (zwP k) (zwO k) from zfW _ _ (zwN) (zwM) (zAi K X0)
 (by intro _ _ _ _ _ _ _ _ hs;exact absurd hs Bool.false_ne_true)
 (by intro P0 S0 hX0 zee zdK zgI zaW zaN zc7 zc8 ziT hs hk zkp zkq zwS;subst zkp;subst zkq;subst zwS;exact hX _ (zaX (by kernel_rfl) (zc hs hk (λ hs hk=>(zaQ hs λ hc hs=>And.intro hc (zc hs hk (λ hs hk=>hk) (λ hs hk=>(zDC hX0 hs hk rfl rfl rfl))))) (λ hs hk=>(zt hk (λ hk=>hk) (λ hk=>hk))))))) _ hs hk zkp zkq zwS
def s71 (s1_a0:(Sl Int)) (s2_a1:(Sl Int)):Int :=
  (zwQ s1_a0 s2_a1 s1_a0 (s1_a0.len:Int) (0:Int))
def p71 (s1_a0:(Sl Int)) (s2_a1:(Sl Int)):Bool :=
  (zwR s1_a0 s2_a1 s1_a0 (s1_a0.len:Int) (0:Int))
end
theorem q71 (s1_a0:(Sl Int)) (s2_a1:(Sl Int)) (K:List PA->Prop) (hs:p71 s1_a0 s2_a1=true) (hk:K (e71 (s71 s1_a0 s2_a1))):vcFun Tryd.prog G71 zDz 71 [.one (.sl s1_a0.len 1 (λ i=>enc_3 (s1_a0.get i))),.one (.sl s2_a1.len 1 (λ i=>enc_3 (s2_a1.get i)))] K :=
  zaX (by kernel_rfl) (zDD hs hk rfl rfl rfl)
def zDE : List PA → COut
  | [.one (.sl zfv zlB zfw),.one (.sl zdA zhP zdr)]=>.det (IsE enc_3 1 zlB zfw/\IsE enc_3 1 zhP zdr/\p71 (⟨zfv,zat zfw⟩:(Sl Int)) (⟨zdA,zat zdr⟩:(Sl Int))=true) [.one (.int .i64 (s71 (⟨zfv,zat zfw⟩:(Sl Int)) (⟨zdA,zat zdr⟩:(Sl Int))))]
  | _=>.no
theorem zHh:zas Tryd.prog 71:=⟨_,rfl,rfl,by kernel_rfl⟩
theorem zLq:Ok Tryd.prog 71 zDE:=zbm zJA zHh λ args K h=>by
  unfold zDE at h
  split at h
  · rename_i zfv zlB zfw zdA zhP zdr
    obtain⟨⟨⟨rfl,zh0,rfl⟩,⟨rfl,zfl,rfl⟩,hs⟩,hk⟩:=h
    try rw[za3 zh0] at hs
    try rw[za3 zh0] at hk
    try rw[za3 zfl] at hs
    try rw[za3 zfl] at hk
    exact⟨(λ _ _=>[]),(λ _=>false),zDz,q71 (⟨zfv,zh0⟩:(Sl Int)) (⟨zdA,zfl⟩:(Sl Int)) K hs hk⟩
  · exact h.elim
abbrev T70:Tabs:=(Tabs.nil.addF 71 zDE)
theorem zJB:TabsOk Tryd.prog T70:=(TabsOk.nil.addF zLq)
abbrev G70:Ctrs:=csm T70 (λ _ _=>[]) (λ _=>false)
def zDF:Ann:=⟨33,[(0,zK [0,1] []),(1,zK [0,1,9] []),(3,zK [0,1,5] []),(4,zK [0,1,5,6] []),(5,zK [0,1,5,6,17] []),(6,zK [0,1,5,6] []),(7,zK [0,1,5,6,27] []),(8,zK [0,1,5,6] []),(9,zK [4] [])],
 [(5,zK [0,1,5,6] [])],
 [(3,zK [0,1] []),(8,zK [0,1,5,6,27] [])],
 [],[]⟩
abbrev R70:=(Sl Int)
abbrev e70 (r:R70):List PA:=[.one (.sl r.len 1 (λ i=>enc_3 (r.get i)))]
@[irreducible] def z70:=ptF Tryd.prog G70 zDF Tryd.f70
def zBp (x:(Sl (Sl Int))) (mv1:(Sl Int)) (iv1:Int) (zoE:Nat->List PV):St:=⟨[(0,zS zbP 1 x),(1,zP (.fn 71 [] [])),(5,zP (.sl mv1.len 1 zoE)),(6,zI iv1)],[],[]⟩
abbrev zDG (K:List PA->Prop) (x:(Sl (Sl Int))) (X:St->Prop) (P:(Sl Int)->Int->Bool) (S:(Sl Int)->Int->(Sl Int)):Prop:=∀ ⦃mv1:(Sl Int)⦄ ⦃iv1:Int⦄ ⦃zoE:Nat->List PV⦄,P mv1 iv1=true->K (e70 (S mv1 iv1))->zoE=zg enc_3 mv1->X (zBp x mv1 iv1 zoE)
section
variable {K:List PA->Prop}{x:(Sl (Sl Int))}{mv1:(Sl Int)}{iv1:Int}{zoE:Nat->List PV}{X1:St->Prop}{P1:(Sl Int)->Int->Bool}{S1:(Sl Int)->Int->(Sl Int)}{mv2:(Sl Int)}{iv2:Int}{zqA:Bool}{zHi:Nat->List PV}
def zwT (S1:(Sl Int)->Int->(Sl Int)) (x:(Sl (Sl Int))) (mv2:(Sl Int)) (iv2:Int) (zqA:Bool):(Sl Int) :=
  (cond zqA
 (S1 (x.get iv2.toNat) (w64 (iv2+(1:Int))))
 (S1 mv2 (w64 (iv2+(1:Int)))))
def zwU (P1:(Sl Int)->Int->Bool) (x:(Sl (Sl Int))) (mv2:(Sl Int)) (iv2:Int) (zqA:Bool):Bool :=
  (cond zqA
 (decide ((0≤iv2/\iv2 < (x.len:Int))) &&
 (P1 (x.get iv2.toNat) (w64 (iv2+(1:Int)))))
 (P1 mv2 (w64 (iv2+(1:Int)))))
theorem zDH (hX1:zDG K x X1 P1 S1) (hs:zwU P1 x mv2 iv2 zqA=true) (hk:K (e70 (zwT S1 x mv2 iv2 zqA))) (zJC:zHi=zg enc_3 mv2):z70 K [1,1,1,0,1,0,0,1,0,0,1] [X1] ⟨[(0,zS zbP 1 x),(1,zP (.fn 71 [] [])),(5,zP (.sl mv2.len 1 zHi)),(6,zI iv2),(27,zB zqA)],[],[]⟩:=by subst zJC;exact zaX (by kernel_rfl) (zc hs hk (λ hs hk=>(zaQ hs λ hc hs=>And.intro hc (hX1 hs hk rfl))) (λ hs hk=>(hX1 hs hk rfl)))
def zwV (x:(Sl (Sl Int))) (S1:(Sl Int)->Int->(Sl Int)) (mv1:(Sl Int)) (iv1:Int):(Sl Int) :=
  (cond (decide (iv1 < (x.len : Int)))
 (zwT S1 x mv1 iv1 (decide ((s71 (x.get iv1.toNat) mv1) < (0:Int))))
 mv1)
def zwW (x:(Sl (Sl Int))) (P1:(Sl Int)->Int->Bool) (mv1:(Sl Int)) (iv1:Int):Bool :=
  (cond (decide (iv1 < (x.len : Int)))
 (decide ((0≤iv1/\iv1 < (x.len:Int))) &&
 (decide ((p71 (x.get iv1.toNat) mv1=true)) &&
 (zwU P1 x mv1 iv1 (decide ((s71 (x.get iv1.toNat) mv1) < (0:Int))))))
 true)
def zwX (x:(Sl (Sl Int))):Nat->(Sl Int)->Int->(Sl Int):=lpO (λ _ _=>default) (zwV x)
def zwY (x:(Sl (Sl Int))):Nat->(Sl Int)->Int->Bool:=lpO (λ _ _=>false) (zwW x)
def zwZ (x:(Sl (Sl Int))) (mv1:(Sl Int)) (iv1:Int):(Sl Int):=zwX x Fuel mv1 iv1
def zw0 (x:(Sl (Sl Int))) (mv1:(Sl Int)) (iv1:Int):Bool:=zwY x Fuel mv1 iv1
theorem zDI (hs:zw0 x mv1 iv1=true) (hk:K (e70 (zwZ x mv1 iv1))) (zDJ:zoE=zg enc_3 mv1):z70 K [1,1,1,0,1,0] [] (zBp x mv1 iv1 zoE) :=
  zl (λ X=>z70 K [1,1,1,0,1,0,0] [X]) (by kernel_rfl) λ X1 hX =>
  (show ∀ k, zDG K x X1 (zwY x k) (zwX x k) from zfW _ _ (zwW x) (zwV x) (zDG K x X1)
 (by intro _ _ _ hs;exact absurd hs Bool.false_ne_true)
 (by intro P1 S1 hX1 mv1 iv1 zoE hs hk zDJ;subst zDJ;exact hX _ (zaX (by kernel_rfl) (zc hs hk (λ hs hk=>(zaQ hs λ hc hs=>And.intro hc (zaQ hs λ hc hs=>And.intro (And.intro (zE enc_3 1 ((x.get iv1.toNat).get)) (And.intro (zE enc_3 1 mv1.get) hc)) (zDH hX1 hs hk rfl)))) (λ hs hk=>hk))))) _ hs hk zDJ
def zw1 (x:(Sl (Sl Int))):(Sl Int) :=
  (zwZ x (x.get 0) (1:Int))
def zw2 (x:(Sl (Sl Int))):Bool :=
  (decide ((0≤(0:Int)/\(0:Int) < (x.len:Int))) &&
 (zw0 x (x.get 0) (1:Int)))
theorem zDK (hs:zw2 x=true) (hk:K (e70 (zw1 x))):z70 K [1,1] [] ⟨[(0,zS zbP 1 x),(1,zP (.fn 71 [] []))],[],[]⟩:=zaX (by kernel_rfl) (zaQ hs λ hc hs=>And.intro hc (zDI hs hk rfl))
def s70 (x:(Sl (Sl Int))):(Sl Int) :=
  (cond (decide ((x.len : Int) < (1:Int)))
 default
 (zw1 x))
def p70 (x:(Sl (Sl Int))):Bool :=
  (cond (decide ((x.len : Int) < (1:Int)))
 false
 (zw2 x))
end
theorem q70 (x:(Sl (Sl Int))) (K:List PA->Prop) (hs:p70 x=true) (hk:K (e70 (s70 x))):vcFun Tryd.prog G70 zDF 70 [.one (.sl x.len 1 (λ i=>zbP (x.get i))),.one (.fn 71 [] [])] K :=
  zaX (by kernel_rfl) (zc hs hk (λ hs hk=>(absurd hs Bool.false_ne_true:False)) (λ hs hk=>(zDK hs hk)))
def zDL : List PA → COut
  | [.one (.sl zfv zlB zfw),.one (.fn 71 [] [])]=>.det (IsE zbP 1 zlB zfw/\p70 (⟨zfv,zmp zfw⟩:(Sl (Sl Int)))=true) [.one (.sl ((s70 (⟨zfv,zmp zfw⟩:(Sl (Sl Int)))).len) 1 (λ i=>enc_3 ((s70 (⟨zfv,zmp zfw⟩:(Sl (Sl Int)))).get i)))]
  | _=>.no
theorem zHj:zas Tryd.prog 70:=⟨_,rfl,rfl,by kernel_rfl⟩
theorem zLr:Ok Tryd.prog 70 zDL:=zbm zJB zHj λ args K h=>by
  unfold zDL at h
  split at h
  · rename_i zfv zlB zfw
    obtain⟨⟨⟨rfl,zh0,rfl⟩,hs⟩,hk⟩:=h
    try rw[zkj zh0] at hs
    try rw[zkj zh0] at hk
    exact⟨(λ _ _=>[]),(λ _=>false),zDF,q70 (⟨zfv,zh0⟩:(Sl (Sl Int))) K hs hk⟩
  · exact h.elim
end Go.Proofs
namespace Go.Pm
open Go.RowKit (Below)
section
variable (P:Program) (Γ:Ctrs)
def zsP (fi : FuncId) : Code → Option (Nat × Nat)
  | .region id ops false=>match ops.toList with
    | [o1,o2]=>match o1.op,o1.dst,o1.guard,o2.op,o2.dst,o2.guard with
      | .makeFunc (.func f) first caps,some t,none,.defer { callee:=.value (.tmp t'),args,argTypes:=_ },none,none=>match Nat.beq f fi && Nat.beq t t' && first.isEmpty && args.isEmpty && Nat.beq caps.size 2 with
        | true=>some (id,t)
        | false=>none
      | _,_,_,_,_,_=>none
    | _=>none
  | _=>none
def zAj (fi : FuncId) (ann : Ann) : Code → (Exit → St → Prop) → St → Prop
  | .seq a b,K,σ=>match zsP fi a with
    | some (id,t)=>match Nat.blt t ann.nt with
      | true=>zBO P ann id (vc P Γ ann b K) ⟨(t,.junk) :: σ.env,σ.objs,[]⟩
      | false=>False
    | none=>vc P Γ ann a (zAF (zAj fi ann b K) K) σ
  | c,K,σ=>vc P Γ ann c K σ
def zsQ (fi:FuncId) (ann:Ann) (f:FuncId) (args:List PA) (K:List PA->Prop):Prop :=
 match P.funcs[f]? with
 | some fn=>match fn.body with
  | some c=>match Nat.beq ann.nt fn.ntmps && Nat.ble args.length ann.nt with
   | true=>zAj P Γ fi ann c (zo0 P fn K) ⟨zgX 0 args,[],[]⟩
   | false=>False
  | none=>False
 | none=>False
end
section
variable {P:Program}{Γ:Ctrs}{B:Nat}{w0:World}
theorem zlD {fi:FuncId}{c:Code}{id t:Nat}(h:zsP fi c=some (id,t)):∃ (o1 o2:Oper) (caps:Array Operand) (ats:Array TypeId),c=.region id #[o1,o2] false/\caps.size=2/\o1.op=.makeFunc (.func fi) #[] caps/\o1.dst=some t/\o1.guard=none /\
  o2.op=.defer { callee:=.value (.tmp t),args:=#[],argTypes:=ats }/\o2.dst=none/\o2.guard=none:=by
 unfold zsP at h
 split at h
 ·rename_i id' ops
  split at h
  ·rename_i o1 o2 hops
   split at h
   ·rename_i f first caps t' t2 args ats e1 e2 e3 e4 e5 e6
    split at h
    ·rename_i hc
     simp only[Bool.and_eq_true] at hc
     simp only[Option.some.injEq,Prod.mk.injEq] at h
     obtain⟨rfl,rfl⟩:=h
     obtain⟨⟨⟨⟨h1,h2⟩,h3⟩,h4⟩,h5⟩:=hc
     have h5:=Nat.eq_of_beq_eq_true h5
     have h1:=Nat.eq_of_beq_eq_true h1
     have h2:=Nat.eq_of_beq_eq_true h2
     have h3:first = #[]:=by simpa using h3
     have h4:args = #[]:=by simpa using h4
     subst h1 h2 h3 h4
     refine⟨o1,o2,caps,ats,?_,h5,e1,e2,e3,e4,e5,e6⟩
     rw[← Array.toArray_toList (xs:=ops),hops]
    ·cases h
   ·cases h
  ·cases h
 ·cases h
theorem ztK {fi : FuncId} (hidle : ∀ caps : Array Value, caps.size = 2 → zlO P { target := .fn (.func fi) caps, args := #[] }) {c : Code} {id t nt n : Nat} {h0 : Fz} {D : List Nat} {a0 a : Act} {σ : St} {g : Gh} {w : World} {Q : Exit → Act → World → Prop}
    (h:zsP fi c=some (id,t)) (ht:t < nt) (htD:t∈D) (S:Sim P nt B w0 h0 g σ a w) (hkp:Kp D a0 a)
    (hQ:∀ a',Sim P nt B w0 h0 g ⟨(t,.junk) :: σ.env,σ.objs,[]⟩ a' w->Kp D a0 a'->Q .normal a' w):c.wpIn (FR none) n P Q a w:=by
  obtain⟨o1,o2,caps,ats,rfl,e0,e1,e2,e3,e4,e5,e6⟩:=zlD h
  refine wpIn_region ?_
  show wpOpsIn (FR none) n P #[o1,o2] Q [0,1] a w
  have w1:∀ tm,Region.wanted o1 (yielded #[o1,o2] tm)=true:=λ tm=>by simp[Region.wanted,e3]
  have w2:∀ tm,Region.wanted o2 (yielded #[o1,o2] tm)=true:=λ tm=>by simp[Region.wanted,e6]
  have r1:(execOp a.eval o1).run P w=.ok (.value (.func (.func fi) #[] (caps.map a.eval))) w:=by
    simp only[execOp,e1,Instr.makeFunc,Sem.run_bind,Sem.run_pure,Result.andThen_ok];simp
  have ets:t < a.tmps.size:=Nat.lt_of_lt_of_le ht S.size
  have ev:(a.put (some t) (.func (.func fi) #[] (caps.map a.eval))).eval (.tmp t)=.func (.func fi) #[] (caps.map a.eval):=by
    simp[Act.put,Act.eval,Array.getD_eq_getD_getElem?,ets]
  have r2:(execOp (a.put (some t) (.func (.func fi) #[] (caps.map a.eval))).eval o2).run P w=.ok (.defer { target:=.fn (.func fi) (caps.map a.eval),args:=#[] }) w:=by
    simp only[execOp,e4,resolve,Sem.run_bind,ev,Deferred.ofValue,Sem.run_pure,Result.andThen_ok];simp
  show (if Region.wanted o1 (yielded #[o1,o2] a.tmps) then o1.wpIn (FR none) n P a w (wpOpsIn (FR none) n P #[o1,o2] Q [1]) Q else _)
  rw[if_pos (w1 _)]
  refine⟨λ _ _=>trivial,?_⟩
  rw[show o1.semAt (FR none).round a.eval=execOp a.eval o1 from rfl,r1]
  show wpOpsIn (FR none) n P #[o1,o2] Q [1] (a.put o1.dst _) w
  rw[e2]
  show (if Region.wanted o2 (yielded #[o1,o2] (a.put (some t) _).tmps) then o2.wpIn (FR none) n P (a.put (some t) _) w (wpOpsIn (FR none) n P #[o1,o2] Q []) Q else _)
  rw[if_pos (w2 _)]
  refine⟨λ _ _=>trivial,?_⟩
  have r3:Sem.run P (o2.semAt (FR none).round (a.put (some t) (.func (.func fi) #[] (caps.map a.eval))).eval) w=.ok (.defer { target:=.fn (.func fi) (caps.map a.eval),args:=#[] }) w:=r2
  rw[r3]
  have S1:=S.put (dst:=some t) (d:=.junk) (v:=.func (.func fi) #[] (caps.map a.eval)) (by simpa [zbp,Nat.blt_eq] using ht) trivial (λ L hL=>by simp[zaO,za8,zaD] at hL) []
  refine hQ _ (S1.act ?_ ?_ ?_) ?_
  · obtain ⟨es, m1, m2, m3, m4⟩ := S1.dfr
    refine⟨.inr { target:=.fn (.func fi) (caps.map a.eval),args:=#[] } :: es,m1,?_,λ E hE=>?_,λ d hd=>?_⟩
    · rw[e5,List.map_cons,← m2];rfl
    · rcases List.mem_cons.1 hE with e | hE
      · cases e
      · exact m3 E hE
    · rcases List.mem_cons.1 hd with e | hd
      · cases e;exact hidle _ (by simpa using e0)
      · exact m4 d hd
  · rw[e5];exact S1.size
  · rw[e5];exact S1.env
  · rw [e5]
    exact hkp.put (dst:=some t) (λ z hz=>by cases hz;exact htD) _ a.defers
theorem zw3 (hok:OkAll P Γ){fi:FuncId}(hidle:∀ caps:Array Value,caps.size=2->zlO P { target:=.fn (.func fi) caps,args:=#[] }) (ann:Ann):∀ (c:Code) (n:Nat) (h0:Fz) (D:List Nat) (a0:Act) (K:Exit->St->Prop) (σ:St) (g:Gh) (a:Act) (w:World),
  (∀ t∈zgV c,t∈D)->zAj P Γ fi ann c K σ->Sim P ann.nt B w0 h0 g σ a w->Kp D a0 a->c.wpIn (FR none) n P (PostR P ann.nt B w0 h0 D a0 K) a w
 | .seq x y,n,h0,D,a0,K,σ,g,a,w,hD,h,S,hkp=>by
  have hDx:∀ t∈zgV x,t∈D:=λ t ht=>hD t (List.mem_append.2 (.inl ht))
  have hDy:∀ t∈zgV y,t∈D:=λ t ht=>hD t (List.mem_append.2 (.inr ht))
  simp only[zAj] at h
  split at h
  ·rename_i id t hdf
   split at h
   ·rename_i hlt
    have ht:t < ann.nt:=by simpa [Nat.blt_eq] using hlt
    have htD:t∈D:=by
     obtain⟨o1,o2,caps,ats,rfl,_,_,e2,_,_,e5,_⟩:=zlD hdf
     exact hDx t (by simp[zgV,zt3,e2])
    refine wpIn_seq (ztK hidle hdf ht htD S hkp λ a' S' hk'=>?_)
    have hk:∀ s g2,vc P Γ ann y K s->Sim P ann.nt B w0 h0 g2 s a' w->y.wpIn (FR none) n P (PostR P ann.nt B w0 h0 D a0 K) a' w:=λ s g2 hv S2=>zdi hok ann y none n h0 D a0 K s g2 a' w hDy (Rnd.none h0) hv S2 hk'
    unfold zBO at h
    split at h
    ·split at h
     ·rename_i s hs
      obtain⟨g2,S2⟩:=zbh hs S'
      exact hk s g2 h S2
     ·exact h.elim
    ·exact hk _ g h S'
   ·exact h.elim
  ·refine wpIn_seq (wpIn_mono (zdi hok ann x none n h0 D a0 _ σ g a w hDx (Rnd.none h0) h S hkp) ?_)
   rintro e a' w' ⟨g',σ',hK,S',hk'⟩
   cases e with
   | normal=>exact zw3 hok hidle ann y n h0 D a0 K σ' g' a' w' hDy hK S' hk'
   | exit id=>exact⟨g',σ',hK,S',hk'⟩
   | goto l=>exact⟨g',σ',hK,S',hk'⟩
   | ret=>exact⟨g',σ',hK,S',hk'⟩
   | panic ch=>exact⟨g',σ',hK,S',hk'⟩
   | outgrown=>exact⟨g',σ',hK,S',hk'⟩
 | .skip,n,h0,D,a0,K,σ,g,a,w,hD,h,S,hkp=>zdi hok ann .skip none n h0 D a0 K σ g a w hD (Rnd.none h0) h S hkp
 | .region i o d,n,h0,D,a0,K,σ,g,a,w,hD,h,S,hkp=>zdi hok ann (.region i o d) none n h0 D a0 K σ g a w hD (Rnd.none h0) h S hkp
 | .cond c x y,n,h0,D,a0,K,σ,g,a,w,hD,h,S,hkp=>zdi hok ann (.cond c x y) none n h0 D a0 K σ g a w hD (Rnd.none h0) h S hkp
 | .block i x,n,h0,D,a0,K,σ,g,a,w,hD,h,S,hkp=>zdi hok ann (.block i x) none n h0 D a0 K σ g a w hD (Rnd.none h0) h S hkp
 | .loop x,n,h0,D,a0,K,σ,g,a,w,hD,h,S,hkp=>zdi hok ann (.loop x) none n h0 D a0 K σ g a w hD (Rnd.none h0) h S hkp
 | .scope x,n,h0,D,a0,K,σ,g,a,w,hD,h,S,hkp=>zdi hok ann (.scope x) none n h0 D a0 K σ g a w hD (Rnd.none h0) h S hkp
 | .exit i,n,h0,D,a0,K,σ,g,a,w,hD,h,S,hkp=>zdi hok ann (.exit i) none n h0 D a0 K σ g a w hD (Rnd.none h0) h S hkp
 | .goto i,n,h0,D,a0,K,σ,g,a,w,hD,h,S,hkp=>zdi hok ann (.goto i) none n h0 D a0 K σ g a w hD (Rnd.none h0) h S hkp
 | .label i,n,h0,D,a0,K,σ,g,a,w,hD,h,S,hkp=>zdi hok ann (.label i) none n h0 D a0 K σ g a w hD (Rnd.none h0) h S hkp
 | .ret,n,h0,D,a0,K,σ,g,a,w,hD,h,S,hkp=>zdi hok ann .ret none n h0 D a0 K σ g a w hD (Rnd.none h0) h S hkp
 | .rangeFunc f p x y,n,h0,D,a0,K,σ,g,a,w,hD,h,S,hkp=>zdi hok ann (.rangeFunc f p x y) none n h0 D a0 K σ g a w hD (Rnd.none h0) h S hkp
 | .refuse x,n,h0,D,a0,K,σ,g,a,w,hD,h,S,hkp=>zdi hok ann (.refuse x) none n h0 D a0 K σ g a w hD (Rnd.none h0) h S hkp
theorem zAk {G : Ctrs} (hok : OkAll P G) {f fi : FuncId} (hidle : ∀ caps : Array Value, caps.size = 2 → zlO P { target := .fn (.func fi) caps, args := #[] }) {args : List PA} {K : List PA → Prop} {ann : Ann} (hv : zsQ P G fi ann f args K) {w : World} {h0 : Fz} {vs : List Value} (hvs : RL (paR h0) args vs) (hfz : Hw h0 w) (hgl : zdP h0) :
  Calls P f vs.toArray w λ e w'=>∃ (h':Fz) (rs:List PA) (v:Value),K rs/\e=.returned v/\znw h' rs v/\Bel h0 w.heap.size w w' /\
   Fle h0 h'/\Hw h' w'/\∀ b o,h' b=some o->h0 b=some o∨w.heap.size≤b:=by
 unfold zsQ at hv
 split at hv
 ·rename_i fn hfn
  split at hv
  ·rename_i c hbody
   split at hv
   ·rename_i hnt
    simp only[Bool.and_eq_true,Nat.ble_eq] at hnt
    have S:=zke (P:=P) (Nat.eq_of_beq_eq_true hnt.1) hnt.2 hvs hfz hgl
    have hwp:=zw3 (B:=w.heap.size) (w0:=w) hok hidle ann c 0 h0 (zgV c) _ _ _ _ _ _ (λ _ h=>h) hv S (Kp.refl _ _)
    refine (callsIn_wide (n:=0)).1 ?_
    refine callsIn_of_wp_marks (F:=FR none) hfn hbody trivial (wpIn_mono hwp ?_)
    have h0b:∀ b,h0 b=some (.fz (.deferred (some [])))->b < w.heap.size:=λ b h=>hfz.lt h
    rintro e a' w' ⟨g',σ',hK',S',_⟩
    have fin:zFC P fn K σ'->LeavesInM (FR none) 0 P fn a'.tmps (λ e w'=>∃ (h':Fz) (rs:List PA) (v:Value),K rs/\e=.returned v/\znw h' rs v/\Bel h0 w.heap.size w w' /\
      Fle h0 h'/\Hw h' w'/\∀ b o,h' b=some o->h0 b=some o∨w.heap.size≤b) a'.defers .returning w':=by
     intro hf
     obtain⟨Ds,h1,h2,h3,h4⟩:=S'.dfr
     refine zkd h0b Ds g' a' w' h1 h2 h3 h4 S' λ g2 a2 w2 _ S2=>?_
     unfold zFC at hf
     split at hf
     ·rename_i l hl
      obtain⟨u,v,hu,hrun,hres⟩:=zkc S2 hl
      obtain⟨h',S3,F⟩:=S2.freeze hu
      exact⟨v,hrun,h',l,v,hf,rfl,hres h' F,S3.below,S3.le0,S3.hw,S3.hn⟩
     ·exact hf.elim
    cases e with
    | normal=>exact fin hK'
    | ret=>exact fin hK'
    | exit id=>exact hK'.elim
    | goto l=>exact hK'.elim
    | panic ch=>exact hK'.elim
    | outgrown=>exact hK'.elim
   ·exact hv.elim
  ·exact hv.elim
 ·exact hv.elim
theorem zAl {T : Tabs} (hT : TabsOk P T) {f fi : FuncId} {C : List PA → COut} (hc : zas P f) (hidle : ∀ caps : Array Value, caps.size = 2 → zlO P { target := .fn (.func fi) caps, args := #[] })
    (h:∀ args K,(C args).wp K->∃ args',RL PAle args args'/\∃ memo vv ann,zsQ P (csm T memo vv) fi ann f args' (Wk K)):Ok P f C:=by
  intro args K hK w h0 vs hvs hfz hgl
  obtain⟨args',hle,memo,vv,ann,hv⟩:=h args K hK
  refine⟨hc,(zAk (hT.all memo vv) hidle hv (zvw (R:=paR h0) (S:=PAle) (T:=paR h0) (λ _ _ _ e r=>zzK e r) _ _ _ hle hvs) hfz hgl).mono ?_⟩
  rintro e w' ⟨h',rs,v,⟨rs',hr,hk⟩,he,hres,rest⟩
  exact⟨h',rs',v,hk,he,zvx hr hres,rest⟩
end
end Go.Pm
namespace Go.Pm
open Go Go.Proofs
set_option maxRecDepth 100000
theorem zHk:∀ caps:Array Value,caps.size=2->zlO Tryd.prog { target:=.fn (.func 68) caps,args:=#[] }:=λ caps hc=>by
 match caps,hc with
 | ⟨[x,y]⟩,_ =>
 refine⟨.func 68,#[x,y],68,#[x,y],rfl,λ w=>?_,λ n w=>?_⟩
 ·have h : zas Tryd.prog 68 := ⟨_, rfl, rfl, by kernel_rfl⟩
  show (callFunc 68 (#[] ++ #[x,y])).run Tryd.prog w=_
  exact zbX h
 have key:CallsDIn { fn:=λ _=>True,depth:=none,alive:=false,round:=none } n Tryd.prog 68 #[x,y] .returning w λ e u' w'=>e=.returned (.tuple #[])/\u'=.returning/\w'=w:=by
  refine callsDIn_of_wpSIn Tryd.func68 rfl trivial λ c₀ cs hu=>?_
  apply wpSIn_seq
  apply wpSIn_region
  simp[wpOpsSIn,go_sem,recoverD,hu,Tryd.ntmps68,Exit.thenS]
  apply wpSIn_seq
  apply wpSIn_region
  simp[wpOpsSIn,go_sem,recoverD,hu,Tryd.ntmps68,Exit.thenS]
  refine wpSIn_cond (t:=false) (by simp[Act.eval,Array.replicate]) ?_
  simp only[Bool.false_eq_true,if_false]
  refine wpSIn_of_wpIn rfl (wpIn_skip ?_)
  cases c₀
  simp_all [bodyPostS,results,Tryd.results68]
 exact key.mono λ e u' w' h=>⟨⟨_,h.1⟩,h.2⟩
end Go.Pm
