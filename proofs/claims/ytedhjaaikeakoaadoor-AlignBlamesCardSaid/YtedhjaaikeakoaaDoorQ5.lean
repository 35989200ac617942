/- Part 5 of what the proof rests on: a machine that runs functions of the program on pure values, proved sound; the functions that the law reaches, and what they compute. -/
import Derived.Test.YtedhjaaikeakoaaDoorQ4
import Derived.Sort.OwnSortedInts
import Derived.Lib.SlicesCompact
import Derived.Test.YtedhjaaikeakoaaDoorProg
import Derived.ProofKit
import Derived.Deep.Slices
import Derived.OpenShut
import Derived.Shelf.SlIterI.Nil
import Derived.Shelf.SortM.Plain
import Derived.Shelf.SortM.SortNone
import Derived.Ground.GgzProg
import Derived.Ground.SlgmProg
import Derived.Tactics
import Derived.Tactics2
import Derived.Recover
import Derived.RecoverIn
import Derived.TacticsInMore
set_option linter.all false
namespace Go.Pm

structure Tabs where
  fn:List (Nat×(List PA->COut))
  own:List (Nat×OwnK)
  it:List (Nat×(List PA->Option (Prop×List (List PA))))
  mt:List (Nat×MK)
def zvq : List (Nat × (List PA → COut)) → Nat → List PA → COut
  | [],_=>λ _=>.no
  | (k,c) :: r,n=>match Nat.beq k n with | true=>c | false=>zvq r n
def zvr (l:List (Nat×OwnK)) (f:Nat):OwnK:=match lk l f with | some c=>c | none=>.none
def zEm (l:List (Nat×(List PA->Option (Prop×List (List PA))))) (f:Nat):List PA->Option (Prop×List (List PA)):=match lk l f with | some c=>c | none=>λ _=>none
def csm (T:Tabs) (memo:Nat->Int->List Int) (vv:Nat->Bool):Ctrs:=⟨zvq T.fn,zvr T.own,zEm T.it,memo,vv,lk T.mt⟩
abbrev cs (T:Tabs):Ctrs:=csm T (λ _ _=>[]) (λ _=>false)
def Tabs.nil:Tabs:=⟨[],[],[],[]⟩
def Tabs.addF (T:Tabs) (f:Nat) (c:List PA->COut):Tabs:=⟨(f,c) :: T.fn,T.own,T.it,T.mt⟩
def Tabs.addO (T:Tabs) (f:Nat) (c:OwnK):Tabs:=⟨T.fn,(f,c) :: T.own,T.it,T.mt⟩
def Tabs.addI (T:Tabs) (f:Nat) (c:List PA->Option (Prop×List (List PA))):Tabs:=⟨T.fn,T.own,(f,c) :: T.it,T.mt⟩
def Tabs.addM (T:Tabs) (f:Nat) (c:MK):Tabs:=⟨T.fn,T.own,T.it,(f,c) :: T.mt⟩

theorem zLq {P:Program}{f:Nat} : Ok P f (λ _=>.no):=λ _ _ h=>h.elim
theorem zLr {P:Program}{f:Nat} : zCk P f (λ _=>none):=λ _ _ _ h=>by cases h

structure TabsOk (P : Program) (T : Tabs) : Prop where
  fn:∀ x∈T.fn,Ok P x.1 x.2
  own:∀ x∈T.own,znT P x.1 x.2
  it:∀ x∈T.it,zCk P x.1 x.2
  mt:∀ x∈T.mt,zjx P x.1 x.2
theorem TabsOk.nil {P:Program} : TabsOk P .nil:=⟨λ _ h=>(by cases h),λ _ h=>(by cases h),λ _ h=>(by cases h),λ _ h=>(by cases h)⟩
theorem TabsOk.addF {P:Program}{T:Tabs}(h:TabsOk P T){f:Nat}{c:List PA->COut}(hc:Ok P f c):TabsOk P (T.addF f c) :=
 ⟨λ x hx=>(dqq.1 hx).elim (λ e=>by rw[e];exact hc) (λ hx=>h.fn x hx),h.own,h.it,h.mt⟩
theorem TabsOk.addO {P:Program}{T:Tabs}(h:TabsOk P T){f:Nat}{c:OwnK}(hc:znT P f c):TabsOk P (T.addO f c) :=
 ⟨h.fn,λ x hx=>(dqq.1 hx).elim (λ e=>by rw[e];exact hc) (λ hx=>h.own x hx),h.it,h.mt⟩
theorem TabsOk.addI {P:Program}{T:Tabs}(h:TabsOk P T){f:Nat}{c:List PA->Option (Prop×List (List PA))}(hc:zCk P f c):TabsOk P (T.addI f c) :=
 ⟨h.fn,h.own,λ x hx=>(dqq.1 hx).elim (λ e=>by rw[e];exact hc) (λ hx=>h.it x hx),h.mt⟩
theorem TabsOk.addM {P:Program}{T:Tabs}(h:TabsOk P T){f:Nat}{c:MK}(hc:zjx P f c):TabsOk P (T.addM f c) :=
 ⟨h.fn,h.own,h.it,λ x hx=>(dqq.1 hx).elim (λ e=>by rw[e];exact hc) (λ hx=>h.mt x hx)⟩
theorem TabsOk.all {P:Program}{T:Tabs}(h:TabsOk P T) (memo:Nat->Int->List Int) (vv:Nat->Bool):OkAll P (csm T memo vv):=by
 refine⟨λ f C hC=>h.mt _ (zbF hC),λ f=>?_,λ f=>?_,λ f=>?_⟩
 ·show Ok P f (zvq T.fn f)
  have key:∀ l:List (Nat×(List PA->COut)),(∀ x∈l,Ok P x.1 x.2)->Ok P f (zvq l f):=by
   intro l
   induction l with
   | nil=>intro _;exact zLq
   | cons x l ih =>
    intro hl
    obtain⟨k,c⟩:=x
    simp only[zvq]
    split
    ·rename_i e
     have:=hl (k,c) dqj
     rw[<- dqc e];exact this
    ·exact ih λ x hx=>hl x (dqf _ hx)
  exact key T.fn h.fn
 ·show znT P f (zvr T.own f)
  unfold zvr
  split
  ·rename_i c hc;exact h.own _ (zbF hc)
  ·trivial
 ·show zCk P f (zEm T.it f)
  unfold zEm
  split
  ·rename_i c hc;exact h.it _ (zbF hc)
  ·exact zLr

theorem zbl {P : Program} {T : Tabs} (hT : TabsOk P T) {f : FuncId} {C : List PA → COut} (hc : zar P f)
    (h:∀ args K,(C args).wp K->∃ memo vv ann,vcFun P (csm T memo vv) ann f args K):Ok P f C :=
  zA1 (hT.all (λ _ _=>[]) (λ _=>false)) hc h
theorem zEn {P : Program} {T : Tabs} (hT : TabsOk P T) {f : FuncId} {C : MK} (hc : zar P f)
    (h:∀ xs safe rs ys,C xs=some (safe,rs,ys)->safe->∀ K:List PA->List XA->Prop,K rs ys->∃ memo vv ann,zkO P (csm T memo vv) ann f xs K):zjx P f C :=
  zvp (hT.all (λ _ _=>[]) (λ _=>false)) hc h
theorem zIw {P : Program} {T : Tabs} (hT : TabsOk P T) {f : FuncId} {C : List PA → Option (Prop × List (List PA))} (hc : zar P f)
    (h:∀ l caps safe ys,C caps=some (safe,ys)->safe->∃ memo vv ann,vcIter P (csm T memo vv) ann f l caps ys):zCk P f C :=
  zA5 (hT.all (λ _ _=>[]) (λ _=>false)) hc h
structure Sl (α : Type) where
  len:Nat
  get:Nat->α
instance {α:Type} [Inhabited α]:Inhabited (Sl α):=⟨⟨0,λ _=>default⟩⟩
abbrev w64 (x:Int):Int:=IntKind.i64.wrap x

def IsE {α:Type}(enc:α->List PV) (size s:Nat) (g:Nat->List PV):Prop:=s=size/\∃ f:Nat->α,g=λ i=>enc (f i)
theorem isE {α:Type}{enc:α->List PV}{size:Nat}{f:Nat->α} : IsE enc size size (λ i=>enc (f i)):=⟨rfl,f,rfl⟩
theorem zvs {α:Type}{enc:α->List PV}{size:Nat}{x:α} : IsE enc size size (λ _=>enc x):=⟨rfl,λ _=>x,rfl⟩
def zc2 {α:Type}(n:Nat) (get new:Nat->α):Nat->α:=λ j=>match Nat.ble n j with | true=>new (j - n) | false=>get j
theorem zA9 {α:Type}{enc:α->List PV}{n:Nat}{f h:Nat->α} : appG n (λ i=>enc (f i)) (λ i=>enc (h i))=λ i=>enc (zc2 n f h i):=by
 funext j;simp only[appG,zc2];cases Nat.ble n j <;> rfl
def zpn {α : Type} (x : α) : List α → Nat → α
  | [],_=>x
  | y :: _,0=>y
  | _ :: r,i+1=>zpn x r i
theorem zr6 {α:Type}{enc:α->List PV}{x y:α}{r:List α} : zbu (enc x :: enc y :: r.map enc)=λ i=>enc (zpn x (x :: y :: r) i):=by
 have key:∀ (l:List α) (i:Nat),(match (l.map enc)[i]? with | some z=>z | none=>enc x)=enc (zpn x l i):=by
  intro l
  induction l with
  | nil=>intro i;rfl
  | cons a l ih =>
   intro i
   cases i with
   | zero=>rfl
   | succ i=>simpa [zpn] using ih i
 funext i
 exact key (x :: y :: r) i
theorem zeh {α:Type}{enc:α->List PV}{size:Nat}{x y:α}(r:List α):IsE enc size size (zbu (enc x :: enc y :: r.map enc)):=⟨rfl,_,zr6⟩

theorem ze9 {b:Bool}{A B:Prop}{S S':Bool}{α:Type}{K:α->Prop}{x y:α}(h1:S=true->K x->A) (h2:S'=true->K y->B) (hs:cond b S S'=true) (hk:K (cond b x y)):zdq b A B:=by
 cases b
 ·exact h2 hs hk
 ·exact h1 hs hk
theorem zhC {b:Bool}{A B:Prop}{S S':Bool}{α β:Type}{f:α->β}{ys:List β}{x y:List α}(hs:cond b S S'=true) (hk:ys=(cond b x y).map f) (h1:S=true->ys=x.map f->A) (h2:S'=true->ys=y.map f->B):zdq b A B:=by
 cases b
 ·exact h2 hs hk
 ·exact h1 hs hk
theorem itY {α β:Type}{f:α->β}{ys:List β}{p:β}{x r:List α}{l:Nat}{A:List β->Prop}(hk:ys=x.map f) (e:x.map f=p :: r.map f) (h:∀ zs,zs=r.map f->A zs):l=l/\∃ z,ys=p :: z/\A z/\True :=
 ⟨rfl,_,hk.trans e,h _ rfl,trivial⟩
theorem zaN {C A:Prop} [d:Decidable C] {r:Bool}(hs:(decide C && r)=true) (k:C->r=true->A):A:=by
 rw[dqm] at hs
 exact k (of_decide_eq_true hs.1) hs.2
abbrev Fuel:Nat:=9223372036854775808
def setT {α:Type}(i:Nat) (v:α) (get:Nat->α):Nat->α:=λ j=>match Nat.beq j i with | true=>v | false=>get j
theorem zgJ {α:Type}{enc:α->List PV}{n:Nat}{g g':Nat->List PV}{f h:Nat->α}(h1:g=λ i=>enc (f i)) (h2:g'=λ i=>enc (h i)):appG n g g'=λ i=>enc (zc2 n f h i):=by
 subst h1;subst h2;exact zA9
theorem zhD {α:Type}{enc:α->List PV}{i k:Nat}{g:Nat->List PV}{f:Nat->α}{new:List PV}{v:α}(h1:g=λ i=>enc (f i)) (h2:spl (enc (f i)) k new=enc v):zpe i k g new=λ j=>enc (setT i v f j):=by
 subst h1
 funext j
 simp only[zpe,setT]
 cases e:Nat.beq j i
 ·rfl
 ·have := dqc e
  subst this;exact h2
def zLs (P:Program) (G:Ctrs) (ann:Ann) (hd:Nat) (ps:List Nat) (assign body:Code) (X:List (List PA)->St->Prop) (K:Exit->St->Prop) (y:List PA) (rest:List (List PA)) (s:St):Prop :=
 match lk ann.head hd with
 | some k=>match zhp ps y s.env with
  | some env=>vc P G ann assign (zAn (vc P G ann body (zlF P k (X rest) K)) λ _ _=>False) ⟨env,s.objs,[]⟩
  | none=>False
 | none=>False
end Go.Pm
namespace Go.Pm
open Go Go.Sort

/-! Nil slices are slices of length 0. -/
inductive PVle : PV → PV → Prop
  | rfl (p:PV):PVle p p
  | nil (s:Nat) (g:Nat->List PV):PVle .nils (.sl 0 s g)
  | nilm (q:MQ):PVle .nilm (.fm q 0 (λ _=>none))
inductive PAle : PA → PA → Prop
  | one {p q:PV} : PVle p q->PAle (.one p) (.one q)
  | agg {l m:List PV} : RL PVle l m->PAle (.agg l) (.agg m)
theorem zm0 {α β:Type}{R:α->β->Prop} : RL R [] []:=trivial
theorem zgK {α β:Type}{R:α->β->Prop}{a:α}{b:β}{l:List α}{m:List β}(h:R a b) (h':RL R l m):RL R (a :: l) (b :: m):=⟨h,h'⟩
theorem zfq {α : Type} {R : α → α → Prop} (h : ∀ a, R a a) : ∀ l : List α, RL R l l
  | []=>trivial
  | a :: l=>⟨h a,zfq h l⟩
theorem zfG (a:PA):PAle a a:=by
 cases a with
 | one p=>exact .one (.rfl p)
 | agg l=>exact .agg (zfq .rfl l)
def Wk (K:List PA->Prop) (l:List PA):Prop:=∃ l',RL PAle l l'/\K l'
theorem wk {K:List PA->Prop}{l l':List PA}(hk:K l') (h:RL PAle l l'):Wk K l:=⟨l',h,hk⟩
theorem zfH {K:List PA->Prop}{l:List PA}(hk:K l):Wk K l:=⟨l,zfq zfG l,hk⟩
theorem zIx {h:Fz}{p q:PV}{v:Value}(e:PVle p q) (r:Rep h p v):Rep h q v:=by
 cases e with
 | rfl=>exact r
 | nil s g=>cases r;exact .sl0 s g
 | nilm q=>cases r;exact .fmn q _ (λ _ _=>rfl)
theorem zvt {α β γ : Type} {R : α → β → Prop} {S : α → γ → Prop} {T : γ → β → Prop} (h : ∀ a b c, S a c → R a b → T c b) : ∀ (l : List α) (m : List β) (k : List γ), RL S l k → RL R l m → RL T k m
  | [],[],[],_,_=>trivial
  | a :: l,b :: m,c :: k,hs,hr=>⟨h a b c hs.1 hr.1,zvt h l m k hs.2 hr.2⟩
  | [],_ :: _,[],_,hr=>hr.elim
  | [],_,_ :: _,hs,_=>hs.elim
  | _ :: _,_,[],hs,_=>hs.elim
  | _ :: _,[],_ :: _,_,hr=>hr.elim
theorem zBa {h:Fz}{a b:PA}{v:Value}(e:PAle a b) (r:paR h a v):paR h b v:=by
 cases e with
 | one e=>exact zIx e r
 | agg e =>
  obtain⟨vs,rfl,hv⟩:=r
  exact⟨vs,rfl,zvt (R:=Rep h) (S:=PVle) (T:=Rep h) (λ _ _ _ e r=>zIx e r) _ _ _ e hv⟩
theorem zvu {h:Fz}{l m:List PA}{v:Value}(e:RL PAle l m) (r:zmq h l v):zmq h m v:=by
 match l,m,e,r with
 | [a],[b],e,r=>exact zBa e.1 r
 | [],[],_,r=>exact r
 | a :: b :: l,c :: d :: m,e,r =>
  obtain⟨vs,hv,hr⟩:=r
  exact⟨vs,hv,zvt (R:=paR h) (S:=PAle) (T:=paR h) (λ _ _ _ e r=>zBa e r) _ _ _ e hr⟩
 | [_],_ :: _ :: _,e,_=>exact e.2.elim
 | _ :: _ :: _,[_],e,_=>exact e.2.elim
 | [],_ :: _,e,_=>exact e.elim
 | _ :: _,[],e,_=>exact e.elim
theorem zg1 {P : Program} {T : Tabs} (hT : TabsOk P T) {f : FuncId} {C : List PA → COut} (hc : zar P f)
    (h:∀ args K,(C args).wp K->∃ args',RL PAle args args'/\∃ memo vv ann,vcFun P (csm T memo vv) ann f args' (Wk K)):Ok P f C:=by
  intro args K hK w h0 vs hvs hfz hgl
  obtain⟨args',hle,memo,vv,ann,hv⟩:=h args K hK
  refine⟨hc,(zvi (hT.all memo vv) hv (zvt (R:=paR h0) (S:=PAle) (T:=paR h0) (λ _ _ _ e r=>zBa e r) _ _ _ hle hvs) hfz hgl).mono ?_⟩
  rintro e w' ⟨h',rs,v,⟨rs',hr,hk⟩,he,hres,rest⟩
  exact⟨h',rs',v,hk,he,zvu hr hres,rest⟩
theorem zBb {P : Program} {T : Tabs} (hT : TabsOk P T) {f : FuncId} {C : MK} (hc : zar P f)
    (h:∀ xs safe rs ys,C xs=some (safe,rs,ys)->safe->∀ K:List PA->List XA->Prop,K rs ys->∃ memo vv ann,zkO P (csm T memo vv) ann f xs (λ a b=>Wk (λ a'=>K a' b) a)):zjx P f C:=by
  intro xs ys safe rs hC hs w h0 base vs hvs hn hK hw hgl hB
  obtain⟨memo,vv,ann,hv⟩:=h xs safe rs ys hC hs (λ l zs=>l=rs/\zs=ys) ⟨rfl,rfl⟩
  refine⟨hc,(zvo (hT.all memo vv) hv hvs hn hK hw hgl hB).mono ?_⟩
  rintro e w' ⟨h',v,rs',ys',⟨rs2,hr,rfl,rfl⟩,he,hres,r⟩
  exact⟨h',v,he,zvu hr hres,r⟩
def WkM (K:List PA×List XA->Prop) (p:List PA×List XA):Prop:=Wk (λ a=>K (a,p.2)) p.1
theorem wkM {K:List PA×List XA->Prop}{l l':List PA}{b:List XA}(hk:K (l',b)) (h:RL PAle l l'):WkM K (l,b):=⟨l',h,hk⟩
theorem zvv {K:List PA×List XA->Prop}{p:List PA×List XA}(hk:K p):WkM K p:=⟨p.1,zfq zfG p.1,hk⟩
/-! Maps, as typed zNu; the keys of a map. -/
structure Mp where
  n:Nat
  F:List Int->Option (List Int)
instance:Inhabited Mp:=⟨⟨0,λ _=>none⟩⟩

def nodupB : List (List Int) → Bool
  | []=>true
  | y :: r=>!r.contains y && nodupB r
def keysB (m n:Nat) (F:List Int->Option (List Int)) (ys:List (List Int)):Bool :=
 Nat.beq ys.length n && ys.all (λ y=>Nat.beq y.length m && (F y).isSome) && nodupB ys
end Go.Pm
namespace Go.Pm

abbrev zI (x:Int):DV:=.one (.c (.p (.int .i64 x)))
abbrev zB (x:Bool):DV:=.one (.c (.p (.bool x)))
abbrev zP (x:PV):DV:=.one (.c (.p x))
abbrev zp (L k:Nat):DV:=.one (.c (.ptr L k))
abbrev zv (L:Nat):DV:=.one (.c (.vec L))
abbrev zs {α:Type}(enc:α->List PV) (s:Nat) (x:Sl α):PV:=.sl x.len s (λ i=>enc (x.get i))
abbrev zS {α:Type}(enc:α->List PV) (s:Nat) (x:Sl α):DV:=zP (zs enc s x)
abbrev zm (l:List PV):List Cl:=l.map Cl.p
abbrev zi (x:Int):Cl:=.p (.int .i64 x)
abbrev zg {α:Type}(enc:α->List PV) (x:Sl α):Nat->List PV:=λ i=>enc (x.get i)
abbrev zK (a b:List Nat):Keep:=⟨a,b,[],[],[],[],[]⟩
theorem zE {α:Type}(enc:α->List PV) (size:Nat) (f:Nat->α):IsE enc size size (λ i=>enc (f i)):=⟨rfl,f,rfl⟩

theorem zvw {α : Type} : ∀ (new l pre : List α), l.length = new.length → spl (pre ++ l) pre.length new = pre ++ new
  | [],l,pre,h=>by
    have:l=[]:=List.eq_nil_of_length_eq_zero h
    subst this;rfl
  | x :: r,[],pre,h=>by simp at h
  | x :: r,y :: l,pre,h=>by
    have e:=zvw r l (pre ++ [x]) (by simpa using h)
    simp only[spl,List.append_assoc,List.singleton_append,dqu,List.length_singleton] at e ⊢
    rw[List.set_append_right _ _ (dqt _),Nat.sub_self,List.set_cons_zero]
    exact e
theorem zm1 {n:Nat}{F G:Nat->Int} : spl (zhj 0 n F) 0 (zhj 0 n G)=zhj 0 n G:=by
 have h:=zvw (zhj 0 n G) (zhj 0 n F) [] (by rw[zeY,zeY])
 simpa using h
theorem zhE {n:Nat}{F:Nat->Int} : zhj 0 n F=zhj 0 n (zlB (zm (zhj 0 n F))):=by
 refine List.ext_getElem? λ k=>?_
 by_cases hk:k < n
 ·rw [zgh n 0 F k hk, zgh n 0 _ k hk, Nat.zero_add]
  congr 2
  have h:(zm (zhj 0 n F))[k]? = some (.p (.int .i64 (F k))):=by
   rw[zm,dqH,zgh n 0 F k hk,Nat.zero_add];rfl
  unfold zlB
  rw[h]
 ·rw[dqM (by rw[zeY];omega),dqM (by rw[zeY];omega)]

@[reducible] def lpO {A : Type} (d : A) (st : A → A) : Nat → A
  | 0=>d
  | k+1=>st (lpO d st k)
theorem zeu {A B : Type} (a : A) (b : B) (p : A → A) (s : B → B) (M : A → B → Prop) (h0 : M a b) (h1 : ∀ P S, M P S → M (p P) (s S)) : ∀ k, M (lpO a p k) (lpO b s k)
  | 0=>h0
  | k+1=>h1 _ _ (zeu a b p s M h0 h1 k)
def xcm (l:List PV):List XC:=l.map .p
def unX : List XC → List PV
  | []=>[]
  | .p v :: r=>v :: unX r
  | _ :: r=>.nilp :: unX r
theorem zvx : ∀ l : List PV, unX (xcm l) = l
  | []=>rfl
  | v :: r=>by show v :: unX (xcm r)=v :: r;rw[zvx r]
theorem zEo {n:Nat}{F:Nat->Int} : xcm (zhj 0 n F)=xcm (zhj 0 n (zlB (zm (unX (xcm (zhj 0 n F)))))):=by
 rw[zvx,<- zhE]

section
variable (P:Program) (Γ:Ctrs) (ann:Ann)
def pt : Code → (Exit → St → Prop) → List Nat → List (St → Prop) → St → Prop
  | .seq a b,K,i :: r,X=>match i with | 0=>pt a (sqK P Γ ann b K) r X | _=>pt b K r X
  | .cond _ a b,K,i :: r,X=>match i with | 0=>pt a K r X | _=>pt b K r X
  | .block id b,K,_ :: r,X=>pt b (zfn id K) r X
  | .loop b,K,_ :: r,x :: X=>pt b (ztc P ann (zlp b) x K) r X
  | .scope b,K,_ :: r,X=>pt b (zt0 K) r X
  | c,K,_,_=>vc P Γ ann c K
def ptF (fn:Func) (K:List PA->Prop) (l:List Nat) (X:List (St->Prop)):St->Prop :=
 match fn.body with
 | some c=>pt P Γ ann c (znP P fn K) l X
 | none=>λ _=>False
end

section
variable (P:Program) (Γ:Ctrs) (ann:Ann)
def ptR : Code → (Exit → St → Prop) → List Nat → List (St → Prop) → Code × (Exit → St → Prop)
  | .seq a b,K,i :: r,X=>match i with | 0=>ptR a (sqK P Γ ann b K) r X | _=>ptR b K r X
  | .cond _ a b,K,i :: r,X=>match i with | 0=>ptR a K r X | _=>ptR b K r X
  | .block id b,K,_ :: r,X=>ptR b (zfn id K) r X
  | .loop b,K,_ :: r,x :: X=>ptR b (ztc P ann (zlp b) x K) r X
  | .scope b,K,_ :: r,X=>ptR b (zt0 K) r X
  | c,K,_,_=>(c,K)
def exF (fn:Func) (K:List PA->Prop) (l:List Nat) (X:List (St->Prop)) (s:St):Prop :=
 match fn.body with
 | some c=>(ptR P Γ ann c (znP P fn K) l X).2 .normal s
 | none=>False
def rnF (fn:Func) (K:List PA->Prop) (l:List Nat) (X:List (St->Prop)) (Y:List (List PA)->St->Prop) (y:List PA) (rest:List (List PA)) (s:St):Prop :=
 match fn.body with
 | some c=>match (ptR P Γ ann c (znP P fn K) l X).1 with
  | .rangeFunc _ ps a b=>zLs P Γ ann (zMW a b) ps.toList a b Y (ptR P Γ ann c (znP P fn K) l X).2 y rest s
  | _=>False
 | none=>False
end
@[reducible] def lpR {A Y : Type} (a : A) (st : Y → A → A) : List Y → A
  | []=>a
  | y :: r=>st y (lpR a st r)
theorem zri {Y A B : Type} {enc : Y → List PA} {X : List (List PA) → St → Prop} (pe : B) (se : A) (ps : Y → B → B) (ss : Y → A → A) (M : (St → Prop) → B → A → Prop) (h0 : M (X []) pe se)
    (h1:∀ y rest P S,M (X rest) P S->M (X (enc y :: rest)) (ps y P) (ss y S)):∀ l:List Y,M (X (l.map enc)) (lpR pe ps l) (lpR se ss l)
  | []=>h0
  | y :: r=>h1 y (r.map enc) _ _ (zri pe se ps ss M h0 h1 r)
theorem zr {at_ sf : Prop} {Y : Type} {enc : Y → List PA} {ys : List Y} {g : St} (Ex : St → Prop) (Rn : (List (List PA) → St → Prop) → List PA → List (List PA) → St → Prop)
    (e:at_=(sf/\∀ X:List (List PA)->St->Prop,(∀ s,Ex s->X [] s)->(∀ y rest s,Rn X y rest s->X (y :: rest) s)->X (ys.map enc) g)) (hs:sf)
    (h:∀ X:List (List PA)->St->Prop,(∀ s,Ex s->X [] s)->(∀ y rest s,Rn X y rest s->X (y :: rest) s)->X (ys.map enc) g):at_:=e ▸ ⟨hs,h⟩

theorem zc {b:Bool}{A B:Prop}{S S':Bool}{α:Type}{e:α->List PA}{K:List PA->Prop}{x y:α}(hs:cond b S S'=true) (hk:K (e (cond b x y))) (h1:S=true->K (e x)->A) (h2:S'=true->K (e y)->B):zdq b A B:=by
 cases b
 ·exact h2 hs hk
 ·exact h1 hs hk
theorem zt {b:Bool}{A B:Prop}{α:Type}{e:α->List PA}{K:List PA->Prop}{x y:α}(hk:K (e (cond b x y))) (h1:K (e x)->A) (h2:K (e y)->B):zdq b A B:=by
 cases b
 ·exact h2 hk
 ·exact h1 hk
theorem zIy {b:Bool}{s:Prop}{r1 r2:List PA}{K:List PA->Prop}(h:(COut.alt b s r1 s r2).wp K):s/\K (cond b r1 r2):=by
 cases b
 ·exact h.2 rfl
 ·exact h.1 rfl
theorem zNx {α:Type}{enc:α->List PV}{n s:Nat}{g:Nat->List PV}{t:Nat->α}(h:g=λ i=>enc (t i)):(λ _:Nat=>[PV.sl n s g])=λ _=>[PV.sl n s (λ i=>enc (t i))]:=by rw[h]
theorem zl {at_:Prop}{g:St}(B:(St->Prop)->St->Prop) (e:at_ = ∀ X:St->Prop,(∀ s,B X s->X s)->X g) (h:∀ X:St->Prop,(∀ s,B X s->X s)->X g):at_:=e ▸ h
end Go.Pm
namespace Go.Proofs
open Go Go.Pm
set_option maxRecDepth 100000
set_option linter.unusedVariables false
attribute [local irreducible] Go.Pm.vcFun Go.Pm.vc Go.Pm.vcIter
abbrev Tab:=Nat->Int
def tg (n:Nat) (F:Tab) (k:Nat):Int:=zlB (zm (zhj 0 n F)) k
def ts (n:Nat) (F:Tab) (k:Nat) (vs:List Int):Tab:=zCf k vs (zlB (zm (zhj 0 n F)))
abbrev zac (x:Int):List PV:=[.int .i64 x]
def zLt : List PV → Int
  | [.int .i64 x]=>x
  | _=>default
def zaw (g:Nat->List PV):Nat->Int:=λ i=>zLt (g i)
theorem zbr (f:Nat->Int):zaw (λ i=>zac (f i))=f:=rfl
structure Tie where
  From:Int
  To:Int
  Low:Int
  High:Int
deriving Inhabited
abbrev enc_40 (x:Tie):List PV:=[.int .i64 x.From,.int .i64 x.To,.int .i64 x.Low,.int .i64 x.High]
def zIz : List PV → Tie
  | [.int .i64 x_From,.int .i64 x_To,.int .i64 x_Low,.int .i64 x_High]=>(⟨x_From,x_To,x_Low,x_High⟩:Tie)
  | _=>default
def zam (g:Nat->List PV):Nat->Tie:=λ i=>zIz (g i)
theorem zan (f:Nat->Tie):zam (λ i=>enc_40 (f i))=f:=rfl
abbrev zIA (x:(Sl Tie)):List PV:=[.sl x.len 4 (λ i=>enc_40 (x.get i))]
structure Net where
  Nodes:Int
  Ties:(Sl Tie)
deriving Inhabited
abbrev enc_24 (x:Net):List PV:=[.int .i64 x.Nodes,.sl x.Ties.len 4 (λ i=>enc_40 (x.Ties.get i))]
abbrev za6 (x:(Sl Int)):List PV:=[.sl x.len 1 (λ i=>zac (x.get i))]
def zIB : List PV → (Sl Int)
  | [.sl x_n _ x_g]=>(⟨x_n,zaw x_g⟩:(Sl Int))
  | _=>default
def zm2 (g:Nat->List PV):Nat->(Sl Int):=λ i=>zIB (g i)
theorem zkS (f:Nat->(Sl Int)):zm2 (λ i=>za6 (f i))=f:=rfl
structure Span where
  Low:Int
  High:Int
deriving Inhabited
abbrev zbv (x:Span):List PV:=[.int .i64 x.Low,.int .i64 x.High]
def zIC : List PV → Span
  | [.int .i64 x_Low,.int .i64 x_High]=>(⟨x_Low,x_High⟩:Span)
  | _=>default
def zfI (g:Nat->List PV):Nat->Span:=λ i=>zIC (g i)
theorem zfa (f:Nat->Span):zfI (λ i=>zbv (f i))=f:=rfl
structure Pulse where
  A:Int
  B:Int
  TimeA:Int
  TimeB:Int
  Flight:Span
  Jitter:Int
deriving Inhabited
structure Use where
  Tie:Int
  Back:Bool
deriving Inhabited
abbrev zaR (x:Use):List PV:=[.int .i64 x.Tie,.bool x.Back]
def zID : List PV → Use
  | [.int .i64 x_Tie,.bool x_Back]=>(⟨x_Tie,x_Back⟩:Use)
  | _=>default
def zc3 (g:Nat->List PV):Nat->Use:=λ i=>zID (g i)
theorem zc4 (f:Nat->Use):zc3 (λ i=>zaR (f i))=f:=rfl
structure Flash where
  A:Int
  B:Int
  Time:Int
  Flight:Int
  Wrong:Int
deriving Inhabited
structure web where
  Net:Net
  out:Mp
deriving Inhabited
abbrev zaB (x:web):List PV:=[.int .i64 x.Net.Nodes,.sl x.Net.Ties.len 4 (λ i=>enc_40 (x.Net.Ties.get i)),.fm (false,1,false,[none]) x.out.n x.out.F]
structure far where
  length:Int
  uses:Int
deriving Inhabited
abbrev zb6 (x:far):List PV:=[.int .i64 x.length,.int .i64 x.uses]
def zEp : List PV → far
  | [.int .i64 x_length,.int .i64 x_uses]=>(⟨x_length,x_uses⟩:far)
  | _=>default
def zjL (g:Nat->List PV):Nat->far:=λ i=>zEp (g i)
theorem zjj (f:Nat->far):zjL (λ i=>zb6 (f i))=f:=rfl
abbrev zal (x:Tab):List PV:=zhj 0 80 x
def zaF (l:List PV):Tab:=zlB (zm l)
structure Step where
  From:Int
  To:Int
  Length:Int
  Use:Use
deriving Inhabited
abbrev zdt (x:Step):List PV:=[.int .i64 x.From,.int .i64 x.To,.int .i64 x.Length,.int .i64 x.Use.Tie,.bool x.Use.Back]
structure step where
  Use:Use
  from_:Int
  to:Int
  length:Int
deriving Inhabited
abbrev zaD (x:step):List PV:=[.int .i64 x.Use.Tie,.bool x.Use.Back,.int .i64 x.from_,.int .i64 x.to,.int .i64 x.length]
def zEq : List PV → step
  | [.int .i64 x_Use_Tie,.bool x_Use_Back,.int .i64 x_from_,.int .i64 x_to,.int .i64 x_length]=>(⟨(⟨x_Use_Tie,x_Use_Back⟩:Use),x_from_,x_to,x_length⟩:step)
  | _=>default
def zhF (g:Nat->List PV):Nat->step:=λ i=>zEq (g i)
theorem zei (f:Nat->step):zhF (λ i=>zaD (f i))=f:=rfl
structure tie where
  Tie:Tie
  index:Int
deriving Inhabited
abbrev zvy (x:tie):List PV:=[.int .i64 x.Tie.From,.int .i64 x.Tie.To,.int .i64 x.Tie.Low,.int .i64 x.Tie.High,.int .i64 x.index]
abbrev zvz (x:Tab):List PV:=zhj 0 40 x
abbrev zcH (x:(Sl Tab)):List PV:=[.sl x.len 80 (λ i=>zal (x.get i))]
abbrev tL (T:Tab) (i:Int):Int:=tg 80 T (0+i.toNat * 2+0)
abbrev tU (T:Tab) (i:Int):Int:=tg 80 T (0+i.toNat * 2+0+1)
abbrev tV (T:Tab) (i:Int):Int:=tg 80 T (0+i.toNat * 2+1)
abbrev nvr (x y:Int):Bool:=match (x == (1000000000000:Int)) with | true=>(match (y == (0:Int)) with | true=>true | false=>false) | false=>false
end Go.Proofs
namespace Go.Pm
open Go Go.Deep

theorem zBc (b o i j:Nat):((⟨b,o,none⟩:Addr).add i).add j=⟨b,o+i+j,none⟩:=by
 simp only[Addr.add]
 by_cases h1:i=0
 ·subst h1
  by_cases h2:j=0
  ·subst h2;rfl
  ·rw[if_neg h2];rfl
 ·rw [if_neg h1]
  by_cases h2:j=0
  ·subst h2;rfl
  ·rw[if_neg h2]
def H0 (w:World):Fz:=λ b=>(w.heap[b]?).map .fz
theorem hw_H0 (w:World):Hw (H0 w) w:=by
 intro b x h
 unfold H0 at h
 cases e:w.heap[b]? with
 | none=>rw[e] at h;cases h
 | some o=>rw[e] at h;cases h;exact⟨o,rfl,rfl⟩
def wfI (x:Int):Prop:=-9223372036854775808<=x/\x<=9223372036854775807
section
variable {H:Type}{en:TypeId×Value->H}{P:Program}{w:World}{sp:Nat->Bool}{held:Bool}
def Rd (H:Type) (en:TypeId×Value->H) (P:Program) (w:World) (sp:Nat->Bool) (held:Bool) (t:TypeId){α:Type}(enc:α->List PV) (wf:α->Prop):Prop :=
 ∀ (fuel:Nat) (cs:List Value) (x:DataW H×List MemPlace),DataW.trod en P w 0 sp held fuel t cs=some x->∃ a:α,RL (Rep (H0 w)) (enc a) cs/\wf a
theorem zIE {t:TypeId}(ht:P.underlying t=some (.int .i64)):Rd H en P w sp held t (λ x=>[.int .i64 x]) wfI:=by
 intro fuel cs x h
 obtain⟨n,rfl,_,hw⟩:=DataW.trod_int ht h
 refine⟨n,⟨.int _ _,trivial⟩,?_⟩
 simp only[Lit.wf,dqm,decide_eq_true_eq] at hw
 exact⟨hw.1,hw.2⟩
theorem zoB {t : TypeId} {fs : Array Field} (ht : P.underlying t = some (.struct fs)) {fuel : Nat} {cs : List Value} {x : DataW H × List MemPlace} (h : DataW.trod en P w 0 sp held fuel t cs = some x) :
  cs.length=P.cellsOf t/\∀ (i:Nat) (f:Field),fs[i]? = some f->∃ n y,DataW.trod en P w 0 sp held n f.type ((cs.drop f.offset).take (P.cellsOf f.type))=some y:=by
 obtain⟨xs,n,_,_,hl,hx,hf⟩:=DataW.trod_struct ht h
 refine⟨hl,λ i f hi=>?_⟩
 have hlt:i < xs.length:=by rw[hx];exact (dqp.1 hi).1
 exact⟨n,xs[i],by rw[hf i f hi,dqD hlt]⟩
theorem zBd {t e : TypeId} {α : Type} [Inhabited α] {enc : α → List PV} {wf : α → Prop} {s : Nat} (ht : P.underlying t = some (.slice e)) (hc : P.cellsOf e = s) (hs : 0 < s) (hlen : ∀ a, (enc a).length = s)
    (hel:Rd H en P w sp held e enc wf):Rd H en P w sp held t (λ x:Sl α=>[.sl x.len s (λ i=>enc (x.get i))]) (λ x=>x.len<=9223372036854775807/\∀ i,i < x.len->wf (x.get i)):=by
  intro fuel cs x h
  rcases open_slice ht h with ⟨rfl,_⟩ | ⟨a,len,cap,m,n,D,Pl,rfl,_,hl,hm,hmm,_,hget⟩
  · exact⟨⟨0,default⟩,⟨.sl0 _ _,trivial⟩,Nat.zero_le _,λ i hi=>absurd hi (dqW i)⟩
  · by_cases h0 : len = 0
    · subst h0
      exact⟨⟨0,default⟩,⟨.sle _ _ _ _,trivial⟩,Nat.zero_le _,λ i hi=>absurd hi (dqW i)⟩
    · have hlm : len ≤ m := by rw [hmm]; split <;> omega
      rw[hc] at hget
      have hex:∀ i,i < len->∃ y:α,(∃ cs',w.cells? 0 (a.add (i * s)) s=some cs'/\RL (Rep (H0 w)) (enc y) cs')/\wf y:=by
        intro i hi
        obtain⟨cs',h1,h2⟩:=hget i (by omega)
        obtain⟨y,h3,h4⟩:=hel _ _ _ h2
        exact⟨y,⟨cs',h1,h3⟩,h4⟩
      have hch:∃ f:Nat->α,∀ i,i < len->(∃ cs',w.cells? 0 (a.add (i * s)) s=some cs'/\RL (Rep (H0 w)) (enc (f i)) cs')/\wf (f i):=by
        refine⟨λ i=>if hi:i < len then Classical.choose (hex i hi) else default,λ i hi=>?_⟩
        simp only[dif_pos hi]
        exact Classical.choose_spec (hex i hi)
      obtain⟨f,hf⟩:=hch
      -- the block
      have hcell:∀ i,i < len->∀ j,j < s->∃ cs',w.cells? 0 (a.add (i * s)) s=some cs'/\RL (Rep (H0 w)) (enc (f i)) cs'/\w.cell? ((a.add (i * s)).add j)=cs'[j]?/\cs'.length=s:=by
        intro i hi j hj
        obtain⟨⟨cs',h1,h2⟩,_⟩:=hf i hi
        obtain⟨_,h3,h4⟩:=World.cells?_some h1
        exact⟨cs',h1,h2,h4 j hj,h3⟩
      obtain⟨cs0,_,_,hc0,hl0⟩:=hcell 0 (by omega) 0 hs
      have ha0:w.cell? a=cs0[0]?:=by simpa [Addr.add] using hc0
      rw[dqD (by omega)] at ha0
      obtain⟨C,ty,fr,hblk,hspot⟩:∃ C ty fr,w.heap[a.block]? = some (.cells C ty fr)/\a.spot=none:=by
        unfold World.cell? at ha0
        split at ha0
        · rename_i C ty fr hb
          refine⟨C,ty,fr,hb,?_⟩
          cases hsp:a.spot with
          | none=>rfl
          | some k=>rw[hsp] at ha0;simp at ha0
        · cases ha0
      have ea:a=⟨a.block,a.off,none⟩:=by rw[<- hspot]
      have hat:∀ i j,i < len->j < s->∃ cs',RL (Rep (H0 w)) (enc (f i)) cs'/\C[a.off+i * s+j]? = cs'[j]?/\cs'.length=s:=by
        intro i j hi hj
        obtain⟨cs',_,h2,h3,h4⟩:=hcell i hi j hj
        refine⟨cs',h2,?_,h4⟩
        rw[<- h3]
        have e2:(a.add (i * s)).add j=⟨a.block,a.off+i * s+j,none⟩:=(congrArg (λ z:Addr=>(z.add (i * s)).add j) ea).trans (zBc _ _ _ _)
        rw[e2]
        simp[World.cell?,hblk]
      refine⟨⟨len,f⟩,⟨?_,trivial⟩,by simp only[maxLen] at hm;show len<=_;omega,λ i hi=>(hf i hi).2⟩
      rw[ea]
      refine .sl len s _ a.block a.off cap C ty fr (λ i j=>C.getD (a.off+i * s+j) undef) (by simp[H0,hblk]) hl (λ i _=>hlen _) ?_ ?_
      · intro i j x hi hx
        have hj:j < s:=by have:=(dqn.1 hx).1;rw[hlen] at this;exact this
        obtain⟨cs',h1,h2,h3⟩:=hat i j hi hj
        rw[dql,h2,dqD (by omega)]
        rfl
      · intro i j x hi hx
        have hj:j < s:=by have:=(dqn.1 hx).1;rw[hlen] at this;exact this
        obtain⟨cs',h1,h2,h3⟩:=hat i j hi hj
        obtain⟨v,hv,hr⟩:=h1.get j x hx
        rw[dql,h2,hv]
        exact hr
theorem zdO {α:Type}(l:List α) (o s:Nat):l.drop o=(l.drop o).take s ++ l.drop (o+s):=by
 rw[<- List.drop_drop]
 exact (List.take_append_drop s (l.drop o)).symm
theorem okWide_agg {t:TypeId}{fs:Array Field}{r:Reach}{base:Nat}{v:Value}(ht:P.underlying t=some (.struct fs)) (h:Value.okWide P w r base t v):∃ cs,v=.agg cs:=by
 unfold Value.okWide at h
 rw[ht] at h
 obtain⟨cs,hv,_⟩:=h
 exact⟨cs,hv⟩
theorem pa_agg {h:Fz}{l:List PV}{v:Value}(hv:∃ cs,v=.agg cs) (r:RL (Rep h) l v.cells.toList):paR h (.agg l) v:=by
 obtain⟨cs,rfl⟩:=hv
 exact⟨cs.toList,by simp,r⟩
theorem below_H0 {w':World}(b:Bel (H0 w) w.heap.size w w'):Go.RowKit.Below w.heap.size w w' :=
 ⟨b.os,b.tape,b.output,b.size,λ k hk=>b.block k hk λ F e=>by
  unfold H0 at e
  cases hb:w.heap[k]? <;> rw[hb] at e <;> cases e⟩
end
end Go.Pm
namespace Go.Proofs
open Go Go.Pm
set_option maxRecDepth 100000
set_option linter.unusedVariables false
attribute [local irreducible] Go.Pm.vcFun Go.Pm.vc Go.Pm.vcIter
theorem C_3:Tryd.prog.cellsOf 3=1:=by kernel_rfl
theorem zNy:Tryd.prog.cellsOf 22=1:=by kernel_rfl
theorem zNz:Tryd.prog.cellsOf 24=2:=by kernel_rfl
theorem zM1:Tryd.prog.cellsOf 40=4:=by kernel_rfl
abbrev zHQ (x:Int):Prop:=wfI x
theorem zIF {H:Type}{en:TypeId×Value->H}{w:World}{sp:Nat->Bool}{held:Bool} : Rd H en Tryd.prog w sp held 3 zac zHQ:=zIE Tryd.underlying3
def zIG (x:Tie):Prop:=zHQ x.From/\zHQ x.To/\zHQ x.Low/\zHQ x.High
theorem zLu {H:Type}{en:TypeId×Value->H}{w:World}{sp:Nat->Bool}{held:Bool} : Rd H en Tryd.prog w sp held 40 enc_40 zIG:=by
  intro fuel cs x h
  obtain⟨hl,hf⟩:=zoB Tryd.underlying40 h
  rw[zM1] at hl
  obtain⟨n0,y0,g0⟩:=hf 0 _ rfl
  have g0:DataW.trod en Tryd.prog w 0 sp held n0 3 ((cs.drop 0).take (Tryd.prog.cellsOf 3))=some y0:=g0
  rw[C_3] at g0
  obtain⟨a0,r0,w0⟩:=zIF _ _ _ g0
  obtain⟨n1,y1,g1⟩:=hf 1 _ rfl
  have g1:DataW.trod en Tryd.prog w 0 sp held n1 3 ((cs.drop 1).take (Tryd.prog.cellsOf 3))=some y1:=g1
  rw[C_3] at g1
  obtain⟨a1,r1,w1⟩:=zIF _ _ _ g1
  obtain⟨n2,y2,g2⟩:=hf 2 _ rfl
  have g2:DataW.trod en Tryd.prog w 0 sp held n2 3 ((cs.drop 2).take (Tryd.prog.cellsOf 3))=some y2:=g2
  rw[C_3] at g2
  obtain⟨a2,r2,w2⟩:=zIF _ _ _ g2
  obtain⟨n3,y3,g3⟩:=hf 3 _ rfl
  have g3:DataW.trod en Tryd.prog w 0 sp held n3 3 ((cs.drop 3).take (Tryd.prog.cellsOf 3))=some y3:=g3
  rw[C_3] at g3
  obtain⟨a3,r3,w3⟩:=zIF _ _ _ g3
  have z:cs.drop 4=[]:=dqO (by omega)
  have R:=(r0.append (r1.append (r2.append (r3.append (show RL (Rep (H0 w)) [] (cs.drop 4) by rw[z];exact zm0)))))
  rw[<- (show cs.drop 3=(cs.drop 3).take 1 ++ cs.drop 4 from zdO cs 3 1)] at R
  rw[<- (show cs.drop 2=(cs.drop 2).take 1 ++ cs.drop 3 from zdO cs 2 1)] at R
  rw[<- (show cs.drop 1=(cs.drop 1).take 1 ++ cs.drop 2 from zdO cs 1 1)] at R
  rw[<- (show cs.drop 0=(cs.drop 0).take 1 ++ cs.drop 1 from zdO cs 0 1)] at R
  exact⟨⟨a0,a1,a2,a3⟩,R,⟨w0,w1,w2,w3⟩⟩
def zIH (x:(Sl Tie)):Prop:=x.len<=9223372036854775807/\∀ i,i < x.len->zIG (x.get i)
theorem zLv {H:Type}{en:TypeId×Value->H}{w:World}{sp:Nat->Bool}{held:Bool} : Rd H en Tryd.prog w sp held 22 zIA zIH:=zBd Tryd.underlying22 zM1 (by decide) (λ _=>rfl) zLu
def wf_24 (x:Net):Prop:=zHQ x.Nodes/\zIH x.Ties
theorem rd_24 {H:Type}{en:TypeId×Value->H}{w:World}{sp:Nat->Bool}{held:Bool} : Rd H en Tryd.prog w sp held 24 enc_24 wf_24:=by
  intro fuel cs x h
  obtain⟨hl,hf⟩:=zoB Tryd.underlying24 h
  rw[zNz] at hl
  obtain⟨n0,y0,g0⟩:=hf 0 _ rfl
  have g0:DataW.trod en Tryd.prog w 0 sp held n0 3 ((cs.drop 0).take (Tryd.prog.cellsOf 3))=some y0:=g0
  rw[C_3] at g0
  obtain⟨a0,r0,w0⟩:=zIF _ _ _ g0
  obtain⟨n1,y1,g1⟩:=hf 1 _ rfl
  have g1:DataW.trod en Tryd.prog w 0 sp held n1 22 ((cs.drop 1).take (Tryd.prog.cellsOf 22))=some y1:=g1
  rw[zNy] at g1
  obtain⟨a1,r1,w1⟩:=zLv _ _ _ g1
  have z:cs.drop 2=[]:=dqO (by omega)
  have R:=(r0.append (r1.append (show RL (Rep (H0 w)) [] (cs.drop 2) by rw[z];exact zm0)))
  rw[<- (show cs.drop 1=(cs.drop 1).take 1 ++ cs.drop 2 from zdO cs 1 1)] at R
  rw[<- (show cs.drop 0=(cs.drop 0).take 1 ++ cs.drop 1 from zdO cs 0 1)] at R
  exact⟨⟨a0,a1⟩,R,⟨w0,w1⟩⟩
end Go.Proofs
namespace Go.Proofs
open Go Go.Pm
set_option maxRecDepth 100000
set_option linter.unusedVariables false
attribute [local irreducible] Go.Pm.vcFun Go.Pm.vc Go.Pm.vcIter
abbrev T81:Tabs:=Tabs.nil
theorem zLw:TabsOk Tryd.prog T81:=TabsOk.nil
abbrev G81:Ctrs:=csm T81 (λ _ _=>[]) (λ _=>false)
def zII:Ann:=⟨15,[(0,zK [0,1,2] []),(1,zK [6] [])],
 [],
 [],
 [],[]⟩
abbrev R81:=Bool
abbrev e81 (r:R81):List PA:=[.one (.bool r)]
section
variable {K:List PA->Prop}{n:Int}{low:Int}{high:Int}
def s81 (n:Int) (low:Int) (high:Int):Bool :=
  (cond (decide (n >= low))
 (decide (n<=high))
 false)
end
theorem q81 (n:Int) (low:Int) (high:Int) (K:List PA->Prop) (hk:K (e81 (s81 n low high))):vcFun Tryd.prog G81 zII 81 [.one (.int .i64 n),.one (.int .i64 low),.one (.int .i64 high)] K :=
  za0 (by kernel_rfl) (zt hk (λ hk=>hk) (λ hk=>hk))
def zvA : List PA → COut
  | [.one (.int .i64 a0),.one (.int .i64 a1),.one (.int .i64 a2)]=>.tot [.one (.bool (s81 a0 a1 a2))]
  | _=>.no
theorem zIJ:zar Tryd.prog 81:=⟨_,rfl,rfl,by kernel_rfl⟩
theorem zLx:Ok Tryd.prog 81 zvA:=zbl zLw zIJ λ args K h=>by
  unfold zvA at h
  split at h
  · rename_i a0 a1 a2
    have hk:=h
    exact⟨(λ _ _=>[]),(λ _=>false),zII,q81 a0 a1 a2 K hk⟩
  · exact h.elim
abbrev T78:Tabs:=(Tabs.nil.addF 81 zvA)
theorem zLy:TabsOk Tryd.prog T78:=(TabsOk.nil.addF zLx)
abbrev G78:Ctrs:=csm T78 (λ _ _=>[]) (λ _=>false)
def zEr:Ann:=⟨55,[(0,zK [1,2] [2]),(1,zK [1,2,5] [2]),(2,zK [1,2,5,6] [2]),(3,zK [4] [])],
 [],
 [(2,zK [1,2,5] [2]),(3,zK [1,2,5,6] [2])],
 [],[]⟩
abbrev R78:=Bool
abbrev e78 (r:R78):List PA:=[.one (.bool r)]
@[irreducible] def z78:=ptF Tryd.prog G78 zEr Tryd.f78
section
variable {K:List PA->Prop}{t:Tie}{nodes:Int}{zm3:Bool}{zr7:Bool}
def zkT (t:Tie) (nodes:Int) (zm3:Bool) (zr7:Bool):Bool :=
  (cond (s81 t.From (0:Int) (w64 (nodes - (1:Int))))
 (cond (s81 t.To (0:Int) (w64 (nodes - (1:Int))))
 (cond (t.From != t.To)
 (cond zm3
 (cond zr7
 (decide (t.Low<=t.High))
 false)
 false)
 false)
 false)
 false)
theorem zvB (hk:K (e78 (zkT t nodes zm3 zr7))):z78 K [1,1,1] [] ⟨[(1,zI nodes),(2,zp 2 0),(5,zB zm3),(6,zB zr7)],[(2,.box 40 (zm (enc_40 t)))],[]⟩:=za0 (by kernel_rfl) (zt hk (λ hk=>(zt hk (λ hk=>(zt hk (λ hk=>(zt hk (λ hk=>(zt hk (λ hk=>hk) (λ hk=>hk))) (λ hk=>hk))) (λ hk=>hk))) (λ hk=>hk))) (λ hk=>hk))
def zkU (t:Tie) (nodes:Int) (zm3:Bool):Bool :=
  (cond (t.High == (1000000000000:Int))
 (zkT t nodes zm3 true)
 (zkT t nodes zm3 (s81 t.High (-1000000000:Int) (1000000000:Int))))
theorem zvC (hk:K (e78 (zkU t nodes zm3))):z78 K [1,1] [] ⟨[(1,zI nodes),(2,zp 2 0),(5,zB zm3)],[(2,.box 40 (zm (enc_40 t)))],[]⟩:=za0 (by kernel_rfl) (zt hk (λ hk=>(zvB hk)) (λ hk=>(zvB hk)))
def s78 (t:Tie) (nodes:Int):Bool :=
  (cond (t.Low == (-1000000000000:Int))
 (zkU t nodes true)
 (zkU t nodes (s81 t.Low (-1000000000:Int) (1000000000:Int))))
end
theorem q78 (t:Tie) (nodes:Int) (K:List PA->Prop) (hk:K (e78 (s78 t nodes))):vcFun Tryd.prog G78 zEr 78 [.agg (enc_40 t),.one (.int .i64 nodes)] K :=
  za0 (by kernel_rfl) (zt hk (λ hk=>(zvC hk)) (λ hk=>(zvC hk)))
def zEs : List PA → COut
  | [.agg [.int .i64 zpY,.int .i64 zEt,.int .i64 zvD,.int .i64 zpZ],.one (.int .i64 a1)]=>.tot [.one (.bool (s78 (⟨zpY,zEt,zvD,zpZ⟩:Tie) a1))]
  | _=>.no
theorem zIK:zar Tryd.prog 78:=⟨_,rfl,rfl,by kernel_rfl⟩
theorem zNA:Ok Tryd.prog 78 zEs:=zbl zLy zIK λ args K h=>by
  unfold zEs at h
  split at h
  · rename_i zpY zEt zvD zpZ a1
    have hk:=h
    exact⟨(λ _ _=>[]),(λ _=>false),zEr,q78 (⟨zpY,zEt,zvD,zpZ⟩:Tie) a1 K hk⟩
  · exact h.elim
abbrev T67:Tabs:=((Tabs.nil.addF 78 zEs).addF 81 zvA)
theorem zLz:TabsOk Tryd.prog T67:=((TabsOk.nil.addF zNA).addF zLx)
abbrev G67:Ctrs:=csm T67 (λ _ _=>[]) (λ _=>false)
def zBe:Ann:=⟨27,[(0,zK [1] [1]),(1,zK [1,6,7,8] [1]),(2,zK [1,6,7,8,9] [1]),(3,zK [1,4,6,7,8] [1,4]),(4,zK [1,6,7,8,16] [1]),(5,zK [2] []),(6,zK [1,6,7,8] [1]),(7,zK [2] [])],
 [(2,zK [1,6,7,8] [1])],
 [(5,zK [1,6,7,8,16] [1])],
 [],[]⟩
abbrev R67:=Bool
abbrev e67 (r:R67):List PA:=[.one (.bool r)]
@[irreducible] def z67:=ptF Tryd.prog G67 zBe Tryd.f67
def zCC (n:Net) (zdy:Int):St:=⟨[(1,zp 1 0),(6,zS enc_40 4 n.Ties),(7,zI (n.Ties.len:Int)),(8,zI zdy)],[(1,.box 24 (zm (enc_24 n)))],[]⟩
abbrev zEu (K:List PA->Prop) (n:Net) (X:St->Prop) (P:Int->Bool) (S:Int->Bool):Prop:=∀ ⦃zdy:Int⦄,P zdy=true->K (e67 (S zdy))->X (zCC n zdy)
section
variable {K:List PA->Prop}{n:Net}{zdy:Int}{X0:St->Prop}{P0:Int->Bool}{S0:Int->Bool}{zEv:Int}{zp0:Bool}
def zp1 (S0:Int->Bool) (n:Net) (zEv:Int) (zp0:Bool):Bool :=
  (cond zp0
 false
 (S0 (w64 (zEv+(1:Int)))))
def zp2 (P0:Int->Bool) (n:Net) (zEv:Int) (zp0:Bool):Bool :=
  (cond zp0
 true
 (P0 (w64 (zEv+(1:Int)))))
theorem zEw (hX0:zEu K n X0 P0 S0) (hs:zp2 P0 n zEv zp0=true) (hk:K (e67 (zp1 S0 n zEv zp0))):z67 K [1,0,1,0,0,1,1,0,0,1,1] [X0] ⟨[(1,zp 1 0),(6,zS enc_40 4 n.Ties),(7,zI (n.Ties.len:Int)),(8,zI zEv),(16,zB zp0)],[(1,.box 24 (zm (enc_24 n)))],[]⟩:=za0 (by kernel_rfl) (zc hs hk (λ hs hk=>hk) (λ hs hk=>(hX0 hs hk)))
def zh7 (n:Net) (S0:Int->Bool) (zdy:Int):Bool :=
  (cond (decide (zdy < (n.Ties.len : Int)))
 (zp1 S0 n zdy (!(s78 (n.Ties.get zdy.toNat) n.Nodes)))
 (cond (s81 n.Nodes (1:Int) (40:Int))
 (decide ((n.Ties.len:Int)<=(200:Int)))
 false))
def zh8 (n:Net) (P0:Int->Bool) (zdy:Int):Bool :=
  (cond (decide (zdy < (n.Ties.len : Int)))
 (decide ((0<=zdy/\zdy < (n.Ties.len:Int))) &&
 (zp2 P0 n zdy (!(s78 (n.Ties.get zdy.toNat) n.Nodes))))
 true)
def zh9 (n:Net):Nat->Int->Bool:=lpO (λ _=>default) (zh7 n)
def zia (n:Net):Nat->Int->Bool:=lpO (λ _=>false) (zh8 n)
def zvE (n:Net) (zdy:Int):Bool:=zh9 n Fuel zdy
def zvF (n:Net) (zdy:Int):Bool:=zia n Fuel zdy
theorem zEx (hs:zvF n zdy=true) (hk:K (e67 (zvE n zdy))):z67 K [1,0,1,0] [] (zCC n zdy) :=
  zl (λ X=>z67 K [1,0,1,0,0] [X]) (by kernel_rfl) λ X0 hX =>
  (show ∀ k, zEu K n X0 (zia n k) (zh9 n k) from zeu _ _ (zh8 n) (zh7 n) (zEu K n X0)
 (by intro _ hs;exact absurd hs dqk)
 (by intro P0 S0 hX0 zdy hs hk;exact hX _ (za0 (by kernel_rfl) (zc hs hk (λ hs hk=>(zaN hs λ hc hs=>And.intro hc (zEw hX0 hs hk))) (λ hs hk=>(zt hk (λ hk=>hk) (λ hk=>hk))))))) _ hs hk
def s67 (n:Net):Bool :=
  (zvE n (0:Int))
def p67 (n:Net):Bool :=
  (zvF n (0:Int))
end
theorem q67 (n:Net) (K:List PA->Prop) (hs:p67 n=true) (hk:K (e67 (s67 n))):vcFun Tryd.prog G67 zBe 67 [.agg (enc_24 n)] K :=
  za0 (by kernel_rfl) (zEx hs hk)
def zvG : List PA → COut
  | [.agg [.int .i64 zaj,.sl zad zaz zab]]=>.det (IsE enc_40 4 zaz zab/\p67 (⟨zaj,(⟨zad,zam zab⟩:(Sl Tie))⟩:Net)=true) [.one (.bool (s67 (⟨zaj,(⟨zad,zam zab⟩:(Sl Tie))⟩:Net)))]
  | [.agg [.int .i64 zaj,.nils]]=>.det (p67 (⟨zaj,(⟨0,λ _=>default⟩:(Sl Tie))⟩:Net)=true) [.one (.bool (s67 (⟨zaj,(⟨0,λ _=>default⟩:(Sl Tie))⟩:Net)))]
  | _=>.no
theorem zIL:zar Tryd.prog 67:=⟨_,rfl,rfl,by kernel_rfl⟩
theorem zLA:Ok Tryd.prog 67 zvG:=zg1 zLz zIL λ args K h=>by
  unfold zvG at h
  split at h
  · rename_i zaj zad zaz zab
    obtain⟨⟨⟨rfl,zat,rfl⟩,hs⟩,hk⟩:=h
    try rw[zan zat] at hs
    try rw[zan zat] at hk
    exact⟨_,zfq zfG _,(λ _ _=>[]),(λ _=>false),zBe,q67 (⟨zaj,(⟨zad,zat⟩:(Sl Tie))⟩:Net) (Wk K) hs (zfH hk)⟩
  · rename_i zaj
    obtain⟨hs,hk⟩:=h
    exact⟨_,(zgK (.agg (zgK (.rfl _) (zgK (.nil _ _) zm0))) zm0),(λ _ _=>[]),(λ _=>false),zBe,q67 (⟨zaj,(⟨0,λ _=>default⟩:(Sl Tie))⟩:Net) (Wk K) hs (zfH hk)⟩
  · exact h.elim
abbrev T93:Tabs:=Tabs.nil
theorem zLB:TabsOk Tryd.prog T93:=TabsOk.nil
abbrev G93:Ctrs:=csm T93 (λ _ _=>[]) (λ _=>false)
def zEy:Ann:=⟨4,[(0,zK [1] [1]),(1,zK [2] [])],
 [],
 [],
 [],[]⟩
theorem zEz (w : web) (K : List PA → Prop) :
  vcFun Tryd.prog G93 zEy 93 [.one (.fp (zaB w) 0)] K =
  (K [.one (.fn 110 [] [.fp [.fp (zaB w) 0] 0])]):=by kernel_rfl
theorem q93 (w:web) (K:List PA->Prop) (hk:K [.one (.fn 110 [] [.fp [.fp (zaB w) 0] 0])]):vcFun Tryd.prog G93 zEy 93 [.one (.fp (zaB w) 0)] K:=za0 (zEz w K) hk
def zoC : List PA → COut
  | [.one (.fp [.int .i64 zak,.sl zah zaA zai,.fm za7 zaH zaI] 0)]=>.det (IsE enc_40 4 zaA zai/\za7=(false,1,false,[none])) [.one (.fn 110 [] [.fp [.fp (zaB (⟨(⟨(⟨zak,(⟨zah,zam zai⟩:(Sl Tie))⟩:Net),(⟨zaH,zaI⟩:Mp)⟩:web).Net,((⟨(⟨zak,(⟨zah,zam zai⟩:(Sl Tie))⟩:Net),(⟨zaH,zaI⟩:Mp)⟩:web).out)⟩:web)) 0] 0])]
  | _=>.no
theorem zIM:zar Tryd.prog 93:=⟨_,rfl,rfl,by kernel_rfl⟩
theorem zHR:Ok Tryd.prog 93 zoC:=zbl zLB zIM λ args K h=>by
  unfold zoC at h
  split at h
  · rename_i zak zah zaA zai za7 zaH zaI
    obtain⟨⟨⟨rfl,zaq,rfl⟩,rfl⟩,hk⟩:=h
    try rw[zan zaq] at hk
    exact⟨λ _ _=>[],λ _=>false,zEy,q93 (⟨(⟨zak,(⟨zah,zaq⟩:(Sl Tie))⟩:Net),(⟨zaH,zaI⟩:Mp)⟩:web) K hk⟩
  · exact h.elim
abbrev T94:Tabs:=Tabs.nil
theorem zLC:TabsOk Tryd.prog T94:=TabsOk.nil
abbrev G94:Ctrs:=csm T94 (λ _ _=>[]) (λ _=>false)
def zIN:Ann:=⟨21,[(0,zK [1,2] [1,2]),(1,zK [2,3] [2])],
 [],
 [],
 [],[]⟩
abbrev R94:=(step×Bool)
abbrev e94 (r:R94):List PA:=[.agg [.int .i64 r.1.Use.Tie,.bool r.1.Use.Back,.int .i64 r.1.from_,.int .i64 r.1.to,.int .i64 r.1.length],.one (.bool r.2)]
section
variable {K:List PA->Prop}{t:tie}
def s94 (t:tie):(step×Bool) :=
  ((⟨(⟨t.index,false⟩:Use),t.Tie.From,t.Tie.To,t.Tie.High⟩:step),(t.Tie.High != (1000000000000:Int)))
end
theorem q94 (t:tie) (K:List PA->Prop) (hk:K (e94 (s94 t))):vcFun Tryd.prog G94 zIN 94 [.agg (zvy t)] K :=
  za0 (by kernel_rfl) hk
def zEA : List PA → COut
  | [.agg [.int .i64 za9,.int .i64 zby,.int .i64 zbm,.int .i64 zba,.int .i64 zbL]]=>.tot [.agg [.int .i64 (((s94 (⟨(⟨za9,zby,zbm,zba⟩:Tie),zbL⟩:tie)).1).Use.Tie),.bool (((s94 (⟨(⟨za9,zby,zbm,zba⟩:Tie),zbL⟩:tie)).1).Use.Back),.int .i64 (((s94 (⟨(⟨za9,zby,zbm,zba⟩:Tie),zbL⟩:tie)).1).from_),.int .i64 (((s94 (⟨(⟨za9,zby,zbm,zba⟩:Tie),zbL⟩:tie)).1).to),.int .i64 (((s94 (⟨(⟨za9,zby,zbm,zba⟩:Tie),zbL⟩:tie)).1).length)],.one (.bool ((s94 (⟨(⟨za9,zby,zbm,zba⟩:Tie),zbL⟩:tie)).2))]
  | _=>.no
theorem zIO:zar Tryd.prog 94:=⟨_,rfl,rfl,by kernel_rfl⟩
theorem zNB:Ok Tryd.prog 94 zEA:=zbl zLC zIO λ args K h=>by
  unfold zEA at h
  split at h
  · rename_i za9 zby zbm zba zbL
    have hk:=h
    exact⟨(λ _ _=>[]),(λ _=>false),zIN,q94 (⟨(⟨za9,zby,zbm,zba⟩:Tie),zbL⟩:tie) K hk⟩
  · exact h.elim
abbrev T95:Tabs:=Tabs.nil
theorem zLD:TabsOk Tryd.prog T95:=TabsOk.nil
abbrev G95:Ctrs:=csm T95 (λ _ _=>[]) (λ _=>false)
def zIP:Ann:=⟨22,[(0,zK [1,2] [1,2]),(1,zK [2,3] [2])],
 [],
 [],
 [],[]⟩
abbrev R95:=(step×Bool)
abbrev e95 (r:R95):List PA:=[.agg [.int .i64 r.1.Use.Tie,.bool r.1.Use.Back,.int .i64 r.1.from_,.int .i64 r.1.to,.int .i64 r.1.length],.one (.bool r.2)]
section
variable {K:List PA->Prop}{t:tie}
def s95 (t:tie):(step×Bool) :=
  ((⟨(⟨t.index,true⟩:Use),t.Tie.To,t.Tie.From,(w64 (0 - t.Tie.Low))⟩:step),(t.Tie.Low != (-1000000000000:Int)))
end
theorem q95 (t:tie) (K:List PA->Prop) (hk:K (e95 (s95 t))):vcFun Tryd.prog G95 zIP 95 [.agg (zvy t)] K :=
  za0 (by kernel_rfl) hk
def zEB : List PA → COut
  | [.agg [.int .i64 za9,.int .i64 zby,.int .i64 zbm,.int .i64 zba,.int .i64 zbL]]=>.tot [.agg [.int .i64 (((s95 (⟨(⟨za9,zby,zbm,zba⟩:Tie),zbL⟩:tie)).1).Use.Tie),.bool (((s95 (⟨(⟨za9,zby,zbm,zba⟩:Tie),zbL⟩:tie)).1).Use.Back),.int .i64 (((s95 (⟨(⟨za9,zby,zbm,zba⟩:Tie),zbL⟩:tie)).1).from_),.int .i64 (((s95 (⟨(⟨za9,zby,zbm,zba⟩:Tie),zbL⟩:tie)).1).to),.int .i64 (((s95 (⟨(⟨za9,zby,zbm,zba⟩:Tie),zbL⟩:tie)).1).length)],.one (.bool ((s95 (⟨(⟨za9,zby,zbm,zba⟩:Tie),zbL⟩:tie)).2))]
  | _=>.no
theorem zIQ:zar Tryd.prog 95:=⟨_,rfl,rfl,by kernel_rfl⟩
theorem zNC:Ok Tryd.prog 95 zEB:=zbl zLD zIQ λ args K h=>by
  unfold zEB at h
  split at h
  · rename_i za9 zby zbm zba zbL
    have hk:=h
    exact⟨(λ _ _=>[]),(λ _=>false),zIP,q95 (⟨(⟨za9,zby,zbm,zba⟩:Tie),zbL⟩:tie) K hk⟩
  · exact h.elim
abbrev zM2:Tabs:=((Tabs.nil.addF 94 zEA).addF 95 zEB)
theorem zIR:TabsOk Tryd.prog zM2:=((TabsOk.nil.addF zNB).addF zNC)
abbrev zIS:Ctrs:=csm zM2 (λ _ _=>[]) (λ _=>false)
def zjk:Ann:=⟨52,[(0,zK [0,1,14,15,16] []),(1,zK [0,1,14,15,16,17] []),(2,zK [0,1,3,4,14,15,16] [4]),(3,zK [0,1,3,4,14,15,16,26] [4]),(4,zK [0,1,5,14,15,16] [5]),(5,zK [0,1,14,15,16,34,35] []),(6,zK [0,1,14,15,16,34,35,36] []),(7,zK [0,1,7,14,15,16,34,35] []),(8,zK [0,1,8,9,14,15,16,34,35] [8]),(9,zK [0,1,14,15,16,34,35,49] []),(10,zK [0,1,14,15,16,34,35] []),(11,zK [0,1,14,15,16] [])],
 [(1,zK [0,1,14,15,16] [])],
 [],
 [(6,3,zK [0,1,14,15,16,34,35] [])],[9]⟩
def zdV (l:Nat) (a:web) (zaK:Int):St:=⟨[(0,.one (.c (.p (.yl l)))),(1,.one (.c (.p (.fp [.fp (zaB a) 0] 0)))),(14,.one (.c (.p (.sl a.Net.Ties.len 4 (λ i=>enc_40 (a.Net.Ties.get i)))))),(15,.one (.c (.p (.int .i64 (a.Net.Ties.len:Int))))),(16,.one (.c (.p (.int .i64 zaK))))],[],[]⟩
def zhG (l:Nat) (ys:List (List PA)) (a:web) (zaK:Int):Prop:=vcY Tryd.prog zIS zjk l (cdF Tryd.f110 [1,0]) (znQ 0 zAr) ys false (zdV l a zaK)
theorem zBf (l : Nat) (a : web) (ys : List (List PA)) :
  vcIter Tryd.prog zIS zjk 110 l [.one (.fp [.fp (zaB a) 0] 0)] ys =
  (zhG l ys a (0:Int)):=by kernel_rfl
def zl6 (l:Nat) (X0:List (List PA)->Bool->St->Prop) (ys:List (List PA)) (a:web) (zaK:Int):Prop :=
  (zdq (decide (zaK < (a.Net.Ties.len : Int)))
 (((0<=zaK/\zaK < (a.Net.Ties.len:Int))) /\
 (zdq ((zpl (a.out.F [zaK]) 0) != 0)
 (X0 ys false (zdV l a (w64 (zaK+(1:Int)))))
 (zdq ((s94 (⟨(a.Net.Ties.get zaK.toNat), zaK⟩ : tie)).2)
 (l=l/\∃ r1,ys=[.agg [.int .i64 (((s94 (⟨(a.Net.Ties.get zaK.toNat),zaK⟩:tie)).1).Use.Tie),.bool (((s94 (⟨(a.Net.Ties.get zaK.toNat),zaK⟩:tie)).1).Use.Back),.int .i64 (((s94 (⟨(a.Net.Ties.get zaK.toNat),zaK⟩:tie)).1).from_),.int .i64 (((s94 (⟨(a.Net.Ties.get zaK.toNat),zaK⟩:tie)).1).to),.int .i64 (((s94 (⟨(a.Net.Ties.get zaK.toNat),zaK⟩:tie)).1).length)]] :: r1 /\
 (zdq ((s95 (⟨(a.Net.Ties.get zaK.toNat), zaK⟩ : tie)).2)
 (l=l/\∃ r2,r1=[.agg [.int .i64 (((s95 (⟨(a.Net.Ties.get zaK.toNat),zaK⟩:tie)).1).Use.Tie),.bool (((s95 (⟨(a.Net.Ties.get zaK.toNat),zaK⟩:tie)).1).Use.Back),.int .i64 (((s95 (⟨(a.Net.Ties.get zaK.toNat),zaK⟩:tie)).1).from_),.int .i64 (((s95 (⟨(a.Net.Ties.get zaK.toNat),zaK⟩:tie)).1).to),.int .i64 (((s95 (⟨(a.Net.Ties.get zaK.toNat),zaK⟩:tie)).1).length)]] :: r2 /\
 (X0 r2 false (zdV l a (w64 (zaK+(1:Int)))))/\True)
 (X0 r1 false (zdV l a (w64 (zaK+(1:Int))))))/\True)
 (zdq ((s95 (⟨(a.Net.Ties.get zaK.toNat), zaK⟩ : tie)).2)
 (l=l/\∃ r3,ys=[.agg [.int .i64 (((s95 (⟨(a.Net.Ties.get zaK.toNat),zaK⟩:tie)).1).Use.Tie),.bool (((s95 (⟨(a.Net.Ties.get zaK.toNat),zaK⟩:tie)).1).Use.Back),.int .i64 (((s95 (⟨(a.Net.Ties.get zaK.toNat),zaK⟩:tie)).1).from_),.int .i64 (((s95 (⟨(a.Net.Ties.get zaK.toNat),zaK⟩:tie)).1).to),.int .i64 (((s95 (⟨(a.Net.Ties.get zaK.toNat),zaK⟩:tie)).1).length)]] :: r3 /\
 (X0 r3 false (zdV l a (w64 (zaK+(1:Int)))))/\True)
 (X0 ys false (zdV l a (w64 (zaK+(1:Int)))))))))
 (ys=[]))
theorem zoD (l : Nat) (X0 : List (List PA) → Bool → St → Prop) (ys : List (List PA)) (a : web) (zaK : Int) :
  vcY Tryd.prog zIS zjk l (cd (cdF Tryd.f110 [1,0]) [0]) (zAp Tryd.prog zjk 1 X0 (znQ 0 zAr)) ys false (zdV l a zaK) =
  zl6 l X0 ys a zaK:=by kernel_rfl
theorem ztD (l : Nat) (ys : List (List PA)) (a : web) (zaK : Int)
  (h:∀ X0:List (List PA)->Bool->St->Prop,(∀ (ys:List (List PA)) (zaK:Int),zl6 l X0 ys a zaK->X0 ys false (zdV l a zaK))->X0 ys false (zdV l a zaK)) :
  zhG l ys a zaK:=by
  have e:zhG l ys a zaK=(∀ X:List (List PA)->Bool->St->Prop,(∀ ys q s,vcY Tryd.prog zIS zjk l (cd (cdF Tryd.f110 [1,0]) [0]) (zAp Tryd.prog zjk 1 X (znQ 0 zAr)) ys q s->X ys q s)->X ys false (zdV l a zaK)):=by kernel_rfl
  refine za0 e ?_
  intro X hX
  refine h X ?_
  intro ys zaK hs
  refine hX _ _ _ ?_
  have e2:=zoD l X ys a zaK
  rw[e2]
  exact hs
attribute [irreducible] zhG
def zfb (a:web) (S0:Int->List step) (zaK:Int):List step :=
  (cond (decide (zaK < (a.Net.Ties.len : Int)))
 (cond ((zpl (a.out.F [zaK]) 0) != 0)
 (S0 (w64 (zaK+(1:Int))))
 (cond ((s94 (⟨(a.Net.Ties.get zaK.toNat), zaK⟩ : tie)).2)
 (((s94 (⟨(a.Net.Ties.get zaK.toNat), zaK⟩ : tie)).1) :: (cond ((s95 (⟨(a.Net.Ties.get zaK.toNat), zaK⟩ : tie)).2)
 (((s95 (⟨(a.Net.Ties.get zaK.toNat),zaK⟩:tie)).1) :: (S0 (w64 (zaK+(1:Int)))))
 (S0 (w64 (zaK+(1:Int))))))
 (cond ((s95 (⟨(a.Net.Ties.get zaK.toNat), zaK⟩ : tie)).2)
 (((s95 (⟨(a.Net.Ties.get zaK.toNat),zaK⟩:tie)).1) :: (S0 (w64 (zaK+(1:Int)))))
 (S0 (w64 (zaK+(1:Int)))))))
 [])
def zfc (a:web) (P0:Int->Bool) (zaK:Int):Bool :=
  (cond (decide (zaK < (a.Net.Ties.len : Int)))
 (decide ((0<=zaK/\zaK < (a.Net.Ties.len:Int))) &&
 (cond ((zpl (a.out.F [zaK]) 0) != 0)
 (P0 (w64 (zaK+(1:Int))))
 (cond ((s94 (⟨(a.Net.Ties.get zaK.toNat), zaK⟩ : tie)).2)
 (cond ((s95 (⟨(a.Net.Ties.get zaK.toNat), zaK⟩ : tie)).2)
 (P0 (w64 (zaK+(1:Int))))
 (P0 (w64 (zaK+(1:Int)))))
 (cond ((s95 (⟨(a.Net.Ties.get zaK.toNat), zaK⟩ : tie)).2)
 (P0 (w64 (zaK+(1:Int))))
 (P0 (w64 (zaK+(1:Int))))))))
 true)
def zej (a : web) : Nat → Int → List step
  | 0=>λ _=>[]
  | k+1=>zfb a (zej a k)
def zek (a : web) : Nat → Int → Bool
  | 0=>λ _=>false
  | k+1=>zfc a (zek a k)
def zr8 (a:web) (zaK:Int):List step:=zej a Fuel zaK
def zr9 (a:web) (zaK:Int):Bool:=zek a Fuel zaK
theorem zBg (l:Nat) (a:web) (ys:List (List PA)) (zaK:Int) (hs:zr9 a zaK=true) (hk:ys=(zr8 a zaK).map (λ y=>[.agg (zaD y)])):zhG l ys a zaK:=by
  refine ztD l ys a zaK ?_
  intro X0 hstep
  have key:∀ (k:Nat) (ys:List (List PA)) (zaK:Int),zek a k zaK=true->ys=(zej a k zaK).map (λ y=>[.agg (zaD y)])->X0 ys false (zdV l a zaK):=by
    intro k
    induction k with
    | zero=>intro ys zaK hs;exact absurd hs dqk
    | succ k ih =>
      intro ys zaK hs hk
      refine hstep ys zaK ?_
      have hs:zfc a (zek a k) zaK=true:=hs
      have hk:ys=(zfb a (zej a k) zaK).map (λ y=>[.agg (zaD y)]):=hk
      unfold zfc at hs
      unfold zfb at hk
      generalize zej a k=S0 at hk ih
      generalize zek a k=P0 at hs ih
      have hX0:=ih
      exact (zhC hs hk
 (λ hs hk => (zaN hs λ hc hs => ⟨hc, (zhC hs hk
 (λ hs hk=>(hX0 _ (w64 (zaK+(1:Int))) hs hk))
 (λ hs hk => (zhC hs hk
 (λ hs hk => (itY hk rfl (λ _ hk => (zhC hs hk
 (λ hs hk=>(itY hk rfl (λ _ hk=>(hX0 _ (w64 (zaK+(1:Int))) hs hk))))
 (λ hs hk=>(hX0 _ (w64 (zaK+(1:Int))) hs hk))))))
 (λ hs hk => (zhC hs hk
 (λ hs hk=>(itY hk rfl (λ _ hk=>(hX0 _ (w64 (zaK+(1:Int))) hs hk))))
 (λ hs hk=>(hX0 _ (w64 (zaK+(1:Int))) hs hk)))))))⟩))
 (fun hs hk=>hk))
  exact key _ _ zaK hs hk
def zkV (a:web):List step :=
  (zr8 a (0:Int))
def ztP (a:web):Bool :=
  (zr9 a (0:Int))
theorem zND (l:Nat) (a:web) (ys:List (List PA)) (hs:ztP a=true) (hk:ys=(zkV a).map (λ y=>[.agg (zaD y)])):vcIter Tryd.prog zIS zjk 110 l [.one (.fp [.fp (zaB a) 0] 0)] ys:=by
  refine za0 (zBf l a ys) ?_
  unfold ztP at hs
  unfold zkV at hk
  exact (zBg l a _ (0:Int) hs hk)
def zoE : List PA → Option (Prop × List (List PA))
  | [.one (.fp [.fp [.int .i64 a_Net_Nodes,.sl a_Net_Ties_n a_Net_Ties_s a_Net_Ties_g,.fm a_out_q a_out_n a_out_F] 0] 0)]=>some (IsE enc_40 4 a_Net_Ties_s a_Net_Ties_g/\a_out_q=(false,1,false,[none])/\ztP (⟨(⟨a_Net_Nodes,(⟨a_Net_Ties_n,zam a_Net_Ties_g⟩:(Sl Tie))⟩:Net),(⟨a_out_n,a_out_F⟩:Mp)⟩:web)=true,(zkV (⟨(⟨a_Net_Nodes,(⟨a_Net_Ties_n,zam a_Net_Ties_g⟩:(Sl Tie))⟩:Net),(⟨a_out_n,a_out_F⟩:Mp)⟩:web)).map λ y=>[.agg (zaD y)])
  | _=>none
theorem zEC:zar Tryd.prog 110:=⟨_,rfl,rfl,by kernel_rfl⟩
theorem ztE:zCk Tryd.prog 110 zoE:=zIw zIR zEC λ l caps safe ys h hs=>by
  unfold zoE at h
  split at h
  · rename_i a_Net_Nodes a_Net_Ties_n a_Net_Ties_s a_Net_Ties_g a_out_q a_out_n a_out_F
    cases h
    obtain⟨⟨rfl,a_Net_Ties_f,rfl⟩,rfl,hs⟩:=hs
    try rw[zan a_Net_Ties_f] at hs
    try rw[zan a_Net_Ties_f]
    exact⟨λ _ _=>[],λ _=>false,zjk,zND l (⟨(⟨a_Net_Nodes,(⟨a_Net_Ties_n,a_Net_Ties_f⟩:(Sl Tie))⟩:Net),(⟨a_out_n,a_out_F⟩:Mp)⟩:web) _ hs rfl⟩
  · cases h
abbrev T88:Tabs:=((Tabs.nil.addF 93 zoC).addI 110 zoE)
theorem zLE:TabsOk Tryd.prog T88:=((TabsOk.nil.addF zHR).addI ztE)
abbrev G88:Ctrs:=csm T88 (λ _ _=>[]) (λ _=>false)
def zvH:Ann:=⟨37,[(0,zK [0] []),(1,zK [0,3] [3]),(2,zK [0,3,11,12] [3]),(3,zK [0,3,11,12,13] [3]),(4,zK [0,3,4,11,12] [3,4]),(5,zK [0,3,4,11,12,15] [3,4]),(6,zK [0,3,4,5,11,12,15] [3,4,5]),(7,zK [0,3,4,5,6,11,12,15] [3,4,5]),(8,zK [0,3,4,5,6,11,12,15,29] [3,4,5]),(9,zK [0,3,4,11,12,15] [3,4]),(10,zK [0,3,4,11,12,15] [3,4]),(11,zK [0,3,11,12,35] [3]),(12,zK [2] []),(13,zK [0,3,11,12] [3]),(14,zK [2] [])],
 [(3,zK [0,3,11,12] [3]),(6,zK [0,3,4,11,12,15] [3,4])],
 [],
 [],[]⟩
abbrev R88:=Bool
abbrev e88 (r:R88):List PA:=[.one (.bool r)]
@[irreducible] def z88:=ptF Tryd.prog G88 zvH Tryd.f88
@[irreducible] def x88:=exF Tryd.prog G88 zvH Tryd.f88
@[irreducible] def y88:=rnF Tryd.prog G88 zvH Tryd.f88
def zCD (w:web) (zbW:Int) (dt0:Tab):St:=⟨[(0,zP (.fp (zaB w) 0)),(3,zp 3 0),(11,zI w.Net.Nodes),(12,zI zbW)],[(3,.box 157 (zm (zvz dt0)))],[]⟩
abbrev zED (K:List PA->Prop) (w:web) (X:St->Prop) (P:Int->Tab->Bool) (S:Int->Tab->Bool):Prop:=∀ ⦃zbW:Int⦄ ⦃dt0:Tab⦄,P zbW dt0=true->K (e88 (S zbW dt0))->X (zCD w zbW dt0)
def zvI (w:web) (zbX:Int) (zaG:Bool) (dt1:Tab):St:=⟨[(0,zP (.fp (zaB w) 0)),(3,zp 3 0),(4,zp 4 0),(11,zI w.Net.Nodes),(12,zI zbX),(15,zP (.fn 110 [] [.fp [.fp (zaB w) 0] 0]))],[(3,.box 157 (zm (zvz dt1))),(4,.box 4 [.p (.bool zaG)])],[]⟩
abbrev zIT (K:List PA->Prop) (w:web) (X:St->Prop) (P:Int->Bool->Tab->Bool) (S:Int->Bool->Tab->Bool):Prop:=∀ ⦃zbX:Int⦄ ⦃zaG:Bool⦄ ⦃dt1:Tab⦄,P zbX zaG dt1=true->K (e88 (S zbX zaG dt1))->X (zvI w zbX zaG dt1)
section
variable {K:List PA->Prop}{w:web}{zbW:Int}{dt0:Tab}{X0:St->Prop}{P0:Int->Tab->Bool}{S0:Int->Tab->Bool}{zbX:Int}{zaG:Bool}{dt1:Tab}
def zm4 (S0:Int->Tab->Bool) (w:web) (zbX:Int) (zaG:Bool) (dt1:Tab):Bool :=
  (cond (!zaG)
 false
 (S0 (w64 (zbX+(1:Int))) dt1))
def zm5 (P0:Int->Tab->Bool) (w:web) (zbX:Int) (zaG:Bool) (dt1:Tab):Bool :=
  (cond (!zaG)
 true
 (P0 (w64 (zbX+(1:Int))) dt1))
def zm6 (S0:Int->Tab->Bool) (w:web) (y1:step) (S1:Int->Bool->Tab->Bool) (zbX:Int) (zaG:Bool) (dt1:Tab):Bool :=
  (cond (decide ((w64 ((tg 40 dt1 (0 + y1.from_.toNat * 1 + 0)) + y1.length)) < (tg 40 dt1 (0 + y1.to.toNat * 1 + 0))))
 (S1 zbX true (ts 40 dt1 (0+y1.to.toNat * 1+0) [(w64 ((tg 40 dt1 (0+y1.from_.toNat * 1+0))+y1.length))]))
 (S1 zbX zaG dt1))
def zm7 (P0:Int->Tab->Bool) (w:web) (y1:step) (P1:Int->Bool->Tab->Bool) (zbX:Int) (zaG:Bool) (dt1:Tab):Bool :=
  (decide ((0<=y1.from_/\y1.from_ < (40:Int))) &&
 (decide ((0<=y1.to/\y1.to < (40:Int))) &&
 (cond (decide ((w64 ((tg 40 dt1 (0 + y1.from_.toNat * 1 + 0)) + y1.length)) < (tg 40 dt1 (0 + y1.to.toNat * 1 + 0))))
 (decide ((0<=y1.to/\y1.to < (40:Int))) &&
 (P1 zbX true (ts 40 dt1 (0+y1.to.toNat * 1+0) [(w64 ((tg 40 dt1 (0+y1.from_.toNat * 1+0))+y1.length))])))
 (P1 zbX zaG dt1))))
def zfJ (S0:Int->Tab->Bool) (w:web):List step->Int->Bool->Tab->Bool:=lpR (zm4 S0 w) (zm6 S0 w)
def zfK (P0:Int->Tab->Bool) (w:web):List step->Int->Bool->Tab->Bool:=lpR (zm5 P0 w) (zm7 P0 w)
def zp3 (S0:Int->Tab->Bool) (w:web) (zbX:Int) (zaG:Bool) (dt1:Tab):Bool:=zfJ S0 w (zkV w) zbX zaG dt1
def zp4 (P0:Int->Tab->Bool) (w:web) (zbX:Int) (zaG:Bool) (dt1:Tab):Bool:=decide ((ztP w=true)) && zfK P0 w (zkV w) zbX zaG dt1
theorem zEE (hX0:zED K w X0 P0 S0) (hs:zp4 P0 w zbX zaG dt1=true) (hk:K (e88 (zp3 S0 w zbX zaG dt1))):z88 K [1,1,0,1,0,0,1,1,0,0,1,0,1,0] [X0] (zvI w zbX zaG dt1) :=
  zaN hs λ hc hs=>zr (enc:=(λ y:step=>[.agg (zaD y)])) (ys:=zkV w) (g:=(zvI w zbX zaG dt1)) (x88 K [1,1,0,1,0,0,1,1,0,0,1,0,1,0] [X0]) (y88 K [1,1,0,1,0,0,1,1,0,0,1,0,1,0] [X0]) (by kernel_rfl) (And.intro (zE enc_40 4 w.Net.Ties.get) (And.intro (rfl:((false,1,false,[none]):MQ)=(false,1,false,[none])) hc)) λ X1 hE hR =>
  (show ∀ l : List step, zIT K w (X1 (l.map (λ y : step => [.agg (zaD y)]))) (zfK P0 w l) (zfJ S0 w l) from zri (X := X1) (enc := (λ y : step => [.agg (zaD y)])) _ _ (zm7 P0 w) (zm6 S0 w) (λ Z P S => zIT K w Z P S)
 (by intro zbX zaG dt1 hs hk;exact hE _ (za0 (by kernel_rfl) (zc hs hk (λ hs hk=>hk) (λ hs hk=>(hX0 hs hk)))))
 (by intro y1 rest P1 S1 hX1 zbX zaG dt1 hs hk;exact hR _ rest _ (za0 (by kernel_rfl) (zaN hs λ hc hs=>And.intro hc (zaN hs λ hc hs=>And.intro hc (zc hs hk (λ hs hk=>(zaN hs λ hc hs=>And.intro hc (hX1 hs hk))) (λ hs hk=>(hX1 hs hk)))))))) _ hs hk
def zib (w:web) (S0:Int->Tab->Bool) (zbW:Int) (dt0:Tab):Bool :=
  (cond (decide (zbW < w.Net.Nodes))
 (zp3 S0 w zbW false dt0)
 true)
def zic (w:web) (P0:Int->Tab->Bool) (zbW:Int) (dt0:Tab):Bool :=
  (cond (decide (zbW < w.Net.Nodes))
 (zp4 P0 w zbW false dt0)
 true)
def zid (w:web):Nat->Int->Tab->Bool:=lpO (λ _ _=>default) (zib w)
def zie (w:web):Nat->Int->Tab->Bool:=lpO (λ _ _=>false) (zic w)
def zvJ (w:web) (zbW:Int) (dt0:Tab):Bool:=zid w Fuel zbW dt0
def zvK (w:web) (zbW:Int) (dt0:Tab):Bool:=zie w Fuel zbW dt0
theorem zEF (hs:zvK w zbW dt0=true) (hk:K (e88 (zvJ w zbW dt0))):z88 K [1,1,0,1,0] [] (zCD w zbW dt0) :=
  zl (λ X=>z88 K [1,1,0,1,0,0] [X]) (by kernel_rfl) λ X0 hX =>
  (show ∀ k, zED K w X0 (zie w k) (zid w k) from zeu _ _ (zic w) (zib w) (zED K w X0)
 (by intro _ _ hs;exact absurd hs dqk)
 (by intro P0 S0 hX0 zbW dt0 hs hk;exact hX _ (za0 (by kernel_rfl) (zc hs hk (λ hs hk=>(And.intro (And.intro (zE enc_40 4 w.Net.Ties.get) (rfl:((false,1,false,[none]):MQ)=(false,1,false,[none]))) (zEE hX0 hs hk))) (λ hs hk=>hk))))) _ hs hk
def s88 (w:web):Bool :=
  (zvJ w (0:Int) (λ _=>(0:Int)))
def p88 (w:web):Bool :=
  (zvK w (0:Int) (λ _=>(0:Int)))
end
theorem q88 (w:web) (K:List PA->Prop) (hs:p88 w=true) (hk:K (e88 (s88 w))):vcFun Tryd.prog G88 zvH 88 [.one (.fp (zaB w) 0)] K :=
  za0 (by kernel_rfl) (zEF hs hk)
def zvL : List PA → COut
  | [.one (.fp [.int .i64 zak,.sl zah zaA zai,.fm za7 zaH zaI] 0)]=>.det (IsE enc_40 4 zaA zai/\za7=(false,1,false,[none])/\p88 (⟨(⟨zak,(⟨zah,zam zai⟩:(Sl Tie))⟩:Net),(⟨zaH,zaI⟩:Mp)⟩:web)=true) [.one (.bool (s88 (⟨(⟨zak,(⟨zah,zam zai⟩:(Sl Tie))⟩:Net),(⟨zaH,zaI⟩:Mp)⟩:web)))]
  | _=>.no
theorem zIU:zar Tryd.prog 88:=⟨_,rfl,rfl,by kernel_rfl⟩
theorem zLF:Ok Tryd.prog 88 zvL:=zbl zLE zIU λ args K h=>by
  unfold zvL at h
  split at h
  · rename_i zak zah zaA zai za7 zaH zaI
    obtain⟨⟨⟨rfl,zaq,rfl⟩,rfl,hs⟩,hk⟩:=h
    try rw[zan zaq] at hs
    try rw[zan zaq] at hk
    exact⟨(λ _ _=>[]),(λ _=>false),zvH,q88 (⟨(⟨zak,(⟨zah,zaq⟩:(Sl Tie))⟩:Net),(⟨zaH,zaI⟩:Mp)⟩:web) K hs hk⟩
  · exact h.elim
abbrev zM3:Tabs:=Tabs.nil
theorem zIV:TabsOk Tryd.prog zM3:=TabsOk.nil
abbrev zNE:Ctrs:=csm zM3 (λ _ _=>[]) (λ _=>false)
def zCE:Ann:=⟨24,[(0,zK [2,3] [2,3]),(1,zK [4] [])],
 [],
 [],
 [],[]⟩
abbrev zNF:=Bool
abbrev zNG (r:zNF):List PA:=[.one (.bool r)]
section
variable {K:List PA->Prop}{a:far}{b:far}
def zBh (a:far) (b:far):Bool :=
  (cond (decide (a.length < b.length))
 true
 (cond (a.length == b.length)
 (decide (a.uses < b.uses))
 false))
end
theorem zNH (a:far) (b:far) (K:List PA->Prop) (hk:K (zNG (zBh a b))):vcFun Tryd.prog zNE zCE 105 [.agg (zb6 a),.agg (zb6 b)] K :=
  za0 (by kernel_rfl) (zt hk (λ hk=>hk) (λ hk=>(zt hk (λ hk=>hk) (λ hk=>hk))))
def zvM : List PA → COut
  | [.agg [.int .i64 zb9,.int .i64 zp5],.agg [.int .i64 zbM,.int .i64 zfd]]=>.tot [.one (.bool (zBh (⟨zb9,zp5⟩:far) (⟨zbM,zfd⟩:far)))]
  | _=>.no
theorem zEG:zar Tryd.prog 105:=⟨_,rfl,rfl,by kernel_rfl⟩
theorem zLG:Ok Tryd.prog 105 zvM:=zbl zIV zEG λ args K h=>by
  unfold zvM at h
  split at h
  · rename_i zb9 zp5 zbM zfd
    have hk:=h
    exact⟨(λ _ _=>[]),(λ _=>false),zCE,zNH (⟨zb9,zp5⟩:far) (⟨zbM,zfd⟩:far) K hk⟩
  · exact h.elim
abbrev zM4:Tabs:=(Tabs.nil.addF 105 zvM)
theorem zIW:TabsOk Tryd.prog zM4:=(TabsOk.nil.addF zLG)
abbrev zM5:Ctrs:=csm zM4 (λ _ _=>[]) (λ _=>false)
def zvN:Ann:=⟨22,[(0,zK [0,2,4,6] [4,6]),(1,zK [0,4,6,9,10,11] [4,6]),(2,zK [0,4,6,9,10,11,12] [4,6]),(3,zK [0,4,6,8,9,10,11] [4,6,8]),(4,zK [0,4,6,8,9,10,11,18] [4,6,8]),(5,zK [0,4,6,9,10,11] [4,6]),(6,zK [0,4,6,9,10,11] [4,6]),(7,zK [6] [6])],
 [(2,zK [0,4,6,9,10,11] [4,6])],
 [(5,zK [0,4,6,8,9,10,11,18] [4,6,8])],
 [],[]⟩
abbrev zNI:=far
abbrev zLd (r:zNI):List PA:=[.agg [.int .i64 r.length,.int .i64 r.uses]]
@[irreducible] def z104:=ptF Tryd.prog zM5 zvN Tryd.f104
def zvO (others:(Sl far)) (zaS:Int) (zbd:Int) (zbe:Int):St:=⟨[(0,zP (.fn 105 [] [])),(4,zp 4 0),(6,zp 6 0),(9,zS zb6 2 others),(10,zI (others.len:Int)),(11,zI zaS)],[(4,.box 114 (zm (zb6 (⟨zbd,zbe⟩:far)))),(6,.box 114 (zm (zb6 (⟨(0:Int),(0:Int)⟩:far))))],[]⟩
abbrev zvP (K:List PA->Prop) (others:(Sl far)) (X:St->Prop) (P:Int->Int->Int->Bool) (S:Int->Int->Int->far):Prop:=∀ ⦃zaS:Int⦄ ⦃zbd:Int⦄ ⦃zbe:Int⦄,P zaS zbd zbe=true->K (zLd (S zaS zbd zbe))->X (zvO others zaS zbd zbe)
section
variable {K:List PA->Prop}{first:far}{others:(Sl far)}{zaS:Int}{zbd:Int}{zbe:Int}{X0:St->Prop}{P0:Int->Int->Int->Bool}{S0:Int->Int->Int->far}{zcy:Int}{zcW:Bool}{zdW:Int}{zdX:Int}{zp6:Int}{zp7:Int}
def zm8 (S0:Int->Int->Int->far) (others:(Sl far)) (zcy:Int) (zcW:Bool) (zdW:Int) (zdX:Int) (zp6:Int) (zp7:Int):far :=
  (cond zcW
 (S0 (w64 (zcy+(1:Int))) zp6 zp7)
 (S0 (w64 (zcy+(1:Int))) zdW zdX))
def zm9 (P0:Int->Int->Int->Bool) (others:(Sl far)) (zcy:Int) (zcW:Bool) (zdW:Int) (zdX:Int) (zp6:Int) (zp7:Int):Bool :=
  (cond zcW
 (P0 (w64 (zcy+(1:Int))) zp6 zp7)
 (P0 (w64 (zcy+(1:Int))) zdW zdX))
theorem zBi (hX0:zvP K others X0 P0 S0) (hs:zm9 P0 others zcy zcW zdW zdX zp6 zp7=true) (hk:K (zLd (zm8 S0 others zcy zcW zdW zdX zp6 zp7))):z104 K [1,0,1,0,0,1,1,0,0,1,1] [X0] ⟨[(0,zP (.fn 105 [] [])),(4,zp 4 0),(6,zp 6 0),(8,zp 8 0),(9,zS zb6 2 others),(10,zI (others.len:Int)),(11,zI zcy),(18,zB zcW)],[(4,.box 114 (zm (zb6 (⟨zdW,zdX⟩:far)))),(6,.box 114 (zm (zb6 (⟨(0:Int),(0:Int)⟩:far)))),(8,.box 114 (zm (zb6 (⟨zp6,zp7⟩:far))))],[]⟩:=za0 (by kernel_rfl) (zc hs hk (λ hs hk=>(hX0 hs hk)) (λ hs hk=>(hX0 hs hk)))
def zgl (others:(Sl far)) (S0:Int->Int->Int->far) (zaS:Int) (zbd:Int) (zbe:Int):far :=
  (cond (decide (zaS < (others.len : Int)))
 (zm8 S0 others zaS (zBh (others.get zaS.toNat) (⟨zbd,zbe⟩:far)) zbd zbe ((others.get zaS.toNat).length) ((others.get zaS.toNat).uses))
 (⟨zbd,zbe⟩:far))
def zgm (others:(Sl far)) (P0:Int->Int->Int->Bool) (zaS:Int) (zbd:Int) (zbe:Int):Bool :=
  (cond (decide (zaS < (others.len : Int)))
 (decide ((0<=zaS/\zaS < (others.len:Int))) &&
 (zm9 P0 others zaS (zBh (others.get zaS.toNat) (⟨zbd,zbe⟩:far)) zbd zbe ((others.get zaS.toNat).length) ((others.get zaS.toNat).uses)))
 true)
def zgn (others:(Sl far)):Nat->Int->Int->Int->far:=lpO (λ _ _ _=>default) (zgl others)
def zgo (others:(Sl far)):Nat->Int->Int->Int->Bool:=lpO (λ _ _ _=>false) (zgm others)
def zna (others:(Sl far)) (zaS:Int) (zbd:Int) (zbe:Int):far:=zgn others Fuel zaS zbd zbe
def znb (others:(Sl far)) (zaS:Int) (zbd:Int) (zbe:Int):Bool:=zgo others Fuel zaS zbd zbe
theorem zBj (hs:znb others zaS zbd zbe=true) (hk:K (zLd (zna others zaS zbd zbe))):z104 K [1,0,1,0] [] (zvO others zaS zbd zbe) :=
  zl (λ X=>z104 K [1,0,1,0,0] [X]) (by kernel_rfl) λ X0 hX =>
  (show ∀ k, zvP K others X0 (zgo others k) (zgn others k) from zeu _ _ (zgm others) (zgl others) (zvP K others X0)
 (by intro _ _ _ hs;exact absurd hs dqk)
 (by intro P0 S0 hX0 zaS zbd zbe hs hk;exact hX _ (za0 (by kernel_rfl) (zc hs hk (λ hs hk=>(zaN hs λ hc hs=>And.intro hc (zBi hX0 hs hk))) (λ hs hk=>hk))))) _ hs hk
def zeP (first:far) (others:(Sl far)):far :=
  (zna others (0:Int) first.length first.uses)
def zCF (first:far) (others:(Sl far)):Bool :=
  (znb others (0:Int) first.length first.uses)
end
theorem zNJ (first:far) (others:(Sl far)) (K:List PA->Prop) (hs:zCF first others=true) (hk:K (zLd (zeP first others))):vcFun Tryd.prog zM5 zvN 104 [.one (.fn 105 [] []),.agg (zb6 first),.one (.sl others.len 2 (λ i=>zb6 (others.get i)))] K :=
  za0 (by kernel_rfl) (zBj hs hk)
def zoF : List PA → COut
  | [.one (.fn 105 [] []),.agg [.int .i64 zbM,.int .i64 zfd],.one (.sl zIX zM6 zIY)]=>.det (IsE zb6 2 zM6 zIY/\zCF (⟨zbM,zfd⟩:far) (⟨zIX,zjL zIY⟩:(Sl far))=true) [.agg [.int .i64 ((zeP (⟨zbM,zfd⟩:far) (⟨zIX,zjL zIY⟩:(Sl far))).length),.int .i64 ((zeP (⟨zbM,zfd⟩:far) (⟨zIX,zjL zIY⟩:(Sl far))).uses)]]
  | _=>.no
theorem zEH:zar Tryd.prog 104:=⟨_,rfl,rfl,by kernel_rfl⟩
theorem zEI:Ok Tryd.prog 104 zoF:=zbl zIW zEH λ args K h=>by
  unfold zoF at h
  split at h
  · rename_i zbM zfd zIX zM6 zIY
    obtain⟨⟨⟨rfl,zLH,rfl⟩,hs⟩,hk⟩:=h
    try rw[zjj zLH] at hs
    try rw[zjj zLH] at hk
    exact⟨(λ _ _=>[]),(λ _=>false),zvN,zNJ (⟨zbM,zfd⟩:far) (⟨zIX,zLH⟩:(Sl far)) K hs hk⟩
  · exact h.elim
abbrev zM7:Tabs:=(((Tabs.nil.addF 93 zoC).addF 104 zoF).addI 110 zoE)
theorem zIZ:TabsOk Tryd.prog zM7:=(((TabsOk.nil.addF zHR).addF zEI).addI ztE)
abbrev zLe:Ctrs:=csm zM7 (λ _ _=>[]) (λ _=>false)
def zoG:Ann:=⟨91,[(0,zK [0,2,4] [4]),(1,zK [0,2,4,7] [4,7,15]),(2,zK [0,2,4,7,17,18] [4,7,15]),(3,zK [0,2,4,7,17,18,19] [4,7,15]),(4,zK [0,2,4,7,8,17,18] [4,7,15]),(5,zK [0,2,4,7,8,17,18,21] [4,7,15]),(6,zK [0,2,4,7,8,17,18,21,22] [4,7,15]),(7,zK [0,2,4,7,8,9,17,18,21] [4,7,15]),(8,zK [0,2,4,7,8,17,18,21] [4,7,15]),(9,zK [0,2,4,7,8,17,18,21] [4,7,15]),(10,zK [0,2,4,7,17,18] [4,7,15]),(11,zK [0,2,4,7] [4,7,15]),(12,zK [0,2,4,7,10] [4,7,10,15]),(13,zK [0,2,4,7,10,39] [4,7,10,15]),(14,zK [0,2,4,7,10] [4,7,10,15]),(15,zK [0,2,4,7,10,43] [4,7,10,15]),(16,zK [0,2,4,7,10,11,43] [4,7,10,11,15]),(17,zK [0,2,4,7,10,11,12,43] [4,7,10,11,12,15]),(18,zK [0,2,4,7,10,11,12,43,67] [4,7,10,11,12,15]),(19,zK [0,2,4,7,10,43] [4,7,10,15]),(20,zK [0,2,4,7,89] [4,7,15]),(21,zK [0,2,4,7,10] [4,7,10,15]),(22,zK [6] [15])],
 [(3,zK [0,2,4,7,17,18] [4,7,15]),(6,zK [0,2,4,7,8,17,18,21] [4,7,15]),(13,zK [0,2,4,7,10] [4,7,10,15]),(16,zK [0,2,4,7,10,43] [4,7,10,15])],
 [(11,zK [0,2,4,7] [4,7,15])],
 [],[]⟩
abbrev zNK:=(Sl Tab)
abbrev zAf (r:zNK):List PA:=[.one (.sl r.len 80 (λ i=>zal (r.get i)))]
@[irreducible] def z106:=ptF Tryd.prog zLe zoG Tryd.f106
@[irreducible] def x106:=exF Tryd.prog zLe zoG Tryd.f106
@[irreducible] def y106:=rnF Tryd.prog zLe zoG Tryd.f106
def zvQ (w:web) (node:Int) (uses:Int) (zd5:Int) (zd6:(Sl Tab)) (zfL:Nat->List PV):St:=⟨[(0,zP (.fp (zaB w) 0)),(2,zI uses),(4,zp 4 0),(7,zp 7 0),(17,zI ((w64 (uses+(1:Int))).toNat:Int)),(18,zI zd5)],[(4,.box 3 [zi node]),(7,.box 159 [.vec 15]),(15,.vec 116 80 640 zd6.len zfL)],[]⟩
abbrev zvR (K:List PA->Prop) (w:web) (node:Int) (uses:Int) (X:St->Prop) (P:Int->(Sl Tab)->Bool) (S:Int->(Sl Tab)->(Sl Tab)):Prop:=∀ ⦃zd5:Int⦄ ⦃zd6:(Sl Tab)⦄ ⦃zfL:Nat->List PV⦄,P zd5 zd6=true->K (zAf (S zd5 zd6))->zfL=zg zal zd6->X (zvQ w node uses zd5 zd6 zfL)
def zvS (w:web) (node:Int) (uses:Int) (iv1:Int) (zcW:Int) (zdl:Int) (zcI:(Sl Tab)) (zfM:Nat->List PV):St:=⟨[(0,zP (.fp (zaB w) 0)),(2,zI uses),(4,zp 4 0),(7,zp 7 0),(8,zI iv1),(17,zI ((w64 (uses+(1:Int))).toNat:Int)),(18,zI zcW),(21,zI zdl)],[(4,.box 3 [zi node]),(7,.box 159 [.vec 15]),(15,.vec 116 80 640 zcI.len zfM)],[]⟩
abbrev zCG (K:List PA->Prop) (w:web) (node:Int) (uses:Int) (X:St->Prop) (P:Int->Int->Int->(Sl Tab)->Bool) (S:Int->Int->Int->(Sl Tab)->(Sl Tab)):Prop:=∀ ⦃iv1:Int⦄ ⦃zcW:Int⦄ ⦃zdl:Int⦄ ⦃zcI:(Sl Tab)⦄ ⦃zfM:Nat->List PV⦄,P iv1 zcW zdl zcI=true->K (zAf (S iv1 zcW zdl zcI))->zfM=zg zal zcI->X (zvS w node uses iv1 zcW zdl zcI zfM)
def zvT (w:web) (node:Int) (uses:Int) (kv3:Int) (zev:(Sl Tab)) (zfN:Nat->List PV):St:=⟨[(0,zP (.fp (zaB w) 0)),(2,zI uses),(4,zp 4 0),(7,zp 7 0),(10,zp 10 0)],[(4,.box 3 [zi node]),(7,.box 159 [.vec 15]),(10,.box 3 [zi kv3]),(15,.vec 116 80 640 zev.len zfN)],[]⟩
abbrev zvU (K:List PA->Prop) (w:web) (node:Int) (uses:Int) (X:St->Prop) (P:Int->(Sl Tab)->Bool) (S:Int->(Sl Tab)->(Sl Tab)):Prop:=∀ ⦃kv3:Int⦄ ⦃zev:(Sl Tab)⦄ ⦃zfN:Nat->List PV⦄,P kv3 zev=true->K (zAf (S kv3 zev))->zfN=zg zal zev->X (zvT w node uses kv3 zev zfN)
def zp8 (w:web) (node:Int) (uses:Int) (kv4:Int) (za4:(Sl Tab)) (zew:Nat->List PV):St:=⟨[(0,zP (.fp (zaB w) 0)),(2,zI uses),(4,zp 4 0),(7,zp 7 0),(10,zp 10 0),(43,zP (.fn 110 [] [.fp [.fp (zaB w) 0] 0]))],[(4,.box 3 [zi node]),(7,.box 159 [.vec 15]),(10,.box 3 [zi kv4]),(15,.vec 116 80 640 za4.len zew)],[]⟩
abbrev zCH (K:List PA->Prop) (w:web) (node:Int) (uses:Int) (X:St->Prop) (P:Int->(Sl Tab)->Bool) (S:Int->(Sl Tab)->(Sl Tab)):Prop:=∀ ⦃kv4:Int⦄ ⦃za4:(Sl Tab)⦄ ⦃zew:Nat->List PV⦄,P kv4 za4=true->K (zAf (S kv4 za4))->zew=zg zal za4->X (zp8 w node uses kv4 za4 zew)
section
variable {K:List PA->Prop}{w:web}{node:Int}{uses:Int}{zd5:Int}{zd6:(Sl Tab)}{zfL:Nat->List PV}{X0:St->Prop}{P0:Int->(Sl Tab)->Bool}{S0:Int->(Sl Tab)->(Sl Tab)}{iv1:Int}{zcW:Int}{zdl:Int}{zcI:(Sl Tab)}{zfM:Nat->List PV}{X1:St->Prop}{P1:Int->Int->Int->(Sl Tab)->Bool}{S1:Int->Int->Int->(Sl Tab)->(Sl Tab)}{zfO:(Sl Tab)}{zvV:Nat->List PV}{kv3:Int}{zev:(Sl Tab)}{zfN:Nat->List PV}{X3:St->Prop}{P3:Int->(Sl Tab)->Bool}{S3:Int->(Sl Tab)->(Sl Tab)}{kv4:Int}{za4:(Sl Tab)}{zew:Nat->List PV}
def zBk (S3:Int->(Sl Tab)->(Sl Tab)) (w:web) (node:Int) (uses:Int) (kv4:Int) (za4:(Sl Tab)):(Sl Tab) :=
  (S3 (w64 (kv4+(1:Int))) za4)
def zBl (P3:Int->(Sl Tab)->Bool) (w:web) (node:Int) (uses:Int) (kv4:Int) (za4:(Sl Tab)):Bool :=
  (P3 (w64 (kv4+(1:Int))) za4)
def zjM (S3:Int->(Sl Tab)->(Sl Tab)) (w:web) (node:Int) (uses:Int) (y4:step) (S4:Int->(Sl Tab)->(Sl Tab)) (kv4:Int) (za4:(Sl Tab)):(Sl Tab) :=
  (cond (decide (y4.from_ >= node))
 (cond (decide (y4.to >= node))
 (cond (!(nvr (tg 80 (za4.get ((w64 (kv4 - (1:Int))).toNat)) (0 + y4.to.toNat * 2 + 0)) (tg 80 (za4.get ((w64 (kv4 - (1:Int))).toNat)) (0 + y4.to.toNat * 2 + 0 + 1))))
 (S4 kv4 (⟨za4.len,(setT kv4.toNat (ts 80 (za4.get kv4.toNat) (0+y4.from_.toNat * 2+0) [(zeP (⟨(tL (za4.get kv4.toNat) y4.from_),(tU (za4.get kv4.toNat) y4.from_)⟩:far) (⟨1,λ _=>(⟨(w64 ((tg 80 (za4.get ((w64 (kv4 - (1:Int))).toNat)) (0+y4.to.toNat * 2+0))+y4.length)),(0:Int)⟩:far)⟩:(Sl far))).length,(zeP (⟨(tL (za4.get kv4.toNat) y4.from_),(tU (za4.get kv4.toNat) y4.from_)⟩:far) (⟨1,λ _=>(⟨(w64 ((tg 80 (za4.get ((w64 (kv4 - (1:Int))).toNat)) (0+y4.to.toNat * 2+0))+y4.length)),(0:Int)⟩:far)⟩:(Sl far))).uses]) za4.get)⟩:Sl Tab))
 (S4 kv4 za4))
 (S4 kv4 za4))
 (S4 kv4 za4))
def zjN (P3:Int->(Sl Tab)->Bool) (w:web) (node:Int) (uses:Int) (y4:step) (P4:Int->(Sl Tab)->Bool) (kv4:Int) (za4:(Sl Tab)):Bool :=
  (decide ((0<=(w64 (kv4 - (1:Int)))/\(w64 (kv4 - (1:Int))) < (za4.len:Int))) &&
 (decide ((0<=y4.to/\y4.to < (40:Int))) &&
 (decide (((w64 (kv4 - (1:Int))).toNat < za4.len)) &&
 (cond (decide (y4.from_ >= node))
 (cond (decide (y4.to >= node))
 (cond (!(nvr (tg 80 (za4.get ((w64 (kv4 - (1:Int))).toNat)) (0 + y4.to.toNat * 2 + 0)) (tg 80 (za4.get ((w64 (kv4 - (1:Int))).toNat)) (0 + y4.to.toNat * 2 + 0 + 1))))
 (decide ((0<=kv4/\kv4 < (za4.len:Int))) &&
 (decide ((0<=y4.from_/\y4.from_ < (40:Int))) &&
 (decide ((kv4.toNat < za4.len)) &&
 (decide ((zCF (⟨(tL (za4.get kv4.toNat) y4.from_),(tU (za4.get kv4.toNat) y4.from_)⟩:far) (⟨1,λ _=>(⟨(w64 ((tg 80 (za4.get ((w64 (kv4 - (1:Int))).toNat)) (0+y4.to.toNat * 2+0))+y4.length)),(0:Int)⟩:far)⟩:(Sl far))=true)) &&
 (decide ((0<=kv4/\kv4 < (za4.len:Int))) &&
 (decide ((0<=y4.from_/\y4.from_ < (40:Int))) &&
 (decide ((kv4.toNat < za4.len)) &&
 (P4 kv4 (⟨za4.len,(setT kv4.toNat (ts 80 (za4.get kv4.toNat) (0+y4.from_.toNat * 2+0) [(zeP (⟨(tL (za4.get kv4.toNat) y4.from_),(tU (za4.get kv4.toNat) y4.from_)⟩:far) (⟨1,λ _=>(⟨(w64 ((tg 80 (za4.get ((w64 (kv4 - (1:Int))).toNat)) (0+y4.to.toNat * 2+0))+y4.length)),(0:Int)⟩:far)⟩:(Sl far))).length,(zeP (⟨(tL (za4.get kv4.toNat) y4.from_),(tU (za4.get kv4.toNat) y4.from_)⟩:far) (⟨1,λ _=>(⟨(w64 ((tg 80 (za4.get ((w64 (kv4 - (1:Int))).toNat)) (0+y4.to.toNat * 2+0))+y4.length)),(0:Int)⟩:far)⟩:(Sl far))).uses]) za4.get)⟩:Sl Tab)))))))))
 (P4 kv4 za4))
 (P4 kv4 za4))
 (P4 kv4 za4)))))
def zjO (S3:Int->(Sl Tab)->(Sl Tab)) (w:web) (node:Int) (uses:Int):List step->Int->(Sl Tab)->(Sl Tab):=lpR (zBk S3 w node uses) (zjM S3 w node uses)
def zjP (P3:Int->(Sl Tab)->Bool) (w:web) (node:Int) (uses:Int):List step->Int->(Sl Tab)->Bool:=lpR (zBl P3 w node uses) (zjN P3 w node uses)
def znc (S3:Int->(Sl Tab)->(Sl Tab)) (w:web) (node:Int) (uses:Int) (kv4:Int) (za4:(Sl Tab)):(Sl Tab):=zjO S3 w node uses (zkV w) kv4 za4
def znd (P3:Int->(Sl Tab)->Bool) (w:web) (node:Int) (uses:Int) (kv4:Int) (za4:(Sl Tab)):Bool:=decide ((ztP w=true)) && zjP P3 w node uses (zkV w) kv4 za4
theorem zBm (hX3:zvU K w node uses X3 P3 S3) (hs:znd P3 w node uses kv4 za4=true) (hk:K (zAf (znc S3 w node uses kv4 za4))) (zkW:zew=zg zal za4):z106 K [1,1,1,1,0,1,0,0,1,0,0,1,0] [X3] (zp8 w node uses kv4 za4 zew) :=
  zaN hs λ hc hs=>zr (enc:=(λ y:step=>[.agg (zaD y)])) (ys:=zkV w) (g:=(zp8 w node uses kv4 za4 zew)) (x106 K [1,1,1,1,0,1,0,0,1,0,0,1,0] [X3]) (y106 K [1,1,1,1,0,1,0,0,1,0,0,1,0] [X3]) (by kernel_rfl) (And.intro (zE enc_40 4 w.Net.Ties.get) (And.intro (rfl:((false,1,false,[none]):MQ)=(false,1,false,[none])) hc)) λ X4 hE hR =>
  (show ∀ l : List step, zCH K w node uses (X4 (l.map (λ y : step => [.agg (zaD y)]))) (zjP P3 w node uses l) (zjO S3 w node uses l) from zri (X := X4) (enc := (λ y : step => [.agg (zaD y)])) _ _ (zjN P3 w node uses) (zjM S3 w node uses) (λ Z P S => zCH K w node uses Z P S)
 (by intro kv4 za4 zew hs hk zkW;subst zkW;exact hE _ (za0 (by kernel_rfl) (hX3 hs hk rfl)))
 (by intro y4 rest P4 S4 hX4 kv4 za4 zew hs hk zkW;subst zkW;exact hR _ rest _ (za0 (by kernel_rfl) (zaN hs λ hc hs=>And.intro hc (zaN hs λ hc hs=>And.intro hc (zaN hs λ hc hs=>And.intro hc (zc hs hk (λ hs hk=>(zc hs hk (λ hs hk=>(zc hs hk (λ hs hk=>(zaN hs λ hc hs=>And.intro hc (zaN hs λ hc hs=>And.intro hc (zaN hs λ hc hs=>And.intro hc (zaN hs λ hc hs=>And.intro (And.intro (zvs:IsE zb6 2 2 (λ _=>(zb6 (⟨(w64 ((tg 80 (za4.get ((w64 (kv4 - (1:Int))).toNat)) (0+y4.to.toNat * 2+0))+y4.length)),(0:Int)⟩:far)))) hc) (zaN hs λ hc hs=>And.intro hc (zaN hs λ hc hs=>And.intro hc (zaN hs λ hc hs=>And.intro hc (hX4 hs hk (zhD (enc:=zal) (i:=kv4.toNat) (k:=0) (f:=za4.get) (new:=(zal (ts 80 (za4.get kv4.toNat) (0+y4.from_.toNat * 2+0) [(zeP (⟨(tL (za4.get kv4.toNat) y4.from_),(tU (za4.get kv4.toNat) y4.from_)⟩:far) (⟨1,λ _=>(⟨(w64 ((tg 80 (za4.get ((w64 (kv4 - (1:Int))).toNat)) (0+y4.to.toNat * 2+0))+y4.length)),(0:Int)⟩:far)⟩:(Sl far))).length,(zeP (⟨(tL (za4.get kv4.toNat) y4.from_),(tU (za4.get kv4.toNat) y4.from_)⟩:far) (⟨1,λ _=>(⟨(w64 ((tg 80 (za4.get ((w64 (kv4 - (1:Int))).toNat)) (0+y4.to.toNat * 2+0))+y4.length)),(0:Int)⟩:far)⟩:(Sl far))).uses]))) (v:=(ts 80 (za4.get kv4.toNat) (0+y4.from_.toNat * 2+0) [(zeP (⟨(tL (za4.get kv4.toNat) y4.from_),(tU (za4.get kv4.toNat) y4.from_)⟩:far) (⟨1,λ _=>(⟨(w64 ((tg 80 (za4.get ((w64 (kv4 - (1:Int))).toNat)) (0+y4.to.toNat * 2+0))+y4.length)),(0:Int)⟩:far)⟩:(Sl far))).length,(zeP (⟨(tL (za4.get kv4.toNat) y4.from_),(tU (za4.get kv4.toNat) y4.from_)⟩:far) (⟨1,λ _=>(⟨(w64 ((tg 80 (za4.get ((w64 (kv4 - (1:Int))).toNat)) (0+y4.to.toNat * 2+0))+y4.length)),(0:Int)⟩:far)⟩:(Sl far))).uses])) rfl zm1)))))))))) (λ hs hk=>(hX4 hs hk rfl)))) (λ hs hk=>(hX4 hs hk rfl)))) (λ hs hk=>(hX4 hs hk rfl))))))))) _ hs hk zkW
def zgp (w:web) (node:Int) (uses:Int) (S3:Int->(Sl Tab)->(Sl Tab)) (kv3:Int) (zev:(Sl Tab)):(Sl Tab) :=
  (cond (decide (kv3 <= uses))
 (znc S3 w node uses kv3 zev)
 zev)
def zgq (w:web) (node:Int) (uses:Int) (P3:Int->(Sl Tab)->Bool) (kv3:Int) (zev:(Sl Tab)):Bool :=
  (cond (decide (kv3 <= uses))
 (znd P3 w node uses kv3 zev)
 true)
def zdc (w:web) (node:Int) (uses:Int):Nat->Int->(Sl Tab)->(Sl Tab):=lpO (λ _ _=>default) (zgp w node uses)
def zdG (w:web) (node:Int) (uses:Int):Nat->Int->(Sl Tab)->Bool:=lpO (λ _ _=>false) (zgq w node uses)
def zne (w:web) (node:Int) (uses:Int) (kv3:Int) (zev:(Sl Tab)):(Sl Tab):=zdc w node uses Fuel kv3 zev
def znf (w:web) (node:Int) (uses:Int) (kv3:Int) (zev:(Sl Tab)):Bool:=zdG w node uses Fuel kv3 zev
theorem zBn (hs:znf w node uses kv3 zev=true) (hk:K (zAf (zne w node uses kv3 zev))) (zp9:zfN=zg zal zev):z106 K [1,1,1,1,0,1,0] [] (zvT w node uses kv3 zev zfN) :=
  zl (λ X=>z106 K [1,1,1,1,0,1,0,0] [X]) (by kernel_rfl) λ X3 hX =>
  (show ∀ k, zvU K w node uses X3 (zdG w node uses k) (zdc w node uses k) from zeu _ _ (zgq w node uses) (zgp w node uses) (zvU K w node uses X3)
 (by intro _ _ _ hs;exact absurd hs dqk)
 (by intro P3 S3 hX3 kv3 zev zfN hs hk zp9;subst zp9;exact hX _ (za0 (by kernel_rfl) (zc hs hk (λ hs hk=>(And.intro (And.intro (zE enc_40 4 w.Net.Ties.get) (rfl:((false,1,false,[none]):MQ)=(false,1,false,[none]))) (zBm hX3 hs hk rfl))) (λ hs hk=>hk))))) _ hs hk zp9
def zjQ (w:web) (node:Int) (uses:Int) (zfO:(Sl Tab)):(Sl Tab) :=
  (zne w node uses (1:Int) (⟨zfO.len,(setT 0 (ts 80 (zfO.get 0) (0+node.toNat * 2+0) [(0:Int),(0:Int)]) zfO.get)⟩:Sl Tab))
def zjR (w:web) (node:Int) (uses:Int) (zfO:(Sl Tab)):Bool :=
  (decide ((0<=(0:Int)/\(0:Int) < (zfO.len:Int))) &&
 (decide ((0<=node/\node < (40:Int))) &&
 (decide ((0 < zfO.len)) &&
 (znf w node uses (1:Int) (⟨zfO.len,(setT 0 (ts 80 (zfO.get 0) (0+node.toNat * 2+0) [(0:Int),(0:Int)]) zfO.get)⟩:Sl Tab)))))
theorem zBo (hs:zjR w node uses zfO=true) (hk:K (zAf (zjQ w node uses zfO))) (zEJ:zvV=zg zal zfO):z106 K [1,1,1] [] ⟨[(0,zP (.fp (zaB w) 0)),(2,zI uses),(4,zp 4 0),(7,zp 7 0)],[(4,.box 3 [zi node]),(7,.box 159 [.vec 15]),(15,.vec 116 80 640 zfO.len zvV)],[]⟩:=by subst zEJ;exact za0 (by kernel_rfl) (zaN hs λ hc hs=>And.intro hc (zaN hs λ hc hs=>And.intro hc (zaN hs λ hc hs=>And.intro hc (zBn hs hk (zhD (enc:=zal) (i:=0) (k:=0) (f:=zfO.get) (new:=(zal (ts 80 (zfO.get 0) (0+node.toNat * 2+0) [(0:Int),(0:Int)]))) (v:=(ts 80 (zfO.get 0) (0+node.toNat * 2+0) [(0:Int),(0:Int)])) rfl zm1)))))
def zgr (S0:Int->(Sl Tab)->(Sl Tab)) (w:web) (node:Int) (uses:Int) (S1:Int->Int->Int->(Sl Tab)->(Sl Tab)) (iv1:Int) (zcW:Int) (zdl:Int) (zcI:(Sl Tab)):(Sl Tab) :=
  (cond (decide (zdl < (40:Int)))
 (S1 iv1 zcW (w64 (zdl+(1:Int))) (⟨zcI.len,(setT iv1.toNat (ts 80 (zcI.get iv1.toNat) (0+zdl.toNat * 2+0) [(1000000000000:Int),(0:Int)]) zcI.get)⟩:Sl Tab))
 (S0 (w64 (zcW+(1:Int))) zcI))
def zgs (P0:Int->(Sl Tab)->Bool) (w:web) (node:Int) (uses:Int) (P1:Int->Int->Int->(Sl Tab)->Bool) (iv1:Int) (zcW:Int) (zdl:Int) (zcI:(Sl Tab)):Bool :=
  (cond (decide (zdl < (40:Int)))
 (decide ((0<=iv1/\iv1 < (zcI.len:Int))) &&
 (decide ((0<=zdl/\zdl < (40:Int))) &&
 (decide ((iv1.toNat < zcI.len)) &&
 (P1 iv1 zcW (w64 (zdl+(1:Int))) (⟨zcI.len,(setT iv1.toNat (ts 80 (zcI.get iv1.toNat) (0+zdl.toNat * 2+0) [(1000000000000:Int),(0:Int)]) zcI.get)⟩:Sl Tab)))))
 (P0 (w64 (zcW+(1:Int))) zcI))
def zhH (S0:Int->(Sl Tab)->(Sl Tab)) (w:web) (node:Int) (uses:Int):Nat->Int->Int->Int->(Sl Tab)->(Sl Tab):=lpO (λ _ _ _ _=>default) (zgr S0 w node uses)
def zhI (P0:Int->(Sl Tab)->Bool) (w:web) (node:Int) (uses:Int):Nat->Int->Int->Int->(Sl Tab)->Bool:=lpO (λ _ _ _ _=>false) (zgs P0 w node uses)
def zsa (S0:Int->(Sl Tab)->(Sl Tab)) (w:web) (node:Int) (uses:Int) (iv1:Int) (zcW:Int) (zdl:Int) (zcI:(Sl Tab)):(Sl Tab):=zhH S0 w node uses Fuel iv1 zcW zdl zcI
def zsb (P0:Int->(Sl Tab)->Bool) (w:web) (node:Int) (uses:Int) (iv1:Int) (zcW:Int) (zdl:Int) (zcI:(Sl Tab)):Bool:=zhI P0 w node uses Fuel iv1 zcW zdl zcI
theorem zBp (hX0:zvR K w node uses X0 P0 S0) (hs:zsb P0 w node uses iv1 zcW zdl zcI=true) (hk:K (zAf (zsa S0 w node uses iv1 zcW zdl zcI))) (zqa:zfM=zg zal zcI):z106 K [1,1,0,1,0,0,1,1,0,0,1,1,0] [X0] (zvS w node uses iv1 zcW zdl zcI zfM) :=
  zl (λ X=>z106 K [1,1,0,1,0,0,1,1,0,0,1,1,0,0] [X0,X]) (by kernel_rfl) λ X1 hX =>
  (show ∀ k, zCG K w node uses X1 (zhI P0 w node uses k) (zhH S0 w node uses k) from zeu _ _ (zgs P0 w node uses) (zgr S0 w node uses) (zCG K w node uses X1)
 (by intro _ _ _ _ _ hs;exact absurd hs dqk)
 (by intro P1 S1 hX1 iv1 zcW zdl zcI zfM hs hk zqa;subst zqa;exact hX _ (za0 (by kernel_rfl) (zc hs hk (λ hs hk=>(zaN hs λ hc hs=>And.intro hc (zaN hs λ hc hs=>And.intro hc (zaN hs λ hc hs=>And.intro hc (hX1 hs hk (zhD (enc:=zal) (i:=iv1.toNat) (k:=0) (f:=zcI.get) (new:=(zal (ts 80 (zcI.get iv1.toNat) (0+zdl.toNat * 2+0) [(1000000000000:Int),(0:Int)]))) (v:=(ts 80 (zcI.get iv1.toNat) (0+zdl.toNat * 2+0) [(1000000000000:Int),(0:Int)])) rfl zm1)))))) (λ hs hk=>(hX0 hs hk rfl)))))) _ hs hk zqa
def zgt (w:web) (node:Int) (uses:Int) (S0:Int->(Sl Tab)->(Sl Tab)) (zd5:Int) (zd6:(Sl Tab)):(Sl Tab) :=
  (cond (decide (zd5 < ((w64 (uses + (1:Int))).toNat : Int)))
 (zsa S0 w node uses zd5 zd5 (0:Int) zd6)
 (zjQ w node uses zd6))
def zgu (w:web) (node:Int) (uses:Int) (P0:Int->(Sl Tab)->Bool) (zd5:Int) (zd6:(Sl Tab)):Bool :=
  (cond (decide (zd5 < ((w64 (uses + (1:Int))).toNat : Int)))
 (zsb P0 w node uses zd5 zd5 (0:Int) zd6)
 (zjR w node uses zd6))
def zgv (w:web) (node:Int) (uses:Int):Nat->Int->(Sl Tab)->(Sl Tab):=lpO (λ _ _=>default) (zgt w node uses)
def zgw (w:web) (node:Int) (uses:Int):Nat->Int->(Sl Tab)->Bool:=lpO (λ _ _=>false) (zgu w node uses)
def zng (w:web) (node:Int) (uses:Int) (zd5:Int) (zd6:(Sl Tab)):(Sl Tab):=zgv w node uses Fuel zd5 zd6
def znh (w:web) (node:Int) (uses:Int) (zd5:Int) (zd6:(Sl Tab)):Bool:=zgw w node uses Fuel zd5 zd6
theorem zBq (hs:znh w node uses zd5 zd6=true) (hk:K (zAf (zng w node uses zd5 zd6))) (zqb:zfL=zg zal zd6):z106 K [1,1,0,1,0] [] (zvQ w node uses zd5 zd6 zfL) :=
  zl (λ X=>z106 K [1,1,0,1,0,0] [X]) (by kernel_rfl) λ X0 hX =>
  (show ∀ k, zvR K w node uses X0 (zgw w node uses k) (zgv w node uses k) from zeu _ _ (zgu w node uses) (zgt w node uses) (zvR K w node uses X0)
 (by intro _ _ _ hs;exact absurd hs dqk)
 (by intro P0 S0 hX0 zd5 zd6 zfL hs hk zqb;subst zqb;exact hX _ (za0 (by kernel_rfl) (zc hs hk (λ hs hk=>(zBp hX0 hs hk rfl)) (λ hs hk=>(zBo hs hk rfl)))))) _ hs hk zqb
def zsc (w:web) (node:Int) (uses:Int):(Sl Tab) :=
  (zng w node uses (0:Int) (⟨(w64 (uses+(1:Int))).toNat,(λ _=>(λ _=>(0:Int)))⟩:Sl Tab))
def zHS (w:web) (node:Int) (uses:Int):Bool :=
  (decide ((0<=(w64 (uses+(1:Int)))/\(w64 (uses+(1:Int)))=(w64 (uses+(1:Int)))/\(w64 (uses+(1:Int)))<=1000000)) &&
 (znh w node uses (0:Int) (⟨(w64 (uses+(1:Int))).toNat,(λ _=>(λ _=>(0:Int)))⟩:Sl Tab)))
end
theorem zNL (w:web) (node:Int) (uses:Int) (K:List PA->Prop) (hs:zHS w node uses=true) (hk:K (zAf (zsc w node uses))):vcFun Tryd.prog zLe zoG 106 [.one (.fp (zaB w) 0),.one (.int .i64 node),.one (.int .i64 uses)] K :=
  za0 (by kernel_rfl) (zaN hs λ hc hs=>And.intro hc (zBq hs hk rfl))
def zvW : List PA → COut
  | [.one (.fp [.int .i64 zak,.sl zah zaA zai,.fm za7 zaH zaI] 0),.one (.int .i64 a1),.one (.int .i64 a2)]=>.det (IsE enc_40 4 zaA zai/\za7=(false,1,false,[none])/\zHS (⟨(⟨zak,(⟨zah,zam zai⟩:(Sl Tie))⟩:Net),(⟨zaH,zaI⟩:Mp)⟩:web) a1 a2=true) [.one (.sl ((zsc (⟨(⟨zak,(⟨zah,zam zai⟩:(Sl Tie))⟩:Net),(⟨zaH,zaI⟩:Mp)⟩:web) a1 a2).len) 80 (λ i=>zal ((zsc (⟨(⟨zak,(⟨zah,zam zai⟩:(Sl Tie))⟩:Net),(⟨zaH,zaI⟩:Mp)⟩:web) a1 a2).get i)))]
  | _=>.no
theorem zEK:zar Tryd.prog 106:=⟨_,rfl,rfl,by kernel_rfl⟩
theorem zLI:Ok Tryd.prog 106 zvW:=zbl zIZ zEK λ args K h=>by
  unfold zvW at h
  split at h
  · rename_i zak zah zaA zai za7 zaH zaI a1 a2
    obtain⟨⟨⟨rfl,zaq,rfl⟩,rfl,hs⟩,hk⟩:=h
    try rw[zan zaq] at hs
    try rw[zan zaq] at hk
    exact⟨(λ _ _=>[]),(λ _=>false),zoG,zNL (⟨(⟨zak,(⟨zah,zaq⟩:(Sl Tie))⟩:Net),(⟨zaH,zaI⟩:Mp)⟩:web) a1 a2 K hs hk⟩
  · exact h.elim
abbrev zM8:Tabs:=Tabs.nil
theorem zI0:TabsOk Tryd.prog zM8:=TabsOk.nil
abbrev zM9:Ctrs:=csm zM8 (λ _ _=>[]) (λ _=>false)
def zvX:Ann:=⟨18,[(0,zK [0] []),(1,zK [0,3] []),(2,zK [3,6,7,8] []),(3,zK [3,6,7,8,9] []),(4,zK [3,5,6,7,8] []),(5,zK [3,5,6,7,8,14] []),(6,zK [2] []),(7,zK [3,6,7,8] []),(8,zK [2] [])],
 [(3,zK [3,6,7,8] [])],
 [],
 [],[]⟩
abbrev zNM:=Int
abbrev zLJ (r:zNM):List PA:=[.one (.int .i64 r)]
@[irreducible] def z100:=ptF Tryd.prog zM9 zvX Tryd.f100
def zvY (vals:(Sl Int)) (zdy:Int):St:=⟨[(3,zI (0:Int)),(6,zS zac 1 vals),(7,zI (vals.len:Int)),(8,zI zdy)],[],[]⟩
abbrev zCI (K:List PA->Prop) (vals:(Sl Int)) (X:St->Prop) (P:Int->Bool) (S:Int->Int):Prop:=∀ ⦃zdy:Int⦄,P zdy=true->K (zLJ (S zdy))->X (zvY vals zdy)
section
variable {K:List PA->Prop}{vals:(Sl Int)}{zdy:Int}{X0:St->Prop}{P0:Int->Bool}{S0:Int->Int}
def zsd (vals:(Sl Int)) (S0:Int->Int) (zdy:Int):Int :=
  (cond (decide (zdy < (vals.len : Int)))
 (cond ((vals.get zdy.toNat) != (0:Int))
 (vals.get zdy.toNat)
 (S0 (w64 (zdy+(1:Int)))))
 (0:Int))
def zgx (vals:(Sl Int)) (P0:Int->Bool) (zdy:Int):Bool :=
  (cond (decide (zdy < (vals.len : Int)))
 (decide ((0<=zdy/\zdy < (vals.len:Int))) &&
 (cond ((vals.get zdy.toNat) != (0:Int))
 true
 (P0 (w64 (zdy+(1:Int))))))
 true)
def zse (vals:(Sl Int)):Nat->Int->Int:=lpO (λ _=>default) (zsd vals)
def zhJ (vals:(Sl Int)):Nat->Int->Bool:=lpO (λ _=>false) (zgx vals)
def zsf (vals:(Sl Int)) (zdy:Int):Int:=zse vals Fuel zdy
def zsg (vals:(Sl Int)) (zdy:Int):Bool:=zhJ vals Fuel zdy
theorem zBr (hs:zsg vals zdy=true) (hk:K (zLJ (zsf vals zdy))):z100 K [1,1,0,1,0] [] (zvY vals zdy) :=
  zl (λ X=>z100 K [1,1,0,1,0,0] [X]) (by kernel_rfl) λ X0 hX =>
  (show ∀ k, zCI K vals X0 (zhJ vals k) (zse vals k) from zeu _ _ (zgx vals) (zsd vals) (zCI K vals X0)
 (by intro _ hs;exact absurd hs dqk)
 (by intro P0 S0 hX0 zdy hs hk;exact hX _ (za0 (by kernel_rfl) (zc hs hk (λ hs hk=>(zaN hs λ hc hs=>And.intro hc (zc hs hk (λ hs hk=>hk) (λ hs hk=>(hX0 hs hk))))) (λ hs hk=>hk))))) _ hs hk
def zLK (vals:(Sl Int)):Int :=
  (zsf vals (0:Int))
def zLf (vals:(Sl Int)):Bool :=
  (zsg vals (0:Int))
end
theorem zNN (vals:(Sl Int)) (K:List PA->Prop) (hs:zLf vals=true) (hk:K (zLJ (zLK vals))):vcFun Tryd.prog zM9 zvX 100 [.one (.sl vals.len 1 (λ i=>zac (vals.get i)))] K :=
  za0 (by kernel_rfl) (zBr hs hk)
def zvZ : List PA → COut
  | [.one (.sl zeR zkX zeS)]=>.det (IsE zac 1 zkX zeS/\zLf (⟨zeR,zaw zeS⟩:(Sl Int))=true) [.one (.int .i64 (zLK (⟨zeR,zaw zeS⟩:(Sl Int))))]
  | _=>.no
theorem zEL:zar Tryd.prog 100:=⟨_,rfl,rfl,by kernel_rfl⟩
theorem zLL:Ok Tryd.prog 100 zvZ:=zbl zI0 zEL λ args K h=>by
  unfold zvZ at h
  split at h
  · rename_i zeR zkX zeS
    obtain⟨⟨⟨rfl,zg2,rfl⟩,hs⟩,hk⟩:=h
    try rw[zbr zg2] at hs
    try rw[zbr zg2] at hk
    exact⟨(λ _ _=>[]),(λ _=>false),zvX,zNN (⟨zeR,zg2⟩:(Sl Int)) K hs hk⟩
  · exact h.elim
abbrev zNa:Tabs:=Tabs.nil
theorem zI1:TabsOk Tryd.prog zNa:=TabsOk.nil
abbrev zNO:Ctrs:=csm zNa (λ _ _=>[]) (λ _=>false)
def zCJ:Ann:=⟨6,[(0,zK [0] []),(1,zK [2] [])],
 [],
 [],
 [],[]⟩
abbrev zNP:=Bool
abbrev zNQ (r:zNP):List PA:=[.one (.bool r)]
section
variable {K:List PA->Prop}{x:Int}
def zBs (x:Int):Bool :=
  (x != x)
end
theorem zNR (x:Int) (K:List PA->Prop) (hk:K (zNQ (zBs x))):vcFun Tryd.prog zNO zCJ 114 [.one (.int .i64 x)] K :=
  za0 (by kernel_rfl) hk
def zv0 : List PA → COut
  | [.one (.int .i64 a0)]=>.tot [.one (.bool (zBs a0))]
  | _=>.no
theorem zEM:zar Tryd.prog 114:=⟨_,rfl,rfl,by kernel_rfl⟩
theorem zLM:Ok Tryd.prog 114 zv0:=zbl zI1 zEM λ args K h=>by
  unfold zv0 at h
  split at h
  · rename_i a0
    have hk:=h
    exact⟨(λ _ _=>[]),(λ _=>false),zCJ,zNR a0 K hk⟩
  · exact h.elim
abbrev zNb:Tabs:=(Tabs.nil.addF 114 zv0)
theorem zI2:TabsOk Tryd.prog zNb:=(TabsOk.nil.addF zLM)
abbrev zNS:Ctrs:=csm zNb (λ _ _=>[]) (λ _=>false)
def zCK:Ann:=⟨20,[(0,zK [0,1] []),(1,zK [0,1,5] []),(2,zK [0,1,5,6] []),(3,zK [0,1,6,11] []),(4,zK [12] []),(5,zK [4] []),(6,zK [4] []),(7,zK [0,1,13] []),(8,zK [4] []),(9,zK [0,1,16] []),(10,zK [4] []),(11,zK [19] []),(12,zK [4] []),(13,zK [4] [])],
 [],
 [],
 [],[]⟩
abbrev zNT:=Int
abbrev zNU (r:zNT):List PA:=[.one (.int .i64 r)]
section
variable {K:List PA->Prop}{x:Int}{y_a1:Int}
def ztQ (x:Int) (y_a1:Int):Int :=
  (cond (zBs x)
 (cond (zBs y_a1)
 (0:Int)
 (-1:Int))
 (cond (zBs y_a1)
 (1:Int)
 (cond (decide (x < y_a1))
 (-1:Int)
 (cond (decide (x > y_a1))
 (1:Int)
 (0:Int)))))
end
theorem zNV (x:Int) (y_a1:Int) (K:List PA->Prop) (hk:K (zNU (ztQ x y_a1))):vcFun Tryd.prog zNS zCK 101 [.one (.int .i64 x),.one (.int .i64 y_a1)] K :=
  za0 (by kernel_rfl) (zt hk (λ hk=>(zt hk (λ hk=>hk) (λ hk=>hk))) (λ hk=>(zt hk (λ hk=>hk) (λ hk=>(zt hk (λ hk=>hk) (λ hk=>(zt hk (λ hk=>hk) (λ hk=>hk))))))))
def zsh : List PA → COut
  | [.one (.int .i64 a0),.one (.int .i64 a1)]=>.tot [.one (.int .i64 (ztQ a0 a1))]
  | _=>.no
theorem zEN:zar Tryd.prog 101:=⟨_,rfl,rfl,by kernel_rfl⟩
theorem zI3:Ok Tryd.prog 101 zsh:=zbl zI2 zEN λ args K h=>by
  unfold zsh at h
  split at h
  · rename_i a0 a1
    have hk:=h
    exact⟨(λ _ _=>[]),(λ _=>false),zCK,zNV a0 a1 K hk⟩
  · exact h.elim
abbrev zNc:Tabs:=Tabs.nil
theorem zI4:TabsOk Tryd.prog zNc:=TabsOk.nil
abbrev zNW:Ctrs:=csm zNc (λ _ _=>[]) (λ _=>false)
def zCL:Ann:=⟨6,[(0,zK [1] [1]),(1,zK [5] []),(2,zK [2] []),(3,zK [2] [])],
 [],
 [],
 [],[]⟩
abbrev zNX:=Int
abbrev e118 (r:zNX):List PA:=[.one (.int .i64 r)]
section
variable {K:List PA->Prop}{s:step}
def zCM (s:step):Int :=
  (cond s.Use.Back
 (1:Int)
 (0:Int))
end
theorem zNY (s:step) (K:List PA->Prop) (hk:K (e118 (zCM s))):vcFun Tryd.prog zNW zCL 118 [.agg (zaD s)] K :=
  za0 (by kernel_rfl) (zt hk (λ hk=>hk) (λ hk=>hk))
def zv1 : List PA → COut
  | [.agg [.int .i64 zcL,.bool zcn,.int .i64 zel,.int .i64 zoH,.int .i64 zb9]]=>.tot [.one (.int .i64 (zCM (⟨(⟨zcL,zcn⟩:Use),zel,zoH,zb9⟩:step)))]
  | _=>.no
theorem zEO:zar Tryd.prog 118:=⟨_,rfl,rfl,by kernel_rfl⟩
theorem zLN:Ok Tryd.prog 118 zv1:=zbl zI4 zEO λ args K h=>by
  unfold zv1 at h
  split at h
  · rename_i zcL zcn zel zoH zb9
    have hk:=h
    exact⟨(λ _ _=>[]),(λ _=>false),zCL,zNY (⟨(⟨zcL,zcn⟩:Use),zel,zoH,zb9⟩:step) K hk⟩
  · exact h.elim
abbrev zNd:Tabs:=(((Tabs.nil.addF 100 zvZ).addF 101 zsh).addF 118 zv1)
theorem zI5:TabsOk Tryd.prog zNd:=(((TabsOk.nil.addF zLL).addF zI3).addF zLN)
abbrev zNZ:Ctrs:=csm zNd (λ _ _=>[]) (λ _=>false)
def zCN:Ann:=⟨22,[(0,zK [2,3] [2,3]),(1,zK [2,3,5] [2,3]),(2,zK [4] [])],
 [],
 [],
 [],[]⟩
abbrev zN0:=Int
abbrev e108 (r:zN0):List PA:=[.one (.int .i64 r)]
section
variable {K:List PA->Prop}{a:step}{b:step}
def zI6 (a:step) (b:step):Int :=
  (zLK (⟨2,zaw (zbu [(zac (ztQ a.Use.Tie b.Use.Tie)),(zac (ztQ (zCM a) (zCM b)))])⟩:(Sl Int)))
def zLg (a:step) (b:step):Bool :=
  (decide ((zLf (⟨2,zaw (zbu [(zac (ztQ a.Use.Tie b.Use.Tie)),(zac (ztQ (zCM a) (zCM b)))])⟩:(Sl Int))=true)) &&
 true)
end
theorem zN1 (a:step) (b:step) (K:List PA->Prop) (hs:zLg a b=true) (hk:K (e108 (zI6 a b))):vcFun Tryd.prog zNZ zCN 108 [.agg (zaD a),.agg (zaD b)] K :=
  za0 (by kernel_rfl) (zaN hs λ hc hs=>And.intro (And.intro ((zeh []):IsE zac 1 1 (zbu [(zac (ztQ a.Use.Tie b.Use.Tie)),(zac (ztQ (zCM a) (zCM b)))])) hc) hk)
def zv3 : List PA → COut
  | [.agg [.int .i64 zcL,.bool zcn,.int .i64 zel,.int .i64 zoH,.int .i64 zb9],.agg [.int .i64 zgy,.bool zfe,.int .i64 zjS,.int .i64 zBt,.int .i64 zbM]]=>.det (zLg (⟨(⟨zcL,zcn⟩:Use),zel,zoH,zb9⟩:step) (⟨(⟨zgy,zfe⟩:Use),zjS,zBt,zbM⟩:step)=true) [.one (.int .i64 (zI6 (⟨(⟨zcL,zcn⟩:Use),zel,zoH,zb9⟩:step) (⟨(⟨zgy,zfe⟩:Use),zjS,zBt,zbM⟩:step)))]
  | _=>.no
theorem zEP:zar Tryd.prog 108:=⟨_,rfl,rfl,by kernel_rfl⟩
theorem zLO:Ok Tryd.prog 108 zv3:=zbl zI5 zEP λ args K h=>by
  unfold zv3 at h
  split at h
  · rename_i zcL zcn zel zoH zb9 zgy zfe zjS zBt zbM
    obtain⟨hs,hk⟩:=h
    exact⟨(λ _ _=>[]),(λ _=>false),zCN,zN1 (⟨(⟨zcL,zcn⟩:Use),zel,zoH,zb9⟩:step) (⟨(⟨zgy,zfe⟩:Use),zjS,zBt,zbM⟩:step) K hs hk⟩
  · exact h.elim
abbrev zNe:Tabs:=(Tabs.nil.addF 108 zv3)
theorem zI7:TabsOk Tryd.prog zNe:=(TabsOk.nil.addF zLO)
abbrev zNf:Ctrs:=csm zNe (λ _ _=>[]) (λ _=>false)
def zv4:Ann:=⟨39,[(0,zK [0,1,2] []),(1,zK [0,1,2,11,12,13] []),(2,zK [0,1,2,11,12,13,14] []),(3,zK [0,1,2,7,8,11,12,13] [8]),(4,zK [0,1,2,7,8,11,12,13,21] [8]),(5,zK [6] []),(6,zK [0,1,2,8,9,11,12,13] [8,9]),(7,zK [0,1,2,10,11,12,13] []),(8,zK [0,1,2,10,11,12,13,31] []),(9,zK [6] []),(10,zK [0,1,2,11,12,13] []),(11,zK [38] []),(12,zK [6] []),(13,zK [6] [])],
 [(2,zK [0,1,2,11,12,13] [])],
 [(6,zK [0,1,2,7,8,11,12,13] [8]),(8,zK [0,1,2,10,11,12,13] [])],
 [],[]⟩
abbrev zN2:=Int
abbrev zI8 (r:zN2):List PA:=[.one (.int .i64 r)]
@[irreducible] def z107:=ptF Tryd.prog zNf zv4 Tryd.f107
def zv5 (zex:(Sl step)) (zdY:(Sl step)) (zaS:(Sl step)) (zbW:Int) (zbN:Int) (zdm:Nat->List PV) (zdn:Nat->List PV) (zfP:Nat->List PV):St:=⟨[(0,zP (.sl zex.len 5 zdm)),(1,zP (.sl zdY.len 5 zdn)),(2,zP (.fn 108 [] [])),(11,zP (.sl zaS.len 5 zfP)),(12,zI zbW),(13,zI zbN)],[],[]⟩
abbrev zsi (K:List PA->Prop) (X:St->Prop) (P:(Sl step)->(Sl step)->(Sl step)->Int->Int->Bool) (S:(Sl step)->(Sl step)->(Sl step)->Int->Int->Int):Prop:=∀ ⦃zex:(Sl step)⦄ ⦃zdY:(Sl step)⦄ ⦃zaS:(Sl step)⦄ ⦃zbW:Int⦄ ⦃zbN:Int⦄ ⦃zdm:Nat->List PV⦄ ⦃zdn:Nat->List PV⦄ ⦃zfP:Nat->List PV⦄,P zex zdY zaS zbW zbN=true->K (zI8 (S zex zdY zaS zbW zbN))->zdm=zg zaD zex->zdn=zg zaD zdY->zfP=zg zaD zaS->X (zv5 zex zdY zaS zbW zbN zdm zdn zfP)
section
variable {K:List PA->Prop}{s1_a0:(Sl step)}{s2_a1:(Sl step)}{zex:(Sl step)}{zdY:(Sl step)}{zaS:(Sl step)}{zbW:Int}{zbN:Int}{zdm:Nat->List PV}{zdn:Nat->List PV}{zfP:Nat->List PV}{X0:St->Prop}{P0:(Sl step)->(Sl step)->(Sl step)->Int->Int->Bool}{S0:(Sl step)->(Sl step)->(Sl step)->Int->Int->Int}{zoI:(Sl step)}{zjT:(Sl step)}{iv1:Int}{zcy:(Sl step)}{zbX:Int}{zqc:Int}{zjl:Int}{zjm:Bool}{zjn:Int}{zjo:Int}{zjq:Int}{zoJ:Nat->List PV}{zoK:Nat->List PV}{zv6:Nat->List PV}{zoL:(Sl step)}{zoM:(Sl step)}{cv2:Int}{zqd:Int}{zoN:Nat->List PV}{zoO:Nat->List PV}
def zsj (S0:(Sl step)->(Sl step)->(Sl step)->Int->Int->Int) (zcy:(Sl step)) (zbX:Int) (zoL:(Sl step)) (zoM:(Sl step)) (cv2:Int) (zqd:Int):Int :=
  (cond (cv2 != (0:Int))
 cv2
 (S0 zoL zoM zcy zbX (w64 (zqd+(1:Int)))))
def zni (P0:(Sl step)->(Sl step)->(Sl step)->Int->Int->Bool) (zcy:(Sl step)) (zbX:Int) (zoL:(Sl step)) (zoM:(Sl step)) (cv2:Int) (zqd:Int):Bool :=
  (cond (cv2 != (0:Int))
 true
 (P0 zoL zoM zcy zbX (w64 (zqd+(1:Int)))))
theorem zBu (hX0:zsi K X0 P0 S0) (hs:zni P0 zcy zbX zoL zoM cv2 zqd=true) (hk:K (zI8 (zsj S0 zcy zbX zoL zoM cv2 zqd))) (zv7:zoN=zg zaD zoL) (zv8:zoO=zg zaD zoM):z107 K [1,0,1,0,0,1,1,0,0,1,1,1,1] [X0] ⟨[(0,zP (.sl zoL.len 5 zoN)),(1,zP (.sl zoM.len 5 zoO)),(2,zP (.fn 108 [] [])),(10,zI cv2),(11,zS zaD 5 zcy),(12,zI zbX),(13,zI zqd)],[],[]⟩:=by subst zv7;subst zv8;exact za0 (by kernel_rfl) (zc hs hk (λ hs hk=>hk) (λ hs hk=>(hX0 hs hk rfl rfl rfl)))
def zsk (S0:(Sl step)->(Sl step)->(Sl step)->Int->Int->Int) (zoI:(Sl step)) (zjT:(Sl step)) (iv1:Int) (zcy:(Sl step)) (zbX:Int) (zqc:Int) (zjl:Int) (zjm:Bool) (zjn:Int) (zjo:Int) (zjq:Int):Int :=
  (zsj S0 zcy zbX zoI zjT (zI6 (⟨(⟨zjl,zjm⟩:Use),zjn,zjo,zjq⟩:step) (zjT.get iv1.toNat)) zqc)
def znj (P0:(Sl step)->(Sl step)->(Sl step)->Int->Int->Bool) (zoI:(Sl step)) (zjT:(Sl step)) (iv1:Int) (zcy:(Sl step)) (zbX:Int) (zqc:Int) (zjl:Int) (zjm:Bool) (zjn:Int) (zjo:Int) (zjq:Int):Bool :=
  (decide ((0<=iv1/\iv1 < (zjT.len:Int))) &&
 (decide ((zLg (⟨(⟨zjl,zjm⟩:Use),zjn,zjo,zjq⟩:step) (zjT.get iv1.toNat)=true)) &&
 (zni P0 zcy zbX zoI zjT (zI6 (⟨(⟨zjl,zjm⟩:Use),zjn,zjo,zjq⟩:step) (zjT.get iv1.toNat)) zqc)))
theorem zBv (hX0:zsi K X0 P0 S0) (hs:znj P0 zoI zjT iv1 zcy zbX zqc zjl zjm zjn zjo zjq=true) (hk:K (zI8 (zsk S0 zoI zjT iv1 zcy zbX zqc zjl zjm zjn zjo zjq))) (zv9:zoJ=zg zaD zoI) (zwa:zoK=zg zaD zjT) (zEQ:zv6=zg zaD zcy):z107 K [1,0,1,0,0,1,1,0,0,1,1] [X0] ⟨[(0,zP (.sl zoI.len 5 zoJ)),(1,zP (.sl zjT.len 5 zoK)),(2,zP (.fn 108 [] [])),(7,zI iv1),(8,zp 8 0),(11,zP (.sl zcy.len 5 zv6)),(12,zI zbX),(13,zI zqc)],[(8,.box 130 (zm (zaD (⟨(⟨zjl,zjm⟩:Use),zjn,zjo,zjq⟩:step))))],[]⟩:=by subst zv9;subst zwa;subst zEQ;exact za0 (by kernel_rfl) (zaN hs λ hc hs=>And.intro hc (zaN hs λ hc hs=>And.intro hc (zBu hX0 hs hk rfl rfl)))
def zsl (S0:(Sl step)->(Sl step)->(Sl step)->Int->Int->Int) (zex:(Sl step)) (zdY:(Sl step)) (zaS:(Sl step)) (zbW:Int) (zbN:Int):Int :=
  (cond (decide (zbN < zbW))
 (cond (decide (zbN >= (zdY.len : Int)))
 (1:Int)
 (zsk S0 zex zdY zbN zaS zbW zbN ((zaS.get zbN.toNat).Use.Tie) ((zaS.get zbN.toNat).Use.Back) ((zaS.get zbN.toNat).from_) ((zaS.get zbN.toNat).to) ((zaS.get zbN.toNat).length)))
 (cond (decide ((zex.len : Int) < (zdY.len : Int)))
 (-1:Int)
 (0:Int)))
def zgz (P0:(Sl step)->(Sl step)->(Sl step)->Int->Int->Bool) (zex:(Sl step)) (zdY:(Sl step)) (zaS:(Sl step)) (zbW:Int) (zbN:Int):Bool :=
  (cond (decide (zbN < zbW))
 (decide ((0<=zbN/\zbN < (zaS.len:Int))) &&
 (cond (decide (zbN >= (zdY.len : Int)))
 true
 (znj P0 zex zdY zbN zaS zbW zbN ((zaS.get zbN.toNat).Use.Tie) ((zaS.get zbN.toNat).Use.Back) ((zaS.get zbN.toNat).from_) ((zaS.get zbN.toNat).to) ((zaS.get zbN.toNat).length))))
 true)
def zsm:Nat->(Sl step)->(Sl step)->(Sl step)->Int->Int->Int:=lpO (λ _ _ _ _ _=>default) (zsl)
def zhK:Nat->(Sl step)->(Sl step)->(Sl step)->Int->Int->Bool:=lpO (λ _ _ _ _ _=>false) (zgz)
def zsn (zex:(Sl step)) (zdY:(Sl step)) (zaS:(Sl step)) (zbW:Int) (zbN:Int):Int:=zsm Fuel zex zdY zaS zbW zbN
def zso (zex:(Sl step)) (zdY:(Sl step)) (zaS:(Sl step)) (zbW:Int) (zbN:Int):Bool:=zhK Fuel zex zdY zaS zbW zbN
theorem zBw (hs:zso zex zdY zaS zbW zbN=true) (hk:K (zI8 (zsn zex zdY zaS zbW zbN))) (zkY:zdm=zg zaD zex) (zkZ:zdn=zg zaD zdY) (zqe:zfP=zg zaD zaS):z107 K [1,0,1,0] [] (zv5 zex zdY zaS zbW zbN zdm zdn zfP) :=
  zl (λ X=>z107 K [1,0,1,0,0] [X]) (by kernel_rfl) λ X0 hX =>
  (show ∀ k, zsi K X0 (zhK k) (zsm k) from zeu _ _ (zgz) (zsl) (zsi K X0)
 (by intro _ _ _ _ _ _ _ _ hs;exact absurd hs dqk)
 (by intro P0 S0 hX0 zex zdY zaS zbW zbN zdm zdn zfP hs hk zkY zkZ zqe;subst zkY;subst zkZ;subst zqe;exact hX _ (za0 (by kernel_rfl) (zc hs hk (λ hs hk=>(zaN hs λ hc hs=>And.intro hc (zc hs hk (λ hs hk=>hk) (λ hs hk=>(zBv hX0 hs hk rfl rfl rfl))))) (λ hs hk=>(zt hk (λ hk=>hk) (λ hk=>hk))))))) _ hs hk zkY zkZ zqe
def zER (s1_a0:(Sl step)) (s2_a1:(Sl step)):Int :=
  (zsn s1_a0 s2_a1 s1_a0 (s1_a0.len:Int) (0:Int))
def zI9 (s1_a0:(Sl step)) (s2_a1:(Sl step)):Bool :=
  (zso s1_a0 s2_a1 s1_a0 (s1_a0.len:Int) (0:Int))
end
theorem zN3 (s1_a0:(Sl step)) (s2_a1:(Sl step)) (K:List PA->Prop) (hs:zI9 s1_a0 s2_a1=true) (hk:K (zI8 (zER s1_a0 s2_a1))):vcFun Tryd.prog zNf zv4 107 [.one (.sl s1_a0.len 5 (λ i=>zaD (s1_a0.get i))),.one (.sl s2_a1.len 5 (λ i=>zaD (s2_a1.get i))),.one (.fn 108 [] [])] K :=
  za0 (by kernel_rfl) (zBw hs hk rfl rfl rfl)
def zwb : List PA → COut
  | [.one (.sl zeR zkX zeS),.one (.sl zeT zlt zeQ),.one (.fn 108 [] [])]=>.det (IsE zaD 5 zkX zeS/\IsE zaD 5 zlt zeQ/\zI9 (⟨zeR,zhF zeS⟩:(Sl step)) (⟨zeT,zhF zeQ⟩:(Sl step))=true) [.one (.int .i64 (zER (⟨zeR,zhF zeS⟩:(Sl step)) (⟨zeT,zhF zeQ⟩:(Sl step))))]
  | _=>.no
theorem zES:zar Tryd.prog 107:=⟨_,rfl,rfl,by kernel_rfl⟩
theorem zLP:Ok Tryd.prog 107 zwb:=zbl zI7 zES λ args K h=>by
  unfold zwb at h
  split at h
  · rename_i zeR zkX zeS zeT zlt zeQ
    obtain⟨⟨⟨rfl,zg2,rfl⟩,⟨rfl,zif,rfl⟩,hs⟩,hk⟩:=h
    try rw[zei zg2] at hs
    try rw[zei zg2] at hk
    try rw[zei zif] at hs
    try rw[zei zif] at hk
    exact⟨(λ _ _=>[]),(λ _=>false),zv4,zN3 (⟨zeR,zg2⟩:(Sl step)) (⟨zeT,zif⟩:(Sl step)) K hs hk⟩
  · exact h.elim
abbrev T89:Tabs:=((((Tabs.nil.addF 93 zoC).addF 106 zvW).addF 107 zwb).addI 110 zoE)
theorem zLQ:TabsOk Tryd.prog T89:=((((TabsOk.nil.addF zHR).addF zLI).addF zLP).addI ztE)
abbrev G89:Ctrs:=csm T89 (λ _ _=>[]) (λ _=>false)
def zwc:Ann:=⟨148,[(0,zK [0] []),(1,zK [0,3] [21]),(2,zK [0,3,23,24] [21]),(3,zK [0,3,23,24,25] [21]),(4,zK [0,3,4,23,24] [21]),(5,zK [0,3,23,24] [21]),(6,zK [0,3,23,24] [21]),(7,zK [0,3] [21]),(8,zK [0,3,5] [21]),(9,zK [0,3,5,45] [21]),(10,zK [0,3,5] [21]),(11,zK [0,3,5,48,49,50] [21]),(12,zK [0,3,5,48,49,50,51] [21]),(13,zK [0,3,5,6,7,48,49,50] [21]),(14,zK [0,3,5,48,49,50,62] [21]),(15,zK [0,3,5,48,49,50] [21]),(16,zK [0,3,5,8] [21]),(17,zK [0,5,8,64,65,66] [21]),(18,zK [0,5,8,64,65,66,67] [21]),(19,zK [0,5,8,9,10,64,65,66] [9,10,21]),(20,zK [0,5,8,9,10,64,65,66,78] [9,10,21]),(21,zK [0,5,8,9,10,11,64,65,66] [9,10,11,21]),(22,zK [0,5,8,9,10,11,12,13,64,65,66] [9,10,11,12,13,21]),(23,zK [0,5,8,9,10,11,12,13,14,64,65,66] [9,10,11,12,13,14,21]),(24,zK [0,5,8,9,10,11,12,13,14,64,65,66,83] [9,10,11,12,13,14,21,129]),(25,zK [0,5,8,9,10,11,12,13,14,64,65,66] [9,10,11,12,13,14,21,129]),(26,zK [0,5,8,9,10,11,12,13,14,64,65,66,87] [9,10,11,12,13,14,21,129]),(27,zK [0,5,8,9,10,11,12,13,14,15,64,65,66,87] [9,10,11,12,13,14,15,21,129]),(28,zK [0,5,8,9,10,11,12,13,14,15,64,65,66,87,125] [9,10,11,12,13,14,15,21,129]),(29,zK [0,5,8,9,10,11,12,13,14,15,64,65,66] [9,10,11,12,13,14,15,21,129]),(30,zK [0,5,8,9,10,11,12,13,14,64,65,66] [9,10,11,12,13,14,21,129]),(31,zK [0,5,8,9,10,11,12,13,64,65,66,136] [9,10,11,12,13,21,129]),(32,zK [0,5,8,9,10,11,12,13,14,64,65,66] [9,10,11,12,13,14,21,129]),(33,zK [0,5,8,11,64,65,66,144] [11,21,129]),(34,zK [0,5,8,64,65,66] [21,129]),(35,zK [0,5,8,64,65,66] [21,129]),(36,zK [2] [])],
 [(3,zK [0,3,23,24] [21]),(9,zK [0,3,5] [21]),(12,zK [0,3,5,48,49,50] [21]),(18,⟨[0,5,8,64,65,66],[21],[],[],[],[],[(8,1005,λ _=>zaD default)]⟩),(24,⟨[0,5,8,9,10,11,12,13,14,64,65,66],[9,10,11,12,13,14,21,129],[],[(11,0,129,130,λ _=>zaD default)],[],[],[]⟩),(27,zK [0,5,8,9,10,11,12,13,14,64,65,66,87] [9,10,11,12,13,14,21,129])],
 [(7,zK [0,3] [21]),(16,zK [0,3,5] [21]),(34,zK [0,5,8,11,64,65,66,144] [11,21,129])],
 [],[]⟩
abbrev R89:=(Sl step)
abbrev e89 (r:R89):List PA:=[.one (.sl r.len 5 (λ i=>zaD (r.get i)))]
@[irreducible] def z89:=ptF Tryd.prog G89 zwc Tryd.f89
@[irreducible] def x89:=exF Tryd.prog G89 zwc Tryd.f89
@[irreducible] def y89:=rnF Tryd.prog G89 zwc Tryd.f89
def zCO (w:web) (zcJ:Int) (zc5:(Sl (Sl Tab))) (zfQ:Nat->List PV):St:=⟨[(0,zP (.fp (zaB w) 0)),(3,zv 21),(23,zI (w.Net.Nodes.toNat:Int)),(24,zI zcJ)],[(21,.vec 159 1 24 zc5.len zfQ)],[]⟩
abbrev zJa (K:List PA->Prop) (w:web) (X:St->Prop) (P:Int->(Sl (Sl Tab))->Bool) (S:Int->(Sl (Sl Tab))->(Sl step)):Prop:=∀ ⦃zcJ:Int⦄ ⦃zc5:(Sl (Sl Tab))⦄ ⦃zfQ:Nat->List PV⦄,P zcJ zc5=true->K (e89 (S zcJ zc5))->zfQ=zg zcH zc5->X (zCO w zcJ zc5 zfQ)
def zCP (w:web) (zbb:(Sl (Sl Tab))) (zcu:Int):St:=⟨[(0,zP (.fp (zaB w) 0)),(3,zv 21),(5,zI zcu)],[(21,.vec 159 1 24 zbb.len (λ i=>zcH (zbb.get i)))],[]⟩
abbrev zET (K:List PA->Prop) (w:web) (zbb:(Sl (Sl Tab))) (X:St->Prop) (P:Int->Bool) (S:Int->(Sl step)):Prop:=∀ ⦃zcu:Int⦄,P zcu=true->K (e89 (S zcu))->X (zCP w zbb zcu)
def zCQ (w:web) (zbb:(Sl (Sl Tab))) (zb3:Int) (zcN:Int):St:=⟨[(0,zP (.fp (zaB w) 0)),(3,zv 21),(5,zI zb3),(48,zv 21),(49,zI (zbb.len:Int)),(50,zI zcN)],[(21,.vec 159 1 24 zbb.len (λ i=>zcH (zbb.get i)))],[]⟩
abbrev zJb (K:List PA->Prop) (w:web) (zbb:(Sl (Sl Tab))) (X:St->Prop) (P:Int->Int->Bool) (S:Int->Int->(Sl step)):Prop:=∀ ⦃zb3:Int⦄ ⦃zcN:Int⦄,P zb3 zcN=true->K (e89 (S zb3 zcN))->X (zCQ w zbb zb3 zcN)
def zCR (w:web) (zaM:(Sl (Sl Tab))) (zb4:Int) (zbA:Bool) (zco:(Sl step)) (zca:Int) (zcS:(Sl (Sl Tab))) (zem:Nat->List PV) (zfR:Nat->List PV):St:=⟨[(0,zP (.fp (zaB w) 0)),(5,zI zb4),(8,zP (.ns zbA zco.len 5 zem)),(64,zv 21),(65,zI (zaM.len:Int)),(66,zI zca)],[(21,.vec 159 1 24 zcS.len zfR)],[]⟩
abbrev zwd (K:List PA->Prop) (w:web) (zaM:(Sl (Sl Tab))) (X:St->Prop) (P:Int->Bool->(Sl step)->Int->(Sl (Sl Tab))->Bool) (S:Int->Bool->(Sl step)->Int->(Sl (Sl Tab))->(Sl step)):Prop:=∀ ⦃zb4:Int⦄ ⦃zbA:Bool⦄ ⦃zco:(Sl step)⦄ ⦃zca:Int⦄ ⦃zcS:(Sl (Sl Tab))⦄ ⦃zem:Nat->List PV⦄ ⦃zfR:Nat->List PV⦄,P zb4 zbA zco zca zcS=true->K (e89 (S zb4 zbA zco zca zcS))->zem=zg zaD zco->zfR=zg zcH zcS->X (zCR w zaM zb4 zbA zco zca zcS zem zfR)
def zCS (w:web) (zaM:(Sl (Sl Tab))) (zcv:Int) (zbj:Bool) (zbO:(Sl step)) (zd7:Int) (iv6:Int) (hv6:(Sl Tab)) (znI:Int) (zbH:Int) (kv6:Int) (zdH:(Sl (Sl Tab))) (zbR:(Sl step)) (zen:Nat->List PV) (zoP:Nat->List PV) (zfS:Nat->List PV) (zeo:Nat->List PV):St:=⟨[(0,zP (.fp (zaB w) 0)),(5,zI zcv),(8,zP (.ns zbj zbO.len 5 zen)),(9,zp 9 0),(10,zp 10 0),(11,zp 11 0),(12,zp 12 0),(13,zp 13 0),(14,zp 14 0),(64,zv 21),(65,zI (zaM.len:Int)),(66,zI zd7)],[(9,.box 3 [zi iv6]),(10,.box 159 [.p (.sl hv6.len 80 zoP)]),(11,.box 127 [.vec 129]),(12,.box 3 [zi znI]),(13,.box 3 [zi zbH]),(14,.box 3 [zi kv6]),(21,.vec 159 1 24 zdH.len zfS),(129,.vec 130 5 40 zbR.len zeo)],[]⟩
abbrev zEU (K:List PA->Prop) (w:web) (zaM:(Sl (Sl Tab))) (X:St->Prop) (P:Int->Bool->(Sl step)->Int->Int->(Sl Tab)->Int->Int->Int->(Sl (Sl Tab))->(Sl step)->Bool) (S:Int->Bool->(Sl step)->Int->Int->(Sl Tab)->Int->Int->Int->(Sl (Sl Tab))->(Sl step)->(Sl step)):Prop:=∀ ⦃zcv:Int⦄ ⦃zbj:Bool⦄ ⦃zbO:(Sl step)⦄ ⦃zd7:Int⦄ ⦃iv6:Int⦄ ⦃hv6:(Sl Tab)⦄ ⦃znI:Int⦄ ⦃zbH:Int⦄ ⦃kv6:Int⦄ ⦃zdH:(Sl (Sl Tab))⦄ ⦃zbR:(Sl step)⦄ ⦃zen:Nat->List PV⦄ ⦃zoP:Nat->List PV⦄ ⦃zfS:Nat->List PV⦄ ⦃zeo:Nat->List PV⦄,P zcv zbj zbO zd7 iv6 hv6 znI zbH kv6 zdH zbR=true->K (e89 (S zcv zbj zbO zd7 iv6 hv6 znI zbH kv6 zdH zbR))->zen=zg zaD zbO->zoP=zg zal hv6->zfS=zg zcH zdH->zeo=zg zaD zbR->X (zCS w zaM zcv zbj zbO zd7 iv6 hv6 znI zbH kv6 zdH zbR zen zoP zfS zeo)
def zwe (w:web) (zaM:(Sl (Sl Tab))) (zbD:Int) (zaY:Bool) (zbB:(Sl step)) (zcB:Int) (iv7:Int) (hv7:(Sl Tab)) (zgL:Int) (zaU:Int) (kv7:Int) (zcs:(Sl (Sl Tab))) (zbn:(Sl step)) (zdd:Nat->List PV) (zlu:Nat->List PV) (zey:Nat->List PV) (zde:Nat->List PV):St:=⟨[(0,zP (.fp (zaB w) 0)),(5,zI zbD),(8,zP (.ns zaY zbB.len 5 zdd)),(9,zp 9 0),(10,zp 10 0),(11,zp 11 0),(12,zp 12 0),(13,zp 13 0),(14,zp 14 0),(64,zv 21),(65,zI (zaM.len:Int)),(66,zI zcB),(87,zP (.fn 110 [] [.fp [.fp (zaB w) 0] 0]))],[(9,.box 3 [zi iv7]),(10,.box 159 [.p (.sl hv7.len 80 zlu)]),(11,.box 127 [.vec 129]),(12,.box 3 [zi zgL]),(13,.box 3 [zi zaU]),(14,.box 3 [zi kv7]),(21,.vec 159 1 24 zcs.len zey),(129,.vec 130 5 40 zbn.len zde)],[]⟩
abbrev zJc (K:List PA->Prop) (w:web) (zaM:(Sl (Sl Tab))) (X:St->Prop) (P:Int->Bool->(Sl step)->Int->Int->(Sl Tab)->Int->Int->Int->(Sl (Sl Tab))->(Sl step)->Bool) (S:Int->Bool->(Sl step)->Int->Int->(Sl Tab)->Int->Int->Int->(Sl (Sl Tab))->(Sl step)->(Sl step)):Prop:=∀ ⦃zbD:Int⦄ ⦃zaY:Bool⦄ ⦃zbB:(Sl step)⦄ ⦃zcB:Int⦄ ⦃iv7:Int⦄ ⦃hv7:(Sl Tab)⦄ ⦃zgL:Int⦄ ⦃zaU:Int⦄ ⦃kv7:Int⦄ ⦃zcs:(Sl (Sl Tab))⦄ ⦃zbn:(Sl step)⦄ ⦃zdd:Nat->List PV⦄ ⦃zlu:Nat->List PV⦄ ⦃zey:Nat->List PV⦄ ⦃zde:Nat->List PV⦄,P zbD zaY zbB zcB iv7 hv7 zgL zaU kv7 zcs zbn=true->K (e89 (S zbD zaY zbB zcB iv7 hv7 zgL zaU kv7 zcs zbn))->zdd=zg zaD zbB->zlu=zg zal hv7->zey=zg zcH zcs->zde=zg zaD zbn->X (zwe w zaM zbD zaY zbB zcB iv7 hv7 zgL zaU kv7 zcs zbn zdd zlu zey zde)
section
variable {K:List PA->Prop}{w:web}{zcJ:Int}{zc5:(Sl (Sl Tab))}{zfQ:Nat->List PV}{X0:St->Prop}{P0:Int->(Sl (Sl Tab))->Bool}{S0:Int->(Sl (Sl Tab))->(Sl step)}{zbb:(Sl (Sl Tab))}{zwf:Nat->List PV}{zcu:Int}{X2:St->Prop}{P2:Int->Bool}{S2:Int->(Sl step)}{zb3:Int}{zcN:Int}{X3:St->Prop}{P3:Int->Int->Bool}{S3:Int->Int->(Sl step)}{zk0:Int}{zaM:(Sl (Sl Tab))}{zwg:Nat->List PV}{zb4:Int}{zbA:Bool}{zco:(Sl step)}{zca:Int}{zcS:(Sl (Sl Tab))}{zem:Nat->List PV}{zfR:Nat->List PV}{X5:St->Prop}{P5:Int->Bool->(Sl step)->Int->(Sl (Sl Tab))->Bool}{S5:Int->Bool->(Sl step)->Int->(Sl (Sl Tab))->(Sl step)}{zcv:Int}{zbj:Bool}{zbO:(Sl step)}{zd7:Int}{iv6:Int}{hv6:(Sl Tab)}{znI:Int}{zbH:Int}{kv6:Int}{zdH:(Sl (Sl Tab))}{zbR:(Sl step)}{zen:Nat->List PV}{zoP:Nat->List PV}{zfS:Nat->List PV}{zeo:Nat->List PV}{X6:St->Prop}{P6:Int->Bool->(Sl step)->Int->Int->(Sl Tab)->Int->Int->Int->(Sl (Sl Tab))->(Sl step)->Bool}{S6:Int->Bool->(Sl step)->Int->Int->(Sl Tab)->Int->Int->Int->(Sl (Sl Tab))->(Sl step)->(Sl step)}{zbD:Int}{zaY:Bool}{zbB:(Sl step)}{zcB:Int}{iv7:Int}{hv7:(Sl Tab)}{zgL:Int}{zaU:Int}{kv7:Int}{zcs:(Sl (Sl Tab))}{zbn:(Sl step)}{zdd:Nat->List PV}{zlu:Nat->List PV}{zey:Nat->List PV}{zde:Nat->List PV}{zhL:Int}{zff:Bool}{zjr:(Sl step)}{znk:Int}{zk1:Bool}{zlv:(Sl (Sl Tab))}{zjs:(Sl step)}{zsp:Nat->List PV}{zwh:Nat->List PV}{zsq:Nat->List PV}
def zih (S5:Int->Bool->(Sl step)->Int->(Sl (Sl Tab))->(Sl step)) (w:web) (zaM:(Sl (Sl Tab))) (zhL:Int) (zff:Bool) (zjr:(Sl step)) (znk:Int) (zk1:Bool) (zlv:(Sl (Sl Tab))) (zjs:(Sl step)):(Sl step) :=
  (cond zk1
 (S5 zhL false zjs (w64 (znk+(1:Int))) zlv)
 (S5 zhL zff zjr (w64 (znk+(1:Int))) zlv))
def zii (P5:Int->Bool->(Sl step)->Int->(Sl (Sl Tab))->Bool) (w:web) (zaM:(Sl (Sl Tab))) (zhL:Int) (zff:Bool) (zjr:(Sl step)) (znk:Int) (zk1:Bool) (zlv:(Sl (Sl Tab))) (zjs:(Sl step)):Bool :=
  (cond zk1
 (P5 zhL false zjs (w64 (znk+(1:Int))) zlv)
 (P5 zhL zff zjr (w64 (znk+(1:Int))) zlv))
theorem zwi (hX5:zwd K w zaM X5 P5 S5) (hs:zii P5 w zaM zhL zff zjr znk zk1 zlv zjs=true) (hk:K (e89 (zih S5 w zaM zhL zff zjr znk zk1 zlv zjs))) (zBx:zsp=zg zaD zjr) (zEV:zwh=zg zcH zlv) (zBy:zsq=zg zaD zjs):z89 K [1,0,1,1,1,1,1,1,0,1,0,0,1,1,0,0,1,1,1,1,1,1] [X5] ⟨[(0,zP (.fp (zaB w) 0)),(5,zI zhL),(8,zP (.ns zff zjr.len 5 zsp)),(11,zp 11 0),(64,zv 21),(65,zI (zaM.len:Int)),(66,zI znk),(144,zB zk1)],[(11,.box 127 [.vec 129]),(21,.vec 159 1 24 zlv.len zwh),(129,.vec 130 5 40 zjs.len zsq)],[]⟩:=by subst zBx;subst zEV;subst zBy;exact za0 (by kernel_rfl) (zc hs hk (λ hs hk=>(hX5 hs hk rfl rfl)) (λ hs hk=>(hX5 hs hk rfl rfl)))
def zEW (S5:Int->Bool->(Sl step)->Int->(Sl (Sl Tab))->(Sl step)) (S6:Int->Bool->(Sl step)->Int->Int->(Sl Tab)->Int->Int->Int->(Sl (Sl Tab))->(Sl step)->(Sl step)) (w:web) (zaM:(Sl (Sl Tab))) (zbD:Int) (zaY:Bool) (zbB:(Sl step)) (zcB:Int) (iv7:Int) (hv7:(Sl Tab)) (zgL:Int) (zaU:Int) (kv7:Int) (zcs:(Sl (Sl Tab))) (zbn:(Sl step)):(Sl step) :=
  (S6 zbD zaY zbB zcB iv7 hv7 zgL zaU (w64 (kv7 - (1:Int))) zcs zbn)
def zEX (P5:Int->Bool->(Sl step)->Int->(Sl (Sl Tab))->Bool) (P6:Int->Bool->(Sl step)->Int->Int->(Sl Tab)->Int->Int->Int->(Sl (Sl Tab))->(Sl step)->Bool) (w:web) (zaM:(Sl (Sl Tab))) (zbD:Int) (zaY:Bool) (zbB:(Sl step)) (zcB:Int) (iv7:Int) (hv7:(Sl Tab)) (zgL:Int) (zaU:Int) (kv7:Int) (zcs:(Sl (Sl Tab))) (zbn:(Sl step)):Bool :=
  (P6 zbD zaY zbB zcB iv7 hv7 zgL zaU (w64 (kv7 - (1:Int))) zcs zbn)
def zqf (S5:Int->Bool->(Sl step)->Int->(Sl (Sl Tab))->(Sl step)) (S6:Int->Bool->(Sl step)->Int->Int->(Sl Tab)->Int->Int->Int->(Sl (Sl Tab))->(Sl step)->(Sl step)) (w:web) (zaM:(Sl (Sl Tab))) (y7:step) (S7:Int->Bool->(Sl step)->Int->Int->(Sl Tab)->Int->Int->Int->(Sl (Sl Tab))->(Sl step)->(Sl step)) (zbD:Int) (zaY:Bool) (zbB:(Sl step)) (zcB:Int) (iv7:Int) (hv7:(Sl Tab)) (zgL:Int) (zaU:Int) (kv7:Int) (zcs:(Sl (Sl Tab))) (zbn:(Sl step)):(Sl step) :=
  (cond (y7.from_ == zgL)
 (cond (decide (y7.to >= iv7))
 (cond (!(nvr (tL (hv7.get kv7.toNat) y7.to) (tU (hv7.get kv7.toNat) y7.to)))
 (cond (decide ((w64 ((w64 (zaU + y7.length)) + (tL (hv7.get kv7.toNat) y7.to))) < (0:Int)))
 (S6 zbD zaY zbB zcB iv7 hv7 y7.to (w64 (zaU+y7.length)) (w64 (kv7 - (1:Int))) zcs (⟨(zbn.len+1),(zc2 zbn.len zbn.get (λ _=>y7))⟩:Sl step))
 (S7 zbD zaY zbB zcB iv7 hv7 zgL zaU kv7 zcs zbn))
 (S7 zbD zaY zbB zcB iv7 hv7 zgL zaU kv7 zcs zbn))
 (S7 zbD zaY zbB zcB iv7 hv7 zgL zaU kv7 zcs zbn))
 (S7 zbD zaY zbB zcB iv7 hv7 zgL zaU kv7 zcs zbn))
def zqg (P5:Int->Bool->(Sl step)->Int->(Sl (Sl Tab))->Bool) (P6:Int->Bool->(Sl step)->Int->Int->(Sl Tab)->Int->Int->Int->(Sl (Sl Tab))->(Sl step)->Bool) (w:web) (zaM:(Sl (Sl Tab))) (y7:step) (P7:Int->Bool->(Sl step)->Int->Int->(Sl Tab)->Int->Int->Int->(Sl (Sl Tab))->(Sl step)->Bool) (zbD:Int) (zaY:Bool) (zbB:(Sl step)) (zcB:Int) (iv7:Int) (hv7:(Sl Tab)) (zgL:Int) (zaU:Int) (kv7:Int) (zcs:(Sl (Sl Tab))) (zbn:(Sl step)):Bool :=
  (cond (y7.from_ == zgL)
 (cond (decide (y7.to >= iv7))
 (decide ((0<=kv7/\kv7 < (hv7.len:Int))) &&
 (decide ((0<=y7.to/\y7.to < (40:Int))) &&
 (cond (!(nvr (tL (hv7.get kv7.toNat) y7.to) (tU (hv7.get kv7.toNat) y7.to)))
 (decide ((0<=kv7/\kv7 < (hv7.len:Int))) &&
 (decide ((0<=y7.to/\y7.to < (40:Int))) &&
 (cond (decide ((w64 ((w64 (zaU + y7.length)) + (tL (hv7.get kv7.toNat) y7.to))) < (0:Int)))
 (decide (((zbn.len+1) * 40<=140737488355328/\zbn.len+1<=9223372036854775807)) &&
 (P6 zbD zaY zbB zcB iv7 hv7 y7.to (w64 (zaU+y7.length)) (w64 (kv7 - (1:Int))) zcs (⟨(zbn.len+1),(zc2 zbn.len zbn.get (λ _=>y7))⟩:Sl step)))
 (P7 zbD zaY zbB zcB iv7 hv7 zgL zaU kv7 zcs zbn))))
 (P7 zbD zaY zbB zcB iv7 hv7 zgL zaU kv7 zcs zbn))))
 (P7 zbD zaY zbB zcB iv7 hv7 zgL zaU kv7 zcs zbn))
 (P7 zbD zaY zbB zcB iv7 hv7 zgL zaU kv7 zcs zbn))
def zc6 (S5:Int->Bool->(Sl step)->Int->(Sl (Sl Tab))->(Sl step)) (S6:Int->Bool->(Sl step)->Int->Int->(Sl Tab)->Int->Int->Int->(Sl (Sl Tab))->(Sl step)->(Sl step)) (w:web) (zaM:(Sl (Sl Tab))):List step->Int->Bool->(Sl step)->Int->Int->(Sl Tab)->Int->Int->Int->(Sl (Sl Tab))->(Sl step)->(Sl step):=lpR (zEW S5 S6 w zaM) (zqf S5 S6 w zaM)
def zc7 (P5:Int->Bool->(Sl step)->Int->(Sl (Sl Tab))->Bool) (P6:Int->Bool->(Sl step)->Int->Int->(Sl Tab)->Int->Int->Int->(Sl (Sl Tab))->(Sl step)->Bool) (w:web) (zaM:(Sl (Sl Tab))):List step->Int->Bool->(Sl step)->Int->Int->(Sl Tab)->Int->Int->Int->(Sl (Sl Tab))->(Sl step)->Bool:=lpR (zEX P5 P6 w zaM) (zqg P5 P6 w zaM)
def zqh (S5:Int->Bool->(Sl step)->Int->(Sl (Sl Tab))->(Sl step)) (S6:Int->Bool->(Sl step)->Int->Int->(Sl Tab)->Int->Int->Int->(Sl (Sl Tab))->(Sl step)->(Sl step)) (w:web) (zaM:(Sl (Sl Tab))) (zbD:Int) (zaY:Bool) (zbB:(Sl step)) (zcB:Int) (iv7:Int) (hv7:(Sl Tab)) (zgL:Int) (zaU:Int) (kv7:Int) (zcs:(Sl (Sl Tab))) (zbn:(Sl step)):(Sl step):=zc6 S5 S6 w zaM (zkV w) zbD zaY zbB zcB iv7 hv7 zgL zaU kv7 zcs zbn
def zqi (P5:Int->Bool->(Sl step)->Int->(Sl (Sl Tab))->Bool) (P6:Int->Bool->(Sl step)->Int->Int->(Sl Tab)->Int->Int->Int->(Sl (Sl Tab))->(Sl step)->Bool) (w:web) (zaM:(Sl (Sl Tab))) (zbD:Int) (zaY:Bool) (zbB:(Sl step)) (zcB:Int) (iv7:Int) (hv7:(Sl Tab)) (zgL:Int) (zaU:Int) (kv7:Int) (zcs:(Sl (Sl Tab))) (zbn:(Sl step)):Bool:=decide ((ztP w=true)) && zc7 P5 P6 w zaM (zkV w) zbD zaY zbB zcB iv7 hv7 zgL zaU kv7 zcs zbn
theorem zEY (hX5:zwd K w zaM X5 P5 S5) (hX6:zEU K w zaM X6 P6 S6) (hs:zqi P5 P6 w zaM zbD zaY zbB zcB iv7 hv7 zgL zaU kv7 zcs zbn=true) (hk:K (e89 (zqh S5 S6 w zaM zbD zaY zbB zcB iv7 hv7 zgL zaU kv7 zcs zbn))) (zhM:zdd=zg zaD zbB) (zwj:zlu=zg zal hv7) (zk2:zey=zg zcH zcs) (zhN:zde=zg zaD zbn):z89 K [1,0,1,1,1,1,1,1,0,1,0,0,1,1,0,0,1,1,1,1,0,1,0,0,1,0,0,1,0] [X5,X6] (zwe w zaM zbD zaY zbB zcB iv7 hv7 zgL zaU kv7 zcs zbn zdd zlu zey zde) :=
  zaN hs λ hc hs=>zr (enc:=(λ y:step=>[.agg (zaD y)])) (ys:=zkV w) (g:=(zwe w zaM zbD zaY zbB zcB iv7 hv7 zgL zaU kv7 zcs zbn zdd zlu zey zde)) (x89 K [1,0,1,1,1,1,1,1,0,1,0,0,1,1,0,0,1,1,1,1,0,1,0,0,1,0,0,1,0] [X5,X6]) (y89 K [1,0,1,1,1,1,1,1,0,1,0,0,1,1,0,0,1,1,1,1,0,1,0,0,1,0,0,1,0] [X5,X6]) (by kernel_rfl) (And.intro (zE enc_40 4 w.Net.Ties.get) (And.intro (rfl:((false,1,false,[none]):MQ)=(false,1,false,[none])) hc)) λ X7 hE hR =>
  (show ∀ l : List step, zJc K w zaM (X7 (l.map (λ y : step => [.agg (zaD y)]))) (zc7 P5 P6 w zaM l) (zc6 S5 S6 w zaM l) from zri (X := X7) (enc := (λ y : step => [.agg (zaD y)])) _ _ (zqg P5 P6 w zaM) (zqf S5 S6 w zaM) (λ Z P S => zJc K w zaM Z P S)
 (by intro zbD zaY zbB zcB iv7 hv7 zgL zaU kv7 zcs zbn zdd zlu zey zde hs hk zhM zwj zk2 zhN;subst zhM;subst zwj;subst zk2;subst zhN;exact hE _ (za0 (by kernel_rfl) (hX6 hs hk rfl rfl rfl rfl)))
 (by intro y7 rest P7 S7 hX7 zbD zaY zbB zcB iv7 hv7 zgL zaU kv7 zcs zbn zdd zlu zey zde hs hk zhM zwj zk2 zhN;subst zhM;subst zwj;subst zk2;subst zhN;exact hR _ rest _ (za0 (by kernel_rfl) (zc hs hk (λ hs hk=>(zc hs hk (λ hs hk=>(zaN hs λ hc hs=>And.intro hc (zaN hs λ hc hs=>And.intro hc (zc hs hk (λ hs hk=>(zaN hs λ hc hs=>And.intro hc (zaN hs λ hc hs=>And.intro hc (zc hs hk (λ hs hk=>(zaN hs λ hc hs=>And.intro hc (hX6 hs hk rfl rfl rfl (zgJ (enc:=zaD) (f:=zbn.get) (h:=(λ _=>y7)) rfl rfl)))) (λ hs hk=>(hX7 hs hk rfl rfl rfl rfl)))))) (λ hs hk=>(hX7 hs hk rfl rfl rfl rfl)))))) (λ hs hk=>(hX7 hs hk rfl rfl rfl rfl)))) (λ hs hk=>(hX7 hs hk rfl rfl rfl rfl)))))) _ hs hk zhM zwj zk2 zhN
def zij (S5:Int->Bool->(Sl step)->Int->(Sl (Sl Tab))->(Sl step)) (w:web) (zaM:(Sl (Sl Tab))) (S6:Int->Bool->(Sl step)->Int->Int->(Sl Tab)->Int->Int->Int->(Sl (Sl Tab))->(Sl step)->(Sl step)) (zcv:Int) (zbj:Bool) (zbO:(Sl step)) (zd7:Int) (iv6:Int) (hv6:(Sl Tab)) (znI:Int) (zbH:Int) (kv6:Int) (zdH:(Sl (Sl Tab))) (zbR:(Sl step)):(Sl step) :=
  (cond (decide (kv6 >= (0:Int)))
 (zqh S5 S6 w zaM zcv zbj zbO zd7 iv6 hv6 znI zbH kv6 zdH zbR)
 (cond zbj
 (zih S5 w zaM zcv zbj zbO zd7 true zdH zbR)
 (zih S5 w zaM zcv zbj zbO zd7 (decide ((zER zbR zbO) < (0:Int))) zdH zbR)))
def zik (P5:Int->Bool->(Sl step)->Int->(Sl (Sl Tab))->Bool) (w:web) (zaM:(Sl (Sl Tab))) (P6:Int->Bool->(Sl step)->Int->Int->(Sl Tab)->Int->Int->Int->(Sl (Sl Tab))->(Sl step)->Bool) (zcv:Int) (zbj:Bool) (zbO:(Sl step)) (zd7:Int) (iv6:Int) (hv6:(Sl Tab)) (znI:Int) (zbH:Int) (kv6:Int) (zdH:(Sl (Sl Tab))) (zbR:(Sl step)):Bool :=
  (cond (decide (kv6 >= (0:Int)))
 (zqi P5 P6 w zaM zcv zbj zbO zd7 iv6 hv6 znI zbH kv6 zdH zbR)
 (decide ((zbj=true\/zbO.len ≠ 0)) &&
 (cond zbj
 (zii P5 w zaM zcv zbj zbO zd7 true zdH zbR)
 (decide ((zI9 zbR zbO=true)) &&
 (zii P5 w zaM zcv zbj zbO zd7 (decide ((zER zbR zbO) < (0:Int))) zdH zbR)))))
def zg3 (S5:Int->Bool->(Sl step)->Int->(Sl (Sl Tab))->(Sl step)) (w:web) (zaM:(Sl (Sl Tab))):Nat->Int->Bool->(Sl step)->Int->Int->(Sl Tab)->Int->Int->Int->(Sl (Sl Tab))->(Sl step)->(Sl step):=lpO (λ _ _ _ _ _ _ _ _ _ _ _=>default) (zij S5 w zaM)
def zg4 (P5:Int->Bool->(Sl step)->Int->(Sl (Sl Tab))->Bool) (w:web) (zaM:(Sl (Sl Tab))):Nat->Int->Bool->(Sl step)->Int->Int->(Sl Tab)->Int->Int->Int->(Sl (Sl Tab))->(Sl step)->Bool:=lpO (λ _ _ _ _ _ _ _ _ _ _ _=>false) (zik P5 w zaM)
def zqj (S5:Int->Bool->(Sl step)->Int->(Sl (Sl Tab))->(Sl step)) (w:web) (zaM:(Sl (Sl Tab))) (zcv:Int) (zbj:Bool) (zbO:(Sl step)) (zd7:Int) (iv6:Int) (hv6:(Sl Tab)) (znI:Int) (zbH:Int) (kv6:Int) (zdH:(Sl (Sl Tab))) (zbR:(Sl step)):(Sl step):=zg3 S5 w zaM Fuel zcv zbj zbO zd7 iv6 hv6 znI zbH kv6 zdH zbR
def zqk (P5:Int->Bool->(Sl step)->Int->(Sl (Sl Tab))->Bool) (w:web) (zaM:(Sl (Sl Tab))) (zcv:Int) (zbj:Bool) (zbO:(Sl step)) (zd7:Int) (iv6:Int) (hv6:(Sl Tab)) (znI:Int) (zbH:Int) (kv6:Int) (zdH:(Sl (Sl Tab))) (zbR:(Sl step)):Bool:=zg4 P5 w zaM Fuel zcv zbj zbO zd7 iv6 hv6 znI zbH kv6 zdH zbR
theorem zEZ (hX5:zwd K w zaM X5 P5 S5) (hs:zqk P5 w zaM zcv zbj zbO zd7 iv6 hv6 znI zbH kv6 zdH zbR=true) (hk:K (e89 (zqj S5 w zaM zcv zbj zbO zd7 iv6 hv6 znI zbH kv6 zdH zbR))) (znl:zen=zg zaD zbO) (zE0:zoP=zg zal hv6) (zql:zfS=zg zcH zdH) (znm:zeo=zg zaD zbR):z89 K [1,0,1,1,1,1,1,1,0,1,0,0,1,1,0,0,1,1,1,1,0,1,0] [X5] (zCS w zaM zcv zbj zbO zd7 iv6 hv6 znI zbH kv6 zdH zbR zen zoP zfS zeo) :=
  zl (λ X=>z89 K [1,0,1,1,1,1,1,1,0,1,0,0,1,1,0,0,1,1,1,1,0,1,0,0] [X5,X]) (by kernel_rfl) λ X6 hX =>
  (show ∀ k, zEU K w zaM X6 (zg4 P5 w zaM k) (zg3 S5 w zaM k) from zeu _ _ (zik P5 w zaM) (zij S5 w zaM) (zEU K w zaM X6)
 (by intro _ _ _ _ _ _ _ _ _ _ _ _ _ _ _ hs;exact absurd hs dqk)
 (by intro P6 S6 hX6 zcv zbj zbO zd7 iv6 hv6 znI zbH kv6 zdH zbR zen zoP zfS zeo hs hk znl zE0 zql znm;subst znl;subst zE0;subst zql;subst znm;exact hX _ (za0 (by kernel_rfl) (zc hs hk (λ hs hk=>(And.intro (And.intro (zE enc_40 4 w.Net.Ties.get) (rfl:((false,1,false,[none]):MQ)=(false,1,false,[none]))) (zEY hX5 hX6 hs hk rfl rfl rfl rfl))) (λ hs hk=>(zaN hs λ hc hs=>And.intro hc (zc hs hk (λ hs hk=>(zwi hX5 hs hk rfl rfl rfl)) (λ hs hk=>(zaN hs λ hc hs=>And.intro (And.intro (zE zaD 5 zbR.get) (And.intro (zE zaD 5 zbO.get) hc)) (zwi hX5 hs hk rfl rfl rfl)))))))))) _ hs hk znl zE0 zql znm
def zil (w:web) (zaM:(Sl (Sl Tab))) (S5:Int->Bool->(Sl step)->Int->(Sl (Sl Tab))->(Sl step)) (zb4:Int) (zbA:Bool) (zco:(Sl step)) (zca:Int) (zcS:(Sl (Sl Tab))):(Sl step) :=
  (cond (decide (zca < (zaM.len : Int)))
 (cond (decide ((tL ((zcS.get zca.toNat).get zb4.toNat) zca) >= (0:Int)))
 (S5 zb4 zbA zco (w64 (zca+(1:Int))) zcS)
 (zqj S5 w zaM zb4 zbA zco zca zca (zcS.get zca.toNat) zca (0:Int) (w64 (zb4 - (1:Int))) zcS (⟨0,(λ _=>default)⟩:Sl step)))
 zco)
def zim (w:web) (zaM:(Sl (Sl Tab))) (P5:Int->Bool->(Sl step)->Int->(Sl (Sl Tab))->Bool) (zb4:Int) (zbA:Bool) (zco:(Sl step)) (zca:Int) (zcS:(Sl (Sl Tab))):Bool :=
  (cond (decide (zca < (zaM.len : Int)))
 (decide ((0<=zca/\zca < (zcS.len:Int))) &&
 (decide ((zca.toNat < zcS.len)) &&
 (decide ((0<=zb4/\zb4 < ((zcS.get zca.toNat).len:Int))) &&
 (decide ((0<=zca/\zca < (40:Int))) &&
 (cond (decide ((tL ((zcS.get zca.toNat).get zb4.toNat) zca) >= (0:Int)))
 (P5 zb4 zbA zco (w64 (zca+(1:Int))) zcS)
 (zqk P5 w zaM zb4 zbA zco zca zca (zcS.get zca.toNat) zca (0:Int) (w64 (zb4 - (1:Int))) zcS (⟨0,(λ _=>default)⟩:Sl step)))))))
 true)
def zdZ (w:web) (zaM:(Sl (Sl Tab))):Nat->Int->Bool->(Sl step)->Int->(Sl (Sl Tab))->(Sl step):=lpO (λ _ _ _ _ _=>default) (zil w zaM)
def zd0 (w:web) (zaM:(Sl (Sl Tab))):Nat->Int->Bool->(Sl step)->Int->(Sl (Sl Tab))->Bool:=lpO (λ _ _ _ _ _=>false) (zim w zaM)
def zwk (w:web) (zaM:(Sl (Sl Tab))) (zb4:Int) (zbA:Bool) (zco:(Sl step)) (zca:Int) (zcS:(Sl (Sl Tab))):(Sl step):=zdZ w zaM Fuel zb4 zbA zco zca zcS
def zwl (w:web) (zaM:(Sl (Sl Tab))) (zb4:Int) (zbA:Bool) (zco:(Sl step)) (zca:Int) (zcS:(Sl (Sl Tab))):Bool:=zd0 w zaM Fuel zb4 zbA zco zca zcS
theorem zE1 (hs:zwl w zaM zb4 zbA zco zca zcS=true) (hk:K (e89 (zwk w zaM zb4 zbA zco zca zcS))) (znn:zem=zg zaD zco) (zqm:zfR=zg zcH zcS):z89 K [1,0,1,1,1,1,1,1,0,1,0] [] (zCR w zaM zb4 zbA zco zca zcS zem zfR) :=
  zl (λ X=>z89 K [1,0,1,1,1,1,1,1,0,1,0,0] [X]) (by kernel_rfl) λ X5 hX =>
  (show ∀ k, zwd K w zaM X5 (zd0 w zaM k) (zdZ w zaM k) from zeu _ _ (zim w zaM) (zil w zaM) (zwd K w zaM X5)
 (by intro _ _ _ _ _ _ _ hs;exact absurd hs dqk)
 (by intro P5 S5 hX5 zb4 zbA zco zca zcS zem zfR hs hk znn zqm;subst znn;subst zqm;exact hX _ (za0 (by kernel_rfl) (zc hs hk (λ hs hk=>(zaN hs λ hc hs=>And.intro hc (zaN hs λ hc hs=>And.intro hc (zaN hs λ hc hs=>And.intro hc (zaN hs λ hc hs=>And.intro hc (zc hs hk (λ hs hk=>(hX5 hs hk rfl rfl)) (λ hs hk=>(zEZ hX5 hs hk rfl rfl rfl rfl)))))))) (λ hs hk=>hk))))) _ hs hk znn zqm
def zin (w:web) (zk0:Int) (zaM:(Sl (Sl Tab))):(Sl step) :=
  (zwk w zaM zk0 true (⟨0,(λ _=>default)⟩:Sl step) (0:Int) zaM)
def zio (w:web) (zk0:Int) (zaM:(Sl (Sl Tab))):Bool :=
  (zwl w zaM zk0 true (⟨0,(λ _=>default)⟩:Sl step) (0:Int) zaM)
theorem zwm (hs:zio w zk0 zaM=true) (hk:K (e89 (zin w zk0 zaM))) (zE2:zwg=zg zcH zaM):z89 K [1,0,1,1,1,1,1] [] ⟨[(0,zP (.fp (zaB w) 0)),(3,zv 21),(5,zI zk0)],[(21,.vec 159 1 24 zaM.len zwg)],[]⟩:=by subst zE2;exact za0 (by kernel_rfl) (zE1 hs hk rfl rfl)
def ziq (S2:Int->(Sl step)) (w:web) (zbb:(Sl (Sl Tab))) (S3:Int->Int->(Sl step)) (zb3:Int) (zcN:Int):(Sl step) :=
  (cond (decide (zcN < (zbb.len : Int)))
 (cond (decide ((tL ((zbb.get zcN.toNat).get zb3.toNat) zcN) < (0:Int)))
 (zin w zb3 zbb)
 (S3 zb3 (w64 (zcN+(1:Int)))))
 (S2 (w64 (zb3+(1:Int)))))
def zir (P2:Int->Bool) (w:web) (zbb:(Sl (Sl Tab))) (P3:Int->Int->Bool) (zb3:Int) (zcN:Int):Bool :=
  (cond (decide (zcN < (zbb.len : Int)))
 (decide ((0<=zcN/\zcN < (zbb.len:Int))) &&
 (decide ((zcN.toNat < zbb.len)) &&
 (decide ((0<=zb3/\zb3 < ((zbb.get zcN.toNat).len:Int))) &&
 (decide ((0<=zcN/\zcN < (40:Int))) &&
 (cond (decide ((tL ((zbb.get zcN.toNat).get zb3.toNat) zcN) < (0:Int)))
 (zio w zb3 zbb)
 (P3 zb3 (w64 (zcN+(1:Int)))))))))
 (P2 (w64 (zb3+(1:Int)))))
def zfg (S2:Int->(Sl step)) (w:web) (zbb:(Sl (Sl Tab))):Nat->Int->Int->(Sl step):=lpO (λ _ _=>default) (ziq S2 w zbb)
def zfh (P2:Int->Bool) (w:web) (zbb:(Sl (Sl Tab))):Nat->Int->Int->Bool:=lpO (λ _ _=>false) (zir P2 w zbb)
def zwn (S2:Int->(Sl step)) (w:web) (zbb:(Sl (Sl Tab))) (zb3:Int) (zcN:Int):(Sl step):=zfg S2 w zbb Fuel zb3 zcN
def zwo (P2:Int->Bool) (w:web) (zbb:(Sl (Sl Tab))) (zb3:Int) (zcN:Int):Bool:=zfh P2 w zbb Fuel zb3 zcN
theorem zE3 (hX2:zET K w zbb X2 P2 S2) (hs:zwo P2 w zbb zb3 zcN=true) (hk:K (e89 (zwn S2 w zbb zb3 zcN))):z89 K [1,0,1,1,1,1,0,1,0,0,1,0,0,1,0] [X2] (zCQ w zbb zb3 zcN) :=
  zl (λ X=>z89 K [1,0,1,1,1,1,0,1,0,0,1,0,0,1,0,0] [X2,X]) (by kernel_rfl) λ X3 hX =>
  (show ∀ k, zJb K w zbb X3 (zfh P2 w zbb k) (zfg S2 w zbb k) from zeu _ _ (zir P2 w zbb) (ziq S2 w zbb) (zJb K w zbb X3)
 (by intro _ _ hs;exact absurd hs dqk)
 (by intro P3 S3 hX3 zb3 zcN hs hk;exact hX _ (za0 (by kernel_rfl) (zc hs hk (λ hs hk=>(zaN hs λ hc hs=>And.intro hc (zaN hs λ hc hs=>And.intro hc (zaN hs λ hc hs=>And.intro hc (zaN hs λ hc hs=>And.intro hc (zc hs hk (λ hs hk=>(zwm hs hk rfl)) (λ hs hk=>(hX3 hs hk)))))))) (λ hs hk=>(hX2 hs hk)))))) _ hs hk
def zis (w:web) (zbb:(Sl (Sl Tab))) (S2:Int->(Sl step)) (zcu:Int):(Sl step) :=
  (cond (decide (zcu < w.Net.Nodes))
 (zwn S2 w zbb zcu (0:Int))
 (zin w zcu zbb))
def zit (w:web) (zbb:(Sl (Sl Tab))) (P2:Int->Bool) (zcu:Int):Bool :=
  (cond (decide (zcu < w.Net.Nodes))
 (zwo P2 w zbb zcu (0:Int))
 (zio w zcu zbb))
def zez (w:web) (zbb:(Sl (Sl Tab))):Nat->Int->(Sl step):=lpO (λ _=>default) (zis w zbb)
def zeA (w:web) (zbb:(Sl (Sl Tab))):Nat->Int->Bool:=lpO (λ _=>false) (zit w zbb)
def zwp (w:web) (zbb:(Sl (Sl Tab))) (zcu:Int):(Sl step):=zez w zbb Fuel zcu
def zwq (w:web) (zbb:(Sl (Sl Tab))) (zcu:Int):Bool:=zeA w zbb Fuel zcu
theorem zE4 (hs:zwq w zbb zcu=true) (hk:K (e89 (zwp w zbb zcu))):z89 K [1,0,1,1,1,1,0,1,0] [] (zCP w zbb zcu) :=
  zl (λ X=>z89 K [1,0,1,1,1,1,0,1,0,0] [X]) (by kernel_rfl) λ X2 hX =>
  (show ∀ k, zET K w zbb X2 (zeA w zbb k) (zez w zbb k) from zeu _ _ (zit w zbb) (zis w zbb) (zET K w zbb X2)
 (by intro _ hs;exact absurd hs dqk)
 (by intro P2 S2 hX2 zcu hs hk;exact hX _ (za0 (by kernel_rfl) (zc hs hk (λ hs hk=>(zE3 hX2 hs hk)) (λ hs hk=>(zwm hs hk rfl)))))) _ hs hk
def zno (w:web) (zbb:(Sl (Sl Tab))):(Sl step) :=
  (zwp w zbb (1:Int))
def znp (w:web) (zbb:(Sl (Sl Tab))):Bool :=
  (zwq w zbb (1:Int))
theorem zE5 (hs:znp w zbb=true) (hk:K (e89 (zno w zbb))) (zE6:zwf=zg zcH zbb):z89 K [1,0,1,1] [] ⟨[(0,zP (.fp (zaB w) 0)),(3,zv 21)],[(21,.vec 159 1 24 zbb.len zwf)],[]⟩:=by subst zE6;exact za0 (by kernel_rfl) (zE4 hs hk)
def ziu (w:web) (S0:Int->(Sl (Sl Tab))->(Sl step)) (zcJ:Int) (zc5:(Sl (Sl Tab))):(Sl step) :=
  (cond (decide (zcJ < (w.Net.Nodes.toNat : Int)))
 (S0 (w64 (zcJ+(1:Int))) (⟨zc5.len,(setT zcJ.toNat (zsc w zcJ w.Net.Nodes) zc5.get)⟩:Sl (Sl Tab)))
 (zno w zc5))
def ziv (w:web) (P0:Int->(Sl (Sl Tab))->Bool) (zcJ:Int) (zc5:(Sl (Sl Tab))):Bool :=
  (cond (decide (zcJ < (w.Net.Nodes.toNat : Int)))
 (decide ((zHS w zcJ w.Net.Nodes=true)) &&
 (decide ((0<=zcJ/\zcJ < (zc5.len:Int))) &&
 (decide ((zcJ.toNat < zc5.len)) &&
 (P0 (w64 (zcJ+(1:Int))) (⟨zc5.len,(setT zcJ.toNat (zsc w zcJ w.Net.Nodes) zc5.get)⟩:Sl (Sl Tab))))))
 (znp w zc5))
def zg5 (w:web):Nat->Int->(Sl (Sl Tab))->(Sl step):=lpO (λ _ _=>default) (ziu w)
def zg6 (w:web):Nat->Int->(Sl (Sl Tab))->Bool:=lpO (λ _ _=>false) (ziv w)
def zwr (w:web) (zcJ:Int) (zc5:(Sl (Sl Tab))):(Sl step):=zg5 w Fuel zcJ zc5
def znq (w:web) (zcJ:Int) (zc5:(Sl (Sl Tab))):Bool:=zg6 w Fuel zcJ zc5
theorem zE7 (hs:znq w zcJ zc5=true) (hk:K (e89 (zwr w zcJ zc5))) (zqn:zfQ=zg zcH zc5):z89 K [1,0,1,0,1,0] [] (zCO w zcJ zc5 zfQ) :=
  zl (λ X=>z89 K [1,0,1,0,1,0,0] [X]) (by kernel_rfl) λ X0 hX =>
  (show ∀ k, zJa K w X0 (zg6 w k) (zg5 w k) from zeu _ _ (ziv w) (ziu w) (zJa K w X0)
 (by intro _ _ _ hs;exact absurd hs dqk)
 (by intro P0 S0 hX0 zcJ zc5 zfQ hs hk zqn;subst zqn;exact hX _ (za0 (by kernel_rfl) (zc hs hk (λ hs hk=>(zaN hs λ hc hs=>And.intro (And.intro (zE enc_40 4 w.Net.Ties.get) (And.intro (rfl:((false,1,false,[none]):MQ)=(false,1,false,[none])) hc)) (zaN hs λ hc hs=>And.intro hc (zaN hs λ hc hs=>And.intro hc (hX0 hs hk (zhD (enc:=zcH) (i:=zcJ.toNat) (k:=0) (f:=zc5.get) (new:=(zcH (zsc w zcJ w.Net.Nodes))) (v:=(zsc w zcJ w.Net.Nodes)) rfl rfl)))))) (λ hs hk=>(zE5 hs hk rfl)))))) _ hs hk zqn
def s89 (w:web):(Sl step) :=
  (zwr w (0:Int) (⟨w.Net.Nodes.toNat,(λ _=>(⟨0,λ _=>(λ _=>(0:Int))⟩:(Sl Tab)))⟩:Sl (Sl Tab)))
def p89 (w:web):Bool :=
  (decide ((0<=w.Net.Nodes/\w.Net.Nodes=w.Net.Nodes/\w.Net.Nodes<=1000000)) &&
 (znq w (0:Int) (⟨w.Net.Nodes.toNat,(λ _=>(⟨0,λ _=>(λ _=>(0:Int))⟩:(Sl Tab)))⟩:Sl (Sl Tab))))
end
theorem q89 (w:web) (K:List PA->Prop) (hs:p89 w=true) (hk:K (e89 (s89 w))):vcFun Tryd.prog G89 zwc 89 [.one (.fp (zaB w) 0)] K :=
  za0 (by kernel_rfl) (zaN hs λ hc hs=>And.intro hc (zE7 hs hk rfl))
def zBz : List PA → COut
  | [.one (.fp [.int .i64 zak,.sl zah zaA zai,.fm za7 zaH zaI] 0)]=>.det (IsE enc_40 4 zaA zai/\za7=(false,1,false,[none])/\p89 (⟨(⟨zak,(⟨zah,zam zai⟩:(Sl Tie))⟩:Net),(⟨zaH,zaI⟩:Mp)⟩:web)=true) [.one (.sl ((s89 (⟨(⟨zak,(⟨zah,zam zai⟩:(Sl Tie))⟩:Net),(⟨zaH,zaI⟩:Mp)⟩:web)).len) 5 (λ i=>zaD ((s89 (⟨(⟨zak,(⟨zah,zam zai⟩:(Sl Tie))⟩:Net),(⟨zaH,zaI⟩:Mp)⟩:web)).get i)))]
  | _=>.no
theorem zJd:zar Tryd.prog 89:=⟨_,rfl,rfl,by kernel_rfl⟩
theorem zNg:Ok Tryd.prog 89 zBz:=zbl zLQ zJd λ args K h=>by
  unfold zBz at h
  split at h
  · rename_i zak zah zaA zai za7 zaH zaI
    obtain⟨⟨⟨rfl,zaq,rfl⟩,rfl,hs⟩,hk⟩:=h
    try rw[zan zaq] at hs
    try rw[zan zaq] at hk
    exact⟨(λ _ _=>[]),(λ _=>false),zwc,q89 (⟨(⟨zak,(⟨zah,zaq⟩:(Sl Tie))⟩:Net),(⟨zaH,zaI⟩:Mp)⟩:web) K hs hk⟩
  · exact h.elim
end Go.Proofs
/-
  DERIVED: THE SHELF's CONTRACTS AT THIS DUMP,IN PLAIN WORDS (tools/lay-plain.mjs out of 'YtedhjaaikeakoaaDoorPmLk.lean',which tools/lay-shelf.mjs wrote): THE SAME DECLARATIONS UNDER THE SAME NAMES: 'import','namespace','open','def','theorem' AND NOTHING ELSE: no command of the shelf's: FOR A HAND-IN. Each laying: the table of numbers ('.._ren') and one theorem,a field a fact of the dump's own or the kernel's comparison;each contract: ONE APPLICATION.
-/
namespace Go.Proofs
open Go.Shelf
def Tryd.keysA_ren:Go.Shelf.Ren:=⟨fun | 7=>103 | 10=>117 | n=>n,fun | 23=>103 | 26=>3 | 3=>4 | 28=>152 | 0=>0 | 27=>151 | 33=>169 | 4=>4 | n=>n,fun | n=>n⟩
theorem Tryd.keysA : Go.Proofs.SlLaysZI.n7 Tryd.prog Tryd.keysA_ren := {
  mixed:=by kernel_rfl
  f7:=⟨Tryd.f103.name,by decide,Tryd.func103.trans (congrArg some (by kernel_rfl))⟩
  f10:=⟨Tryd.f117.name,by decide,Tryd.func117.trans (congrArg some (by kernel_rfl))⟩
  t0:=Tryd.underlying0
  a0:=Tryd.isAgg0
  z0:=Tryd.sizeOf0
  v0:=Tryd.zeroValue0
  t4:=Tryd.underlying4
  a4:=Tryd.isAgg4
  z4:=Tryd.sizeOf4
  v4:=Tryd.zeroValue4
  t23:=Tryd.underlying103
  a23:=Tryd.isAgg103
  z23:=Tryd.sizeOf103
  v23:=Tryd.zeroValue103
  t26:=Tryd.underlying3
  a26:=Tryd.isAgg3
  z26:=Tryd.sizeOf3
  v26:=Tryd.zeroValue3
  t27:=Tryd.underlying151
  a27:=Tryd.isAgg151
  z27:=Tryd.sizeOf151
  v27:=Tryd.zeroValue151
  t28:=Tryd.underlying152
  a28:=Tryd.isAgg152
  z28:=Tryd.sizeOf152
  v28:=Tryd.zeroValue152
  t33:=Tryd.underlying169
  a33:=Tryd.isAgg169
  z33:=Tryd.sizeOf169
  v33:=Tryd.zeroValue169 }
def Tryd.sortedA_ren:Go.Shelf.Ren:=⟨fun | 6=>102 | 8=>115 | 9=>116 | 11=>129 | 13=>113 | 12=>130 | 23=>127 | 24=>128 | 14=>136 | 15=>137 | 16=>138 | 17=>139 | 18=>140 | 19=>141 | 20=>142 | 21=>143 | 22=>144 | 25=>146 | 26=>132 | 27=>133 | 28=>147 | 29=>148 | 30=>114 | 31=>149 | n=>n,fun | 26=>3 | 28=>152 | 24=>27 | 0=>0 | 3=>3 | 37=>168 | 48=>182 | 50=>184 | 4=>4 | 40=>175 | 39=>174 | 45=>179 | 5=>5 | 9=>9 | 51=>187 | 55=>191 | 57=>199 | 58=>200 | 33=>169 | n=>n,fun | n=>n⟩
theorem Tryd.sortedA : Go.Proofs.SlLaysZI.n6 Tryd.prog Tryd.sortedA_ren := {
  mixed:=by kernel_rfl
  f6:=⟨Tryd.f102.name,by decide,Tryd.func102.trans (congrArg some (by kernel_rfl))⟩
  f8:=⟨Tryd.f115.name,by decide,Tryd.func115.trans (congrArg some (by kernel_rfl))⟩
  f11:=⟨Tryd.f129.name,by decide,Tryd.func129.trans (congrArg some (by kernel_rfl))⟩
  t0:=Tryd.underlying0
  a0:=Tryd.isAgg0
  z0:=Tryd.sizeOf0
  v0:=Tryd.zeroValue0
  t24:=Tryd.underlying27
  a24:=Tryd.isAgg27
  z24:=Tryd.sizeOf27
  v24:=Tryd.zeroValue27
  t26:=Tryd.underlying3
  a26:=Tryd.isAgg3
  z26:=Tryd.sizeOf3
  v26:=Tryd.zeroValue3
  t28:=Tryd.underlying152
  a28:=Tryd.isAgg152
  z28:=Tryd.sizeOf152
  v28:=Tryd.zeroValue152
  i26:=by kernel_rfl }
def Tryd.sortA_ren:Go.Shelf.Ren:=⟨fun | 5=>116 | 8=>113 | 7=>130 | 19=>127 | 20=>128 | 10=>136 | 11=>137 | 12=>138 | 13=>139 | 14=>140 | 15=>141 | 16=>142 | 17=>143 | 18=>144 | 30=>146 | 31=>132 | 32=>133 | 33=>147 | 34=>148 | 35=>114 | 40=>149 | n=>n,fun | 23=>27 | 25=>3 | 3=>3 | 32=>168 | 22=>27 | 0=>0 | 44=>182 | 46=>184 | 4=>4 | 36=>175 | 35=>174 | 41=>179 | 5=>5 | 9=>9 | 53=>187 | 57=>191 | 63=>199 | 64=>200 | n=>n,fun | n=>n⟩
theorem Tryd.sortA : Go.Proofs.SlLaysM.n5 Tryd.prog Tryd.sortA_ren := {
  mixed:=by kernel_rfl
  f5:=⟨Tryd.f116.name,by decide,Tryd.func116.trans (congrArg some (by kernel_rfl))⟩
  f7:=⟨Tryd.f130.name,by decide,Tryd.func130.trans (congrArg some (by kernel_rfl))⟩
  f8:=Tryd.func113.trans (congrArg some (by kernel_rfl))
  f10:=⟨Tryd.f136.name,by decide,Tryd.func136.trans (congrArg some (by kernel_rfl))⟩
  f11:=⟨Tryd.f137.name,by decide,Tryd.func137.trans (congrArg some (by kernel_rfl))⟩
  f12:=⟨Tryd.f138.name,by decide,Tryd.func138.trans (congrArg some (by kernel_rfl))⟩
  f13:=⟨Tryd.f139.name,by decide,Tryd.func139.trans (congrArg some (by kernel_rfl))⟩
  f14:=⟨Tryd.f140.name,by decide,Tryd.func140.trans (congrArg some (by kernel_rfl))⟩
  f15:=⟨Tryd.f141.name,by decide,Tryd.func141.trans (congrArg some (by kernel_rfl))⟩
  f16:=⟨Tryd.f142.name,by decide,Tryd.func142.trans (congrArg some (by kernel_rfl))⟩
  f17:=⟨Tryd.f143.name,by decide,Tryd.func143.trans (congrArg some (by kernel_rfl))⟩
  f18:=⟨Tryd.f144.name,by decide,Tryd.func144.trans (congrArg some (by kernel_rfl))⟩
  f19:=Tryd.func127.trans (congrArg some (by kernel_rfl))
  f20:=Tryd.func128.trans (congrArg some (by kernel_rfl))
  f30:=⟨Tryd.f146.name,by decide,Tryd.func146.trans (congrArg some (by kernel_rfl))⟩
  f31:=Tryd.func132.trans (congrArg some (by kernel_rfl))
  f32:=Tryd.func133.trans (congrArg some (by kernel_rfl))
  f33:=⟨Tryd.f147.name,by decide,Tryd.func147.trans (congrArg some (by kernel_rfl))⟩
  f34:=⟨Tryd.f148.name,by decide,Tryd.func148.trans (congrArg some (by kernel_rfl))⟩
  f35:=⟨Tryd.f114.name,by decide,Tryd.func114.trans (congrArg some (by kernel_rfl))⟩
  f40:=⟨Tryd.f149.name,by decide,Tryd.func149.trans (congrArg some (by kernel_rfl))⟩
  t0:=Tryd.underlying0
  a0:=Tryd.isAgg0
  z0:=Tryd.sizeOf0
  v0:=Tryd.zeroValue0
  t3:=Tryd.underlying3
  a3:=Tryd.isAgg3
  z3:=Tryd.sizeOf3
  v3:=Tryd.zeroValue3
  t4:=Tryd.underlying4
  a4:=Tryd.isAgg4
  z4:=Tryd.sizeOf4
  v4:=Tryd.zeroValue4
  t5:=Tryd.underlying5
  a5:=Tryd.isAgg5
  z5:=Tryd.sizeOf5
  v5:=Tryd.zeroValue5
  t9:=Tryd.underlying9
  a9:=Tryd.isAgg9
  z9:=Tryd.sizeOf9
  v9:=Tryd.zeroValue9
  t22:=Tryd.underlying27
  a22:=Tryd.isAgg27
  z22:=Tryd.sizeOf27
  v22:=Tryd.zeroValue27
  t23:=Tryd.underlying27
  a23:=Tryd.isAgg27
  z23:=Tryd.sizeOf27
  v23:=Tryd.zeroValue27
  t25:=Tryd.underlying3
  a25:=Tryd.isAgg3
  z25:=Tryd.sizeOf3
  v25:=Tryd.zeroValue3
  t32:=Tryd.underlying168
  a32:=Tryd.isAgg168
  z32:=Tryd.sizeOf168
  v32:=Tryd.zeroValue168
  t35:=Tryd.underlying174
  a35:=Tryd.isAgg174
  z35:=Tryd.sizeOf174
  v35:=Tryd.zeroValue174
  t36:=Tryd.underlying175
  a36:=Tryd.isAgg175
  z36:=Tryd.sizeOf175
  v36:=Tryd.zeroValue175
  t41:=Tryd.underlying179
  a41:=Tryd.isAgg179
  z41:=Tryd.sizeOf179
  v41:=Tryd.zeroValue179
  t44:=Tryd.underlying182
  a44:=Tryd.isAgg182
  z44:=Tryd.sizeOf182
  v44:=Tryd.zeroValue182
  t46:=Tryd.underlying184
  a46:=Tryd.isAgg184
  z46:=Tryd.sizeOf184
  v46:=Tryd.zeroValue184
  t53:=Tryd.underlying187
  a53:=Tryd.isAgg187
  z53:=Tryd.sizeOf187
  v53:=Tryd.zeroValue187
  t57:=Tryd.underlying191
  a57:=Tryd.isAgg191
  z57:=Tryd.sizeOf191
  v57:=Tryd.zeroValue191
  t63:=Tryd.underlying199
  a63:=Tryd.isAgg199
  z63:=Tryd.sizeOf199
  v63:=Tryd.zeroValue199
  t64:=Tryd.underlying200
  a64:=Tryd.isAgg200
  z64:=Tryd.sizeOf200
  v64:=Tryd.zeroValue200 }
end Go.Proofs
namespace Go.Pm
open Go.RowKit Go.Maps Go.Sort Go.Shelf Go.Proofs
set_option maxRecDepth 100000

theorem zk3 {F : List Int → Option (List Int)} : ∀ (f : Nat) (i : Int) (n : Nat) (l : List Int), zmk F f i n = some l → l.length = n ∧ (∀ x ∈ l, F [x] ≠ none ∧ i ≤ x ∧ x < i + f) ∧ l.Pairwise (· < ·)
  | _,_,0,l,h=>by simp[zmk] at h;subst h;exact⟨rfl,λ x hx=>by simp at hx,List.Pairwise.nil⟩
  | 0,_,n+1,l,h=>by simp[zmk] at h
  | f+1,i,n+1,l,h=>by
    simp only[zmk] at h
    split at h
    · rename_i v hv
      split at h
      · rename_i r hr
        simp only[dqa] at h;subst h
        obtain⟨h1,h2,h3⟩:=zk3 f (i+1) n r hr
        refine⟨by simp[h1],λ x hx=>?_,List.pairwise_cons.2 ⟨λ x hx=>by have:=h2 x hx;omega,h3⟩⟩
        rcases dqq.1 hx with rfl | hx
        · exact⟨by rw[hv];simp,by omega,by omega⟩
        · have:=h2 x hx;exact⟨this.1,by omega,by omega⟩
      · cases h
    · obtain ⟨h1, h2, h3⟩ := zk3 f (i + 1) (n + 1) l h
      exact⟨h1,λ x hx=>by have:=h2 x hx;exact⟨this.1,by omega,by omega⟩,h3⟩
theorem zk4 {α : Type} [DecidableEq α] : ∀ {l m : List α}, l.Nodup → (∀ x ∈ l, x ∈ m) → m.length ≤ l.length → l.Perm m
  | [],m,_,_,h=>by
    have:m=[]:=List.eq_nil_of_length_eq_zero (by simpa using h)
    subst this;exact .refl _
  | a :: l,m,hn,hs,h=>by
    obtain⟨h1,h2⟩:=List.nodup_cons.1 hn
    have ha:=hs a dqj
    have hp:=List.perm_cons_erase ha
    refine (List.Perm.cons a (zk4 h2 (λ x hx=>?_) ?_)).trans hp.symm
    · exact (List.mem_erase_of_ne (λ e=>h1 (by rw[<- e];exact hx))).2 (hs x (dqf _ hx))
    · have := hp.length_eq
      simp at this h
      omega

theorem zBA:znT Tryd.prog 103 (.keys 117):=λ w mb=>by
 refine⟨⟨_,rfl,rfl,by kernel_rfl⟩,?_⟩
 have c:CallsIn Fence.wide 5 Tryd.prog 103 #[.map (some mb)] w λ e w'=>e=.returned (.func (.func 117) #[] #[.pointer (some ⟨w.heap.size,0,none⟩)])/\w'=w.alloc (.cells #[.map (some mb)] 103):=AnyZI.keys_in Tryd.keysA Fence.wide 5 trivial rfl (some mb) w
 refine ((callsIn_wide (n:=5)).1 c).mono ?_
 rintro e w' ⟨rfl,rfl⟩
 exact⟨rfl,_,rfl⟩
theorem sortsA (m:Nat):AnyZI.SortsIn Tryd.prog Tryd.sortedA_ren Fence.wide m :=
  ⟨λ blk off cap ss W hH hblk hsz=>callsIn_wide.2 (AnyM.slices_Sort_int Tryd.sortA blk off cap ss W hH hblk hsz),
   λ p cap W=>callsIn_wide.2 (AnyM.slices_Sort_int_none Tryd.sortA p cap W)⟩

def rdN:Value->Option (DataW Unit×List MemPlace):=λ _=>some (.nil,[])
theorem ztF:znT Tryd.prog 102 (.sorted 117):=λ w h k mb C ty fr es clock vt q n F hw hk hC hb hE hm hn hky=>by
 refine⟨⟨_,rfl,rfl,by kernel_rfl⟩,?_⟩
 obtain⟨en,M⟩:=hm
 have E:=zgG hE
 have hq1:q.1=false:=by
  have e:=E.kag
  rw[show zeG Tryd.prog 3=some false by kernel_rfl] at e
  exact (Option.some.inj e).symm
 have hq2:q.2.1=1:=by
  have e:=E.key
  rw[show zdA Tryd.prog 8 3=some 1 by kernel_rfl] at e
  exact (Option.some.inj e).symm
 obtain⟨l,hl⟩:=Option.isSome_iff_exists.1 hky
 have hll:zpo F n=l:=by unfold zpo;rw[hl];rfl
 obtain⟨l1,l2,l3⟩:=zk3 _ _ _ _ hl
 rw[hll]
 have one:∀ x∈en,x.1=[x.1.headD 0]:=λ x hx=>by
  have:=(M.len x hx).1
  rw[hq2] at this
  match x.1,this with
  | [a],_=>rfl
 have hkeys:es.toList.map (·.key)=(en.map λ x=>x.1.headD 0).map encZ:=by
  have:=congrArg (List.map Prod.fst) M.ents
  simp only[List.map_map] at this ⊢
  refine (show es.toList.map (·.key)=_ from this).trans (List.map_congr_left λ x hx=>?_)
  show zbt q.1 x.1=encZ (x.1.headD 0)
  rw[hq1];rfl
 have hkn:(en.map λ x=>x.1.headD 0).Nodup:=by
  have:(en.map (·.1))=(en.map λ x=>x.1.headD 0).map λ a=>[a]:=by
   rw[List.map_map];exact List.map_congr_left λ x hx=>one x hx
  have hd:=M.nodup
  rw[this] at hd
  exact (List.pairwise_map.1 hd).imp λ h e=>h (by rw[e])
 have hperm:l.Perm (en.map λ x=>x.1.headD 0):=by
  refine zk4 (l3.imp λ h=>Int.ne_of_lt h) (λ x hx=>?_) (by rw[List.length_map,<- M.size,l1];exact dqt _)
  have h1:=(l2 x hx).1
  rw[M.find [x] (by rw[hq2];rfl)] at h1
  by_cases hex:∃ y∈en,y.1=[x]
  ·obtain ⟨y, hy, e⟩ := hex
   exact dqz.2 ⟨y,hy,by rw[e];rfl⟩
  ·exact absurd (zgj λ y hy e=>hex ⟨y,hy,e⟩) h1
 have hread:∀ x∈es.toList,∃ a:Int,x.key=encZ a/\keyOf Tryd.prog 3 x.key=some (.int .i64 a):=λ x hx=>by
  have hm:x.key∈es.toList.map (·.key):=dqz.2 ⟨x,hx,rfl⟩
  rw[hkeys] at hm
  obtain⟨a,ha,e⟩:=dqz.1 hm
  have hb:=(l2 a (hperm.mem_iff.2 ha)).2
  refine⟨a,e.symm,?_⟩
  rw[<- e]
  have hu:Tryd.prog.underlying 3=some (.int .i64):=Tryd.underlying3
  have hwf:(Lit.int .i64 a).wf=true:=by
   simp only[Lit.wf,dqm,decide_eq_true_eq]
   have e1:IntKind.i64.min = -9223372036854775808:=by decide
   have e2:IntKind.i64.max=9223372036854775807:=by decide
   rw[e1,e2]
   have:=hb.2
   omega
  simp[keyOf,mapKey,hu,hwf]
 have hsize:es.size=n:=by
  have:=congrArg List.length M.ents
  simp at this
  rw[this,M.size]
 have hst:MapKept.Stamped es clock:=⟨M.born,M.bornN,by rw[hkeys];exact List.pairwise_map.2 (hkn.imp λ h e=>h (encZ_inj e))⟩
 have hown:w.ownsMap Tryd.prog 3 rdN mb n (.map ((es.toList.map (WideElems.rg Tryd.prog 3 rdN)).foldr DataW.insert [])) :=
  ⟨es,clock,hb,⟨by rw[hsize];exact dqE hn (by decide),hst,λ x hx=>by
   obtain⟨a,e1,e2⟩:=hread x hx
   exact⟨(.int .i64 a,.nil),by simp only[WideElems.rd,e2,rdN,Option.bind_some,Option.map_some]⟩⟩,by omega,rfl⟩
 have hik:(intKeys (.map ((es.toList.map (WideElems.rg Tryd.prog 3 rdN)).foldr DataW.insert []))).Perm l:=by
  show (((es.toList.map (WideElems.rg Tryd.prog 3 rdN)).foldr DataW.insert []).map λ p=>intOf p.1).Perm l
  refine ((WideShapes.sorted_perm _).map _).trans (List.Perm.trans (List.Perm.of_eq ?_) hperm.symm)
  rw[List.map_map]
  have e:(en.map λ x=>x.1.headD 0)=es.toList.map λ x=>intOf ((keyOf Tryd.prog 3 x.key).getD (.bool false)):=by
   have h1:(en.map λ x=>x.1.headD 0)=((en.map λ x=>x.1.headD 0).map encZ).map λ v=>match v with | .int _ a=>a | _=>0:=by
    rw[List.map_map];exact (List.map_id _).symm
   rw[h1,<- hkeys,List.map_map]
   refine List.map_congr_left λ x hx=>?_
   obtain⟨a,e1,e2⟩:=hread x hx
   simp only[Function.comp,e2]
   rw[e1];rfl
  rw[e]
  refine List.map_congr_left λ x hx=>?_
  obtain⟨a,e1,e2⟩:=hread x hx
  simp only[Function.comp,WideElems.rg,WideElems.rd,e2,rdN,Option.bind_some,Option.map_some,Option.getD_some]
 have hsz:Maps.size (DataW.map ((es.toList.map (WideElems.rg Tryd.prog 3 rdN)).foldr DataW.insert []):DataW Unit)=n:=by
  show List.length _=n
  rw[(WideShapes.sorted_perm _).length_eq];simp[hsize]
 have hlt:k < w.heap.size:=hw.lt hk
 have hcell:w.cell? ⟨k,0,none⟩=some (.map (some mb)):=by
  have:=hw.fz hk
  simp[World.cell?,this,hC]
 have hseq:SeqGives Fence.wide 2 Tryd.prog 117 #[.pointer (some ⟨k,0,none⟩)] encZ (λ ss=>ss.Perm (intKeys _)) (Maps.size _) w :=
  AnyZI.keys_gives (ρ:=Tryd.keysA_ren) { Tryd.keysA with } Fence.wide _ trivial rfl (by omega) k mb n _ w hlt hcell hown
 have cS:=AnyZI.sorted_in Tryd.sortedA Fence.wide 5 trivial trivial trivial trivial rfl (by omega) (sortsA _) (enters_of Tryd.func116 (by kernel_rfl) rfl) 117 #[.pointer (some ⟨k,0,none⟩)] trivial (enters_of Tryd.func117 (by kernel_rfl) rfl) _ _ (by rw[hsz];exact dqE hn (by decide)) (by rw[hsz];omega) _ hseq
 change CallsIn _ _ Tryd.prog 102 _ _ _ at cS
 refine ((callsIn_wide (n:=5)).1 cS).mono ?_
 rintro e w' ⟨v,ss,rfl,hS,hrow,_,hbel⟩
 refine⟨v,rfl,?_,⟨hbel,Nat.zero_le _⟩⟩
 have hsl:ss.mergeSort (λ x y=>decide (x<=y))=l:=by
  rw[show ss.mergeSort (λ x y=>decide (x<=y))=l.mergeSort leI from mergeSort_of_perm_i (hS.trans hik)]
  exact List.mergeSort_of_pairwise (l3.imp λ h=>by simp only[leI,decide_eq_true_eq];exact Int.le_of_lt h)
 have hlen:ss.length=n:=by rw[(hS.trans hik).length_eq,l1]
 rw[hsl,hlen] at hrow
 exact hrow
end Go.Pm
namespace Go.Proofs
open Go Go.Pm
set_option maxRecDepth 100000
set_option linter.unusedVariables false
attribute [local irreducible] Go.Pm.vcFun Go.Pm.vc Go.Pm.vcIter
abbrev zCT:OwnK:=.sorted 117
theorem zLR:znT Tryd.prog 102 zCT:=ztF
abbrev zCU:OwnK:=.keys 117
theorem zLS:znT Tryd.prog 103 zCU:=zBA
structure Rec69 where
  S:web->Int->((Sl (Sl Int))×web)
  P:web->Int->Bool
class Slf69 where
  r:Rec69
section
variable [Slf69]
def zwt : MK
  | [.box 105 [.p (.int .i64 zax),.p (.sl zas zbw zao),.mo 3 4 zdf zaO zaP],.d (.one (.int .i64 b1))]=>some (IsE enc_40 4 zbw zao/\zdf=(false,1,false,[none])/\Slf69.r.P (⟨(⟨zax,(⟨zas,zam zao⟩:(Sl Tie))⟩:Net),(⟨zaO,zaP⟩:Mp)⟩:web) b1=true,[.one (.sl (((Slf69.r.S (⟨(⟨zax,(⟨zas,zam zao⟩:(Sl Tie))⟩:Net),(⟨zaO,zaP⟩:Mp)⟩:web) b1).1).len) 1 (λ i=>za6 (((Slf69.r.S (⟨(⟨zax,(⟨zas,zam zao⟩:(Sl Tie))⟩:Net),(⟨zaO,zaP⟩:Mp)⟩:web) b1).1).get i)))],[.box 105 [.p (.int .i64 (((Slf69.r.S (⟨(⟨zax,(⟨zas,zam zao⟩:(Sl Tie))⟩:Net),(⟨zaO,zaP⟩:Mp)⟩:web) b1).2).Net.Nodes)),.p (.sl (((Slf69.r.S (⟨(⟨zax,(⟨zas,zam zao⟩:(Sl Tie))⟩:Net),(⟨zaO,zaP⟩:Mp)⟩:web) b1).2).Net.Ties.len) 4 (λ i=>enc_40 (((Slf69.r.S (⟨(⟨zax,(⟨zas,zam zao⟩:(Sl Tie))⟩:Net),(⟨zaO,zaP⟩:Mp)⟩:web) b1).2).Net.Ties.get i))),.mo 3 4 (false,1,false,[none]) ((((Slf69.r.S (⟨(⟨zax,(⟨zas,zam zao⟩:(Sl Tie))⟩:Net),(⟨zaO,zaP⟩:Mp)⟩:web) b1).2).out).n) ((((Slf69.r.S (⟨(⟨zax,(⟨zas,zam zao⟩:(Sl Tie))⟩:Net),(⟨zaO,zaP⟩:Mp)⟩:web) b1).2).out).F)],.d (.one (.int .i64 b1))])
  | _=>none
abbrev T69:Tabs:=(((((Tabs.nil.addF 88 zvL).addF 89 zBz).addO 102 zCT).addO 103 zCU).addM 69 zwt)
theorem zLT (hself:zjx Tryd.prog 69 zwt):TabsOk Tryd.prog T69:=(((((TabsOk.nil.addF zLF).addF zNg).addO zLR).addO zLS).addM hself)
abbrev zBB:Ctrs:=csm T69 (λ _ _=>[]) (λ _=>false)
def zfr:Ann:=⟨57,[(0,zK [0,1] [0,12288]),(1,zK [0,1,10] [0,12288]),(2,zK [0,4] [0,17,12288]),(3,zK [0,1,19] [0,12288]),(4,zK [0,4] [0,12288]),(5,zK [0,1,5] [0,12288]),(6,zK [0,1,5,21,22,23] [0,12288]),(7,zK [0,1,5,21,22,23,24] [0,47,12288]),(8,zK [0,1,5,7,21,22,23] [0,7,47,12288]),(9,zK [0,1,5,7,21,22,23,34] [0,7,47,12288]),(10,zK [0,1,5,7,21,22,23] [0,7,47,12288]),(11,zK [0,1,5,7,21,22,23] [0,7,47,12288]),(12,zK [0,1,5,21,22,23] [0,47,12288]),(13,zK [0,1,5,21,22,23] [0,47,12288]),(14,zK [0,4] [0,47,12288])],
 [(7,⟨[0,1,5,21,22,23],[0,47,12288],[(5,47,27,λ _=>za6 default)],[],[],[],[]⟩)],
 [],
 [],[]⟩
def zfT (w:web) (left:Int) (zaE:Int) (zaX:Int) (zfU:Nat) (zce:Nat->List PV) (zfV:Nat) (zcf:Nat->List PV) (zae:Nat) (zaa:(List Int->Option (List Int))):St:=⟨[(0,.one (.c (.ptr 0 0))),(1,.one (.c (.p (.int .i64 left)))),(5,.one (.c (.vec 47))),(21,.one (.c (.p (.sl ((s89 w).len) 5 (λ i=>zaD ((s89 w).get i)))))),(22,.one (.c (.p (.int .i64 ((s89 w).len:Int))))),(23,.one (.c (.p (.int .i64 zaE))))],[(0,.box 105 [.p (.int .i64 zaX),.p (.sl zfU 4 zce),.mo 12288]),(47,.vec 27 1 24 zfV zcf),(12288,.mo 3 4 (false,1,false,[none]) zae zaa)],[]⟩
def zhO (K:List PA×List XA->Prop) (w:web) (left:Int) (zaE:Int) (zaX:Int) (zfU:Nat) (zce:Nat->List PV) (zfV:Nat) (zcf:Nat->List PV) (zae:Nat) (zaa:(List Int->Option (List Int))):Prop:=vc Tryd.prog zBB zfr (cdF Tryd.f69 [1,1,1,1,0,1,0]) (zfn 0 (sqK Tryd.prog zBB zfr (cdF Tryd.f69 [1,1,1,1,1]) (zls Tryd.prog Tryd.f69 [.box 105 [.p (.int .i64 w.Net.Nodes),.p (.sl w.Net.Ties.len 4 (λ i=>enc_40 (w.Net.Ties.get i))),.mo 3 4 (false,1,false,[none]) w.out.n w.out.F],.d (.one (.int .i64 left))] (λ a b=>K (a,b))))) (zfT w left zaE zaX zfU zce zfV zcf zae zaa)
theorem zBC (w : web) (left : Int) (K : List PA × List XA → Prop) :
  zkO Tryd.prog zBB zfr 69 [.box 105 [.p (.int .i64 w.Net.Nodes),.p (.sl w.Net.Ties.len 4 (λ i=>enc_40 (w.Net.Ties.get i))),.mo 3 4 (false,1,false,[none]) w.out.n w.out.F],.d (.one (.int .i64 left))] (λ a b=>K (a,b)) =
  ((IsE enc_40 4 4 (λ i=>enc_40 (w.Net.Ties.get i))/\((false,1,false,[none]):MQ)=(false,1,false,[none])/\(p88 w=true)) /\
 (zdq (!(s88 w))
 (((w.out.n<=1000000/\(zmk w.out.F 9223372036854775808 0 w.out.n).isSome=true)) /\
 (K ([.one (.sl 1 1 (λ _=>(za6 (⟨w.out.n,(λ i=>(zpo w.out.F w.out.n).getD i 0)⟩:(Sl Int)))))],[.box 105 [.p (.int .i64 w.Net.Nodes),.p (.sl w.Net.Ties.len 4 (λ i=>enc_40 (w.Net.Ties.get i))),.mo 3 4 (false,1,false,[none]) w.out.n w.out.F],.d (.one (.int .i64 left))])))
 (zdq (left == (0:Int))
 (K ([.one (.nils)],[.box 105 [.p (.int .i64 w.Net.Nodes),.p (.sl w.Net.Ties.len 4 (λ i=>enc_40 (w.Net.Ties.get i))),.mo 3 4 (false,1,false,[none]) w.out.n w.out.F],.d (.one (.int .i64 left))]))
 (((∀ i,sc2 ((λ i=>zaD ((s89 w).get i)) i)=true)/\IsE enc_40 4 4 (λ i=>enc_40 (w.Net.Ties.get i))/\((false,1,false,[none]):MQ)=(false,1,false,[none])/\(p89 w=true)) /\
 (zhO K w left (0:Int) w.Net.Nodes w.Net.Ties.len (λ i=>enc_40 (w.Net.Ties.get i)) 0 (λ i=>za6 ((λ _=>default) i)) w.out.n w.out.F))))):=by kernel_rfl
def zl7 (K:List PA×List XA->Prop) (X0:St->Prop) (w:web) (left:Int) (zaE:Int) (zaX:Int) (zaZ:(Sl Tie)) (zbp:(Sl (Sl Int))) (zae:Nat) (zaa:(List Int->Option (List Int))):Prop :=
  (zdq (decide (zaE < ((s89 w).len : Int)))
 (((0<=zaE/\zaE < ((s89 w).len:Int))) /\
 (zdq ((zpl (zaa [((s89 w).get zaE.toNat).Use.Tie]) 0) != 0)
 (X0 (zfT w left (w64 (zaE+(1:Int))) zaX zaZ.len (λ i=>enc_40 (zaZ.get i)) zbp.len (λ i=>za6 (zbp.get i)) zae zaa))
 ((IsE enc_40 4 4 (λ i=>enc_40 (zaZ.get i))/\((false,1,false,[none]):MQ)=(false,1,false,[none])/\(Slf69.r.P (⟨(⟨zaX,zaZ⟩:Net),(⟨(addN (zaa [((s89 w).get zaE.toNat).Use.Tie]) zae),(zc8 [((s89 w).get zaE.toNat).Use.Tie] [1] zaa)⟩:Mp)⟩:web) (w64 (left - (1:Int)))=true)) /\
 ((((zbp.len+((Slf69.r.S (⟨(⟨zaX,zaZ⟩:Net),(⟨(addN (zaa [((s89 w).get zaE.toNat).Use.Tie]) zae),(zc8 [((s89 w).get zaE.toNat).Use.Tie] [1] zaa)⟩:Mp)⟩:web) (w64 (left - (1:Int)))).1).len) * 24<=140737488355328/\zbp.len+((Slf69.r.S (⟨(⟨zaX,zaZ⟩:Net),(⟨(addN (zaa [((s89 w).get zaE.toNat).Use.Tie]) zae),(zc8 [((s89 w).get zaE.toNat).Use.Tie] [1] zaa)⟩:Mp)⟩:web) (w64 (left - (1:Int)))).1).len<=9223372036854775807)) /\
 (X0 (zfT w left (w64 (zaE+(1:Int))) (((Slf69.r.S (⟨(⟨zaX,zaZ⟩:Net),(⟨(addN (zaa [((s89 w).get zaE.toNat).Use.Tie]) zae),(zc8 [((s89 w).get zaE.toNat).Use.Tie] [1] zaa)⟩:Mp)⟩:web) (w64 (left - (1:Int)))).2).Net.Nodes) (((Slf69.r.S (⟨(⟨zaX,zaZ⟩:Net),(⟨(addN (zaa [((s89 w).get zaE.toNat).Use.Tie]) zae),(zc8 [((s89 w).get zaE.toNat).Use.Tie] [1] zaa)⟩:Mp)⟩:web) (w64 (left - (1:Int)))).2).Net.Ties.len) (λ i=>enc_40 (((Slf69.r.S (⟨(⟨zaX,zaZ⟩:Net),(⟨(addN (zaa [((s89 w).get zaE.toNat).Use.Tie]) zae),(zc8 [((s89 w).get zaE.toNat).Use.Tie] [1] zaa)⟩:Mp)⟩:web) (w64 (left - (1:Int)))).2).Net.Ties.get i)) (zbp.len+((Slf69.r.S (⟨(⟨zaX,zaZ⟩:Net),(⟨(addN (zaa [((s89 w).get zaE.toNat).Use.Tie]) zae),(zc8 [((s89 w).get zaE.toNat).Use.Tie] [1] zaa)⟩:Mp)⟩:web) (w64 (left - (1:Int)))).1).len) (appG zbp.len (λ i=>za6 (zbp.get i)) (λ i=>za6 (((Slf69.r.S (⟨(⟨zaX,zaZ⟩:Net),(⟨(addN (zaa [((s89 w).get zaE.toNat).Use.Tie]) zae),(zc8 [((s89 w).get zaE.toNat).Use.Tie] [1] zaa)⟩:Mp)⟩:web) (w64 (left - (1:Int)))).1).get i))) (zAk (((((Slf69.r.S (⟨(⟨zaX,zaZ⟩:Net),(⟨(addN (zaa [((s89 w).get zaE.toNat).Use.Tie]) zae),(zc8 [((s89 w).get zaE.toNat).Use.Tie] [1] zaa)⟩:Mp)⟩:web) (w64 (left - (1:Int)))).2).out).F) [((s89 w).get zaE.toNat).Use.Tie]) ((((Slf69.r.S (⟨(⟨zaX,zaZ⟩:Net),(⟨(addN (zaa [((s89 w).get zaE.toNat).Use.Tie]) zae),(zc8 [((s89 w).get zaE.toNat).Use.Tie] [1] zaa)⟩:Mp)⟩:web) (w64 (left - (1:Int)))).2).out).n)) (zAc [((s89 w).get zaE.toNat).Use.Tie] ((((Slf69.r.S (⟨(⟨zaX,zaZ⟩:Net),(⟨(addN (zaa [((s89 w).get zaE.toNat).Use.Tie]) zae),(zc8 [((s89 w).get zaE.toNat).Use.Tie] [1] zaa)⟩:Mp)⟩:web) (w64 (left - (1:Int)))).2).out).F))))))))
 (K ([.one (.sl zbp.len 1 (λ i=>za6 (zbp.get i)))],[.box 105 [.p (.int .i64 zaX),.p (.sl zaZ.len 4 (λ i=>enc_40 (zaZ.get i))),.mo 3 4 (false,1,false,[none]) zae zaa],.d (.one (.int .i64 left))])))
theorem zoQ (K : List PA × List XA → Prop) (X0 : St → Prop) (w : web) (left : Int) (zaE : Int) (zaX : Int) (zaZ : (Sl Tie)) (zbp : (Sl (Sl Int))) (zae : Nat) (zaa : (List Int → Option (List Int))) :
  vc Tryd.prog zBB zfr (cd (cdF Tryd.f69 [1,1,1,1,0,1,0]) [0]) (ztc Tryd.prog zfr 7 X0 (zfn 0 (sqK Tryd.prog zBB zfr (cdF Tryd.f69 [1,1,1,1,1]) (zls Tryd.prog Tryd.f69 [.box 105 [.p (.int .i64 w.Net.Nodes),.p (.sl w.Net.Ties.len 4 (λ i=>enc_40 (w.Net.Ties.get i))),.mo 3 4 (false,1,false,[none]) w.out.n w.out.F],.d (.one (.int .i64 left))] (λ a b=>K (a,b)))))) (zfT w left zaE zaX zaZ.len (λ i=>enc_40 (zaZ.get i)) zbp.len (λ i=>za6 (zbp.get i)) zae zaa) =
  zl7 K X0 w left zaE zaX zaZ zbp zae zaa:=by kernel_rfl
theorem ztG (K : List PA × List XA → Prop) (w : web) (left : Int) (zaE : Int) (zaX : Int) (zfU : Nat) (zce : Nat → List PV) (zfV : Nat) (zcf : Nat → List PV) (zae : Nat) (zaa : (List Int → Option (List Int)))
  (h:∀ X0:St->Prop,(∀ (zaE:Int) (zaX:Int) (zaZ:(Sl Tie)) (zbp:(Sl (Sl Int))) (zae:Nat) (zaa:(List Int->Option (List Int))),zl7 K X0 w left zaE zaX zaZ zbp zae zaa->X0 (zfT w left zaE zaX zaZ.len (λ i=>enc_40 (zaZ.get i)) zbp.len (λ i=>za6 (zbp.get i)) zae zaa))->X0 (zfT w left zaE zaX zfU zce zfV zcf zae zaa)) :
  zhO K w left zaE zaX zfU zce zfV zcf zae zaa:=by
  have e:zhO K w left zaE zaX zfU zce zfV zcf zae zaa=(∀ X:St->Prop,(∀ s,vc Tryd.prog zBB zfr (cd (cdF Tryd.f69 [1,1,1,1,0,1,0]) [0]) (ztc Tryd.prog zfr 7 X (zfn 0 (sqK Tryd.prog zBB zfr (cdF Tryd.f69 [1,1,1,1,1]) (zls Tryd.prog Tryd.f69 [.box 105 [.p (.int .i64 w.Net.Nodes),.p (.sl w.Net.Ties.len 4 (λ i=>enc_40 (w.Net.Ties.get i))),.mo 3 4 (false,1,false,[none]) w.out.n w.out.F],.d (.one (.int .i64 left))] (λ a b=>K (a,b)))))) s->X s)->X (zfT w left zaE zaX zfU zce zfV zcf zae zaa)):=by kernel_rfl
  refine za0 e ?_
  intro X hX
  refine h X ?_
  intro zaE zaX zaZ zbp zae zaa hs
  refine hX _ ?_
  have e2:=zoQ K X w left zaE zaX zaZ zbp zae zaa
  rw[e2]
  exact hs
abbrev zCV (left:Int) (r:((Sl (Sl Int))×web)):List PA×List XA:=([.one (.sl r.1.len 1 (λ i=>za6 (r.1.get i)))],[.box 105 [.p (.int .i64 r.2.Net.Nodes),.p (.sl r.2.Net.Ties.len 4 (λ i=>enc_40 (r.2.Net.Ties.get i))),.mo 3 4 (false,1,false,[none]) r.2.out.n r.2.out.F],.d (.one (.int .i64 left))])
attribute [irreducible] zhO
def zdI (w:web) (left:Int) (S0:Int->Int->(Sl Tie)->(Sl (Sl Int))->Nat->(List Int->Option (List Int))->((Sl (Sl Int))×web)) (zaE:Int) (zaX:Int) (zaZ:(Sl Tie)) (zbp:(Sl (Sl Int))) (zae:Nat) (zaa:(List Int->Option (List Int))):((Sl (Sl Int))×web) :=
  (cond (decide (zaE < ((s89 w).len : Int)))
 (cond ((zpl (zaa [((s89 w).get zaE.toNat).Use.Tie]) 0) != 0)
 (S0 (w64 (zaE+(1:Int))) zaX zaZ zbp zae zaa)
 (S0 (w64 (zaE+(1:Int))) (((Slf69.r.S (⟨(⟨zaX,zaZ⟩:Net),(⟨(addN (zaa [((s89 w).get zaE.toNat).Use.Tie]) zae),(zc8 [((s89 w).get zaE.toNat).Use.Tie] [1] zaa)⟩:Mp)⟩:web) (w64 (left - (1:Int)))).2).Net.Nodes) (((Slf69.r.S (⟨(⟨zaX,zaZ⟩:Net),(⟨(addN (zaa [((s89 w).get zaE.toNat).Use.Tie]) zae),(zc8 [((s89 w).get zaE.toNat).Use.Tie] [1] zaa)⟩:Mp)⟩:web) (w64 (left - (1:Int)))).2).Net.Ties) (⟨(zbp.len+((Slf69.r.S (⟨(⟨zaX,zaZ⟩:Net),(⟨(addN (zaa [((s89 w).get zaE.toNat).Use.Tie]) zae),(zc8 [((s89 w).get zaE.toNat).Use.Tie] [1] zaa)⟩:Mp)⟩:web) (w64 (left - (1:Int)))).1).len),(zc2 zbp.len zbp.get ((Slf69.r.S (⟨(⟨zaX,zaZ⟩:Net),(⟨(addN (zaa [((s89 w).get zaE.toNat).Use.Tie]) zae),(zc8 [((s89 w).get zaE.toNat).Use.Tie] [1] zaa)⟩:Mp)⟩:web) (w64 (left - (1:Int)))).1).get)⟩:Sl (Sl Int)) (zAk (((((Slf69.r.S (⟨(⟨zaX,zaZ⟩:Net),(⟨(addN (zaa [((s89 w).get zaE.toNat).Use.Tie]) zae),(zc8 [((s89 w).get zaE.toNat).Use.Tie] [1] zaa)⟩:Mp)⟩:web) (w64 (left - (1:Int)))).2).out).F) [((s89 w).get zaE.toNat).Use.Tie]) ((((Slf69.r.S (⟨(⟨zaX,zaZ⟩:Net),(⟨(addN (zaa [((s89 w).get zaE.toNat).Use.Tie]) zae),(zc8 [((s89 w).get zaE.toNat).Use.Tie] [1] zaa)⟩:Mp)⟩:web) (w64 (left - (1:Int)))).2).out).n)) (zAc [((s89 w).get zaE.toNat).Use.Tie] ((((Slf69.r.S (⟨(⟨zaX,zaZ⟩:Net),(⟨(addN (zaa [((s89 w).get zaE.toNat).Use.Tie]) zae),(zc8 [((s89 w).get zaE.toNat).Use.Tie] [1] zaa)⟩:Mp)⟩:web) (w64 (left - (1:Int)))).2).out).F))))
 (zbp,(⟨(⟨zaX,zaZ⟩:Net),(⟨zae,zaa⟩:Mp)⟩:web)))
def zfi (w:web) (left:Int) (P0:Int->Int->(Sl Tie)->(Sl (Sl Int))->Nat->(List Int->Option (List Int))->Bool) (zaE:Int) (zaX:Int) (zaZ:(Sl Tie)) (zbp:(Sl (Sl Int))) (zae:Nat) (zaa:(List Int->Option (List Int))):Bool :=
  (cond (decide (zaE < ((s89 w).len : Int)))
 (decide ((0<=zaE/\zaE < ((s89 w).len:Int))) &&
 (cond ((zpl (zaa [((s89 w).get zaE.toNat).Use.Tie]) 0) != 0)
 (P0 (w64 (zaE+(1:Int))) zaX zaZ zbp zae zaa)
 (decide ((Slf69.r.P (⟨(⟨zaX,zaZ⟩:Net),(⟨(addN (zaa [((s89 w).get zaE.toNat).Use.Tie]) zae),(zc8 [((s89 w).get zaE.toNat).Use.Tie] [1] zaa)⟩:Mp)⟩:web) (w64 (left - (1:Int)))=true)) &&
 (decide (((zbp.len+((Slf69.r.S (⟨(⟨zaX,zaZ⟩:Net),(⟨(addN (zaa [((s89 w).get zaE.toNat).Use.Tie]) zae),(zc8 [((s89 w).get zaE.toNat).Use.Tie] [1] zaa)⟩:Mp)⟩:web) (w64 (left - (1:Int)))).1).len) * 24<=140737488355328/\zbp.len+((Slf69.r.S (⟨(⟨zaX,zaZ⟩:Net),(⟨(addN (zaa [((s89 w).get zaE.toNat).Use.Tie]) zae),(zc8 [((s89 w).get zaE.toNat).Use.Tie] [1] zaa)⟩:Mp)⟩:web) (w64 (left - (1:Int)))).1).len<=9223372036854775807)) &&
 (P0 (w64 (zaE+(1:Int))) (((Slf69.r.S (⟨(⟨zaX,zaZ⟩:Net),(⟨(addN (zaa [((s89 w).get zaE.toNat).Use.Tie]) zae),(zc8 [((s89 w).get zaE.toNat).Use.Tie] [1] zaa)⟩:Mp)⟩:web) (w64 (left - (1:Int)))).2).Net.Nodes) (((Slf69.r.S (⟨(⟨zaX,zaZ⟩:Net),(⟨(addN (zaa [((s89 w).get zaE.toNat).Use.Tie]) zae),(zc8 [((s89 w).get zaE.toNat).Use.Tie] [1] zaa)⟩:Mp)⟩:web) (w64 (left - (1:Int)))).2).Net.Ties) (⟨(zbp.len+((Slf69.r.S (⟨(⟨zaX,zaZ⟩:Net),(⟨(addN (zaa [((s89 w).get zaE.toNat).Use.Tie]) zae),(zc8 [((s89 w).get zaE.toNat).Use.Tie] [1] zaa)⟩:Mp)⟩:web) (w64 (left - (1:Int)))).1).len),(zc2 zbp.len zbp.get ((Slf69.r.S (⟨(⟨zaX,zaZ⟩:Net),(⟨(addN (zaa [((s89 w).get zaE.toNat).Use.Tie]) zae),(zc8 [((s89 w).get zaE.toNat).Use.Tie] [1] zaa)⟩:Mp)⟩:web) (w64 (left - (1:Int)))).1).get)⟩:Sl (Sl Int)) (zAk (((((Slf69.r.S (⟨(⟨zaX,zaZ⟩:Net),(⟨(addN (zaa [((s89 w).get zaE.toNat).Use.Tie]) zae),(zc8 [((s89 w).get zaE.toNat).Use.Tie] [1] zaa)⟩:Mp)⟩:web) (w64 (left - (1:Int)))).2).out).F) [((s89 w).get zaE.toNat).Use.Tie]) ((((Slf69.r.S (⟨(⟨zaX,zaZ⟩:Net),(⟨(addN (zaa [((s89 w).get zaE.toNat).Use.Tie]) zae),(zc8 [((s89 w).get zaE.toNat).Use.Tie] [1] zaa)⟩:Mp)⟩:web) (w64 (left - (1:Int)))).2).out).n)) (zAc [((s89 w).get zaE.toNat).Use.Tie] ((((Slf69.r.S (⟨(⟨zaX,zaZ⟩:Net),(⟨(addN (zaa [((s89 w).get zaE.toNat).Use.Tie]) zae),(zc8 [((s89 w).get zaE.toNat).Use.Tie] [1] zaa)⟩:Mp)⟩:web) (w64 (left - (1:Int)))).2).out).F)))))))
 true)
def zct (w : web) (left : Int) : Nat → Int → Int → (Sl Tie) → (Sl (Sl Int)) → Nat → (List Int → Option (List Int)) → ((Sl (Sl Int)) × web)
  | 0=>λ _ _ _ _ _ _=>default
  | k+1=>zdI w left (zct w left k)
def zdg (w : web) (left : Int) : Nat → Int → Int → (Sl Tie) → (Sl (Sl Int)) → Nat → (List Int → Option (List Int)) → Bool
  | 0=>λ _ _ _ _ _ _=>false
  | k+1=>zfi w left (zdg w left k)
def zsr (w:web) (left:Int) (zaE:Int) (zaX:Int) (zaZ:(Sl Tie)) (zbp:(Sl (Sl Int))) (zae:Nat) (zaa:(List Int->Option (List Int))):((Sl (Sl Int))×web):=zct w left Fuel zaE zaX zaZ zbp zae zaa
def zss (w:web) (left:Int) (zaE:Int) (zaX:Int) (zaZ:(Sl Tie)) (zbp:(Sl (Sl Int))) (zae:Nat) (zaa:(List Int->Option (List Int))):Bool:=zdg w left Fuel zaE zaX zaZ zbp zae zaa
theorem zBD (K:List PA×List XA->Prop) (w:web) (left:Int) (zaE:Int) (zaX:Int) (zaZ:(Sl Tie)) (zbp:(Sl (Sl Int))) (zae:Nat) (zaa:(List Int->Option (List Int))) (zce:Nat->List PV) (zk5:zce=λ i=>enc_40 (zaZ.get i)) (zcf:Nat->List PV) (zk6:zcf=λ i=>za6 (zbp.get i)) (hs:zss w left zaE zaX zaZ zbp zae zaa=true) (hk:K (zCV left (zsr w left zaE zaX zaZ zbp zae zaa))):zhO (WkM K) w left zaE zaX zaZ.len zce zbp.len zcf zae zaa:=by
  refine ztG (WkM K) w left zaE zaX zaZ.len zce zbp.len zcf zae zaa ?_
  intro X0 hstep
  have key:∀ (k:Nat) (zaE:Int) (zaX:Int) (zaZ:(Sl Tie)) (zbp:(Sl (Sl Int))) (zae:Nat) (zaa:(List Int->Option (List Int))) (zce:Nat->List PV) (zk5:zce=λ i=>enc_40 (zaZ.get i)) (zcf:Nat->List PV) (zk6:zcf=λ i=>za6 (zbp.get i)),zdg w left k zaE zaX zaZ zbp zae zaa=true->K (zCV left (zct w left k zaE zaX zaZ zbp zae zaa))->X0 (zfT w left zaE zaX zaZ.len zce zbp.len zcf zae zaa):=by
    intro k
    induction k with
    | zero=>intro zaE zaX zaZ zbp zae zaa zce zk5 zcf zk6 hs;exact absurd hs dqk
    | succ k ih =>
      intro zaE zaX zaZ zbp zae zaa zce zk5 zcf zk6 hs hk
      subst zk5
      subst zk6
      refine hstep zaE zaX zaZ zbp zae zaa ?_
      have hs:zfi w left (zdg w left k) zaE zaX zaZ zbp zae zaa=true:=hs
      have hk:K (zCV left (zdI w left (zct w left k) zaE zaX zaZ zbp zae zaa)):=hk
      unfold zfi at hs
      unfold zdI at hk
      generalize zct w left k=S0 at hk ih
      generalize zdg w left k=P0 at hs ih
      have hX0:=ih
      exact (ze9 (K := λ r => K (zCV left r))
 (λ hs hk => (zaN hs λ hc hs => ⟨hc, (ze9 (K := λ r => K (zCV left r))
 (λ hs hk=>(hX0 (w64 (zaE+(1:Int))) zaX zaZ zbp zae zaa (λ i=>enc_40 (zaZ.get i)) rfl (λ i=>za6 (zbp.get i)) rfl hs hk))
 (λ hs hk=>(zaN hs λ hc hs=>⟨⟨isE,rfl,hc⟩,(zaN hs λ hc hs=>⟨hc,(hX0 (w64 (zaE+(1:Int))) (((Slf69.r.S (⟨(⟨zaX,zaZ⟩:Net),(⟨(addN (zaa [((s89 w).get zaE.toNat).Use.Tie]) zae),(zc8 [((s89 w).get zaE.toNat).Use.Tie] [1] zaa)⟩:Mp)⟩:web) (w64 (left - (1:Int)))).2).Net.Nodes) (((Slf69.r.S (⟨(⟨zaX,zaZ⟩:Net),(⟨(addN (zaa [((s89 w).get zaE.toNat).Use.Tie]) zae),(zc8 [((s89 w).get zaE.toNat).Use.Tie] [1] zaa)⟩:Mp)⟩:web) (w64 (left - (1:Int)))).2).Net.Ties) (⟨(zbp.len+((Slf69.r.S (⟨(⟨zaX,zaZ⟩:Net),(⟨(addN (zaa [((s89 w).get zaE.toNat).Use.Tie]) zae),(zc8 [((s89 w).get zaE.toNat).Use.Tie] [1] zaa)⟩:Mp)⟩:web) (w64 (left - (1:Int)))).1).len),(zc2 zbp.len zbp.get ((Slf69.r.S (⟨(⟨zaX,zaZ⟩:Net),(⟨(addN (zaa [((s89 w).get zaE.toNat).Use.Tie]) zae),(zc8 [((s89 w).get zaE.toNat).Use.Tie] [1] zaa)⟩:Mp)⟩:web) (w64 (left - (1:Int)))).1).get)⟩:Sl (Sl Int)) (zAk (((((Slf69.r.S (⟨(⟨zaX,zaZ⟩:Net),(⟨(addN (zaa [((s89 w).get zaE.toNat).Use.Tie]) zae),(zc8 [((s89 w).get zaE.toNat).Use.Tie] [1] zaa)⟩:Mp)⟩:web) (w64 (left - (1:Int)))).2).out).F) [((s89 w).get zaE.toNat).Use.Tie]) ((((Slf69.r.S (⟨(⟨zaX,zaZ⟩:Net),(⟨(addN (zaa [((s89 w).get zaE.toNat).Use.Tie]) zae),(zc8 [((s89 w).get zaE.toNat).Use.Tie] [1] zaa)⟩:Mp)⟩:web) (w64 (left - (1:Int)))).2).out).n)) (zAc [((s89 w).get zaE.toNat).Use.Tie] ((((Slf69.r.S (⟨(⟨zaX,zaZ⟩:Net),(⟨(addN (zaa [((s89 w).get zaE.toNat).Use.Tie]) zae),(zc8 [((s89 w).get zaE.toNat).Use.Tie] [1] zaa)⟩:Mp)⟩:web) (w64 (left - (1:Int)))).2).out).F)) (λ i=>enc_40 (((Slf69.r.S (⟨(⟨zaX,zaZ⟩:Net),(⟨(addN (zaa [((s89 w).get zaE.toNat).Use.Tie]) zae),(zc8 [((s89 w).get zaE.toNat).Use.Tie] [1] zaa)⟩:Mp)⟩:web) (w64 (left - (1:Int)))).2).Net.Ties.get i)) rfl (appG zbp.len (λ i=>za6 (zbp.get i)) (λ i=>za6 (((Slf69.r.S (⟨(⟨zaX,zaZ⟩:Net),(⟨(addN (zaa [((s89 w).get zaE.toNat).Use.Tie]) zae),(zc8 [((s89 w).get zaE.toNat).Use.Tie] [1] zaa)⟩:Mp)⟩:web) (w64 (left - (1:Int)))).1).get i))) (zgJ (enc:=za6) (f:=zbp.get) (h:=((Slf69.r.S (⟨(⟨zaX,zaZ⟩:Net),(⟨(addN (zaa [((s89 w).get zaE.toNat).Use.Tie]) zae),(zc8 [((s89 w).get zaE.toNat).Use.Tie] [1] zaa)⟩:Mp)⟩:web) (w64 (left - (1:Int)))).1).get) rfl rfl) hs hk)⟩)⟩)) hs hk)⟩))
 (fun hs hk=>(zvv hk)) hs hk)
  exact key _ zaE zaX zaZ zbp zae zaa zce zk5 zcf zk6 hs hk
def ztH (w:web) (left:Int):((Sl (Sl Int))×web) :=
  (cond (!(s88 w))
 ((⟨1,λ _=>(⟨w.out.n,(λ i=>(zpo w.out.F w.out.n).getD i 0)⟩:(Sl Int))⟩:(Sl (Sl Int))),w)
 (cond (left == (0:Int))
 ((⟨0,λ _=>default⟩:(Sl (Sl Int))),w)
 (zsr w left (0:Int) w.Net.Nodes w.Net.Ties (⟨0,(λ _=>default)⟩:Sl (Sl Int)) w.out.n w.out.F)))
def zHT (w:web) (left:Int):Bool :=
  (decide ((p88 w=true)) &&
 (cond (!(s88 w))
 (decide ((w.out.n<=1000000/\(zmk w.out.F 9223372036854775808 0 w.out.n).isSome=true)) &&
 true)
 (cond (left == (0:Int))
 true
 (decide ((p89 w=true)) &&
 (zss w left (0:Int) w.Net.Nodes w.Net.Ties (⟨0,(λ _=>default)⟩:Sl (Sl Int)) w.out.n w.out.F)))))
theorem zN4 (w:web) (left:Int) (K:List PA×List XA->Prop) (hs:zHT w left=true) (hk:K (zCV left (ztH w left))):zkO Tryd.prog zBB zfr 69 [.box 105 [.p (.int .i64 w.Net.Nodes),.p (.sl w.Net.Ties.len 4 (λ i=>enc_40 (w.Net.Ties.get i))),.mo 3 4 (false,1,false,[none]) w.out.n w.out.F],.d (.one (.int .i64 left))] (λ a b=>(WkM K) (a,b)):=by
  refine za0 (zBC w left (WkM K)) ?_
  unfold zHT at hs
  unfold ztH at hk
  exact (zaN hs λ hc hs => ⟨⟨isE, rfl, hc⟩, (ze9 (K := λ r => K (zCV left r))
 (λ hs hk=>(zaN hs λ hc hs=>⟨hc,(zvv hk)⟩))
 (λ hs hk => (ze9 (K := λ r => K (zCV left r))
 (λ hs hk=>(wkM hk (zgK (.one (.nil _ _)) zm0)))
 (λ hs hk=>(zaN hs λ hc hs=>⟨⟨(λ _=>rfl),isE,rfl,hc⟩,(zBD K w left (0:Int) w.Net.Nodes w.Net.Ties (⟨0,(λ _=>default)⟩:Sl (Sl Int)) w.out.n w.out.F (λ i=>enc_40 (w.Net.Ties.get i)) rfl (λ i=>za6 ((λ _=>default) i)) rfl hs hk)⟩)) hs hk)) hs hk)⟩)
def zJe : MK
  | [.box 105 [.p (.int .i64 zax),.p (.sl zas zbw zao),.mo 3 4 zdf zaO zaP],.d (.one (.int .i64 b1))]=>some (IsE enc_40 4 zbw zao/\zdf=(false,1,false,[none])/\zHT (⟨(⟨zax,(⟨zas,zam zao⟩:(Sl Tie))⟩:Net),(⟨zaO,zaP⟩:Mp)⟩:web) b1=true,[.one (.sl (((ztH (⟨(⟨zax,(⟨zas,zam zao⟩:(Sl Tie))⟩:Net),(⟨zaO,zaP⟩:Mp)⟩:web) b1).1).len) 1 (λ i=>za6 (((ztH (⟨(⟨zax,(⟨zas,zam zao⟩:(Sl Tie))⟩:Net),(⟨zaO,zaP⟩:Mp)⟩:web) b1).1).get i)))],[.box 105 [.p (.int .i64 (((ztH (⟨(⟨zax,(⟨zas,zam zao⟩:(Sl Tie))⟩:Net),(⟨zaO,zaP⟩:Mp)⟩:web) b1).2).Net.Nodes)),.p (.sl (((ztH (⟨(⟨zax,(⟨zas,zam zao⟩:(Sl Tie))⟩:Net),(⟨zaO,zaP⟩:Mp)⟩:web) b1).2).Net.Ties.len) 4 (λ i=>enc_40 (((ztH (⟨(⟨zax,(⟨zas,zam zao⟩:(Sl Tie))⟩:Net),(⟨zaO,zaP⟩:Mp)⟩:web) b1).2).Net.Ties.get i))),.mo 3 4 (false,1,false,[none]) ((((ztH (⟨(⟨zax,(⟨zas,zam zao⟩:(Sl Tie))⟩:Net),(⟨zaO,zaP⟩:Mp)⟩:web) b1).2).out).n) ((((ztH (⟨(⟨zax,(⟨zas,zam zao⟩:(Sl Tie))⟩:Net),(⟨zaO,zaP⟩:Mp)⟩:web) b1).2).out).F)],.d (.one (.int .i64 b1))])
  | _=>none
theorem zJf:zar Tryd.prog 69:=⟨_,rfl,rfl,by kernel_rfl⟩
theorem zLU (hself:zjx Tryd.prog 69 zwt):zjx Tryd.prog 69 zJe:=zBb (zLT hself) zJf λ xs safe rs ys h hs K hk=>by
  unfold zJe at h
  split at h
  · rename_i zax zas zbw zao zdf zaO zaP b1
    simp only[dqa,dqh] at h
    obtain⟨rfl,rfl,rfl⟩:=h
    obtain⟨⟨rfl,zb7,rfl⟩,rfl,hs⟩:=hs
    try rw[zan zb7] at hs
    try rw[zan zb7] at hk
    refine⟨λ _ _=>[],λ _=>false,zfr,?_⟩
    show zkO Tryd.prog zBB zfr 69 _ _
    exact zN4 (⟨(⟨zax,(⟨zas,zb7⟩:(Sl Tie))⟩:Net),(⟨zaO,zaP⟩:Mp)⟩:web) b1 (λ x=>K x.1 x.2) hs hk
  · cases h
end
def ziw : Nat → Rec69
  | 0=>⟨λ _ _=>default,λ _ _=>false⟩
  | k+1=>⟨@ztH ⟨ziw k⟩,@zHT ⟨ziw k⟩⟩
theorem zJg : ∀ k, zjx Tryd.prog 69 (@zwt ⟨ziw k⟩)
  | 0=>λ xs ys safe rs h hs=>by
    unfold zwt at h
    split at h
    · simp only [dqa, dqh] at h
      obtain⟨rfl,rfl,rfl⟩:=h
      exact absurd hs.2.2 dqk
    · cases h
  | k+1=>@zLU ⟨ziw k⟩ (zJg k)
def s69 (w:web) (left:Int):((Sl (Sl Int))×web):=(ziw 64).S w left
def p69 (w:web) (left:Int):Bool:=(ziw 64).P w left
def zJh : MK
  | [.box 105 [.p (.int .i64 zax),.p (.sl zas zbw zao),.mo 3 4 zdf zaO zaP],.d (.one (.int .i64 b1))]=>some (IsE enc_40 4 zbw zao/\zdf=(false,1,false,[none])/\p69 (⟨(⟨zax,(⟨zas,zam zao⟩:(Sl Tie))⟩:Net),(⟨zaO,zaP⟩:Mp)⟩:web) b1=true,[.one (.sl (((s69 (⟨(⟨zax,(⟨zas,zam zao⟩:(Sl Tie))⟩:Net),(⟨zaO,zaP⟩:Mp)⟩:web) b1).1).len) 1 (λ i=>za6 (((s69 (⟨(⟨zax,(⟨zas,zam zao⟩:(Sl Tie))⟩:Net),(⟨zaO,zaP⟩:Mp)⟩:web) b1).1).get i)))],[.box 105 [.p (.int .i64 (((s69 (⟨(⟨zax,(⟨zas,zam zao⟩:(Sl Tie))⟩:Net),(⟨zaO,zaP⟩:Mp)⟩:web) b1).2).Net.Nodes)),.p (.sl (((s69 (⟨(⟨zax,(⟨zas,zam zao⟩:(Sl Tie))⟩:Net),(⟨zaO,zaP⟩:Mp)⟩:web) b1).2).Net.Ties.len) 4 (λ i=>enc_40 (((s69 (⟨(⟨zax,(⟨zas,zam zao⟩:(Sl Tie))⟩:Net),(⟨zaO,zaP⟩:Mp)⟩:web) b1).2).Net.Ties.get i))),.mo 3 4 (false,1,false,[none]) ((((s69 (⟨(⟨zax,(⟨zas,zam zao⟩:(Sl Tie))⟩:Net),(⟨zaO,zaP⟩:Mp)⟩:web) b1).2).out).n) ((((s69 (⟨(⟨zax,(⟨zas,zam zao⟩:(Sl Tie))⟩:Net),(⟨zaO,zaP⟩:Mp)⟩:web) b1).2).out).F)],.d (.one (.int .i64 b1))])
  | _=>none
theorem zN5:zjx Tryd.prog 69 zJh:=zJg 64
abbrev T71:Tabs:=(Tabs.nil.addF 101 zsh)
theorem zLV:TabsOk Tryd.prog T71:=(TabsOk.nil.addF zI3)
abbrev G71:Ctrs:=csm T71 (λ _ _=>[]) (λ _=>false)
def zE8:Ann:=⟨36,[(0,zK [0,1] []),(1,zK [0,1,9,10,11] []),(2,zK [0,1,9,10,11,12] []),(3,zK [0,1,5,6,9,10,11] []),(4,zK [0,1,5,6,9,10,11,19] []),(5,zK [4] []),(6,zK [0,1,6,7,9,10,11] []),(7,zK [0,1,8,9,10,11] []),(8,zK [0,1,8,9,10,11,28] []),(9,zK [4] []),(10,zK [0,1,9,10,11] []),(11,zK [35] []),(12,zK [4] []),(13,zK [4] [])],
 [(2,zK [0,1,9,10,11] [])],
 [(6,zK [0,1,5,6,9,10,11] []),(8,zK [0,1,8,9,10,11] [])],
 [],[]⟩
abbrev R71:=Int
abbrev e71 (r:R71):List PA:=[.one (.int .i64 r)]
@[irreducible] def z71:=ptF Tryd.prog G71 zE8 Tryd.f71
def zCW (zex:(Sl Int)) (zdY:(Sl Int)) (zg7:(Sl Int)) (za2:Int) (zaS:Int) (zdm:Nat->List PV) (zdn:Nat->List PV) (zjt:Nat->List PV):St:=⟨[(0,zP (.sl zex.len 1 zdm)),(1,zP (.sl zdY.len 1 zdn)),(9,zP (.sl zg7.len 1 zjt)),(10,zI za2),(11,zI zaS)],[],[]⟩
abbrev zBE (K:List PA->Prop) (X:St->Prop) (P:(Sl Int)->(Sl Int)->(Sl Int)->Int->Int->Bool) (S:(Sl Int)->(Sl Int)->(Sl Int)->Int->Int->Int):Prop:=∀ ⦃zex:(Sl Int)⦄ ⦃zdY:(Sl Int)⦄ ⦃zg7:(Sl Int)⦄ ⦃za2:Int⦄ ⦃zaS:Int⦄ ⦃zdm:Nat->List PV⦄ ⦃zdn:Nat->List PV⦄ ⦃zjt:Nat->List PV⦄,P zex zdY zg7 za2 zaS=true->K (e71 (S zex zdY zg7 za2 zaS))->zdm=zg zac zex->zdn=zg zac zdY->zjt=zg zac zg7->X (zCW zex zdY zg7 za2 zaS zdm zdn zjt)
section
variable {K:List PA->Prop}{s1_a0:(Sl Int)}{s2_a1:(Sl Int)}{zex:(Sl Int)}{zdY:(Sl Int)}{zg7:(Sl Int)}{za2:Int}{zaS:Int}{zdm:Nat->List PV}{zdn:Nat->List PV}{zjt:Nat->List PV}{X0:St->Prop}{P0:(Sl Int)->(Sl Int)->(Sl Int)->Int->Int->Bool}{S0:(Sl Int)->(Sl Int)->(Sl Int)->Int->Int->Int}{zoI:(Sl Int)}{zjT:(Sl Int)}{iv1:Int}{zE9:Int}{zqo:(Sl Int)}{zhP:Int}{zcy:Int}{zoJ:Nat->List PV}{zoK:Nat->List PV}{zCX:Nat->List PV}{zoL:(Sl Int)}{zoM:(Sl Int)}{cv2:Int}{zqp:Int}{zoN:Nat->List PV}{zoO:Nat->List PV}
def zqq (S0:(Sl Int)->(Sl Int)->(Sl Int)->Int->Int->Int) (zqo:(Sl Int)) (zhP:Int) (zoL:(Sl Int)) (zoM:(Sl Int)) (cv2:Int) (zqp:Int):Int :=
  (cond (cv2 != (0:Int))
 cv2
 (S0 zoL zoM zqo zhP (w64 (zqp+(1:Int)))))
def zqr (P0:(Sl Int)->(Sl Int)->(Sl Int)->Int->Int->Bool) (zqo:(Sl Int)) (zhP:Int) (zoL:(Sl Int)) (zoM:(Sl Int)) (cv2:Int) (zqp:Int):Bool :=
  (cond (cv2 != (0:Int))
 true
 (P0 zoL zoM zqo zhP (w64 (zqp+(1:Int)))))
theorem zFa (hX0:zBE K X0 P0 S0) (hs:zqr P0 zqo zhP zoL zoM cv2 zqp=true) (hk:K (e71 (zqq S0 zqo zhP zoL zoM cv2 zqp))) (zv7:zoN=zg zac zoL) (zv8:zoO=zg zac zoM):z71 K [1,0,1,0,0,1,1,0,0,1,1,1,1] [X0] ⟨[(0,zP (.sl zoL.len 1 zoN)),(1,zP (.sl zoM.len 1 zoO)),(8,zI cv2),(9,zS zac 1 zqo),(10,zI zhP),(11,zI zqp)],[],[]⟩:=by subst zv7;subst zv8;exact za0 (by kernel_rfl) (zc hs hk (λ hs hk=>hk) (λ hs hk=>(hX0 hs hk rfl rfl rfl)))
def zqs (S0:(Sl Int)->(Sl Int)->(Sl Int)->Int->Int->Int) (zoI:(Sl Int)) (zjT:(Sl Int)) (iv1:Int) (zE9:Int) (zqo:(Sl Int)) (zhP:Int) (zcy:Int):Int :=
  (zqq S0 zqo zhP zoI zjT (ztQ zE9 (zjT.get iv1.toNat)) zcy)
def zqu (P0:(Sl Int)->(Sl Int)->(Sl Int)->Int->Int->Bool) (zoI:(Sl Int)) (zjT:(Sl Int)) (iv1:Int) (zE9:Int) (zqo:(Sl Int)) (zhP:Int) (zcy:Int):Bool :=
  (decide ((0<=iv1/\iv1 < (zjT.len:Int))) &&
 (zqr P0 zqo zhP zoI zjT (ztQ zE9 (zjT.get iv1.toNat)) zcy))
theorem zFb (hX0:zBE K X0 P0 S0) (hs:zqu P0 zoI zjT iv1 zE9 zqo zhP zcy=true) (hk:K (e71 (zqs S0 zoI zjT iv1 zE9 zqo zhP zcy))) (zv9:zoJ=zg zac zoI) (zwa:zoK=zg zac zjT) (zJi:zCX=zg zac zqo):z71 K [1,0,1,0,0,1,1,0,0,1,1] [X0] ⟨[(0,zP (.sl zoI.len 1 zoJ)),(1,zP (.sl zjT.len 1 zoK)),(5,zI iv1),(6,zI zE9),(9,zP (.sl zqo.len 1 zCX)),(10,zI zhP),(11,zI zcy)],[],[]⟩:=by subst zv9;subst zwa;subst zJi;exact za0 (by kernel_rfl) (zaN hs λ hc hs=>And.intro hc (zFa hX0 hs hk rfl rfl))
def zix (S0:(Sl Int)->(Sl Int)->(Sl Int)->Int->Int->Int) (zex:(Sl Int)) (zdY:(Sl Int)) (zg7:(Sl Int)) (za2:Int) (zaS:Int):Int :=
  (cond (decide (zaS < za2))
 (cond (decide (zaS >= (zdY.len : Int)))
 (1:Int)
 (zqs S0 zex zdY zaS (zg7.get zaS.toNat) zg7 za2 zaS))
 (cond (decide ((zex.len : Int) < (zdY.len : Int)))
 (-1:Int)
 (0:Int)))
def ziy (P0:(Sl Int)->(Sl Int)->(Sl Int)->Int->Int->Bool) (zex:(Sl Int)) (zdY:(Sl Int)) (zg7:(Sl Int)) (za2:Int) (zaS:Int):Bool :=
  (cond (decide (zaS < za2))
 (decide ((0<=zaS/\zaS < (zg7.len:Int))) &&
 (cond (decide (zaS >= (zdY.len : Int)))
 true
 (zqu P0 zex zdY zaS (zg7.get zaS.toNat) zg7 za2 zaS)))
 true)
def ziz:Nat->(Sl Int)->(Sl Int)->(Sl Int)->Int->Int->Int:=lpO (λ _ _ _ _ _=>default) (zix)
def ziA:Nat->(Sl Int)->(Sl Int)->(Sl Int)->Int->Int->Bool:=lpO (λ _ _ _ _ _=>false) (ziy)
def zwu (zex:(Sl Int)) (zdY:(Sl Int)) (zg7:(Sl Int)) (za2:Int) (zaS:Int):Int:=ziz Fuel zex zdY zg7 za2 zaS
def zwv (zex:(Sl Int)) (zdY:(Sl Int)) (zg7:(Sl Int)) (za2:Int) (zaS:Int):Bool:=ziA Fuel zex zdY zg7 za2 zaS
theorem zFc (hs:zwv zex zdY zg7 za2 zaS=true) (hk:K (e71 (zwu zex zdY zg7 za2 zaS))) (zkY:zdm=zg zac zex) (zkZ:zdn=zg zac zdY) (zww:zjt=zg zac zg7):z71 K [1,0,1,0] [] (zCW zex zdY zg7 za2 zaS zdm zdn zjt) :=
  zl (λ X=>z71 K [1,0,1,0,0] [X]) (by kernel_rfl) λ X0 hX =>
  (show ∀ k, zBE K X0 (ziA k) (ziz k) from zeu _ _ (ziy) (zix) (zBE K X0)
 (by intro _ _ _ _ _ _ _ _ hs;exact absurd hs dqk)
 (by intro P0 S0 hX0 zex zdY zg7 za2 zaS zdm zdn zjt hs hk zkY zkZ zww;subst zkY;subst zkZ;subst zww;exact hX _ (za0 (by kernel_rfl) (zc hs hk (λ hs hk=>(zaN hs λ hc hs=>And.intro hc (zc hs hk (λ hs hk=>hk) (λ hs hk=>(zFb hX0 hs hk rfl rfl rfl))))) (λ hs hk=>(zt hk (λ hk=>hk) (λ hk=>hk))))))) _ hs hk zkY zkZ zww
def s71 (s1_a0:(Sl Int)) (s2_a1:(Sl Int)):Int :=
  (zwu s1_a0 s2_a1 s1_a0 (s1_a0.len:Int) (0:Int))
def p71 (s1_a0:(Sl Int)) (s2_a1:(Sl Int)):Bool :=
  (zwv s1_a0 s2_a1 s1_a0 (s1_a0.len:Int) (0:Int))
end
theorem q71 (s1_a0:(Sl Int)) (s2_a1:(Sl Int)) (K:List PA->Prop) (hs:p71 s1_a0 s2_a1=true) (hk:K (e71 (s71 s1_a0 s2_a1))):vcFun Tryd.prog G71 zE8 71 [.one (.sl s1_a0.len 1 (λ i=>zac (s1_a0.get i))),.one (.sl s2_a1.len 1 (λ i=>zac (s2_a1.get i)))] K :=
  za0 (by kernel_rfl) (zFc hs hk rfl rfl rfl)
def zFd : List PA → COut
  | [.one (.sl zeR zkX zeS),.one (.sl zeT zlt zeQ)]=>.det (IsE zac 1 zkX zeS/\IsE zac 1 zlt zeQ/\p71 (⟨zeR,zaw zeS⟩:(Sl Int)) (⟨zeT,zaw zeQ⟩:(Sl Int))=true) [.one (.int .i64 (s71 (⟨zeR,zaw zeS⟩:(Sl Int)) (⟨zeT,zaw zeQ⟩:(Sl Int))))]
  | _=>.no
theorem zJj:zar Tryd.prog 71:=⟨_,rfl,rfl,by kernel_rfl⟩
theorem zN6:Ok Tryd.prog 71 zFd:=zbl zLV zJj λ args K h=>by
  unfold zFd at h
  split at h
  · rename_i zeR zkX zeS zeT zlt zeQ
    obtain⟨⟨⟨rfl,zg2,rfl⟩,⟨rfl,zif,rfl⟩,hs⟩,hk⟩:=h
    try rw[zbr zg2] at hs
    try rw[zbr zg2] at hk
    try rw[zbr zif] at hs
    try rw[zbr zif] at hk
    exact⟨(λ _ _=>[]),(λ _=>false),zE8,q71 (⟨zeR,zg2⟩:(Sl Int)) (⟨zeT,zif⟩:(Sl Int)) K hs hk⟩
  · exact h.elim
abbrev T70:Tabs:=(Tabs.nil.addF 71 zFd)
theorem zLW:TabsOk Tryd.prog T70:=(TabsOk.nil.addF zN6)
abbrev G70:Ctrs:=csm T70 (λ _ _=>[]) (λ _=>false)
def zFe:Ann:=⟨33,[(0,zK [0,1] []),(1,zK [0,1,9] []),(3,zK [0,1,5] []),(4,zK [0,1,5,6] []),(5,zK [0,1,5,6,17] []),(6,zK [0,1,5,6] []),(7,zK [0,1,5,6,27] []),(8,zK [0,1,5,6] []),(9,zK [4] [])],
 [(5,zK [0,1,5,6] [])],
 [(3,zK [0,1] []),(8,zK [0,1,5,6,27] [])],
 [],[]⟩
abbrev R70:=(Sl Int)
abbrev e70 (r:R70):List PA:=[.one (.sl r.len 1 (λ i=>zac (r.get i)))]
@[irreducible] def z70:=ptF Tryd.prog G70 zFe Tryd.f70
def zCY (x:(Sl (Sl Int))) (mv1:(Sl Int)) (iv1:Int) (zoR:Nat->List PV):St:=⟨[(0,zS za6 1 x),(1,zP (.fn 71 [] [])),(5,zP (.sl mv1.len 1 zoR)),(6,zI iv1)],[],[]⟩
abbrev zFf (K:List PA->Prop) (x:(Sl (Sl Int))) (X:St->Prop) (P:(Sl Int)->Int->Bool) (S:(Sl Int)->Int->(Sl Int)):Prop:=∀ ⦃mv1:(Sl Int)⦄ ⦃iv1:Int⦄ ⦃zoR:Nat->List PV⦄,P mv1 iv1=true->K (e70 (S mv1 iv1))->zoR=zg zac mv1->X (zCY x mv1 iv1 zoR)
section
variable {K:List PA->Prop}{x:(Sl (Sl Int))}{mv1:(Sl Int)}{iv1:Int}{zoR:Nat->List PV}{X1:St->Prop}{P1:(Sl Int)->Int->Bool}{S1:(Sl Int)->Int->(Sl Int)}{mv2:(Sl Int)}{iv2:Int}{zqv:Bool}{zJk:Nat->List PV}
def zqw (S1:(Sl Int)->Int->(Sl Int)) (x:(Sl (Sl Int))) (mv2:(Sl Int)) (iv2:Int) (zqv:Bool):(Sl Int) :=
  (cond zqv
 (S1 (x.get iv2.toNat) (w64 (iv2+(1:Int))))
 (S1 mv2 (w64 (iv2+(1:Int)))))
def zqx (P1:(Sl Int)->Int->Bool) (x:(Sl (Sl Int))) (mv2:(Sl Int)) (iv2:Int) (zqv:Bool):Bool :=
  (cond zqv
 (decide ((0<=iv2/\iv2 < (x.len:Int))) &&
 (P1 (x.get iv2.toNat) (w64 (iv2+(1:Int)))))
 (P1 mv2 (w64 (iv2+(1:Int)))))
theorem zFg (hX1:zFf K x X1 P1 S1) (hs:zqx P1 x mv2 iv2 zqv=true) (hk:K (e70 (zqw S1 x mv2 iv2 zqv))) (zLX:zJk=zg zac mv2):z70 K [1,1,1,0,1,0,0,1,0,0,1] [X1] ⟨[(0,zS za6 1 x),(1,zP (.fn 71 [] [])),(5,zP (.sl mv2.len 1 zJk)),(6,zI iv2),(27,zB zqv)],[],[]⟩:=by subst zLX;exact za0 (by kernel_rfl) (zc hs hk (λ hs hk=>(zaN hs λ hc hs=>And.intro hc (hX1 hs hk rfl))) (λ hs hk=>(hX1 hs hk rfl)))
def ziB (x:(Sl (Sl Int))) (S1:(Sl Int)->Int->(Sl Int)) (mv1:(Sl Int)) (iv1:Int):(Sl Int) :=
  (cond (decide (iv1 < (x.len : Int)))
 (zqw S1 x mv1 iv1 (decide ((s71 (x.get iv1.toNat) mv1) < (0:Int))))
 mv1)
def ziC (x:(Sl (Sl Int))) (P1:(Sl Int)->Int->Bool) (mv1:(Sl Int)) (iv1:Int):Bool :=
  (cond (decide (iv1 < (x.len : Int)))
 (decide ((0<=iv1/\iv1 < (x.len:Int))) &&
 (decide ((p71 (x.get iv1.toNat) mv1=true)) &&
 (zqx P1 x mv1 iv1 (decide ((s71 (x.get iv1.toNat) mv1) < (0:Int))))))
 true)
def ziD (x:(Sl (Sl Int))):Nat->(Sl Int)->Int->(Sl Int):=lpO (λ _ _=>default) (ziB x)
def ziE (x:(Sl (Sl Int))):Nat->(Sl Int)->Int->Bool:=lpO (λ _ _=>false) (ziC x)
def zwx (x:(Sl (Sl Int))) (mv1:(Sl Int)) (iv1:Int):(Sl Int):=ziD x Fuel mv1 iv1
def zwy (x:(Sl (Sl Int))) (mv1:(Sl Int)) (iv1:Int):Bool:=ziE x Fuel mv1 iv1
theorem zFh (hs:zwy x mv1 iv1=true) (hk:K (e70 (zwx x mv1 iv1))) (zFi:zoR=zg zac mv1):z70 K [1,1,1,0,1,0] [] (zCY x mv1 iv1 zoR) :=
  zl (λ X=>z70 K [1,1,1,0,1,0,0] [X]) (by kernel_rfl) λ X1 hX =>
  (show ∀ k, zFf K x X1 (ziE x k) (ziD x k) from zeu _ _ (ziC x) (ziB x) (zFf K x X1)
 (by intro _ _ _ hs;exact absurd hs dqk)
 (by intro P1 S1 hX1 mv1 iv1 zoR hs hk zFi;subst zFi;exact hX _ (za0 (by kernel_rfl) (zc hs hk (λ hs hk=>(zaN hs λ hc hs=>And.intro hc (zaN hs λ hc hs=>And.intro (And.intro (zE zac 1 ((x.get iv1.toNat).get)) (And.intro (zE zac 1 mv1.get) hc)) (zFg hX1 hs hk rfl)))) (λ hs hk=>hk))))) _ hs hk zFi
def zqy (x:(Sl (Sl Int))):(Sl Int) :=
  (zwx x (x.get 0) (1:Int))
def zqz (x:(Sl (Sl Int))):Bool :=
  (decide ((0<=(0:Int)/\(0:Int) < (x.len:Int))) &&
 (zwy x (x.get 0) (1:Int)))
theorem zFj (hs:zqz x=true) (hk:K (e70 (zqy x))):z70 K [1,1] [] ⟨[(0,zS za6 1 x),(1,zP (.fn 71 [] []))],[],[]⟩:=za0 (by kernel_rfl) (zaN hs λ hc hs=>And.intro hc (zFh hs hk rfl))
def s70 (x:(Sl (Sl Int))):(Sl Int) :=
  (cond (decide ((x.len : Int) < (1:Int)))
 default
 (zqy x))
def p70 (x:(Sl (Sl Int))):Bool :=
  (cond (decide ((x.len : Int) < (1:Int)))
 false
 (zqz x))
end
theorem q70 (x:(Sl (Sl Int))) (K:List PA->Prop) (hs:p70 x=true) (hk:K (e70 (s70 x))):vcFun Tryd.prog G70 zFe 70 [.one (.sl x.len 1 (λ i=>za6 (x.get i))),.one (.fn 71 [] [])] K :=
  za0 (by kernel_rfl) (zc hs hk (λ hs hk=>(absurd hs dqk:False)) (λ hs hk=>(zFj hs hk)))
def zFk : List PA → COut
  | [.one (.sl zeR zkX zeS),.one (.fn 71 [] [])]=>.det (IsE za6 1 zkX zeS/\p70 (⟨zeR,zm2 zeS⟩:(Sl (Sl Int)))=true) [.one (.sl ((s70 (⟨zeR,zm2 zeS⟩:(Sl (Sl Int)))).len) 1 (λ i=>zac ((s70 (⟨zeR,zm2 zeS⟩:(Sl (Sl Int)))).get i)))]
  | _=>.no
theorem zJl:zar Tryd.prog 70:=⟨_,rfl,rfl,by kernel_rfl⟩
theorem zN7:Ok Tryd.prog 70 zFk:=zbl zLW zJl λ args K h=>by
  unfold zFk at h
  split at h
  · rename_i zeR zkX zeS
    obtain⟨⟨⟨rfl,zg2,rfl⟩,hs⟩,hk⟩:=h
    try rw[zkS zg2] at hs
    try rw[zkS zg2] at hk
    exact⟨(λ _ _=>[]),(λ _=>false),zFe,q70 (⟨zeR,zg2⟩:(Sl (Sl Int))) K hs hk⟩
  · exact h.elim
end Go.Proofs
namespace Go.Pm
open Go.RowKit (Below)
structure PanR where
  t1:Nat
  y1:TypeId
  t2:Nat
  y2:TypeId
  e:Int
  ty:TypeId
def PanR.v (pr:PanR):Value:=.iface pr.ty (.agg #[])
def stA (pr : PanR) : Oper := { dst := none, op := .store pr.y1 (.tmp pr.t1) (.const (.slice none 0 0)), type := 0, pos := "", after := #[], guard := none }
def stB (pr : PanR) : Oper := { dst := none, op := .store pr.y2 (.tmp pr.t2) (.const (.int .i64 pr.e)), type := 0, pos := "", after := #[], guard := none }
def zlw (pr:PanR):Array Oper:=#[stA pr,stB pr]
section
variable (P:Program) (Γ:Ctrs)
def zoS (pr : PanR) (fi : FuncId) : Code → Option (Nat × Nat)
  | .region id ops false=>match ops.toList with
    | [o1,o2]=>match o1.op,o1.dst,o1.guard,o2.op,o2.dst,o2.guard with
      | .makeFunc (.func f) first caps,some t,none,.defer { callee:=.value (.tmp t'),args,argTypes:=_ },none,none=>match caps.toList with
        | [.tmp c1,.tmp c2]=>match Nat.beq f fi && Nat.beq t t' && first.isEmpty && args.isEmpty && Nat.beq c1 pr.t1 && Nat.beq c2 pr.t2 && !Nat.beq t pr.t1 && !Nat.beq t pr.t2 with
          | true=>some (id,t)
          | false=>none
        | _=>none
      | _,_,_,_,_,_=>none
    | _=>none
  | _=>none
def zwz (nt : Nat) (pr : PanR) : Code → Option (Nat × Nat)
  | .region _ ops false=>match ops.toList with
    | [o1,o2,o3]=>match o1.op,o1.dst,o1.guard,o2.op,o2.dst,o2.guard,o3.op,o3.guard with
      | .build ty parts,some x,none,.makeInterface ty' (.tmp x'),some y,none,.panic (.tmp y'),none=>match parts.isEmpty && Nat.beq ty pr.ty && Nat.beq ty' pr.ty && Nat.beq x x' && Nat.beq y y' && Nat.blt x nt && Nat.blt y nt with
        | true=>some (x,y)
        | false=>none
      | _,_,_,_,_,_,_,_=>none
    | _=>none
  | _=>none
def znr (pr : PanR) (fi : FuncId) (ann : Ann) : Bool → Code → (Exit → St → Prop) → St → Prop
  | dn,.seq a b,K,σ=>match zoS pr fi a with
    | some (id,t)=>match Nat.blt t ann.nt && !dn && zH3 [pr.t1,pr.t2] (zfB b) with
      | true=>zDO P ann id (znr pr fi ann true b K) ⟨(t,.junk) :: σ.env,σ.objs,[]⟩
      | false=>False
    | none=>vc P Γ ann a (zAn (znr pr fi ann dn b K) K) σ
  | dn,c,K,σ=>match zwz ann.nt pr c with
    | some (x,y)=>match dn with
      | true=>zes P Γ ann.nt (zlw pr) 0 (zlw pr).toList (K .ret) ⟨(y,.junk) :: (x,.junk) :: σ.env,σ.objs,[]⟩
      | false=>False
    | none=>vc P Γ ann c K σ
def ptD (ann : Ann) (pr : PanR) (fi : FuncId) : Bool → Code → (Exit → St → Prop) → List Nat → List (St → Prop) → St → Prop
  | dn,.seq a b,K,i :: r,X=>match i with
    | 0=>pt P Γ ann a (zAn (znr P Γ pr fi ann dn b K) K) r X
    | _=>match zoS pr fi a with
      | some _=>ptD ann pr fi true b K r X
      | none=>ptD ann pr fi dn b K r X
  | _,c,K,l,X=>pt P Γ ann c K l X
def zN8 (ann:Ann) (pr:PanR) (fi:FuncId) (fn:Func) (K:List PA->Prop) (l:List Nat) (X:List (St->Prop)):St->Prop :=
 match fn.body with
 | some c=>ptD P Γ ann pr fi false c (znP P fn K) l X
 | none=>λ _=>False
def zst (pr:PanR) (fi:FuncId) (ann:Ann) (f:FuncId) (args:List PA) (K:List PA->Prop):Prop :=
 match P.funcs[f]? with
 | some fn=>match fn.body with
  | some c=>match Nat.beq ann.nt fn.ntmps && Nat.ble args.length ann.nt && zH3 [rfS] (zfB c) with
   | true=>znr P Γ pr fi ann false c (znP P fn K) ⟨zhq 0 args,[],[]⟩
   | false=>False
  | none=>False
 | none=>False
end
section
variable {P:Program}{Γ:Ctrs}{B:Nat}{w0:World}{pr:PanR}
abbrev dfD (fi:FuncId) (v1 v2:Value):Deferred:={ target:=.fn (.func fi) #[v1,v2],args:=#[] }
theorem zl8 {fi:FuncId}{c:Code}{id t:Nat}(h:zoS pr fi c=some (id,t)):∃ (o1 o2:Oper) (ats:Array TypeId),c=.region id #[o1,o2] false/\t ≠ pr.t1/\t ≠ pr.t2/\o1.op=.makeFunc (.func fi) #[] #[.tmp pr.t1,.tmp pr.t2]/\o1.dst=some t/\o1.guard=none /\
  o2.op=.defer { callee:=.value (.tmp t),args:=#[],argTypes:=ats }/\o2.dst=none/\o2.guard=none:=by
 unfold zoS at h
 split at h
 ·rename_i id' ops
  split at h
  ·rename_i o1 o2 hops
   split at h
   ·rename_i f first caps t' t2 args ats e1 e2 e3 e4 e5 e6
    split at h
    ·rename_i c1 c2 hcaps
     split at h
     ·rename_i hc
      simp only[dqm] at hc
      simp only[dqa,dqh] at h
      obtain⟨rfl,rfl⟩:=h
      obtain⟨⟨⟨⟨⟨⟨⟨h1,h2⟩,h3⟩,h4⟩,h5⟩,h6⟩,h7⟩,h8⟩:=hc
      have h1:=dqc h1
      have h2:=dqc h2
      have h3:first = #[]:=by simpa using h3
      have h4:args = #[]:=by simpa using h4
      have h5:=dqc h5
      have h6:=dqc h6
      have h7:t' ≠ pr.t1:=Nat.ne_of_beq_eq_false (by simpa using h7)
      have h8:t' ≠ pr.t2:=Nat.ne_of_beq_eq_false (by simpa using h8)
      have h9:caps = #[.tmp c1,.tmp c2]:=by rw[<- Array.toArray_toList (xs:=caps),hcaps]
      subst h1 h2 h3 h4 h9
      rw[h5,h6] at e1
      refine⟨o1,o2,ats,?_,h7,h8,e1,e2,e3,e4,e5,e6⟩
      rw[<- Array.toArray_toList (xs:=ops),hops]
     ·cases h
    ·cases h
   ·cases h
  ·cases h
 ·cases h
theorem zoT {nt:Nat}{c:Code}{x y:Nat}(h:zwz nt pr c=some (x,y)):∃ (id:Nat) (o1 o2 o3:Oper),c=.region id #[o1,o2,o3] false/\x < nt/\y < nt/\o1.op=.build pr.ty #[]/\o1.dst=some x/\o1.guard=none /\
  o2.op=.makeInterface pr.ty (.tmp x)/\o2.dst=some y/\o2.guard=none/\o3.op=.panic (.tmp y)/\o3.guard=none:=by
 unfold zwz at h
 split at h
 ·rename_i id' ops
  split at h
  ·rename_i o1 o2 o3 hops
   split at h
   ·rename_i ty parts a ty' a' b b' e1 e2 e3 e4 e5 e6 e7 e8
    split at h
    ·rename_i hc
     simp only[dqm] at hc
     simp only[dqa,dqh] at h
     obtain⟨rfl,rfl⟩:=h
     obtain⟨⟨⟨⟨⟨⟨h1,h2⟩,h3⟩,h4⟩,h5⟩,h6⟩,h7⟩:=hc
     have h1:parts = #[]:=by simpa using h1
     have h2:=dqc h2
     have h3:=dqc h3
     have h4:=dqc h4
     have h5:=dqc h5
     subst h1 h2 h4 h5
     rw[h3] at e4
     refine⟨id',o1,o2,o3,?_,by simpa [Nat.blt_eq] using h6,by simpa [Nat.blt_eq] using h7,e1,e2,e3,e4,e5,e6,e7,e8⟩
     rw[<- Array.toArray_toList (xs:=ops),hops]
    ·cases h
   ·cases h
  ·cases h
 ·cases h
theorem ztI {fi : FuncId} (hidle : ∀ caps : Array Value, caps.size = 2 → znS P { target := .fn (.func fi) caps, args := #[] }) {c : Code} {id t nt n : Nat} {h0 : Fz} {a : Act} {σ : St} {g : Gh} {w : World} {Q : Exit → Act → World → Prop}
    (h:zoS pr fi c=some (id,t)) (ht:t < nt) (S:Sim P nt B w0 h0 g σ a w)
    (hQ:∀ a',Sim P nt B w0 h0 g ⟨(t,.junk) :: σ.env,σ.objs,[]⟩ a' w->a'.defers=dfD fi (a.tmps.getD pr.t1 undef) (a.tmps.getD pr.t2 undef) :: a.defers->(∀ u,u ≠ t->a'.tmps.getD u undef=a.tmps.getD u undef)->Q .normal a' w):c.wpIn (FR none) n P Q a w:=by
  obtain⟨o1,o2,ats,rfl,n1,n2,e1,e2,e3,e4,e5,e6⟩:=zl8 h
  refine wpIn_region ?_
  show wpOpsIn (FR none) n P #[o1,o2] Q [0,1] a w
  have w1:∀ tm,Region.wanted o1 (yielded #[o1,o2] tm)=true:=λ tm=>by simp[Region.wanted,e3]
  have w2:∀ tm,Region.wanted o2 (yielded #[o1,o2] tm)=true:=λ tm=>by simp[Region.wanted,e6]
  have r1:(execOp a.eval o1).run P w=.ok (.value (.func (.func fi) #[] #[a.tmps.getD pr.t1 undef,a.tmps.getD pr.t2 undef])) w:=by
    simp only[execOp,e1,Instr.makeFunc,dqd,dqe,dqb];simp[Act.eval]
  have ets:t < a.tmps.size:=dqS ht S.size
  have ev:(a.put (some t) (.func (.func fi) #[] #[a.tmps.getD pr.t1 undef,a.tmps.getD pr.t2 undef])).eval (.tmp t)=.func (.func fi) #[] #[a.tmps.getD pr.t1 undef,a.tmps.getD pr.t2 undef]:=by
    simp[Act.put,Act.eval,dql,ets]
  have r2:(execOp (a.put (some t) (.func (.func fi) #[] #[a.tmps.getD pr.t1 undef,a.tmps.getD pr.t2 undef])).eval o2).run P w=.ok (.defer (dfD fi (a.tmps.getD pr.t1 undef) (a.tmps.getD pr.t2 undef))) w:=by
    simp only[execOp,e4,resolve,dqd,ev,Deferred.ofValue,dqe,dqb];simp
  show (if Region.wanted o1 (yielded #[o1,o2] a.tmps) then o1.wpIn (FR none) n P a w (wpOpsIn (FR none) n P #[o1,o2] Q [1]) Q else _)
  rw[if_pos (w1 _)]
  refine⟨λ _ _=>trivial,?_⟩
  rw[show o1.semAt (FR none).round a.eval=execOp a.eval o1 from rfl,r1]
  show wpOpsIn (FR none) n P #[o1,o2] Q [1] (a.put o1.dst _) w
  rw[e2]
  show (if Region.wanted o2 (yielded #[o1,o2] (a.put (some t) _).tmps) then o2.wpIn (FR none) n P (a.put (some t) _) w (wpOpsIn (FR none) n P #[o1,o2] Q []) Q else _)
  rw[if_pos (w2 _)]
  refine⟨λ _ _=>trivial,?_⟩
  have r3:Sem.run P (o2.semAt (FR none).round (a.put (some t) (.func (.func fi) #[] #[a.tmps.getD pr.t1 undef,a.tmps.getD pr.t2 undef])).eval) w=.ok (.defer (dfD fi (a.tmps.getD pr.t1 undef) (a.tmps.getD pr.t2 undef))) w:=r2
  rw[r3]
  have S1:=S.put (dst:=some t) (d:=.junk) (v:=.func (.func fi) #[] #[a.tmps.getD pr.t1 undef,a.tmps.getD pr.t2 undef]) (by simpa [zbs,Nat.blt_eq] using ht) trivial (λ L hL=>by simp[zaQ,za8,zaC] at hL) []
  rw[Oper.uponIn_defer,e5]
  refine hQ _ (S1.act ?_ ?_ ?_) rfl λ u hu=>?_
  · obtain ⟨es, m1, m2, m3, m4⟩ := S1.dfr
    refine⟨.inr (dfD fi (a.tmps.getD pr.t1 undef) (a.tmps.getD pr.t2 undef)) :: es,m1,?_,λ E hE=>?_,λ d hd=>?_⟩
    · rw[dqK,<- m2];rfl
    · rcases dqq.1 hE with e | hE
      · cases e
      · exact m3 E hE
    · rcases dqq.1 hd with e | hd
      · cases e;exact hidle _ rfl
      · exact m4 d hd
  · exact S1.size
  · exact S1.env
  · simp[Act.put,dql,Array.getElem?_setIfInBounds_ne (Ne.symm hu)]
theorem zwA (hb : ∀ w, (Instr.build pr.ty #[]).run P w = .ok (.agg #[]) w) (hm : ∀ w, (Instr.makeInterface pr.ty (.agg #[])).run P w = .ok pr.v w) {c : Code} {x y nt n : Nat} {h0 : Fz} {a : Act} {σ : St} {g : Gh} {w : World} {Q : Exit → Act → World → Prop}
    (h:zwz nt pr c=some (x,y)) (S:Sim P nt B w0 h0 g σ a w)
    (hQ:∀ a',Sim P nt B w0 h0 g ⟨(y,.junk) :: (x,.junk) :: σ.env,σ.objs,[]⟩ a' w->a'.defers=a.defers->(∀ u,u ≠ x->u ≠ y->a'.tmps.getD u undef=a.tmps.getD u undef)->Q (.panic [{ v:=pr.v,recovered:=false }]) a' w):c.wpIn (FR none) n P Q a w:=by
  obtain⟨id,o1,o2,o3,rfl,hx,hy,e1,e2,e3,e4,e5,e6,e7,e8⟩:=zoT h
  refine wpIn_region ?_
  show wpOpsIn (FR none) n P #[o1,o2,o3] Q [0,1,2] a w
  have w1:∀ tm,Region.wanted o1 (yielded #[o1,o2,o3] tm)=true:=λ tm=>by simp[Region.wanted,e3]
  have w2:∀ tm,Region.wanted o2 (yielded #[o1,o2,o3] tm)=true:=λ tm=>by simp[Region.wanted,e6]
  have w3:∀ tm,Region.wanted o3 (yielded #[o1,o2,o3] tm)=true:=λ tm=>by simp[Region.wanted,e8]
  have r1:(execOp a.eval o1).run P w=.ok (.value (.agg #[])) w:=by
    simp only[execOp,e1,dqd,Array.map_empty,hb,dqe,dqb]
  have S1:=S.put (dst:=some x) (d:=.junk) (v:=.agg #[]) (by simpa [zbs,Nat.blt_eq] using hx) trivial (λ L hL=>by simp[zaQ,za8,zaC] at hL) []
  have S2:=S1.put (dst:=some y) (d:=.junk) (v:=pr.v) (by simpa [zbs,Nat.blt_eq] using hy) trivial (λ L hL=>by simp[zaQ,za8,zaC] at hL) []
  have ex:(a.put (some x) (.agg #[])).eval (.tmp x)=.agg #[]:=by
    simp[Act.put,Act.eval,dql,dqS hx S.size]
  have ey:((a.put (some x) (.agg #[])).put (some y) pr.v).eval (.tmp y)=pr.v:=by
    simp[Act.put,Act.eval,dql,dqS hy S.size]
  have r2:(execOp (a.put (some x) (.agg #[])).eval o2).run P w=.ok (.value pr.v) w:=by
    simp only[execOp,e4,ex,dqd,hm,dqe,dqb]
  have r3:(execOp ((a.put (some x) (.agg #[])).put (some y) pr.v).eval o3).run P w=.halt (.panic pr.v) w:=by
    simp only[execOp,e7,ey];rfl
  show (if Region.wanted o1 (yielded #[o1,o2,o3] a.tmps) then o1.wpIn (FR none) n P a w (wpOpsIn (FR none) n P #[o1,o2,o3] Q [1,2]) Q else _)
  rw[if_pos (w1 _)]
  refine⟨λ _ _=>trivial,?_⟩
  rw[show o1.semAt (FR none).round a.eval=execOp a.eval o1 from rfl,r1,Oper.uponIn_value,e2]
  show (if Region.wanted o2 (yielded #[o1,o2,o3] (a.put (some x) _).tmps) then o2.wpIn (FR none) n P (a.put (some x) _) w (wpOpsIn (FR none) n P #[o1,o2,o3] Q [2]) Q else _)
  rw[if_pos (w2 _)]
  refine⟨λ _ _=>trivial,?_⟩
  rw[show o2.semAt (FR none).round (a.put (some x) (.agg #[])).eval=execOp (a.put (some x) (.agg #[])).eval o2 from rfl,r2,Oper.uponIn_value,e5]
  show (if Region.wanted o3 (yielded #[o1,o2,o3] ((a.put (some x) _).put (some y) _).tmps) then o3.wpIn (FR none) n P ((a.put (some x) _).put (some y) _) w (wpOpsIn (FR none) n P #[o1,o2,o3] Q []) Q else _)
  rw[if_pos (w3 _)]
  refine⟨λ _ _=>trivial,?_⟩
  rw[show o3.semAt (FR none).round ((a.put (some x) (.agg #[])).put (some y) pr.v).eval=execOp ((a.put (some x) (.agg #[])).put (some y) pr.v).eval o3 from rfl,r3,Oper.uponIn_panic]
  refine hQ _ S2 rfl λ u hu hu'=>?_
  simp[Act.put,dql,Array.getElem?_setIfInBounds_ne (Ne.symm hu),Array.getElem?_setIfInBounds_ne (Ne.symm hu')]
def zqA (P:Program) (Γ:Ctrs) (nt B:Nat) (w0:World) (h0:Fz) (pr:PanR) (fi:FuncId) (K:Exit->St->Prop):Exit->Act->World->Prop :=
 fun e a' w' => (∃ g' σ', K e σ' ∧ Sim P nt B w0 h0 g' σ' a' w') ∨
  (e=.panic [{ v:=pr.v,recovered:=false }]/\∃ g' σ',Sim P nt B w0 h0 g' σ' a' w'/\a'.defers=[dfD fi (a'.tmps.getD pr.t1 undef) (a'.tmps.getD pr.t2 undef)]/\zes P Γ nt (zlw pr) 0 (zlw pr).toList (K .ret) { σ' with log:=[] })
def PhD (pr : PanR) (fi : FuncId) (D : List Nat) (a0 : Act) : Bool → Prop
  | false=>a0.defers=[]
  | true=>a0.defers=[dfD fi (a0.tmps.getD pr.t1 undef) (a0.tmps.getD pr.t2 undef)]/\pr.t1 ∉ D/\pr.t2 ∉ D
theorem zwB {a b:List Nat}(h:zH3 a b=true):∀ t∈a,t ∉ b:=λ t ht hb=>by
 have:=List.all_eq_true.1 h t ht
 simp at this
 exact this hb
theorem zFl (hok : OkAll P Γ) {fi : FuncId} (hidle : ∀ caps : Array Value, caps.size = 2 → znS P { target := .fn (.func fi) caps, args := #[] })
    (hb:∀ w,(Instr.build pr.ty #[]).run P w=.ok (.agg #[]) w) (hm:∀ w,(Instr.makeInterface pr.ty (.agg #[])).run P w=.ok pr.v w) (ann:Ann):∀ (c:Code) (dn:Bool) (n:Nat) (h0:Fz) (D:List Nat) (a0:Act) (K:Exit->St->Prop) (σ:St) (g:Gh) (a:Act) (w:World),
    (∀ t∈zfB c,t∈D)->rfS ∉ D->PhD pr fi D a0 dn->znr P Γ pr fi ann dn c K σ->Sim P ann.nt B w0 h0 g σ a w->Kp D a0 a->c.wpIn (FR none) n P (zqA P Γ ann.nt B w0 h0 pr fi K) a w:=by
  intro c
  have leaf:∀ (c:Code),(∀ dn K σ,znr P Γ pr fi ann dn c K σ=(match zwz ann.nt pr c with
      | some (x,y)=>(match dn with
        | true=>zes P Γ ann.nt (zlw pr) 0 (zlw pr).toList (K .ret) ⟨(y,.junk) :: (x,.junk) :: σ.env,σ.objs,[]⟩
        | false=>False)
      | none=>vc P Γ ann c K σ))->∀ (dn:Bool) (n:Nat) (h0:Fz) (D:List Nat) (a0:Act) (K:Exit->St->Prop) (σ:St) (g:Gh) (a:Act) (w:World),
      (∀ t∈zfB c,t∈D)->rfS ∉ D->PhD pr fi D a0 dn->znr P Γ pr fi ann dn c K σ->Sim P ann.nt B w0 h0 g σ a w->Kp D a0 a->c.wpIn (FR none) n P (zqA P Γ ann.nt B w0 h0 pr fi K) a w:=by
    intro c hc dn n h0 D a0 K σ g a w hD hr hph h S hkp
    rw[hc] at h
    split at h
    · rename_i x y hpan
      split at h
      · refine zwA hb hm hpan S fun a' S' hdf htm => .inr ⟨rfl, g, _, S', ?_, h⟩
        obtain⟨p1,p2,p3⟩:=hph
        obtain⟨id,o1,o2,o3,rfl,_,_,_,e2,_,_,e5,_⟩:=zoT hpan
        have hxD:x∈D:=hD x (by simp[zfB,ztO,e2])
        have hyD:y∈D:=hD y (by simp only[zfB,ztO,e2,e5];simp)
        rw[hdf,hkp.2.2 hr,p1,htm _ (λ e=>p2 (by rw[e];exact hxD)) (λ e=>p2 (by rw[e];exact hyD)),htm _ (λ e=>p3 (by rw[e];exact hxD)) (λ e=>p3 (by rw[e];exact hyD)),hkp.1 _ p2,hkp.1 _ p3]
      · exact h.elim
    · exact wpIn_mono (zr5 hok ann c none n h0 D a0 K σ g a w hD (Rnd.none h0) h S hkp) λ e a' w' ⟨g',σ',hK,S',_⟩=>.inl ⟨g',σ',hK,S'⟩
  induction c with
  | seq x y _ ihy =>
    intro dn n h0 D a0 K σ g a w hD hr hph h S hkp
    have hDx:∀ t∈zfB x,t∈D:=λ t ht=>hD t (dqg.2 (.inl ht))
    have hDy:∀ t∈zfB y,t∈D:=λ t ht=>hD t (dqg.2 (.inr ht))
    simp only[znr] at h
    split at h
    · rename_i id t hdf
      split at h
      · rename_i hlt
        simp only[dqm,Bool.not_eq_true'] at hlt
        obtain⟨⟨ht,hdn⟩,hdj⟩:=hlt
        subst hdn
        have ht:t < ann.nt:=by simpa [Nat.blt_eq] using ht
        have hph:a0.defers=[]:=hph
        refine wpIn_seq (ztI hidle hdf ht S λ a' S' hd' htm=>?_)
        have hd:=zwB hdj
        obtain⟨_,_,_,rfl,n1,n2,_⟩:=zl8 hdf
        have hph':PhD pr fi (zfB y) a' true:=by
          refine⟨?_,hd _ (by simp),hd _ (by simp)⟩
          rw[hd',hkp.2.2 hr,hph,htm _ (Ne.symm n1),htm _ (Ne.symm n2)]
        have hk:∀ s g2,znr P Γ pr fi ann true y K s->Sim P ann.nt B w0 h0 g2 s a' w->y.wpIn (FR none) n P (zqA P Γ ann.nt B w0 h0 pr fi K) a' w:=λ s g2 hv S2 =>
          ihy true n h0 (zfB y) a' K s g2 a' w (λ _ h=>h) (λ h=>hr (hDy _ h)) hph' hv S2 (Kp.refl _ _)
        unfold zDO at h
        split at h
        · split at h
          · rename_i s hs
            obtain⟨g2,S2⟩:=zbk hs S'
            exact hk s g2 h S2
          · exact h.elim
        · exact hk _ g h S'
      · exact h.elim
    · refine wpIn_seq (wpIn_mono (zr5 hok ann x none n h0 D a0 _ σ g a w hDx (Rnd.none h0) h S hkp) ?_)
      rintro e a' w' ⟨g',σ',hK,S',hk'⟩
      cases e with
      | normal=>exact ihy dn n h0 D a0 K σ' g' a' w' hDy hr hph hK S' hk'
      | exit id=>exact .inl ⟨g',σ',hK,S'⟩
      | goto l=>exact .inl ⟨g',σ',hK,S'⟩
      | ret=>exact .inl ⟨g',σ',hK,S'⟩
      | panic ch=>exact .inl ⟨g',σ',hK,S'⟩
      | outgrown=>exact .inl ⟨g',σ',hK,S'⟩
  | skip=>exact leaf _ λ dn K σ=>rfl
  | region i o d=>exact leaf _ λ dn K σ=>rfl
  | cond c x y=>exact leaf _ λ dn K σ=>rfl
  | block i x=>exact leaf _ λ dn K σ=>rfl
  | loop x=>exact leaf _ λ dn K σ=>rfl
  | scope x=>exact leaf _ λ dn K σ=>rfl
  | exit i=>exact leaf _ λ dn K σ=>rfl
  | goto i=>exact leaf _ λ dn K σ=>rfl
  | label i=>exact leaf _ λ dn K σ=>rfl
  | ret=>exact leaf _ λ dn K σ=>rfl
  | rangeFunc f p x y=>exact leaf _ λ dn K σ=>rfl
  | refuse x=>exact leaf _ λ dn K σ=>rfl
theorem zFm {n : Nat} {a : Act} {w : World} {Q : Exit → Act → World → Prop} (h : wpOpsIn (FR none) n P (zlw pr) Q [0, 1] a w) (hQ : ∀ ch a' w', ¬ Q (.panic ch) a' w') :
  ∃ w1 w2,(Instr.storeAt pr.y1 (a.tmps.getD pr.t1 undef) (.slice none 0 0)).run P w=.ok () w1/\(Instr.storeAt pr.y2 (a.tmps.getD pr.t2 undef) (.int .i64 pr.e)).run P w1=.ok () w2/\Q .normal a w2:=by
 have one:∀ (o:Oper) (ty:TypeId) (t:Nat) (v:Value) (w:World) (next:Act->World->Prop),o.op=.store ty (.tmp t) (.const v)->o.dst=none->o.wpIn (FR none) n P a w next Q->∃ w1,(Instr.storeAt ty (a.tmps.getD t undef) v).run P w=.ok () w1/\next a w1:=by
  intro o ty t v w next ho hd h
  obtain⟨_,h⟩:=h
  have e:o.semAt (FR none).round a.eval=(do Instr.storeAt ty (a.tmps.getD t undef) v;pure .skip):=by
   show execOp a.eval o=_
   simp only[execOp,ho];rfl
  rw[e] at h
  simp only[dqd] at h
  cases hr:(Instr.storeAt ty (a.tmps.getD t undef) v).run P w with
  | ok u w1 =>
   rw[hr] at h
   simp only[dqb,dqe,Oper.uponIn_skip,hd] at h
   exact⟨w1,rfl,h⟩
  | halt hh w1 =>
   rw[hr] at h
   cases hh with
   | panic v=>exact (hQ _ _ _ h).elim
   | _=>exact h.elim
 have w1:∀ (o:Oper) tm,o.guard=none->Region.wanted o (yielded (zlw pr) tm)=true:=λ o tm e3=>by simp[Region.wanted,e3]
 have e0:(zlw pr)[0]? = some (stA pr):=rfl
 have e1:(zlw pr)[1]? = some (stB pr):=rfl
 simp only[wpOpsIn,e0,e1] at h
 rw[if_pos (w1 _ _ rfl)] at h
 obtain⟨wa,hr1,h⟩:=one _ _ _ _ _ _ rfl rfl h
 rw[if_pos (w1 _ _ rfl)] at h
 obtain⟨wb,hr2,h⟩:=one _ _ _ _ _ _ rfl rfl h
 exact⟨wa,wb,hr1,hr2,h⟩
def zNh (P:Program) (pr:PanR) (fi:FuncId):Prop:=∀ (v1 v2:Value) (w:World),∃ os:Array Obj,∀ w1 w2,(Instr.storeAt pr.y1 v1 (.slice none 0 0)).run P { w with heap:=w.heap ++ os } = .ok () w1->(Instr.storeAt pr.y2 v2 (.int .i64 pr.e)).run P w1=.ok () w2 ->
 (∀ w,(invoke (dfD fi v1 v2).target (dfD fi v1 v2).args).run P w=.ok (.enter fi #[v1,v2]) w) /\
 ∀ n,CallsDIn (FR none) n P fi #[v1,v2] (.panicking [{ v:=pr.v,recovered:=false }]) w λ e u' w'=>(∃ v,e=.returned v)/\u'=.panicking [{ v:=pr.v,recovered:=true }]/\w'=w2
structure DefD (P : Program) (pr : PanR) (fi : FuncId) : Prop where
  idle:∀ caps:Array Value,caps.size=2->znS P { target:=.fn (.func fi) caps,args:=#[] }
  bld:∀ w,(Instr.build pr.ty #[]).run P w=.ok (.agg #[]) w
  mki:∀ w,(Instr.makeInterface pr.ty (.agg #[])).run P w=.ok pr.v w
  pan:zNh P pr fi
theorem zBF {G : Ctrs} (hok : OkAll P G) {f fi : FuncId} (H : DefD P pr fi) {args : List PA} {K : List PA → Prop} {ann : Ann} (hv : zst P G pr fi ann f args K) {w : World} {h0 : Fz} {vs : List Value} (hvs : RL (paR h0) args vs) (hfz : Hw h0 w) (hgl : zdT h0) :
    Calls P f vs.toArray w λ e w'=>∃ (h':Fz) (rs:List PA) (v:Value),K rs/\e=.returned v/\zmq h' rs v/\Bel h0 w.heap.size w w' /\
      Fle h0 h'/\Hw h' w'/\∀ b o,h' b=some o->h0 b=some o\/w.heap.size<=b:=by
  unfold zst at hv
  split at hv
  · rename_i fn hfn
    split at hv
    · rename_i c hbody
      split at hv
      · rename_i hnt
        simp only[dqm,Nat.ble_eq] at hnt
        have S:=zkN (P:=P) (dqc hnt.1.1) hnt.1.2 hvs hfz hgl
        have hwp:=zFl (B:=w.heap.size) (w0:=w) hok H.idle H.bld H.mki ann c false 0 h0 (zfB c) { tmps:=vs.toArray ++ Array.replicate (fn.ntmps - vs.toArray.size) undef,defers:=[] } _ _ _ _ _ (λ _ h=>h) (zwB hnt.2 _ (by simp)) rfl hv S (Kp.refl _ _)
        refine (callsIn_wide (n:=0)).1 ?_
        refine callsIn_of_wp_marks (F:=FR none) hfn hbody trivial (wpIn_mono hwp ?_)
        have h0b:∀ b,h0 b=some (.fz (.deferred (some [])))->b < w.heap.size:=λ b h=>hfz.lt h
        have res:∀ σ' g2 a2 w2,zCj P fn K σ'->Sim P ann.nt w.heap.size w h0 g2 σ' a2 w2->∃ v,(results fn a2.tmps).run P w2=.ok v w2/\∃ (h':Fz) (rs:List PA) (v':Value),K rs/\Ending.returned v=.returned v'/\zmq h' rs v'/\Bel h0 w.heap.size w w2 /\
            Fle h0 h'/\Hw h' w2/\∀ b o,h' b=some o->h0 b=some o\/w.heap.size<=b:=by
          intro σ' g2 a2 w2 hf S2
          unfold zCj at hf
          split at hf
          · rename_i l hl
            obtain⟨u,v,hu,hrun,hres⟩:=zkL S2 hl
            obtain⟨h',S3,F⟩:=S2.freeze hu
            exact⟨v,hrun,h',l,v,hf,rfl,hres h' F,S3.below,S3.le0,S3.hw,S3.hn⟩
          · exact hf.elim
        rintro e a' w' (⟨g',σ',hK',S'⟩ | ⟨rfl,g',σ',S',hdf,hvo⟩)
        · have fin:zCj P fn K σ'->LeavesInM (FR none) 0 P fn a'.tmps (λ e w'=>∃ (h':Fz) (rs:List PA) (v:Value),K rs/\e=.returned v/\zmq h' rs v/\Bel h0 w.heap.size w w' /\
              Fle h0 h'/\Hw h' w'/\∀ b o,h' b=some o->h0 b=some o\/w.heap.size<=b) a'.defers .returning w':=by
            intro hf
            obtain⟨Ds,h1,h2,h3,h4⟩:=S'.dfr
            exact zkM h0b Ds g' a' w' h1 h2 h3 h4 S' λ g2 a2 w2 _ S2=>res σ' g2 a2 w2 hf S2
          cases e with
          | normal=>exact fin hK'
          | ret=>exact fin hK'
          | exit id=>exact hK'.elim
          | goto l=>exact hK'.elim
          | panic ch=>exact hK'.elim
          | outgrown=>exact hK'.elim
        · show LeavesInM (FR none) 0 P fn a'.tmps _ a'.defers (.panicking _) w'
          rw[hdf]
          obtain⟨os,hpan⟩:=H.pan (a'.tmps.getD pr.t1 undef) (a'.tmps.getD pr.t2 undef) w'
          have hsame:∀ k,k < w'.heap.size->(w'.heap ++ os)[k]? = w'.heap[k]?:=λ k hk=>Array.getElem?_append_left hk
          have S1 : Sim P ann.nt w.heap.size w h0 g' σ' a' { w' with heap := w'.heap ++ os } := S'.world (h' := g'.h) (fun _ _ h => h) (S'.hw.same fun k o hk => hsame k (S'.hw.lt hk)) (fun _ _ h => .inl h)
            ⟨rfl,rfl,rfl,by simp,dqt _,λ k hk _=>hsame k hk⟩
          have hops:=zkt (r:=none) (n:=0) (D:=[]) (a0:=a') (Q:=λ e a2 w2=>e=.normal/\a2.tmps=a'.tmps/\∃ g2 σ2,zCj P fn K σ2/\Sim P ann.nt w.heap.size w h0 g2 σ2 a2 w2) hok (λ j o ho t ht=>by
            match j,ho with
            | 0,ho=>cases ho;cases ht
            | 1,ho=>cases ho;cases ht
            | _+2,ho=>cases ho) hvo (S1.log []) (Kp.refl _ _) λ σ2 hK g2 a2 w2 S2 hk2 _=>⟨rfl,?_,g2,σ2,hK,S2⟩
          · obtain ⟨w1, w2, hr1, hr2, _, _, g2, σ2, hf, S2⟩ := zFm hops fun ch a2 w2 h => by cases h.1
            obtain⟨hinv,hcall⟩:=hpan w1 w2 hr1 hr2
            refine⟨by simp,.inr ⟨(λ h=>by cases h),.func fi,_,fi,_,rfl,hinv w',(λ _ _=>trivial),?_⟩⟩
            refine (hcall _).mono ?_
            rintro e u' w3 ⟨⟨v,rfl⟩,rfl,rfl⟩
            exact res σ2 g2 a' _ hf S2
          · refine Array.ext (hk2.2.1) fun i h1 h2 => ?_
            have:=hk2.1 i (by simp)
            rw[dql,dql,Array.getElem?_eq_getElem h1,Array.getElem?_eq_getElem h2] at this
            exact this
      · exact hv.elim
    · exact hv.elim
  · exact hv.elim
theorem zBG {T : Tabs} (hT : TabsOk P T) {f fi : FuncId} {C : List PA → COut} (hc : zar P f) (H : DefD P pr fi)
    (h:∀ args K,(C args).wp K->∃ args',RL PAle args args'/\∃ memo vv ann,zst P (csm T memo vv) pr fi ann f args' (Wk K)):Ok P f C:=by
  intro args K hK w h0 vs hvs hfz hgl
  obtain⟨args',hle,memo,vv,ann,hv⟩:=h args K hK
  refine⟨hc,(zBF (hT.all memo vv) H hv (zvt (R:=paR h0) (S:=PAle) (T:=paR h0) (λ _ _ _ e r=>zBa e r) _ _ _ hle hvs) hfz hgl).mono ?_⟩
  rintro e w' ⟨h',rs,v,⟨rs',hr,hk⟩,he,hres,rest⟩
  exact⟨h',rs',v,hk,he,zvu hr hres,rest⟩
end
end Go.Pm
namespace Go.Pm
open Go Go.Proofs
set_option maxRecDepth 100000
theorem zJm:∀ caps:Array Value,caps.size=2->znS Tryd.prog { target:=.fn (.func 68) caps,args:=#[] }:=λ caps hc=>by
 match caps,hc with
 | ⟨[x,y]⟩,_ =>
 refine⟨.func 68,#[x,y],68,#[x,y],rfl,λ w=>?_,λ n w=>?_⟩
 ·have h : zar Tryd.prog 68 := ⟨_, rfl, rfl, by kernel_rfl⟩
  show (callFunc 68 (#[] ++ #[x,y])).run Tryd.prog w=_
  exact zbC h
 have key:CallsDIn { fn:=λ _=>True,depth:=none,alive:=false,round:=none } n Tryd.prog 68 #[x,y] .returning w λ e u' w'=>e=.returned (.tuple #[])/\u'=.returning/\w'=w:=by
  refine callsDIn_of_wpSIn Tryd.func68 rfl trivial λ c₀ cs hu=>?_
  apply wpSIn_seq
  apply wpSIn_region
  simp[wpOpsSIn,go_sem,recoverD,hu,Tryd.ntmps68,Exit.thenS]
  apply wpSIn_seq
  apply wpSIn_region
  simp[wpOpsSIn,go_sem,recoverD,hu,Tryd.ntmps68,Exit.thenS]
  refine wpSIn_cond (t:=false) (by simp[Act.eval,Array.replicate]) ?_
  simp only[Bool.false_eq_true,if_false]
  refine wpSIn_of_wpIn rfl (wpIn_skip ?_)
  cases c₀
  simp_all [bodyPostS,results,Tryd.results68]
 exact key.mono λ e u' w' h=>⟨⟨_,h.1⟩,h.2⟩
theorem zFn:Tryd.prog.underlying 100=some (.struct #[]):=by kernel_rfl
theorem zLY (w:World):(Instr.typeAssert (.iface 100 (.agg #[])) 20 100 true).run Tryd.prog w=.ok (.tuple #[.agg #[],.bool true]) w:=by
 simp only[Instr.typeAssert,dqd,run_underlying zFn,dqb,if_true,dqe]
abbrev zHU:PanR:=⟨2,27,3,28,8,100⟩
theorem zLZ:zNh Tryd.prog zHU 68:=λ v1 v2 w=>by
 refine⟨#[.cells #[] 100 (0,0)],λ w1 w2 h1 h2=>⟨λ w=>?_,λ n=>?_⟩⟩
 ·have h : zar Tryd.prog 68 := ⟨_, rfl, rfl, by kernel_rfl⟩
  show (callFunc 68 (#[] ++ #[v1,v2])).run Tryd.prog w=_
  exact zbC h
 have key:CallsDIn { fn:=λ _=>True,depth:=none,alive:=false,round:=none } n Tryd.prog 68 #[v1,v2] (.panicking [{ v:=zHU.v,recovered:=false }]) w λ e u' w'=>e=.returned (.tuple #[])/\u'=.panicking [{ v:=zHU.v,recovered:=true }]/\w'=w2:=by
  refine callsDIn_of_wpSIn Tryd.func68 rfl trivial λ c₀ cs hu=>?_
  apply wpSIn_seq
  apply wpSIn_region
  simp[wpOpsSIn,go_sem,recoverD,hu,Tryd.ntmps68,Exit.thenS]
  apply wpSIn_seq
  apply wpSIn_region
  simp[wpOpsSIn,go_sem,recoverD,hu,Tryd.ntmps68,Exit.thenS,PanR.v]
  refine wpSIn_cond (t:=true) (by simp[Act.eval,Array.replicate]) ?_
  simp only[if_true]
  apply wpSIn_seq
  apply wpSIn_seq
  apply wpSIn_region
  simp[wpOpsSIn,go_sem,recoverD,hu,Tryd.ntmps68,Exit.thenS,PanR.v,zLY]
  apply wpSIn_seq
  apply wpSIn_region
  simp[wpOpsSIn,go_sem,recoverD,hu,Tryd.ntmps68,Exit.thenS]
  refine wpSIn_cond (t:=false) (by simp[Act.eval,Array.replicate]) ?_
  simp only[Bool.false_eq_true,if_false]
  refine wpSIn_of_wpIn rfl (wpIn_skip ?_)
  simp only[Exit.thenS]
  apply wpSIn_region
  have e:w.alloc (Obj.cells #[] 100) = { w with heap:=w.heap ++ #[.cells #[] 100 (0,0)] }:=by
   show ({ w with heap:=w.heap.push _ } : World)=_
   rw[Array.push_eq_append]
  rw[<- e] at h1
  generalize hA:(Act.mk _ _)=A
  have hA0:A.eval (.tmp 0)=v1:=by subst hA;simp[Act.eval]
  have hA1:A.eval (.tmp 1)=v2:=by subst hA;simp[Act.eval]
  have hc:A.eval (.const (.slice none 0 0))=.slice none 0 0:=rfl
  have hc':A.eval (.const (.int .i64 8))=.int .i64 8:=rfl
  have hAd:A.defers=[]:=by subst hA;rfl
  clear hA
  show wpOpsSIn _ n Tryd.prog _ _ [0,1] A _ _
  simp[wpOpsSIn,execOp,hA0,hA1,hc,hc',h1,h2,Region.wanted,Act.put,Oper.about,bodyPostS,results,Tryd.results68]
  exact hAd
 exact key.mono λ e u' w' h=>⟨⟨_,h.1⟩,h.2⟩
theorem zL0:DefD Tryd.prog zHU 68:=by
 refine⟨zJm,λ w=>?_,λ w=>?_,zLZ⟩
 ·have hz : (zeroValue 100).run Tryd.prog w = .ok (.agg #[]) w := by simp [go_sem]
  have hm:(Array.mapM (λ (f:Field)=>do let __do_lift <- sizeOf f.type;pure (f.offset,__do_lift)) #[]:Sem (Array (Nat×Nat)))=pure #[]:=by simp
  simp only[Instr.build,dqd,run_underlying zFn,hz,dqb,hm,dqe]
  rfl
 ·simp only [Instr.makeInterface, dqd, run_underlying zFn, dqb, dqe]
  rfl
end Go.Pm
namespace Go.Proofs
open Go Go.Pm
set_option maxRecDepth 100000
set_option linter.unusedVariables false
attribute [local irreducible] Go.Pm.vcFun Go.Pm.vc Go.Pm.vcIter
abbrev T22:Tabs:=(((Tabs.nil.addF 67 zvG).addM 69 zJh).addF 70 zFk)
theorem zL1:TabsOk Tryd.prog T22:=(((TabsOk.nil.addF zLA).addM zN5).addF zN7)
abbrev G22:Ctrs:=csm T22 (λ _ _=>[]) (λ l=>Nat.beq l 12)
def zFo:Ann:=⟨29,[(0,zK [1,2,3] [1,2,3]),(1,zK [1,2,3,9] [1,2,3]),(2,zK [2,3] [2,3]),(3,zK [1,2,3] [1,2,3]),(4,zK [2,3,4] [2,3,12,14]),(5,zK [2,3,4,15] [2,3,12,14]),(6,zK [2,3,4,15,16] [2,3,12,14]),(7,zK [2,3,4,5,15] [2,3,12,14]),(8,zK [2,3,4,6,15] [2,3,12,14]),(9,zK [2,3,4,6,15,23] [2,3,12,14]),(10,zK [2,3] [2,3]),(11,zK [2,3,4,15] [2,3,12,14])],
 [(6,zK [2,3,4,15] [2,3,12,14])],
 [],
 [],[]⟩
abbrev R22:=((Sl Int)×Int)
abbrev e22 (r:R22):List PA:=[.one (.sl r.1.len 1 (λ i=>zac (r.1.get i))),.one (.int .i64 r.2)]
@[irreducible] def z22:=zN8 Tryd.prog G22 zFo zHU 68 Tryd.f22
def zCZ (zaJ:Int) (zbf:Int) (zbc:(Sl Tie)) (zbg:Nat) (zbh:(List Int->Option (List Int))) (zdo:Nat->List PV):St:=⟨[(2,zp 2 0),(3,zp 3 0),(4,zp 14 0),(15,zI zaJ)],[(2,.box 27 [.p (.nils)]),(3,.box 28 [zi (0:Int)]),(12,.mo 3 4 (false,1,false,[none]) zbg zbh),(14,.box 105 [zi zbf,.p (.sl zbc.len 4 zdo),.mo 12])],[]⟩
abbrev zJn (K:List PA->Prop) (X:St->Prop) (P:Int->Int->(Sl Tie)->Nat->(List Int->Option (List Int))->Bool) (S:Int->Int->(Sl Tie)->Nat->(List Int->Option (List Int))->((Sl Int)×Int)):Prop:=∀ ⦃zaJ:Int⦄ ⦃zbf:Int⦄ ⦃zbc:(Sl Tie)⦄ ⦃zbg:Nat⦄ ⦃zbh:(List Int->Option (List Int))⦄ ⦃zdo:Nat->List PV⦄,P zaJ zbf zbc zbg zbh=true->K (e22 (S zaJ zbf zbc zbg zbh))->zdo=zg enc_40 zbc->X (zCZ zaJ zbf zbc zbg zbh zdo)
section
variable {K:List PA->Prop}{n:Net}{zaJ:Int}{zbf:Int}{zbc:(Sl Tie)}{zbg:Nat}{zbh:(List Int->Option (List Int))}{zdo:Nat->List PV}{X0:St->Prop}{P0:Int->Int->(Sl Tie)->Nat->(List Int->Option (List Int))->Bool}{S0:Int->Int->(Sl Tie)->Nat->(List Int->Option (List Int))->((Sl Int)×Int)}
def zg8 (S0:Int->Int->(Sl Tie)->Nat->(List Int->Option (List Int))->((Sl Int)×Int)) (zaJ:Int) (zbf:Int) (zbc:(Sl Tie)) (zbg:Nat) (zbh:(List Int->Option (List Int))):((Sl Int)×Int) :=
  (cond (decide (zaJ < (4:Int)))
 (cond (decide ((((s69 (⟨(⟨zbf, zbc⟩ : Net), (⟨zbg, zbh⟩ : Mp)⟩ : web) zaJ).1).len : Int) > (0:Int)))
 ((s70 ((s69 (⟨(⟨zbf,zbc⟩:Net),(⟨zbg,zbh⟩:Mp)⟩:web) zaJ).1)),(0:Int))
 (S0 (w64 (zaJ+(1:Int))) (((s69 (⟨(⟨zbf,zbc⟩:Net),(⟨zbg,zbh⟩:Mp)⟩:web) zaJ).2).Net.Nodes) (((s69 (⟨(⟨zbf,zbc⟩:Net),(⟨zbg,zbh⟩:Mp)⟩:web) zaJ).2).Net.Ties) ((((s69 (⟨(⟨zbf,zbc⟩:Net),(⟨zbg,zbh⟩:Mp)⟩:web) zaJ).2).out).n) ((((s69 (⟨(⟨zbf,zbc⟩:Net),(⟨zbg,zbh⟩:Mp)⟩:web) zaJ).2).out).F)))
 ((⟨0,λ _=>default⟩:(Sl Int)),(8:Int)))
def zns (P0:Int->Int->(Sl Tie)->Nat->(List Int->Option (List Int))->Bool) (zaJ:Int) (zbf:Int) (zbc:(Sl Tie)) (zbg:Nat) (zbh:(List Int->Option (List Int))):Bool :=
  (cond (decide (zaJ < (4:Int)))
 (decide ((p69 (⟨(⟨zbf,zbc⟩:Net),(⟨zbg,zbh⟩:Mp)⟩:web) zaJ=true)) &&
 (cond (decide ((((s69 (⟨(⟨zbf, zbc⟩ : Net), (⟨zbg, zbh⟩ : Mp)⟩ : web) zaJ).1).len : Int) > (0:Int)))
 (decide ((p70 ((s69 (⟨(⟨zbf,zbc⟩:Net),(⟨zbg,zbh⟩:Mp)⟩:web) zaJ).1)=true)) &&
 true)
 (P0 (w64 (zaJ+(1:Int))) (((s69 (⟨(⟨zbf,zbc⟩:Net),(⟨zbg,zbh⟩:Mp)⟩:web) zaJ).2).Net.Nodes) (((s69 (⟨(⟨zbf,zbc⟩:Net),(⟨zbg,zbh⟩:Mp)⟩:web) zaJ).2).Net.Ties) ((((s69 (⟨(⟨zbf,zbc⟩:Net),(⟨zbg,zbh⟩:Mp)⟩:web) zaJ).2).out).n) ((((s69 (⟨(⟨zbf,zbc⟩:Net),(⟨zbg,zbh⟩:Mp)⟩:web) zaJ).2).out).F))))
 true)
def zd1:Nat->Int->Int->(Sl Tie)->Nat->(List Int->Option (List Int))->((Sl Int)×Int):=lpO (λ _ _ _ _ _=>default) (zg8)
def zk7:Nat->Int->Int->(Sl Tie)->Nat->(List Int->Option (List Int))->Bool:=lpO (λ _ _ _ _ _=>false) (zns)
def zwC (zaJ:Int) (zbf:Int) (zbc:(Sl Tie)) (zbg:Nat) (zbh:(List Int->Option (List Int))):((Sl Int)×Int):=zd1 Fuel zaJ zbf zbc zbg zbh
def zwD (zaJ:Int) (zbf:Int) (zbc:(Sl Tie)) (zbg:Nat) (zbh:(List Int->Option (List Int))):Bool:=zk7 Fuel zaJ zbf zbc zbg zbh
theorem zFp (hs:zwD zaJ zbf zbc zbg zbh=true) (hk:K (e22 (zwC zaJ zbf zbc zbg zbh))) (zk8:zdo=zg enc_40 zbc):z22 (Wk K) [1,1,1,1,0,1,0] [] (zCZ zaJ zbf zbc zbg zbh zdo) :=
  zl (λ X=>z22 (Wk K) [1,1,1,1,0,1,0,0] [X]) (by kernel_rfl) λ X0 hX =>
  (show ∀ k, zJn K X0 (zk7 k) (zd1 k) from zeu _ _ (zns) (zg8) (zJn K X0)
 (by intro _ _ _ _ _ _ hs;exact absurd hs dqk)
 (by intro P0 S0 hX0 zaJ zbf zbc zbg zbh zdo hs hk zk8;subst zk8;exact hX _ (za0 (by kernel_rfl) (zc hs hk (λ hs hk=>(zaN hs λ hc hs=>And.intro (And.intro (zE enc_40 4 zbc.get) (And.intro (rfl:((false,1,false,[none]):MQ)=(false,1,false,[none])) hc)) (zc hs hk (λ hs hk=>(zaN hs λ hc hs=>And.intro (And.intro (zE za6 1 (((s69 (⟨(⟨zbf,zbc⟩:Net),(⟨zbg,zbh⟩:Mp)⟩:web) zaJ).1).get)) hc) ((zfH hk):Wk K [.one (.sl ((s70 ((s69 (⟨(⟨zbf,zbc⟩:Net),(⟨zbg,zbh⟩:Mp)⟩:web) zaJ).1)).len) 1 (λ i=>zac ((s70 ((s69 (⟨(⟨zbf,zbc⟩:Net),(⟨zbg,zbh⟩:Mp)⟩:web) zaJ).1)).get i))),.one (.int .i64 (0:Int))]))) (λ hs hk=>(hX0 hs hk rfl))))) (λ hs hk=>((wk hk (zgK (.one (.nil _ _)) (zgK (.one (.rfl _)) zm0))):Wk K [.one (.nils),.one (.int .i64 (8:Int))])))))) _ hs hk zk8
def s22 (n:Net):((Sl Int)×Int) :=
  (cond (!(s67 n))
 ((⟨0,λ _=>default⟩:(Sl Int)),(2:Int))
 (zwC (0:Int) n.Nodes n.Ties 0 (λ _=>none)))
def p22 (n:Net):Bool :=
  (decide ((p67 n=true)) &&
 (cond (!(s67 n))
 true
 (zwD (0:Int) n.Nodes n.Ties 0 (λ _=>none))))
end
theorem q22 (n:Net) (K:List PA->Prop) (hs:p22 n=true) (hk:K (e22 (s22 n))):zst Tryd.prog G22 zHU 68 zFo 22 [.agg (enc_24 n)] (Wk K) :=
  za0 (by kernel_rfl) (zaN hs λ hc hs=>And.intro (And.intro (zE enc_40 4 n.Ties.get) hc) (zc hs hk (λ hs hk=>((wk hk (zgK (.one (.nil _ _)) (zgK (.one (.rfl _)) zm0))):Wk K [.one (.nils),.one (.int .i64 (2:Int))])) (λ hs hk=>(zFp hs hk rfl))))
def zBH : List PA → COut
  | [.agg [.int .i64 zaj,.sl zad zaz zab]]=>.det (IsE enc_40 4 zaz zab/\p22 (⟨zaj,(⟨zad,zam zab⟩:(Sl Tie))⟩:Net)=true) [.one (.sl (((s22 (⟨zaj,(⟨zad,zam zab⟩:(Sl Tie))⟩:Net)).1).len) 1 (λ i=>zac (((s22 (⟨zaj,(⟨zad,zam zab⟩:(Sl Tie))⟩:Net)).1).get i))),.one (.int .i64 ((s22 (⟨zaj,(⟨zad,zam zab⟩:(Sl Tie))⟩:Net)).2))]
  | _=>.no
theorem zJo:zar Tryd.prog 22:=⟨_,rfl,rfl,by kernel_rfl⟩
theorem zNi:Ok Tryd.prog 22 zBH:=zBG zL1 zJo zL0 λ args K h=>by
  unfold zBH at h
  split at h
  · rename_i zaj zad zaz zab
    obtain⟨⟨⟨rfl,zat,rfl⟩,hs⟩,hk⟩:=h
    try rw[zan zat] at hs
    try rw[zan zat] at hk
    exact⟨_,zfq zfG _,(λ _ _=>[]),(λ l=>Nat.beq l 12),zFo,q22 (⟨zaj,(⟨zad,zat⟩:(Sl Tie))⟩:Net) K hs hk⟩
  · exact h.elim
abbrev T25:Tabs:=Tabs.nil
theorem zL2:TabsOk Tryd.prog T25:=TabsOk.nil
abbrev G25:Ctrs:=csm T25 (λ _ _=>[]) (λ _=>false)
def zFq:Ann:=⟨26,[(0,zK [0,1] []),(1,zK [0,1,10] []),(2,zK [4] []),(3,zK [0,1,5] []),(4,zK [0,1,5,14] []),(5,zK [0,1,5] []),(6,zK [0,1,5,25] []),(7,zK [4] []),(8,zK [4] [])],
 [(4,zK [0,1,5] [])],
 [(3,zK [0,1] [])],
 [],[]⟩
abbrev R25:=Bool
abbrev e25 (r:R25):List PA:=[.one (.bool r)]
@[irreducible] def z25:=ptF Tryd.prog G25 zFq Tryd.f25
def zC0 (a:(Sl Int)) (b:(Sl Int)) (iv1:Int):St:=⟨[(0,zS zac 1 a),(1,zS zac 1 b),(5,zI iv1)],[],[]⟩
abbrev zJp (K:List PA->Prop) (a:(Sl Int)) (b:(Sl Int)) (X:St->Prop) (P:Int->Bool) (S:Int->Bool):Prop:=∀ ⦃iv1:Int⦄,P iv1=true->K (e25 (S iv1))->X (zC0 a b iv1)
section
variable {K:List PA->Prop}{a:(Sl Int)}{b:(Sl Int)}{iv1:Int}{X1:St->Prop}{P1:Int->Bool}{S1:Int->Bool}
def ziF (a:(Sl Int)) (b:(Sl Int)) (S1:Int->Bool) (iv1:Int):Bool :=
  (cond (decide (iv1 < (a.len : Int)))
 (cond ((a.get iv1.toNat) != (b.get iv1.toNat))
 false
 (S1 (w64 (iv1+(1:Int)))))
 true)
def ziG (a:(Sl Int)) (b:(Sl Int)) (P1:Int->Bool) (iv1:Int):Bool :=
  (cond (decide (iv1 < (a.len : Int)))
 (decide ((0<=iv1/\iv1 < (a.len:Int))) &&
 (decide ((0<=iv1/\iv1 < (b.len:Int))) &&
 (cond ((a.get iv1.toNat) != (b.get iv1.toNat))
 true
 (P1 (w64 (iv1+(1:Int)))))))
 true)
def ziH (a:(Sl Int)) (b:(Sl Int)):Nat->Int->Bool:=lpO (λ _=>default) (ziF a b)
def ziI (a:(Sl Int)) (b:(Sl Int)):Nat->Int->Bool:=lpO (λ _=>false) (ziG a b)
def zwE (a:(Sl Int)) (b:(Sl Int)) (iv1:Int):Bool:=ziH a b Fuel iv1
def zwF (a:(Sl Int)) (b:(Sl Int)) (iv1:Int):Bool:=ziI a b Fuel iv1
theorem zFr (hs:zwF a b iv1=true) (hk:K (e25 (zwE a b iv1))):z25 K [1,1,0,1,0] [] (zC0 a b iv1) :=
  zl (λ X=>z25 K [1,1,0,1,0,0] [X]) (by kernel_rfl) λ X1 hX =>
  (show ∀ k, zJp K a b X1 (ziI a b k) (ziH a b k) from zeu _ _ (ziG a b) (ziF a b) (zJp K a b X1)
 (by intro _ hs;exact absurd hs dqk)
 (by intro P1 S1 hX1 iv1 hs hk;exact hX _ (za0 (by kernel_rfl) (zc hs hk (λ hs hk=>(zaN hs λ hc hs=>And.intro hc (zaN hs λ hc hs=>And.intro hc (zc hs hk (λ hs hk=>hk) (λ hs hk=>(hX1 hs hk)))))) (λ hs hk=>hk))))) _ hs hk
def zwG (a:(Sl Int)) (b:(Sl Int)):Bool :=
  (zwE a b (0:Int))
def zwH (a:(Sl Int)) (b:(Sl Int)):Bool :=
  (zwF a b (0:Int))
theorem zFs (hs:zwH a b=true) (hk:K (e25 (zwG a b))):z25 K [1,1] [] ⟨[(0,zS zac 1 a),(1,zS zac 1 b)],[],[]⟩:=za0 (by kernel_rfl) (zFr hs hk)
def s25 (a:(Sl Int)) (b:(Sl Int)):Bool :=
  (cond ((a.len : Int) != (b.len : Int))
 false
 (zwG a b))
def p25 (a:(Sl Int)) (b:(Sl Int)):Bool :=
  (cond ((a.len : Int) != (b.len : Int))
 true
 (zwH a b))
end
theorem q25 (a:(Sl Int)) (b:(Sl Int)) (K:List PA->Prop) (hs:p25 a b=true) (hk:K (e25 (s25 a b))):vcFun Tryd.prog G25 zFq 25 [.one (.sl a.len 1 (λ i=>zac (a.get i))),.one (.sl b.len 1 (λ i=>zac (b.get i)))] K :=
  za0 (by kernel_rfl) (zc hs hk (λ hs hk=>hk) (λ hs hk=>(zFs hs hk)))
def zBI : List PA → COut
  | [.one (.sl zeR zkX zeS),.one (.sl zeT zlt zeQ)]=>.det (IsE zac 1 zkX zeS/\IsE zac 1 zlt zeQ/\p25 (⟨zeR,zaw zeS⟩:(Sl Int)) (⟨zeT,zaw zeQ⟩:(Sl Int))=true) [.one (.bool (s25 (⟨zeR,zaw zeS⟩:(Sl Int)) (⟨zeT,zaw zeQ⟩:(Sl Int))))]
  | _=>.no
theorem zJq:zar Tryd.prog 25:=⟨_,rfl,rfl,by kernel_rfl⟩
theorem zNj:Ok Tryd.prog 25 zBI:=zbl zL2 zJq λ args K h=>by
  unfold zBI at h
  split at h
  · rename_i zeR zkX zeS zeT zlt zeQ
    obtain⟨⟨⟨rfl,zg2,rfl⟩,⟨rfl,zif,rfl⟩,hs⟩,hk⟩:=h
    try rw[zbr zg2] at hs
    try rw[zbr zg2] at hk
    try rw[zbr zif] at hs
    try rw[zbr zif] at hk
    exact⟨(λ _ _=>[]),(λ _=>false),zFq,q25 (⟨zeR,zg2⟩:(Sl Int)) (⟨zeT,zif⟩:(Sl Int)) K hs hk⟩
  · exact h.elim
abbrev T74:Tabs:=(((Tabs.nil.addF 67 zvG).addF 81 zvA).addF 88 zvL)
theorem zL3:TabsOk Tryd.prog T74:=(((TabsOk.nil.addF zLA).addF zLx).addF zLF)
abbrev G74:Ctrs:=csm T74 (λ _ _=>[]) (λ _=>false)
def zBJ:Ann:=⟨31,[(0,zK [1,2] [2]),(1,zK [1,2,6] [2,11]),(2,zK [1,2,6,14] [2,11]),(3,zK [4,5] []),(4,zK [2,6,15,16,17] [2,11]),(5,zK [2,6,15,16,17,18] [2,11]),(6,zK [2,6,8,15,16,17] [2,11]),(7,zK [2,6,15,16,17,26] [2,11]),(8,zK [4,5] []),(9,zK [2,6,15,16,17] [2,11]),(10,zK [6,29] [11]),(11,zK [4,5] []),(12,zK [4,5] [11])],
 [(5,zK [2,6,15,16,17] [2,11])],
 [(3,zK [1,2,6,14] [2,11]),(4,zK [1,2,6] [2,11]),(8,zK [2,6,15,16,17,26] [2,11]),(11,zK [6,29] [11])],
 [],[]⟩
abbrev R74:=(web×Int)
abbrev e74 (r:R74):List PA:=cond (r.2 == 0) [.one (.fp (zaB r.1) 0),.one (.int .i64 (0:Int))] [.one (.nilp),.one (.int .i64 r.2)]
@[irreducible] def z74:=ptF Tryd.prog G74 zBJ Tryd.f74
def zC1 (n:Net) (nodes:(Sl Int)) (zdJ:Int):St:=⟨[(2,zp 2 0),(6,zp 11 0),(15,zS zac 1 nodes),(16,zI (nodes.len:Int)),(17,zI zdJ)],[(2,.box 24 (zm (enc_24 n))),(11,.box 105 (zm (zaB (⟨n,(⟨0,(λ _=>none)⟩:Mp)⟩:web))))],[]⟩
abbrev zFt (K:List PA->Prop) (n:Net) (nodes:(Sl Int)) (X:St->Prop) (P:Int->Bool) (S:Int->(web×Int)):Prop:=∀ ⦃zdJ:Int⦄,P zdJ=true->K (e74 (S zdJ))->X (zC1 n nodes zdJ)
section
variable {K:List PA->Prop}{n:Net}{nodes:(Sl Int)}{zqB:Bool}{zdJ:Int}{X2:St->Prop}{P2:Int->Bool}{S2:Int->(web×Int)}{zqC:Int}{zqD:Bool}{zBK:Bool}
def zwI (n:Net) (zBK:Bool):(web×Int) :=
  (cond zBK
 ((default:web),(5:Int))
 ((⟨n,(⟨0,(λ _=>none)⟩:Mp)⟩:web),(0:Int)))
theorem zFu (hk:K (e74 (zwI n zBK))):z74 K [1,1,1,1,0,1] [] ⟨[(6,zp 11 0),(29,zB zBK)],[(11,.box 105 (zm (zaB (⟨n,(⟨0,(λ _=>none)⟩:Mp)⟩:web))))],[]⟩:=za0 (by kernel_rfl) (zt hk (λ hk=>hk) (λ hk=>hk))
def zwJ (S2:Int->(web×Int)) (n:Net) (nodes:(Sl Int)) (zqC:Int) (zqD:Bool):(web×Int) :=
  (cond zqD
 ((default:web),(2:Int))
 (S2 (w64 (zqC+(1:Int)))))
def zwK (P2:Int->Bool) (n:Net) (nodes:(Sl Int)) (zqC:Int) (zqD:Bool):Bool :=
  (cond zqD
 true
 (P2 (w64 (zqC+(1:Int)))))
theorem zFv (hX2:zFt K n nodes X2 P2 S2) (hs:zwK P2 n nodes zqC zqD=true) (hk:K (e74 (zwJ S2 n nodes zqC zqD))):z74 K [1,1,1,0,1,0,0,1,1,0,0,1,1] [X2] ⟨[(2,zp 2 0),(6,zp 11 0),(15,zS zac 1 nodes),(16,zI (nodes.len:Int)),(17,zI zqC),(26,zB zqD)],[(2,.box 24 (zm (enc_24 n))),(11,.box 105 (zm (zaB (⟨n,(⟨0,(λ _=>none)⟩:Mp)⟩:web))))],[]⟩:=za0 (by kernel_rfl) (zc hs hk (λ hs hk=>hk) (λ hs hk=>(hX2 hs hk)))
def zwL (n:Net) (nodes:(Sl Int)) (S2:Int->(web×Int)) (zdJ:Int):(web×Int) :=
  (cond (decide (zdJ < (nodes.len : Int)))
 (zwJ S2 n nodes zdJ (!(s81 (nodes.get zdJ.toNat) (0:Int) (w64 (n.Nodes - (1:Int))))))
 (zwI n (s88 (⟨n,(⟨0,(λ _=>none)⟩:Mp)⟩:web))))
def zwM (n:Net) (nodes:(Sl Int)) (P2:Int->Bool) (zdJ:Int):Bool :=
  (cond (decide (zdJ < (nodes.len : Int)))
 (decide ((0<=zdJ/\zdJ < (nodes.len:Int))) &&
 (zwK P2 n nodes zdJ (!(s81 (nodes.get zdJ.toNat) (0:Int) (w64 (n.Nodes - (1:Int)))))))
 (decide ((p88 (⟨n,(⟨0,(λ _=>none)⟩:Mp)⟩:web)=true)) &&
 true))
def zwN (n:Net) (nodes:(Sl Int)):Nat->Int->(web×Int):=lpO (λ _=>default) (zwL n nodes)
def zwO (n:Net) (nodes:(Sl Int)):Nat->Int->Bool:=lpO (λ _=>false) (zwM n nodes)
def zwP (n:Net) (nodes:(Sl Int)) (zdJ:Int):(web×Int):=zwN n nodes Fuel zdJ
def zwQ (n:Net) (nodes:(Sl Int)) (zdJ:Int):Bool:=zwO n nodes Fuel zdJ
theorem zFw (hs:zwQ n nodes zdJ=true) (hk:K (e74 (zwP n nodes zdJ))):z74 K [1,1,1,0,1,0] [] (zC1 n nodes zdJ) :=
  zl (λ X=>z74 K [1,1,1,0,1,0,0] [X]) (by kernel_rfl) λ X2 hX =>
  (show ∀ k, zFt K n nodes X2 (zwO n nodes k) (zwN n nodes k) from zeu _ _ (zwM n nodes) (zwL n nodes) (zFt K n nodes X2)
 (by intro _ hs;exact absurd hs dqk)
 (by intro P2 S2 hX2 zdJ hs hk;exact hX _ (za0 (by kernel_rfl) (zc hs hk (λ hs hk=>(zaN hs λ hc hs=>And.intro hc (zFv hX2 hs hk))) (λ hs hk=>(zaN hs λ hc hs=>And.intro (And.intro (zE enc_40 4 n.Ties.get) (And.intro (rfl:((false,1,false,[none]):MQ)=(false,1,false,[none])) hc)) (zFu hk))))))) _ hs hk
def zwR (n:Net) (nodes:(Sl Int)):(web×Int) :=
  (zwP n nodes (0:Int))
def zwS (n:Net) (nodes:(Sl Int)):Bool :=
  (zwQ n nodes (0:Int))
theorem zFx (hs:zwS n nodes=true) (hk:K (e74 (zwR n nodes))):z74 K [1,1,1] [] ⟨[(1,zS zac 1 nodes),(2,zp 2 0),(6,zp 11 0)],[(2,.box 24 (zm (enc_24 n))),(11,.box 105 (zm (zaB (⟨n,(⟨0,(λ _=>none)⟩:Mp)⟩:web))))],[]⟩:=za0 (by kernel_rfl) (zFw hs hk)
def zwT (n:Net) (nodes:(Sl Int)) (zqB:Bool):(web×Int) :=
  (cond zqB
 ((default:web),(2:Int))
 (zwR n nodes))
def zwU (n:Net) (nodes:(Sl Int)) (zqB:Bool):Bool :=
  (cond zqB
 true
 (zwS n nodes))
theorem zFy (hs:zwU n nodes zqB=true) (hk:K (e74 (zwT n nodes zqB))):z74 K [1,1,0,1] [] ⟨[(1,zS zac 1 nodes),(2,zp 2 0),(6,zp 11 0),(14,zB zqB)],[(2,.box 24 (zm (enc_24 n))),(11,.box 105 (zm (zaB (⟨n,(⟨0,(λ _=>none)⟩:Mp)⟩:web))))],[]⟩:=za0 (by kernel_rfl) (zc hs hk (λ hs hk=>hk) (λ hs hk=>(zFx hs hk)))
def s74 (n:Net) (nodes:(Sl Int)):(web×Int) :=
  (zwT n nodes (!(s67 n)))
def p74 (n:Net) (nodes:(Sl Int)):Bool :=
  (decide ((p67 n=true)) &&
 (zwU n nodes (!(s67 n))))
end
theorem q74 (n:Net) (nodes:(Sl Int)) (K:List PA->Prop) (hs:p74 n nodes=true) (hk:K (e74 (s74 n nodes))):vcFun Tryd.prog G74 zBJ 74 [.agg (enc_24 n),.one (.sl nodes.len 1 (λ i=>zac (nodes.get i)))] K :=
  za0 (by kernel_rfl) (zaN hs λ hc hs=>And.intro (And.intro (zE enc_40 4 n.Ties.get) hc) (zFy hs hk))
def zwV : List PA → COut
  | [.agg [.int .i64 zaj,.sl zad zaz zab],.one (.sl zeT zlt zeQ)]=>.alt ((s74 (⟨zaj,(⟨zad,zam zab⟩:(Sl Tie))⟩:Net) (⟨zeT,zaw zeQ⟩:(Sl Int))).2 == 0) (IsE enc_40 4 zaz zab/\IsE zac 1 zlt zeQ/\p74 (⟨zaj,(⟨zad,zam zab⟩:(Sl Tie))⟩:Net) (⟨zeT,zaw zeQ⟩:(Sl Int))=true) [.one (.fp (zaB (⟨(s74 (⟨zaj,(⟨zad,zam zab⟩:(Sl Tie))⟩:Net) (⟨zeT,zaw zeQ⟩:(Sl Int))).1.Net,((s74 (⟨zaj,(⟨zad,zam zab⟩:(Sl Tie))⟩:Net) (⟨zeT,zaw zeQ⟩:(Sl Int))).1.out)⟩:web)) 0),.one (.int .i64 (0:Int))] (IsE enc_40 4 zaz zab/\IsE zac 1 zlt zeQ/\p74 (⟨zaj,(⟨zad,zam zab⟩:(Sl Tie))⟩:Net) (⟨zeT,zaw zeQ⟩:(Sl Int))=true) [.one (.nilp),.one (.int .i64 ((s74 (⟨zaj,(⟨zad,zam zab⟩:(Sl Tie))⟩:Net) (⟨zeT,zaw zeQ⟩:(Sl Int))).2))]
  | [.agg [.int .i64 zaj,.sl zad zaz zab],.one (.nils)]=>.alt ((s74 (⟨zaj,(⟨zad,zam zab⟩:(Sl Tie))⟩:Net) (⟨0,λ _=>default⟩:(Sl Int))).2 == 0) (IsE enc_40 4 zaz zab/\p74 (⟨zaj,(⟨zad,zam zab⟩:(Sl Tie))⟩:Net) (⟨0,λ _=>default⟩:(Sl Int))=true) [.one (.fp (zaB (⟨(s74 (⟨zaj,(⟨zad,zam zab⟩:(Sl Tie))⟩:Net) (⟨0,λ _=>default⟩:(Sl Int))).1.Net,((s74 (⟨zaj,(⟨zad,zam zab⟩:(Sl Tie))⟩:Net) (⟨0,λ _=>default⟩:(Sl Int))).1.out)⟩:web)) 0),.one (.int .i64 (0:Int))] (IsE enc_40 4 zaz zab/\p74 (⟨zaj,(⟨zad,zam zab⟩:(Sl Tie))⟩:Net) (⟨0,λ _=>default⟩:(Sl Int))=true) [.one (.nilp),.one (.int .i64 ((s74 (⟨zaj,(⟨zad,zam zab⟩:(Sl Tie))⟩:Net) (⟨0,λ _=>default⟩:(Sl Int))).2))]
  | _=>.no
theorem zJr:zar Tryd.prog 74:=⟨_,rfl,rfl,by kernel_rfl⟩
theorem zL4:Ok Tryd.prog 74 zwV:=zg1 zL3 zJr λ args K h=>by
  unfold zwV at h
  split at h
  · rename_i zaj zad zaz zab zeT zlt zeQ
    have h:=zIy h
    obtain⟨⟨⟨rfl,zat,rfl⟩,⟨rfl,zif,rfl⟩,hs⟩,hk⟩:=h
    try rw[zan zat] at hs
    try rw[zan zat] at hk
    try rw[zbr zif] at hs
    try rw[zbr zif] at hk
    exact⟨_,zfq zfG _,(λ _ _=>[]),(λ _=>false),zBJ,q74 (⟨zaj,(⟨zad,zat⟩:(Sl Tie))⟩:Net) (⟨zeT,zif⟩:(Sl Int)) (Wk K) hs (zfH hk)⟩
  · rename_i zaj zad zaz zab
    have h:=zIy h
    obtain⟨⟨⟨rfl,zat,rfl⟩,hs⟩,hk⟩:=h
    try rw[zan zat] at hs
    try rw[zan zat] at hk
    exact⟨_,(zgK (zfG _) (zgK (.one (.nil _ _)) zm0)),(λ _ _=>[]),(λ _=>false),zBJ,q74 (⟨zaj,(⟨zad,zat⟩:(Sl Tie))⟩:Net) (⟨0,λ _=>default⟩:(Sl Int)) (Wk K) hs (zfH hk)⟩
  · exact h.elim
abbrev T75:Tabs:=(((Tabs.nil.addF 93 zoC).addF 104 zoF).addI 110 zoE)
theorem zL5:TabsOk Tryd.prog T75:=(((TabsOk.nil.addF zHR).addF zEI).addI ztE)
abbrev G75:Ctrs:=csm T75 (λ _ _=>[]) (λ _=>false)
def zwW:Ann:=⟨66,[(0,zK [0,1,4] [4]),(1,zK [0,1,4,5] [4,5]),(2,zK [0,1,4,5,10] [4,5]),(3,zK [0,1,4,5,10,11] [4,5]),(4,zK [0,1,4,5,6,10] [4,5]),(5,zK [0,1,4,5,10] [4,5]),(6,zK [0,1,4,5,10] [4,5]),(7,zK [0,4,5] [4,5]),(8,zK [0,4,5,7] [4,5,7]),(9,zK [0,4,5,7,20] [4,5,7]),(10,zK [0,4,5,7] [4,5,7]),(11,zK [0,4,5,7,22] [4,5,7]),(12,zK [0,4,5,7,8,22] [4,5,7,8]),(13,zK [0,4,5,7,8,22,29] [4,5,7,8]),(14,zK [0,4,5,7,8,9,22] [4,5,7,8,9]),(15,zK [0,4,5,7,8,9,22] [4,5,7,8,9]),(16,zK [0,4,5,7,22] [4,5,7]),(17,zK [0,4,5,64] [4,5]),(18,zK [0,4,5,7] [4,5,7]),(19,zK [4] [4])],
 [(3,zK [0,1,4,5,10] [4,5]),(9,zK [0,4,5,7] [4,5,7]),(12,zK [0,4,5,7,22] [4,5,7])],
 [(7,zK [0,1,4,5] [4,5])],
 [],[]⟩
abbrev R75:=Tab
abbrev e75 (r:R75):List PA:=[.agg (zal r)]
@[irreducible] def z75:=ptF Tryd.prog G75 zwW Tryd.f75
@[irreducible] def x75:=exF Tryd.prog G75 zwW Tryd.f75
@[irreducible] def y75:=rnF Tryd.prog G75 zwW Tryd.f75
def zC2 (w:web) (node:Int) (za2:Int) (t4t0:Tab) (dt0:Tab):St:=⟨[(0,zP (.fp (zaB w) 0)),(1,zI node),(4,zp 4 0),(5,zp 5 0),(10,zI za2)],[(4,.box 116 (zm (zal t4t0))),(5,.box 116 (zm (zal dt0)))],[]⟩
abbrev zJs (K:List PA->Prop) (w:web) (node:Int) (X:St->Prop) (P:Int->Tab->Tab->Bool) (S:Int->Tab->Tab->Tab):Prop:=∀ ⦃za2:Int⦄ ⦃t4t0:Tab⦄ ⦃dt0:Tab⦄,P za2 t4t0 dt0=true->K (e75 (S za2 t4t0 dt0))->X (zC2 w node za2 t4t0 dt0)
def zC3 (w:web) (zav:Bool) (t4t2:Tab) (dt2:Tab):St:=⟨[(0,zP (.fp (zaB w) 0)),(4,zp 4 0),(5,zp 5 0),(7,zp 7 0)],[(4,.box 116 (zm (zal t4t2))),(5,.box 116 (zm (zal dt2))),(7,.box 4 [.p (.bool zav)])],[]⟩
abbrev zFz (K:List PA->Prop) (w:web) (X:St->Prop) (P:Bool->Tab->Tab->Bool) (S:Bool->Tab->Tab->Tab):Prop:=∀ ⦃zav:Bool⦄ ⦃t4t2:Tab⦄ ⦃dt2:Tab⦄,P zav t4t2 dt2=true->K (e75 (S zav t4t2 dt2))->X (zC3 w zav t4t2 dt2)
def zwX (w:web) (zay:Bool) (t4t3:Tab) (dt3:Tab):St:=⟨[(0,zP (.fp (zaB w) 0)),(4,zp 4 0),(5,zp 5 0),(7,zp 7 0),(22,zP (.fn 110 [] [.fp [.fp (zaB w) 0] 0]))],[(4,.box 116 (zm (zal t4t3))),(5,.box 116 (zm (zal dt3))),(7,.box 4 [.p (.bool zay)])],[]⟩
abbrev zJt (K:List PA->Prop) (w:web) (X:St->Prop) (P:Bool->Tab->Tab->Bool) (S:Bool->Tab->Tab->Tab):Prop:=∀ ⦃zay:Bool⦄ ⦃t4t3:Tab⦄ ⦃dt3:Tab⦄,P zay t4t3 dt3=true->K (e75 (S zay t4t3 dt3))->X (zwX w zay t4t3 dt3)
section
variable {K:List PA->Prop}{w:web}{node:Int}{za2:Int}{t4t0:Tab}{dt0:Tab}{X0:St->Prop}{P0:Int->Tab->Tab->Bool}{S0:Int->Tab->Tab->Tab}{t4t1:Tab}{dt1:Tab}{zav:Bool}{t4t2:Tab}{dt2:Tab}{X2:St->Prop}{P2:Bool->Tab->Tab->Bool}{S2:Bool->Tab->Tab->Tab}{zay:Bool}{t4t3:Tab}{dt3:Tab}
def zFA (S2:Bool->Tab->Tab->Tab) (w:web) (zay:Bool) (t4t3:Tab) (dt3:Tab):Tab :=
  (S2 zay t4t3 dt3)
def zFB (P2:Bool->Tab->Tab->Bool) (w:web) (zay:Bool) (t4t3:Tab) (dt3:Tab):Bool :=
  (P2 zay t4t3 dt3)
def zwY (S2:Bool->Tab->Tab->Tab) (w:web) (y3:step) (S3:Bool->Tab->Tab->Tab) (zay:Bool) (t4t3:Tab) (dt3:Tab):Tab :=
  (cond (nvr (tL dt3 y3.to) (tU dt3 y3.to))
 (S3 zay t4t3 dt3)
 (cond zay
 (S3 true t4t3 (ts 80 dt3 (0+y3.from_.toNat * 2+0) [(zeP (⟨(tL dt3 y3.from_),(tU dt3 y3.from_)⟩:far) (⟨1,λ _=>(⟨(w64 ((tL dt3 y3.to)+y3.length)),(w64 ((tV dt3 y3.to)+(1:Int)))⟩:far)⟩:(Sl far))).length,(zeP (⟨(tL dt3 y3.from_),(tU dt3 y3.from_)⟩:far) (⟨1,λ _=>(⟨(w64 ((tL dt3 y3.to)+y3.length)),(w64 ((tV dt3 y3.to)+(1:Int)))⟩:far)⟩:(Sl far))).uses]))
 (S3 (!(match ((zeP (⟨(tL dt3 y3.from_),(tU dt3 y3.from_)⟩:far) (⟨1,λ _=>(⟨(w64 ((tL dt3 y3.to)+y3.length)),(w64 ((tV dt3 y3.to)+(1:Int)))⟩:far)⟩:(Sl far))).length == (tL dt3 y3.from_)) with | true=>(match ((zeP (⟨(tL dt3 y3.from_),(tU dt3 y3.from_)⟩:far) (⟨1,λ _=>(⟨(w64 ((tL dt3 y3.to)+y3.length)),(w64 ((tV dt3 y3.to)+(1:Int)))⟩:far)⟩:(Sl far))).uses == (tU dt3 y3.from_)) with | true=>true | false=>false) | false=>false)) t4t3 (ts 80 dt3 (0+y3.from_.toNat * 2+0) [(zeP (⟨(tL dt3 y3.from_),(tU dt3 y3.from_)⟩:far) (⟨1,λ _=>(⟨(w64 ((tL dt3 y3.to)+y3.length)),(w64 ((tV dt3 y3.to)+(1:Int)))⟩:far)⟩:(Sl far))).length,(zeP (⟨(tL dt3 y3.from_),(tU dt3 y3.from_)⟩:far) (⟨1,λ _=>(⟨(w64 ((tL dt3 y3.to)+y3.length)),(w64 ((tV dt3 y3.to)+(1:Int)))⟩:far)⟩:(Sl far))).uses]))))
def zwZ (P2:Bool->Tab->Tab->Bool) (w:web) (y3:step) (P3:Bool->Tab->Tab->Bool) (zay:Bool) (t4t3:Tab) (dt3:Tab):Bool :=
  (decide ((0<=y3.to/\y3.to < (40:Int))) &&
 (cond (nvr (tL dt3 y3.to) (tU dt3 y3.to))
 (P3 zay t4t3 dt3)
 (decide ((0<=y3.from_/\y3.from_ < (40:Int))) &&
 (decide ((0<=y3.to/\y3.to < (40:Int))) &&
 (decide ((0<=y3.to/\y3.to < (40:Int))) &&
 (decide ((zCF (⟨(tL dt3 y3.from_),(tU dt3 y3.from_)⟩:far) (⟨1,λ _=>(⟨(w64 ((tL dt3 y3.to)+y3.length)),(w64 ((tV dt3 y3.to)+(1:Int)))⟩:far)⟩:(Sl far))=true)) &&
 (cond zay
 (decide ((0<=y3.from_/\y3.from_ < (40:Int))) &&
 (P3 true t4t3 (ts 80 dt3 (0+y3.from_.toNat * 2+0) [(zeP (⟨(tL dt3 y3.from_),(tU dt3 y3.from_)⟩:far) (⟨1,λ _=>(⟨(w64 ((tL dt3 y3.to)+y3.length)),(w64 ((tV dt3 y3.to)+(1:Int)))⟩:far)⟩:(Sl far))).length,(zeP (⟨(tL dt3 y3.from_),(tU dt3 y3.from_)⟩:far) (⟨1,λ _=>(⟨(w64 ((tL dt3 y3.to)+y3.length)),(w64 ((tV dt3 y3.to)+(1:Int)))⟩:far)⟩:(Sl far))).uses])))
 (decide ((0<=y3.from_/\y3.from_ < (40:Int))) &&
 (decide ((0<=y3.from_/\y3.from_ < (40:Int))) &&
 (P3 (!(match ((zeP (⟨(tL dt3 y3.from_),(tU dt3 y3.from_)⟩:far) (⟨1,λ _=>(⟨(w64 ((tL dt3 y3.to)+y3.length)),(w64 ((tV dt3 y3.to)+(1:Int)))⟩:far)⟩:(Sl far))).length == (tL dt3 y3.from_)) with | true=>(match ((zeP (⟨(tL dt3 y3.from_),(tU dt3 y3.from_)⟩:far) (⟨1,λ _=>(⟨(w64 ((tL dt3 y3.to)+y3.length)),(w64 ((tV dt3 y3.to)+(1:Int)))⟩:far)⟩:(Sl far))).uses == (tU dt3 y3.from_)) with | true=>true | false=>false) | false=>false)) t4t3 (ts 80 dt3 (0+y3.from_.toNat * 2+0) [(zeP (⟨(tL dt3 y3.from_),(tU dt3 y3.from_)⟩:far) (⟨1,λ _=>(⟨(w64 ((tL dt3 y3.to)+y3.length)),(w64 ((tV dt3 y3.to)+(1:Int)))⟩:far)⟩:(Sl far))).length,(zeP (⟨(tL dt3 y3.from_),(tU dt3 y3.from_)⟩:far) (⟨1,λ _=>(⟨(w64 ((tL dt3 y3.to)+y3.length)),(w64 ((tV dt3 y3.to)+(1:Int)))⟩:far)⟩:(Sl far))).uses])))))))))))
def zw0 (S2:Bool->Tab->Tab->Tab) (w:web):List step->Bool->Tab->Tab->Tab:=lpR (zFA S2 w) (zwY S2 w)
def zw1 (P2:Bool->Tab->Tab->Bool) (w:web):List step->Bool->Tab->Tab->Bool:=lpR (zFB P2 w) (zwZ P2 w)
def zw2 (S2:Bool->Tab->Tab->Tab) (w:web) (zay:Bool) (t4t3:Tab) (dt3:Tab):Tab:=zw0 S2 w (zkV w) zay t4t3 dt3
def zw3 (P2:Bool->Tab->Tab->Bool) (w:web) (zay:Bool) (t4t3:Tab) (dt3:Tab):Bool:=decide ((ztP w=true)) && zw1 P2 w (zkV w) zay t4t3 dt3
theorem zFC (hX2:zFz K w X2 P2 S2) (hs:zw3 P2 w zay t4t3 dt3=true) (hk:K (e75 (zw2 S2 w zay t4t3 dt3))):z75 K [1,1,1,1,0,1,0,0,1,0,0,1,1,0] [X2] (zwX w zay t4t3 dt3) :=
  zaN hs λ hc hs=>zr (enc:=(λ y:step=>[.agg (zaD y)])) (ys:=zkV w) (g:=(zwX w zay t4t3 dt3)) (x75 K [1,1,1,1,0,1,0,0,1,0,0,1,1,0] [X2]) (y75 K [1,1,1,1,0,1,0,0,1,0,0,1,1,0] [X2]) (by kernel_rfl) (And.intro (zE enc_40 4 w.Net.Ties.get) (And.intro (rfl:((false,1,false,[none]):MQ)=(false,1,false,[none])) hc)) λ X3 hE hR =>
  (show ∀ l : List step, zJt K w (X3 (l.map (λ y : step => [.agg (zaD y)]))) (zw1 P2 w l) (zw0 S2 w l) from zri (X := X3) (enc := (λ y : step => [.agg (zaD y)])) _ _ (zwZ P2 w) (zwY S2 w) (λ Z P S => zJt K w Z P S)
 (by intro zay t4t3 dt3 hs hk;exact hE _ (za0 (by kernel_rfl) (hX2 hs hk)))
 (by intro y3 rest P3 S3 hX3 zay t4t3 dt3 hs hk;exact hR _ rest _ (za0 (by kernel_rfl) (zaN hs λ hc hs=>And.intro hc (zc hs hk (λ hs hk=>(hX3 hs hk)) (λ hs hk=>(zaN hs λ hc hs=>And.intro hc (zaN hs λ hc hs=>And.intro hc (zaN hs λ hc hs=>And.intro hc (zaN hs λ hc hs=>And.intro (And.intro (zvs:IsE zb6 2 2 (λ _=>(zb6 (⟨(w64 ((tL dt3 y3.to)+y3.length)),(w64 ((tV dt3 y3.to)+(1:Int)))⟩:far)))) hc) (zc hs hk (λ hs hk=>(zaN hs λ hc hs=>And.intro hc (hX3 hs hk))) (λ hs hk=>(zaN hs λ hc hs=>And.intro hc (zaN hs λ hc hs=>And.intro hc (hX3 hs hk))))))))))))))) _ hs hk
def zw4 (w:web) (S2:Bool->Tab->Tab->Tab) (zav:Bool) (t4t2:Tab) (dt2:Tab):Tab :=
  (cond zav
 (zw2 S2 w false t4t2 dt2)
 dt2)
def zw5 (w:web) (P2:Bool->Tab->Tab->Bool) (zav:Bool) (t4t2:Tab) (dt2:Tab):Bool :=
  (cond zav
 (zw3 P2 w false t4t2 dt2)
 true)
def zw6 (w:web):Nat->Bool->Tab->Tab->Tab:=lpO (λ _ _ _=>default) (zw4 w)
def zw7 (w:web):Nat->Bool->Tab->Tab->Bool:=lpO (λ _ _ _=>false) (zw5 w)
def zw8 (w:web) (zav:Bool) (t4t2:Tab) (dt2:Tab):Tab:=zw6 w Fuel zav t4t2 dt2
def zw9 (w:web) (zav:Bool) (t4t2:Tab) (dt2:Tab):Bool:=zw7 w Fuel zav t4t2 dt2
theorem zFD (hs:zw9 w zav t4t2 dt2=true) (hk:K (e75 (zw8 w zav t4t2 dt2))):z75 K [1,1,1,1,0,1,0] [] (zC3 w zav t4t2 dt2) :=
  zl (λ X=>z75 K [1,1,1,1,0,1,0,0] [X]) (by kernel_rfl) λ X2 hX =>
  (show ∀ k, zFz K w X2 (zw7 w k) (zw6 w k) from zeu _ _ (zw5 w) (zw4 w) (zFz K w X2)
 (by intro _ _ _ hs;exact absurd hs dqk)
 (by intro P2 S2 hX2 zav t4t2 dt2 hs hk;exact hX _ (za0 (by kernel_rfl) (zc hs hk (λ hs hk=>(And.intro (And.intro (zE enc_40 4 w.Net.Ties.get) (rfl:((false,1,false,[none]):MQ)=(false,1,false,[none]))) (zFC hX2 hs hk))) (λ hs hk=>hk))))) _ hs hk
def zxa (w:web) (node:Int) (t4t1:Tab) (dt1:Tab):Tab :=
  (zw8 w true t4t1 (ts 80 dt1 (0+node.toNat * 2+0) [(0:Int),(0:Int)]))
def zxb (w:web) (node:Int) (t4t1:Tab) (dt1:Tab):Bool :=
  (decide ((0<=node/\node < (40:Int))) &&
 (zw9 w true t4t1 (ts 80 dt1 (0+node.toNat * 2+0) [(0:Int),(0:Int)])))
theorem zFE (hs:zxb w node t4t1 dt1=true) (hk:K (e75 (zxa w node t4t1 dt1))):z75 K [1,1,1] [] ⟨[(0,zP (.fp (zaB w) 0)),(1,zI node),(4,zp 4 0),(5,zp 5 0)],[(4,.box 116 (zm (zal t4t1))),(5,.box 116 (zm (zal dt1)))],[]⟩:=za0 (by kernel_rfl) (zaN hs λ hc hs=>And.intro hc (zFD hs hk))
def zxc (w:web) (node:Int) (S0:Int->Tab->Tab->Tab) (za2:Int) (t4t0:Tab) (dt0:Tab):Tab :=
  (cond (decide (za2 < (40:Int)))
 (S0 (w64 (za2+(1:Int))) t4t0 (ts 80 dt0 (0+za2.toNat * 2+0) [(1000000000000:Int),(0:Int)]))
 (zxa w node t4t0 dt0))
def zxd (w:web) (node:Int) (P0:Int->Tab->Tab->Bool) (za2:Int) (t4t0:Tab) (dt0:Tab):Bool :=
  (cond (decide (za2 < (40:Int)))
 (decide ((0<=za2/\za2 < (40:Int))) &&
 (P0 (w64 (za2+(1:Int))) t4t0 (ts 80 dt0 (0+za2.toNat * 2+0) [(1000000000000:Int),(0:Int)])))
 (zxb w node t4t0 dt0))
def zxe (w:web) (node:Int):Nat->Int->Tab->Tab->Tab:=lpO (λ _ _ _=>default) (zxc w node)
def zxf (w:web) (node:Int):Nat->Int->Tab->Tab->Bool:=lpO (λ _ _ _=>false) (zxd w node)
def zxg (w:web) (node:Int) (za2:Int) (t4t0:Tab) (dt0:Tab):Tab:=zxe w node Fuel za2 t4t0 dt0
def zxh (w:web) (node:Int) (za2:Int) (t4t0:Tab) (dt0:Tab):Bool:=zxf w node Fuel za2 t4t0 dt0
theorem zFF (hs:zxh w node za2 t4t0 dt0=true) (hk:K (e75 (zxg w node za2 t4t0 dt0))):z75 K [1,1,0,1,0] [] (zC2 w node za2 t4t0 dt0) :=
  zl (λ X=>z75 K [1,1,0,1,0,0] [X]) (by kernel_rfl) λ X0 hX =>
  (show ∀ k, zJs K w node X0 (zxf w node k) (zxe w node k) from zeu _ _ (zxd w node) (zxc w node) (zJs K w node X0)
 (by intro _ _ _ hs;exact absurd hs dqk)
 (by intro P0 S0 hX0 za2 t4t0 dt0 hs hk;exact hX _ (za0 (by kernel_rfl) (zc hs hk (λ hs hk=>(zaN hs λ hc hs=>And.intro hc (hX0 hs hk))) (λ hs hk=>(zFE hs hk)))))) _ hs hk
def s75 (w:web) (node:Int):Tab :=
  (zxg w node (0:Int) (λ _=>(0:Int)) (λ _=>(0:Int)))
def p75 (w:web) (node:Int):Bool :=
  (zxh w node (0:Int) (λ _=>(0:Int)) (λ _=>(0:Int)))
end
theorem q75 (w:web) (node:Int) (K:List PA->Prop) (hs:p75 w node=true) (hk:K (e75 (s75 w node))):vcFun Tryd.prog G75 zwW 75 [.one (.fp (zaB w) 0),.one (.int .i64 node)] K :=
  za0 (by kernel_rfl) (zFF hs hk)
def zxi : List PA → COut
  | [.one (.fp [.int .i64 zak,.sl zah zaA zai,.fm za7 zaH zaI] 0),.one (.int .i64 a1)]=>.det (IsE enc_40 4 zaA zai/\za7=(false,1,false,[none])/\p75 (⟨(⟨zak,(⟨zah,zam zai⟩:(Sl Tie))⟩:Net),(⟨zaH,zaI⟩:Mp)⟩:web) a1=true) [.agg (zal ((s75 (⟨(⟨zak,(⟨zah,zam zai⟩:(Sl Tie))⟩:Net),(⟨zaH,zaI⟩:Mp)⟩:web) a1)))]
  | _=>.no
theorem zJu:zar Tryd.prog 75:=⟨_,rfl,rfl,by kernel_rfl⟩
theorem zL6:Ok Tryd.prog 75 zxi:=zbl zL5 zJu λ args K h=>by
  unfold zxi at h
  split at h
  · rename_i zak zah zaA zai za7 zaH zaI a1
    obtain⟨⟨⟨rfl,zaq,rfl⟩,rfl,hs⟩,hk⟩:=h
    try rw[zan zaq] at hs
    try rw[zan zaq] at hk
    exact⟨(λ _ _=>[]),(λ _=>false),zwW,q75 (⟨(⟨zak,(⟨zah,zaq⟩:(Sl Tie))⟩:Net),(⟨zaH,zaI⟩:Mp)⟩:web) a1 K hs hk⟩
  · exact h.elim
end Go.Proofs
