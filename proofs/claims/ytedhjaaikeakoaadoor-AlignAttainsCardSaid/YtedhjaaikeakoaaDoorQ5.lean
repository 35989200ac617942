/- Part 5 of what the proof rests on: a machine that runs functions of the program on pure values, proved sound; the functions that the law reaches, and what they compute. -/
import Derived.Test.YtedhjaaikeakoaaDoorQ4
import Derived.Sort.OwnSortedInts
import Derived.Lib.SlicesCompact
import Derived.Test.YtedhjaaikeakoaaDoorProg
import Derived.ProofKit
import Derived.Deep.Slices
import Derived.OpenShut
import Derived.Shelf.SlIterI.Nil
import Derived.Shelf.SortM.Plain
import Derived.Shelf.SortM.SortNone
import Derived.Ground.GgzProg
import Derived.Ground.SlgmProg
set_option linter.all false
namespace Go.Pm

structure Tabs where
  fn:List (Nat×(List PA->COut))
  own:List (Nat×OwnK)
  it:List (Nat×(List PA->Option (Prop×List (List PA))))
  mt:List (Nat×MK)
def zvO : List (Nat × (List PA → COut)) → Nat → List PA → COut
  | [],_=>λ _=>.no
  | (k,c) :: r,n=>match Nat.beq k n with | true=>c | false=>zvO r n
def zvP (l:List (Nat×OwnK)) (f:Nat):OwnK:=match lk l f with | some c=>c | none=>.none
def zEo (l:List (Nat×(List PA->Option (Prop×List (List PA))))) (f:Nat):List PA->Option (Prop×List (List PA)):=match lk l f with | some c=>c | none=>λ _=>none
def csm (T:Tabs) (memo:Nat->Int->List Int) (vv:Nat->Bool):Ctrs:=⟨zvO T.fn,zvP T.own,zEo T.it,memo,vv,lk T.mt⟩
abbrev cs (T:Tabs):Ctrs:=csm T (λ _ _=>[]) (λ _=>false)
def Tabs.nil:Tabs:=⟨[],[],[],[]⟩
def Tabs.addF (T:Tabs) (f:Nat) (c:List PA->COut):Tabs:=⟨(f,c) :: T.fn,T.own,T.it,T.mt⟩
def Tabs.addO (T:Tabs) (f:Nat) (c:OwnK):Tabs:=⟨T.fn,(f,c) :: T.own,T.it,T.mt⟩
def Tabs.addI (T:Tabs) (f:Nat) (c:List PA->Option (Prop×List (List PA))):Tabs:=⟨T.fn,T.own,(f,c) :: T.it,T.mt⟩
def Tabs.addM (T:Tabs) (f:Nat) (c:MK):Tabs:=⟨T.fn,T.own,T.it,(f,c) :: T.mt⟩

theorem zLC {P:Program}{f:Nat} : Ok P f (λ _=>.no):=λ _ _ h=>h.elim
theorem zLD {P:Program}{f:Nat} : zCk P f (λ _=>none):=λ _ _ _ h=>by cases h

structure TabsOk (P : Program) (T : Tabs) : Prop where
  fn:∀ x∈T.fn,Ok P x.1 x.2
  own:∀ x∈T.own,znN P x.1 x.2
  it:∀ x∈T.it,zCk P x.1 x.2
  mt:∀ x∈T.mt,zjt P x.1 x.2
theorem TabsOk.nil {P:Program} : TabsOk P .nil:=⟨λ _ h=>(by cases h),λ _ h=>(by cases h),λ _ h=>(by cases h),λ _ h=>(by cases h)⟩
theorem TabsOk.addF {P:Program}{T:Tabs}(h:TabsOk P T){f:Nat}{c:List PA->COut}(hc:Ok P f c):TabsOk P (T.addF f c) :=
 ⟨λ x hx=>(List.mem_cons.1 hx).elim (λ e=>by rw[e];exact hc) (λ hx=>h.fn x hx),h.own,h.it,h.mt⟩
theorem TabsOk.addO {P:Program}{T:Tabs}(h:TabsOk P T){f:Nat}{c:OwnK}(hc:znN P f c):TabsOk P (T.addO f c) :=
 ⟨h.fn,λ x hx=>(List.mem_cons.1 hx).elim (λ e=>by rw[e];exact hc) (λ hx=>h.own x hx),h.it,h.mt⟩
theorem TabsOk.addI {P:Program}{T:Tabs}(h:TabsOk P T){f:Nat}{c:List PA->Option (Prop×List (List PA))}(hc:zCk P f c):TabsOk P (T.addI f c) :=
 ⟨h.fn,h.own,λ x hx=>(List.mem_cons.1 hx).elim (λ e=>by rw[e];exact hc) (λ hx=>h.it x hx),h.mt⟩
theorem TabsOk.addM {P:Program}{T:Tabs}(h:TabsOk P T){f:Nat}{c:MK}(hc:zjt P f c):TabsOk P (T.addM f c) :=
 ⟨h.fn,h.own,h.it,λ x hx=>(List.mem_cons.1 hx).elim (λ e=>by rw[e];exact hc) (λ hx=>h.mt x hx)⟩
theorem TabsOk.all {P:Program}{T:Tabs}(h:TabsOk P T) (memo:Nat->Int->List Int) (vv:Nat->Bool):OkAll P (csm T memo vv):=by
 refine⟨λ f C hC=>h.mt _ (zbC hC),λ f=>?_,λ f=>?_,λ f=>?_⟩
 ·show Ok P f (zvO T.fn f)
  have key:∀ l:List (Nat×(List PA->COut)),(∀ x∈l,Ok P x.1 x.2)->Ok P f (zvO l f):=by
   intro l
   induction l with
   | nil=>intro _;exact zLC
   | cons x l ih =>
    intro hl
    obtain⟨k,c⟩:=x
    simp only[zvO]
    split
    ·rename_i e
     have:=hl (k,c) List.mem_cons_self
     rw[← Nat.eq_of_beq_eq_true e];exact this
    ·exact ih λ x hx=>hl x (List.mem_cons_of_mem _ hx)
  exact key T.fn h.fn
 ·show znN P f (zvP T.own f)
  unfold zvP
  split
  ·rename_i c hc;exact h.own _ (zbC hc)
  ·trivial
 ·show zCk P f (zEo T.it f)
  unfold zEo
  split
  ·rename_i c hc;exact h.it _ (zbC hc)
  ·exact zLD

theorem za9 {P : Program} {T : Tabs} (hT : TabsOk P T) {f : FuncId} {C : List PA → COut} (hc : zar P f)
    (h:∀ args K,(C args).wp K->∃ memo vv ann,vcFun P (csm T memo vv) ann f args K):Ok P f C :=
  zA3 (hT.all (λ _ _=>[]) (λ _=>false)) hc h
theorem zEp {P : Program} {T : Tabs} (hT : TabsOk P T) {f : FuncId} {C : MK} (hc : zar P f)
    (h:∀ xs safe rs ys,C xs=some (safe,rs,ys)->safe->∀ K:List PA->List XA->Prop,K rs ys->∃ memo vv ann,zkG P (csm T memo vv) ann f xs K):zjt P f C :=
  zvN (hT.all (λ _ _=>[]) (λ _=>false)) hc h
theorem zIw {P : Program} {T : Tabs} (hT : TabsOk P T) {f : FuncId} {C : List PA → Option (Prop × List (List PA))} (hc : zar P f)
    (h:∀ l caps safe ys,C caps=some (safe,ys)->safe->∃ memo vv ann,vcIter P (csm T memo vv) ann f l caps ys):zCk P f C :=
  zA7 (hT.all (λ _ _=>[]) (λ _=>false)) hc h
structure Sl (α : Type) where
  len:Nat
  get:Nat->α
instance {α:Type} [Inhabited α]:Inhabited (Sl α):=⟨⟨0,λ _=>default⟩⟩
abbrev w64 (x:Int):Int:=IntKind.i64.wrap x

def IsE {α:Type}(enc:α->List PV) (size s:Nat) (g:Nat->List PV):Prop:=s=size/\∃ f:Nat->α,g=λ i=>enc (f i)
theorem isE {α:Type}{enc:α->List PV}{size:Nat}{f:Nat->α} : IsE enc size size (λ i=>enc (f i)):=⟨rfl,f,rfl⟩
theorem zvQ {α:Type}{enc:α->List PV}{size:Nat}{x:α} : IsE enc size size (λ _=>enc x):=⟨rfl,λ _=>x,rfl⟩
def zgi {α:Type}(n:Nat) (get new:Nat->α):Nat->α:=λ j=>match Nat.ble n j with | true=>new (j - n) | false=>get j
theorem zBb {α:Type}{enc:α->List PV}{n:Nat}{f h:Nat->α} : appG n (λ i=>enc (f i)) (λ i=>enc (h i))=λ i=>enc (zgi n f h i):=by
 funext j;simp only[appG,zgi];cases Nat.ble n j <;> rfl
def zpd {α : Type} (x : α) : List α → Nat → α
  | [],_=>x
  | y :: _,0=>y
  | _ :: r,i+1=>zpd x r i
theorem zsn {α:Type}{enc:α->List PV}{x y:α}{r:List α} : zbo (enc x :: enc y :: r.map enc)=λ i=>enc (zpd x (x :: y :: r) i):=by
 have key:∀ (l:List α) (i:Nat),(match (l.map enc)[i]? with | some z=>z | none=>enc x)=enc (zpd x l i):=by
  intro l
  induction l with
  | nil=>intro i;rfl
  | cons a l ih =>
   intro i
   cases i with
   | zero=>rfl
   | succ i=>simpa [zpd] using ih i
 funext i
 exact key (x :: y :: r) i
theorem zee {α:Type}{enc:α->List PV}{size:Nat}{x y:α}(r:List α):IsE enc size size (zbo (enc x :: enc y :: r.map enc)):=⟨rfl,_,zsn⟩

theorem zeU {b:Bool}{A B:Prop}{S S':Bool}{α:Type}{K:α->Prop}{x y:α}(h1:S=true->K x->A) (h2:S'=true->K y->B) (hs:cond b S S'=true) (hk:K (cond b x y)):zdj b A B:=by
 cases b
 ·exact h2 hs hk
 ·exact h1 hs hk
theorem zhy {b:Bool}{A B:Prop}{S S':Bool}{α β:Type}{f:α->β}{ys:List β}{x y:List α}(hs:cond b S S'=true) (hk:ys=(cond b x y).map f) (h1:S=true->ys=x.map f->A) (h2:S'=true->ys=y.map f->B):zdj b A B:=by
 cases b
 ·exact h2 hs hk
 ·exact h1 hs hk
theorem itY {α β:Type}{f:α->β}{ys:List β}{p:β}{x r:List α}{l:Nat}{A:List β->Prop}(hk:ys=x.map f) (e:x.map f=p :: r.map f) (h:∀ zs,zs=r.map f->A zs):l=l/\∃ z,ys=p :: z/\A z/\True :=
 ⟨rfl,_,hk.trans e,h _ rfl,trivial⟩
theorem zaJ {C A:Prop} [d:Decidable C] {r:Bool}(hs:(decide C && r)=true) (k:C->r=true->A):A:=by
 rw[Bool.and_eq_true] at hs
 exact k (of_decide_eq_true hs.1) hs.2
abbrev Fuel:Nat:=9223372036854775808
def setT {α:Type}(i:Nat) (v:α) (get:Nat->α):Nat->α:=λ j=>match Nat.beq j i with | true=>v | false=>get j
theorem zjb {α:Type}{enc:α->List PV}{n:Nat}{g g':Nat->List PV}{f h:Nat->α}(h1:g=λ i=>enc (f i)) (h2:g'=λ i=>enc (h i)):appG n g g'=λ i=>enc (zgi n f h i):=by
 subst h1;subst h2;exact zBb
theorem zfj {α:Type}{enc:α->List PV}{i k:Nat}{g:Nat->List PV}{f:Nat->α}{new:List PV}{v:α}(h1:g=λ i=>enc (f i)) (h2:spl (enc (f i)) k new=enc v):zo5 i k g new=λ j=>enc (setT i v f j):=by
 subst h1
 funext j
 simp only[zo5,setT]
 cases e:Nat.beq j i
 ·rfl
 ·have := Nat.eq_of_beq_eq_true e
  subst this;exact h2
def zLE (P:Program) (G:Ctrs) (ann:Ann) (hd:Nat) (ps:List Nat) (assign body:Code) (X:List (List PA)->St->Prop) (K:Exit->St->Prop) (y:List PA) (rest:List (List PA)) (s:St):Prop :=
 match lk ann.head hd with
 | some k=>match zhl ps y s.env with
  | some env=>vc P G ann assign (zCj (vc P G ann body (zlt P k (X rest) K)) λ _ _=>False) ⟨env,s.objs,[]⟩
  | none=>False
 | none=>False
end Go.Pm
namespace Go.Pm
open Go Go.Sort

/-! Nil slices are slices of length 0. -/
inductive PVle : PV → PV → Prop
  | rfl (p:PV):PVle p p
  | nil (s:Nat) (g:Nat->List PV):PVle .nils (.sl 0 s g)
  | nilm (q:MQ):PVle .nilm (.fm q 0 (λ _=>none))
inductive PAle : PA → PA → Prop
  | one {p q:PV} : PVle p q->PAle (.one p) (.one q)
  | agg {l m:List PV} : RL PVle l m->PAle (.agg l) (.agg m)
theorem zkK {α β:Type}{R:α->β->Prop} : RL R [] []:=trivial
theorem zeF {α β:Type}{R:α->β->Prop}{a:α}{b:β}{l:List α}{m:List β}(h:R a b) (h':RL R l m):RL R (a :: l) (b :: m):=⟨h,h'⟩
theorem zeE {α : Type} {R : α → α → Prop} (h : ∀ a, R a a) : ∀ l : List α, RL R l l
  | []=>trivial
  | a :: l=>⟨h a,zeE h l⟩
theorem zfk (a:PA):PAle a a:=by
 cases a with
 | one p=>exact .one (.rfl p)
 | agg l=>exact .agg (zeE .rfl l)
def Wk (K:List PA->Prop) (l:List PA):Prop:=∃ l',RL PAle l l'/\K l'
theorem wk {K:List PA->Prop}{l l':List PA}(hk:K l') (h:RL PAle l l'):Wk K l:=⟨l',h,hk⟩
theorem zfl {K:List PA->Prop}{l:List PA}(hk:K l):Wk K l:=⟨l,zeE zfk l,hk⟩
theorem zIx {h:Fz}{p q:PV}{v:Value}(e:PVle p q) (r:Rep h p v):Rep h q v:=by
 cases e with
 | rfl=>exact r
 | nil s g=>cases r;exact .sl0 s g
 | nilm q=>cases r;exact .fmn q _ (λ _ _=>rfl)
theorem zvR {α β γ : Type} {R : α → β → Prop} {S : α → γ → Prop} {T : γ → β → Prop} (h : ∀ a b c, S a c → R a b → T c b) : ∀ (l : List α) (m : List β) (k : List γ), RL S l k → RL R l m → RL T k m
  | [],[],[],_,_=>trivial
  | a :: l,b :: m,c :: k,hs,hr=>⟨h a b c hs.1 hr.1,zvR h l m k hs.2 hr.2⟩
  | [],_ :: _,[],_,hr=>hr.elim
  | [],_,_ :: _,hs,_=>hs.elim
  | _ :: _,_,[],hs,_=>hs.elim
  | _ :: _,[],_ :: _,_,hr=>hr.elim
theorem zBc {h:Fz}{a b:PA}{v:Value}(e:PAle a b) (r:paR h a v):paR h b v:=by
 cases e with
 | one e=>exact zIx e r
 | agg e =>
  obtain⟨vs,rfl,hv⟩:=r
  exact⟨vs,rfl,zvR (R:=Rep h) (S:=PVle) (T:=Rep h) (λ _ _ _ e r=>zIx e r) _ _ _ e hv⟩
theorem zvS {h:Fz}{l m:List PA}{v:Value}(e:RL PAle l m) (r:znF h l v):znF h m v:=by
 match l,m,e,r with
 | [a],[b],e,r=>exact zBc e.1 r
 | [],[],_,r=>exact r
 | a :: b :: l,c :: d :: m,e,r =>
  obtain⟨vs,hv,hr⟩:=r
  exact⟨vs,hv,zvR (R:=paR h) (S:=PAle) (T:=paR h) (λ _ _ _ e r=>zBc e r) _ _ _ e hr⟩
 | [_],_ :: _ :: _,e,_=>exact e.2.elim
 | _ :: _ :: _,[_],e,_=>exact e.2.elim
 | [],_ :: _,e,_=>exact e.elim
 | _ :: _,[],e,_=>exact e.elim
theorem zfF {P : Program} {T : Tabs} (hT : TabsOk P T) {f : FuncId} {C : List PA → COut} (hc : zar P f)
    (h:∀ args K,(C args).wp K->∃ args',RL PAle args args'/\∃ memo vv ann,vcFun P (csm T memo vv) ann f args' (Wk K)):Ok P f C:=by
  intro args K hK w h0 vs hvs hfz hgl
  obtain⟨args',hle,memo,vv,ann,hv⟩:=h args K hK
  refine⟨hc,(zvG (hT.all memo vv) hv (zvR (R:=paR h0) (S:=PAle) (T:=paR h0) (λ _ _ _ e r=>zBc e r) _ _ _ hle hvs) hfz hgl).mono ?_⟩
  rintro e w' ⟨h',rs,v,⟨rs',hr,hk⟩,he,hres,rest⟩
  exact⟨h',rs',v,hk,he,zvS hr hres,rest⟩
theorem zBd {P : Program} {T : Tabs} (hT : TabsOk P T) {f : FuncId} {C : MK} (hc : zar P f)
    (h:∀ xs safe rs ys,C xs=some (safe,rs,ys)->safe->∀ K:List PA->List XA->Prop,K rs ys->∃ memo vv ann,zkG P (csm T memo vv) ann f xs (λ a b=>Wk (λ a'=>K a' b) a)):zjt P f C:=by
  intro xs ys safe rs hC hs w h0 base vs hvs hn hK hw hgl hB
  obtain⟨memo,vv,ann,hv⟩:=h xs safe rs ys hC hs (λ l zs=>l=rs/\zs=ys) ⟨rfl,rfl⟩
  refine⟨hc,(zvM (hT.all memo vv) hv hvs hn hK hw hgl hB).mono ?_⟩
  rintro e w' ⟨h',v,rs',ys',⟨rs2,hr,rfl,rfl⟩,he,hres,r⟩
  exact⟨h',v,he,zvS hr hres,r⟩
def WkM (K:List PA×List XA->Prop) (p:List PA×List XA):Prop:=Wk (λ a=>K (a,p.2)) p.1
theorem wkM {K:List PA×List XA->Prop}{l l':List PA}{b:List XA}(hk:K (l',b)) (h:RL PAle l l'):WkM K (l,b):=⟨l',h,hk⟩
theorem zvT {K:List PA×List XA->Prop}{p:List PA×List XA}(hk:K p):WkM K p:=⟨p.1,zeE zfk p.1,hk⟩
/-! Maps, as typed values; the keys of a map. -/
structure Mp where
  n:Nat
  F:List Int->Option (List Int)
instance:Inhabited Mp:=⟨⟨0,λ _=>none⟩⟩

end Go.Pm
namespace Go.Pm

abbrev zI (x:Int):DV:=.one (.c (.p (.int .i64 x)))
abbrev zB (x:Bool):DV:=.one (.c (.p (.bool x)))
abbrev zP (x:PV):DV:=.one (.c (.p x))
abbrev zp (L k:Nat):DV:=.one (.c (.ptr L k))
abbrev zv (L:Nat):DV:=.one (.c (.vec L))
abbrev zs {α:Type}(enc:α->List PV) (s:Nat) (x:Sl α):PV:=.sl x.len s (λ i=>enc (x.get i))
abbrev zS {α:Type}(enc:α->List PV) (s:Nat) (x:Sl α):DV:=zP (zs enc s x)
abbrev zm (l:List PV):List Cl:=l.map Cl.p
abbrev zi (x:Int):Cl:=.p (.int .i64 x)
abbrev zg {α:Type}(enc:α->List PV) (x:Sl α):Nat->List PV:=λ i=>enc (x.get i)
abbrev zK (a b:List Nat):Keep:=⟨a,b,[],[],[],[],[]⟩
theorem zE {α:Type}(enc:α->List PV) (size:Nat) (f:Nat->α):IsE enc size size (λ i=>enc (f i)):=⟨rfl,f,rfl⟩

theorem zvU {α : Type} : ∀ (new l pre : List α), l.length = new.length → spl (pre ++ l) pre.length new = pre ++ new
  | [],l,pre,h=>by
    have:l=[]:=List.eq_nil_of_length_eq_zero h
    subst this;rfl
  | x :: r,[],pre,h=>by simp at h
  | x :: r,y :: l,pre,h=>by
    have e:=zvU r l (pre ++ [x]) (by simpa using h)
    simp only[spl,List.append_assoc,List.singleton_append,List.length_append,List.length_singleton] at e ⊢
    rw[List.set_append_right _ _ (Nat.le_refl _),Nat.sub_self,List.set_cons_zero]
    exact e
theorem zmL {n:Nat}{F G:Nat->Int} : spl (zhe 0 n F) 0 (zhe 0 n G)=zhe 0 n G:=by
 have h:=zvU (zhe 0 n G) (zhe 0 n F) [] (by rw[zeK,zeK])
 simpa using h
theorem zeV {n:Nat}{F:Nat->Int} : zhe 0 n F=zhe 0 n (zlp (zm (zhe 0 n F))):=by
 refine List.ext_getElem? λ k=>?_
 by_cases hk:k < n
 ·rw [zgd n 0 F k hk, zgd n 0 _ k hk, Nat.zero_add]
  congr 2
  have h:(zm (zhe 0 n F))[k]? = some (.p (.int .i64 (F k))):=by
   rw[zm,List.getElem?_map,zgd n 0 F k hk,Nat.zero_add];rfl
  unfold zlp
  rw[h]
 ·rw[List.getElem?_eq_none (by rw[zeK];omega),List.getElem?_eq_none (by rw[zeK];omega)]

@[reducible] def lpO {A : Type} (d : A) (st : A → A) : Nat → A
  | 0=>d
  | k+1=>st (lpO d st k)
theorem zd1 {A B : Type} (a : A) (b : B) (p : A → A) (s : B → B) (M : A → B → Prop) (h0 : M a b) (h1 : ∀ P S, M P S → M (p P) (s S)) : ∀ k, M (lpO a p k) (lpO b s k)
  | 0=>h0
  | k+1=>h1 _ _ (zd1 a b p s M h0 h1 k)
def xcm (l:List PV):List XC:=l.map .p
def unX : List XC → List PV
  | []=>[]
  | .p v :: r=>v :: unX r
  | _ :: r=>.nilp :: unX r
theorem zvV : ∀ l : List PV, unX (xcm l) = l
  | []=>rfl
  | v :: r=>by show v :: unX (xcm r)=v :: r;rw[zvV r]
theorem zEq {n:Nat}{F:Nat->Int} : xcm (zhe 0 n F)=xcm (zhe 0 n (zlp (zm (unX (xcm (zhe 0 n F)))))):=by
 rw[zvV,← zeV]

section
variable (P:Program) (Γ:Ctrs) (ann:Ann)
def pt : Code → (Exit → St → Prop) → List Nat → List (St → Prop) → St → Prop
  | .seq a b,K,i :: r,X=>match i with | 0=>pt a (sqK P Γ ann b K) r X | _=>pt b K r X
  | .cond _ a b,K,i :: r,X=>match i with | 0=>pt a K r X | _=>pt b K r X
  | .block id b,K,_ :: r,X=>pt b (zfg id K) r X
  | .loop b,K,_ :: r,x :: X=>pt b (ztE P ann (zlh b) x K) r X
  | .scope b,K,_ :: r,X=>pt b (zuq K) r X
  | c,K,_,_=>vc P Γ ann c K
def ptF (fn:Func) (K:List PA->Prop) (l:List Nat) (X:List (St->Prop)):St->Prop :=
 match fn.body with
 | some c=>pt P Γ ann c (zpf P fn K) l X
 | none=>λ _=>False
end

section
variable (P:Program) (Γ:Ctrs) (ann:Ann)
def ptR : Code → (Exit → St → Prop) → List Nat → List (St → Prop) → Code × (Exit → St → Prop)
  | .seq a b,K,i :: r,X=>match i with | 0=>ptR a (sqK P Γ ann b K) r X | _=>ptR b K r X
  | .cond _ a b,K,i :: r,X=>match i with | 0=>ptR a K r X | _=>ptR b K r X
  | .block id b,K,_ :: r,X=>ptR b (zfg id K) r X
  | .loop b,K,_ :: r,x :: X=>ptR b (ztE P ann (zlh b) x K) r X
  | .scope b,K,_ :: r,X=>ptR b (zuq K) r X
  | c,K,_,_=>(c,K)
def exF (fn:Func) (K:List PA->Prop) (l:List Nat) (X:List (St->Prop)) (s:St):Prop :=
 match fn.body with
 | some c=>(ptR P Γ ann c (zpf P fn K) l X).2 .normal s
 | none=>False
def rnF (fn:Func) (K:List PA->Prop) (l:List Nat) (X:List (St->Prop)) (Y:List (List PA)->St->Prop) (y:List PA) (rest:List (List PA)) (s:St):Prop :=
 match fn.body with
 | some c=>match (ptR P Γ ann c (zpf P fn K) l X).1 with
  | .rangeFunc _ ps a b=>zLE P Γ ann (zNa a b) ps.toList a b Y (ptR P Γ ann c (zpf P fn K) l X).2 y rest s
  | _=>False
 | none=>False
end
@[reducible] def lpR {A Y : Type} (a : A) (st : Y → A → A) : List Y → A
  | []=>a
  | y :: r=>st y (lpR a st r)
theorem zri {Y A B : Type} {enc : Y → List PA} {X : List (List PA) → St → Prop} (pe : B) (se : A) (ps : Y → B → B) (ss : Y → A → A) (M : (St → Prop) → B → A → Prop) (h0 : M (X []) pe se)
    (h1:∀ y rest P S,M (X rest) P S->M (X (enc y :: rest)) (ps y P) (ss y S)):∀ l:List Y,M (X (l.map enc)) (lpR pe ps l) (lpR se ss l)
  | []=>h0
  | y :: r=>h1 y (r.map enc) _ _ (zri pe se ps ss M h0 h1 r)
theorem zr {at_ sf : Prop} {Y : Type} {enc : Y → List PA} {ys : List Y} {g : St} (Ex : St → Prop) (Rn : (List (List PA) → St → Prop) → List PA → List (List PA) → St → Prop)
    (e:at_=(sf/\∀ X:List (List PA)->St->Prop,(∀ s,Ex s->X [] s)->(∀ y rest s,Rn X y rest s->X (y :: rest) s)->X (ys.map enc) g)) (hs:sf)
    (h:∀ X:List (List PA)->St->Prop,(∀ s,Ex s->X [] s)->(∀ y rest s,Rn X y rest s->X (y :: rest) s)->X (ys.map enc) g):at_:=e ▸ ⟨hs,h⟩

theorem zc {b:Bool}{A B:Prop}{S S':Bool}{α:Type}{e:α->List PA}{K:List PA->Prop}{x y:α}(hs:cond b S S'=true) (hk:K (e (cond b x y))) (h1:S=true->K (e x)->A) (h2:S'=true->K (e y)->B):zdj b A B:=by
 cases b
 ·exact h2 hs hk
 ·exact h1 hs hk
theorem zt {b:Bool}{A B:Prop}{α:Type}{e:α->List PA}{K:List PA->Prop}{x y:α}(hk:K (e (cond b x y))) (h1:K (e x)->A) (h2:K (e y)->B):zdj b A B:=by
 cases b
 ·exact h2 hk
 ·exact h1 hk
theorem zIy {b:Bool}{s:Prop}{r1 r2:List PA}{K:List PA->Prop}(h:(COut.alt b s r1 s r2).wp K):s/\K (cond b r1 r2):=by
 cases b
 ·exact h.2 rfl
 ·exact h.1 rfl
theorem zl {at_:Prop}{g:St}(B:(St->Prop)->St->Prop) (e:at_ = ∀ X:St->Prop,(∀ s,B X s->X s)->X g) (h:∀ X:St->Prop,(∀ s,B X s->X s)->X g):at_:=e ▸ h
end Go.Pm
namespace Go.Proofs
open Go Go.Pm
set_option maxRecDepth 100000
set_option linter.unusedVariables false
attribute [local irreducible] Go.Pm.vcFun Go.Pm.vc Go.Pm.vcIter
abbrev Tab:=Nat->Int
def tg (n:Nat) (F:Tab) (k:Nat):Int:=zlp (zm (zhe 0 n F)) k
def ts (n:Nat) (F:Tab) (k:Nat) (vs:List Int):Tab:=zCe k vs (zlp (zm (zhe 0 n F)))
abbrev zad (x:Int):List PV:=[.int .i64 x]
def zLF : List PV → Int
  | [.int .i64 x]=>x
  | _=>default
def zav (g:Nat->List PV):Nat->Int:=λ i=>zLF (g i)
theorem zba (f:Nat->Int):zav (λ i=>zad (f i))=f:=rfl
structure Tie where
  From:Int
  To:Int
  Low:Int
  High:Int
deriving Inhabited
abbrev enc_40 (x:Tie):List PV:=[.int .i64 x.From,.int .i64 x.To,.int .i64 x.Low,.int .i64 x.High]
def zIz : List PV → Tie
  | [.int .i64 x_From,.int .i64 x_To,.int .i64 x_Low,.int .i64 x_High]=>(⟨x_From,x_To,x_Low,x_High⟩:Tie)
  | _=>default
def zam (g:Nat->List PV):Nat->Tie:=λ i=>zIz (g i)
theorem zak (f:Nat->Tie):zam (λ i=>enc_40 (f i))=f:=rfl
abbrev zIA (x:(Sl Tie)):List PV:=[.sl x.len 4 (λ i=>enc_40 (x.get i))]
structure Net where
  Nodes:Int
  Ties:(Sl Tie)
deriving Inhabited
abbrev enc_24 (x:Net):List PV:=[.int .i64 x.Nodes,.sl x.Ties.len 4 (λ i=>enc_40 (x.Ties.get i))]
abbrev zbO (x:(Sl Int)):List PV:=[.sl x.len 1 (λ i=>zad (x.get i))]
def zIB : List PV → (Sl Int)
  | [.sl x_n _ x_g]=>(⟨x_n,zav x_g⟩:(Sl Int))
  | _=>default
def zmM (g:Nat->List PV):Nat->(Sl Int):=λ i=>zIB (g i)
theorem zkL (f:Nat->(Sl Int)):zmM (λ i=>zbO (f i))=f:=rfl
structure Span where
  Low:Int
  High:Int
deriving Inhabited
abbrev za1 (x:Span):List PV:=[.int .i64 x.Low,.int .i64 x.High]
def zIC : List PV → Span
  | [.int .i64 x_Low,.int .i64 x_High]=>(⟨x_Low,x_High⟩:Span)
  | _=>default
def zfG (g:Nat->List PV):Nat->Span:=λ i=>zIC (g i)
theorem zeW (f:Nat->Span):zfG (λ i=>za1 (f i))=f:=rfl
structure Pulse where
  A:Int
  B:Int
  TimeA:Int
  TimeB:Int
  Flight:Span
  Jitter:Int
deriving Inhabited
structure Use where
  Tie:Int
  Back:Bool
deriving Inhabited
abbrev zaN (x:Use):List PV:=[.int .i64 x.Tie,.bool x.Back]
def zID : List PV → Use
  | [.int .i64 x_Tie,.bool x_Back]=>(⟨x_Tie,x_Back⟩:Use)
  | _=>default
def zcY (g:Nat->List PV):Nat->Use:=λ i=>zID (g i)
theorem zcZ (f:Nat->Use):zcY (λ i=>zaN (f i))=f:=rfl
structure Flash where
  A:Int
  B:Int
  Time:Int
  Flight:Int
  Wrong:Int
deriving Inhabited
structure web where
  Net:Net
  out:Mp
deriving Inhabited
abbrev zaA (x:web):List PV:=[.int .i64 x.Net.Nodes,.sl x.Net.Ties.len 4 (λ i=>enc_40 (x.Net.Ties.get i)),.fm (false,1,false,[none]) x.out.n x.out.F]
structure far where
  length:Int
  uses:Int
deriving Inhabited
abbrev zb2 (x:far):List PV:=[.int .i64 x.length,.int .i64 x.uses]
def zEr : List PV → far
  | [.int .i64 x_length,.int .i64 x_uses]=>(⟨x_length,x_uses⟩:far)
  | _=>default
def zjF (g:Nat->List PV):Nat->far:=λ i=>zEr (g i)
theorem zjc (f:Nat->far):zjF (λ i=>zb2 (f i))=f:=rfl
abbrev zaf (x:Tab):List PV:=zhe 0 80 x
def zas (l:List PV):Tab:=zlp (zm l)
structure Step where
  From:Int
  To:Int
  Length:Int
  Use:Use
deriving Inhabited
abbrev zch (x:Step):List PV:=[.int .i64 x.From,.int .i64 x.To,.int .i64 x.Length,.int .i64 x.Use.Tie,.bool x.Use.Back]
structure step where
  Use:Use
  from_:Int
  to:Int
  length:Int
deriving Inhabited
abbrev zaB (x:step):List PV:=[.int .i64 x.Use.Tie,.bool x.Use.Back,.int .i64 x.from_,.int .i64 x.to,.int .i64 x.length]
def zEs : List PV → step
  | [.int .i64 x_Use_Tie,.bool x_Use_Back,.int .i64 x_from_,.int .i64 x_to,.int .i64 x_length]=>(⟨(⟨x_Use_Tie,x_Use_Back⟩:Use),x_from_,x_to,x_length⟩:step)
  | _=>default
def zhz (g:Nat->List PV):Nat->step:=λ i=>zEs (g i)
theorem zef (f:Nat->step):zhz (λ i=>zaB (f i))=f:=rfl
structure tie where
  Tie:Tie
  index:Int
deriving Inhabited
abbrev zvW (x:tie):List PV:=[.int .i64 x.Tie.From,.int .i64 x.Tie.To,.int .i64 x.Tie.Low,.int .i64 x.Tie.High,.int .i64 x.index]
abbrev zvX (x:Tab):List PV:=zhe 0 40 x
abbrev zcB (x:(Sl Tab)):List PV:=[.sl x.len 80 (λ i=>zaf (x.get i))]
abbrev tL (T:Tab) (i:Int):Int:=tg 80 T (0+i.toNat * 2+0)
abbrev tU (T:Tab) (i:Int):Int:=tg 80 T (0+i.toNat * 2+0+1)
abbrev tV (T:Tab) (i:Int):Int:=tg 80 T (0+i.toNat * 2+1)
abbrev nvr (x y:Int):Bool:=match (x == (1000000000000:Int)) with | true=>(match (y == (0:Int)) with | true=>true | false=>false) | false=>false
end Go.Proofs
namespace Go.Pm
open Go Go.Deep

theorem zBe (b o i j:Nat):((⟨b,o,none⟩:Addr).add i).add j=⟨b,o+i+j,none⟩:=by
 simp only[Addr.add]
 by_cases h1:i=0
 ·subst h1
  by_cases h2:j=0
  ·subst h2;rfl
  ·rw[if_neg h2];rfl
 ·rw [if_neg h1]
  by_cases h2:j=0
  ·subst h2;rfl
  ·rw[if_neg h2]
def H0 (w:World):Fz:=λ b=>(w.heap[b]?).map .fz
theorem hw_H0 (w:World):Hw (H0 w) w:=by
 intro b x h
 unfold H0 at h
 cases e:w.heap[b]? with
 | none=>rw[e] at h;cases h
 | some o=>rw[e] at h;cases h;exact⟨o,rfl,rfl⟩
def wfI (x:Int):Prop:=-9223372036854775808≤x/\x≤9223372036854775807
section
variable {H:Type}{en:TypeId×Value->H}{P:Program}{w:World}{sp:Nat->Bool}{held:Bool}
def Rd (H:Type) (en:TypeId×Value->H) (P:Program) (w:World) (sp:Nat->Bool) (held:Bool) (t:TypeId){α:Type}(enc:α->List PV) (wf:α->Prop):Prop :=
 ∀ (fuel:Nat) (cs:List Value) (x:DataW H×List MemPlace),DataW.trod en P w 0 sp held fuel t cs=some x->∃ a:α,RL (Rep (H0 w)) (enc a) cs/\wf a
theorem zIE {t:TypeId}(ht:P.underlying t=some (.int .i64)):Rd H en P w sp held t (λ x=>[.int .i64 x]) wfI:=by
 intro fuel cs x h
 obtain⟨n,rfl,_,hw⟩:=DataW.trod_int ht h
 refine⟨n,⟨.int _ _,trivial⟩,?_⟩
 simp only[Lit.wf,Bool.and_eq_true,decide_eq_true_eq] at hw
 exact⟨hw.1,hw.2⟩
theorem zow {t : TypeId} {fs : Array Field} (ht : P.underlying t = some (.struct fs)) {fuel : Nat} {cs : List Value} {x : DataW H × List MemPlace} (h : DataW.trod en P w 0 sp held fuel t cs = some x) :
  cs.length=P.cellsOf t/\∀ (i:Nat) (f:Field),fs[i]? = some f->∃ n y,DataW.trod en P w 0 sp held n f.type ((cs.drop f.offset).take (P.cellsOf f.type))=some y:=by
 obtain⟨xs,n,_,_,hl,hx,hf⟩:=DataW.trod_struct ht h
 refine⟨hl,λ i f hi=>?_⟩
 have hlt:i < xs.length:=by rw[hx];exact (Array.getElem?_eq_some_iff.1 hi).1
 exact⟨n,xs[i],by rw[hf i f hi,List.getElem?_eq_getElem hlt]⟩
theorem zBf {t e : TypeId} {α : Type} [Inhabited α] {enc : α → List PV} {wf : α → Prop} {s : Nat} (ht : P.underlying t = some (.slice e)) (hc : P.cellsOf e = s) (hs : 0 < s) (hlen : ∀ a, (enc a).length = s)
    (hel:Rd H en P w sp held e enc wf):Rd H en P w sp held t (λ x:Sl α=>[.sl x.len s (λ i=>enc (x.get i))]) (λ x=>x.len≤9223372036854775807/\∀ i,i < x.len->wf (x.get i)):=by
  intro fuel cs x h
  rcases open_slice ht h with ⟨rfl,_⟩ | ⟨a,len,cap,m,n,D,Pl,rfl,_,hl,hm,hmm,_,hget⟩
  · exact⟨⟨0,default⟩,⟨.sl0 _ _,trivial⟩,Nat.zero_le _,λ i hi=>absurd hi (Nat.not_lt_zero i)⟩
  · by_cases h0 : len = 0
    · subst h0
      exact⟨⟨0,default⟩,⟨.sle _ _ _ _,trivial⟩,Nat.zero_le _,λ i hi=>absurd hi (Nat.not_lt_zero i)⟩
    · have hlm : len ≤ m := by rw [hmm]; split <;> omega
      rw[hc] at hget
      have hex:∀ i,i < len->∃ y:α,(∃ cs',w.cells? 0 (a.add (i * s)) s=some cs'/\RL (Rep (H0 w)) (enc y) cs')/\wf y:=by
        intro i hi
        obtain⟨cs',h1,h2⟩:=hget i (by omega)
        obtain⟨y,h3,h4⟩:=hel _ _ _ h2
        exact⟨y,⟨cs',h1,h3⟩,h4⟩
      have hch:∃ f:Nat->α,∀ i,i < len->(∃ cs',w.cells? 0 (a.add (i * s)) s=some cs'/\RL (Rep (H0 w)) (enc (f i)) cs')/\wf (f i):=by
        refine⟨λ i=>if hi:i < len then Classical.choose (hex i hi) else default,λ i hi=>?_⟩
        simp only[dif_pos hi]
        exact Classical.choose_spec (hex i hi)
      obtain⟨f,hf⟩:=hch
      -- the block
      have hcell:∀ i,i < len->∀ j,j < s->∃ cs',w.cells? 0 (a.add (i * s)) s=some cs'/\RL (Rep (H0 w)) (enc (f i)) cs'/\w.cell? ((a.add (i * s)).add j)=cs'[j]?/\cs'.length=s:=by
        intro i hi j hj
        obtain⟨⟨cs',h1,h2⟩,_⟩:=hf i hi
        obtain⟨_,h3,h4⟩:=World.cells?_some h1
        exact⟨cs',h1,h2,h4 j hj,h3⟩
      obtain⟨cs0,_,_,hc0,hl0⟩:=hcell 0 (by omega) 0 hs
      have ha0:w.cell? a=cs0[0]?:=by simpa [Addr.add] using hc0
      rw[List.getElem?_eq_getElem (by omega)] at ha0
      obtain⟨C,ty,fr,hblk,hspot⟩:∃ C ty fr,w.heap[a.block]? = some (.cells C ty fr)/\a.spot=none:=by
        unfold World.cell? at ha0
        split at ha0
        · rename_i C ty fr hb
          refine⟨C,ty,fr,hb,?_⟩
          cases hsp:a.spot with
          | none=>rfl
          | some k=>rw[hsp] at ha0;simp at ha0
        · cases ha0
      have ea:a=⟨a.block,a.off,none⟩:=by rw[← hspot]
      have hat:∀ i j,i < len->j < s->∃ cs',RL (Rep (H0 w)) (enc (f i)) cs'/\C[a.off+i * s+j]? = cs'[j]?/\cs'.length=s:=by
        intro i j hi hj
        obtain⟨cs',_,h2,h3,h4⟩:=hcell i hi j hj
        refine⟨cs',h2,?_,h4⟩
        rw[← h3]
        have e2:(a.add (i * s)).add j=⟨a.block,a.off+i * s+j,none⟩:=(congrArg (λ z:Addr=>(z.add (i * s)).add j) ea).trans (zBe _ _ _ _)
        rw[e2]
        simp[World.cell?,hblk]
      refine⟨⟨len,f⟩,⟨?_,trivial⟩,by simp only[maxLen] at hm;show len≤_;omega,λ i hi=>(hf i hi).2⟩
      rw[ea]
      refine .sl len s _ a.block a.off cap C ty fr (λ i j=>C.getD (a.off+i * s+j) undef) (by simp[H0,hblk]) hl (λ i _=>hlen _) ?_ ?_
      · intro i j x hi hx
        have hj:j < s:=by have:=(List.getElem?_eq_some_iff.1 hx).1;rw[hlen] at this;exact this
        obtain⟨cs',h1,h2,h3⟩:=hat i j hi hj
        rw[Array.getD_eq_getD_getElem?,h2,List.getElem?_eq_getElem (by omega)]
        rfl
      · intro i j x hi hx
        have hj:j < s:=by have:=(List.getElem?_eq_some_iff.1 hx).1;rw[hlen] at this;exact this
        obtain⟨cs',h1,h2,h3⟩:=hat i j hi hj
        obtain⟨v,hv,hr⟩:=h1.get j x hx
        rw[Array.getD_eq_getD_getElem?,h2,hv]
        exact hr
theorem zdI {α:Type}(l:List α) (o s:Nat):l.drop o=(l.drop o).take s ++ l.drop (o+s):=by
 rw[← List.drop_drop]
 exact (List.take_append_drop s (l.drop o)).symm
theorem okWide_agg {t:TypeId}{fs:Array Field}{r:Reach}{base:Nat}{v:Value}(ht:P.underlying t=some (.struct fs)) (h:Value.okWide P w r base t v):∃ cs,v=.agg cs:=by
 unfold Value.okWide at h
 rw[ht] at h
 obtain⟨cs,hv,_⟩:=h
 exact⟨cs,hv⟩
def zLG : TypeDesc → Bool
  | .struct _=>false
  | .array _ _=>false
  | _=>true
theorem okWide_one {t:TypeId}{d:TypeDesc}{r:Reach}{base:Nat}{v:Value}(ht:P.underlying t=some d) (hd:zLG d=true) (h:Value.okWide P w r base t v):v.cells.toList=[v]:=by
 unfold Value.okWide at h
 rw[ht] at h
 cases v with
 | agg cs =>
  exfalso
  cases d <;> first | (cases hd;done) | (simp only[Cell.okWide,Cell.ok,ht] at h)
 | _=>rfl
theorem pa_one {h:Fz}{p:PV}{v:Value}(hv:v.cells.toList=[v]) (r:RL (Rep h) [p] v.cells.toList):paR h (.one p) v:=by
 rw[hv] at r
 exact r.1
theorem pa_agg {h:Fz}{l:List PV}{v:Value}(hv:∃ cs,v=.agg cs) (r:RL (Rep h) l v.cells.toList):paR h (.agg l) v:=by
 obtain⟨cs,rfl⟩:=hv
 exact⟨cs.toList,by simp,r⟩
theorem below_H0 {w':World}(b:Bel (H0 w) w.heap.size w w'):Go.RowKit.Below w.heap.size w w' :=
 ⟨b.os,b.tape,b.output,b.size,λ k hk=>b.block k hk λ F e=>by
  unfold H0 at e
  cases hb:w.heap[k]? <;> rw[hb] at e <;> cases e⟩
end
end Go.Pm
namespace Go.Proofs
open Go Go.Pm
set_option maxRecDepth 100000
set_option linter.unusedVariables false
attribute [local irreducible] Go.Pm.vcFun Go.Pm.vc Go.Pm.vcIter
theorem C_3:Tryd.prog.cellsOf 3=1:=by kernel_rfl
theorem zNI:Tryd.prog.cellsOf 22=1:=by kernel_rfl
theorem zNJ:Tryd.prog.cellsOf 24=2:=by kernel_rfl
theorem zNg:Tryd.prog.cellsOf 40=4:=by kernel_rfl
abbrev wf_3 (x:Int):Prop:=wfI x
theorem rd_3 {H:Type}{en:TypeId×Value->H}{w:World}{sp:Nat->Bool}{held:Bool} : Rd H en Tryd.prog w sp held 3 zad wf_3:=zIE Tryd.underlying3
def zIF (x:Tie):Prop:=wf_3 x.From/\wf_3 x.To/\wf_3 x.Low/\wf_3 x.High
theorem zLH {H:Type}{en:TypeId×Value->H}{w:World}{sp:Nat->Bool}{held:Bool} : Rd H en Tryd.prog w sp held 40 enc_40 zIF:=by
  intro fuel cs x h
  obtain⟨hl,hf⟩:=zow Tryd.underlying40 h
  rw[zNg] at hl
  obtain⟨n0,y0,g0⟩:=hf 0 _ rfl
  have g0:DataW.trod en Tryd.prog w 0 sp held n0 3 ((cs.drop 0).take (Tryd.prog.cellsOf 3))=some y0:=g0
  rw[C_3] at g0
  obtain⟨a0,r0,w0⟩:=rd_3 _ _ _ g0
  obtain⟨n1,y1,g1⟩:=hf 1 _ rfl
  have g1:DataW.trod en Tryd.prog w 0 sp held n1 3 ((cs.drop 1).take (Tryd.prog.cellsOf 3))=some y1:=g1
  rw[C_3] at g1
  obtain⟨a1,r1,w1⟩:=rd_3 _ _ _ g1
  obtain⟨n2,y2,g2⟩:=hf 2 _ rfl
  have g2:DataW.trod en Tryd.prog w 0 sp held n2 3 ((cs.drop 2).take (Tryd.prog.cellsOf 3))=some y2:=g2
  rw[C_3] at g2
  obtain⟨a2,r2,w2⟩:=rd_3 _ _ _ g2
  obtain⟨n3,y3,g3⟩:=hf 3 _ rfl
  have g3:DataW.trod en Tryd.prog w 0 sp held n3 3 ((cs.drop 3).take (Tryd.prog.cellsOf 3))=some y3:=g3
  rw[C_3] at g3
  obtain⟨a3,r3,w3⟩:=rd_3 _ _ _ g3
  have z:cs.drop 4=[]:=List.drop_eq_nil_of_le (by omega)
  have R:=(r0.append (r1.append (r2.append (r3.append (show RL (Rep (H0 w)) [] (cs.drop 4) by rw[z];exact zkK)))))
  rw[← (show cs.drop 3=(cs.drop 3).take 1 ++ cs.drop 4 from zdI cs 3 1)] at R
  rw[← (show cs.drop 2=(cs.drop 2).take 1 ++ cs.drop 3 from zdI cs 2 1)] at R
  rw[← (show cs.drop 1=(cs.drop 1).take 1 ++ cs.drop 2 from zdI cs 1 1)] at R
  rw[← (show cs.drop 0=(cs.drop 0).take 1 ++ cs.drop 1 from zdI cs 0 1)] at R
  exact⟨⟨a0,a1,a2,a3⟩,R,⟨w0,w1,w2,w3⟩⟩
def zIG (x:(Sl Tie)):Prop:=x.len≤9223372036854775807/\∀ i,i < x.len->zIF (x.get i)
theorem zLI {H:Type}{en:TypeId×Value->H}{w:World}{sp:Nat->Bool}{held:Bool} : Rd H en Tryd.prog w sp held 22 zIA zIG:=zBf Tryd.underlying22 zNg (by decide) (λ _=>rfl) zLH
def wf_24 (x:Net):Prop:=wf_3 x.Nodes/\zIG x.Ties
theorem rd_24 {H:Type}{en:TypeId×Value->H}{w:World}{sp:Nat->Bool}{held:Bool} : Rd H en Tryd.prog w sp held 24 enc_24 wf_24:=by
  intro fuel cs x h
  obtain⟨hl,hf⟩:=zow Tryd.underlying24 h
  rw[zNJ] at hl
  obtain⟨n0,y0,g0⟩:=hf 0 _ rfl
  have g0:DataW.trod en Tryd.prog w 0 sp held n0 3 ((cs.drop 0).take (Tryd.prog.cellsOf 3))=some y0:=g0
  rw[C_3] at g0
  obtain⟨a0,r0,w0⟩:=rd_3 _ _ _ g0
  obtain⟨n1,y1,g1⟩:=hf 1 _ rfl
  have g1:DataW.trod en Tryd.prog w 0 sp held n1 22 ((cs.drop 1).take (Tryd.prog.cellsOf 22))=some y1:=g1
  rw[zNI] at g1
  obtain⟨a1,r1,w1⟩:=zLI _ _ _ g1
  have z:cs.drop 2=[]:=List.drop_eq_nil_of_le (by omega)
  have R:=(r0.append (r1.append (show RL (Rep (H0 w)) [] (cs.drop 2) by rw[z];exact zkK)))
  rw[← (show cs.drop 1=(cs.drop 1).take 1 ++ cs.drop 2 from zdI cs 1 1)] at R
  rw[← (show cs.drop 0=(cs.drop 0).take 1 ++ cs.drop 1 from zdI cs 0 1)] at R
  exact⟨⟨a0,a1⟩,R,⟨w0,w1⟩⟩
end Go.Proofs
namespace Go.Proofs
open Go Go.Pm
set_option maxRecDepth 100000
set_option linter.unusedVariables false
attribute [local irreducible] Go.Pm.vcFun Go.Pm.vc Go.Pm.vcIter
abbrev T81:Tabs:=Tabs.nil
theorem zLJ:TabsOk Tryd.prog T81:=TabsOk.nil
abbrev G81:Ctrs:=csm T81 (λ _ _=>[]) (λ _=>false)
def zIH:Ann:=⟨15,[(0,zK [0,1,2] []),(1,zK [6] [])],
 [],
 [],
 [],[]⟩
abbrev R81:=Bool
abbrev e81 (r:R81):List PA:=[.one (.bool r)]
section
variable {K:List PA->Prop}{n:Int}{low:Int}{high:Int}
def s81 (n:Int) (low:Int) (high:Int):Bool :=
  (cond (decide (n ≥ low))
 (decide (n≤high))
 false)
end
theorem q81 (n:Int) (low:Int) (high:Int) (K:List PA->Prop) (hk:K (e81 (s81 n low high))):vcFun Tryd.prog G81 zIH 81 [.one (.int .i64 n),.one (.int .i64 low),.one (.int .i64 high)] K :=
  zaM (by kernel_rfl) (zt hk (λ hk=>hk) (λ hk=>hk))
def zvY : List PA → COut
  | [.one (.int .i64 a0),.one (.int .i64 a1),.one (.int .i64 a2)]=>.tot [.one (.bool (s81 a0 a1 a2))]
  | _=>.no
theorem zII:zar Tryd.prog 81:=⟨_,rfl,rfl,by kernel_rfl⟩
theorem zLK:Ok Tryd.prog 81 zvY:=za9 zLJ zII λ args K h=>by
  unfold zvY at h
  split at h
  · rename_i a0 a1 a2
    have hk:=h
    exact⟨(λ _ _=>[]),(λ _=>false),zIH,q81 a0 a1 a2 K hk⟩
  · exact h.elim
abbrev T78:Tabs:=(Tabs.nil.addF 81 zvY)
theorem zLL:TabsOk Tryd.prog T78:=(TabsOk.nil.addF zLK)
abbrev G78:Ctrs:=csm T78 (λ _ _=>[]) (λ _=>false)
def zEt:Ann:=⟨55,[(0,zK [1,2] [2]),(1,zK [1,2,5] [2]),(2,zK [1,2,5,6] [2]),(3,zK [4] [])],
 [],
 [(2,zK [1,2,5] [2]),(3,zK [1,2,5,6] [2])],
 [],[]⟩
abbrev R78:=Bool
abbrev e78 (r:R78):List PA:=[.one (.bool r)]
@[irreducible] def z78:=ptF Tryd.prog G78 zEt Tryd.f78
section
variable {K:List PA->Prop}{t:Tie}{nodes:Int}{zmN:Bool}{zso:Bool}
def zkM (t:Tie) (nodes:Int) (zmN:Bool) (zso:Bool):Bool :=
  (cond (s81 t.From (0:Int) (w64 (nodes - (1:Int))))
 (cond (s81 t.To (0:Int) (w64 (nodes - (1:Int))))
 (cond (t.From != t.To)
 (cond zmN
 (cond zso
 (decide (t.Low≤t.High))
 false)
 false)
 false)
 false)
 false)
theorem zvZ (hk:K (e78 (zkM t nodes zmN zso))):z78 K [1,1,1] [] ⟨[(1,zI nodes),(2,zp 2 0),(5,zB zmN),(6,zB zso)],[(2,.box 40 (zm (enc_40 t)))],[]⟩:=zaM (by kernel_rfl) (zt hk (λ hk=>(zt hk (λ hk=>(zt hk (λ hk=>(zt hk (λ hk=>(zt hk (λ hk=>hk) (λ hk=>hk))) (λ hk=>hk))) (λ hk=>hk))) (λ hk=>hk))) (λ hk=>hk))
def zkN (t:Tie) (nodes:Int) (zmN:Bool):Bool :=
  (cond (t.High == (1000000000000:Int))
 (zkM t nodes zmN true)
 (zkM t nodes zmN (s81 t.High (-1000000000:Int) (1000000000:Int))))
theorem zv0 (hk:K (e78 (zkN t nodes zmN))):z78 K [1,1] [] ⟨[(1,zI nodes),(2,zp 2 0),(5,zB zmN)],[(2,.box 40 (zm (enc_40 t)))],[]⟩:=zaM (by kernel_rfl) (zt hk (λ hk=>(zvZ hk)) (λ hk=>(zvZ hk)))
def s78 (t:Tie) (nodes:Int):Bool :=
  (cond (t.Low == (-1000000000000:Int))
 (zkN t nodes true)
 (zkN t nodes (s81 t.Low (-1000000000:Int) (1000000000:Int))))
end
theorem q78 (t:Tie) (nodes:Int) (K:List PA->Prop) (hk:K (e78 (s78 t nodes))):vcFun Tryd.prog G78 zEt 78 [.agg (enc_40 t),.one (.int .i64 nodes)] K :=
  zaM (by kernel_rfl) (zt hk (λ hk=>(zv0 hk)) (λ hk=>(zv0 hk)))
def zEu : List PA → COut
  | [.agg [.int .i64 zfH,.int .i64 zox,.int .i64 zjd,.int .i64 zfI],.one (.int .i64 a1)]=>.tot [.one (.bool (s78 (⟨zfH,zox,zjd,zfI⟩:Tie) a1))]
  | _=>.no
theorem zIJ:zar Tryd.prog 78:=⟨_,rfl,rfl,by kernel_rfl⟩
theorem zNK:Ok Tryd.prog 78 zEu:=za9 zLL zIJ λ args K h=>by
  unfold zEu at h
  split at h
  · rename_i zfH zox zjd zfI a1
    have hk:=h
    exact⟨(λ _ _=>[]),(λ _=>false),zEt,q78 (⟨zfH,zox,zjd,zfI⟩:Tie) a1 K hk⟩
  · exact h.elim
abbrev T67:Tabs:=((Tabs.nil.addF 78 zEu).addF 81 zvY)
theorem zLM:TabsOk Tryd.prog T67:=((TabsOk.nil.addF zNK).addF zLK)
abbrev G67:Ctrs:=csm T67 (λ _ _=>[]) (λ _=>false)
def zBg:Ann:=⟨27,[(0,zK [1] [1]),(1,zK [1,6,7,8] [1]),(2,zK [1,6,7,8,9] [1]),(3,zK [1,4,6,7,8] [1,4]),(4,zK [1,6,7,8,16] [1]),(5,zK [2] []),(6,zK [1,6,7,8] [1]),(7,zK [2] [])],
 [(2,zK [1,6,7,8] [1])],
 [(5,zK [1,6,7,8,16] [1])],
 [],[]⟩
abbrev R67:=Bool
abbrev e67 (r:R67):List PA:=[.one (.bool r)]
@[irreducible] def z67:=ptF Tryd.prog G67 zBg Tryd.f67
def zCB (n:Net) (zds:Int):St:=⟨[(1,zp 1 0),(6,zS enc_40 4 n.Ties),(7,zI (n.Ties.len:Int)),(8,zI zds)],[(1,.box 24 (zm (enc_24 n)))],[]⟩
abbrev zEv (K:List PA->Prop) (n:Net) (X:St->Prop) (P:Int->Bool) (S:Int->Bool):Prop:=∀ ⦃zds:Int⦄,P zds=true->K (e67 (S zds))->X (zCB n zds)
section
variable {K:List PA->Prop}{n:Net}{zds:Int}{X0:St->Prop}{P0:Int->Bool}{S0:Int->Bool}{zEw:Int}{zpO:Bool}
def zpP (S0:Int->Bool) (n:Net) (zEw:Int) (zpO:Bool):Bool :=
  (cond zpO
 false
 (S0 (w64 (zEw+(1:Int)))))
def zpQ (P0:Int->Bool) (n:Net) (zEw:Int) (zpO:Bool):Bool :=
  (cond zpO
 true
 (P0 (w64 (zEw+(1:Int)))))
theorem zEx (hX0:zEv K n X0 P0 S0) (hs:zpQ P0 n zEw zpO=true) (hk:K (e67 (zpP S0 n zEw zpO))):z67 K [1,0,1,0,0,1,1,0,0,1,1] [X0] ⟨[(1,zp 1 0),(6,zS enc_40 4 n.Ties),(7,zI (n.Ties.len:Int)),(8,zI zEw),(16,zB zpO)],[(1,.box 24 (zm (enc_24 n)))],[]⟩:=zaM (by kernel_rfl) (zc hs hk (λ hs hk=>hk) (λ hs hk=>(hX0 hs hk)))
def zh2 (n:Net) (S0:Int->Bool) (zds:Int):Bool :=
  (cond (decide (zds < (n.Ties.len : Int)))
 (zpP S0 n zds (!(s78 (n.Ties.get zds.toNat) n.Nodes)))
 (cond (s81 n.Nodes (1:Int) (40:Int))
 (decide ((n.Ties.len:Int)≤(200:Int)))
 false))
def zh3 (n:Net) (P0:Int->Bool) (zds:Int):Bool :=
  (cond (decide (zds < (n.Ties.len : Int)))
 (decide ((0≤zds/\zds < (n.Ties.len:Int))) &&
 (zpQ P0 n zds (!(s78 (n.Ties.get zds.toNat) n.Nodes))))
 true)
def zh4 (n:Net):Nat->Int->Bool:=lpO (λ _=>default) (zh2 n)
def zh5 (n:Net):Nat->Int->Bool:=lpO (λ _=>false) (zh3 n)
def zv1 (n:Net) (zds:Int):Bool:=zh4 n Fuel zds
def zv2 (n:Net) (zds:Int):Bool:=zh5 n Fuel zds
theorem zEy (hs:zv2 n zds=true) (hk:K (e67 (zv1 n zds))):z67 K [1,0,1,0] [] (zCB n zds) :=
  zl (λ X=>z67 K [1,0,1,0,0] [X]) (by kernel_rfl) λ X0 hX =>
  (show ∀ k, zEv K n X0 (zh5 n k) (zh4 n k) from zd1 _ _ (zh3 n) (zh2 n) (zEv K n X0)
 (by intro _ hs;exact absurd hs Bool.false_ne_true)
 (by intro P0 S0 hX0 zds hs hk;exact hX _ (zaM (by kernel_rfl) (zc hs hk (λ hs hk=>(zaJ hs λ hc hs=>And.intro hc (zEx hX0 hs hk))) (λ hs hk=>(zt hk (λ hk=>hk) (λ hk=>hk))))))) _ hs hk
def s67 (n:Net):Bool :=
  (zv1 n (0:Int))
def p67 (n:Net):Bool :=
  (zv2 n (0:Int))
end
theorem q67 (n:Net) (K:List PA->Prop) (hs:p67 n=true) (hk:K (e67 (s67 n))):vcFun Tryd.prog G67 zBg 67 [.agg (enc_24 n)] K :=
  zaM (by kernel_rfl) (zEy hs hk)
def zv3 : List PA → COut
  | [.agg [.int .i64 zae,.sl zac zat zab]]=>.det (IsE enc_40 4 zat zab/\p67 (⟨zae,(⟨zac,zam zab⟩:(Sl Tie))⟩:Net)=true) [.one (.bool (s67 (⟨zae,(⟨zac,zam zab⟩:(Sl Tie))⟩:Net)))]
  | [.agg [.int .i64 zae,.nils]]=>.det (p67 (⟨zae,(⟨0,λ _=>default⟩:(Sl Tie))⟩:Net)=true) [.one (.bool (s67 (⟨zae,(⟨0,λ _=>default⟩:(Sl Tie))⟩:Net)))]
  | _=>.no
theorem zIK:zar Tryd.prog 67:=⟨_,rfl,rfl,by kernel_rfl⟩
theorem zLN:Ok Tryd.prog 67 zv3:=zfF zLM zIK λ args K h=>by
  unfold zv3 at h
  split at h
  · rename_i zae zac zat zab
    obtain⟨⟨⟨rfl,zan,rfl⟩,hs⟩,hk⟩:=h
    try rw[zak zan] at hs
    try rw[zak zan] at hk
    exact⟨_,zeE zfk _,(λ _ _=>[]),(λ _=>false),zBg,q67 (⟨zae,(⟨zac,zan⟩:(Sl Tie))⟩:Net) (Wk K) hs (zfl hk)⟩
  · rename_i zae
    obtain⟨hs,hk⟩:=h
    exact⟨_,(zeF (.agg (zeF (.rfl _) (zeF (.nil _ _) zkK))) zkK),(λ _ _=>[]),(λ _=>false),zBg,q67 (⟨zae,(⟨0,λ _=>default⟩:(Sl Tie))⟩:Net) (Wk K) hs (zfl hk)⟩
  · exact h.elim
abbrev T93:Tabs:=Tabs.nil
theorem zLO:TabsOk Tryd.prog T93:=TabsOk.nil
abbrev G93:Ctrs:=csm T93 (λ _ _=>[]) (λ _=>false)
def zEz:Ann:=⟨4,[(0,zK [1] [1]),(1,zK [2] [])],
 [],
 [],
 [],[]⟩
theorem zEA (w : web) (K : List PA → Prop) :
  vcFun Tryd.prog G93 zEz 93 [.one (.fp (zaA w) 0)] K =
  (K [.one (.fn 110 [] [.fp [.fp (zaA w) 0] 0])]):=by kernel_rfl
theorem q93 (w:web) (K:List PA->Prop) (hk:K [.one (.fn 110 [] [.fp [.fp (zaA w) 0] 0])]):vcFun Tryd.prog G93 zEz 93 [.one (.fp (zaA w) 0)] K:=zaM (zEA w K) hk
def zoy : List PA → COut
  | [.one (.fp [.int .i64 zao,.sl zai zay zaj,.fm za0 zaD zaE] 0)]=>.det (IsE enc_40 4 zay zaj/\za0=(false,1,false,[none])) [.one (.fn 110 [] [.fp [.fp (zaA (⟨(⟨(⟨zao,(⟨zai,zam zaj⟩:(Sl Tie))⟩:Net),(⟨zaD,zaE⟩:Mp)⟩:web).Net,((⟨(⟨zao,(⟨zai,zam zaj⟩:(Sl Tie))⟩:Net),(⟨zaD,zaE⟩:Mp)⟩:web).out)⟩:web)) 0] 0])]
  | _=>.no
theorem zIL:zar Tryd.prog 93:=⟨_,rfl,rfl,by kernel_rfl⟩
theorem zHQ:Ok Tryd.prog 93 zoy:=za9 zLO zIL λ args K h=>by
  unfold zoy at h
  split at h
  · rename_i zao zai zay zaj za0 zaD zaE
    obtain⟨⟨⟨rfl,zau,rfl⟩,rfl⟩,hk⟩:=h
    try rw[zak zau] at hk
    exact⟨λ _ _=>[],λ _=>false,zEz,q93 (⟨(⟨zao,(⟨zai,zau⟩:(Sl Tie))⟩:Net),(⟨zaD,zaE⟩:Mp)⟩:web) K hk⟩
  · exact h.elim
abbrev T94:Tabs:=Tabs.nil
theorem zLP:TabsOk Tryd.prog T94:=TabsOk.nil
abbrev G94:Ctrs:=csm T94 (λ _ _=>[]) (λ _=>false)
def zIM:Ann:=⟨21,[(0,zK [1,2] [1,2]),(1,zK [2,3] [2])],
 [],
 [],
 [],[]⟩
abbrev R94:=(step×Bool)
abbrev e94 (r:R94):List PA:=[.agg [.int .i64 r.1.Use.Tie,.bool r.1.Use.Back,.int .i64 r.1.from_,.int .i64 r.1.to,.int .i64 r.1.length],.one (.bool r.2)]
section
variable {K:List PA->Prop}{t:tie}
def s94 (t:tie):(step×Bool) :=
  ((⟨(⟨t.index,false⟩:Use),t.Tie.From,t.Tie.To,t.Tie.High⟩:step),(t.Tie.High != (1000000000000:Int)))
end
theorem q94 (t:tie) (K:List PA->Prop) (hk:K (e94 (s94 t))):vcFun Tryd.prog G94 zIM 94 [.agg (zvW t)] K :=
  zaM (by kernel_rfl) hk
def zEB : List PA → COut
  | [.agg [.int .i64 za2,.int .i64 zbt,.int .i64 zbi,.int .i64 za3,.int .i64 zbF]]=>.tot [.agg [.int .i64 (((s94 (⟨(⟨za2,zbt,zbi,za3⟩:Tie),zbF⟩:tie)).1).Use.Tie),.bool (((s94 (⟨(⟨za2,zbt,zbi,za3⟩:Tie),zbF⟩:tie)).1).Use.Back),.int .i64 (((s94 (⟨(⟨za2,zbt,zbi,za3⟩:Tie),zbF⟩:tie)).1).from_),.int .i64 (((s94 (⟨(⟨za2,zbt,zbi,za3⟩:Tie),zbF⟩:tie)).1).to),.int .i64 (((s94 (⟨(⟨za2,zbt,zbi,za3⟩:Tie),zbF⟩:tie)).1).length)],.one (.bool ((s94 (⟨(⟨za2,zbt,zbi,za3⟩:Tie),zbF⟩:tie)).2))]
  | _=>.no
theorem zIN:zar Tryd.prog 94:=⟨_,rfl,rfl,by kernel_rfl⟩
theorem zNL:Ok Tryd.prog 94 zEB:=za9 zLP zIN λ args K h=>by
  unfold zEB at h
  split at h
  · rename_i za2 zbt zbi za3 zbF
    have hk:=h
    exact⟨(λ _ _=>[]),(λ _=>false),zIM,q94 (⟨(⟨za2,zbt,zbi,za3⟩:Tie),zbF⟩:tie) K hk⟩
  · exact h.elim
abbrev T95:Tabs:=Tabs.nil
theorem zLQ:TabsOk Tryd.prog T95:=TabsOk.nil
abbrev G95:Ctrs:=csm T95 (λ _ _=>[]) (λ _=>false)
def zIO:Ann:=⟨22,[(0,zK [1,2] [1,2]),(1,zK [2,3] [2])],
 [],
 [],
 [],[]⟩
abbrev R95:=(step×Bool)
abbrev e95 (r:R95):List PA:=[.agg [.int .i64 r.1.Use.Tie,.bool r.1.Use.Back,.int .i64 r.1.from_,.int .i64 r.1.to,.int .i64 r.1.length],.one (.bool r.2)]
section
variable {K:List PA->Prop}{t:tie}
def s95 (t:tie):(step×Bool) :=
  ((⟨(⟨t.index,true⟩:Use),t.Tie.To,t.Tie.From,(w64 (0 - t.Tie.Low))⟩:step),(t.Tie.Low != (-1000000000000:Int)))
end
theorem q95 (t:tie) (K:List PA->Prop) (hk:K (e95 (s95 t))):vcFun Tryd.prog G95 zIO 95 [.agg (zvW t)] K :=
  zaM (by kernel_rfl) hk
def zEC : List PA → COut
  | [.agg [.int .i64 za2,.int .i64 zbt,.int .i64 zbi,.int .i64 za3,.int .i64 zbF]]=>.tot [.agg [.int .i64 (((s95 (⟨(⟨za2,zbt,zbi,za3⟩:Tie),zbF⟩:tie)).1).Use.Tie),.bool (((s95 (⟨(⟨za2,zbt,zbi,za3⟩:Tie),zbF⟩:tie)).1).Use.Back),.int .i64 (((s95 (⟨(⟨za2,zbt,zbi,za3⟩:Tie),zbF⟩:tie)).1).from_),.int .i64 (((s95 (⟨(⟨za2,zbt,zbi,za3⟩:Tie),zbF⟩:tie)).1).to),.int .i64 (((s95 (⟨(⟨za2,zbt,zbi,za3⟩:Tie),zbF⟩:tie)).1).length)],.one (.bool ((s95 (⟨(⟨za2,zbt,zbi,za3⟩:Tie),zbF⟩:tie)).2))]
  | _=>.no
theorem zIP:zar Tryd.prog 95:=⟨_,rfl,rfl,by kernel_rfl⟩
theorem zNM:Ok Tryd.prog 95 zEC:=za9 zLQ zIP λ args K h=>by
  unfold zEC at h
  split at h
  · rename_i za2 zbt zbi za3 zbF
    have hk:=h
    exact⟨(λ _ _=>[]),(λ _=>false),zIO,q95 (⟨(⟨za2,zbt,zbi,za3⟩:Tie),zbF⟩:tie) K hk⟩
  · exact h.elim
abbrev zNh:Tabs:=((Tabs.nil.addF 94 zEB).addF 95 zEC)
theorem zIQ:TabsOk Tryd.prog zNh:=((TabsOk.nil.addF zNL).addF zNM)
abbrev zIR:Ctrs:=csm zNh (λ _ _=>[]) (λ _=>false)
def zje:Ann:=⟨52,[(0,zK [0,1,14,15,16] []),(1,zK [0,1,14,15,16,17] []),(2,zK [0,1,3,4,14,15,16] [4]),(3,zK [0,1,3,4,14,15,16,26] [4]),(4,zK [0,1,5,14,15,16] [5]),(5,zK [0,1,14,15,16,34,35] []),(6,zK [0,1,14,15,16,34,35,36] []),(7,zK [0,1,7,14,15,16,34,35] []),(8,zK [0,1,8,9,14,15,16,34,35] [8]),(9,zK [0,1,14,15,16,34,35,49] []),(10,zK [0,1,14,15,16,34,35] []),(11,zK [0,1,14,15,16] [])],
 [(1,zK [0,1,14,15,16] [])],
 [],
 [(6,3,zK [0,1,14,15,16,34,35] [])],[9]⟩
def zdQ (l:Nat) (a:web) (zaI:Int):St:=⟨[(0,.one (.c (.p (.yl l)))),(1,.one (.c (.p (.fp [.fp (zaA a) 0] 0)))),(14,.one (.c (.p (.sl a.Net.Ties.len 4 (λ i=>enc_40 (a.Net.Ties.get i)))))),(15,.one (.c (.p (.int .i64 (a.Net.Ties.len:Int))))),(16,.one (.c (.p (.int .i64 zaI))))],[],[]⟩
def zhA (l:Nat) (ys:List (List PA)) (a:web) (zaI:Int):Prop:=vcY Tryd.prog zIR zje l (cdF Tryd.f110 [1,0]) (znL 0 zAr) ys false (zdQ l a zaI)
theorem zBh (l : Nat) (a : web) (ys : List (List PA)) :
  vcIter Tryd.prog zIR zje 110 l [.one (.fp [.fp (zaA a) 0] 0)] ys =
  (zhA l ys a (0:Int)):=by kernel_rfl
def zlU (l:Nat) (X0:List (List PA)->Bool->St->Prop) (ys:List (List PA)) (a:web) (zaI:Int):Prop :=
  (zdj (decide (zaI < (a.Net.Ties.len : Int)))
 (((0≤zaI/\zaI < (a.Net.Ties.len:Int))) /\
 (zdj ((ztz (a.out.F [zaI]) 0) != 0)
 (X0 ys false (zdQ l a (w64 (zaI+(1:Int)))))
 (zdj ((s94 (⟨(a.Net.Ties.get zaI.toNat), zaI⟩ : tie)).2)
 (l=l/\∃ r1,ys=[.agg [.int .i64 (((s94 (⟨(a.Net.Ties.get zaI.toNat),zaI⟩:tie)).1).Use.Tie),.bool (((s94 (⟨(a.Net.Ties.get zaI.toNat),zaI⟩:tie)).1).Use.Back),.int .i64 (((s94 (⟨(a.Net.Ties.get zaI.toNat),zaI⟩:tie)).1).from_),.int .i64 (((s94 (⟨(a.Net.Ties.get zaI.toNat),zaI⟩:tie)).1).to),.int .i64 (((s94 (⟨(a.Net.Ties.get zaI.toNat),zaI⟩:tie)).1).length)]] :: r1 /\
 (zdj ((s95 (⟨(a.Net.Ties.get zaI.toNat), zaI⟩ : tie)).2)
 (l=l/\∃ r2,r1=[.agg [.int .i64 (((s95 (⟨(a.Net.Ties.get zaI.toNat),zaI⟩:tie)).1).Use.Tie),.bool (((s95 (⟨(a.Net.Ties.get zaI.toNat),zaI⟩:tie)).1).Use.Back),.int .i64 (((s95 (⟨(a.Net.Ties.get zaI.toNat),zaI⟩:tie)).1).from_),.int .i64 (((s95 (⟨(a.Net.Ties.get zaI.toNat),zaI⟩:tie)).1).to),.int .i64 (((s95 (⟨(a.Net.Ties.get zaI.toNat),zaI⟩:tie)).1).length)]] :: r2 /\
 (X0 r2 false (zdQ l a (w64 (zaI+(1:Int)))))/\True)
 (X0 r1 false (zdQ l a (w64 (zaI+(1:Int))))))/\True)
 (zdj ((s95 (⟨(a.Net.Ties.get zaI.toNat), zaI⟩ : tie)).2)
 (l=l/\∃ r3,ys=[.agg [.int .i64 (((s95 (⟨(a.Net.Ties.get zaI.toNat),zaI⟩:tie)).1).Use.Tie),.bool (((s95 (⟨(a.Net.Ties.get zaI.toNat),zaI⟩:tie)).1).Use.Back),.int .i64 (((s95 (⟨(a.Net.Ties.get zaI.toNat),zaI⟩:tie)).1).from_),.int .i64 (((s95 (⟨(a.Net.Ties.get zaI.toNat),zaI⟩:tie)).1).to),.int .i64 (((s95 (⟨(a.Net.Ties.get zaI.toNat),zaI⟩:tie)).1).length)]] :: r3 /\
 (X0 r3 false (zdQ l a (w64 (zaI+(1:Int)))))/\True)
 (X0 ys false (zdQ l a (w64 (zaI+(1:Int)))))))))
 (ys=[]))
theorem zoz (l : Nat) (X0 : List (List PA) → Bool → St → Prop) (ys : List (List PA)) (a : web) (zaI : Int) :
  vcY Tryd.prog zIR zje l (cd (cdF Tryd.f110 [1,0]) [0]) (zAp Tryd.prog zje 1 X0 (znL 0 zAr)) ys false (zdQ l a zaI) =
  zlU l X0 ys a zaI:=by kernel_rfl
theorem zt5 (l : Nat) (ys : List (List PA)) (a : web) (zaI : Int)
  (h:∀ X0:List (List PA)->Bool->St->Prop,(∀ (ys:List (List PA)) (zaI:Int),zlU l X0 ys a zaI->X0 ys false (zdQ l a zaI))->X0 ys false (zdQ l a zaI)) :
  zhA l ys a zaI:=by
  have e:zhA l ys a zaI=(∀ X:List (List PA)->Bool->St->Prop,(∀ ys q s,vcY Tryd.prog zIR zje l (cd (cdF Tryd.f110 [1,0]) [0]) (zAp Tryd.prog zje 1 X (znL 0 zAr)) ys q s->X ys q s)->X ys false (zdQ l a zaI)):=by kernel_rfl
  refine zaM e ?_
  intro X hX
  refine h X ?_
  intro ys zaI hs
  refine hX _ _ _ ?_
  have e2:=zoz l X ys a zaI
  rw[e2]
  exact hs
attribute [irreducible] zhA
def zeX (a:web) (S0:Int->List step) (zaI:Int):List step :=
  (cond (decide (zaI < (a.Net.Ties.len : Int)))
 (cond ((ztz (a.out.F [zaI]) 0) != 0)
 (S0 (w64 (zaI+(1:Int))))
 (cond ((s94 (⟨(a.Net.Ties.get zaI.toNat), zaI⟩ : tie)).2)
 (((s94 (⟨(a.Net.Ties.get zaI.toNat), zaI⟩ : tie)).1) :: (cond ((s95 (⟨(a.Net.Ties.get zaI.toNat), zaI⟩ : tie)).2)
 (((s95 (⟨(a.Net.Ties.get zaI.toNat),zaI⟩:tie)).1) :: (S0 (w64 (zaI+(1:Int)))))
 (S0 (w64 (zaI+(1:Int))))))
 (cond ((s95 (⟨(a.Net.Ties.get zaI.toNat), zaI⟩ : tie)).2)
 (((s95 (⟨(a.Net.Ties.get zaI.toNat),zaI⟩:tie)).1) :: (S0 (w64 (zaI+(1:Int)))))
 (S0 (w64 (zaI+(1:Int)))))))
 [])
def zeY (a:web) (P0:Int->Bool) (zaI:Int):Bool :=
  (cond (decide (zaI < (a.Net.Ties.len : Int)))
 (decide ((0≤zaI/\zaI < (a.Net.Ties.len:Int))) &&
 (cond ((ztz (a.out.F [zaI]) 0) != 0)
 (P0 (w64 (zaI+(1:Int))))
 (cond ((s94 (⟨(a.Net.Ties.get zaI.toNat), zaI⟩ : tie)).2)
 (cond ((s95 (⟨(a.Net.Ties.get zaI.toNat), zaI⟩ : tie)).2)
 (P0 (w64 (zaI+(1:Int))))
 (P0 (w64 (zaI+(1:Int)))))
 (cond ((s95 (⟨(a.Net.Ties.get zaI.toNat), zaI⟩ : tie)).2)
 (P0 (w64 (zaI+(1:Int))))
 (P0 (w64 (zaI+(1:Int))))))))
 true)
def zeg (a : web) : Nat → Int → List step
  | 0=>λ _=>[]
  | k+1=>zeX a (zeg a k)
def zeh (a : web) : Nat → Int → Bool
  | 0=>λ _=>false
  | k+1=>zeY a (zeh a k)
def zsp (a:web) (zaI:Int):List step:=zeg a Fuel zaI
def zsq (a:web) (zaI:Int):Bool:=zeh a Fuel zaI
theorem zBi (l:Nat) (a:web) (ys:List (List PA)) (zaI:Int) (hs:zsq a zaI=true) (hk:ys=(zsp a zaI).map (λ y=>[.agg (zaB y)])):zhA l ys a zaI:=by
  refine zt5 l ys a zaI ?_
  intro X0 hstep
  have key:∀ (k:Nat) (ys:List (List PA)) (zaI:Int),zeh a k zaI=true->ys=(zeg a k zaI).map (λ y=>[.agg (zaB y)])->X0 ys false (zdQ l a zaI):=by
    intro k
    induction k with
    | zero=>intro ys zaI hs;exact absurd hs Bool.false_ne_true
    | succ k ih =>
      intro ys zaI hs hk
      refine hstep ys zaI ?_
      have hs:zeY a (zeh a k) zaI=true:=hs
      have hk:ys=(zeX a (zeg a k) zaI).map (λ y=>[.agg (zaB y)]):=hk
      unfold zeY at hs
      unfold zeX at hk
      generalize zeg a k=S0 at hk ih
      generalize zeh a k=P0 at hs ih
      have hX0:=ih
      exact (zhy hs hk
 (λ hs hk => (zaJ hs λ hc hs => ⟨hc, (zhy hs hk
 (λ hs hk=>(hX0 _ (w64 (zaI+(1:Int))) hs hk))
 (λ hs hk => (zhy hs hk
 (λ hs hk => (itY hk rfl (λ _ hk => (zhy hs hk
 (λ hs hk=>(itY hk rfl (λ _ hk=>(hX0 _ (w64 (zaI+(1:Int))) hs hk))))
 (λ hs hk=>(hX0 _ (w64 (zaI+(1:Int))) hs hk))))))
 (λ hs hk => (zhy hs hk
 (λ hs hk=>(itY hk rfl (λ _ hk=>(hX0 _ (w64 (zaI+(1:Int))) hs hk))))
 (λ hs hk=>(hX0 _ (w64 (zaI+(1:Int))) hs hk)))))))⟩))
 (fun hs hk=>hk))
  exact key _ _ zaI hs hk
def zkO (a:web):List step :=
  (zsp a (0:Int))
def zui (a:web):Bool :=
  (zsq a (0:Int))
theorem zNN (l:Nat) (a:web) (ys:List (List PA)) (hs:zui a=true) (hk:ys=(zkO a).map (λ y=>[.agg (zaB y)])):vcIter Tryd.prog zIR zje 110 l [.one (.fp [.fp (zaA a) 0] 0)] ys:=by
  refine zaM (zBh l a ys) ?_
  unfold zui at hs
  unfold zkO at hk
  exact (zBi l a _ (0:Int) hs hk)
def zoA : List PA → Option (Prop × List (List PA))
  | [.one (.fp [.fp [.int .i64 a_Net_Nodes,.sl a_Net_Ties_n a_Net_Ties_s a_Net_Ties_g,.fm a_out_q a_out_n a_out_F] 0] 0)]=>some (IsE enc_40 4 a_Net_Ties_s a_Net_Ties_g/\a_out_q=(false,1,false,[none])/\zui (⟨(⟨a_Net_Nodes,(⟨a_Net_Ties_n,zam a_Net_Ties_g⟩:(Sl Tie))⟩:Net),(⟨a_out_n,a_out_F⟩:Mp)⟩:web)=true,(zkO (⟨(⟨a_Net_Nodes,(⟨a_Net_Ties_n,zam a_Net_Ties_g⟩:(Sl Tie))⟩:Net),(⟨a_out_n,a_out_F⟩:Mp)⟩:web)).map λ y=>[.agg (zaB y)])
  | _=>none
theorem zED:zar Tryd.prog 110:=⟨_,rfl,rfl,by kernel_rfl⟩
theorem zt6:zCk Tryd.prog 110 zoA:=zIw zIQ zED λ l caps safe ys h hs=>by
  unfold zoA at h
  split at h
  · rename_i a_Net_Nodes a_Net_Ties_n a_Net_Ties_s a_Net_Ties_g a_out_q a_out_n a_out_F
    cases h
    obtain⟨⟨rfl,a_Net_Ties_f,rfl⟩,rfl,hs⟩:=hs
    try rw[zak a_Net_Ties_f] at hs
    try rw[zak a_Net_Ties_f]
    exact⟨λ _ _=>[],λ _=>false,zje,zNN l (⟨(⟨a_Net_Nodes,(⟨a_Net_Ties_n,a_Net_Ties_f⟩:(Sl Tie))⟩:Net),(⟨a_out_n,a_out_F⟩:Mp)⟩:web) _ hs rfl⟩
  · cases h
abbrev T88:Tabs:=((Tabs.nil.addF 93 zoy).addI 110 zoA)
theorem zLR:TabsOk Tryd.prog T88:=((TabsOk.nil.addF zHQ).addI zt6)
abbrev G88:Ctrs:=csm T88 (λ _ _=>[]) (λ _=>false)
def zv4:Ann:=⟨37,[(0,zK [0] []),(1,zK [0,3] [3]),(2,zK [0,3,11,12] [3]),(3,zK [0,3,11,12,13] [3]),(4,zK [0,3,4,11,12] [3,4]),(5,zK [0,3,4,11,12,15] [3,4]),(6,zK [0,3,4,5,11,12,15] [3,4,5]),(7,zK [0,3,4,5,6,11,12,15] [3,4,5]),(8,zK [0,3,4,5,6,11,12,15,29] [3,4,5]),(9,zK [0,3,4,11,12,15] [3,4]),(10,zK [0,3,4,11,12,15] [3,4]),(11,zK [0,3,11,12,35] [3]),(12,zK [2] []),(13,zK [0,3,11,12] [3]),(14,zK [2] [])],
 [(3,zK [0,3,11,12] [3]),(6,zK [0,3,4,11,12,15] [3,4])],
 [],
 [],[]⟩
abbrev R88:=Bool
abbrev e88 (r:R88):List PA:=[.one (.bool r)]
@[irreducible] def z88:=ptF Tryd.prog G88 zv4 Tryd.f88
@[irreducible] def x88:=exF Tryd.prog G88 zv4 Tryd.f88
@[irreducible] def y88:=rnF Tryd.prog G88 zv4 Tryd.f88
def zCC (w:web) (zbP:Int) (dt0:Tab):St:=⟨[(0,zP (.fp (zaA w) 0)),(3,zp 3 0),(11,zI w.Net.Nodes),(12,zI zbP)],[(3,.box 157 (zm (zvX dt0)))],[]⟩
abbrev zEE (K:List PA->Prop) (w:web) (X:St->Prop) (P:Int->Tab->Bool) (S:Int->Tab->Bool):Prop:=∀ ⦃zbP:Int⦄ ⦃dt0:Tab⦄,P zbP dt0=true->K (e88 (S zbP dt0))->X (zCC w zbP dt0)
def zv5 (w:web) (zbQ:Int) (zaC:Bool) (dt1:Tab):St:=⟨[(0,zP (.fp (zaA w) 0)),(3,zp 3 0),(4,zp 4 0),(11,zI w.Net.Nodes),(12,zI zbQ),(15,zP (.fn 110 [] [.fp [.fp (zaA w) 0] 0]))],[(3,.box 157 (zm (zvX dt1))),(4,.box 4 [.p (.bool zaC)])],[]⟩
abbrev zIS (K:List PA->Prop) (w:web) (X:St->Prop) (P:Int->Bool->Tab->Bool) (S:Int->Bool->Tab->Bool):Prop:=∀ ⦃zbQ:Int⦄ ⦃zaC:Bool⦄ ⦃dt1:Tab⦄,P zbQ zaC dt1=true->K (e88 (S zbQ zaC dt1))->X (zv5 w zbQ zaC dt1)
section
variable {K:List PA->Prop}{w:web}{zbP:Int}{dt0:Tab}{X0:St->Prop}{P0:Int->Tab->Bool}{S0:Int->Tab->Bool}{zbQ:Int}{zaC:Bool}{dt1:Tab}
def zmO (S0:Int->Tab->Bool) (w:web) (zbQ:Int) (zaC:Bool) (dt1:Tab):Bool :=
  (cond (!zaC)
 false
 (S0 (w64 (zbQ+(1:Int))) dt1))
def zmP (P0:Int->Tab->Bool) (w:web) (zbQ:Int) (zaC:Bool) (dt1:Tab):Bool :=
  (cond (!zaC)
 true
 (P0 (w64 (zbQ+(1:Int))) dt1))
def zmQ (S0:Int->Tab->Bool) (w:web) (y1:step) (S1:Int->Bool->Tab->Bool) (zbQ:Int) (zaC:Bool) (dt1:Tab):Bool :=
  (cond (decide ((w64 ((tg 40 dt1 (0 + y1.from_.toNat * 1 + 0)) + y1.length)) < (tg 40 dt1 (0 + y1.to.toNat * 1 + 0))))
 (S1 zbQ true (ts 40 dt1 (0+y1.to.toNat * 1+0) [(w64 ((tg 40 dt1 (0+y1.from_.toNat * 1+0))+y1.length))]))
 (S1 zbQ zaC dt1))
def zmR (P0:Int->Tab->Bool) (w:web) (y1:step) (P1:Int->Bool->Tab->Bool) (zbQ:Int) (zaC:Bool) (dt1:Tab):Bool :=
  (decide ((0≤y1.from_/\y1.from_ < (40:Int))) &&
 (decide ((0≤y1.to/\y1.to < (40:Int))) &&
 (cond (decide ((w64 ((tg 40 dt1 (0 + y1.from_.toNat * 1 + 0)) + y1.length)) < (tg 40 dt1 (0 + y1.to.toNat * 1 + 0))))
 (decide ((0≤y1.to/\y1.to < (40:Int))) &&
 (P1 zbQ true (ts 40 dt1 (0+y1.to.toNat * 1+0) [(w64 ((tg 40 dt1 (0+y1.from_.toNat * 1+0))+y1.length))])))
 (P1 zbQ zaC dt1))))
def zfJ (S0:Int->Tab->Bool) (w:web):List step->Int->Bool->Tab->Bool:=lpR (zmO S0 w) (zmQ S0 w)
def zfK (P0:Int->Tab->Bool) (w:web):List step->Int->Bool->Tab->Bool:=lpR (zmP P0 w) (zmR P0 w)
def zpR (S0:Int->Tab->Bool) (w:web) (zbQ:Int) (zaC:Bool) (dt1:Tab):Bool:=zfJ S0 w (zkO w) zbQ zaC dt1
def zpS (P0:Int->Tab->Bool) (w:web) (zbQ:Int) (zaC:Bool) (dt1:Tab):Bool:=decide ((zui w=true)) && zfK P0 w (zkO w) zbQ zaC dt1
theorem zEF (hX0:zEE K w X0 P0 S0) (hs:zpS P0 w zbQ zaC dt1=true) (hk:K (e88 (zpR S0 w zbQ zaC dt1))):z88 K [1,1,0,1,0,0,1,1,0,0,1,0,1,0] [X0] (zv5 w zbQ zaC dt1) :=
  zaJ hs λ hc hs=>zr (enc:=(λ y:step=>[.agg (zaB y)])) (ys:=zkO w) (g:=(zv5 w zbQ zaC dt1)) (x88 K [1,1,0,1,0,0,1,1,0,0,1,0,1,0] [X0]) (y88 K [1,1,0,1,0,0,1,1,0,0,1,0,1,0] [X0]) (by kernel_rfl) (And.intro (zE enc_40 4 w.Net.Ties.get) (And.intro (rfl:((false,1,false,[none]):MQ)=(false,1,false,[none])) hc)) λ X1 hE hR =>
  (show ∀ l : List step, zIS K w (X1 (l.map (λ y : step => [.agg (zaB y)]))) (zfK P0 w l) (zfJ S0 w l) from zri (X := X1) (enc := (λ y : step => [.agg (zaB y)])) _ _ (zmR P0 w) (zmQ S0 w) (λ Z P S => zIS K w Z P S)
 (by intro zbQ zaC dt1 hs hk;exact hE _ (zaM (by kernel_rfl) (zc hs hk (λ hs hk=>hk) (λ hs hk=>(hX0 hs hk)))))
 (by intro y1 rest P1 S1 hX1 zbQ zaC dt1 hs hk;exact hR _ rest _ (zaM (by kernel_rfl) (zaJ hs λ hc hs=>And.intro hc (zaJ hs λ hc hs=>And.intro hc (zc hs hk (λ hs hk=>(zaJ hs λ hc hs=>And.intro hc (hX1 hs hk))) (λ hs hk=>(hX1 hs hk)))))))) _ hs hk
def zh6 (w:web) (S0:Int->Tab->Bool) (zbP:Int) (dt0:Tab):Bool :=
  (cond (decide (zbP < w.Net.Nodes))
 (zpR S0 w zbP false dt0)
 true)
def zh7 (w:web) (P0:Int->Tab->Bool) (zbP:Int) (dt0:Tab):Bool :=
  (cond (decide (zbP < w.Net.Nodes))
 (zpS P0 w zbP false dt0)
 true)
def zh8 (w:web):Nat->Int->Tab->Bool:=lpO (λ _ _=>default) (zh6 w)
def zh9 (w:web):Nat->Int->Tab->Bool:=lpO (λ _ _=>false) (zh7 w)
def zv6 (w:web) (zbP:Int) (dt0:Tab):Bool:=zh8 w Fuel zbP dt0
def zv7 (w:web) (zbP:Int) (dt0:Tab):Bool:=zh9 w Fuel zbP dt0
theorem zEG (hs:zv7 w zbP dt0=true) (hk:K (e88 (zv6 w zbP dt0))):z88 K [1,1,0,1,0] [] (zCC w zbP dt0) :=
  zl (λ X=>z88 K [1,1,0,1,0,0] [X]) (by kernel_rfl) λ X0 hX =>
  (show ∀ k, zEE K w X0 (zh9 w k) (zh8 w k) from zd1 _ _ (zh7 w) (zh6 w) (zEE K w X0)
 (by intro _ _ hs;exact absurd hs Bool.false_ne_true)
 (by intro P0 S0 hX0 zbP dt0 hs hk;exact hX _ (zaM (by kernel_rfl) (zc hs hk (λ hs hk=>(And.intro (And.intro (zE enc_40 4 w.Net.Ties.get) (rfl:((false,1,false,[none]):MQ)=(false,1,false,[none]))) (zEF hX0 hs hk))) (λ hs hk=>hk))))) _ hs hk
def s88 (w:web):Bool :=
  (zv6 w (0:Int) (λ _=>(0:Int)))
def p88 (w:web):Bool :=
  (zv7 w (0:Int) (λ _=>(0:Int)))
end
theorem q88 (w:web) (K:List PA->Prop) (hs:p88 w=true) (hk:K (e88 (s88 w))):vcFun Tryd.prog G88 zv4 88 [.one (.fp (zaA w) 0)] K :=
  zaM (by kernel_rfl) (zEG hs hk)
def zv8 : List PA → COut
  | [.one (.fp [.int .i64 zao,.sl zai zay zaj,.fm za0 zaD zaE] 0)]=>.det (IsE enc_40 4 zay zaj/\za0=(false,1,false,[none])/\p88 (⟨(⟨zao,(⟨zai,zam zaj⟩:(Sl Tie))⟩:Net),(⟨zaD,zaE⟩:Mp)⟩:web)=true) [.one (.bool (s88 (⟨(⟨zao,(⟨zai,zam zaj⟩:(Sl Tie))⟩:Net),(⟨zaD,zaE⟩:Mp)⟩:web)))]
  | _=>.no
theorem zIT:zar Tryd.prog 88:=⟨_,rfl,rfl,by kernel_rfl⟩
theorem zLS:Ok Tryd.prog 88 zv8:=za9 zLR zIT λ args K h=>by
  unfold zv8 at h
  split at h
  · rename_i zao zai zay zaj za0 zaD zaE
    obtain⟨⟨⟨rfl,zau,rfl⟩,rfl,hs⟩,hk⟩:=h
    try rw[zak zau] at hs
    try rw[zak zau] at hk
    exact⟨(λ _ _=>[]),(λ _=>false),zv4,q88 (⟨(⟨zao,(⟨zai,zau⟩:(Sl Tie))⟩:Net),(⟨zaD,zaE⟩:Mp)⟩:web) K hs hk⟩
  · exact h.elim
abbrev T74:Tabs:=(((Tabs.nil.addF 67 zv3).addF 81 zvY).addF 88 zv8)
theorem zLT:TabsOk Tryd.prog T74:=(((TabsOk.nil.addF zLN).addF zLK).addF zLS)
abbrev G74:Ctrs:=csm T74 (λ _ _=>[]) (λ _=>false)
def zBj:Ann:=⟨31,[(0,zK [1,2] [2]),(1,zK [1,2,6] [2,11]),(2,zK [1,2,6,14] [2,11]),(3,zK [4,5] []),(4,zK [2,6,15,16,17] [2,11]),(5,zK [2,6,15,16,17,18] [2,11]),(6,zK [2,6,8,15,16,17] [2,11]),(7,zK [2,6,15,16,17,26] [2,11]),(8,zK [4,5] []),(9,zK [2,6,15,16,17] [2,11]),(10,zK [6,29] [11]),(11,zK [4,5] []),(12,zK [4,5] [11])],
 [(5,zK [2,6,15,16,17] [2,11])],
 [(3,zK [1,2,6,14] [2,11]),(4,zK [1,2,6] [2,11]),(8,zK [2,6,15,16,17,26] [2,11]),(11,zK [6,29] [11])],
 [],[]⟩
abbrev R74:=(web×Int)
abbrev e74 (r:R74):List PA:=cond (r.2 == 0) [.one (.fp (zaA r.1) 0),.one (.int .i64 (0:Int))] [.one (.nilp),.one (.int .i64 r.2)]
@[irreducible] def z74:=ptF Tryd.prog G74 zBj Tryd.f74
def zCD (n:Net) (nodes:(Sl Int)) (zdA:Int):St:=⟨[(2,zp 2 0),(6,zp 11 0),(15,zS zad 1 nodes),(16,zI (nodes.len:Int)),(17,zI zdA)],[(2,.box 24 (zm (enc_24 n))),(11,.box 105 (zm (zaA (⟨n,(⟨0,(λ _=>none)⟩:Mp)⟩:web))))],[]⟩
abbrev zEH (K:List PA->Prop) (n:Net) (nodes:(Sl Int)) (X:St->Prop) (P:Int->Bool) (S:Int->(web×Int)):Prop:=∀ ⦃zdA:Int⦄,P zdA=true->K (e74 (S zdA))->X (zCD n nodes zdA)
section
variable {K:List PA->Prop}{n:Net}{nodes:(Sl Int)}{zpT:Bool}{zdA:Int}{X2:St->Prop}{P2:Int->Bool}{S2:Int->(web×Int)}{zpU:Int}{zpV:Bool}{zBk:Bool}
def zpW (n:Net) (zBk:Bool):(web×Int) :=
  (cond zBk
 ((default:web),(5:Int))
 ((⟨n,(⟨0,(λ _=>none)⟩:Mp)⟩:web),(0:Int)))
theorem zEI (hk:K (e74 (zpW n zBk))):z74 K [1,1,1,1,0,1] [] ⟨[(6,zp 11 0),(29,zB zBk)],[(11,.box 105 (zm (zaA (⟨n,(⟨0,(λ _=>none)⟩:Mp)⟩:web))))],[]⟩:=zaM (by kernel_rfl) (zt hk (λ hk=>hk) (λ hk=>hk))
def zpX (S2:Int->(web×Int)) (n:Net) (nodes:(Sl Int)) (zpU:Int) (zpV:Bool):(web×Int) :=
  (cond zpV
 ((default:web),(2:Int))
 (S2 (w64 (zpU+(1:Int)))))
def zpY (P2:Int->Bool) (n:Net) (nodes:(Sl Int)) (zpU:Int) (zpV:Bool):Bool :=
  (cond zpV
 true
 (P2 (w64 (zpU+(1:Int)))))
theorem zEJ (hX2:zEH K n nodes X2 P2 S2) (hs:zpY P2 n nodes zpU zpV=true) (hk:K (e74 (zpX S2 n nodes zpU zpV))):z74 K [1,1,1,0,1,0,0,1,1,0,0,1,1] [X2] ⟨[(2,zp 2 0),(6,zp 11 0),(15,zS zad 1 nodes),(16,zI (nodes.len:Int)),(17,zI zpU),(26,zB zpV)],[(2,.box 24 (zm (enc_24 n))),(11,.box 105 (zm (zaA (⟨n,(⟨0,(λ _=>none)⟩:Mp)⟩:web))))],[]⟩:=zaM (by kernel_rfl) (zc hs hk (λ hs hk=>hk) (λ hs hk=>(hX2 hs hk)))
def zia (n:Net) (nodes:(Sl Int)) (S2:Int->(web×Int)) (zdA:Int):(web×Int) :=
  (cond (decide (zdA < (nodes.len : Int)))
 (zpX S2 n nodes zdA (!(s81 (nodes.get zdA.toNat) (0:Int) (w64 (n.Nodes - (1:Int))))))
 (zpW n (s88 (⟨n,(⟨0,(λ _=>none)⟩:Mp)⟩:web))))
def zib (n:Net) (nodes:(Sl Int)) (P2:Int->Bool) (zdA:Int):Bool :=
  (cond (decide (zdA < (nodes.len : Int)))
 (decide ((0≤zdA/\zdA < (nodes.len:Int))) &&
 (zpY P2 n nodes zdA (!(s81 (nodes.get zdA.toNat) (0:Int) (w64 (n.Nodes - (1:Int)))))))
 (decide ((p88 (⟨n,(⟨0,(λ _=>none)⟩:Mp)⟩:web)=true)) &&
 true))
def zic (n:Net) (nodes:(Sl Int)):Nat->Int->(web×Int):=lpO (λ _=>default) (zia n nodes)
def zid (n:Net) (nodes:(Sl Int)):Nat->Int->Bool:=lpO (λ _=>false) (zib n nodes)
def zpZ (n:Net) (nodes:(Sl Int)) (zdA:Int):(web×Int):=zic n nodes Fuel zdA
def zp0 (n:Net) (nodes:(Sl Int)) (zdA:Int):Bool:=zid n nodes Fuel zdA
theorem zEK (hs:zp0 n nodes zdA=true) (hk:K (e74 (zpZ n nodes zdA))):z74 K [1,1,1,0,1,0] [] (zCD n nodes zdA) :=
  zl (λ X=>z74 K [1,1,1,0,1,0,0] [X]) (by kernel_rfl) λ X2 hX =>
  (show ∀ k, zEH K n nodes X2 (zid n nodes k) (zic n nodes k) from zd1 _ _ (zib n nodes) (zia n nodes) (zEH K n nodes X2)
 (by intro _ hs;exact absurd hs Bool.false_ne_true)
 (by intro P2 S2 hX2 zdA hs hk;exact hX _ (zaM (by kernel_rfl) (zc hs hk (λ hs hk=>(zaJ hs λ hc hs=>And.intro hc (zEJ hX2 hs hk))) (λ hs hk=>(zaJ hs λ hc hs=>And.intro (And.intro (zE enc_40 4 n.Ties.get) (And.intro (rfl:((false,1,false,[none]):MQ)=(false,1,false,[none])) hc)) (zEI hk))))))) _ hs hk
def zp1 (n:Net) (nodes:(Sl Int)):(web×Int) :=
  (zpZ n nodes (0:Int))
def zp2 (n:Net) (nodes:(Sl Int)):Bool :=
  (zp0 n nodes (0:Int))
theorem zEL (hs:zp2 n nodes=true) (hk:K (e74 (zp1 n nodes))):z74 K [1,1,1] [] ⟨[(1,zS zad 1 nodes),(2,zp 2 0),(6,zp 11 0)],[(2,.box 24 (zm (enc_24 n))),(11,.box 105 (zm (zaA (⟨n,(⟨0,(λ _=>none)⟩:Mp)⟩:web))))],[]⟩:=zaM (by kernel_rfl) (zEK hs hk)
def zp3 (n:Net) (nodes:(Sl Int)) (zpT:Bool):(web×Int) :=
  (cond zpT
 ((default:web),(2:Int))
 (zp1 n nodes))
def zp4 (n:Net) (nodes:(Sl Int)) (zpT:Bool):Bool :=
  (cond zpT
 true
 (zp2 n nodes))
theorem zEM (hs:zp4 n nodes zpT=true) (hk:K (e74 (zp3 n nodes zpT))):z74 K [1,1,0,1] [] ⟨[(1,zS zad 1 nodes),(2,zp 2 0),(6,zp 11 0),(14,zB zpT)],[(2,.box 24 (zm (enc_24 n))),(11,.box 105 (zm (zaA (⟨n,(⟨0,(λ _=>none)⟩:Mp)⟩:web))))],[]⟩:=zaM (by kernel_rfl) (zc hs hk (λ hs hk=>hk) (λ hs hk=>(zEL hs hk)))
def s74 (n:Net) (nodes:(Sl Int)):(web×Int) :=
  (zp3 n nodes (!(s67 n)))
def p74 (n:Net) (nodes:(Sl Int)):Bool :=
  (decide ((p67 n=true)) &&
 (zp4 n nodes (!(s67 n))))
end
theorem q74 (n:Net) (nodes:(Sl Int)) (K:List PA->Prop) (hs:p74 n nodes=true) (hk:K (e74 (s74 n nodes))):vcFun Tryd.prog G74 zBj 74 [.agg (enc_24 n),.one (.sl nodes.len 1 (λ i=>zad (nodes.get i)))] K :=
  zaM (by kernel_rfl) (zaJ hs λ hc hs=>And.intro (And.intro (zE enc_40 4 n.Ties.get) hc) (zEM hs hk))
def zp5 : List PA → COut
  | [.agg [.int .i64 zae,.sl zac zat zab],.one (.sl zdJ zie zdB)]=>.alt ((s74 (⟨zae,(⟨zac,zam zab⟩:(Sl Tie))⟩:Net) (⟨zdJ,zav zdB⟩:(Sl Int))).2 == 0) (IsE enc_40 4 zat zab/\IsE zad 1 zie zdB/\p74 (⟨zae,(⟨zac,zam zab⟩:(Sl Tie))⟩:Net) (⟨zdJ,zav zdB⟩:(Sl Int))=true) [.one (.fp (zaA (⟨(s74 (⟨zae,(⟨zac,zam zab⟩:(Sl Tie))⟩:Net) (⟨zdJ,zav zdB⟩:(Sl Int))).1.Net,((s74 (⟨zae,(⟨zac,zam zab⟩:(Sl Tie))⟩:Net) (⟨zdJ,zav zdB⟩:(Sl Int))).1.out)⟩:web)) 0),.one (.int .i64 (0:Int))] (IsE enc_40 4 zat zab/\IsE zad 1 zie zdB/\p74 (⟨zae,(⟨zac,zam zab⟩:(Sl Tie))⟩:Net) (⟨zdJ,zav zdB⟩:(Sl Int))=true) [.one (.nilp),.one (.int .i64 ((s74 (⟨zae,(⟨zac,zam zab⟩:(Sl Tie))⟩:Net) (⟨zdJ,zav zdB⟩:(Sl Int))).2))]
  | [.agg [.int .i64 zae,.sl zac zat zab],.one (.nils)]=>.alt ((s74 (⟨zae,(⟨zac,zam zab⟩:(Sl Tie))⟩:Net) (⟨0,λ _=>default⟩:(Sl Int))).2 == 0) (IsE enc_40 4 zat zab/\p74 (⟨zae,(⟨zac,zam zab⟩:(Sl Tie))⟩:Net) (⟨0,λ _=>default⟩:(Sl Int))=true) [.one (.fp (zaA (⟨(s74 (⟨zae,(⟨zac,zam zab⟩:(Sl Tie))⟩:Net) (⟨0,λ _=>default⟩:(Sl Int))).1.Net,((s74 (⟨zae,(⟨zac,zam zab⟩:(Sl Tie))⟩:Net) (⟨0,λ _=>default⟩:(Sl Int))).1.out)⟩:web)) 0),.one (.int .i64 (0:Int))] (IsE enc_40 4 zat zab/\p74 (⟨zae,(⟨zac,zam zab⟩:(Sl Tie))⟩:Net) (⟨0,λ _=>default⟩:(Sl Int))=true) [.one (.nilp),.one (.int .i64 ((s74 (⟨zae,(⟨zac,zam zab⟩:(Sl Tie))⟩:Net) (⟨0,λ _=>default⟩:(Sl Int))).2))]
  | _=>.no
theorem zIU:zar Tryd.prog 74:=⟨_,rfl,rfl,by kernel_rfl⟩
theorem zIV:Ok Tryd.prog 74 zp5:=zfF zLT zIU λ args K h=>by
  unfold zp5 at h
  split at h
  · rename_i zae zac zat zab zdJ zie zdB
    have h:=zIy h
    obtain⟨⟨⟨rfl,zan,rfl⟩,⟨rfl,zfL,rfl⟩,hs⟩,hk⟩:=h
    try rw[zak zan] at hs
    try rw[zak zan] at hk
    try rw[zba zfL] at hs
    try rw[zba zfL] at hk
    exact⟨_,zeE zfk _,(λ _ _=>[]),(λ _=>false),zBj,q74 (⟨zae,(⟨zac,zan⟩:(Sl Tie))⟩:Net) (⟨zdJ,zfL⟩:(Sl Int)) (Wk K) hs (zfl hk)⟩
  · rename_i zae zac zat zab
    have h:=zIy h
    obtain⟨⟨⟨rfl,zan,rfl⟩,hs⟩,hk⟩:=h
    try rw[zak zan] at hs
    try rw[zak zan] at hk
    exact⟨_,(zeF (zfk _) (zeF (.one (.nil _ _)) zkK)),(λ _ _=>[]),(λ _=>false),zBj,q74 (⟨zae,(⟨zac,zan⟩:(Sl Tie))⟩:Net) (⟨0,λ _=>default⟩:(Sl Int)) (Wk K) hs (zfl hk)⟩
  · exact h.elim
abbrev zNi:Tabs:=Tabs.nil
theorem zIW:TabsOk Tryd.prog zNi:=TabsOk.nil
abbrev zNO:Ctrs:=csm zNi (λ _ _=>[]) (λ _=>false)
def zCE:Ann:=⟨24,[(0,zK [2,3] [2,3]),(1,zK [4] [])],
 [],
 [],
 [],[]⟩
abbrev zNP:=Bool
abbrev zNQ (r:zNP):List PA:=[.one (.bool r)]
section
variable {K:List PA->Prop}{a:far}{b:far}
def zBl (a:far) (b:far):Bool :=
  (cond (decide (a.length < b.length))
 true
 (cond (a.length == b.length)
 (decide (a.uses < b.uses))
 false))
end
theorem zNR (a:far) (b:far) (K:List PA->Prop) (hk:K (zNQ (zBl a b))):vcFun Tryd.prog zNO zCE 105 [.agg (zb2 a),.agg (zb2 b)] K :=
  zaM (by kernel_rfl) (zt hk (λ hk=>hk) (λ hk=>(zt hk (λ hk=>hk) (λ hk=>hk))))
def zv9 : List PA → COut
  | [.agg [.int .i64 zb5,.int .i64 zp6],.agg [.int .i64 zbG,.int .i64 zeZ]]=>.tot [.one (.bool (zBl (⟨zb5,zp6⟩:far) (⟨zbG,zeZ⟩:far)))]
  | _=>.no
theorem zEN:zar Tryd.prog 105:=⟨_,rfl,rfl,by kernel_rfl⟩
theorem zLU:Ok Tryd.prog 105 zv9:=za9 zIW zEN λ args K h=>by
  unfold zv9 at h
  split at h
  · rename_i zb5 zp6 zbG zeZ
    have hk:=h
    exact⟨(λ _ _=>[]),(λ _=>false),zCE,zNR (⟨zb5,zp6⟩:far) (⟨zbG,zeZ⟩:far) K hk⟩
  · exact h.elim
abbrev zNj:Tabs:=(Tabs.nil.addF 105 zv9)
theorem zIX:TabsOk Tryd.prog zNj:=(TabsOk.nil.addF zLU)
abbrev zNk:Ctrs:=csm zNj (λ _ _=>[]) (λ _=>false)
def zwa:Ann:=⟨22,[(0,zK [0,2,4,6] [4,6]),(1,zK [0,4,6,9,10,11] [4,6]),(2,zK [0,4,6,9,10,11,12] [4,6]),(3,zK [0,4,6,8,9,10,11] [4,6,8]),(4,zK [0,4,6,8,9,10,11,18] [4,6,8]),(5,zK [0,4,6,9,10,11] [4,6]),(6,zK [0,4,6,9,10,11] [4,6]),(7,zK [6] [6])],
 [(2,zK [0,4,6,9,10,11] [4,6])],
 [(5,zK [0,4,6,8,9,10,11,18] [4,6,8])],
 [],[]⟩
abbrev zNS:=far
abbrev zLj (r:zNS):List PA:=[.agg [.int .i64 r.length,.int .i64 r.uses]]
@[irreducible] def z104:=ptF Tryd.prog zNk zwa Tryd.f104
def zwb (others:(Sl far)) (zaO:Int) (zbb:Int) (zbc:Int):St:=⟨[(0,zP (.fn 105 [] [])),(4,zp 4 0),(6,zp 6 0),(9,zS zb2 2 others),(10,zI (others.len:Int)),(11,zI zaO)],[(4,.box 114 (zm (zb2 (⟨zbb,zbc⟩:far)))),(6,.box 114 (zm (zb2 (⟨(0:Int),(0:Int)⟩:far))))],[]⟩
abbrev zwc (K:List PA->Prop) (others:(Sl far)) (X:St->Prop) (P:Int->Int->Int->Bool) (S:Int->Int->Int->far):Prop:=∀ ⦃zaO:Int⦄ ⦃zbb:Int⦄ ⦃zbc:Int⦄,P zaO zbb zbc=true->K (zLj (S zaO zbb zbc))->X (zwb others zaO zbb zbc)
section
variable {K:List PA->Prop}{first:far}{others:(Sl far)}{zaO:Int}{zbb:Int}{zbc:Int}{X0:St->Prop}{P0:Int->Int->Int->Bool}{S0:Int->Int->Int->far}{zcu:Int}{zcS:Bool}{zdR:Int}{zdS:Int}{zp7:Int}{zp8:Int}
def zmS (S0:Int->Int->Int->far) (others:(Sl far)) (zcu:Int) (zcS:Bool) (zdR:Int) (zdS:Int) (zp7:Int) (zp8:Int):far :=
  (cond zcS
 (S0 (w64 (zcu+(1:Int))) zp7 zp8)
 (S0 (w64 (zcu+(1:Int))) zdR zdS))
def zmT (P0:Int->Int->Int->Bool) (others:(Sl far)) (zcu:Int) (zcS:Bool) (zdR:Int) (zdS:Int) (zp7:Int) (zp8:Int):Bool :=
  (cond zcS
 (P0 (w64 (zcu+(1:Int))) zp7 zp8)
 (P0 (w64 (zcu+(1:Int))) zdR zdS))
theorem zBm (hX0:zwc K others X0 P0 S0) (hs:zmT P0 others zcu zcS zdR zdS zp7 zp8=true) (hk:K (zLj (zmS S0 others zcu zcS zdR zdS zp7 zp8))):z104 K [1,0,1,0,0,1,1,0,0,1,1] [X0] ⟨[(0,zP (.fn 105 [] [])),(4,zp 4 0),(6,zp 6 0),(8,zp 8 0),(9,zS zb2 2 others),(10,zI (others.len:Int)),(11,zI zcu),(18,zB zcS)],[(4,.box 114 (zm (zb2 (⟨zdR,zdS⟩:far)))),(6,.box 114 (zm (zb2 (⟨(0:Int),(0:Int)⟩:far)))),(8,.box 114 (zm (zb2 (⟨zp7,zp8⟩:far))))],[]⟩:=zaM (by kernel_rfl) (zc hs hk (λ hs hk=>(hX0 hs hk)) (λ hs hk=>(hX0 hs hk)))
def zgj (others:(Sl far)) (S0:Int->Int->Int->far) (zaO:Int) (zbb:Int) (zbc:Int):far :=
  (cond (decide (zaO < (others.len : Int)))
 (zmS S0 others zaO (zBl (others.get zaO.toNat) (⟨zbb,zbc⟩:far)) zbb zbc ((others.get zaO.toNat).length) ((others.get zaO.toNat).uses))
 (⟨zbb,zbc⟩:far))
def zgk (others:(Sl far)) (P0:Int->Int->Int->Bool) (zaO:Int) (zbb:Int) (zbc:Int):Bool :=
  (cond (decide (zaO < (others.len : Int)))
 (decide ((0≤zaO/\zaO < (others.len:Int))) &&
 (zmT P0 others zaO (zBl (others.get zaO.toNat) (⟨zbb,zbc⟩:far)) zbb zbc ((others.get zaO.toNat).length) ((others.get zaO.toNat).uses)))
 true)
def zgl (others:(Sl far)):Nat->Int->Int->Int->far:=lpO (λ _ _ _=>default) (zgj others)
def zgm (others:(Sl far)):Nat->Int->Int->Int->Bool:=lpO (λ _ _ _=>false) (zgk others)
def zmU (others:(Sl far)) (zaO:Int) (zbb:Int) (zbc:Int):far:=zgl others Fuel zaO zbb zbc
def zmV (others:(Sl far)) (zaO:Int) (zbb:Int) (zbc:Int):Bool:=zgm others Fuel zaO zbb zbc
theorem zBn (hs:zmV others zaO zbb zbc=true) (hk:K (zLj (zmU others zaO zbb zbc))):z104 K [1,0,1,0] [] (zwb others zaO zbb zbc) :=
  zl (λ X=>z104 K [1,0,1,0,0] [X]) (by kernel_rfl) λ X0 hX =>
  (show ∀ k, zwc K others X0 (zgm others k) (zgl others k) from zd1 _ _ (zgk others) (zgj others) (zwc K others X0)
 (by intro _ _ _ hs;exact absurd hs Bool.false_ne_true)
 (by intro P0 S0 hX0 zaO zbb zbc hs hk;exact hX _ (zaM (by kernel_rfl) (zc hs hk (λ hs hk=>(zaJ hs λ hc hs=>And.intro hc (zBm hX0 hs hk))) (λ hs hk=>hk))))) _ hs hk
def zcJ (first:far) (others:(Sl far)):far :=
  (zmU others (0:Int) first.length first.uses)
def zBo (first:far) (others:(Sl far)):Bool :=
  (zmV others (0:Int) first.length first.uses)
end
theorem zNT (first:far) (others:(Sl far)) (K:List PA->Prop) (hs:zBo first others=true) (hk:K (zLj (zcJ first others))):vcFun Tryd.prog zNk zwa 104 [.one (.fn 105 [] []),.agg (zb2 first),.one (.sl others.len 2 (λ i=>zb2 (others.get i)))] K :=
  zaM (by kernel_rfl) (zBn hs hk)
def zoB : List PA → COut
  | [.one (.fn 105 [] []),.agg [.int .i64 zbG,.int .i64 zeZ],.one (.sl zIY zNl zIZ)]=>.det (IsE zb2 2 zNl zIZ/\zBo (⟨zbG,zeZ⟩:far) (⟨zIY,zjF zIZ⟩:(Sl far))=true) [.agg [.int .i64 ((zcJ (⟨zbG,zeZ⟩:far) (⟨zIY,zjF zIZ⟩:(Sl far))).length),.int .i64 ((zcJ (⟨zbG,zeZ⟩:far) (⟨zIY,zjF zIZ⟩:(Sl far))).uses)]]
  | _=>.no
theorem zEO:zar Tryd.prog 104:=⟨_,rfl,rfl,by kernel_rfl⟩
theorem zEP:Ok Tryd.prog 104 zoB:=za9 zIX zEO λ args K h=>by
  unfold zoB at h
  split at h
  · rename_i zbG zeZ zIY zNl zIZ
    obtain⟨⟨⟨rfl,zLV,rfl⟩,hs⟩,hk⟩:=h
    try rw[zjc zLV] at hs
    try rw[zjc zLV] at hk
    exact⟨(λ _ _=>[]),(λ _=>false),zwa,zNT (⟨zbG,zeZ⟩:far) (⟨zIY,zLV⟩:(Sl far)) K hs hk⟩
  · exact h.elim
abbrev T76:Tabs:=(((Tabs.nil.addF 93 zoy).addF 104 zoB).addI 110 zoA)
theorem zLW:TabsOk Tryd.prog T76:=(((TabsOk.nil.addF zHQ).addF zEP).addI zt6)
abbrev G76:Ctrs:=csm T76 (λ _ _=>[]) (λ _=>false)
def zwd:Ann:=⟨66,[(0,zK [0,1,4] [4]),(1,zK [0,1,4,5] [4,5]),(2,zK [0,1,4,5,10] [4,5]),(3,zK [0,1,4,5,10,11] [4,5]),(4,zK [0,1,4,5,6,10] [4,5]),(5,zK [0,1,4,5,10] [4,5]),(6,zK [0,1,4,5,10] [4,5]),(7,zK [0,4,5] [4,5]),(8,zK [0,4,5,7] [4,5,7]),(9,zK [0,4,5,7,20] [4,5,7]),(10,zK [0,4,5,7] [4,5,7]),(11,zK [0,4,5,7,22] [4,5,7]),(12,zK [0,4,5,7,8,22] [4,5,7,8]),(13,zK [0,4,5,7,8,22,29] [4,5,7,8]),(14,zK [0,4,5,7,8,9,22] [4,5,7,8,9]),(15,zK [0,4,5,7,8,9,22] [4,5,7,8,9]),(16,zK [0,4,5,7,22] [4,5,7]),(17,zK [0,4,5,64] [4,5]),(18,zK [0,4,5,7] [4,5,7]),(19,zK [4] [4])],
 [(3,zK [0,1,4,5,10] [4,5]),(9,zK [0,4,5,7] [4,5,7]),(12,zK [0,4,5,7,22] [4,5,7])],
 [(7,zK [0,1,4,5] [4,5])],
 [],[]⟩
abbrev R76:=Tab
abbrev e76 (r:R76):List PA:=[.agg (zaf r)]
@[irreducible] def z76:=ptF Tryd.prog G76 zwd Tryd.f76
@[irreducible] def x76:=exF Tryd.prog G76 zwd Tryd.f76
@[irreducible] def y76:=rnF Tryd.prog G76 zwd Tryd.f76
def zCF (w:web) (node:Int) (zaX:Int) (t4t0:Tab) (dt0:Tab):St:=⟨[(0,zP (.fp (zaA w) 0)),(1,zI node),(4,zp 4 0),(5,zp 5 0),(10,zI zaX)],[(4,.box 116 (zm (zaf t4t0))),(5,.box 116 (zm (zaf dt0)))],[]⟩
abbrev zI0 (K:List PA->Prop) (w:web) (node:Int) (X:St->Prop) (P:Int->Tab->Tab->Bool) (S:Int->Tab->Tab->Tab):Prop:=∀ ⦃zaX:Int⦄ ⦃t4t0:Tab⦄ ⦃dt0:Tab⦄,P zaX t4t0 dt0=true->K (e76 (S zaX t4t0 dt0))->X (zCF w node zaX t4t0 dt0)
def zCG (w:web) (zaw:Bool) (t4t2:Tab) (dt2:Tab):St:=⟨[(0,zP (.fp (zaA w) 0)),(4,zp 4 0),(5,zp 5 0),(7,zp 7 0)],[(4,.box 116 (zm (zaf t4t2))),(5,.box 116 (zm (zaf dt2))),(7,.box 4 [.p (.bool zaw)])],[]⟩
abbrev zEQ (K:List PA->Prop) (w:web) (X:St->Prop) (P:Bool->Tab->Tab->Bool) (S:Bool->Tab->Tab->Tab):Prop:=∀ ⦃zaw:Bool⦄ ⦃t4t2:Tab⦄ ⦃dt2:Tab⦄,P zaw t4t2 dt2=true->K (e76 (S zaw t4t2 dt2))->X (zCG w zaw t4t2 dt2)
def zwe (w:web) (zaq:Bool) (t4t3:Tab) (dt3:Tab):St:=⟨[(0,zP (.fp (zaA w) 0)),(4,zp 4 0),(5,zp 5 0),(7,zp 7 0),(22,zP (.fn 110 [] [.fp [.fp (zaA w) 0] 0]))],[(4,.box 116 (zm (zaf t4t3))),(5,.box 116 (zm (zaf dt3))),(7,.box 4 [.p (.bool zaq)])],[]⟩
abbrev zI1 (K:List PA->Prop) (w:web) (X:St->Prop) (P:Bool->Tab->Tab->Bool) (S:Bool->Tab->Tab->Tab):Prop:=∀ ⦃zaq:Bool⦄ ⦃t4t3:Tab⦄ ⦃dt3:Tab⦄,P zaq t4t3 dt3=true->K (e76 (S zaq t4t3 dt3))->X (zwe w zaq t4t3 dt3)
section
variable {K:List PA->Prop}{w:web}{node:Int}{zaX:Int}{t4t0:Tab}{dt0:Tab}{X0:St->Prop}{P0:Int->Tab->Tab->Bool}{S0:Int->Tab->Tab->Tab}{t4t1:Tab}{dt1:Tab}{zaw:Bool}{t4t2:Tab}{dt2:Tab}{X2:St->Prop}{P2:Bool->Tab->Tab->Bool}{S2:Bool->Tab->Tab->Tab}{zaq:Bool}{t4t3:Tab}{dt3:Tab}
def zER (S2:Bool->Tab->Tab->Tab) (w:web) (zaq:Bool) (t4t3:Tab) (dt3:Tab):Tab :=
  (S2 zaq t4t3 dt3)
def zES (P2:Bool->Tab->Tab->Bool) (w:web) (zaq:Bool) (t4t3:Tab) (dt3:Tab):Bool :=
  (P2 zaq t4t3 dt3)
def zmW (S2:Bool->Tab->Tab->Tab) (w:web) (y3:step) (S3:Bool->Tab->Tab->Tab) (zaq:Bool) (t4t3:Tab) (dt3:Tab):Tab :=
  (cond (nvr (tL dt3 y3.from_) (tU dt3 y3.from_))
 (S3 zaq t4t3 dt3)
 (cond zaq
 (S3 true t4t3 (ts 80 dt3 (0+y3.to.toNat * 2+0) [(zcJ (⟨(tL dt3 y3.to),(tU dt3 y3.to)⟩:far) (⟨1,λ _=>(⟨(w64 ((tL dt3 y3.from_)+y3.length)),(w64 ((tV dt3 y3.from_)+(1:Int)))⟩:far)⟩:(Sl far))).length,(zcJ (⟨(tL dt3 y3.to),(tU dt3 y3.to)⟩:far) (⟨1,λ _=>(⟨(w64 ((tL dt3 y3.from_)+y3.length)),(w64 ((tV dt3 y3.from_)+(1:Int)))⟩:far)⟩:(Sl far))).uses]))
 (S3 (!(match ((zcJ (⟨(tL dt3 y3.to),(tU dt3 y3.to)⟩:far) (⟨1,λ _=>(⟨(w64 ((tL dt3 y3.from_)+y3.length)),(w64 ((tV dt3 y3.from_)+(1:Int)))⟩:far)⟩:(Sl far))).length == (tL dt3 y3.to)) with | true=>(match ((zcJ (⟨(tL dt3 y3.to),(tU dt3 y3.to)⟩:far) (⟨1,λ _=>(⟨(w64 ((tL dt3 y3.from_)+y3.length)),(w64 ((tV dt3 y3.from_)+(1:Int)))⟩:far)⟩:(Sl far))).uses == (tU dt3 y3.to)) with | true=>true | false=>false) | false=>false)) t4t3 (ts 80 dt3 (0+y3.to.toNat * 2+0) [(zcJ (⟨(tL dt3 y3.to),(tU dt3 y3.to)⟩:far) (⟨1,λ _=>(⟨(w64 ((tL dt3 y3.from_)+y3.length)),(w64 ((tV dt3 y3.from_)+(1:Int)))⟩:far)⟩:(Sl far))).length,(zcJ (⟨(tL dt3 y3.to),(tU dt3 y3.to)⟩:far) (⟨1,λ _=>(⟨(w64 ((tL dt3 y3.from_)+y3.length)),(w64 ((tV dt3 y3.from_)+(1:Int)))⟩:far)⟩:(Sl far))).uses]))))
def zmX (P2:Bool->Tab->Tab->Bool) (w:web) (y3:step) (P3:Bool->Tab->Tab->Bool) (zaq:Bool) (t4t3:Tab) (dt3:Tab):Bool :=
  (decide ((0≤y3.from_/\y3.from_ < (40:Int))) &&
 (cond (nvr (tL dt3 y3.from_) (tU dt3 y3.from_))
 (P3 zaq t4t3 dt3)
 (decide ((0≤y3.to/\y3.to < (40:Int))) &&
 (decide ((0≤y3.from_/\y3.from_ < (40:Int))) &&
 (decide ((0≤y3.from_/\y3.from_ < (40:Int))) &&
 (decide ((zBo (⟨(tL dt3 y3.to),(tU dt3 y3.to)⟩:far) (⟨1,λ _=>(⟨(w64 ((tL dt3 y3.from_)+y3.length)),(w64 ((tV dt3 y3.from_)+(1:Int)))⟩:far)⟩:(Sl far))=true)) &&
 (cond zaq
 (decide ((0≤y3.to/\y3.to < (40:Int))) &&
 (P3 true t4t3 (ts 80 dt3 (0+y3.to.toNat * 2+0) [(zcJ (⟨(tL dt3 y3.to),(tU dt3 y3.to)⟩:far) (⟨1,λ _=>(⟨(w64 ((tL dt3 y3.from_)+y3.length)),(w64 ((tV dt3 y3.from_)+(1:Int)))⟩:far)⟩:(Sl far))).length,(zcJ (⟨(tL dt3 y3.to),(tU dt3 y3.to)⟩:far) (⟨1,λ _=>(⟨(w64 ((tL dt3 y3.from_)+y3.length)),(w64 ((tV dt3 y3.from_)+(1:Int)))⟩:far)⟩:(Sl far))).uses])))
 (decide ((0≤y3.to/\y3.to < (40:Int))) &&
 (decide ((0≤y3.to/\y3.to < (40:Int))) &&
 (P3 (!(match ((zcJ (⟨(tL dt3 y3.to),(tU dt3 y3.to)⟩:far) (⟨1,λ _=>(⟨(w64 ((tL dt3 y3.from_)+y3.length)),(w64 ((tV dt3 y3.from_)+(1:Int)))⟩:far)⟩:(Sl far))).length == (tL dt3 y3.to)) with | true=>(match ((zcJ (⟨(tL dt3 y3.to),(tU dt3 y3.to)⟩:far) (⟨1,λ _=>(⟨(w64 ((tL dt3 y3.from_)+y3.length)),(w64 ((tV dt3 y3.from_)+(1:Int)))⟩:far)⟩:(Sl far))).uses == (tU dt3 y3.to)) with | true=>true | false=>false) | false=>false)) t4t3 (ts 80 dt3 (0+y3.to.toNat * 2+0) [(zcJ (⟨(tL dt3 y3.to),(tU dt3 y3.to)⟩:far) (⟨1,λ _=>(⟨(w64 ((tL dt3 y3.from_)+y3.length)),(w64 ((tV dt3 y3.from_)+(1:Int)))⟩:far)⟩:(Sl far))).length,(zcJ (⟨(tL dt3 y3.to),(tU dt3 y3.to)⟩:far) (⟨1,λ _=>(⟨(w64 ((tL dt3 y3.from_)+y3.length)),(w64 ((tV dt3 y3.from_)+(1:Int)))⟩:far)⟩:(Sl far))).uses])))))))))))
def zmY (S2:Bool->Tab->Tab->Tab) (w:web):List step->Bool->Tab->Tab->Tab:=lpR (zER S2 w) (zmW S2 w)
def zmZ (P2:Bool->Tab->Tab->Bool) (w:web):List step->Bool->Tab->Tab->Bool:=lpR (zES P2 w) (zmX P2 w)
def zp9 (S2:Bool->Tab->Tab->Tab) (w:web) (zaq:Bool) (t4t3:Tab) (dt3:Tab):Tab:=zmY S2 w (zkO w) zaq t4t3 dt3
def zqa (P2:Bool->Tab->Tab->Bool) (w:web) (zaq:Bool) (t4t3:Tab) (dt3:Tab):Bool:=decide ((zui w=true)) && zmZ P2 w (zkO w) zaq t4t3 dt3
theorem zET (hX2:zEQ K w X2 P2 S2) (hs:zqa P2 w zaq t4t3 dt3=true) (hk:K (e76 (zp9 S2 w zaq t4t3 dt3))):z76 K [1,1,1,1,0,1,0,0,1,0,0,1,1,0] [X2] (zwe w zaq t4t3 dt3) :=
  zaJ hs λ hc hs=>zr (enc:=(λ y:step=>[.agg (zaB y)])) (ys:=zkO w) (g:=(zwe w zaq t4t3 dt3)) (x76 K [1,1,1,1,0,1,0,0,1,0,0,1,1,0] [X2]) (y76 K [1,1,1,1,0,1,0,0,1,0,0,1,1,0] [X2]) (by kernel_rfl) (And.intro (zE enc_40 4 w.Net.Ties.get) (And.intro (rfl:((false,1,false,[none]):MQ)=(false,1,false,[none])) hc)) λ X3 hE hR =>
  (show ∀ l : List step, zI1 K w (X3 (l.map (λ y : step => [.agg (zaB y)]))) (zmZ P2 w l) (zmY S2 w l) from zri (X := X3) (enc := (λ y : step => [.agg (zaB y)])) _ _ (zmX P2 w) (zmW S2 w) (λ Z P S => zI1 K w Z P S)
 (by intro zaq t4t3 dt3 hs hk;exact hE _ (zaM (by kernel_rfl) (hX2 hs hk)))
 (by intro y3 rest P3 S3 hX3 zaq t4t3 dt3 hs hk;exact hR _ rest _ (zaM (by kernel_rfl) (zaJ hs λ hc hs=>And.intro hc (zc hs hk (λ hs hk=>(hX3 hs hk)) (λ hs hk=>(zaJ hs λ hc hs=>And.intro hc (zaJ hs λ hc hs=>And.intro hc (zaJ hs λ hc hs=>And.intro hc (zaJ hs λ hc hs=>And.intro (And.intro (zvQ:IsE zb2 2 2 (λ _=>(zb2 (⟨(w64 ((tL dt3 y3.from_)+y3.length)),(w64 ((tV dt3 y3.from_)+(1:Int)))⟩:far)))) hc) (zc hs hk (λ hs hk=>(zaJ hs λ hc hs=>And.intro hc (hX3 hs hk))) (λ hs hk=>(zaJ hs λ hc hs=>And.intro hc (zaJ hs λ hc hs=>And.intro hc (hX3 hs hk))))))))))))))) _ hs hk
def zm0 (w:web) (S2:Bool->Tab->Tab->Tab) (zaw:Bool) (t4t2:Tab) (dt2:Tab):Tab :=
  (cond zaw
 (zp9 S2 w false t4t2 dt2)
 dt2)
def zm1 (w:web) (P2:Bool->Tab->Tab->Bool) (zaw:Bool) (t4t2:Tab) (dt2:Tab):Bool :=
  (cond zaw
 (zqa P2 w false t4t2 dt2)
 true)
def zfM (w:web):Nat->Bool->Tab->Tab->Tab:=lpO (λ _ _ _=>default) (zm0 w)
def zfN (w:web):Nat->Bool->Tab->Tab->Bool:=lpO (λ _ _ _=>false) (zm1 w)
def zqb (w:web) (zaw:Bool) (t4t2:Tab) (dt2:Tab):Tab:=zfM w Fuel zaw t4t2 dt2
def zqc (w:web) (zaw:Bool) (t4t2:Tab) (dt2:Tab):Bool:=zfN w Fuel zaw t4t2 dt2
theorem zEU (hs:zqc w zaw t4t2 dt2=true) (hk:K (e76 (zqb w zaw t4t2 dt2))):z76 K [1,1,1,1,0,1,0] [] (zCG w zaw t4t2 dt2) :=
  zl (λ X=>z76 K [1,1,1,1,0,1,0,0] [X]) (by kernel_rfl) λ X2 hX =>
  (show ∀ k, zEQ K w X2 (zfN w k) (zfM w k) from zd1 _ _ (zm1 w) (zm0 w) (zEQ K w X2)
 (by intro _ _ _ hs;exact absurd hs Bool.false_ne_true)
 (by intro P2 S2 hX2 zaw t4t2 dt2 hs hk;exact hX _ (zaM (by kernel_rfl) (zc hs hk (λ hs hk=>(And.intro (And.intro (zE enc_40 4 w.Net.Ties.get) (rfl:((false,1,false,[none]):MQ)=(false,1,false,[none]))) (zET hX2 hs hk))) (λ hs hk=>hk))))) _ hs hk
def zm2 (w:web) (node:Int) (t4t1:Tab) (dt1:Tab):Tab :=
  (zqb w true t4t1 (ts 80 dt1 (0+node.toNat * 2+0) [(0:Int),(0:Int)]))
def zm3 (w:web) (node:Int) (t4t1:Tab) (dt1:Tab):Bool :=
  (decide ((0≤node/\node < (40:Int))) &&
 (zqc w true t4t1 (ts 80 dt1 (0+node.toNat * 2+0) [(0:Int),(0:Int)])))
theorem zEV (hs:zm3 w node t4t1 dt1=true) (hk:K (e76 (zm2 w node t4t1 dt1))):z76 K [1,1,1] [] ⟨[(0,zP (.fp (zaA w) 0)),(1,zI node),(4,zp 4 0),(5,zp 5 0)],[(4,.box 116 (zm (zaf t4t1))),(5,.box 116 (zm (zaf dt1)))],[]⟩:=zaM (by kernel_rfl) (zaJ hs λ hc hs=>And.intro hc (zEU hs hk))
def zif (w:web) (node:Int) (S0:Int->Tab->Tab->Tab) (zaX:Int) (t4t0:Tab) (dt0:Tab):Tab :=
  (cond (decide (zaX < (40:Int)))
 (S0 (w64 (zaX+(1:Int))) t4t0 (ts 80 dt0 (0+zaX.toNat * 2+0) [(1000000000000:Int),(0:Int)]))
 (zm2 w node t4t0 dt0))
def zih (w:web) (node:Int) (P0:Int->Tab->Tab->Bool) (zaX:Int) (t4t0:Tab) (dt0:Tab):Bool :=
  (cond (decide (zaX < (40:Int)))
 (decide ((0≤zaX/\zaX < (40:Int))) &&
 (P0 (w64 (zaX+(1:Int))) t4t0 (ts 80 dt0 (0+zaX.toNat * 2+0) [(1000000000000:Int),(0:Int)])))
 (zm3 w node t4t0 dt0))
def zii (w:web) (node:Int):Nat->Int->Tab->Tab->Tab:=lpO (λ _ _ _=>default) (zif w node)
def zij (w:web) (node:Int):Nat->Int->Tab->Tab->Bool:=lpO (λ _ _ _=>false) (zih w node)
def zwf (w:web) (node:Int) (zaX:Int) (t4t0:Tab) (dt0:Tab):Tab:=zii w node Fuel zaX t4t0 dt0
def zwg (w:web) (node:Int) (zaX:Int) (t4t0:Tab) (dt0:Tab):Bool:=zij w node Fuel zaX t4t0 dt0
theorem zEW (hs:zwg w node zaX t4t0 dt0=true) (hk:K (e76 (zwf w node zaX t4t0 dt0))):z76 K [1,1,0,1,0] [] (zCF w node zaX t4t0 dt0) :=
  zl (λ X=>z76 K [1,1,0,1,0,0] [X]) (by kernel_rfl) λ X0 hX =>
  (show ∀ k, zI0 K w node X0 (zij w node k) (zii w node k) from zd1 _ _ (zih w node) (zif w node) (zI0 K w node X0)
 (by intro _ _ _ hs;exact absurd hs Bool.false_ne_true)
 (by intro P0 S0 hX0 zaX t4t0 dt0 hs hk;exact hX _ (zaM (by kernel_rfl) (zc hs hk (λ hs hk=>(zaJ hs λ hc hs=>And.intro hc (hX0 hs hk))) (λ hs hk=>(zEV hs hk)))))) _ hs hk
def s76 (w:web) (node:Int):Tab :=
  (zwf w node (0:Int) (λ _=>(0:Int)) (λ _=>(0:Int)))
def p76 (w:web) (node:Int):Bool :=
  (zwg w node (0:Int) (λ _=>(0:Int)) (λ _=>(0:Int)))
end
theorem q76 (w:web) (node:Int) (K:List PA->Prop) (hs:p76 w node=true) (hk:K (e76 (s76 w node))):vcFun Tryd.prog G76 zwd 76 [.one (.fp (zaA w) 0),.one (.int .i64 node)] K :=
  zaM (by kernel_rfl) (zEW hs hk)
def zt7 : List PA → COut
  | [.one (.fp [.int .i64 zao,.sl zai zay zaj,.fm za0 zaD zaE] 0),.one (.int .i64 a1)]=>.det (IsE enc_40 4 zay zaj/\za0=(false,1,false,[none])/\p76 (⟨(⟨zao,(⟨zai,zam zaj⟩:(Sl Tie))⟩:Net),(⟨zaD,zaE⟩:Mp)⟩:web) a1=true) [.agg (zaf ((s76 (⟨(⟨zao,(⟨zai,zam zaj⟩:(Sl Tie))⟩:Net),(⟨zaD,zaE⟩:Mp)⟩:web) a1)))]
  | _=>.no
theorem zI2:zar Tryd.prog 76:=⟨_,rfl,rfl,by kernel_rfl⟩
theorem zLk:Ok Tryd.prog 76 zt7:=za9 zLW zI2 λ args K h=>by
  unfold zt7 at h
  split at h
  · rename_i zao zai zay zaj za0 zaD zaE a1
    obtain⟨⟨⟨rfl,zau,rfl⟩,rfl,hs⟩,hk⟩:=h
    try rw[zak zau] at hs
    try rw[zak zau] at hk
    exact⟨(λ _ _=>[]),(λ _=>false),zwd,q76 (⟨(⟨zao,(⟨zai,zau⟩:(Sl Tie))⟩:Net),(⟨zaD,zaE⟩:Mp)⟩:web) a1 K hs hk⟩
  · exact h.elim
abbrev T75:Tabs:=(((Tabs.nil.addF 93 zoy).addF 104 zoB).addI 110 zoA)
theorem zLX:TabsOk Tryd.prog T75:=(((TabsOk.nil.addF zHQ).addF zEP).addI zt6)
abbrev G75:Ctrs:=csm T75 (λ _ _=>[]) (λ _=>false)
def zwh:Ann:=⟨66,[(0,zK [0,1,4] [4]),(1,zK [0,1,4,5] [4,5]),(2,zK [0,1,4,5,10] [4,5]),(3,zK [0,1,4,5,10,11] [4,5]),(4,zK [0,1,4,5,6,10] [4,5]),(5,zK [0,1,4,5,10] [4,5]),(6,zK [0,1,4,5,10] [4,5]),(7,zK [0,4,5] [4,5]),(8,zK [0,4,5,7] [4,5,7]),(9,zK [0,4,5,7,20] [4,5,7]),(10,zK [0,4,5,7] [4,5,7]),(11,zK [0,4,5,7,22] [4,5,7]),(12,zK [0,4,5,7,8,22] [4,5,7,8]),(13,zK [0,4,5,7,8,22,29] [4,5,7,8]),(14,zK [0,4,5,7,8,9,22] [4,5,7,8,9]),(15,zK [0,4,5,7,8,9,22] [4,5,7,8,9]),(16,zK [0,4,5,7,22] [4,5,7]),(17,zK [0,4,5,64] [4,5]),(18,zK [0,4,5,7] [4,5,7]),(19,zK [4] [4])],
 [(3,zK [0,1,4,5,10] [4,5]),(9,zK [0,4,5,7] [4,5,7]),(12,zK [0,4,5,7,22] [4,5,7])],
 [(7,zK [0,1,4,5] [4,5])],
 [],[]⟩
abbrev R75:=Tab
abbrev e75 (r:R75):List PA:=[.agg (zaf r)]
@[irreducible] def z75:=ptF Tryd.prog G75 zwh Tryd.f75
@[irreducible] def x75:=exF Tryd.prog G75 zwh Tryd.f75
@[irreducible] def y75:=rnF Tryd.prog G75 zwh Tryd.f75
def zCH (w:web) (node:Int) (zaX:Int) (t4t0:Tab) (dt0:Tab):St:=⟨[(0,zP (.fp (zaA w) 0)),(1,zI node),(4,zp 4 0),(5,zp 5 0),(10,zI zaX)],[(4,.box 116 (zm (zaf t4t0))),(5,.box 116 (zm (zaf dt0)))],[]⟩
abbrev zI3 (K:List PA->Prop) (w:web) (node:Int) (X:St->Prop) (P:Int->Tab->Tab->Bool) (S:Int->Tab->Tab->Tab):Prop:=∀ ⦃zaX:Int⦄ ⦃t4t0:Tab⦄ ⦃dt0:Tab⦄,P zaX t4t0 dt0=true->K (e75 (S zaX t4t0 dt0))->X (zCH w node zaX t4t0 dt0)
def zCI (w:web) (zaw:Bool) (t4t2:Tab) (dt2:Tab):St:=⟨[(0,zP (.fp (zaA w) 0)),(4,zp 4 0),(5,zp 5 0),(7,zp 7 0)],[(4,.box 116 (zm (zaf t4t2))),(5,.box 116 (zm (zaf dt2))),(7,.box 4 [.p (.bool zaw)])],[]⟩
abbrev zEX (K:List PA->Prop) (w:web) (X:St->Prop) (P:Bool->Tab->Tab->Bool) (S:Bool->Tab->Tab->Tab):Prop:=∀ ⦃zaw:Bool⦄ ⦃t4t2:Tab⦄ ⦃dt2:Tab⦄,P zaw t4t2 dt2=true->K (e75 (S zaw t4t2 dt2))->X (zCI w zaw t4t2 dt2)
def zwi (w:web) (zaq:Bool) (t4t3:Tab) (dt3:Tab):St:=⟨[(0,zP (.fp (zaA w) 0)),(4,zp 4 0),(5,zp 5 0),(7,zp 7 0),(22,zP (.fn 110 [] [.fp [.fp (zaA w) 0] 0]))],[(4,.box 116 (zm (zaf t4t3))),(5,.box 116 (zm (zaf dt3))),(7,.box 4 [.p (.bool zaq)])],[]⟩
abbrev zI4 (K:List PA->Prop) (w:web) (X:St->Prop) (P:Bool->Tab->Tab->Bool) (S:Bool->Tab->Tab->Tab):Prop:=∀ ⦃zaq:Bool⦄ ⦃t4t3:Tab⦄ ⦃dt3:Tab⦄,P zaq t4t3 dt3=true->K (e75 (S zaq t4t3 dt3))->X (zwi w zaq t4t3 dt3)
section
variable {K:List PA->Prop}{w:web}{node:Int}{zaX:Int}{t4t0:Tab}{dt0:Tab}{X0:St->Prop}{P0:Int->Tab->Tab->Bool}{S0:Int->Tab->Tab->Tab}{t4t1:Tab}{dt1:Tab}{zaw:Bool}{t4t2:Tab}{dt2:Tab}{X2:St->Prop}{P2:Bool->Tab->Tab->Bool}{S2:Bool->Tab->Tab->Tab}{zaq:Bool}{t4t3:Tab}{dt3:Tab}
def zEY (S2:Bool->Tab->Tab->Tab) (w:web) (zaq:Bool) (t4t3:Tab) (dt3:Tab):Tab :=
  (S2 zaq t4t3 dt3)
def zEZ (P2:Bool->Tab->Tab->Bool) (w:web) (zaq:Bool) (t4t3:Tab) (dt3:Tab):Bool :=
  (P2 zaq t4t3 dt3)
def zm4 (S2:Bool->Tab->Tab->Tab) (w:web) (y3:step) (S3:Bool->Tab->Tab->Tab) (zaq:Bool) (t4t3:Tab) (dt3:Tab):Tab :=
  (cond (nvr (tL dt3 y3.to) (tU dt3 y3.to))
 (S3 zaq t4t3 dt3)
 (cond zaq
 (S3 true t4t3 (ts 80 dt3 (0+y3.from_.toNat * 2+0) [(zcJ (⟨(tL dt3 y3.from_),(tU dt3 y3.from_)⟩:far) (⟨1,λ _=>(⟨(w64 ((tL dt3 y3.to)+y3.length)),(w64 ((tV dt3 y3.to)+(1:Int)))⟩:far)⟩:(Sl far))).length,(zcJ (⟨(tL dt3 y3.from_),(tU dt3 y3.from_)⟩:far) (⟨1,λ _=>(⟨(w64 ((tL dt3 y3.to)+y3.length)),(w64 ((tV dt3 y3.to)+(1:Int)))⟩:far)⟩:(Sl far))).uses]))
 (S3 (!(match ((zcJ (⟨(tL dt3 y3.from_),(tU dt3 y3.from_)⟩:far) (⟨1,λ _=>(⟨(w64 ((tL dt3 y3.to)+y3.length)),(w64 ((tV dt3 y3.to)+(1:Int)))⟩:far)⟩:(Sl far))).length == (tL dt3 y3.from_)) with | true=>(match ((zcJ (⟨(tL dt3 y3.from_),(tU dt3 y3.from_)⟩:far) (⟨1,λ _=>(⟨(w64 ((tL dt3 y3.to)+y3.length)),(w64 ((tV dt3 y3.to)+(1:Int)))⟩:far)⟩:(Sl far))).uses == (tU dt3 y3.from_)) with | true=>true | false=>false) | false=>false)) t4t3 (ts 80 dt3 (0+y3.from_.toNat * 2+0) [(zcJ (⟨(tL dt3 y3.from_),(tU dt3 y3.from_)⟩:far) (⟨1,λ _=>(⟨(w64 ((tL dt3 y3.to)+y3.length)),(w64 ((tV dt3 y3.to)+(1:Int)))⟩:far)⟩:(Sl far))).length,(zcJ (⟨(tL dt3 y3.from_),(tU dt3 y3.from_)⟩:far) (⟨1,λ _=>(⟨(w64 ((tL dt3 y3.to)+y3.length)),(w64 ((tV dt3 y3.to)+(1:Int)))⟩:far)⟩:(Sl far))).uses]))))
def zm5 (P2:Bool->Tab->Tab->Bool) (w:web) (y3:step) (P3:Bool->Tab->Tab->Bool) (zaq:Bool) (t4t3:Tab) (dt3:Tab):Bool :=
  (decide ((0≤y3.to/\y3.to < (40:Int))) &&
 (cond (nvr (tL dt3 y3.to) (tU dt3 y3.to))
 (P3 zaq t4t3 dt3)
 (decide ((0≤y3.from_/\y3.from_ < (40:Int))) &&
 (decide ((0≤y3.to/\y3.to < (40:Int))) &&
 (decide ((0≤y3.to/\y3.to < (40:Int))) &&
 (decide ((zBo (⟨(tL dt3 y3.from_),(tU dt3 y3.from_)⟩:far) (⟨1,λ _=>(⟨(w64 ((tL dt3 y3.to)+y3.length)),(w64 ((tV dt3 y3.to)+(1:Int)))⟩:far)⟩:(Sl far))=true)) &&
 (cond zaq
 (decide ((0≤y3.from_/\y3.from_ < (40:Int))) &&
 (P3 true t4t3 (ts 80 dt3 (0+y3.from_.toNat * 2+0) [(zcJ (⟨(tL dt3 y3.from_),(tU dt3 y3.from_)⟩:far) (⟨1,λ _=>(⟨(w64 ((tL dt3 y3.to)+y3.length)),(w64 ((tV dt3 y3.to)+(1:Int)))⟩:far)⟩:(Sl far))).length,(zcJ (⟨(tL dt3 y3.from_),(tU dt3 y3.from_)⟩:far) (⟨1,λ _=>(⟨(w64 ((tL dt3 y3.to)+y3.length)),(w64 ((tV dt3 y3.to)+(1:Int)))⟩:far)⟩:(Sl far))).uses])))
 (decide ((0≤y3.from_/\y3.from_ < (40:Int))) &&
 (decide ((0≤y3.from_/\y3.from_ < (40:Int))) &&
 (P3 (!(match ((zcJ (⟨(tL dt3 y3.from_),(tU dt3 y3.from_)⟩:far) (⟨1,λ _=>(⟨(w64 ((tL dt3 y3.to)+y3.length)),(w64 ((tV dt3 y3.to)+(1:Int)))⟩:far)⟩:(Sl far))).length == (tL dt3 y3.from_)) with | true=>(match ((zcJ (⟨(tL dt3 y3.from_),(tU dt3 y3.from_)⟩:far) (⟨1,λ _=>(⟨(w64 ((tL dt3 y3.to)+y3.length)),(w64 ((tV dt3 y3.to)+(1:Int)))⟩:far)⟩:(Sl far))).uses == (tU dt3 y3.from_)) with | true=>true | false=>false) | false=>false)) t4t3 (ts 80 dt3 (0+y3.from_.toNat * 2+0) [(zcJ (⟨(tL dt3 y3.from_),(tU dt3 y3.from_)⟩:far) (⟨1,λ _=>(⟨(w64 ((tL dt3 y3.to)+y3.length)),(w64 ((tV dt3 y3.to)+(1:Int)))⟩:far)⟩:(Sl far))).length,(zcJ (⟨(tL dt3 y3.from_),(tU dt3 y3.from_)⟩:far) (⟨1,λ _=>(⟨(w64 ((tL dt3 y3.to)+y3.length)),(w64 ((tV dt3 y3.to)+(1:Int)))⟩:far)⟩:(Sl far))).uses])))))))))))
def zm6 (S2:Bool->Tab->Tab->Tab) (w:web):List step->Bool->Tab->Tab->Tab:=lpR (zEY S2 w) (zm4 S2 w)
def zm7 (P2:Bool->Tab->Tab->Bool) (w:web):List step->Bool->Tab->Tab->Bool:=lpR (zEZ P2 w) (zm5 P2 w)
def zqd (S2:Bool->Tab->Tab->Tab) (w:web) (zaq:Bool) (t4t3:Tab) (dt3:Tab):Tab:=zm6 S2 w (zkO w) zaq t4t3 dt3
def zqe (P2:Bool->Tab->Tab->Bool) (w:web) (zaq:Bool) (t4t3:Tab) (dt3:Tab):Bool:=decide ((zui w=true)) && zm7 P2 w (zkO w) zaq t4t3 dt3
theorem zE0 (hX2:zEX K w X2 P2 S2) (hs:zqe P2 w zaq t4t3 dt3=true) (hk:K (e75 (zqd S2 w zaq t4t3 dt3))):z75 K [1,1,1,1,0,1,0,0,1,0,0,1,1,0] [X2] (zwi w zaq t4t3 dt3) :=
  zaJ hs λ hc hs=>zr (enc:=(λ y:step=>[.agg (zaB y)])) (ys:=zkO w) (g:=(zwi w zaq t4t3 dt3)) (x75 K [1,1,1,1,0,1,0,0,1,0,0,1,1,0] [X2]) (y75 K [1,1,1,1,0,1,0,0,1,0,0,1,1,0] [X2]) (by kernel_rfl) (And.intro (zE enc_40 4 w.Net.Ties.get) (And.intro (rfl:((false,1,false,[none]):MQ)=(false,1,false,[none])) hc)) λ X3 hE hR =>
  (show ∀ l : List step, zI4 K w (X3 (l.map (λ y : step => [.agg (zaB y)]))) (zm7 P2 w l) (zm6 S2 w l) from zri (X := X3) (enc := (λ y : step => [.agg (zaB y)])) _ _ (zm5 P2 w) (zm4 S2 w) (λ Z P S => zI4 K w Z P S)
 (by intro zaq t4t3 dt3 hs hk;exact hE _ (zaM (by kernel_rfl) (hX2 hs hk)))
 (by intro y3 rest P3 S3 hX3 zaq t4t3 dt3 hs hk;exact hR _ rest _ (zaM (by kernel_rfl) (zaJ hs λ hc hs=>And.intro hc (zc hs hk (λ hs hk=>(hX3 hs hk)) (λ hs hk=>(zaJ hs λ hc hs=>And.intro hc (zaJ hs λ hc hs=>And.intro hc (zaJ hs λ hc hs=>And.intro hc (zaJ hs λ hc hs=>And.intro (And.intro (zvQ:IsE zb2 2 2 (λ _=>(zb2 (⟨(w64 ((tL dt3 y3.to)+y3.length)),(w64 ((tV dt3 y3.to)+(1:Int)))⟩:far)))) hc) (zc hs hk (λ hs hk=>(zaJ hs λ hc hs=>And.intro hc (hX3 hs hk))) (λ hs hk=>(zaJ hs λ hc hs=>And.intro hc (zaJ hs λ hc hs=>And.intro hc (hX3 hs hk))))))))))))))) _ hs hk
def zm8 (w:web) (S2:Bool->Tab->Tab->Tab) (zaw:Bool) (t4t2:Tab) (dt2:Tab):Tab :=
  (cond zaw
 (zqd S2 w false t4t2 dt2)
 dt2)
def zm9 (w:web) (P2:Bool->Tab->Tab->Bool) (zaw:Bool) (t4t2:Tab) (dt2:Tab):Bool :=
  (cond zaw
 (zqe P2 w false t4t2 dt2)
 true)
def zfO (w:web):Nat->Bool->Tab->Tab->Tab:=lpO (λ _ _ _=>default) (zm8 w)
def zfP (w:web):Nat->Bool->Tab->Tab->Bool:=lpO (λ _ _ _=>false) (zm9 w)
def zqf (w:web) (zaw:Bool) (t4t2:Tab) (dt2:Tab):Tab:=zfO w Fuel zaw t4t2 dt2
def zqg (w:web) (zaw:Bool) (t4t2:Tab) (dt2:Tab):Bool:=zfP w Fuel zaw t4t2 dt2
theorem zE1 (hs:zqg w zaw t4t2 dt2=true) (hk:K (e75 (zqf w zaw t4t2 dt2))):z75 K [1,1,1,1,0,1,0] [] (zCI w zaw t4t2 dt2) :=
  zl (λ X=>z75 K [1,1,1,1,0,1,0,0] [X]) (by kernel_rfl) λ X2 hX =>
  (show ∀ k, zEX K w X2 (zfP w k) (zfO w k) from zd1 _ _ (zm9 w) (zm8 w) (zEX K w X2)
 (by intro _ _ _ hs;exact absurd hs Bool.false_ne_true)
 (by intro P2 S2 hX2 zaw t4t2 dt2 hs hk;exact hX _ (zaM (by kernel_rfl) (zc hs hk (λ hs hk=>(And.intro (And.intro (zE enc_40 4 w.Net.Ties.get) (rfl:((false,1,false,[none]):MQ)=(false,1,false,[none]))) (zE0 hX2 hs hk))) (λ hs hk=>hk))))) _ hs hk
def zna (w:web) (node:Int) (t4t1:Tab) (dt1:Tab):Tab :=
  (zqf w true t4t1 (ts 80 dt1 (0+node.toNat * 2+0) [(0:Int),(0:Int)]))
def znb (w:web) (node:Int) (t4t1:Tab) (dt1:Tab):Bool :=
  (decide ((0≤node/\node < (40:Int))) &&
 (zqg w true t4t1 (ts 80 dt1 (0+node.toNat * 2+0) [(0:Int),(0:Int)])))
theorem zE2 (hs:znb w node t4t1 dt1=true) (hk:K (e75 (zna w node t4t1 dt1))):z75 K [1,1,1] [] ⟨[(0,zP (.fp (zaA w) 0)),(1,zI node),(4,zp 4 0),(5,zp 5 0)],[(4,.box 116 (zm (zaf t4t1))),(5,.box 116 (zm (zaf dt1)))],[]⟩:=zaM (by kernel_rfl) (zaJ hs λ hc hs=>And.intro hc (zE1 hs hk))
def zik (w:web) (node:Int) (S0:Int->Tab->Tab->Tab) (zaX:Int) (t4t0:Tab) (dt0:Tab):Tab :=
  (cond (decide (zaX < (40:Int)))
 (S0 (w64 (zaX+(1:Int))) t4t0 (ts 80 dt0 (0+zaX.toNat * 2+0) [(1000000000000:Int),(0:Int)]))
 (zna w node t4t0 dt0))
def zil (w:web) (node:Int) (P0:Int->Tab->Tab->Bool) (zaX:Int) (t4t0:Tab) (dt0:Tab):Bool :=
  (cond (decide (zaX < (40:Int)))
 (decide ((0≤zaX/\zaX < (40:Int))) &&
 (P0 (w64 (zaX+(1:Int))) t4t0 (ts 80 dt0 (0+zaX.toNat * 2+0) [(1000000000000:Int),(0:Int)])))
 (znb w node t4t0 dt0))
def zim (w:web) (node:Int):Nat->Int->Tab->Tab->Tab:=lpO (λ _ _ _=>default) (zik w node)
def zin (w:web) (node:Int):Nat->Int->Tab->Tab->Bool:=lpO (λ _ _ _=>false) (zil w node)
def zwj (w:web) (node:Int) (zaX:Int) (t4t0:Tab) (dt0:Tab):Tab:=zim w node Fuel zaX t4t0 dt0
def zwk (w:web) (node:Int) (zaX:Int) (t4t0:Tab) (dt0:Tab):Bool:=zin w node Fuel zaX t4t0 dt0
theorem zE3 (hs:zwk w node zaX t4t0 dt0=true) (hk:K (e75 (zwj w node zaX t4t0 dt0))):z75 K [1,1,0,1,0] [] (zCH w node zaX t4t0 dt0) :=
  zl (λ X=>z75 K [1,1,0,1,0,0] [X]) (by kernel_rfl) λ X0 hX =>
  (show ∀ k, zI3 K w node X0 (zin w node k) (zim w node k) from zd1 _ _ (zil w node) (zik w node) (zI3 K w node X0)
 (by intro _ _ _ hs;exact absurd hs Bool.false_ne_true)
 (by intro P0 S0 hX0 zaX t4t0 dt0 hs hk;exact hX _ (zaM (by kernel_rfl) (zc hs hk (λ hs hk=>(zaJ hs λ hc hs=>And.intro hc (hX0 hs hk))) (λ hs hk=>(zE2 hs hk)))))) _ hs hk
def s75 (w:web) (node:Int):Tab :=
  (zwj w node (0:Int) (λ _=>(0:Int)) (λ _=>(0:Int)))
def p75 (w:web) (node:Int):Bool :=
  (zwk w node (0:Int) (λ _=>(0:Int)) (λ _=>(0:Int)))
end
theorem q75 (w:web) (node:Int) (K:List PA->Prop) (hs:p75 w node=true) (hk:K (e75 (s75 w node))):vcFun Tryd.prog G75 zwh 75 [.one (.fp (zaA w) 0),.one (.int .i64 node)] K :=
  zaM (by kernel_rfl) (zE3 hs hk)
def zt8 : List PA → COut
  | [.one (.fp [.int .i64 zao,.sl zai zay zaj,.fm za0 zaD zaE] 0),.one (.int .i64 a1)]=>.det (IsE enc_40 4 zay zaj/\za0=(false,1,false,[none])/\p75 (⟨(⟨zao,(⟨zai,zam zaj⟩:(Sl Tie))⟩:Net),(⟨zaD,zaE⟩:Mp)⟩:web) a1=true) [.agg (zaf ((s75 (⟨(⟨zao,(⟨zai,zam zaj⟩:(Sl Tie))⟩:Net),(⟨zaD,zaE⟩:Mp)⟩:web) a1)))]
  | _=>.no
theorem zI5:zar Tryd.prog 75:=⟨_,rfl,rfl,by kernel_rfl⟩
theorem zLl:Ok Tryd.prog 75 zt8:=za9 zLX zI5 λ args K h=>by
  unfold zt8 at h
  split at h
  · rename_i zao zai zay zaj za0 zaD zaE a1
    obtain⟨⟨⟨rfl,zau,rfl⟩,rfl,hs⟩,hk⟩:=h
    try rw[zak zau] at hs
    try rw[zak zau] at hk
    exact⟨(λ _ _=>[]),(λ _=>false),zwh,q75 (⟨(⟨zao,(⟨zai,zau⟩:(Sl Tie))⟩:Net),(⟨zaD,zaE⟩:Mp)⟩:web) a1 K hs hk⟩
  · exact h.elim
abbrev T83:Tabs:=((Tabs.nil.addF 75 zt8).addF 76 zt7)
theorem zLY:TabsOk Tryd.prog T83:=((TabsOk.nil.addF zLl).addF zLk)
abbrev G83:Ctrs:=csm T83 (λ _ _=>[]) (λ _=>false)
def zE4:Ann:=⟨31,[(0,zK [0] []),(1,zK [0,3,4] [3,4]),(2,zK [3,4,14,15] [3,4]),(3,zK [3,4,14,15,16] [3,4]),(4,zK [3,4,5,14,15] [3,4]),(5,zK [3,4,14,15,29] [3,4]),(6,zK [2] []),(7,zK [3,4,14,15] [3,4]),(8,zK [2] [])],
 [(3,zK [3,4,14,15] [3,4])],
 [(2,zK [0,3,4] [3,4])],
 [],[]⟩
abbrev R83:=Bool
abbrev e83 (r:R83):List PA:=[.one (.bool r)]
@[irreducible] def z83:=ptF Tryd.prog G83 zE4 Tryd.f83
def zCJ (w:web) (zcw:Int) (tot1:Tab) (fromt1:Tab):St:=⟨[(3,zp 3 0),(4,zp 4 0),(14,zI w.Net.Nodes),(15,zI zcw)],[(3,.box 116 (zm (zaf tot1))),(4,.box 116 (zm (zaf fromt1)))],[]⟩
abbrev zI6 (K:List PA->Prop) (w:web) (X:St->Prop) (P:Int->Tab->Tab->Bool) (S:Int->Tab->Tab->Bool):Prop:=∀ ⦃zcw:Int⦄ ⦃tot1:Tab⦄ ⦃fromt1:Tab⦄,P zcw tot1 fromt1=true->K (e83 (S zcw tot1 fromt1))->X (zCJ w zcw tot1 fromt1)
section
variable {K:List PA->Prop}{w:web}{tot0:Tab}{fromt0:Tab}{zcw:Int}{tot1:Tab}{fromt1:Tab}{X1:St->Prop}{P1:Int->Tab->Tab->Bool}{S1:Int->Tab->Tab->Bool}
def zio (w:web) (S1:Int->Tab->Tab->Bool) (zcw:Int) (tot1:Tab) (fromt1:Tab):Bool :=
  (cond (decide (zcw < w.Net.Nodes))
 (cond (match ((tg 80 tot1 (0 + zcw.toNat * 2 + 0)) == (1000000000000:Int)) with | true => (match ((tg 80 tot1 (0 + zcw.toNat * 2 + 0 + 1)) == (0:Int)) with | true => true | false => false) | false => false)
 false
 (cond (match ((tg 80 fromt1 (0 + zcw.toNat * 2 + 0)) == (1000000000000:Int)) with | true => (match ((tg 80 fromt1 (0 + zcw.toNat * 2 + 0 + 1)) == (0:Int)) with | true => true | false => false) | false => false)
 false
 (S1 (w64 (zcw+(1:Int))) tot1 fromt1)))
 true)
def ziq (w:web) (P1:Int->Tab->Tab->Bool) (zcw:Int) (tot1:Tab) (fromt1:Tab):Bool :=
  (cond (decide (zcw < w.Net.Nodes))
 (decide ((0≤zcw/\zcw < (40:Int))) &&
 (cond (match ((tg 80 tot1 (0 + zcw.toNat * 2 + 0)) == (1000000000000:Int)) with | true => (match ((tg 80 tot1 (0 + zcw.toNat * 2 + 0 + 1)) == (0:Int)) with | true => true | false => false) | false => false)
 true
 (decide ((0≤zcw/\zcw < (40:Int))) &&
 (cond (match ((tg 80 fromt1 (0 + zcw.toNat * 2 + 0)) == (1000000000000:Int)) with | true => (match ((tg 80 fromt1 (0 + zcw.toNat * 2 + 0 + 1)) == (0:Int)) with | true => true | false => false) | false => false)
 true
 (P1 (w64 (zcw+(1:Int))) tot1 fromt1)))))
 true)
def zgS (w:web):Nat->Int->Tab->Tab->Bool:=lpO (λ _ _ _=>default) (zio w)
def zgT (w:web):Nat->Int->Tab->Tab->Bool:=lpO (λ _ _ _=>false) (ziq w)
def zqh (w:web) (zcw:Int) (tot1:Tab) (fromt1:Tab):Bool:=zgS w Fuel zcw tot1 fromt1
def zqi (w:web) (zcw:Int) (tot1:Tab) (fromt1:Tab):Bool:=zgT w Fuel zcw tot1 fromt1
theorem zE5 (hs:zqi w zcw tot1 fromt1=true) (hk:K (e83 (zqh w zcw tot1 fromt1))):z83 K [1,1,0,1,0] [] (zCJ w zcw tot1 fromt1) :=
  zl (λ X=>z83 K [1,1,0,1,0,0] [X]) (by kernel_rfl) λ X1 hX =>
  (show ∀ k, zI6 K w X1 (zgT w k) (zgS w k) from zd1 _ _ (ziq w) (zio w) (zI6 K w X1)
 (by intro _ _ _ hs;exact absurd hs Bool.false_ne_true)
 (by intro P1 S1 hX1 zcw tot1 fromt1 hs hk;exact hX _ (zaM (by kernel_rfl) (zc hs hk (λ hs hk=>(zaJ hs λ hc hs=>And.intro hc (zc hs hk (λ hs hk=>hk) (λ hs hk=>(zaJ hs λ hc hs=>And.intro hc (zc hs hk (λ hs hk=>hk) (λ hs hk=>(hX1 hs hk)))))))) (λ hs hk=>hk))))) _ hs hk
def zqj (w:web) (tot0:Tab) (fromt0:Tab):Bool :=
  (zqh w (0:Int) tot0 fromt0)
def zqk (w:web) (tot0:Tab) (fromt0:Tab):Bool :=
  (zqi w (0:Int) tot0 fromt0)
theorem zE6 (hs:zqk w tot0 fromt0=true) (hk:K (e83 (zqj w tot0 fromt0))):z83 K [1,1] [] ⟨[(0,zP (.fp (zaA w) 0)),(3,zp 3 0),(4,zp 4 0)],[(3,.box 116 (zm (zaf tot0))),(4,.box 116 (zm (zaf fromt0)))],[]⟩:=zaM (by kernel_rfl) (zE5 hs hk)
def s83 (w:web):Bool :=
  (zqj w (s75 w (0:Int)) (s76 w (0:Int)))
def p83 (w:web):Bool :=
  (decide ((p75 w (0:Int)=true)) &&
 (decide ((p76 w (0:Int)=true)) &&
 (zqk w (s75 w (0:Int)) (s76 w (0:Int)))))
end
theorem q83 (w:web) (K:List PA->Prop) (hs:p83 w=true) (hk:K (e83 (s83 w))):vcFun Tryd.prog G83 zE4 83 [.one (.fp (zaA w) 0)] K :=
  zaM (by kernel_rfl) (zaJ hs λ hc hs=>And.intro (And.intro (zE enc_40 4 w.Net.Ties.get) (And.intro (rfl:((false,1,false,[none]):MQ)=(false,1,false,[none])) hc)) (zaJ hs λ hc hs=>And.intro (And.intro (zE enc_40 4 w.Net.Ties.get) (And.intro (rfl:((false,1,false,[none]):MQ)=(false,1,false,[none])) hc)) (zE6 hs hk)))
def zwl : List PA → COut
  | [.one (.fp [.int .i64 zao,.sl zai zay zaj,.fm za0 zaD zaE] 0)]=>.det (IsE enc_40 4 zay zaj/\za0=(false,1,false,[none])/\p83 (⟨(⟨zao,(⟨zai,zam zaj⟩:(Sl Tie))⟩:Net),(⟨zaD,zaE⟩:Mp)⟩:web)=true) [.one (.bool (s83 (⟨(⟨zao,(⟨zai,zam zaj⟩:(Sl Tie))⟩:Net),(⟨zaD,zaE⟩:Mp)⟩:web)))]
  | _=>.no
theorem zI7:zar Tryd.prog 83:=⟨_,rfl,rfl,by kernel_rfl⟩
theorem zLZ:Ok Tryd.prog 83 zwl:=za9 zLY zI7 λ args K h=>by
  unfold zwl at h
  split at h
  · rename_i zao zai zay zaj za0 zaD zaE
    obtain⟨⟨⟨rfl,zau,rfl⟩,rfl,hs⟩,hk⟩:=h
    try rw[zak zau] at hs
    try rw[zak zau] at hk
    exact⟨(λ _ _=>[]),(λ _=>false),zE4,q83 (⟨(⟨zao,(⟨zai,zau⟩:(Sl Tie))⟩:Net),(⟨zaD,zaE⟩:Mp)⟩:web) K hs hk⟩
  · exact h.elim
abbrev T85:Tabs:=Tabs.nil
theorem zL0:TabsOk Tryd.prog T85:=TabsOk.nil
abbrev G85:Ctrs:=csm T85 (λ _ _=>[]) (λ _=>false)
def zI8:Ann:=⟨8,[(0,zK [0,1] []),(1,zK [3] [])],
 [],
 [],
 [],[]⟩
abbrev R85:=Int
abbrev e85 (r:R85):List PA:=[.one (.int .i64 r)]
section
variable {K:List PA->Prop}{c0:Tab}{i_a0:Int}
def s85 (c0:Tab) (i_a0:Int):Int :=
  (tg 80 c0 (0+i_a0.toNat * 2+0))
def p85 (c0:Tab) (i_a0:Int):Bool :=
  (decide ((0≤i_a0/\i_a0 < (40:Int))) &&
 true)
end
theorem q85 (c0:Tab) (i_a0:Int) (K:List PA->Prop) (hs:p85 c0 i_a0=true) (hk:K (e85 (s85 c0 i_a0))):vcFun Tryd.prog G85 zI8 85 [.one (.int .i64 i_a0),.one (.fp (zaf c0) 0)] K :=
  zaM (by kernel_rfl) (zaJ hs λ hc hs=>And.intro hc hk)
def zE7 : List PA → COut
  | [.one (.int .i64 a0),.one (.fp c0_t 0)]=>.det (c0_t=zaf (zas c0_t)/\p85 (zas c0_t) a0=true) [.one (.int .i64 (s85 (zas c0_t) a0))]
  | _=>.no
theorem zI9:zar Tryd.prog 85:=⟨_,rfl,rfl,by kernel_rfl⟩
theorem zNU:Ok Tryd.prog 85 zE7:=za9 zL0 zI9 λ args K h=>by
  unfold zE7 at h
  split at h
  · rename_i a0 c0_t
    obtain⟨⟨hT_c0,hs⟩,hk⟩:=h
    exact⟨(λ _ _=>[]),(λ _=>false),zI8,(by have hq:=q85 (zas c0_t) a0 K hs hk;rw[← hT_c0] at hq;exact hq)⟩
  · exact h.elim
abbrev T86:Tabs:=Tabs.nil
theorem zL1:TabsOk Tryd.prog T86:=TabsOk.nil
abbrev G86:Ctrs:=csm T86 (λ _ _=>[]) (λ _=>false)
def zJa:Ann:=⟨9,[(0,zK [0,1] []),(1,zK [3] [])],
 [],
 [],
 [],[]⟩
abbrev R86:=Int
abbrev e86 (r:R86):List PA:=[.one (.int .i64 r)]
section
variable {K:List PA->Prop}{c0:Tab}{i_a0:Int}
def s86 (c0:Tab) (i_a0:Int):Int :=
  (w64 (0 - (tg 80 c0 (0+i_a0.toNat * 2+0))))
def p86 (c0:Tab) (i_a0:Int):Bool :=
  (decide ((0≤i_a0/\i_a0 < (40:Int))) &&
 true)
end
theorem q86 (c0:Tab) (i_a0:Int) (K:List PA->Prop) (hs:p86 c0 i_a0=true) (hk:K (e86 (s86 c0 i_a0))):vcFun Tryd.prog G86 zJa 86 [.one (.int .i64 i_a0),.one (.fp (zaf c0) 0)] K :=
  zaM (by kernel_rfl) (zaJ hs λ hc hs=>And.intro hc hk)
def zE8 : List PA → COut
  | [.one (.int .i64 a0),.one (.fp c0_t 0)]=>.det (c0_t=zaf (zas c0_t)/\p86 (zas c0_t) a0=true) [.one (.int .i64 (s86 (zas c0_t) a0))]
  | _=>.no
theorem zJb:zar Tryd.prog 86:=⟨_,rfl,rfl,by kernel_rfl⟩
theorem zNV:Ok Tryd.prog 86 zE8:=za9 zL1 zJb λ args K h=>by
  unfold zE8 at h
  split at h
  · rename_i a0 c0_t
    obtain⟨⟨hT_c0,hs⟩,hk⟩:=h
    exact⟨(λ _ _=>[]),(λ _=>false),zJa,(by have hq:=q86 (zas c0_t) a0 K hs hk;rw[← hT_c0] at hq;exact hq)⟩
  · exact h.elim
abbrev T87:Tabs:=Tabs.nil
theorem zL2:TabsOk Tryd.prog T87:=TabsOk.nil
abbrev G87:Ctrs:=csm T87 (λ _ _=>[]) (λ _=>false)
def zJc:Ann:=⟨12,[(0,zK [0,1] []),(1,zK [3] [])],
 [],
 [],
 [],[]⟩
abbrev R87:=Int
abbrev e87 (r:R87):List PA:=[.one (.int .i64 r)]
section
variable {K:List PA->Prop}{c0:Tab}{i_a0:Int}
def s87 (c0:Tab) (i_a0:Int):Int :=
  (w64 ((tg 80 c0 (0+i_a0.toNat * 2+0)) - (tg 80 c0 (0+0 * 2+0))))
def p87 (c0:Tab) (i_a0:Int):Bool :=
  (decide ((0≤i_a0/\i_a0 < (40:Int))) &&
 (decide ((0≤(0:Int)/\(0:Int) < (40:Int))) &&
 true))
end
theorem q87 (c0:Tab) (i_a0:Int) (K:List PA->Prop) (hs:p87 c0 i_a0=true) (hk:K (e87 (s87 c0 i_a0))):vcFun Tryd.prog G87 zJc 87 [.one (.int .i64 i_a0),.one (.fp (zaf c0) 0)] K :=
  zaM (by kernel_rfl) (zaJ hs λ hc hs=>And.intro hc (zaJ hs λ hc hs=>And.intro hc hk))
def zE9 : List PA → COut
  | [.one (.int .i64 a0),.one (.fp c0_t 0)]=>.det (c0_t=zaf (zas c0_t)/\p87 (zas c0_t) a0=true) [.one (.int .i64 (s87 (zas c0_t) a0))]
  | _=>.no
theorem zJd:zar Tryd.prog 87:=⟨_,rfl,rfl,by kernel_rfl⟩
theorem zNW:Ok Tryd.prog 87 zE9:=za9 zL2 zJd λ args K h=>by
  unfold zE9 at h
  split at h
  · rename_i a0 c0_t
    obtain⟨⟨hT_c0,hs⟩,hk⟩:=h
    exact⟨(λ _ _=>[]),(λ _=>false),zJc,(by have hq:=q87 (zas c0_t) a0 K hs hk;rw[← hT_c0] at hq;exact hq)⟩
  · exact h.elim
abbrev T84:Tabs:=(((Tabs.nil.addF 85 zE7).addF 86 zE8).addF 87 zE9)
theorem zL3:TabsOk Tryd.prog T84:=(((TabsOk.nil.addF zNU).addF zNV).addF zNW)
abbrev G84:Ctrs:=csm T84 (λ _ _=>[]) (λ _=>false)
def zFa:Ann:=⟨26,[(0,zK [0,1] []),(1,zK [1,5] [12]),(2,zK [1,5,14,15] [12]),(3,zK [1,5,14,15,16] [12]),(4,zK [1,5,6,14,15] [12]),(5,zK [1,5,14,15] [12]),(6,zK [1,5,14,15] [12]),(7,zK [4] [12])],
 [(3,zK [1,5,14,15] [12])],
 [],
 [],[]⟩
abbrev R84:=(Sl Int)
abbrev e84 (r:R84):List PA:=[.one (.sl r.len 1 (λ i=>zad (r.get i)))]
@[irreducible] def z84:=ptF Tryd.prog G84 zFa Tryd.f84
def zCK (c0:Tab) (w:web) (zaG:Int) (zaW:(Sl Int)) (zbu:Nat->List PV):St:=⟨[(1,zP (.fn 87 [] [.fp (zaf c0) 0])),(5,zv 12),(14,zI (w.Net.Nodes.toNat:Int)),(15,zI zaG)],[(12,.vec 3 1 8 zaW.len zbu)],[]⟩
abbrev zJe (K:List PA->Prop) (c0:Tab) (w:web) (X:St->Prop) (P:Int->(Sl Int)->Bool) (S:Int->(Sl Int)->(Sl Int)):Prop:=∀ ⦃zaG:Int⦄ ⦃zaW:(Sl Int)⦄ ⦃zbu:Nat->List PV⦄,P zaG zaW=true->K (e84 (S zaG zaW))->zbu=zg zad zaW->X (zCK c0 w zaG zaW zbu)
section
variable {K:List PA->Prop}{c0:Tab}{w:web}{zaG:Int}{zaW:(Sl Int)}{zbu:Nat->List PV}{X0:St->Prop}{P0:Int->(Sl Int)->Bool}{S0:Int->(Sl Int)->(Sl Int)}
def zir (c0:Tab) (w:web) (S0:Int->(Sl Int)->(Sl Int)) (zaG:Int) (zaW:(Sl Int)):(Sl Int) :=
  (cond (decide (zaG < (w.Net.Nodes.toNat : Int)))
 (S0 (w64 (zaG+(1:Int))) (⟨zaW.len,(setT zaG.toNat (s87 (zas (zaf c0)) zaG) zaW.get)⟩:Sl Int))
 zaW)
def zis (c0:Tab) (w:web) (P0:Int->(Sl Int)->Bool) (zaG:Int) (zaW:(Sl Int)):Bool :=
  (cond (decide (zaG < (w.Net.Nodes.toNat : Int)))
 (decide ((p87 (zas (zaf c0)) zaG=true)) &&
 (decide ((0≤zaG/\zaG < (zaW.len:Int))) &&
 (decide ((zaG.toNat < zaW.len)) &&
 (P0 (w64 (zaG+(1:Int))) (⟨zaW.len,(setT zaG.toNat (s87 (zas (zaf c0)) zaG) zaW.get)⟩:Sl Int)))))
 true)
def zgU (c0:Tab) (w:web):Nat->Int->(Sl Int)->(Sl Int):=lpO (λ _ _=>default) (zir c0 w)
def zgV (c0:Tab) (w:web):Nat->Int->(Sl Int)->Bool:=lpO (λ _ _=>false) (zis c0 w)
def zwm (c0:Tab) (w:web) (zaG:Int) (zaW:(Sl Int)):(Sl Int):=zgU c0 w Fuel zaG zaW
def zwn (c0:Tab) (w:web) (zaG:Int) (zaW:(Sl Int)):Bool:=zgV c0 w Fuel zaG zaW
theorem zFb (hs:zwn c0 w zaG zaW=true) (hk:K (e84 (zwm c0 w zaG zaW))) (zdT:zbu=zg zad zaW):z84 K [1,1,0,1,0] [] (zCK c0 w zaG zaW zbu) :=
  zl (λ X=>z84 K [1,1,0,1,0,0] [X]) (by kernel_rfl) λ X0 hX =>
  (show ∀ k, zJe K c0 w X0 (zgV c0 w k) (zgU c0 w k) from zd1 _ _ (zis c0 w) (zir c0 w) (zJe K c0 w X0)
 (by intro _ _ _ hs;exact absurd hs Bool.false_ne_true)
 (by intro P0 S0 hX0 zaG zaW zbu hs hk zdT;subst zdT;exact hX _ (zaM (by kernel_rfl) (zc hs hk (λ hs hk=>(zaJ hs λ hc hs=>And.intro (And.intro (zeV:zaf c0=zaf (zas (zaf c0))) hc) (zaJ hs λ hc hs=>And.intro hc (zaJ hs λ hc hs=>And.intro hc (hX0 hs hk (zfj (enc:=zad) (i:=zaG.toNat) (k:=0) (f:=zaW.get) (new:=(zad (s87 (zas (zaf c0)) zaG))) (v:=(s87 (zas (zaf c0)) zaG)) rfl rfl)))))) (λ hs hk=>hk))))) _ hs hk zdT
def s84 (c0:Tab) (w:web):(Sl Int) :=
  (zwm c0 w (0:Int) (⟨w.Net.Nodes.toNat,(λ _=>(0:Int))⟩:Sl Int))
def p84 (c0:Tab) (w:web):Bool :=
  (decide ((0≤w.Net.Nodes/\w.Net.Nodes=w.Net.Nodes/\w.Net.Nodes≤1000000)) &&
 (zwn c0 w (0:Int) (⟨w.Net.Nodes.toNat,(λ _=>(0:Int))⟩:Sl Int)))
end
theorem q84 (c0:Tab) (w:web) (K:List PA->Prop) (hs:p84 c0 w=true) (hk:K (e84 (s84 c0 w))):vcFun Tryd.prog G84 zFa 84 [.one (.fp (zaA w) 0),.one (.fn 87 [] [.fp (zaf c0) 0])] K :=
  zaM (by kernel_rfl) (zaJ hs λ hc hs=>And.intro hc (zFb hs hk rfl))
abbrev zNm:Ctrs:=csm T84 (λ _ _=>[]) (λ _=>false)
def zwo:Ann:=⟨26,[(0,zK [0,1] []),(1,zK [1,5] [12]),(2,zK [1,5,14,15] [12]),(3,zK [1,5,14,15,16] [12]),(4,zK [1,5,6,14,15] [12]),(5,zK [1,5,14,15] [12]),(6,zK [1,5,14,15] [12]),(7,zK [4] [12])],
 [(3,zK [1,5,14,15] [12])],
 [],
 [],[]⟩
abbrev zNX:=(Sl Int)
abbrev zL4 (r:zNX):List PA:=[.one (.sl r.len 1 (λ i=>zad (r.get i)))]
@[irreducible] def z84a:=ptF Tryd.prog zNm zwo Tryd.f84
def zwp (c0:Tab) (w:web) (zaG:Int) (zaW:(Sl Int)) (zbu:Nat->List PV):St:=⟨[(1,zP (.fn 85 [] [.fp (zaf c0) 0])),(5,zv 12),(14,zI (w.Net.Nodes.toNat:Int)),(15,zI zaG)],[(12,.vec 3 1 8 zaW.len zbu)],[]⟩
abbrev zCL (K:List PA->Prop) (c0:Tab) (w:web) (X:St->Prop) (P:Int->(Sl Int)->Bool) (S:Int->(Sl Int)->(Sl Int)):Prop:=∀ ⦃zaG:Int⦄ ⦃zaW:(Sl Int)⦄ ⦃zbu:Nat->List PV⦄,P zaG zaW=true->K (zL4 (S zaG zaW))->zbu=zg zad zaW->X (zwp c0 w zaG zaW zbu)
section
variable {K:List PA->Prop}{c0:Tab}{w:web}{zaG:Int}{zaW:(Sl Int)}{zbu:Nat->List PV}{X0:St->Prop}{P0:Int->(Sl Int)->Bool}{S0:Int->(Sl Int)->(Sl Int)}
def zgn (c0:Tab) (w:web) (S0:Int->(Sl Int)->(Sl Int)) (zaG:Int) (zaW:(Sl Int)):(Sl Int) :=
  (cond (decide (zaG < (w.Net.Nodes.toNat : Int)))
 (S0 (w64 (zaG+(1:Int))) (⟨zaW.len,(setT zaG.toNat (s85 (zas (zaf c0)) zaG) zaW.get)⟩:Sl Int))
 zaW)
def zgo (c0:Tab) (w:web) (P0:Int->(Sl Int)->Bool) (zaG:Int) (zaW:(Sl Int)):Bool :=
  (cond (decide (zaG < (w.Net.Nodes.toNat : Int)))
 (decide ((p85 (zas (zaf c0)) zaG=true)) &&
 (decide ((0≤zaG/\zaG < (zaW.len:Int))) &&
 (decide ((zaG.toNat < zaW.len)) &&
 (P0 (w64 (zaG+(1:Int))) (⟨zaW.len,(setT zaG.toNat (s85 (zas (zaf c0)) zaG) zaW.get)⟩:Sl Int)))))
 true)
def ze0 (c0:Tab) (w:web):Nat->Int->(Sl Int)->(Sl Int):=lpO (λ _ _=>default) (zgn c0 w)
def ze1 (c0:Tab) (w:web):Nat->Int->(Sl Int)->Bool:=lpO (λ _ _=>false) (zgo c0 w)
def zsr (c0:Tab) (w:web) (zaG:Int) (zaW:(Sl Int)):(Sl Int):=ze0 c0 w Fuel zaG zaW
def zss (c0:Tab) (w:web) (zaG:Int) (zaW:(Sl Int)):Bool:=ze1 c0 w Fuel zaG zaW
theorem zBp (hs:zss c0 w zaG zaW=true) (hk:K (zL4 (zsr c0 w zaG zaW))) (zdT:zbu=zg zad zaW):z84a K [1,1,0,1,0] [] (zwp c0 w zaG zaW zbu) :=
  zl (λ X=>z84a K [1,1,0,1,0,0] [X]) (by kernel_rfl) λ X0 hX =>
  (show ∀ k, zCL K c0 w X0 (ze1 c0 w k) (ze0 c0 w k) from zd1 _ _ (zgo c0 w) (zgn c0 w) (zCL K c0 w X0)
 (by intro _ _ _ hs;exact absurd hs Bool.false_ne_true)
 (by intro P0 S0 hX0 zaG zaW zbu hs hk zdT;subst zdT;exact hX _ (zaM (by kernel_rfl) (zc hs hk (λ hs hk=>(zaJ hs λ hc hs=>And.intro (And.intro (zeV:zaf c0=zaf (zas (zaf c0))) hc) (zaJ hs λ hc hs=>And.intro hc (zaJ hs λ hc hs=>And.intro hc (hX0 hs hk (zfj (enc:=zad) (i:=zaG.toNat) (k:=0) (f:=zaW.get) (new:=(zad (s85 (zas (zaf c0)) zaG))) (v:=(s85 (zas (zaf c0)) zaG)) rfl rfl)))))) (λ hs hk=>hk))))) _ hs hk zdT
def zwq (c0:Tab) (w:web):(Sl Int) :=
  (zsr c0 w (0:Int) (⟨w.Net.Nodes.toNat,(λ _=>(0:Int))⟩:Sl Int))
def zHR (c0:Tab) (w:web):Bool :=
  (decide ((0≤w.Net.Nodes/\w.Net.Nodes=w.Net.Nodes/\w.Net.Nodes≤1000000)) &&
 (zss c0 w (0:Int) (⟨w.Net.Nodes.toNat,(λ _=>(0:Int))⟩:Sl Int)))
end
theorem zNY (c0:Tab) (w:web) (K:List PA->Prop) (hs:zHR c0 w=true) (hk:K (zL4 (zwq c0 w))):vcFun Tryd.prog zNm zwo 84 [.one (.fp (zaA w) 0),.one (.fn 85 [] [.fp (zaf c0) 0])] K :=
  zaM (by kernel_rfl) (zaJ hs λ hc hs=>And.intro hc (zBp hs hk rfl))
abbrev zNn:Ctrs:=csm T84 (λ _ _=>[]) (λ _=>false)
def zwr:Ann:=⟨26,[(0,zK [0,1] []),(1,zK [1,5] [12]),(2,zK [1,5,14,15] [12]),(3,zK [1,5,14,15,16] [12]),(4,zK [1,5,6,14,15] [12]),(5,zK [1,5,14,15] [12]),(6,zK [1,5,14,15] [12]),(7,zK [4] [12])],
 [(3,zK [1,5,14,15] [12])],
 [],
 [],[]⟩
abbrev zNZ:=(Sl Int)
abbrev zL5 (r:zNZ):List PA:=[.one (.sl r.len 1 (λ i=>zad (r.get i)))]
@[irreducible] def z84b:=ptF Tryd.prog zNn zwr Tryd.f84
def zwt (c0:Tab) (w:web) (zaG:Int) (zaW:(Sl Int)) (zbu:Nat->List PV):St:=⟨[(1,zP (.fn 86 [] [.fp (zaf c0) 0])),(5,zv 12),(14,zI (w.Net.Nodes.toNat:Int)),(15,zI zaG)],[(12,.vec 3 1 8 zaW.len zbu)],[]⟩
abbrev zCM (K:List PA->Prop) (c0:Tab) (w:web) (X:St->Prop) (P:Int->(Sl Int)->Bool) (S:Int->(Sl Int)->(Sl Int)):Prop:=∀ ⦃zaG:Int⦄ ⦃zaW:(Sl Int)⦄ ⦃zbu:Nat->List PV⦄,P zaG zaW=true->K (zL5 (S zaG zaW))->zbu=zg zad zaW->X (zwt c0 w zaG zaW zbu)
section
variable {K:List PA->Prop}{c0:Tab}{w:web}{zaG:Int}{zaW:(Sl Int)}{zbu:Nat->List PV}{X0:St->Prop}{P0:Int->(Sl Int)->Bool}{S0:Int->(Sl Int)->(Sl Int)}
def zgp (c0:Tab) (w:web) (S0:Int->(Sl Int)->(Sl Int)) (zaG:Int) (zaW:(Sl Int)):(Sl Int) :=
  (cond (decide (zaG < (w.Net.Nodes.toNat : Int)))
 (S0 (w64 (zaG+(1:Int))) (⟨zaW.len,(setT zaG.toNat (s86 (zas (zaf c0)) zaG) zaW.get)⟩:Sl Int))
 zaW)
def zgq (c0:Tab) (w:web) (P0:Int->(Sl Int)->Bool) (zaG:Int) (zaW:(Sl Int)):Bool :=
  (cond (decide (zaG < (w.Net.Nodes.toNat : Int)))
 (decide ((p86 (zas (zaf c0)) zaG=true)) &&
 (decide ((0≤zaG/\zaG < (zaW.len:Int))) &&
 (decide ((zaG.toNat < zaW.len)) &&
 (P0 (w64 (zaG+(1:Int))) (⟨zaW.len,(setT zaG.toNat (s86 (zas (zaf c0)) zaG) zaW.get)⟩:Sl Int)))))
 true)
def ze2 (c0:Tab) (w:web):Nat->Int->(Sl Int)->(Sl Int):=lpO (λ _ _=>default) (zgp c0 w)
def ze3 (c0:Tab) (w:web):Nat->Int->(Sl Int)->Bool:=lpO (λ _ _=>false) (zgq c0 w)
def zst (c0:Tab) (w:web) (zaG:Int) (zaW:(Sl Int)):(Sl Int):=ze2 c0 w Fuel zaG zaW
def zsu (c0:Tab) (w:web) (zaG:Int) (zaW:(Sl Int)):Bool:=ze3 c0 w Fuel zaG zaW
theorem zBq (hs:zsu c0 w zaG zaW=true) (hk:K (zL5 (zst c0 w zaG zaW))) (zdT:zbu=zg zad zaW):z84b K [1,1,0,1,0] [] (zwt c0 w zaG zaW zbu) :=
  zl (λ X=>z84b K [1,1,0,1,0,0] [X]) (by kernel_rfl) λ X0 hX =>
  (show ∀ k, zCM K c0 w X0 (ze3 c0 w k) (ze2 c0 w k) from zd1 _ _ (zgq c0 w) (zgp c0 w) (zCM K c0 w X0)
 (by intro _ _ _ hs;exact absurd hs Bool.false_ne_true)
 (by intro P0 S0 hX0 zaG zaW zbu hs hk zdT;subst zdT;exact hX _ (zaM (by kernel_rfl) (zc hs hk (λ hs hk=>(zaJ hs λ hc hs=>And.intro (And.intro (zeV:zaf c0=zaf (zas (zaf c0))) hc) (zaJ hs λ hc hs=>And.intro hc (zaJ hs λ hc hs=>And.intro hc (hX0 hs hk (zfj (enc:=zad) (i:=zaG.toNat) (k:=0) (f:=zaW.get) (new:=(zad (s86 (zas (zaf c0)) zaG))) (v:=(s86 (zas (zaf c0)) zaG)) rfl rfl)))))) (λ hs hk=>hk))))) _ hs hk zdT
def zwu (c0:Tab) (w:web):(Sl Int) :=
  (zst c0 w (0:Int) (⟨w.Net.Nodes.toNat,(λ _=>(0:Int))⟩:Sl Int))
def zHS (c0:Tab) (w:web):Bool :=
  (decide ((0≤w.Net.Nodes/\w.Net.Nodes=w.Net.Nodes/\w.Net.Nodes≤1000000)) &&
 (zsu c0 w (0:Int) (⟨w.Net.Nodes.toNat,(λ _=>(0:Int))⟩:Sl Int)))
end
theorem zN0 (c0:Tab) (w:web) (K:List PA->Prop) (hs:zHS c0 w=true) (hk:K (zL5 (zwu c0 w))):vcFun Tryd.prog zNn zwr 84 [.one (.fp (zaA w) 0),.one (.fn 86 [] [.fp (zaf c0) 0])] K :=
  zaM (by kernel_rfl) (zaJ hs λ hc hs=>And.intro hc (zBq hs hk rfl))
def zwv : List PA → COut
  | [.one (.fp [.int .i64 zao,.sl zai zay zaj,.fm za0 zaD zaE] 0),.one (.fn 87 [] [.fp c0_t 0])]=>.det (IsE enc_40 4 zay zaj/\za0=(false,1,false,[none])/\c0_t=zaf (zas c0_t)/\p84 (zas c0_t) (⟨(⟨zao,(⟨zai,zam zaj⟩:(Sl Tie))⟩:Net),(⟨zaD,zaE⟩:Mp)⟩:web)=true) [.one (.sl ((s84 (zas c0_t) (⟨(⟨zao,(⟨zai,zam zaj⟩:(Sl Tie))⟩:Net),(⟨zaD,zaE⟩:Mp)⟩:web)).len) 1 (λ i=>zad ((s84 (zas c0_t) (⟨(⟨zao,(⟨zai,zam zaj⟩:(Sl Tie))⟩:Net),(⟨zaD,zaE⟩:Mp)⟩:web)).get i)))]
  | [.one (.fp [.int .i64 zao,.sl zai zay zaj,.fm za0 zaD zaE] 0),.one (.fn 85 [] [.fp c0_t 0])]=>.det (IsE enc_40 4 zay zaj/\za0=(false,1,false,[none])/\c0_t=zaf (zas c0_t)/\zHR (zas c0_t) (⟨(⟨zao,(⟨zai,zam zaj⟩:(Sl Tie))⟩:Net),(⟨zaD,zaE⟩:Mp)⟩:web)=true) [.one (.sl ((zwq (zas c0_t) (⟨(⟨zao,(⟨zai,zam zaj⟩:(Sl Tie))⟩:Net),(⟨zaD,zaE⟩:Mp)⟩:web)).len) 1 (λ i=>zad ((zwq (zas c0_t) (⟨(⟨zao,(⟨zai,zam zaj⟩:(Sl Tie))⟩:Net),(⟨zaD,zaE⟩:Mp)⟩:web)).get i)))]
  | [.one (.fp [.int .i64 zao,.sl zai zay zaj,.fm za0 zaD zaE] 0),.one (.fn 86 [] [.fp c0_t 0])]=>.det (IsE enc_40 4 zay zaj/\za0=(false,1,false,[none])/\c0_t=zaf (zas c0_t)/\zHS (zas c0_t) (⟨(⟨zao,(⟨zai,zam zaj⟩:(Sl Tie))⟩:Net),(⟨zaD,zaE⟩:Mp)⟩:web)=true) [.one (.sl ((zwu (zas c0_t) (⟨(⟨zao,(⟨zai,zam zaj⟩:(Sl Tie))⟩:Net),(⟨zaD,zaE⟩:Mp)⟩:web)).len) 1 (λ i=>zad ((zwu (zas c0_t) (⟨(⟨zao,(⟨zai,zam zaj⟩:(Sl Tie))⟩:Net),(⟨zaD,zaE⟩:Mp)⟩:web)).get i)))]
  | _=>.no
theorem zJf:zar Tryd.prog 84:=⟨_,rfl,rfl,by kernel_rfl⟩
theorem zL6:Ok Tryd.prog 84 zwv:=za9 zL3 zJf λ args K h=>by
  unfold zwv at h
  split at h
  · rename_i zao zai zay zaj za0 zaD zaE c0_t
    obtain⟨⟨⟨rfl,zau,rfl⟩,rfl,hT_c0,hs⟩,hk⟩:=h
    try rw[zak zau] at hs
    try rw[zak zau] at hk
    exact⟨(λ _ _=>[]),(λ _=>false),zFa,(by have hq:=q84 (zas c0_t) (⟨(⟨zao,(⟨zai,zau⟩:(Sl Tie))⟩:Net),(⟨zaD,zaE⟩:Mp)⟩:web) K hs hk;rw[← hT_c0] at hq;exact hq)⟩
  · rename_i zao zai zay zaj za0 zaD zaE c0_t
    obtain⟨⟨⟨rfl,zau,rfl⟩,rfl,hT_c0,hs⟩,hk⟩:=h
    try rw[zak zau] at hs
    try rw[zak zau] at hk
    exact⟨(λ _ _=>[]),(λ _=>false),zwo,(by have hq:=zNY (zas c0_t) (⟨(⟨zao,(⟨zai,zau⟩:(Sl Tie))⟩:Net),(⟨zaD,zaE⟩:Mp)⟩:web) K hs hk;rw[← hT_c0] at hq;exact hq)⟩
  · rename_i zao zai zay zaj za0 zaD zaE c0_t
    obtain⟨⟨⟨rfl,zau,rfl⟩,rfl,hT_c0,hs⟩,hk⟩:=h
    try rw[zak zau] at hs
    try rw[zak zau] at hk
    exact⟨(λ _ _=>[]),(λ _=>false),zwr,(by have hq:=zN0 (zas c0_t) (⟨(⟨zao,(⟨zai,zau⟩:(Sl Tie))⟩:Net),(⟨zaD,zaE⟩:Mp)⟩:web) K hs hk;rw[← hT_c0] at hq;exact hq)⟩
  · exact h.elim
abbrev T45:Tabs:=((((Tabs.nil.addF 74 zp5).addF 76 zt7).addF 83 zwl).addF 84 zwv)
theorem zL7:TabsOk Tryd.prog T45:=((((TabsOk.nil.addF zIV).addF zLk).addF zLZ).addF zL6)
abbrev G45:Ctrs:=csm T45 (λ _ _=>[]) (λ _=>false)
def zJg:Ann:=⟨31,[(0,zK [1,2,3] [3]),(1,zK [1,8,9] []),(2,zK [1,8,9,20] []),(3,zK [6,7] []),(4,zK [1,8,24] []),(5,zK [6,7] []),(6,zK [8,10] [10]),(7,zK [6,7] [])],
 [],
 [],
 [],[]⟩
abbrev R45:=((Sl Int)×Int)
abbrev e45 (r:R45):List PA:=[.one (.sl r.1.len 1 (λ i=>zad (r.1.get i))),.one (.int .i64 r.2)]
section
variable {K:List PA->Prop}{n:Net}{from_a1:Int}{to:Int}
def s45 (n:Net) (from_a1:Int) (to:Int):((Sl Int)×Int) :=
  (cond ((s74 n (⟨2, zav (zbo [(zad from_a1), (zad to)])⟩ : (Sl Int))).2 == 0)
 (cond ((0:Int) != (0:Int))
 ((⟨0,λ _=>default⟩:(Sl Int)),(0:Int))
 (cond (!(s83 (⟨(s74 n (⟨2, zav (zbo [(zad from_a1), (zad to)])⟩ : (Sl Int))).1.Net, ((s74 n (⟨2, zav (zbo [(zad from_a1), (zad to)])⟩ : (Sl Int))).1.out)⟩ : web)))
 ((⟨0,λ _=>default⟩:(Sl Int)),(6:Int))
 ((s84 (zas (zaf (s76 (⟨(s74 n (⟨2,zav (zbo [(zad from_a1),(zad to)])⟩:(Sl Int))).1.Net,((s74 n (⟨2,zav (zbo [(zad from_a1),(zad to)])⟩:(Sl Int))).1.out)⟩:web) from_a1))) (⟨(s74 n (⟨2,zav (zbo [(zad from_a1),(zad to)])⟩:(Sl Int))).1.Net,((s74 n (⟨2,zav (zbo [(zad from_a1),(zad to)])⟩:(Sl Int))).1.out)⟩:web)),(0:Int))))
 (cond ((s74 n (⟨2, zav (zbo [(zad from_a1), (zad to)])⟩ : (Sl Int))).2 != (0:Int))
 ((⟨0,λ _=>default⟩:(Sl Int)),(s74 n (⟨2,zav (zbo [(zad from_a1),(zad to)])⟩:(Sl Int))).2)
 default))
def p45 (n:Net) (from_a1:Int) (to:Int):Bool :=
  (cond ((s74 n (⟨2, zav (zbo [(zad from_a1), (zad to)])⟩ : (Sl Int))).2 == 0)
 (decide ((p74 n (⟨2,zav (zbo [(zad from_a1),(zad to)])⟩:(Sl Int))=true)) &&
 (cond ((0:Int) != (0:Int))
 true
 (decide ((p83 (⟨(s74 n (⟨2,zav (zbo [(zad from_a1),(zad to)])⟩:(Sl Int))).1.Net,((s74 n (⟨2,zav (zbo [(zad from_a1),(zad to)])⟩:(Sl Int))).1.out)⟩:web)=true)) &&
 (cond (!(s83 (⟨(s74 n (⟨2, zav (zbo [(zad from_a1), (zad to)])⟩ : (Sl Int))).1.Net, ((s74 n (⟨2, zav (zbo [(zad from_a1), (zad to)])⟩ : (Sl Int))).1.out)⟩ : web)))
 true
 (decide ((p76 (⟨(s74 n (⟨2,zav (zbo [(zad from_a1),(zad to)])⟩:(Sl Int))).1.Net,((s74 n (⟨2,zav (zbo [(zad from_a1),(zad to)])⟩:(Sl Int))).1.out)⟩:web) from_a1=true)) &&
 (decide ((p84 (zas (zaf (s76 (⟨(s74 n (⟨2,zav (zbo [(zad from_a1),(zad to)])⟩:(Sl Int))).1.Net,((s74 n (⟨2,zav (zbo [(zad from_a1),(zad to)])⟩:(Sl Int))).1.out)⟩:web) from_a1))) (⟨(s74 n (⟨2,zav (zbo [(zad from_a1),(zad to)])⟩:(Sl Int))).1.Net,((s74 n (⟨2,zav (zbo [(zad from_a1),(zad to)])⟩:(Sl Int))).1.out)⟩:web)=true)) &&
 true))))))
 (decide ((p74 n (⟨2,zav (zbo [(zad from_a1),(zad to)])⟩:(Sl Int))=true)) &&
 (cond ((s74 n (⟨2, zav (zbo [(zad from_a1), (zad to)])⟩ : (Sl Int))).2 != (0:Int))
 true
 false)))
end
theorem q45 (n:Net) (from_a1:Int) (to:Int) (K:List PA->Prop) (hs:p45 n from_a1 to=true) (hk:K (e45 (s45 n from_a1 to))):vcFun Tryd.prog G45 zJg 45 [.agg (enc_24 n),.one (.int .i64 from_a1),.one (.int .i64 to)] (Wk K) :=
  zaM (by kernel_rfl) (zc hs hk (λ hs hk=>(zaJ hs λ hc hs=>And.intro (And.intro (zE enc_40 4 n.Ties.get) (And.intro ((zee []):IsE zad 1 1 (zbo [(zad from_a1),(zad to)])) hc)) (zc hs hk (λ hs hk=>((wk hk (zeF (.one (.nil _ _)) (zeF (.one (.rfl _)) zkK))):Wk K [.one (.nils),.one (.int .i64 (0:Int))])) (λ hs hk=>(zaJ hs λ hc hs=>And.intro (And.intro (zE enc_40 4 ((s74 n (⟨2,zav (zbo [(zad from_a1),(zad to)])⟩:(Sl Int))).1.Net.Ties.get)) (And.intro (rfl:((false,1,false,[none]):MQ)=(false,1,false,[none])) hc)) (zc hs hk (λ hs hk=>((wk hk (zeF (.one (.nil _ _)) (zeF (.one (.rfl _)) zkK))):Wk K [.one (.nils),.one (.int .i64 (6:Int))])) (λ hs hk=>(zaJ hs λ hc hs=>And.intro (And.intro (zE enc_40 4 ((s74 n (⟨2,zav (zbo [(zad from_a1),(zad to)])⟩:(Sl Int))).1.Net.Ties.get)) (And.intro (rfl:((false,1,false,[none]):MQ)=(false,1,false,[none])) hc)) (zaJ hs λ hc hs=>And.intro (And.intro (zE enc_40 4 ((s74 n (⟨2,zav (zbo [(zad from_a1),(zad to)])⟩:(Sl Int))).1.Net.Ties.get)) (And.intro (rfl:((false,1,false,[none]):MQ)=(false,1,false,[none])) (And.intro (zeV:zaf (s76 (⟨(s74 n (⟨2,zav (zbo [(zad from_a1),(zad to)])⟩:(Sl Int))).1.Net,((s74 n (⟨2,zav (zbo [(zad from_a1),(zad to)])⟩:(Sl Int))).1.out)⟩:web) from_a1)=zaf (zas (zaf (s76 (⟨(s74 n (⟨2,zav (zbo [(zad from_a1),(zad to)])⟩:(Sl Int))).1.Net,((s74 n (⟨2,zav (zbo [(zad from_a1),(zad to)])⟩:(Sl Int))).1.out)⟩:web) from_a1)))) hc))) ((zfl hk):Wk K [.one (.sl ((s84 (zas (zaf (s76 (⟨(s74 n (⟨2,zav (zbo [(zad from_a1),(zad to)])⟩:(Sl Int))).1.Net,((s74 n (⟨2,zav (zbo [(zad from_a1),(zad to)])⟩:(Sl Int))).1.out)⟩:web) from_a1))) (⟨(s74 n (⟨2,zav (zbo [(zad from_a1),(zad to)])⟩:(Sl Int))).1.Net,((s74 n (⟨2,zav (zbo [(zad from_a1),(zad to)])⟩:(Sl Int))).1.out)⟩:web)).len) 1 (λ i=>zad ((s84 (zas (zaf (s76 (⟨(s74 n (⟨2,zav (zbo [(zad from_a1),(zad to)])⟩:(Sl Int))).1.Net,((s74 n (⟨2,zav (zbo [(zad from_a1),(zad to)])⟩:(Sl Int))).1.out)⟩:web) from_a1))) (⟨(s74 n (⟨2,zav (zbo [(zad from_a1),(zad to)])⟩:(Sl Int))).1.Net,((s74 n (⟨2,zav (zbo [(zad from_a1),(zad to)])⟩:(Sl Int))).1.out)⟩:web)).get i))),.one (.int .i64 (0:Int))])))))))))) (λ hs hk=>(zaJ hs λ hc hs=>And.intro (And.intro (zE enc_40 4 n.Ties.get) (And.intro ((zee []):IsE zad 1 1 (zbo [(zad from_a1),(zad to)])) hc)) (zc hs hk (λ hs hk=>((wk hk (zeF (.one (.nil _ _)) (zeF (.one (.rfl _)) zkK))):Wk K [.one (.nils),.one (.int .i64 ((s74 n (⟨2,zav (zbo [(zad from_a1),(zad to)])⟩:(Sl Int))).2))])) (λ hs hk=>(absurd hs Bool.false_ne_true:False))))))
def zBr : List PA → COut
  | [.agg [.int .i64 zae,.sl zac zat zab],.one (.int .i64 a1),.one (.int .i64 a2)]=>.det (IsE enc_40 4 zat zab/\p45 (⟨zae,(⟨zac,zam zab⟩:(Sl Tie))⟩:Net) a1 a2=true) [.one (.sl (((s45 (⟨zae,(⟨zac,zam zab⟩:(Sl Tie))⟩:Net) a1 a2).1).len) 1 (λ i=>zad (((s45 (⟨zae,(⟨zac,zam zab⟩:(Sl Tie))⟩:Net) a1 a2).1).get i))),.one (.int .i64 ((s45 (⟨zae,(⟨zac,zam zab⟩:(Sl Tie))⟩:Net) a1 a2).2))]
  | _=>.no
theorem zJh:zar Tryd.prog 45:=⟨_,rfl,rfl,by kernel_rfl⟩
theorem zNo:Ok Tryd.prog 45 zBr:=zfF zL7 zJh λ args K h=>by
  unfold zBr at h
  split at h
  · rename_i zae zac zat zab a1 a2
    obtain⟨⟨⟨rfl,zan,rfl⟩,hs⟩,hk⟩:=h
    try rw[zak zan] at hs
    try rw[zak zan] at hk
    exact⟨_,zeE zfk _,(λ _ _=>[]),(λ _=>false),zJg,q45 (⟨zae,(⟨zac,zan⟩:(Sl Tie))⟩:Net) a1 a2 K hs hk⟩
  · exact h.elim
abbrev zNp:Tabs:=(((Tabs.nil.addF 93 zoy).addF 104 zoB).addI 110 zoA)
theorem zJi:TabsOk Tryd.prog zNp:=(((TabsOk.nil.addF zHQ).addF zEP).addI zt6)
abbrev zLm:Ctrs:=csm zNp (λ _ _=>[]) (λ _=>false)
def zoC:Ann:=⟨91,[(0,zK [0,2,4] [4]),(1,zK [0,2,4,7] [4,7,15]),(2,zK [0,2,4,7,17,18] [4,7,15]),(3,zK [0,2,4,7,17,18,19] [4,7,15]),(4,zK [0,2,4,7,8,17,18] [4,7,15]),(5,zK [0,2,4,7,8,17,18,21] [4,7,15]),(6,zK [0,2,4,7,8,17,18,21,22] [4,7,15]),(7,zK [0,2,4,7,8,9,17,18,21] [4,7,15]),(8,zK [0,2,4,7,8,17,18,21] [4,7,15]),(9,zK [0,2,4,7,8,17,18,21] [4,7,15]),(10,zK [0,2,4,7,17,18] [4,7,15]),(11,zK [0,2,4,7] [4,7,15]),(12,zK [0,2,4,7,10] [4,7,10,15]),(13,zK [0,2,4,7,10,39] [4,7,10,15]),(14,zK [0,2,4,7,10] [4,7,10,15]),(15,zK [0,2,4,7,10,43] [4,7,10,15]),(16,zK [0,2,4,7,10,11,43] [4,7,10,11,15]),(17,zK [0,2,4,7,10,11,12,43] [4,7,10,11,12,15]),(18,zK [0,2,4,7,10,11,12,43,67] [4,7,10,11,12,15]),(19,zK [0,2,4,7,10,43] [4,7,10,15]),(20,zK [0,2,4,7,89] [4,7,15]),(21,zK [0,2,4,7,10] [4,7,10,15]),(22,zK [6] [15])],
 [(3,zK [0,2,4,7,17,18] [4,7,15]),(6,zK [0,2,4,7,8,17,18,21] [4,7,15]),(13,zK [0,2,4,7,10] [4,7,10,15]),(16,zK [0,2,4,7,10,43] [4,7,10,15])],
 [(11,zK [0,2,4,7] [4,7,15])],
 [],[]⟩
abbrev zN1:=(Sl Tab)
abbrev zAg (r:zN1):List PA:=[.one (.sl r.len 80 (λ i=>zaf (r.get i)))]
@[irreducible] def z106:=ptF Tryd.prog zLm zoC Tryd.f106
@[irreducible] def x106:=exF Tryd.prog zLm zoC Tryd.f106
@[irreducible] def y106:=rnF Tryd.prog zLm zoC Tryd.f106
def zww (w:web) (node:Int) (uses:Int) (zd2:Int) (zd3:(Sl Tab)) (zfQ:Nat->List PV):St:=⟨[(0,zP (.fp (zaA w) 0)),(2,zI uses),(4,zp 4 0),(7,zp 7 0),(17,zI ((w64 (uses+(1:Int))).toNat:Int)),(18,zI zd2)],[(4,.box 3 [zi node]),(7,.box 159 [.vec 15]),(15,.vec 116 80 640 zd3.len zfQ)],[]⟩
abbrev zwx (K:List PA->Prop) (w:web) (node:Int) (uses:Int) (X:St->Prop) (P:Int->(Sl Tab)->Bool) (S:Int->(Sl Tab)->(Sl Tab)):Prop:=∀ ⦃zd2:Int⦄ ⦃zd3:(Sl Tab)⦄ ⦃zfQ:Nat->List PV⦄,P zd2 zd3=true->K (zAg (S zd2 zd3))->zfQ=zg zaf zd3->X (zww w node uses zd2 zd3 zfQ)
def zwy (w:web) (node:Int) (uses:Int) (iv1:Int) (zcS:Int) (zdc:Int) (zbm:(Sl Tab)) (zci:Nat->List PV):St:=⟨[(0,zP (.fp (zaA w) 0)),(2,zI uses),(4,zp 4 0),(7,zp 7 0),(8,zI iv1),(17,zI ((w64 (uses+(1:Int))).toNat:Int)),(18,zI zcS),(21,zI zdc)],[(4,.box 3 [zi node]),(7,.box 159 [.vec 15]),(15,.vec 116 80 640 zbm.len zci)],[]⟩
abbrev zCN (K:List PA->Prop) (w:web) (node:Int) (uses:Int) (X:St->Prop) (P:Int->Int->Int->(Sl Tab)->Bool) (S:Int->Int->Int->(Sl Tab)->(Sl Tab)):Prop:=∀ ⦃iv1:Int⦄ ⦃zcS:Int⦄ ⦃zdc:Int⦄ ⦃zbm:(Sl Tab)⦄ ⦃zci:Nat->List PV⦄,P iv1 zcS zdc zbm=true->K (zAg (S iv1 zcS zdc zbm))->zci=zg zaf zbm->X (zwy w node uses iv1 zcS zdc zbm zci)
def zwz (w:web) (node:Int) (uses:Int) (kv3:Int) (zbK:(Sl Tab)) (zcj:Nat->List PV):St:=⟨[(0,zP (.fp (zaA w) 0)),(2,zI uses),(4,zp 4 0),(7,zp 7 0),(10,zp 10 0)],[(4,.box 3 [zi node]),(7,.box 159 [.vec 15]),(10,.box 3 [zi kv3]),(15,.vec 116 80 640 zbK.len zcj)],[]⟩
abbrev zwA (K:List PA->Prop) (w:web) (node:Int) (uses:Int) (X:St->Prop) (P:Int->(Sl Tab)->Bool) (S:Int->(Sl Tab)->(Sl Tab)):Prop:=∀ ⦃kv3:Int⦄ ⦃zbK:(Sl Tab)⦄ ⦃zcj:Nat->List PV⦄,P kv3 zbK=true->K (zAg (S kv3 zbK))->zcj=zg zaf zbK->X (zwz w node uses kv3 zbK zcj)
def zql (w:web) (node:Int) (uses:Int) (kv4:Int) (zaH:(Sl Tab)) (zb3:Nat->List PV):St:=⟨[(0,zP (.fp (zaA w) 0)),(2,zI uses),(4,zp 4 0),(7,zp 7 0),(10,zp 10 0),(43,zP (.fn 110 [] [.fp [.fp (zaA w) 0] 0]))],[(4,.box 3 [zi node]),(7,.box 159 [.vec 15]),(10,.box 3 [zi kv4]),(15,.vec 116 80 640 zaH.len zb3)],[]⟩
abbrev zCO (K:List PA->Prop) (w:web) (node:Int) (uses:Int) (X:St->Prop) (P:Int->(Sl Tab)->Bool) (S:Int->(Sl Tab)->(Sl Tab)):Prop:=∀ ⦃kv4:Int⦄ ⦃zaH:(Sl Tab)⦄ ⦃zb3:Nat->List PV⦄,P kv4 zaH=true->K (zAg (S kv4 zaH))->zb3=zg zaf zaH->X (zql w node uses kv4 zaH zb3)
section
variable {K:List PA->Prop}{w:web}{node:Int}{uses:Int}{zd2:Int}{zd3:(Sl Tab)}{zfQ:Nat->List PV}{X0:St->Prop}{P0:Int->(Sl Tab)->Bool}{S0:Int->(Sl Tab)->(Sl Tab)}{iv1:Int}{zcS:Int}{zdc:Int}{zbm:(Sl Tab)}{zci:Nat->List PV}{X1:St->Prop}{P1:Int->Int->Int->(Sl Tab)->Bool}{S1:Int->Int->Int->(Sl Tab)->(Sl Tab)}{zcC:(Sl Tab)}{zkP:Nat->List PV}{kv3:Int}{zbK:(Sl Tab)}{zcj:Nat->List PV}{X3:St->Prop}{P3:Int->(Sl Tab)->Bool}{S3:Int->(Sl Tab)->(Sl Tab)}{kv4:Int}{zaH:(Sl Tab)}{zb3:Nat->List PV}
def zBs (S3:Int->(Sl Tab)->(Sl Tab)) (w:web) (node:Int) (uses:Int) (kv4:Int) (zaH:(Sl Tab)):(Sl Tab) :=
  (S3 (w64 (kv4+(1:Int))) zaH)
def zBt (P3:Int->(Sl Tab)->Bool) (w:web) (node:Int) (uses:Int) (kv4:Int) (zaH:(Sl Tab)):Bool :=
  (P3 (w64 (kv4+(1:Int))) zaH)
def zsv (S3:Int->(Sl Tab)->(Sl Tab)) (w:web) (node:Int) (uses:Int) (y4:step) (S4:Int->(Sl Tab)->(Sl Tab)) (kv4:Int) (zaH:(Sl Tab)):(Sl Tab) :=
  (cond (decide (y4.from_ ≥ node))
 (cond (decide (y4.to ≥ node))
 (cond (!(nvr (tg 80 (zaH.get ((w64 (kv4 - (1:Int))).toNat)) (0 + y4.to.toNat * 2 + 0)) (tg 80 (zaH.get ((w64 (kv4 - (1:Int))).toNat)) (0 + y4.to.toNat * 2 + 0 + 1))))
 (S4 kv4 (⟨zaH.len,(setT kv4.toNat (ts 80 (zaH.get kv4.toNat) (0+y4.from_.toNat * 2+0) [(zcJ (⟨(tL (zaH.get kv4.toNat) y4.from_),(tU (zaH.get kv4.toNat) y4.from_)⟩:far) (⟨1,λ _=>(⟨(w64 ((tg 80 (zaH.get ((w64 (kv4 - (1:Int))).toNat)) (0+y4.to.toNat * 2+0))+y4.length)),(0:Int)⟩:far)⟩:(Sl far))).length,(zcJ (⟨(tL (zaH.get kv4.toNat) y4.from_),(tU (zaH.get kv4.toNat) y4.from_)⟩:far) (⟨1,λ _=>(⟨(w64 ((tg 80 (zaH.get ((w64 (kv4 - (1:Int))).toNat)) (0+y4.to.toNat * 2+0))+y4.length)),(0:Int)⟩:far)⟩:(Sl far))).uses]) zaH.get)⟩:Sl Tab))
 (S4 kv4 zaH))
 (S4 kv4 zaH))
 (S4 kv4 zaH))
def zsw (P3:Int->(Sl Tab)->Bool) (w:web) (node:Int) (uses:Int) (y4:step) (P4:Int->(Sl Tab)->Bool) (kv4:Int) (zaH:(Sl Tab)):Bool :=
  (decide ((0≤(w64 (kv4 - (1:Int)))/\(w64 (kv4 - (1:Int))) < (zaH.len:Int))) &&
 (decide ((0≤y4.to/\y4.to < (40:Int))) &&
 (decide (((w64 (kv4 - (1:Int))).toNat < zaH.len)) &&
 (cond (decide (y4.from_ ≥ node))
 (cond (decide (y4.to ≥ node))
 (cond (!(nvr (tg 80 (zaH.get ((w64 (kv4 - (1:Int))).toNat)) (0 + y4.to.toNat * 2 + 0)) (tg 80 (zaH.get ((w64 (kv4 - (1:Int))).toNat)) (0 + y4.to.toNat * 2 + 0 + 1))))
 (decide ((0≤kv4/\kv4 < (zaH.len:Int))) &&
 (decide ((0≤y4.from_/\y4.from_ < (40:Int))) &&
 (decide ((kv4.toNat < zaH.len)) &&
 (decide ((zBo (⟨(tL (zaH.get kv4.toNat) y4.from_),(tU (zaH.get kv4.toNat) y4.from_)⟩:far) (⟨1,λ _=>(⟨(w64 ((tg 80 (zaH.get ((w64 (kv4 - (1:Int))).toNat)) (0+y4.to.toNat * 2+0))+y4.length)),(0:Int)⟩:far)⟩:(Sl far))=true)) &&
 (decide ((0≤kv4/\kv4 < (zaH.len:Int))) &&
 (decide ((0≤y4.from_/\y4.from_ < (40:Int))) &&
 (decide ((kv4.toNat < zaH.len)) &&
 (P4 kv4 (⟨zaH.len,(setT kv4.toNat (ts 80 (zaH.get kv4.toNat) (0+y4.from_.toNat * 2+0) [(zcJ (⟨(tL (zaH.get kv4.toNat) y4.from_),(tU (zaH.get kv4.toNat) y4.from_)⟩:far) (⟨1,λ _=>(⟨(w64 ((tg 80 (zaH.get ((w64 (kv4 - (1:Int))).toNat)) (0+y4.to.toNat * 2+0))+y4.length)),(0:Int)⟩:far)⟩:(Sl far))).length,(zcJ (⟨(tL (zaH.get kv4.toNat) y4.from_),(tU (zaH.get kv4.toNat) y4.from_)⟩:far) (⟨1,λ _=>(⟨(w64 ((tg 80 (zaH.get ((w64 (kv4 - (1:Int))).toNat)) (0+y4.to.toNat * 2+0))+y4.length)),(0:Int)⟩:far)⟩:(Sl far))).uses]) zaH.get)⟩:Sl Tab)))))))))
 (P4 kv4 zaH))
 (P4 kv4 zaH))
 (P4 kv4 zaH)))))
def zsx (S3:Int->(Sl Tab)->(Sl Tab)) (w:web) (node:Int) (uses:Int):List step->Int->(Sl Tab)->(Sl Tab):=lpR (zBs S3 w node uses) (zsv S3 w node uses)
def zsy (P3:Int->(Sl Tab)->Bool) (w:web) (node:Int) (uses:Int):List step->Int->(Sl Tab)->Bool:=lpR (zBt P3 w node uses) (zsw P3 w node uses)
def zsz (S3:Int->(Sl Tab)->(Sl Tab)) (w:web) (node:Int) (uses:Int) (kv4:Int) (zaH:(Sl Tab)):(Sl Tab):=zsx S3 w node uses (zkO w) kv4 zaH
def zsA (P3:Int->(Sl Tab)->Bool) (w:web) (node:Int) (uses:Int) (kv4:Int) (zaH:(Sl Tab)):Bool:=decide ((zui w=true)) && zsy P3 w node uses (zkO w) kv4 zaH
theorem zBu (hX3:zwA K w node uses X3 P3 S3) (hs:zsA P3 w node uses kv4 zaH=true) (hk:K (zAg (zsz S3 w node uses kv4 zaH))) (ze4:zb3=zg zaf zaH):z106 K [1,1,1,1,0,1,0,0,1,0,0,1,0] [X3] (zql w node uses kv4 zaH zb3) :=
  zaJ hs λ hc hs=>zr (enc:=(λ y:step=>[.agg (zaB y)])) (ys:=zkO w) (g:=(zql w node uses kv4 zaH zb3)) (x106 K [1,1,1,1,0,1,0,0,1,0,0,1,0] [X3]) (y106 K [1,1,1,1,0,1,0,0,1,0,0,1,0] [X3]) (by kernel_rfl) (And.intro (zE enc_40 4 w.Net.Ties.get) (And.intro (rfl:((false,1,false,[none]):MQ)=(false,1,false,[none])) hc)) λ X4 hE hR =>
  (show ∀ l : List step, zCO K w node uses (X4 (l.map (λ y : step => [.agg (zaB y)]))) (zsy P3 w node uses l) (zsx S3 w node uses l) from zri (X := X4) (enc := (λ y : step => [.agg (zaB y)])) _ _ (zsw P3 w node uses) (zsv S3 w node uses) (λ Z P S => zCO K w node uses Z P S)
 (by intro kv4 zaH zb3 hs hk ze4;subst ze4;exact hE _ (zaM (by kernel_rfl) (hX3 hs hk rfl)))
 (by intro y4 rest P4 S4 hX4 kv4 zaH zb3 hs hk ze4;subst ze4;exact hR _ rest _ (zaM (by kernel_rfl) (zaJ hs λ hc hs=>And.intro hc (zaJ hs λ hc hs=>And.intro hc (zaJ hs λ hc hs=>And.intro hc (zc hs hk (λ hs hk=>(zc hs hk (λ hs hk=>(zc hs hk (λ hs hk=>(zaJ hs λ hc hs=>And.intro hc (zaJ hs λ hc hs=>And.intro hc (zaJ hs λ hc hs=>And.intro hc (zaJ hs λ hc hs=>And.intro (And.intro (zvQ:IsE zb2 2 2 (λ _=>(zb2 (⟨(w64 ((tg 80 (zaH.get ((w64 (kv4 - (1:Int))).toNat)) (0+y4.to.toNat * 2+0))+y4.length)),(0:Int)⟩:far)))) hc) (zaJ hs λ hc hs=>And.intro hc (zaJ hs λ hc hs=>And.intro hc (zaJ hs λ hc hs=>And.intro hc (hX4 hs hk (zfj (enc:=zaf) (i:=kv4.toNat) (k:=0) (f:=zaH.get) (new:=(zaf (ts 80 (zaH.get kv4.toNat) (0+y4.from_.toNat * 2+0) [(zcJ (⟨(tL (zaH.get kv4.toNat) y4.from_),(tU (zaH.get kv4.toNat) y4.from_)⟩:far) (⟨1,λ _=>(⟨(w64 ((tg 80 (zaH.get ((w64 (kv4 - (1:Int))).toNat)) (0+y4.to.toNat * 2+0))+y4.length)),(0:Int)⟩:far)⟩:(Sl far))).length,(zcJ (⟨(tL (zaH.get kv4.toNat) y4.from_),(tU (zaH.get kv4.toNat) y4.from_)⟩:far) (⟨1,λ _=>(⟨(w64 ((tg 80 (zaH.get ((w64 (kv4 - (1:Int))).toNat)) (0+y4.to.toNat * 2+0))+y4.length)),(0:Int)⟩:far)⟩:(Sl far))).uses]))) (v:=(ts 80 (zaH.get kv4.toNat) (0+y4.from_.toNat * 2+0) [(zcJ (⟨(tL (zaH.get kv4.toNat) y4.from_),(tU (zaH.get kv4.toNat) y4.from_)⟩:far) (⟨1,λ _=>(⟨(w64 ((tg 80 (zaH.get ((w64 (kv4 - (1:Int))).toNat)) (0+y4.to.toNat * 2+0))+y4.length)),(0:Int)⟩:far)⟩:(Sl far))).length,(zcJ (⟨(tL (zaH.get kv4.toNat) y4.from_),(tU (zaH.get kv4.toNat) y4.from_)⟩:far) (⟨1,λ _=>(⟨(w64 ((tg 80 (zaH.get ((w64 (kv4 - (1:Int))).toNat)) (0+y4.to.toNat * 2+0))+y4.length)),(0:Int)⟩:far)⟩:(Sl far))).uses])) rfl zmL)))))))))) (λ hs hk=>(hX4 hs hk rfl)))) (λ hs hk=>(hX4 hs hk rfl)))) (λ hs hk=>(hX4 hs hk rfl))))))))) _ hs hk ze4
def zsB (w:web) (node:Int) (uses:Int) (S3:Int->(Sl Tab)->(Sl Tab)) (kv3:Int) (zbK:(Sl Tab)):(Sl Tab) :=
  (cond (decide (kv3 ≤ uses))
 (zsz S3 w node uses kv3 zbK)
 zbK)
def zsC (w:web) (node:Int) (uses:Int) (P3:Int->(Sl Tab)->Bool) (kv3:Int) (zbK:(Sl Tab)):Bool :=
  (cond (decide (kv3 ≤ uses))
 (zsA P3 w node uses kv3 zbK)
 true)
def zsD (w:web) (node:Int) (uses:Int):Nat->Int->(Sl Tab)->(Sl Tab):=lpO (λ _ _=>default) (zsB w node uses)
def zsE (w:web) (node:Int) (uses:Int):Nat->Int->(Sl Tab)->Bool:=lpO (λ _ _=>false) (zsC w node uses)
def zsF (w:web) (node:Int) (uses:Int) (kv3:Int) (zbK:(Sl Tab)):(Sl Tab):=zsD w node uses Fuel kv3 zbK
def zsG (w:web) (node:Int) (uses:Int) (kv3:Int) (zbK:(Sl Tab)):Bool:=zsE w node uses Fuel kv3 zbK
theorem zBv (hs:zsG w node uses kv3 zbK=true) (hk:K (zAg (zsF w node uses kv3 zbK))) (zgW:zcj=zg zaf zbK):z106 K [1,1,1,1,0,1,0] [] (zwz w node uses kv3 zbK zcj) :=
  zl (λ X=>z106 K [1,1,1,1,0,1,0,0] [X]) (by kernel_rfl) λ X3 hX =>
  (show ∀ k, zwA K w node uses X3 (zsE w node uses k) (zsD w node uses k) from zd1 _ _ (zsC w node uses) (zsB w node uses) (zwA K w node uses X3)
 (by intro _ _ _ hs;exact absurd hs Bool.false_ne_true)
 (by intro P3 S3 hX3 kv3 zbK zcj hs hk zgW;subst zgW;exact hX _ (zaM (by kernel_rfl) (zc hs hk (λ hs hk=>(And.intro (And.intro (zE enc_40 4 w.Net.Ties.get) (rfl:((false,1,false,[none]):MQ)=(false,1,false,[none]))) (zBu hX3 hs hk rfl))) (λ hs hk=>hk))))) _ hs hk zgW
def zsH (w:web) (node:Int) (uses:Int) (zcC:(Sl Tab)):(Sl Tab) :=
  (zsF w node uses (1:Int) (⟨zcC.len,(setT 0 (ts 80 (zcC.get 0) (0+node.toNat * 2+0) [(0:Int),(0:Int)]) zcC.get)⟩:Sl Tab))
def zsI (w:web) (node:Int) (uses:Int) (zcC:(Sl Tab)):Bool :=
  (decide ((0≤(0:Int)/\(0:Int) < (zcC.len:Int))) &&
 (decide ((0≤node/\node < (40:Int))) &&
 (decide ((0 < zcC.len)) &&
 (zsG w node uses (1:Int) (⟨zcC.len,(setT 0 (ts 80 (zcC.get 0) (0+node.toNat * 2+0) [(0:Int),(0:Int)]) zcC.get)⟩:Sl Tab)))))
theorem zBw (hs:zsI w node uses zcC=true) (hk:K (zAg (zsH w node uses zcC))) (zqm:zkP=zg zaf zcC):z106 K [1,1,1] [] ⟨[(0,zP (.fp (zaA w) 0)),(2,zI uses),(4,zp 4 0),(7,zp 7 0)],[(4,.box 3 [zi node]),(7,.box 159 [.vec 15]),(15,.vec 116 80 640 zcC.len zkP)],[]⟩:=by subst zqm;exact zaM (by kernel_rfl) (zaJ hs λ hc hs=>And.intro hc (zaJ hs λ hc hs=>And.intro hc (zaJ hs λ hc hs=>And.intro hc (zBv hs hk (zfj (enc:=zaf) (i:=0) (k:=0) (f:=zcC.get) (new:=(zaf (ts 80 (zcC.get 0) (0+node.toNat * 2+0) [(0:Int),(0:Int)]))) (v:=(ts 80 (zcC.get 0) (0+node.toNat * 2+0) [(0:Int),(0:Int)])) rfl zmL)))))
def zsJ (S0:Int->(Sl Tab)->(Sl Tab)) (w:web) (node:Int) (uses:Int) (S1:Int->Int->Int->(Sl Tab)->(Sl Tab)) (iv1:Int) (zcS:Int) (zdc:Int) (zbm:(Sl Tab)):(Sl Tab) :=
  (cond (decide (zdc < (40:Int)))
 (S1 iv1 zcS (w64 (zdc+(1:Int))) (⟨zbm.len,(setT iv1.toNat (ts 80 (zbm.get iv1.toNat) (0+zdc.toNat * 2+0) [(1000000000000:Int),(0:Int)]) zbm.get)⟩:Sl Tab))
 (S0 (w64 (zcS+(1:Int))) zbm))
def zsK (P0:Int->(Sl Tab)->Bool) (w:web) (node:Int) (uses:Int) (P1:Int->Int->Int->(Sl Tab)->Bool) (iv1:Int) (zcS:Int) (zdc:Int) (zbm:(Sl Tab)):Bool :=
  (cond (decide (zdc < (40:Int)))
 (decide ((0≤iv1/\iv1 < (zbm.len:Int))) &&
 (decide ((0≤zdc/\zdc < (40:Int))) &&
 (decide ((iv1.toNat < zbm.len)) &&
 (P1 iv1 zcS (w64 (zdc+(1:Int))) (⟨zbm.len,(setT iv1.toNat (ts 80 (zbm.get iv1.toNat) (0+zdc.toNat * 2+0) [(1000000000000:Int),(0:Int)]) zbm.get)⟩:Sl Tab)))))
 (P0 (w64 (zcS+(1:Int))) zbm))
def zsL (S0:Int->(Sl Tab)->(Sl Tab)) (w:web) (node:Int) (uses:Int):Nat->Int->Int->Int->(Sl Tab)->(Sl Tab):=lpO (λ _ _ _ _=>default) (zsJ S0 w node uses)
def zsM (P0:Int->(Sl Tab)->Bool) (w:web) (node:Int) (uses:Int):Nat->Int->Int->Int->(Sl Tab)->Bool:=lpO (λ _ _ _ _=>false) (zsK P0 w node uses)
def zsN (S0:Int->(Sl Tab)->(Sl Tab)) (w:web) (node:Int) (uses:Int) (iv1:Int) (zcS:Int) (zdc:Int) (zbm:(Sl Tab)):(Sl Tab):=zsL S0 w node uses Fuel iv1 zcS zdc zbm
def zsO (P0:Int->(Sl Tab)->Bool) (w:web) (node:Int) (uses:Int) (iv1:Int) (zcS:Int) (zdc:Int) (zbm:(Sl Tab)):Bool:=zsM P0 w node uses Fuel iv1 zcS zdc zbm
theorem zBx (hX0:zwx K w node uses X0 P0 S0) (hs:zsO P0 w node uses iv1 zcS zdc zbm=true) (hk:K (zAg (zsN S0 w node uses iv1 zcS zdc zbm))) (zgX:zci=zg zaf zbm):z106 K [1,1,0,1,0,0,1,1,0,0,1,1,0] [X0] (zwy w node uses iv1 zcS zdc zbm zci) :=
  zl (λ X=>z106 K [1,1,0,1,0,0,1,1,0,0,1,1,0,0] [X0,X]) (by kernel_rfl) λ X1 hX =>
  (show ∀ k, zCN K w node uses X1 (zsM P0 w node uses k) (zsL S0 w node uses k) from zd1 _ _ (zsK P0 w node uses) (zsJ S0 w node uses) (zCN K w node uses X1)
 (by intro _ _ _ _ _ hs;exact absurd hs Bool.false_ne_true)
 (by intro P1 S1 hX1 iv1 zcS zdc zbm zci hs hk zgX;subst zgX;exact hX _ (zaM (by kernel_rfl) (zc hs hk (λ hs hk=>(zaJ hs λ hc hs=>And.intro hc (zaJ hs λ hc hs=>And.intro hc (zaJ hs λ hc hs=>And.intro hc (hX1 hs hk (zfj (enc:=zaf) (i:=iv1.toNat) (k:=0) (f:=zbm.get) (new:=(zaf (ts 80 (zbm.get iv1.toNat) (0+zdc.toNat * 2+0) [(1000000000000:Int),(0:Int)]))) (v:=(ts 80 (zbm.get iv1.toNat) (0+zdc.toNat * 2+0) [(1000000000000:Int),(0:Int)])) rfl zmL)))))) (λ hs hk=>(hX0 hs hk rfl)))))) _ hs hk zgX
def zsP (w:web) (node:Int) (uses:Int) (S0:Int->(Sl Tab)->(Sl Tab)) (zd2:Int) (zd3:(Sl Tab)):(Sl Tab) :=
  (cond (decide (zd2 < ((w64 (uses + (1:Int))).toNat : Int)))
 (zsN S0 w node uses zd2 zd2 (0:Int) zd3)
 (zsH w node uses zd3))
def zsQ (w:web) (node:Int) (uses:Int) (P0:Int->(Sl Tab)->Bool) (zd2:Int) (zd3:(Sl Tab)):Bool :=
  (cond (decide (zd2 < ((w64 (uses + (1:Int))).toNat : Int)))
 (zsO P0 w node uses zd2 zd2 (0:Int) zd3)
 (zsI w node uses zd3))
def zsR (w:web) (node:Int) (uses:Int):Nat->Int->(Sl Tab)->(Sl Tab):=lpO (λ _ _=>default) (zsP w node uses)
def zsS (w:web) (node:Int) (uses:Int):Nat->Int->(Sl Tab)->Bool:=lpO (λ _ _=>false) (zsQ w node uses)
def zsU (w:web) (node:Int) (uses:Int) (zd2:Int) (zd3:(Sl Tab)):(Sl Tab):=zsR w node uses Fuel zd2 zd3
def zsV (w:web) (node:Int) (uses:Int) (zd2:Int) (zd3:(Sl Tab)):Bool:=zsS w node uses Fuel zd2 zd3
theorem zBy (hs:zsV w node uses zd2 zd3=true) (hk:K (zAg (zsU w node uses zd2 zd3))) (zqn:zfQ=zg zaf zd3):z106 K [1,1,0,1,0] [] (zww w node uses zd2 zd3 zfQ) :=
  zl (λ X=>z106 K [1,1,0,1,0,0] [X]) (by kernel_rfl) λ X0 hX =>
  (show ∀ k, zwx K w node uses X0 (zsS w node uses k) (zsR w node uses k) from zd1 _ _ (zsQ w node uses) (zsP w node uses) (zwx K w node uses X0)
 (by intro _ _ _ hs;exact absurd hs Bool.false_ne_true)
 (by intro P0 S0 hX0 zd2 zd3 zfQ hs hk zqn;subst zqn;exact hX _ (zaM (by kernel_rfl) (zc hs hk (λ hs hk=>(zBx hX0 hs hk rfl)) (λ hs hk=>(zBw hs hk rfl)))))) _ hs hk zqn
def zFc (w:web) (node:Int) (uses:Int):(Sl Tab) :=
  (zsU w node uses (0:Int) (⟨(w64 (uses+(1:Int))).toNat,(λ _=>(λ _=>(0:Int)))⟩:Sl Tab))
def zL8 (w:web) (node:Int) (uses:Int):Bool :=
  (decide ((0≤(w64 (uses+(1:Int)))/\(w64 (uses+(1:Int)))=(w64 (uses+(1:Int)))/\(w64 (uses+(1:Int)))≤1000000)) &&
 (zsV w node uses (0:Int) (⟨(w64 (uses+(1:Int))).toNat,(λ _=>(λ _=>(0:Int)))⟩:Sl Tab)))
end
theorem zN2 (w:web) (node:Int) (uses:Int) (K:List PA->Prop) (hs:zL8 w node uses=true) (hk:K (zAg (zFc w node uses))):vcFun Tryd.prog zLm zoC 106 [.one (.fp (zaA w) 0),.one (.int .i64 node),.one (.int .i64 uses)] K :=
  zaM (by kernel_rfl) (zaJ hs λ hc hs=>And.intro hc (zBy hs hk rfl))
def zwB : List PA → COut
  | [.one (.fp [.int .i64 zao,.sl zai zay zaj,.fm za0 zaD zaE] 0),.one (.int .i64 a1),.one (.int .i64 a2)]=>.det (IsE enc_40 4 zay zaj/\za0=(false,1,false,[none])/\zL8 (⟨(⟨zao,(⟨zai,zam zaj⟩:(Sl Tie))⟩:Net),(⟨zaD,zaE⟩:Mp)⟩:web) a1 a2=true) [.one (.sl ((zFc (⟨(⟨zao,(⟨zai,zam zaj⟩:(Sl Tie))⟩:Net),(⟨zaD,zaE⟩:Mp)⟩:web) a1 a2).len) 80 (λ i=>zaf ((zFc (⟨(⟨zao,(⟨zai,zam zaj⟩:(Sl Tie))⟩:Net),(⟨zaD,zaE⟩:Mp)⟩:web) a1 a2).get i)))]
  | _=>.no
theorem zFd:zar Tryd.prog 106:=⟨_,rfl,rfl,by kernel_rfl⟩
theorem zL9:Ok Tryd.prog 106 zwB:=za9 zJi zFd λ args K h=>by
  unfold zwB at h
  split at h
  · rename_i zao zai zay zaj za0 zaD zaE a1 a2
    obtain⟨⟨⟨rfl,zau,rfl⟩,rfl,hs⟩,hk⟩:=h
    try rw[zak zau] at hs
    try rw[zak zau] at hk
    exact⟨(λ _ _=>[]),(λ _=>false),zoC,zN2 (⟨(⟨zao,(⟨zai,zau⟩:(Sl Tie))⟩:Net),(⟨zaD,zaE⟩:Mp)⟩:web) a1 a2 K hs hk⟩
  · exact h.elim
abbrev zNq:Tabs:=Tabs.nil
theorem zJj:TabsOk Tryd.prog zNq:=TabsOk.nil
abbrev zNr:Ctrs:=csm zNq (λ _ _=>[]) (λ _=>false)
def zwC:Ann:=⟨18,[(0,zK [0] []),(1,zK [0,3] []),(2,zK [3,6,7,8] []),(3,zK [3,6,7,8,9] []),(4,zK [3,5,6,7,8] []),(5,zK [3,5,6,7,8,14] []),(6,zK [2] []),(7,zK [3,6,7,8] []),(8,zK [2] [])],
 [(3,zK [3,6,7,8] [])],
 [],
 [],[]⟩
abbrev zN3:=Int
abbrev zMa (r:zN3):List PA:=[.one (.int .i64 r)]
@[irreducible] def z100:=ptF Tryd.prog zNr zwC Tryd.f100
def zwD (vals:(Sl Int)) (zds:Int):St:=⟨[(3,zI (0:Int)),(6,zS zad 1 vals),(7,zI (vals.len:Int)),(8,zI zds)],[],[]⟩
abbrev zCP (K:List PA->Prop) (vals:(Sl Int)) (X:St->Prop) (P:Int->Bool) (S:Int->Int):Prop:=∀ ⦃zds:Int⦄,P zds=true->K (zMa (S zds))->X (zwD vals zds)
section
variable {K:List PA->Prop}{vals:(Sl Int)}{zds:Int}{X0:St->Prop}{P0:Int->Bool}{S0:Int->Int}
def zsW (vals:(Sl Int)) (S0:Int->Int) (zds:Int):Int :=
  (cond (decide (zds < (vals.len : Int)))
 (cond ((vals.get zds.toNat) != (0:Int))
 (vals.get zds.toNat)
 (S0 (w64 (zds+(1:Int)))))
 (0:Int))
def zsX (vals:(Sl Int)) (P0:Int->Bool) (zds:Int):Bool :=
  (cond (decide (zds < (vals.len : Int)))
 (decide ((0≤zds/\zds < (vals.len:Int))) &&
 (cond ((vals.get zds.toNat) != (0:Int))
 true
 (P0 (w64 (zds+(1:Int))))))
 true)
def zsY (vals:(Sl Int)):Nat->Int->Int:=lpO (λ _=>default) (zsW vals)
def zsZ (vals:(Sl Int)):Nat->Int->Bool:=lpO (λ _=>false) (zsX vals)
def zs3 (vals:(Sl Int)) (zds:Int):Int:=zsY vals Fuel zds
def zs4 (vals:(Sl Int)) (zds:Int):Bool:=zsZ vals Fuel zds
theorem zBz (hs:zs4 vals zds=true) (hk:K (zMa (zs3 vals zds))):z100 K [1,1,0,1,0] [] (zwD vals zds) :=
  zl (λ X=>z100 K [1,1,0,1,0,0] [X]) (by kernel_rfl) λ X0 hX =>
  (show ∀ k, zCP K vals X0 (zsZ vals k) (zsY vals k) from zd1 _ _ (zsX vals) (zsW vals) (zCP K vals X0)
 (by intro _ hs;exact absurd hs Bool.false_ne_true)
 (by intro P0 S0 hX0 zds hs hk;exact hX _ (zaM (by kernel_rfl) (zc hs hk (λ hs hk=>(zaJ hs λ hc hs=>And.intro hc (zc hs hk (λ hs hk=>hk) (λ hs hk=>(hX0 hs hk))))) (λ hs hk=>hk))))) _ hs hk
def zMb (vals:(Sl Int)):Int :=
  (zs3 vals (0:Int))
def zMc (vals:(Sl Int)):Bool :=
  (zs4 vals (0:Int))
end
theorem zN4 (vals:(Sl Int)) (K:List PA->Prop) (hs:zMc vals=true) (hk:K (zMa (zMb vals))):vcFun Tryd.prog zNr zwC 100 [.one (.sl vals.len 1 (λ i=>zad (vals.get i)))] K :=
  zaM (by kernel_rfl) (zBz hs hk)
def zwE : List PA → COut
  | [.one (.sl zfR zlV zfS)]=>.det (IsE zad 1 zlV zfS/\zMc (⟨zfR,zav zfS⟩:(Sl Int))=true) [.one (.int .i64 (zMb (⟨zfR,zav zfS⟩:(Sl Int))))]
  | _=>.no
theorem zFe:zar Tryd.prog 100:=⟨_,rfl,rfl,by kernel_rfl⟩
theorem zMd:Ok Tryd.prog 100 zwE:=za9 zJj zFe λ args K h=>by
  unfold zwE at h
  split at h
  · rename_i zfR zlV zfS
    obtain⟨⟨⟨rfl,zit,rfl⟩,hs⟩,hk⟩:=h
    try rw[zba zit] at hs
    try rw[zba zit] at hk
    exact⟨(λ _ _=>[]),(λ _=>false),zwC,zN4 (⟨zfR,zit⟩:(Sl Int)) K hs hk⟩
  · exact h.elim
abbrev zNs:Tabs:=Tabs.nil
theorem zJk:TabsOk Tryd.prog zNs:=TabsOk.nil
abbrev zN5:Ctrs:=csm zNs (λ _ _=>[]) (λ _=>false)
def zCQ:Ann:=⟨6,[(0,zK [0] []),(1,zK [2] [])],
 [],
 [],
 [],[]⟩
abbrev zN6:=Bool
abbrev zN7 (r:zN6):List PA:=[.one (.bool r)]
section
variable {K:List PA->Prop}{x:Int}
def zJl (x:Int):Bool :=
  (x != x)
end
theorem zN8 (x:Int) (K:List PA->Prop) (hk:K (zN7 (zJl x))):vcFun Tryd.prog zN5 zCQ 114 [.one (.int .i64 x)] K :=
  zaM (by kernel_rfl) hk
def zwF : List PA → COut
  | [.one (.int .i64 a0)]=>.tot [.one (.bool (zJl a0))]
  | _=>.no
theorem zFf:zar Tryd.prog 114:=⟨_,rfl,rfl,by kernel_rfl⟩
theorem zMe:Ok Tryd.prog 114 zwF:=za9 zJk zFf λ args K h=>by
  unfold zwF at h
  split at h
  · rename_i a0
    have hk:=h
    exact⟨(λ _ _=>[]),(λ _=>false),zCQ,zN8 a0 K hk⟩
  · exact h.elim
abbrev zNt:Tabs:=(Tabs.nil.addF 114 zwF)
theorem zJm:TabsOk Tryd.prog zNt:=(TabsOk.nil.addF zMe)
abbrev zN9:Ctrs:=csm zNt (λ _ _=>[]) (λ _=>false)
def zCR:Ann:=⟨20,[(0,zK [0,1] []),(1,zK [0,1,5] []),(2,zK [0,1,5,6] []),(3,zK [0,1,6,11] []),(4,zK [12] []),(5,zK [4] []),(6,zK [4] []),(7,zK [0,1,13] []),(8,zK [4] []),(9,zK [0,1,16] []),(10,zK [4] []),(11,zK [19] []),(12,zK [4] []),(13,zK [4] [])],
 [],
 [],
 [],[]⟩
abbrev zOa:=Int
abbrev zOb (r:zOa):List PA:=[.one (.int .i64 r)]
section
variable {K:List PA->Prop}{x:Int}{y_a1:Int}
def zAh (x:Int) (y_a1:Int):Int :=
  (cond (zJl x)
 (cond (zJl y_a1)
 (0:Int)
 (-1:Int))
 (cond (zJl y_a1)
 (1:Int)
 (cond (decide (x < y_a1))
 (-1:Int)
 (cond (decide (x > y_a1))
 (1:Int)
 (0:Int)))))
end
theorem zOc (x:Int) (y_a1:Int) (K:List PA->Prop) (hk:K (zOb (zAh x y_a1))):vcFun Tryd.prog zN9 zCR 101 [.one (.int .i64 x),.one (.int .i64 y_a1)] K :=
  zaM (by kernel_rfl) (zt hk (λ hk=>(zt hk (λ hk=>hk) (λ hk=>hk))) (λ hk=>(zt hk (λ hk=>hk) (λ hk=>(zt hk (λ hk=>hk) (λ hk=>(zt hk (λ hk=>hk) (λ hk=>hk))))))))
def zs5 : List PA → COut
  | [.one (.int .i64 a0),.one (.int .i64 a1)]=>.tot [.one (.int .i64 (zAh a0 a1))]
  | _=>.no
theorem zFg:zar Tryd.prog 101:=⟨_,rfl,rfl,by kernel_rfl⟩
theorem zJn:Ok Tryd.prog 101 zs5:=za9 zJm zFg λ args K h=>by
  unfold zs5 at h
  split at h
  · rename_i a0 a1
    have hk:=h
    exact⟨(λ _ _=>[]),(λ _=>false),zCR,zOc a0 a1 K hk⟩
  · exact h.elim
abbrev zNu:Tabs:=Tabs.nil
theorem zJo:TabsOk Tryd.prog zNu:=TabsOk.nil
abbrev zOd:Ctrs:=csm zNu (λ _ _=>[]) (λ _=>false)
def zCS:Ann:=⟨6,[(0,zK [1] [1]),(1,zK [5] []),(2,zK [2] []),(3,zK [2] [])],
 [],
 [],
 [],[]⟩
abbrev zOe:=Int
abbrev e118 (r:zOe):List PA:=[.one (.int .i64 r)]
section
variable {K:List PA->Prop}{s:step}
def zCT (s:step):Int :=
  (cond s.Use.Back
 (1:Int)
 (0:Int))
end
theorem zOf (s:step) (K:List PA->Prop) (hk:K (e118 (zCT s))):vcFun Tryd.prog zOd zCS 118 [.agg (zaB s)] K :=
  zaM (by kernel_rfl) (zt hk (λ hk=>hk) (λ hk=>hk))
def zwG : List PA → COut
  | [.agg [.int .i64 zcG,.bool zck,.int .i64 zei,.int .i64 zoD,.int .i64 zb5]]=>.tot [.one (.int .i64 (zCT (⟨(⟨zcG,zck⟩:Use),zei,zoD,zb5⟩:step)))]
  | _=>.no
theorem zFh:zar Tryd.prog 118:=⟨_,rfl,rfl,by kernel_rfl⟩
theorem zMf:Ok Tryd.prog 118 zwG:=za9 zJo zFh λ args K h=>by
  unfold zwG at h
  split at h
  · rename_i zcG zck zei zoD zb5
    have hk:=h
    exact⟨(λ _ _=>[]),(λ _=>false),zCS,zOf (⟨(⟨zcG,zck⟩:Use),zei,zoD,zb5⟩:step) K hk⟩
  · exact h.elim
abbrev zNv:Tabs:=(((Tabs.nil.addF 100 zwE).addF 101 zs5).addF 118 zwG)
theorem zJp:TabsOk Tryd.prog zNv:=(((TabsOk.nil.addF zMd).addF zJn).addF zMf)
abbrev zOg:Ctrs:=csm zNv (λ _ _=>[]) (λ _=>false)
def zCU:Ann:=⟨22,[(0,zK [2,3] [2,3]),(1,zK [2,3,5] [2,3]),(2,zK [4] [])],
 [],
 [],
 [],[]⟩
abbrev zOh:=Int
abbrev e108 (r:zOh):List PA:=[.one (.int .i64 r)]
section
variable {K:List PA->Prop}{a:step}{b:step}
def zLn (a:step) (b:step):Int :=
  (zMb (⟨2,zav (zbo [(zad (zAh a.Use.Tie b.Use.Tie)),(zad (zAh (zCT a) (zCT b)))])⟩:(Sl Int)))
def zMg (a:step) (b:step):Bool :=
  (decide ((zMc (⟨2,zav (zbo [(zad (zAh a.Use.Tie b.Use.Tie)),(zad (zAh (zCT a) (zCT b)))])⟩:(Sl Int))=true)) &&
 true)
end
theorem zOi (a:step) (b:step) (K:List PA->Prop) (hs:zMg a b=true) (hk:K (e108 (zLn a b))):vcFun Tryd.prog zOg zCU 108 [.agg (zaB a),.agg (zaB b)] K :=
  zaM (by kernel_rfl) (zaJ hs λ hc hs=>And.intro (And.intro ((zee []):IsE zad 1 1 (zbo [(zad (zAh a.Use.Tie b.Use.Tie)),(zad (zAh (zCT a) (zCT b)))])) hc) hk)
def zwH : List PA → COut
  | [.agg [.int .i64 zcG,.bool zck,.int .i64 zei,.int .i64 zoD,.int .i64 zb5],.agg [.int .i64 zgr,.bool ze5,.int .i64 zjG,.int .i64 zBA,.int .i64 zbG]]=>.det (zMg (⟨(⟨zcG,zck⟩:Use),zei,zoD,zb5⟩:step) (⟨(⟨zgr,ze5⟩:Use),zjG,zBA,zbG⟩:step)=true) [.one (.int .i64 (zLn (⟨(⟨zcG,zck⟩:Use),zei,zoD,zb5⟩:step) (⟨(⟨zgr,ze5⟩:Use),zjG,zBA,zbG⟩:step)))]
  | _=>.no
theorem zFi:zar Tryd.prog 108:=⟨_,rfl,rfl,by kernel_rfl⟩
theorem zMh:Ok Tryd.prog 108 zwH:=za9 zJp zFi λ args K h=>by
  unfold zwH at h
  split at h
  · rename_i zcG zck zei zoD zb5 zgr ze5 zjG zBA zbG
    obtain⟨hs,hk⟩:=h
    exact⟨(λ _ _=>[]),(λ _=>false),zCU,zOi (⟨(⟨zcG,zck⟩:Use),zei,zoD,zb5⟩:step) (⟨(⟨zgr,ze5⟩:Use),zjG,zBA,zbG⟩:step) K hs hk⟩
  · exact h.elim
abbrev zNw:Tabs:=(Tabs.nil.addF 108 zwH)
theorem zJq:TabsOk Tryd.prog zNw:=(TabsOk.nil.addF zMh)
abbrev zNx:Ctrs:=csm zNw (λ _ _=>[]) (λ _=>false)
def zwI:Ann:=⟨39,[(0,zK [0,1,2] []),(1,zK [0,1,2,11,12,13] []),(2,zK [0,1,2,11,12,13,14] []),(3,zK [0,1,2,7,8,11,12,13] [8]),(4,zK [0,1,2,7,8,11,12,13,21] [8]),(5,zK [6] []),(6,zK [0,1,2,8,9,11,12,13] [8,9]),(7,zK [0,1,2,10,11,12,13] []),(8,zK [0,1,2,10,11,12,13,31] []),(9,zK [6] []),(10,zK [0,1,2,11,12,13] []),(11,zK [38] []),(12,zK [6] []),(13,zK [6] [])],
 [(2,zK [0,1,2,11,12,13] [])],
 [(6,zK [0,1,2,7,8,11,12,13] [8]),(8,zK [0,1,2,10,11,12,13] [])],
 [],[]⟩
abbrev zOj:=Int
abbrev zJr (r:zOj):List PA:=[.one (.int .i64 r)]
@[irreducible] def z107:=ptF Tryd.prog zNx zwI Tryd.f107
def zwJ (zer:(Sl step)) (zdU:(Sl step)) (zaO:(Sl step)) (zbP:Int) (zbH:Int) (zdd:Nat->List PV) (zde:Nat->List PV) (zfT:Nat->List PV):St:=⟨[(0,zP (.sl zer.len 5 zdd)),(1,zP (.sl zdU.len 5 zde)),(2,zP (.fn 108 [] [])),(11,zP (.sl zaO.len 5 zfT)),(12,zI zbP),(13,zI zbH)],[],[]⟩
abbrev zs6 (K:List PA->Prop) (X:St->Prop) (P:(Sl step)->(Sl step)->(Sl step)->Int->Int->Bool) (S:(Sl step)->(Sl step)->(Sl step)->Int->Int->Int):Prop:=∀ ⦃zer:(Sl step)⦄ ⦃zdU:(Sl step)⦄ ⦃zaO:(Sl step)⦄ ⦃zbP:Int⦄ ⦃zbH:Int⦄ ⦃zdd:Nat->List PV⦄ ⦃zde:Nat->List PV⦄ ⦃zfT:Nat->List PV⦄,P zer zdU zaO zbP zbH=true->K (zJr (S zer zdU zaO zbP zbH))->zdd=zg zaB zer->zde=zg zaB zdU->zfT=zg zaB zaO->X (zwJ zer zdU zaO zbP zbH zdd zde zfT)
section
variable {K:List PA->Prop}{s1_a0:(Sl step)}{s2_a1:(Sl step)}{zer:(Sl step)}{zdU:(Sl step)}{zaO:(Sl step)}{zbP:Int}{zbH:Int}{zdd:Nat->List PV}{zde:Nat->List PV}{zfT:Nat->List PV}{X0:St->Prop}{P0:(Sl step)->(Sl step)->(Sl step)->Int->Int->Bool}{S0:(Sl step)->(Sl step)->(Sl step)->Int->Int->Int}{zoE:(Sl step)}{zjH:(Sl step)}{iv1:Int}{zcu:(Sl step)}{zbQ:Int}{zqo:Int}{zjf:Int}{zjg:Bool}{zjh:Int}{zji:Int}{zjj:Int}{zoF:Nat->List PV}{zoG:Nat->List PV}{zwK:Nat->List PV}{zoH:(Sl step)}{zoI:(Sl step)}{cv2:Int}{zqp:Int}{zoJ:Nat->List PV}{zoK:Nat->List PV}
def zs7 (S0:(Sl step)->(Sl step)->(Sl step)->Int->Int->Int) (zcu:(Sl step)) (zbQ:Int) (zoH:(Sl step)) (zoI:(Sl step)) (cv2:Int) (zqp:Int):Int :=
  (cond (cv2 != (0:Int))
 cv2
 (S0 zoH zoI zcu zbQ (w64 (zqp+(1:Int)))))
def zs8 (P0:(Sl step)->(Sl step)->(Sl step)->Int->Int->Bool) (zcu:(Sl step)) (zbQ:Int) (zoH:(Sl step)) (zoI:(Sl step)) (cv2:Int) (zqp:Int):Bool :=
  (cond (cv2 != (0:Int))
 true
 (P0 zoH zoI zcu zbQ (w64 (zqp+(1:Int)))))
theorem zBB (hX0:zs6 K X0 P0 S0) (hs:zs8 P0 zcu zbQ zoH zoI cv2 zqp=true) (hk:K (zJr (zs7 S0 zcu zbQ zoH zoI cv2 zqp))) (zwL:zoJ=zg zaB zoH) (zwM:zoK=zg zaB zoI):z107 K [1,0,1,0,0,1,1,0,0,1,1,1,1] [X0] ⟨[(0,zP (.sl zoH.len 5 zoJ)),(1,zP (.sl zoI.len 5 zoK)),(2,zP (.fn 108 [] [])),(10,zI cv2),(11,zS zaB 5 zcu),(12,zI zbQ),(13,zI zqp)],[],[]⟩:=by subst zwL;subst zwM;exact zaM (by kernel_rfl) (zc hs hk (λ hs hk=>hk) (λ hs hk=>(hX0 hs hk rfl rfl rfl)))
def zs9 (S0:(Sl step)->(Sl step)->(Sl step)->Int->Int->Int) (zoE:(Sl step)) (zjH:(Sl step)) (iv1:Int) (zcu:(Sl step)) (zbQ:Int) (zqo:Int) (zjf:Int) (zjg:Bool) (zjh:Int) (zji:Int) (zjj:Int):Int :=
  (zs7 S0 zcu zbQ zoE zjH (zLn (⟨(⟨zjf,zjg⟩:Use),zjh,zji,zjj⟩:step) (zjH.get iv1.toNat)) zqo)
def zta (P0:(Sl step)->(Sl step)->(Sl step)->Int->Int->Bool) (zoE:(Sl step)) (zjH:(Sl step)) (iv1:Int) (zcu:(Sl step)) (zbQ:Int) (zqo:Int) (zjf:Int) (zjg:Bool) (zjh:Int) (zji:Int) (zjj:Int):Bool :=
  (decide ((0≤iv1/\iv1 < (zjH.len:Int))) &&
 (decide ((zMg (⟨(⟨zjf,zjg⟩:Use),zjh,zji,zjj⟩:step) (zjH.get iv1.toNat)=true)) &&
 (zs8 P0 zcu zbQ zoE zjH (zLn (⟨(⟨zjf,zjg⟩:Use),zjh,zji,zjj⟩:step) (zjH.get iv1.toNat)) zqo)))
theorem zBC (hX0:zs6 K X0 P0 S0) (hs:zta P0 zoE zjH iv1 zcu zbQ zqo zjf zjg zjh zji zjj=true) (hk:K (zJr (zs9 S0 zoE zjH iv1 zcu zbQ zqo zjf zjg zjh zji zjj))) (zwN:zoF=zg zaB zoE) (zwO:zoG=zg zaB zjH) (zFj:zwK=zg zaB zcu):z107 K [1,0,1,0,0,1,1,0,0,1,1] [X0] ⟨[(0,zP (.sl zoE.len 5 zoF)),(1,zP (.sl zjH.len 5 zoG)),(2,zP (.fn 108 [] [])),(7,zI iv1),(8,zp 8 0),(11,zP (.sl zcu.len 5 zwK)),(12,zI zbQ),(13,zI zqo)],[(8,.box 130 (zm (zaB (⟨(⟨zjf,zjg⟩:Use),zjh,zji,zjj⟩:step))))],[]⟩:=by subst zwN;subst zwO;subst zFj;exact zaM (by kernel_rfl) (zaJ hs λ hc hs=>And.intro hc (zaJ hs λ hc hs=>And.intro hc (zBB hX0 hs hk rfl rfl)))
def ztb (S0:(Sl step)->(Sl step)->(Sl step)->Int->Int->Int) (zer:(Sl step)) (zdU:(Sl step)) (zaO:(Sl step)) (zbP:Int) (zbH:Int):Int :=
  (cond (decide (zbH < zbP))
 (cond (decide (zbH ≥ (zdU.len : Int)))
 (1:Int)
 (zs9 S0 zer zdU zbH zaO zbP zbH ((zaO.get zbH.toNat).Use.Tie) ((zaO.get zbH.toNat).Use.Back) ((zaO.get zbH.toNat).from_) ((zaO.get zbH.toNat).to) ((zaO.get zbH.toNat).length)))
 (cond (decide ((zer.len : Int) < (zdU.len : Int)))
 (-1:Int)
 (0:Int)))
def ztc (P0:(Sl step)->(Sl step)->(Sl step)->Int->Int->Bool) (zer:(Sl step)) (zdU:(Sl step)) (zaO:(Sl step)) (zbP:Int) (zbH:Int):Bool :=
  (cond (decide (zbH < zbP))
 (decide ((0≤zbH/\zbH < (zaO.len:Int))) &&
 (cond (decide (zbH ≥ (zdU.len : Int)))
 true
 (zta P0 zer zdU zbH zaO zbP zbH ((zaO.get zbH.toNat).Use.Tie) ((zaO.get zbH.toNat).Use.Back) ((zaO.get zbH.toNat).from_) ((zaO.get zbH.toNat).to) ((zaO.get zbH.toNat).length))))
 true)
def ztd:Nat->(Sl step)->(Sl step)->(Sl step)->Int->Int->Int:=lpO (λ _ _ _ _ _=>default) (ztb)
def zte:Nat->(Sl step)->(Sl step)->(Sl step)->Int->Int->Bool:=lpO (λ _ _ _ _ _=>false) (ztc)
def ztf (zer:(Sl step)) (zdU:(Sl step)) (zaO:(Sl step)) (zbP:Int) (zbH:Int):Int:=ztd Fuel zer zdU zaO zbP zbH
def ztg (zer:(Sl step)) (zdU:(Sl step)) (zaO:(Sl step)) (zbP:Int) (zbH:Int):Bool:=zte Fuel zer zdU zaO zbP zbH
theorem zBD (hs:ztg zer zdU zaO zbP zbH=true) (hk:K (zJr (ztf zer zdU zaO zbP zbH))) (zkQ:zdd=zg zaB zer) (zkR:zde=zg zaB zdU) (zqq:zfT=zg zaB zaO):z107 K [1,0,1,0] [] (zwJ zer zdU zaO zbP zbH zdd zde zfT) :=
  zl (λ X=>z107 K [1,0,1,0,0] [X]) (by kernel_rfl) λ X0 hX =>
  (show ∀ k, zs6 K X0 (zte k) (ztd k) from zd1 _ _ (ztc) (ztb) (zs6 K X0)
 (by intro _ _ _ _ _ _ _ _ hs;exact absurd hs Bool.false_ne_true)
 (by intro P0 S0 hX0 zer zdU zaO zbP zbH zdd zde zfT hs hk zkQ zkR zqq;subst zkQ;subst zkR;subst zqq;exact hX _ (zaM (by kernel_rfl) (zc hs hk (λ hs hk=>(zaJ hs λ hc hs=>And.intro hc (zc hs hk (λ hs hk=>hk) (λ hs hk=>(zBC hX0 hs hk rfl rfl rfl))))) (λ hs hk=>(zt hk (λ hk=>hk) (λ hk=>hk))))))) _ hs hk zkQ zkR zqq
def zLo (s1_a0:(Sl step)) (s2_a1:(Sl step)):Int :=
  (ztf s1_a0 s2_a1 s1_a0 (s1_a0.len:Int) (0:Int))
def zMi (s1_a0:(Sl step)) (s2_a1:(Sl step)):Bool :=
  (ztg s1_a0 s2_a1 s1_a0 (s1_a0.len:Int) (0:Int))
end
theorem zOk (s1_a0:(Sl step)) (s2_a1:(Sl step)) (K:List PA->Prop) (hs:zMi s1_a0 s2_a1=true) (hk:K (zJr (zLo s1_a0 s2_a1))):vcFun Tryd.prog zNx zwI 107 [.one (.sl s1_a0.len 5 (λ i=>zaB (s1_a0.get i))),.one (.sl s2_a1.len 5 (λ i=>zaB (s2_a1.get i))),.one (.fn 108 [] [])] K :=
  zaM (by kernel_rfl) (zBD hs hk rfl rfl rfl)
def zwP : List PA → COut
  | [.one (.sl zfR zlV zfS),.one (.sl zdJ zie zdB),.one (.fn 108 [] [])]=>.det (IsE zaB 5 zlV zfS/\IsE zaB 5 zie zdB/\zMi (⟨zfR,zhz zfS⟩:(Sl step)) (⟨zdJ,zhz zdB⟩:(Sl step))=true) [.one (.int .i64 (zLo (⟨zfR,zhz zfS⟩:(Sl step)) (⟨zdJ,zhz zdB⟩:(Sl step))))]
  | _=>.no
theorem zFk:zar Tryd.prog 107:=⟨_,rfl,rfl,by kernel_rfl⟩
theorem zMj:Ok Tryd.prog 107 zwP:=za9 zJq zFk λ args K h=>by
  unfold zwP at h
  split at h
  · rename_i zfR zlV zfS zdJ zie zdB
    obtain⟨⟨⟨rfl,zit,rfl⟩,⟨rfl,zfL,rfl⟩,hs⟩,hk⟩:=h
    try rw[zef zit] at hs
    try rw[zef zit] at hk
    try rw[zef zfL] at hs
    try rw[zef zfL] at hk
    exact⟨(λ _ _=>[]),(λ _=>false),zwI,zOk (⟨zfR,zit⟩:(Sl step)) (⟨zdJ,zfL⟩:(Sl step)) K hs hk⟩
  · exact h.elim
abbrev T89:Tabs:=((((Tabs.nil.addF 93 zoy).addF 106 zwB).addF 107 zwP).addI 110 zoA)
theorem zMk:TabsOk Tryd.prog T89:=((((TabsOk.nil.addF zHQ).addF zL9).addF zMj).addI zt6)
abbrev G89:Ctrs:=csm T89 (λ _ _=>[]) (λ _=>false)
def zwQ:Ann:=⟨148,[(0,zK [0] []),(1,zK [0,3] [21]),(2,zK [0,3,23,24] [21]),(3,zK [0,3,23,24,25] [21]),(4,zK [0,3,4,23,24] [21]),(5,zK [0,3,23,24] [21]),(6,zK [0,3,23,24] [21]),(7,zK [0,3] [21]),(8,zK [0,3,5] [21]),(9,zK [0,3,5,45] [21]),(10,zK [0,3,5] [21]),(11,zK [0,3,5,48,49,50] [21]),(12,zK [0,3,5,48,49,50,51] [21]),(13,zK [0,3,5,6,7,48,49,50] [21]),(14,zK [0,3,5,48,49,50,62] [21]),(15,zK [0,3,5,48,49,50] [21]),(16,zK [0,3,5,8] [21]),(17,zK [0,5,8,64,65,66] [21]),(18,zK [0,5,8,64,65,66,67] [21]),(19,zK [0,5,8,9,10,64,65,66] [9,10,21]),(20,zK [0,5,8,9,10,64,65,66,78] [9,10,21]),(21,zK [0,5,8,9,10,11,64,65,66] [9,10,11,21]),(22,zK [0,5,8,9,10,11,12,13,64,65,66] [9,10,11,12,13,21]),(23,zK [0,5,8,9,10,11,12,13,14,64,65,66] [9,10,11,12,13,14,21]),(24,zK [0,5,8,9,10,11,12,13,14,64,65,66,83] [9,10,11,12,13,14,21,129]),(25,zK [0,5,8,9,10,11,12,13,14,64,65,66] [9,10,11,12,13,14,21,129]),(26,zK [0,5,8,9,10,11,12,13,14,64,65,66,87] [9,10,11,12,13,14,21,129]),(27,zK [0,5,8,9,10,11,12,13,14,15,64,65,66,87] [9,10,11,12,13,14,15,21,129]),(28,zK [0,5,8,9,10,11,12,13,14,15,64,65,66,87,125] [9,10,11,12,13,14,15,21,129]),(29,zK [0,5,8,9,10,11,12,13,14,15,64,65,66] [9,10,11,12,13,14,15,21,129]),(30,zK [0,5,8,9,10,11,12,13,14,64,65,66] [9,10,11,12,13,14,21,129]),(31,zK [0,5,8,9,10,11,12,13,64,65,66,136] [9,10,11,12,13,21,129]),(32,zK [0,5,8,9,10,11,12,13,14,64,65,66] [9,10,11,12,13,14,21,129]),(33,zK [0,5,8,11,64,65,66,144] [11,21,129]),(34,zK [0,5,8,64,65,66] [21,129]),(35,zK [0,5,8,64,65,66] [21,129]),(36,zK [2] [])],
 [(3,zK [0,3,23,24] [21]),(9,zK [0,3,5] [21]),(12,zK [0,3,5,48,49,50] [21]),(18,⟨[0,5,8,64,65,66],[21],[],[],[],[],[(8,1005,λ _=>zaB default)]⟩),(24,⟨[0,5,8,9,10,11,12,13,14,64,65,66],[9,10,11,12,13,14,21,129],[],[(11,0,129,130,λ _=>zaB default)],[],[],[]⟩),(27,zK [0,5,8,9,10,11,12,13,14,64,65,66,87] [9,10,11,12,13,14,21,129])],
 [(7,zK [0,3] [21]),(16,zK [0,3,5] [21]),(34,zK [0,5,8,11,64,65,66,144] [11,21,129])],
 [],[]⟩
abbrev R89:=(Sl step)
abbrev e89 (r:R89):List PA:=[.one (.sl r.len 5 (λ i=>zaB (r.get i)))]
@[irreducible] def z89:=ptF Tryd.prog G89 zwQ Tryd.f89
@[irreducible] def x89:=exF Tryd.prog G89 zwQ Tryd.f89
@[irreducible] def y89:=rnF Tryd.prog G89 zwQ Tryd.f89
def zCV (w:web) (zcD:Int) (zc0:(Sl (Sl Tab))) (zfU:Nat->List PV):St:=⟨[(0,zP (.fp (zaA w) 0)),(3,zv 21),(23,zI (w.Net.Nodes.toNat:Int)),(24,zI zcD)],[(21,.vec 159 1 24 zc0.len zfU)],[]⟩
abbrev zJs (K:List PA->Prop) (w:web) (X:St->Prop) (P:Int->(Sl (Sl Tab))->Bool) (S:Int->(Sl (Sl Tab))->(Sl step)):Prop:=∀ ⦃zcD:Int⦄ ⦃zc0:(Sl (Sl Tab))⦄ ⦃zfU:Nat->List PV⦄,P zcD zc0=true->K (e89 (S zcD zc0))->zfU=zg zcB zc0->X (zCV w zcD zc0 zfU)
def zCW (w:web) (za4:(Sl (Sl Tab))) (zcq:Int):St:=⟨[(0,zP (.fp (zaA w) 0)),(3,zv 21),(5,zI zcq)],[(21,.vec 159 1 24 za4.len (λ i=>zcB (za4.get i)))],[]⟩
abbrev zFl (K:List PA->Prop) (w:web) (za4:(Sl (Sl Tab))) (X:St->Prop) (P:Int->Bool) (S:Int->(Sl step)):Prop:=∀ ⦃zcq:Int⦄,P zcq=true->K (e89 (S zcq))->X (zCW w za4 zcq)
def zCX (w:web) (za4:(Sl (Sl Tab))) (zbY:Int) (zcK:Int):St:=⟨[(0,zP (.fp (zaA w) 0)),(3,zv 21),(5,zI zbY),(48,zv 21),(49,zI (za4.len:Int)),(50,zI zcK)],[(21,.vec 159 1 24 za4.len (λ i=>zcB (za4.get i)))],[]⟩
abbrev zJt (K:List PA->Prop) (w:web) (za4:(Sl (Sl Tab))) (X:St->Prop) (P:Int->Int->Bool) (S:Int->Int->(Sl step)):Prop:=∀ ⦃zbY:Int⦄ ⦃zcK:Int⦄,P zbY zcK=true->K (e89 (S zbY zcK))->X (zCX w za4 zbY zcK)
def zCY (w:web) (zaL:(Sl (Sl Tab))) (zbZ:Int) (zbv:Bool) (zcl:(Sl step)) (zb6:Int) (zcO:(Sl (Sl Tab))) (zej:Nat->List PV) (zfV:Nat->List PV):St:=⟨[(0,zP (.fp (zaA w) 0)),(5,zI zbZ),(8,zP (.ns zbv zcl.len 5 zej)),(64,zv 21),(65,zI (zaL.len:Int)),(66,zI zb6)],[(21,.vec 159 1 24 zcO.len zfV)],[]⟩
abbrev zwR (K:List PA->Prop) (w:web) (zaL:(Sl (Sl Tab))) (X:St->Prop) (P:Int->Bool->(Sl step)->Int->(Sl (Sl Tab))->Bool) (S:Int->Bool->(Sl step)->Int->(Sl (Sl Tab))->(Sl step)):Prop:=∀ ⦃zbZ:Int⦄ ⦃zbv:Bool⦄ ⦃zcl:(Sl step)⦄ ⦃zb6:Int⦄ ⦃zcO:(Sl (Sl Tab))⦄ ⦃zej:Nat->List PV⦄ ⦃zfV:Nat->List PV⦄,P zbZ zbv zcl zb6 zcO=true->K (e89 (S zbZ zbv zcl zb6 zcO))->zej=zg zaB zcl->zfV=zg zcB zcO->X (zCY w zaL zbZ zbv zcl zb6 zcO zej zfV)
def zCZ (w:web) (zaL:(Sl (Sl Tab))) (zcr:Int) (zbg:Bool) (zbI:(Sl step)) (zd4:Int) (iv6:Int) (hv6:(Sl Tab)) (znc:Int) (zbz:Int) (kv6:Int) (zdC:(Sl (Sl Tab))) (zbM:(Sl step)) (zek:Nat->List PV) (zoL:Nat->List PV) (zfW:Nat->List PV) (zel:Nat->List PV):St:=⟨[(0,zP (.fp (zaA w) 0)),(5,zI zcr),(8,zP (.ns zbg zbI.len 5 zek)),(9,zp 9 0),(10,zp 10 0),(11,zp 11 0),(12,zp 12 0),(13,zp 13 0),(14,zp 14 0),(64,zv 21),(65,zI (zaL.len:Int)),(66,zI zd4)],[(9,.box 3 [zi iv6]),(10,.box 159 [.p (.sl hv6.len 80 zoL)]),(11,.box 127 [.vec 129]),(12,.box 3 [zi znc]),(13,.box 3 [zi zbz]),(14,.box 3 [zi kv6]),(21,.vec 159 1 24 zdC.len zfW),(129,.vec 130 5 40 zbM.len zel)],[]⟩
abbrev zFm (K:List PA->Prop) (w:web) (zaL:(Sl (Sl Tab))) (X:St->Prop) (P:Int->Bool->(Sl step)->Int->Int->(Sl Tab)->Int->Int->Int->(Sl (Sl Tab))->(Sl step)->Bool) (S:Int->Bool->(Sl step)->Int->Int->(Sl Tab)->Int->Int->Int->(Sl (Sl Tab))->(Sl step)->(Sl step)):Prop:=∀ ⦃zcr:Int⦄ ⦃zbg:Bool⦄ ⦃zbI:(Sl step)⦄ ⦃zd4:Int⦄ ⦃iv6:Int⦄ ⦃hv6:(Sl Tab)⦄ ⦃znc:Int⦄ ⦃zbz:Int⦄ ⦃kv6:Int⦄ ⦃zdC:(Sl (Sl Tab))⦄ ⦃zbM:(Sl step)⦄ ⦃zek:Nat->List PV⦄ ⦃zoL:Nat->List PV⦄ ⦃zfW:Nat->List PV⦄ ⦃zel:Nat->List PV⦄,P zcr zbg zbI zd4 iv6 hv6 znc zbz kv6 zdC zbM=true->K (e89 (S zcr zbg zbI zd4 iv6 hv6 znc zbz kv6 zdC zbM))->zek=zg zaB zbI->zoL=zg zaf hv6->zfW=zg zcB zdC->zel=zg zaB zbM->X (zCZ w zaL zcr zbg zbI zd4 iv6 hv6 znc zbz kv6 zdC zbM zek zoL zfW zel)
def zwS (w:web) (zaL:(Sl (Sl Tab))) (zbA:Int) (zaU:Bool) (zbw:(Sl step)) (zcx:Int) (iv7:Int) (hv7:(Sl Tab)) (zgB:Int) (zaR:Int) (kv7:Int) (zco:(Sl (Sl Tab))) (zbj:(Sl step)) (zc6:Nat->List PV) (zll:Nat->List PV) (zes:Nat->List PV) (zc7:Nat->List PV):St:=⟨[(0,zP (.fp (zaA w) 0)),(5,zI zbA),(8,zP (.ns zaU zbw.len 5 zc6)),(9,zp 9 0),(10,zp 10 0),(11,zp 11 0),(12,zp 12 0),(13,zp 13 0),(14,zp 14 0),(64,zv 21),(65,zI (zaL.len:Int)),(66,zI zcx),(87,zP (.fn 110 [] [.fp [.fp (zaA w) 0] 0]))],[(9,.box 3 [zi iv7]),(10,.box 159 [.p (.sl hv7.len 80 zll)]),(11,.box 127 [.vec 129]),(12,.box 3 [zi zgB]),(13,.box 3 [zi zaR]),(14,.box 3 [zi kv7]),(21,.vec 159 1 24 zco.len zes),(129,.vec 130 5 40 zbj.len zc7)],[]⟩
abbrev zJu (K:List PA->Prop) (w:web) (zaL:(Sl (Sl Tab))) (X:St->Prop) (P:Int->Bool->(Sl step)->Int->Int->(Sl Tab)->Int->Int->Int->(Sl (Sl Tab))->(Sl step)->Bool) (S:Int->Bool->(Sl step)->Int->Int->(Sl Tab)->Int->Int->Int->(Sl (Sl Tab))->(Sl step)->(Sl step)):Prop:=∀ ⦃zbA:Int⦄ ⦃zaU:Bool⦄ ⦃zbw:(Sl step)⦄ ⦃zcx:Int⦄ ⦃iv7:Int⦄ ⦃hv7:(Sl Tab)⦄ ⦃zgB:Int⦄ ⦃zaR:Int⦄ ⦃kv7:Int⦄ ⦃zco:(Sl (Sl Tab))⦄ ⦃zbj:(Sl step)⦄ ⦃zc6:Nat->List PV⦄ ⦃zll:Nat->List PV⦄ ⦃zes:Nat->List PV⦄ ⦃zc7:Nat->List PV⦄,P zbA zaU zbw zcx iv7 hv7 zgB zaR kv7 zco zbj=true->K (e89 (S zbA zaU zbw zcx iv7 hv7 zgB zaR kv7 zco zbj))->zc6=zg zaB zbw->zll=zg zaf hv7->zes=zg zcB zco->zc7=zg zaB zbj->X (zwS w zaL zbA zaU zbw zcx iv7 hv7 zgB zaR kv7 zco zbj zc6 zll zes zc7)
section
variable {K:List PA->Prop}{w:web}{zcD:Int}{zc0:(Sl (Sl Tab))}{zfU:Nat->List PV}{X0:St->Prop}{P0:Int->(Sl (Sl Tab))->Bool}{S0:Int->(Sl (Sl Tab))->(Sl step)}{za4:(Sl (Sl Tab))}{zwT:Nat->List PV}{zcq:Int}{X2:St->Prop}{P2:Int->Bool}{S2:Int->(Sl step)}{zbY:Int}{zcK:Int}{X3:St->Prop}{P3:Int->Int->Bool}{S3:Int->Int->(Sl step)}{zkS:Int}{zaL:(Sl (Sl Tab))}{zwU:Nat->List PV}{zbZ:Int}{zbv:Bool}{zcl:(Sl step)}{zb6:Int}{zcO:(Sl (Sl Tab))}{zej:Nat->List PV}{zfV:Nat->List PV}{X5:St->Prop}{P5:Int->Bool->(Sl step)->Int->(Sl (Sl Tab))->Bool}{S5:Int->Bool->(Sl step)->Int->(Sl (Sl Tab))->(Sl step)}{zcr:Int}{zbg:Bool}{zbI:(Sl step)}{zd4:Int}{iv6:Int}{hv6:(Sl Tab)}{znc:Int}{zbz:Int}{kv6:Int}{zdC:(Sl (Sl Tab))}{zbM:(Sl step)}{zek:Nat->List PV}{zoL:Nat->List PV}{zfW:Nat->List PV}{zel:Nat->List PV}{X6:St->Prop}{P6:Int->Bool->(Sl step)->Int->Int->(Sl Tab)->Int->Int->Int->(Sl (Sl Tab))->(Sl step)->Bool}{S6:Int->Bool->(Sl step)->Int->Int->(Sl Tab)->Int->Int->Int->(Sl (Sl Tab))->(Sl step)->(Sl step)}{zbA:Int}{zaU:Bool}{zbw:(Sl step)}{zcx:Int}{iv7:Int}{hv7:(Sl Tab)}{zgB:Int}{zaR:Int}{kv7:Int}{zco:(Sl (Sl Tab))}{zbj:(Sl step)}{zc6:Nat->List PV}{zll:Nat->List PV}{zes:Nat->List PV}{zc7:Nat->List PV}{zhB:Int}{ze6:Bool}{zjk:(Sl step)}{znd:Int}{zkT:Bool}{zlm:(Sl (Sl Tab))}{zjl:(Sl step)}{zth:Nat->List PV}{zwV:Nat->List PV}{zti:Nat->List PV}
def zqr (S5:Int->Bool->(Sl step)->Int->(Sl (Sl Tab))->(Sl step)) (w:web) (zaL:(Sl (Sl Tab))) (zhB:Int) (ze6:Bool) (zjk:(Sl step)) (znd:Int) (zkT:Bool) (zlm:(Sl (Sl Tab))) (zjl:(Sl step)):(Sl step) :=
  (cond zkT
 (S5 zhB false zjl (w64 (znd+(1:Int))) zlm)
 (S5 zhB ze6 zjk (w64 (znd+(1:Int))) zlm))
def zqs (P5:Int->Bool->(Sl step)->Int->(Sl (Sl Tab))->Bool) (w:web) (zaL:(Sl (Sl Tab))) (zhB:Int) (ze6:Bool) (zjk:(Sl step)) (znd:Int) (zkT:Bool) (zlm:(Sl (Sl Tab))) (zjl:(Sl step)):Bool :=
  (cond zkT
 (P5 zhB false zjl (w64 (znd+(1:Int))) zlm)
 (P5 zhB ze6 zjk (w64 (znd+(1:Int))) zlm))
theorem zwW (hX5:zwR K w zaL X5 P5 S5) (hs:zqs P5 w zaL zhB ze6 zjk znd zkT zlm zjl=true) (hk:K (e89 (zqr S5 w zaL zhB ze6 zjk znd zkT zlm zjl))) (zBE:zth=zg zaB zjk) (zFn:zwV=zg zcB zlm) (zBF:zti=zg zaB zjl):z89 K [1,0,1,1,1,1,1,1,0,1,0,0,1,1,0,0,1,1,1,1,1,1] [X5] ⟨[(0,zP (.fp (zaA w) 0)),(5,zI zhB),(8,zP (.ns ze6 zjk.len 5 zth)),(11,zp 11 0),(64,zv 21),(65,zI (zaL.len:Int)),(66,zI znd),(144,zB zkT)],[(11,.box 127 [.vec 129]),(21,.vec 159 1 24 zlm.len zwV),(129,.vec 130 5 40 zjl.len zti)],[]⟩:=by subst zBE;subst zFn;subst zBF;exact zaM (by kernel_rfl) (zc hs hk (λ hs hk=>(hX5 hs hk rfl rfl)) (λ hs hk=>(hX5 hs hk rfl rfl)))
def zFo (S5:Int->Bool->(Sl step)->Int->(Sl (Sl Tab))->(Sl step)) (S6:Int->Bool->(Sl step)->Int->Int->(Sl Tab)->Int->Int->Int->(Sl (Sl Tab))->(Sl step)->(Sl step)) (w:web) (zaL:(Sl (Sl Tab))) (zbA:Int) (zaU:Bool) (zbw:(Sl step)) (zcx:Int) (iv7:Int) (hv7:(Sl Tab)) (zgB:Int) (zaR:Int) (kv7:Int) (zco:(Sl (Sl Tab))) (zbj:(Sl step)):(Sl step) :=
  (S6 zbA zaU zbw zcx iv7 hv7 zgB zaR (w64 (kv7 - (1:Int))) zco zbj)
def zFp (P5:Int->Bool->(Sl step)->Int->(Sl (Sl Tab))->Bool) (P6:Int->Bool->(Sl step)->Int->Int->(Sl Tab)->Int->Int->Int->(Sl (Sl Tab))->(Sl step)->Bool) (w:web) (zaL:(Sl (Sl Tab))) (zbA:Int) (zaU:Bool) (zbw:(Sl step)) (zcx:Int) (iv7:Int) (hv7:(Sl Tab)) (zgB:Int) (zaR:Int) (kv7:Int) (zco:(Sl (Sl Tab))) (zbj:(Sl step)):Bool :=
  (P6 zbA zaU zbw zcx iv7 hv7 zgB zaR (w64 (kv7 - (1:Int))) zco zbj)
def zwX (S5:Int->Bool->(Sl step)->Int->(Sl (Sl Tab))->(Sl step)) (S6:Int->Bool->(Sl step)->Int->Int->(Sl Tab)->Int->Int->Int->(Sl (Sl Tab))->(Sl step)->(Sl step)) (w:web) (zaL:(Sl (Sl Tab))) (y7:step) (S7:Int->Bool->(Sl step)->Int->Int->(Sl Tab)->Int->Int->Int->(Sl (Sl Tab))->(Sl step)->(Sl step)) (zbA:Int) (zaU:Bool) (zbw:(Sl step)) (zcx:Int) (iv7:Int) (hv7:(Sl Tab)) (zgB:Int) (zaR:Int) (kv7:Int) (zco:(Sl (Sl Tab))) (zbj:(Sl step)):(Sl step) :=
  (cond (y7.from_ == zgB)
 (cond (decide (y7.to ≥ iv7))
 (cond (!(nvr (tL (hv7.get kv7.toNat) y7.to) (tU (hv7.get kv7.toNat) y7.to)))
 (cond (decide ((w64 ((w64 (zaR + y7.length)) + (tL (hv7.get kv7.toNat) y7.to))) < (0:Int)))
 (S6 zbA zaU zbw zcx iv7 hv7 y7.to (w64 (zaR+y7.length)) (w64 (kv7 - (1:Int))) zco (⟨(zbj.len+1),(zgi zbj.len zbj.get (λ _=>y7))⟩:Sl step))
 (S7 zbA zaU zbw zcx iv7 hv7 zgB zaR kv7 zco zbj))
 (S7 zbA zaU zbw zcx iv7 hv7 zgB zaR kv7 zco zbj))
 (S7 zbA zaU zbw zcx iv7 hv7 zgB zaR kv7 zco zbj))
 (S7 zbA zaU zbw zcx iv7 hv7 zgB zaR kv7 zco zbj))
def zwY (P5:Int->Bool->(Sl step)->Int->(Sl (Sl Tab))->Bool) (P6:Int->Bool->(Sl step)->Int->Int->(Sl Tab)->Int->Int->Int->(Sl (Sl Tab))->(Sl step)->Bool) (w:web) (zaL:(Sl (Sl Tab))) (y7:step) (P7:Int->Bool->(Sl step)->Int->Int->(Sl Tab)->Int->Int->Int->(Sl (Sl Tab))->(Sl step)->Bool) (zbA:Int) (zaU:Bool) (zbw:(Sl step)) (zcx:Int) (iv7:Int) (hv7:(Sl Tab)) (zgB:Int) (zaR:Int) (kv7:Int) (zco:(Sl (Sl Tab))) (zbj:(Sl step)):Bool :=
  (cond (y7.from_ == zgB)
 (cond (decide (y7.to ≥ iv7))
 (decide ((0≤kv7/\kv7 < (hv7.len:Int))) &&
 (decide ((0≤y7.to/\y7.to < (40:Int))) &&
 (cond (!(nvr (tL (hv7.get kv7.toNat) y7.to) (tU (hv7.get kv7.toNat) y7.to)))
 (decide ((0≤kv7/\kv7 < (hv7.len:Int))) &&
 (decide ((0≤y7.to/\y7.to < (40:Int))) &&
 (cond (decide ((w64 ((w64 (zaR + y7.length)) + (tL (hv7.get kv7.toNat) y7.to))) < (0:Int)))
 (decide (((zbj.len+1) * 40≤140737488355328/\zbj.len+1≤9223372036854775807)) &&
 (P6 zbA zaU zbw zcx iv7 hv7 y7.to (w64 (zaR+y7.length)) (w64 (kv7 - (1:Int))) zco (⟨(zbj.len+1),(zgi zbj.len zbj.get (λ _=>y7))⟩:Sl step)))
 (P7 zbA zaU zbw zcx iv7 hv7 zgB zaR kv7 zco zbj))))
 (P7 zbA zaU zbw zcx iv7 hv7 zgB zaR kv7 zco zbj))))
 (P7 zbA zaU zbw zcx iv7 hv7 zgB zaR kv7 zco zbj))
 (P7 zbA zaU zbw zcx iv7 hv7 zgB zaR kv7 zco zbj))
def zwZ (S5:Int->Bool->(Sl step)->Int->(Sl (Sl Tab))->(Sl step)) (S6:Int->Bool->(Sl step)->Int->Int->(Sl Tab)->Int->Int->Int->(Sl (Sl Tab))->(Sl step)->(Sl step)) (w:web) (zaL:(Sl (Sl Tab))):List step->Int->Bool->(Sl step)->Int->Int->(Sl Tab)->Int->Int->Int->(Sl (Sl Tab))->(Sl step)->(Sl step):=lpR (zFo S5 S6 w zaL) (zwX S5 S6 w zaL)
def zw0 (P5:Int->Bool->(Sl step)->Int->(Sl (Sl Tab))->Bool) (P6:Int->Bool->(Sl step)->Int->Int->(Sl Tab)->Int->Int->Int->(Sl (Sl Tab))->(Sl step)->Bool) (w:web) (zaL:(Sl (Sl Tab))):List step->Int->Bool->(Sl step)->Int->Int->(Sl Tab)->Int->Int->Int->(Sl (Sl Tab))->(Sl step)->Bool:=lpR (zFp P5 P6 w zaL) (zwY P5 P6 w zaL)
def zw1 (S5:Int->Bool->(Sl step)->Int->(Sl (Sl Tab))->(Sl step)) (S6:Int->Bool->(Sl step)->Int->Int->(Sl Tab)->Int->Int->Int->(Sl (Sl Tab))->(Sl step)->(Sl step)) (w:web) (zaL:(Sl (Sl Tab))) (zbA:Int) (zaU:Bool) (zbw:(Sl step)) (zcx:Int) (iv7:Int) (hv7:(Sl Tab)) (zgB:Int) (zaR:Int) (kv7:Int) (zco:(Sl (Sl Tab))) (zbj:(Sl step)):(Sl step):=zwZ S5 S6 w zaL (zkO w) zbA zaU zbw zcx iv7 hv7 zgB zaR kv7 zco zbj
def zw2 (P5:Int->Bool->(Sl step)->Int->(Sl (Sl Tab))->Bool) (P6:Int->Bool->(Sl step)->Int->Int->(Sl Tab)->Int->Int->Int->(Sl (Sl Tab))->(Sl step)->Bool) (w:web) (zaL:(Sl (Sl Tab))) (zbA:Int) (zaU:Bool) (zbw:(Sl step)) (zcx:Int) (iv7:Int) (hv7:(Sl Tab)) (zgB:Int) (zaR:Int) (kv7:Int) (zco:(Sl (Sl Tab))) (zbj:(Sl step)):Bool:=decide ((zui w=true)) && zw0 P5 P6 w zaL (zkO w) zbA zaU zbw zcx iv7 hv7 zgB zaR kv7 zco zbj
theorem zFq (hX5:zwR K w zaL X5 P5 S5) (hX6:zFm K w zaL X6 P6 S6) (hs:zw2 P5 P6 w zaL zbA zaU zbw zcx iv7 hv7 zgB zaR kv7 zco zbj=true) (hk:K (e89 (zw1 S5 S6 w zaL zbA zaU zbw zcx iv7 hv7 zgB zaR kv7 zco zbj))) (zhC:zc6=zg zaB zbw) (zw3:zll=zg zaf hv7) (zkU:zes=zg zcB zco) (zhD:zc7=zg zaB zbj):z89 K [1,0,1,1,1,1,1,1,0,1,0,0,1,1,0,0,1,1,1,1,0,1,0,0,1,0,0,1,0] [X5,X6] (zwS w zaL zbA zaU zbw zcx iv7 hv7 zgB zaR kv7 zco zbj zc6 zll zes zc7) :=
  zaJ hs λ hc hs=>zr (enc:=(λ y:step=>[.agg (zaB y)])) (ys:=zkO w) (g:=(zwS w zaL zbA zaU zbw zcx iv7 hv7 zgB zaR kv7 zco zbj zc6 zll zes zc7)) (x89 K [1,0,1,1,1,1,1,1,0,1,0,0,1,1,0,0,1,1,1,1,0,1,0,0,1,0,0,1,0] [X5,X6]) (y89 K [1,0,1,1,1,1,1,1,0,1,0,0,1,1,0,0,1,1,1,1,0,1,0,0,1,0,0,1,0] [X5,X6]) (by kernel_rfl) (And.intro (zE enc_40 4 w.Net.Ties.get) (And.intro (rfl:((false,1,false,[none]):MQ)=(false,1,false,[none])) hc)) λ X7 hE hR =>
  (show ∀ l : List step, zJu K w zaL (X7 (l.map (λ y : step => [.agg (zaB y)]))) (zw0 P5 P6 w zaL l) (zwZ S5 S6 w zaL l) from zri (X := X7) (enc := (λ y : step => [.agg (zaB y)])) _ _ (zwY P5 P6 w zaL) (zwX S5 S6 w zaL) (λ Z P S => zJu K w zaL Z P S)
 (by intro zbA zaU zbw zcx iv7 hv7 zgB zaR kv7 zco zbj zc6 zll zes zc7 hs hk zhC zw3 zkU zhD;subst zhC;subst zw3;subst zkU;subst zhD;exact hE _ (zaM (by kernel_rfl) (hX6 hs hk rfl rfl rfl rfl)))
 (by intro y7 rest P7 S7 hX7 zbA zaU zbw zcx iv7 hv7 zgB zaR kv7 zco zbj zc6 zll zes zc7 hs hk zhC zw3 zkU zhD;subst zhC;subst zw3;subst zkU;subst zhD;exact hR _ rest _ (zaM (by kernel_rfl) (zc hs hk (λ hs hk=>(zc hs hk (λ hs hk=>(zaJ hs λ hc hs=>And.intro hc (zaJ hs λ hc hs=>And.intro hc (zc hs hk (λ hs hk=>(zaJ hs λ hc hs=>And.intro hc (zaJ hs λ hc hs=>And.intro hc (zc hs hk (λ hs hk=>(zaJ hs λ hc hs=>And.intro hc (hX6 hs hk rfl rfl rfl (zjb (enc:=zaB) (f:=zbj.get) (h:=(λ _=>y7)) rfl rfl)))) (λ hs hk=>(hX7 hs hk rfl rfl rfl rfl)))))) (λ hs hk=>(hX7 hs hk rfl rfl rfl rfl)))))) (λ hs hk=>(hX7 hs hk rfl rfl rfl rfl)))) (λ hs hk=>(hX7 hs hk rfl rfl rfl rfl)))))) _ hs hk zhC zw3 zkU zhD
def zw4 (S5:Int->Bool->(Sl step)->Int->(Sl (Sl Tab))->(Sl step)) (w:web) (zaL:(Sl (Sl Tab))) (S6:Int->Bool->(Sl step)->Int->Int->(Sl Tab)->Int->Int->Int->(Sl (Sl Tab))->(Sl step)->(Sl step)) (zcr:Int) (zbg:Bool) (zbI:(Sl step)) (zd4:Int) (iv6:Int) (hv6:(Sl Tab)) (znc:Int) (zbz:Int) (kv6:Int) (zdC:(Sl (Sl Tab))) (zbM:(Sl step)):(Sl step) :=
  (cond (decide (kv6 ≥ (0:Int)))
 (zw1 S5 S6 w zaL zcr zbg zbI zd4 iv6 hv6 znc zbz kv6 zdC zbM)
 (cond zbg
 (zqr S5 w zaL zcr zbg zbI zd4 true zdC zbM)
 (zqr S5 w zaL zcr zbg zbI zd4 (decide ((zLo zbM zbI) < (0:Int))) zdC zbM)))
def zw5 (P5:Int->Bool->(Sl step)->Int->(Sl (Sl Tab))->Bool) (w:web) (zaL:(Sl (Sl Tab))) (P6:Int->Bool->(Sl step)->Int->Int->(Sl Tab)->Int->Int->Int->(Sl (Sl Tab))->(Sl step)->Bool) (zcr:Int) (zbg:Bool) (zbI:(Sl step)) (zd4:Int) (iv6:Int) (hv6:(Sl Tab)) (znc:Int) (zbz:Int) (kv6:Int) (zdC:(Sl (Sl Tab))) (zbM:(Sl step)):Bool :=
  (cond (decide (kv6 ≥ (0:Int)))
 (zw2 P5 P6 w zaL zcr zbg zbI zd4 iv6 hv6 znc zbz kv6 zdC zbM)
 (decide ((zbg=true∨zbI.len ≠ 0)) &&
 (cond zbg
 (zqs P5 w zaL zcr zbg zbI zd4 true zdC zbM)
 (decide ((zMi zbM zbI=true)) &&
 (zqs P5 w zaL zcr zbg zbI zd4 (decide ((zLo zbM zbI) < (0:Int))) zdC zbM)))))
def zw6 (S5:Int->Bool->(Sl step)->Int->(Sl (Sl Tab))->(Sl step)) (w:web) (zaL:(Sl (Sl Tab))):Nat->Int->Bool->(Sl step)->Int->Int->(Sl Tab)->Int->Int->Int->(Sl (Sl Tab))->(Sl step)->(Sl step):=lpO (λ _ _ _ _ _ _ _ _ _ _ _=>default) (zw4 S5 w zaL)
def zw7 (P5:Int->Bool->(Sl step)->Int->(Sl (Sl Tab))->Bool) (w:web) (zaL:(Sl (Sl Tab))):Nat->Int->Bool->(Sl step)->Int->Int->(Sl Tab)->Int->Int->Int->(Sl (Sl Tab))->(Sl step)->Bool:=lpO (λ _ _ _ _ _ _ _ _ _ _ _=>false) (zw5 P5 w zaL)
def zw8 (S5:Int->Bool->(Sl step)->Int->(Sl (Sl Tab))->(Sl step)) (w:web) (zaL:(Sl (Sl Tab))) (zcr:Int) (zbg:Bool) (zbI:(Sl step)) (zd4:Int) (iv6:Int) (hv6:(Sl Tab)) (znc:Int) (zbz:Int) (kv6:Int) (zdC:(Sl (Sl Tab))) (zbM:(Sl step)):(Sl step):=zw6 S5 w zaL Fuel zcr zbg zbI zd4 iv6 hv6 znc zbz kv6 zdC zbM
def zw9 (P5:Int->Bool->(Sl step)->Int->(Sl (Sl Tab))->Bool) (w:web) (zaL:(Sl (Sl Tab))) (zcr:Int) (zbg:Bool) (zbI:(Sl step)) (zd4:Int) (iv6:Int) (hv6:(Sl Tab)) (znc:Int) (zbz:Int) (kv6:Int) (zdC:(Sl (Sl Tab))) (zbM:(Sl step)):Bool:=zw7 P5 w zaL Fuel zcr zbg zbI zd4 iv6 hv6 znc zbz kv6 zdC zbM
theorem zFr (hX5:zwR K w zaL X5 P5 S5) (hs:zw9 P5 w zaL zcr zbg zbI zd4 iv6 hv6 znc zbz kv6 zdC zbM=true) (hk:K (e89 (zw8 S5 w zaL zcr zbg zbI zd4 iv6 hv6 znc zbz kv6 zdC zbM))) (zne:zek=zg zaB zbI) (zFs:zoL=zg zaf hv6) (zqu:zfW=zg zcB zdC) (znf:zel=zg zaB zbM):z89 K [1,0,1,1,1,1,1,1,0,1,0,0,1,1,0,0,1,1,1,1,0,1,0] [X5] (zCZ w zaL zcr zbg zbI zd4 iv6 hv6 znc zbz kv6 zdC zbM zek zoL zfW zel) :=
  zl (λ X=>z89 K [1,0,1,1,1,1,1,1,0,1,0,0,1,1,0,0,1,1,1,1,0,1,0,0] [X5,X]) (by kernel_rfl) λ X6 hX =>
  (show ∀ k, zFm K w zaL X6 (zw7 P5 w zaL k) (zw6 S5 w zaL k) from zd1 _ _ (zw5 P5 w zaL) (zw4 S5 w zaL) (zFm K w zaL X6)
 (by intro _ _ _ _ _ _ _ _ _ _ _ _ _ _ _ hs;exact absurd hs Bool.false_ne_true)
 (by intro P6 S6 hX6 zcr zbg zbI zd4 iv6 hv6 znc zbz kv6 zdC zbM zek zoL zfW zel hs hk zne zFs zqu znf;subst zne;subst zFs;subst zqu;subst znf;exact hX _ (zaM (by kernel_rfl) (zc hs hk (λ hs hk=>(And.intro (And.intro (zE enc_40 4 w.Net.Ties.get) (rfl:((false,1,false,[none]):MQ)=(false,1,false,[none]))) (zFq hX5 hX6 hs hk rfl rfl rfl rfl))) (λ hs hk=>(zaJ hs λ hc hs=>And.intro hc (zc hs hk (λ hs hk=>(zwW hX5 hs hk rfl rfl rfl)) (λ hs hk=>(zaJ hs λ hc hs=>And.intro (And.intro (zE zaB 5 zbM.get) (And.intro (zE zaB 5 zbI.get) hc)) (zwW hX5 hs hk rfl rfl rfl)))))))))) _ hs hk zne zFs zqu znf
def zxa (w:web) (zaL:(Sl (Sl Tab))) (S5:Int->Bool->(Sl step)->Int->(Sl (Sl Tab))->(Sl step)) (zbZ:Int) (zbv:Bool) (zcl:(Sl step)) (zb6:Int) (zcO:(Sl (Sl Tab))):(Sl step) :=
  (cond (decide (zb6 < (zaL.len : Int)))
 (cond (decide ((tL ((zcO.get zb6.toNat).get zbZ.toNat) zb6) ≥ (0:Int)))
 (S5 zbZ zbv zcl (w64 (zb6+(1:Int))) zcO)
 (zw8 S5 w zaL zbZ zbv zcl zb6 zb6 (zcO.get zb6.toNat) zb6 (0:Int) (w64 (zbZ - (1:Int))) zcO (⟨0,(λ _=>default)⟩:Sl step)))
 zcl)
def zxb (w:web) (zaL:(Sl (Sl Tab))) (P5:Int->Bool->(Sl step)->Int->(Sl (Sl Tab))->Bool) (zbZ:Int) (zbv:Bool) (zcl:(Sl step)) (zb6:Int) (zcO:(Sl (Sl Tab))):Bool :=
  (cond (decide (zb6 < (zaL.len : Int)))
 (decide ((0≤zb6/\zb6 < (zcO.len:Int))) &&
 (decide ((zb6.toNat < zcO.len)) &&
 (decide ((0≤zbZ/\zbZ < ((zcO.get zb6.toNat).len:Int))) &&
 (decide ((0≤zb6/\zb6 < (40:Int))) &&
 (cond (decide ((tL ((zcO.get zb6.toNat).get zbZ.toNat) zb6) ≥ (0:Int)))
 (P5 zbZ zbv zcl (w64 (zb6+(1:Int))) zcO)
 (zw9 P5 w zaL zbZ zbv zcl zb6 zb6 (zcO.get zb6.toNat) zb6 (0:Int) (w64 (zbZ - (1:Int))) zcO (⟨0,(λ _=>default)⟩:Sl step)))))))
 true)
def zxc (w:web) (zaL:(Sl (Sl Tab))):Nat->Int->Bool->(Sl step)->Int->(Sl (Sl Tab))->(Sl step):=lpO (λ _ _ _ _ _=>default) (zxa w zaL)
def zxd (w:web) (zaL:(Sl (Sl Tab))):Nat->Int->Bool->(Sl step)->Int->(Sl (Sl Tab))->Bool:=lpO (λ _ _ _ _ _=>false) (zxb w zaL)
def zxe (w:web) (zaL:(Sl (Sl Tab))) (zbZ:Int) (zbv:Bool) (zcl:(Sl step)) (zb6:Int) (zcO:(Sl (Sl Tab))):(Sl step):=zxc w zaL Fuel zbZ zbv zcl zb6 zcO
def zxf (w:web) (zaL:(Sl (Sl Tab))) (zbZ:Int) (zbv:Bool) (zcl:(Sl step)) (zb6:Int) (zcO:(Sl (Sl Tab))):Bool:=zxd w zaL Fuel zbZ zbv zcl zb6 zcO
theorem zFt (hs:zxf w zaL zbZ zbv zcl zb6 zcO=true) (hk:K (e89 (zxe w zaL zbZ zbv zcl zb6 zcO))) (zng:zej=zg zaB zcl) (zqv:zfV=zg zcB zcO):z89 K [1,0,1,1,1,1,1,1,0,1,0] [] (zCY w zaL zbZ zbv zcl zb6 zcO zej zfV) :=
  zl (λ X=>z89 K [1,0,1,1,1,1,1,1,0,1,0,0] [X]) (by kernel_rfl) λ X5 hX =>
  (show ∀ k, zwR K w zaL X5 (zxd w zaL k) (zxc w zaL k) from zd1 _ _ (zxb w zaL) (zxa w zaL) (zwR K w zaL X5)
 (by intro _ _ _ _ _ _ _ hs;exact absurd hs Bool.false_ne_true)
 (by intro P5 S5 hX5 zbZ zbv zcl zb6 zcO zej zfV hs hk zng zqv;subst zng;subst zqv;exact hX _ (zaM (by kernel_rfl) (zc hs hk (λ hs hk=>(zaJ hs λ hc hs=>And.intro hc (zaJ hs λ hc hs=>And.intro hc (zaJ hs λ hc hs=>And.intro hc (zaJ hs λ hc hs=>And.intro hc (zc hs hk (λ hs hk=>(hX5 hs hk rfl rfl)) (λ hs hk=>(zFr hX5 hs hk rfl rfl rfl rfl)))))))) (λ hs hk=>hk))))) _ hs hk zng zqv
def zqw (w:web) (zkS:Int) (zaL:(Sl (Sl Tab))):(Sl step) :=
  (zxe w zaL zkS true (⟨0,(λ _=>default)⟩:Sl step) (0:Int) zaL)
def zqx (w:web) (zkS:Int) (zaL:(Sl (Sl Tab))):Bool :=
  (zxf w zaL zkS true (⟨0,(λ _=>default)⟩:Sl step) (0:Int) zaL)
theorem zxg (hs:zqx w zkS zaL=true) (hk:K (e89 (zqw w zkS zaL))) (zFu:zwU=zg zcB zaL):z89 K [1,0,1,1,1,1,1] [] ⟨[(0,zP (.fp (zaA w) 0)),(3,zv 21),(5,zI zkS)],[(21,.vec 159 1 24 zaL.len zwU)],[]⟩:=by subst zFu;exact zaM (by kernel_rfl) (zFt hs hk rfl rfl)
def zxh (S2:Int->(Sl step)) (w:web) (za4:(Sl (Sl Tab))) (S3:Int->Int->(Sl step)) (zbY:Int) (zcK:Int):(Sl step) :=
  (cond (decide (zcK < (za4.len : Int)))
 (cond (decide ((tL ((za4.get zcK.toNat).get zbY.toNat) zcK) < (0:Int)))
 (zqw w zbY za4)
 (S3 zbY (w64 (zcK+(1:Int)))))
 (S2 (w64 (zbY+(1:Int)))))
def zxi (P2:Int->Bool) (w:web) (za4:(Sl (Sl Tab))) (P3:Int->Int->Bool) (zbY:Int) (zcK:Int):Bool :=
  (cond (decide (zcK < (za4.len : Int)))
 (decide ((0≤zcK/\zcK < (za4.len:Int))) &&
 (decide ((zcK.toNat < za4.len)) &&
 (decide ((0≤zbY/\zbY < ((za4.get zcK.toNat).len:Int))) &&
 (decide ((0≤zcK/\zcK < (40:Int))) &&
 (cond (decide ((tL ((za4.get zcK.toNat).get zbY.toNat) zcK) < (0:Int)))
 (zqx w zbY za4)
 (P3 zbY (w64 (zcK+(1:Int)))))))))
 (P2 (w64 (zbY+(1:Int)))))
def zxj (S2:Int->(Sl step)) (w:web) (za4:(Sl (Sl Tab))):Nat->Int->Int->(Sl step):=lpO (λ _ _=>default) (zxh S2 w za4)
def zxk (P2:Int->Bool) (w:web) (za4:(Sl (Sl Tab))):Nat->Int->Int->Bool:=lpO (λ _ _=>false) (zxi P2 w za4)
def zxl (S2:Int->(Sl step)) (w:web) (za4:(Sl (Sl Tab))) (zbY:Int) (zcK:Int):(Sl step):=zxj S2 w za4 Fuel zbY zcK
def zxm (P2:Int->Bool) (w:web) (za4:(Sl (Sl Tab))) (zbY:Int) (zcK:Int):Bool:=zxk P2 w za4 Fuel zbY zcK
theorem zFv (hX2:zFl K w za4 X2 P2 S2) (hs:zxm P2 w za4 zbY zcK=true) (hk:K (e89 (zxl S2 w za4 zbY zcK))):z89 K [1,0,1,1,1,1,0,1,0,0,1,0,0,1,0] [X2] (zCX w za4 zbY zcK) :=
  zl (λ X=>z89 K [1,0,1,1,1,1,0,1,0,0,1,0,0,1,0,0] [X2,X]) (by kernel_rfl) λ X3 hX =>
  (show ∀ k, zJt K w za4 X3 (zxk P2 w za4 k) (zxj S2 w za4 k) from zd1 _ _ (zxi P2 w za4) (zxh S2 w za4) (zJt K w za4 X3)
 (by intro _ _ hs;exact absurd hs Bool.false_ne_true)
 (by intro P3 S3 hX3 zbY zcK hs hk;exact hX _ (zaM (by kernel_rfl) (zc hs hk (λ hs hk=>(zaJ hs λ hc hs=>And.intro hc (zaJ hs λ hc hs=>And.intro hc (zaJ hs λ hc hs=>And.intro hc (zaJ hs λ hc hs=>And.intro hc (zc hs hk (λ hs hk=>(zxg hs hk rfl)) (λ hs hk=>(hX3 hs hk)))))))) (λ hs hk=>(hX2 hs hk)))))) _ hs hk
def zxn (w:web) (za4:(Sl (Sl Tab))) (S2:Int->(Sl step)) (zcq:Int):(Sl step) :=
  (cond (decide (zcq < w.Net.Nodes))
 (zxl S2 w za4 zcq (0:Int))
 (zqw w zcq za4))
def zxo (w:web) (za4:(Sl (Sl Tab))) (P2:Int->Bool) (zcq:Int):Bool :=
  (cond (decide (zcq < w.Net.Nodes))
 (zxm P2 w za4 zcq (0:Int))
 (zqx w zcq za4))
def zxp (w:web) (za4:(Sl (Sl Tab))):Nat->Int->(Sl step):=lpO (λ _=>default) (zxn w za4)
def zxq (w:web) (za4:(Sl (Sl Tab))):Nat->Int->Bool:=lpO (λ _=>false) (zxo w za4)
def zxr (w:web) (za4:(Sl (Sl Tab))) (zcq:Int):(Sl step):=zxp w za4 Fuel zcq
def zxs (w:web) (za4:(Sl (Sl Tab))) (zcq:Int):Bool:=zxq w za4 Fuel zcq
theorem zFw (hs:zxs w za4 zcq=true) (hk:K (e89 (zxr w za4 zcq))):z89 K [1,0,1,1,1,1,0,1,0] [] (zCW w za4 zcq) :=
  zl (λ X=>z89 K [1,0,1,1,1,1,0,1,0,0] [X]) (by kernel_rfl) λ X2 hX =>
  (show ∀ k, zFl K w za4 X2 (zxq w za4 k) (zxp w za4 k) from zd1 _ _ (zxo w za4) (zxn w za4) (zFl K w za4 X2)
 (by intro _ hs;exact absurd hs Bool.false_ne_true)
 (by intro P2 S2 hX2 zcq hs hk;exact hX _ (zaM (by kernel_rfl) (zc hs hk (λ hs hk=>(zFv hX2 hs hk)) (λ hs hk=>(zxg hs hk rfl)))))) _ hs hk
def zxt (w:web) (za4:(Sl (Sl Tab))):(Sl step) :=
  (zxr w za4 (1:Int))
def zxu (w:web) (za4:(Sl (Sl Tab))):Bool :=
  (zxs w za4 (1:Int))
theorem zFx (hs:zxu w za4=true) (hk:K (e89 (zxt w za4))) (zFy:zwT=zg zcB za4):z89 K [1,0,1,1] [] ⟨[(0,zP (.fp (zaA w) 0)),(3,zv 21)],[(21,.vec 159 1 24 za4.len zwT)],[]⟩:=by subst zFy;exact zaM (by kernel_rfl) (zFw hs hk)
def zxv (w:web) (S0:Int->(Sl (Sl Tab))->(Sl step)) (zcD:Int) (zc0:(Sl (Sl Tab))):(Sl step) :=
  (cond (decide (zcD < (w.Net.Nodes.toNat : Int)))
 (S0 (w64 (zcD+(1:Int))) (⟨zc0.len,(setT zcD.toNat (zFc w zcD w.Net.Nodes) zc0.get)⟩:Sl (Sl Tab)))
 (zxt w zc0))
def zxw (w:web) (P0:Int->(Sl (Sl Tab))->Bool) (zcD:Int) (zc0:(Sl (Sl Tab))):Bool :=
  (cond (decide (zcD < (w.Net.Nodes.toNat : Int)))
 (decide ((zL8 w zcD w.Net.Nodes=true)) &&
 (decide ((0≤zcD/\zcD < (zc0.len:Int))) &&
 (decide ((zcD.toNat < zc0.len)) &&
 (P0 (w64 (zcD+(1:Int))) (⟨zc0.len,(setT zcD.toNat (zFc w zcD w.Net.Nodes) zc0.get)⟩:Sl (Sl Tab))))))
 (zxu w zc0))
def zxx (w:web):Nat->Int->(Sl (Sl Tab))->(Sl step):=lpO (λ _ _=>default) (zxv w)
def zxy (w:web):Nat->Int->(Sl (Sl Tab))->Bool:=lpO (λ _ _=>false) (zxw w)
def zxz (w:web) (zcD:Int) (zc0:(Sl (Sl Tab))):(Sl step):=zxx w Fuel zcD zc0
def zxA (w:web) (zcD:Int) (zc0:(Sl (Sl Tab))):Bool:=zxy w Fuel zcD zc0
theorem zFz (hs:zxA w zcD zc0=true) (hk:K (e89 (zxz w zcD zc0))) (zqy:zfU=zg zcB zc0):z89 K [1,0,1,0,1,0] [] (zCV w zcD zc0 zfU) :=
  zl (λ X=>z89 K [1,0,1,0,1,0,0] [X]) (by kernel_rfl) λ X0 hX =>
  (show ∀ k, zJs K w X0 (zxy w k) (zxx w k) from zd1 _ _ (zxw w) (zxv w) (zJs K w X0)
 (by intro _ _ _ hs;exact absurd hs Bool.false_ne_true)
 (by intro P0 S0 hX0 zcD zc0 zfU hs hk zqy;subst zqy;exact hX _ (zaM (by kernel_rfl) (zc hs hk (λ hs hk=>(zaJ hs λ hc hs=>And.intro (And.intro (zE enc_40 4 w.Net.Ties.get) (And.intro (rfl:((false,1,false,[none]):MQ)=(false,1,false,[none])) hc)) (zaJ hs λ hc hs=>And.intro hc (zaJ hs λ hc hs=>And.intro hc (hX0 hs hk (zfj (enc:=zcB) (i:=zcD.toNat) (k:=0) (f:=zc0.get) (new:=(zcB (zFc w zcD w.Net.Nodes))) (v:=(zFc w zcD w.Net.Nodes)) rfl rfl)))))) (λ hs hk=>(zFx hs hk rfl)))))) _ hs hk zqy
def s89 (w:web):(Sl step) :=
  (zxz w (0:Int) (⟨w.Net.Nodes.toNat,(λ _=>(⟨0,λ _=>(λ _=>(0:Int))⟩:(Sl Tab)))⟩:Sl (Sl Tab)))
def p89 (w:web):Bool :=
  (decide ((0≤w.Net.Nodes/\w.Net.Nodes=w.Net.Nodes/\w.Net.Nodes≤1000000)) &&
 (zxA w (0:Int) (⟨w.Net.Nodes.toNat,(λ _=>(⟨0,λ _=>(λ _=>(0:Int))⟩:(Sl Tab)))⟩:Sl (Sl Tab))))
end
theorem q89 (w:web) (K:List PA->Prop) (hs:p89 w=true) (hk:K (e89 (s89 w))):vcFun Tryd.prog G89 zwQ 89 [.one (.fp (zaA w) 0)] K :=
  zaM (by kernel_rfl) (zaJ hs λ hc hs=>And.intro hc (zFz hs hk rfl))
def zBG : List PA → COut
  | [.one (.fp [.int .i64 zao,.sl zai zay zaj,.fm za0 zaD zaE] 0)]=>.det (IsE enc_40 4 zay zaj/\za0=(false,1,false,[none])/\p89 (⟨(⟨zao,(⟨zai,zam zaj⟩:(Sl Tie))⟩:Net),(⟨zaD,zaE⟩:Mp)⟩:web)=true) [.one (.sl ((s89 (⟨(⟨zao,(⟨zai,zam zaj⟩:(Sl Tie))⟩:Net),(⟨zaD,zaE⟩:Mp)⟩:web)).len) 5 (λ i=>zaB ((s89 (⟨(⟨zao,(⟨zai,zam zaj⟩:(Sl Tie))⟩:Net),(⟨zaD,zaE⟩:Mp)⟩:web)).get i)))]
  | _=>.no
theorem zJv:zar Tryd.prog 89:=⟨_,rfl,rfl,by kernel_rfl⟩
theorem zNy:Ok Tryd.prog 89 zBG:=za9 zMk zJv λ args K h=>by
  unfold zBG at h
  split at h
  · rename_i zao zai zay zaj za0 zaD zaE
    obtain⟨⟨⟨rfl,zau,rfl⟩,rfl,hs⟩,hk⟩:=h
    try rw[zak zau] at hs
    try rw[zak zau] at hk
    exact⟨(λ _ _=>[]),(λ _=>false),zwQ,q89 (⟨(⟨zao,(⟨zai,zau⟩:(Sl Tie))⟩:Net),(⟨zaD,zaE⟩:Mp)⟩:web) K hs hk⟩
  · exact h.elim
end Go.Proofs
/-
  DERIVED: THE SHELF's CONTRACTS AT THIS DUMP,IN PLAIN WORDS (tools/lay-plain.mjs out of 'YtedhjaaikeakoaaDoorPmLk.lean',which tools/lay-shelf.mjs wrote): THE SAME DECLARATIONS UNDER THE SAME NAMES: 'import','namespace','open','def','theorem' AND NOTHING ELSE: no command of the shelf's: FOR A HAND-IN. Each laying: the table of numbers ('.._ren') and one theorem,a field a fact of the dump's own or the kernel's comparison;each contract: ONE APPLICATION.
-/
namespace Go.Proofs
open Go.Shelf
def Tryd.keysA_ren:Go.Shelf.Ren:=⟨fun | 7=>103 | 10=>117 | n=>n,fun | 23=>103 | 26=>3 | 3=>4 | 28=>152 | 0=>0 | 27=>151 | 33=>169 | 4=>4 | n=>n,fun | n=>n⟩
theorem Tryd.keysA : Go.Proofs.SlLaysZI.n7 Tryd.prog Tryd.keysA_ren := {
  mixed:=by kernel_rfl
  f7:=⟨Tryd.f103.name,by decide,Tryd.func103.trans (congrArg some (by kernel_rfl))⟩
  f10:=⟨Tryd.f117.name,by decide,Tryd.func117.trans (congrArg some (by kernel_rfl))⟩
  t0:=Tryd.underlying0
  a0:=Tryd.isAgg0
  z0:=Tryd.sizeOf0
  v0:=Tryd.zeroValue0
  t4:=Tryd.underlying4
  a4:=Tryd.isAgg4
  z4:=Tryd.sizeOf4
  v4:=Tryd.zeroValue4
  t23:=Tryd.underlying103
  a23:=Tryd.isAgg103
  z23:=Tryd.sizeOf103
  v23:=Tryd.zeroValue103
  t26:=Tryd.underlying3
  a26:=Tryd.isAgg3
  z26:=Tryd.sizeOf3
  v26:=Tryd.zeroValue3
  t27:=Tryd.underlying151
  a27:=Tryd.isAgg151
  z27:=Tryd.sizeOf151
  v27:=Tryd.zeroValue151
  t28:=Tryd.underlying152
  a28:=Tryd.isAgg152
  z28:=Tryd.sizeOf152
  v28:=Tryd.zeroValue152
  t33:=Tryd.underlying169
  a33:=Tryd.isAgg169
  z33:=Tryd.sizeOf169
  v33:=Tryd.zeroValue169 }
def Tryd.sortedA_ren:Go.Shelf.Ren:=⟨fun | 6=>102 | 8=>115 | 9=>116 | 11=>129 | 13=>113 | 12=>130 | 23=>127 | 24=>128 | 14=>136 | 15=>137 | 16=>138 | 17=>139 | 18=>140 | 19=>141 | 20=>142 | 21=>143 | 22=>144 | 25=>146 | 26=>132 | 27=>133 | 28=>147 | 29=>148 | 30=>114 | 31=>149 | n=>n,fun | 26=>3 | 28=>152 | 24=>27 | 0=>0 | 3=>3 | 37=>168 | 48=>182 | 50=>184 | 4=>4 | 40=>175 | 39=>174 | 45=>179 | 5=>5 | 9=>9 | 51=>187 | 55=>191 | 57=>199 | 58=>200 | 33=>169 | n=>n,fun | n=>n⟩
theorem Tryd.sortedA : Go.Proofs.SlLaysZI.n6 Tryd.prog Tryd.sortedA_ren := {
  mixed:=by kernel_rfl
  f6:=⟨Tryd.f102.name,by decide,Tryd.func102.trans (congrArg some (by kernel_rfl))⟩
  f8:=⟨Tryd.f115.name,by decide,Tryd.func115.trans (congrArg some (by kernel_rfl))⟩
  f11:=⟨Tryd.f129.name,by decide,Tryd.func129.trans (congrArg some (by kernel_rfl))⟩
  t0:=Tryd.underlying0
  a0:=Tryd.isAgg0
  z0:=Tryd.sizeOf0
  v0:=Tryd.zeroValue0
  t24:=Tryd.underlying27
  a24:=Tryd.isAgg27
  z24:=Tryd.sizeOf27
  v24:=Tryd.zeroValue27
  t26:=Tryd.underlying3
  a26:=Tryd.isAgg3
  z26:=Tryd.sizeOf3
  v26:=Tryd.zeroValue3
  t28:=Tryd.underlying152
  a28:=Tryd.isAgg152
  z28:=Tryd.sizeOf152
  v28:=Tryd.zeroValue152
  i26:=by kernel_rfl }
def Tryd.sortA_ren:Go.Shelf.Ren:=⟨fun | 5=>116 | 8=>113 | 7=>130 | 19=>127 | 20=>128 | 10=>136 | 11=>137 | 12=>138 | 13=>139 | 14=>140 | 15=>141 | 16=>142 | 17=>143 | 18=>144 | 30=>146 | 31=>132 | 32=>133 | 33=>147 | 34=>148 | 35=>114 | 40=>149 | n=>n,fun | 23=>27 | 25=>3 | 3=>3 | 32=>168 | 22=>27 | 0=>0 | 44=>182 | 46=>184 | 4=>4 | 36=>175 | 35=>174 | 41=>179 | 5=>5 | 9=>9 | 53=>187 | 57=>191 | 63=>199 | 64=>200 | n=>n,fun | n=>n⟩
theorem Tryd.sortA : Go.Proofs.SlLaysM.n5 Tryd.prog Tryd.sortA_ren := {
  mixed:=by kernel_rfl
  f5:=⟨Tryd.f116.name,by decide,Tryd.func116.trans (congrArg some (by kernel_rfl))⟩
  f7:=⟨Tryd.f130.name,by decide,Tryd.func130.trans (congrArg some (by kernel_rfl))⟩
  f8:=Tryd.func113.trans (congrArg some (by kernel_rfl))
  f10:=⟨Tryd.f136.name,by decide,Tryd.func136.trans (congrArg some (by kernel_rfl))⟩
  f11:=⟨Tryd.f137.name,by decide,Tryd.func137.trans (congrArg some (by kernel_rfl))⟩
  f12:=⟨Tryd.f138.name,by decide,Tryd.func138.trans (congrArg some (by kernel_rfl))⟩
  f13:=⟨Tryd.f139.name,by decide,Tryd.func139.trans (congrArg some (by kernel_rfl))⟩
  f14:=⟨Tryd.f140.name,by decide,Tryd.func140.trans (congrArg some (by kernel_rfl))⟩
  f15:=⟨Tryd.f141.name,by decide,Tryd.func141.trans (congrArg some (by kernel_rfl))⟩
  f16:=⟨Tryd.f142.name,by decide,Tryd.func142.trans (congrArg some (by kernel_rfl))⟩
  f17:=⟨Tryd.f143.name,by decide,Tryd.func143.trans (congrArg some (by kernel_rfl))⟩
  f18:=⟨Tryd.f144.name,by decide,Tryd.func144.trans (congrArg some (by kernel_rfl))⟩
  f19:=Tryd.func127.trans (congrArg some (by kernel_rfl))
  f20:=Tryd.func128.trans (congrArg some (by kernel_rfl))
  f30:=⟨Tryd.f146.name,by decide,Tryd.func146.trans (congrArg some (by kernel_rfl))⟩
  f31:=Tryd.func132.trans (congrArg some (by kernel_rfl))
  f32:=Tryd.func133.trans (congrArg some (by kernel_rfl))
  f33:=⟨Tryd.f147.name,by decide,Tryd.func147.trans (congrArg some (by kernel_rfl))⟩
  f34:=⟨Tryd.f148.name,by decide,Tryd.func148.trans (congrArg some (by kernel_rfl))⟩
  f35:=⟨Tryd.f114.name,by decide,Tryd.func114.trans (congrArg some (by kernel_rfl))⟩
  f40:=⟨Tryd.f149.name,by decide,Tryd.func149.trans (congrArg some (by kernel_rfl))⟩
  t0:=Tryd.underlying0
  a0:=Tryd.isAgg0
  z0:=Tryd.sizeOf0
  v0:=Tryd.zeroValue0
  t3:=Tryd.underlying3
  a3:=Tryd.isAgg3
  z3:=Tryd.sizeOf3
  v3:=Tryd.zeroValue3
  t4:=Tryd.underlying4
  a4:=Tryd.isAgg4
  z4:=Tryd.sizeOf4
  v4:=Tryd.zeroValue4
  t5:=Tryd.underlying5
  a5:=Tryd.isAgg5
  z5:=Tryd.sizeOf5
  v5:=Tryd.zeroValue5
  t9:=Tryd.underlying9
  a9:=Tryd.isAgg9
  z9:=Tryd.sizeOf9
  v9:=Tryd.zeroValue9
  t22:=Tryd.underlying27
  a22:=Tryd.isAgg27
  z22:=Tryd.sizeOf27
  v22:=Tryd.zeroValue27
  t23:=Tryd.underlying27
  a23:=Tryd.isAgg27
  z23:=Tryd.sizeOf27
  v23:=Tryd.zeroValue27
  t25:=Tryd.underlying3
  a25:=Tryd.isAgg3
  z25:=Tryd.sizeOf3
  v25:=Tryd.zeroValue3
  t32:=Tryd.underlying168
  a32:=Tryd.isAgg168
  z32:=Tryd.sizeOf168
  v32:=Tryd.zeroValue168
  t35:=Tryd.underlying174
  a35:=Tryd.isAgg174
  z35:=Tryd.sizeOf174
  v35:=Tryd.zeroValue174
  t36:=Tryd.underlying175
  a36:=Tryd.isAgg175
  z36:=Tryd.sizeOf175
  v36:=Tryd.zeroValue175
  t41:=Tryd.underlying179
  a41:=Tryd.isAgg179
  z41:=Tryd.sizeOf179
  v41:=Tryd.zeroValue179
  t44:=Tryd.underlying182
  a44:=Tryd.isAgg182
  z44:=Tryd.sizeOf182
  v44:=Tryd.zeroValue182
  t46:=Tryd.underlying184
  a46:=Tryd.isAgg184
  z46:=Tryd.sizeOf184
  v46:=Tryd.zeroValue184
  t53:=Tryd.underlying187
  a53:=Tryd.isAgg187
  z53:=Tryd.sizeOf187
  v53:=Tryd.zeroValue187
  t57:=Tryd.underlying191
  a57:=Tryd.isAgg191
  z57:=Tryd.sizeOf191
  v57:=Tryd.zeroValue191
  t63:=Tryd.underlying199
  a63:=Tryd.isAgg199
  z63:=Tryd.sizeOf199
  v63:=Tryd.zeroValue199
  t64:=Tryd.underlying200
  a64:=Tryd.isAgg200
  z64:=Tryd.sizeOf200
  v64:=Tryd.zeroValue200 }
end Go.Proofs
namespace Go.Pm
open Go.RowKit Go.Maps Go.Sort Go.Shelf Go.Proofs
set_option maxRecDepth 100000

theorem zkV {F : List Int → Option (List Int)} : ∀ (f : Nat) (i : Int) (n : Nat) (l : List Int), zug F f i n = some l → l.length = n ∧ (∀ x ∈ l, F [x] ≠ none ∧ i ≤ x ∧ x < i + f) ∧ l.Pairwise (· < ·)
  | _,_,0,l,h=>by simp[zug] at h;subst h;exact⟨rfl,λ x hx=>by simp at hx,List.Pairwise.nil⟩
  | 0,_,n+1,l,h=>by simp[zug] at h
  | f+1,i,n+1,l,h=>by
    simp only[zug] at h
    split at h
    · rename_i v hv
      split at h
      · rename_i r hr
        simp only[Option.some.injEq] at h;subst h
        obtain⟨h1,h2,h3⟩:=zkV f (i+1) n r hr
        refine⟨by simp[h1],λ x hx=>?_,List.pairwise_cons.2 ⟨λ x hx=>by have:=h2 x hx;omega,h3⟩⟩
        rcases List.mem_cons.1 hx with rfl | hx
        · exact⟨by rw[hv];simp,by omega,by omega⟩
        · have:=h2 x hx;exact⟨this.1,by omega,by omega⟩
      · cases h
    · obtain ⟨h1, h2, h3⟩ := zkV f (i + 1) (n + 1) l h
      exact⟨h1,λ x hx=>by have:=h2 x hx;exact⟨this.1,by omega,by omega⟩,h3⟩
theorem zkW {α : Type} [DecidableEq α] : ∀ {l m : List α}, l.Nodup → (∀ x ∈ l, x ∈ m) → m.length ≤ l.length → l.Perm m
  | [],m,_,_,h=>by
    have:m=[]:=List.eq_nil_of_length_eq_zero (by simpa using h)
    subst this;exact .refl _
  | a :: l,m,hn,hs,h=>by
    obtain⟨h1,h2⟩:=List.nodup_cons.1 hn
    have ha:=hs a List.mem_cons_self
    have hp:=List.perm_cons_erase ha
    refine (List.Perm.cons a (zkW h2 (λ x hx=>?_) ?_)).trans hp.symm
    · exact (List.mem_erase_of_ne (λ e=>h1 (by rw[← e];exact hx))).2 (hs x (List.mem_cons_of_mem _ hx))
    · have := hp.length_eq
      simp at this h
      omega

theorem zBH:znN Tryd.prog 103 (.keys 117):=λ w mb=>by
 refine⟨⟨_,rfl,rfl,by kernel_rfl⟩,?_⟩
 have c:CallsIn Fence.wide 5 Tryd.prog 103 #[.map (some mb)] w λ e w'=>e=.returned (.func (.func 117) #[] #[.pointer (some ⟨w.heap.size,0,none⟩)])/\w'=w.alloc (.cells #[.map (some mb)] 103):=AnyZI.keys_in Tryd.keysA Fence.wide 5 trivial rfl (some mb) w
 refine ((callsIn_wide (n:=5)).1 c).mono ?_
 rintro e w' ⟨rfl,rfl⟩
 exact⟨rfl,_,rfl⟩
theorem sortsA (m:Nat):AnyZI.SortsIn Tryd.prog Tryd.sortedA_ren Fence.wide m :=
  ⟨λ blk off cap ss W hH hblk hsz=>callsIn_wide.2 (AnyM.slices_Sort_int Tryd.sortA blk off cap ss W hH hblk hsz),
   λ p cap W=>callsIn_wide.2 (AnyM.slices_Sort_int_none Tryd.sortA p cap W)⟩

def rdN:Value->Option (DataW Unit×List MemPlace):=λ _=>some (.nil,[])
theorem zt9:znN Tryd.prog 102 (.sorted 117):=λ w h k mb C ty fr es clock vt q n F hw hk hC hb hE hm hn hky=>by
 refine⟨⟨_,rfl,rfl,by kernel_rfl⟩,?_⟩
 obtain⟨en,M⟩:=hm
 have E:=zgy hE
 have hq1:q.1=false:=by
  have e:=E.kag
  rw[show zev Tryd.prog 3=some false by kernel_rfl] at e
  exact (Option.some.inj e).symm
 have hq2:q.2.1=1:=by
  have e:=E.key
  rw[show zdu Tryd.prog 8 3=some 1 by kernel_rfl] at e
  exact (Option.some.inj e).symm
 obtain⟨l,hl⟩:=Option.isSome_iff_exists.1 hky
 have hll:zuh F n=l:=by unfold zuh;rw[hl];rfl
 obtain⟨l1,l2,l3⟩:=zkV _ _ _ _ hl
 rw[hll]
 have one:∀ x∈en,x.1=[x.1.headD 0]:=λ x hx=>by
  have:=(M.len x hx).1
  rw[hq2] at this
  match x.1,this with
  | [a],_=>rfl
 have hkeys:es.toList.map (·.key)=(en.map λ x=>x.1.headD 0).map encZ:=by
  have:=congrArg (List.map Prod.fst) M.ents
  simp only[List.map_map] at this ⊢
  refine (show es.toList.map (·.key)=_ from this).trans (List.map_congr_left λ x hx=>?_)
  show zbn q.1 x.1=encZ (x.1.headD 0)
  rw[hq1];rfl
 have hkn:(en.map λ x=>x.1.headD 0).Nodup:=by
  have:(en.map (·.1))=(en.map λ x=>x.1.headD 0).map λ a=>[a]:=by
   rw[List.map_map];exact List.map_congr_left λ x hx=>one x hx
  have hd:=M.nodup
  rw[this] at hd
  exact (List.pairwise_map.1 hd).imp λ h e=>h (by rw[e])
 have hperm:l.Perm (en.map λ x=>x.1.headD 0):=by
  refine zkW (l3.imp λ h=>Int.ne_of_lt h) (λ x hx=>?_) (by rw[List.length_map,← M.size,l1];exact Nat.le_refl _)
  have h1:=(l2 x hx).1
  rw[M.find [x] (by rw[hq2];rfl)] at h1
  by_cases hex:∃ y∈en,y.1=[x]
  ·obtain ⟨y, hy, e⟩ := hex
   exact List.mem_map.2 ⟨y,hy,by rw[e];rfl⟩
  ·exact absurd (zgf λ y hy e=>hex ⟨y,hy,e⟩) h1
 have hread:∀ x∈es.toList,∃ a:Int,x.key=encZ a/\keyOf Tryd.prog 3 x.key=some (.int .i64 a):=λ x hx=>by
  have hm:x.key∈es.toList.map (·.key):=List.mem_map.2 ⟨x,hx,rfl⟩
  rw[hkeys] at hm
  obtain⟨a,ha,e⟩:=List.mem_map.1 hm
  have hb:=(l2 a (hperm.mem_iff.2 ha)).2
  refine⟨a,e.symm,?_⟩
  rw[← e]
  have hu:Tryd.prog.underlying 3=some (.int .i64):=Tryd.underlying3
  have hwf:(Lit.int .i64 a).wf=true:=by
   simp only[Lit.wf,Bool.and_eq_true,decide_eq_true_eq]
   have e1:IntKind.i64.min = -9223372036854775808:=by decide
   have e2:IntKind.i64.max=9223372036854775807:=by decide
   rw[e1,e2]
   have:=hb.2
   omega
  simp[keyOf,mapKey,hu,hwf]
 have hsize:es.size=n:=by
  have:=congrArg List.length M.ents
  simp at this
  rw[this,M.size]
 have hst:MapKept.Stamped es clock:=⟨M.born,M.bornN,by rw[hkeys];exact List.pairwise_map.2 (hkn.imp λ h e=>h (encZ_inj e))⟩
 have hown:w.ownsMap Tryd.prog 3 rdN mb n (.map ((es.toList.map (WideElems.rg Tryd.prog 3 rdN)).foldr DataW.insert [])) :=
  ⟨es,clock,hb,⟨by rw[hsize];exact Nat.le_trans hn (by decide),hst,λ x hx=>by
   obtain⟨a,e1,e2⟩:=hread x hx
   exact⟨(.int .i64 a,.nil),by simp only[WideElems.rd,e2,rdN,Option.bind_some,Option.map_some]⟩⟩,by omega,rfl⟩
 have hik:(intKeys (.map ((es.toList.map (WideElems.rg Tryd.prog 3 rdN)).foldr DataW.insert []))).Perm l:=by
  show (((es.toList.map (WideElems.rg Tryd.prog 3 rdN)).foldr DataW.insert []).map λ p=>intOf p.1).Perm l
  refine ((WideShapes.sorted_perm _).map _).trans (List.Perm.trans (List.Perm.of_eq ?_) hperm.symm)
  rw[List.map_map]
  have e:(en.map λ x=>x.1.headD 0)=es.toList.map λ x=>intOf ((keyOf Tryd.prog 3 x.key).getD (.bool false)):=by
   have h1:(en.map λ x=>x.1.headD 0)=((en.map λ x=>x.1.headD 0).map encZ).map λ v=>match v with | .int _ a=>a | _=>0:=by
    rw[List.map_map];exact (List.map_id _).symm
   rw[h1,← hkeys,List.map_map]
   refine List.map_congr_left λ x hx=>?_
   obtain⟨a,e1,e2⟩:=hread x hx
   simp only[Function.comp,e2]
   rw[e1];rfl
  rw[e]
  refine List.map_congr_left λ x hx=>?_
  obtain⟨a,e1,e2⟩:=hread x hx
  simp only[Function.comp,WideElems.rg,WideElems.rd,e2,rdN,Option.bind_some,Option.map_some,Option.getD_some]
 have hsz:Maps.size (DataW.map ((es.toList.map (WideElems.rg Tryd.prog 3 rdN)).foldr DataW.insert []):DataW Unit)=n:=by
  show List.length _=n
  rw[(WideShapes.sorted_perm _).length_eq];simp[hsize]
 have hlt:k < w.heap.size:=hw.lt hk
 have hcell:w.cell? ⟨k,0,none⟩=some (.map (some mb)):=by
  have:=hw.fz hk
  simp[World.cell?,this,hC]
 have hseq:SeqGives Fence.wide 2 Tryd.prog 117 #[.pointer (some ⟨k,0,none⟩)] encZ (λ ss=>ss.Perm (intKeys _)) (Maps.size _) w :=
  AnyZI.keys_gives (ρ:=Tryd.keysA_ren) { Tryd.keysA with } Fence.wide _ trivial rfl (by omega) k mb n _ w hlt hcell hown
 have cS:=AnyZI.sorted_in Tryd.sortedA Fence.wide 5 trivial trivial trivial trivial rfl (by omega) (sortsA _) (enters_of Tryd.func116 (by kernel_rfl) rfl) 117 #[.pointer (some ⟨k,0,none⟩)] trivial (enters_of Tryd.func117 (by kernel_rfl) rfl) _ _ (by rw[hsz];exact Nat.le_trans hn (by decide)) (by rw[hsz];omega) _ hseq
 change CallsIn _ _ Tryd.prog 102 _ _ _ at cS
 refine ((callsIn_wide (n:=5)).1 cS).mono ?_
 rintro e w' ⟨v,ss,rfl,hS,hrow,_,hbel⟩
 refine⟨v,rfl,?_,⟨hbel,Nat.zero_le _⟩⟩
 have hsl:ss.mergeSort (λ x y=>decide (x≤y))=l:=by
  rw[show ss.mergeSort (λ x y=>decide (x≤y))=l.mergeSort leI from mergeSort_of_perm_i (hS.trans hik)]
  exact List.mergeSort_of_pairwise (l3.imp λ h=>by simp only[leI,decide_eq_true_eq];exact Int.le_of_lt h)
 have hlen:ss.length=n:=by rw[(hS.trans hik).length_eq,l1]
 rw[hsl,hlen] at hrow
 exact hrow
end Go.Pm
namespace Go.Proofs
open Go Go.Pm
set_option maxRecDepth 100000
set_option linter.unusedVariables false
attribute [local irreducible] Go.Pm.vcFun Go.Pm.vc Go.Pm.vcIter
abbrev zC0:OwnK:=.sorted 117
theorem zMl:znN Tryd.prog 102 zC0:=zt9
abbrev zC1:OwnK:=.keys 117
theorem zMm:znN Tryd.prog 103 zC1:=zBH
structure Rec69 where
  S:web->Int->((Sl (Sl Int))×web)
  P:web->Int->Bool
class Slf69 where
  r:Rec69
section
variable [Slf69]
def zxB : MK
  | [.box 105 [.p (.int .i64 b0_Net_Nodes),.p (.sl b0_Net_Ties_n b0_Net_Ties_s b0_Net_Ties_g),.mo 3 4 b0_out_q b0_out_n b0_out_F],.d (.one (.int .i64 b1))]=>some (IsE enc_40 4 b0_Net_Ties_s b0_Net_Ties_g/\b0_out_q=(false,1,false,[none])/\Slf69.r.P (⟨(⟨b0_Net_Nodes,(⟨b0_Net_Ties_n,zam b0_Net_Ties_g⟩:(Sl Tie))⟩:Net),(⟨b0_out_n,b0_out_F⟩:Mp)⟩:web) b1=true,[.one (.sl (((Slf69.r.S (⟨(⟨b0_Net_Nodes,(⟨b0_Net_Ties_n,zam b0_Net_Ties_g⟩:(Sl Tie))⟩:Net),(⟨b0_out_n,b0_out_F⟩:Mp)⟩:web) b1).1).len) 1 (λ i=>zbO (((Slf69.r.S (⟨(⟨b0_Net_Nodes,(⟨b0_Net_Ties_n,zam b0_Net_Ties_g⟩:(Sl Tie))⟩:Net),(⟨b0_out_n,b0_out_F⟩:Mp)⟩:web) b1).1).get i)))],[.box 105 [.p (.int .i64 (((Slf69.r.S (⟨(⟨b0_Net_Nodes,(⟨b0_Net_Ties_n,zam b0_Net_Ties_g⟩:(Sl Tie))⟩:Net),(⟨b0_out_n,b0_out_F⟩:Mp)⟩:web) b1).2).Net.Nodes)),.p (.sl (((Slf69.r.S (⟨(⟨b0_Net_Nodes,(⟨b0_Net_Ties_n,zam b0_Net_Ties_g⟩:(Sl Tie))⟩:Net),(⟨b0_out_n,b0_out_F⟩:Mp)⟩:web) b1).2).Net.Ties.len) 4 (λ i=>enc_40 (((Slf69.r.S (⟨(⟨b0_Net_Nodes,(⟨b0_Net_Ties_n,zam b0_Net_Ties_g⟩:(Sl Tie))⟩:Net),(⟨b0_out_n,b0_out_F⟩:Mp)⟩:web) b1).2).Net.Ties.get i))),.mo 3 4 (false,1,false,[none]) ((((Slf69.r.S (⟨(⟨b0_Net_Nodes,(⟨b0_Net_Ties_n,zam b0_Net_Ties_g⟩:(Sl Tie))⟩:Net),(⟨b0_out_n,b0_out_F⟩:Mp)⟩:web) b1).2).out).n) ((((Slf69.r.S (⟨(⟨b0_Net_Nodes,(⟨b0_Net_Ties_n,zam b0_Net_Ties_g⟩:(Sl Tie))⟩:Net),(⟨b0_out_n,b0_out_F⟩:Mp)⟩:web) b1).2).out).F)],.d (.one (.int .i64 b1))])
  | _=>none
abbrev T69:Tabs:=(((((Tabs.nil.addF 88 zv8).addF 89 zBG).addO 102 zC0).addO 103 zC1).addM 69 zxB)
theorem zMn (hself:zjt Tryd.prog 69 zxB):TabsOk Tryd.prog T69:=(((((TabsOk.nil.addF zLS).addF zNy).addO zMl).addO zMm).addM hself)
abbrev zBI:Ctrs:=csm T69 (λ _ _=>[]) (λ _=>false)
def zfm:Ann:=⟨57,[(0,zK [0,1] [0,12288]),(1,zK [0,1,10] [0,12288]),(2,zK [0,4] [0,17,12288]),(3,zK [0,1,19] [0,12288]),(4,zK [0,4] [0,12288]),(5,zK [0,1,5] [0,12288]),(6,zK [0,1,5,21,22,23] [0,12288]),(7,zK [0,1,5,21,22,23,24] [0,47,12288]),(8,zK [0,1,5,7,21,22,23] [0,7,47,12288]),(9,zK [0,1,5,7,21,22,23,34] [0,7,47,12288]),(10,zK [0,1,5,7,21,22,23] [0,7,47,12288]),(11,zK [0,1,5,7,21,22,23] [0,7,47,12288]),(12,zK [0,1,5,21,22,23] [0,47,12288]),(13,zK [0,1,5,21,22,23] [0,47,12288]),(14,zK [0,4] [0,47,12288])],
 [(7,⟨[0,1,5,21,22,23],[0,47,12288],[(5,47,27,λ _=>zbO default)],[],[],[],[]⟩)],
 [],
 [],[]⟩
def zfX (w:web) (left:Int) (zaz:Int) (zaT:Int) (zfY:Nat) (zca:Nat->List PV) (zfZ:Nat) (zcb:Nat->List PV) (zah:Nat) (zaa:(List Int->Option (List Int))):St:=⟨[(0,.one (.c (.ptr 0 0))),(1,.one (.c (.p (.int .i64 left)))),(5,.one (.c (.vec 47))),(21,.one (.c (.p (.sl ((s89 w).len) 5 (λ i=>zaB ((s89 w).get i)))))),(22,.one (.c (.p (.int .i64 ((s89 w).len:Int))))),(23,.one (.c (.p (.int .i64 zaz))))],[(0,.box 105 [.p (.int .i64 zaT),.p (.sl zfY 4 zca),.mo 12288]),(47,.vec 27 1 24 zfZ zcb),(12288,.mo 3 4 (false,1,false,[none]) zah zaa)],[]⟩
def zhE (K:List PA×List XA->Prop) (w:web) (left:Int) (zaz:Int) (zaT:Int) (zfY:Nat) (zca:Nat->List PV) (zfZ:Nat) (zcb:Nat->List PV) (zah:Nat) (zaa:(List Int->Option (List Int))):Prop:=vc Tryd.prog zBI zfm (cdF Tryd.f69 [1,1,1,1,0,1,0]) (zfg 0 (sqK Tryd.prog zBI zfm (cdF Tryd.f69 [1,1,1,1,1]) (zlk Tryd.prog Tryd.f69 [.box 105 [.p (.int .i64 w.Net.Nodes),.p (.sl w.Net.Ties.len 4 (λ i=>enc_40 (w.Net.Ties.get i))),.mo 3 4 (false,1,false,[none]) w.out.n w.out.F],.d (.one (.int .i64 left))] (λ a b=>K (a,b))))) (zfX w left zaz zaT zfY zca zfZ zcb zah zaa)
theorem zBJ (w : web) (left : Int) (K : List PA × List XA → Prop) :
  zkG Tryd.prog zBI zfm 69 [.box 105 [.p (.int .i64 w.Net.Nodes),.p (.sl w.Net.Ties.len 4 (λ i=>enc_40 (w.Net.Ties.get i))),.mo 3 4 (false,1,false,[none]) w.out.n w.out.F],.d (.one (.int .i64 left))] (λ a b=>K (a,b)) =
  ((IsE enc_40 4 4 (λ i=>enc_40 (w.Net.Ties.get i))/\((false,1,false,[none]):MQ)=(false,1,false,[none])/\(p88 w=true)) /\
 (zdj (!(s88 w))
 (((w.out.n≤1000000/\(zug w.out.F 9223372036854775808 0 w.out.n).isSome=true)) /\
 (K ([.one (.sl 1 1 (λ _=>(zbO (⟨w.out.n,(λ i=>(zuh w.out.F w.out.n).getD i 0)⟩:(Sl Int)))))],[.box 105 [.p (.int .i64 w.Net.Nodes),.p (.sl w.Net.Ties.len 4 (λ i=>enc_40 (w.Net.Ties.get i))),.mo 3 4 (false,1,false,[none]) w.out.n w.out.F],.d (.one (.int .i64 left))])))
 (zdj (left == (0:Int))
 (K ([.one (.nils)],[.box 105 [.p (.int .i64 w.Net.Nodes),.p (.sl w.Net.Ties.len 4 (λ i=>enc_40 (w.Net.Ties.get i))),.mo 3 4 (false,1,false,[none]) w.out.n w.out.F],.d (.one (.int .i64 left))]))
 (((∀ i,sc2 ((λ i=>zaB ((s89 w).get i)) i)=true)/\IsE enc_40 4 4 (λ i=>enc_40 (w.Net.Ties.get i))/\((false,1,false,[none]):MQ)=(false,1,false,[none])/\(p89 w=true)) /\
 (zhE K w left (0:Int) w.Net.Nodes w.Net.Ties.len (λ i=>enc_40 (w.Net.Ties.get i)) 0 (λ i=>zbO ((λ _=>default) i)) w.out.n w.out.F))))):=by kernel_rfl
def zlW (K:List PA×List XA->Prop) (X0:St->Prop) (w:web) (left:Int) (zaz:Int) (zaT:Int) (zaV:(Sl Tie)) (zbk:(Sl (Sl Int))) (zah:Nat) (zaa:(List Int->Option (List Int))):Prop :=
  (zdj (decide (zaz < ((s89 w).len : Int)))
 (((0≤zaz/\zaz < ((s89 w).len:Int))) /\
 (zdj ((ztz (zaa [((s89 w).get zaz.toNat).Use.Tie]) 0) != 0)
 (X0 (zfX w left (w64 (zaz+(1:Int))) zaT zaV.len (λ i=>enc_40 (zaV.get i)) zbk.len (λ i=>zbO (zbk.get i)) zah zaa))
 ((IsE enc_40 4 4 (λ i=>enc_40 (zaV.get i))/\((false,1,false,[none]):MQ)=(false,1,false,[none])/\(Slf69.r.P (⟨(⟨zaT,zaV⟩:Net),(⟨(addN (zaa [((s89 w).get zaz.toNat).Use.Tie]) zah),(zdD [((s89 w).get zaz.toNat).Use.Tie] [1] zaa)⟩:Mp)⟩:web) (w64 (left - (1:Int)))=true)) /\
 ((((zbk.len+((Slf69.r.S (⟨(⟨zaT,zaV⟩:Net),(⟨(addN (zaa [((s89 w).get zaz.toNat).Use.Tie]) zah),(zdD [((s89 w).get zaz.toNat).Use.Tie] [1] zaa)⟩:Mp)⟩:web) (w64 (left - (1:Int)))).1).len) * 24≤140737488355328/\zbk.len+((Slf69.r.S (⟨(⟨zaT,zaV⟩:Net),(⟨(addN (zaa [((s89 w).get zaz.toNat).Use.Tie]) zah),(zdD [((s89 w).get zaz.toNat).Use.Tie] [1] zaa)⟩:Mp)⟩:web) (w64 (left - (1:Int)))).1).len≤9223372036854775807)) /\
 (X0 (zfX w left (w64 (zaz+(1:Int))) (((Slf69.r.S (⟨(⟨zaT,zaV⟩:Net),(⟨(addN (zaa [((s89 w).get zaz.toNat).Use.Tie]) zah),(zdD [((s89 w).get zaz.toNat).Use.Tie] [1] zaa)⟩:Mp)⟩:web) (w64 (left - (1:Int)))).2).Net.Nodes) (((Slf69.r.S (⟨(⟨zaT,zaV⟩:Net),(⟨(addN (zaa [((s89 w).get zaz.toNat).Use.Tie]) zah),(zdD [((s89 w).get zaz.toNat).Use.Tie] [1] zaa)⟩:Mp)⟩:web) (w64 (left - (1:Int)))).2).Net.Ties.len) (λ i=>enc_40 (((Slf69.r.S (⟨(⟨zaT,zaV⟩:Net),(⟨(addN (zaa [((s89 w).get zaz.toNat).Use.Tie]) zah),(zdD [((s89 w).get zaz.toNat).Use.Tie] [1] zaa)⟩:Mp)⟩:web) (w64 (left - (1:Int)))).2).Net.Ties.get i)) (zbk.len+((Slf69.r.S (⟨(⟨zaT,zaV⟩:Net),(⟨(addN (zaa [((s89 w).get zaz.toNat).Use.Tie]) zah),(zdD [((s89 w).get zaz.toNat).Use.Tie] [1] zaa)⟩:Mp)⟩:web) (w64 (left - (1:Int)))).1).len) (appG zbk.len (λ i=>zbO (zbk.get i)) (λ i=>zbO (((Slf69.r.S (⟨(⟨zaT,zaV⟩:Net),(⟨(addN (zaa [((s89 w).get zaz.toNat).Use.Tie]) zah),(zdD [((s89 w).get zaz.toNat).Use.Tie] [1] zaa)⟩:Mp)⟩:web) (w64 (left - (1:Int)))).1).get i))) (zCh (((((Slf69.r.S (⟨(⟨zaT,zaV⟩:Net),(⟨(addN (zaa [((s89 w).get zaz.toNat).Use.Tie]) zah),(zdD [((s89 w).get zaz.toNat).Use.Tie] [1] zaa)⟩:Mp)⟩:web) (w64 (left - (1:Int)))).2).out).F) [((s89 w).get zaz.toNat).Use.Tie]) ((((Slf69.r.S (⟨(⟨zaT,zaV⟩:Net),(⟨(addN (zaa [((s89 w).get zaz.toNat).Use.Tie]) zah),(zdD [((s89 w).get zaz.toNat).Use.Tie] [1] zaa)⟩:Mp)⟩:web) (w64 (left - (1:Int)))).2).out).n)) (zAl [((s89 w).get zaz.toNat).Use.Tie] ((((Slf69.r.S (⟨(⟨zaT,zaV⟩:Net),(⟨(addN (zaa [((s89 w).get zaz.toNat).Use.Tie]) zah),(zdD [((s89 w).get zaz.toNat).Use.Tie] [1] zaa)⟩:Mp)⟩:web) (w64 (left - (1:Int)))).2).out).F))))))))
 (K ([.one (.sl zbk.len 1 (λ i=>zbO (zbk.get i)))],[.box 105 [.p (.int .i64 zaT),.p (.sl zaV.len 4 (λ i=>enc_40 (zaV.get i))),.mo 3 4 (false,1,false,[none]) zah zaa],.d (.one (.int .i64 left))])))
theorem zoM (K : List PA × List XA → Prop) (X0 : St → Prop) (w : web) (left : Int) (zaz : Int) (zaT : Int) (zaV : (Sl Tie)) (zbk : (Sl (Sl Int))) (zah : Nat) (zaa : (List Int → Option (List Int))) :
  vc Tryd.prog zBI zfm (cd (cdF Tryd.f69 [1,1,1,1,0,1,0]) [0]) (ztE Tryd.prog zfm 7 X0 (zfg 0 (sqK Tryd.prog zBI zfm (cdF Tryd.f69 [1,1,1,1,1]) (zlk Tryd.prog Tryd.f69 [.box 105 [.p (.int .i64 w.Net.Nodes),.p (.sl w.Net.Ties.len 4 (λ i=>enc_40 (w.Net.Ties.get i))),.mo 3 4 (false,1,false,[none]) w.out.n w.out.F],.d (.one (.int .i64 left))] (λ a b=>K (a,b)))))) (zfX w left zaz zaT zaV.len (λ i=>enc_40 (zaV.get i)) zbk.len (λ i=>zbO (zbk.get i)) zah zaa) =
  zlW K X0 w left zaz zaT zaV zbk zah zaa:=by kernel_rfl
theorem zua (K : List PA × List XA → Prop) (w : web) (left : Int) (zaz : Int) (zaT : Int) (zfY : Nat) (zca : Nat → List PV) (zfZ : Nat) (zcb : Nat → List PV) (zah : Nat) (zaa : (List Int → Option (List Int)))
  (h:∀ X0:St->Prop,(∀ (zaz:Int) (zaT:Int) (zaV:(Sl Tie)) (zbk:(Sl (Sl Int))) (zah:Nat) (zaa:(List Int->Option (List Int))),zlW K X0 w left zaz zaT zaV zbk zah zaa->X0 (zfX w left zaz zaT zaV.len (λ i=>enc_40 (zaV.get i)) zbk.len (λ i=>zbO (zbk.get i)) zah zaa))->X0 (zfX w left zaz zaT zfY zca zfZ zcb zah zaa)) :
  zhE K w left zaz zaT zfY zca zfZ zcb zah zaa:=by
  have e:zhE K w left zaz zaT zfY zca zfZ zcb zah zaa=(∀ X:St->Prop,(∀ s,vc Tryd.prog zBI zfm (cd (cdF Tryd.f69 [1,1,1,1,0,1,0]) [0]) (ztE Tryd.prog zfm 7 X (zfg 0 (sqK Tryd.prog zBI zfm (cdF Tryd.f69 [1,1,1,1,1]) (zlk Tryd.prog Tryd.f69 [.box 105 [.p (.int .i64 w.Net.Nodes),.p (.sl w.Net.Ties.len 4 (λ i=>enc_40 (w.Net.Ties.get i))),.mo 3 4 (false,1,false,[none]) w.out.n w.out.F],.d (.one (.int .i64 left))] (λ a b=>K (a,b)))))) s->X s)->X (zfX w left zaz zaT zfY zca zfZ zcb zah zaa)):=by kernel_rfl
  refine zaM e ?_
  intro X hX
  refine h X ?_
  intro zaz zaT zaV zbk zah zaa hs
  refine hX _ ?_
  have e2:=zoM K X w left zaz zaT zaV zbk zah zaa
  rw[e2]
  exact hs
abbrev zC2 (left:Int) (r:((Sl (Sl Int))×web)):List PA×List XA:=([.one (.sl r.1.len 1 (λ i=>zbO (r.1.get i)))],[.box 105 [.p (.int .i64 r.2.Net.Nodes),.p (.sl r.2.Net.Ties.len 4 (λ i=>enc_40 (r.2.Net.Ties.get i))),.mo 3 4 (false,1,false,[none]) r.2.out.n r.2.out.F],.d (.one (.int .i64 left))])
attribute [irreducible] zhE
def znh (w:web) (left:Int) (S0:Int->Int->(Sl Tie)->(Sl (Sl Int))->Nat->(List Int->Option (List Int))->((Sl (Sl Int))×web)) (zaz:Int) (zaT:Int) (zaV:(Sl Tie)) (zbk:(Sl (Sl Int))) (zah:Nat) (zaa:(List Int->Option (List Int))):((Sl (Sl Int))×web) :=
  (cond (decide (zaz < ((s89 w).len : Int)))
 (cond ((ztz (zaa [((s89 w).get zaz.toNat).Use.Tie]) 0) != 0)
 (S0 (w64 (zaz+(1:Int))) zaT zaV zbk zah zaa)
 (S0 (w64 (zaz+(1:Int))) (((Slf69.r.S (⟨(⟨zaT,zaV⟩:Net),(⟨(addN (zaa [((s89 w).get zaz.toNat).Use.Tie]) zah),(zdD [((s89 w).get zaz.toNat).Use.Tie] [1] zaa)⟩:Mp)⟩:web) (w64 (left - (1:Int)))).2).Net.Nodes) (((Slf69.r.S (⟨(⟨zaT,zaV⟩:Net),(⟨(addN (zaa [((s89 w).get zaz.toNat).Use.Tie]) zah),(zdD [((s89 w).get zaz.toNat).Use.Tie] [1] zaa)⟩:Mp)⟩:web) (w64 (left - (1:Int)))).2).Net.Ties) (⟨(zbk.len+((Slf69.r.S (⟨(⟨zaT,zaV⟩:Net),(⟨(addN (zaa [((s89 w).get zaz.toNat).Use.Tie]) zah),(zdD [((s89 w).get zaz.toNat).Use.Tie] [1] zaa)⟩:Mp)⟩:web) (w64 (left - (1:Int)))).1).len),(zgi zbk.len zbk.get ((Slf69.r.S (⟨(⟨zaT,zaV⟩:Net),(⟨(addN (zaa [((s89 w).get zaz.toNat).Use.Tie]) zah),(zdD [((s89 w).get zaz.toNat).Use.Tie] [1] zaa)⟩:Mp)⟩:web) (w64 (left - (1:Int)))).1).get)⟩:Sl (Sl Int)) (zCh (((((Slf69.r.S (⟨(⟨zaT,zaV⟩:Net),(⟨(addN (zaa [((s89 w).get zaz.toNat).Use.Tie]) zah),(zdD [((s89 w).get zaz.toNat).Use.Tie] [1] zaa)⟩:Mp)⟩:web) (w64 (left - (1:Int)))).2).out).F) [((s89 w).get zaz.toNat).Use.Tie]) ((((Slf69.r.S (⟨(⟨zaT,zaV⟩:Net),(⟨(addN (zaa [((s89 w).get zaz.toNat).Use.Tie]) zah),(zdD [((s89 w).get zaz.toNat).Use.Tie] [1] zaa)⟩:Mp)⟩:web) (w64 (left - (1:Int)))).2).out).n)) (zAl [((s89 w).get zaz.toNat).Use.Tie] ((((Slf69.r.S (⟨(⟨zaT,zaV⟩:Net),(⟨(addN (zaa [((s89 w).get zaz.toNat).Use.Tie]) zah),(zdD [((s89 w).get zaz.toNat).Use.Tie] [1] zaa)⟩:Mp)⟩:web) (w64 (left - (1:Int)))).2).out).F))))
 (zbk,(⟨(⟨zaT,zaV⟩:Net),(⟨zah,zaa⟩:Mp)⟩:web)))
def zni (w:web) (left:Int) (P0:Int->Int->(Sl Tie)->(Sl (Sl Int))->Nat->(List Int->Option (List Int))->Bool) (zaz:Int) (zaT:Int) (zaV:(Sl Tie)) (zbk:(Sl (Sl Int))) (zah:Nat) (zaa:(List Int->Option (List Int))):Bool :=
  (cond (decide (zaz < ((s89 w).len : Int)))
 (decide ((0≤zaz/\zaz < ((s89 w).len:Int))) &&
 (cond ((ztz (zaa [((s89 w).get zaz.toNat).Use.Tie]) 0) != 0)
 (P0 (w64 (zaz+(1:Int))) zaT zaV zbk zah zaa)
 (decide ((Slf69.r.P (⟨(⟨zaT,zaV⟩:Net),(⟨(addN (zaa [((s89 w).get zaz.toNat).Use.Tie]) zah),(zdD [((s89 w).get zaz.toNat).Use.Tie] [1] zaa)⟩:Mp)⟩:web) (w64 (left - (1:Int)))=true)) &&
 (decide (((zbk.len+((Slf69.r.S (⟨(⟨zaT,zaV⟩:Net),(⟨(addN (zaa [((s89 w).get zaz.toNat).Use.Tie]) zah),(zdD [((s89 w).get zaz.toNat).Use.Tie] [1] zaa)⟩:Mp)⟩:web) (w64 (left - (1:Int)))).1).len) * 24≤140737488355328/\zbk.len+((Slf69.r.S (⟨(⟨zaT,zaV⟩:Net),(⟨(addN (zaa [((s89 w).get zaz.toNat).Use.Tie]) zah),(zdD [((s89 w).get zaz.toNat).Use.Tie] [1] zaa)⟩:Mp)⟩:web) (w64 (left - (1:Int)))).1).len≤9223372036854775807)) &&
 (P0 (w64 (zaz+(1:Int))) (((Slf69.r.S (⟨(⟨zaT,zaV⟩:Net),(⟨(addN (zaa [((s89 w).get zaz.toNat).Use.Tie]) zah),(zdD [((s89 w).get zaz.toNat).Use.Tie] [1] zaa)⟩:Mp)⟩:web) (w64 (left - (1:Int)))).2).Net.Nodes) (((Slf69.r.S (⟨(⟨zaT,zaV⟩:Net),(⟨(addN (zaa [((s89 w).get zaz.toNat).Use.Tie]) zah),(zdD [((s89 w).get zaz.toNat).Use.Tie] [1] zaa)⟩:Mp)⟩:web) (w64 (left - (1:Int)))).2).Net.Ties) (⟨(zbk.len+((Slf69.r.S (⟨(⟨zaT,zaV⟩:Net),(⟨(addN (zaa [((s89 w).get zaz.toNat).Use.Tie]) zah),(zdD [((s89 w).get zaz.toNat).Use.Tie] [1] zaa)⟩:Mp)⟩:web) (w64 (left - (1:Int)))).1).len),(zgi zbk.len zbk.get ((Slf69.r.S (⟨(⟨zaT,zaV⟩:Net),(⟨(addN (zaa [((s89 w).get zaz.toNat).Use.Tie]) zah),(zdD [((s89 w).get zaz.toNat).Use.Tie] [1] zaa)⟩:Mp)⟩:web) (w64 (left - (1:Int)))).1).get)⟩:Sl (Sl Int)) (zCh (((((Slf69.r.S (⟨(⟨zaT,zaV⟩:Net),(⟨(addN (zaa [((s89 w).get zaz.toNat).Use.Tie]) zah),(zdD [((s89 w).get zaz.toNat).Use.Tie] [1] zaa)⟩:Mp)⟩:web) (w64 (left - (1:Int)))).2).out).F) [((s89 w).get zaz.toNat).Use.Tie]) ((((Slf69.r.S (⟨(⟨zaT,zaV⟩:Net),(⟨(addN (zaa [((s89 w).get zaz.toNat).Use.Tie]) zah),(zdD [((s89 w).get zaz.toNat).Use.Tie] [1] zaa)⟩:Mp)⟩:web) (w64 (left - (1:Int)))).2).out).n)) (zAl [((s89 w).get zaz.toNat).Use.Tie] ((((Slf69.r.S (⟨(⟨zaT,zaV⟩:Net),(⟨(addN (zaa [((s89 w).get zaz.toNat).Use.Tie]) zah),(zdD [((s89 w).get zaz.toNat).Use.Tie] [1] zaa)⟩:Mp)⟩:web) (w64 (left - (1:Int)))).2).out).F)))))))
 true)
def zhF (w : web) (left : Int) : Nat → Int → Int → (Sl Tie) → (Sl (Sl Int)) → Nat → (List Int → Option (List Int)) → ((Sl (Sl Int)) × web)
  | 0=>λ _ _ _ _ _ _=>default
  | k+1=>znh w left (zhF w left k)
def zhG (w : web) (left : Int) : Nat → Int → Int → (Sl Tie) → (Sl (Sl Int)) → Nat → (List Int → Option (List Int)) → Bool
  | 0=>λ _ _ _ _ _ _=>false
  | k+1=>zni w left (zhG w left k)
def ztj (w:web) (left:Int) (zaz:Int) (zaT:Int) (zaV:(Sl Tie)) (zbk:(Sl (Sl Int))) (zah:Nat) (zaa:(List Int->Option (List Int))):((Sl (Sl Int))×web):=zhF w left Fuel zaz zaT zaV zbk zah zaa
def ztk (w:web) (left:Int) (zaz:Int) (zaT:Int) (zaV:(Sl Tie)) (zbk:(Sl (Sl Int))) (zah:Nat) (zaa:(List Int->Option (List Int))):Bool:=zhG w left Fuel zaz zaT zaV zbk zah zaa
theorem zBK (K:List PA×List XA->Prop) (w:web) (left:Int) (zaz:Int) (zaT:Int) (zaV:(Sl Tie)) (zbk:(Sl (Sl Int))) (zah:Nat) (zaa:(List Int->Option (List Int))) (zca:Nat->List PV) (zkX:zca=λ i=>enc_40 (zaV.get i)) (zcb:Nat->List PV) (zkY:zcb=λ i=>zbO (zbk.get i)) (hs:ztk w left zaz zaT zaV zbk zah zaa=true) (hk:K (zC2 left (ztj w left zaz zaT zaV zbk zah zaa))):zhE (WkM K) w left zaz zaT zaV.len zca zbk.len zcb zah zaa:=by
  refine zua (WkM K) w left zaz zaT zaV.len zca zbk.len zcb zah zaa ?_
  intro X0 hstep
  have key:∀ (k:Nat) (zaz:Int) (zaT:Int) (zaV:(Sl Tie)) (zbk:(Sl (Sl Int))) (zah:Nat) (zaa:(List Int->Option (List Int))) (zca:Nat->List PV) (zkX:zca=λ i=>enc_40 (zaV.get i)) (zcb:Nat->List PV) (zkY:zcb=λ i=>zbO (zbk.get i)),zhG w left k zaz zaT zaV zbk zah zaa=true->K (zC2 left (zhF w left k zaz zaT zaV zbk zah zaa))->X0 (zfX w left zaz zaT zaV.len zca zbk.len zcb zah zaa):=by
    intro k
    induction k with
    | zero=>intro zaz zaT zaV zbk zah zaa zca zkX zcb zkY hs;exact absurd hs Bool.false_ne_true
    | succ k ih =>
      intro zaz zaT zaV zbk zah zaa zca zkX zcb zkY hs hk
      subst zkX
      subst zkY
      refine hstep zaz zaT zaV zbk zah zaa ?_
      have hs:zni w left (zhG w left k) zaz zaT zaV zbk zah zaa=true:=hs
      have hk:K (zC2 left (znh w left (zhF w left k) zaz zaT zaV zbk zah zaa)):=hk
      unfold zni at hs
      unfold znh at hk
      generalize zhF w left k=S0 at hk ih
      generalize zhG w left k=P0 at hs ih
      have hX0:=ih
      exact (zeU (K := λ r => K (zC2 left r))
 (λ hs hk => (zaJ hs λ hc hs => ⟨hc, (zeU (K := λ r => K (zC2 left r))
 (λ hs hk=>(hX0 (w64 (zaz+(1:Int))) zaT zaV zbk zah zaa (λ i=>enc_40 (zaV.get i)) rfl (λ i=>zbO (zbk.get i)) rfl hs hk))
 (λ hs hk=>(zaJ hs λ hc hs=>⟨⟨isE,rfl,hc⟩,(zaJ hs λ hc hs=>⟨hc,(hX0 (w64 (zaz+(1:Int))) (((Slf69.r.S (⟨(⟨zaT,zaV⟩:Net),(⟨(addN (zaa [((s89 w).get zaz.toNat).Use.Tie]) zah),(zdD [((s89 w).get zaz.toNat).Use.Tie] [1] zaa)⟩:Mp)⟩:web) (w64 (left - (1:Int)))).2).Net.Nodes) (((Slf69.r.S (⟨(⟨zaT,zaV⟩:Net),(⟨(addN (zaa [((s89 w).get zaz.toNat).Use.Tie]) zah),(zdD [((s89 w).get zaz.toNat).Use.Tie] [1] zaa)⟩:Mp)⟩:web) (w64 (left - (1:Int)))).2).Net.Ties) (⟨(zbk.len+((Slf69.r.S (⟨(⟨zaT,zaV⟩:Net),(⟨(addN (zaa [((s89 w).get zaz.toNat).Use.Tie]) zah),(zdD [((s89 w).get zaz.toNat).Use.Tie] [1] zaa)⟩:Mp)⟩:web) (w64 (left - (1:Int)))).1).len),(zgi zbk.len zbk.get ((Slf69.r.S (⟨(⟨zaT,zaV⟩:Net),(⟨(addN (zaa [((s89 w).get zaz.toNat).Use.Tie]) zah),(zdD [((s89 w).get zaz.toNat).Use.Tie] [1] zaa)⟩:Mp)⟩:web) (w64 (left - (1:Int)))).1).get)⟩:Sl (Sl Int)) (zCh (((((Slf69.r.S (⟨(⟨zaT,zaV⟩:Net),(⟨(addN (zaa [((s89 w).get zaz.toNat).Use.Tie]) zah),(zdD [((s89 w).get zaz.toNat).Use.Tie] [1] zaa)⟩:Mp)⟩:web) (w64 (left - (1:Int)))).2).out).F) [((s89 w).get zaz.toNat).Use.Tie]) ((((Slf69.r.S (⟨(⟨zaT,zaV⟩:Net),(⟨(addN (zaa [((s89 w).get zaz.toNat).Use.Tie]) zah),(zdD [((s89 w).get zaz.toNat).Use.Tie] [1] zaa)⟩:Mp)⟩:web) (w64 (left - (1:Int)))).2).out).n)) (zAl [((s89 w).get zaz.toNat).Use.Tie] ((((Slf69.r.S (⟨(⟨zaT,zaV⟩:Net),(⟨(addN (zaa [((s89 w).get zaz.toNat).Use.Tie]) zah),(zdD [((s89 w).get zaz.toNat).Use.Tie] [1] zaa)⟩:Mp)⟩:web) (w64 (left - (1:Int)))).2).out).F)) (λ i=>enc_40 (((Slf69.r.S (⟨(⟨zaT,zaV⟩:Net),(⟨(addN (zaa [((s89 w).get zaz.toNat).Use.Tie]) zah),(zdD [((s89 w).get zaz.toNat).Use.Tie] [1] zaa)⟩:Mp)⟩:web) (w64 (left - (1:Int)))).2).Net.Ties.get i)) rfl (appG zbk.len (λ i=>zbO (zbk.get i)) (λ i=>zbO (((Slf69.r.S (⟨(⟨zaT,zaV⟩:Net),(⟨(addN (zaa [((s89 w).get zaz.toNat).Use.Tie]) zah),(zdD [((s89 w).get zaz.toNat).Use.Tie] [1] zaa)⟩:Mp)⟩:web) (w64 (left - (1:Int)))).1).get i))) (zjb (enc:=zbO) (f:=zbk.get) (h:=((Slf69.r.S (⟨(⟨zaT,zaV⟩:Net),(⟨(addN (zaa [((s89 w).get zaz.toNat).Use.Tie]) zah),(zdD [((s89 w).get zaz.toNat).Use.Tie] [1] zaa)⟩:Mp)⟩:web) (w64 (left - (1:Int)))).1).get) rfl rfl) hs hk)⟩)⟩)) hs hk)⟩))
 (fun hs hk=>(zvT hk)) hs hk)
  exact key _ zaz zaT zaV zbk zah zaa zca zkX zcb zkY hs hk
def zAi (w:web) (left:Int):((Sl (Sl Int))×web) :=
  (cond (!(s88 w))
 ((⟨1,λ _=>(⟨w.out.n,(λ i=>(zuh w.out.F w.out.n).getD i 0)⟩:(Sl Int))⟩:(Sl (Sl Int))),w)
 (cond (left == (0:Int))
 ((⟨0,λ _=>default⟩:(Sl (Sl Int))),w)
 (ztj w left (0:Int) w.Net.Nodes w.Net.Ties (⟨0,(λ _=>default)⟩:Sl (Sl Int)) w.out.n w.out.F)))
def zLp (w:web) (left:Int):Bool :=
  (decide ((p88 w=true)) &&
 (cond (!(s88 w))
 (decide ((w.out.n≤1000000/\(zug w.out.F 9223372036854775808 0 w.out.n).isSome=true)) &&
 true)
 (cond (left == (0:Int))
 true
 (decide ((p89 w=true)) &&
 (ztk w left (0:Int) w.Net.Nodes w.Net.Ties (⟨0,(λ _=>default)⟩:Sl (Sl Int)) w.out.n w.out.F)))))
theorem zOl (w:web) (left:Int) (K:List PA×List XA->Prop) (hs:zLp w left=true) (hk:K (zC2 left (zAi w left))):zkG Tryd.prog zBI zfm 69 [.box 105 [.p (.int .i64 w.Net.Nodes),.p (.sl w.Net.Ties.len 4 (λ i=>enc_40 (w.Net.Ties.get i))),.mo 3 4 (false,1,false,[none]) w.out.n w.out.F],.d (.one (.int .i64 left))] (λ a b=>(WkM K) (a,b)):=by
  refine zaM (zBJ w left (WkM K)) ?_
  unfold zLp at hs
  unfold zAi at hk
  exact (zaJ hs λ hc hs => ⟨⟨isE, rfl, hc⟩, (zeU (K := λ r => K (zC2 left r))
 (λ hs hk=>(zaJ hs λ hc hs=>⟨hc,(zvT hk)⟩))
 (λ hs hk => (zeU (K := λ r => K (zC2 left r))
 (λ hs hk=>(wkM hk (zeF (.one (.nil _ _)) zkK)))
 (λ hs hk=>(zaJ hs λ hc hs=>⟨⟨(λ _=>rfl),isE,rfl,hc⟩,(zBK K w left (0:Int) w.Net.Nodes w.Net.Ties (⟨0,(λ _=>default)⟩:Sl (Sl Int)) w.out.n w.out.F (λ i=>enc_40 (w.Net.Ties.get i)) rfl (λ i=>zbO ((λ _=>default) i)) rfl hs hk)⟩)) hs hk)) hs hk)⟩)
def zJw : MK
  | [.box 105 [.p (.int .i64 b0_Net_Nodes),.p (.sl b0_Net_Ties_n b0_Net_Ties_s b0_Net_Ties_g),.mo 3 4 b0_out_q b0_out_n b0_out_F],.d (.one (.int .i64 b1))]=>some (IsE enc_40 4 b0_Net_Ties_s b0_Net_Ties_g/\b0_out_q=(false,1,false,[none])/\zLp (⟨(⟨b0_Net_Nodes,(⟨b0_Net_Ties_n,zam b0_Net_Ties_g⟩:(Sl Tie))⟩:Net),(⟨b0_out_n,b0_out_F⟩:Mp)⟩:web) b1=true,[.one (.sl (((zAi (⟨(⟨b0_Net_Nodes,(⟨b0_Net_Ties_n,zam b0_Net_Ties_g⟩:(Sl Tie))⟩:Net),(⟨b0_out_n,b0_out_F⟩:Mp)⟩:web) b1).1).len) 1 (λ i=>zbO (((zAi (⟨(⟨b0_Net_Nodes,(⟨b0_Net_Ties_n,zam b0_Net_Ties_g⟩:(Sl Tie))⟩:Net),(⟨b0_out_n,b0_out_F⟩:Mp)⟩:web) b1).1).get i)))],[.box 105 [.p (.int .i64 (((zAi (⟨(⟨b0_Net_Nodes,(⟨b0_Net_Ties_n,zam b0_Net_Ties_g⟩:(Sl Tie))⟩:Net),(⟨b0_out_n,b0_out_F⟩:Mp)⟩:web) b1).2).Net.Nodes)),.p (.sl (((zAi (⟨(⟨b0_Net_Nodes,(⟨b0_Net_Ties_n,zam b0_Net_Ties_g⟩:(Sl Tie))⟩:Net),(⟨b0_out_n,b0_out_F⟩:Mp)⟩:web) b1).2).Net.Ties.len) 4 (λ i=>enc_40 (((zAi (⟨(⟨b0_Net_Nodes,(⟨b0_Net_Ties_n,zam b0_Net_Ties_g⟩:(Sl Tie))⟩:Net),(⟨b0_out_n,b0_out_F⟩:Mp)⟩:web) b1).2).Net.Ties.get i))),.mo 3 4 (false,1,false,[none]) ((((zAi (⟨(⟨b0_Net_Nodes,(⟨b0_Net_Ties_n,zam b0_Net_Ties_g⟩:(Sl Tie))⟩:Net),(⟨b0_out_n,b0_out_F⟩:Mp)⟩:web) b1).2).out).n) ((((zAi (⟨(⟨b0_Net_Nodes,(⟨b0_Net_Ties_n,zam b0_Net_Ties_g⟩:(Sl Tie))⟩:Net),(⟨b0_out_n,b0_out_F⟩:Mp)⟩:web) b1).2).out).F)],.d (.one (.int .i64 b1))])
  | _=>none
theorem zJx:zar Tryd.prog 69:=⟨_,rfl,rfl,by kernel_rfl⟩
theorem zMo (hself:zjt Tryd.prog 69 zxB):zjt Tryd.prog 69 zJw:=zBd (zMn hself) zJx λ xs safe rs ys h hs K hk=>by
  unfold zJw at h
  split at h
  · rename_i b0_Net_Nodes b0_Net_Ties_n b0_Net_Ties_s b0_Net_Ties_g b0_out_q b0_out_n b0_out_F b1
    simp only[Option.some.injEq,Prod.mk.injEq] at h
    obtain⟨rfl,rfl,rfl⟩:=h
    obtain⟨⟨rfl,b0_Net_Ties_f,rfl⟩,rfl,hs⟩:=hs
    try rw[zak b0_Net_Ties_f] at hs
    try rw[zak b0_Net_Ties_f] at hk
    refine⟨λ _ _=>[],λ _=>false,zfm,?_⟩
    show zkG Tryd.prog zBI zfm 69 _ _
    exact zOl (⟨(⟨b0_Net_Nodes,(⟨b0_Net_Ties_n,b0_Net_Ties_f⟩:(Sl Tie))⟩:Net),(⟨b0_out_n,b0_out_F⟩:Mp)⟩:web) b1 (λ x=>K x.1 x.2) hs hk
  · cases h
end
def zue : Nat → Rec69
  | 0=>⟨λ _ _=>default,λ _ _=>false⟩
  | k+1=>⟨@zAi ⟨zue k⟩,@zLp ⟨zue k⟩⟩
theorem zJy : ∀ k, zjt Tryd.prog 69 (@zxB ⟨zue k⟩)
  | 0=>λ xs ys safe rs h hs=>by
    unfold zxB at h
    split at h
    · simp only [Option.some.injEq, Prod.mk.injEq] at h
      obtain⟨rfl,rfl,rfl⟩:=h
      exact absurd hs.2.2 Bool.false_ne_true
    · cases h
  | k+1=>@zMo ⟨zue k⟩ (zJy k)
def s69 (w:web) (left:Int):((Sl (Sl Int))×web):=(zue 64).S w left
def p69 (w:web) (left:Int):Bool:=(zue 64).P w left
def zJz : MK
  | [.box 105 [.p (.int .i64 b0_Net_Nodes),.p (.sl b0_Net_Ties_n b0_Net_Ties_s b0_Net_Ties_g),.mo 3 4 b0_out_q b0_out_n b0_out_F],.d (.one (.int .i64 b1))]=>some (IsE enc_40 4 b0_Net_Ties_s b0_Net_Ties_g/\b0_out_q=(false,1,false,[none])/\p69 (⟨(⟨b0_Net_Nodes,(⟨b0_Net_Ties_n,zam b0_Net_Ties_g⟩:(Sl Tie))⟩:Net),(⟨b0_out_n,b0_out_F⟩:Mp)⟩:web) b1=true,[.one (.sl (((s69 (⟨(⟨b0_Net_Nodes,(⟨b0_Net_Ties_n,zam b0_Net_Ties_g⟩:(Sl Tie))⟩:Net),(⟨b0_out_n,b0_out_F⟩:Mp)⟩:web) b1).1).len) 1 (λ i=>zbO (((s69 (⟨(⟨b0_Net_Nodes,(⟨b0_Net_Ties_n,zam b0_Net_Ties_g⟩:(Sl Tie))⟩:Net),(⟨b0_out_n,b0_out_F⟩:Mp)⟩:web) b1).1).get i)))],[.box 105 [.p (.int .i64 (((s69 (⟨(⟨b0_Net_Nodes,(⟨b0_Net_Ties_n,zam b0_Net_Ties_g⟩:(Sl Tie))⟩:Net),(⟨b0_out_n,b0_out_F⟩:Mp)⟩:web) b1).2).Net.Nodes)),.p (.sl (((s69 (⟨(⟨b0_Net_Nodes,(⟨b0_Net_Ties_n,zam b0_Net_Ties_g⟩:(Sl Tie))⟩:Net),(⟨b0_out_n,b0_out_F⟩:Mp)⟩:web) b1).2).Net.Ties.len) 4 (λ i=>enc_40 (((s69 (⟨(⟨b0_Net_Nodes,(⟨b0_Net_Ties_n,zam b0_Net_Ties_g⟩:(Sl Tie))⟩:Net),(⟨b0_out_n,b0_out_F⟩:Mp)⟩:web) b1).2).Net.Ties.get i))),.mo 3 4 (false,1,false,[none]) ((((s69 (⟨(⟨b0_Net_Nodes,(⟨b0_Net_Ties_n,zam b0_Net_Ties_g⟩:(Sl Tie))⟩:Net),(⟨b0_out_n,b0_out_F⟩:Mp)⟩:web) b1).2).out).n) ((((s69 (⟨(⟨b0_Net_Nodes,(⟨b0_Net_Ties_n,zam b0_Net_Ties_g⟩:(Sl Tie))⟩:Net),(⟨b0_out_n,b0_out_F⟩:Mp)⟩:web) b1).2).out).F)],.d (.one (.int .i64 b1))])
  | _=>none
theorem zOm:zjt Tryd.prog 69 zJz:=zJy 64
abbrev T71:Tabs:=(Tabs.nil.addF 101 zs5)
theorem zMp:TabsOk Tryd.prog T71:=(TabsOk.nil.addF zJn)
abbrev G71:Ctrs:=csm T71 (λ _ _=>[]) (λ _=>false)
def zFA:Ann:=⟨36,[(0,zK [0,1] []),(1,zK [0,1,9,10,11] []),(2,zK [0,1,9,10,11,12] []),(3,zK [0,1,5,6,9,10,11] []),(4,zK [0,1,5,6,9,10,11,19] []),(5,zK [4] []),(6,zK [0,1,6,7,9,10,11] []),(7,zK [0,1,8,9,10,11] []),(8,zK [0,1,8,9,10,11,28] []),(9,zK [4] []),(10,zK [0,1,9,10,11] []),(11,zK [35] []),(12,zK [4] []),(13,zK [4] [])],
 [(2,zK [0,1,9,10,11] [])],
 [(6,zK [0,1,5,6,9,10,11] []),(8,zK [0,1,8,9,10,11] [])],
 [],[]⟩
abbrev R71:=Int
abbrev e71 (r:R71):List PA:=[.one (.int .i64 r)]
@[irreducible] def z71:=ptF Tryd.prog G71 zFA Tryd.f71
def zC3 (zer:(Sl Int)) (zdU:(Sl Int)) (zgY:(Sl Int)) (zaX:Int) (zaO:Int) (zdd:Nat->List PV) (zde:Nat->List PV) (zjm:Nat->List PV):St:=⟨[(0,zP (.sl zer.len 1 zdd)),(1,zP (.sl zdU.len 1 zde)),(9,zP (.sl zgY.len 1 zjm)),(10,zI zaX),(11,zI zaO)],[],[]⟩
abbrev zBL (K:List PA->Prop) (X:St->Prop) (P:(Sl Int)->(Sl Int)->(Sl Int)->Int->Int->Bool) (S:(Sl Int)->(Sl Int)->(Sl Int)->Int->Int->Int):Prop:=∀ ⦃zer:(Sl Int)⦄ ⦃zdU:(Sl Int)⦄ ⦃zgY:(Sl Int)⦄ ⦃zaX:Int⦄ ⦃zaO:Int⦄ ⦃zdd:Nat->List PV⦄ ⦃zde:Nat->List PV⦄ ⦃zjm:Nat->List PV⦄,P zer zdU zgY zaX zaO=true->K (e71 (S zer zdU zgY zaX zaO))->zdd=zg zad zer->zde=zg zad zdU->zjm=zg zad zgY->X (zC3 zer zdU zgY zaX zaO zdd zde zjm)
section
variable {K:List PA->Prop}{s1_a0:(Sl Int)}{s2_a1:(Sl Int)}{zer:(Sl Int)}{zdU:(Sl Int)}{zgY:(Sl Int)}{zaX:Int}{zaO:Int}{zdd:Nat->List PV}{zde:Nat->List PV}{zjm:Nat->List PV}{X0:St->Prop}{P0:(Sl Int)->(Sl Int)->(Sl Int)->Int->Int->Bool}{S0:(Sl Int)->(Sl Int)->(Sl Int)->Int->Int->Int}{zoE:(Sl Int)}{zjH:(Sl Int)}{iv1:Int}{zFB:Int}{zqz:(Sl Int)}{zhH:Int}{zcu:Int}{zoF:Nat->List PV}{zoG:Nat->List PV}{zC4:Nat->List PV}{zoH:(Sl Int)}{zoI:(Sl Int)}{cv2:Int}{zqA:Int}{zoJ:Nat->List PV}{zoK:Nat->List PV}
def zxC (S0:(Sl Int)->(Sl Int)->(Sl Int)->Int->Int->Int) (zqz:(Sl Int)) (zhH:Int) (zoH:(Sl Int)) (zoI:(Sl Int)) (cv2:Int) (zqA:Int):Int :=
  (cond (cv2 != (0:Int))
 cv2
 (S0 zoH zoI zqz zhH (w64 (zqA+(1:Int)))))
def zxD (P0:(Sl Int)->(Sl Int)->(Sl Int)->Int->Int->Bool) (zqz:(Sl Int)) (zhH:Int) (zoH:(Sl Int)) (zoI:(Sl Int)) (cv2:Int) (zqA:Int):Bool :=
  (cond (cv2 != (0:Int))
 true
 (P0 zoH zoI zqz zhH (w64 (zqA+(1:Int)))))
theorem zFC (hX0:zBL K X0 P0 S0) (hs:zxD P0 zqz zhH zoH zoI cv2 zqA=true) (hk:K (e71 (zxC S0 zqz zhH zoH zoI cv2 zqA))) (zwL:zoJ=zg zad zoH) (zwM:zoK=zg zad zoI):z71 K [1,0,1,0,0,1,1,0,0,1,1,1,1] [X0] ⟨[(0,zP (.sl zoH.len 1 zoJ)),(1,zP (.sl zoI.len 1 zoK)),(8,zI cv2),(9,zS zad 1 zqz),(10,zI zhH),(11,zI zqA)],[],[]⟩:=by subst zwL;subst zwM;exact zaM (by kernel_rfl) (zc hs hk (λ hs hk=>hk) (λ hs hk=>(hX0 hs hk rfl rfl rfl)))
def zxE (S0:(Sl Int)->(Sl Int)->(Sl Int)->Int->Int->Int) (zoE:(Sl Int)) (zjH:(Sl Int)) (iv1:Int) (zFB:Int) (zqz:(Sl Int)) (zhH:Int) (zcu:Int):Int :=
  (zxC S0 zqz zhH zoE zjH (zAh zFB (zjH.get iv1.toNat)) zcu)
def zxF (P0:(Sl Int)->(Sl Int)->(Sl Int)->Int->Int->Bool) (zoE:(Sl Int)) (zjH:(Sl Int)) (iv1:Int) (zFB:Int) (zqz:(Sl Int)) (zhH:Int) (zcu:Int):Bool :=
  (decide ((0≤iv1/\iv1 < (zjH.len:Int))) &&
 (zxD P0 zqz zhH zoE zjH (zAh zFB (zjH.get iv1.toNat)) zcu))
theorem zFD (hX0:zBL K X0 P0 S0) (hs:zxF P0 zoE zjH iv1 zFB zqz zhH zcu=true) (hk:K (e71 (zxE S0 zoE zjH iv1 zFB zqz zhH zcu))) (zwN:zoF=zg zad zoE) (zwO:zoG=zg zad zjH) (zJA:zC4=zg zad zqz):z71 K [1,0,1,0,0,1,1,0,0,1,1] [X0] ⟨[(0,zP (.sl zoE.len 1 zoF)),(1,zP (.sl zjH.len 1 zoG)),(5,zI iv1),(6,zI zFB),(9,zP (.sl zqz.len 1 zC4)),(10,zI zhH),(11,zI zcu)],[],[]⟩:=by subst zwN;subst zwO;subst zJA;exact zaM (by kernel_rfl) (zaJ hs λ hc hs=>And.intro hc (zFC hX0 hs hk rfl rfl))
def zxG (S0:(Sl Int)->(Sl Int)->(Sl Int)->Int->Int->Int) (zer:(Sl Int)) (zdU:(Sl Int)) (zgY:(Sl Int)) (zaX:Int) (zaO:Int):Int :=
  (cond (decide (zaO < zaX))
 (cond (decide (zaO ≥ (zdU.len : Int)))
 (1:Int)
 (zxE S0 zer zdU zaO (zgY.get zaO.toNat) zgY zaX zaO))
 (cond (decide ((zer.len : Int) < (zdU.len : Int)))
 (-1:Int)
 (0:Int)))
def zxH (P0:(Sl Int)->(Sl Int)->(Sl Int)->Int->Int->Bool) (zer:(Sl Int)) (zdU:(Sl Int)) (zgY:(Sl Int)) (zaX:Int) (zaO:Int):Bool :=
  (cond (decide (zaO < zaX))
 (decide ((0≤zaO/\zaO < (zgY.len:Int))) &&
 (cond (decide (zaO ≥ (zdU.len : Int)))
 true
 (zxF P0 zer zdU zaO (zgY.get zaO.toNat) zgY zaX zaO)))
 true)
def zxI:Nat->(Sl Int)->(Sl Int)->(Sl Int)->Int->Int->Int:=lpO (λ _ _ _ _ _=>default) (zxG)
def zxJ:Nat->(Sl Int)->(Sl Int)->(Sl Int)->Int->Int->Bool:=lpO (λ _ _ _ _ _=>false) (zxH)
def zxK (zer:(Sl Int)) (zdU:(Sl Int)) (zgY:(Sl Int)) (zaX:Int) (zaO:Int):Int:=zxI Fuel zer zdU zgY zaX zaO
def zxL (zer:(Sl Int)) (zdU:(Sl Int)) (zgY:(Sl Int)) (zaX:Int) (zaO:Int):Bool:=zxJ Fuel zer zdU zgY zaX zaO
theorem zFE (hs:zxL zer zdU zgY zaX zaO=true) (hk:K (e71 (zxK zer zdU zgY zaX zaO))) (zkQ:zdd=zg zad zer) (zkR:zde=zg zad zdU) (zxM:zjm=zg zad zgY):z71 K [1,0,1,0] [] (zC3 zer zdU zgY zaX zaO zdd zde zjm) :=
  zl (λ X=>z71 K [1,0,1,0,0] [X]) (by kernel_rfl) λ X0 hX =>
  (show ∀ k, zBL K X0 (zxJ k) (zxI k) from zd1 _ _ (zxH) (zxG) (zBL K X0)
 (by intro _ _ _ _ _ _ _ _ hs;exact absurd hs Bool.false_ne_true)
 (by intro P0 S0 hX0 zer zdU zgY zaX zaO zdd zde zjm hs hk zkQ zkR zxM;subst zkQ;subst zkR;subst zxM;exact hX _ (zaM (by kernel_rfl) (zc hs hk (λ hs hk=>(zaJ hs λ hc hs=>And.intro hc (zc hs hk (λ hs hk=>hk) (λ hs hk=>(zFD hX0 hs hk rfl rfl rfl))))) (λ hs hk=>(zt hk (λ hk=>hk) (λ hk=>hk))))))) _ hs hk zkQ zkR zxM
def s71 (s1_a0:(Sl Int)) (s2_a1:(Sl Int)):Int :=
  (zxK s1_a0 s2_a1 s1_a0 (s1_a0.len:Int) (0:Int))
def p71 (s1_a0:(Sl Int)) (s2_a1:(Sl Int)):Bool :=
  (zxL s1_a0 s2_a1 s1_a0 (s1_a0.len:Int) (0:Int))
end
theorem q71 (s1_a0:(Sl Int)) (s2_a1:(Sl Int)) (K:List PA->Prop) (hs:p71 s1_a0 s2_a1=true) (hk:K (e71 (s71 s1_a0 s2_a1))):vcFun Tryd.prog G71 zFA 71 [.one (.sl s1_a0.len 1 (λ i=>zad (s1_a0.get i))),.one (.sl s2_a1.len 1 (λ i=>zad (s2_a1.get i)))] K :=
  zaM (by kernel_rfl) (zFE hs hk rfl rfl rfl)
def zFF : List PA → COut
  | [.one (.sl zfR zlV zfS),.one (.sl zdJ zie zdB)]=>.det (IsE zad 1 zlV zfS/\IsE zad 1 zie zdB/\p71 (⟨zfR,zav zfS⟩:(Sl Int)) (⟨zdJ,zav zdB⟩:(Sl Int))=true) [.one (.int .i64 (s71 (⟨zfR,zav zfS⟩:(Sl Int)) (⟨zdJ,zav zdB⟩:(Sl Int))))]
  | _=>.no
theorem zJB:zar Tryd.prog 71:=⟨_,rfl,rfl,by kernel_rfl⟩
theorem zOn:Ok Tryd.prog 71 zFF:=za9 zMp zJB λ args K h=>by
  unfold zFF at h
  split at h
  · rename_i zfR zlV zfS zdJ zie zdB
    obtain⟨⟨⟨rfl,zit,rfl⟩,⟨rfl,zfL,rfl⟩,hs⟩,hk⟩:=h
    try rw[zba zit] at hs
    try rw[zba zit] at hk
    try rw[zba zfL] at hs
    try rw[zba zfL] at hk
    exact⟨(λ _ _=>[]),(λ _=>false),zFA,q71 (⟨zfR,zit⟩:(Sl Int)) (⟨zdJ,zfL⟩:(Sl Int)) K hs hk⟩
  · exact h.elim
abbrev T70:Tabs:=(Tabs.nil.addF 71 zFF)
theorem zMq:TabsOk Tryd.prog T70:=(TabsOk.nil.addF zOn)
abbrev G70:Ctrs:=csm T70 (λ _ _=>[]) (λ _=>false)
def zFG:Ann:=⟨33,[(0,zK [0,1] []),(1,zK [0,1,9] []),(3,zK [0,1,5] []),(4,zK [0,1,5,6] []),(5,zK [0,1,5,6,17] []),(6,zK [0,1,5,6] []),(7,zK [0,1,5,6,27] []),(8,zK [0,1,5,6] []),(9,zK [4] [])],
 [(5,zK [0,1,5,6] [])],
 [(3,zK [0,1] []),(8,zK [0,1,5,6,27] [])],
 [],[]⟩
abbrev R70:=(Sl Int)
abbrev e70 (r:R70):List PA:=[.one (.sl r.len 1 (λ i=>zad (r.get i)))]
@[irreducible] def z70:=ptF Tryd.prog G70 zFG Tryd.f70
def zC5 (x:(Sl (Sl Int))) (mv1:(Sl Int)) (iv1:Int) (zoN:Nat->List PV):St:=⟨[(0,zS zbO 1 x),(1,zP (.fn 71 [] [])),(5,zP (.sl mv1.len 1 zoN)),(6,zI iv1)],[],[]⟩
abbrev zFH (K:List PA->Prop) (x:(Sl (Sl Int))) (X:St->Prop) (P:(Sl Int)->Int->Bool) (S:(Sl Int)->Int->(Sl Int)):Prop:=∀ ⦃mv1:(Sl Int)⦄ ⦃iv1:Int⦄ ⦃zoN:Nat->List PV⦄,P mv1 iv1=true->K (e70 (S mv1 iv1))->zoN=zg zad mv1->X (zC5 x mv1 iv1 zoN)
section
variable {K:List PA->Prop}{x:(Sl (Sl Int))}{mv1:(Sl Int)}{iv1:Int}{zoN:Nat->List PV}{X1:St->Prop}{P1:(Sl Int)->Int->Bool}{S1:(Sl Int)->Int->(Sl Int)}{mv2:(Sl Int)}{iv2:Int}{zqB:Bool}{zJC:Nat->List PV}
def zxN (S1:(Sl Int)->Int->(Sl Int)) (x:(Sl (Sl Int))) (mv2:(Sl Int)) (iv2:Int) (zqB:Bool):(Sl Int) :=
  (cond zqB
 (S1 (x.get iv2.toNat) (w64 (iv2+(1:Int))))
 (S1 mv2 (w64 (iv2+(1:Int)))))
def zxO (P1:(Sl Int)->Int->Bool) (x:(Sl (Sl Int))) (mv2:(Sl Int)) (iv2:Int) (zqB:Bool):Bool :=
  (cond zqB
 (decide ((0≤iv2/\iv2 < (x.len:Int))) &&
 (P1 (x.get iv2.toNat) (w64 (iv2+(1:Int)))))
 (P1 mv2 (w64 (iv2+(1:Int)))))
theorem zFI (hX1:zFH K x X1 P1 S1) (hs:zxO P1 x mv2 iv2 zqB=true) (hk:K (e70 (zxN S1 x mv2 iv2 zqB))) (zMr:zJC=zg zad mv2):z70 K [1,1,1,0,1,0,0,1,0,0,1] [X1] ⟨[(0,zS zbO 1 x),(1,zP (.fn 71 [] [])),(5,zP (.sl mv2.len 1 zJC)),(6,zI iv2),(27,zB zqB)],[],[]⟩:=by subst zMr;exact zaM (by kernel_rfl) (zc hs hk (λ hs hk=>(zaJ hs λ hc hs=>And.intro hc (hX1 hs hk rfl))) (λ hs hk=>(hX1 hs hk rfl)))
def zxP (x:(Sl (Sl Int))) (S1:(Sl Int)->Int->(Sl Int)) (mv1:(Sl Int)) (iv1:Int):(Sl Int) :=
  (cond (decide (iv1 < (x.len : Int)))
 (zxN S1 x mv1 iv1 (decide ((s71 (x.get iv1.toNat) mv1) < (0:Int))))
 mv1)
def zxQ (x:(Sl (Sl Int))) (P1:(Sl Int)->Int->Bool) (mv1:(Sl Int)) (iv1:Int):Bool :=
  (cond (decide (iv1 < (x.len : Int)))
 (decide ((0≤iv1/\iv1 < (x.len:Int))) &&
 (decide ((p71 (x.get iv1.toNat) mv1=true)) &&
 (zxO P1 x mv1 iv1 (decide ((s71 (x.get iv1.toNat) mv1) < (0:Int))))))
 true)
def zxR (x:(Sl (Sl Int))):Nat->(Sl Int)->Int->(Sl Int):=lpO (λ _ _=>default) (zxP x)
def zxS (x:(Sl (Sl Int))):Nat->(Sl Int)->Int->Bool:=lpO (λ _ _=>false) (zxQ x)
def zxT (x:(Sl (Sl Int))) (mv1:(Sl Int)) (iv1:Int):(Sl Int):=zxR x Fuel mv1 iv1
def zxU (x:(Sl (Sl Int))) (mv1:(Sl Int)) (iv1:Int):Bool:=zxS x Fuel mv1 iv1
theorem zFJ (hs:zxU x mv1 iv1=true) (hk:K (e70 (zxT x mv1 iv1))) (zFK:zoN=zg zad mv1):z70 K [1,1,1,0,1,0] [] (zC5 x mv1 iv1 zoN) :=
  zl (λ X=>z70 K [1,1,1,0,1,0,0] [X]) (by kernel_rfl) λ X1 hX =>
  (show ∀ k, zFH K x X1 (zxS x k) (zxR x k) from zd1 _ _ (zxQ x) (zxP x) (zFH K x X1)
 (by intro _ _ _ hs;exact absurd hs Bool.false_ne_true)
 (by intro P1 S1 hX1 mv1 iv1 zoN hs hk zFK;subst zFK;exact hX _ (zaM (by kernel_rfl) (zc hs hk (λ hs hk=>(zaJ hs λ hc hs=>And.intro hc (zaJ hs λ hc hs=>And.intro (And.intro (zE zad 1 ((x.get iv1.toNat).get)) (And.intro (zE zad 1 mv1.get) hc)) (zFI hX1 hs hk rfl)))) (λ hs hk=>hk))))) _ hs hk zFK
def zxV (x:(Sl (Sl Int))):(Sl Int) :=
  (zxT x (x.get 0) (1:Int))
def zxW (x:(Sl (Sl Int))):Bool :=
  (decide ((0≤(0:Int)/\(0:Int) < (x.len:Int))) &&
 (zxU x (x.get 0) (1:Int)))
theorem zFL (hs:zxW x=true) (hk:K (e70 (zxV x))):z70 K [1,1] [] ⟨[(0,zS zbO 1 x),(1,zP (.fn 71 [] []))],[],[]⟩:=zaM (by kernel_rfl) (zaJ hs λ hc hs=>And.intro hc (zFJ hs hk rfl))
def s70 (x:(Sl (Sl Int))):(Sl Int) :=
  (cond (decide ((x.len : Int) < (1:Int)))
 default
 (zxV x))
def p70 (x:(Sl (Sl Int))):Bool :=
  (cond (decide ((x.len : Int) < (1:Int)))
 false
 (zxW x))
end
theorem q70 (x:(Sl (Sl Int))) (K:List PA->Prop) (hs:p70 x=true) (hk:K (e70 (s70 x))):vcFun Tryd.prog G70 zFG 70 [.one (.sl x.len 1 (λ i=>zbO (x.get i))),.one (.fn 71 [] [])] K :=
  zaM (by kernel_rfl) (zc hs hk (λ hs hk=>(absurd hs Bool.false_ne_true:False)) (λ hs hk=>(zFL hs hk)))
def zFM : List PA → COut
  | [.one (.sl zfR zlV zfS),.one (.fn 71 [] [])]=>.det (IsE zbO 1 zlV zfS/\p70 (⟨zfR,zmM zfS⟩:(Sl (Sl Int)))=true) [.one (.sl ((s70 (⟨zfR,zmM zfS⟩:(Sl (Sl Int)))).len) 1 (λ i=>zad ((s70 (⟨zfR,zmM zfS⟩:(Sl (Sl Int)))).get i)))]
  | _=>.no
theorem zJD:zar Tryd.prog 70:=⟨_,rfl,rfl,by kernel_rfl⟩
theorem zOo:Ok Tryd.prog 70 zFM:=za9 zMq zJD λ args K h=>by
  unfold zFM at h
  split at h
  · rename_i zfR zlV zfS
    obtain⟨⟨⟨rfl,zit,rfl⟩,hs⟩,hk⟩:=h
    try rw[zkL zit] at hs
    try rw[zkL zit] at hk
    exact⟨(λ _ _=>[]),(λ _=>false),zFG,q70 (⟨zfR,zit⟩:(Sl (Sl Int))) K hs hk⟩
  · exact h.elim
end Go.Proofs
