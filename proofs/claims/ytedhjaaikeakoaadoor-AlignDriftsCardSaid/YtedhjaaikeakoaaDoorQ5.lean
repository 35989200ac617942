/- Part 5 of what the proof rests on: a machine that runs functions of the program on pure values, proved sound; the functions that the law reaches, and what they compute. -/
import Derived.Test.YtedhjaaikeakoaaDoorQ4
import Derived.Sort.OwnSortedInts
import Derived.Lib.SlicesCompact
import Derived.Test.YtedhjaaikeakoaaDoorProg
import Derived.ProofKit
import Derived.Deep.Slices
import Derived.OpenShut
import Derived.Shelf.SlIterI.Nil
import Derived.Shelf.SortM.Plain
import Derived.Shelf.SortM.SortNone
import Derived.Ground.GgzProg
import Derived.Ground.SlgmProg
import Derived.Tactics
import Derived.Tactics2
import Derived.Recover
import Derived.RecoverIn
import Derived.TacticsInMore
set_option linter.all false
namespace Go.Pm

structure Tabs where
  fn:List (Nat×(List PA->COut))
  own:List (Nat×OwnK)
  it:List (Nat×(List PA->Option (Prop×List (List PA))))
  mt:List (Nat×MK)
def zyx : List (Nat × (List PA → COut)) → Nat → List PA → COut
  | [],_=>λ _=>.no
  | (k,c) :: r,n=>match Nat.beq k n with | true=>c | false=>zyx r n
def zyy (l:List (Nat×OwnK)) (f:Nat):OwnK:=match lk l f with | some c=>c | none=>.none
def zG6 (l:List (Nat×(List PA->Option (Prop×List (List PA))))) (f:Nat):List PA->Option (Prop×List (List PA)):=match lk l f with | some c=>c | none=>λ _=>none
def csm (T:Tabs) (memo:Nat->Int->List Int) (vv:Nat->Bool):Ctrs:=⟨zyx T.fn,zyy T.own,zG6 T.it,memo,vv,lk T.mt⟩
abbrev cs (T:Tabs):Ctrs:=csm T (λ _ _=>[]) (λ _=>false)
def Tabs.nil:Tabs:=⟨[],[],[],[]⟩
def Tabs.addF (T:Tabs) (f:Nat) (c:List PA->COut):Tabs:=⟨(f,c) :: T.fn,T.own,T.it,T.mt⟩
def Tabs.addO (T:Tabs) (f:Nat) (c:OwnK):Tabs:=⟨T.fn,(f,c) :: T.own,T.it,T.mt⟩
def Tabs.addI (T:Tabs) (f:Nat) (c:List PA->Option (Prop×List (List PA))):Tabs:=⟨T.fn,T.own,(f,c) :: T.it,T.mt⟩
def Tabs.addM (T:Tabs) (f:Nat) (c:MK):Tabs:=⟨T.fn,T.own,T.it,(f,c) :: T.mt⟩

theorem zOe {P:Program}{f:Nat} : Ok P f (λ _=>.no):=λ _ _ h=>h.elim
theorem zOf {P:Program}{f:Nat} : zE7 P f (λ _=>none):=λ _ _ _ h=>by cases h

structure TabsOk (P : Program) (T : Tabs) : Prop where
  fn:∀ x∈T.fn,Ok P x.1 x.2
  own:∀ x∈T.own,zp2 P x.1 x.2
  it:∀ x∈T.it,zE7 P x.1 x.2
  mt:∀ x∈T.mt,zkH P x.1 x.2
theorem TabsOk.nil {P:Program} : TabsOk P .nil:=⟨λ _ h=>(by cases h),λ _ h=>(by cases h),λ _ h=>(by cases h),λ _ h=>(by cases h)⟩
theorem TabsOk.addF {P:Program}{T:Tabs}(h:TabsOk P T){f:Nat}{c:List PA->COut}(hc:Ok P f c):TabsOk P (T.addF f c) :=
 ⟨λ x hx=>(List.mem_cons.1 hx).elim (λ e=>by rw[e];exact hc) (λ hx=>h.fn x hx),h.own,h.it,h.mt⟩
theorem TabsOk.addO {P:Program}{T:Tabs}(h:TabsOk P T){f:Nat}{c:OwnK}(hc:zp2 P f c):TabsOk P (T.addO f c) :=
 ⟨h.fn,λ x hx=>(List.mem_cons.1 hx).elim (λ e=>by rw[e];exact hc) (λ hx=>h.own x hx),h.it,h.mt⟩
theorem TabsOk.addI {P:Program}{T:Tabs}(h:TabsOk P T){f:Nat}{c:List PA->Option (Prop×List (List PA))}(hc:zE7 P f c):TabsOk P (T.addI f c) :=
 ⟨h.fn,h.own,λ x hx=>(List.mem_cons.1 hx).elim (λ e=>by rw[e];exact hc) (λ hx=>h.it x hx),h.mt⟩
theorem TabsOk.addM {P:Program}{T:Tabs}(h:TabsOk P T){f:Nat}{c:MK}(hc:zkH P f c):TabsOk P (T.addM f c) :=
 ⟨h.fn,h.own,h.it,λ x hx=>(List.mem_cons.1 hx).elim (λ e=>by rw[e];exact hc) (λ hx=>h.mt x hx)⟩
theorem TabsOk.all {P:Program}{T:Tabs}(h:TabsOk P T) (memo:Nat->Int->List Int) (vv:Nat->Bool):OkAll P (csm T memo vv):=by
 refine⟨λ f C hC=>h.mt _ (zbR hC),λ f=>?_,λ f=>?_,λ f=>?_⟩
 ·show Ok P f (zyx T.fn f)
  have key:∀ l:List (Nat×(List PA->COut)),(∀ x∈l,Ok P x.1 x.2)->Ok P f (zyx l f):=by
   intro l
   induction l with
   | nil=>intro _;exact zOe
   | cons x l ih =>
    intro hl
    obtain⟨k,c⟩:=x
    simp only[zyx]
    split
    ·rename_i e
     have:=hl (k,c) List.mem_cons_self
     rw[← Nat.eq_of_beq_eq_true e];exact this
    ·exact ih λ x hx=>hl x (List.mem_cons_of_mem _ hx)
  exact key T.fn h.fn
 ·show zp2 P f (zyy T.own f)
  unfold zyy
  split
  ·rename_i c hc;exact h.own _ (zbR hc)
  ·trivial
 ·show zE7 P f (zG6 T.it f)
  unfold zG6
  split
  ·rename_i c hc;exact h.it _ (zbR hc)
  ·exact zOf

theorem zbv {P : Program} {T : Tabs} (hT : TabsOk P T) {f : FuncId} {C : List PA → COut} (hc : zaw P f)
    (h:∀ args K,(C args).wp K->∃ memo vv ann,vcFun P (csm T memo vv) ann f args K):Ok P f C :=
  zDB (hT.all (λ _ _=>[]) (λ _=>false)) hc h
theorem zG7 {P : Program} {T : Tabs} (hT : TabsOk P T) {f : FuncId} {C : MK} (hc : zaw P f)
    (h:∀ xs safe rs ys,C xs=some (safe,rs,ys)->safe->∀ K:List PA->List XA->Prop,K rs ys->∃ memo vv ann,zlW P (csm T memo vv) ann f xs K):zkH P f C :=
  zyw (hT.all (λ _ _=>[]) (λ _=>false)) hc h
theorem zLC {P : Program} {T : Tabs} (hT : TabsOk P T) {f : FuncId} {C : List PA → Option (Prop × List (List PA))} (hc : zaw P f)
    (h:∀ l caps safe ys,C caps=some (safe,ys)->safe->∃ memo vv ann,vcIter P (csm T memo vv) ann f l caps ys):zE7 P f C :=
  zDF (hT.all (λ _ _=>[]) (λ _=>false)) hc h
structure Sl (α : Type) where
  len:Nat
  get:Nat->α
instance {α:Type} [Inhabited α]:Inhabited (Sl α):=⟨⟨0,λ _=>default⟩⟩
abbrev w64 (x:Int):Int:=IntKind.i64.wrap x

def IsE {α:Type}(enc:α->List PV) (size s:Nat) (g:Nat->List PV):Prop:=s=size/\∃ f:Nat->α,g=λ i=>enc (f i)
theorem isE {α:Type}{enc:α->List PV}{size:Nat}{f:Nat->α} : IsE enc size size (λ i=>enc (f i)):=⟨rfl,f,rfl⟩
theorem zyz {α:Type}{enc:α->List PV}{size:Nat}{x:α} : IsE enc size size (λ _=>enc x):=⟨rfl,λ _=>x,rfl⟩
def zl0 {α:Type}(n:Nat) (get new:Nat->α):Nat->α:=λ j=>match Nat.ble n j with | true=>new (j - n) | false=>get j
theorem zDJ {α:Type}{enc:α->List PV}{n:Nat}{f h:Nat->α} : appG n (λ i=>enc (f i)) (λ i=>enc (h i))=λ i=>enc (zl0 n f h i):=by
 funext j;simp only[appG,zl0];cases Nat.ble n j <;> rfl
def zrC {α : Type} (x : α) : List α → Nat → α
  | [],_=>x
  | y :: _,0=>y
  | _ :: r,i+1=>zrC x r i
theorem zuW {α:Type}{enc:α->List PV}{x y:α}{r:List α} : zbE (enc x :: enc y :: r.map enc)=λ i=>enc (zrC x (x :: y :: r) i):=by
 have key:∀ (l:List α) (i:Nat),(match (l.map enc)[i]? with | some z=>z | none=>enc x)=enc (zrC x l i):=by
  intro l
  induction l with
  | nil=>intro i;rfl
  | cons a l ih =>
   intro i
   cases i with
   | zero=>rfl
   | succ i=>simpa [zrC] using ih i
 funext i
 exact key (x :: y :: r) i
theorem zeG {α:Type}{enc:α->List PV}{size:Nat}{x y:α}(r:List α):IsE enc size size (zbE (enc x :: enc y :: r.map enc)):=⟨rfl,_,zuW⟩

theorem zfs {b:Bool}{A B:Prop}{S S':Bool}{α:Type}{K:α->Prop}{x y:α}(h1:S=true->K x->A) (h2:S'=true->K y->B) (hs:cond b S S'=true) (hk:K (cond b x y)):zdR b A B:=by
 cases b
 ·exact h2 hs hk
 ·exact h1 hs hk
theorem ziv {b:Bool}{A B:Prop}{S S':Bool}{α β:Type}{f:α->β}{ys:List β}{x y:List α}(hs:cond b S S'=true) (hk:ys=(cond b x y).map f) (h1:S=true->ys=x.map f->A) (h2:S'=true->ys=y.map f->B):zdR b A B:=by
 cases b
 ·exact h2 hs hk
 ·exact h1 hs hk
theorem itY {α β:Type}{f:α->β}{ys:List β}{p:β}{x r:List α}{l:Nat}{A:List β->Prop}(hk:ys=x.map f) (e:x.map f=p :: r.map f) (h:∀ zs,zs=r.map f->A zs):l=l/\∃ z,ys=p :: z/\A z/\True :=
 ⟨rfl,_,hk.trans e,h _ rfl,trivial⟩
theorem zaL {C A:Prop} [d:Decidable C] {r:Bool}(hs:(decide C && r)=true) (k:C->r=true->A):A:=by
 rw[Bool.and_eq_true] at hs
 exact k (of_decide_eq_true hs.1) hs.2
abbrev Fuel:Nat:=9223372036854775808
def setT {α:Type}(i:Nat) (v:α) (get:Nat->α):Nat->α:=λ j=>match Nat.beq j i with | true=>v | false=>get j
theorem ziw {α:Type}{enc:α->List PV}{n:Nat}{g g':Nat->List PV}{f h:Nat->α}(h1:g=λ i=>enc (f i)) (h2:g'=λ i=>enc (h i)):appG n g g'=λ i=>enc (zl0 n f h i):=by
 subst h1;subst h2;exact zDJ
theorem zl1 {α:Type}{enc:α->List PV}{i k:Nat}{g:Nat->List PV}{f:Nat->α}{new:List PV}{v:α}(h1:g=λ i=>enc (f i)) (h2:spl (enc (f i)) k new=enc v):zrt i k g new=λ j=>enc (setT i v f j):=by
 subst h1
 funext j
 simp only[zrt,setT]
 cases e:Nat.beq j i
 ·rfl
 ·have := Nat.eq_of_beq_eq_true e
  subst this;exact h2
def zOg (P:Program) (G:Ctrs) (ann:Ann) (hd:Nat) (ps:List Nat) (assign body:Code) (X:List (List PA)->St->Prop) (K:Exit->St->Prop) (y:List PA) (rest:List (List PA)) (s:St):Prop :=
 match lk ann.head hd with
 | some k=>match zih ps y s.env with
  | some env=>vc P G ann assign (zE6 (vc P G ann body (zmV P k (X rest) K)) λ _ _=>False) ⟨env,s.objs,[]⟩
  | none=>False
 | none=>False
end Go.Pm
namespace Go.Pm
open Go Go.Sort

/-! Nil slices are slices of length 0. -/
inductive PVle : PV → PV → Prop
  | rfl (p:PV):PVle p p
  | nil (s:Nat) (g:Nat->List PV):PVle .nils (.sl 0 s g)
  | nilm (q:MQ):PVle .nilm (.fm q 0 (λ _=>none))
inductive PAle : PA → PA → Prop
  | one {p q:PV} : PVle p q->PAle (.one p) (.one q)
  | agg {l m:List PV} : RL PVle l m->PAle (.agg l) (.agg m)
theorem zes {α β:Type}{R:α->β->Prop} : RL R [] []:=trivial
theorem zb8 {α β:Type}{R:α->β->Prop}{a:α}{b:β}{l:List α}{m:List β}(h:R a b) (h':RL R l m):RL R (a :: l) (b :: m):=⟨h,h'⟩
theorem zfd {α : Type} {R : α → α → Prop} (h : ∀ a, R a a) : ∀ l : List α, RL R l l
  | []=>trivial
  | a :: l=>⟨h a,zfd h l⟩
theorem zfW (a:PA):PAle a a:=by
 cases a with
 | one p=>exact .one (.rfl p)
 | agg l=>exact .agg (zfd .rfl l)
def Wk (K:List PA->Prop) (l:List PA):Prop:=∃ l',RL PAle l l'/\K l'
theorem wk {K:List PA->Prop}{l l':List PA}(hk:K l') (h:RL PAle l l'):Wk K l:=⟨l',h,hk⟩
theorem zfX {K:List PA->Prop}{l:List PA}(hk:K l):Wk K l:=⟨l,zfd zfW l,hk⟩
theorem zLD {h:Fz}{p q:PV}{v:Value}(e:PVle p q) (r:Rep h p v):Rep h q v:=by
 cases e with
 | rfl=>exact r
 | nil s g=>cases r;exact .sl0 s g
 | nilm q=>cases r;exact .fmn q _ (λ _ _=>rfl)
theorem zyA {α β γ : Type} {R : α → β → Prop} {S : α → γ → Prop} {T : γ → β → Prop} (h : ∀ a b c, S a c → R a b → T c b) : ∀ (l : List α) (m : List β) (k : List γ), RL S l k → RL R l m → RL T k m
  | [],[],[],_,_=>trivial
  | a :: l,b :: m,c :: k,hs,hr=>⟨h a b c hs.1 hr.1,zyA h l m k hs.2 hr.2⟩
  | [],_ :: _,[],_,hr=>hr.elim
  | [],_,_ :: _,hs,_=>hs.elim
  | _ :: _,_,[],hs,_=>hs.elim
  | _ :: _,[],_ :: _,_,hr=>hr.elim
theorem zDK {h:Fz}{a b:PA}{v:Value}(e:PAle a b) (r:paR h a v):paR h b v:=by
 cases e with
 | one e=>exact zLD e r
 | agg e =>
  obtain⟨vs,rfl,hv⟩:=r
  exact⟨vs,rfl,zyA (R:=Rep h) (S:=PVle) (T:=Rep h) (λ _ _ _ e r=>zLD e r) _ _ _ e hv⟩
theorem zyB {h:Fz}{l m:List PA}{v:Value}(e:RL PAle l m) (r:zpU h l v):zpU h m v:=by
 match l,m,e,r with
 | [a],[b],e,r=>exact zDK e.1 r
 | [],[],_,r=>exact r
 | a :: b :: l,c :: d :: m,e,r =>
  obtain⟨vs,hv,hr⟩:=r
  exact⟨vs,hv,zyA (R:=paR h) (S:=PAle) (T:=paR h) (λ _ _ _ e r=>zDK e r) _ _ _ e hr⟩
 | [_],_ :: _ :: _,e,_=>exact e.2.elim
 | _ :: _ :: _,[_],e,_=>exact e.2.elim
 | [],_ :: _,e,_=>exact e.elim
 | _ :: _,[],e,_=>exact e.elim
theorem zgi {P : Program} {T : Tabs} (hT : TabsOk P T) {f : FuncId} {C : List PA → COut} (hc : zaw P f)
    (h:∀ args K,(C args).wp K->∃ args',RL PAle args args'/\∃ memo vv ann,vcFun P (csm T memo vv) ann f args' (Wk K)):Ok P f C:=by
  intro args K hK w h0 vs hvs hfz hgl
  obtain⟨args',hle,memo,vv,ann,hv⟩:=h args K hK
  refine⟨hc,(zyp (hT.all memo vv) hv (zyA (R:=paR h0) (S:=PAle) (T:=paR h0) (λ _ _ _ e r=>zDK e r) _ _ _ hle hvs) hfz hgl).mono ?_⟩
  rintro e w' ⟨h',rs,v,⟨rs',hr,hk⟩,he,hres,rest⟩
  exact⟨h',rs',v,hk,he,zyB hr hres,rest⟩
theorem zDL {P : Program} {T : Tabs} (hT : TabsOk P T) {f : FuncId} {C : MK} (hc : zaw P f)
    (h:∀ xs safe rs ys,C xs=some (safe,rs,ys)->safe->∀ K:List PA->List XA->Prop,K rs ys->∃ memo vv ann,zlW P (csm T memo vv) ann f xs (λ a b=>Wk (λ a'=>K a' b) a)):zkH P f C:=by
  intro xs ys safe rs hC hs w h0 base vs hvs hn hK hw hgl hB
  obtain⟨memo,vv,ann,hv⟩:=h xs safe rs ys hC hs (λ l zs=>l=rs/\zs=ys) ⟨rfl,rfl⟩
  refine⟨hc,(zyv (hT.all memo vv) hv hvs hn hK hw hgl hB).mono ?_⟩
  rintro e w' ⟨h',v,rs',ys',⟨rs2,hr,rfl,rfl⟩,he,hres,r⟩
  exact⟨h',v,he,zyB hr hres,r⟩
def WkM (K:List PA×List XA->Prop) (p:List PA×List XA):Prop:=Wk (λ a=>K (a,p.2)) p.1
theorem wkM {K:List PA×List XA->Prop}{l l':List PA}{b:List XA}(hk:K (l',b)) (h:RL PAle l l'):WkM K (l,b):=⟨l',h,hk⟩
theorem zyC {K:List PA×List XA->Prop}{p:List PA×List XA}(hk:K p):WkM K p:=⟨p.1,zfd zfW p.1,hk⟩
/-! Maps, as typed zae; the keys of a map. -/
structure Mp where
  n:Nat
  F:List Int->Option (List Int)
instance:Inhabited Mp:=⟨⟨0,λ _=>none⟩⟩

end Go.Pm
namespace Go.Pm

abbrev zI (x:Int):DV:=.one (.c (.p (.int .i64 x)))
abbrev zB (x:Bool):DV:=.one (.c (.p (.bool x)))
abbrev zP (x:PV):DV:=.one (.c (.p x))
abbrev zp (L k:Nat):DV:=.one (.c (.ptr L k))
abbrev zv (L:Nat):DV:=.one (.c (.vec L))
abbrev zs {α:Type}(enc:α->List PV) (s:Nat) (x:Sl α):PV:=.sl x.len s (λ i=>enc (x.get i))
abbrev zS {α:Type}(enc:α->List PV) (s:Nat) (x:Sl α):DV:=zP (zs enc s x)
abbrev zm (l:List PV):List Cl:=l.map Cl.p
abbrev zi (x:Int):Cl:=.p (.int .i64 x)
abbrev zg {α:Type}(enc:α->List PV) (x:Sl α):Nat->List PV:=λ i=>enc (x.get i)
abbrev zK (a b:List Nat):Keep:=⟨a,b,[],[],[],[],[]⟩
theorem zE {α:Type}(enc:α->List PV) (size:Nat) (f:Nat->α):IsE enc size size (λ i=>enc (f i)):=⟨rfl,f,rfl⟩

theorem zyD {α : Type} : ∀ (new l pre : List α), l.length = new.length → spl (pre ++ l) pre.length new = pre ++ new
  | [],l,pre,h=>by
    have:l=[]:=List.eq_nil_of_length_eq_zero h
    subst this;rfl
  | x :: r,[],pre,h=>by simp at h
  | x :: r,y :: l,pre,h=>by
    have e:=zyD r l (pre ++ [x]) (by simpa using h)
    simp only[spl,List.append_assoc,List.singleton_append,List.length_append,List.length_singleton] at e ⊢
    rw[List.set_append_right _ _ (Nat.le_refl _),Nat.sub_self,List.set_cons_zero]
    exact e
theorem zoe {n:Nat}{F G:Nat->Int} : spl (zh9 0 n F) 0 (zh9 0 n G)=zh9 0 n G:=by
 have h:=zyD (zh9 0 n G) (zh9 0 n F) [] (by rw[zfi,zfi])
 simpa using h
theorem zof {n:Nat}{F:Nat->Int} : zh9 0 n F=zh9 0 n (zmR (zm (zh9 0 n F))):=by
 refine List.ext_getElem? λ k=>?_
 by_cases hk:k < n
 ·rw [zgT n 0 F k hk, zgT n 0 _ k hk, Nat.zero_add]
  congr 2
  have h:(zm (zh9 0 n F))[k]? = some (.p (.int .i64 (F k))):=by
   rw[zm,List.getElem?_map,zgT n 0 F k hk,Nat.zero_add];rfl
  unfold zmR
  rw[h]
 ·rw[List.getElem?_eq_none (by rw[zfi];omega),List.getElem?_eq_none (by rw[zfi];omega)]

@[reducible] def lpO {A : Type} (d : A) (st : A → A) : Nat → A
  | 0=>d
  | k+1=>st (lpO d st k)
theorem zdU {A B : Type} (a : A) (b : B) (p : A → A) (s : B → B) (M : A → B → Prop) (h0 : M a b) (h1 : ∀ P S, M P S → M (p P) (s S)) : ∀ k, M (lpO a p k) (lpO b s k)
  | 0=>h0
  | k+1=>h1 _ _ (zdU a b p s M h0 h1 k)
def xcm (l:List PV):List XC:=l.map .p
def unX : List XC → List PV
  | []=>[]
  | .p v :: r=>v :: unX r
  | _ :: r=>.nilp :: unX r
theorem zyE : ∀ l : List PV, unX (xcm l) = l
  | []=>rfl
  | v :: r=>by show v :: unX (xcm r)=v :: r;rw[zyE r]
theorem zG8 {n:Nat}{F:Nat->Int} : xcm (zh9 0 n F)=xcm (zh9 0 n (zmR (zm (unX (xcm (zh9 0 n F)))))):=by
 rw[zyE,← zof]

section
variable (P:Program) (Γ:Ctrs) (ann:Ann)
def pt : Code → (Exit → St → Prop) → List Nat → List (St → Prop) → St → Prop
  | .seq a b,K,i :: r,X=>match i with | 0=>pt a (sqK P Γ ann b K) r X | _=>pt b K r X
  | .cond _ a b,K,i :: r,X=>match i with | 0=>pt a K r X | _=>pt b K r X
  | .block id b,K,_ :: r,X=>pt b (zfT id K) r X
  | .loop b,K,_ :: r,x :: X=>pt b (zwj P ann (zmI b) x K) r X
  | .scope b,K,_ :: r,X=>pt b (zxa K) r X
  | c,K,_,_=>vc P Γ ann c K
def ptF (fn:Func) (K:List PA->Prop) (l:List Nat) (X:List (St->Prop)):St->Prop :=
 match fn.body with
 | some c=>pt P Γ ann c (zrE P fn K) l X
 | none=>λ _=>False
end

section
variable (P:Program) (Γ:Ctrs) (ann:Ann)
def ptR : Code → (Exit → St → Prop) → List Nat → List (St → Prop) → Code × (Exit → St → Prop)
  | .seq a b,K,i :: r,X=>match i with | 0=>ptR a (sqK P Γ ann b K) r X | _=>ptR b K r X
  | .cond _ a b,K,i :: r,X=>match i with | 0=>ptR a K r X | _=>ptR b K r X
  | .block id b,K,_ :: r,X=>ptR b (zfT id K) r X
  | .loop b,K,_ :: r,x :: X=>ptR b (zwj P ann (zmI b) x K) r X
  | .scope b,K,_ :: r,X=>ptR b (zxa K) r X
  | c,K,_,_=>(c,K)
def exF (fn:Func) (K:List PA->Prop) (l:List Nat) (X:List (St->Prop)) (s:St):Prop :=
 match fn.body with
 | some c=>(ptR P Γ ann c (zrE P fn K) l X).2 .normal s
 | none=>False
def rnF (fn:Func) (K:List PA->Prop) (l:List Nat) (X:List (St->Prop)) (Y:List (List PA)->St->Prop) (y:List PA) (rest:List (List PA)) (s:St):Prop :=
 match fn.body with
 | some c=>match (ptR P Γ ann c (zrE P fn K) l X).1 with
  | .rangeFunc _ ps a b=>zOg P Γ ann (zPN a b) ps.toList a b Y (ptR P Γ ann c (zrE P fn K) l X).2 y rest s
  | _=>False
 | none=>False
end
@[reducible] def lpR {A Y : Type} (a : A) (st : Y → A → A) : List Y → A
  | []=>a
  | y :: r=>st y (lpR a st r)
theorem zri {Y A B : Type} {enc : Y → List PA} {X : List (List PA) → St → Prop} (pe : B) (se : A) (ps : Y → B → B) (ss : Y → A → A) (M : (St → Prop) → B → A → Prop) (h0 : M (X []) pe se)
    (h1:∀ y rest P S,M (X rest) P S->M (X (enc y :: rest)) (ps y P) (ss y S)):∀ l:List Y,M (X (l.map enc)) (lpR pe ps l) (lpR se ss l)
  | []=>h0
  | y :: r=>h1 y (r.map enc) _ _ (zri pe se ps ss M h0 h1 r)
theorem zr {at_ sf : Prop} {Y : Type} {enc : Y → List PA} {ys : List Y} {g : St} (Ex : St → Prop) (Rn : (List (List PA) → St → Prop) → List PA → List (List PA) → St → Prop)
    (e:at_=(sf/\∀ X:List (List PA)->St->Prop,(∀ s,Ex s->X [] s)->(∀ y rest s,Rn X y rest s->X (y :: rest) s)->X (ys.map enc) g)) (hs:sf)
    (h:∀ X:List (List PA)->St->Prop,(∀ s,Ex s->X [] s)->(∀ y rest s,Rn X y rest s->X (y :: rest) s)->X (ys.map enc) g):at_:=e ▸ ⟨hs,h⟩

theorem zc {b:Bool}{A B:Prop}{S S':Bool}{α:Type}{e:α->List PA}{K:List PA->Prop}{x y:α}(hs:cond b S S'=true) (hk:K (e (cond b x y))) (h1:S=true->K (e x)->A) (h2:S'=true->K (e y)->B):zdR b A B:=by
 cases b
 ·exact h2 hs hk
 ·exact h1 hs hk
theorem zt {b:Bool}{A B:Prop}{α:Type}{e:α->List PA}{K:List PA->Prop}{x y:α}(hk:K (e (cond b x y))) (h1:K (e x)->A) (h2:K (e y)->B):zdR b A B:=by
 cases b
 ·exact h2 hk
 ·exact h1 hk
theorem zLE {b:Bool}{s:Prop}{r1 r2:List PA}{K:List PA->Prop}(h:(COut.alt b s r1 s r2).wp K):s/\K (cond b r1 r2):=by
 cases b
 ·exact h.2 rfl
 ·exact h.1 rfl
theorem zl {at_:Prop}{g:St}(B:(St->Prop)->St->Prop) (e:at_ = ∀ X:St->Prop,(∀ s,B X s->X s)->X g) (h:∀ X:St->Prop,(∀ s,B X s->X s)->X g):at_:=e ▸ h
end Go.Pm
namespace Go.Proofs
open Go Go.Pm
set_option maxRecDepth 100000
set_option linter.unusedVariables false
attribute [local irreducible] Go.Pm.vcFun Go.Pm.vc Go.Pm.vcIter
abbrev Tab:=Nat->Int
def tg (n:Nat) (F:Tab) (k:Nat):Int:=zmR (zm (zh9 0 n F)) k
def ts (n:Nat) (F:Tab) (k:Nat) (vs:List Int):Tab:=zE1 k vs (zmR (zm (zh9 0 n F)))
abbrev enc_3 (x:Int):List PV:=[.int .i64 x]
def zOh : List PV → Int
  | [.int .i64 x]=>x
  | _=>default
def zar (g:Nat->List PV):Nat->Int:=λ i=>zOh (g i)
theorem zaV (f:Nat->Int):zar (λ i=>enc_3 (f i))=f:=rfl
structure Tie where
  From:Int
  To:Int
  Low:Int
  High:Int
deriving Inhabited
abbrev zai (x:Tie):List PV:=[.int .i64 x.From,.int .i64 x.To,.int .i64 x.Low,.int .i64 x.High]
def zLF : List PV → Tie
  | [.int .i64 x_From,.int .i64 x_To,.int .i64 x_Low,.int .i64 x_High]=>(⟨x_From,x_To,x_Low,x_High⟩:Tie)
  | _=>default
def zaq (g:Nat->List PV):Nat->Tie:=λ i=>zLF (g i)
theorem zat (f:Nat->Tie):zaq (λ i=>zai (f i))=f:=rfl
abbrev zLG (x:(Sl Tie)):List PV:=[.sl x.len 4 (λ i=>zai (x.get i))]
structure Net where
  Nodes:Int
  Ties:(Sl Tie)
deriving Inhabited
abbrev enc_24 (x:Net):List PV:=[.int .i64 x.Nodes,.sl x.Ties.len 4 (λ i=>zai (x.Ties.get i))]
def zLH : List PV → Net
  | [.int .i64 x_Nodes,.sl x_Ties_n _ x_Ties_g]=>(⟨x_Nodes,(⟨x_Ties_n,zaq x_Ties_g⟩:(Sl Tie))⟩:Net)
  | _=>default
def zdp (g:Nat->List PV):Nat->Net:=λ i=>zLH (g i)
theorem zdq (f:Nat->Net):zdp (λ i=>enc_24 (f i))=f:=rfl
abbrev enc_27 (x:(Sl Int)):List PV:=[.sl x.len 1 (λ i=>enc_3 (x.get i))]
def zLI : List PV → (Sl Int)
  | [.sl x_n _ x_g]=>(⟨x_n,zar x_g⟩:(Sl Int))
  | _=>default
def zi5 (g:Nat->List PV):Nat->(Sl Int):=λ i=>zLI (g i)
theorem zft (f:Nat->(Sl Int)):zi5 (λ i=>enc_27 (f i))=f:=rfl
structure Span where
  Low:Int
  High:Int
deriving Inhabited
abbrev zbc (x:Span):List PV:=[.int .i64 x.Low,.int .i64 x.High]
def zLJ : List PV → Span
  | [.int .i64 x_Low,.int .i64 x_High]=>(⟨x_Low,x_High⟩:Span)
  | _=>default
def zgj (g:Nat->List PV):Nat->Span:=λ i=>zLJ (g i)
theorem zfu (f:Nat->Span):zgj (λ i=>zbc (f i))=f:=rfl
structure Pulse where
  A:Int
  B:Int
  TimeA:Int
  TimeB:Int
  Flight:Span
  Jitter:Int
deriving Inhabited
structure Use where
  Tie:Int
  Back:Bool
deriving Inhabited
abbrev zaW (x:Use):List PV:=[.int .i64 x.Tie,.bool x.Back]
def zLK : List PV → Use
  | [.int .i64 x_Tie,.bool x_Back]=>(⟨x_Tie,x_Back⟩:Use)
  | _=>default
def zdr (g:Nat->List PV):Nat->Use:=λ i=>zLK (g i)
theorem zds (f:Nat->Use):zdr (λ i=>zaW (f i))=f:=rfl
structure Flash where
  A:Int
  B:Int
  Time:Int
  Flight:Int
  Wrong:Int
deriving Inhabited
abbrev zLL (x:(Sl Net)):List PV:=[.sl x.len 2 (λ i=>enc_24 (x.get i))]
abbrev zLM (x:(Sl (Sl Int))):List PV:=[.sl x.len 1 (λ i=>enc_27 (x.get i))]
structure web where
  Net:Net
  out:Mp
deriving Inhabited
abbrev zaF (x:web):List PV:=[.int .i64 x.Net.Nodes,.sl x.Net.Ties.len 4 (λ i=>zai (x.Net.Ties.get i)),.fm (false,1,false,[none]) x.out.n x.out.F]
structure far where
  length:Int
  uses:Int
deriving Inhabited
abbrev zcp (x:far):List PV:=[.int .i64 x.length,.int .i64 x.uses]
def zG9 : List PV → far
  | [.int .i64 x_length,.int .i64 x_uses]=>(⟨x_length,x_uses⟩:far)
  | _=>default
def zkU (g:Nat->List PV):Nat->far:=λ i=>zG9 (g i)
theorem zki (f:Nat->far):zkU (λ i=>zcp (f i))=f:=rfl
abbrev zau (x:Tab):List PV:=zh9 0 80 x
def zba (l:List PV):Tab:=zmR (zm l)
structure Step where
  From:Int
  To:Int
  Length:Int
  Use:Use
deriving Inhabited
structure step where
  Use:Use
  from_:Int
  to:Int
  length:Int
deriving Inhabited
abbrev zaD (x:step):List PV:=[.int .i64 x.Use.Tie,.bool x.Use.Back,.int .i64 x.from_,.int .i64 x.to,.int .i64 x.length]
def zHa : List PV → step
  | [.int .i64 x_Use_Tie,.bool x_Use_Back,.int .i64 x_from_,.int .i64 x_to,.int .i64 x_length]=>(⟨(⟨x_Use_Tie,x_Use_Back⟩:Use),x_from_,x_to,x_length⟩:step)
  | _=>default
def zix (g:Nat->List PV):Nat->step:=λ i=>zHa (g i)
theorem zeH (f:Nat->step):zix (λ i=>zaD (f i))=f:=rfl
structure tie where
  Tie:Tie
  index:Int
deriving Inhabited
abbrev zyF (x:tie):List PV:=[.int .i64 x.Tie.From,.int .i64 x.Tie.To,.int .i64 x.Tie.Low,.int .i64 x.Tie.High,.int .i64 x.index]
abbrev zyG (x:Tab):List PV:=zh9 0 40 x
abbrev zcX (x:(Sl Tab)):List PV:=[.sl x.len 80 (λ i=>zau (x.get i))]
abbrev tL (T:Tab) (i:Int):Int:=tg 80 T (0+i.toNat * 2+0)
abbrev tU (T:Tab) (i:Int):Int:=tg 80 T (0+i.toNat * 2+0+1)
abbrev tV (T:Tab) (i:Int):Int:=tg 80 T (0+i.toNat * 2+1)
abbrev nvr (x y:Int):Bool:=match (x == (1000000000000:Int)) with | true=>(match (y == (0:Int)) with | true=>true | false=>false) | false=>false
end Go.Proofs
namespace Go.Pm
open Go Go.Deep

theorem zDM (b o i j:Nat):((⟨b,o,none⟩:Addr).add i).add j=⟨b,o+i+j,none⟩:=by
 simp only[Addr.add]
 by_cases h1:i=0
 ·subst h1
  by_cases h2:j=0
  ·subst h2;rfl
  ·rw[if_neg h2];rfl
 ·rw [if_neg h1]
  by_cases h2:j=0
  ·subst h2;rfl
  ·rw[if_neg h2]
def H0 (w:World):Fz:=λ b=>(w.heap[b]?).map .fz
theorem hw_H0 (w:World):Hw (H0 w) w:=by
 intro b x h
 unfold H0 at h
 cases e:w.heap[b]? with
 | none=>rw[e] at h;cases h
 | some o=>rw[e] at h;cases h;exact⟨o,rfl,rfl⟩
def wfI (x:Int):Prop:=-9223372036854775808≤x/\x≤9223372036854775807
section
variable {H:Type}{en:TypeId×Value->H}{P:Program}{w:World}{sp:Nat->Bool}{held:Bool}
def Rd (H:Type) (en:TypeId×Value->H) (P:Program) (w:World) (sp:Nat->Bool) (held:Bool) (t:TypeId){α:Type}(enc:α->List PV) (wf:α->Prop):Prop :=
 ∀ (fuel:Nat) (cs:List Value) (x:DataW H×List MemPlace),DataW.trod en P w 0 sp held fuel t cs=some x->∃ a:α,RL (Rep (H0 w)) (enc a) cs/\wf a
theorem zLN {t:TypeId}(ht:P.underlying t=some (.int .i64)):Rd H en P w sp held t (λ x=>[.int .i64 x]) wfI:=by
 intro fuel cs x h
 obtain⟨n,rfl,_,hw⟩:=DataW.trod_int ht h
 refine⟨n,⟨.int _ _,trivial⟩,?_⟩
 simp only[Lit.wf,Bool.and_eq_true,decide_eq_true_eq] at hw
 exact⟨hw.1,hw.2⟩
theorem zqM {t : TypeId} {fs : Array Field} (ht : P.underlying t = some (.struct fs)) {fuel : Nat} {cs : List Value} {x : DataW H × List MemPlace} (h : DataW.trod en P w 0 sp held fuel t cs = some x) :
  cs.length=P.cellsOf t/\∀ (i:Nat) (f:Field),fs[i]? = some f->∃ n y,DataW.trod en P w 0 sp held n f.type ((cs.drop f.offset).take (P.cellsOf f.type))=some y:=by
 obtain⟨xs,n,_,_,hl,hx,hf⟩:=DataW.trod_struct ht h
 refine⟨hl,λ i f hi=>?_⟩
 have hlt:i < xs.length:=by rw[hx];exact (Array.getElem?_eq_some_iff.1 hi).1
 exact⟨n,xs[i],by rw[hf i f hi,List.getElem?_eq_getElem hlt]⟩
theorem zkV {t e : TypeId} {α : Type} [Inhabited α] {enc : α → List PV} {wf : α → Prop} {s : Nat} (ht : P.underlying t = some (.slice e)) (hc : P.cellsOf e = s) (hs : 0 < s) (hlen : ∀ a, (enc a).length = s)
    (hel:Rd H en P w sp held e enc wf):Rd H en P w sp held t (λ x:Sl α=>[.sl x.len s (λ i=>enc (x.get i))]) (λ x=>x.len≤9223372036854775807/\∀ i,i < x.len->wf (x.get i)):=by
  intro fuel cs x h
  rcases open_slice ht h with ⟨rfl,_⟩ | ⟨a,len,cap,m,n,D,Pl,rfl,_,hl,hm,hmm,_,hget⟩
  · exact⟨⟨0,default⟩,⟨.sl0 _ _,trivial⟩,Nat.zero_le _,λ i hi=>absurd hi (Nat.not_lt_zero i)⟩
  · by_cases h0 : len = 0
    · subst h0
      exact⟨⟨0,default⟩,⟨.sle _ _ _ _,trivial⟩,Nat.zero_le _,λ i hi=>absurd hi (Nat.not_lt_zero i)⟩
    · have hlm : len ≤ m := by rw [hmm]; split <;> omega
      rw[hc] at hget
      have hex:∀ i,i < len->∃ y:α,(∃ cs',w.cells? 0 (a.add (i * s)) s=some cs'/\RL (Rep (H0 w)) (enc y) cs')/\wf y:=by
        intro i hi
        obtain⟨cs',h1,h2⟩:=hget i (by omega)
        obtain⟨y,h3,h4⟩:=hel _ _ _ h2
        exact⟨y,⟨cs',h1,h3⟩,h4⟩
      have hch:∃ f:Nat->α,∀ i,i < len->(∃ cs',w.cells? 0 (a.add (i * s)) s=some cs'/\RL (Rep (H0 w)) (enc (f i)) cs')/\wf (f i):=by
        refine⟨λ i=>if hi:i < len then Classical.choose (hex i hi) else default,λ i hi=>?_⟩
        simp only[dif_pos hi]
        exact Classical.choose_spec (hex i hi)
      obtain⟨f,hf⟩:=hch
      -- the block
      have hcell:∀ i,i < len->∀ j,j < s->∃ cs',w.cells? 0 (a.add (i * s)) s=some cs'/\RL (Rep (H0 w)) (enc (f i)) cs'/\w.cell? ((a.add (i * s)).add j)=cs'[j]?/\cs'.length=s:=by
        intro i hi j hj
        obtain⟨⟨cs',h1,h2⟩,_⟩:=hf i hi
        obtain⟨_,h3,h4⟩:=World.cells?_some h1
        exact⟨cs',h1,h2,h4 j hj,h3⟩
      obtain⟨cs0,_,_,hc0,hl0⟩:=hcell 0 (by omega) 0 hs
      have ha0:w.cell? a=cs0[0]?:=by simpa [Addr.add] using hc0
      rw[List.getElem?_eq_getElem (by omega)] at ha0
      obtain⟨C,ty,fr,hblk,hspot⟩:∃ C ty fr,w.heap[a.block]? = some (.cells C ty fr)/\a.spot=none:=by
        unfold World.cell? at ha0
        split at ha0
        · rename_i C ty fr hb
          refine⟨C,ty,fr,hb,?_⟩
          cases hsp:a.spot with
          | none=>rfl
          | some k=>rw[hsp] at ha0;simp at ha0
        · cases ha0
      have ea:a=⟨a.block,a.off,none⟩:=by rw[← hspot]
      have hat:∀ i j,i < len->j < s->∃ cs',RL (Rep (H0 w)) (enc (f i)) cs'/\C[a.off+i * s+j]? = cs'[j]?/\cs'.length=s:=by
        intro i j hi hj
        obtain⟨cs',_,h2,h3,h4⟩:=hcell i hi j hj
        refine⟨cs',h2,?_,h4⟩
        rw[← h3]
        have e2:(a.add (i * s)).add j=⟨a.block,a.off+i * s+j,none⟩:=(congrArg (λ z:Addr=>(z.add (i * s)).add j) ea).trans (zDM _ _ _ _)
        rw[e2]
        simp[World.cell?,hblk]
      refine⟨⟨len,f⟩,⟨?_,trivial⟩,by simp only[maxLen] at hm;show len≤_;omega,λ i hi=>(hf i hi).2⟩
      rw[ea]
      refine .sl len s _ a.block a.off cap C ty fr (λ i j=>C.getD (a.off+i * s+j) undef) (by simp[H0,hblk]) hl (λ i _=>hlen _) ?_ ?_
      · intro i j x hi hx
        have hj:j < s:=by have:=(List.getElem?_eq_some_iff.1 hx).1;rw[hlen] at this;exact this
        obtain⟨cs',h1,h2,h3⟩:=hat i j hi hj
        rw[Array.getD_eq_getD_getElem?,h2,List.getElem?_eq_getElem (by omega)]
        rfl
      · intro i j x hi hx
        have hj:j < s:=by have:=(List.getElem?_eq_some_iff.1 hx).1;rw[hlen] at this;exact this
        obtain⟨cs',h1,h2,h3⟩:=hat i j hi hj
        obtain⟨v,hv,hr⟩:=h1.get j x hx
        rw[Array.getD_eq_getD_getElem?,h2,hv]
        exact hr
theorem zef {α:Type}(l:List α) (o s:Nat):l.drop o=(l.drop o).take s ++ l.drop (o+s):=by
 rw[← List.drop_drop]
 exact (List.take_append_drop s (l.drop o)).symm
def zOi : TypeDesc → Bool
  | .struct _=>false
  | .array _ _=>false
  | _=>true
theorem okWide_one {t:TypeId}{d:TypeDesc}{r:Reach}{base:Nat}{v:Value}(ht:P.underlying t=some d) (hd:zOi d=true) (h:Value.okWide P w r base t v):v.cells.toList=[v]:=by
 unfold Value.okWide at h
 rw[ht] at h
 cases v with
 | agg cs =>
  exfalso
  cases d <;> first | (cases hd;done) | (simp only[Cell.okWide,Cell.ok,ht] at h)
 | _=>rfl
theorem pa_one {h:Fz}{p:PV}{v:Value}(hv:v.cells.toList=[v]) (r:RL (Rep h) [p] v.cells.toList):paR h (.one p) v:=by
 rw[hv] at r
 exact r.1
theorem below_H0 {w':World}(b:Bel (H0 w) w.heap.size w w'):Go.RowKit.Below w.heap.size w w' :=
 ⟨b.os,b.tape,b.output,b.size,λ k hk=>b.block k hk λ F e=>by
  unfold H0 at e
  cases hb:w.heap[k]? <;> rw[hb] at e <;> cases e⟩
end
end Go.Pm
namespace Go.Proofs
open Go Go.Pm
set_option maxRecDepth 100000
set_option linter.unusedVariables false
attribute [local irreducible] Go.Pm.vcFun Go.Pm.vc Go.Pm.vcIter
theorem C_3:Tryd.prog.cellsOf 3=1:=by kernel_rfl
theorem zQj:Tryd.prog.cellsOf 22=1:=by kernel_rfl
theorem zPT:Tryd.prog.cellsOf 24=2:=by kernel_rfl
theorem zQk:Tryd.prog.cellsOf 27=1:=by kernel_rfl
theorem zPU:Tryd.prog.cellsOf 40=4:=by kernel_rfl
abbrev zHb (x:Int):Prop:=wfI x
theorem zKW {H:Type}{en:TypeId×Value->H}{w:World}{sp:Nat->Bool}{held:Bool} : Rd H en Tryd.prog w sp held 3 enc_3 zHb:=zLN Tryd.underlying3
def zLO (x:Tie):Prop:=zHb x.From/\zHb x.To/\zHb x.Low/\zHb x.High
theorem zOj {H:Type}{en:TypeId×Value->H}{w:World}{sp:Nat->Bool}{held:Bool} : Rd H en Tryd.prog w sp held 40 zai zLO:=by
  intro fuel cs x h
  obtain⟨hl,hf⟩:=zqM Tryd.underlying40 h
  rw[zPU] at hl
  obtain⟨n0,y0,g0⟩:=hf 0 _ rfl
  have g0:DataW.trod en Tryd.prog w 0 sp held n0 3 ((cs.drop 0).take (Tryd.prog.cellsOf 3))=some y0:=g0
  rw[C_3] at g0
  obtain⟨a0,r0,w0⟩:=zKW _ _ _ g0
  obtain⟨n1,y1,g1⟩:=hf 1 _ rfl
  have g1:DataW.trod en Tryd.prog w 0 sp held n1 3 ((cs.drop 1).take (Tryd.prog.cellsOf 3))=some y1:=g1
  rw[C_3] at g1
  obtain⟨a1,r1,w1⟩:=zKW _ _ _ g1
  obtain⟨n2,y2,g2⟩:=hf 2 _ rfl
  have g2:DataW.trod en Tryd.prog w 0 sp held n2 3 ((cs.drop 2).take (Tryd.prog.cellsOf 3))=some y2:=g2
  rw[C_3] at g2
  obtain⟨a2,r2,w2⟩:=zKW _ _ _ g2
  obtain⟨n3,y3,g3⟩:=hf 3 _ rfl
  have g3:DataW.trod en Tryd.prog w 0 sp held n3 3 ((cs.drop 3).take (Tryd.prog.cellsOf 3))=some y3:=g3
  rw[C_3] at g3
  obtain⟨a3,r3,w3⟩:=zKW _ _ _ g3
  have z:cs.drop 4=[]:=List.drop_eq_nil_of_le (by omega)
  have R:=(r0.append (r1.append (r2.append (r3.append (show RL (Rep (H0 w)) [] (cs.drop 4) by rw[z];exact zes)))))
  rw[← (show cs.drop 3=(cs.drop 3).take 1 ++ cs.drop 4 from zef cs 3 1)] at R
  rw[← (show cs.drop 2=(cs.drop 2).take 1 ++ cs.drop 3 from zef cs 2 1)] at R
  rw[← (show cs.drop 1=(cs.drop 1).take 1 ++ cs.drop 2 from zef cs 1 1)] at R
  rw[← (show cs.drop 0=(cs.drop 0).take 1 ++ cs.drop 1 from zef cs 0 1)] at R
  exact⟨⟨a0,a1,a2,a3⟩,R,⟨w0,w1,w2,w3⟩⟩
def zLP (x:(Sl Tie)):Prop:=x.len≤9223372036854775807/\∀ i,i < x.len->zLO (x.get i)
theorem zOk {H:Type}{en:TypeId×Value->H}{w:World}{sp:Nat->Bool}{held:Bool} : Rd H en Tryd.prog w sp held 22 zLG zLP:=zkV Tryd.underlying22 zPU (by decide) (λ _=>rfl) zOj
def zLQ (x:Net):Prop:=zHb x.Nodes/\zLP x.Ties
theorem zOl {H:Type}{en:TypeId×Value->H}{w:World}{sp:Nat->Bool}{held:Bool} : Rd H en Tryd.prog w sp held 24 enc_24 zLQ:=by
  intro fuel cs x h
  obtain⟨hl,hf⟩:=zqM Tryd.underlying24 h
  rw[zPT] at hl
  obtain⟨n0,y0,g0⟩:=hf 0 _ rfl
  have g0:DataW.trod en Tryd.prog w 0 sp held n0 3 ((cs.drop 0).take (Tryd.prog.cellsOf 3))=some y0:=g0
  rw[C_3] at g0
  obtain⟨a0,r0,w0⟩:=zKW _ _ _ g0
  obtain⟨n1,y1,g1⟩:=hf 1 _ rfl
  have g1:DataW.trod en Tryd.prog w 0 sp held n1 22 ((cs.drop 1).take (Tryd.prog.cellsOf 22))=some y1:=g1
  rw[zQj] at g1
  obtain⟨a1,r1,w1⟩:=zOk _ _ _ g1
  have z:cs.drop 2=[]:=List.drop_eq_nil_of_le (by omega)
  have R:=(r0.append (r1.append (show RL (Rep (H0 w)) [] (cs.drop 2) by rw[z];exact zes)))
  rw[← (show cs.drop 1=(cs.drop 1).take 1 ++ cs.drop 2 from zef cs 1 1)] at R
  rw[← (show cs.drop 0=(cs.drop 0).take 1 ++ cs.drop 1 from zef cs 0 1)] at R
  exact⟨⟨a0,a1⟩,R,⟨w0,w1⟩⟩
def wf_27 (x:(Sl Int)):Prop:=x.len≤9223372036854775807/\∀ i,i < x.len->zHb (x.get i)
theorem rd_27 {H:Type}{en:TypeId×Value->H}{w:World}{sp:Nat->Bool}{held:Bool} : Rd H en Tryd.prog w sp held 27 enc_27 wf_27:=zkV Tryd.underlying27 C_3 (by decide) (λ _=>rfl) zKW
def wf_89 (x:(Sl Net)):Prop:=x.len≤9223372036854775807/\∀ i,i < x.len->zLQ (x.get i)
theorem rd_89 {H:Type}{en:TypeId×Value->H}{w:World}{sp:Nat->Bool}{held:Bool} : Rd H en Tryd.prog w sp held 89 zLL wf_89:=zkV Tryd.underlying89 zPT (by decide) (λ _=>rfl) zOl
def wf_92 (x:(Sl (Sl Int))):Prop:=x.len≤9223372036854775807/\∀ i,i < x.len->wf_27 (x.get i)
theorem rd_92 {H:Type}{en:TypeId×Value->H}{w:World}{sp:Nat->Bool}{held:Bool} : Rd H en Tryd.prog w sp held 92 zLM wf_92:=zkV Tryd.underlying92 zQk (by decide) (λ _=>rfl) rd_27
end Go.Proofs
namespace Go.Proofs
open Go Go.Pm
set_option maxRecDepth 100000
set_option linter.unusedVariables false
attribute [local irreducible] Go.Pm.vcFun Go.Pm.vc Go.Pm.vcIter
abbrev T81:Tabs:=Tabs.nil
theorem zOm:TabsOk Tryd.prog T81:=TabsOk.nil
abbrev G81:Ctrs:=csm T81 (λ _ _=>[]) (λ _=>false)
def zLR:Ann:=⟨15,[(0,zK [0,1,2] []),(1,zK [6] [])],
 [],
 [],
 [],[]⟩
abbrev R81:=Bool
abbrev e81 (r:R81):List PA:=[.one (.bool r)]
section
variable {K:List PA->Prop}{n:Int}{low:Int}{high:Int}
def s81 (n:Int) (low:Int) (high:Int):Bool :=
  (cond (decide (n ≥ low))
 (decide (n≤high))
 false)
end
theorem q81 (n:Int) (low:Int) (high:Int) (K:List PA->Prop) (hk:K (e81 (s81 n low high))):vcFun Tryd.prog G81 zLR 81 [.one (.int .i64 n),.one (.int .i64 low),.one (.int .i64 high)] K :=
  zaR (by kernel_rfl) (zt hk (λ hk=>hk) (λ hk=>hk))
def zsd : List PA → COut
  | [.one (.int .i64 a0),.one (.int .i64 a1),.one (.int .i64 a2)]=>.tot [.one (.bool (s81 a0 a1 a2))]
  | _=>.no
theorem zLS:zaw Tryd.prog 81:=⟨_,rfl,rfl,by kernel_rfl⟩
theorem zLT:Ok Tryd.prog 81 zsd:=zbv zOm zLS λ args K h=>by
  unfold zsd at h
  split at h
  · rename_i a0 a1 a2
    have hk:=h
    exact⟨(λ _ _=>[]),(λ _=>false),zLR,q81 a0 a1 a2 K hk⟩
  · exact h.elim
abbrev T78:Tabs:=(Tabs.nil.addF 81 zsd)
theorem zOn:TabsOk Tryd.prog T78:=(TabsOk.nil.addF zLT)
abbrev G78:Ctrs:=csm T78 (λ _ _=>[]) (λ _=>false)
def zHc:Ann:=⟨55,[(0,zK [1,2] [2]),(1,zK [1,2,5] [2]),(2,zK [1,2,5,6] [2]),(3,zK [4] [])],
 [],
 [(2,zK [1,2,5] [2]),(3,zK [1,2,5,6] [2])],
 [],[]⟩
abbrev R78:=Bool
abbrev e78 (r:R78):List PA:=[.one (.bool r)]
@[irreducible] def z78:=ptF Tryd.prog G78 zHc Tryd.f78
section
variable {K:List PA->Prop}{t:Tie}{nodes:Int}{zog:Bool}{zuX:Bool}
def zl2 (t:Tie) (nodes:Int) (zog:Bool) (zuX:Bool):Bool :=
  (cond (s81 t.From (0:Int) (w64 (nodes - (1:Int))))
 (cond (s81 t.To (0:Int) (w64 (nodes - (1:Int))))
 (cond (t.From != t.To)
 (cond zog
 (cond zuX
 (decide (t.Low≤t.High))
 false)
 false)
 false)
 false)
 false)
theorem zyH (hk:K (e78 (zl2 t nodes zog zuX))):z78 K [1,1,1] [] ⟨[(1,zI nodes),(2,zp 2 0),(5,zB zog),(6,zB zuX)],[(2,.box 40 (zm (zai t)))],[]⟩:=zaR (by kernel_rfl) (zt hk (λ hk=>(zt hk (λ hk=>(zt hk (λ hk=>(zt hk (λ hk=>(zt hk (λ hk=>hk) (λ hk=>hk))) (λ hk=>hk))) (λ hk=>hk))) (λ hk=>hk))) (λ hk=>hk))
def zl3 (t:Tie) (nodes:Int) (zog:Bool):Bool :=
  (cond (t.High == (1000000000000:Int))
 (zl2 t nodes zog true)
 (zl2 t nodes zog (s81 t.High (-1000000000:Int) (1000000000:Int))))
theorem zyI (hk:K (e78 (zl3 t nodes zog))):z78 K [1,1] [] ⟨[(1,zI nodes),(2,zp 2 0),(5,zB zog)],[(2,.box 40 (zm (zai t)))],[]⟩:=zaR (by kernel_rfl) (zt hk (λ hk=>(zyH hk)) (λ hk=>(zyH hk)))
def s78 (t:Tie) (nodes:Int):Bool :=
  (cond (t.Low == (-1000000000000:Int))
 (zl3 t nodes true)
 (zl3 t nodes (s81 t.Low (-1000000000:Int) (1000000000:Int))))
end
theorem q78 (t:Tie) (nodes:Int) (K:List PA->Prop) (hk:K (e78 (s78 t nodes))):vcFun Tryd.prog G78 zHc 78 [.agg (zai t),.one (.int .i64 nodes)] K :=
  zaR (by kernel_rfl) (zt hk (λ hk=>(zyI hk)) (λ hk=>(zyI hk)))
def zHd : List PA → COut
  | [.agg [.int .i64 zgk,.int .i64 zqN,.int .i64 zkj,.int .i64 zgl],.one (.int .i64 a1)]=>.tot [.one (.bool (s78 (⟨zgk,zqN,zkj,zgl⟩:Tie) a1))]
  | _=>.no
theorem zLU:zaw Tryd.prog 78:=⟨_,rfl,rfl,by kernel_rfl⟩
theorem zQl:Ok Tryd.prog 78 zHd:=zbv zOn zLU λ args K h=>by
  unfold zHd at h
  split at h
  · rename_i zgk zqN zkj zgl a1
    have hk:=h
    exact⟨(λ _ _=>[]),(λ _=>false),zHc,q78 (⟨zgk,zqN,zkj,zgl⟩:Tie) a1 K hk⟩
  · exact h.elim
abbrev T67:Tabs:=((Tabs.nil.addF 78 zHd).addF 81 zsd)
theorem zOo:TabsOk Tryd.prog T67:=((TabsOk.nil.addF zQl).addF zLT)
abbrev G67:Ctrs:=csm T67 (λ _ _=>[]) (λ _=>false)
def zDN:Ann:=⟨27,[(0,zK [1] [1]),(1,zK [1,6,7,8] [1]),(2,zK [1,6,7,8,9] [1]),(3,zK [1,4,6,7,8] [1,4]),(4,zK [1,6,7,8,16] [1]),(5,zK [2] []),(6,zK [1,6,7,8] [1]),(7,zK [2] [])],
 [(2,zK [1,6,7,8] [1])],
 [(5,zK [1,6,7,8,16] [1])],
 [],[]⟩
abbrev R67:=Bool
abbrev e67 (r:R67):List PA:=[.one (.bool r)]
@[irreducible] def z67:=ptF Tryd.prog G67 zDN Tryd.f67
def zFo (n:Net) (zdZ:Int):St:=⟨[(1,zp 1 0),(6,zS zai 4 n.Ties),(7,zI (n.Ties.len:Int)),(8,zI zdZ)],[(1,.box 24 (zm (enc_24 n)))],[]⟩
abbrev zHe (K:List PA->Prop) (n:Net) (X:St->Prop) (P:Int->Bool) (S:Int->Bool):Prop:=∀ ⦃zdZ:Int⦄,P zdZ=true->K (e67 (S zdZ))->X (zFo n zdZ)
section
variable {K:List PA->Prop}{n:Net}{zdZ:Int}{X0:St->Prop}{P0:Int->Bool}{S0:Int->Bool}{zHf:Int}{zqO:Bool}
def zse (S0:Int->Bool) (n:Net) (zHf:Int) (zqO:Bool):Bool :=
  (cond zqO
 false
 (S0 (w64 (zHf+(1:Int)))))
def zsf (P0:Int->Bool) (n:Net) (zHf:Int) (zqO:Bool):Bool :=
  (cond zqO
 true
 (P0 (w64 (zHf+(1:Int)))))
theorem zHg (hX0:zHe K n X0 P0 S0) (hs:zsf P0 n zHf zqO=true) (hk:K (e67 (zse S0 n zHf zqO))):z67 K [1,0,1,0,0,1,1,0,0,1,1] [X0] ⟨[(1,zp 1 0),(6,zS zai 4 n.Ties),(7,zI (n.Ties.len:Int)),(8,zI zHf),(16,zB zqO)],[(1,.box 24 (zm (enc_24 n)))],[]⟩:=zaR (by kernel_rfl) (zc hs hk (λ hs hk=>hk) (λ hs hk=>(hX0 hs hk)))
def zi6 (n:Net) (S0:Int->Bool) (zdZ:Int):Bool :=
  (cond (decide (zdZ < (n.Ties.len : Int)))
 (zse S0 n zdZ (!(s78 (n.Ties.get zdZ.toNat) n.Nodes)))
 (cond (s81 n.Nodes (1:Int) (40:Int))
 (decide ((n.Ties.len:Int)≤(200:Int)))
 false))
def zi7 (n:Net) (P0:Int->Bool) (zdZ:Int):Bool :=
  (cond (decide (zdZ < (n.Ties.len : Int)))
 (decide ((0≤zdZ/\zdZ < (n.Ties.len:Int))) &&
 (zsf P0 n zdZ (!(s78 (n.Ties.get zdZ.toNat) n.Nodes))))
 true)
def zi8 (n:Net):Nat->Int->Bool:=lpO (λ _=>default) (zi6 n)
def zi9 (n:Net):Nat->Int->Bool:=lpO (λ _=>false) (zi7 n)
def zyJ (n:Net) (zdZ:Int):Bool:=zi8 n Fuel zdZ
def zyK (n:Net) (zdZ:Int):Bool:=zi9 n Fuel zdZ
theorem zHh (hs:zyK n zdZ=true) (hk:K (e67 (zyJ n zdZ))):z67 K [1,0,1,0] [] (zFo n zdZ) :=
  zl (λ X=>z67 K [1,0,1,0,0] [X]) (by kernel_rfl) λ X0 hX =>
  (show ∀ k, zHe K n X0 (zi9 n k) (zi8 n k) from zdU _ _ (zi7 n) (zi6 n) (zHe K n X0)
 (by intro _ hs;exact absurd hs Bool.false_ne_true)
 (by intro P0 S0 hX0 zdZ hs hk;exact hX _ (zaR (by kernel_rfl) (zc hs hk (λ hs hk=>(zaL hs λ hc hs=>And.intro hc (zHg hX0 hs hk))) (λ hs hk=>(zt hk (λ hk=>hk) (λ hk=>hk))))))) _ hs hk
def s67 (n:Net):Bool :=
  (zyJ n (0:Int))
def p67 (n:Net):Bool :=
  (zyK n (0:Int))
end
theorem q67 (n:Net) (K:List PA->Prop) (hs:p67 n=true) (hk:K (e67 (s67 n))):vcFun Tryd.prog G67 zDN 67 [.agg (enc_24 n)] K :=
  zaR (by kernel_rfl) (zHh hs hk)
def zsg : List PA → COut
  | [.agg [.int .i64 zal,.sl zak zaI zaj]]=>.det (IsE zai 4 zaI zaj/\p67 (⟨zal,(⟨zak,zaq zaj⟩:(Sl Tie))⟩:Net)=true) [.one (.bool (s67 (⟨zal,(⟨zak,zaq zaj⟩:(Sl Tie))⟩:Net)))]
  | [.agg [.int .i64 zal,.nils]]=>.det (p67 (⟨zal,(⟨0,λ _=>default⟩:(Sl Tie))⟩:Net)=true) [.one (.bool (s67 (⟨zal,(⟨0,λ _=>default⟩:(Sl Tie))⟩:Net)))]
  | _=>.no
theorem zLV:zaw Tryd.prog 67:=⟨_,rfl,rfl,by kernel_rfl⟩
theorem zLW:Ok Tryd.prog 67 zsg:=zgi zOo zLV λ args K h=>by
  unfold zsg at h
  split at h
  · rename_i zal zak zaI zaj
    obtain⟨⟨⟨rfl,zaB,rfl⟩,hs⟩,hk⟩:=h
    try rw[zat zaB] at hs
    try rw[zat zaB] at hk
    exact⟨_,zfd zfW _,(λ _ _=>[]),(λ _=>false),zDN,q67 (⟨zal,(⟨zak,zaB⟩:(Sl Tie))⟩:Net) (Wk K) hs (zfX hk)⟩
  · rename_i zal
    obtain⟨hs,hk⟩:=h
    exact⟨_,(zb8 (.agg (zb8 (.rfl _) (zb8 (.nil _ _) zes))) zes),(λ _ _=>[]),(λ _=>false),zDN,q67 (⟨zal,(⟨0,λ _=>default⟩:(Sl Tie))⟩:Net) (Wk K) hs (zfX hk)⟩
  · exact h.elim
abbrev T93:Tabs:=Tabs.nil
theorem zOp:TabsOk Tryd.prog T93:=TabsOk.nil
abbrev G93:Ctrs:=csm T93 (λ _ _=>[]) (λ _=>false)
def zHi:Ann:=⟨4,[(0,zK [1] [1]),(1,zK [2] [])],
 [],
 [],
 [],[]⟩
theorem zHj (w : web) (K : List PA → Prop) :
  vcFun Tryd.prog G93 zHi 93 [.one (.fp (zaF w) 0)] K =
  (K [.one (.fn 110 [] [.fp [.fp (zaF w) 0] 0])]):=by kernel_rfl
theorem q93 (w:web) (K:List PA->Prop) (hk:K [.one (.fn 110 [] [.fp [.fp (zaF w) 0] 0])]):vcFun Tryd.prog G93 zHi 93 [.one (.fp (zaF w) 0)] K:=zaR (zHj w K) hk
def zqP : List PA → COut
  | [.one (.fp [.int .i64 zas,.sl zam zaK zan,.fm zbw zaN zaO] 0)]=>.det (IsE zai 4 zaK zan/\zbw=(false,1,false,[none])) [.one (.fn 110 [] [.fp [.fp (zaF (⟨(⟨(⟨zas,(⟨zam,zaq zan⟩:(Sl Tie))⟩:Net),(⟨zaN,zaO⟩:Mp)⟩:web).Net,((⟨(⟨zas,(⟨zam,zaq zan⟩:(Sl Tie))⟩:Net),(⟨zaN,zaO⟩:Mp)⟩:web).out)⟩:web)) 0] 0])]
  | _=>.no
theorem zLX:zaw Tryd.prog 93:=⟨_,rfl,rfl,by kernel_rfl⟩
theorem zKX:Ok Tryd.prog 93 zqP:=zbv zOp zLX λ args K h=>by
  unfold zqP at h
  split at h
  · rename_i zas zam zaK zan zbw zaN zaO
    obtain⟨⟨⟨rfl,zaC,rfl⟩,rfl⟩,hk⟩:=h
    try rw[zat zaC] at hk
    exact⟨λ _ _=>[],λ _=>false,zHi,q93 (⟨(⟨zas,(⟨zam,zaC⟩:(Sl Tie))⟩:Net),(⟨zaN,zaO⟩:Mp)⟩:web) K hk⟩
  · exact h.elim
abbrev T94:Tabs:=Tabs.nil
theorem zOq:TabsOk Tryd.prog T94:=TabsOk.nil
abbrev G94:Ctrs:=csm T94 (λ _ _=>[]) (λ _=>false)
def zLY:Ann:=⟨21,[(0,zK [1,2] [1,2]),(1,zK [2,3] [2])],
 [],
 [],
 [],[]⟩
abbrev R94:=(step×Bool)
abbrev e94 (r:R94):List PA:=[.agg [.int .i64 r.1.Use.Tie,.bool r.1.Use.Back,.int .i64 r.1.from_,.int .i64 r.1.to,.int .i64 r.1.length],.one (.bool r.2)]
section
variable {K:List PA->Prop}{t:tie}
def s94 (t:tie):(step×Bool) :=
  ((⟨(⟨t.index,false⟩:Use),t.Tie.From,t.Tie.To,t.Tie.High⟩:step),(t.Tie.High != (1000000000000:Int)))
end
theorem q94 (t:tie) (K:List PA->Prop) (hk:K (e94 (s94 t))):vcFun Tryd.prog G94 zLY 94 [.agg (zyF t)] K :=
  zaR (by kernel_rfl) hk
def zHk : List PA → COut
  | [.agg [.int .i64 zbe,.int .i64 zbI,.int .i64 zbr,.int .i64 zbf,.int .i64 zbZ]]=>.tot [.agg [.int .i64 (((s94 (⟨(⟨zbe,zbI,zbr,zbf⟩:Tie),zbZ⟩:tie)).1).Use.Tie),.bool (((s94 (⟨(⟨zbe,zbI,zbr,zbf⟩:Tie),zbZ⟩:tie)).1).Use.Back),.int .i64 (((s94 (⟨(⟨zbe,zbI,zbr,zbf⟩:Tie),zbZ⟩:tie)).1).from_),.int .i64 (((s94 (⟨(⟨zbe,zbI,zbr,zbf⟩:Tie),zbZ⟩:tie)).1).to),.int .i64 (((s94 (⟨(⟨zbe,zbI,zbr,zbf⟩:Tie),zbZ⟩:tie)).1).length)],.one (.bool ((s94 (⟨(⟨zbe,zbI,zbr,zbf⟩:Tie),zbZ⟩:tie)).2))]
  | _=>.no
theorem zLZ:zaw Tryd.prog 94:=⟨_,rfl,rfl,by kernel_rfl⟩
theorem zQm:Ok Tryd.prog 94 zHk:=zbv zOq zLZ λ args K h=>by
  unfold zHk at h
  split at h
  · rename_i zbe zbI zbr zbf zbZ
    have hk:=h
    exact⟨(λ _ _=>[]),(λ _=>false),zLY,q94 (⟨(⟨zbe,zbI,zbr,zbf⟩:Tie),zbZ⟩:tie) K hk⟩
  · exact h.elim
abbrev T95:Tabs:=Tabs.nil
theorem zOr:TabsOk Tryd.prog T95:=TabsOk.nil
abbrev G95:Ctrs:=csm T95 (λ _ _=>[]) (λ _=>false)
def zL0:Ann:=⟨22,[(0,zK [1,2] [1,2]),(1,zK [2,3] [2])],
 [],
 [],
 [],[]⟩
abbrev R95:=(step×Bool)
abbrev e95 (r:R95):List PA:=[.agg [.int .i64 r.1.Use.Tie,.bool r.1.Use.Back,.int .i64 r.1.from_,.int .i64 r.1.to,.int .i64 r.1.length],.one (.bool r.2)]
section
variable {K:List PA->Prop}{t:tie}
def s95 (t:tie):(step×Bool) :=
  ((⟨(⟨t.index,true⟩:Use),t.Tie.To,t.Tie.From,(w64 (0 - t.Tie.Low))⟩:step),(t.Tie.Low != (-1000000000000:Int)))
end
theorem q95 (t:tie) (K:List PA->Prop) (hk:K (e95 (s95 t))):vcFun Tryd.prog G95 zL0 95 [.agg (zyF t)] K :=
  zaR (by kernel_rfl) hk
def zHl : List PA → COut
  | [.agg [.int .i64 zbe,.int .i64 zbI,.int .i64 zbr,.int .i64 zbf,.int .i64 zbZ]]=>.tot [.agg [.int .i64 (((s95 (⟨(⟨zbe,zbI,zbr,zbf⟩:Tie),zbZ⟩:tie)).1).Use.Tie),.bool (((s95 (⟨(⟨zbe,zbI,zbr,zbf⟩:Tie),zbZ⟩:tie)).1).Use.Back),.int .i64 (((s95 (⟨(⟨zbe,zbI,zbr,zbf⟩:Tie),zbZ⟩:tie)).1).from_),.int .i64 (((s95 (⟨(⟨zbe,zbI,zbr,zbf⟩:Tie),zbZ⟩:tie)).1).to),.int .i64 (((s95 (⟨(⟨zbe,zbI,zbr,zbf⟩:Tie),zbZ⟩:tie)).1).length)],.one (.bool ((s95 (⟨(⟨zbe,zbI,zbr,zbf⟩:Tie),zbZ⟩:tie)).2))]
  | _=>.no
theorem zL1:zaw Tryd.prog 95:=⟨_,rfl,rfl,by kernel_rfl⟩
theorem zQn:Ok Tryd.prog 95 zHl:=zbv zOr zL1 λ args K h=>by
  unfold zHl at h
  split at h
  · rename_i zbe zbI zbr zbf zbZ
    have hk:=h
    exact⟨(λ _ _=>[]),(λ _=>false),zL0,q95 (⟨(⟨zbe,zbI,zbr,zbf⟩:Tie),zbZ⟩:tie) K hk⟩
  · exact h.elim
abbrev zPV:Tabs:=((Tabs.nil.addF 94 zHk).addF 95 zHl)
theorem zL2:TabsOk Tryd.prog zPV:=((TabsOk.nil.addF zQm).addF zQn)
abbrev zL3:Ctrs:=csm zPV (λ _ _=>[]) (λ _=>false)
def zkk:Ann:=⟨52,[(0,zK [0,1,14,15,16] []),(1,zK [0,1,14,15,16,17] []),(2,zK [0,1,3,4,14,15,16] [4]),(3,zK [0,1,3,4,14,15,16,26] [4]),(4,zK [0,1,5,14,15,16] [5]),(5,zK [0,1,14,15,16,34,35] []),(6,zK [0,1,14,15,16,34,35,36] []),(7,zK [0,1,7,14,15,16,34,35] []),(8,zK [0,1,8,9,14,15,16,34,35] [8]),(9,zK [0,1,14,15,16,34,35,49] []),(10,zK [0,1,14,15,16,34,35] []),(11,zK [0,1,14,15,16] [])],
 [(1,zK [0,1,14,15,16] [])],
 [],
 [(6,3,zK [0,1,14,15,16,34,35] [])],[9]⟩
def zem (l:Nat) (a:web) (zaJ:Int):St:=⟨[(0,.one (.c (.p (.yl l)))),(1,.one (.c (.p (.fp [.fp (zaF a) 0] 0)))),(14,.one (.c (.p (.sl a.Net.Ties.len 4 (λ i=>zai (a.Net.Ties.get i)))))),(15,.one (.c (.p (.int .i64 (a.Net.Ties.len:Int))))),(16,.one (.c (.p (.int .i64 zaJ))))],[],[]⟩
def ziy (l:Nat) (ys:List (List PA)) (a:web) (zaJ:Int):Prop:=vcY Tryd.prog zL3 zkk l (cdF Tryd.f110 [1,0]) (zp0 0 zCZ) ys false (zem l a zaJ)
theorem zDO (l : Nat) (a : web) (ys : List (List PA)) :
  vcIter Tryd.prog zL3 zkk 110 l [.one (.fp [.fp (zaF a) 0] 0)] ys =
  (ziy l ys a (0:Int)):=by kernel_rfl
def znm (l:Nat) (X0:List (List PA)->Bool->St->Prop) (ys:List (List PA)) (a:web) (zaJ:Int):Prop :=
  (zdR (decide (zaJ < (a.Net.Ties.len : Int)))
 (((0≤zaJ/\zaJ < (a.Net.Ties.len:Int))) /\
 (zdR ((zwe (a.out.F [zaJ]) 0) != 0)
 (X0 ys false (zem l a (w64 (zaJ+(1:Int)))))
 (zdR ((s94 (⟨(a.Net.Ties.get zaJ.toNat), zaJ⟩ : tie)).2)
 (l=l/\∃ r1,ys=[.agg [.int .i64 (((s94 (⟨(a.Net.Ties.get zaJ.toNat),zaJ⟩:tie)).1).Use.Tie),.bool (((s94 (⟨(a.Net.Ties.get zaJ.toNat),zaJ⟩:tie)).1).Use.Back),.int .i64 (((s94 (⟨(a.Net.Ties.get zaJ.toNat),zaJ⟩:tie)).1).from_),.int .i64 (((s94 (⟨(a.Net.Ties.get zaJ.toNat),zaJ⟩:tie)).1).to),.int .i64 (((s94 (⟨(a.Net.Ties.get zaJ.toNat),zaJ⟩:tie)).1).length)]] :: r1 /\
 (zdR ((s95 (⟨(a.Net.Ties.get zaJ.toNat), zaJ⟩ : tie)).2)
 (l=l/\∃ r2,r1=[.agg [.int .i64 (((s95 (⟨(a.Net.Ties.get zaJ.toNat),zaJ⟩:tie)).1).Use.Tie),.bool (((s95 (⟨(a.Net.Ties.get zaJ.toNat),zaJ⟩:tie)).1).Use.Back),.int .i64 (((s95 (⟨(a.Net.Ties.get zaJ.toNat),zaJ⟩:tie)).1).from_),.int .i64 (((s95 (⟨(a.Net.Ties.get zaJ.toNat),zaJ⟩:tie)).1).to),.int .i64 (((s95 (⟨(a.Net.Ties.get zaJ.toNat),zaJ⟩:tie)).1).length)]] :: r2 /\
 (X0 r2 false (zem l a (w64 (zaJ+(1:Int)))))/\True)
 (X0 r1 false (zem l a (w64 (zaJ+(1:Int))))))/\True)
 (zdR ((s95 (⟨(a.Net.Ties.get zaJ.toNat), zaJ⟩ : tie)).2)
 (l=l/\∃ r3,ys=[.agg [.int .i64 (((s95 (⟨(a.Net.Ties.get zaJ.toNat),zaJ⟩:tie)).1).Use.Tie),.bool (((s95 (⟨(a.Net.Ties.get zaJ.toNat),zaJ⟩:tie)).1).Use.Back),.int .i64 (((s95 (⟨(a.Net.Ties.get zaJ.toNat),zaJ⟩:tie)).1).from_),.int .i64 (((s95 (⟨(a.Net.Ties.get zaJ.toNat),zaJ⟩:tie)).1).to),.int .i64 (((s95 (⟨(a.Net.Ties.get zaJ.toNat),zaJ⟩:tie)).1).length)]] :: r3 /\
 (X0 r3 false (zem l a (w64 (zaJ+(1:Int)))))/\True)
 (X0 ys false (zem l a (w64 (zaJ+(1:Int)))))))))
 (ys=[]))
theorem zqQ (l : Nat) (X0 : List (List PA) → Bool → St → Prop) (ys : List (List PA)) (a : web) (zaJ : Int) :
  vcY Tryd.prog zL3 zkk l (cd (cdF Tryd.f110 [1,0]) [0]) (zCX Tryd.prog zkk 1 X0 (zp0 0 zCZ)) ys false (zem l a zaJ) =
  znm l X0 ys a zaJ:=by kernel_rfl
theorem zwL (l : Nat) (ys : List (List PA)) (a : web) (zaJ : Int)
  (h:∀ X0:List (List PA)->Bool->St->Prop,(∀ (ys:List (List PA)) (zaJ:Int),znm l X0 ys a zaJ->X0 ys false (zem l a zaJ))->X0 ys false (zem l a zaJ)) :
  ziy l ys a zaJ:=by
  have e:ziy l ys a zaJ=(∀ X:List (List PA)->Bool->St->Prop,(∀ ys q s,vcY Tryd.prog zL3 zkk l (cd (cdF Tryd.f110 [1,0]) [0]) (zCX Tryd.prog zkk 1 X (zp0 0 zCZ)) ys q s->X ys q s)->X ys false (zem l a zaJ)):=by kernel_rfl
  refine zaR e ?_
  intro X hX
  refine h X ?_
  intro ys zaJ hs
  refine hX _ _ _ ?_
  have e2:=zqQ l X ys a zaJ
  rw[e2]
  exact hs
attribute [irreducible] ziy
def zfv (a:web) (S0:Int->List step) (zaJ:Int):List step :=
  (cond (decide (zaJ < (a.Net.Ties.len : Int)))
 (cond ((zwe (a.out.F [zaJ]) 0) != 0)
 (S0 (w64 (zaJ+(1:Int))))
 (cond ((s94 (⟨(a.Net.Ties.get zaJ.toNat), zaJ⟩ : tie)).2)
 (((s94 (⟨(a.Net.Ties.get zaJ.toNat), zaJ⟩ : tie)).1) :: (cond ((s95 (⟨(a.Net.Ties.get zaJ.toNat), zaJ⟩ : tie)).2)
 (((s95 (⟨(a.Net.Ties.get zaJ.toNat),zaJ⟩:tie)).1) :: (S0 (w64 (zaJ+(1:Int)))))
 (S0 (w64 (zaJ+(1:Int))))))
 (cond ((s95 (⟨(a.Net.Ties.get zaJ.toNat), zaJ⟩ : tie)).2)
 (((s95 (⟨(a.Net.Ties.get zaJ.toNat),zaJ⟩:tie)).1) :: (S0 (w64 (zaJ+(1:Int)))))
 (S0 (w64 (zaJ+(1:Int)))))))
 [])
def zfw (a:web) (P0:Int->Bool) (zaJ:Int):Bool :=
  (cond (decide (zaJ < (a.Net.Ties.len : Int)))
 (decide ((0≤zaJ/\zaJ < (a.Net.Ties.len:Int))) &&
 (cond ((zwe (a.out.F [zaJ]) 0) != 0)
 (P0 (w64 (zaJ+(1:Int))))
 (cond ((s94 (⟨(a.Net.Ties.get zaJ.toNat), zaJ⟩ : tie)).2)
 (cond ((s95 (⟨(a.Net.Ties.get zaJ.toNat), zaJ⟩ : tie)).2)
 (P0 (w64 (zaJ+(1:Int))))
 (P0 (w64 (zaJ+(1:Int)))))
 (cond ((s95 (⟨(a.Net.Ties.get zaJ.toNat), zaJ⟩ : tie)).2)
 (P0 (w64 (zaJ+(1:Int))))
 (P0 (w64 (zaJ+(1:Int))))))))
 true)
def zeI (a : web) : Nat → Int → List step
  | 0=>λ _=>[]
  | k+1=>zfv a (zeI a k)
def zeJ (a : web) : Nat → Int → Bool
  | 0=>λ _=>false
  | k+1=>zfw a (zeJ a k)
def zuY (a:web) (zaJ:Int):List step:=zeI a Fuel zaJ
def zuZ (a:web) (zaJ:Int):Bool:=zeJ a Fuel zaJ
theorem zDP (l:Nat) (a:web) (ys:List (List PA)) (zaJ:Int) (hs:zuZ a zaJ=true) (hk:ys=(zuY a zaJ).map (λ y=>[.agg (zaD y)])):ziy l ys a zaJ:=by
  refine zwL l ys a zaJ ?_
  intro X0 hstep
  have key:∀ (k:Nat) (ys:List (List PA)) (zaJ:Int),zeJ a k zaJ=true->ys=(zeI a k zaJ).map (λ y=>[.agg (zaD y)])->X0 ys false (zem l a zaJ):=by
    intro k
    induction k with
    | zero=>intro ys zaJ hs;exact absurd hs Bool.false_ne_true
    | succ k ih =>
      intro ys zaJ hs hk
      refine hstep ys zaJ ?_
      have hs:zfw a (zeJ a k) zaJ=true:=hs
      have hk:ys=(zfv a (zeI a k) zaJ).map (λ y=>[.agg (zaD y)]):=hk
      unfold zfw at hs
      unfold zfv at hk
      generalize zeI a k=S0 at hk ih
      generalize zeJ a k=P0 at hs ih
      have hX0:=ih
      exact (ziv hs hk
 (λ hs hk => (zaL hs λ hc hs => ⟨hc, (ziv hs hk
 (λ hs hk=>(hX0 _ (w64 (zaJ+(1:Int))) hs hk))
 (λ hs hk => (ziv hs hk
 (λ hs hk => (itY hk rfl (λ _ hk => (ziv hs hk
 (λ hs hk=>(itY hk rfl (λ _ hk=>(hX0 _ (w64 (zaJ+(1:Int))) hs hk))))
 (λ hs hk=>(hX0 _ (w64 (zaJ+(1:Int))) hs hk))))))
 (λ hs hk => (ziv hs hk
 (λ hs hk=>(itY hk rfl (λ _ hk=>(hX0 _ (w64 (zaJ+(1:Int))) hs hk))))
 (λ hs hk=>(hX0 _ (w64 (zaJ+(1:Int))) hs hk)))))))⟩))
 (fun hs hk=>hk))
  exact key _ _ zaJ hs hk
def zl4 (a:web):List step :=
  (zuY a (0:Int))
def zw0 (a:web):Bool :=
  (zuZ a (0:Int))
theorem zQo (l:Nat) (a:web) (ys:List (List PA)) (hs:zw0 a=true) (hk:ys=(zl4 a).map (λ y=>[.agg (zaD y)])):vcIter Tryd.prog zL3 zkk 110 l [.one (.fp [.fp (zaF a) 0] 0)] ys:=by
  refine zaR (zDO l a ys) ?_
  unfold zw0 at hs
  unfold zl4 at hk
  exact (zDP l a _ (0:Int) hs hk)
def zqR : List PA → Option (Prop × List (List PA))
  | [.one (.fp [.fp [.int .i64 a_Net_Nodes,.sl a_Net_Ties_n a_Net_Ties_s a_Net_Ties_g,.fm a_out_q a_out_n a_out_F] 0] 0)]=>some (IsE zai 4 a_Net_Ties_s a_Net_Ties_g/\a_out_q=(false,1,false,[none])/\zw0 (⟨(⟨a_Net_Nodes,(⟨a_Net_Ties_n,zaq a_Net_Ties_g⟩:(Sl Tie))⟩:Net),(⟨a_out_n,a_out_F⟩:Mp)⟩:web)=true,(zl4 (⟨(⟨a_Net_Nodes,(⟨a_Net_Ties_n,zaq a_Net_Ties_g⟩:(Sl Tie))⟩:Net),(⟨a_out_n,a_out_F⟩:Mp)⟩:web)).map λ y=>[.agg (zaD y)])
  | _=>none
theorem zHm:zaw Tryd.prog 110:=⟨_,rfl,rfl,by kernel_rfl⟩
theorem zwM:zE7 Tryd.prog 110 zqR:=zLC zL2 zHm λ l caps safe ys h hs=>by
  unfold zqR at h
  split at h
  · rename_i a_Net_Nodes a_Net_Ties_n a_Net_Ties_s a_Net_Ties_g a_out_q a_out_n a_out_F
    cases h
    obtain⟨⟨rfl,a_Net_Ties_f,rfl⟩,rfl,hs⟩:=hs
    try rw[zat a_Net_Ties_f] at hs
    try rw[zat a_Net_Ties_f]
    exact⟨λ _ _=>[],λ _=>false,zkk,zQo l (⟨(⟨a_Net_Nodes,(⟨a_Net_Ties_n,a_Net_Ties_f⟩:(Sl Tie))⟩:Net),(⟨a_out_n,a_out_F⟩:Mp)⟩:web) _ hs rfl⟩
  · cases h
abbrev T88:Tabs:=((Tabs.nil.addF 93 zqP).addI 110 zqR)
theorem zOs:TabsOk Tryd.prog T88:=((TabsOk.nil.addF zKX).addI zwM)
abbrev G88:Ctrs:=csm T88 (λ _ _=>[]) (λ _=>false)
def zyL:Ann:=⟨37,[(0,zK [0] []),(1,zK [0,3] [3]),(2,zK [0,3,11,12] [3]),(3,zK [0,3,11,12,13] [3]),(4,zK [0,3,4,11,12] [3,4]),(5,zK [0,3,4,11,12,15] [3,4]),(6,zK [0,3,4,5,11,12,15] [3,4,5]),(7,zK [0,3,4,5,6,11,12,15] [3,4,5]),(8,zK [0,3,4,5,6,11,12,15,29] [3,4,5]),(9,zK [0,3,4,11,12,15] [3,4]),(10,zK [0,3,4,11,12,15] [3,4]),(11,zK [0,3,11,12,35] [3]),(12,zK [2] []),(13,zK [0,3,11,12] [3]),(14,zK [2] [])],
 [(3,zK [0,3,11,12] [3]),(6,zK [0,3,4,11,12,15] [3,4])],
 [],
 [],[]⟩
abbrev R88:=Bool
abbrev e88 (r:R88):List PA:=[.one (.bool r)]
@[irreducible] def z88:=ptF Tryd.prog G88 zyL Tryd.f88
@[irreducible] def x88:=exF Tryd.prog G88 zyL Tryd.f88
@[irreducible] def y88:=rnF Tryd.prog G88 zyL Tryd.f88
def zFp (w:web) (zca:Int) (dt0:Tab):St:=⟨[(0,zP (.fp (zaF w) 0)),(3,zp 3 0),(11,zI w.Net.Nodes),(12,zI zca)],[(3,.box 157 (zm (zyG dt0)))],[]⟩
abbrev zHn (K:List PA->Prop) (w:web) (X:St->Prop) (P:Int->Tab->Bool) (S:Int->Tab->Bool):Prop:=∀ ⦃zca:Int⦄ ⦃dt0:Tab⦄,P zca dt0=true->K (e88 (S zca dt0))->X (zFp w zca dt0)
def zyM (w:web) (zcb:Int) (zbd:Bool) (dt1:Tab):St:=⟨[(0,zP (.fp (zaF w) 0)),(3,zp 3 0),(4,zp 4 0),(11,zI w.Net.Nodes),(12,zI zcb),(15,zP (.fn 110 [] [.fp [.fp (zaF w) 0] 0]))],[(3,.box 157 (zm (zyG dt1))),(4,.box 4 [.p (.bool zbd)])],[]⟩
abbrev zL4 (K:List PA->Prop) (w:web) (X:St->Prop) (P:Int->Bool->Tab->Bool) (S:Int->Bool->Tab->Bool):Prop:=∀ ⦃zcb:Int⦄ ⦃zbd:Bool⦄ ⦃dt1:Tab⦄,P zcb zbd dt1=true->K (e88 (S zcb zbd dt1))->X (zyM w zcb zbd dt1)
section
variable {K:List PA->Prop}{w:web}{zca:Int}{dt0:Tab}{X0:St->Prop}{P0:Int->Tab->Bool}{S0:Int->Tab->Bool}{zcb:Int}{zbd:Bool}{dt1:Tab}
def zoh (S0:Int->Tab->Bool) (w:web) (zcb:Int) (zbd:Bool) (dt1:Tab):Bool :=
  (cond (!zbd)
 false
 (S0 (w64 (zcb+(1:Int))) dt1))
def zoi (P0:Int->Tab->Bool) (w:web) (zcb:Int) (zbd:Bool) (dt1:Tab):Bool :=
  (cond (!zbd)
 true
 (P0 (w64 (zcb+(1:Int))) dt1))
def zoj (S0:Int->Tab->Bool) (w:web) (y1:step) (S1:Int->Bool->Tab->Bool) (zcb:Int) (zbd:Bool) (dt1:Tab):Bool :=
  (cond (decide ((w64 ((tg 40 dt1 (0 + y1.from_.toNat * 1 + 0)) + y1.length)) < (tg 40 dt1 (0 + y1.to.toNat * 1 + 0))))
 (S1 zcb true (ts 40 dt1 (0+y1.to.toNat * 1+0) [(w64 ((tg 40 dt1 (0+y1.from_.toNat * 1+0))+y1.length))]))
 (S1 zcb zbd dt1))
def zok (P0:Int->Tab->Bool) (w:web) (y1:step) (P1:Int->Bool->Tab->Bool) (zcb:Int) (zbd:Bool) (dt1:Tab):Bool :=
  (decide ((0≤y1.from_/\y1.from_ < (40:Int))) &&
 (decide ((0≤y1.to/\y1.to < (40:Int))) &&
 (cond (decide ((w64 ((tg 40 dt1 (0 + y1.from_.toNat * 1 + 0)) + y1.length)) < (tg 40 dt1 (0 + y1.to.toNat * 1 + 0))))
 (decide ((0≤y1.to/\y1.to < (40:Int))) &&
 (P1 zcb true (ts 40 dt1 (0+y1.to.toNat * 1+0) [(w64 ((tg 40 dt1 (0+y1.from_.toNat * 1+0))+y1.length))])))
 (P1 zcb zbd dt1))))
def zgm (S0:Int->Tab->Bool) (w:web):List step->Int->Bool->Tab->Bool:=lpR (zoh S0 w) (zoj S0 w)
def zgn (P0:Int->Tab->Bool) (w:web):List step->Int->Bool->Tab->Bool:=lpR (zoi P0 w) (zok P0 w)
def zsh (S0:Int->Tab->Bool) (w:web) (zcb:Int) (zbd:Bool) (dt1:Tab):Bool:=zgm S0 w (zl4 w) zcb zbd dt1
def zsi (P0:Int->Tab->Bool) (w:web) (zcb:Int) (zbd:Bool) (dt1:Tab):Bool:=decide ((zw0 w=true)) && zgn P0 w (zl4 w) zcb zbd dt1
theorem zHo (hX0:zHn K w X0 P0 S0) (hs:zsi P0 w zcb zbd dt1=true) (hk:K (e88 (zsh S0 w zcb zbd dt1))):z88 K [1,1,0,1,0,0,1,1,0,0,1,0,1,0] [X0] (zyM w zcb zbd dt1) :=
  zaL hs λ hc hs=>zr (enc:=(λ y:step=>[.agg (zaD y)])) (ys:=zl4 w) (g:=(zyM w zcb zbd dt1)) (x88 K [1,1,0,1,0,0,1,1,0,0,1,0,1,0] [X0]) (y88 K [1,1,0,1,0,0,1,1,0,0,1,0,1,0] [X0]) (by kernel_rfl) (And.intro (zE zai 4 w.Net.Ties.get) (And.intro (rfl:((false,1,false,[none]):MQ)=(false,1,false,[none])) hc)) λ X1 hE hR =>
  (show ∀ l : List step, zL4 K w (X1 (l.map (λ y : step => [.agg (zaD y)]))) (zgn P0 w l) (zgm S0 w l) from zri (X := X1) (enc := (λ y : step => [.agg (zaD y)])) _ _ (zok P0 w) (zoj S0 w) (λ Z P S => zL4 K w Z P S)
 (by intro zcb zbd dt1 hs hk;exact hE _ (zaR (by kernel_rfl) (zc hs hk (λ hs hk=>hk) (λ hs hk=>(hX0 hs hk)))))
 (by intro y1 rest P1 S1 hX1 zcb zbd dt1 hs hk;exact hR _ rest _ (zaR (by kernel_rfl) (zaL hs λ hc hs=>And.intro hc (zaL hs λ hc hs=>And.intro hc (zc hs hk (λ hs hk=>(zaL hs λ hc hs=>And.intro hc (hX1 hs hk))) (λ hs hk=>(hX1 hs hk)))))))) _ hs hk
def zja (w:web) (S0:Int->Tab->Bool) (zca:Int) (dt0:Tab):Bool :=
  (cond (decide (zca < w.Net.Nodes))
 (zsh S0 w zca false dt0)
 true)
def zjb (w:web) (P0:Int->Tab->Bool) (zca:Int) (dt0:Tab):Bool :=
  (cond (decide (zca < w.Net.Nodes))
 (zsi P0 w zca false dt0)
 true)
def zjc (w:web):Nat->Int->Tab->Bool:=lpO (λ _ _=>default) (zja w)
def zjd (w:web):Nat->Int->Tab->Bool:=lpO (λ _ _=>false) (zjb w)
def zyN (w:web) (zca:Int) (dt0:Tab):Bool:=zjc w Fuel zca dt0
def zyO (w:web) (zca:Int) (dt0:Tab):Bool:=zjd w Fuel zca dt0
theorem zHp (hs:zyO w zca dt0=true) (hk:K (e88 (zyN w zca dt0))):z88 K [1,1,0,1,0] [] (zFp w zca dt0) :=
  zl (λ X=>z88 K [1,1,0,1,0,0] [X]) (by kernel_rfl) λ X0 hX =>
  (show ∀ k, zHn K w X0 (zjd w k) (zjc w k) from zdU _ _ (zjb w) (zja w) (zHn K w X0)
 (by intro _ _ hs;exact absurd hs Bool.false_ne_true)
 (by intro P0 S0 hX0 zca dt0 hs hk;exact hX _ (zaR (by kernel_rfl) (zc hs hk (λ hs hk=>(And.intro (And.intro (zE zai 4 w.Net.Ties.get) (rfl:((false,1,false,[none]):MQ)=(false,1,false,[none]))) (zHo hX0 hs hk))) (λ hs hk=>hk))))) _ hs hk
def s88 (w:web):Bool :=
  (zyN w (0:Int) (λ _=>(0:Int)))
def p88 (w:web):Bool :=
  (zyO w (0:Int) (λ _=>(0:Int)))
end
theorem q88 (w:web) (K:List PA->Prop) (hs:p88 w=true) (hk:K (e88 (s88 w))):vcFun Tryd.prog G88 zyL 88 [.one (.fp (zaF w) 0)] K :=
  zaR (by kernel_rfl) (zHp hs hk)
def zyP : List PA → COut
  | [.one (.fp [.int .i64 zas,.sl zam zaK zan,.fm zbw zaN zaO] 0)]=>.det (IsE zai 4 zaK zan/\zbw=(false,1,false,[none])/\p88 (⟨(⟨zas,(⟨zam,zaq zan⟩:(Sl Tie))⟩:Net),(⟨zaN,zaO⟩:Mp)⟩:web)=true) [.one (.bool (s88 (⟨(⟨zas,(⟨zam,zaq zan⟩:(Sl Tie))⟩:Net),(⟨zaN,zaO⟩:Mp)⟩:web)))]
  | _=>.no
theorem zL5:zaw Tryd.prog 88:=⟨_,rfl,rfl,by kernel_rfl⟩
theorem zOt:Ok Tryd.prog 88 zyP:=zbv zOs zL5 λ args K h=>by
  unfold zyP at h
  split at h
  · rename_i zas zam zaK zan zbw zaN zaO
    obtain⟨⟨⟨rfl,zaC,rfl⟩,rfl,hs⟩,hk⟩:=h
    try rw[zat zaC] at hs
    try rw[zat zaC] at hk
    exact⟨(λ _ _=>[]),(λ _=>false),zyL,q88 (⟨(⟨zas,(⟨zam,zaC⟩:(Sl Tie))⟩:Net),(⟨zaN,zaO⟩:Mp)⟩:web) K hs hk⟩
  · exact h.elim
abbrev T74:Tabs:=(((Tabs.nil.addF 67 zsg).addF 81 zsd).addF 88 zyP)
theorem zOu:TabsOk Tryd.prog T74:=(((TabsOk.nil.addF zLW).addF zLT).addF zOt)
abbrev G74:Ctrs:=csm T74 (λ _ _=>[]) (λ _=>false)
def zDQ:Ann:=⟨31,[(0,zK [1,2] [2]),(1,zK [1,2,6] [2,11]),(2,zK [1,2,6,14] [2,11]),(3,zK [4,5] []),(4,zK [2,6,15,16,17] [2,11]),(5,zK [2,6,15,16,17,18] [2,11]),(6,zK [2,6,8,15,16,17] [2,11]),(7,zK [2,6,15,16,17,26] [2,11]),(8,zK [4,5] []),(9,zK [2,6,15,16,17] [2,11]),(10,zK [6,29] [11]),(11,zK [4,5] []),(12,zK [4,5] [11])],
 [(5,zK [2,6,15,16,17] [2,11])],
 [(3,zK [1,2,6,14] [2,11]),(4,zK [1,2,6] [2,11]),(8,zK [2,6,15,16,17,26] [2,11]),(11,zK [6,29] [11])],
 [],[]⟩
abbrev R74:=(web×Int)
abbrev e74 (r:R74):List PA:=cond (r.2 == 0) [.one (.fp (zaF r.1) 0),.one (.int .i64 (0:Int))] [.one (.nilp),.one (.int .i64 r.2)]
@[irreducible] def z74:=ptF Tryd.prog G74 zDQ Tryd.f74
def zFq (n:Net) (nodes:(Sl Int)) (zd7:Int):St:=⟨[(2,zp 2 0),(6,zp 11 0),(15,zS enc_3 1 nodes),(16,zI (nodes.len:Int)),(17,zI zd7)],[(2,.box 24 (zm (enc_24 n))),(11,.box 105 (zm (zaF (⟨n,(⟨0,(λ _=>none)⟩:Mp)⟩:web))))],[]⟩
abbrev zHq (K:List PA->Prop) (n:Net) (nodes:(Sl Int)) (X:St->Prop) (P:Int->Bool) (S:Int->(web×Int)):Prop:=∀ ⦃zd7:Int⦄,P zd7=true->K (e74 (S zd7))->X (zFq n nodes zd7)
section
variable {K:List PA->Prop}{n:Net}{nodes:(Sl Int)}{zsj:Bool}{zd7:Int}{X2:St->Prop}{P2:Int->Bool}{S2:Int->(web×Int)}{zsk:Int}{zsl:Bool}{zDR:Bool}
def zsm (n:Net) (zDR:Bool):(web×Int) :=
  (cond zDR
 ((default:web),(5:Int))
 ((⟨n,(⟨0,(λ _=>none)⟩:Mp)⟩:web),(0:Int)))
theorem zHr (hk:K (e74 (zsm n zDR))):z74 K [1,1,1,1,0,1] [] ⟨[(6,zp 11 0),(29,zB zDR)],[(11,.box 105 (zm (zaF (⟨n,(⟨0,(λ _=>none)⟩:Mp)⟩:web))))],[]⟩:=zaR (by kernel_rfl) (zt hk (λ hk=>hk) (λ hk=>hk))
def zsn (S2:Int->(web×Int)) (n:Net) (nodes:(Sl Int)) (zsk:Int) (zsl:Bool):(web×Int) :=
  (cond zsl
 ((default:web),(2:Int))
 (S2 (w64 (zsk+(1:Int)))))
def zso (P2:Int->Bool) (n:Net) (nodes:(Sl Int)) (zsk:Int) (zsl:Bool):Bool :=
  (cond zsl
 true
 (P2 (w64 (zsk+(1:Int)))))
theorem zHs (hX2:zHq K n nodes X2 P2 S2) (hs:zso P2 n nodes zsk zsl=true) (hk:K (e74 (zsn S2 n nodes zsk zsl))):z74 K [1,1,1,0,1,0,0,1,1,0,0,1,1] [X2] ⟨[(2,zp 2 0),(6,zp 11 0),(15,zS enc_3 1 nodes),(16,zI (nodes.len:Int)),(17,zI zsk),(26,zB zsl)],[(2,.box 24 (zm (enc_24 n))),(11,.box 105 (zm (zaF (⟨n,(⟨0,(λ _=>none)⟩:Mp)⟩:web))))],[]⟩:=zaR (by kernel_rfl) (zc hs hk (λ hs hk=>hk) (λ hs hk=>(hX2 hs hk)))
def zje (n:Net) (nodes:(Sl Int)) (S2:Int->(web×Int)) (zd7:Int):(web×Int) :=
  (cond (decide (zd7 < (nodes.len : Int)))
 (zsn S2 n nodes zd7 (!(s81 (nodes.get zd7.toNat) (0:Int) (w64 (n.Nodes - (1:Int))))))
 (zsm n (s88 (⟨n,(⟨0,(λ _=>none)⟩:Mp)⟩:web))))
def zjf (n:Net) (nodes:(Sl Int)) (P2:Int->Bool) (zd7:Int):Bool :=
  (cond (decide (zd7 < (nodes.len : Int)))
 (decide ((0≤zd7/\zd7 < (nodes.len:Int))) &&
 (zso P2 n nodes zd7 (!(s81 (nodes.get zd7.toNat) (0:Int) (w64 (n.Nodes - (1:Int)))))))
 (decide ((p88 (⟨n,(⟨0,(λ _=>none)⟩:Mp)⟩:web)=true)) &&
 true))
def zjg (n:Net) (nodes:(Sl Int)):Nat->Int->(web×Int):=lpO (λ _=>default) (zje n nodes)
def zjh (n:Net) (nodes:(Sl Int)):Nat->Int->Bool:=lpO (λ _=>false) (zjf n nodes)
def zsp (n:Net) (nodes:(Sl Int)) (zd7:Int):(web×Int):=zjg n nodes Fuel zd7
def zsq (n:Net) (nodes:(Sl Int)) (zd7:Int):Bool:=zjh n nodes Fuel zd7
theorem zHt (hs:zsq n nodes zd7=true) (hk:K (e74 (zsp n nodes zd7))):z74 K [1,1,1,0,1,0] [] (zFq n nodes zd7) :=
  zl (λ X=>z74 K [1,1,1,0,1,0,0] [X]) (by kernel_rfl) λ X2 hX =>
  (show ∀ k, zHq K n nodes X2 (zjh n nodes k) (zjg n nodes k) from zdU _ _ (zjf n nodes) (zje n nodes) (zHq K n nodes X2)
 (by intro _ hs;exact absurd hs Bool.false_ne_true)
 (by intro P2 S2 hX2 zd7 hs hk;exact hX _ (zaR (by kernel_rfl) (zc hs hk (λ hs hk=>(zaL hs λ hc hs=>And.intro hc (zHs hX2 hs hk))) (λ hs hk=>(zaL hs λ hc hs=>And.intro (And.intro (zE zai 4 n.Ties.get) (And.intro (rfl:((false,1,false,[none]):MQ)=(false,1,false,[none])) hc)) (zHr hk))))))) _ hs hk
def zsr (n:Net) (nodes:(Sl Int)):(web×Int) :=
  (zsp n nodes (0:Int))
def zss (n:Net) (nodes:(Sl Int)):Bool :=
  (zsq n nodes (0:Int))
theorem zHu (hs:zss n nodes=true) (hk:K (e74 (zsr n nodes))):z74 K [1,1,1] [] ⟨[(1,zS enc_3 1 nodes),(2,zp 2 0),(6,zp 11 0)],[(2,.box 24 (zm (enc_24 n))),(11,.box 105 (zm (zaF (⟨n,(⟨0,(λ _=>none)⟩:Mp)⟩:web))))],[]⟩:=zaR (by kernel_rfl) (zHt hs hk)
def zst (n:Net) (nodes:(Sl Int)) (zsj:Bool):(web×Int) :=
  (cond zsj
 ((default:web),(2:Int))
 (zsr n nodes))
def zsu (n:Net) (nodes:(Sl Int)) (zsj:Bool):Bool :=
  (cond zsj
 true
 (zss n nodes))
theorem zHv (hs:zsu n nodes zsj=true) (hk:K (e74 (zst n nodes zsj))):z74 K [1,1,0,1] [] ⟨[(1,zS enc_3 1 nodes),(2,zp 2 0),(6,zp 11 0),(14,zB zsj)],[(2,.box 24 (zm (enc_24 n))),(11,.box 105 (zm (zaF (⟨n,(⟨0,(λ _=>none)⟩:Mp)⟩:web))))],[]⟩:=zaR (by kernel_rfl) (zc hs hk (λ hs hk=>hk) (λ hs hk=>(zHu hs hk)))
def s74 (n:Net) (nodes:(Sl Int)):(web×Int) :=
  (zst n nodes (!(s67 n)))
def p74 (n:Net) (nodes:(Sl Int)):Bool :=
  (decide ((p67 n=true)) &&
 (zsu n nodes (!(s67 n))))
end
theorem q74 (n:Net) (nodes:(Sl Int)) (K:List PA->Prop) (hs:p74 n nodes=true) (hk:K (e74 (s74 n nodes))):vcFun Tryd.prog G74 zDQ 74 [.agg (enc_24 n),.one (.sl nodes.len 1 (λ i=>enc_3 (nodes.get i)))] K :=
  zaR (by kernel_rfl) (zaL hs λ hc hs=>And.intro (And.intro (zE zai 4 n.Ties.get) hc) (zHv hs hk))
def zyQ : List PA → COut
  | [.agg [.int .i64 zal,.sl zak zaI zaj],.one (.sl zcz zfx zcw)]=>.alt ((s74 (⟨zal,(⟨zak,zaq zaj⟩:(Sl Tie))⟩:Net) (⟨zcz,zar zcw⟩:(Sl Int))).2 == 0) (IsE zai 4 zaI zaj/\IsE enc_3 1 zfx zcw/\p74 (⟨zal,(⟨zak,zaq zaj⟩:(Sl Tie))⟩:Net) (⟨zcz,zar zcw⟩:(Sl Int))=true) [.one (.fp (zaF (⟨(s74 (⟨zal,(⟨zak,zaq zaj⟩:(Sl Tie))⟩:Net) (⟨zcz,zar zcw⟩:(Sl Int))).1.Net,((s74 (⟨zal,(⟨zak,zaq zaj⟩:(Sl Tie))⟩:Net) (⟨zcz,zar zcw⟩:(Sl Int))).1.out)⟩:web)) 0),.one (.int .i64 (0:Int))] (IsE zai 4 zaI zaj/\IsE enc_3 1 zfx zcw/\p74 (⟨zal,(⟨zak,zaq zaj⟩:(Sl Tie))⟩:Net) (⟨zcz,zar zcw⟩:(Sl Int))=true) [.one (.nilp),.one (.int .i64 ((s74 (⟨zal,(⟨zak,zaq zaj⟩:(Sl Tie))⟩:Net) (⟨zcz,zar zcw⟩:(Sl Int))).2))]
  | [.agg [.int .i64 zal,.sl zak zaI zaj],.one (.nils)]=>.alt ((s74 (⟨zal,(⟨zak,zaq zaj⟩:(Sl Tie))⟩:Net) (⟨0,λ _=>default⟩:(Sl Int))).2 == 0) (IsE zai 4 zaI zaj/\p74 (⟨zal,(⟨zak,zaq zaj⟩:(Sl Tie))⟩:Net) (⟨0,λ _=>default⟩:(Sl Int))=true) [.one (.fp (zaF (⟨(s74 (⟨zal,(⟨zak,zaq zaj⟩:(Sl Tie))⟩:Net) (⟨0,λ _=>default⟩:(Sl Int))).1.Net,((s74 (⟨zal,(⟨zak,zaq zaj⟩:(Sl Tie))⟩:Net) (⟨0,λ _=>default⟩:(Sl Int))).1.out)⟩:web)) 0),.one (.int .i64 (0:Int))] (IsE zai 4 zaI zaj/\p74 (⟨zal,(⟨zak,zaq zaj⟩:(Sl Tie))⟩:Net) (⟨0,λ _=>default⟩:(Sl Int))=true) [.one (.nilp),.one (.int .i64 ((s74 (⟨zal,(⟨zak,zaq zaj⟩:(Sl Tie))⟩:Net) (⟨0,λ _=>default⟩:(Sl Int))).2))]
  | _=>.no
theorem zL6:zaw Tryd.prog 74:=⟨_,rfl,rfl,by kernel_rfl⟩
theorem zOv:Ok Tryd.prog 74 zyQ:=zgi zOu zL6 λ args K h=>by
  unfold zyQ at h
  split at h
  · rename_i zal zak zaI zaj zcz zfx zcw
    have h:=zLE h
    obtain⟨⟨⟨rfl,zaB,rfl⟩,⟨rfl,zdV,rfl⟩,hs⟩,hk⟩:=h
    try rw[zat zaB] at hs
    try rw[zat zaB] at hk
    try rw[zaV zdV] at hs
    try rw[zaV zdV] at hk
    exact⟨_,zfd zfW _,(λ _ _=>[]),(λ _=>false),zDQ,q74 (⟨zal,(⟨zak,zaB⟩:(Sl Tie))⟩:Net) (⟨zcz,zdV⟩:(Sl Int)) (Wk K) hs (zfX hk)⟩
  · rename_i zal zak zaI zaj
    have h:=zLE h
    obtain⟨⟨⟨rfl,zaB,rfl⟩,hs⟩,hk⟩:=h
    try rw[zat zaB] at hs
    try rw[zat zaB] at hk
    exact⟨_,(zb8 (zfW _) (zb8 (.one (.nil _ _)) zes)),(λ _ _=>[]),(λ _=>false),zDQ,q74 (⟨zal,(⟨zak,zaB⟩:(Sl Tie))⟩:Net) (⟨0,λ _=>default⟩:(Sl Int)) (Wk K) hs (zfX hk)⟩
  · exact h.elim
abbrev zPW:Tabs:=Tabs.nil
theorem zL7:TabsOk Tryd.prog zPW:=TabsOk.nil
abbrev zQp:Ctrs:=csm zPW (λ _ _=>[]) (λ _=>false)
def zFr:Ann:=⟨24,[(0,zK [2,3] [2,3]),(1,zK [4] [])],
 [],
 [],
 [],[]⟩
abbrev zQq:=Bool
abbrev zQr (r:zQq):List PA:=[.one (.bool r)]
section
variable {K:List PA->Prop}{a:far}{b:far}
def zDS (a:far) (b:far):Bool :=
  (cond (decide (a.length < b.length))
 true
 (cond (a.length == b.length)
 (decide (a.uses < b.uses))
 false))
end
theorem zQs (a:far) (b:far) (K:List PA->Prop) (hk:K (zQr (zDS a b))):vcFun Tryd.prog zQp zFr 105 [.agg (zcp a),.agg (zcp b)] K :=
  zaR (by kernel_rfl) (zt hk (λ hk=>hk) (λ hk=>(zt hk (λ hk=>hk) (λ hk=>hk))))
def zyR : List PA → COut
  | [.agg [.int .i64 zcs,.int .i64 zsv],.agg [.int .i64 zb0,.int .i64 zfy]]=>.tot [.one (.bool (zDS (⟨zcs,zsv⟩:far) (⟨zb0,zfy⟩:far)))]
  | _=>.no
theorem zHw:zaw Tryd.prog 105:=⟨_,rfl,rfl,by kernel_rfl⟩
theorem zOw:Ok Tryd.prog 105 zyR:=zbv zL7 zHw λ args K h=>by
  unfold zyR at h
  split at h
  · rename_i zcs zsv zb0 zfy
    have hk:=h
    exact⟨(λ _ _=>[]),(λ _=>false),zFr,zQs (⟨zcs,zsv⟩:far) (⟨zb0,zfy⟩:far) K hk⟩
  · exact h.elim
abbrev zPX:Tabs:=(Tabs.nil.addF 105 zyR)
theorem zL8:TabsOk Tryd.prog zPX:=(TabsOk.nil.addF zOw)
abbrev zPY:Ctrs:=csm zPX (λ _ _=>[]) (λ _=>false)
def zyS:Ann:=⟨22,[(0,zK [0,2,4,6] [4,6]),(1,zK [0,4,6,9,10,11] [4,6]),(2,zK [0,4,6,9,10,11,12] [4,6]),(3,zK [0,4,6,8,9,10,11] [4,6,8]),(4,zK [0,4,6,8,9,10,11,18] [4,6,8]),(5,zK [0,4,6,9,10,11] [4,6]),(6,zK [0,4,6,9,10,11] [4,6]),(7,zK [6] [6])],
 [(2,zK [0,4,6,9,10,11] [4,6])],
 [(5,zK [0,4,6,8,9,10,11,18] [4,6,8])],
 [],[]⟩
abbrev zQt:=far
abbrev zNY (r:zQt):List PA:=[.agg [.int .i64 r.length,.int .i64 r.uses]]
@[irreducible] def z104:=ptF Tryd.prog zPY zyS Tryd.f104
def zyT (others:(Sl far)) (zaX:Int) (zbk:Int) (zbl:Int):St:=⟨[(0,zP (.fn 105 [] [])),(4,zp 4 0),(6,zp 6 0),(9,zS zcp 2 others),(10,zI (others.len:Int)),(11,zI zaX)],[(4,.box 114 (zm (zcp (⟨zbk,zbl⟩:far)))),(6,.box 114 (zm (zcp (⟨(0:Int),(0:Int)⟩:far))))],[]⟩
abbrev zyU (K:List PA->Prop) (others:(Sl far)) (X:St->Prop) (P:Int->Int->Int->Bool) (S:Int->Int->Int->far):Prop:=∀ ⦃zaX:Int⦄ ⦃zbk:Int⦄ ⦃zbl:Int⦄,P zaX zbk zbl=true->K (zNY (S zaX zbk zbl))->X (zyT others zaX zbk zbl)
section
variable {K:List PA->Prop}{first:far}{others:(Sl far)}{zaX:Int}{zbk:Int}{zbl:Int}{X0:St->Prop}{P0:Int->Int->Int->Bool}{S0:Int->Int->Int->far}{zcR:Int}{zdd:Bool}{zen:Int}{zeo:Int}{zsw:Int}{zsx:Int}
def zol (S0:Int->Int->Int->far) (others:(Sl far)) (zcR:Int) (zdd:Bool) (zen:Int) (zeo:Int) (zsw:Int) (zsx:Int):far :=
  (cond zdd
 (S0 (w64 (zcR+(1:Int))) zsw zsx)
 (S0 (w64 (zcR+(1:Int))) zen zeo))
def zom (P0:Int->Int->Int->Bool) (others:(Sl far)) (zcR:Int) (zdd:Bool) (zen:Int) (zeo:Int) (zsw:Int) (zsx:Int):Bool :=
  (cond zdd
 (P0 (w64 (zcR+(1:Int))) zsw zsx)
 (P0 (w64 (zcR+(1:Int))) zen zeo))
theorem zDT (hX0:zyU K others X0 P0 S0) (hs:zom P0 others zcR zdd zen zeo zsw zsx=true) (hk:K (zNY (zol S0 others zcR zdd zen zeo zsw zsx))):z104 K [1,0,1,0,0,1,1,0,0,1,1] [X0] ⟨[(0,zP (.fn 105 [] [])),(4,zp 4 0),(6,zp 6 0),(8,zp 8 0),(9,zS zcp 2 others),(10,zI (others.len:Int)),(11,zI zcR),(18,zB zdd)],[(4,.box 114 (zm (zcp (⟨zen,zeo⟩:far)))),(6,.box 114 (zm (zcp (⟨(0:Int),(0:Int)⟩:far)))),(8,.box 114 (zm (zcp (⟨zsw,zsx⟩:far))))],[]⟩:=zaR (by kernel_rfl) (zc hs hk (λ hs hk=>(hX0 hs hk)) (λ hs hk=>(hX0 hs hk)))
def zgY (others:(Sl far)) (S0:Int->Int->Int->far) (zaX:Int) (zbk:Int) (zbl:Int):far :=
  (cond (decide (zaX < (others.len : Int)))
 (zol S0 others zaX (zDS (others.get zaX.toNat) (⟨zbk,zbl⟩:far)) zbk zbl ((others.get zaX.toNat).length) ((others.get zaX.toNat).uses))
 (⟨zbk,zbl⟩:far))
def zgZ (others:(Sl far)) (P0:Int->Int->Int->Bool) (zaX:Int) (zbk:Int) (zbl:Int):Bool :=
  (cond (decide (zaX < (others.len : Int)))
 (decide ((0≤zaX/\zaX < (others.len:Int))) &&
 (zom P0 others zaX (zDS (others.get zaX.toNat) (⟨zbk,zbl⟩:far)) zbk zbl ((others.get zaX.toNat).length) ((others.get zaX.toNat).uses)))
 true)
def zg0 (others:(Sl far)):Nat->Int->Int->Int->far:=lpO (λ _ _ _=>default) (zgY others)
def zg1 (others:(Sl far)):Nat->Int->Int->Int->Bool:=lpO (λ _ _ _=>false) (zgZ others)
def zon (others:(Sl far)) (zaX:Int) (zbk:Int) (zbl:Int):far:=zg0 others Fuel zaX zbk zbl
def zoo (others:(Sl far)) (zaX:Int) (zbk:Int) (zbl:Int):Bool:=zg1 others Fuel zaX zbk zbl
theorem zDU (hs:zoo others zaX zbk zbl=true) (hk:K (zNY (zon others zaX zbk zbl))):z104 K [1,0,1,0] [] (zyT others zaX zbk zbl) :=
  zl (λ X=>z104 K [1,0,1,0,0] [X]) (by kernel_rfl) λ X0 hX =>
  (show ∀ k, zyU K others X0 (zg1 others k) (zg0 others k) from zdU _ _ (zgZ others) (zgY others) (zyU K others X0)
 (by intro _ _ _ hs;exact absurd hs Bool.false_ne_true)
 (by intro P0 S0 hX0 zaX zbk zbl hs hk;exact hX _ (zaR (by kernel_rfl) (zc hs hk (λ hs hk=>(zaL hs λ hc hs=>And.intro hc (zDT hX0 hs hk))) (λ hs hk=>hk))))) _ hs hk
def zc8 (first:far) (others:(Sl far)):far :=
  (zon others (0:Int) first.length first.uses)
def zDV (first:far) (others:(Sl far)):Bool :=
  (zoo others (0:Int) first.length first.uses)
end
theorem zQu (first:far) (others:(Sl far)) (K:List PA->Prop) (hs:zDV first others=true) (hk:K (zNY (zc8 first others))):vcFun Tryd.prog zPY zyS 104 [.one (.fn 105 [] []),.agg (zcp first),.one (.sl others.len 2 (λ i=>zcp (others.get i)))] K :=
  zaR (by kernel_rfl) (zDU hs hk)
def zqS : List PA → COut
  | [.one (.fn 105 [] []),.agg [.int .i64 zb0,.int .i64 zfy],.one (.sl zCL zL9 zCM)]=>.det (IsE zcp 2 zL9 zCM/\zDV (⟨zb0,zfy⟩:far) (⟨zCL,zkU zCM⟩:(Sl far))=true) [.agg [.int .i64 ((zc8 (⟨zb0,zfy⟩:far) (⟨zCL,zkU zCM⟩:(Sl far))).length),.int .i64 ((zc8 (⟨zb0,zfy⟩:far) (⟨zCL,zkU zCM⟩:(Sl far))).uses)]]
  | _=>.no
theorem zHx:zaw Tryd.prog 104:=⟨_,rfl,rfl,by kernel_rfl⟩
theorem zHy:Ok Tryd.prog 104 zqS:=zbv zL8 zHx λ args K h=>by
  unfold zqS at h
  split at h
  · rename_i zb0 zfy zCL zL9 zCM
    obtain⟨⟨⟨rfl,zHz,rfl⟩,hs⟩,hk⟩:=h
    try rw[zki zHz] at hs
    try rw[zki zHz] at hk
    exact⟨(λ _ _=>[]),(λ _=>false),zyS,zQu (⟨zb0,zfy⟩:far) (⟨zCL,zHz⟩:(Sl far)) K hs hk⟩
  · exact h.elim
abbrev T75:Tabs:=(((Tabs.nil.addF 93 zqP).addF 104 zqS).addI 110 zqR)
theorem zOx:TabsOk Tryd.prog T75:=(((TabsOk.nil.addF zKX).addF zHy).addI zwM)
abbrev G75:Ctrs:=csm T75 (λ _ _=>[]) (λ _=>false)
def zyV:Ann:=⟨66,[(0,zK [0,1,4] [4]),(1,zK [0,1,4,5] [4,5]),(2,zK [0,1,4,5,10] [4,5]),(3,zK [0,1,4,5,10,11] [4,5]),(4,zK [0,1,4,5,6,10] [4,5]),(5,zK [0,1,4,5,10] [4,5]),(6,zK [0,1,4,5,10] [4,5]),(7,zK [0,4,5] [4,5]),(8,zK [0,4,5,7] [4,5,7]),(9,zK [0,4,5,7,20] [4,5,7]),(10,zK [0,4,5,7] [4,5,7]),(11,zK [0,4,5,7,22] [4,5,7]),(12,zK [0,4,5,7,8,22] [4,5,7,8]),(13,zK [0,4,5,7,8,22,29] [4,5,7,8]),(14,zK [0,4,5,7,8,9,22] [4,5,7,8,9]),(15,zK [0,4,5,7,8,9,22] [4,5,7,8,9]),(16,zK [0,4,5,7,22] [4,5,7]),(17,zK [0,4,5,64] [4,5]),(18,zK [0,4,5,7] [4,5,7]),(19,zK [4] [4])],
 [(3,zK [0,1,4,5,10] [4,5]),(9,zK [0,4,5,7] [4,5,7]),(12,zK [0,4,5,7,22] [4,5,7])],
 [(7,zK [0,1,4,5] [4,5])],
 [],[]⟩
abbrev R75:=Tab
abbrev e75 (r:R75):List PA:=[.agg (zau r)]
@[irreducible] def z75:=ptF Tryd.prog G75 zyV Tryd.f75
@[irreducible] def x75:=exF Tryd.prog G75 zyV Tryd.f75
@[irreducible] def y75:=rnF Tryd.prog G75 zyV Tryd.f75
def zFs (w:web) (node:Int) (za7:Int) (t4t0:Tab) (dt0:Tab):St:=⟨[(0,zP (.fp (zaF w) 0)),(1,zI node),(4,zp 4 0),(5,zp 5 0),(10,zI za7)],[(4,.box 116 (zm (zau t4t0))),(5,.box 116 (zm (zau dt0)))],[]⟩
abbrev zMa (K:List PA->Prop) (w:web) (node:Int) (X:St->Prop) (P:Int->Tab->Tab->Bool) (S:Int->Tab->Tab->Tab):Prop:=∀ ⦃za7:Int⦄ ⦃t4t0:Tab⦄ ⦃dt0:Tab⦄,P za7 t4t0 dt0=true->K (e75 (S za7 t4t0 dt0))->X (zFs w node za7 t4t0 dt0)
def zFt (w:web) (zaM:Bool) (t4t2:Tab) (dt2:Tab):St:=⟨[(0,zP (.fp (zaF w) 0)),(4,zp 4 0),(5,zp 5 0),(7,zp 7 0)],[(4,.box 116 (zm (zau t4t2))),(5,.box 116 (zm (zau dt2))),(7,.box 4 [.p (.bool zaM)])],[]⟩
abbrev zHA (K:List PA->Prop) (w:web) (X:St->Prop) (P:Bool->Tab->Tab->Bool) (S:Bool->Tab->Tab->Tab):Prop:=∀ ⦃zaM:Bool⦄ ⦃t4t2:Tab⦄ ⦃dt2:Tab⦄,P zaM t4t2 dt2=true->K (e75 (S zaM t4t2 dt2))->X (zFt w zaM t4t2 dt2)
def zyW (w:web) (zay:Bool) (t4t3:Tab) (dt3:Tab):St:=⟨[(0,zP (.fp (zaF w) 0)),(4,zp 4 0),(5,zp 5 0),(7,zp 7 0),(22,zP (.fn 110 [] [.fp [.fp (zaF w) 0] 0]))],[(4,.box 116 (zm (zau t4t3))),(5,.box 116 (zm (zau dt3))),(7,.box 4 [.p (.bool zay)])],[]⟩
abbrev zMb (K:List PA->Prop) (w:web) (X:St->Prop) (P:Bool->Tab->Tab->Bool) (S:Bool->Tab->Tab->Tab):Prop:=∀ ⦃zay:Bool⦄ ⦃t4t3:Tab⦄ ⦃dt3:Tab⦄,P zay t4t3 dt3=true->K (e75 (S zay t4t3 dt3))->X (zyW w zay t4t3 dt3)
section
variable {K:List PA->Prop}{w:web}{node:Int}{za7:Int}{t4t0:Tab}{dt0:Tab}{X0:St->Prop}{P0:Int->Tab->Tab->Bool}{S0:Int->Tab->Tab->Tab}{t4t1:Tab}{dt1:Tab}{zaM:Bool}{t4t2:Tab}{dt2:Tab}{X2:St->Prop}{P2:Bool->Tab->Tab->Bool}{S2:Bool->Tab->Tab->Tab}{zay:Bool}{t4t3:Tab}{dt3:Tab}
def zHB (S2:Bool->Tab->Tab->Tab) (w:web) (zay:Bool) (t4t3:Tab) (dt3:Tab):Tab :=
  (S2 zay t4t3 dt3)
def zHC (P2:Bool->Tab->Tab->Bool) (w:web) (zay:Bool) (t4t3:Tab) (dt3:Tab):Bool :=
  (P2 zay t4t3 dt3)
def zop (S2:Bool->Tab->Tab->Tab) (w:web) (y3:step) (S3:Bool->Tab->Tab->Tab) (zay:Bool) (t4t3:Tab) (dt3:Tab):Tab :=
  (cond (nvr (tL dt3 y3.to) (tU dt3 y3.to))
 (S3 zay t4t3 dt3)
 (cond zay
 (S3 true t4t3 (ts 80 dt3 (0+y3.from_.toNat * 2+0) [(zc8 (⟨(tL dt3 y3.from_),(tU dt3 y3.from_)⟩:far) (⟨1,λ _=>(⟨(w64 ((tL dt3 y3.to)+y3.length)),(w64 ((tV dt3 y3.to)+(1:Int)))⟩:far)⟩:(Sl far))).length,(zc8 (⟨(tL dt3 y3.from_),(tU dt3 y3.from_)⟩:far) (⟨1,λ _=>(⟨(w64 ((tL dt3 y3.to)+y3.length)),(w64 ((tV dt3 y3.to)+(1:Int)))⟩:far)⟩:(Sl far))).uses]))
 (S3 (!(match ((zc8 (⟨(tL dt3 y3.from_),(tU dt3 y3.from_)⟩:far) (⟨1,λ _=>(⟨(w64 ((tL dt3 y3.to)+y3.length)),(w64 ((tV dt3 y3.to)+(1:Int)))⟩:far)⟩:(Sl far))).length == (tL dt3 y3.from_)) with | true=>(match ((zc8 (⟨(tL dt3 y3.from_),(tU dt3 y3.from_)⟩:far) (⟨1,λ _=>(⟨(w64 ((tL dt3 y3.to)+y3.length)),(w64 ((tV dt3 y3.to)+(1:Int)))⟩:far)⟩:(Sl far))).uses == (tU dt3 y3.from_)) with | true=>true | false=>false) | false=>false)) t4t3 (ts 80 dt3 (0+y3.from_.toNat * 2+0) [(zc8 (⟨(tL dt3 y3.from_),(tU dt3 y3.from_)⟩:far) (⟨1,λ _=>(⟨(w64 ((tL dt3 y3.to)+y3.length)),(w64 ((tV dt3 y3.to)+(1:Int)))⟩:far)⟩:(Sl far))).length,(zc8 (⟨(tL dt3 y3.from_),(tU dt3 y3.from_)⟩:far) (⟨1,λ _=>(⟨(w64 ((tL dt3 y3.to)+y3.length)),(w64 ((tV dt3 y3.to)+(1:Int)))⟩:far)⟩:(Sl far))).uses]))))
def zoq (P2:Bool->Tab->Tab->Bool) (w:web) (y3:step) (P3:Bool->Tab->Tab->Bool) (zay:Bool) (t4t3:Tab) (dt3:Tab):Bool :=
  (decide ((0≤y3.to/\y3.to < (40:Int))) &&
 (cond (nvr (tL dt3 y3.to) (tU dt3 y3.to))
 (P3 zay t4t3 dt3)
 (decide ((0≤y3.from_/\y3.from_ < (40:Int))) &&
 (decide ((0≤y3.to/\y3.to < (40:Int))) &&
 (decide ((0≤y3.to/\y3.to < (40:Int))) &&
 (decide ((zDV (⟨(tL dt3 y3.from_),(tU dt3 y3.from_)⟩:far) (⟨1,λ _=>(⟨(w64 ((tL dt3 y3.to)+y3.length)),(w64 ((tV dt3 y3.to)+(1:Int)))⟩:far)⟩:(Sl far))=true)) &&
 (cond zay
 (decide ((0≤y3.from_/\y3.from_ < (40:Int))) &&
 (P3 true t4t3 (ts 80 dt3 (0+y3.from_.toNat * 2+0) [(zc8 (⟨(tL dt3 y3.from_),(tU dt3 y3.from_)⟩:far) (⟨1,λ _=>(⟨(w64 ((tL dt3 y3.to)+y3.length)),(w64 ((tV dt3 y3.to)+(1:Int)))⟩:far)⟩:(Sl far))).length,(zc8 (⟨(tL dt3 y3.from_),(tU dt3 y3.from_)⟩:far) (⟨1,λ _=>(⟨(w64 ((tL dt3 y3.to)+y3.length)),(w64 ((tV dt3 y3.to)+(1:Int)))⟩:far)⟩:(Sl far))).uses])))
 (decide ((0≤y3.from_/\y3.from_ < (40:Int))) &&
 (decide ((0≤y3.from_/\y3.from_ < (40:Int))) &&
 (P3 (!(match ((zc8 (⟨(tL dt3 y3.from_),(tU dt3 y3.from_)⟩:far) (⟨1,λ _=>(⟨(w64 ((tL dt3 y3.to)+y3.length)),(w64 ((tV dt3 y3.to)+(1:Int)))⟩:far)⟩:(Sl far))).length == (tL dt3 y3.from_)) with | true=>(match ((zc8 (⟨(tL dt3 y3.from_),(tU dt3 y3.from_)⟩:far) (⟨1,λ _=>(⟨(w64 ((tL dt3 y3.to)+y3.length)),(w64 ((tV dt3 y3.to)+(1:Int)))⟩:far)⟩:(Sl far))).uses == (tU dt3 y3.from_)) with | true=>true | false=>false) | false=>false)) t4t3 (ts 80 dt3 (0+y3.from_.toNat * 2+0) [(zc8 (⟨(tL dt3 y3.from_),(tU dt3 y3.from_)⟩:far) (⟨1,λ _=>(⟨(w64 ((tL dt3 y3.to)+y3.length)),(w64 ((tV dt3 y3.to)+(1:Int)))⟩:far)⟩:(Sl far))).length,(zc8 (⟨(tL dt3 y3.from_),(tU dt3 y3.from_)⟩:far) (⟨1,λ _=>(⟨(w64 ((tL dt3 y3.to)+y3.length)),(w64 ((tV dt3 y3.to)+(1:Int)))⟩:far)⟩:(Sl far))).uses])))))))))))
def zor (S2:Bool->Tab->Tab->Tab) (w:web):List step->Bool->Tab->Tab->Tab:=lpR (zHB S2 w) (zop S2 w)
def zos (P2:Bool->Tab->Tab->Bool) (w:web):List step->Bool->Tab->Tab->Bool:=lpR (zHC P2 w) (zoq P2 w)
def zsy (S2:Bool->Tab->Tab->Tab) (w:web) (zay:Bool) (t4t3:Tab) (dt3:Tab):Tab:=zor S2 w (zl4 w) zay t4t3 dt3
def zsz (P2:Bool->Tab->Tab->Bool) (w:web) (zay:Bool) (t4t3:Tab) (dt3:Tab):Bool:=decide ((zw0 w=true)) && zos P2 w (zl4 w) zay t4t3 dt3
theorem zHD (hX2:zHA K w X2 P2 S2) (hs:zsz P2 w zay t4t3 dt3=true) (hk:K (e75 (zsy S2 w zay t4t3 dt3))):z75 K [1,1,1,1,0,1,0,0,1,0,0,1,1,0] [X2] (zyW w zay t4t3 dt3) :=
  zaL hs λ hc hs=>zr (enc:=(λ y:step=>[.agg (zaD y)])) (ys:=zl4 w) (g:=(zyW w zay t4t3 dt3)) (x75 K [1,1,1,1,0,1,0,0,1,0,0,1,1,0] [X2]) (y75 K [1,1,1,1,0,1,0,0,1,0,0,1,1,0] [X2]) (by kernel_rfl) (And.intro (zE zai 4 w.Net.Ties.get) (And.intro (rfl:((false,1,false,[none]):MQ)=(false,1,false,[none])) hc)) λ X3 hE hR =>
  (show ∀ l : List step, zMb K w (X3 (l.map (λ y : step => [.agg (zaD y)]))) (zos P2 w l) (zor S2 w l) from zri (X := X3) (enc := (λ y : step => [.agg (zaD y)])) _ _ (zoq P2 w) (zop S2 w) (λ Z P S => zMb K w Z P S)
 (by intro zay t4t3 dt3 hs hk;exact hE _ (zaR (by kernel_rfl) (hX2 hs hk)))
 (by intro y3 rest P3 S3 hX3 zay t4t3 dt3 hs hk;exact hR _ rest _ (zaR (by kernel_rfl) (zaL hs λ hc hs=>And.intro hc (zc hs hk (λ hs hk=>(hX3 hs hk)) (λ hs hk=>(zaL hs λ hc hs=>And.intro hc (zaL hs λ hc hs=>And.intro hc (zaL hs λ hc hs=>And.intro hc (zaL hs λ hc hs=>And.intro (And.intro (zyz:IsE zcp 2 2 (λ _=>(zcp (⟨(w64 ((tL dt3 y3.to)+y3.length)),(w64 ((tV dt3 y3.to)+(1:Int)))⟩:far)))) hc) (zc hs hk (λ hs hk=>(zaL hs λ hc hs=>And.intro hc (hX3 hs hk))) (λ hs hk=>(zaL hs λ hc hs=>And.intro hc (zaL hs λ hc hs=>And.intro hc (hX3 hs hk))))))))))))))) _ hs hk
def zot (w:web) (S2:Bool->Tab->Tab->Tab) (zaM:Bool) (t4t2:Tab) (dt2:Tab):Tab :=
  (cond zaM
 (zsy S2 w false t4t2 dt2)
 dt2)
def zou (w:web) (P2:Bool->Tab->Tab->Bool) (zaM:Bool) (t4t2:Tab) (dt2:Tab):Bool :=
  (cond zaM
 (zsz P2 w false t4t2 dt2)
 true)
def zgo (w:web):Nat->Bool->Tab->Tab->Tab:=lpO (λ _ _ _=>default) (zot w)
def zgp (w:web):Nat->Bool->Tab->Tab->Bool:=lpO (λ _ _ _=>false) (zou w)
def zsA (w:web) (zaM:Bool) (t4t2:Tab) (dt2:Tab):Tab:=zgo w Fuel zaM t4t2 dt2
def zsB (w:web) (zaM:Bool) (t4t2:Tab) (dt2:Tab):Bool:=zgp w Fuel zaM t4t2 dt2
theorem zHE (hs:zsB w zaM t4t2 dt2=true) (hk:K (e75 (zsA w zaM t4t2 dt2))):z75 K [1,1,1,1,0,1,0] [] (zFt w zaM t4t2 dt2) :=
  zl (λ X=>z75 K [1,1,1,1,0,1,0,0] [X]) (by kernel_rfl) λ X2 hX =>
  (show ∀ k, zHA K w X2 (zgp w k) (zgo w k) from zdU _ _ (zou w) (zot w) (zHA K w X2)
 (by intro _ _ _ hs;exact absurd hs Bool.false_ne_true)
 (by intro P2 S2 hX2 zaM t4t2 dt2 hs hk;exact hX _ (zaR (by kernel_rfl) (zc hs hk (λ hs hk=>(And.intro (And.intro (zE zai 4 w.Net.Ties.get) (rfl:((false,1,false,[none]):MQ)=(false,1,false,[none]))) (zHD hX2 hs hk))) (λ hs hk=>hk))))) _ hs hk
def zov (w:web) (node:Int) (t4t1:Tab) (dt1:Tab):Tab :=
  (zsA w true t4t1 (ts 80 dt1 (0+node.toNat * 2+0) [(0:Int),(0:Int)]))
def zow (w:web) (node:Int) (t4t1:Tab) (dt1:Tab):Bool :=
  (decide ((0≤node/\node < (40:Int))) &&
 (zsB w true t4t1 (ts 80 dt1 (0+node.toNat * 2+0) [(0:Int),(0:Int)])))
theorem zHF (hs:zow w node t4t1 dt1=true) (hk:K (e75 (zov w node t4t1 dt1))):z75 K [1,1,1] [] ⟨[(0,zP (.fp (zaF w) 0)),(1,zI node),(4,zp 4 0),(5,zp 5 0)],[(4,.box 116 (zm (zau t4t1))),(5,.box 116 (zm (zau dt1)))],[]⟩:=zaR (by kernel_rfl) (zaL hs λ hc hs=>And.intro hc (zHE hs hk))
def zji (w:web) (node:Int) (S0:Int->Tab->Tab->Tab) (za7:Int) (t4t0:Tab) (dt0:Tab):Tab :=
  (cond (decide (za7 < (40:Int)))
 (S0 (w64 (za7+(1:Int))) t4t0 (ts 80 dt0 (0+za7.toNat * 2+0) [(1000000000000:Int),(0:Int)]))
 (zov w node t4t0 dt0))
def zjj (w:web) (node:Int) (P0:Int->Tab->Tab->Bool) (za7:Int) (t4t0:Tab) (dt0:Tab):Bool :=
  (cond (decide (za7 < (40:Int)))
 (decide ((0≤za7/\za7 < (40:Int))) &&
 (P0 (w64 (za7+(1:Int))) t4t0 (ts 80 dt0 (0+za7.toNat * 2+0) [(1000000000000:Int),(0:Int)])))
 (zow w node t4t0 dt0))
def zjk (w:web) (node:Int):Nat->Int->Tab->Tab->Tab:=lpO (λ _ _ _=>default) (zji w node)
def zjl (w:web) (node:Int):Nat->Int->Tab->Tab->Bool:=lpO (λ _ _ _=>false) (zjj w node)
def zyX (w:web) (node:Int) (za7:Int) (t4t0:Tab) (dt0:Tab):Tab:=zjk w node Fuel za7 t4t0 dt0
def zyY (w:web) (node:Int) (za7:Int) (t4t0:Tab) (dt0:Tab):Bool:=zjl w node Fuel za7 t4t0 dt0
theorem zHG (hs:zyY w node za7 t4t0 dt0=true) (hk:K (e75 (zyX w node za7 t4t0 dt0))):z75 K [1,1,0,1,0] [] (zFs w node za7 t4t0 dt0) :=
  zl (λ X=>z75 K [1,1,0,1,0,0] [X]) (by kernel_rfl) λ X0 hX =>
  (show ∀ k, zMa K w node X0 (zjl w node k) (zjk w node k) from zdU _ _ (zjj w node) (zji w node) (zMa K w node X0)
 (by intro _ _ _ hs;exact absurd hs Bool.false_ne_true)
 (by intro P0 S0 hX0 za7 t4t0 dt0 hs hk;exact hX _ (zaR (by kernel_rfl) (zc hs hk (λ hs hk=>(zaL hs λ hc hs=>And.intro hc (hX0 hs hk))) (λ hs hk=>(zHF hs hk)))))) _ hs hk
def s75 (w:web) (node:Int):Tab :=
  (zyX w node (0:Int) (λ _=>(0:Int)) (λ _=>(0:Int)))
def p75 (w:web) (node:Int):Bool :=
  (zyY w node (0:Int) (λ _=>(0:Int)) (λ _=>(0:Int)))
end
theorem q75 (w:web) (node:Int) (K:List PA->Prop) (hs:p75 w node=true) (hk:K (e75 (s75 w node))):vcFun Tryd.prog G75 zyV 75 [.one (.fp (zaF w) 0),.one (.int .i64 node)] K :=
  zaR (by kernel_rfl) (zHG hs hk)
def zyZ : List PA → COut
  | [.one (.fp [.int .i64 zas,.sl zam zaK zan,.fm zbw zaN zaO] 0),.one (.int .i64 a1)]=>.det (IsE zai 4 zaK zan/\zbw=(false,1,false,[none])/\p75 (⟨(⟨zas,(⟨zam,zaq zan⟩:(Sl Tie))⟩:Net),(⟨zaN,zaO⟩:Mp)⟩:web) a1=true) [.agg (zau ((s75 (⟨(⟨zas,(⟨zam,zaq zan⟩:(Sl Tie))⟩:Net),(⟨zaN,zaO⟩:Mp)⟩:web) a1)))]
  | _=>.no
theorem zMc:zaw Tryd.prog 75:=⟨_,rfl,rfl,by kernel_rfl⟩
theorem zOy:Ok Tryd.prog 75 zyZ:=zbv zOx zMc λ args K h=>by
  unfold zyZ at h
  split at h
  · rename_i zas zam zaK zan zbw zaN zaO a1
    obtain⟨⟨⟨rfl,zaC,rfl⟩,rfl,hs⟩,hk⟩:=h
    try rw[zat zaC] at hs
    try rw[zat zaC] at hk
    exact⟨(λ _ _=>[]),(λ _=>false),zyV,q75 (⟨(⟨zas,(⟨zam,zaC⟩:(Sl Tie))⟩:Net),(⟨zaN,zaO⟩:Mp)⟩:web) a1 K hs hk⟩
  · exact h.elim
abbrev T76:Tabs:=(((Tabs.nil.addF 93 zqP).addF 104 zqS).addI 110 zqR)
theorem zOz:TabsOk Tryd.prog T76:=(((TabsOk.nil.addF zKX).addF zHy).addI zwM)
abbrev G76:Ctrs:=csm T76 (λ _ _=>[]) (λ _=>false)
def zy0:Ann:=⟨66,[(0,zK [0,1,4] [4]),(1,zK [0,1,4,5] [4,5]),(2,zK [0,1,4,5,10] [4,5]),(3,zK [0,1,4,5,10,11] [4,5]),(4,zK [0,1,4,5,6,10] [4,5]),(5,zK [0,1,4,5,10] [4,5]),(6,zK [0,1,4,5,10] [4,5]),(7,zK [0,4,5] [4,5]),(8,zK [0,4,5,7] [4,5,7]),(9,zK [0,4,5,7,20] [4,5,7]),(10,zK [0,4,5,7] [4,5,7]),(11,zK [0,4,5,7,22] [4,5,7]),(12,zK [0,4,5,7,8,22] [4,5,7,8]),(13,zK [0,4,5,7,8,22,29] [4,5,7,8]),(14,zK [0,4,5,7,8,9,22] [4,5,7,8,9]),(15,zK [0,4,5,7,8,9,22] [4,5,7,8,9]),(16,zK [0,4,5,7,22] [4,5,7]),(17,zK [0,4,5,64] [4,5]),(18,zK [0,4,5,7] [4,5,7]),(19,zK [4] [4])],
 [(3,zK [0,1,4,5,10] [4,5]),(9,zK [0,4,5,7] [4,5,7]),(12,zK [0,4,5,7,22] [4,5,7])],
 [(7,zK [0,1,4,5] [4,5])],
 [],[]⟩
abbrev R76:=Tab
abbrev e76 (r:R76):List PA:=[.agg (zau r)]
@[irreducible] def z76:=ptF Tryd.prog G76 zy0 Tryd.f76
@[irreducible] def x76:=exF Tryd.prog G76 zy0 Tryd.f76
@[irreducible] def y76:=rnF Tryd.prog G76 zy0 Tryd.f76
def zFu (w:web) (node:Int) (za7:Int) (t4t0:Tab) (dt0:Tab):St:=⟨[(0,zP (.fp (zaF w) 0)),(1,zI node),(4,zp 4 0),(5,zp 5 0),(10,zI za7)],[(4,.box 116 (zm (zau t4t0))),(5,.box 116 (zm (zau dt0)))],[]⟩
abbrev zMd (K:List PA->Prop) (w:web) (node:Int) (X:St->Prop) (P:Int->Tab->Tab->Bool) (S:Int->Tab->Tab->Tab):Prop:=∀ ⦃za7:Int⦄ ⦃t4t0:Tab⦄ ⦃dt0:Tab⦄,P za7 t4t0 dt0=true->K (e76 (S za7 t4t0 dt0))->X (zFu w node za7 t4t0 dt0)
def zFv (w:web) (zaM:Bool) (t4t2:Tab) (dt2:Tab):St:=⟨[(0,zP (.fp (zaF w) 0)),(4,zp 4 0),(5,zp 5 0),(7,zp 7 0)],[(4,.box 116 (zm (zau t4t2))),(5,.box 116 (zm (zau dt2))),(7,.box 4 [.p (.bool zaM)])],[]⟩
abbrev zHH (K:List PA->Prop) (w:web) (X:St->Prop) (P:Bool->Tab->Tab->Bool) (S:Bool->Tab->Tab->Tab):Prop:=∀ ⦃zaM:Bool⦄ ⦃t4t2:Tab⦄ ⦃dt2:Tab⦄,P zaM t4t2 dt2=true->K (e76 (S zaM t4t2 dt2))->X (zFv w zaM t4t2 dt2)
def zy1 (w:web) (zay:Bool) (t4t3:Tab) (dt3:Tab):St:=⟨[(0,zP (.fp (zaF w) 0)),(4,zp 4 0),(5,zp 5 0),(7,zp 7 0),(22,zP (.fn 110 [] [.fp [.fp (zaF w) 0] 0]))],[(4,.box 116 (zm (zau t4t3))),(5,.box 116 (zm (zau dt3))),(7,.box 4 [.p (.bool zay)])],[]⟩
abbrev zMe (K:List PA->Prop) (w:web) (X:St->Prop) (P:Bool->Tab->Tab->Bool) (S:Bool->Tab->Tab->Tab):Prop:=∀ ⦃zay:Bool⦄ ⦃t4t3:Tab⦄ ⦃dt3:Tab⦄,P zay t4t3 dt3=true->K (e76 (S zay t4t3 dt3))->X (zy1 w zay t4t3 dt3)
section
variable {K:List PA->Prop}{w:web}{node:Int}{za7:Int}{t4t0:Tab}{dt0:Tab}{X0:St->Prop}{P0:Int->Tab->Tab->Bool}{S0:Int->Tab->Tab->Tab}{t4t1:Tab}{dt1:Tab}{zaM:Bool}{t4t2:Tab}{dt2:Tab}{X2:St->Prop}{P2:Bool->Tab->Tab->Bool}{S2:Bool->Tab->Tab->Tab}{zay:Bool}{t4t3:Tab}{dt3:Tab}
def zHI (S2:Bool->Tab->Tab->Tab) (w:web) (zay:Bool) (t4t3:Tab) (dt3:Tab):Tab :=
  (S2 zay t4t3 dt3)
def zHJ (P2:Bool->Tab->Tab->Bool) (w:web) (zay:Bool) (t4t3:Tab) (dt3:Tab):Bool :=
  (P2 zay t4t3 dt3)
def zox (S2:Bool->Tab->Tab->Tab) (w:web) (y3:step) (S3:Bool->Tab->Tab->Tab) (zay:Bool) (t4t3:Tab) (dt3:Tab):Tab :=
  (cond (nvr (tL dt3 y3.from_) (tU dt3 y3.from_))
 (S3 zay t4t3 dt3)
 (cond zay
 (S3 true t4t3 (ts 80 dt3 (0+y3.to.toNat * 2+0) [(zc8 (⟨(tL dt3 y3.to),(tU dt3 y3.to)⟩:far) (⟨1,λ _=>(⟨(w64 ((tL dt3 y3.from_)+y3.length)),(w64 ((tV dt3 y3.from_)+(1:Int)))⟩:far)⟩:(Sl far))).length,(zc8 (⟨(tL dt3 y3.to),(tU dt3 y3.to)⟩:far) (⟨1,λ _=>(⟨(w64 ((tL dt3 y3.from_)+y3.length)),(w64 ((tV dt3 y3.from_)+(1:Int)))⟩:far)⟩:(Sl far))).uses]))
 (S3 (!(match ((zc8 (⟨(tL dt3 y3.to),(tU dt3 y3.to)⟩:far) (⟨1,λ _=>(⟨(w64 ((tL dt3 y3.from_)+y3.length)),(w64 ((tV dt3 y3.from_)+(1:Int)))⟩:far)⟩:(Sl far))).length == (tL dt3 y3.to)) with | true=>(match ((zc8 (⟨(tL dt3 y3.to),(tU dt3 y3.to)⟩:far) (⟨1,λ _=>(⟨(w64 ((tL dt3 y3.from_)+y3.length)),(w64 ((tV dt3 y3.from_)+(1:Int)))⟩:far)⟩:(Sl far))).uses == (tU dt3 y3.to)) with | true=>true | false=>false) | false=>false)) t4t3 (ts 80 dt3 (0+y3.to.toNat * 2+0) [(zc8 (⟨(tL dt3 y3.to),(tU dt3 y3.to)⟩:far) (⟨1,λ _=>(⟨(w64 ((tL dt3 y3.from_)+y3.length)),(w64 ((tV dt3 y3.from_)+(1:Int)))⟩:far)⟩:(Sl far))).length,(zc8 (⟨(tL dt3 y3.to),(tU dt3 y3.to)⟩:far) (⟨1,λ _=>(⟨(w64 ((tL dt3 y3.from_)+y3.length)),(w64 ((tV dt3 y3.from_)+(1:Int)))⟩:far)⟩:(Sl far))).uses]))))
def zoy (P2:Bool->Tab->Tab->Bool) (w:web) (y3:step) (P3:Bool->Tab->Tab->Bool) (zay:Bool) (t4t3:Tab) (dt3:Tab):Bool :=
  (decide ((0≤y3.from_/\y3.from_ < (40:Int))) &&
 (cond (nvr (tL dt3 y3.from_) (tU dt3 y3.from_))
 (P3 zay t4t3 dt3)
 (decide ((0≤y3.to/\y3.to < (40:Int))) &&
 (decide ((0≤y3.from_/\y3.from_ < (40:Int))) &&
 (decide ((0≤y3.from_/\y3.from_ < (40:Int))) &&
 (decide ((zDV (⟨(tL dt3 y3.to),(tU dt3 y3.to)⟩:far) (⟨1,λ _=>(⟨(w64 ((tL dt3 y3.from_)+y3.length)),(w64 ((tV dt3 y3.from_)+(1:Int)))⟩:far)⟩:(Sl far))=true)) &&
 (cond zay
 (decide ((0≤y3.to/\y3.to < (40:Int))) &&
 (P3 true t4t3 (ts 80 dt3 (0+y3.to.toNat * 2+0) [(zc8 (⟨(tL dt3 y3.to),(tU dt3 y3.to)⟩:far) (⟨1,λ _=>(⟨(w64 ((tL dt3 y3.from_)+y3.length)),(w64 ((tV dt3 y3.from_)+(1:Int)))⟩:far)⟩:(Sl far))).length,(zc8 (⟨(tL dt3 y3.to),(tU dt3 y3.to)⟩:far) (⟨1,λ _=>(⟨(w64 ((tL dt3 y3.from_)+y3.length)),(w64 ((tV dt3 y3.from_)+(1:Int)))⟩:far)⟩:(Sl far))).uses])))
 (decide ((0≤y3.to/\y3.to < (40:Int))) &&
 (decide ((0≤y3.to/\y3.to < (40:Int))) &&
 (P3 (!(match ((zc8 (⟨(tL dt3 y3.to),(tU dt3 y3.to)⟩:far) (⟨1,λ _=>(⟨(w64 ((tL dt3 y3.from_)+y3.length)),(w64 ((tV dt3 y3.from_)+(1:Int)))⟩:far)⟩:(Sl far))).length == (tL dt3 y3.to)) with | true=>(match ((zc8 (⟨(tL dt3 y3.to),(tU dt3 y3.to)⟩:far) (⟨1,λ _=>(⟨(w64 ((tL dt3 y3.from_)+y3.length)),(w64 ((tV dt3 y3.from_)+(1:Int)))⟩:far)⟩:(Sl far))).uses == (tU dt3 y3.to)) with | true=>true | false=>false) | false=>false)) t4t3 (ts 80 dt3 (0+y3.to.toNat * 2+0) [(zc8 (⟨(tL dt3 y3.to),(tU dt3 y3.to)⟩:far) (⟨1,λ _=>(⟨(w64 ((tL dt3 y3.from_)+y3.length)),(w64 ((tV dt3 y3.from_)+(1:Int)))⟩:far)⟩:(Sl far))).length,(zc8 (⟨(tL dt3 y3.to),(tU dt3 y3.to)⟩:far) (⟨1,λ _=>(⟨(w64 ((tL dt3 y3.from_)+y3.length)),(w64 ((tV dt3 y3.from_)+(1:Int)))⟩:far)⟩:(Sl far))).uses])))))))))))
def zoz (S2:Bool->Tab->Tab->Tab) (w:web):List step->Bool->Tab->Tab->Tab:=lpR (zHI S2 w) (zox S2 w)
def zoA (P2:Bool->Tab->Tab->Bool) (w:web):List step->Bool->Tab->Tab->Bool:=lpR (zHJ P2 w) (zoy P2 w)
def zsC (S2:Bool->Tab->Tab->Tab) (w:web) (zay:Bool) (t4t3:Tab) (dt3:Tab):Tab:=zoz S2 w (zl4 w) zay t4t3 dt3
def zsD (P2:Bool->Tab->Tab->Bool) (w:web) (zay:Bool) (t4t3:Tab) (dt3:Tab):Bool:=decide ((zw0 w=true)) && zoA P2 w (zl4 w) zay t4t3 dt3
theorem zHK (hX2:zHH K w X2 P2 S2) (hs:zsD P2 w zay t4t3 dt3=true) (hk:K (e76 (zsC S2 w zay t4t3 dt3))):z76 K [1,1,1,1,0,1,0,0,1,0,0,1,1,0] [X2] (zy1 w zay t4t3 dt3) :=
  zaL hs λ hc hs=>zr (enc:=(λ y:step=>[.agg (zaD y)])) (ys:=zl4 w) (g:=(zy1 w zay t4t3 dt3)) (x76 K [1,1,1,1,0,1,0,0,1,0,0,1,1,0] [X2]) (y76 K [1,1,1,1,0,1,0,0,1,0,0,1,1,0] [X2]) (by kernel_rfl) (And.intro (zE zai 4 w.Net.Ties.get) (And.intro (rfl:((false,1,false,[none]):MQ)=(false,1,false,[none])) hc)) λ X3 hE hR =>
  (show ∀ l : List step, zMe K w (X3 (l.map (λ y : step => [.agg (zaD y)]))) (zoA P2 w l) (zoz S2 w l) from zri (X := X3) (enc := (λ y : step => [.agg (zaD y)])) _ _ (zoy P2 w) (zox S2 w) (λ Z P S => zMe K w Z P S)
 (by intro zay t4t3 dt3 hs hk;exact hE _ (zaR (by kernel_rfl) (hX2 hs hk)))
 (by intro y3 rest P3 S3 hX3 zay t4t3 dt3 hs hk;exact hR _ rest _ (zaR (by kernel_rfl) (zaL hs λ hc hs=>And.intro hc (zc hs hk (λ hs hk=>(hX3 hs hk)) (λ hs hk=>(zaL hs λ hc hs=>And.intro hc (zaL hs λ hc hs=>And.intro hc (zaL hs λ hc hs=>And.intro hc (zaL hs λ hc hs=>And.intro (And.intro (zyz:IsE zcp 2 2 (λ _=>(zcp (⟨(w64 ((tL dt3 y3.from_)+y3.length)),(w64 ((tV dt3 y3.from_)+(1:Int)))⟩:far)))) hc) (zc hs hk (λ hs hk=>(zaL hs λ hc hs=>And.intro hc (hX3 hs hk))) (λ hs hk=>(zaL hs λ hc hs=>And.intro hc (zaL hs λ hc hs=>And.intro hc (hX3 hs hk))))))))))))))) _ hs hk
def zoB (w:web) (S2:Bool->Tab->Tab->Tab) (zaM:Bool) (t4t2:Tab) (dt2:Tab):Tab :=
  (cond zaM
 (zsC S2 w false t4t2 dt2)
 dt2)
def zoC (w:web) (P2:Bool->Tab->Tab->Bool) (zaM:Bool) (t4t2:Tab) (dt2:Tab):Bool :=
  (cond zaM
 (zsD P2 w false t4t2 dt2)
 true)
def zgq (w:web):Nat->Bool->Tab->Tab->Tab:=lpO (λ _ _ _=>default) (zoB w)
def zgr (w:web):Nat->Bool->Tab->Tab->Bool:=lpO (λ _ _ _=>false) (zoC w)
def zsE (w:web) (zaM:Bool) (t4t2:Tab) (dt2:Tab):Tab:=zgq w Fuel zaM t4t2 dt2
def zsF (w:web) (zaM:Bool) (t4t2:Tab) (dt2:Tab):Bool:=zgr w Fuel zaM t4t2 dt2
theorem zHL (hs:zsF w zaM t4t2 dt2=true) (hk:K (e76 (zsE w zaM t4t2 dt2))):z76 K [1,1,1,1,0,1,0] [] (zFv w zaM t4t2 dt2) :=
  zl (λ X=>z76 K [1,1,1,1,0,1,0,0] [X]) (by kernel_rfl) λ X2 hX =>
  (show ∀ k, zHH K w X2 (zgr w k) (zgq w k) from zdU _ _ (zoC w) (zoB w) (zHH K w X2)
 (by intro _ _ _ hs;exact absurd hs Bool.false_ne_true)
 (by intro P2 S2 hX2 zaM t4t2 dt2 hs hk;exact hX _ (zaR (by kernel_rfl) (zc hs hk (λ hs hk=>(And.intro (And.intro (zE zai 4 w.Net.Ties.get) (rfl:((false,1,false,[none]):MQ)=(false,1,false,[none]))) (zHK hX2 hs hk))) (λ hs hk=>hk))))) _ hs hk
def zoD (w:web) (node:Int) (t4t1:Tab) (dt1:Tab):Tab :=
  (zsE w true t4t1 (ts 80 dt1 (0+node.toNat * 2+0) [(0:Int),(0:Int)]))
def zoE (w:web) (node:Int) (t4t1:Tab) (dt1:Tab):Bool :=
  (decide ((0≤node/\node < (40:Int))) &&
 (zsF w true t4t1 (ts 80 dt1 (0+node.toNat * 2+0) [(0:Int),(0:Int)])))
theorem zHM (hs:zoE w node t4t1 dt1=true) (hk:K (e76 (zoD w node t4t1 dt1))):z76 K [1,1,1] [] ⟨[(0,zP (.fp (zaF w) 0)),(1,zI node),(4,zp 4 0),(5,zp 5 0)],[(4,.box 116 (zm (zau t4t1))),(5,.box 116 (zm (zau dt1)))],[]⟩:=zaR (by kernel_rfl) (zaL hs λ hc hs=>And.intro hc (zHL hs hk))
def zjm (w:web) (node:Int) (S0:Int->Tab->Tab->Tab) (za7:Int) (t4t0:Tab) (dt0:Tab):Tab :=
  (cond (decide (za7 < (40:Int)))
 (S0 (w64 (za7+(1:Int))) t4t0 (ts 80 dt0 (0+za7.toNat * 2+0) [(1000000000000:Int),(0:Int)]))
 (zoD w node t4t0 dt0))
def zjn (w:web) (node:Int) (P0:Int->Tab->Tab->Bool) (za7:Int) (t4t0:Tab) (dt0:Tab):Bool :=
  (cond (decide (za7 < (40:Int)))
 (decide ((0≤za7/\za7 < (40:Int))) &&
 (P0 (w64 (za7+(1:Int))) t4t0 (ts 80 dt0 (0+za7.toNat * 2+0) [(1000000000000:Int),(0:Int)])))
 (zoE w node t4t0 dt0))
def zjo (w:web) (node:Int):Nat->Int->Tab->Tab->Tab:=lpO (λ _ _ _=>default) (zjm w node)
def zjq (w:web) (node:Int):Nat->Int->Tab->Tab->Bool:=lpO (λ _ _ _=>false) (zjn w node)
def zy2 (w:web) (node:Int) (za7:Int) (t4t0:Tab) (dt0:Tab):Tab:=zjo w node Fuel za7 t4t0 dt0
def zy3 (w:web) (node:Int) (za7:Int) (t4t0:Tab) (dt0:Tab):Bool:=zjq w node Fuel za7 t4t0 dt0
theorem zHN (hs:zy3 w node za7 t4t0 dt0=true) (hk:K (e76 (zy2 w node za7 t4t0 dt0))):z76 K [1,1,0,1,0] [] (zFu w node za7 t4t0 dt0) :=
  zl (λ X=>z76 K [1,1,0,1,0,0] [X]) (by kernel_rfl) λ X0 hX =>
  (show ∀ k, zMd K w node X0 (zjq w node k) (zjo w node k) from zdU _ _ (zjn w node) (zjm w node) (zMd K w node X0)
 (by intro _ _ _ hs;exact absurd hs Bool.false_ne_true)
 (by intro P0 S0 hX0 za7 t4t0 dt0 hs hk;exact hX _ (zaR (by kernel_rfl) (zc hs hk (λ hs hk=>(zaL hs λ hc hs=>And.intro hc (hX0 hs hk))) (λ hs hk=>(zHM hs hk)))))) _ hs hk
def s76 (w:web) (node:Int):Tab :=
  (zy2 w node (0:Int) (λ _=>(0:Int)) (λ _=>(0:Int)))
def p76 (w:web) (node:Int):Bool :=
  (zy3 w node (0:Int) (λ _=>(0:Int)) (λ _=>(0:Int)))
end
theorem q76 (w:web) (node:Int) (K:List PA->Prop) (hs:p76 w node=true) (hk:K (e76 (s76 w node))):vcFun Tryd.prog G76 zy0 76 [.one (.fp (zaF w) 0),.one (.int .i64 node)] K :=
  zaR (by kernel_rfl) (zHN hs hk)
def zy4 : List PA → COut
  | [.one (.fp [.int .i64 zas,.sl zam zaK zan,.fm zbw zaN zaO] 0),.one (.int .i64 a1)]=>.det (IsE zai 4 zaK zan/\zbw=(false,1,false,[none])/\p76 (⟨(⟨zas,(⟨zam,zaq zan⟩:(Sl Tie))⟩:Net),(⟨zaN,zaO⟩:Mp)⟩:web) a1=true) [.agg (zau ((s76 (⟨(⟨zas,(⟨zam,zaq zan⟩:(Sl Tie))⟩:Net),(⟨zaN,zaO⟩:Mp)⟩:web) a1)))]
  | _=>.no
theorem zMf:zaw Tryd.prog 76:=⟨_,rfl,rfl,by kernel_rfl⟩
theorem zOA:Ok Tryd.prog 76 zy4:=zbv zOz zMf λ args K h=>by
  unfold zy4 at h
  split at h
  · rename_i zas zam zaK zan zbw zaN zaO a1
    obtain⟨⟨⟨rfl,zaC,rfl⟩,rfl,hs⟩,hk⟩:=h
    try rw[zat zaC] at hs
    try rw[zat zaC] at hk
    exact⟨(λ _ _=>[]),(λ _=>false),zy0,q76 (⟨(⟨zas,(⟨zam,zaC⟩:(Sl Tie))⟩:Net),(⟨zaN,zaO⟩:Mp)⟩:web) a1 K hs hk⟩
  · exact h.elim
abbrev T26:Tabs:=(((Tabs.nil.addF 74 zyQ).addF 75 zyZ).addF 76 zy4)
theorem zOB:TabsOk Tryd.prog T26:=(((TabsOk.nil.addF zOv).addF zOy).addF zOA)
abbrev G26:Ctrs:=csm T26 (λ _ _=>[]) (λ _=>false)
def zHO:Ann:=⟨45,[(0,zK [1] [1]),(1,zK [1,4,5] [1]),(2,zK [1,4,5,16] [1]),(3,zK [2,3] []),(4,zK [1,6,7] [1,6,7]),(5,zK [6,7,8] [6,7,24]),(6,zK [6,7,8,26,27] [6,7,24]),(7,zK [6,7,8,26,27,28] [6,7,24]),(8,zK [6,7,8,9,26,27] [6,7,24]),(9,zK [6,7,8,26,27] [6,7,24]),(10,zK [6,7,8,26,27] [6,7,24]),(11,zK [2,3] [24])],
 [(7,zK [6,7,8,26,27] [6,7,24])],
 [],
 [],[]⟩
abbrev R26:=((Sl Span)×Int)
abbrev e26 (r:R26):List PA:=[.one (.sl r.1.len 2 (λ i=>zbc (r.1.get i))),.one (.int .i64 r.2)]
@[irreducible] def z26:=ptF Tryd.prog G26 zHO Tryd.f26
def zFw (n:Net) (zct:Int) (zdi:(Sl Span)) (tot0:Tab) (fromt0:Tab) (zgs:Nat->List PV):St:=⟨[(6,zp 6 0),(7,zp 7 0),(8,zv 24),(26,zI (n.Nodes.toNat:Int)),(27,zI zct)],[(6,.box 116 (zm (zau tot0))),(7,.box 116 (zm (zau fromt0))),(24,.vec 43 2 16 zdi.len zgs)],[]⟩
abbrev zMg (K:List PA->Prop) (n:Net) (X:St->Prop) (P:Int->(Sl Span)->Tab->Tab->Bool) (S:Int->(Sl Span)->Tab->Tab->((Sl Span)×Int)):Prop:=∀ ⦃zct:Int⦄ ⦃zdi:(Sl Span)⦄ ⦃tot0:Tab⦄ ⦃fromt0:Tab⦄ ⦃zgs:Nat->List PV⦄,P zct zdi tot0 fromt0=true->K (e26 (S zct zdi tot0 fromt0))->zgs=zg zbc zdi->X (zFw n zct zdi tot0 fromt0 zgs)
section
variable {K:List PA->Prop}{n:Net}{zct:Int}{zdi:(Sl Span)}{tot0:Tab}{fromt0:Tab}{zgs:Nat->List PV}{X0:St->Prop}{P0:Int->(Sl Span)->Tab->Tab->Bool}{S0:Int->(Sl Span)->Tab->Tab->((Sl Span)×Int)}
def zjr (n:Net) (S0:Int->(Sl Span)->Tab->Tab->((Sl Span)×Int)) (zct:Int) (zdi:(Sl Span)) (tot0:Tab) (fromt0:Tab):((Sl Span)×Int) :=
  (cond (decide (zct < (n.Nodes.toNat : Int)))
 (S0 (w64 (zct+(1:Int))) (⟨zdi.len,(setT zct.toNat (⟨(w64 (0 - (tg 80 tot0 (0+zct.toNat * 2+0)))),(tg 80 fromt0 (0+zct.toNat * 2+0))⟩:Span) zdi.get)⟩:Sl Span) tot0 fromt0)
 (zdi,(0:Int)))
def zjs (n:Net) (P0:Int->(Sl Span)->Tab->Tab->Bool) (zct:Int) (zdi:(Sl Span)) (tot0:Tab) (fromt0:Tab):Bool :=
  (cond (decide (zct < (n.Nodes.toNat : Int)))
 (decide ((0≤zct/\zct < (40:Int))) &&
 (decide ((0≤zct/\zct < (40:Int))) &&
 (decide ((0≤zct/\zct < (zdi.len:Int))) &&
 (decide ((zct.toNat < zdi.len)) &&
 (P0 (w64 (zct+(1:Int))) (⟨zdi.len,(setT zct.toNat (⟨(w64 (0 - (tg 80 tot0 (0+zct.toNat * 2+0)))),(tg 80 fromt0 (0+zct.toNat * 2+0))⟩:Span) zdi.get)⟩:Sl Span) tot0 fromt0)))))
 true)
def zhL (n:Net):Nat->Int->(Sl Span)->Tab->Tab->((Sl Span)×Int):=lpO (λ _ _ _ _=>default) (zjr n)
def zhM (n:Net):Nat->Int->(Sl Span)->Tab->Tab->Bool:=lpO (λ _ _ _ _=>false) (zjs n)
def zy5 (n:Net) (zct:Int) (zdi:(Sl Span)) (tot0:Tab) (fromt0:Tab):((Sl Span)×Int):=zhL n Fuel zct zdi tot0 fromt0
def zsG (n:Net) (zct:Int) (zdi:(Sl Span)) (tot0:Tab) (fromt0:Tab):Bool:=zhM n Fuel zct zdi tot0 fromt0
theorem zHP (hs:zsG n zct zdi tot0 fromt0=true) (hk:K (e26 (zy5 n zct zdi tot0 fromt0))) (zsH:zgs=zg zbc zdi):z26 (Wk K) [1,1,1,1,1,0,1,0] [] (zFw n zct zdi tot0 fromt0 zgs) :=
  zl (λ X=>z26 (Wk K) [1,1,1,1,1,0,1,0,0] [X]) (by kernel_rfl) λ X0 hX =>
  (show ∀ k, zMg K n X0 (zhM n k) (zhL n k) from zdU _ _ (zjs n) (zjr n) (zMg K n X0)
 (by intro _ _ _ _ _ hs;exact absurd hs Bool.false_ne_true)
 (by intro P0 S0 hX0 zct zdi tot0 fromt0 zgs hs hk zsH;subst zsH;exact hX _ (zaR (by kernel_rfl) (zc hs hk (λ hs hk=>(zaL hs λ hc hs=>And.intro hc (zaL hs λ hc hs=>And.intro hc (zaL hs λ hc hs=>And.intro hc (zaL hs λ hc hs=>And.intro hc (hX0 hs hk (zl1 (enc:=zbc) (i:=zct.toNat) (k:=0) (f:=zdi.get) (new:=(zbc (⟨(w64 (0 - (tg 80 tot0 (0+zct.toNat * 2+0)))),(tg 80 fromt0 (0+zct.toNat * 2+0))⟩:Span))) (v:=(⟨(w64 (0 - (tg 80 tot0 (0+zct.toNat * 2+0)))),(tg 80 fromt0 (0+zct.toNat * 2+0))⟩:Span)) rfl rfl))))))) (λ hs hk=>((zfX hk):Wk K [.one (.sl zdi.len 2 (λ i=>zbc (zdi.get i))),.one (.int .i64 (0:Int))])))))) _ hs hk zsH
def s26 (n:Net):((Sl Span)×Int) :=
  (cond ((s74 n (⟨0, λ _ => default⟩ : (Sl Int))).2 == 0)
 (cond ((0:Int) != (0:Int))
 ((⟨0,λ _=>default⟩:(Sl Span)),(0:Int))
 (zy5 n (0:Int) (⟨n.Nodes.toNat,(λ _=>(⟨(0:Int),(0:Int)⟩:Span))⟩:Sl Span) (s75 (⟨(s74 n (⟨0,λ _=>default⟩:(Sl Int))).1.Net,((s74 n (⟨0,λ _=>default⟩:(Sl Int))).1.out)⟩:web) (0:Int)) (s76 (⟨(s74 n (⟨0,λ _=>default⟩:(Sl Int))).1.Net,((s74 n (⟨0,λ _=>default⟩:(Sl Int))).1.out)⟩:web) (0:Int))))
 (cond ((s74 n (⟨0, λ _ => default⟩ : (Sl Int))).2 != (0:Int))
 ((⟨0,λ _=>default⟩:(Sl Span)),(s74 n (⟨0,λ _=>default⟩:(Sl Int))).2)
 default))
def p26 (n:Net):Bool :=
  (cond ((s74 n (⟨0, λ _ => default⟩ : (Sl Int))).2 == 0)
 (decide ((p74 n (⟨0,λ _=>default⟩:(Sl Int))=true)) &&
 (cond ((0:Int) != (0:Int))
 true
 (decide ((p75 (⟨(s74 n (⟨0,λ _=>default⟩:(Sl Int))).1.Net,((s74 n (⟨0,λ _=>default⟩:(Sl Int))).1.out)⟩:web) (0:Int)=true)) &&
 (decide ((p76 (⟨(s74 n (⟨0,λ _=>default⟩:(Sl Int))).1.Net,((s74 n (⟨0,λ _=>default⟩:(Sl Int))).1.out)⟩:web) (0:Int)=true)) &&
 (decide ((0≤n.Nodes/\n.Nodes=n.Nodes/\n.Nodes≤1000000)) &&
 (zsG n (0:Int) (⟨n.Nodes.toNat,(λ _=>(⟨(0:Int),(0:Int)⟩:Span))⟩:Sl Span) (s75 (⟨(s74 n (⟨0,λ _=>default⟩:(Sl Int))).1.Net,((s74 n (⟨0,λ _=>default⟩:(Sl Int))).1.out)⟩:web) (0:Int)) (s76 (⟨(s74 n (⟨0,λ _=>default⟩:(Sl Int))).1.Net,((s74 n (⟨0,λ _=>default⟩:(Sl Int))).1.out)⟩:web) (0:Int))))))))
 (decide ((p74 n (⟨0,λ _=>default⟩:(Sl Int))=true)) &&
 (cond ((s74 n (⟨0, λ _ => default⟩ : (Sl Int))).2 != (0:Int))
 true
 false)))
end
theorem q26 (n:Net) (K:List PA->Prop) (hs:p26 n=true) (hk:K (e26 (s26 n))):vcFun Tryd.prog G26 zHO 26 [.agg (enc_24 n)] (Wk K) :=
  zaR (by kernel_rfl) (zc hs hk (λ hs hk=>(zaL hs λ hc hs=>And.intro (And.intro (zE zai 4 n.Ties.get) hc) (zc hs hk (λ hs hk=>((wk hk (zb8 (.one (.nil _ _)) (zb8 (.one (.rfl _)) zes))):Wk K [.one (.nils),.one (.int .i64 (0:Int))])) (λ hs hk=>(zaL hs λ hc hs=>And.intro (And.intro (zE zai 4 ((s74 n (⟨0,λ _=>default⟩:(Sl Int))).1.Net.Ties.get)) (And.intro (rfl:((false,1,false,[none]):MQ)=(false,1,false,[none])) hc)) (zaL hs λ hc hs=>And.intro (And.intro (zE zai 4 ((s74 n (⟨0,λ _=>default⟩:(Sl Int))).1.Net.Ties.get)) (And.intro (rfl:((false,1,false,[none]):MQ)=(false,1,false,[none])) hc)) (zaL hs λ hc hs=>And.intro hc (zHP hs hk rfl)))))))) (λ hs hk=>(zaL hs λ hc hs=>And.intro (And.intro (zE zai 4 n.Ties.get) hc) (zc hs hk (λ hs hk=>((wk hk (zb8 (.one (.nil _ _)) (zb8 (.one (.rfl _)) zes))):Wk K [.one (.nils),.one (.int .i64 ((s74 n (⟨0,λ _=>default⟩:(Sl Int))).2))])) (λ hs hk=>(absurd hs Bool.false_ne_true:False))))))
def zDW : List PA → COut
  | [.agg [.int .i64 zal,.sl zak zaI zaj]]=>.det (IsE zai 4 zaI zaj/\p26 (⟨zal,(⟨zak,zaq zaj⟩:(Sl Tie))⟩:Net)=true) [.one (.sl (((s26 (⟨zal,(⟨zak,zaq zaj⟩:(Sl Tie))⟩:Net)).1).len) 2 (λ i=>zbc (((s26 (⟨zal,(⟨zak,zaq zaj⟩:(Sl Tie))⟩:Net)).1).get i))),.one (.int .i64 ((s26 (⟨zal,(⟨zak,zaq zaj⟩:(Sl Tie))⟩:Net)).2))]
  | _=>.no
theorem zMh:zaw Tryd.prog 26:=⟨_,rfl,rfl,by kernel_rfl⟩
theorem zPZ:Ok Tryd.prog 26 zDW:=zgi zOB zMh λ args K h=>by
  unfold zDW at h
  split at h
  · rename_i zal zak zaI zaj
    obtain⟨⟨⟨rfl,zaB,rfl⟩,hs⟩,hk⟩:=h
    try rw[zat zaB] at hs
    try rw[zat zaB] at hk
    exact⟨_,zfd zfW _,(λ _ _=>[]),(λ _=>false),zHO,q26 (⟨zal,(⟨zak,zaB⟩:(Sl Tie))⟩:Net) K hs hk⟩
  · exact h.elim
abbrev zP0:Tabs:=(((Tabs.nil.addF 93 zqP).addF 104 zqS).addI 110 zqR)
theorem zMi:TabsOk Tryd.prog zP0:=(((TabsOk.nil.addF zKX).addF zHy).addI zwM)
abbrev zNZ:Ctrs:=csm zP0 (λ _ _=>[]) (λ _=>false)
def zqT:Ann:=⟨91,[(0,zK [0,2,4] [4]),(1,zK [0,2,4,7] [4,7,15]),(2,zK [0,2,4,7,17,18] [4,7,15]),(3,zK [0,2,4,7,17,18,19] [4,7,15]),(4,zK [0,2,4,7,8,17,18] [4,7,15]),(5,zK [0,2,4,7,8,17,18,21] [4,7,15]),(6,zK [0,2,4,7,8,17,18,21,22] [4,7,15]),(7,zK [0,2,4,7,8,9,17,18,21] [4,7,15]),(8,zK [0,2,4,7,8,17,18,21] [4,7,15]),(9,zK [0,2,4,7,8,17,18,21] [4,7,15]),(10,zK [0,2,4,7,17,18] [4,7,15]),(11,zK [0,2,4,7] [4,7,15]),(12,zK [0,2,4,7,10] [4,7,10,15]),(13,zK [0,2,4,7,10,39] [4,7,10,15]),(14,zK [0,2,4,7,10] [4,7,10,15]),(15,zK [0,2,4,7,10,43] [4,7,10,15]),(16,zK [0,2,4,7,10,11,43] [4,7,10,11,15]),(17,zK [0,2,4,7,10,11,12,43] [4,7,10,11,12,15]),(18,zK [0,2,4,7,10,11,12,43,67] [4,7,10,11,12,15]),(19,zK [0,2,4,7,10,43] [4,7,10,15]),(20,zK [0,2,4,7,89] [4,7,15]),(21,zK [0,2,4,7,10] [4,7,10,15]),(22,zK [6] [15])],
 [(3,zK [0,2,4,7,17,18] [4,7,15]),(6,zK [0,2,4,7,8,17,18,21] [4,7,15]),(13,zK [0,2,4,7,10] [4,7,10,15]),(16,zK [0,2,4,7,10,43] [4,7,10,15])],
 [(11,zK [0,2,4,7] [4,7,15])],
 [],[]⟩
abbrev zQv:=(Sl Tab)
abbrev zCN (r:zQv):List PA:=[.one (.sl r.len 80 (λ i=>zau (r.get i)))]
@[irreducible] def z106:=ptF Tryd.prog zNZ zqT Tryd.f106
@[irreducible] def x106:=exF Tryd.prog zNZ zqT Tryd.f106
@[irreducible] def y106:=rnF Tryd.prog zNZ zqT Tryd.f106
def zy6 (w:web) (node:Int) (uses:Int) (zet:Int) (zeu:(Sl Tab)) (zgt:Nat->List PV):St:=⟨[(0,zP (.fp (zaF w) 0)),(2,zI uses),(4,zp 4 0),(7,zp 7 0),(17,zI ((w64 (uses+(1:Int))).toNat:Int)),(18,zI zet)],[(4,.box 3 [zi node]),(7,.box 159 [.vec 15]),(15,.vec 116 80 640 zeu.len zgt)],[]⟩
abbrev zy7 (K:List PA->Prop) (w:web) (node:Int) (uses:Int) (X:St->Prop) (P:Int->(Sl Tab)->Bool) (S:Int->(Sl Tab)->(Sl Tab)):Prop:=∀ ⦃zet:Int⦄ ⦃zeu:(Sl Tab)⦄ ⦃zgt:Nat->List PV⦄,P zet zeu=true->K (zCN (S zet zeu))->zgt=zg zau zeu->X (zy6 w node uses zet zeu zgt)
def zy8 (w:web) (node:Int) (uses:Int) (iv1:Int) (zdd:Int) (zdE:Int) (zcY:(Sl Tab)) (zgu:Nat->List PV):St:=⟨[(0,zP (.fp (zaF w) 0)),(2,zI uses),(4,zp 4 0),(7,zp 7 0),(8,zI iv1),(17,zI ((w64 (uses+(1:Int))).toNat:Int)),(18,zI zdd),(21,zI zdE)],[(4,.box 3 [zi node]),(7,.box 159 [.vec 15]),(15,.vec 116 80 640 zcY.len zgu)],[]⟩
abbrev zFx (K:List PA->Prop) (w:web) (node:Int) (uses:Int) (X:St->Prop) (P:Int->Int->Int->(Sl Tab)->Bool) (S:Int->Int->Int->(Sl Tab)->(Sl Tab)):Prop:=∀ ⦃iv1:Int⦄ ⦃zdd:Int⦄ ⦃zdE:Int⦄ ⦃zcY:(Sl Tab)⦄ ⦃zgu:Nat->List PV⦄,P iv1 zdd zdE zcY=true->K (zCN (S iv1 zdd zdE zcY))->zgu=zg zau zcY->X (zy8 w node uses iv1 zdd zdE zcY zgu)
def zy9 (w:web) (node:Int) (uses:Int) (kv3:Int) (zeU:(Sl Tab)) (zgv:Nat->List PV):St:=⟨[(0,zP (.fp (zaF w) 0)),(2,zI uses),(4,zp 4 0),(7,zp 7 0),(10,zp 10 0)],[(4,.box 3 [zi node]),(7,.box 159 [.vec 15]),(10,.box 3 [zi kv3]),(15,.vec 116 80 640 zeU.len zgv)],[]⟩
abbrev zza (K:List PA->Prop) (w:web) (node:Int) (uses:Int) (X:St->Prop) (P:Int->(Sl Tab)->Bool) (S:Int->(Sl Tab)->(Sl Tab)):Prop:=∀ ⦃kv3:Int⦄ ⦃zeU:(Sl Tab)⦄ ⦃zgv:Nat->List PV⦄,P kv3 zeU=true->K (zCN (S kv3 zeU))->zgv=zg zau zeU->X (zy9 w node uses kv3 zeU zgv)
def zsI (w:web) (node:Int) (uses:Int) (kv4:Int) (zbb:(Sl Tab)) (zeV:Nat->List PV):St:=⟨[(0,zP (.fp (zaF w) 0)),(2,zI uses),(4,zp 4 0),(7,zp 7 0),(10,zp 10 0),(43,zP (.fn 110 [] [.fp [.fp (zaF w) 0] 0]))],[(4,.box 3 [zi node]),(7,.box 159 [.vec 15]),(10,.box 3 [zi kv4]),(15,.vec 116 80 640 zbb.len zeV)],[]⟩
abbrev zFy (K:List PA->Prop) (w:web) (node:Int) (uses:Int) (X:St->Prop) (P:Int->(Sl Tab)->Bool) (S:Int->(Sl Tab)->(Sl Tab)):Prop:=∀ ⦃kv4:Int⦄ ⦃zbb:(Sl Tab)⦄ ⦃zeV:Nat->List PV⦄,P kv4 zbb=true->K (zCN (S kv4 zbb))->zeV=zg zau zbb->X (zsI w node uses kv4 zbb zeV)
section
variable {K:List PA->Prop}{w:web}{node:Int}{uses:Int}{zet:Int}{zeu:(Sl Tab)}{zgt:Nat->List PV}{X0:St->Prop}{P0:Int->(Sl Tab)->Bool}{S0:Int->(Sl Tab)->(Sl Tab)}{iv1:Int}{zdd:Int}{zdE:Int}{zcY:(Sl Tab)}{zgu:Nat->List PV}{X1:St->Prop}{P1:Int->Int->Int->(Sl Tab)->Bool}{S1:Int->Int->Int->(Sl Tab)->(Sl Tab)}{zgw:(Sl Tab)}{zzb:Nat->List PV}{kv3:Int}{zeU:(Sl Tab)}{zgv:Nat->List PV}{X3:St->Prop}{P3:Int->(Sl Tab)->Bool}{S3:Int->(Sl Tab)->(Sl Tab)}{kv4:Int}{zbb:(Sl Tab)}{zeV:Nat->List PV}
def zDX (S3:Int->(Sl Tab)->(Sl Tab)) (w:web) (node:Int) (uses:Int) (kv4:Int) (zbb:(Sl Tab)):(Sl Tab) :=
  (S3 (w64 (kv4+(1:Int))) zbb)
def zDY (P3:Int->(Sl Tab)->Bool) (w:web) (node:Int) (uses:Int) (kv4:Int) (zbb:(Sl Tab)):Bool :=
  (P3 (w64 (kv4+(1:Int))) zbb)
def zu0 (S3:Int->(Sl Tab)->(Sl Tab)) (w:web) (node:Int) (uses:Int) (y4:step) (S4:Int->(Sl Tab)->(Sl Tab)) (kv4:Int) (zbb:(Sl Tab)):(Sl Tab) :=
  (cond (decide (y4.from_ ≥ node))
 (cond (decide (y4.to ≥ node))
 (cond (!(nvr (tg 80 (zbb.get ((w64 (kv4 - (1:Int))).toNat)) (0 + y4.to.toNat * 2 + 0)) (tg 80 (zbb.get ((w64 (kv4 - (1:Int))).toNat)) (0 + y4.to.toNat * 2 + 0 + 1))))
 (S4 kv4 (⟨zbb.len,(setT kv4.toNat (ts 80 (zbb.get kv4.toNat) (0+y4.from_.toNat * 2+0) [(zc8 (⟨(tL (zbb.get kv4.toNat) y4.from_),(tU (zbb.get kv4.toNat) y4.from_)⟩:far) (⟨1,λ _=>(⟨(w64 ((tg 80 (zbb.get ((w64 (kv4 - (1:Int))).toNat)) (0+y4.to.toNat * 2+0))+y4.length)),(0:Int)⟩:far)⟩:(Sl far))).length,(zc8 (⟨(tL (zbb.get kv4.toNat) y4.from_),(tU (zbb.get kv4.toNat) y4.from_)⟩:far) (⟨1,λ _=>(⟨(w64 ((tg 80 (zbb.get ((w64 (kv4 - (1:Int))).toNat)) (0+y4.to.toNat * 2+0))+y4.length)),(0:Int)⟩:far)⟩:(Sl far))).uses]) zbb.get)⟩:Sl Tab))
 (S4 kv4 zbb))
 (S4 kv4 zbb))
 (S4 kv4 zbb))
def zu1 (P3:Int->(Sl Tab)->Bool) (w:web) (node:Int) (uses:Int) (y4:step) (P4:Int->(Sl Tab)->Bool) (kv4:Int) (zbb:(Sl Tab)):Bool :=
  (decide ((0≤(w64 (kv4 - (1:Int)))/\(w64 (kv4 - (1:Int))) < (zbb.len:Int))) &&
 (decide ((0≤y4.to/\y4.to < (40:Int))) &&
 (decide (((w64 (kv4 - (1:Int))).toNat < zbb.len)) &&
 (cond (decide (y4.from_ ≥ node))
 (cond (decide (y4.to ≥ node))
 (cond (!(nvr (tg 80 (zbb.get ((w64 (kv4 - (1:Int))).toNat)) (0 + y4.to.toNat * 2 + 0)) (tg 80 (zbb.get ((w64 (kv4 - (1:Int))).toNat)) (0 + y4.to.toNat * 2 + 0 + 1))))
 (decide ((0≤kv4/\kv4 < (zbb.len:Int))) &&
 (decide ((0≤y4.from_/\y4.from_ < (40:Int))) &&
 (decide ((kv4.toNat < zbb.len)) &&
 (decide ((zDV (⟨(tL (zbb.get kv4.toNat) y4.from_),(tU (zbb.get kv4.toNat) y4.from_)⟩:far) (⟨1,λ _=>(⟨(w64 ((tg 80 (zbb.get ((w64 (kv4 - (1:Int))).toNat)) (0+y4.to.toNat * 2+0))+y4.length)),(0:Int)⟩:far)⟩:(Sl far))=true)) &&
 (decide ((0≤kv4/\kv4 < (zbb.len:Int))) &&
 (decide ((0≤y4.from_/\y4.from_ < (40:Int))) &&
 (decide ((kv4.toNat < zbb.len)) &&
 (P4 kv4 (⟨zbb.len,(setT kv4.toNat (ts 80 (zbb.get kv4.toNat) (0+y4.from_.toNat * 2+0) [(zc8 (⟨(tL (zbb.get kv4.toNat) y4.from_),(tU (zbb.get kv4.toNat) y4.from_)⟩:far) (⟨1,λ _=>(⟨(w64 ((tg 80 (zbb.get ((w64 (kv4 - (1:Int))).toNat)) (0+y4.to.toNat * 2+0))+y4.length)),(0:Int)⟩:far)⟩:(Sl far))).length,(zc8 (⟨(tL (zbb.get kv4.toNat) y4.from_),(tU (zbb.get kv4.toNat) y4.from_)⟩:far) (⟨1,λ _=>(⟨(w64 ((tg 80 (zbb.get ((w64 (kv4 - (1:Int))).toNat)) (0+y4.to.toNat * 2+0))+y4.length)),(0:Int)⟩:far)⟩:(Sl far))).uses]) zbb.get)⟩:Sl Tab)))))))))
 (P4 kv4 zbb))
 (P4 kv4 zbb))
 (P4 kv4 zbb)))))
def zu3 (S3:Int->(Sl Tab)->(Sl Tab)) (w:web) (node:Int) (uses:Int):List step->Int->(Sl Tab)->(Sl Tab):=lpR (zDX S3 w node uses) (zu0 S3 w node uses)
def zu4 (P3:Int->(Sl Tab)->Bool) (w:web) (node:Int) (uses:Int):List step->Int->(Sl Tab)->Bool:=lpR (zDY P3 w node uses) (zu1 P3 w node uses)
def zu5 (S3:Int->(Sl Tab)->(Sl Tab)) (w:web) (node:Int) (uses:Int) (kv4:Int) (zbb:(Sl Tab)):(Sl Tab):=zu3 S3 w node uses (zl4 w) kv4 zbb
def zu6 (P3:Int->(Sl Tab)->Bool) (w:web) (node:Int) (uses:Int) (kv4:Int) (zbb:(Sl Tab)):Bool:=decide ((zw0 w=true)) && zu4 P3 w node uses (zl4 w) kv4 zbb
theorem zDZ (hX3:zza K w node uses X3 P3 S3) (hs:zu6 P3 w node uses kv4 zbb=true) (hk:K (zCN (zu5 S3 w node uses kv4 zbb))) (zl5:zeV=zg zau zbb):z106 K [1,1,1,1,0,1,0,0,1,0,0,1,0] [X3] (zsI w node uses kv4 zbb zeV) :=
  zaL hs λ hc hs=>zr (enc:=(λ y:step=>[.agg (zaD y)])) (ys:=zl4 w) (g:=(zsI w node uses kv4 zbb zeV)) (x106 K [1,1,1,1,0,1,0,0,1,0,0,1,0] [X3]) (y106 K [1,1,1,1,0,1,0,0,1,0,0,1,0] [X3]) (by kernel_rfl) (And.intro (zE zai 4 w.Net.Ties.get) (And.intro (rfl:((false,1,false,[none]):MQ)=(false,1,false,[none])) hc)) λ X4 hE hR =>
  (show ∀ l : List step, zFy K w node uses (X4 (l.map (λ y : step => [.agg (zaD y)]))) (zu4 P3 w node uses l) (zu3 S3 w node uses l) from zri (X := X4) (enc := (λ y : step => [.agg (zaD y)])) _ _ (zu1 P3 w node uses) (zu0 S3 w node uses) (λ Z P S => zFy K w node uses Z P S)
 (by intro kv4 zbb zeV hs hk zl5;subst zl5;exact hE _ (zaR (by kernel_rfl) (hX3 hs hk rfl)))
 (by intro y4 rest P4 S4 hX4 kv4 zbb zeV hs hk zl5;subst zl5;exact hR _ rest _ (zaR (by kernel_rfl) (zaL hs λ hc hs=>And.intro hc (zaL hs λ hc hs=>And.intro hc (zaL hs λ hc hs=>And.intro hc (zc hs hk (λ hs hk=>(zc hs hk (λ hs hk=>(zc hs hk (λ hs hk=>(zaL hs λ hc hs=>And.intro hc (zaL hs λ hc hs=>And.intro hc (zaL hs λ hc hs=>And.intro hc (zaL hs λ hc hs=>And.intro (And.intro (zyz:IsE zcp 2 2 (λ _=>(zcp (⟨(w64 ((tg 80 (zbb.get ((w64 (kv4 - (1:Int))).toNat)) (0+y4.to.toNat * 2+0))+y4.length)),(0:Int)⟩:far)))) hc) (zaL hs λ hc hs=>And.intro hc (zaL hs λ hc hs=>And.intro hc (zaL hs λ hc hs=>And.intro hc (hX4 hs hk (zl1 (enc:=zau) (i:=kv4.toNat) (k:=0) (f:=zbb.get) (new:=(zau (ts 80 (zbb.get kv4.toNat) (0+y4.from_.toNat * 2+0) [(zc8 (⟨(tL (zbb.get kv4.toNat) y4.from_),(tU (zbb.get kv4.toNat) y4.from_)⟩:far) (⟨1,λ _=>(⟨(w64 ((tg 80 (zbb.get ((w64 (kv4 - (1:Int))).toNat)) (0+y4.to.toNat * 2+0))+y4.length)),(0:Int)⟩:far)⟩:(Sl far))).length,(zc8 (⟨(tL (zbb.get kv4.toNat) y4.from_),(tU (zbb.get kv4.toNat) y4.from_)⟩:far) (⟨1,λ _=>(⟨(w64 ((tg 80 (zbb.get ((w64 (kv4 - (1:Int))).toNat)) (0+y4.to.toNat * 2+0))+y4.length)),(0:Int)⟩:far)⟩:(Sl far))).uses]))) (v:=(ts 80 (zbb.get kv4.toNat) (0+y4.from_.toNat * 2+0) [(zc8 (⟨(tL (zbb.get kv4.toNat) y4.from_),(tU (zbb.get kv4.toNat) y4.from_)⟩:far) (⟨1,λ _=>(⟨(w64 ((tg 80 (zbb.get ((w64 (kv4 - (1:Int))).toNat)) (0+y4.to.toNat * 2+0))+y4.length)),(0:Int)⟩:far)⟩:(Sl far))).length,(zc8 (⟨(tL (zbb.get kv4.toNat) y4.from_),(tU (zbb.get kv4.toNat) y4.from_)⟩:far) (⟨1,λ _=>(⟨(w64 ((tg 80 (zbb.get ((w64 (kv4 - (1:Int))).toNat)) (0+y4.to.toNat * 2+0))+y4.length)),(0:Int)⟩:far)⟩:(Sl far))).uses])) rfl zoe)))))))))) (λ hs hk=>(hX4 hs hk rfl)))) (λ hs hk=>(hX4 hs hk rfl)))) (λ hs hk=>(hX4 hs hk rfl))))))))) _ hs hk zl5
def zu7 (w:web) (node:Int) (uses:Int) (S3:Int->(Sl Tab)->(Sl Tab)) (kv3:Int) (zeU:(Sl Tab)):(Sl Tab) :=
  (cond (decide (kv3 ≤ uses))
 (zu5 S3 w node uses kv3 zeU)
 zeU)
def zu8 (w:web) (node:Int) (uses:Int) (P3:Int->(Sl Tab)->Bool) (kv3:Int) (zeU:(Sl Tab)):Bool :=
  (cond (decide (kv3 ≤ uses))
 (zu6 P3 w node uses kv3 zeU)
 true)
def zu9 (w:web) (node:Int) (uses:Int):Nat->Int->(Sl Tab)->(Sl Tab):=lpO (λ _ _=>default) (zu7 w node uses)
def zva (w:web) (node:Int) (uses:Int):Nat->Int->(Sl Tab)->Bool:=lpO (λ _ _=>false) (zu8 w node uses)
def zvb (w:web) (node:Int) (uses:Int) (kv3:Int) (zeU:(Sl Tab)):(Sl Tab):=zu9 w node uses Fuel kv3 zeU
def zvc (w:web) (node:Int) (uses:Int) (kv3:Int) (zeU:(Sl Tab)):Bool:=zva w node uses Fuel kv3 zeU
theorem zD0 (hs:zvc w node uses kv3 zeU=true) (hk:K (zCN (zvb w node uses kv3 zeU))) (zsJ:zgv=zg zau zeU):z106 K [1,1,1,1,0,1,0] [] (zy9 w node uses kv3 zeU zgv) :=
  zl (λ X=>z106 K [1,1,1,1,0,1,0,0] [X]) (by kernel_rfl) λ X3 hX =>
  (show ∀ k, zza K w node uses X3 (zva w node uses k) (zu9 w node uses k) from zdU _ _ (zu8 w node uses) (zu7 w node uses) (zza K w node uses X3)
 (by intro _ _ _ hs;exact absurd hs Bool.false_ne_true)
 (by intro P3 S3 hX3 kv3 zeU zgv hs hk zsJ;subst zsJ;exact hX _ (zaR (by kernel_rfl) (zc hs hk (λ hs hk=>(And.intro (And.intro (zE zai 4 w.Net.Ties.get) (rfl:((false,1,false,[none]):MQ)=(false,1,false,[none]))) (zDZ hX3 hs hk rfl))) (λ hs hk=>hk))))) _ hs hk zsJ
def zvd (w:web) (node:Int) (uses:Int) (zgw:(Sl Tab)):(Sl Tab) :=
  (zvb w node uses (1:Int) (⟨zgw.len,(setT 0 (ts 80 (zgw.get 0) (0+node.toNat * 2+0) [(0:Int),(0:Int)]) zgw.get)⟩:Sl Tab))
def zve (w:web) (node:Int) (uses:Int) (zgw:(Sl Tab)):Bool :=
  (decide ((0≤(0:Int)/\(0:Int) < (zgw.len:Int))) &&
 (decide ((0≤node/\node < (40:Int))) &&
 (decide ((0 < zgw.len)) &&
 (zvc w node uses (1:Int) (⟨zgw.len,(setT 0 (ts 80 (zgw.get 0) (0+node.toNat * 2+0) [(0:Int),(0:Int)]) zgw.get)⟩:Sl Tab)))))
theorem zD1 (hs:zve w node uses zgw=true) (hk:K (zCN (zvd w node uses zgw))) (zHQ:zzb=zg zau zgw):z106 K [1,1,1] [] ⟨[(0,zP (.fp (zaF w) 0)),(2,zI uses),(4,zp 4 0),(7,zp 7 0)],[(4,.box 3 [zi node]),(7,.box 159 [.vec 15]),(15,.vec 116 80 640 zgw.len zzb)],[]⟩:=by subst zHQ;exact zaR (by kernel_rfl) (zaL hs λ hc hs=>And.intro hc (zaL hs λ hc hs=>And.intro hc (zaL hs λ hc hs=>And.intro hc (zD0 hs hk (zl1 (enc:=zau) (i:=0) (k:=0) (f:=zgw.get) (new:=(zau (ts 80 (zgw.get 0) (0+node.toNat * 2+0) [(0:Int),(0:Int)]))) (v:=(ts 80 (zgw.get 0) (0+node.toNat * 2+0) [(0:Int),(0:Int)])) rfl zoe)))))
def zvf (S0:Int->(Sl Tab)->(Sl Tab)) (w:web) (node:Int) (uses:Int) (S1:Int->Int->Int->(Sl Tab)->(Sl Tab)) (iv1:Int) (zdd:Int) (zdE:Int) (zcY:(Sl Tab)):(Sl Tab) :=
  (cond (decide (zdE < (40:Int)))
 (S1 iv1 zdd (w64 (zdE+(1:Int))) (⟨zcY.len,(setT iv1.toNat (ts 80 (zcY.get iv1.toNat) (0+zdE.toNat * 2+0) [(1000000000000:Int),(0:Int)]) zcY.get)⟩:Sl Tab))
 (S0 (w64 (zdd+(1:Int))) zcY))
def zvg (P0:Int->(Sl Tab)->Bool) (w:web) (node:Int) (uses:Int) (P1:Int->Int->Int->(Sl Tab)->Bool) (iv1:Int) (zdd:Int) (zdE:Int) (zcY:(Sl Tab)):Bool :=
  (cond (decide (zdE < (40:Int)))
 (decide ((0≤iv1/\iv1 < (zcY.len:Int))) &&
 (decide ((0≤zdE/\zdE < (40:Int))) &&
 (decide ((iv1.toNat < zcY.len)) &&
 (P1 iv1 zdd (w64 (zdE+(1:Int))) (⟨zcY.len,(setT iv1.toNat (ts 80 (zcY.get iv1.toNat) (0+zdE.toNat * 2+0) [(1000000000000:Int),(0:Int)]) zcY.get)⟩:Sl Tab)))))
 (P0 (w64 (zdd+(1:Int))) zcY))
def zvh (S0:Int->(Sl Tab)->(Sl Tab)) (w:web) (node:Int) (uses:Int):Nat->Int->Int->Int->(Sl Tab)->(Sl Tab):=lpO (λ _ _ _ _=>default) (zvf S0 w node uses)
def zvi (P0:Int->(Sl Tab)->Bool) (w:web) (node:Int) (uses:Int):Nat->Int->Int->Int->(Sl Tab)->Bool:=lpO (λ _ _ _ _=>false) (zvg P0 w node uses)
def zvj (S0:Int->(Sl Tab)->(Sl Tab)) (w:web) (node:Int) (uses:Int) (iv1:Int) (zdd:Int) (zdE:Int) (zcY:(Sl Tab)):(Sl Tab):=zvh S0 w node uses Fuel iv1 zdd zdE zcY
def zvk (P0:Int->(Sl Tab)->Bool) (w:web) (node:Int) (uses:Int) (iv1:Int) (zdd:Int) (zdE:Int) (zcY:(Sl Tab)):Bool:=zvi P0 w node uses Fuel iv1 zdd zdE zcY
theorem zD2 (hX0:zy7 K w node uses X0 P0 S0) (hs:zvk P0 w node uses iv1 zdd zdE zcY=true) (hk:K (zCN (zvj S0 w node uses iv1 zdd zdE zcY))) (zsK:zgu=zg zau zcY):z106 K [1,1,0,1,0,0,1,1,0,0,1,1,0] [X0] (zy8 w node uses iv1 zdd zdE zcY zgu) :=
  zl (λ X=>z106 K [1,1,0,1,0,0,1,1,0,0,1,1,0,0] [X0,X]) (by kernel_rfl) λ X1 hX =>
  (show ∀ k, zFx K w node uses X1 (zvi P0 w node uses k) (zvh S0 w node uses k) from zdU _ _ (zvg P0 w node uses) (zvf S0 w node uses) (zFx K w node uses X1)
 (by intro _ _ _ _ _ hs;exact absurd hs Bool.false_ne_true)
 (by intro P1 S1 hX1 iv1 zdd zdE zcY zgu hs hk zsK;subst zsK;exact hX _ (zaR (by kernel_rfl) (zc hs hk (λ hs hk=>(zaL hs λ hc hs=>And.intro hc (zaL hs λ hc hs=>And.intro hc (zaL hs λ hc hs=>And.intro hc (hX1 hs hk (zl1 (enc:=zau) (i:=iv1.toNat) (k:=0) (f:=zcY.get) (new:=(zau (ts 80 (zcY.get iv1.toNat) (0+zdE.toNat * 2+0) [(1000000000000:Int),(0:Int)]))) (v:=(ts 80 (zcY.get iv1.toNat) (0+zdE.toNat * 2+0) [(1000000000000:Int),(0:Int)])) rfl zoe)))))) (λ hs hk=>(hX0 hs hk rfl)))))) _ hs hk zsK
def zvl (w:web) (node:Int) (uses:Int) (S0:Int->(Sl Tab)->(Sl Tab)) (zet:Int) (zeu:(Sl Tab)):(Sl Tab) :=
  (cond (decide (zet < ((w64 (uses + (1:Int))).toNat : Int)))
 (zvj S0 w node uses zet zet (0:Int) zeu)
 (zvd w node uses zeu))
def zvm (w:web) (node:Int) (uses:Int) (P0:Int->(Sl Tab)->Bool) (zet:Int) (zeu:(Sl Tab)):Bool :=
  (cond (decide (zet < ((w64 (uses + (1:Int))).toNat : Int)))
 (zvk P0 w node uses zet zet (0:Int) zeu)
 (zve w node uses zeu))
def zvn (w:web) (node:Int) (uses:Int):Nat->Int->(Sl Tab)->(Sl Tab):=lpO (λ _ _=>default) (zvl w node uses)
def zvo (w:web) (node:Int) (uses:Int):Nat->Int->(Sl Tab)->Bool:=lpO (λ _ _=>false) (zvm w node uses)
def zvp (w:web) (node:Int) (uses:Int) (zet:Int) (zeu:(Sl Tab)):(Sl Tab):=zvn w node uses Fuel zet zeu
def zvq (w:web) (node:Int) (uses:Int) (zet:Int) (zeu:(Sl Tab)):Bool:=zvo w node uses Fuel zet zeu
theorem zD3 (hs:zvq w node uses zet zeu=true) (hk:K (zCN (zvp w node uses zet zeu))) (zsL:zgt=zg zau zeu):z106 K [1,1,0,1,0] [] (zy6 w node uses zet zeu zgt) :=
  zl (λ X=>z106 K [1,1,0,1,0,0] [X]) (by kernel_rfl) λ X0 hX =>
  (show ∀ k, zy7 K w node uses X0 (zvo w node uses k) (zvn w node uses k) from zdU _ _ (zvm w node uses) (zvl w node uses) (zy7 K w node uses X0)
 (by intro _ _ _ hs;exact absurd hs Bool.false_ne_true)
 (by intro P0 S0 hX0 zet zeu zgt hs hk zsL;subst zsL;exact hX _ (zaR (by kernel_rfl) (zc hs hk (λ hs hk=>(zD2 hX0 hs hk rfl)) (λ hs hk=>(zD1 hs hk rfl)))))) _ hs hk zsL
def zHR (w:web) (node:Int) (uses:Int):(Sl Tab) :=
  (zvp w node uses (0:Int) (⟨(w64 (uses+(1:Int))).toNat,(λ _=>(λ _=>(0:Int)))⟩:Sl Tab))
def zOC (w:web) (node:Int) (uses:Int):Bool :=
  (decide ((0≤(w64 (uses+(1:Int)))/\(w64 (uses+(1:Int)))=(w64 (uses+(1:Int)))/\(w64 (uses+(1:Int)))≤1000000)) &&
 (zvq w node uses (0:Int) (⟨(w64 (uses+(1:Int))).toNat,(λ _=>(λ _=>(0:Int)))⟩:Sl Tab)))
end
theorem zQw (w:web) (node:Int) (uses:Int) (K:List PA->Prop) (hs:zOC w node uses=true) (hk:K (zCN (zHR w node uses))):vcFun Tryd.prog zNZ zqT 106 [.one (.fp (zaF w) 0),.one (.int .i64 node),.one (.int .i64 uses)] K :=
  zaR (by kernel_rfl) (zaL hs λ hc hs=>And.intro hc (zD3 hs hk rfl))
def zzc : List PA → COut
  | [.one (.fp [.int .i64 zas,.sl zam zaK zan,.fm zbw zaN zaO] 0),.one (.int .i64 a1),.one (.int .i64 a2)]=>.det (IsE zai 4 zaK zan/\zbw=(false,1,false,[none])/\zOC (⟨(⟨zas,(⟨zam,zaq zan⟩:(Sl Tie))⟩:Net),(⟨zaN,zaO⟩:Mp)⟩:web) a1 a2=true) [.one (.sl ((zHR (⟨(⟨zas,(⟨zam,zaq zan⟩:(Sl Tie))⟩:Net),(⟨zaN,zaO⟩:Mp)⟩:web) a1 a2).len) 80 (λ i=>zau ((zHR (⟨(⟨zas,(⟨zam,zaq zan⟩:(Sl Tie))⟩:Net),(⟨zaN,zaO⟩:Mp)⟩:web) a1 a2).get i)))]
  | _=>.no
theorem zHS:zaw Tryd.prog 106:=⟨_,rfl,rfl,by kernel_rfl⟩
theorem zOD:Ok Tryd.prog 106 zzc:=zbv zMi zHS λ args K h=>by
  unfold zzc at h
  split at h
  · rename_i zas zam zaK zan zbw zaN zaO a1 a2
    obtain⟨⟨⟨rfl,zaC,rfl⟩,rfl,hs⟩,hk⟩:=h
    try rw[zat zaC] at hs
    try rw[zat zaC] at hk
    exact⟨(λ _ _=>[]),(λ _=>false),zqT,zQw (⟨(⟨zas,(⟨zam,zaC⟩:(Sl Tie))⟩:Net),(⟨zaN,zaO⟩:Mp)⟩:web) a1 a2 K hs hk⟩
  · exact h.elim
abbrev zP1:Tabs:=Tabs.nil
theorem zMj:TabsOk Tryd.prog zP1:=TabsOk.nil
abbrev zP2:Ctrs:=csm zP1 (λ _ _=>[]) (λ _=>false)
def zzd:Ann:=⟨18,[(0,zK [0] []),(1,zK [0,3] []),(2,zK [3,6,7,8] []),(3,zK [3,6,7,8,9] []),(4,zK [3,5,6,7,8] []),(5,zK [3,5,6,7,8,14] []),(6,zK [2] []),(7,zK [3,6,7,8] []),(8,zK [2] [])],
 [(3,zK [3,6,7,8] [])],
 [],
 [],[]⟩
abbrev zQx:=Int
abbrev zOE (r:zQx):List PA:=[.one (.int .i64 r)]
@[irreducible] def z100:=ptF Tryd.prog zP2 zzd Tryd.f100
def zze (vals:(Sl Int)) (zdZ:Int):St:=⟨[(3,zI (0:Int)),(6,zS enc_3 1 vals),(7,zI (vals.len:Int)),(8,zI zdZ)],[],[]⟩
abbrev zFz (K:List PA->Prop) (vals:(Sl Int)) (X:St->Prop) (P:Int->Bool) (S:Int->Int):Prop:=∀ ⦃zdZ:Int⦄,P zdZ=true->K (zOE (S zdZ))->X (zze vals zdZ)
section
variable {K:List PA->Prop}{vals:(Sl Int)}{zdZ:Int}{X0:St->Prop}{P0:Int->Bool}{S0:Int->Int}
def zvr (vals:(Sl Int)) (S0:Int->Int) (zdZ:Int):Int :=
  (cond (decide (zdZ < (vals.len : Int)))
 (cond ((vals.get zdZ.toNat) != (0:Int))
 (vals.get zdZ.toNat)
 (S0 (w64 (zdZ+(1:Int)))))
 (0:Int))
def zvs (vals:(Sl Int)) (P0:Int->Bool) (zdZ:Int):Bool :=
  (cond (decide (zdZ < (vals.len : Int)))
 (decide ((0≤zdZ/\zdZ < (vals.len:Int))) &&
 (cond ((vals.get zdZ.toNat) != (0:Int))
 true
 (P0 (w64 (zdZ+(1:Int))))))
 true)
def zvt (vals:(Sl Int)):Nat->Int->Int:=lpO (λ _=>default) (zvr vals)
def zvu (vals:(Sl Int)):Nat->Int->Bool:=lpO (λ _=>false) (zvs vals)
def zvv (vals:(Sl Int)) (zdZ:Int):Int:=zvt vals Fuel zdZ
def zvw (vals:(Sl Int)) (zdZ:Int):Bool:=zvu vals Fuel zdZ
theorem zD4 (hs:zvw vals zdZ=true) (hk:K (zOE (zvv vals zdZ))):z100 K [1,1,0,1,0] [] (zze vals zdZ) :=
  zl (λ X=>z100 K [1,1,0,1,0,0] [X]) (by kernel_rfl) λ X0 hX =>
  (show ∀ k, zFz K vals X0 (zvu vals k) (zvt vals k) from zdU _ _ (zvs vals) (zvr vals) (zFz K vals X0)
 (by intro _ hs;exact absurd hs Bool.false_ne_true)
 (by intro P0 S0 hX0 zdZ hs hk;exact hX _ (zaR (by kernel_rfl) (zc hs hk (λ hs hk=>(zaL hs λ hc hs=>And.intro hc (zc hs hk (λ hs hk=>hk) (λ hs hk=>(hX0 hs hk))))) (λ hs hk=>hk))))) _ hs hk
def zOF (vals:(Sl Int)):Int :=
  (zvv vals (0:Int))
def zOG (vals:(Sl Int)):Bool :=
  (zvw vals (0:Int))
end
theorem zQy (vals:(Sl Int)) (K:List PA->Prop) (hs:zOG vals=true) (hk:K (zOE (zOF vals))):vcFun Tryd.prog zP2 zzd 100 [.one (.sl vals.len 1 (λ i=>enc_3 (vals.get i)))] K :=
  zaR (by kernel_rfl) (zD4 hs hk)
def zzf : List PA → COut
  | [.one (.sl zdl ziz zdm)]=>.det (IsE enc_3 1 ziz zdm/\zOG (⟨zdl,zar zdm⟩:(Sl Int))=true) [.one (.int .i64 (zOF (⟨zdl,zar zdm⟩:(Sl Int))))]
  | _=>.no
theorem zHT:zaw Tryd.prog 100:=⟨_,rfl,rfl,by kernel_rfl⟩
theorem zOH:Ok Tryd.prog 100 zzf:=zbv zMj zHT λ args K h=>by
  unfold zzf at h
  split at h
  · rename_i zdl ziz zdm
    obtain⟨⟨⟨rfl,zfz,rfl⟩,hs⟩,hk⟩:=h
    try rw[zaV zfz] at hs
    try rw[zaV zfz] at hk
    exact⟨(λ _ _=>[]),(λ _=>false),zzd,zQy (⟨zdl,zfz⟩:(Sl Int)) K hs hk⟩
  · exact h.elim
abbrev zP3:Tabs:=Tabs.nil
theorem zMk:TabsOk Tryd.prog zP3:=TabsOk.nil
abbrev zQz:Ctrs:=csm zP3 (λ _ _=>[]) (λ _=>false)
def zFA:Ann:=⟨6,[(0,zK [0] []),(1,zK [2] [])],
 [],
 [],
 [],[]⟩
abbrev zQA:=Bool
abbrev zQB (r:zQA):List PA:=[.one (.bool r)]
section
variable {K:List PA->Prop}{x:Int}
def zMl (x:Int):Bool :=
  (x != x)
end
theorem zQC (x:Int) (K:List PA->Prop) (hk:K (zQB (zMl x))):vcFun Tryd.prog zQz zFA 114 [.one (.int .i64 x)] K :=
  zaR (by kernel_rfl) hk
def zzg : List PA → COut
  | [.one (.int .i64 a0)]=>.tot [.one (.bool (zMl a0))]
  | _=>.no
theorem zHU:zaw Tryd.prog 114:=⟨_,rfl,rfl,by kernel_rfl⟩
theorem zOI:Ok Tryd.prog 114 zzg:=zbv zMk zHU λ args K h=>by
  unfold zzg at h
  split at h
  · rename_i a0
    have hk:=h
    exact⟨(λ _ _=>[]),(λ _=>false),zFA,zQC a0 K hk⟩
  · exact h.elim
abbrev zP4:Tabs:=(Tabs.nil.addF 114 zzg)
theorem zMm:TabsOk Tryd.prog zP4:=(TabsOk.nil.addF zOI)
abbrev zQD:Ctrs:=csm zP4 (λ _ _=>[]) (λ _=>false)
def zFB:Ann:=⟨20,[(0,zK [0,1] []),(1,zK [0,1,5] []),(2,zK [0,1,5,6] []),(3,zK [0,1,6,11] []),(4,zK [12] []),(5,zK [4] []),(6,zK [4] []),(7,zK [0,1,13] []),(8,zK [4] []),(9,zK [0,1,16] []),(10,zK [4] []),(11,zK [19] []),(12,zK [4] []),(13,zK [4] [])],
 [],
 [],
 [],[]⟩
abbrev zQE:=Int
abbrev zQF (r:zQE):List PA:=[.one (.int .i64 r)]
section
variable {K:List PA->Prop}{x:Int}{y_a1:Int}
def zCO (x:Int) (y_a1:Int):Int :=
  (cond (zMl x)
 (cond (zMl y_a1)
 (0:Int)
 (-1:Int))
 (cond (zMl y_a1)
 (1:Int)
 (cond (decide (x < y_a1))
 (-1:Int)
 (cond (decide (x > y_a1))
 (1:Int)
 (0:Int)))))
end
theorem zQG (x:Int) (y_a1:Int) (K:List PA->Prop) (hk:K (zQF (zCO x y_a1))):vcFun Tryd.prog zQD zFB 101 [.one (.int .i64 x),.one (.int .i64 y_a1)] K :=
  zaR (by kernel_rfl) (zt hk (λ hk=>(zt hk (λ hk=>hk) (λ hk=>hk))) (λ hk=>(zt hk (λ hk=>hk) (λ hk=>(zt hk (λ hk=>hk) (λ hk=>(zt hk (λ hk=>hk) (λ hk=>hk))))))))
def zvx : List PA → COut
  | [.one (.int .i64 a0),.one (.int .i64 a1)]=>.tot [.one (.int .i64 (zCO a0 a1))]
  | _=>.no
theorem zHV:zaw Tryd.prog 101:=⟨_,rfl,rfl,by kernel_rfl⟩
theorem zMn:Ok Tryd.prog 101 zvx:=zbv zMm zHV λ args K h=>by
  unfold zvx at h
  split at h
  · rename_i a0 a1
    have hk:=h
    exact⟨(λ _ _=>[]),(λ _=>false),zFB,zQG a0 a1 K hk⟩
  · exact h.elim
abbrev zP5:Tabs:=Tabs.nil
theorem zMo:TabsOk Tryd.prog zP5:=TabsOk.nil
abbrev zQH:Ctrs:=csm zP5 (λ _ _=>[]) (λ _=>false)
def zFC:Ann:=⟨6,[(0,zK [1] [1]),(1,zK [5] []),(2,zK [2] []),(3,zK [2] [])],
 [],
 [],
 [],[]⟩
abbrev zQI:=Int
abbrev e118 (r:zQI):List PA:=[.one (.int .i64 r)]
section
variable {K:List PA->Prop}{s:step}
def zFD (s:step):Int :=
  (cond s.Use.Back
 (1:Int)
 (0:Int))
end
theorem zQJ (s:step) (K:List PA->Prop) (hk:K (e118 (zFD s))):vcFun Tryd.prog zQH zFC 118 [.agg (zaD s)] K :=
  zaR (by kernel_rfl) (zt hk (λ hk=>hk) (λ hk=>hk))
def zzh : List PA → COut
  | [.agg [.int .i64 zc3,.bool zcG,.int .i64 zeK,.int .i64 zqU,.int .i64 zcs]]=>.tot [.one (.int .i64 (zFD (⟨(⟨zc3,zcG⟩:Use),zeK,zqU,zcs⟩:step)))]
  | _=>.no
theorem zHW:zaw Tryd.prog 118:=⟨_,rfl,rfl,by kernel_rfl⟩
theorem zOJ:Ok Tryd.prog 118 zzh:=zbv zMo zHW λ args K h=>by
  unfold zzh at h
  split at h
  · rename_i zc3 zcG zeK zqU zcs
    have hk:=h
    exact⟨(λ _ _=>[]),(λ _=>false),zFC,zQJ (⟨(⟨zc3,zcG⟩:Use),zeK,zqU,zcs⟩:step) K hk⟩
  · exact h.elim
abbrev zP6:Tabs:=(((Tabs.nil.addF 100 zzf).addF 101 zvx).addF 118 zzh)
theorem zMp:TabsOk Tryd.prog zP6:=(((TabsOk.nil.addF zOH).addF zMn).addF zOJ)
abbrev zQK:Ctrs:=csm zP6 (λ _ _=>[]) (λ _=>false)
def zFE:Ann:=⟨22,[(0,zK [2,3] [2,3]),(1,zK [2,3,5] [2,3]),(2,zK [4] [])],
 [],
 [],
 [],[]⟩
abbrev zQL:=Int
abbrev e108 (r:zQL):List PA:=[.one (.int .i64 r)]
section
variable {K:List PA->Prop}{a:step}{b:step}
def zN0 (a:step) (b:step):Int :=
  (zOF (⟨2,zar (zbE [(enc_3 (zCO a.Use.Tie b.Use.Tie)),(enc_3 (zCO (zFD a) (zFD b)))])⟩:(Sl Int)))
def zOK (a:step) (b:step):Bool :=
  (decide ((zOG (⟨2,zar (zbE [(enc_3 (zCO a.Use.Tie b.Use.Tie)),(enc_3 (zCO (zFD a) (zFD b)))])⟩:(Sl Int))=true)) &&
 true)
end
theorem zQM (a:step) (b:step) (K:List PA->Prop) (hs:zOK a b=true) (hk:K (e108 (zN0 a b))):vcFun Tryd.prog zQK zFE 108 [.agg (zaD a),.agg (zaD b)] K :=
  zaR (by kernel_rfl) (zaL hs λ hc hs=>And.intro (And.intro ((zeG []):IsE enc_3 1 1 (zbE [(enc_3 (zCO a.Use.Tie b.Use.Tie)),(enc_3 (zCO (zFD a) (zFD b)))])) hc) hk)
def zzi : List PA → COut
  | [.agg [.int .i64 zc3,.bool zcG,.int .i64 zeK,.int .i64 zqU,.int .i64 zcs],.agg [.int .i64 zg2,.bool zfA,.int .i64 zkW,.int .i64 zD5,.int .i64 zb0]]=>.det (zOK (⟨(⟨zc3,zcG⟩:Use),zeK,zqU,zcs⟩:step) (⟨(⟨zg2,zfA⟩:Use),zkW,zD5,zb0⟩:step)=true) [.one (.int .i64 (zN0 (⟨(⟨zc3,zcG⟩:Use),zeK,zqU,zcs⟩:step) (⟨(⟨zg2,zfA⟩:Use),zkW,zD5,zb0⟩:step)))]
  | _=>.no
theorem zHX:zaw Tryd.prog 108:=⟨_,rfl,rfl,by kernel_rfl⟩
theorem zOL:Ok Tryd.prog 108 zzi:=zbv zMp zHX λ args K h=>by
  unfold zzi at h
  split at h
  · rename_i zc3 zcG zeK zqU zcs zg2 zfA zkW zD5 zb0
    obtain⟨hs,hk⟩:=h
    exact⟨(λ _ _=>[]),(λ _=>false),zFE,zQM (⟨(⟨zc3,zcG⟩:Use),zeK,zqU,zcs⟩:step) (⟨(⟨zg2,zfA⟩:Use),zkW,zD5,zb0⟩:step) K hs hk⟩
  · exact h.elim
abbrev zP7:Tabs:=(Tabs.nil.addF 108 zzi)
theorem zMq:TabsOk Tryd.prog zP7:=(TabsOk.nil.addF zOL)
abbrev zP8:Ctrs:=csm zP7 (λ _ _=>[]) (λ _=>false)
def zzj:Ann:=⟨39,[(0,zK [0,1,2] []),(1,zK [0,1,2,11,12,13] []),(2,zK [0,1,2,11,12,13,14] []),(3,zK [0,1,2,7,8,11,12,13] [8]),(4,zK [0,1,2,7,8,11,12,13,21] [8]),(5,zK [6] []),(6,zK [0,1,2,8,9,11,12,13] [8,9]),(7,zK [0,1,2,10,11,12,13] []),(8,zK [0,1,2,10,11,12,13,31] []),(9,zK [6] []),(10,zK [0,1,2,11,12,13] []),(11,zK [38] []),(12,zK [6] []),(13,zK [6] [])],
 [(2,zK [0,1,2,11,12,13] [])],
 [(6,zK [0,1,2,7,8,11,12,13] [8]),(8,zK [0,1,2,10,11,12,13] [])],
 [],[]⟩
abbrev zQN:=Int
abbrev zMr (r:zQN):List PA:=[.one (.int .i64 r)]
@[irreducible] def z107:=ptF Tryd.prog zP8 zzj Tryd.f107
def zzk (zeW:(Sl step)) (zep:(Sl step)) (zaX:(Sl step)) (zca:Int) (zb1:Int) (zdF:Nat->List PV) (zdG:Nat->List PV) (zgx:Nat->List PV):St:=⟨[(0,zP (.sl zeW.len 5 zdF)),(1,zP (.sl zep.len 5 zdG)),(2,zP (.fn 108 [] [])),(11,zP (.sl zaX.len 5 zgx)),(12,zI zca),(13,zI zb1)],[],[]⟩
abbrev zvy (K:List PA->Prop) (X:St->Prop) (P:(Sl step)->(Sl step)->(Sl step)->Int->Int->Bool) (S:(Sl step)->(Sl step)->(Sl step)->Int->Int->Int):Prop:=∀ ⦃zeW:(Sl step)⦄ ⦃zep:(Sl step)⦄ ⦃zaX:(Sl step)⦄ ⦃zca:Int⦄ ⦃zb1:Int⦄ ⦃zdF:Nat->List PV⦄ ⦃zdG:Nat->List PV⦄ ⦃zgx:Nat->List PV⦄,P zeW zep zaX zca zb1=true->K (zMr (S zeW zep zaX zca zb1))->zdF=zg zaD zeW->zdG=zg zaD zep->zgx=zg zaD zaX->X (zzk zeW zep zaX zca zb1 zdF zdG zgx)
section
variable {K:List PA->Prop}{s1_a0:(Sl step)}{s2_a1:(Sl step)}{zeW:(Sl step)}{zep:(Sl step)}{zaX:(Sl step)}{zca:Int}{zb1:Int}{zdF:Nat->List PV}{zdG:Nat->List PV}{zgx:Nat->List PV}{X0:St->Prop}{P0:(Sl step)->(Sl step)->(Sl step)->Int->Int->Bool}{S0:(Sl step)->(Sl step)->(Sl step)->Int->Int->Int}{zqV:(Sl step)}{zkX:(Sl step)}{iv1:Int}{zcR:(Sl step)}{zcb:Int}{zsM:Int}{zkl:Int}{zkm:Bool}{zkn:Int}{zko:Int}{zkp:Int}{zqW:Nat->List PV}{zqX:Nat->List PV}{zzl:Nat->List PV}{zqY:(Sl step)}{zqZ:(Sl step)}{cv2:Int}{zsN:Int}{zq0:Nat->List PV}{zq1:Nat->List PV}
def zvz (S0:(Sl step)->(Sl step)->(Sl step)->Int->Int->Int) (zcR:(Sl step)) (zcb:Int) (zqY:(Sl step)) (zqZ:(Sl step)) (cv2:Int) (zsN:Int):Int :=
  (cond (cv2 != (0:Int))
 cv2
 (S0 zqY zqZ zcR zcb (w64 (zsN+(1:Int)))))
def zvA (P0:(Sl step)->(Sl step)->(Sl step)->Int->Int->Bool) (zcR:(Sl step)) (zcb:Int) (zqY:(Sl step)) (zqZ:(Sl step)) (cv2:Int) (zsN:Int):Bool :=
  (cond (cv2 != (0:Int))
 true
 (P0 zqY zqZ zcR zcb (w64 (zsN+(1:Int)))))
theorem zD6 (hX0:zvy K X0 P0 S0) (hs:zvA P0 zcR zcb zqY zqZ cv2 zsN=true) (hk:K (zMr (zvz S0 zcR zcb zqY zqZ cv2 zsN))) (zzm:zq0=zg zaD zqY) (zzn:zq1=zg zaD zqZ):z107 K [1,0,1,0,0,1,1,0,0,1,1,1,1] [X0] ⟨[(0,zP (.sl zqY.len 5 zq0)),(1,zP (.sl zqZ.len 5 zq1)),(2,zP (.fn 108 [] [])),(10,zI cv2),(11,zS zaD 5 zcR),(12,zI zcb),(13,zI zsN)],[],[]⟩:=by subst zzm;subst zzn;exact zaR (by kernel_rfl) (zc hs hk (λ hs hk=>hk) (λ hs hk=>(hX0 hs hk rfl rfl rfl)))
def zvB (S0:(Sl step)->(Sl step)->(Sl step)->Int->Int->Int) (zqV:(Sl step)) (zkX:(Sl step)) (iv1:Int) (zcR:(Sl step)) (zcb:Int) (zsM:Int) (zkl:Int) (zkm:Bool) (zkn:Int) (zko:Int) (zkp:Int):Int :=
  (zvz S0 zcR zcb zqV zkX (zN0 (⟨(⟨zkl,zkm⟩:Use),zkn,zko,zkp⟩:step) (zkX.get iv1.toNat)) zsM)
def zvC (P0:(Sl step)->(Sl step)->(Sl step)->Int->Int->Bool) (zqV:(Sl step)) (zkX:(Sl step)) (iv1:Int) (zcR:(Sl step)) (zcb:Int) (zsM:Int) (zkl:Int) (zkm:Bool) (zkn:Int) (zko:Int) (zkp:Int):Bool :=
  (decide ((0≤iv1/\iv1 < (zkX.len:Int))) &&
 (decide ((zOK (⟨(⟨zkl,zkm⟩:Use),zkn,zko,zkp⟩:step) (zkX.get iv1.toNat)=true)) &&
 (zvA P0 zcR zcb zqV zkX (zN0 (⟨(⟨zkl,zkm⟩:Use),zkn,zko,zkp⟩:step) (zkX.get iv1.toNat)) zsM)))
theorem zD7 (hX0:zvy K X0 P0 S0) (hs:zvC P0 zqV zkX iv1 zcR zcb zsM zkl zkm zkn zko zkp=true) (hk:K (zMr (zvB S0 zqV zkX iv1 zcR zcb zsM zkl zkm zkn zko zkp))) (zzo:zqW=zg zaD zqV) (zzp:zqX=zg zaD zkX) (zHY:zzl=zg zaD zcR):z107 K [1,0,1,0,0,1,1,0,0,1,1] [X0] ⟨[(0,zP (.sl zqV.len 5 zqW)),(1,zP (.sl zkX.len 5 zqX)),(2,zP (.fn 108 [] [])),(7,zI iv1),(8,zp 8 0),(11,zP (.sl zcR.len 5 zzl)),(12,zI zcb),(13,zI zsM)],[(8,.box 130 (zm (zaD (⟨(⟨zkl,zkm⟩:Use),zkn,zko,zkp⟩:step))))],[]⟩:=by subst zzo;subst zzp;subst zHY;exact zaR (by kernel_rfl) (zaL hs λ hc hs=>And.intro hc (zaL hs λ hc hs=>And.intro hc (zD6 hX0 hs hk rfl rfl)))
def zvD (S0:(Sl step)->(Sl step)->(Sl step)->Int->Int->Int) (zeW:(Sl step)) (zep:(Sl step)) (zaX:(Sl step)) (zca:Int) (zb1:Int):Int :=
  (cond (decide (zb1 < zca))
 (cond (decide (zb1 ≥ (zep.len : Int)))
 (1:Int)
 (zvB S0 zeW zep zb1 zaX zca zb1 ((zaX.get zb1.toNat).Use.Tie) ((zaX.get zb1.toNat).Use.Back) ((zaX.get zb1.toNat).from_) ((zaX.get zb1.toNat).to) ((zaX.get zb1.toNat).length)))
 (cond (decide ((zeW.len : Int) < (zep.len : Int)))
 (-1:Int)
 (0:Int)))
def zvE (P0:(Sl step)->(Sl step)->(Sl step)->Int->Int->Bool) (zeW:(Sl step)) (zep:(Sl step)) (zaX:(Sl step)) (zca:Int) (zb1:Int):Bool :=
  (cond (decide (zb1 < zca))
 (decide ((0≤zb1/\zb1 < (zaX.len:Int))) &&
 (cond (decide (zb1 ≥ (zep.len : Int)))
 true
 (zvC P0 zeW zep zb1 zaX zca zb1 ((zaX.get zb1.toNat).Use.Tie) ((zaX.get zb1.toNat).Use.Back) ((zaX.get zb1.toNat).from_) ((zaX.get zb1.toNat).to) ((zaX.get zb1.toNat).length))))
 true)
def zvF:Nat->(Sl step)->(Sl step)->(Sl step)->Int->Int->Int:=lpO (λ _ _ _ _ _=>default) (zvD)
def zvG:Nat->(Sl step)->(Sl step)->(Sl step)->Int->Int->Bool:=lpO (λ _ _ _ _ _=>false) (zvE)
def zvH (zeW:(Sl step)) (zep:(Sl step)) (zaX:(Sl step)) (zca:Int) (zb1:Int):Int:=zvF Fuel zeW zep zaX zca zb1
def zvI (zeW:(Sl step)) (zep:(Sl step)) (zaX:(Sl step)) (zca:Int) (zb1:Int):Bool:=zvG Fuel zeW zep zaX zca zb1
theorem zD8 (hs:zvI zeW zep zaX zca zb1=true) (hk:K (zMr (zvH zeW zep zaX zca zb1))) (zl6:zdF=zg zaD zeW) (zl7:zdG=zg zaD zep) (zsO:zgx=zg zaD zaX):z107 K [1,0,1,0] [] (zzk zeW zep zaX zca zb1 zdF zdG zgx) :=
  zl (λ X=>z107 K [1,0,1,0,0] [X]) (by kernel_rfl) λ X0 hX =>
  (show ∀ k, zvy K X0 (zvG k) (zvF k) from zdU _ _ (zvE) (zvD) (zvy K X0)
 (by intro _ _ _ _ _ _ _ _ hs;exact absurd hs Bool.false_ne_true)
 (by intro P0 S0 hX0 zeW zep zaX zca zb1 zdF zdG zgx hs hk zl6 zl7 zsO;subst zl6;subst zl7;subst zsO;exact hX _ (zaR (by kernel_rfl) (zc hs hk (λ hs hk=>(zaL hs λ hc hs=>And.intro hc (zc hs hk (λ hs hk=>hk) (λ hs hk=>(zD7 hX0 hs hk rfl rfl rfl))))) (λ hs hk=>(zt hk (λ hk=>hk) (λ hk=>hk))))))) _ hs hk zl6 zl7 zsO
def zN1 (s1_a0:(Sl step)) (s2_a1:(Sl step)):Int :=
  (zvH s1_a0 s2_a1 s1_a0 (s1_a0.len:Int) (0:Int))
def zOM (s1_a0:(Sl step)) (s2_a1:(Sl step)):Bool :=
  (zvI s1_a0 s2_a1 s1_a0 (s1_a0.len:Int) (0:Int))
end
theorem zQO (s1_a0:(Sl step)) (s2_a1:(Sl step)) (K:List PA->Prop) (hs:zOM s1_a0 s2_a1=true) (hk:K (zMr (zN1 s1_a0 s2_a1))):vcFun Tryd.prog zP8 zzj 107 [.one (.sl s1_a0.len 5 (λ i=>zaD (s1_a0.get i))),.one (.sl s2_a1.len 5 (λ i=>zaD (s2_a1.get i))),.one (.fn 108 [] [])] K :=
  zaR (by kernel_rfl) (zD8 hs hk rfl rfl rfl)
def zzq : List PA → COut
  | [.one (.sl zdl ziz zdm),.one (.sl zcz zfx zcw),.one (.fn 108 [] [])]=>.det (IsE zaD 5 ziz zdm/\IsE zaD 5 zfx zcw/\zOM (⟨zdl,zix zdm⟩:(Sl step)) (⟨zcz,zix zcw⟩:(Sl step))=true) [.one (.int .i64 (zN1 (⟨zdl,zix zdm⟩:(Sl step)) (⟨zcz,zix zcw⟩:(Sl step))))]
  | _=>.no
theorem zHZ:zaw Tryd.prog 107:=⟨_,rfl,rfl,by kernel_rfl⟩
theorem zON:Ok Tryd.prog 107 zzq:=zbv zMq zHZ λ args K h=>by
  unfold zzq at h
  split at h
  · rename_i zdl ziz zdm zcz zfx zcw
    obtain⟨⟨⟨rfl,zfz,rfl⟩,⟨rfl,zdV,rfl⟩,hs⟩,hk⟩:=h
    try rw[zeH zfz] at hs
    try rw[zeH zfz] at hk
    try rw[zeH zdV] at hs
    try rw[zeH zdV] at hk
    exact⟨(λ _ _=>[]),(λ _=>false),zzj,zQO (⟨zdl,zfz⟩:(Sl step)) (⟨zcz,zdV⟩:(Sl step)) K hs hk⟩
  · exact h.elim
abbrev T89:Tabs:=((((Tabs.nil.addF 93 zqP).addF 106 zzc).addF 107 zzq).addI 110 zqR)
theorem zOO:TabsOk Tryd.prog T89:=((((TabsOk.nil.addF zKX).addF zOD).addF zON).addI zwM)
abbrev G89:Ctrs:=csm T89 (λ _ _=>[]) (λ _=>false)
def zzr:Ann:=⟨148,[(0,zK [0] []),(1,zK [0,3] [21]),(2,zK [0,3,23,24] [21]),(3,zK [0,3,23,24,25] [21]),(4,zK [0,3,4,23,24] [21]),(5,zK [0,3,23,24] [21]),(6,zK [0,3,23,24] [21]),(7,zK [0,3] [21]),(8,zK [0,3,5] [21]),(9,zK [0,3,5,45] [21]),(10,zK [0,3,5] [21]),(11,zK [0,3,5,48,49,50] [21]),(12,zK [0,3,5,48,49,50,51] [21]),(13,zK [0,3,5,6,7,48,49,50] [21]),(14,zK [0,3,5,48,49,50,62] [21]),(15,zK [0,3,5,48,49,50] [21]),(16,zK [0,3,5,8] [21]),(17,zK [0,5,8,64,65,66] [21]),(18,zK [0,5,8,64,65,66,67] [21]),(19,zK [0,5,8,9,10,64,65,66] [9,10,21]),(20,zK [0,5,8,9,10,64,65,66,78] [9,10,21]),(21,zK [0,5,8,9,10,11,64,65,66] [9,10,11,21]),(22,zK [0,5,8,9,10,11,12,13,64,65,66] [9,10,11,12,13,21]),(23,zK [0,5,8,9,10,11,12,13,14,64,65,66] [9,10,11,12,13,14,21]),(24,zK [0,5,8,9,10,11,12,13,14,64,65,66,83] [9,10,11,12,13,14,21,129]),(25,zK [0,5,8,9,10,11,12,13,14,64,65,66] [9,10,11,12,13,14,21,129]),(26,zK [0,5,8,9,10,11,12,13,14,64,65,66,87] [9,10,11,12,13,14,21,129]),(27,zK [0,5,8,9,10,11,12,13,14,15,64,65,66,87] [9,10,11,12,13,14,15,21,129]),(28,zK [0,5,8,9,10,11,12,13,14,15,64,65,66,87,125] [9,10,11,12,13,14,15,21,129]),(29,zK [0,5,8,9,10,11,12,13,14,15,64,65,66] [9,10,11,12,13,14,15,21,129]),(30,zK [0,5,8,9,10,11,12,13,14,64,65,66] [9,10,11,12,13,14,21,129]),(31,zK [0,5,8,9,10,11,12,13,64,65,66,136] [9,10,11,12,13,21,129]),(32,zK [0,5,8,9,10,11,12,13,14,64,65,66] [9,10,11,12,13,14,21,129]),(33,zK [0,5,8,11,64,65,66,144] [11,21,129]),(34,zK [0,5,8,64,65,66] [21,129]),(35,zK [0,5,8,64,65,66] [21,129]),(36,zK [2] [])],
 [(3,zK [0,3,23,24] [21]),(9,zK [0,3,5] [21]),(12,zK [0,3,5,48,49,50] [21]),(18,⟨[0,5,8,64,65,66],[21],[],[],[],[],[(8,1005,λ _=>zaD default)]⟩),(24,⟨[0,5,8,9,10,11,12,13,14,64,65,66],[9,10,11,12,13,14,21,129],[],[(11,0,129,130,λ _=>zaD default)],[],[],[]⟩),(27,zK [0,5,8,9,10,11,12,13,14,64,65,66,87] [9,10,11,12,13,14,21,129])],
 [(7,zK [0,3] [21]),(16,zK [0,3,5] [21]),(34,zK [0,5,8,11,64,65,66,144] [11,21,129])],
 [],[]⟩
abbrev R89:=(Sl step)
abbrev e89 (r:R89):List PA:=[.one (.sl r.len 5 (λ i=>zaD (r.get i)))]
@[irreducible] def z89:=ptF Tryd.prog G89 zzr Tryd.f89
@[irreducible] def x89:=exF Tryd.prog G89 zzr Tryd.f89
@[irreducible] def y89:=rnF Tryd.prog G89 zzr Tryd.f89
def zFF (w:web) (zcZ:Int) (zdt:(Sl (Sl Tab))) (zgy:Nat->List PV):St:=⟨[(0,zP (.fp (zaF w) 0)),(3,zv 21),(23,zI (w.Net.Nodes.toNat:Int)),(24,zI zcZ)],[(21,.vec 159 1 24 zdt.len zgy)],[]⟩
abbrev zMs (K:List PA->Prop) (w:web) (X:St->Prop) (P:Int->(Sl (Sl Tab))->Bool) (S:Int->(Sl (Sl Tab))->(Sl step)):Prop:=∀ ⦃zcZ:Int⦄ ⦃zdt:(Sl (Sl Tab))⦄ ⦃zgy:Nat->List PV⦄,P zcZ zdt=true->K (e89 (S zcZ zdt))->zgy=zg zcX zdt->X (zFF w zcZ zdt zgy)
def zFG (w:web) (zbg:(Sl (Sl Tab))) (zcL:Int):St:=⟨[(0,zP (.fp (zaF w) 0)),(3,zv 21),(5,zI zcL)],[(21,.vec 159 1 24 zbg.len (λ i=>zcX (zbg.get i)))],[]⟩
abbrev zH0 (K:List PA->Prop) (w:web) (zbg:(Sl (Sl Tab))) (X:St->Prop) (P:Int->Bool) (S:Int->(Sl step)):Prop:=∀ ⦃zcL:Int⦄,P zcL=true->K (e89 (S zcL))->X (zFG w zbg zcL)
def zFH (w:web) (zbg:(Sl (Sl Tab))) (zcl:Int) (zc9:Int):St:=⟨[(0,zP (.fp (zaF w) 0)),(3,zv 21),(5,zI zcl),(48,zv 21),(49,zI (zbg.len:Int)),(50,zI zc9)],[(21,.vec 159 1 24 zbg.len (λ i=>zcX (zbg.get i)))],[]⟩
abbrev zMt (K:List PA->Prop) (w:web) (zbg:(Sl (Sl Tab))) (X:St->Prop) (P:Int->Int->Bool) (S:Int->Int->(Sl step)):Prop:=∀ ⦃zcl:Int⦄ ⦃zc9:Int⦄,P zcl zc9=true->K (e89 (S zcl zc9))->X (zFH w zbg zcl zc9)
def zFI (w:web) (zaQ:(Sl (Sl Tab))) (zcm:Int) (zbJ:Bool) (zcH:(Sl step)) (zcu:Int) (zde:(Sl (Sl Tab))) (zeL:Nat->List PV) (zgz:Nat->List PV):St:=⟨[(0,zP (.fp (zaF w) 0)),(5,zI zcm),(8,zP (.ns zbJ zcH.len 5 zeL)),(64,zv 21),(65,zI (zaQ.len:Int)),(66,zI zcu)],[(21,.vec 159 1 24 zde.len zgz)],[]⟩
abbrev zzs (K:List PA->Prop) (w:web) (zaQ:(Sl (Sl Tab))) (X:St->Prop) (P:Int->Bool->(Sl step)->Int->(Sl (Sl Tab))->Bool) (S:Int->Bool->(Sl step)->Int->(Sl (Sl Tab))->(Sl step)):Prop:=∀ ⦃zcm:Int⦄ ⦃zbJ:Bool⦄ ⦃zcH:(Sl step)⦄ ⦃zcu:Int⦄ ⦃zde:(Sl (Sl Tab))⦄ ⦃zeL:Nat->List PV⦄ ⦃zgz:Nat->List PV⦄,P zcm zbJ zcH zcu zde=true->K (e89 (S zcm zbJ zcH zcu zde))->zeL=zg zaD zcH->zgz=zg zcX zde->X (zFI w zaQ zcm zbJ zcH zcu zde zeL zgz)
def zFJ (w:web) (zaQ:(Sl (Sl Tab))) (zcM:Int) (zbp:Bool) (zb2:(Sl step)) (zev:Int) (iv6:Int) (hv6:(Sl Tab)) (zpV:Int) (zbS:Int) (kv6:Int) (zd8:(Sl (Sl Tab))) (zb7:(Sl step)) (zeM:Nat->List PV) (zq2:Nat->List PV) (zgA:Nat->List PV) (zeN:Nat->List PV):St:=⟨[(0,zP (.fp (zaF w) 0)),(5,zI zcM),(8,zP (.ns zbp zb2.len 5 zeM)),(9,zp 9 0),(10,zp 10 0),(11,zp 11 0),(12,zp 12 0),(13,zp 13 0),(14,zp 14 0),(64,zv 21),(65,zI (zaQ.len:Int)),(66,zI zev)],[(9,.box 3 [zi iv6]),(10,.box 159 [.p (.sl hv6.len 80 zq2)]),(11,.box 127 [.vec 129]),(12,.box 3 [zi zpV]),(13,.box 3 [zi zbS]),(14,.box 3 [zi kv6]),(21,.vec 159 1 24 zd8.len zgA),(129,.vec 130 5 40 zb7.len zeN)],[]⟩
abbrev zH1 (K:List PA->Prop) (w:web) (zaQ:(Sl (Sl Tab))) (X:St->Prop) (P:Int->Bool->(Sl step)->Int->Int->(Sl Tab)->Int->Int->Int->(Sl (Sl Tab))->(Sl step)->Bool) (S:Int->Bool->(Sl step)->Int->Int->(Sl Tab)->Int->Int->Int->(Sl (Sl Tab))->(Sl step)->(Sl step)):Prop:=∀ ⦃zcM:Int⦄ ⦃zbp:Bool⦄ ⦃zb2:(Sl step)⦄ ⦃zev:Int⦄ ⦃iv6:Int⦄ ⦃hv6:(Sl Tab)⦄ ⦃zpV:Int⦄ ⦃zbS:Int⦄ ⦃kv6:Int⦄ ⦃zd8:(Sl (Sl Tab))⦄ ⦃zb7:(Sl step)⦄ ⦃zeM:Nat->List PV⦄ ⦃zq2:Nat->List PV⦄ ⦃zgA:Nat->List PV⦄ ⦃zeN:Nat->List PV⦄,P zcM zbp zb2 zev iv6 hv6 zpV zbS kv6 zd8 zb7=true->K (e89 (S zcM zbp zb2 zev iv6 hv6 zpV zbS kv6 zd8 zb7))->zeM=zg zaD zb2->zq2=zg zau hv6->zgA=zg zcX zd8->zeN=zg zaD zb7->X (zFJ w zaQ zcM zbp zb2 zev iv6 hv6 zpV zbS kv6 zd8 zb7 zeM zq2 zgA zeN)
def zzt (w:web) (zaQ:(Sl (Sl Tab))) (zbN:Int) (za3:Bool) (zbK:(Sl step)) (zcS:Int) (iv7:Int) (hv7:(Sl Tab)) (zhv:Int) (za0:Int) (kv7:Int) (zcJ:(Sl (Sl Tab))) (zbs:(Sl step)) (zdy:Nat->List PV) (zmM:Nat->List PV) (zeX:Nat->List PV) (zdz:Nat->List PV):St:=⟨[(0,zP (.fp (zaF w) 0)),(5,zI zbN),(8,zP (.ns za3 zbK.len 5 zdy)),(9,zp 9 0),(10,zp 10 0),(11,zp 11 0),(12,zp 12 0),(13,zp 13 0),(14,zp 14 0),(64,zv 21),(65,zI (zaQ.len:Int)),(66,zI zcS),(87,zP (.fn 110 [] [.fp [.fp (zaF w) 0] 0]))],[(9,.box 3 [zi iv7]),(10,.box 159 [.p (.sl hv7.len 80 zmM)]),(11,.box 127 [.vec 129]),(12,.box 3 [zi zhv]),(13,.box 3 [zi za0]),(14,.box 3 [zi kv7]),(21,.vec 159 1 24 zcJ.len zeX),(129,.vec 130 5 40 zbs.len zdz)],[]⟩
abbrev zMu (K:List PA->Prop) (w:web) (zaQ:(Sl (Sl Tab))) (X:St->Prop) (P:Int->Bool->(Sl step)->Int->Int->(Sl Tab)->Int->Int->Int->(Sl (Sl Tab))->(Sl step)->Bool) (S:Int->Bool->(Sl step)->Int->Int->(Sl Tab)->Int->Int->Int->(Sl (Sl Tab))->(Sl step)->(Sl step)):Prop:=∀ ⦃zbN:Int⦄ ⦃za3:Bool⦄ ⦃zbK:(Sl step)⦄ ⦃zcS:Int⦄ ⦃iv7:Int⦄ ⦃hv7:(Sl Tab)⦄ ⦃zhv:Int⦄ ⦃za0:Int⦄ ⦃kv7:Int⦄ ⦃zcJ:(Sl (Sl Tab))⦄ ⦃zbs:(Sl step)⦄ ⦃zdy:Nat->List PV⦄ ⦃zmM:Nat->List PV⦄ ⦃zeX:Nat->List PV⦄ ⦃zdz:Nat->List PV⦄,P zbN za3 zbK zcS iv7 hv7 zhv za0 kv7 zcJ zbs=true->K (e89 (S zbN za3 zbK zcS iv7 hv7 zhv za0 kv7 zcJ zbs))->zdy=zg zaD zbK->zmM=zg zau hv7->zeX=zg zcX zcJ->zdz=zg zaD zbs->X (zzt w zaQ zbN za3 zbK zcS iv7 hv7 zhv za0 kv7 zcJ zbs zdy zmM zeX zdz)
section
variable {K:List PA->Prop}{w:web}{zcZ:Int}{zdt:(Sl (Sl Tab))}{zgy:Nat->List PV}{X0:St->Prop}{P0:Int->(Sl (Sl Tab))->Bool}{S0:Int->(Sl (Sl Tab))->(Sl step)}{zbg:(Sl (Sl Tab))}{zzu:Nat->List PV}{zcL:Int}{X2:St->Prop}{P2:Int->Bool}{S2:Int->(Sl step)}{zcl:Int}{zc9:Int}{X3:St->Prop}{P3:Int->Int->Bool}{S3:Int->Int->(Sl step)}{zl8:Int}{zaQ:(Sl (Sl Tab))}{zzv:Nat->List PV}{zcm:Int}{zbJ:Bool}{zcH:(Sl step)}{zcu:Int}{zde:(Sl (Sl Tab))}{zeL:Nat->List PV}{zgz:Nat->List PV}{X5:St->Prop}{P5:Int->Bool->(Sl step)->Int->(Sl (Sl Tab))->Bool}{S5:Int->Bool->(Sl step)->Int->(Sl (Sl Tab))->(Sl step)}{zcM:Int}{zbp:Bool}{zb2:(Sl step)}{zev:Int}{iv6:Int}{hv6:(Sl Tab)}{zpV:Int}{zbS:Int}{kv6:Int}{zd8:(Sl (Sl Tab))}{zb7:(Sl step)}{zeM:Nat->List PV}{zq2:Nat->List PV}{zgA:Nat->List PV}{zeN:Nat->List PV}{X6:St->Prop}{P6:Int->Bool->(Sl step)->Int->Int->(Sl Tab)->Int->Int->Int->(Sl (Sl Tab))->(Sl step)->Bool}{S6:Int->Bool->(Sl step)->Int->Int->(Sl Tab)->Int->Int->Int->(Sl (Sl Tab))->(Sl step)->(Sl step)}{zbN:Int}{za3:Bool}{zbK:(Sl step)}{zcS:Int}{iv7:Int}{hv7:(Sl Tab)}{zhv:Int}{za0:Int}{kv7:Int}{zcJ:(Sl (Sl Tab))}{zbs:(Sl step)}{zdy:Nat->List PV}{zmM:Nat->List PV}{zeX:Nat->List PV}{zdz:Nat->List PV}{ziA:Int}{zfB:Bool}{zkq:(Sl step)}{zoF:Int}{zl9:Bool}{zmN:(Sl (Sl Tab))}{zkr:(Sl step)}{zvJ:Nat->List PV}{zzw:Nat->List PV}{zvK:Nat->List PV}
def zsP (S5:Int->Bool->(Sl step)->Int->(Sl (Sl Tab))->(Sl step)) (w:web) (zaQ:(Sl (Sl Tab))) (ziA:Int) (zfB:Bool) (zkq:(Sl step)) (zoF:Int) (zl9:Bool) (zmN:(Sl (Sl Tab))) (zkr:(Sl step)):(Sl step) :=
  (cond zl9
 (S5 ziA false zkr (w64 (zoF+(1:Int))) zmN)
 (S5 ziA zfB zkq (w64 (zoF+(1:Int))) zmN))
def zsQ (P5:Int->Bool->(Sl step)->Int->(Sl (Sl Tab))->Bool) (w:web) (zaQ:(Sl (Sl Tab))) (ziA:Int) (zfB:Bool) (zkq:(Sl step)) (zoF:Int) (zl9:Bool) (zmN:(Sl (Sl Tab))) (zkr:(Sl step)):Bool :=
  (cond zl9
 (P5 ziA false zkr (w64 (zoF+(1:Int))) zmN)
 (P5 ziA zfB zkq (w64 (zoF+(1:Int))) zmN))
theorem zzx (hX5:zzs K w zaQ X5 P5 S5) (hs:zsQ P5 w zaQ ziA zfB zkq zoF zl9 zmN zkr=true) (hk:K (e89 (zsP S5 w zaQ ziA zfB zkq zoF zl9 zmN zkr))) (zD9:zvJ=zg zaD zkq) (zH2:zzw=zg zcX zmN) (zEa:zvK=zg zaD zkr):z89 K [1,0,1,1,1,1,1,1,0,1,0,0,1,1,0,0,1,1,1,1,1,1] [X5] ⟨[(0,zP (.fp (zaF w) 0)),(5,zI ziA),(8,zP (.ns zfB zkq.len 5 zvJ)),(11,zp 11 0),(64,zv 21),(65,zI (zaQ.len:Int)),(66,zI zoF),(144,zB zl9)],[(11,.box 127 [.vec 129]),(21,.vec 159 1 24 zmN.len zzw),(129,.vec 130 5 40 zkr.len zvK)],[]⟩:=by subst zD9;subst zH2;subst zEa;exact zaR (by kernel_rfl) (zc hs hk (λ hs hk=>(hX5 hs hk rfl rfl)) (λ hs hk=>(hX5 hs hk rfl rfl)))
def zH3 (S5:Int->Bool->(Sl step)->Int->(Sl (Sl Tab))->(Sl step)) (S6:Int->Bool->(Sl step)->Int->Int->(Sl Tab)->Int->Int->Int->(Sl (Sl Tab))->(Sl step)->(Sl step)) (w:web) (zaQ:(Sl (Sl Tab))) (zbN:Int) (za3:Bool) (zbK:(Sl step)) (zcS:Int) (iv7:Int) (hv7:(Sl Tab)) (zhv:Int) (za0:Int) (kv7:Int) (zcJ:(Sl (Sl Tab))) (zbs:(Sl step)):(Sl step) :=
  (S6 zbN za3 zbK zcS iv7 hv7 zhv za0 (w64 (kv7 - (1:Int))) zcJ zbs)
def zH4 (P5:Int->Bool->(Sl step)->Int->(Sl (Sl Tab))->Bool) (P6:Int->Bool->(Sl step)->Int->Int->(Sl Tab)->Int->Int->Int->(Sl (Sl Tab))->(Sl step)->Bool) (w:web) (zaQ:(Sl (Sl Tab))) (zbN:Int) (za3:Bool) (zbK:(Sl step)) (zcS:Int) (iv7:Int) (hv7:(Sl Tab)) (zhv:Int) (za0:Int) (kv7:Int) (zcJ:(Sl (Sl Tab))) (zbs:(Sl step)):Bool :=
  (P6 zbN za3 zbK zcS iv7 hv7 zhv za0 (w64 (kv7 - (1:Int))) zcJ zbs)
def zzy (S5:Int->Bool->(Sl step)->Int->(Sl (Sl Tab))->(Sl step)) (S6:Int->Bool->(Sl step)->Int->Int->(Sl Tab)->Int->Int->Int->(Sl (Sl Tab))->(Sl step)->(Sl step)) (w:web) (zaQ:(Sl (Sl Tab))) (y7:step) (S7:Int->Bool->(Sl step)->Int->Int->(Sl Tab)->Int->Int->Int->(Sl (Sl Tab))->(Sl step)->(Sl step)) (zbN:Int) (za3:Bool) (zbK:(Sl step)) (zcS:Int) (iv7:Int) (hv7:(Sl Tab)) (zhv:Int) (za0:Int) (kv7:Int) (zcJ:(Sl (Sl Tab))) (zbs:(Sl step)):(Sl step) :=
  (cond (y7.from_ == zhv)
 (cond (decide (y7.to ≥ iv7))
 (cond (!(nvr (tL (hv7.get kv7.toNat) y7.to) (tU (hv7.get kv7.toNat) y7.to)))
 (cond (decide ((w64 ((w64 (za0 + y7.length)) + (tL (hv7.get kv7.toNat) y7.to))) < (0:Int)))
 (S6 zbN za3 zbK zcS iv7 hv7 y7.to (w64 (za0+y7.length)) (w64 (kv7 - (1:Int))) zcJ (⟨(zbs.len+1),(zl0 zbs.len zbs.get (λ _=>y7))⟩:Sl step))
 (S7 zbN za3 zbK zcS iv7 hv7 zhv za0 kv7 zcJ zbs))
 (S7 zbN za3 zbK zcS iv7 hv7 zhv za0 kv7 zcJ zbs))
 (S7 zbN za3 zbK zcS iv7 hv7 zhv za0 kv7 zcJ zbs))
 (S7 zbN za3 zbK zcS iv7 hv7 zhv za0 kv7 zcJ zbs))
def zzz (P5:Int->Bool->(Sl step)->Int->(Sl (Sl Tab))->Bool) (P6:Int->Bool->(Sl step)->Int->Int->(Sl Tab)->Int->Int->Int->(Sl (Sl Tab))->(Sl step)->Bool) (w:web) (zaQ:(Sl (Sl Tab))) (y7:step) (P7:Int->Bool->(Sl step)->Int->Int->(Sl Tab)->Int->Int->Int->(Sl (Sl Tab))->(Sl step)->Bool) (zbN:Int) (za3:Bool) (zbK:(Sl step)) (zcS:Int) (iv7:Int) (hv7:(Sl Tab)) (zhv:Int) (za0:Int) (kv7:Int) (zcJ:(Sl (Sl Tab))) (zbs:(Sl step)):Bool :=
  (cond (y7.from_ == zhv)
 (cond (decide (y7.to ≥ iv7))
 (decide ((0≤kv7/\kv7 < (hv7.len:Int))) &&
 (decide ((0≤y7.to/\y7.to < (40:Int))) &&
 (cond (!(nvr (tL (hv7.get kv7.toNat) y7.to) (tU (hv7.get kv7.toNat) y7.to)))
 (decide ((0≤kv7/\kv7 < (hv7.len:Int))) &&
 (decide ((0≤y7.to/\y7.to < (40:Int))) &&
 (cond (decide ((w64 ((w64 (za0 + y7.length)) + (tL (hv7.get kv7.toNat) y7.to))) < (0:Int)))
 (decide (((zbs.len+1) * 40≤140737488355328/\zbs.len+1≤9223372036854775807)) &&
 (P6 zbN za3 zbK zcS iv7 hv7 y7.to (w64 (za0+y7.length)) (w64 (kv7 - (1:Int))) zcJ (⟨(zbs.len+1),(zl0 zbs.len zbs.get (λ _=>y7))⟩:Sl step)))
 (P7 zbN za3 zbK zcS iv7 hv7 zhv za0 kv7 zcJ zbs))))
 (P7 zbN za3 zbK zcS iv7 hv7 zhv za0 kv7 zcJ zbs))))
 (P7 zbN za3 zbK zcS iv7 hv7 zhv za0 kv7 zcJ zbs))
 (P7 zbN za3 zbK zcS iv7 hv7 zhv za0 kv7 zcJ zbs))
def zzA (S5:Int->Bool->(Sl step)->Int->(Sl (Sl Tab))->(Sl step)) (S6:Int->Bool->(Sl step)->Int->Int->(Sl Tab)->Int->Int->Int->(Sl (Sl Tab))->(Sl step)->(Sl step)) (w:web) (zaQ:(Sl (Sl Tab))):List step->Int->Bool->(Sl step)->Int->Int->(Sl Tab)->Int->Int->Int->(Sl (Sl Tab))->(Sl step)->(Sl step):=lpR (zH3 S5 S6 w zaQ) (zzy S5 S6 w zaQ)
def zzB (P5:Int->Bool->(Sl step)->Int->(Sl (Sl Tab))->Bool) (P6:Int->Bool->(Sl step)->Int->Int->(Sl Tab)->Int->Int->Int->(Sl (Sl Tab))->(Sl step)->Bool) (w:web) (zaQ:(Sl (Sl Tab))):List step->Int->Bool->(Sl step)->Int->Int->(Sl Tab)->Int->Int->Int->(Sl (Sl Tab))->(Sl step)->Bool:=lpR (zH4 P5 P6 w zaQ) (zzz P5 P6 w zaQ)
def zzC (S5:Int->Bool->(Sl step)->Int->(Sl (Sl Tab))->(Sl step)) (S6:Int->Bool->(Sl step)->Int->Int->(Sl Tab)->Int->Int->Int->(Sl (Sl Tab))->(Sl step)->(Sl step)) (w:web) (zaQ:(Sl (Sl Tab))) (zbN:Int) (za3:Bool) (zbK:(Sl step)) (zcS:Int) (iv7:Int) (hv7:(Sl Tab)) (zhv:Int) (za0:Int) (kv7:Int) (zcJ:(Sl (Sl Tab))) (zbs:(Sl step)):(Sl step):=zzA S5 S6 w zaQ (zl4 w) zbN za3 zbK zcS iv7 hv7 zhv za0 kv7 zcJ zbs
def zzD (P5:Int->Bool->(Sl step)->Int->(Sl (Sl Tab))->Bool) (P6:Int->Bool->(Sl step)->Int->Int->(Sl Tab)->Int->Int->Int->(Sl (Sl Tab))->(Sl step)->Bool) (w:web) (zaQ:(Sl (Sl Tab))) (zbN:Int) (za3:Bool) (zbK:(Sl step)) (zcS:Int) (iv7:Int) (hv7:(Sl Tab)) (zhv:Int) (za0:Int) (kv7:Int) (zcJ:(Sl (Sl Tab))) (zbs:(Sl step)):Bool:=decide ((zw0 w=true)) && zzB P5 P6 w zaQ (zl4 w) zbN za3 zbK zcS iv7 hv7 zhv za0 kv7 zcJ zbs
theorem zH5 (hX5:zzs K w zaQ X5 P5 S5) (hX6:zH1 K w zaQ X6 P6 S6) (hs:zzD P5 P6 w zaQ zbN za3 zbK zcS iv7 hv7 zhv za0 kv7 zcJ zbs=true) (hk:K (e89 (zzC S5 S6 w zaQ zbN za3 zbK zcS iv7 hv7 zhv za0 kv7 zcJ zbs))) (ziB:zdy=zg zaD zbK) (zzE:zmM=zg zau hv7) (zma:zeX=zg zcX zcJ) (ziC:zdz=zg zaD zbs):z89 K [1,0,1,1,1,1,1,1,0,1,0,0,1,1,0,0,1,1,1,1,0,1,0,0,1,0,0,1,0] [X5,X6] (zzt w zaQ zbN za3 zbK zcS iv7 hv7 zhv za0 kv7 zcJ zbs zdy zmM zeX zdz) :=
  zaL hs λ hc hs=>zr (enc:=(λ y:step=>[.agg (zaD y)])) (ys:=zl4 w) (g:=(zzt w zaQ zbN za3 zbK zcS iv7 hv7 zhv za0 kv7 zcJ zbs zdy zmM zeX zdz)) (x89 K [1,0,1,1,1,1,1,1,0,1,0,0,1,1,0,0,1,1,1,1,0,1,0,0,1,0,0,1,0] [X5,X6]) (y89 K [1,0,1,1,1,1,1,1,0,1,0,0,1,1,0,0,1,1,1,1,0,1,0,0,1,0,0,1,0] [X5,X6]) (by kernel_rfl) (And.intro (zE zai 4 w.Net.Ties.get) (And.intro (rfl:((false,1,false,[none]):MQ)=(false,1,false,[none])) hc)) λ X7 hE hR =>
  (show ∀ l : List step, zMu K w zaQ (X7 (l.map (λ y : step => [.agg (zaD y)]))) (zzB P5 P6 w zaQ l) (zzA S5 S6 w zaQ l) from zri (X := X7) (enc := (λ y : step => [.agg (zaD y)])) _ _ (zzz P5 P6 w zaQ) (zzy S5 S6 w zaQ) (λ Z P S => zMu K w zaQ Z P S)
 (by intro zbN za3 zbK zcS iv7 hv7 zhv za0 kv7 zcJ zbs zdy zmM zeX zdz hs hk ziB zzE zma ziC;subst ziB;subst zzE;subst zma;subst ziC;exact hE _ (zaR (by kernel_rfl) (hX6 hs hk rfl rfl rfl rfl)))
 (by intro y7 rest P7 S7 hX7 zbN za3 zbK zcS iv7 hv7 zhv za0 kv7 zcJ zbs zdy zmM zeX zdz hs hk ziB zzE zma ziC;subst ziB;subst zzE;subst zma;subst ziC;exact hR _ rest _ (zaR (by kernel_rfl) (zc hs hk (λ hs hk=>(zc hs hk (λ hs hk=>(zaL hs λ hc hs=>And.intro hc (zaL hs λ hc hs=>And.intro hc (zc hs hk (λ hs hk=>(zaL hs λ hc hs=>And.intro hc (zaL hs λ hc hs=>And.intro hc (zc hs hk (λ hs hk=>(zaL hs λ hc hs=>And.intro hc (hX6 hs hk rfl rfl rfl (ziw (enc:=zaD) (f:=zbs.get) (h:=(λ _=>y7)) rfl rfl)))) (λ hs hk=>(hX7 hs hk rfl rfl rfl rfl)))))) (λ hs hk=>(hX7 hs hk rfl rfl rfl rfl)))))) (λ hs hk=>(hX7 hs hk rfl rfl rfl rfl)))) (λ hs hk=>(hX7 hs hk rfl rfl rfl rfl)))))) _ hs hk ziB zzE zma ziC
def zzF (S5:Int->Bool->(Sl step)->Int->(Sl (Sl Tab))->(Sl step)) (w:web) (zaQ:(Sl (Sl Tab))) (S6:Int->Bool->(Sl step)->Int->Int->(Sl Tab)->Int->Int->Int->(Sl (Sl Tab))->(Sl step)->(Sl step)) (zcM:Int) (zbp:Bool) (zb2:(Sl step)) (zev:Int) (iv6:Int) (hv6:(Sl Tab)) (zpV:Int) (zbS:Int) (kv6:Int) (zd8:(Sl (Sl Tab))) (zb7:(Sl step)):(Sl step) :=
  (cond (decide (kv6 ≥ (0:Int)))
 (zzC S5 S6 w zaQ zcM zbp zb2 zev iv6 hv6 zpV zbS kv6 zd8 zb7)
 (cond zbp
 (zsP S5 w zaQ zcM zbp zb2 zev true zd8 zb7)
 (zsP S5 w zaQ zcM zbp zb2 zev (decide ((zN1 zb7 zb2) < (0:Int))) zd8 zb7)))
def zzG (P5:Int->Bool->(Sl step)->Int->(Sl (Sl Tab))->Bool) (w:web) (zaQ:(Sl (Sl Tab))) (P6:Int->Bool->(Sl step)->Int->Int->(Sl Tab)->Int->Int->Int->(Sl (Sl Tab))->(Sl step)->Bool) (zcM:Int) (zbp:Bool) (zb2:(Sl step)) (zev:Int) (iv6:Int) (hv6:(Sl Tab)) (zpV:Int) (zbS:Int) (kv6:Int) (zd8:(Sl (Sl Tab))) (zb7:(Sl step)):Bool :=
  (cond (decide (kv6 ≥ (0:Int)))
 (zzD P5 P6 w zaQ zcM zbp zb2 zev iv6 hv6 zpV zbS kv6 zd8 zb7)
 (decide ((zbp=true∨zb2.len ≠ 0)) &&
 (cond zbp
 (zsQ P5 w zaQ zcM zbp zb2 zev true zd8 zb7)
 (decide ((zOM zb7 zb2=true)) &&
 (zsQ P5 w zaQ zcM zbp zb2 zev (decide ((zN1 zb7 zb2) < (0:Int))) zd8 zb7)))))
def zzH (S5:Int->Bool->(Sl step)->Int->(Sl (Sl Tab))->(Sl step)) (w:web) (zaQ:(Sl (Sl Tab))):Nat->Int->Bool->(Sl step)->Int->Int->(Sl Tab)->Int->Int->Int->(Sl (Sl Tab))->(Sl step)->(Sl step):=lpO (λ _ _ _ _ _ _ _ _ _ _ _=>default) (zzF S5 w zaQ)
def zzI (P5:Int->Bool->(Sl step)->Int->(Sl (Sl Tab))->Bool) (w:web) (zaQ:(Sl (Sl Tab))):Nat->Int->Bool->(Sl step)->Int->Int->(Sl Tab)->Int->Int->Int->(Sl (Sl Tab))->(Sl step)->Bool:=lpO (λ _ _ _ _ _ _ _ _ _ _ _=>false) (zzG P5 w zaQ)
def zzJ (S5:Int->Bool->(Sl step)->Int->(Sl (Sl Tab))->(Sl step)) (w:web) (zaQ:(Sl (Sl Tab))) (zcM:Int) (zbp:Bool) (zb2:(Sl step)) (zev:Int) (iv6:Int) (hv6:(Sl Tab)) (zpV:Int) (zbS:Int) (kv6:Int) (zd8:(Sl (Sl Tab))) (zb7:(Sl step)):(Sl step):=zzH S5 w zaQ Fuel zcM zbp zb2 zev iv6 hv6 zpV zbS kv6 zd8 zb7
def zzK (P5:Int->Bool->(Sl step)->Int->(Sl (Sl Tab))->Bool) (w:web) (zaQ:(Sl (Sl Tab))) (zcM:Int) (zbp:Bool) (zb2:(Sl step)) (zev:Int) (iv6:Int) (hv6:(Sl Tab)) (zpV:Int) (zbS:Int) (kv6:Int) (zd8:(Sl (Sl Tab))) (zb7:(Sl step)):Bool:=zzI P5 w zaQ Fuel zcM zbp zb2 zev iv6 hv6 zpV zbS kv6 zd8 zb7
theorem zH6 (hX5:zzs K w zaQ X5 P5 S5) (hs:zzK P5 w zaQ zcM zbp zb2 zev iv6 hv6 zpV zbS kv6 zd8 zb7=true) (hk:K (e89 (zzJ S5 w zaQ zcM zbp zb2 zev iv6 hv6 zpV zbS kv6 zd8 zb7))) (zoG:zeM=zg zaD zb2) (zH7:zq2=zg zau hv6) (zsR:zgA=zg zcX zd8) (zoH:zeN=zg zaD zb7):z89 K [1,0,1,1,1,1,1,1,0,1,0,0,1,1,0,0,1,1,1,1,0,1,0] [X5] (zFJ w zaQ zcM zbp zb2 zev iv6 hv6 zpV zbS kv6 zd8 zb7 zeM zq2 zgA zeN) :=
  zl (λ X=>z89 K [1,0,1,1,1,1,1,1,0,1,0,0,1,1,0,0,1,1,1,1,0,1,0,0] [X5,X]) (by kernel_rfl) λ X6 hX =>
  (show ∀ k, zH1 K w zaQ X6 (zzI P5 w zaQ k) (zzH S5 w zaQ k) from zdU _ _ (zzG P5 w zaQ) (zzF S5 w zaQ) (zH1 K w zaQ X6)
 (by intro _ _ _ _ _ _ _ _ _ _ _ _ _ _ _ hs;exact absurd hs Bool.false_ne_true)
 (by intro P6 S6 hX6 zcM zbp zb2 zev iv6 hv6 zpV zbS kv6 zd8 zb7 zeM zq2 zgA zeN hs hk zoG zH7 zsR zoH;subst zoG;subst zH7;subst zsR;subst zoH;exact hX _ (zaR (by kernel_rfl) (zc hs hk (λ hs hk=>(And.intro (And.intro (zE zai 4 w.Net.Ties.get) (rfl:((false,1,false,[none]):MQ)=(false,1,false,[none]))) (zH5 hX5 hX6 hs hk rfl rfl rfl rfl))) (λ hs hk=>(zaL hs λ hc hs=>And.intro hc (zc hs hk (λ hs hk=>(zzx hX5 hs hk rfl rfl rfl)) (λ hs hk=>(zaL hs λ hc hs=>And.intro (And.intro (zE zaD 5 zb7.get) (And.intro (zE zaD 5 zb2.get) hc)) (zzx hX5 hs hk rfl rfl rfl)))))))))) _ hs hk zoG zH7 zsR zoH
def zzL (w:web) (zaQ:(Sl (Sl Tab))) (S5:Int->Bool->(Sl step)->Int->(Sl (Sl Tab))->(Sl step)) (zcm:Int) (zbJ:Bool) (zcH:(Sl step)) (zcu:Int) (zde:(Sl (Sl Tab))):(Sl step) :=
  (cond (decide (zcu < (zaQ.len : Int)))
 (cond (decide ((tL ((zde.get zcu.toNat).get zcm.toNat) zcu) ≥ (0:Int)))
 (S5 zcm zbJ zcH (w64 (zcu+(1:Int))) zde)
 (zzJ S5 w zaQ zcm zbJ zcH zcu zcu (zde.get zcu.toNat) zcu (0:Int) (w64 (zcm - (1:Int))) zde (⟨0,(λ _=>default)⟩:Sl step)))
 zcH)
def zzM (w:web) (zaQ:(Sl (Sl Tab))) (P5:Int->Bool->(Sl step)->Int->(Sl (Sl Tab))->Bool) (zcm:Int) (zbJ:Bool) (zcH:(Sl step)) (zcu:Int) (zde:(Sl (Sl Tab))):Bool :=
  (cond (decide (zcu < (zaQ.len : Int)))
 (decide ((0≤zcu/\zcu < (zde.len:Int))) &&
 (decide ((zcu.toNat < zde.len)) &&
 (decide ((0≤zcm/\zcm < ((zde.get zcu.toNat).len:Int))) &&
 (decide ((0≤zcu/\zcu < (40:Int))) &&
 (cond (decide ((tL ((zde.get zcu.toNat).get zcm.toNat) zcu) ≥ (0:Int)))
 (P5 zcm zbJ zcH (w64 (zcu+(1:Int))) zde)
 (zzK P5 w zaQ zcm zbJ zcH zcu zcu (zde.get zcu.toNat) zcu (0:Int) (w64 (zcm - (1:Int))) zde (⟨0,(λ _=>default)⟩:Sl step)))))))
 true)
def zzN (w:web) (zaQ:(Sl (Sl Tab))):Nat->Int->Bool->(Sl step)->Int->(Sl (Sl Tab))->(Sl step):=lpO (λ _ _ _ _ _=>default) (zzL w zaQ)
def zzO (w:web) (zaQ:(Sl (Sl Tab))):Nat->Int->Bool->(Sl step)->Int->(Sl (Sl Tab))->Bool:=lpO (λ _ _ _ _ _=>false) (zzM w zaQ)
def zzP (w:web) (zaQ:(Sl (Sl Tab))) (zcm:Int) (zbJ:Bool) (zcH:(Sl step)) (zcu:Int) (zde:(Sl (Sl Tab))):(Sl step):=zzN w zaQ Fuel zcm zbJ zcH zcu zde
def zzQ (w:web) (zaQ:(Sl (Sl Tab))) (zcm:Int) (zbJ:Bool) (zcH:(Sl step)) (zcu:Int) (zde:(Sl (Sl Tab))):Bool:=zzO w zaQ Fuel zcm zbJ zcH zcu zde
theorem zH8 (hs:zzQ w zaQ zcm zbJ zcH zcu zde=true) (hk:K (e89 (zzP w zaQ zcm zbJ zcH zcu zde))) (zoI:zeL=zg zaD zcH) (zsS:zgz=zg zcX zde):z89 K [1,0,1,1,1,1,1,1,0,1,0] [] (zFI w zaQ zcm zbJ zcH zcu zde zeL zgz) :=
  zl (λ X=>z89 K [1,0,1,1,1,1,1,1,0,1,0,0] [X]) (by kernel_rfl) λ X5 hX =>
  (show ∀ k, zzs K w zaQ X5 (zzO w zaQ k) (zzN w zaQ k) from zdU _ _ (zzM w zaQ) (zzL w zaQ) (zzs K w zaQ X5)
 (by intro _ _ _ _ _ _ _ hs;exact absurd hs Bool.false_ne_true)
 (by intro P5 S5 hX5 zcm zbJ zcH zcu zde zeL zgz hs hk zoI zsS;subst zoI;subst zsS;exact hX _ (zaR (by kernel_rfl) (zc hs hk (λ hs hk=>(zaL hs λ hc hs=>And.intro hc (zaL hs λ hc hs=>And.intro hc (zaL hs λ hc hs=>And.intro hc (zaL hs λ hc hs=>And.intro hc (zc hs hk (λ hs hk=>(hX5 hs hk rfl rfl)) (λ hs hk=>(zH6 hX5 hs hk rfl rfl rfl rfl)))))))) (λ hs hk=>hk))))) _ hs hk zoI zsS
def zsU (w:web) (zl8:Int) (zaQ:(Sl (Sl Tab))):(Sl step) :=
  (zzP w zaQ zl8 true (⟨0,(λ _=>default)⟩:Sl step) (0:Int) zaQ)
def zsV (w:web) (zl8:Int) (zaQ:(Sl (Sl Tab))):Bool :=
  (zzQ w zaQ zl8 true (⟨0,(λ _=>default)⟩:Sl step) (0:Int) zaQ)
theorem zzR (hs:zsV w zl8 zaQ=true) (hk:K (e89 (zsU w zl8 zaQ))) (zH9:zzv=zg zcX zaQ):z89 K [1,0,1,1,1,1,1] [] ⟨[(0,zP (.fp (zaF w) 0)),(3,zv 21),(5,zI zl8)],[(21,.vec 159 1 24 zaQ.len zzv)],[]⟩:=by subst zH9;exact zaR (by kernel_rfl) (zH8 hs hk rfl rfl)
def zzS (S2:Int->(Sl step)) (w:web) (zbg:(Sl (Sl Tab))) (S3:Int->Int->(Sl step)) (zcl:Int) (zc9:Int):(Sl step) :=
  (cond (decide (zc9 < (zbg.len : Int)))
 (cond (decide ((tL ((zbg.get zc9.toNat).get zcl.toNat) zc9) < (0:Int)))
 (zsU w zcl zbg)
 (S3 zcl (w64 (zc9+(1:Int)))))
 (S2 (w64 (zcl+(1:Int)))))
def zzT (P2:Int->Bool) (w:web) (zbg:(Sl (Sl Tab))) (P3:Int->Int->Bool) (zcl:Int) (zc9:Int):Bool :=
  (cond (decide (zc9 < (zbg.len : Int)))
 (decide ((0≤zc9/\zc9 < (zbg.len:Int))) &&
 (decide ((zc9.toNat < zbg.len)) &&
 (decide ((0≤zcl/\zcl < ((zbg.get zc9.toNat).len:Int))) &&
 (decide ((0≤zc9/\zc9 < (40:Int))) &&
 (cond (decide ((tL ((zbg.get zc9.toNat).get zcl.toNat) zc9) < (0:Int)))
 (zsV w zcl zbg)
 (P3 zcl (w64 (zc9+(1:Int)))))))))
 (P2 (w64 (zcl+(1:Int)))))
def zzU (S2:Int->(Sl step)) (w:web) (zbg:(Sl (Sl Tab))):Nat->Int->Int->(Sl step):=lpO (λ _ _=>default) (zzS S2 w zbg)
def zzV (P2:Int->Bool) (w:web) (zbg:(Sl (Sl Tab))):Nat->Int->Int->Bool:=lpO (λ _ _=>false) (zzT P2 w zbg)
def zzW (S2:Int->(Sl step)) (w:web) (zbg:(Sl (Sl Tab))) (zcl:Int) (zc9:Int):(Sl step):=zzU S2 w zbg Fuel zcl zc9
def zzX (P2:Int->Bool) (w:web) (zbg:(Sl (Sl Tab))) (zcl:Int) (zc9:Int):Bool:=zzV P2 w zbg Fuel zcl zc9
theorem zIa (hX2:zH0 K w zbg X2 P2 S2) (hs:zzX P2 w zbg zcl zc9=true) (hk:K (e89 (zzW S2 w zbg zcl zc9))):z89 K [1,0,1,1,1,1,0,1,0,0,1,0,0,1,0] [X2] (zFH w zbg zcl zc9) :=
  zl (λ X=>z89 K [1,0,1,1,1,1,0,1,0,0,1,0,0,1,0,0] [X2,X]) (by kernel_rfl) λ X3 hX =>
  (show ∀ k, zMt K w zbg X3 (zzV P2 w zbg k) (zzU S2 w zbg k) from zdU _ _ (zzT P2 w zbg) (zzS S2 w zbg) (zMt K w zbg X3)
 (by intro _ _ hs;exact absurd hs Bool.false_ne_true)
 (by intro P3 S3 hX3 zcl zc9 hs hk;exact hX _ (zaR (by kernel_rfl) (zc hs hk (λ hs hk=>(zaL hs λ hc hs=>And.intro hc (zaL hs λ hc hs=>And.intro hc (zaL hs λ hc hs=>And.intro hc (zaL hs λ hc hs=>And.intro hc (zc hs hk (λ hs hk=>(zzR hs hk rfl)) (λ hs hk=>(hX3 hs hk)))))))) (λ hs hk=>(hX2 hs hk)))))) _ hs hk
def zzY (w:web) (zbg:(Sl (Sl Tab))) (S2:Int->(Sl step)) (zcL:Int):(Sl step) :=
  (cond (decide (zcL < w.Net.Nodes))
 (zzW S2 w zbg zcL (0:Int))
 (zsU w zcL zbg))
def zzZ (w:web) (zbg:(Sl (Sl Tab))) (P2:Int->Bool) (zcL:Int):Bool :=
  (cond (decide (zcL < w.Net.Nodes))
 (zzX P2 w zbg zcL (0:Int))
 (zsV w zcL zbg))
def zz0 (w:web) (zbg:(Sl (Sl Tab))):Nat->Int->(Sl step):=lpO (λ _=>default) (zzY w zbg)
def zz1 (w:web) (zbg:(Sl (Sl Tab))):Nat->Int->Bool:=lpO (λ _=>false) (zzZ w zbg)
def zz2 (w:web) (zbg:(Sl (Sl Tab))) (zcL:Int):(Sl step):=zz0 w zbg Fuel zcL
def zz3 (w:web) (zbg:(Sl (Sl Tab))) (zcL:Int):Bool:=zz1 w zbg Fuel zcL
theorem zIb (hs:zz3 w zbg zcL=true) (hk:K (e89 (zz2 w zbg zcL))):z89 K [1,0,1,1,1,1,0,1,0] [] (zFG w zbg zcL) :=
  zl (λ X=>z89 K [1,0,1,1,1,1,0,1,0,0] [X]) (by kernel_rfl) λ X2 hX =>
  (show ∀ k, zH0 K w zbg X2 (zz1 w zbg k) (zz0 w zbg k) from zdU _ _ (zzZ w zbg) (zzY w zbg) (zH0 K w zbg X2)
 (by intro _ hs;exact absurd hs Bool.false_ne_true)
 (by intro P2 S2 hX2 zcL hs hk;exact hX _ (zaR (by kernel_rfl) (zc hs hk (λ hs hk=>(zIa hX2 hs hk)) (λ hs hk=>(zzR hs hk rfl)))))) _ hs hk
def zz4 (w:web) (zbg:(Sl (Sl Tab))):(Sl step) :=
  (zz2 w zbg (1:Int))
def zz5 (w:web) (zbg:(Sl (Sl Tab))):Bool :=
  (zz3 w zbg (1:Int))
theorem zIc (hs:zz5 w zbg=true) (hk:K (e89 (zz4 w zbg))) (zId:zzu=zg zcX zbg):z89 K [1,0,1,1] [] ⟨[(0,zP (.fp (zaF w) 0)),(3,zv 21)],[(21,.vec 159 1 24 zbg.len zzu)],[]⟩:=by subst zId;exact zaR (by kernel_rfl) (zIb hs hk)
def zz6 (w:web) (S0:Int->(Sl (Sl Tab))->(Sl step)) (zcZ:Int) (zdt:(Sl (Sl Tab))):(Sl step) :=
  (cond (decide (zcZ < (w.Net.Nodes.toNat : Int)))
 (S0 (w64 (zcZ+(1:Int))) (⟨zdt.len,(setT zcZ.toNat (zHR w zcZ w.Net.Nodes) zdt.get)⟩:Sl (Sl Tab)))
 (zz4 w zdt))
def zz7 (w:web) (P0:Int->(Sl (Sl Tab))->Bool) (zcZ:Int) (zdt:(Sl (Sl Tab))):Bool :=
  (cond (decide (zcZ < (w.Net.Nodes.toNat : Int)))
 (decide ((zOC w zcZ w.Net.Nodes=true)) &&
 (decide ((0≤zcZ/\zcZ < (zdt.len:Int))) &&
 (decide ((zcZ.toNat < zdt.len)) &&
 (P0 (w64 (zcZ+(1:Int))) (⟨zdt.len,(setT zcZ.toNat (zHR w zcZ w.Net.Nodes) zdt.get)⟩:Sl (Sl Tab))))))
 (zz5 w zdt))
def zz8 (w:web):Nat->Int->(Sl (Sl Tab))->(Sl step):=lpO (λ _ _=>default) (zz6 w)
def zz9 (w:web):Nat->Int->(Sl (Sl Tab))->Bool:=lpO (λ _ _=>false) (zz7 w)
def zAa (w:web) (zcZ:Int) (zdt:(Sl (Sl Tab))):(Sl step):=zz8 w Fuel zcZ zdt
def zAb (w:web) (zcZ:Int) (zdt:(Sl (Sl Tab))):Bool:=zz9 w Fuel zcZ zdt
theorem zIe (hs:zAb w zcZ zdt=true) (hk:K (e89 (zAa w zcZ zdt))) (zsW:zgy=zg zcX zdt):z89 K [1,0,1,0,1,0] [] (zFF w zcZ zdt zgy) :=
  zl (λ X=>z89 K [1,0,1,0,1,0,0] [X]) (by kernel_rfl) λ X0 hX =>
  (show ∀ k, zMs K w X0 (zz9 w k) (zz8 w k) from zdU _ _ (zz7 w) (zz6 w) (zMs K w X0)
 (by intro _ _ _ hs;exact absurd hs Bool.false_ne_true)
 (by intro P0 S0 hX0 zcZ zdt zgy hs hk zsW;subst zsW;exact hX _ (zaR (by kernel_rfl) (zc hs hk (λ hs hk=>(zaL hs λ hc hs=>And.intro (And.intro (zE zai 4 w.Net.Ties.get) (And.intro (rfl:((false,1,false,[none]):MQ)=(false,1,false,[none])) hc)) (zaL hs λ hc hs=>And.intro hc (zaL hs λ hc hs=>And.intro hc (hX0 hs hk (zl1 (enc:=zcX) (i:=zcZ.toNat) (k:=0) (f:=zdt.get) (new:=(zcX (zHR w zcZ w.Net.Nodes))) (v:=(zHR w zcZ w.Net.Nodes)) rfl rfl)))))) (λ hs hk=>(zIc hs hk rfl)))))) _ hs hk zsW
def s89 (w:web):(Sl step) :=
  (zAa w (0:Int) (⟨w.Net.Nodes.toNat,(λ _=>(⟨0,λ _=>(λ _=>(0:Int))⟩:(Sl Tab)))⟩:Sl (Sl Tab)))
def p89 (w:web):Bool :=
  (decide ((0≤w.Net.Nodes/\w.Net.Nodes=w.Net.Nodes/\w.Net.Nodes≤1000000)) &&
 (zAb w (0:Int) (⟨w.Net.Nodes.toNat,(λ _=>(⟨0,λ _=>(λ _=>(0:Int))⟩:(Sl Tab)))⟩:Sl (Sl Tab))))
end
theorem q89 (w:web) (K:List PA->Prop) (hs:p89 w=true) (hk:K (e89 (s89 w))):vcFun Tryd.prog G89 zzr 89 [.one (.fp (zaF w) 0)] K :=
  zaR (by kernel_rfl) (zaL hs λ hc hs=>And.intro hc (zIe hs hk rfl))
def zEb : List PA → COut
  | [.one (.fp [.int .i64 zas,.sl zam zaK zan,.fm zbw zaN zaO] 0)]=>.det (IsE zai 4 zaK zan/\zbw=(false,1,false,[none])/\p89 (⟨(⟨zas,(⟨zam,zaq zan⟩:(Sl Tie))⟩:Net),(⟨zaN,zaO⟩:Mp)⟩:web)=true) [.one (.sl ((s89 (⟨(⟨zas,(⟨zam,zaq zan⟩:(Sl Tie))⟩:Net),(⟨zaN,zaO⟩:Mp)⟩:web)).len) 5 (λ i=>zaD ((s89 (⟨(⟨zas,(⟨zam,zaq zan⟩:(Sl Tie))⟩:Net),(⟨zaN,zaO⟩:Mp)⟩:web)).get i)))]
  | _=>.no
theorem zMv:zaw Tryd.prog 89:=⟨_,rfl,rfl,by kernel_rfl⟩
theorem zP9:Ok Tryd.prog 89 zEb:=zbv zOO zMv λ args K h=>by
  unfold zEb at h
  split at h
  · rename_i zas zam zaK zan zbw zaN zaO
    obtain⟨⟨⟨rfl,zaC,rfl⟩,rfl,hs⟩,hk⟩:=h
    try rw[zat zaC] at hs
    try rw[zat zaC] at hk
    exact⟨(λ _ _=>[]),(λ _=>false),zzr,q89 (⟨(⟨zas,(⟨zam,zaC⟩:(Sl Tie))⟩:Net),(⟨zaN,zaO⟩:Mp)⟩:web) K hs hk⟩
  · exact h.elim
end Go.Proofs
/-
  DERIVED: THE SHELF's CONTRACTS AT THIS DUMP,IN PLAIN WORDS (tools/lay-plain.mjs out of 'YtedhjaaikeakoaaDoorPmLk.lean',which tools/lay-shelf.mjs wrote): THE SAME DECLARATIONS UNDER THE SAME NAMES: 'import','namespace','open','def','theorem' AND NOTHING ELSE: no command of the shelf's: FOR A HAND-IN. Each laying: the table of numbers ('.._ren') and one theorem,a field a fact of the dump's own or the kernel's comparison;each contract: ONE APPLICATION.
-/
namespace Go.Proofs
open Go.Shelf
def Tryd.keysA_ren:Go.Shelf.Ren:=⟨fun | 7=>103 | 10=>117 | n=>n,fun | 23=>103 | 26=>3 | 3=>4 | 28=>152 | 0=>0 | 27=>151 | 33=>169 | 4=>4 | n=>n,fun | n=>n⟩
theorem Tryd.keysA : Go.Proofs.SlLaysZI.n7 Tryd.prog Tryd.keysA_ren := {
  mixed:=by kernel_rfl
  f7:=⟨Tryd.f103.name,by decide,Tryd.func103.trans (congrArg some (by kernel_rfl))⟩
  f10:=⟨Tryd.f117.name,by decide,Tryd.func117.trans (congrArg some (by kernel_rfl))⟩
  t0:=Tryd.underlying0
  a0:=Tryd.isAgg0
  z0:=Tryd.sizeOf0
  v0:=Tryd.zeroValue0
  t4:=Tryd.underlying4
  a4:=Tryd.isAgg4
  z4:=Tryd.sizeOf4
  v4:=Tryd.zeroValue4
  t23:=Tryd.underlying103
  a23:=Tryd.isAgg103
  z23:=Tryd.sizeOf103
  v23:=Tryd.zeroValue103
  t26:=Tryd.underlying3
  a26:=Tryd.isAgg3
  z26:=Tryd.sizeOf3
  v26:=Tryd.zeroValue3
  t27:=Tryd.underlying151
  a27:=Tryd.isAgg151
  z27:=Tryd.sizeOf151
  v27:=Tryd.zeroValue151
  t28:=Tryd.underlying152
  a28:=Tryd.isAgg152
  z28:=Tryd.sizeOf152
  v28:=Tryd.zeroValue152
  t33:=Tryd.underlying169
  a33:=Tryd.isAgg169
  z33:=Tryd.sizeOf169
  v33:=Tryd.zeroValue169 }
def Tryd.sortedA_ren:Go.Shelf.Ren:=⟨fun | 6=>102 | 8=>115 | 9=>116 | 11=>129 | 13=>113 | 12=>130 | 23=>127 | 24=>128 | 14=>136 | 15=>137 | 16=>138 | 17=>139 | 18=>140 | 19=>141 | 20=>142 | 21=>143 | 22=>144 | 25=>146 | 26=>132 | 27=>133 | 28=>147 | 29=>148 | 30=>114 | 31=>149 | n=>n,fun | 26=>3 | 28=>152 | 24=>27 | 0=>0 | 3=>3 | 37=>168 | 48=>182 | 50=>184 | 4=>4 | 40=>175 | 39=>174 | 45=>179 | 5=>5 | 9=>9 | 51=>187 | 55=>191 | 57=>199 | 58=>200 | 33=>169 | n=>n,fun | n=>n⟩
theorem Tryd.sortedA : Go.Proofs.SlLaysZI.n6 Tryd.prog Tryd.sortedA_ren := {
  mixed:=by kernel_rfl
  f6:=⟨Tryd.f102.name,by decide,Tryd.func102.trans (congrArg some (by kernel_rfl))⟩
  f8:=⟨Tryd.f115.name,by decide,Tryd.func115.trans (congrArg some (by kernel_rfl))⟩
  f11:=⟨Tryd.f129.name,by decide,Tryd.func129.trans (congrArg some (by kernel_rfl))⟩
  t0:=Tryd.underlying0
  a0:=Tryd.isAgg0
  z0:=Tryd.sizeOf0
  v0:=Tryd.zeroValue0
  t24:=Tryd.underlying27
  a24:=Tryd.isAgg27
  z24:=Tryd.sizeOf27
  v24:=Tryd.zeroValue27
  t26:=Tryd.underlying3
  a26:=Tryd.isAgg3
  z26:=Tryd.sizeOf3
  v26:=Tryd.zeroValue3
  t28:=Tryd.underlying152
  a28:=Tryd.isAgg152
  z28:=Tryd.sizeOf152
  v28:=Tryd.zeroValue152
  i26:=by kernel_rfl }
def Tryd.sortA_ren:Go.Shelf.Ren:=⟨fun | 5=>116 | 8=>113 | 7=>130 | 19=>127 | 20=>128 | 10=>136 | 11=>137 | 12=>138 | 13=>139 | 14=>140 | 15=>141 | 16=>142 | 17=>143 | 18=>144 | 30=>146 | 31=>132 | 32=>133 | 33=>147 | 34=>148 | 35=>114 | 40=>149 | n=>n,fun | 23=>27 | 25=>3 | 3=>3 | 32=>168 | 22=>27 | 0=>0 | 44=>182 | 46=>184 | 4=>4 | 36=>175 | 35=>174 | 41=>179 | 5=>5 | 9=>9 | 53=>187 | 57=>191 | 63=>199 | 64=>200 | n=>n,fun | n=>n⟩
theorem Tryd.sortA : Go.Proofs.SlLaysM.n5 Tryd.prog Tryd.sortA_ren := {
  mixed:=by kernel_rfl
  f5:=⟨Tryd.f116.name,by decide,Tryd.func116.trans (congrArg some (by kernel_rfl))⟩
  f7:=⟨Tryd.f130.name,by decide,Tryd.func130.trans (congrArg some (by kernel_rfl))⟩
  f8:=Tryd.func113.trans (congrArg some (by kernel_rfl))
  f10:=⟨Tryd.f136.name,by decide,Tryd.func136.trans (congrArg some (by kernel_rfl))⟩
  f11:=⟨Tryd.f137.name,by decide,Tryd.func137.trans (congrArg some (by kernel_rfl))⟩
  f12:=⟨Tryd.f138.name,by decide,Tryd.func138.trans (congrArg some (by kernel_rfl))⟩
  f13:=⟨Tryd.f139.name,by decide,Tryd.func139.trans (congrArg some (by kernel_rfl))⟩
  f14:=⟨Tryd.f140.name,by decide,Tryd.func140.trans (congrArg some (by kernel_rfl))⟩
  f15:=⟨Tryd.f141.name,by decide,Tryd.func141.trans (congrArg some (by kernel_rfl))⟩
  f16:=⟨Tryd.f142.name,by decide,Tryd.func142.trans (congrArg some (by kernel_rfl))⟩
  f17:=⟨Tryd.f143.name,by decide,Tryd.func143.trans (congrArg some (by kernel_rfl))⟩
  f18:=⟨Tryd.f144.name,by decide,Tryd.func144.trans (congrArg some (by kernel_rfl))⟩
  f19:=Tryd.func127.trans (congrArg some (by kernel_rfl))
  f20:=Tryd.func128.trans (congrArg some (by kernel_rfl))
  f30:=⟨Tryd.f146.name,by decide,Tryd.func146.trans (congrArg some (by kernel_rfl))⟩
  f31:=Tryd.func132.trans (congrArg some (by kernel_rfl))
  f32:=Tryd.func133.trans (congrArg some (by kernel_rfl))
  f33:=⟨Tryd.f147.name,by decide,Tryd.func147.trans (congrArg some (by kernel_rfl))⟩
  f34:=⟨Tryd.f148.name,by decide,Tryd.func148.trans (congrArg some (by kernel_rfl))⟩
  f35:=⟨Tryd.f114.name,by decide,Tryd.func114.trans (congrArg some (by kernel_rfl))⟩
  f40:=⟨Tryd.f149.name,by decide,Tryd.func149.trans (congrArg some (by kernel_rfl))⟩
  t0:=Tryd.underlying0
  a0:=Tryd.isAgg0
  z0:=Tryd.sizeOf0
  v0:=Tryd.zeroValue0
  t3:=Tryd.underlying3
  a3:=Tryd.isAgg3
  z3:=Tryd.sizeOf3
  v3:=Tryd.zeroValue3
  t4:=Tryd.underlying4
  a4:=Tryd.isAgg4
  z4:=Tryd.sizeOf4
  v4:=Tryd.zeroValue4
  t5:=Tryd.underlying5
  a5:=Tryd.isAgg5
  z5:=Tryd.sizeOf5
  v5:=Tryd.zeroValue5
  t9:=Tryd.underlying9
  a9:=Tryd.isAgg9
  z9:=Tryd.sizeOf9
  v9:=Tryd.zeroValue9
  t22:=Tryd.underlying27
  a22:=Tryd.isAgg27
  z22:=Tryd.sizeOf27
  v22:=Tryd.zeroValue27
  t23:=Tryd.underlying27
  a23:=Tryd.isAgg27
  z23:=Tryd.sizeOf27
  v23:=Tryd.zeroValue27
  t25:=Tryd.underlying3
  a25:=Tryd.isAgg3
  z25:=Tryd.sizeOf3
  v25:=Tryd.zeroValue3
  t32:=Tryd.underlying168
  a32:=Tryd.isAgg168
  z32:=Tryd.sizeOf168
  v32:=Tryd.zeroValue168
  t35:=Tryd.underlying174
  a35:=Tryd.isAgg174
  z35:=Tryd.sizeOf174
  v35:=Tryd.zeroValue174
  t36:=Tryd.underlying175
  a36:=Tryd.isAgg175
  z36:=Tryd.sizeOf175
  v36:=Tryd.zeroValue175
  t41:=Tryd.underlying179
  a41:=Tryd.isAgg179
  z41:=Tryd.sizeOf179
  v41:=Tryd.zeroValue179
  t44:=Tryd.underlying182
  a44:=Tryd.isAgg182
  z44:=Tryd.sizeOf182
  v44:=Tryd.zeroValue182
  t46:=Tryd.underlying184
  a46:=Tryd.isAgg184
  z46:=Tryd.sizeOf184
  v46:=Tryd.zeroValue184
  t53:=Tryd.underlying187
  a53:=Tryd.isAgg187
  z53:=Tryd.sizeOf187
  v53:=Tryd.zeroValue187
  t57:=Tryd.underlying191
  a57:=Tryd.isAgg191
  z57:=Tryd.sizeOf191
  v57:=Tryd.zeroValue191
  t63:=Tryd.underlying199
  a63:=Tryd.isAgg199
  z63:=Tryd.sizeOf199
  v63:=Tryd.zeroValue199
  t64:=Tryd.underlying200
  a64:=Tryd.isAgg200
  z64:=Tryd.sizeOf200
  v64:=Tryd.zeroValue200 }
end Go.Proofs
namespace Go.Pm
open Go.RowKit Go.Maps Go.Sort Go.Shelf Go.Proofs
set_option maxRecDepth 100000

theorem zmb {F : List Int → Option (List Int)} : ∀ (f : Nat) (i : Int) (n : Nat) (l : List Int), zwY F f i n = some l → l.length = n ∧ (∀ x ∈ l, F [x] ≠ none ∧ i ≤ x ∧ x < i + f) ∧ l.Pairwise (· < ·)
  | _,_,0,l,h=>by simp[zwY] at h;subst h;exact⟨rfl,λ x hx=>by simp at hx,List.Pairwise.nil⟩
  | 0,_,n+1,l,h=>by simp[zwY] at h
  | f+1,i,n+1,l,h=>by
    simp only[zwY] at h
    split at h
    · rename_i v hv
      split at h
      · rename_i r hr
        simp only[Option.some.injEq] at h;subst h
        obtain⟨h1,h2,h3⟩:=zmb f (i+1) n r hr
        refine⟨by simp[h1],λ x hx=>?_,List.pairwise_cons.2 ⟨λ x hx=>by have:=h2 x hx;omega,h3⟩⟩
        rcases List.mem_cons.1 hx with rfl | hx
        · exact⟨by rw[hv];simp,by omega,by omega⟩
        · have:=h2 x hx;exact⟨this.1,by omega,by omega⟩
      · cases h
    · obtain ⟨h1, h2, h3⟩ := zmb f (i + 1) (n + 1) l h
      exact⟨h1,λ x hx=>by have:=h2 x hx;exact⟨this.1,by omega,by omega⟩,h3⟩
theorem zmc {α : Type} [DecidableEq α] : ∀ {l m : List α}, l.Nodup → (∀ x ∈ l, x ∈ m) → m.length ≤ l.length → l.Perm m
  | [],m,_,_,h=>by
    have:m=[]:=List.eq_nil_of_length_eq_zero (by simpa using h)
    subst this;exact .refl _
  | a :: l,m,hn,hs,h=>by
    obtain⟨h1,h2⟩:=List.nodup_cons.1 hn
    have ha:=hs a List.mem_cons_self
    have hp:=List.perm_cons_erase ha
    refine (List.Perm.cons a (zmc h2 (λ x hx=>?_) ?_)).trans hp.symm
    · exact (List.mem_erase_of_ne (λ e=>h1 (by rw[← e];exact hx))).2 (hs x (List.mem_cons_of_mem _ hx))
    · have := hp.length_eq
      simp at this h
      omega

theorem zEc:zp2 Tryd.prog 103 (.keys 117):=λ w mb=>by
 refine⟨⟨_,rfl,rfl,by kernel_rfl⟩,?_⟩
 have c:CallsIn Fence.wide 5 Tryd.prog 103 #[.map (some mb)] w λ e w'=>e=.returned (.func (.func 117) #[] #[.pointer (some ⟨w.heap.size,0,none⟩)])/\w'=w.alloc (.cells #[.map (some mb)] 103):=AnyZI.keys_in Tryd.keysA Fence.wide 5 trivial rfl (some mb) w
 refine ((callsIn_wide (n:=5)).1 c).mono ?_
 rintro e w' ⟨rfl,rfl⟩
 exact⟨rfl,_,rfl⟩
theorem sortsA (m:Nat):AnyZI.SortsIn Tryd.prog Tryd.sortedA_ren Fence.wide m :=
  ⟨λ blk off cap ss W hH hblk hsz=>callsIn_wide.2 (AnyM.slices_Sort_int Tryd.sortA blk off cap ss W hH hblk hsz),
   λ p cap W=>callsIn_wide.2 (AnyM.slices_Sort_int_none Tryd.sortA p cap W)⟩

def rdN:Value->Option (DataW Unit×List MemPlace):=λ _=>some (.nil,[])
theorem zwN:zp2 Tryd.prog 102 (.sorted 117):=λ w h k mb C ty fr es clock vt q n F hw hk hC hb hE hm hn hky=>by
 refine⟨⟨_,rfl,rfl,by kernel_rfl⟩,?_⟩
 obtain⟨en,M⟩:=hm
 have E:=zhs hE
 have hq1:q.1=false:=by
  have e:=E.kag
  rw[show ze4 Tryd.prog 3=some false by kernel_rfl] at e
  exact (Option.some.inj e).symm
 have hq2:q.2.1=1:=by
  have e:=E.key
  rw[show zd1 Tryd.prog 8 3=some 1 by kernel_rfl] at e
  exact (Option.some.inj e).symm
 obtain⟨l,hl⟩:=Option.isSome_iff_exists.1 hky
 have hll:zwZ F n=l:=by unfold zwZ;rw[hl];rfl
 obtain⟨l1,l2,l3⟩:=zmb _ _ _ _ hl
 rw[hll]
 have one:∀ x∈en,x.1=[x.1.headD 0]:=λ x hx=>by
  have:=(M.len x hx).1
  rw[hq2] at this
  match x.1,this with
  | [a],_=>rfl
 have hkeys:es.toList.map (·.key)=(en.map λ x=>x.1.headD 0).map encZ:=by
  have:=congrArg (List.map Prod.fst) M.ents
  simp only[List.map_map] at this ⊢
  refine (show es.toList.map (·.key)=_ from this).trans (List.map_congr_left λ x hx=>?_)
  show zbA q.1 x.1=encZ (x.1.headD 0)
  rw[hq1];rfl
 have hkn:(en.map λ x=>x.1.headD 0).Nodup:=by
  have:(en.map (·.1))=(en.map λ x=>x.1.headD 0).map λ a=>[a]:=by
   rw[List.map_map];exact List.map_congr_left λ x hx=>one x hx
  have hd:=M.nodup
  rw[this] at hd
  exact (List.pairwise_map.1 hd).imp λ h e=>h (by rw[e])
 have hperm:l.Perm (en.map λ x=>x.1.headD 0):=by
  refine zmc (l3.imp λ h=>Int.ne_of_lt h) (λ x hx=>?_) (by rw[List.length_map,← M.size,l1];exact Nat.le_refl _)
  have h1:=(l2 x hx).1
  rw[M.find [x] (by rw[hq2];rfl)] at h1
  by_cases hex:∃ y∈en,y.1=[x]
  ·obtain ⟨y, hy, e⟩ := hex
   exact List.mem_map.2 ⟨y,hy,by rw[e];rfl⟩
  ·exact absurd (zgV λ y hy e=>hex ⟨y,hy,e⟩) h1
 have hread:∀ x∈es.toList,∃ a:Int,x.key=encZ a/\keyOf Tryd.prog 3 x.key=some (.int .i64 a):=λ x hx=>by
  have hm:x.key∈es.toList.map (·.key):=List.mem_map.2 ⟨x,hx,rfl⟩
  rw[hkeys] at hm
  obtain⟨a,ha,e⟩:=List.mem_map.1 hm
  have hb:=(l2 a (hperm.mem_iff.2 ha)).2
  refine⟨a,e.symm,?_⟩
  rw[← e]
  have hu:Tryd.prog.underlying 3=some (.int .i64):=Tryd.underlying3
  have hwf:(Lit.int .i64 a).wf=true:=by
   simp only[Lit.wf,Bool.and_eq_true,decide_eq_true_eq]
   have e1:IntKind.i64.min = -9223372036854775808:=by decide
   have e2:IntKind.i64.max=9223372036854775807:=by decide
   rw[e1,e2]
   have:=hb.2
   omega
  simp[keyOf,mapKey,hu,hwf]
 have hsize:es.size=n:=by
  have:=congrArg List.length M.ents
  simp at this
  rw[this,M.size]
 have hst:MapKept.Stamped es clock:=⟨M.born,M.bornN,by rw[hkeys];exact List.pairwise_map.2 (hkn.imp λ h e=>h (encZ_inj e))⟩
 have hown:w.ownsMap Tryd.prog 3 rdN mb n (.map ((es.toList.map (WideElems.rg Tryd.prog 3 rdN)).foldr DataW.insert [])) :=
  ⟨es,clock,hb,⟨by rw[hsize];exact Nat.le_trans hn (by decide),hst,λ x hx=>by
   obtain⟨a,e1,e2⟩:=hread x hx
   exact⟨(.int .i64 a,.nil),by simp only[WideElems.rd,e2,rdN,Option.bind_some,Option.map_some]⟩⟩,by omega,rfl⟩
 have hik:(intKeys (.map ((es.toList.map (WideElems.rg Tryd.prog 3 rdN)).foldr DataW.insert []))).Perm l:=by
  show (((es.toList.map (WideElems.rg Tryd.prog 3 rdN)).foldr DataW.insert []).map λ p=>intOf p.1).Perm l
  refine ((WideShapes.sorted_perm _).map _).trans (List.Perm.trans (List.Perm.of_eq ?_) hperm.symm)
  rw[List.map_map]
  have e:(en.map λ x=>x.1.headD 0)=es.toList.map λ x=>intOf ((keyOf Tryd.prog 3 x.key).getD (.bool false)):=by
   have h1:(en.map λ x=>x.1.headD 0)=((en.map λ x=>x.1.headD 0).map encZ).map λ v=>match v with | .int _ a=>a | _=>0:=by
    rw[List.map_map];exact (List.map_id _).symm
   rw[h1,← hkeys,List.map_map]
   refine List.map_congr_left λ x hx=>?_
   obtain⟨a,e1,e2⟩:=hread x hx
   simp only[Function.comp,e2]
   rw[e1];rfl
  rw[e]
  refine List.map_congr_left λ x hx=>?_
  obtain⟨a,e1,e2⟩:=hread x hx
  simp only[Function.comp,WideElems.rg,WideElems.rd,e2,rdN,Option.bind_some,Option.map_some,Option.getD_some]
 have hsz:Maps.size (DataW.map ((es.toList.map (WideElems.rg Tryd.prog 3 rdN)).foldr DataW.insert []):DataW Unit)=n:=by
  show List.length _=n
  rw[(WideShapes.sorted_perm _).length_eq];simp[hsize]
 have hlt:k < w.heap.size:=hw.lt hk
 have hcell:w.cell? ⟨k,0,none⟩=some (.map (some mb)):=by
  have:=hw.fz hk
  simp[World.cell?,this,hC]
 have hseq:SeqGives Fence.wide 2 Tryd.prog 117 #[.pointer (some ⟨k,0,none⟩)] encZ (λ ss=>ss.Perm (intKeys _)) (Maps.size _) w :=
  AnyZI.keys_gives (ρ:=Tryd.keysA_ren) { Tryd.keysA with } Fence.wide _ trivial rfl (by omega) k mb n _ w hlt hcell hown
 have cS:=AnyZI.sorted_in Tryd.sortedA Fence.wide 5 trivial trivial trivial trivial rfl (by omega) (sortsA _) (enters_of Tryd.func116 (by kernel_rfl) rfl) 117 #[.pointer (some ⟨k,0,none⟩)] trivial (enters_of Tryd.func117 (by kernel_rfl) rfl) _ _ (by rw[hsz];exact Nat.le_trans hn (by decide)) (by rw[hsz];omega) _ hseq
 change CallsIn _ _ Tryd.prog 102 _ _ _ at cS
 refine ((callsIn_wide (n:=5)).1 cS).mono ?_
 rintro e w' ⟨v,ss,rfl,hS,hrow,_,hbel⟩
 refine⟨v,rfl,?_,⟨hbel,Nat.zero_le _⟩⟩
 have hsl:ss.mergeSort (λ x y=>decide (x≤y))=l:=by
  rw[show ss.mergeSort (λ x y=>decide (x≤y))=l.mergeSort leI from mergeSort_of_perm_i (hS.trans hik)]
  exact List.mergeSort_of_pairwise (l3.imp λ h=>by simp only[leI,decide_eq_true_eq];exact Int.le_of_lt h)
 have hlen:ss.length=n:=by rw[(hS.trans hik).length_eq,l1]
 rw[hsl,hlen] at hrow
 exact hrow
end Go.Pm
namespace Go.Proofs
open Go Go.Pm
set_option maxRecDepth 100000
set_option linter.unusedVariables false
attribute [local irreducible] Go.Pm.vcFun Go.Pm.vc Go.Pm.vcIter
abbrev zFK:OwnK:=.sorted 117
theorem zOP:zp2 Tryd.prog 102 zFK:=zwN
abbrev zFL:OwnK:=.keys 117
theorem zOQ:zp2 Tryd.prog 103 zFL:=zEc
structure Rec69 where
  S:web->Int->((Sl (Sl Int))×web)
  P:web->Int->Bool
class Slf69 where
  r:Rec69
section
variable [Slf69]
def zAc : MK
  | [.box 105 [.p (.int .i64 zax),.p (.sl zav zbG zao),.mo 3 4 zdA zaT zaU],.d (.one (.int .i64 b1))]=>some (IsE zai 4 zbG zao/\zdA=(false,1,false,[none])/\Slf69.r.P (⟨(⟨zax,(⟨zav,zaq zao⟩:(Sl Tie))⟩:Net),(⟨zaT,zaU⟩:Mp)⟩:web) b1=true,[.one (.sl (((Slf69.r.S (⟨(⟨zax,(⟨zav,zaq zao⟩:(Sl Tie))⟩:Net),(⟨zaT,zaU⟩:Mp)⟩:web) b1).1).len) 1 (λ i=>enc_27 (((Slf69.r.S (⟨(⟨zax,(⟨zav,zaq zao⟩:(Sl Tie))⟩:Net),(⟨zaT,zaU⟩:Mp)⟩:web) b1).1).get i)))],[.box 105 [.p (.int .i64 (((Slf69.r.S (⟨(⟨zax,(⟨zav,zaq zao⟩:(Sl Tie))⟩:Net),(⟨zaT,zaU⟩:Mp)⟩:web) b1).2).Net.Nodes)),.p (.sl (((Slf69.r.S (⟨(⟨zax,(⟨zav,zaq zao⟩:(Sl Tie))⟩:Net),(⟨zaT,zaU⟩:Mp)⟩:web) b1).2).Net.Ties.len) 4 (λ i=>zai (((Slf69.r.S (⟨(⟨zax,(⟨zav,zaq zao⟩:(Sl Tie))⟩:Net),(⟨zaT,zaU⟩:Mp)⟩:web) b1).2).Net.Ties.get i))),.mo 3 4 (false,1,false,[none]) ((((Slf69.r.S (⟨(⟨zax,(⟨zav,zaq zao⟩:(Sl Tie))⟩:Net),(⟨zaT,zaU⟩:Mp)⟩:web) b1).2).out).n) ((((Slf69.r.S (⟨(⟨zax,(⟨zav,zaq zao⟩:(Sl Tie))⟩:Net),(⟨zaT,zaU⟩:Mp)⟩:web) b1).2).out).F)],.d (.one (.int .i64 b1))])
  | _=>none
abbrev T69:Tabs:=(((((Tabs.nil.addF 88 zyP).addF 89 zEb).addO 102 zFK).addO 103 zFL).addM 69 zAc)
theorem zOR (hself:zkH Tryd.prog 69 zAc):TabsOk Tryd.prog T69:=(((((TabsOk.nil.addF zOt).addF zP9).addO zOP).addO zOQ).addM hself)
abbrev zEd:Ctrs:=csm T69 (λ _ _=>[]) (λ _=>false)
def zfY:Ann:=⟨57,[(0,zK [0,1] [0,12288]),(1,zK [0,1,10] [0,12288]),(2,zK [0,4] [0,17,12288]),(3,zK [0,1,19] [0,12288]),(4,zK [0,4] [0,12288]),(5,zK [0,1,5] [0,12288]),(6,zK [0,1,5,21,22,23] [0,12288]),(7,zK [0,1,5,21,22,23,24] [0,47,12288]),(8,zK [0,1,5,7,21,22,23] [0,7,47,12288]),(9,zK [0,1,5,7,21,22,23,34] [0,7,47,12288]),(10,zK [0,1,5,7,21,22,23] [0,7,47,12288]),(11,zK [0,1,5,7,21,22,23] [0,7,47,12288]),(12,zK [0,1,5,21,22,23] [0,47,12288]),(13,zK [0,1,5,21,22,23] [0,47,12288]),(14,zK [0,4] [0,47,12288])],
 [(7,⟨[0,1,5,21,22,23],[0,47,12288],[(5,47,27,λ _=>enc_27 default)],[],[],[],[]⟩)],
 [],
 [],[]⟩
def zgB (w:web) (left:Int) (zaE:Int) (za2:Int) (zgC:Nat) (zcx:Nat->List PV) (zgD:Nat) (zcy:Nat->List PV) (zaf:Nat) (zad:(List Int->Option (List Int))):St:=⟨[(0,.one (.c (.ptr 0 0))),(1,.one (.c (.p (.int .i64 left)))),(5,.one (.c (.vec 47))),(21,.one (.c (.p (.sl ((s89 w).len) 5 (λ i=>zaD ((s89 w).get i)))))),(22,.one (.c (.p (.int .i64 ((s89 w).len:Int))))),(23,.one (.c (.p (.int .i64 zaE))))],[(0,.box 105 [.p (.int .i64 za2),.p (.sl zgC 4 zcx),.mo 12288]),(47,.vec 27 1 24 zgD zcy),(12288,.mo 3 4 (false,1,false,[none]) zaf zad)],[]⟩
def ziD (K:List PA×List XA->Prop) (w:web) (left:Int) (zaE:Int) (za2:Int) (zgC:Nat) (zcx:Nat->List PV) (zgD:Nat) (zcy:Nat->List PV) (zaf:Nat) (zad:(List Int->Option (List Int))):Prop:=vc Tryd.prog zEd zfY (cdF Tryd.f69 [1,1,1,1,0,1,0]) (zfT 0 (sqK Tryd.prog zEd zfY (cdF Tryd.f69 [1,1,1,1,1]) (zmL Tryd.prog Tryd.f69 [.box 105 [.p (.int .i64 w.Net.Nodes),.p (.sl w.Net.Ties.len 4 (λ i=>zai (w.Net.Ties.get i))),.mo 3 4 (false,1,false,[none]) w.out.n w.out.F],.d (.one (.int .i64 left))] (λ a b=>K (a,b))))) (zgB w left zaE za2 zgC zcx zgD zcy zaf zad)
theorem zEe (w : web) (left : Int) (K : List PA × List XA → Prop) :
  zlW Tryd.prog zEd zfY 69 [.box 105 [.p (.int .i64 w.Net.Nodes),.p (.sl w.Net.Ties.len 4 (λ i=>zai (w.Net.Ties.get i))),.mo 3 4 (false,1,false,[none]) w.out.n w.out.F],.d (.one (.int .i64 left))] (λ a b=>K (a,b)) =
  ((IsE zai 4 4 (λ i=>zai (w.Net.Ties.get i))/\((false,1,false,[none]):MQ)=(false,1,false,[none])/\(p88 w=true)) /\
 (zdR (!(s88 w))
 (((w.out.n≤1000000/\(zwY w.out.F 9223372036854775808 0 w.out.n).isSome=true)) /\
 (K ([.one (.sl 1 1 (λ _=>(enc_27 (⟨w.out.n,(λ i=>(zwZ w.out.F w.out.n).getD i 0)⟩:(Sl Int)))))],[.box 105 [.p (.int .i64 w.Net.Nodes),.p (.sl w.Net.Ties.len 4 (λ i=>zai (w.Net.Ties.get i))),.mo 3 4 (false,1,false,[none]) w.out.n w.out.F],.d (.one (.int .i64 left))])))
 (zdR (left == (0:Int))
 (K ([.one (.nils)],[.box 105 [.p (.int .i64 w.Net.Nodes),.p (.sl w.Net.Ties.len 4 (λ i=>zai (w.Net.Ties.get i))),.mo 3 4 (false,1,false,[none]) w.out.n w.out.F],.d (.one (.int .i64 left))]))
 (((∀ i,sc2 ((λ i=>zaD ((s89 w).get i)) i)=true)/\IsE zai 4 4 (λ i=>zai (w.Net.Ties.get i))/\((false,1,false,[none]):MQ)=(false,1,false,[none])/\(p89 w=true)) /\
 (ziD K w left (0:Int) w.Net.Nodes w.Net.Ties.len (λ i=>zai (w.Net.Ties.get i)) 0 (λ i=>enc_27 ((λ _=>default) i)) w.out.n w.out.F))))):=by kernel_rfl
def znn (K:List PA×List XA->Prop) (X0:St->Prop) (w:web) (left:Int) (zaE:Int) (za2:Int) (za5:(Sl Tie)) (zbt:(Sl (Sl Int))) (zaf:Nat) (zad:(List Int->Option (List Int))):Prop :=
  (zdR (decide (zaE < ((s89 w).len : Int)))
 (((0≤zaE/\zaE < ((s89 w).len:Int))) /\
 (zdR ((zwe (zad [((s89 w).get zaE.toNat).Use.Tie]) 0) != 0)
 (X0 (zgB w left (w64 (zaE+(1:Int))) za2 za5.len (λ i=>zai (za5.get i)) zbt.len (λ i=>enc_27 (zbt.get i)) zaf zad))
 ((IsE zai 4 4 (λ i=>zai (za5.get i))/\((false,1,false,[none]):MQ)=(false,1,false,[none])/\(Slf69.r.P (⟨(⟨za2,za5⟩:Net),(⟨(addN (zad [((s89 w).get zaE.toNat).Use.Tie]) zaf),(zea [((s89 w).get zaE.toNat).Use.Tie] [1] zad)⟩:Mp)⟩:web) (w64 (left - (1:Int)))=true)) /\
 ((((zbt.len+((Slf69.r.S (⟨(⟨za2,za5⟩:Net),(⟨(addN (zad [((s89 w).get zaE.toNat).Use.Tie]) zaf),(zea [((s89 w).get zaE.toNat).Use.Tie] [1] zad)⟩:Mp)⟩:web) (w64 (left - (1:Int)))).1).len) * 24≤140737488355328/\zbt.len+((Slf69.r.S (⟨(⟨za2,za5⟩:Net),(⟨(addN (zad [((s89 w).get zaE.toNat).Use.Tie]) zaf),(zea [((s89 w).get zaE.toNat).Use.Tie] [1] zad)⟩:Mp)⟩:web) (w64 (left - (1:Int)))).1).len≤9223372036854775807)) /\
 (X0 (zgB w left (w64 (zaE+(1:Int))) (((Slf69.r.S (⟨(⟨za2,za5⟩:Net),(⟨(addN (zad [((s89 w).get zaE.toNat).Use.Tie]) zaf),(zea [((s89 w).get zaE.toNat).Use.Tie] [1] zad)⟩:Mp)⟩:web) (w64 (left - (1:Int)))).2).Net.Nodes) (((Slf69.r.S (⟨(⟨za2,za5⟩:Net),(⟨(addN (zad [((s89 w).get zaE.toNat).Use.Tie]) zaf),(zea [((s89 w).get zaE.toNat).Use.Tie] [1] zad)⟩:Mp)⟩:web) (w64 (left - (1:Int)))).2).Net.Ties.len) (λ i=>zai (((Slf69.r.S (⟨(⟨za2,za5⟩:Net),(⟨(addN (zad [((s89 w).get zaE.toNat).Use.Tie]) zaf),(zea [((s89 w).get zaE.toNat).Use.Tie] [1] zad)⟩:Mp)⟩:web) (w64 (left - (1:Int)))).2).Net.Ties.get i)) (zbt.len+((Slf69.r.S (⟨(⟨za2,za5⟩:Net),(⟨(addN (zad [((s89 w).get zaE.toNat).Use.Tie]) zaf),(zea [((s89 w).get zaE.toNat).Use.Tie] [1] zad)⟩:Mp)⟩:web) (w64 (left - (1:Int)))).1).len) (appG zbt.len (λ i=>enc_27 (zbt.get i)) (λ i=>enc_27 (((Slf69.r.S (⟨(⟨za2,za5⟩:Net),(⟨(addN (zad [((s89 w).get zaE.toNat).Use.Tie]) zaf),(zea [((s89 w).get zaE.toNat).Use.Tie] [1] zad)⟩:Mp)⟩:web) (w64 (left - (1:Int)))).1).get i))) (zE4 (((((Slf69.r.S (⟨(⟨za2,za5⟩:Net),(⟨(addN (zad [((s89 w).get zaE.toNat).Use.Tie]) zaf),(zea [((s89 w).get zaE.toNat).Use.Tie] [1] zad)⟩:Mp)⟩:web) (w64 (left - (1:Int)))).2).out).F) [((s89 w).get zaE.toNat).Use.Tie]) ((((Slf69.r.S (⟨(⟨za2,za5⟩:Net),(⟨(addN (zad [((s89 w).get zaE.toNat).Use.Tie]) zaf),(zea [((s89 w).get zaE.toNat).Use.Tie] [1] zad)⟩:Mp)⟩:web) (w64 (left - (1:Int)))).2).out).n)) (zCT [((s89 w).get zaE.toNat).Use.Tie] ((((Slf69.r.S (⟨(⟨za2,za5⟩:Net),(⟨(addN (zad [((s89 w).get zaE.toNat).Use.Tie]) zaf),(zea [((s89 w).get zaE.toNat).Use.Tie] [1] zad)⟩:Mp)⟩:web) (w64 (left - (1:Int)))).2).out).F))))))))
 (K ([.one (.sl zbt.len 1 (λ i=>enc_27 (zbt.get i)))],[.box 105 [.p (.int .i64 za2),.p (.sl za5.len 4 (λ i=>zai (za5.get i))),.mo 3 4 (false,1,false,[none]) zaf zad],.d (.one (.int .i64 left))])))
theorem zq3 (K : List PA × List XA → Prop) (X0 : St → Prop) (w : web) (left : Int) (zaE : Int) (za2 : Int) (za5 : (Sl Tie)) (zbt : (Sl (Sl Int))) (zaf : Nat) (zad : (List Int → Option (List Int))) :
  vc Tryd.prog zEd zfY (cd (cdF Tryd.f69 [1,1,1,1,0,1,0]) [0]) (zwj Tryd.prog zfY 7 X0 (zfT 0 (sqK Tryd.prog zEd zfY (cdF Tryd.f69 [1,1,1,1,1]) (zmL Tryd.prog Tryd.f69 [.box 105 [.p (.int .i64 w.Net.Nodes),.p (.sl w.Net.Ties.len 4 (λ i=>zai (w.Net.Ties.get i))),.mo 3 4 (false,1,false,[none]) w.out.n w.out.F],.d (.one (.int .i64 left))] (λ a b=>K (a,b)))))) (zgB w left zaE za2 za5.len (λ i=>zai (za5.get i)) zbt.len (λ i=>enc_27 (zbt.get i)) zaf zad) =
  znn K X0 w left zaE za2 za5 zbt zaf zad:=by kernel_rfl
theorem zwO (K : List PA × List XA → Prop) (w : web) (left : Int) (zaE : Int) (za2 : Int) (zgC : Nat) (zcx : Nat → List PV) (zgD : Nat) (zcy : Nat → List PV) (zaf : Nat) (zad : (List Int → Option (List Int)))
  (h:∀ X0:St->Prop,(∀ (zaE:Int) (za2:Int) (za5:(Sl Tie)) (zbt:(Sl (Sl Int))) (zaf:Nat) (zad:(List Int->Option (List Int))),znn K X0 w left zaE za2 za5 zbt zaf zad->X0 (zgB w left zaE za2 za5.len (λ i=>zai (za5.get i)) zbt.len (λ i=>enc_27 (zbt.get i)) zaf zad))->X0 (zgB w left zaE za2 zgC zcx zgD zcy zaf zad)) :
  ziD K w left zaE za2 zgC zcx zgD zcy zaf zad:=by
  have e:ziD K w left zaE za2 zgC zcx zgD zcy zaf zad=(∀ X:St->Prop,(∀ s,vc Tryd.prog zEd zfY (cd (cdF Tryd.f69 [1,1,1,1,0,1,0]) [0]) (zwj Tryd.prog zfY 7 X (zfT 0 (sqK Tryd.prog zEd zfY (cdF Tryd.f69 [1,1,1,1,1]) (zmL Tryd.prog Tryd.f69 [.box 105 [.p (.int .i64 w.Net.Nodes),.p (.sl w.Net.Ties.len 4 (λ i=>zai (w.Net.Ties.get i))),.mo 3 4 (false,1,false,[none]) w.out.n w.out.F],.d (.one (.int .i64 left))] (λ a b=>K (a,b)))))) s->X s)->X (zgB w left zaE za2 zgC zcx zgD zcy zaf zad)):=by kernel_rfl
  refine zaR e ?_
  intro X hX
  refine h X ?_
  intro zaE za2 za5 zbt zaf zad hs
  refine hX _ ?_
  have e2:=zq3 K X w left zaE za2 za5 zbt zaf zad
  rw[e2]
  exact hs
abbrev zFM (left:Int) (r:((Sl (Sl Int))×web)):List PA×List XA:=([.one (.sl r.1.len 1 (λ i=>enc_27 (r.1.get i)))],[.box 105 [.p (.int .i64 r.2.Net.Nodes),.p (.sl r.2.Net.Ties.len 4 (λ i=>zai (r.2.Net.Ties.get i))),.mo 3 4 (false,1,false,[none]) r.2.out.n r.2.out.F],.d (.one (.int .i64 left))])
attribute [irreducible] ziD
def zoJ (w:web) (left:Int) (S0:Int->Int->(Sl Tie)->(Sl (Sl Int))->Nat->(List Int->Option (List Int))->((Sl (Sl Int))×web)) (zaE:Int) (za2:Int) (za5:(Sl Tie)) (zbt:(Sl (Sl Int))) (zaf:Nat) (zad:(List Int->Option (List Int))):((Sl (Sl Int))×web) :=
  (cond (decide (zaE < ((s89 w).len : Int)))
 (cond ((zwe (zad [((s89 w).get zaE.toNat).Use.Tie]) 0) != 0)
 (S0 (w64 (zaE+(1:Int))) za2 za5 zbt zaf zad)
 (S0 (w64 (zaE+(1:Int))) (((Slf69.r.S (⟨(⟨za2,za5⟩:Net),(⟨(addN (zad [((s89 w).get zaE.toNat).Use.Tie]) zaf),(zea [((s89 w).get zaE.toNat).Use.Tie] [1] zad)⟩:Mp)⟩:web) (w64 (left - (1:Int)))).2).Net.Nodes) (((Slf69.r.S (⟨(⟨za2,za5⟩:Net),(⟨(addN (zad [((s89 w).get zaE.toNat).Use.Tie]) zaf),(zea [((s89 w).get zaE.toNat).Use.Tie] [1] zad)⟩:Mp)⟩:web) (w64 (left - (1:Int)))).2).Net.Ties) (⟨(zbt.len+((Slf69.r.S (⟨(⟨za2,za5⟩:Net),(⟨(addN (zad [((s89 w).get zaE.toNat).Use.Tie]) zaf),(zea [((s89 w).get zaE.toNat).Use.Tie] [1] zad)⟩:Mp)⟩:web) (w64 (left - (1:Int)))).1).len),(zl0 zbt.len zbt.get ((Slf69.r.S (⟨(⟨za2,za5⟩:Net),(⟨(addN (zad [((s89 w).get zaE.toNat).Use.Tie]) zaf),(zea [((s89 w).get zaE.toNat).Use.Tie] [1] zad)⟩:Mp)⟩:web) (w64 (left - (1:Int)))).1).get)⟩:Sl (Sl Int)) (zE4 (((((Slf69.r.S (⟨(⟨za2,za5⟩:Net),(⟨(addN (zad [((s89 w).get zaE.toNat).Use.Tie]) zaf),(zea [((s89 w).get zaE.toNat).Use.Tie] [1] zad)⟩:Mp)⟩:web) (w64 (left - (1:Int)))).2).out).F) [((s89 w).get zaE.toNat).Use.Tie]) ((((Slf69.r.S (⟨(⟨za2,za5⟩:Net),(⟨(addN (zad [((s89 w).get zaE.toNat).Use.Tie]) zaf),(zea [((s89 w).get zaE.toNat).Use.Tie] [1] zad)⟩:Mp)⟩:web) (w64 (left - (1:Int)))).2).out).n)) (zCT [((s89 w).get zaE.toNat).Use.Tie] ((((Slf69.r.S (⟨(⟨za2,za5⟩:Net),(⟨(addN (zad [((s89 w).get zaE.toNat).Use.Tie]) zaf),(zea [((s89 w).get zaE.toNat).Use.Tie] [1] zad)⟩:Mp)⟩:web) (w64 (left - (1:Int)))).2).out).F))))
 (zbt,(⟨(⟨za2,za5⟩:Net),(⟨zaf,zad⟩:Mp)⟩:web)))
def zoK (w:web) (left:Int) (P0:Int->Int->(Sl Tie)->(Sl (Sl Int))->Nat->(List Int->Option (List Int))->Bool) (zaE:Int) (za2:Int) (za5:(Sl Tie)) (zbt:(Sl (Sl Int))) (zaf:Nat) (zad:(List Int->Option (List Int))):Bool :=
  (cond (decide (zaE < ((s89 w).len : Int)))
 (decide ((0≤zaE/\zaE < ((s89 w).len:Int))) &&
 (cond ((zwe (zad [((s89 w).get zaE.toNat).Use.Tie]) 0) != 0)
 (P0 (w64 (zaE+(1:Int))) za2 za5 zbt zaf zad)
 (decide ((Slf69.r.P (⟨(⟨za2,za5⟩:Net),(⟨(addN (zad [((s89 w).get zaE.toNat).Use.Tie]) zaf),(zea [((s89 w).get zaE.toNat).Use.Tie] [1] zad)⟩:Mp)⟩:web) (w64 (left - (1:Int)))=true)) &&
 (decide (((zbt.len+((Slf69.r.S (⟨(⟨za2,za5⟩:Net),(⟨(addN (zad [((s89 w).get zaE.toNat).Use.Tie]) zaf),(zea [((s89 w).get zaE.toNat).Use.Tie] [1] zad)⟩:Mp)⟩:web) (w64 (left - (1:Int)))).1).len) * 24≤140737488355328/\zbt.len+((Slf69.r.S (⟨(⟨za2,za5⟩:Net),(⟨(addN (zad [((s89 w).get zaE.toNat).Use.Tie]) zaf),(zea [((s89 w).get zaE.toNat).Use.Tie] [1] zad)⟩:Mp)⟩:web) (w64 (left - (1:Int)))).1).len≤9223372036854775807)) &&
 (P0 (w64 (zaE+(1:Int))) (((Slf69.r.S (⟨(⟨za2,za5⟩:Net),(⟨(addN (zad [((s89 w).get zaE.toNat).Use.Tie]) zaf),(zea [((s89 w).get zaE.toNat).Use.Tie] [1] zad)⟩:Mp)⟩:web) (w64 (left - (1:Int)))).2).Net.Nodes) (((Slf69.r.S (⟨(⟨za2,za5⟩:Net),(⟨(addN (zad [((s89 w).get zaE.toNat).Use.Tie]) zaf),(zea [((s89 w).get zaE.toNat).Use.Tie] [1] zad)⟩:Mp)⟩:web) (w64 (left - (1:Int)))).2).Net.Ties) (⟨(zbt.len+((Slf69.r.S (⟨(⟨za2,za5⟩:Net),(⟨(addN (zad [((s89 w).get zaE.toNat).Use.Tie]) zaf),(zea [((s89 w).get zaE.toNat).Use.Tie] [1] zad)⟩:Mp)⟩:web) (w64 (left - (1:Int)))).1).len),(zl0 zbt.len zbt.get ((Slf69.r.S (⟨(⟨za2,za5⟩:Net),(⟨(addN (zad [((s89 w).get zaE.toNat).Use.Tie]) zaf),(zea [((s89 w).get zaE.toNat).Use.Tie] [1] zad)⟩:Mp)⟩:web) (w64 (left - (1:Int)))).1).get)⟩:Sl (Sl Int)) (zE4 (((((Slf69.r.S (⟨(⟨za2,za5⟩:Net),(⟨(addN (zad [((s89 w).get zaE.toNat).Use.Tie]) zaf),(zea [((s89 w).get zaE.toNat).Use.Tie] [1] zad)⟩:Mp)⟩:web) (w64 (left - (1:Int)))).2).out).F) [((s89 w).get zaE.toNat).Use.Tie]) ((((Slf69.r.S (⟨(⟨za2,za5⟩:Net),(⟨(addN (zad [((s89 w).get zaE.toNat).Use.Tie]) zaf),(zea [((s89 w).get zaE.toNat).Use.Tie] [1] zad)⟩:Mp)⟩:web) (w64 (left - (1:Int)))).2).out).n)) (zCT [((s89 w).get zaE.toNat).Use.Tie] ((((Slf69.r.S (⟨(⟨za2,za5⟩:Net),(⟨(addN (zad [((s89 w).get zaE.toNat).Use.Tie]) zaf),(zea [((s89 w).get zaE.toNat).Use.Tie] [1] zad)⟩:Mp)⟩:web) (w64 (left - (1:Int)))).2).out).F)))))))
 true)
def ziE (w : web) (left : Int) : Nat → Int → Int → (Sl Tie) → (Sl (Sl Int)) → Nat → (List Int → Option (List Int)) → ((Sl (Sl Int)) × web)
  | 0=>λ _ _ _ _ _ _=>default
  | k+1=>zoJ w left (ziE w left k)
def ziF (w : web) (left : Int) : Nat → Int → Int → (Sl Tie) → (Sl (Sl Int)) → Nat → (List Int → Option (List Int)) → Bool
  | 0=>λ _ _ _ _ _ _=>false
  | k+1=>zoK w left (ziF w left k)
def zvL (w:web) (left:Int) (zaE:Int) (za2:Int) (za5:(Sl Tie)) (zbt:(Sl (Sl Int))) (zaf:Nat) (zad:(List Int->Option (List Int))):((Sl (Sl Int))×web):=ziE w left Fuel zaE za2 za5 zbt zaf zad
def zvM (w:web) (left:Int) (zaE:Int) (za2:Int) (za5:(Sl Tie)) (zbt:(Sl (Sl Int))) (zaf:Nat) (zad:(List Int->Option (List Int))):Bool:=ziF w left Fuel zaE za2 za5 zbt zaf zad
theorem zEf (K:List PA×List XA->Prop) (w:web) (left:Int) (zaE:Int) (za2:Int) (za5:(Sl Tie)) (zbt:(Sl (Sl Int))) (zaf:Nat) (zad:(List Int->Option (List Int))) (zcx:Nat->List PV) (zmd:zcx=λ i=>zai (za5.get i)) (zcy:Nat->List PV) (zme:zcy=λ i=>enc_27 (zbt.get i)) (hs:zvM w left zaE za2 za5 zbt zaf zad=true) (hk:K (zFM left (zvL w left zaE za2 za5 zbt zaf zad))):ziD (WkM K) w left zaE za2 za5.len zcx zbt.len zcy zaf zad:=by
  refine zwO (WkM K) w left zaE za2 za5.len zcx zbt.len zcy zaf zad ?_
  intro X0 hstep
  have key:∀ (k:Nat) (zaE:Int) (za2:Int) (za5:(Sl Tie)) (zbt:(Sl (Sl Int))) (zaf:Nat) (zad:(List Int->Option (List Int))) (zcx:Nat->List PV) (zmd:zcx=λ i=>zai (za5.get i)) (zcy:Nat->List PV) (zme:zcy=λ i=>enc_27 (zbt.get i)),ziF w left k zaE za2 za5 zbt zaf zad=true->K (zFM left (ziE w left k zaE za2 za5 zbt zaf zad))->X0 (zgB w left zaE za2 za5.len zcx zbt.len zcy zaf zad):=by
    intro k
    induction k with
    | zero=>intro zaE za2 za5 zbt zaf zad zcx zmd zcy zme hs;exact absurd hs Bool.false_ne_true
    | succ k ih =>
      intro zaE za2 za5 zbt zaf zad zcx zmd zcy zme hs hk
      subst zmd
      subst zme
      refine hstep zaE za2 za5 zbt zaf zad ?_
      have hs:zoK w left (ziF w left k) zaE za2 za5 zbt zaf zad=true:=hs
      have hk:K (zFM left (zoJ w left (ziE w left k) zaE za2 za5 zbt zaf zad)):=hk
      unfold zoK at hs
      unfold zoJ at hk
      generalize ziE w left k=S0 at hk ih
      generalize ziF w left k=P0 at hs ih
      have hX0:=ih
      exact (zfs (K := λ r => K (zFM left r))
 (λ hs hk => (zaL hs λ hc hs => ⟨hc, (zfs (K := λ r => K (zFM left r))
 (λ hs hk=>(hX0 (w64 (zaE+(1:Int))) za2 za5 zbt zaf zad (λ i=>zai (za5.get i)) rfl (λ i=>enc_27 (zbt.get i)) rfl hs hk))
 (λ hs hk=>(zaL hs λ hc hs=>⟨⟨isE,rfl,hc⟩,(zaL hs λ hc hs=>⟨hc,(hX0 (w64 (zaE+(1:Int))) (((Slf69.r.S (⟨(⟨za2,za5⟩:Net),(⟨(addN (zad [((s89 w).get zaE.toNat).Use.Tie]) zaf),(zea [((s89 w).get zaE.toNat).Use.Tie] [1] zad)⟩:Mp)⟩:web) (w64 (left - (1:Int)))).2).Net.Nodes) (((Slf69.r.S (⟨(⟨za2,za5⟩:Net),(⟨(addN (zad [((s89 w).get zaE.toNat).Use.Tie]) zaf),(zea [((s89 w).get zaE.toNat).Use.Tie] [1] zad)⟩:Mp)⟩:web) (w64 (left - (1:Int)))).2).Net.Ties) (⟨(zbt.len+((Slf69.r.S (⟨(⟨za2,za5⟩:Net),(⟨(addN (zad [((s89 w).get zaE.toNat).Use.Tie]) zaf),(zea [((s89 w).get zaE.toNat).Use.Tie] [1] zad)⟩:Mp)⟩:web) (w64 (left - (1:Int)))).1).len),(zl0 zbt.len zbt.get ((Slf69.r.S (⟨(⟨za2,za5⟩:Net),(⟨(addN (zad [((s89 w).get zaE.toNat).Use.Tie]) zaf),(zea [((s89 w).get zaE.toNat).Use.Tie] [1] zad)⟩:Mp)⟩:web) (w64 (left - (1:Int)))).1).get)⟩:Sl (Sl Int)) (zE4 (((((Slf69.r.S (⟨(⟨za2,za5⟩:Net),(⟨(addN (zad [((s89 w).get zaE.toNat).Use.Tie]) zaf),(zea [((s89 w).get zaE.toNat).Use.Tie] [1] zad)⟩:Mp)⟩:web) (w64 (left - (1:Int)))).2).out).F) [((s89 w).get zaE.toNat).Use.Tie]) ((((Slf69.r.S (⟨(⟨za2,za5⟩:Net),(⟨(addN (zad [((s89 w).get zaE.toNat).Use.Tie]) zaf),(zea [((s89 w).get zaE.toNat).Use.Tie] [1] zad)⟩:Mp)⟩:web) (w64 (left - (1:Int)))).2).out).n)) (zCT [((s89 w).get zaE.toNat).Use.Tie] ((((Slf69.r.S (⟨(⟨za2,za5⟩:Net),(⟨(addN (zad [((s89 w).get zaE.toNat).Use.Tie]) zaf),(zea [((s89 w).get zaE.toNat).Use.Tie] [1] zad)⟩:Mp)⟩:web) (w64 (left - (1:Int)))).2).out).F)) (λ i=>zai (((Slf69.r.S (⟨(⟨za2,za5⟩:Net),(⟨(addN (zad [((s89 w).get zaE.toNat).Use.Tie]) zaf),(zea [((s89 w).get zaE.toNat).Use.Tie] [1] zad)⟩:Mp)⟩:web) (w64 (left - (1:Int)))).2).Net.Ties.get i)) rfl (appG zbt.len (λ i=>enc_27 (zbt.get i)) (λ i=>enc_27 (((Slf69.r.S (⟨(⟨za2,za5⟩:Net),(⟨(addN (zad [((s89 w).get zaE.toNat).Use.Tie]) zaf),(zea [((s89 w).get zaE.toNat).Use.Tie] [1] zad)⟩:Mp)⟩:web) (w64 (left - (1:Int)))).1).get i))) (ziw (enc:=enc_27) (f:=zbt.get) (h:=((Slf69.r.S (⟨(⟨za2,za5⟩:Net),(⟨(addN (zad [((s89 w).get zaE.toNat).Use.Tie]) zaf),(zea [((s89 w).get zaE.toNat).Use.Tie] [1] zad)⟩:Mp)⟩:web) (w64 (left - (1:Int)))).1).get) rfl rfl) hs hk)⟩)⟩)) hs hk)⟩))
 (fun hs hk=>(zyC hk)) hs hk)
  exact key _ zaE za2 za5 zbt zaf zad zcx zmd zcy zme hs hk
def zCP (w:web) (left:Int):((Sl (Sl Int))×web) :=
  (cond (!(s88 w))
 ((⟨1,λ _=>(⟨w.out.n,(λ i=>(zwZ w.out.F w.out.n).getD i 0)⟩:(Sl Int))⟩:(Sl (Sl Int))),w)
 (cond (left == (0:Int))
 ((⟨0,λ _=>default⟩:(Sl (Sl Int))),w)
 (zvL w left (0:Int) w.Net.Nodes w.Net.Ties (⟨0,(λ _=>default)⟩:Sl (Sl Int)) w.out.n w.out.F)))
def zN2 (w:web) (left:Int):Bool :=
  (decide ((p88 w=true)) &&
 (cond (!(s88 w))
 (decide ((w.out.n≤1000000/\(zwY w.out.F 9223372036854775808 0 w.out.n).isSome=true)) &&
 true)
 (cond (left == (0:Int))
 true
 (decide ((p89 w=true)) &&
 (zvM w left (0:Int) w.Net.Nodes w.Net.Ties (⟨0,(λ _=>default)⟩:Sl (Sl Int)) w.out.n w.out.F)))))
theorem zQP (w:web) (left:Int) (K:List PA×List XA->Prop) (hs:zN2 w left=true) (hk:K (zFM left (zCP w left))):zlW Tryd.prog zEd zfY 69 [.box 105 [.p (.int .i64 w.Net.Nodes),.p (.sl w.Net.Ties.len 4 (λ i=>zai (w.Net.Ties.get i))),.mo 3 4 (false,1,false,[none]) w.out.n w.out.F],.d (.one (.int .i64 left))] (λ a b=>(WkM K) (a,b)):=by
  refine zaR (zEe w left (WkM K)) ?_
  unfold zN2 at hs
  unfold zCP at hk
  exact (zaL hs λ hc hs => ⟨⟨isE, rfl, hc⟩, (zfs (K := λ r => K (zFM left r))
 (λ hs hk=>(zaL hs λ hc hs=>⟨hc,(zyC hk)⟩))
 (λ hs hk => (zfs (K := λ r => K (zFM left r))
 (λ hs hk=>(wkM hk (zb8 (.one (.nil _ _)) zes)))
 (λ hs hk=>(zaL hs λ hc hs=>⟨⟨(λ _=>rfl),isE,rfl,hc⟩,(zEf K w left (0:Int) w.Net.Nodes w.Net.Ties (⟨0,(λ _=>default)⟩:Sl (Sl Int)) w.out.n w.out.F (λ i=>zai (w.Net.Ties.get i)) rfl (λ i=>enc_27 ((λ _=>default) i)) rfl hs hk)⟩)) hs hk)) hs hk)⟩)
def zMw : MK
  | [.box 105 [.p (.int .i64 zax),.p (.sl zav zbG zao),.mo 3 4 zdA zaT zaU],.d (.one (.int .i64 b1))]=>some (IsE zai 4 zbG zao/\zdA=(false,1,false,[none])/\zN2 (⟨(⟨zax,(⟨zav,zaq zao⟩:(Sl Tie))⟩:Net),(⟨zaT,zaU⟩:Mp)⟩:web) b1=true,[.one (.sl (((zCP (⟨(⟨zax,(⟨zav,zaq zao⟩:(Sl Tie))⟩:Net),(⟨zaT,zaU⟩:Mp)⟩:web) b1).1).len) 1 (λ i=>enc_27 (((zCP (⟨(⟨zax,(⟨zav,zaq zao⟩:(Sl Tie))⟩:Net),(⟨zaT,zaU⟩:Mp)⟩:web) b1).1).get i)))],[.box 105 [.p (.int .i64 (((zCP (⟨(⟨zax,(⟨zav,zaq zao⟩:(Sl Tie))⟩:Net),(⟨zaT,zaU⟩:Mp)⟩:web) b1).2).Net.Nodes)),.p (.sl (((zCP (⟨(⟨zax,(⟨zav,zaq zao⟩:(Sl Tie))⟩:Net),(⟨zaT,zaU⟩:Mp)⟩:web) b1).2).Net.Ties.len) 4 (λ i=>zai (((zCP (⟨(⟨zax,(⟨zav,zaq zao⟩:(Sl Tie))⟩:Net),(⟨zaT,zaU⟩:Mp)⟩:web) b1).2).Net.Ties.get i))),.mo 3 4 (false,1,false,[none]) ((((zCP (⟨(⟨zax,(⟨zav,zaq zao⟩:(Sl Tie))⟩:Net),(⟨zaT,zaU⟩:Mp)⟩:web) b1).2).out).n) ((((zCP (⟨(⟨zax,(⟨zav,zaq zao⟩:(Sl Tie))⟩:Net),(⟨zaT,zaU⟩:Mp)⟩:web) b1).2).out).F)],.d (.one (.int .i64 b1))])
  | _=>none
theorem zMx:zaw Tryd.prog 69:=⟨_,rfl,rfl,by kernel_rfl⟩
theorem zOS (hself:zkH Tryd.prog 69 zAc):zkH Tryd.prog 69 zMw:=zDL (zOR hself) zMx λ xs safe rs ys h hs K hk=>by
  unfold zMw at h
  split at h
  · rename_i zax zav zbG zao zdA zaT zaU b1
    simp only[Option.some.injEq,Prod.mk.injEq] at h
    obtain⟨rfl,rfl,rfl⟩:=h
    obtain⟨⟨rfl,zcq,rfl⟩,rfl,hs⟩:=hs
    try rw[zat zcq] at hs
    try rw[zat zcq] at hk
    refine⟨λ _ _=>[],λ _=>false,zfY,?_⟩
    show zlW Tryd.prog zEd zfY 69 _ _
    exact zQP (⟨(⟨zax,(⟨zav,zcq⟩:(Sl Tie))⟩:Net),(⟨zaT,zaU⟩:Mp)⟩:web) b1 (λ x=>K x.1 x.2) hs hk
  · cases h
end
def zwP : Nat → Rec69
  | 0=>⟨λ _ _=>default,λ _ _=>false⟩
  | k+1=>⟨@zCP ⟨zwP k⟩,@zN2 ⟨zwP k⟩⟩
theorem zMy : ∀ k, zkH Tryd.prog 69 (@zAc ⟨zwP k⟩)
  | 0=>λ xs ys safe rs h hs=>by
    unfold zAc at h
    split at h
    · simp only [Option.some.injEq, Prod.mk.injEq] at h
      obtain⟨rfl,rfl,rfl⟩:=h
      exact absurd hs.2.2 Bool.false_ne_true
    · cases h
  | k+1=>@zOS ⟨zwP k⟩ (zMy k)
def s69 (w:web) (left:Int):((Sl (Sl Int))×web):=(zwP 64).S w left
def p69 (w:web) (left:Int):Bool:=(zwP 64).P w left
def zMz : MK
  | [.box 105 [.p (.int .i64 zax),.p (.sl zav zbG zao),.mo 3 4 zdA zaT zaU],.d (.one (.int .i64 b1))]=>some (IsE zai 4 zbG zao/\zdA=(false,1,false,[none])/\p69 (⟨(⟨zax,(⟨zav,zaq zao⟩:(Sl Tie))⟩:Net),(⟨zaT,zaU⟩:Mp)⟩:web) b1=true,[.one (.sl (((s69 (⟨(⟨zax,(⟨zav,zaq zao⟩:(Sl Tie))⟩:Net),(⟨zaT,zaU⟩:Mp)⟩:web) b1).1).len) 1 (λ i=>enc_27 (((s69 (⟨(⟨zax,(⟨zav,zaq zao⟩:(Sl Tie))⟩:Net),(⟨zaT,zaU⟩:Mp)⟩:web) b1).1).get i)))],[.box 105 [.p (.int .i64 (((s69 (⟨(⟨zax,(⟨zav,zaq zao⟩:(Sl Tie))⟩:Net),(⟨zaT,zaU⟩:Mp)⟩:web) b1).2).Net.Nodes)),.p (.sl (((s69 (⟨(⟨zax,(⟨zav,zaq zao⟩:(Sl Tie))⟩:Net),(⟨zaT,zaU⟩:Mp)⟩:web) b1).2).Net.Ties.len) 4 (λ i=>zai (((s69 (⟨(⟨zax,(⟨zav,zaq zao⟩:(Sl Tie))⟩:Net),(⟨zaT,zaU⟩:Mp)⟩:web) b1).2).Net.Ties.get i))),.mo 3 4 (false,1,false,[none]) ((((s69 (⟨(⟨zax,(⟨zav,zaq zao⟩:(Sl Tie))⟩:Net),(⟨zaT,zaU⟩:Mp)⟩:web) b1).2).out).n) ((((s69 (⟨(⟨zax,(⟨zav,zaq zao⟩:(Sl Tie))⟩:Net),(⟨zaT,zaU⟩:Mp)⟩:web) b1).2).out).F)],.d (.one (.int .i64 b1))])
  | _=>none
theorem zQQ:zkH Tryd.prog 69 zMz:=zMy 64
abbrev T71:Tabs:=(Tabs.nil.addF 101 zvx)
theorem zOT:TabsOk Tryd.prog T71:=(TabsOk.nil.addF zMn)
abbrev G71:Ctrs:=csm T71 (λ _ _=>[]) (λ _=>false)
def zIf:Ann:=⟨36,[(0,zK [0,1] []),(1,zK [0,1,9,10,11] []),(2,zK [0,1,9,10,11,12] []),(3,zK [0,1,5,6,9,10,11] []),(4,zK [0,1,5,6,9,10,11,19] []),(5,zK [4] []),(6,zK [0,1,6,7,9,10,11] []),(7,zK [0,1,8,9,10,11] []),(8,zK [0,1,8,9,10,11,28] []),(9,zK [4] []),(10,zK [0,1,9,10,11] []),(11,zK [35] []),(12,zK [4] []),(13,zK [4] [])],
 [(2,zK [0,1,9,10,11] [])],
 [(6,zK [0,1,5,6,9,10,11] []),(8,zK [0,1,8,9,10,11] [])],
 [],[]⟩
abbrev R71:=Int
abbrev e71 (r:R71):List PA:=[.one (.int .i64 r)]
@[irreducible] def z71:=ptF Tryd.prog G71 zIf Tryd.f71
def zFN (zeW:(Sl Int)) (zep:(Sl Int)) (zhN:(Sl Int)) (za7:Int) (zaX:Int) (zdF:Nat->List PV) (zdG:Nat->List PV) (zks:Nat->List PV):St:=⟨[(0,zP (.sl zeW.len 1 zdF)),(1,zP (.sl zep.len 1 zdG)),(9,zP (.sl zhN.len 1 zks)),(10,zI za7),(11,zI zaX)],[],[]⟩
abbrev zEg (K:List PA->Prop) (X:St->Prop) (P:(Sl Int)->(Sl Int)->(Sl Int)->Int->Int->Bool) (S:(Sl Int)->(Sl Int)->(Sl Int)->Int->Int->Int):Prop:=∀ ⦃zeW:(Sl Int)⦄ ⦃zep:(Sl Int)⦄ ⦃zhN:(Sl Int)⦄ ⦃za7:Int⦄ ⦃zaX:Int⦄ ⦃zdF:Nat->List PV⦄ ⦃zdG:Nat->List PV⦄ ⦃zks:Nat->List PV⦄,P zeW zep zhN za7 zaX=true->K (e71 (S zeW zep zhN za7 zaX))->zdF=zg enc_3 zeW->zdG=zg enc_3 zep->zks=zg enc_3 zhN->X (zFN zeW zep zhN za7 zaX zdF zdG zks)
section
variable {K:List PA->Prop}{s1_a0:(Sl Int)}{s2_a1:(Sl Int)}{zeW:(Sl Int)}{zep:(Sl Int)}{zhN:(Sl Int)}{za7:Int}{zaX:Int}{zdF:Nat->List PV}{zdG:Nat->List PV}{zks:Nat->List PV}{X0:St->Prop}{P0:(Sl Int)->(Sl Int)->(Sl Int)->Int->Int->Bool}{S0:(Sl Int)->(Sl Int)->(Sl Int)->Int->Int->Int}{zqV:(Sl Int)}{zkX:(Sl Int)}{iv1:Int}{zIg:Int}{zsX:(Sl Int)}{ziG:Int}{zcR:Int}{zqW:Nat->List PV}{zqX:Nat->List PV}{zFO:Nat->List PV}{zqY:(Sl Int)}{zqZ:(Sl Int)}{cv2:Int}{zsY:Int}{zq0:Nat->List PV}{zq1:Nat->List PV}
def zAd (S0:(Sl Int)->(Sl Int)->(Sl Int)->Int->Int->Int) (zsX:(Sl Int)) (ziG:Int) (zqY:(Sl Int)) (zqZ:(Sl Int)) (cv2:Int) (zsY:Int):Int :=
  (cond (cv2 != (0:Int))
 cv2
 (S0 zqY zqZ zsX ziG (w64 (zsY+(1:Int)))))
def zAe (P0:(Sl Int)->(Sl Int)->(Sl Int)->Int->Int->Bool) (zsX:(Sl Int)) (ziG:Int) (zqY:(Sl Int)) (zqZ:(Sl Int)) (cv2:Int) (zsY:Int):Bool :=
  (cond (cv2 != (0:Int))
 true
 (P0 zqY zqZ zsX ziG (w64 (zsY+(1:Int)))))
theorem zIh (hX0:zEg K X0 P0 S0) (hs:zAe P0 zsX ziG zqY zqZ cv2 zsY=true) (hk:K (e71 (zAd S0 zsX ziG zqY zqZ cv2 zsY))) (zzm:zq0=zg enc_3 zqY) (zzn:zq1=zg enc_3 zqZ):z71 K [1,0,1,0,0,1,1,0,0,1,1,1,1] [X0] ⟨[(0,zP (.sl zqY.len 1 zq0)),(1,zP (.sl zqZ.len 1 zq1)),(8,zI cv2),(9,zS enc_3 1 zsX),(10,zI ziG),(11,zI zsY)],[],[]⟩:=by subst zzm;subst zzn;exact zaR (by kernel_rfl) (zc hs hk (λ hs hk=>hk) (λ hs hk=>(hX0 hs hk rfl rfl rfl)))
def zAf (S0:(Sl Int)->(Sl Int)->(Sl Int)->Int->Int->Int) (zqV:(Sl Int)) (zkX:(Sl Int)) (iv1:Int) (zIg:Int) (zsX:(Sl Int)) (ziG:Int) (zcR:Int):Int :=
  (zAd S0 zsX ziG zqV zkX (zCO zIg (zkX.get iv1.toNat)) zcR)
def zAg (P0:(Sl Int)->(Sl Int)->(Sl Int)->Int->Int->Bool) (zqV:(Sl Int)) (zkX:(Sl Int)) (iv1:Int) (zIg:Int) (zsX:(Sl Int)) (ziG:Int) (zcR:Int):Bool :=
  (decide ((0≤iv1/\iv1 < (zkX.len:Int))) &&
 (zAe P0 zsX ziG zqV zkX (zCO zIg (zkX.get iv1.toNat)) zcR))
theorem zIi (hX0:zEg K X0 P0 S0) (hs:zAg P0 zqV zkX iv1 zIg zsX ziG zcR=true) (hk:K (e71 (zAf S0 zqV zkX iv1 zIg zsX ziG zcR))) (zzo:zqW=zg enc_3 zqV) (zzp:zqX=zg enc_3 zkX) (zMA:zFO=zg enc_3 zsX):z71 K [1,0,1,0,0,1,1,0,0,1,1] [X0] ⟨[(0,zP (.sl zqV.len 1 zqW)),(1,zP (.sl zkX.len 1 zqX)),(5,zI iv1),(6,zI zIg),(9,zP (.sl zsX.len 1 zFO)),(10,zI ziG),(11,zI zcR)],[],[]⟩:=by subst zzo;subst zzp;subst zMA;exact zaR (by kernel_rfl) (zaL hs λ hc hs=>And.intro hc (zIh hX0 hs hk rfl rfl))
def zAh (S0:(Sl Int)->(Sl Int)->(Sl Int)->Int->Int->Int) (zeW:(Sl Int)) (zep:(Sl Int)) (zhN:(Sl Int)) (za7:Int) (zaX:Int):Int :=
  (cond (decide (zaX < za7))
 (cond (decide (zaX ≥ (zep.len : Int)))
 (1:Int)
 (zAf S0 zeW zep zaX (zhN.get zaX.toNat) zhN za7 zaX))
 (cond (decide ((zeW.len : Int) < (zep.len : Int)))
 (-1:Int)
 (0:Int)))
def zAi (P0:(Sl Int)->(Sl Int)->(Sl Int)->Int->Int->Bool) (zeW:(Sl Int)) (zep:(Sl Int)) (zhN:(Sl Int)) (za7:Int) (zaX:Int):Bool :=
  (cond (decide (zaX < za7))
 (decide ((0≤zaX/\zaX < (zhN.len:Int))) &&
 (cond (decide (zaX ≥ (zep.len : Int)))
 true
 (zAg P0 zeW zep zaX (zhN.get zaX.toNat) zhN za7 zaX)))
 true)
def zAj:Nat->(Sl Int)->(Sl Int)->(Sl Int)->Int->Int->Int:=lpO (λ _ _ _ _ _=>default) (zAh)
def zAk:Nat->(Sl Int)->(Sl Int)->(Sl Int)->Int->Int->Bool:=lpO (λ _ _ _ _ _=>false) (zAi)
def zAl (zeW:(Sl Int)) (zep:(Sl Int)) (zhN:(Sl Int)) (za7:Int) (zaX:Int):Int:=zAj Fuel zeW zep zhN za7 zaX
def zAm (zeW:(Sl Int)) (zep:(Sl Int)) (zhN:(Sl Int)) (za7:Int) (zaX:Int):Bool:=zAk Fuel zeW zep zhN za7 zaX
theorem zIj (hs:zAm zeW zep zhN za7 zaX=true) (hk:K (e71 (zAl zeW zep zhN za7 zaX))) (zl6:zdF=zg enc_3 zeW) (zl7:zdG=zg enc_3 zep) (zAn:zks=zg enc_3 zhN):z71 K [1,0,1,0] [] (zFN zeW zep zhN za7 zaX zdF zdG zks) :=
  zl (λ X=>z71 K [1,0,1,0,0] [X]) (by kernel_rfl) λ X0 hX =>
  (show ∀ k, zEg K X0 (zAk k) (zAj k) from zdU _ _ (zAi) (zAh) (zEg K X0)
 (by intro _ _ _ _ _ _ _ _ hs;exact absurd hs Bool.false_ne_true)
 (by intro P0 S0 hX0 zeW zep zhN za7 zaX zdF zdG zks hs hk zl6 zl7 zAn;subst zl6;subst zl7;subst zAn;exact hX _ (zaR (by kernel_rfl) (zc hs hk (λ hs hk=>(zaL hs λ hc hs=>And.intro hc (zc hs hk (λ hs hk=>hk) (λ hs hk=>(zIi hX0 hs hk rfl rfl rfl))))) (λ hs hk=>(zt hk (λ hk=>hk) (λ hk=>hk))))))) _ hs hk zl6 zl7 zAn
def s71 (s1_a0:(Sl Int)) (s2_a1:(Sl Int)):Int :=
  (zAl s1_a0 s2_a1 s1_a0 (s1_a0.len:Int) (0:Int))
def p71 (s1_a0:(Sl Int)) (s2_a1:(Sl Int)):Bool :=
  (zAm s1_a0 s2_a1 s1_a0 (s1_a0.len:Int) (0:Int))
end
theorem q71 (s1_a0:(Sl Int)) (s2_a1:(Sl Int)) (K:List PA->Prop) (hs:p71 s1_a0 s2_a1=true) (hk:K (e71 (s71 s1_a0 s2_a1))):vcFun Tryd.prog G71 zIf 71 [.one (.sl s1_a0.len 1 (λ i=>enc_3 (s1_a0.get i))),.one (.sl s2_a1.len 1 (λ i=>enc_3 (s2_a1.get i)))] K :=
  zaR (by kernel_rfl) (zIj hs hk rfl rfl rfl)
def zIk : List PA → COut
  | [.one (.sl zdl ziz zdm),.one (.sl zcz zfx zcw)]=>.det (IsE enc_3 1 ziz zdm/\IsE enc_3 1 zfx zcw/\p71 (⟨zdl,zar zdm⟩:(Sl Int)) (⟨zcz,zar zcw⟩:(Sl Int))=true) [.one (.int .i64 (s71 (⟨zdl,zar zdm⟩:(Sl Int)) (⟨zcz,zar zcw⟩:(Sl Int))))]
  | _=>.no
theorem zMB:zaw Tryd.prog 71:=⟨_,rfl,rfl,by kernel_rfl⟩
theorem zQR:Ok Tryd.prog 71 zIk:=zbv zOT zMB λ args K h=>by
  unfold zIk at h
  split at h
  · rename_i zdl ziz zdm zcz zfx zcw
    obtain⟨⟨⟨rfl,zfz,rfl⟩,⟨rfl,zdV,rfl⟩,hs⟩,hk⟩:=h
    try rw[zaV zfz] at hs
    try rw[zaV zfz] at hk
    try rw[zaV zdV] at hs
    try rw[zaV zdV] at hk
    exact⟨(λ _ _=>[]),(λ _=>false),zIf,q71 (⟨zdl,zfz⟩:(Sl Int)) (⟨zcz,zdV⟩:(Sl Int)) K hs hk⟩
  · exact h.elim
abbrev T70:Tabs:=(Tabs.nil.addF 71 zIk)
theorem zOU:TabsOk Tryd.prog T70:=(TabsOk.nil.addF zQR)
abbrev G70:Ctrs:=csm T70 (λ _ _=>[]) (λ _=>false)
def zIl:Ann:=⟨33,[(0,zK [0,1] []),(1,zK [0,1,9] []),(3,zK [0,1,5] []),(4,zK [0,1,5,6] []),(5,zK [0,1,5,6,17] []),(6,zK [0,1,5,6] []),(7,zK [0,1,5,6,27] []),(8,zK [0,1,5,6] []),(9,zK [4] [])],
 [(5,zK [0,1,5,6] [])],
 [(3,zK [0,1] []),(8,zK [0,1,5,6,27] [])],
 [],[]⟩
abbrev R70:=(Sl Int)
abbrev e70 (r:R70):List PA:=[.one (.sl r.len 1 (λ i=>enc_3 (r.get i)))]
@[irreducible] def z70:=ptF Tryd.prog G70 zIl Tryd.f70
def zFP (x:(Sl (Sl Int))) (mv1:(Sl Int)) (iv1:Int) (zq4:Nat->List PV):St:=⟨[(0,zS enc_27 1 x),(1,zP (.fn 71 [] [])),(5,zP (.sl mv1.len 1 zq4)),(6,zI iv1)],[],[]⟩
abbrev zIm (K:List PA->Prop) (x:(Sl (Sl Int))) (X:St->Prop) (P:(Sl Int)->Int->Bool) (S:(Sl Int)->Int->(Sl Int)):Prop:=∀ ⦃mv1:(Sl Int)⦄ ⦃iv1:Int⦄ ⦃zq4:Nat->List PV⦄,P mv1 iv1=true->K (e70 (S mv1 iv1))->zq4=zg enc_3 mv1->X (zFP x mv1 iv1 zq4)
section
variable {K:List PA->Prop}{x:(Sl (Sl Int))}{mv1:(Sl Int)}{iv1:Int}{zq4:Nat->List PV}{X1:St->Prop}{P1:(Sl Int)->Int->Bool}{S1:(Sl Int)->Int->(Sl Int)}{mv2:(Sl Int)}{iv2:Int}{zsZ:Bool}{zMC:Nat->List PV}
def zAo (S1:(Sl Int)->Int->(Sl Int)) (x:(Sl (Sl Int))) (mv2:(Sl Int)) (iv2:Int) (zsZ:Bool):(Sl Int) :=
  (cond zsZ
 (S1 (x.get iv2.toNat) (w64 (iv2+(1:Int))))
 (S1 mv2 (w64 (iv2+(1:Int)))))
def zAp (P1:(Sl Int)->Int->Bool) (x:(Sl (Sl Int))) (mv2:(Sl Int)) (iv2:Int) (zsZ:Bool):Bool :=
  (cond zsZ
 (decide ((0≤iv2/\iv2 < (x.len:Int))) &&
 (P1 (x.get iv2.toNat) (w64 (iv2+(1:Int)))))
 (P1 mv2 (w64 (iv2+(1:Int)))))
theorem zIn (hX1:zIm K x X1 P1 S1) (hs:zAp P1 x mv2 iv2 zsZ=true) (hk:K (e70 (zAo S1 x mv2 iv2 zsZ))) (zOV:zMC=zg enc_3 mv2):z70 K [1,1,1,0,1,0,0,1,0,0,1] [X1] ⟨[(0,zS enc_27 1 x),(1,zP (.fn 71 [] [])),(5,zP (.sl mv2.len 1 zMC)),(6,zI iv2),(27,zB zsZ)],[],[]⟩:=by subst zOV;exact zaR (by kernel_rfl) (zc hs hk (λ hs hk=>(zaL hs λ hc hs=>And.intro hc (hX1 hs hk rfl))) (λ hs hk=>(hX1 hs hk rfl)))
def zAq (x:(Sl (Sl Int))) (S1:(Sl Int)->Int->(Sl Int)) (mv1:(Sl Int)) (iv1:Int):(Sl Int) :=
  (cond (decide (iv1 < (x.len : Int)))
 (zAo S1 x mv1 iv1 (decide ((s71 (x.get iv1.toNat) mv1) < (0:Int))))
 mv1)
def zAr (x:(Sl (Sl Int))) (P1:(Sl Int)->Int->Bool) (mv1:(Sl Int)) (iv1:Int):Bool :=
  (cond (decide (iv1 < (x.len : Int)))
 (decide ((0≤iv1/\iv1 < (x.len:Int))) &&
 (decide ((p71 (x.get iv1.toNat) mv1=true)) &&
 (zAp P1 x mv1 iv1 (decide ((s71 (x.get iv1.toNat) mv1) < (0:Int))))))
 true)
def zAs (x:(Sl (Sl Int))):Nat->(Sl Int)->Int->(Sl Int):=lpO (λ _ _=>default) (zAq x)
def zAt (x:(Sl (Sl Int))):Nat->(Sl Int)->Int->Bool:=lpO (λ _ _=>false) (zAr x)
def zAu (x:(Sl (Sl Int))) (mv1:(Sl Int)) (iv1:Int):(Sl Int):=zAs x Fuel mv1 iv1
def zAv (x:(Sl (Sl Int))) (mv1:(Sl Int)) (iv1:Int):Bool:=zAt x Fuel mv1 iv1
theorem zIo (hs:zAv x mv1 iv1=true) (hk:K (e70 (zAu x mv1 iv1))) (zIp:zq4=zg enc_3 mv1):z70 K [1,1,1,0,1,0] [] (zFP x mv1 iv1 zq4) :=
  zl (λ X=>z70 K [1,1,1,0,1,0,0] [X]) (by kernel_rfl) λ X1 hX =>
  (show ∀ k, zIm K x X1 (zAt x k) (zAs x k) from zdU _ _ (zAr x) (zAq x) (zIm K x X1)
 (by intro _ _ _ hs;exact absurd hs Bool.false_ne_true)
 (by intro P1 S1 hX1 mv1 iv1 zq4 hs hk zIp;subst zIp;exact hX _ (zaR (by kernel_rfl) (zc hs hk (λ hs hk=>(zaL hs λ hc hs=>And.intro hc (zaL hs λ hc hs=>And.intro (And.intro (zE enc_3 1 ((x.get iv1.toNat).get)) (And.intro (zE enc_3 1 mv1.get) hc)) (zIn hX1 hs hk rfl)))) (λ hs hk=>hk))))) _ hs hk zIp
def zAw (x:(Sl (Sl Int))):(Sl Int) :=
  (zAu x (x.get 0) (1:Int))
def zAx (x:(Sl (Sl Int))):Bool :=
  (decide ((0≤(0:Int)/\(0:Int) < (x.len:Int))) &&
 (zAv x (x.get 0) (1:Int)))
theorem zIq (hs:zAx x=true) (hk:K (e70 (zAw x))):z70 K [1,1] [] ⟨[(0,zS enc_27 1 x),(1,zP (.fn 71 [] []))],[],[]⟩:=zaR (by kernel_rfl) (zaL hs λ hc hs=>And.intro hc (zIo hs hk rfl))
def s70 (x:(Sl (Sl Int))):(Sl Int) :=
  (cond (decide ((x.len : Int) < (1:Int)))
 default
 (zAw x))
def p70 (x:(Sl (Sl Int))):Bool :=
  (cond (decide ((x.len : Int) < (1:Int)))
 false
 (zAx x))
end
theorem q70 (x:(Sl (Sl Int))) (K:List PA->Prop) (hs:p70 x=true) (hk:K (e70 (s70 x))):vcFun Tryd.prog G70 zIl 70 [.one (.sl x.len 1 (λ i=>enc_27 (x.get i))),.one (.fn 71 [] [])] K :=
  zaR (by kernel_rfl) (zc hs hk (λ hs hk=>(absurd hs Bool.false_ne_true:False)) (λ hs hk=>(zIq hs hk)))
def zIr : List PA → COut
  | [.one (.sl zdl ziz zdm),.one (.fn 71 [] [])]=>.det (IsE enc_27 1 ziz zdm/\p70 (⟨zdl,zi5 zdm⟩:(Sl (Sl Int)))=true) [.one (.sl ((s70 (⟨zdl,zi5 zdm⟩:(Sl (Sl Int)))).len) 1 (λ i=>enc_3 ((s70 (⟨zdl,zi5 zdm⟩:(Sl (Sl Int)))).get i)))]
  | _=>.no
theorem zMD:zaw Tryd.prog 70:=⟨_,rfl,rfl,by kernel_rfl⟩
theorem zQS:Ok Tryd.prog 70 zIr:=zbv zOU zMD λ args K h=>by
  unfold zIr at h
  split at h
  · rename_i zdl ziz zdm
    obtain⟨⟨⟨rfl,zfz,rfl⟩,hs⟩,hk⟩:=h
    try rw[zft zfz] at hs
    try rw[zft zfz] at hk
    exact⟨(λ _ _=>[]),(λ _=>false),zIl,q70 (⟨zdl,zfz⟩:(Sl (Sl Int))) K hs hk⟩
  · exact h.elim
end Go.Proofs
namespace Go.Pm
open Go.RowKit (Below)
section
variable (P:Program) (Γ:Ctrs)
def zvN (fi : FuncId) : Code → Option (Nat × Nat)
  | .region id ops false=>match ops.toList with
    | [o1,o2]=>match o1.op,o1.dst,o1.guard,o2.op,o2.dst,o2.guard with
      | .makeFunc (.func f) first caps,some t,none,.defer { callee:=.value (.tmp t'),args,argTypes:=_ },none,none=>match Nat.beq f fi && Nat.beq t t' && first.isEmpty && args.isEmpty && Nat.beq caps.size 2 with
        | true=>some (id,t)
        | false=>none
      | _,_,_,_,_,_=>none
    | _=>none
  | _=>none
def zEh (fi : FuncId) (ann : Ann) : Code → (Exit → St → Prop) → St → Prop
  | .seq a b,K,σ=>match zvN fi a with
    | some (id,t)=>match Nat.blt t ann.nt with
      | true=>zGz P ann id (vc P Γ ann b K) ⟨(t,.junk) :: σ.env,σ.objs,[]⟩
      | false=>False
    | none=>vc P Γ ann a (zE6 (zEh fi ann b K) K) σ
  | c,K,σ=>vc P Γ ann c K σ
def zvO (fi:FuncId) (ann:Ann) (f:FuncId) (args:List PA) (K:List PA->Prop):Prop :=
 match P.funcs[f]? with
 | some fn=>match fn.body with
  | some c=>match Nat.beq ann.nt fn.ntmps && Nat.ble args.length ann.nt with
   | true=>zEh P Γ fi ann c (zrE P fn K) ⟨zii 0 args,[],[]⟩
   | false=>False
  | none=>False
 | none=>False
end
section
variable {P:Program}{Γ:Ctrs}{B:Nat}{w0:World}
theorem zno {fi:FuncId}{c:Code}{id t:Nat}(h:zvN fi c=some (id,t)):∃ (o1 o2:Oper) (caps:Array Operand) (ats:Array TypeId),c=.region id #[o1,o2] false/\caps.size=2/\o1.op=.makeFunc (.func fi) #[] caps/\o1.dst=some t/\o1.guard=none /\
  o2.op=.defer { callee:=.value (.tmp t),args:=#[],argTypes:=ats }/\o2.dst=none/\o2.guard=none:=by
 unfold zvN at h
 split at h
 ·rename_i id' ops
  split at h
  ·rename_i o1 o2 hops
   split at h
   ·rename_i f first caps t' t2 args ats e1 e2 e3 e4 e5 e6
    split at h
    ·rename_i hc
     simp only[Bool.and_eq_true] at hc
     simp only[Option.some.injEq,Prod.mk.injEq] at h
     obtain⟨rfl,rfl⟩:=h
     obtain⟨⟨⟨⟨h1,h2⟩,h3⟩,h4⟩,h5⟩:=hc
     have h5:=Nat.eq_of_beq_eq_true h5
     have h1:=Nat.eq_of_beq_eq_true h1
     have h2:=Nat.eq_of_beq_eq_true h2
     have h3:first = #[]:=by simpa using h3
     have h4:args = #[]:=by simpa using h4
     subst h1 h2 h3 h4
     refine⟨o1,o2,caps,ats,?_,h5,e1,e2,e3,e4,e5,e6⟩
     rw[← Array.toArray_toList (xs:=ops),hops]
    ·cases h
   ·cases h
  ·cases h
 ·cases h
theorem zwQ {fi : FuncId} (hidle : ∀ caps : Array Value, caps.size = 2 → znF P { target := .fn (.func fi) caps, args := #[] }) {c : Code} {id t nt n : Nat} {h0 : Fz} {D : List Nat} {a0 a : Act} {σ : St} {g : Gh} {w : World} {Q : Exit → Act → World → Prop}
    (h:zvN fi c=some (id,t)) (ht:t < nt) (htD:t∈D) (S:Sim P nt B w0 h0 g σ a w) (hkp:Kp D a0 a)
    (hQ:∀ a',Sim P nt B w0 h0 g ⟨(t,.junk) :: σ.env,σ.objs,[]⟩ a' w->Kp D a0 a'->Q .normal a' w):c.wpIn (FR none) n P Q a w:=by
  obtain⟨o1,o2,caps,ats,rfl,e0,e1,e2,e3,e4,e5,e6⟩:=zno h
  refine wpIn_region ?_
  show wpOpsIn (FR none) n P #[o1,o2] Q [0,1] a w
  have w1:∀ tm,Region.wanted o1 (yielded #[o1,o2] tm)=true:=λ tm=>by simp[Region.wanted,e3]
  have w2:∀ tm,Region.wanted o2 (yielded #[o1,o2] tm)=true:=λ tm=>by simp[Region.wanted,e6]
  have r1:(execOp a.eval o1).run P w=.ok (.value (.func (.func fi) #[] (caps.map a.eval))) w:=by
    simp only[execOp,e1,Instr.makeFunc,Sem.run_bind,Sem.run_pure,Result.andThen_ok];simp
  have ets:t < a.tmps.size:=Nat.lt_of_lt_of_le ht S.size
  have ev:(a.put (some t) (.func (.func fi) #[] (caps.map a.eval))).eval (.tmp t)=.func (.func fi) #[] (caps.map a.eval):=by
    simp[Act.put,Act.eval,Array.getD_eq_getD_getElem?,ets]
  have r2:(execOp (a.put (some t) (.func (.func fi) #[] (caps.map a.eval))).eval o2).run P w=.ok (.defer { target:=.fn (.func fi) (caps.map a.eval),args:=#[] }) w:=by
    simp only[execOp,e4,resolve,Sem.run_bind,ev,Deferred.ofValue,Sem.run_pure,Result.andThen_ok];simp
  show (if Region.wanted o1 (yielded #[o1,o2] a.tmps) then o1.wpIn (FR none) n P a w (wpOpsIn (FR none) n P #[o1,o2] Q [1]) Q else _)
  rw[if_pos (w1 _)]
  refine⟨λ _ _=>trivial,?_⟩
  rw[show o1.semAt (FR none).round a.eval=execOp a.eval o1 from rfl,r1]
  show wpOpsIn (FR none) n P #[o1,o2] Q [1] (a.put o1.dst _) w
  rw[e2]
  show (if Region.wanted o2 (yielded #[o1,o2] (a.put (some t) _).tmps) then o2.wpIn (FR none) n P (a.put (some t) _) w (wpOpsIn (FR none) n P #[o1,o2] Q []) Q else _)
  rw[if_pos (w2 _)]
  refine⟨λ _ _=>trivial,?_⟩
  have r3:Sem.run P (o2.semAt (FR none).round (a.put (some t) (.func (.func fi) #[] (caps.map a.eval))).eval) w=.ok (.defer { target:=.fn (.func fi) (caps.map a.eval),args:=#[] }) w:=r2
  rw[r3]
  have S1:=S.put (dst:=some t) (d:=.junk) (v:=.func (.func fi) #[] (caps.map a.eval)) (by simpa [zbB,Nat.blt_eq] using ht) trivial (λ L hL=>by simp[zaY,zbi,zaG] at hL) []
  refine hQ _ (S1.act ?_ ?_ ?_) ?_
  · obtain ⟨es, m1, m2, m3, m4⟩ := S1.dfr
    refine⟨.inr { target:=.fn (.func fi) (caps.map a.eval),args:=#[] } :: es,m1,?_,λ E hE=>?_,λ d hd=>?_⟩
    · rw[e5,List.map_cons,← m2];rfl
    · rcases List.mem_cons.1 hE with e | hE
      · cases e
      · exact m3 E hE
    · rcases List.mem_cons.1 hd with e | hd
      · cases e;exact hidle _ (by simpa using e0)
      · exact m4 d hd
  · rw[e5];exact S1.size
  · rw[e5];exact S1.env
  · rw [e5]
    exact hkp.put (dst:=some t) (λ z hz=>by cases hz;exact htD) _ a.defers
theorem zAy (hok:OkAll P Γ){fi:FuncId}(hidle:∀ caps:Array Value,caps.size=2->znF P { target:=.fn (.func fi) caps,args:=#[] }) (ann:Ann):∀ (c:Code) (n:Nat) (h0:Fz) (D:List Nat) (a0:Act) (K:Exit->St->Prop) (σ:St) (g:Gh) (a:Act) (w:World),
  (∀ t∈zif c,t∈D)->zEh P Γ fi ann c K σ->Sim P ann.nt B w0 h0 g σ a w->Kp D a0 a->c.wpIn (FR none) n P (PostR P ann.nt B w0 h0 D a0 K) a w
 | .seq x y,n,h0,D,a0,K,σ,g,a,w,hD,h,S,hkp=>by
  have hDx:∀ t∈zif x,t∈D:=λ t ht=>hD t (List.mem_append.2 (.inl ht))
  have hDy:∀ t∈zif y,t∈D:=λ t ht=>hD t (List.mem_append.2 (.inr ht))
  simp only[zEh] at h
  split at h
  ·rename_i id t hdf
   split at h
   ·rename_i hlt
    have ht:t < ann.nt:=by simpa [Nat.blt_eq] using hlt
    have htD:t∈D:=by
     obtain⟨o1,o2,caps,ats,rfl,_,_,e2,_,_,e5,_⟩:=zno hdf
     exact hDx t (by simp[zif,zxb,e2])
    refine wpIn_seq (zwQ hidle hdf ht htD S hkp λ a' S' hk'=>?_)
    have hk:∀ s g2,vc P Γ ann y K s->Sim P ann.nt B w0 h0 g2 s a' w->y.wpIn (FR none) n P (PostR P ann.nt B w0 h0 D a0 K) a' w:=λ s g2 hv S2=>zdY hok ann y none n h0 D a0 K s g2 a' w hDy (Rnd.none h0) hv S2 hk'
    unfold zGz at h
    split at h
    ·split at h
     ·rename_i s hs
      obtain⟨g2,S2⟩:=zbq hs S'
      exact hk s g2 h S2
     ·exact h.elim
    ·exact hk _ g h S'
   ·exact h.elim
  ·refine wpIn_seq (wpIn_mono (zdY hok ann x none n h0 D a0 _ σ g a w hDx (Rnd.none h0) h S hkp) ?_)
   rintro e a' w' ⟨g',σ',hK,S',hk'⟩
   cases e with
   | normal=>exact zAy hok hidle ann y n h0 D a0 K σ' g' a' w' hDy hK S' hk'
   | exit id=>exact⟨g',σ',hK,S',hk'⟩
   | goto l=>exact⟨g',σ',hK,S',hk'⟩
   | ret=>exact⟨g',σ',hK,S',hk'⟩
   | panic ch=>exact⟨g',σ',hK,S',hk'⟩
   | outgrown=>exact⟨g',σ',hK,S',hk'⟩
 | .skip,n,h0,D,a0,K,σ,g,a,w,hD,h,S,hkp=>zdY hok ann .skip none n h0 D a0 K σ g a w hD (Rnd.none h0) h S hkp
 | .region i o d,n,h0,D,a0,K,σ,g,a,w,hD,h,S,hkp=>zdY hok ann (.region i o d) none n h0 D a0 K σ g a w hD (Rnd.none h0) h S hkp
 | .cond c x y,n,h0,D,a0,K,σ,g,a,w,hD,h,S,hkp=>zdY hok ann (.cond c x y) none n h0 D a0 K σ g a w hD (Rnd.none h0) h S hkp
 | .block i x,n,h0,D,a0,K,σ,g,a,w,hD,h,S,hkp=>zdY hok ann (.block i x) none n h0 D a0 K σ g a w hD (Rnd.none h0) h S hkp
 | .loop x,n,h0,D,a0,K,σ,g,a,w,hD,h,S,hkp=>zdY hok ann (.loop x) none n h0 D a0 K σ g a w hD (Rnd.none h0) h S hkp
 | .scope x,n,h0,D,a0,K,σ,g,a,w,hD,h,S,hkp=>zdY hok ann (.scope x) none n h0 D a0 K σ g a w hD (Rnd.none h0) h S hkp
 | .exit i,n,h0,D,a0,K,σ,g,a,w,hD,h,S,hkp=>zdY hok ann (.exit i) none n h0 D a0 K σ g a w hD (Rnd.none h0) h S hkp
 | .goto i,n,h0,D,a0,K,σ,g,a,w,hD,h,S,hkp=>zdY hok ann (.goto i) none n h0 D a0 K σ g a w hD (Rnd.none h0) h S hkp
 | .label i,n,h0,D,a0,K,σ,g,a,w,hD,h,S,hkp=>zdY hok ann (.label i) none n h0 D a0 K σ g a w hD (Rnd.none h0) h S hkp
 | .ret,n,h0,D,a0,K,σ,g,a,w,hD,h,S,hkp=>zdY hok ann .ret none n h0 D a0 K σ g a w hD (Rnd.none h0) h S hkp
 | .rangeFunc f p x y,n,h0,D,a0,K,σ,g,a,w,hD,h,S,hkp=>zdY hok ann (.rangeFunc f p x y) none n h0 D a0 K σ g a w hD (Rnd.none h0) h S hkp
 | .refuse x,n,h0,D,a0,K,σ,g,a,w,hD,h,S,hkp=>zdY hok ann (.refuse x) none n h0 D a0 K σ g a w hD (Rnd.none h0) h S hkp
theorem zEi {G : Ctrs} (hok : OkAll P G) {f fi : FuncId} (hidle : ∀ caps : Array Value, caps.size = 2 → znF P { target := .fn (.func fi) caps, args := #[] }) {args : List PA} {K : List PA → Prop} {ann : Ann} (hv : zvO P G fi ann f args K) {w : World} {h0 : Fz} {vs : List Value} (hvs : RL (paR h0) args vs) (hfz : Hw h0 w) (hgl : zer h0) :
  Calls P f vs.toArray w λ e w'=>∃ (h':Fz) (rs:List PA) (v:Value),K rs/\e=.returned v/\zpU h' rs v/\Bel h0 w.heap.size w w' /\
   Fle h0 h'/\Hw h' w'/\∀ b o,h' b=some o->h0 b=some o∨w.heap.size≤b:=by
 unfold zvO at hv
 split at hv
 ·rename_i fn hfn
  split at hv
  ·rename_i c hbody
   split at hv
   ·rename_i hnt
    simp only[Bool.and_eq_true,Nat.ble_eq] at hnt
    have S:=zlV (P:=P) (Nat.eq_of_beq_eq_true hnt.1) hnt.2 hvs hfz hgl
    have hwp:=zAy (B:=w.heap.size) (w0:=w) hok hidle ann c 0 h0 (zif c) _ _ _ _ _ _ (λ _ h=>h) hv S (Kp.refl _ _)
    refine (callsIn_wide (n:=0)).1 ?_
    refine callsIn_of_wp_marks (F:=FR none) hfn hbody trivial (wpIn_mono hwp ?_)
    have h0b:∀ b,h0 b=some (.fz (.deferred (some [])))->b < w.heap.size:=λ b h=>hfz.lt h
    rintro e a' w' ⟨g',σ',hK',S',_⟩
    have fin:zKU P fn K σ'->LeavesInM (FR none) 0 P fn a'.tmps (λ e w'=>∃ (h':Fz) (rs:List PA) (v:Value),K rs/\e=.returned v/\zpU h' rs v/\Bel h0 w.heap.size w w' /\
      Fle h0 h'/\Hw h' w'/\∀ b o,h' b=some o->h0 b=some o∨w.heap.size≤b) a'.defers .returning w':=by
     intro hf
     obtain⟨Ds,h1,h2,h3,h4⟩:=S'.dfr
     refine zlU h0b Ds g' a' w' h1 h2 h3 h4 S' λ g2 a2 w2 _ S2=>?_
     unfold zKU at hf
     split at hf
     ·rename_i l hl
      obtain⟨u,v,hu,hrun,hres⟩:=zlT S2 hl
      obtain⟨h',S3,F⟩:=S2.freeze hu
      exact⟨v,hrun,h',l,v,hf,rfl,hres h' F,S3.below,S3.le0,S3.hw,S3.hn⟩
     ·exact hf.elim
    cases e with
    | normal=>exact fin hK'
    | ret=>exact fin hK'
    | exit id=>exact hK'.elim
    | goto l=>exact hK'.elim
    | panic ch=>exact hK'.elim
    | outgrown=>exact hK'.elim
   ·exact hv.elim
  ·exact hv.elim
 ·exact hv.elim
theorem zEj {T : Tabs} (hT : TabsOk P T) {f fi : FuncId} {C : List PA → COut} (hc : zaw P f) (hidle : ∀ caps : Array Value, caps.size = 2 → znF P { target := .fn (.func fi) caps, args := #[] })
    (h:∀ args K,(C args).wp K->∃ args',RL PAle args args'/\∃ memo vv ann,zvO P (csm T memo vv) fi ann f args' (Wk K)):Ok P f C:=by
  intro args K hK w h0 vs hvs hfz hgl
  obtain⟨args',hle,memo,vv,ann,hv⟩:=h args K hK
  refine⟨hc,(zEi (hT.all memo vv) hidle hv (zyA (R:=paR h0) (S:=PAle) (T:=paR h0) (λ _ _ _ e r=>zDK e r) _ _ _ hle hvs) hfz hgl).mono ?_⟩
  rintro e w' ⟨h',rs,v,⟨rs',hr,hk⟩,he,hres,rest⟩
  exact⟨h',rs',v,hk,he,zyB hr hres,rest⟩
end
end Go.Pm
namespace Go.Pm
open Go Go.Proofs
set_option maxRecDepth 100000
theorem zME:∀ caps:Array Value,caps.size=2->znF Tryd.prog { target:=.fn (.func 68) caps,args:=#[] }:=λ caps hc=>by
 match caps,hc with
 | ⟨[x,y]⟩,_ =>
 refine⟨.func 68,#[x,y],68,#[x,y],rfl,λ w=>?_,λ n w=>?_⟩
 ·have h : zaw Tryd.prog 68 := ⟨_, rfl, rfl, by kernel_rfl⟩
  show (callFunc 68 (#[] ++ #[x,y])).run Tryd.prog w=_
  exact zci h
 have key:CallsDIn { fn:=λ _=>True,depth:=none,alive:=false,round:=none } n Tryd.prog 68 #[x,y] .returning w λ e u' w'=>e=.returned (.tuple #[])/\u'=.returning/\w'=w:=by
  refine callsDIn_of_wpSIn Tryd.func68 rfl trivial λ c₀ cs hu=>?_
  apply wpSIn_seq
  apply wpSIn_region
  simp[wpOpsSIn,go_sem,recoverD,hu,Tryd.ntmps68,Exit.thenS]
  apply wpSIn_seq
  apply wpSIn_region
  simp[wpOpsSIn,go_sem,recoverD,hu,Tryd.ntmps68,Exit.thenS]
  refine wpSIn_cond (t:=false) (by simp[Act.eval,Array.replicate]) ?_
  simp only[Bool.false_eq_true,if_false]
  refine wpSIn_of_wpIn rfl (wpIn_skip ?_)
  cases c₀
  simp_all [bodyPostS,results,Tryd.results68]
 exact key.mono λ e u' w' h=>⟨⟨_,h.1⟩,h.2⟩
end Go.Pm
namespace Go.Proofs
open Go Go.Pm
set_option maxRecDepth 100000
set_option linter.unusedVariables false
attribute [local irreducible] Go.Pm.vcFun Go.Pm.vc Go.Pm.vcIter
abbrev T22:Tabs:=(((Tabs.nil.addF 67 zsg).addM 69 zMz).addF 70 zIr)
theorem zOW:TabsOk Tryd.prog T22:=(((TabsOk.nil.addF zLW).addM zQQ).addF zQS)
abbrev G22:Ctrs:=csm T22 (λ _ _=>[]) (λ l=>Nat.beq l 12)
def zIs:Ann:=⟨29,[(0,zK [1,2,3] [1,2,3]),(1,zK [1,2,3,9] [1,2,3]),(2,zK [2,3] [2,3]),(3,zK [1,2,3] [1,2,3]),(4,zK [2,3,4] [2,3,12,14]),(5,zK [2,3,4,15] [2,3,12,14]),(6,zK [2,3,4,15,16] [2,3,12,14]),(7,zK [2,3,4,5,15] [2,3,12,14]),(8,zK [2,3,4,6,15] [2,3,12,14]),(9,zK [2,3,4,6,15,23] [2,3,12,14]),(10,zK [2,3] [2,3]),(11,zK [2,3,4,15] [2,3,12,14])],
 [(6,zK [2,3,4,15] [2,3,12,14])],
 [],
 [],[]⟩
abbrev R22:=((Sl Int)×Int)
abbrev e22 (r:R22):List PA:=[.one (.sl r.1.len 1 (λ i=>enc_3 (r.1.get i))),.one (.int .i64 r.2)]
@[irreducible] def z22:=ptF Tryd.prog G22 zIs Tryd.f22
def zFQ (zbj:Int) (zbm:Int) (zbh:(Sl Tie)) (zbn:Nat) (zbo:(List Int->Option (List Int))) (zdH:Nat->List PV):St:=⟨[(2,zp 2 0),(3,zp 3 0),(4,zp 14 0),(15,zI zbj)],[(2,.box 27 [.p (.nils)]),(3,.box 28 [zi (0:Int)]),(12,.mo 3 4 (false,1,false,[none]) zbn zbo),(14,.box 105 [zi zbm,.p (.sl zbh.len 4 zdH),.mo 12])],[]⟩
abbrev zMF (K:List PA->Prop) (X:St->Prop) (P:Int->Int->(Sl Tie)->Nat->(List Int->Option (List Int))->Bool) (S:Int->Int->(Sl Tie)->Nat->(List Int->Option (List Int))->((Sl Int)×Int)):Prop:=∀ ⦃zbj:Int⦄ ⦃zbm:Int⦄ ⦃zbh:(Sl Tie)⦄ ⦃zbn:Nat⦄ ⦃zbo:(List Int->Option (List Int))⦄ ⦃zdH:Nat->List PV⦄,P zbj zbm zbh zbn zbo=true->K (e22 (S zbj zbm zbh zbn zbo))->zdH=zg zai zbh->X (zFQ zbj zbm zbh zbn zbo zdH)
section
variable {K:List PA->Prop}{n:Net}{zbj:Int}{zbm:Int}{zbh:(Sl Tie)}{zbn:Nat}{zbo:(List Int->Option (List Int))}{zdH:Nat->List PV}{X0:St->Prop}{P0:Int->Int->(Sl Tie)->Nat->(List Int->Option (List Int))->Bool}{S0:Int->Int->(Sl Tie)->Nat->(List Int->Option (List Int))->((Sl Int)×Int)}
def zAz (S0:Int->Int->(Sl Tie)->Nat->(List Int->Option (List Int))->((Sl Int)×Int)) (zbj:Int) (zbm:Int) (zbh:(Sl Tie)) (zbn:Nat) (zbo:(List Int->Option (List Int))):((Sl Int)×Int) :=
  (cond (decide (zbj < (4:Int)))
 (cond (decide ((((s69 (⟨(⟨zbm, zbh⟩ : Net), (⟨zbn, zbo⟩ : Mp)⟩ : web) zbj).1).len : Int) > (0:Int)))
 ((s70 ((s69 (⟨(⟨zbm,zbh⟩:Net),(⟨zbn,zbo⟩:Mp)⟩:web) zbj).1)),(0:Int))
 (S0 (w64 (zbj+(1:Int))) (((s69 (⟨(⟨zbm,zbh⟩:Net),(⟨zbn,zbo⟩:Mp)⟩:web) zbj).2).Net.Nodes) (((s69 (⟨(⟨zbm,zbh⟩:Net),(⟨zbn,zbo⟩:Mp)⟩:web) zbj).2).Net.Ties) ((((s69 (⟨(⟨zbm,zbh⟩:Net),(⟨zbn,zbo⟩:Mp)⟩:web) zbj).2).out).n) ((((s69 (⟨(⟨zbm,zbh⟩:Net),(⟨zbn,zbo⟩:Mp)⟩:web) zbj).2).out).F)))
 default)
def zAA (P0:Int->Int->(Sl Tie)->Nat->(List Int->Option (List Int))->Bool) (zbj:Int) (zbm:Int) (zbh:(Sl Tie)) (zbn:Nat) (zbo:(List Int->Option (List Int))):Bool :=
  (cond (decide (zbj < (4:Int)))
 (decide ((p69 (⟨(⟨zbm,zbh⟩:Net),(⟨zbn,zbo⟩:Mp)⟩:web) zbj=true)) &&
 (cond (decide ((((s69 (⟨(⟨zbm, zbh⟩ : Net), (⟨zbn, zbo⟩ : Mp)⟩ : web) zbj).1).len : Int) > (0:Int)))
 (decide ((p70 ((s69 (⟨(⟨zbm,zbh⟩:Net),(⟨zbn,zbo⟩:Mp)⟩:web) zbj).1)=true)) &&
 true)
 (P0 (w64 (zbj+(1:Int))) (((s69 (⟨(⟨zbm,zbh⟩:Net),(⟨zbn,zbo⟩:Mp)⟩:web) zbj).2).Net.Nodes) (((s69 (⟨(⟨zbm,zbh⟩:Net),(⟨zbn,zbo⟩:Mp)⟩:web) zbj).2).Net.Ties) ((((s69 (⟨(⟨zbm,zbh⟩:Net),(⟨zbn,zbo⟩:Mp)⟩:web) zbj).2).out).n) ((((s69 (⟨(⟨zbm,zbh⟩:Net),(⟨zbn,zbo⟩:Mp)⟩:web) zbj).2).out).F))))
 false)
def zAB:Nat->Int->Int->(Sl Tie)->Nat->(List Int->Option (List Int))->((Sl Int)×Int):=lpO (λ _ _ _ _ _=>default) (zAz)
def zAC:Nat->Int->Int->(Sl Tie)->Nat->(List Int->Option (List Int))->Bool:=lpO (λ _ _ _ _ _=>false) (zAA)
def zAD (zbj:Int) (zbm:Int) (zbh:(Sl Tie)) (zbn:Nat) (zbo:(List Int->Option (List Int))):((Sl Int)×Int):=zAB Fuel zbj zbm zbh zbn zbo
def zAE (zbj:Int) (zbm:Int) (zbh:(Sl Tie)) (zbn:Nat) (zbo:(List Int->Option (List Int))):Bool:=zAC Fuel zbj zbm zbh zbn zbo
theorem zIt (hs:zAE zbj zbm zbh zbn zbo=true) (hk:K (e22 (zAD zbj zbm zbh zbn zbo))) (zmf:zdH=zg zai zbh):z22 (Wk K) [1,1,1,1,0,1,0] [] (zFQ zbj zbm zbh zbn zbo zdH) :=
  zl (λ X=>z22 (Wk K) [1,1,1,1,0,1,0,0] [X]) (by kernel_rfl) λ X0 hX =>
  (show ∀ k, zMF K X0 (zAC k) (zAB k) from zdU _ _ (zAA) (zAz) (zMF K X0)
 (by intro _ _ _ _ _ _ hs;exact absurd hs Bool.false_ne_true)
 (by intro P0 S0 hX0 zbj zbm zbh zbn zbo zdH hs hk zmf;subst zmf;exact hX _ (zaR (by kernel_rfl) (zc hs hk (λ hs hk=>(zaL hs λ hc hs=>And.intro (And.intro (zE zai 4 zbh.get) (And.intro (rfl:((false,1,false,[none]):MQ)=(false,1,false,[none])) hc)) (zc hs hk (λ hs hk=>(zaL hs λ hc hs=>And.intro (And.intro (zE enc_27 1 (((s69 (⟨(⟨zbm,zbh⟩:Net),(⟨zbn,zbo⟩:Mp)⟩:web) zbj).1).get)) hc) ((zfX hk):Wk K [.one (.sl ((s70 ((s69 (⟨(⟨zbm,zbh⟩:Net),(⟨zbn,zbo⟩:Mp)⟩:web) zbj).1)).len) 1 (λ i=>enc_3 ((s70 ((s69 (⟨(⟨zbm,zbh⟩:Net),(⟨zbn,zbo⟩:Mp)⟩:web) zbj).1)).get i))),.one (.int .i64 (0:Int))]))) (λ hs hk=>(hX0 hs hk rfl))))) (λ hs hk=>(absurd hs Bool.false_ne_true:False)))))) _ hs hk zmf
def s22 (n:Net):((Sl Int)×Int) :=
  (cond (!(s67 n))
 ((⟨0,λ _=>default⟩:(Sl Int)),(2:Int))
 (zAD (0:Int) n.Nodes n.Ties 0 (λ _=>none)))
def p22 (n:Net):Bool :=
  (decide ((p67 n=true)) &&
 (cond (!(s67 n))
 true
 (zAE (0:Int) n.Nodes n.Ties 0 (λ _=>none))))
end
theorem q22 (n:Net) (K:List PA->Prop) (hs:p22 n=true) (hk:K (e22 (s22 n))):zvO Tryd.prog G22 68 zIs 22 [.agg (enc_24 n)] (Wk K) :=
  zaR (by kernel_rfl) (zaL hs λ hc hs=>And.intro (And.intro (zE zai 4 n.Ties.get) hc) (zc hs hk (λ hs hk=>((wk hk (zb8 (.one (.nil _ _)) (zb8 (.one (.rfl _)) zes))):Wk K [.one (.nils),.one (.int .i64 (2:Int))])) (λ hs hk=>(zIt hs hk rfl))))
def zIu : List PA → COut
  | [.agg [.int .i64 zal,.sl zak zaI zaj]]=>.det (IsE zai 4 zaI zaj/\p22 (⟨zal,(⟨zak,zaq zaj⟩:(Sl Tie))⟩:Net)=true) [.one (.sl (((s22 (⟨zal,(⟨zak,zaq zaj⟩:(Sl Tie))⟩:Net)).1).len) 1 (λ i=>enc_3 (((s22 (⟨zal,(⟨zak,zaq zaj⟩:(Sl Tie))⟩:Net)).1).get i))),.one (.int .i64 ((s22 (⟨zal,(⟨zak,zaq zaj⟩:(Sl Tie))⟩:Net)).2))]
  | _=>.no
theorem zMG:zaw Tryd.prog 22:=⟨_,rfl,rfl,by kernel_rfl⟩
theorem zQT:Ok Tryd.prog 22 zIu:=zEj zOW zMG zME λ args K h=>by
  unfold zIu at h
  split at h
  · rename_i zal zak zaI zaj
    obtain⟨⟨⟨rfl,zaB,rfl⟩,hs⟩,hk⟩:=h
    try rw[zat zaB] at hs
    try rw[zat zaB] at hk
    exact⟨_,zfd zfW _,(λ _ _=>[]),(λ l=>Nat.beq l 12),zIs,q22 (⟨zal,(⟨zak,zaB⟩:(Sl Tie))⟩:Net) K hs hk⟩
  · exact h.elim
abbrev T25:Tabs:=Tabs.nil
theorem zOX:TabsOk Tryd.prog T25:=TabsOk.nil
abbrev G25:Ctrs:=csm T25 (λ _ _=>[]) (λ _=>false)
def zIv:Ann:=⟨26,[(0,zK [0,1] []),(1,zK [0,1,10] []),(2,zK [4] []),(3,zK [0,1,5] []),(4,zK [0,1,5,14] []),(5,zK [0,1,5] []),(6,zK [0,1,5,25] []),(7,zK [4] []),(8,zK [4] [])],
 [(4,zK [0,1,5] [])],
 [(3,zK [0,1] [])],
 [],[]⟩
abbrev R25:=Bool
abbrev e25 (r:R25):List PA:=[.one (.bool r)]
@[irreducible] def z25:=ptF Tryd.prog G25 zIv Tryd.f25
def zFR (a:(Sl Int)) (b:(Sl Int)) (iv1:Int):St:=⟨[(0,zS enc_3 1 a),(1,zS enc_3 1 b),(5,zI iv1)],[],[]⟩
abbrev zMH (K:List PA->Prop) (a:(Sl Int)) (b:(Sl Int)) (X:St->Prop) (P:Int->Bool) (S:Int->Bool):Prop:=∀ ⦃iv1:Int⦄,P iv1=true->K (e25 (S iv1))->X (zFR a b iv1)
section
variable {K:List PA->Prop}{a:(Sl Int)}{b:(Sl Int)}{iv1:Int}{X1:St->Prop}{P1:Int->Bool}{S1:Int->Bool}
def zAF (a:(Sl Int)) (b:(Sl Int)) (S1:Int->Bool) (iv1:Int):Bool :=
  (cond (decide (iv1 < (a.len : Int)))
 (cond ((a.get iv1.toNat) != (b.get iv1.toNat))
 false
 (S1 (w64 (iv1+(1:Int)))))
 true)
def zAG (a:(Sl Int)) (b:(Sl Int)) (P1:Int->Bool) (iv1:Int):Bool :=
  (cond (decide (iv1 < (a.len : Int)))
 (decide ((0≤iv1/\iv1 < (a.len:Int))) &&
 (decide ((0≤iv1/\iv1 < (b.len:Int))) &&
 (cond ((a.get iv1.toNat) != (b.get iv1.toNat))
 true
 (P1 (w64 (iv1+(1:Int)))))))
 true)
def zAH (a:(Sl Int)) (b:(Sl Int)):Nat->Int->Bool:=lpO (λ _=>default) (zAF a b)
def zAI (a:(Sl Int)) (b:(Sl Int)):Nat->Int->Bool:=lpO (λ _=>false) (zAG a b)
def zAJ (a:(Sl Int)) (b:(Sl Int)) (iv1:Int):Bool:=zAH a b Fuel iv1
def zAK (a:(Sl Int)) (b:(Sl Int)) (iv1:Int):Bool:=zAI a b Fuel iv1
theorem zIw (hs:zAK a b iv1=true) (hk:K (e25 (zAJ a b iv1))):z25 K [1,1,0,1,0] [] (zFR a b iv1) :=
  zl (λ X=>z25 K [1,1,0,1,0,0] [X]) (by kernel_rfl) λ X1 hX =>
  (show ∀ k, zMH K a b X1 (zAI a b k) (zAH a b k) from zdU _ _ (zAG a b) (zAF a b) (zMH K a b X1)
 (by intro _ hs;exact absurd hs Bool.false_ne_true)
 (by intro P1 S1 hX1 iv1 hs hk;exact hX _ (zaR (by kernel_rfl) (zc hs hk (λ hs hk=>(zaL hs λ hc hs=>And.intro hc (zaL hs λ hc hs=>And.intro hc (zc hs hk (λ hs hk=>hk) (λ hs hk=>(hX1 hs hk)))))) (λ hs hk=>hk))))) _ hs hk
def zAL (a:(Sl Int)) (b:(Sl Int)):Bool :=
  (zAJ a b (0:Int))
def zAM (a:(Sl Int)) (b:(Sl Int)):Bool :=
  (zAK a b (0:Int))
theorem zIx (hs:zAM a b=true) (hk:K (e25 (zAL a b))):z25 K [1,1] [] ⟨[(0,zS enc_3 1 a),(1,zS enc_3 1 b)],[],[]⟩:=zaR (by kernel_rfl) (zIw hs hk)
def s25 (a:(Sl Int)) (b:(Sl Int)):Bool :=
  (cond ((a.len : Int) != (b.len : Int))
 false
 (zAL a b))
def p25 (a:(Sl Int)) (b:(Sl Int)):Bool :=
  (cond ((a.len : Int) != (b.len : Int))
 true
 (zAM a b))
end
theorem q25 (a:(Sl Int)) (b:(Sl Int)) (K:List PA->Prop) (hs:p25 a b=true) (hk:K (e25 (s25 a b))):vcFun Tryd.prog G25 zIv 25 [.one (.sl a.len 1 (λ i=>enc_3 (a.get i))),.one (.sl b.len 1 (λ i=>enc_3 (b.get i)))] K :=
  zaR (by kernel_rfl) (zc hs hk (λ hs hk=>hk) (λ hs hk=>(zIx hs hk)))
def zIy : List PA → COut
  | [.one (.sl zdl ziz zdm),.one (.sl zcz zfx zcw)]=>.det (IsE enc_3 1 ziz zdm/\IsE enc_3 1 zfx zcw/\p25 (⟨zdl,zar zdm⟩:(Sl Int)) (⟨zcz,zar zcw⟩:(Sl Int))=true) [.one (.bool (s25 (⟨zdl,zar zdm⟩:(Sl Int)) (⟨zcz,zar zcw⟩:(Sl Int))))]
  | _=>.no
theorem zMI:zaw Tryd.prog 25:=⟨_,rfl,rfl,by kernel_rfl⟩
theorem zQU:Ok Tryd.prog 25 zIy:=zbv zOX zMI λ args K h=>by
  unfold zIy at h
  split at h
  · rename_i zdl ziz zdm zcz zfx zcw
    obtain⟨⟨⟨rfl,zfz,rfl⟩,⟨rfl,zdV,rfl⟩,hs⟩,hk⟩:=h
    try rw[zaV zfz] at hs
    try rw[zaV zfz] at hk
    try rw[zaV zdV] at hs
    try rw[zaV zdV] at hk
    exact⟨(λ _ _=>[]),(λ _=>false),zIv,q25 (⟨zdl,zfz⟩:(Sl Int)) (⟨zcz,zdV⟩:(Sl Int)) K hs hk⟩
  · exact h.elim
abbrev T29:Tabs:=Tabs.nil
theorem zOY:TabsOk Tryd.prog T29:=TabsOk.nil
abbrev G29:Ctrs:=csm T29 (λ _ _=>[]) (λ _=>false)
def zMJ:Ann:=⟨13,[(0,zK [2,3,4] [2,3,4]),(1,zK [2,4] [2,4,7]),(2,zK [4] [4,7])],
 [],
 [],
 [],[]⟩
abbrev R29:=Net
abbrev e29 (r:R29):List PA:=[.agg [.int .i64 r.Nodes,.sl r.Ties.len 4 (λ i=>zai (r.Ties.get i))]]
section
variable {K:List PA->Prop}{n:Net}{t:Tie}
def s29 (n:Net) (t:Tie):Net :=
  (⟨n.Nodes,(⟨(n.Ties.len+1),(zl0 n.Ties.len n.Ties.get (λ _=>t))⟩:(Sl Tie))⟩:Net)
def p29 (n:Net) (t:Tie):Bool :=
  (decide ((n.Ties.len * 32≤140737488355328/\n.Ties.len≤9223372036854775807)) &&
 (decide (((n.Ties.len+1) * 32≤140737488355328/\n.Ties.len+1≤9223372036854775807)) &&
 true))
end
theorem q29 (n:Net) (t:Tie) (K:List PA->Prop) (hs:p29 n t=true) (hk:K (e29 (s29 n t))):vcFun Tryd.prog G29 zMJ 29 [.agg (enc_24 n),.agg (zai t)] K :=
  zaR (by kernel_rfl) (zaL hs λ hc hs=>And.intro hc (zaL hs λ hc hs=>And.intro hc (Eq.mpr (congrArg K (congrArg (λ (g_:Nat->List PV)=>([.agg [.int .i64 n.Nodes,.sl (n.Ties.len+1) 4 g_]]:List PA)) (ziw (enc:=zai) (f:=n.Ties.get) (h:=(λ _=>t)) rfl rfl))) hk)))
def zIz : List PA → COut
  | [.agg [.int .i64 zal,.sl zak zaI zaj],.agg [.int .i64 zeY,.int .i64 zmO,.int .i64 zhw,.int .i64 zeZ]]=>.det (IsE zai 4 zaI zaj/\p29 (⟨zal,(⟨zak,zaq zaj⟩:(Sl Tie))⟩:Net) (⟨zeY,zmO,zhw,zeZ⟩:Tie)=true) [.agg [.int .i64 ((s29 (⟨zal,(⟨zak,zaq zaj⟩:(Sl Tie))⟩:Net) (⟨zeY,zmO,zhw,zeZ⟩:Tie)).Nodes),.sl ((s29 (⟨zal,(⟨zak,zaq zaj⟩:(Sl Tie))⟩:Net) (⟨zeY,zmO,zhw,zeZ⟩:Tie)).Ties.len) 4 (λ i=>zai ((s29 (⟨zal,(⟨zak,zaq zaj⟩:(Sl Tie))⟩:Net) (⟨zeY,zmO,zhw,zeZ⟩:Tie)).Ties.get i))]]
  | _=>.no
theorem zMK:zaw Tryd.prog 29:=⟨_,rfl,rfl,by kernel_rfl⟩
theorem zQV:Ok Tryd.prog 29 zIz:=zbv zOY zMK λ args K h=>by
  unfold zIz at h
  split at h
  · rename_i zal zak zaI zaj zeY zmO zhw zeZ
    obtain⟨⟨⟨rfl,zaB,rfl⟩,hs⟩,hk⟩:=h
    try rw[zat zaB] at hs
    try rw[zat zaB] at hk
    exact⟨(λ _ _=>[]),(λ _=>false),zMJ,q29 (⟨zal,(⟨zak,zaB⟩:(Sl Tie))⟩:Net) (⟨zeY,zmO,zhw,zeZ⟩:Tie) K hs hk⟩
  · exact h.elim
end Go.Proofs
